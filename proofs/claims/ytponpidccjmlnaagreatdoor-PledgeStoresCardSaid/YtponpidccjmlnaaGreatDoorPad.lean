/- Pad: a part of the proof of statements of this seat. -/
import Derived.Test.YtponpidccjmlnaaGreatDoorPac
open Bool renaming and_eq_true->aS,not_eq_true'->gW,eq_iff_iff->iv,not_eq_false'->nD,true_and->rM,false_or->sX,or_eq_true->sZ,and_false->uE,and_true->LL,false_and->LM,and_eq_false_iff->azI,not_eq_true->azJ,or_assoc->azK
open Go.IntKind renaming max->fs
open Go.Op renaming bytesLess->dy
open Int renaming le_refl->bX,toNat_natCast->gu,natCast_nonneg->rL,toNat_zero->uD
open List renaming getD->ae,map_cons->cI,length_cons->dv,length_append->dN,map_nil->eo,map_append->ft,length_nil->fM,append_nil->h9,take_of_length_le->jd,append_assoc->je,nil_append->jr,getElem?_eq_getElem->kg,dropWhile_cons->pz,length_drop->q2,getD_cons_zero->rN,all_eq_true->sY,take_zero->uM,length_singleton->yn,map_take->yr,map_drop->ys,drop_zero->A5,drop_of_length_le->HA,all_cons->HB,drop_one->S4,tail_cons->S5,length_reverse->S6,filter_append->Tz,filter_cons_of_pos->ac4,filter_cons_of_neg->ac5,map_set->azE,filter_nil->aAE,all_append->aAF,all_nil->aAG
open List.cons renaming injEq->hX
open Nat renaming le_refl->br,ble->bB,blt->cf,le_of_ble_eq_true->eC,zero_le->gX,lt_or_ge->od,ble_eq->oS,blt_eq->p8,not_lt_zero->Es,lt_trichotomy->acx,ble_eq_true_of_le->acQ
open Option renaming getD_some->rP
open Option.some renaming injEq->aQ
open Prod.mk renaming injEq->cA
open UInt8 renaming ofNat->mu,toNat_inj->S2
set_option maxRecDepth 100000
set_option linter.unusedVariables false
set_option linter.unusedSimpArgs false
namespace Go.cu
open Go Go.bo
def UY (S:Nat->List (List Int)->List (List Int)->Prop) (K:List (List Int)->List (List Int)->Prop):Prop:=
 bO λz0=>xX λag=>∃(fF:List (List Int)->Prop) (iM:List (List Int)->Nat),fF [[z0]]/\(bO λz3=>fF [[z3]]->aK 0 [z3] λz4=>(aq (decide
 (0<z4)) (ab 1 [z3,0]/\av 1 [z3,0] λz5=>(aq (decide (z5=ag)) (aK 0 [z3] λz6=>ab 2 [z3,1,z6]/\bj 2 [z3,1,z6] λz7=>(fF [[z7]]/\iM
 [[z7]]<iM [[z3]])) (K [[z0],[ag]] [[z3]]))) (K [[z0],[ag]] [[z3]])))
def U0 (S:Nat->List (List Int)->List (List Int)->Prop) (K:List (List Int)->List (List Int)->Prop):Prop:=
 bO λz0=>xX λag=>∃(fF:List (List Int)->Prop) (iM:List (List Int)->Nat),fF [[z0]]/\(bO λz3=>fF [[z3]]->aK 0 [z3] λz4=>(aq (decide
 (0<z4)) (aK 0 [z3] λz5=>ab 1 [z3,(z5+(-1))]/\av 1 [z3,(z5+(-1))] λz6=>(aq (decide (z6=ag)) (aK 0 [z3] λz7=>ab 2 [z3,0,(z7+
 (-1))]/\bj 2 [z3,0,(z7+(-1))] λz8=>(fF [[z8]]/\iM [[z8]]<iM [[z3]])) (K [[z0],[ag]] [[z3]]))) (K [[z0],[ag]] [[z3]])))
def U2 (S:Nat->List (List Int)->List (List Int)->Prop) (K:List (List Int)->List (List Int)->Prop):Prop:=
 bO λz0=>cn 4 [z0,0] λag=>(aq (decide (ag=1)) (K [[z0]] [[z0]]) (bO λz2=>S 37 [[z0],[32]] [[z2]]->bO λz3=>S 36 [[z2],[32]] [[z3]]->K
 [[z0]] [[z3]]))
def UW (S:Nat->List (List Int)->List (List Int)->Prop) (K:List (List Int)->List (List Int)->Prop):Prop:=
 bO λz0=>cn 4 [z0,0] λag=>(aq (decide (ag=1)) (K [[z0]] [[z0]]) (bO λz2=>S 37 [[z0],[46]] [[z2]]->bO λz3=>S 36 [[z2],[46]] [[z3]]->K
 [[z0]] [[z3]]))
def TI (S:Nat->List (List Int)->List (List Int)->Prop) (K:List (List Int)->List (List Int)->Prop):Prop:=
 bO λz0=>cn 4 [47,z0] λag=>(aq (decide (ag=1)) (K [[z0]] [[(cond (true) 1 0)]]) (bn λz2=>S 73 [[z0],[46]] [[z2]]->K [[z0]] [[(cond (decide (0
 <=z2)) 1 0)]]))
theorem asW:UY SB (aY SB [.str] 36):=by
 intro z0 a0 a1 ag b0 b1
 refine⟨λbl=>∃z,bl=[[z]]/\fI (·==u8 ag) (U z)=fI (·==u8 ag) (U z0),λbl=>(U ((bl.getD 0 []).getD 0 0)).length,⟨z0,rfl,rfl⟩,?_⟩
 rintro z3 bC c1 ⟨z,e,hz⟩
 obtain rfl:z3=z:=by simpa using e
 intro z4 d0 d1 e9
 simp only[au]at e9
 cases hl:U z3 with
 |nil=>
  rw[hl]at e9 hz
  simp only[fM]at e9
  subst e9
  refine⟨λhp=>by simp at hp,λ_=>⟨⟨bC,c1,trivial⟩,?_⟩⟩
  show U z3=_
  try dsimp only
  rw[hl,<-hz]
  rfl
 |cons x r=>
  rw[hl]at e9 hz
  simp only[dv]at e9
  refine⟨λ_=>⟨⟨bX _,by rw[hl];simp only[dv];omega⟩,?_⟩,λhp=>by simp at hp;omega⟩
  intro z5 aZ e1 pd
  simp only[au,hl,uD,rN]at pd
  have hx:=rI (b:=x) b0 b1
  rw[<-pd]at hx
  refine⟨λhe=>?_,λhe=>⟨⟨bC,c1,trivial⟩,?_⟩⟩
  ·have o9:=hx.1 (by simpa using he)
   intro z6 f0 f1 mJ
   simp only[au,hl,dv]at mJ
   refine⟨⟨by omega,by omega,by rw[hl];simp only[dv];omega⟩,?_⟩
   intro z7 g0 g1 qG
   have hr:U z7=r:=by
    try dsimp only
    rw[qG];simp only[au,fm,hl]
    try dsimp only
    rw[show(1:Int).toNat=1 from rfl,S4,S5]
    exact jd (by omega)
   refine⟨⟨z7,rfl,?_⟩,?_⟩
   ·try dsimp only
    rw[hr,<-hz];simp only[fI,pz,o9,if_true]
   ·show(U z7).length<(U z3).length
    try dsimp only
    rw[hr,hl];simp
  ·show U z3=_
   have o9:¬(x==u8 ag)=true:=λh=>by have:=hx.2 h;simp[this]at he
   try dsimp only
   rw[hl,<-hz];simp only[fI,pz,o9,if_false];rfl
theorem Hj {l:aH} (h:l≠[]):∃r x,l=r++[x]:=⟨_,_,(List.dropLast_concat_getLast h).symm⟩
theorem asY:U0 SB (aY SB [.str] 37):=by
 intro z0 a0 a1 ag b0 b1
 refine⟨λbl=>∃z,bl=[[z]]/\gn (·==u8 ag) (U z)=gn (·==u8 ag) (U z0),λbl=>(U ((bl.getD 0 []).getD 0 0)).length,⟨z0,rfl,rfl⟩,?_⟩
 rintro z3 bC c1 ⟨z,e,hz⟩
 obtain rfl:z3=z:=by simpa using e
 intro z4 d0 d1 e9
 simp only[au]at e9
 by_cases hl:U z3=[]
 ·rw[hl]at e9 hz
  simp only[fM]at e9
  subst e9
  refine⟨λhp=>by simp at hp,λ_=>⟨⟨bC,c1,trivial⟩,?_⟩⟩
  show U z3=_
  try dsimp only
  rw[hl,<-hz]
  rfl
 ·obtain⟨r,x,hl⟩:=Hj hl
  rw[hl]at e9 hz
  simp only[dN,dv,fM]at e9
  refine⟨λ_=>?_,λhp=>by simp at hp;omega⟩
  intro z5 aZ e1 pd
  simp only[au,hl,dN,dv,fM]at pd
  refine⟨⟨by omega,by rw[hl];simp only[dN,dv,fM];omega⟩,?_⟩
  intro z6 f0 f1 mJ
  have ht:(z5+-1).toNat=r.length:=by omega
  simp only[au,hl,ht]at mJ
  have hx:=rI (b:=x) b0 b1
  rw[show((r++[x]).getD r.length 0)=x by simp[ae]]at mJ
  rw[<-mJ]at hx
  refine⟨λhe=>?_,λhe=>⟨⟨bC,c1,trivial⟩,?_⟩⟩
  ·have o9:=hx.1 (by simpa using he)
   intro z7 f0 f1 qG
   simp only[au,hl,dN,dv,fM]at qG
   have Gp:(z7+-1).toNat=r.length:=by omega
   refine⟨⟨by omega,by omega,by rw[hl];simp only[dN,dv,fM];omega⟩,?_⟩
   intro z8 g0 g1 Gz
   have hr:U z8=r:=by
    try dsimp only
    rw[Gz];simp only[au,fm,hl,Gp]
    simp
   refine⟨⟨z8,rfl,?_⟩,?_⟩
   ·try dsimp only
    rw[hr,<-hz,x6,o9,cond_true]
   ·show(U z8).length<(U z3).length
    try dsimp only
    rw[hr,hl];simp
  ·show U z3=_
   have o9:(x==u8 ag)=false:=by
    cases h:(x==u8 ag)with
    |false=>rfl
    |true=>have:=hx.2 h;simp[this]at he
   try dsimp only
   rw[hl,<-hz,x6,o9,cond_false]
theorem auk:U 0=[]:=rfl
theorem eq_nil {z ag:Int} (h:ag=au 4 [z,0]):decide (ag=1)=(U z==[]):=by
 try dsimp only
 rw[h];simp only[au,auk]
 cases hz:U z with
 |nil=>rfl
 |cons x r=>simp
theorem aaz {c:Int} {p:UInt8->Bool} (hc:p=(·==u8 c)) {id:Nat} (hid:∀z r,SB id [[z]] [[r]]=(U r=j8 p (U z))):
 (∀z0:Int,0<=z0->z0<=bM->
 ∀ag:Int,0<=ag->ag<=1->ag=au 4 [z0,0]->
 (((decide (ag=1))=true->
  aY SB [.str] id [[z0]] [[z0]]
 )/\((decide (ag=1))=false->
  ∀z2:Int,0<=z2->z2<=bM->SB 37 [[z0],[c]] [[z2]]->
  ∀z3:Int,0<=z3->z3<=bM->SB 36 [[z2],[c]] [[z3]]->
  aY SB [.str] id [[z0]] [[z3]]
 ))):=by
  intro z0 a0 a1 ag b0 b1 hz1
  try dsimp only
  rw[eq_nil hz1]
  refine⟨λh=>⟨⟨a0,a1,trivial⟩,?_⟩,λh z2 bC c1 h2 z3 d0 d1 h3=>⟨⟨d0,d1,trivial⟩,?_⟩⟩
  ·try dsimp only
   rw[hid]
   have:U z0=[]:=by simpa using h
   try dsimp only
   rw[this];rfl
  ·try dsimp only
   rw[hid]
   have h2:U z2=gn (·==u8 c) (U z0):=h2
   have h3:U z3=fI (·==u8 c) (U z2):=h3
   try dsimp only
   rw[h3,h2,hc];rfl
theorem as0:U2 SB (aY SB [.str] 120):=aaz (c:=32) (p:=(·==32)) rfl λ_ _=>rfl
theorem asU:UW SB (aY SB [.str] 121):=aaz (c:=46) (p:=(·==46)) rfl λ_ _=>rfl
theorem arG:TI SB (aY SB [.bool] 127):=by
 intro z0 a0 a1 ag b0 b1 hz1
 simp only[au]at hz1
 refine⟨λh=>⟨⟨by decide,by decide,trivial⟩,?_⟩,λh z2 bC c1 h2=>⟨⟨(pE _).1,(pE _).2,trivial⟩,?_⟩⟩
 ·have:U z0=[46]:=by
   have e:U 47=[46]:=by decide
   rw[e]at hz1
   by_cases h':[46]=U z0
   ·exact h'.symm
   ·rw[if_neg h']at hz1;subst hz1;simp at h
  show(1:Int)=aL ((U z0).contains 46)
  try dsimp only
  rw[this];rfl
 ·have h2:z2=idx 46 (U z0):=h2
  show(cond (decide (0<=z2)) 1 0:Int)=aL ((U z0).contains 46)
  try dsimp only
  rw[h2,JX (by decide) (by decide)];rfl
def TN (S:Nat->List (List Int)->List (List Int)->Prop) (K:List (List Int)->List (List Int)->Prop):Prop:=
 bO λz0=>cn 4 [65,z0] λag=>(aq (decide (ag=1)) (ab 2 [z0,0,0]/\bj 2 [z0,0,0] λz2=>aK 0 [z0] λz3=>ab 2 [z0,1,z3]/\bj 2 [z0,1,z3]
 λz4=>K [[z0]] [[z2],[z4],[(cond (true) 1 0)]]) (bn λz2=>S 73 [[z0],[64]] [[z2]]->(aq (decide (0<=z2)) (ab 2 [z0,0,z2]/\bj 2 [z0,0,z2] λz3=>
 bt (z2+9223372036854775809) 18446744073709551616 λz4=>aK 0 [z0] λz5=>ab 2 [z0,((z2+((-18446744073709551616)*z4))+1),z5]/\bj 2 [z0,((z2+
 ((-18446744073709551616)*z4))+1),z5] λz6=>K [[z0]] [[z3],[z6],[(cond (true) 1 0)]]) (K [[z0]] [[z0],[0],[(cond (false) 1 0)]]))))
def TO (S:Nat->List (List Int)->List (List Int)->Prop) (K:List (List Int)->List (List Int)->Prop):Prop:=
 bO λz0=>cn 4 [59,z0] λag=>(aq (decide (ag=1)) (ab 2 [z0,0,0]/\bj 2 [z0,0,0] λz2=>aK 0 [z0] λz3=>ab 2 [z0,1,z3]/\bj 2 [z0,1,z3]
 λz4=>K [[z0]] [[z2],[z4],[(cond (true) 1 0)]]) (bn λz2=>S 73 [[z0],[58]] [[z2]]->(aq (decide (0<=z2)) (ab 2 [z0,0,z2]/\bj 2 [z0,0,z2] λz3=>
 bt (z2+9223372036854775809) 18446744073709551616 λz4=>aK 0 [z0] λz5=>ab 2 [z0,((z2+((-18446744073709551616)*z4))+1),z5]/\bj 2 [z0,((z2+
 ((-18446744073709551616)*z4))+1),z5] λz6=>K [[z0]] [[z3],[z6],[(cond (true) 1 0)]]) (K [[z0]] [[z0],[0],[(cond (false) 1 0)]]))))
def T9 (S:Nat->List (List Int)->List (List Int)->Prop) (K:List (List Int)->List (List Int)->Prop):Prop:=
 bO λz0=>bO λag=>aK 0 [z0] λz2=>∃(e5:List (List Int)->Prop) (dB:List (List Int)->Nat),e5 [[0]]/\(dH λz4=>e5 [[z4]]->(aq (decide
 (z4<z2)) (ab 1 [z0,z4]/\av 1 [z0,z4] λz5=>bn λz6=>S 73 [[ag],[z5]] [[z6]]->(aq (decide (z6<0)) (K [[z0],[ag]] [[(cond (false) 1 0)]]) (bt
 (z4+9223372036854775809) 18446744073709551616 λz7=>ab 39 [((z4+((-18446744073709551616)*z7))+1),0,9223372036854775807]/\(e5 [[((z4+
 ((-18446744073709551616)*z7))+1)]]/\dB [[((z4+((-18446744073709551616)*z7))+1)]]<dB [[z4]])))) (K [[z0],[ag]] [[(cond (true) 1 0)]])))
def T3 (S:Nat->List (List Int)->List (List Int)->Prop) (K:List (List Int)->List (List Int)->Prop):Prop:=
 bO λz0=>bO λag=>aK 0 [z0] λz2=>∃(e5:List (List Int)->Prop) (dB:List (List Int)->Nat),e5 [[0]]/\(dH λz4=>e5 [[z4]]->(aq (decide
 (z4<z2)) (ab 1 [z0,z4]/\av 1 [z0,z4] λz5=>bn λz6=>S 73 [[ag],[z5]] [[z6]]->(aq (decide (z6<0)) (K [[z0],[ag]] [[(cond (false) 1 0)]]) (bt
 (z4+9223372036854775809) 18446744073709551616 λz7=>ab 39 [((z4+((-18446744073709551616)*z7))+1),0,9223372036854775807]/\(e5 [[((z4+
 ((-18446744073709551616)*z7))+1)]]/\dB [[((z4+((-18446744073709551616)*z7))+1)]]<dB [[z4]])))) (K [[z0],[ag]] [[(cond (true) 1 0)]])))
def UA (S:Nat->List (List Int)->List (List Int)->Prop) (K:List (List Int)->List (List Int)->Prop):Prop:=
 bO λz0=>xX λag=>∃(fF:List (List Int)->Prop) (iM:List (List Int)->Nat),fF [[0]]/\(dH λz3=>fF [[z3]]->aK 0 [z0] λz4=>(aq (decide
 (z3<z4)) (ab 1 [z0,z3]/\av 1 [z0,z3] λz5=>(aq (decide (z5=ag)) (K [[z0],[ag]] [[(cond (true) 1 0)]]) (bt (z3+9223372036854775809)
 18446744073709551616 λz6=>ab 39 [((z3+((-18446744073709551616)*z6))+1),0,9223372036854775807]/\(fF [[((z3+((-18446744073709551616)*z6))+1)]]
 /\iM [[((z3+((-18446744073709551616)*z6))+1)]]<iM [[z3]])))) (K [[z0],[ag]] [[(cond (false) 1 0)]])))
theorem aav {c n:Int} (h0:0<=c) (h1:c<=255) (hn:U n=[u8 c]) {id:Nat} (hid:∀z a b r,SB id [[z]] [[a],[b],[r]]=((U a,U b,r)=oz c (U z))):
 (∀z0:Int,0<=z0->z0<=bM->
 ∀ag:Int,0<=ag->ag<=1->ag=au 4 [n,z0]->
 (((decide (ag=1))=true->
  ab 2 [z0,0,0]/\
  ∀z2:Int,0<=z2->z2<=bM->z2=au 2 [z0,0,0]->
  ∀z3:Int,0<=z3->z3<=9223372036854775807->z3=au 0 [z0]->
  ab 2 [z0,1,z3]/\
  ∀z4:Int,0<=z4->z4<=bM->z4=au 2 [z0,1,z3]->
  aY SB [.str,.str,.bool] id [[z0]] [[z2],[z4],[(cond (true) 1 0)]]
 )/\((decide (ag=1))=false->
  ∀z2:Int,(-1)<=z2->z2<=9223372036854775807->SB 73 [[z0],[c]] [[z2]]->
  (((decide (0<=z2))=true->
   ab 2 [z0,0,z2]/\
   ∀z3:Int,0<=z3->z3<=bM->z3=au 2 [z0,0,z2]->
   ∀z4:Int,0<=z4->z4<=1->0<=(z2+9223372036854775809)-18446744073709551616*z4->(z2+9223372036854775809)-18446744073709551616*z4<18446744073709551616->
   ∀z5:Int,0<=z5->z5<=9223372036854775807->z5=au 0 [z0]->
   ab 2 [z0,((z2+((-18446744073709551616)*z4))+1),z5]/\
   ∀z6:Int,0<=z6->z6<=bM->z6=au 2 [z0,((z2+((-18446744073709551616)*z4))+1),z5]->
   aY SB [.str,.str,.bool] id [[z0]] [[z3],[z6],[(cond (true) 1 0)]]
  )/\((decide (0<=z2))=false->
   aY SB [.str,.str,.bool] id [[z0]] [[z0],[0],[(cond (false) 1 0)]]
  ))
 ))):=by
  intro z0 a0 a1 ag b0 b1 hz1
  simp only[au,hn]at hz1
  refine⟨λh=>?_,λh z2 bC c1 h2=>?_⟩
  ·have hs:U z0=[u8 c]:=by
    by_cases h':[u8 c]=U z0
    ·exact h'.symm
    ·rw[if_neg h']at hz1;subst hz1;simp at h
   refine⟨⟨by omega,by omega,by omega⟩,λz2 bC c1 h2 z3 d0 d1 h3=>?_⟩
   simp only[au,hs,yn]at h3
   refine⟨⟨by omega,by omega,by rw[hs];simp only[yn];omega⟩,λz4 aZ e1 h4=>⟨⟨bC,c1,aZ,e1,by decide,by decide,trivial⟩,?_⟩⟩
   try dsimp only
   rw[hid]
   have e2:U z2=[]:=by rw[h2];simp[au,fm]
   have fi:U z4=[]:=by rw[h4];simp[au,fm,hs]
   have agt:idx c [u8 c]=0:=by simp[idx,Lm h0 h1]
   try dsimp only
   rw[e2,fi,hs]
   simp[oz,agt]
  ·have h2:z2=idx c (U z0):=h2
   refine⟨λhp=>?_,λhp=>⟨⟨a0,a1,bX _,fv,by decide,by decide,trivial⟩,?_⟩⟩
   ·have hp:0<=z2:=by simpa using hp
    have hr:=zP c (U z0)
    have cF:=tS a1
    refine⟨⟨by omega,by omega,by omega⟩,λz3 d0 d1 h3 z4 aZ e1 e2 bN z5 f0 f1 h5=>?_⟩
    simp only[au]at h5
    have I3:z2+-18446744073709551616*z4+1=z2+1:=by omega
    try dsimp only
    rw[I3]
    refine⟨⟨by omega,by omega,by omega⟩,λz6 g0 g1 h6=>⟨⟨d0,d1,g0,g1,by decide,by decide,trivial⟩,?_⟩⟩
    try dsimp only
    rw[hid]
    have bN:U z3=(U z0).take z2.toNat:=by rw[h3];simp[au,fm]
    have jh:U z6=(U z0).drop (z2.toNat+1):=by
     try dsimp only
     rw[h6];simp only[au,fm]
     try dsimp only
     rw[show(z2+1).toNat=z2.toNat+1 by omega]
     exact jd (by simp;omega)
    try dsimp only
    rw[bN,jh]
    unfold oz
    try dsimp only
    rw[<-h2,show decide (0<=z2)=true by simpa using hp]
    rfl
   ·try dsimp only
    rw[hid]
    unfold oz
    try dsimp only
    rw[<-h2,hp]
    rfl
theorem arL:TN SB (aY SB [.str,.str,.bool] 125):=aav (c:=64) (n:=65) (by decide) (by decide) (by decide) λ_ _ _ _=>rfl
theorem arM:TO SB (aY SB [.str,.str,.bool] 126):=aav (c:=58) (n:=59) (by decide) (by decide) (by decide) λ_ _ _ _=>rfl
theorem Iq (p:UInt8->Bool) (l:aH) (i:Nat) (h:i<l.length):(l.take (i+1)).all p=((l.take i).all p&&p (l.getD i 0)):=by
 try dsimp only
 rw[DK l i h];simp
theorem MJ (p:UInt8->Bool) (l:aH) (i:Nat) (h:i<l.length) (hp:p (l.getD i 0)=false):l.all p=false:=by
 try dsimp only
 rw[List.all_eq_false]
 refine⟨l.getD i 0,?_,λe=>by rw[hp]at e;cases e⟩
 simp[ae,h]
theorem nx {z q L:Int} (h:z<L) (cF:L<=9223372036854775807) (h0:0<=z) (fJ:0<=q) (e2:0<=(z+9223372036854775809)-18446744073709551616*q):z+-18446744073709551616*q+1=z+1:=by omega
theorem aax {id:Nat} (hid:∀s b r,SB id [[s],[b]] [[r]]=(r=aL ((U s).all λc=>(U b).contains c))):
 (∀z0:Int,0<=z0->z0<=bM->∀ag:Int,0<=ag->ag<=bM->
 ∀z2:Int,0<=z2->z2<=9223372036854775807->z2=au 0 [z0]->
 ∃(e5:List (List Int)->Prop) (dB:List (List Int)->Nat),e5 [[0]]/\(∀z4:Int,0<=z4->z4<=9223372036854775807->e5 [[z4]]->
  (((decide (z4<z2))=true->
   ab 1 [z0,z4]/\
   ∀z5:Int,0<=z5->z5<=255->z5=au 1 [z0,z4]->
   ∀z6:Int,(-1)<=z6->z6<=9223372036854775807->SB 73 [[ag],[z5]] [[z6]]->
   (((decide (z6<0))=true->
    aY SB [.bool] id [[z0],[ag]] [[(cond (false) 1 0)]]
   )/\((decide (z6<0))=false->
    ∀z7:Int,0<=z7->z7<=1->0<=(z4+9223372036854775809)-18446744073709551616*z7->(z4+9223372036854775809)-18446744073709551616*z7<18446744073709551616->
    ab 39 [((z4+((-18446744073709551616)*z7))+1),0,9223372036854775807]/\
    (e5 [[((z4+((-18446744073709551616)*z7))+1)]]/\dB [[((z4+((-18446744073709551616)*z7))+1)]]<dB [[z4]])
   ))
  )/\((decide (z4<z2))=false->
   aY SB [.bool] id [[z0],[ag]] [[(cond (true) 1 0)]]
  ))
 )):=by
  intro z0 a0 a1 ag b0 b1 z2 bC c1 h2
  simp only[au]at h2
  refine⟨λbl=>∃i:Nat,bl=[[(i:Int)]]/\i<=(U z0).length/\((U z0).take i).all (λc=>(U ag).contains c)=true,λbl=>(U z0).length-((bl.getD 0 []).getD 0 0).toNat,⟨0,rfl,gX _,rfl⟩,?_⟩
  rintro z4 d0 d1 ⟨i,e,hi,hall⟩
  obtain rfl:z4=i:=by simpa using e
  refine⟨λhp=>?_,λhp=>⟨⟨by decide,by decide,trivial⟩,?_⟩⟩
  ·have hp:(i:Int)<z2:=by simpa using hp
   refine⟨⟨d0,by omega⟩,λz5 aZ e1 h5 z6 f0 f1 h6=>?_⟩
   have h6:z6=idx z5 (U ag):=h6
   simp only[au,gu]at h5
   have hu:u8 z5=(U z0).getD i 0:=by rw[h5,we]
   have hm:=JX aZ e1 (U ag)
   rw[hu,<-h6]at hm
   refine⟨λhq=>⟨⟨by decide,by decide,trivial⟩,?_⟩,λhq z7 g0 g1 g2 g3=>?_⟩
   ·try dsimp only
    rw[hid,MJ _ _ i (by omega) (by rw[<-hm];simpa using hq)];rfl
   ·have hq:0<=z6:=by simpa using hq
    try dsimp only
    rw[nx (L:=z2) hp c1 d0 g0 g2]
    refine⟨⟨by omega,by omega⟩,⟨i+1,by simp,by omega,?_⟩,?_⟩
    ·try dsimp only
     rw[Iq _ _ _ (by omega),hall,<-hm];simpa using hq
    ·show(U z0).length-((i:Int)+1).toNat<(U z0).length-(i:Int).toNat
     omega
  ·have hp:¬(i:Int)<z2:=by simpa using hp
   rw[jd (by omega)]at hall
   try dsimp only
   rw[hid,hall];rfl
theorem ar7:T9 SB (aY SB [.bool] 44):=aax λ_ _ _=>rfl
theorem ar1:T3 SB (aY SB [.bool] 65):=aax λ_ _ _=>rfl
theorem Nl (l:aH) (c:UInt8) (i:Nat) (h:i<l.length):(l.take (i+1)).contains c=((l.take i).contains c||l.getD i 0==c):=by
 try dsimp only
 rw[DK l i h,iv];simp;exact or_congr Iff.rfl ⟨λh=>h.symm,λh=>h.symm⟩
theorem asz:UA SB (aY SB [.bool] 31):=by
 intro z0 a0 a1 ag b0 b1
 refine⟨λbl=>∃i:Nat,bl=[[(i:Int)]]/\i<=(U z0).length/\((U z0).take i).contains (u8 ag)=false,λbl=>(U z0).length-((bl.getD 0 []).getD 0 0).toNat,⟨0,rfl,gX _,rfl⟩,?_⟩
 rintro z4 d0 d1 ⟨i,e,hi,hall⟩
 obtain rfl:z4=i:=by simpa using e
 intro z2 bC c1 h2
 simp only[au]at h2
 refine⟨λhp=>?_,λhp=>⟨⟨by decide,by decide,trivial⟩,?_⟩⟩
 ·have hp:(i:Int)<z2:=by simpa using hp
  refine⟨⟨d0,by omega⟩,λz5 aZ e1 h5=>?_⟩
  simp only[au,gu]at h5
  have hu:=rI (b:=(U z0).getD i 0) b0 b1
  rw[<-h5]at hu
  refine⟨λhq=>⟨⟨by decide,by decide,trivial⟩,?_⟩,λhq z7 g0 g1 g2 g3=>?_⟩
  ·have:=hu.1 (by simpa using hq)
   show(1:Int)=aL ((U z0).contains (u8 ag))
   have hm:(U z0).contains (u8 ag)=true:=by
    try dsimp only
    rw[<-beq_iff_eq.1 this];simp[ae,show i<(U z0).length by omega]
   try dsimp only
   rw[hm];rfl
  ·try dsimp only
   rw[nx (L:=z2) hp c1 d0 g0 g2]
   refine⟨⟨by omega,by omega⟩,⟨i+1,by simp,by omega,?_⟩,?_⟩
   ·try dsimp only
    rw[Nl _ _ _ (by omega),hall,sX]
    cases h:((U z0).getD i 0==u8 ag)with
    |false=>rfl
    |true=>have:=hu.2 h;simp[this]at hq
   ·show(U z0).length-((i:Int)+1).toNat<(U z0).length-(i:Int).toNat
    omega
 ·have hp:¬(i:Int)<z2:=by simpa using hp
  rw[jd (by omega)]at hall
  show(0:Int)=aL ((U z0).contains (u8 ag))
  try dsimp only
  rw[hall];rfl
def UU (S:Nat->List (List Int)->List (List Int)->Prop) (K:List (List Int)->List (List Int)->Prop):Prop:=
 bO λz0=>cn 4 [z0,0] λag=>(aq (decide (ag=1)) (K [[z0]] [[z0]]) (∃(fF:List (List Int)->Prop) (iM:List (List Int)->Nat),fF [[z0]]/\(bO λ
 z3=>fF [[z3]]->aK 0 [z3] λz4=>(aq (decide (0<z4)) (aK 0 [z3] λz5=>ab 1 [z3,(z5+(-1))]/\av 1 [z3,(z5+(-1))] λz6=>cn 43 [12125,z6]
 λz7=>(aq ((!(decide (z7=1)))) (∃(e6:List (List Int)->Prop) (gI:List (List Int)->Nat),e6 [[z3]]/\(bO λz9=>e6 [[z9]]->aK 0 [z9] λaj
 =>(aq (decide (0<aj)) (ab 1 [z9,0]/\av 1 [z9,0] λak=>cn 43 [12125,ak] λz12=>(aq ((!(decide (z12=1)))) (K [[z0]] [[z9]]) (aK 0 [z9] λ
 ad=>ab 2 [z9,1,ad]/\bj 2 [z9,1,ad] λao=>(e6 [[ao]]/\gI [[ao]]<gI [[z9]])))) (K [[z0]] [[z9]])))) (aK 0 [z3] λz8=>ab 2 [z3,0,(z8+
 (-1))]/\bj 2 [z3,0,(z8+(-1))] λz9=>(fF [[z9]]/\iM [[z9]]<iM [[z3]])))) (∃(dz:List (List Int)->Prop) (dg:List (List Int)->Nat),dz [[z3]]/\
 (bO λz6=>dz [[z6]]->aK 0 [z6] λz7=>(aq (decide (0<z7)) (ab 1 [z6,0]/\av 1 [z6,0] λz8=>cn 43 [12125,z8] λz9=>(aq ((!(decide (z9=
 1)))) (K [[z0]] [[z6]]) (aK 0 [z6] λaj=>ab 2 [z6,1,aj]/\bj 2 [z6,1,aj] λak=>(dz [[ak]]/\dg [[ak]]<dg [[z6]])))) (K [[z0]]
 [[z6]]))))))))
def UX (S:Nat->List (List Int)->List (List Int)->Prop) (K:List (List Int)->List (List Int)->Prop):Prop:=
 bO λz0=>cn 4 [z0,0] λag=>(aq (decide (ag=1)) (K [[z0]] [[z0]]) (∃(fF:List (List Int)->Prop) (iM:List (List Int)->Nat),fF [[z0]]/\(bO λ
 z3=>fF [[z3]]->aK 0 [z3] λz4=>(aq (decide (0<z4)) (aK 0 [z3] λz5=>ab 1 [z3,(z5+(-1))]/\av 1 [z3,(z5+(-1))] λz6=>cn 43
 [8267443711659794979134808499087199072256874527605039863196959864303977456569186565734100443375465041388132907546406408792979960403300126342849461211344038,z6]
 λz7=>(aq ((!(decide (z7=1)))) (∃(e6:List (List Int)->Prop) (gI:List (List Int)->Nat),e6 [[z3]]/\(bO λz9=>e6 [[z9]]->aK 0 [z9] λaj
 =>(aq (decide (0<aj)) (ab 1 [z9,0]/\av 1 [z9,0] λak=>cn 43
 [8267443711659794979134808499087199072256874527605039863196959864303977456569186565734100443375465041388132907546406408792979960403300126342849461211344038,ak]
 λz12=>(aq ((!(decide (z12=1)))) (K [[z0]] [[z9]]) (aK 0 [z9] λad=>ab 2 [z9,1,ad]/\bj 2 [z9,1,ad] λao=>(e6 [[ao]]/\gI [[ao]]<gI
 [[z9]])))) (K [[z0]] [[z9]])))) (aK 0 [z3] λz8=>ab 2 [z3,0,(z8+(-1))]/\bj 2 [z3,0,(z8+(-1))] λz9=>(fF [[z9]]/\iM [[z9]]<iM [[z3]])))) (∃
 (dz:List (List Int)->Prop) (dg:List (List Int)->Nat),dz [[z3]]/\(bO λz6=>dz [[z6]]->aK 0 [z6] λz7=>(aq (decide (0<z7)) (ab 1 [z6,0]/\
 av 1 [z6,0] λz8=>cn 43
 [8267443711659794979134808499087199072256874527605039863196959864303977456569186565734100443375465041388132907546406408792979960403300126342849461211344038,z8]
 λz9=>(aq ((!(decide (z9=1)))) (K [[z0]] [[z6]]) (aK 0 [z6] λaj=>ab 2 [z6,1,aj]/\bj 2 [z6,1,aj] λak=>(dz [[ak]]/\dg [[ak]]<dg
 [[z6]])))) (K [[z0]] [[z6]]))))))))
def UT (S:Nat->List (List Int)->List (List Int)->Prop) (K:List (List Int)->List (List Int)->Prop):Prop:=
 bO λz0=>cn 4 [z0,0] λag=>(aq (decide (ag=1)) (K [[z0]] [[z0]]) (∃(fF:List (List Int)->Prop) (iM:List (List Int)->Nat),fF [[z0]]/\(bO λ
 z3=>fF [[z3]]->aK 0 [z3] λz4=>(aq (decide (0<z4)) (aK 0 [z3] λz5=>ab 1 [z3,(z5+(-1))]/\av 1 [z3,(z5+(-1))] λz6=>cn 43
 [284767230291263911083031,z6] λz7=>(aq ((!(decide (z7=1)))) (∃(e6:List (List Int)->Prop) (gI:List (List Int)->Nat),e6 [[z3]]/\(bO λz9=>e6
 [[z9]]->aK 0 [z9] λaj=>(aq (decide (0<aj)) (ab 1 [z9,0]/\av 1 [z9,0] λak=>cn 43 [284767230291263911083031,ak] λz12=>(aq ((!(decide
 (z12=1)))) (K [[z0]] [[z9]]) (aK 0 [z9] λad=>ab 2 [z9,1,ad]/\bj 2 [z9,1,ad] λao=>(e6 [[ao]]/\gI [[ao]]<gI [[z9]])))) (K [[z0]]
 [[z9]])))) (aK 0 [z3] λz8=>ab 2 [z3,0,(z8+(-1))]/\bj 2 [z3,0,(z8+(-1))] λz9=>(fF [[z9]]/\iM [[z9]]<iM [[z3]])))) (∃(dz:List (List Int)
 ->Prop) (dg:List (List Int)->Nat),dz [[z3]]/\(bO λz6=>dz [[z6]]->aK 0 [z6] λz7=>(aq (decide (0<z7)) (ab 1 [z6,0]/\av 1 [z6,0] λz8
 =>cn 43 [284767230291263911083031,z8] λz9=>(aq ((!(decide (z9=1)))) (K [[z0]] [[z6]]) (aK 0 [z6] λaj=>ab 2 [z6,1,aj]/\bj 2 [z6,1,aj] λ
 ak=>(dz [[ak]]/\dg [[ak]]<dg [[z6]])))) (K [[z0]] [[z6]]))))))))
theorem W4 {n z q:Int} {p:UInt8->Bool} (hn:∀c,(U n).contains c=p c) (h:q=au 43 [n,z]):decide (q=1)=p (u8 z):=by
 try dsimp only
 rw[h];simp only[au]
 have:=hn (u8 z)
 unfold u8 at this⊢
 try dsimp only
 rw[<-this]
 by_cases hm:mu z.toNat∈U n
 ·simp[hm]
 ·simp[hm]
theorem GS {n:Int} {p:UInt8->Bool} (hn:∀c,(U n).contains c=p c) {id:Nat} (hid:∀z r,SB id [[z]] [[r]]=(U r=j8 p (U z))):
 (∀z0:Int,0<=z0->z0<=bM->
 ∀ag:Int,0<=ag->ag<=1->ag=au 4 [z0,0]->
 (((decide (ag=1))=true->
   aY SB [.str] id [[z0]] [[z0]]
 )/\((decide (ag=1))=false->
  ∃(fF:List (List Int)->Prop) (iM:List (List Int)->Nat),fF [[z0]]/\(∀z3:Int,0<=z3->z3<=bM->fF [[z3]]->
   ∀z4:Int,0<=z4->z4<=9223372036854775807->z4=au 0 [z3]->
   (((decide (0<z4))=true->
    ∀z5:Int,0<=z5->z5<=9223372036854775807->z5=au 0 [z3]->
    ab 1 [z3,(z5+(-1))]/\
    ∀z6:Int,0<=z6->z6<=255->z6=au 1 [z3,(z5+(-1))]->
    ∀z7:Int,0<=z7->z7<=1->z7=au 43 [n,z6]->
    ((((!(decide (z7=1))))=true->
     ∃(e6:List (List Int)->Prop) (gI:List (List Int)->Nat),e6 [[z3]]/\(∀z9:Int,0<=z9->z9<=bM->e6 [[z9]]->
      ∀aj:Int,0<=aj->aj<=9223372036854775807->aj=au 0 [z9]->
      (((decide (0<aj))=true->
       ab 1 [z9,0]/\
       ∀ak:Int,0<=ak->ak<=255->ak=au 1 [z9,0]->
       ∀z12:Int,0<=z12->z12<=1->z12=au 43 [n,ak]->
       ((((!(decide (z12=1))))=true->
         aY SB [.str] id [[z0]] [[z9]]
       )/\(((!(decide (z12=1))))=false->
        ∀ad:Int,0<=ad->ad<=9223372036854775807->ad=au 0 [z9]->
        ab 2 [z9,1,ad]/\
        ∀ao:Int,0<=ao->ao<=bM->ao=au 2 [z9,1,ad]->
        (e6 [[ao]]/\gI [[ao]]<gI [[z9]])
       ))
      )/\((decide (0<aj))=false->
       aY SB [.str] id [[z0]] [[z9]]
      ))
     )
    )/\(((!(decide (z7=1))))=false->
     ∀z8:Int,0<=z8->z8<=9223372036854775807->z8=au 0 [z3]->
     ab 2 [z3,0,(z8+(-1))]/\
     ∀z9:Int,0<=z9->z9<=bM->z9=au 2 [z3,0,(z8+(-1))]->
     (fF [[z9]]/\iM [[z9]]<iM [[z3]])
    ))
   )/\((decide (0<z4))=false->
    ∃(dz:List (List Int)->Prop) (dg:List (List Int)->Nat),dz [[z3]]/\(∀z6:Int,0<=z6->z6<=bM->dz [[z6]]->
     ∀z7:Int,0<=z7->z7<=9223372036854775807->z7=au 0 [z6]->
     (((decide (0<z7))=true->
      ab 1 [z6,0]/\
      ∀z8:Int,0<=z8->z8<=255->z8=au 1 [z6,0]->
      ∀z9:Int,0<=z9->z9<=1->z9=au 43 [n,z8]->
      ((((!(decide (z9=1))))=true->
        aY SB [.str] id [[z0]] [[z6]]
      )/\(((!(decide (z9=1))))=false->
       ∀aj:Int,0<=aj->aj<=9223372036854775807->aj=au 0 [z6]->
       ab 2 [z6,1,aj]/\
       ∀ak:Int,0<=ak->ak<=bM->ak=au 2 [z6,1,aj]->
       (dz [[ak]]/\dg [[ak]]<dg [[z6]])
      ))
     )/\((decide (0<z7))=false->
      aY SB [.str] id [[z0]] [[z6]]
     ))
    )
   ))
  )
 ))):=by
  intro z0 a0 a1 ag b0 b1 hz1
  try dsimp only
  rw[eq_nil hz1]
  have inner:∀z3:Int,0<=z3->z3<=bM->U z3=gn p (U z0)->∃(e6:List (List Int)->Prop) (gI:List (List Int)->Nat),e6 [[z3]]/\(∀z9:Int,0<=z9->z9<=bM->e6 [[z9]]->
   ∀aj:Int,0<=aj->aj<=9223372036854775807->aj=au 0 [z9]->
   (((decide (0<aj))=true->
    ab 1 [z9,0]/\
    ∀ak:Int,0<=ak->ak<=255->ak=au 1 [z9,0]->
    ∀z12:Int,0<=z12->z12<=1->z12=au 43 [n,ak]->
    ((((!(decide (z12=1))))=true->
     aY SB [.str] id [[z0]] [[z9]]
    )/\(((!(decide (z12=1))))=false->
     ∀ad:Int,0<=ad->ad<=9223372036854775807->ad=au 0 [z9]->
     ab 2 [z9,1,ad]/\
     ∀ao:Int,0<=ao->ao<=bM->ao=au 2 [z9,1,ad]->
     (e6 [[ao]]/\gI [[ao]]<gI [[z9]])
    ))
   )/\((decide (0<aj))=false->
    aY SB [.str] id [[z0]] [[z9]]
   ))):=by
   intro z3 a0 a1 h3
   refine⟨λbl=>∃z,bl=[[z]]/\fI p (U z)=fI p (gn p (U z0)),λbl=>(U ((bl.getD 0 []).getD 0 0)).length,⟨z3,rfl,by rw[h3]⟩,?_⟩
   rintro z9 bC c1 ⟨z,e,hz⟩
   obtain rfl:z9=z:=by simpa using e
   intro z4 d0 d1 e9
   simp only[au]at e9
   cases hl:U z9 with
   |nil=>
    rw[hl]at e9 hz
    simp only[fM]at e9
    subst e9
    refine⟨λhp=>by simp at hp,λ_=>⟨⟨bC,c1,trivial⟩,?_⟩⟩
    try dsimp only
    rw[hid,hl];exact hz
   |cons x r=>
    rw[hl]at e9 hz
    simp only[dv]at e9
    refine⟨λ_=>⟨⟨bX _,by rw[hl];simp only[dv];omega⟩,?_⟩,λhp=>by simp at hp;omega⟩
    intro z5 aZ e1 pd
    simp only[au,hl,uD,rN]at pd
    intro z6 f0 f1 mJ
    try dsimp only
    rw[W4 hn mJ,pd,we]
    refine⟨λhe=>⟨⟨bC,c1,trivial⟩,?_⟩,λhe=>?_⟩
    ·try dsimp only
     rw[hid,hl]
     have he:p x=false:=by simpa using he
     show x::r=fI p (gn p (U z0))
     try dsimp only
     rw[<-hz]
     simp[fI,pz,he]
    ·have he:p x=true:=by simpa using he
     intro ad f0 f1 mJ
     simp only[au,hl,dv]at mJ
     refine⟨⟨by omega,by omega,by rw[hl];simp only[dv];omega⟩,?_⟩
     intro z7 g0 g1 qG
     have hr:U z7=r:=by
      try dsimp only
      rw[qG];simp only[au,fm,hl]
      try dsimp only
      rw[show(1:Int).toNat=1 from rfl,S4,S5]
      exact jd (by omega)
     refine⟨⟨z7,rfl,?_⟩,?_⟩
     ·try dsimp only
      rw[hr,<-hz];simp only[fI,pz,he,if_true]
     ·show(U z7).length<(U z9).length
      try dsimp only
      rw[hr,hl];simp
  refine⟨λh=>⟨⟨a0,a1,trivial⟩,?_⟩,λh=>?_⟩
  ·try dsimp only
   rw[hid]
   have:U z0=[]:=by simpa using h
   try dsimp only
   rw[this];rfl
  ·refine⟨λbl=>∃z,bl=[[z]]/\gn p (U z)=gn p (U z0),λbl=>(U ((bl.getD 0 []).getD 0 0)).length,⟨z0,rfl,rfl⟩,?_⟩
   rintro z3 bC c1 ⟨z,e,hz⟩
   obtain rfl:z3=z:=by simpa using e
   intro z4 d0 d1 e9
   simp only[au]at e9
   by_cases hl:U z3=[]
   ·have aCE:=e9
    rw[hl]at e9
    simp only[fM]at e9
    subst e9
    refine⟨λhp=>by simp at hp,λ_=>inner z3 bC c1 ?_⟩
    rw[hl]at hz⊢
    exact hz
   ·obtain⟨r,x,hl⟩:=Hj hl
    rw[hl]at e9 hz
    simp only[dN,dv,fM]at e9
    refine⟨λ_=>?_,λhp=>by simp at hp;omega⟩
    intro z5 d0 d1 pd
    simp only[au,hl,dN,dv,fM]at pd
    refine⟨⟨by omega,by rw[hl];simp only[dN,dv,fM];omega⟩,?_⟩
    intro z6 f0 f1 mJ
    have ht:(z5+-1).toNat=r.length:=by omega
    simp only[au,hl,ht]at mJ
    rw[show((r++[x]).getD r.length 0)=x by simp[ae]]at mJ
    intro z7 g0 g1 qG
    try dsimp only
    rw[W4 hn qG,mJ,we]
    refine⟨λhe=>inner z3 bC c1 ?_,λhe=>?_⟩
    ·have he:p x=false:=by simpa using he
     try dsimp only
     rw[hl,<-hz,x6,he,cond_false]
    ·have he:p x=true:=by simpa using he
     intro z7 f0 f1 qG
     simp only[au,hl,dN,dv,fM]at qG
     have Gp:(z7+-1).toNat=r.length:=by omega
     refine⟨⟨by omega,by omega,by rw[hl];simp only[dN,dv,fM];omega⟩,?_⟩
     intro z8 g0 g1 Gz
     have hr:U z8=r:=by
      try dsimp only
      rw[Gz];simp only[au,fm,hl,Gp]
      simp
     refine⟨⟨z8,rfl,?_⟩,?_⟩
     ·try dsimp only
      rw[hr,<-hz,x6,he,cond_true]
     ·show(U z8).length<(U z3).length
      try dsimp only
      rw[hr,hl];simp
theorem ti {q p:UInt8->Bool} (h:((List.range 256).all λi=>q (mu i)==p (mu i))=true) (c:UInt8):q c=p c:=by
 have:=List.all_eq_true.1 h c.toNat (List.mem_range.2 c.toNat_lt)
 simpa using this
theorem asT:UU SB (aY SB [.str] 122):=GS (n:=12125) (p:=mB) (ti (by decide+kernel)) λ_ _=>rfl
theorem asV:UX SB (aY SB [.str] 123):=GS (n:=8267443711659794979134808499087199072256874527605039863196959864303977456569186565734100443375465041388132907546406408792979960403300126342849461211344038) (p:=mL) (ti (by decide+kernel)) λ_ _=>rfl
theorem asS:UT SB (aY SB [.str] 124):=GS (n:=284767230291263911083031) (p:=ej) (ti (by decide+kernel)) λ_ _=>rfl
def T5 (S:Nat->List (List Int)->List (List Int)->Prop) (K:List (List Int)->List (List Int)->Prop):Prop:=
 bO λz0=>aA 27 [z0] λag=>aK 0 [z0] λz2=>bn λz3=>∃(eB:List (List Int)->Prop) (eg:List (List Int)->Nat),eB [[0],[ag]]/\(dH λz5
 =>cS λz6=>eB [[z5],[z6]]->(aq (decide (z5<z2)) (ab 30 [z5,z2]/\ab 21 [z6,z5]/\av 21 [z6,z5,0] λz7=>(aq (decide (65<=z7)) ((aq (decide
 (z7<=90)) (cM λz8=>z8<=fs .u8->z8=cD .or .u8 z7 32->ab 30 [z5,z2]/\ab 21 [z6,z5]/\(ab 67 [z6,z5,1]->aA 42 [z6,z5,0,z8] λ
 z9=>bt (z5+9223372036854775809) 18446744073709551616 λaj=>ab 39 [((z5+((-18446744073709551616)*aj))+1),0,9223372036854775807]/\(eB [[((z5+
 ((-18446744073709551616)*aj))+1)],[z9]]/\eg [[((z5+((-18446744073709551616)*aj))+1)],[z9]]<eg [[z5],[z6]]))) (bt (z5+9223372036854775809)
 18446744073709551616 λz8=>ab 39 [((z5+((-18446744073709551616)*z8))+1),0,9223372036854775807]/\(eB [[((z5+((-18446744073709551616)*z8))+
 1)],[z6]]/\eg [[((z5+((-18446744073709551616)*z8))+1)],[z6]]<eg [[z5],[z6]])))) (bt (z5+9223372036854775809) 18446744073709551616 λz8=>ab 39
 [((z5+((-18446744073709551616)*z8))+1),0,9223372036854775807]/\(eB [[((z5+((-18446744073709551616)*z8))+1)],[z6]]/\eg [[((z5+
 ((-18446744073709551616)*z8))+1)],[z6]]<eg [[z5],[z6]])))) (ab 35 [z6,0,z2]/\bj 34 [z6,0,z2] λz7=>K [[z0]] [[z7]])))
def UE (S:Nat->List (List Int)->List (List Int)->Prop) (K:List (List Int)->List (List Int)->Prop):Prop:=
 bO λz0=>aA 27 [z0] λag=>aK 0 [z0] λz2=>bn λz3=>∃(eB:List (List Int)->Prop) (eg:List (List Int)->Nat),eB [[0],[ag]]/\(dH λz5
 =>cS λz6=>eB [[z5],[z6]]->(aq (decide (z5<z2)) (ab 30 [z5,z2]/\ab 21 [z6,z5]/\av 21 [z6,z5,0] λz7=>(aq (decide (65<=z7)) (ab 30
 [z5,z2]/\ab 21 [z6,z5]/\av 21 [z6,z5,0] λz8=>(aq (decide (z8<=90)) (ab 30 [z5,z2]/\ab 21 [z6,z5]/\av 21 [z6,z5,0] λz9=>bt (z9+32)
 256 λaj=>ab 30 [z5,z2]/\ab 21 [z6,z5]/\(ab 67 [z6,z5,1]->aA 42 [z6,z5,0,((z9+((-256)*aj))+32)] λak=>bt (z5+9223372036854775809)
 18446744073709551616 λz12=>ab 39 [((z5+((-18446744073709551616)*z12))+1),0,9223372036854775807]/\(eB [[((z5+((-18446744073709551616)*z12))+
 1)],[ak]]/\eg [[((z5+((-18446744073709551616)*z12))+1)],[ak]]<eg [[z5],[z6]]))) (bt (z5+9223372036854775809) 18446744073709551616 λz9=>ab 39
 [((z5+((-18446744073709551616)*z9))+1),0,9223372036854775807]/\(eB [[((z5+((-18446744073709551616)*z9))+1)],[z6]]/\eg [[((z5+
 ((-18446744073709551616)*z9))+1)],[z6]]<eg [[z5],[z6]])))) (bt (z5+9223372036854775809) 18446744073709551616 λz8=>ab 39 [((z5+
 ((-18446744073709551616)*z8))+1),0,9223372036854775807]/\(eB [[((z5+((-18446744073709551616)*z8))+1)],[z6]]/\eg [[((z5+((-18446744073709551616)*
 z8))+1)],[z6]]<eg [[z5],[z6]])))) (ab 35 [z6,0,z2]/\bj 34 [z6,0,z2] λz7=>K [[z0]] [[z7]])))
def n7 (l:aH):List (List Int):=l.map λb=>[(b.toNat:Int)]
theorem RE (l:aH):(n7 l).length=l.length:=by simp[n7]
theorem abd (l:aH) (i:Nat) (h:i<l.length):(n7 l).getD i []=[((l.getD i 0).toNat:Int)]:=by
 simp[n7,ae,h]
theorem atY (l:aH) (i:Nat) (c:UInt8):(n7 l).set i [(c.toNat:Int)]=n7 (l.set i c):=by
 simp[n7,azE]
theorem atX (l:aH):(n7 l).map (λrow=>mu (row.getD 0 0).toNat)=l:=by
 unfold n7
 try dsimp only
 rw[List.map_map]
 conv=>rhs;rw[<-List.map_id l]
 exact List.map_congr_left λb _=>by simp
def mR (s:aH) (i:Nat):aH:=(s.take i).map lo++s.drop i
theorem QU (s:aH) (i:Nat) (h:i<=s.length):(mR s i).length=s.length:=by
 simp[mR];omega
theorem apg (s:aH) (i:Nat) (h:i<s.length):(mR s i).getD i 0=s.getD i 0:=by
 unfold mR
 try dsimp only
 rw[r9 s i h]
 simp only[ae]
 try dsimp only
 rw[List.getElem?_append_right (by simp;omega)]
 simp[show min i s.length=i by omega]
theorem api (s:aH) (i:Nat) (h:i<s.length):mR s (i+1)=(mR s i).set i (lo (s.getD i 0)):=by
 unfold mR
 try dsimp only
 rw[DK s i h,r9 s i h,ft]
 have:((s.take i).map lo).length=i:=by simp;omega
 try dsimp only
 rw[List.set_append_right _ _ (by omega),this]
 simp
theorem aph (s:aH) (i:Nat) (h:i<s.length) (hl:kL (s.getD i 0)=false):mR s (i+1)=mR s i:=by
 unfold mR
 have e:lo (s.getD i 0)=s.getD i 0:=by unfold lo;rw[hl];rfl
 try dsimp only
 rw[DK s i h,r9 s i h,ft,List.map_singleton,e]
 simp
theorem apf (s:aH) (i:Nat) (h:s.length<=i):mR s i=lower s:=by
 unfold mR lower
 try dsimp only
 rw[jd h,HA h,h9]
theorem Qq {z:Int} {c:UInt8} (h:z=(c.toNat:Int)):kL c=(decide (65<=z)&&decide (z<=90)):=by
 try dsimp only
 rw[h];unfold kL
 try dsimp only
 rw[iv]
 simp[oS]
 omega
theorem ZI {z:Int} {c:UInt8} (h:z=(c.toNat:Int)) (h1:65<=z) (h2:z<=90):z+32=((lo c).toNat:Int):=by
 have:=Qq h
 unfold lo
 try dsimp only
 rw[this,show decide (65<=z)=true by simpa using h1,show decide (z<=90)=true by simpa using h2]
 simp
 omega
theorem arq {z:Int} (h1:65<=z) (h2:z<=90):cD .or .u8 z 32=z+32:=by
 have h:∀i:Fin 26,cD .or .u8 (65+(i.val:Int)) 32=65+(i.val:Int)+32:=by decide+kernel
 have:=h ⟨(z-65).toNat,by omega⟩
 simp only at this
 rw[show(65+((z-65).toNat:Int))=z by omega]at this
 exact this
def kA (z0 ag:Int) (bl:List (List Int)):Prop:=∃(i:Nat) (r:Int),bl=[[(i:Int)],[r]]/\i<=(U z0).length/\af r=n7 (mR (U z0) i)
theorem kA.start {z0 ag:Int} (h:ag=au 27 [z0]):kA z0 ag [[0],[ag]]:=by
 refine⟨0,ag,rfl,gX _,?_⟩
 try dsimp only
 rw[h];simp only[au,ee]
 simp[mR,n7]
theorem kA.get {z0 z2 r z7:Int} {i:Nat} (h2:z2=au 0 [z0]) (hr:af r=n7 (mR (U z0) i)) (hi:i<=(U z0).length) (hp:(i:Int)<z2):ab 30 [(i:Int),z2]/\ab 21 [r,(i:Int)]/\(z7=au 21 [r,(i:Int),0]->z7=(((U z0).getD i 0).toNat:Int)):=by
 simp only[au]at h2
 refine⟨⟨rL _,hp⟩,⟨rL _,?_⟩,λh=>?_⟩
 ·try dsimp only
  rw[hr,RE,QU _ _ hi];omega
 ·try dsimp only
  rw[h];simp only[au]
  try dsimp only
  rw[hr,gu,abd _ _ (by rw[QU _ _ hi];omega),apg _ _ (by omega)]
  rfl
theorem kA.set {z0 ag z2 r z9 v:Int} {i:Nat} (h2:z2=au 0 [z0]) (hr:af r=n7 (mR (U z0) i)) (hi:i<=(U z0).length) (hp:(i:Int)<z2) (hv:v=((lo ((U z0).getD i 0)).toNat:Int)) (h:z9=au 42 [r,(i:Int),0,v]):kA z0 ag [[(i:Int)+1],[z9]]:=by
 simp only[au]at h2
 refine⟨i+1,z9,by simp,by omega,?_⟩
 try dsimp only
 rw[h];simp only[au,ee]
 have hl:i<(mR (U z0) i).length:=by rw[QU _ _ hi];omega
 try dsimp only
 rw[hr,gu,abd _ _ hl,api _ _ (by omega),<-atY,hv]
 rfl
theorem kA.same {z0 ag z2 r:Int} {i:Nat} (h2:z2=au 0 [z0]) (hr:af r=n7 (mR (U z0) i)) (hi:i<=(U z0).length) (hp:(i:Int)<z2) (hg:kL ((U z0).getD i 0)=false):kA z0 ag [[(i:Int)+1],[r]]:=by
 simp only[au]at h2
 refine⟨i+1,r,by simp,by omega,?_⟩
 try dsimp only
 rw[aph _ _ (by omega) hg,hr]
theorem kA.done {z0 z2 r:Int} {i:Nat} (h2:z2=au 0 [z0]) (cF:z0<=bM) (hr:af r=n7 (mR (U z0) i)) (hi:i<=(U z0).length) (hp:¬(i:Int)<z2):ab 35 [r,0,z2]/\∀z7,z7=au 34 [r,0,z2]->U z7=lower (U z0):=by
 have qB:=tc cF
 unfold gk at qB
 simp only[au]at h2
 have hm:=apf (U z0) i (by omega)
 rw[hm]at hr
 have hlen:(lower (U z0)).length=(U z0).length:=by simp[lower]
 refine⟨⟨⟨by omega,by omega,by rw[hr,RE,hlen];omega⟩,by omega⟩,λz7 h=>?_⟩
 try dsimp only
 rw[h];simp only[au,fm]
 try dsimp only
 rw[hr,show((n7 (lower (U z0))).drop (0:Int).toNat)=n7 (lower (U z0)) from rfl,jd (by rw[RE,hlen];omega),atX]
def Kk (z0:Int) (bl:List (List Int)):Nat:=(U z0).length-((bl.getD 0 []).getD 0 0).toNat
theorem C6 {z0 z2 r r':Int} {i:Nat} (h2:z2=au 0 [z0]) (hp:(i:Int)<z2):Kk z0 [[(i:Int)+1],[r]]<Kk z0 [[(i:Int)],[r']]:=by
 simp only[au]at h2
 show(U z0).length-((i:Int)+1).toNat<(U z0).length-(i:Int).toNat
 omega
theorem ar3:T5 SB (aY SB [.str] 28):=by
 intro z0 a0 a1 ag b0 b1 h1 z2 bC c1 h2 z3 d0 d1
 refine⟨kA z0 ag,Kk z0,kA.start h1,?_⟩
 rintro z5 aZ e1 z6 f0 f1 ⟨i,r,e,hi,hr⟩
 obtain⟨rfl,rfl⟩:z5=i/\z6=r:=by simpa using e
 refine⟨λhp=>?_,λhp=>?_⟩
 ·have hp:(i:Int)<z2:=by simpa using hp
  have hg:=λz7=>kA.get (z7:=z7) h2 hr hi hp
  refine⟨(hg 0).1,(hg 0).2.1,λz7 g0 g1 h7=>?_⟩
  have h7:=(hg z7).2.2 h7
  have hG:=Qq h7
  refine⟨λhA=>⟨λhB z8 fA k1 bD=>?_,λhB z8 fA k1 k2 k3=>?_⟩,λhA z8 fA k1 k2 k3=>?_⟩
  ·have Of:65<=z7:=by simpa using hA
   have Og:z7<=90:=by simpa using hB
   refine⟨(hg 0).1,(hg 0).2.1,λ_ z9 cq l1 bg aj m0 fW eF C8=>?_⟩
   try dsimp only
   rw[nx (L:=z2) hp c1 aZ m0 eF]
   refine⟨⟨by omega,by omega⟩,kA.set h2 hr hi hp ?_ bg,C6 h2 hp⟩
   try dsimp only
   rw[bD,arq Of Og,ZI h7 Of Og]
  ·try dsimp only
   rw[nx (L:=z2) hp c1 aZ fA k2]
   refine⟨⟨by omega,by omega⟩,kA.same h2 hr hi hp ?_,C6 h2 hp⟩
   try dsimp only
   rw[hG,hB];simp
  ·try dsimp only
   rw[nx (L:=z2) hp c1 aZ fA k2]
   refine⟨⟨by omega,by omega⟩,kA.same h2 hr hi hp ?_,C6 h2 hp⟩
   try dsimp only
   rw[hG,hA];simp
 ·have hp:¬(i:Int)<z2:=by simpa using hp
  have hd:=kA.done h2 a1 hr hi hp
  exact⟨hd.1,λz7 g0 g1 h7=>⟨⟨g0,g1,trivial⟩,hd.2 z7 h7⟩⟩
theorem asD:UE SB (aY SB [.str] 17):=by
 intro z0 a0 a1 ag b0 b1 h1 z2 bC c1 h2 z3 d0 d1
 refine⟨kA z0 ag,Kk z0,kA.start h1,?_⟩
 rintro z5 aZ e1 z6 f0 f1 ⟨i,r,e,hi,hr⟩
 obtain⟨rfl,rfl⟩:z5=i/\z6=r:=by simpa using e
 refine⟨λhp=>?_,λhp=>?_⟩
 ·have hp:(i:Int)<z2:=by simpa using hp
  have hg:=λz7=>kA.get (z7:=z7) h2 hr hi hp
  refine⟨(hg 0).1,(hg 0).2.1,λz7 g0 g1 h7=>?_⟩
  have h7:=(hg z7).2.2 h7
  have hG:=Qq h7
  refine⟨λhA=>⟨(hg 0).1,(hg 0).2.1,λz8 n0 n1 bD=>⟨λhB=>⟨(hg 0).1,(hg 0).2.1,λz9 tY o1 bg aj fA k1 k2 k3=>?_⟩,λhB z9 fA k1 k2 k3=>?_⟩⟩,λhA z8 fA k1 k2 k3=>?_⟩
  ·have bD:=(hg z8).2.2 bD
   have bg:=(hg z9).2.2 bg
   have Of:65<=z7:=by simpa using hA
   have Og:z8<=90:=by simpa using hB
   refine⟨(hg 0).1,(hg 0).2.1,λ_ ak cq l1 cH z12 m0 fW eF C8=>?_⟩
   try dsimp only
   rw[nx (L:=z2) hp c1 aZ m0 eF]
   refine⟨⟨by omega,by omega⟩,kA.set h2 hr hi hp ?_ cH,C6 h2 hp⟩
   have:=ZI bg (by omega) (by omega)
   omega
  ·have bD:=(hg z8).2.2 bD
   try dsimp only
   rw[nx (L:=z2) hp c1 aZ fA k2]
   refine⟨⟨by omega,by omega⟩,kA.same h2 hr hi hp ?_,C6 h2 hp⟩
   try dsimp only
   rw[hG,h7.trans bD.symm,hB];simp
  ·try dsimp only
   rw[nx (L:=z2) hp c1 aZ fA k2]
   refine⟨⟨by omega,by omega⟩,kA.same h2 hr hi hp ?_,C6 h2 hp⟩
   try dsimp only
   rw[hG,hA];simp
 ·have hp:¬(i:Int)<z2:=by simpa using hp
  have hd:=kA.done h2 a1 hr hi hp
  exact⟨hd.1,λz7 g0 g1 h7=>⟨⟨g0,g1,trivial⟩,hd.2 z7 h7⟩⟩
end Go.cu
namespace Go.cu
open Go Go.bo
def T2 (S:Nat->List (List Int)->List (List Int)->Prop) (K:List (List Int)->List (List Int)->Prop):Prop:=
 bO λz0=>cn 4 [z0,0] λag=>(aq ((!(decide (ag=1)))) (aK 0 [z0] λz2=>(aq (decide (z2<=230)) (bO λz3=>S 123 [[z0]] [[z3]]->cn 4 [z3,0]
 λz4=>(aq (decide (z4=1)) (bz λz5=>S 65
 [[z0],[3092260449727753699381237987134896180985020549865866695797500355328521677512090486983914513878993150076419119825652852662229468458769751959831595687466918]]
 [[z5]]->(aq (decide (z5=1)) (bO λz6=>S 122 [[z0]] [[z6]]->cn 4 [z6,z0] λz7=>(aq (decide (z7=1)) (ab 41 [z0]/\bz λz8=>S 128 [[z0]]
 [[z8]]->K [[z0]] [[(cond ((!(decide (z8=1)))) 1 0)]]) (K [[z0]] [[(cond (false) 1 0)]]))) (K [[z0]] [[(cond (false) 1 0)]]))) (K [[z0]] [[(cond (false) 1
 0)]]))) (K [[z0]] [[(cond (false) 1 0)]]))) (K [[z0]] [[(cond (false) 1 0)]]))
def T4 (S:Nat->List (List Int)->List (List Int)->Prop) (K:List (List Int)->List (List Int)->Prop):Prop:=
 bO λz0=>cn 4 [z0,0] λag=>(aq (decide (ag=1)) (K [[z0]] [[(cond (false) 1 0)]]) (aK 0 [z0] λz2=>(aq (decide (64<z2)) (K [[z0]] [[(cond
 (false) 1 0)]]) (bz λz3=>S 44
 [[z0],[74473080028620518966381883429228484808440201678127597570840141201138927665149786990616077870556514776478160775702785383470653111892427074463158448094822482491594731032954821022169486867841687777697]]
 [[z3]]->(aq ((!(decide (z3=1)))) (K [[z0]] [[(cond (false) 1 0)]]) (bO λz4=>S 121 [[z0]] [[z4]]->cn 4 [z4,z0] λz5=>(aq (decide (z5=1)) (ab
 41 [z0]/\bz λz6=>S 128 [[z0]] [[z6]]->K [[z0]] [[(cond ((!(decide (z6=1)))) 1 0)]]) (K [[z0]] [[(cond (false) 1 0)]]))))))))
theorem Kl (p:UInt8->Bool) (l:aH):(fI p l).length<=l.length:=(List.dropWhile_sublist p).length_le
theorem at7 (p:UInt8->Bool) (l:aH):(gn p l).length<=l.length:=by
 unfold gn;rw[S6]
 have:=Kl p l.reverse
 rwa [S6]at this
theorem ao3 {p:UInt8->Bool} {l:aH} (h:l.length<=(fI p l).length):fI p l=l:=(List.dropWhile_suffix p).eq_of_length (Nat.le_antisymm (Kl p l) h)
theorem at6 {p:UInt8->Bool} {l:aH} (h:l.length<=(gn p l).length):gn p l=l:=by
 have:fI p l.reverse=l.reverse:=ao3 (by unfold gn at h;rw[S6]at h;rw[S6];exact h)
 unfold gn;unfold fI at this;rw[this,List.reverse_reverse]
theorem N5 (r:aH) (x:UInt8):(r++[x]).getD r.length 0=x:=by simp[ae]
theorem avi (p:UInt8->Bool) (s:aH):j8 p s=s↔∀i,i<s.length->p (s.getD i 0)=true->0<i/\i+1<s.length:=by
 by_cases hs:s=[]
 ·subst hs;exact⟨λ_ i h=>by simp at h,λ_=>rfl⟩
 ·constructor
  ·intro h i hi hp
   have hl:s.length<=(j8 p s).length:=by rw[h];exact br _
   have h1:=Kl p (gn p s)
   have hr:gn p s=s:=at6 (Nat.le_trans hl h1)
   have ht:fI p s=s:=by unfold j8 at h;rwa [hr]at h
   refine⟨Nat.pos_of_ne_zero λh0=>?_,Nat.lt_of_le_of_ne hi λh0=>?_⟩
   ·subst h0
    cases s with
    |nil=>exact hs rfl
    |cons x r=>
     have hp:p x=true:=hp
     have h2:fI p (x::r)=fI p r:=by simp[fI,pz,hp]
     have:=Kl p r
     rw[h2]at ht
     rw[ht]at this
     simp at this
     omega
   ·obtain⟨r,x,rfl⟩:=Hj hs
    have:i=r.length:=by simp at h0;omega
    subst this
    rw[N5]at hp
    rw[x6,hp,cond_true]at hr
    have:=at7 p r
    rw[hr]at this
    simp at this
    omega
  ·intro h
   have hr:gn p s=s:=by
    obtain⟨r,x,rfl⟩:=Hj hs
    try dsimp only
    rw[x6]
    cases hx:p x with
    |false=>rfl
    |true=>have:=(h r.length (by simp) (by rw[N5];exact hx)).2;simp at this
   unfold j8;rw[hr]
   cases s with
   |nil=>rfl
   |cons x r=>
    cases hx:p x with
    |false=>simp[fI,pz,hx]
    |true=>have:=(h 0 (by simp) hx).1;omega
theorem aeF (p:UInt8->Bool) (s:aH):s.all p=true↔∀i,i<s.length->p (s.getD i 0)=true:=by
 try dsimp only
 rw[sY]
 constructor
 ·intro h i hi
  refine h _ ?_
  simp[ae,hi]
 ·intro h x hx
  obtain⟨i,hi,rfl⟩:=List.getElem_of_mem hx
  have:=h i hi
  simpa [ae,hi]using this
theorem af6 (s:aH):dd s=false↔∀i,i<s.length->¬(s.getD i 0=46/\s.getD (i+1) 0=46):=by
 unfold dd
 try dsimp only
 rw[List.any_eq_false]
 constructor
 ·intro h i hi ai
  exact h i (List.mem_range.2 hi) (by rw[ai.1,ai.2];rfl)
 ·intro h i hi ai
  rw[aS,beq_iff_eq,beq_iff_eq]at ai
  exact h i (List.mem_range.1 hi) ai
theorem aag (inn jJ:UInt8->Bool) (s:aH):xP inn jJ s=true↔∀i,i<s.length->inn (s.getD i 0)=true/\(jJ (s.getD i 0)=true->0<i/\i+1<s.length)/\¬(s.getD i 0=46/\0<i/\s.getD (i-1) 0=46):=by
 unfold xP
 try dsimp only
 rw[sY]
 constructor
 ·intro h i hi
  have:=h i (List.mem_range.2 hi)
  simp only[aS,sZ,gW,p8,azI,beq_eq_false_iff_ne]at this
  refine⟨this.1.1,λhe=>?_,λai=>?_⟩
  ·rcases this.1.2 with h1|h1
   ·rw[h1]at he;cases he
   ·exact h1
  ·have h3:cf 0 i=true:=by rw[p8];exact ai.2.1
   rcases this.2 with(h1|h1)|h1
   ·exact h1 ai.1
   ·rw[h3]at h1;cases h1
   ·exact h1 ai.2.2
 ·intro h i hi
  obtain⟨h1,h2,h3⟩:=h i (List.mem_range.1 hi)
  simp only[aS,sZ,gW,p8,azI,beq_eq_false_iff_ne]
  refine⟨⟨h1,?_⟩,?_⟩
  ·cases he:jJ (s.getD i 0)with
   |false=>exact .inl rfl
   |true=>exact .inr (h2 he)
  ·by_cases e1:s.getD i 0=46
   ·by_cases e2:s.getD (i-1) 0=46
    ·left;right
     cases hb:cf 0 i with
     |false=>rfl
     |true=>rw[p8]at hb;exact absurd ⟨e1,hb,e2⟩ h3
    ·exact .inr e2
   ·exact .inl (.inl e1)
theorem xQ (inn jJ:UInt8->Bool) (s:aH):xP inn jJ s=(s.all inn&&decide (j8 jJ s=s)&& !dd s):=by
 try dsimp only
 rw[iv,aag,aS,aS,aeF,decide_eq_true_eq,avi,gW,af6]
 constructor
 ·intro h
  refine⟨⟨λi hi=>(h i hi).1,λi hi=>(h i hi).2.1⟩,λi hi ai=>?_⟩
  by_cases hj:i+1<s.length
  ·exact(h (i+1) hj).2.2 ⟨ai.2,by omega,by simpa using ai.1⟩
  ·have:s.getD (i+1) 0=0:=by simp[ae,show s.length<=i+1 by omega]
   rw[this]at ai;exact absurd ai.2 (by decide)
 ·rintro⟨⟨h1,h2⟩,h3⟩ i hi
  refine⟨h1 i hi,h2 i hi,λai=>?_⟩
  exact h3 (i-1) (by omega) ⟨ai.2.2,by rw[show i-1+1=i by omega];exact ai.1⟩
theorem Wu {p:UInt8->Bool}:∀{l:aH},l.all p=true->l.dropWhile p=[]
 |[],_=>rfl
 |x::r,h=>by
  simp only[HB,aS]at h
  try dsimp only
  rw[pz,if_pos h.1]
  exact Wu h.2
theorem Sf {p:UInt8->Bool} {s:aH} (h:s.all p=true):j8 p s=[]:=by
 have:gn p s=[]:=by
  unfold gn
  have:s.reverse.all p=true:=by rw[List.all_reverse];exact h
  try dsimp only
  rw[Wu this];rfl
 unfold j8;rw[this];rfl
theorem jK {z a b:Int} (h:z=au 4 [a,b]):decide (z=1)=decide (U a=U b):=by
 try dsimp only
 rw[h];simp only[au]
 by_cases e:U a=U b<;>simp[e]
theorem GO {z a:Int} (h:z=au 4 [a,0]):(!decide (z=1))=cf 0 (U a).length:=by
 try dsimp only
 rw[eq_nil h]
 cases U a with
 |nil=>rfl
 |cons x r=>simp
theorem Ak {z a n:Int} (m:Nat) (hm:n=(m:Int)) (h:z=au 0 [a]):decide (z<=n)=bB (U a).length m:=by
 try dsimp only
 rw[h,hm];simp only[au]
 try dsimp only
 rw[iv,decide_eq_true_eq,oS];omega
theorem xJ {z a n:Int} (m:Nat) (hm:n=(m:Int)) (h:z=au 0 [a]):decide (n<z)= !bB (U a).length m:=by
 try dsimp only
 rw[h,hm];simp only[au]
 try dsimp only
 rw[iv,decide_eq_true_eq,gW,<-azJ,oS];omega
theorem eb {z:Int} {b:Bool} (h:z=aL b):decide (z=1)=b:=by rw[h,MP]
theorem l9 {id:Nat} {zs:List (List Int)} {b:Bool} (h:SB id zs [[aL b]]):aY SB [.bool] id zs [[aL b]]:=⟨⟨(pE b).1,(pE b).2,trivial⟩,h⟩
theorem arj (s:aH) {n:Int} (hn:∀c,(U n).contains c=mL c):(s.all λc=>(U n).contains c)=s.all mL:=by
 congr 1;funext c;exact hn c
theorem ar0:T2 SB (aY SB [.bool] 47):=by
 intro z0 a0 a1 ag b0 b1 h1
 have aI:∀b:Bool,hS (U z0)=b->aY SB [.bool] 47 [[z0]] [[aL b]]:=λb h=>l9 (by show aL b=aL (hS (U z0));rw[h])
 refine⟨λhp z2 bC c1 h2=>⟨λhq z3 d0 d1 h3 z4 aZ e1 h4=>⟨λhr z5 f0 f1 h5=>?_,λhr=>aI false ?_⟩,λhq=>aI false ?_⟩,λhp=>aI false ?_⟩
 ·rw[GO h1]at hp
  rw[Ak (n:=230) 230 rfl h2]at hq
  have h5:z5=aL ((U z0).all λc=>(U _).contains c):=h5
  rw[arj (U z0) (ti (by decide+kernel))]at h5
  try dsimp only
  rw[eb h5]
  refine⟨λhs z6 g0 g1 h6 z7 i0 i1 h7=>?_,λhs=>aI false ?_⟩
  ·have h6:U z6=j8 mB (U z0):=h6
   try dsimp only
   rw[jK h7,h6]
   refine⟨λht=>⟨?_,λz8 ew dk bD=>?_⟩,λht=>aI false ?_⟩
   ·show(U z0).length<=4294967280
    rw[oS]at hq;omega
   ·have bD:z8=aL (dd (U z0)):=bD
    try dsimp only
    rw[eb bD]
    refine aI _ ?_
    unfold hS;rw[hp,hq,xQ,hs,ht];rfl
   ·unfold hS;rw[xQ,ht];simp
  ·unfold hS;rw[xQ,hs];simp
 ·have h3:U z3=j8 mL (U z0):=h3
  rw[eq_nil h4,h3]at hr
  unfold hS;rw[xQ]
  cases ha:(U z0).all mL with
  |false=>simp
  |true=>rw[Sf ha]at hr;simp at hr
 ·rw[Ak (n:=230) 230 rfl h2]at hq
  unfold hS;rw[hq];simp
 ·rw[GO h1]at hp
  unfold hS;rw[hp];rfl
theorem ar2:T4 SB (aY SB [.bool] 24):=by
 intro z0 a0 a1 ag b0 b1 h1
 have aI:∀b:Bool,mc (U z0)=b->aY SB [.bool] 24 [[z0]] [[aL b]]:=λb h=>l9 (by show aL b=aL (mc (U z0));rw[h])
 have hn:=GO h1
 refine⟨λhp=>aI false ?_,λhp z2 bC c1 h2=>⟨λhq=>aI false ?_,λhq z3 d0 d1 h3=>?_⟩⟩
 ·rw[hp]at hn;unfold mc;rw[<-hn];rfl
 ·rw[xJ (n:=64) 64 rfl h2,gW]at hq
  unfold mc;rw[hq];simp
 ·rw[xJ (n:=64) 64 rfl h2,nD]at hq
  rw[hp]at hn
  have h3:z3=aL ((U z0).all λc=>(U _).contains c):=h3
  have e:((U z0).all λc=>(U 74473080028620518966381883429228484808440201678127597570840141201138927665149786990616077870556514776478160775702785383470653111892427074463158448094822482491594731032954821022169486867841687777697).contains c)=(U z0).all pV:=congrArg (List.all (U z0)) (funext (ti (p:=pV) (by decide+kernel)))
  rw[e]at h3
  try dsimp only
  rw[eb h3]
  refine⟨λhs=>aI false ?_,λhs z4 aZ e1 h4 z5 f0 f1 h5=>?_⟩
  ·have hs:(U z0).all pV=false:=by simpa using hs
   unfold mc;rw[xQ,hs];simp
  ·have hs:(U z0).all pV=true:=by simpa using hs
   have h4:U z4=j8 (·==46) (U z0):=h4
   try dsimp only
   rw[jK h5,h4]
   refine⟨λht=>⟨?_,λz8 ew dk bD=>?_⟩,λht=>aI false ?_⟩
   ·show(U z0).length<=4294967280
    rw[oS]at hq;omega
   ·have bD:z8=aL (dd (U z0)):=bD
    try dsimp only
    rw[eb bD]
    refine aI _ ?_
    unfold mc;rw[<-hn,hq,xQ,hs,ht];rfl
   ·unfold mc;rw[xQ,ht];simp
def UM (S:Nat->List (List Int)->List (List Int)->Prop) (K:List (List Int)->List (List Int)->Prop):Prop:=
 bO λz0=>bO λag=>bO λz2=>bz λz3=>S 126 [[z0]] [[ag],[z2],[z3]]->bz λz4=>S 47 [[ag]] [[z4]]->(aq (decide (z4=1)) ((aq ((!(decide (z3
 =1)))) (K [[z0]] [[(cond (true) 1 0)]]) (cn 4 [z2,0] λz5=>(aq ((!(decide (z5=1)))) (aK 0 [z2] λz6=>(aq (decide (z6<=5)) (bO λz7=>S 124
 [[z2]] [[z7]]->cn 4 [z7,0] λz8=>(aq (decide (z8=1)) (bz λz9=>S 65 [[z2],[284767230291263911083031]] [[z9]]->K [[z0]] [[(cond (decide (z9=1)) 1
 0)]]) (K [[z0]] [[(cond (false) 1 0)]]))) (K [[z0]] [[(cond (false) 1 0)]]))) (K [[z0]] [[(cond (false) 1 0)]]))))) (K [[z0]] [[(cond (false) 1 0)]]))
def TQ (S:Nat->List (List Int)->List (List Int)->Prop) (K:List (List Int)->List (List Int)->Prop):Prop:=
 bO λz0=>bO λag=>S 120 [[z0]] [[ag]]->bO λz2=>bO λz3=>bz λz4=>S 125 [[ag]] [[z2],[z3],[z4]]->(aq ((!(decide (z4=1)))) (K [[z0]]
 [[0],[2]]) (aK 0 [ag] λz5=>(aq (decide (254<z5)) (K [[z0]] [[0],[2]]) (bz λz6=>S 24 [[z2]] [[z6]]->(aq ((!(decide (z6=1)))) (K [[z0]] [[0],[2]])
 (bn λz7=>S 73 [[z3],[58]] [[z7]]->(aq (decide (0<=z7)) (K [[z0]] [[0],[2]]) (bz λz8=>S 127 [[z3]] [[z8]]->(aq ((!(decide (z8=1)))) (K [[z0]]
 [[0],[2]]) (bz λz9=>S 27 [[z3]] [[z9]]->(aq ((!(decide (z9=1)))) (K [[z0]] [[0],[2]]) (bO λaj=>S 28 [[ag]] [[aj]]->K [[z0]]
 [[aj],[0]]))))))))))))
def UN (S:Nat->List (List Int)->List (List Int)->Prop) (K:List (List Int)->List (List Int)->Prop):Prop:=
 xX λz0=>(aq (decide (97<=z0)) (K [[z0]] [[(cond (decide (z0<=122)) 1 0)]]) (K [[z0]] [[(cond (false) 1 0)]]))
def T1 (S:Nat->List (List Int)->List (List Int)->Prop) (K:List (List Int)->List (List Int)->Prop):Prop:=
 xX λz0=>(aq (decide (65<=z0)) (K [[z0]] [[(cond (decide (z0<=90)) 1 0)]]) (K [[z0]] [[(cond (false) 1 0)]]))
def TP (S:Nat->List (List Int)->List (List Int)->Prop) (K:List (List Int)->List (List Int)->Prop):Prop:=
 xX λz0=>(aq (decide (48<=z0)) (K [[z0]] [[(cond (decide (z0<=57)) 1 0)]]) (K [[z0]] [[(cond (false) 1 0)]]))
theorem apd:mL 58=false:=by decide
theorem alw {s:aH} (h:hS s=true):¬(58:UInt8)∈s:=λhm=>by
 unfold hS at h
 rw[xQ]at h
 simp only[aS]at h
 have:=List.all_eq_true.1 h.2.1.1 58 hm
 rw[apd]at this;cases this
theorem abz {s:aH} (h:idx 58 s<0):kO s=hS s:=by
 have:decide (0<=idx 58 s)=false:=by simpa using h
 unfold kO oz
 try dsimp only
 rw[this]
 simp
theorem asL:UM SB (aY SB [.bool] 27):=by
 intro z0 a0 a1 ag b0 b1 z2 bC c1 z3 d0 d1 cL z4 aZ e1 h4
 have cL:(U ag,U z2,z3)=oz 58 (U z0):=cL
 have h4:z4=aL (hS (U ag)):=h4
 have hv:kO (U z0)=(hS (U ag)&&(decide (z3=0)||uc (U z2))):=by unfold kO;rw[<-cL]
 have aI:∀b:Bool,kO (U z0)=b->aY SB [.bool] 27 [[z0]] [[aL b]]:=λb h=>l9 (by show aL b=aL (kO (U z0));rw[h])
 have h3:(!decide (z3=1))=decide (z3=0):=by
  rcases(show z3=0∨z3=1 by omega)with rfl|rfl<;>rfl
 try dsimp only
 rw[eb h4,h3]
 refine⟨λhp=>⟨λhq=>aI true ?_,λhq z5 f0 f1 h5=>?_⟩,λhp=>aI false ?_⟩
 ·try dsimp only
  rw[hv,hp,hq];rfl
 ·have hn:=GO h5
  refine⟨λhr z6 g0 g1 h6=>⟨λhs z7 i0 i1 h7 z8 ew dk bD=>?_,λhs=>aI false ?_⟩,λhr=>aI false ?_⟩
  ·rw[hr]at hn
   rw[Ak (n:=5) 5 rfl h6]at hs
   have h7:U z7=j8 ej (U z2):=h7
   try dsimp only
   rw[eq_nil bD,h7]
   refine⟨λht z9 fA k1 bg=>?_,λht=>aI false ?_⟩
   ·have bg:z9=aL ((U z2).all λc=>(U 284767230291263911083031).contains c):=bg
    have e:((U z2).all λc=>(U 284767230291263911083031).contains c)=(U z2).all ej:=congrArg (List.all (U z2)) (funext (ti (p:=ej) (by decide+kernel)))
    rw[e]at bg
    try dsimp only
    rw[eb bg]
    refine aI _ ?_
    try dsimp only
    rw[hv,hp,hq];unfold uc;rw[<-hn,hs];simp
   ·try dsimp only
    rw[hv,hp,hq];unfold uc
    cases ha:(U z2).all ej with
    |false=>simp
    |true=>rw[Sf ha]at ht;simp at ht
  ·rw[Ak (n:=5) 5 rfl h6]at hs
   try dsimp only
   rw[hv,hp,hq];unfold uc;rw[hs];simp
  ·rw[hr]at hn
   try dsimp only
   rw[hv,hp,hq];unfold uc;rw[<-hn];rfl
 ·try dsimp only
  rw[hv,hp];rfl
theorem xI {id:Nat} {zs:List (List Int)} {a e:Int} (h0:0<=a) (h1:a<=bM) (aZ:0<=e) (e1:e<=21) (h:SB id zs [[a],[e]]):aY SB [.str,.int .i64 0 21] id zs [[a],[e]]:=⟨⟨h0,h1,aZ,e1,trivial⟩,h⟩
theorem BP {t:aH} (h:(decide (0<=idx 64 t)&&bB t.length 254&&mc (t.take (idx 64 t).toNat)&&hS (t.drop ((idx 64 t).toNat+1))&&(t.drop ((idx 64 t).toNat+1)).contains 46)=false):tv t=([],2):=by unfold tv;rw[h];rfl
theorem arO:TQ SB (aY SB [.str,.int .i64 0 21] 10):=by
 intro z0 a0 a1 ag b0 b1 h1 z2 bC c1 z3 d0 d1 z4 aZ e1 cL
 have h1:U ag=j8 (·==32) (U z0):=h1
 have cL:(U z2,U z3,z4)=oz 64 (U ag):=cL
 have aI:tv (U ag)=([],2)->aY SB [.str,.int .i64 0 21] 10 [[z0]] [[0],[2]]:=λh=>xI (bX _) fv (by decide) (by decide) (by
  show(U 0,(2:Int))=ql (U z0)
  unfold ql;rw[<-h1,h];rfl)
 unfold oz at cL
 cases hi:decide (0<=idx 64 (U ag))with
 |false=>
  rw[hi]at cL
  simp only[cond_false,cA]at cL
  obtain⟨_,_,rfl⟩:=cL
  exact⟨λ_=>aI (BP (by rw[hi];rfl)),λh=>by simp at h⟩
 |true=>
  rw[hi]at cL
  simp only[cond_true,cA]at cL
  obtain⟨h2,h3,rfl⟩:=cL
  refine⟨λh=>by simp at h,λ_ z5 f0 f1 h5=>⟨λhq=>aI (BP ?_),λhq z6 g0 g1 h6=>?_⟩⟩
  ·rw[xJ (n:=254) 254 rfl h5,gW]at hq
   try dsimp only
   rw[hq];simp
  ·rw[xJ (n:=254) 254 rfl h5,nD]at hq
   have h6:z6=aL (mc (U z2)):=h6
   try dsimp only
   rw[eb h6,h2]
   refine⟨λhl=>aI (BP ?_),λhl z7 i0 i1 h7=>?_⟩
   ·rw[gW]at hl
    try dsimp only
    rw[hl];simp
   ·rw[nD]at hl
    have h7:z7=idx 58 (U z3):=h7
    refine⟨λhc=>aI (BP ?_),λhc z8 ew dk bD=>?_⟩
    ·have Ca:u8 58∈U z3:=by
      have:=JX (c:=58) (by decide) (by decide) (U z3)
      rw[<-h7,hc]at this
      simpa using this.symm
     have:hS (U z3)=false:=by
      cases ai:hS (U z3)with
      |false=>rfl
      |true=>exact absurd Ca (alw ai)
     try dsimp only
     rw[<-h3,this];simp
    ·have hlt:idx 58 (U z3)<0:=by rw[<-h7];simpa using hc
     have bD:z8=aL ((U z3).contains 46):=bD
     try dsimp only
     rw[eb bD]
     refine⟨λhd=>aI (BP ?_),λhd z9 fA k1 bg=>?_⟩
     ·rw[gW]at hd
      try dsimp only
      rw[<-h3,hd];simp
     ·rw[nD]at hd
      have bg:z9=aL (kO (U z3)):=bg
      try dsimp only
      rw[eb bg,abz hlt]
      refine⟨λai=>aI (BP ?_),λai aj cq l1 b9=>?_⟩
      ·rw[gW]at ai
       try dsimp only
       rw[<-h3,ai];simp
      ·rw[nD]at ai
       have b9:U aj=lower (U ag):=b9
       refine xI cq l1 (by decide) (by decide) ?_
       show(U aj,(0:Int))=ql (U z0)
       unfold ql tv
       try dsimp only
       rw[<-h1,hi,hq,hl,<-h3,ai,hd,b9]
       rfl
theorem Qt {lo hi:Nat} {z:Int} (h0:0<=z) (h1:z<=255):(bB lo (u8 z).toNat&&bB (u8 z).toNat hi)=(decide ((lo:Int)<=z)&&decide (z<=(hi:Int))):=by
 have:=Lm h0 h1
 try dsimp only
 rw[iv]
 simp[oS]
 omega
theorem asM:UN SB (aY SB [.bool] 50):=by
 intro z0 a0 a1
 have e:=Qt (lo:=97) (hi:=122) a0 a1
 have aI:∀b:Bool,kM (u8 z0)=b->aY SB [.bool] 50 [[z0]] [[aL b]]:=λb h=>l9 (by show aL b=aL (kM (u8 z0));rw[h])
 refine⟨λh=>aI _ ?_,λh=>aI false ?_⟩
 ·unfold kM;rw[e];have h:decide (((97:Nat):Int)<=z0)=true:=h;rw[h];rfl
 ·unfold kM;rw[e];have h:decide (((97:Nat):Int)<=z0)=false:=h;rw[h];rfl
theorem arZ:T1 SB (aY SB [.bool] 51):=by
 intro z0 a0 a1
 have e:=Qt (lo:=65) (hi:=90) a0 a1
 have aI:∀b:Bool,kL (u8 z0)=b->aY SB [.bool] 51 [[z0]] [[aL b]]:=λb h=>l9 (by show aL b=aL (kL (u8 z0));rw[h])
 refine⟨λh=>aI _ ?_,λh=>aI false ?_⟩
 ·unfold kL;rw[e];have h:decide (((65:Nat):Int)<=z0)=true:=h;rw[h];rfl
 ·unfold kL;rw[e];have h:decide (((65:Nat):Int)<=z0)=false:=h;rw[h];rfl
theorem arN:TP SB (aY SB [.bool] 52):=by
 intro z0 a0 a1
 have e:=Qt (lo:=48) (hi:=57) a0 a1
 have aI:∀b:Bool,ej (u8 z0)=b->aY SB [.bool] 52 [[z0]] [[aL b]]:=λb h=>l9 (by show aL b=aL (ej (u8 z0));rw[h])
 refine⟨λh=>aI _ ?_,λh=>aI false ?_⟩
 ·unfold ej;rw[e];have h:decide (((48:Nat):Int)<=z0)=true:=h;rw[h];rfl
 ·unfold ej;rw[e];have h:decide (((48:Nat):Int)<=z0)=false:=h;rw[h];rfl
theorem Hp {r:List Int} (h:aV (da 0 bM 2) r):∃a b,r=[a,b]/\0<=a/\a<=bM/\0<=b/\b<=bM:=by
 match r,h with
 |[a,b],h=>exact⟨a,b,rfl,h.1,h.2.1,h.2.2.1,h.2.2.2.1⟩
theorem QK {z a b:Int} (h:z=au 5 [a,b]):decide (z=1)=dy (U a) (U b):=by
 try dsimp only
 rw[h];simp only[au]
 cases dy (U a) (U b)<;>simp
theorem QL:∀l:aH,dy l l=false
 |[]=>rfl
 |x::r=>by
  have:=QL r
  simp[dy,this]
def UZ (S:Nat->List (List Int)->List (List Int)->Prop) (K:List (List Int)->List (List Int)->Prop):Prop:=
 bO λz0=>bO λag=>aK 0 [z0] λz2=>aK 0 [ag] λz3=>(aq (decide (z3<=z2)) (aK 0 [ag] λz4=>ab 2 [z0,0,z4]/\bj 2 [z0,0,z4] λz5=>
 cn 4 [z5,ag] λz6=>(aq (decide (z6=1)) (aK 0 [ag] λz7=>aK 0 [z0] λz8=>ab 2 [z0,z7,z8]/\bj 2 [z0,z7,z8] λz9=>K [[z0],[ag]] [[z9]]) (K
 [[z0],[ag]] [[z0]]))) (K [[z0],[ag]] [[z0]]))
def Uy (S:Nat->List (List Int)->List (List Int)->Prop) (K:List (List Int)->List (List Int)->Prop):Prop:=
 bO λz0=>cn 4 [z0,17291] λag=>(aq (decide (ag=1)) (K [[z0]] [[13674],[(cond (true) 1 0)],[(cond (true) 1 0)]]) (cn 4 [z0,21674] λz2=>(aq
 (decide (z2=1)) (K [[z0]] [[50],[(cond (false) 1 0)],[(cond (true) 1 0)]]) (cn 4 [z0,18059] λz3=>(aq (decide (z3=1)) (K [[z0]] [[14959],[(cond (true) 1
 0)],[(cond (true) 1 0)]]) (cn 4 [z0,21402] λz4=>(aq (decide (z4=1)) (K [[z0]] [[13416],[(cond (true) 1 0)],[(cond (true) 1 0)]]) (cn 4 [z0,18829] λz5
 =>(aq (decide (z5=1)) (K [[z0]] [[12903],[(cond (true) 1 0)],[(cond (true) 1 0)]]) (cn 4 [z0,0] λz6=>K [[z0]] [[0],[(cond (false) 1 0)],[(cond (decide
 (z6=1)) 1 0)]]))))))))))
def Uk (S:Nat->List (List Int)->List (List Int)->Prop) (K:List (List Int)->List (List Int)->Prop):Prop:=
 bO λz0=>bO λag=>(ab 44 [z0,ag]->∀r2:List Int,aV (da 0 bM 2) r2->bz λz4=>S 32 [[z0]] [r2,[z4]]->(aq ((!(decide (z4=1)))) (K
 [[z0],[ag]] [[0],[7]]) (bO λz5=>bz λz6=>bz λz7=>S 33 [[ag]] [[z5],[z6],[z7]]->(aq ((!(decide (z7=1)))) (K [[z0],[ag]] [[0],[2]]) ((aq
 ((!(decide (z6=1)))) (cn 4 [z0,0] λz8=>(aq ((!(decide (z8=1)))) (bO λz9=>S 34 [[z5],[(ae r2 1 0)]] [[z9]]->ab 3 [(ae r2 0 0),z9]
 /\bj 3 [(ae r2 0 0),z9] λaj=>aK 0 [aj] λak=>(aq (decide (ak<6)) (K [[z0],[ag]] [[0],[2]]) (aK 0 [aj] λz12=>(aq (decide (15<
 z12)) (K [[z0],[ag]] [[0],[2]]) (ab 1 [aj,0]/\av 1 [aj,0] λad=>(aq (decide (ad=48)) (K [[z0],[ag]] [[0],[2]]) (K [[z0],[ag]] [[aj],[0]])))))))
 (aK 0 [z5] λz9=>(aq (decide (z9<6)) (K [[z0],[ag]] [[0],[2]]) (aK 0 [z5] λaj=>(aq (decide (15<aj)) (K [[z0],[ag]] [[0],[2]]) (ab 1 [z5,0]/\
 av 1 [z5,0] λak=>(aq (decide (ak=48)) (K [[z0],[ag]] [[0],[2]]) (K [[z0],[ag]] [[z5],[0]]))))))))) (aK 0 [z5] λz8=>(aq (decide (z8<6)) (K
 [[z0],[ag]] [[0],[2]]) (aK 0 [z5] λz9=>(aq (decide (15<z9)) (K [[z0],[ag]] [[0],[2]]) (ab 1 [z5,0]/\av 1 [z5,0] λaj=>(aq (decide (aj=48))
 (K [[z0],[ag]] [[0],[2]]) (K [[z0],[ag]] [[z5],[0]])))))))))))))
theorem asX:UZ SB (aY SB [.str] 34):=by
 intro z0 a0 a1 ag b0 b1 z2 bC c1 h2 z3 d0 d1 h3
 have aI:∀x:Int,0<=x->x<=bM->U x=cond ((U ag).isPrefixOf (U z0)) ((U z0).drop (U ag).length) (U z0)->aY SB [.str] 34 [[z0],[ag]] [[x]]:=λx h0 h1 h=>⟨⟨h0,h1,trivial⟩,h⟩
 simp only[au]at h2 h3
 refine⟨λhp z4 aZ e1 h4=>⟨?_,λz5 f0 f1 h5 z6 g0 g1 h6=>?_⟩,λhp=>aI _ a0 a1 ?_⟩
 ·simp only[au]at h4
  have hp:z3<=z2:=by simpa using hp
  exact⟨by omega,by omega,by omega⟩
 ·simp only[au]at h4
  have hp:z3<=z2:=by simpa using hp
  have o5:U z5=(U z0).take (U ag).length:=by rw[h5];simp[au,fm,h4]
  have ie:(U ag).isPrefixOf (U z0)=decide (U z5=U ag):=by
   try dsimp only
   rw[iv,List.isPrefixOf_iff_prefix,List.prefix_iff_eq_take,decide_eq_true_eq,o5]
   exact eq_comm
  try dsimp only
  rw[jK h6,<-ie]
  refine⟨λhq z7 i0 i1 h7 z8 ew dk bD=>?_,λhq=>aI _ a0 a1 (by rw[hq];rfl)⟩
  simp only[au]at h7 bD
  refine⟨⟨by omega,by omega,by omega⟩,λz9 fA k1 bg=>aI _ fA k1 ?_⟩
  try dsimp only
  rw[hq,bg];simp only[au,fm,cond_true]
  try dsimp only
  rw[show z7.toNat=(U ag).length by omega]
  exact jd (by simp;omega)
 ·have hp:¬z3<=z2:=by simpa using hp
  cases hc:(U ag).isPrefixOf (U z0)with
  |false=>rfl
  |true=>
   have:=(List.isPrefixOf_iff_prefix.1 hc).length_le
   omega
theorem am1:U 17291=[71,66]:=by decide
theorem am3:U 21674=[85,83]:=by decide
theorem amZ:U 18059=[68,69]:=by decide
theorem am0:U 21402=[70,82]:=by decide
theorem amY:U 18829=[67,72]:=by decide
theorem asx:Uy SB (aY SB [.str,.bool,.bool] 35):=by
 intro z0 a0 a1 ag b0 b1 h1
 have aI:∀(w c t:aH) (x y z:Int),U z0=w->jI w=some (c,t)->0<=x->x<=17291->U x=c->y=aL (!t.isEmpty)->z=1->aY SB [.str,.bool,.bool] 35 [[z0]] [[x],[y],[z]]:=λw c t x y z hw hc hx0 hx1 hx hy hz=>by
  have hb:(17291:Int)<=bM:=oW (l:=[71,66]) (by decide)
  subst hy hz
  refine⟨⟨hx0,Int.le_trans hx1 hb,(pE _).1,(pE _).2,by decide,by decide,trivial⟩,?_⟩
  show(match jI (U z0)with|some (code,gD)=>U x=code/\_=aL (!gD.isEmpty)/\_|none=>_)
  try dsimp only
  rw[hw,hc]
  exact⟨hx,rfl,rfl⟩
 try dsimp only
 rw[jK h1,am1]
 refine⟨λh=>aI [71,66] [52,52] [48] _ _ _ (by simpa using h) rfl (by decide) (by decide) (by decide) rfl rfl,λh z2 b0 b1 h2=>?_⟩
 have n1:¬U z0=[71,66]:=by simpa using h
 try dsimp only
 rw[jK h2,am3]
 refine⟨λh=>aI [85,83] [49] [] _ _ _ (by simpa using h) rfl (by decide) (by decide) (by decide) rfl rfl,λh z2 b0 b1 h2=>?_⟩
 have en:¬U z0=[85,83]:=by simpa using h
 try dsimp only
 rw[jK h2,amZ]
 refine⟨λh=>aI [68,69] [52,57] [48] _ _ _ (by simpa using h) rfl (by decide) (by decide) (by decide) rfl rfl,λh z2 b0 b1 h2=>?_⟩
 have mh:¬U z0=[68,69]:=by simpa using h
 try dsimp only
 rw[jK h2,am0]
 refine⟨λh=>aI [70,82] [51,51] [48] _ _ _ (by simpa using h) rfl (by decide) (by decide) (by decide) rfl rfl,λh z2 b0 b1 h2=>?_⟩
 have tV:¬U z0=[70,82]:=by simpa using h
 try dsimp only
 rw[jK h2,amY]
 refine⟨λh=>aI [67,72] [52,49] [48] _ _ _ (by simpa using h) rfl (by decide) (by decide) (by decide) rfl rfl,λh z2 b0 b1 h2=>?_⟩
 have sG:¬U z0=[67,72]:=by simpa using h
 try dsimp only
 rw[eq_nil h2]
 cases he:(U z0==[])with
 |true=>exact aI [] [] [] _ _ _ (by simpa using he) rfl (by decide) (by decide) (by decide) rfl rfl
 |false=>
  refine⟨⟨bX _,fv,by decide,by decide,by decide,by decide,trivial⟩,?_⟩
  have hn:jI (U z0)=none:=by
   unfold jI
   try dsimp only
   rw[he,show(U z0==[71,66])=false by simpa using n1,show(U z0==[85,83])=false by simpa using en,show(U z0==[68,69])=false by simpa using mh,show(U z0==[70,82])=false by simpa using tV,show(U z0==[67,72])=false by simpa using sG]
   rfl
  show(match jI (U z0)with|some (code,gD)=>_|none=>U 0=[]/\_/\_)
  try dsimp only
  rw[hn]
  exact⟨rfl,rfl,rfl⟩
theorem EH:∀(s d:aH) (p:Bool) {d':aH} {p':Bool},fh s d p=some (d',p')->d'.length<=d.length+s.length
 |[],d,p,d',p',h=>by
  simp only[fh,aQ,cA]at h
  try dsimp only
  rw[h.1];simp
 |c::r,d,p,d',p',h=>by
  unfold fh at h
  cases h1:ej c with
  |true=>
   rw[h1,cond_true]at h
   have:=EH r _ _ h
   simp at this⊢;omega
  |false=>
   rw[h1,cond_false]at h
   cases h2:(c==43&&d.isEmpty&& !p)with
   |true=>
    rw[h2,cond_true]at h
    have:=EH r _ _ h
    simp at this⊢;omega
   |false=>
    rw[h2,cond_false]at h
    cases h3:pv.contains c with
    |true=>
     rw[h3,cond_true]at h
     have:=EH r _ _ h
     simp at this⊢;omega
    |false=>rw[h3,cond_false]at h;cases h
theorem Nn {w c t:aH} (h:jI w=some (c,t)):c.length<=2:=by
 unfold jI at h
 cases h0:(w==[])with
 |true=>rw[h0,cond_true]at h;simp only[aQ,cA]at h;rw[<-h.1];decide
 |false=>
  rw[h0,cond_false]at h
  cases h1:(w==[71,66])with
  |true=>rw[h1,cond_true]at h;simp only[aQ,cA]at h;rw[<-h.1];decide
  |false=>
   rw[h1,cond_false]at h
   cases h2:(w==[85,83])with
   |true=>rw[h2,cond_true]at h;simp only[aQ,cA]at h;rw[<-h.1];decide
   |false=>
    rw[h2,cond_false]at h
    cases h3:(w==[68,69])with
    |true=>rw[h3,cond_true]at h;simp only[aQ,cA]at h;rw[<-h.1];decide
    |false=>
     rw[h3,cond_false]at h
     cases h4:(w==[70,82])with
     |true=>rw[h4,cond_true]at h;simp only[aQ,cA]at h;rw[<-h.1];decide
     |false=>
      rw[h4,cond_false]at h
      cases h5:(w==[67,72])with
      |true=>rw[h5,cond_true]at h;simp only[aQ,cA]at h;rw[<-h.1];decide
      |false=>
       rw[h5,cond_false]at h
       cases h
theorem Aq {w s:aH} {z n:Int} (zs:List (List Int)) (id:Nat) (hid:∀a e,(U a,e)=mT w s->SB id zs [[a],[e]]) (n0:0<=n) (n1:n<=bM) (hf:mT w s=vP (U n)):
 ∀ak:Int,0<=ak->ak<=9223372036854775807->ak=au 0 [n]->
  (((decide (ak<6))=true->
   aY SB [.str,.int .i64 0 21] id zs [[0],[2]]
  )/\((decide (ak<6))=false->
   ∀z12:Int,0<=z12->z12<=9223372036854775807->z12=au 0 [n]->
   (((decide (15<z12))=true->
    aY SB [.str,.int .i64 0 21] id zs [[0],[2]]
   )/\((decide (15<z12))=false->
    ab 1 [n,0]/\
    ∀ad:Int,0<=ad->ad<=255->ad=au 1 [n,0]->
    (((decide (ad=48))=true->
     aY SB [.str,.int .i64 0 21] id zs [[0],[2]]
    )/\((decide (ad=48))=false->
     aY SB [.str,.int .i64 0 21] id zs [[n],[0]]
    ))
   ))
  )):=by
 intro ag a0 a1 h1
 have e1:decide (ag<6)=cf (U n).length 6:=by
  try dsimp only
  rw[h1];simp only[au];rw[iv,decide_eq_true_eq,p8];omega
 have aI:vP (U n)=([],2)->aY SB [.str,.int .i64 0 21] id zs [[0],[2]]:=λh=>xI (bX _) fv (by decide) (by decide) (hid _ _ (by rw[hf,h];rfl))
 try dsimp only
 rw[e1]
 refine⟨λh=>aI (by unfold vP;rw[h];rfl),λh z2 b0 b1 h2=>?_⟩
 have e2:decide (15<z2)=cf 15 (U n).length:=by
  try dsimp only
  rw[h2];simp only[au];rw[iv,decide_eq_true_eq,p8];omega
 try dsimp only
 rw[e2]
 refine⟨λh'=>aI (by unfold vP;rw[h,h'];rfl),λh'=>⟨⟨bX _,?_⟩,λz3 bC c1 h3=>?_⟩⟩
 ·have:¬cf (U n).length 6=true:=by rw[h];simp
  rw[p8]at this;omega
 ·have bN:decide (z3=48)=((U n).getD 0 0==48):=by
   try dsimp only
   rw[h3];simp only[au,uD]
   try dsimp only
   rw[iv,decide_eq_true_eq,rI (by decide) (by decide)];rfl
  try dsimp only
  rw[bN]
  refine⟨λh3=>aI (by unfold vP;rw[h,h',h3];rfl),λh3=>xI n0 n1 (by decide) (by decide) (hid _ _ ?_)⟩
  try dsimp only
  rw[hf];unfold vP;rw[h,h',h3];rfl
theorem asi:Uk SB (aY SB [.str,.int .i64 0 21] 12):=by
 intro z0 a0 a1 ag b0 b1 hq r2 h2 z4 bC c1 hc
 obtain⟨c,t,rfl,x0,x1,ja,iq⟩:=Hp h2
 have hid:∀a e,(U a,e)=mT (U z0) (U ag)->SB 12 [[z0],[ag]] [[a],[e]]:=λ_ _ h=>h
 have hq:U z0=[]∨(U ag).length<=4294967280:=hq
 have hc:(match jI (U z0)with|some (code,gD)=>U c=code/\U t=gD/\z4=1|none=>z4=0/\U c=[]/\U t=[]):=hc
 have aI:∀e:Int,0<=e->e<=21->mT (U z0) (U ag)=([],e)->aY SB [.str,.int .i64 0 21] 12 [[z0],[ag]] [[0],[e]]:=λe aZ e1 h=>xI (bX _) fv aZ e1 (hid _ _ (by rw[h];rfl))
 cases ib:jI (U z0)with
 |none=>
  rw[ib]at hc
  obtain⟨rfl,_⟩:=hc
  exact⟨λ_=>aI 7 (by decide) (by decide) (by unfold mT;rw[ib]),λh=>by simp at h⟩
 |some u5=>
  obtain⟨code,gD⟩:=u5
  rw[ib]at hc
  obtain⟨xb,xo,rfl⟩:=hc
  refine⟨λh=>by simp at h,λ_ z5 d0 d1 z6 aZ e1 z7 f0 f1 hb=>?_⟩
  have hb:(match fh (U ag) [] false with|some (d',p')=>U z5=d'/\z6=aL p'/\z7=1|none=>U z5=[]/\z6=0/\z7=0):=hb
  cases pP:fh (U ag) [] false with
  |none=>
   rw[pP]at hb
   obtain⟨_,_,rfl⟩:=hb
   exact⟨λ_=>aI 2 (by decide) (by decide) (by unfold mT;rw[ib];simp only[pP]),λh=>by simp at h⟩
  |some af8=>
   obtain⟨d,p⟩:=af8
   rw[pP]at hb
   obtain⟨hd,hp,rfl⟩:=hb
   have hf:mT (U z0) (U ag)=vP (ub (U z0) code gD d p):=by unfold mT;rw[ib];simp only[pP]
   have hlen:=EH _ _ _ pP
   refine⟨λh=>by simp at h,λ_=>?_⟩
   try dsimp only
   rw[eb hp]
   refine⟨λhp=>λz8 g0 g1 bD=>?_,λhp=>Aq (z:=0) _ 12 hid d0 d1 ?_⟩
   ·try dsimp only
    rw[eq_nil bD]
    refine⟨λhw z9 i0 i1 bg=>?_,λhw=>Aq (z:=0) _ 12 hid d0 d1 ?_⟩
    ·have bg:U z9=cond ((U t).isPrefixOf (U z5)) ((U z5).drop (U t).length) (U z5):=bg
     have ak4:(U z9).length<=(U z5).length:=by
      try dsimp only
      rw[bg];cases(U t).isPrefixOf (U z5)<;>simp
     refine⟨?_,λaj ew dk b9=>Aq (z:=0) _ 12 hid ew dk ?_⟩
     ·show(U c).length+(U z9).length<=gk
      have:=Nn ib
      have hq:(U ag).length<=4294967280:=by
       rcases hq with h|h
       ·have hw:(!(U z0==[]))=true:=hw
        rw[h]at hw;cases hw
       ·exact h
      try dsimp only
      rw[xb];rw[hd]at ak4;unfold gk;simp at hlen;omega
     ·try dsimp only
      rw[hf]
      have:U aj=U c++U z9:=by rw[b9];simp only[au,fm];rfl
      try dsimp only
      rw[this,bg,xb,xo,hd]
      unfold ub
      have hw:(!(U z0==[]))=true:=hw
      try dsimp only
      rw[hp,hw];rfl
    ·try dsimp only
     rw[hf,hd];unfold ub
     have hw:(!(U z0==[]))=false:=hw
     try dsimp only
     rw[hp,hw];rfl
   ·try dsimp only
    rw[hf,hd];unfold ub;rw[hp];rfl
end Go.cu
namespace Go.cu
open Go Go.bo
def UB (S:Nat->List (List Int)->List (List Int)->Prop) (K:List (List Int)->List (List Int)->Prop):Prop:=
 bO λz0=>aK 0 [z0] λag=>(aq (decide (ag<1)) (K [[z0]] [[(cond (false) 1 0)]]) (aK 0 [z0] λz2=>(aq (decide (230<z2)) (K [[z0]] [[(cond (false)
 1 0)]]) (∃(e5:List (List Int)->Prop) (dB:List (List Int)->Nat),e5 [[0]]/\(dH λz4=>e5 [[z4]]->aK 0 [z0] λz5=>(aq (decide (z4<z5)) (ab
 1 [z0,z4]/\av 1 [z0,z4] λz6=>(aq (decide (z6=46)) (ab 1 [z0,z4]/\av 1 [z0,z4] λz7=>bz λz8=>S 50 [[z7]] [[z8]]->(aq ((!(decide (z8=
 1)))) (ab 1 [z0,z4]/\av 1 [z0,z4] λz9=>bz λaj=>S 51 [[z9]] [[aj]]->(aq ((!(decide (aj=1)))) (ab 1 [z0,z4]/\av 1 [z0,z4] λak=>bz
 λz12=>S 52 [[ak]] [[z12]]->(aq ((!(decide (z12=1)))) ((aq (decide (z4=0)) (K [[z0]] [[(cond (false) 1 0)]]) (aK 0 [z0] λad=>(aq (decide (z4=
 (ad+(-1)))) (K [[z0]] [[(cond (false) 1 0)]]) (ab 1 [z0,z4]/\av 1 [z0,z4] λao=>(aq (decide (ao=46)) (ab 1 [z0,(z4+(-1))]/\av 1 [z0,(z4+
 (-1))] λaz=>(aq (decide (az=46)) (K [[z0]] [[(cond (false) 1 0)]]) (bt (z4+9223372036854775809) 18446744073709551616 λaC=>ab 39 [((z4+
 ((-18446744073709551616)*aC))+1),0,9223372036854775807]/\(e5 [[((z4+((-18446744073709551616)*aC))+1)]]/\dB [[((z4+((-18446744073709551616)*
 aC))+1)]]<dB [[z4]])))) (bt (z4+9223372036854775809) 18446744073709551616 λaz=>ab 39 [((z4+((-18446744073709551616)*az))+
 1),0,9223372036854775807]/\(e5 [[((z4+((-18446744073709551616)*az))+1)]]/\dB [[((z4+((-18446744073709551616)*az))+1)]]<dB [[z4]])))))))) ((aq
 (decide (z4=0)) (K [[z0]] [[(cond (false) 1 0)]]) (aK 0 [z0] λad=>(aq (decide (z4=(ad+(-1)))) (K [[z0]] [[(cond (false) 1 0)]]) (ab 1 [z0,z4]/\
 av 1 [z0,z4] λao=>(aq (decide (ao=46)) (ab 1 [z0,(z4+(-1))]/\av 1 [z0,(z4+(-1))] λaz=>(aq (decide (az=46)) (K [[z0]] [[(cond (false)
 1 0)]]) (bt (z4+9223372036854775809) 18446744073709551616 λaC=>ab 39 [((z4+((-18446744073709551616)*aC))+1),0,9223372036854775807]/\(e5 [[((z4
 +((-18446744073709551616)*aC))+1)]]/\dB [[((z4+((-18446744073709551616)*aC))+1)]]<dB [[z4]])))) (bt (z4+9223372036854775809)
 18446744073709551616 λaz=>ab 39 [((z4+((-18446744073709551616)*az))+1),0,9223372036854775807]/\(e5 [[((z4+((-18446744073709551616)*az))+
 1)]]/\dB [[((z4+((-18446744073709551616)*az))+1)]]<dB [[z4]])))))))))) ((aq (decide (z4=0)) (K [[z0]] [[(cond (false) 1 0)]]) (aK 0 [z0] λak=>
 (aq (decide (z4=(ak+(-1)))) (K [[z0]] [[(cond (false) 1 0)]]) (ab 1 [z0,z4]/\av 1 [z0,z4] λz12=>(aq (decide (z12=46)) (ab 1 [z0,(z4+(-1))]
 /\av 1 [z0,(z4+(-1))] λad=>(aq (decide (ad=46)) (K [[z0]] [[(cond (false) 1 0)]]) (bt (z4+9223372036854775809) 18446744073709551616 λao=>
 ab 39 [((z4+((-18446744073709551616)*ao))+1),0,9223372036854775807]/\(e5 [[((z4+((-18446744073709551616)*ao))+1)]]/\dB [[((z4+
 ((-18446744073709551616)*ao))+1)]]<dB [[z4]])))) (bt (z4+9223372036854775809) 18446744073709551616 λad=>ab 39 [((z4+((-18446744073709551616)*
 ad))+1),0,9223372036854775807]/\(e5 [[((z4+((-18446744073709551616)*ad))+1)]]/\dB [[((z4+((-18446744073709551616)*ad))+1)]]<dB
 [[z4]])))))))))) ((aq (decide (z4=0)) (K [[z0]] [[(cond (false) 1 0)]]) (aK 0 [z0] λz9=>(aq (decide (z4=(z9+(-1)))) (K [[z0]] [[(cond (false) 1 0)]])
 (ab 1 [z0,z4]/\av 1 [z0,z4] λaj=>(aq (decide (aj=46)) (ab 1 [z0,(z4+(-1))]/\av 1 [z0,(z4+(-1))] λak=>(aq (decide (ak=46)) (K
 [[z0]] [[(cond (false) 1 0)]]) (bt (z4+9223372036854775809) 18446744073709551616 λz12=>ab 39 [((z4+((-18446744073709551616)*z12))+
 1),0,9223372036854775807]/\(e5 [[((z4+((-18446744073709551616)*z12))+1)]]/\dB [[((z4+((-18446744073709551616)*z12))+1)]]<dB [[z4]])))) (bt (z4
 +9223372036854775809) 18446744073709551616 λak=>ab 39 [((z4+((-18446744073709551616)*ak))+1),0,9223372036854775807]/\(e5 [[((z4+
 ((-18446744073709551616)*ak))+1)]]/\dB [[((z4+((-18446744073709551616)*ak))+1)]]<dB [[z4]])))))))))) (ab 1 [z0,z4]/\av 1 [z0,z4] λz7=>
 ab 1 [z0,z4]/\av 1 [z0,z4] λz8=>bz λz9=>S 50 [[z8]] [[z9]]->(aq ((!(decide (z9=1)))) (ab 1 [z0,z4]/\av 1 [z0,z4] λaj=>bz λak=>
 S 51 [[aj]] [[ak]]->(aq ((!(decide (ak=1)))) (ab 1 [z0,z4]/\av 1 [z0,z4] λz12=>bz λad=>S 52 [[z12]] [[ad]]->(aq ((!(decide (ad=1))))
 ((aq ((!(decide (z7=45)))) (K [[z0]] [[(cond (false) 1 0)]]) ((aq (decide (z7=45)) ((aq (decide (z4=0)) (K [[z0]] [[(cond (false) 1 0)]]) (aK 0 [z0] λ
 ao=>(aq (decide (z4=(ao+(-1)))) (K [[z0]] [[(cond (false) 1 0)]]) (ab 1 [z0,z4]/\av 1 [z0,z4] λaz=>(aq (decide (az=46)) (ab 1 [z0,(z4+
 (-1))]/\av 1 [z0,(z4+(-1))] λaC=>(aq (decide (aC=46)) (K [[z0]] [[(cond (false) 1 0)]]) (bt (z4+9223372036854775809) 18446744073709551616 λaR
 =>ab 39 [((z4+((-18446744073709551616)*aR))+1),0,9223372036854775807]/\(e5 [[((z4+((-18446744073709551616)*aR))+1)]]/\dB [[((z4+
 ((-18446744073709551616)*aR))+1)]]<dB [[z4]])))) (bt (z4+9223372036854775809) 18446744073709551616 λaC=>ab 39 [((z4+((-18446744073709551616)*
 aC))+1),0,9223372036854775807]/\(e5 [[((z4+((-18446744073709551616)*aC))+1)]]/\dB [[((z4+((-18446744073709551616)*aC))+1)]]<dB
 [[z4]])))))))) (bt (z4+9223372036854775809) 18446744073709551616 λao=>ab 39 [((z4+((-18446744073709551616)*ao))+1),0,9223372036854775807]/\(e5
 [[((z4+((-18446744073709551616)*ao))+1)]]/\dB [[((z4+((-18446744073709551616)*ao))+1)]]<dB [[z4]])))))) ((aq (decide (z7=45)) ((aq (decide
 (z4=0)) (K [[z0]] [[(cond (false) 1 0)]]) (aK 0 [z0] λao=>(aq (decide (z4=(ao+(-1)))) (K [[z0]] [[(cond (false) 1 0)]]) (ab 1 [z0,z4]/\av 1
 [z0,z4] λaz=>(aq (decide (az=46)) (ab 1 [z0,(z4+(-1))]/\av 1 [z0,(z4+(-1))] λaC=>(aq (decide (aC=46)) (K [[z0]] [[(cond (false) 1
 0)]]) (bt (z4+9223372036854775809) 18446744073709551616 λaR=>ab 39 [((z4+((-18446744073709551616)*aR))+1),0,9223372036854775807]/\(e5 [[((z4+
 ((-18446744073709551616)*aR))+1)]]/\dB [[((z4+((-18446744073709551616)*aR))+1)]]<dB [[z4]])))) (bt (z4+9223372036854775809)
 18446744073709551616 λaC=>ab 39 [((z4+((-18446744073709551616)*aC))+1),0,9223372036854775807]/\(e5 [[((z4+((-18446744073709551616)*aC))+
 1)]]/\dB [[((z4+((-18446744073709551616)*aC))+1)]]<dB [[z4]])))))))) (bt (z4+9223372036854775809) 18446744073709551616 λao=>ab 39 [((z4+
 ((-18446744073709551616)*ao))+1),0,9223372036854775807]/\(e5 [[((z4+((-18446744073709551616)*ao))+1)]]/\dB [[((z4+((-18446744073709551616)*
 ao))+1)]]<dB [[z4]])))))) ((aq (decide (z7=45)) ((aq (decide (z4=0)) (K [[z0]] [[(cond (false) 1 0)]]) (aK 0 [z0] λz12=>(aq (decide (z4=(z12+
 (-1)))) (K [[z0]] [[(cond (false) 1 0)]]) (ab 1 [z0,z4]/\av 1 [z0,z4] λad=>(aq (decide (ad=46)) (ab 1 [z0,(z4+(-1))]/\av 1 [z0,(z4+(-1))]
 λao=>(aq (decide (ao=46)) (K [[z0]] [[(cond (false) 1 0)]]) (bt (z4+9223372036854775809) 18446744073709551616 λaz=>ab 39 [((z4+
 ((-18446744073709551616)*az))+1),0,9223372036854775807]/\(e5 [[((z4+((-18446744073709551616)*az))+1)]]/\dB [[((z4+((-18446744073709551616)*
 az))+1)]]<dB [[z4]])))) (bt (z4+9223372036854775809) 18446744073709551616 λao=>ab 39 [((z4+((-18446744073709551616)*ao))+
 1),0,9223372036854775807]/\(e5 [[((z4+((-18446744073709551616)*ao))+1)]]/\dB [[((z4+((-18446744073709551616)*ao))+1)]]<dB [[z4]])))))))) (bt
 (z4+9223372036854775809) 18446744073709551616 λz12=>ab 39 [((z4+((-18446744073709551616)*z12))+1),0,9223372036854775807]/\(e5 [[((z4+
 ((-18446744073709551616)*z12))+1)]]/\dB [[((z4+((-18446744073709551616)*z12))+1)]]<dB [[z4]])))))) ((aq (decide (z7=45)) ((aq (decide (z4=0))
 (K [[z0]] [[(cond (false) 1 0)]]) (aK 0 [z0] λaj=>(aq (decide (z4=(aj+(-1)))) (K [[z0]] [[(cond (false) 1 0)]]) (ab 1 [z0,z4]/\av 1 [z0,z4] λ
 ak=>(aq (decide (ak=46)) (ab 1 [z0,(z4+(-1))]/\av 1 [z0,(z4+(-1))] λz12=>(aq (decide (z12=46)) (K [[z0]] [[(cond (false) 1 0)]]) (bt (z4+
 9223372036854775809) 18446744073709551616 λad=>ab 39 [((z4+((-18446744073709551616)*ad))+1),0,9223372036854775807]/\(e5 [[((z4+
 ((-18446744073709551616)*ad))+1)]]/\dB [[((z4+((-18446744073709551616)*ad))+1)]]<dB [[z4]])))) (bt (z4+9223372036854775809)
 18446744073709551616 λz12=>ab 39 [((z4+((-18446744073709551616)*z12))+1),0,9223372036854775807]/\(e5 [[((z4+((-18446744073709551616)*z12))+
 1)]]/\dB [[((z4+((-18446744073709551616)*z12))+1)]]<dB [[z4]])))))))) (bt (z4+9223372036854775809) 18446744073709551616 λaj=>ab 39 [((z4+
 ((-18446744073709551616)*aj))+1),0,9223372036854775807]/\(e5 [[((z4+((-18446744073709551616)*aj))+1)]]/\dB [[((z4+((-18446744073709551616)*
 aj))+1)]]<dB [[z4]])))))))) (K [[z0]] [[(cond (true) 1 0)]])))))))
def sI (inn jJ:UInt8->Bool) (s:aH) (i:Nat):Prop:=inn (s.getD i 0)=true/\(jJ (s.getD i 0)=true->0<i/\i+1<s.length)/\¬(s.getD i 0=46/\0<i/\s.getD (i-1) 0=46)
theorem Q7 (inn jJ:UInt8->Bool) (s:aH):xP inn jJ s=true↔∀i,i<s.length->sI inn jJ s i:=aag inn jJ s
theorem aaf {inn jJ:UInt8->Bool} {s:aH} {i:Nat} (hi:i<s.length) (h:¬sI inn jJ s i):xP inn jJ s=false:=by
 cases ho:xP inn jJ s with
 |false=>rfl
 |true=>exact absurd ((Q7 inn jJ s).1 ho i hi) h
def Bl (inn jJ:UInt8->Bool) (z0:Int) (bl:List (List Int)):Prop:=∃i:Nat,bl=[[(i:Int)]]/\i<=(U z0).length/\∀j,j<i->sI inn jJ (U z0) j
def Bm (z0:Int) (bl:List (List Int)):Nat:=(U z0).length-((bl.getD 0 []).getD 0 0).toNat
def H6 (I:List (List Int)->Prop) (M:List (List Int)->Nat) (i:Int):Prop:=∀aC:Int,0<=aC->aC<=1->0<=(i+9223372036854775809)-18446744073709551616*aC->(i+9223372036854775809)-18446744073709551616*aC<18446744073709551616->
 ab 39 [((i+((-18446744073709551616)*aC))+1),0,9223372036854775807]/\(I [[((i+((-18446744073709551616)*aC))+1)]]/\M [[((i+((-18446744073709551616)*aC))+1)]]<M [[i]])
theorem VA {inn jJ:UInt8->Bool} {z0:Int} {i:Nat} (h1:z0<=bM) (hi:i<(U z0).length) (hall:∀j,j<i->sI inn jJ (U z0) j) (h:sI inn jJ (U z0) i):H6 (Bl inn jJ z0) (Bm z0) i:=by
 intro q fJ bq bE b5
 have cF:=tS h1
 try dsimp only
 rw[nx (L:=((U z0).length:Int)) (by omega) cF (rL _) fJ bE]
 refine⟨⟨by omega,by omega⟩,⟨i+1,by simp,by omega,λj hj=>?_⟩,?_⟩
 ·by_cases hj':j=i
  ·subst hj';exact h
  ·exact hall j (by omega)
 ·show(U z0).length-((i:Int)+1).toNat<(U z0).length-(i:Int).toNat
  omega
theorem uZ {z0 z i n:Int} {k:Nat} (hi:i=(k:Int)) (hn:0<=n) (fq:n<=255) (h:z=au 1 [z0,i]):decide (z=n)=((U z0).getD k 0==u8 n):=by
 try dsimp only
 rw[h,hi];simp only[au,gu]
 try dsimp only
 rw[iv,decide_eq_true_eq,rI hn fq]
theorem auy {K:Prop} {A:Prop} {z0:Int} {i:Nat} (hi:i<(U z0).length) (he:mB ((U z0).getD i 0)=true) (cN:mL ((U z0).getD i 0)=true)
 (hK:¬sI mL mB (U z0) i->K) (hA:sI mL mB (U z0) i->A):
   (((decide ((i:Int)=0))=true->
    K
   )/\((decide ((i:Int)=0))=false->
    ∀ad:Int,0<=ad->ad<=9223372036854775807->ad=au 0 [z0]->
    (((decide ((i:Int)=(ad+(-1))))=true->
     K
    )/\((decide ((i:Int)=(ad+(-1))))=false->
     ab 1 [z0,(i:Int)]/\
     ∀ao:Int,0<=ao->ao<=255->ao=au 1 [z0,(i:Int)]->
     (((decide (ao=46))=true->
      ab 1 [z0,((i:Int)+(-1))]/\
      ∀az:Int,0<=az->az<=255->az=au 1 [z0,((i:Int)+(-1))]->
      (((decide (az=46))=true->
       K
      )/\((decide (az=46))=false->
       A
      ))
     )/\((decide (ao=46))=false->
      A
     ))
    ))
   )):=by
 refine⟨λh=>hK λho=>?_,λh ad a0 a1 dj=>?_⟩
 ·have:=(ho.2.1 he).1
  have:(i:Int)=0:=by simpa using h
  omega
 ·have h0:¬(i:Int)=0:=by simpa using h
  simp only[au]at dj
  refine⟨λh=>hK λho=>?_,λh=>⟨⟨rL _,by omega⟩,λao b0 b1 dA=>?_⟩⟩
  ·have:=(ho.2.1 he).2
   have:(i:Int)=ad+-1:=by simpa using h
   omega
  ·have h1:¬(i:Int)=ad+-1:=by simpa using h
   try dsimp only
   rw[uZ (n:=46) (k:=i) rfl (by decide) (by decide) dA]
   refine⟨λh=>⟨⟨by omega,by omega⟩,λaz bC c1 e0=>?_⟩,λh=>hA ⟨cN,λ_=>⟨by omega,by omega⟩,λai=>?_⟩⟩
   ·try dsimp only
    rw[uZ (n:=46) (k:=i-1) (by omega) (by decide) (by decide) e0]
    have h:(U z0).getD i 0=46:=beq_iff_eq.1 h
    refine⟨λh'=>hK λho=>ho.2.2 ⟨h,by omega,beq_iff_eq.1 h'⟩,λh'=>hA ⟨cN,λ_=>⟨by omega,by omega⟩,λai=>?_⟩⟩
    have:((U z0).getD (i-1) 0==u8 46)=true:=beq_iff_eq.2 ai.2.2
    rw[this]at h';cases h'
   ·have:((U z0).getD i 0==u8 46)=true:=beq_iff_eq.2 ai.1
    rw[this]at h;cases h
theorem MO {z0 i z q:Int} {k:Nat} {f:UInt8->Bool} (hi:i=(k:Int)) (h:z=au 1 [z0,i]) (hq:q=aL (f (u8 z))):decide (q=1)=f ((U z0).getD k 0):=by
 try dsimp only
 rw[eb hq,h,hi];simp only[au,gu,we]
theorem one_le {ag z0:Int} (h:ag=au 0 [z0]):decide (ag<1)= !cf 0 (U z0).length:=by
 try dsimp only
 rw[h];simp only[au]
 try dsimp only
 rw[iv,decide_eq_true_eq,gW,<-azJ,p8];omega
theorem asA:UB SB (aY SB [.bool] 30):=by
 intro z0 a0 a1 ag b0 b1 h1
 have aI:∀b:Bool,hS (U z0)=b->aY SB [.bool] 30 [[z0]] [[aL b]]:=λb h=>l9 (by show aL b=aL (hS (U z0));rw[h])
 try dsimp only
 rw[one_le h1]
 refine⟨λh=>aI false ?_,λh z2 bC c1 h2=>?_⟩
 ·rw[gW]at h;unfold hS;rw[h];rfl
 rw[nD]at h
 try dsimp only
 rw[xJ (n:=230) 230 rfl h2]
 refine⟨λh'=>aI false ?_,λh'=>⟨Bl mL mB z0,Bm z0,⟨0,rfl,gX _,λj hj=>by omega⟩,?_⟩⟩
 ·rw[gW]at h';unfold hS;rw[h'];simp
 rw[nD]at h'
 rintro z4 d0 d1 ⟨i,e,hi,hall⟩ z5 aZ e1 h5
 obtain rfl:z4=i:=by simpa using e
 simp only[au]at h5
 refine⟨λhp=>?_,λhp=>aI true ?_⟩
 ·have hp:(i:Int)<z5:=by simpa using hp
  have hlt:i<(U z0).length:=by omega
  have hc1:ab 1 [z0,(i:Int)]:=⟨d0,by omega⟩
  have hK:¬sI mL mB (U z0) i->aY SB [.bool] 30 [[z0]] [[aL false]]:=λhn=>aI false (by unfold hS;rw[aaf hlt hn];simp)
  have hA:sI mL mB (U z0) i->H6 (Bl mL mB z0) (Bm z0) i:=VA a1 hlt hall
  have cL:mB ((U z0).getD i 0)=true->_:=λhe=>auy hlt he (by unfold mL;rw[he];simp) hK hA
  refine⟨hc1,λz6 f0 f1 h6=>?_⟩
  try dsimp only
  rw[uZ (n:=46) (k:=i) rfl (by decide) (by decide) h6]
  refine⟨λl4=>?_,λl4=>?_⟩
  ·have hs:=cL (by unfold mB;rw[show((U z0).getD i 0==46)=true from l4];rfl)
   refine⟨hc1,λz7 g0 g1 h7 z8 i0 i1 bD=>⟨λ_=>⟨hc1,λz9 ew dk bg aj fA k1 b9=>⟨λ_=>⟨hc1,λak cq l1 cH z12 m0 fW dw=>⟨λ_=>hs,λ_=>hs⟩⟩,λ_=>hs⟩⟩,λ_=>hs⟩⟩
  ·refine⟨hc1,λz7 g0 g1 h7=>⟨hc1,λz8 i0 i1 bD z9 ew dk bg=>?_⟩⟩
   have QZ:¬(U z0).getD i 0=46:=λe=>by
    have:((U z0).getD i 0==u8 46)=true:=beq_iff_eq.2 e
    rw[this]at l4;cases l4
   have agf:=uZ (n:=45) (k:=i) rfl (by decide) (by decide) h7
   try dsimp only
   rw[agf]
   have mF:(kM ((U z0).getD i 0)=true∨kL ((U z0).getD i 0)=true∨ej ((U z0).getD i 0)=true)->_:=λgP=>And.intro (λpM:((U z0).getD i 0==u8 45)=true=>cL (by unfold mB;rw[show((U z0).getD i 0==45)=true from pM];simp)) (λpM:((U z0).getD i 0==u8 45)=false=>hA ⟨(by
    unfold mL
    rcases gP with h|h|h<;>rw[h]<;>simp),(λhe=>by
    unfold mB at he
    rw[show((U z0).getD i 0==45)=false from pM,show((U z0).getD i 0==46)=false from l4]at he
    cases he),λai=>QZ ai.1⟩)
   try dsimp only
   rw[MO (f:=kM) (k:=i) rfl bD bg]
   refine⟨λapw=>⟨hc1,λaj fA k1 b9 ak cq l1 cH=>?_⟩,λai2=>mF (.inl (by simpa using ai2))⟩
   try dsimp only
   rw[MO (f:=kL) (k:=i) rfl b9 cH]
   refine⟨λapv=>⟨hc1,λz12 m0 fW dw ad n0 n1 dj=>?_⟩,λaiR=>mF (.inr (.inl (by simpa using aiR)))⟩
   try dsimp only
   rw[MO (f:=ej) (k:=i) rfl dw dj]
   refine⟨λapu=>⟨λZ2=>hK λho=>?_,λpM=>?_⟩,λaiO=>mF (.inr (.inr (by simpa using aiO)))⟩
   ·have cN:=ho.1
    unfold mL mB at cN
    rw[show kM ((U z0).getD i 0)=false by simpa using apw,show kL ((U z0).getD i 0)=false by simpa using apv,show ej ((U z0).getD i 0)=false by simpa using apu,show((U z0).getD i 0==45)=false from by rw[gW]at Z2;exact Z2,show((U z0).getD i 0==46)=false from l4]at cN
    cases cN
   ·rw[nD]at pM
    have hs:=cL (by unfold mB;rw[show((U z0).getD i 0==45)=true from pM];simp)
    exact⟨λ_=>hs,λh=>by rw[pM]at h;cases h⟩
 ·have hp:¬(i:Int)<z5:=by simpa using hp
  unfold hS
  try dsimp only
  rw[h,h',(Q7 mL mB (U z0)).2 λj hj=>hall j (by omega)];rfl
def UD (S:Nat->List (List Int)->List (List Int)->Prop) (K:List (List Int)->List (List Int)->Prop):Prop:=
 bO λz0=>aK 0 [z0] λag=>(aq (decide (ag<1)) (K [[z0]] [[(cond (false) 1 0)]]) (aK 0 [z0] λz2=>(aq (decide (64<z2)) (K [[z0]] [[(cond (false)
 1 0)]]) (∃(e5:List (List Int)->Prop) (dB:List (List Int)->Nat),e5 [[0]]/\(dH λz4=>e5 [[z4]]->aK 0 [z0] λz5=>(aq (decide (z4<z5)) (ab
 1 [z0,z4]/\av 1 [z0,z4] λz6=>(aq (decide (97<=z6)) ((aq (decide (z6<=122)) (∃(fN:List (List Int)->Prop) (fZ:List (List Int)->Nat),fN [[0],[1]]
 /\(dH λz8=>bz λz9=>fN [[z8],[z9]]->(aq (decide (z8<19)) ((aq (decide (z9=1)) ((fN [[(z8+1)],[1]]/\fZ [[(z8+1)],[1]]<fZ [[z8],[z9]]))
 (ab 1 [1112275947084288557575193961879115365961291049,z8]/\av 1 [1112275947084288557575193961879115365961291049,z8] λaj=>bz λak=>decide (aj=
 z6)=decide (ak=1)->(fN [[(z8+1)],[ak]]/\fZ [[(z8+1)],[ak]]<fZ [[z8],[z9]])))) ((aq ((!(decide (z9=1)))) (K [[z0]] [[(cond (false) 1 0)]]) (bt
 (z4+9223372036854775809) 18446744073709551616 λaj=>ab 39 [((z4+((-18446744073709551616)*aj))+1),0,9223372036854775807]/\(e5 [[((z4+
 ((-18446744073709551616)*aj))+1)]]/\dB [[((z4+((-18446744073709551616)*aj))+1)]]<dB [[z4]]))))))) (∃(fN:List (List Int)->Prop) (fZ:List
 (List Int)->Nat),fN [[0],[0]]/\(dH λz8=>bz λz9=>fN [[z8],[z9]]->(aq (decide (z8<19)) ((aq (decide (z9=1)) ((fN [[(z8+1)],[1]]/\fZ [[(z8+
 1)],[1]]<fZ [[z8],[z9]])) (ab 1 [1112275947084288557575193961879115365961291049,z8]/\av 1 [1112275947084288557575193961879115365961291049,z8] λaj=>
 bz λak=>decide (aj=z6)=decide (ak=1)->(fN [[(z8+1)],[ak]]/\fZ [[(z8+1)],[ak]]<fZ [[z8],[z9]])))) ((aq ((!(decide (z9=1)))) (K [[z0]]
 [[(cond (false) 1 0)]]) (bt (z4+9223372036854775809) 18446744073709551616 λaj=>ab 39 [((z4+((-18446744073709551616)*aj))+
 1),0,9223372036854775807]/\(e5 [[((z4+((-18446744073709551616)*aj))+1)]]/\dB [[((z4+((-18446744073709551616)*aj))+1)]]<dB [[z4]])))))))))
 ((aq (decide (65<=z6)) ((aq (decide (z6<=90)) (∃(fN:List (List Int)->Prop) (fZ:List (List Int)->Nat),fN [[0],[1]]/\(dH λz8=>bz λz9=>fN
 [[z8],[z9]]->(aq (decide (z8<19)) ((aq (decide (z9=1)) ((fN [[(z8+1)],[1]]/\fZ [[(z8+1)],[1]]<fZ [[z8],[z9]])) (ab 1
 [1112275947084288557575193961879115365961291049,z8]/\av 1 [1112275947084288557575193961879115365961291049,z8] λaj=>bz λak=>decide (aj=z6)=
 decide (ak=1)->(fN [[(z8+1)],[ak]]/\fZ [[(z8+1)],[ak]]<fZ [[z8],[z9]])))) ((aq ((!(decide (z9=1)))) (K [[z0]] [[(cond (false) 1 0)]]) (bt (z4+
 9223372036854775809) 18446744073709551616 λaj=>ab 39 [((z4+((-18446744073709551616)*aj))+1),0,9223372036854775807]/\(e5 [[((z4+
 ((-18446744073709551616)*aj))+1)]]/\dB [[((z4+((-18446744073709551616)*aj))+1)]]<dB [[z4]]))))))) (∃(fN:List (List Int)->Prop) (fZ:List
 (List Int)->Nat),fN [[0],[0]]/\(dH λz8=>bz λz9=>fN [[z8],[z9]]->(aq (decide (z8<19)) ((aq (decide (z9=1)) ((fN [[(z8+1)],[1]]/\fZ [[(z8+
 1)],[1]]<fZ [[z8],[z9]])) (ab 1 [1112275947084288557575193961879115365961291049,z8]/\av 1 [1112275947084288557575193961879115365961291049,z8] λaj=>
 bz λak=>decide (aj=z6)=decide (ak=1)->(fN [[(z8+1)],[ak]]/\fZ [[(z8+1)],[ak]]<fZ [[z8],[z9]])))) ((aq ((!(decide (z9=1)))) (K [[z0]]
 [[(cond (false) 1 0)]]) (bt (z4+9223372036854775809) 18446744073709551616 λaj=>ab 39 [((z4+((-18446744073709551616)*aj))+
 1),0,9223372036854775807]/\(e5 [[((z4+((-18446744073709551616)*aj))+1)]]/\dB [[((z4+((-18446744073709551616)*aj))+1)]]<dB [[z4]])))))))))
 ((aq (decide (48<=z6)) (bz λz7=>decide (z6<=57)=decide (z7=1)->∃(e6:List (List Int)->Prop) (gI:List (List Int)->Nat),e6 [[0],[z7]]/\(dH
 λz9=>bz λaj=>e6 [[z9],[aj]]->(aq (decide (z9<19)) ((aq (decide (aj=1)) ((e6 [[(z9+1)],[1]]/\gI [[(z9+1)],[1]]<gI [[z9],[aj]])) (ab
 1 [1112275947084288557575193961879115365961291049,z9]/\av 1 [1112275947084288557575193961879115365961291049,z9] λak=>bz λz12=>decide (ak=z6)=
 decide (z12=1)->(e6 [[(z9+1)],[z12]]/\gI [[(z9+1)],[z12]]<gI [[z9],[aj]])))) ((aq ((!(decide (aj=1)))) (K [[z0]] [[(cond (false) 1 0)]]) (bt (z4
 +9223372036854775809) 18446744073709551616 λak=>ab 39 [((z4+((-18446744073709551616)*ak))+1),0,9223372036854775807]/\(e5 [[((z4+
 ((-18446744073709551616)*ak))+1)]]/\dB [[((z4+((-18446744073709551616)*ak))+1)]]<dB [[z4]]))))))) (∃(fN:List (List Int)->Prop) (fZ:List
 (List Int)->Nat),fN [[0],[0]]/\(dH λz8=>bz λz9=>fN [[z8],[z9]]->(aq (decide (z8<19)) ((aq (decide (z9=1)) ((fN [[(z8+1)],[1]]/\fZ [[(z8+
 1)],[1]]<fZ [[z8],[z9]])) (ab 1 [1112275947084288557575193961879115365961291049,z8]/\av 1 [1112275947084288557575193961879115365961291049,z8] λaj=>
 bz λak=>decide (aj=z6)=decide (ak=1)->(fN [[(z8+1)],[ak]]/\fZ [[(z8+1)],[ak]]<fZ [[z8],[z9]])))) ((aq (decide (z6=46)) ((aq (decide
 (0<z4)) (aK 0 [z0] λaj=>(aq (decide (z4<(aj+(-1)))) (ab 1 [z0,(z4+(-1))]/\av 1 [z0,(z4+(-1))] λak=>(aq (decide (ak=46)) (K [[z0]]
 [[(cond (false) 1 0)]]) (bt (z4+9223372036854775809) 18446744073709551616 λz12=>ab 39 [((z4+((-18446744073709551616)*z12))+
 1),0,9223372036854775807]/\(e5 [[((z4+((-18446744073709551616)*z12))+1)]]/\dB [[((z4+((-18446744073709551616)*z12))+1)]]<dB [[z4]])))) (K
 [[z0]] [[(cond (false) 1 0)]]))) (K [[z0]] [[(cond (false) 1 0)]]))) ((aq ((!(decide (z9=1)))) (K [[z0]] [[(cond (false) 1 0)]]) (bt (z4+9223372036854775809)
 18446744073709551616 λaj=>ab 39 [((z4+((-18446744073709551616)*aj))+1),0,9223372036854775807]/\(e5 [[((z4+((-18446744073709551616)*aj))+
 1)]]/\dB [[((z4+((-18446744073709551616)*aj))+1)]]<dB [[z4]]))))))))))))))) (K [[z0]] [[(cond (true) 1 0)]])))))))
def cls (c:UInt8):Bool:=kM c||kL c||ej c
theorem afT {z:Int} {c:UInt8} (h:z=(c.toNat:Int)):cls c=decide ((97<=z/\z<=122)∨(65<=z/\z<=90)∨(48<=z/\z<=57)):=by
 try dsimp only
 rw[h];unfold cls kM kL ej
 try dsimp only
 rw[iv]
 simp only[sZ,aS,oS,decide_eq_true_eq]
 omega
theorem Zn:U 1112275947084288557575193961879115365961291049=AS:=by decide+kernel
theorem DG {c:UInt8} {z6 z7:Int} (h6:z6=(c.toNat:Int)) (z70:0<=z7) (kW:z7<=1) {E:Int->Prop} (kE:∀z9,0<=z9->z9<=1->z9=aL (decide (z7=1)||AS.contains c)->E z9):
 ∃(fN:List (List Int)->Prop) (fZ:List (List Int)->Nat),fN [[0],[z7]]/\(∀z8:Int,0<=z8->z8<=9223372036854775807->∀z9:Int,0<=z9->z9<=1->fN [[z8],[z9]]->
  (((decide (z8<19))=true->
   (((decide (z9=1))=true->
    (fN [[(z8+1)],[1]]/\fZ [[(z8+1)],[1]]<fZ [[z8],[z9]])
   )/\((decide (z9=1))=false->
    ab 1 [1112275947084288557575193961879115365961291049,z8]/\
    ∀aj:Int,0<=aj->aj<=255->aj=au 1 [1112275947084288557575193961879115365961291049,z8]->
    ∀ak:Int,0<=ak->ak<=1->decide (aj=z6)=decide (ak=1)->
    (fN [[(z8+1)],[ak]]/\fZ [[(z8+1)],[ak]]<fZ [[z8],[z9]])
   ))
  )/\((decide (z8<19))=false->
   E z9
  ))
 ):=by
 have agc:∀z:Int,0<=z->z<=1->z=aL (decide (z=1)):=λz h0 h1=>by
  rcases(show z=0∨z=1 by omega)with rfl|rfl<;>rfl
 refine⟨λbl=>∃(k:Nat) (z:Int),bl=[[(k:Int)],[z]]/\k<=19/\decide (z=1)=(decide (z7=1)||(AS.take k).contains c),λbl=>19-((bl.getD 0 []).getD 0 0).toNat,⟨0,z7,rfl,by omega,by simp⟩,?_⟩
 rintro z8 a0 a1 z9 b0 b1 ⟨k,z,e,hk,hz⟩
 obtain⟨rfl,rfl⟩:z8=k/\z9=z:=by simpa using e
 have qD:AS.length=19:=by decide
 refine⟨λhp=>?_,λhp=>kE z9 b0 b1 ?_⟩
 ·have hp:(k:Int)<19:=by simpa using hp
  have hlt:k<AS.length:=by omega
  refine⟨λh1=>⟨⟨k+1,1,by simp,by omega,?_⟩,by show 19-((k:Int)+1).toNat<19-(k:Int).toNat;omega⟩,λh1=>⟨⟨a0,by rw[Zn];omega⟩,λaj bC c1 b9 ak d0 d1 cH=>⟨⟨k+1,ak,by simp,by omega,?_⟩,by show 19-((k:Int)+1).toNat<19-(k:Int).toNat;omega⟩⟩⟩
  ·try dsimp only
   rw[Nl _ _ _ hlt,<-azK,<-hz,h1];rfl
  ·try dsimp only
   rw[Nl _ _ _ hlt,<-azK,<-hz,h1,sX,<-cH,b9,h6]
   simp only[au,Zn,gu]
   try dsimp only
   rw[iv,decide_eq_true_eq,beq_iff_eq,<-S2]
   omega
 ·have hp:¬(k:Int)<19:=by simpa using hp
  rw[jd (by omega)]at hz
  try dsimp only
  rw[agc z9 b0 b1,hz]
theorem asC:UD SB (aY SB [.bool] 29):=by
 intro z0 a0 a1 ag b0 b1 h1
 have aI:∀b:Bool,mc (U z0)=b->aY SB [.bool] 29 [[z0]] [[aL b]]:=λb h=>l9 (by show aL b=aL (mc (U z0));rw[h])
 try dsimp only
 rw[one_le h1]
 refine⟨λh=>aI false ?_,λh z2 bC c1 h2=>?_⟩
 ·rw[gW]at h;unfold mc;rw[h];rfl
 rw[nD]at h
 try dsimp only
 rw[xJ (n:=64) 64 rfl h2]
 refine⟨λh'=>aI false ?_,λh'=>⟨Bl pV (·==46) z0,Bm z0,⟨0,rfl,gX _,λj hj=>by omega⟩,?_⟩⟩
 ·rw[gW]at h';unfold mc;rw[h'];simp
 rw[nD]at h'
 rintro z4 d0 d1 ⟨i,e,hi,hall⟩ z5 aZ e1 h5
 obtain rfl:z4=i:=by simpa using e
 simp only[au]at h5
 refine⟨λhp=>?_,λhp=>aI true ?_⟩
 ·have hp:(i:Int)<z5:=by simpa using hp
  have hlt:i<(U z0).length:=by omega
  have hc1:ab 1 [z0,(i:Int)]:=⟨d0,by omega⟩
  have hK:¬sI pV (·==46) (U z0) i->aY SB [.bool] 29 [[z0]] [[aL false]]:=λhn=>aI false (by unfold mc;rw[aaf hlt hn];simp)
  have hA:sI pV (·==46) (U z0) i->H6 (Bl pV (·==46) z0) (Bm z0) i:=VA a1 hlt hall
  refine⟨hc1,λz6 f0 f1 h6=>?_⟩
  have h6:z6=(((U z0).getD i 0).toNat:Int):=by rw[h6];simp only[au,gu]
  have Wx:=rI (b:=(U z0).getD i 0) (z:=46) (by decide) (by decide)
  have kE:¬z6=46->∀z9:Int,z9=aL (cls ((U z0).getD i 0)||AS.contains ((U z0).getD i 0))->(((!decide (z9=1))=true->aY SB [.bool] 29 [[z0]] [[aL false]])/\((!decide (z9=1))=false->H6 (Bl pV (·==46) z0) (Bm z0) i)):=λQZ z9 bg=>by
   have Kq:((U z0).getD i 0==46)=false:=by
    cases ai:((U z0).getD i 0==46)with
    |false=>rfl
    |true=>exact absurd (h6.trans (Wx.2 ai)) QZ
   try dsimp only
   rw[eb bg]
   refine⟨λhx=>hK λho=>?_,λhx=>hA ⟨?_,λhe=>?_,λai=>?_⟩⟩
   ·have cN:=ho.1
    rw[gW]at hx
    unfold pV at cN;unfold cls at hx
    rw[hx,Kq]at cN;cases cN
   ·rw[nD]at hx
    unfold pV;unfold cls at hx;rw[hx];rfl
   ·have he:((U z0).getD i 0==46)=true:=he
    rw[Kq]at he;cases he
   ·rw[ai.1]at Kq;cases Kq
  have kG:=afT h6
  refine⟨λnP=>⟨λFo=>?_,λFo=>?_⟩,λnP=>⟨λu7=>⟨λFq=>?_,λFq=>?_⟩,λu7=>⟨λw9 z7 g0 g1 h7=>?_,λw9=>?_⟩⟩⟩
  ·have nP:97<=z6:=by simpa using nP
   have Fo:z6<=122:=by simpa using Fo
   refine DG h6 (by decide) (by decide) λz9 i0 i1 bg=>kE (by omega) z9 ?_
   try dsimp only
   rw[bg,kG];congr 2;simp;omega
  ·have nP:97<=z6:=by simpa using nP
   have Fo:¬z6<=122:=by simpa using Fo
   refine DG h6 (by decide) (by decide) λz9 i0 i1 bg=>kE (by omega) z9 ?_
   try dsimp only
   rw[bg,kG];congr 2;simp;omega
  ·have nP:¬97<=z6:=by simpa using nP
   have u7:65<=z6:=by simpa using u7
   have Fq:z6<=90:=by simpa using Fq
   refine DG h6 (by decide) (by decide) λz9 i0 i1 bg=>kE (by omega) z9 ?_
   try dsimp only
   rw[bg,kG];congr 2;simp;omega
  ·have nP:¬97<=z6:=by simpa using nP
   have u7:65<=z6:=by simpa using u7
   have Fq:¬z6<=90:=by simpa using Fq
   refine DG h6 (by decide) (by decide) λz9 i0 i1 bg=>kE (by omega) z9 ?_
   try dsimp only
   rw[bg,kG];congr 2;simp;omega
  ·have nP:¬97<=z6:=by simpa using nP
   have u7:¬65<=z6:=by simpa using u7
   have w9:48<=z6:=by simpa using w9
   refine DG h6 g0 g1 λz9 i0 i1 bg=>kE (by omega) z9 ?_
   try dsimp only
   rw[bg,kG,<-h7];congr 2;rw[iv,decide_eq_true_eq,decide_eq_true_eq];omega
  ·have nP:¬97<=z6:=by simpa using nP
   have u7:¬65<=z6:=by simpa using u7
   have w9:¬48<=z6:=by simpa using w9
   refine DG h6 (by decide) (by decide) λz9 i0 i1 bg=>⟨λl4=>?_,λl4=>?_⟩
   ·have l4:z6=46:=by simpa using l4
    have hc:(U z0).getD i 0=46:=beq_iff_eq.1 (Wx.1 (by omega))
    have cN:pV ((U z0).getD i 0)=true:=by rw[hc];decide
    refine⟨λnS aj ew dk b9=>?_,λnS=>hK λho=>?_⟩
    ·have nS:0<(i:Int):=by simpa using nS
     simp only[au]at b9
     refine⟨λhl=>⟨⟨by omega,by omega⟩,λak fA k1 cH=>?_⟩,λhl=>hK λho=>?_⟩
     ·have hl:(i:Int)<aj+-1:=by simpa using hl
      try dsimp only
      rw[uZ (n:=46) (k:=i-1) (by omega) (by decide) (by decide) cH]
      refine⟨λhq=>hK λho=>ho.2.2 ⟨hc,by omega,beq_iff_eq.1 hq⟩,λhq=>hA ⟨cN,λ_=>⟨by omega,by omega⟩,λai=>?_⟩⟩
      have:((U z0).getD (i-1) 0==u8 46)=true:=beq_iff_eq.2 ai.2.2
      rw[this]at hq;cases hq
     ·have hl:¬(i:Int)<aj+-1:=by simpa using hl
      have:=(ho.2.1 (beq_iff_eq.2 hc)).2
      omega
    ·have nS:¬0<(i:Int):=by simpa using nS
     have:=(ho.2.1 (beq_iff_eq.2 hc)).1
     omega
   ·have l4:¬z6=46:=by simpa using l4
    refine kE l4 z9 ?_
    try dsimp only
    rw[bg,kG];congr 2;simp;omega
 ·have hp:¬(i:Int)<z5:=by simpa using hp
  unfold mc
  try dsimp only
  rw[h,h',(Q7 pV (·==46) (U z0)).2 λj hj=>hall j (by omega)];rfl
def Uz (S:Nat->List (List Int)->List (List Int)->Prop) (K:List (List Int)->List (List Int)->Prop):Prop:=
 bO λz0=>∃(rX:List (List Int)->Prop) (yw:List (List Int)->Nat),rX [[z0]]/\(bO λz2=>rX [[z2]]->aK 0 [z2] λz3=>(aq (decide (0<z3))
 (ab 1 [z2,0]/\av 1 [z2,0] λz4=>(aq (decide (z4=32)) (aK 0 [z2] λz5=>ab 2 [z2,1,z5]/\bj 2 [z2,1,z5] λz6=>(rX [[z6]]/\yw [[z6]]<yw
 [[z2]])) (∃(dz:List (List Int)->Prop) (dg:List (List Int)->Nat),dz [[z2]]/\(bO λz6=>dz [[z6]]->aK 0 [z6] λz7=>(aq (decide (0<z7)) (aK
 0 [z6] λz8=>ab 1 [z6,(z8+(-1))]/\av 1 [z6,(z8+(-1))] λz9=>(aq (decide (z9=32)) (aK 0 [z6] λaj=>ab 2 [z6,0,(aj+(-1))]/\bj 2
 [z6,0,(aj+(-1))] λak=>(dz [[ak]]/\dg [[ak]]<dg [[z6]])) (∃(nF:List (List Int)->Prop) (pC:List (List Int)->Nat),nF [[0]]/\(dH λak
 =>nF [[ak]]->aK 0 [z6] λz12=>(aq (decide (ak<z12)) (ab 1 [z6,ak]/\av 1 [z6,ak] λad=>(aq (decide (ad=64)) (ab 2 [z6,0,ak]/\bj
 2 [z6,0,ak] λao=>bz λaz=>S 29 [[ao]] [[az]]->(aq (decide (az=1)) (bt (ak+9223372036854775809) 18446744073709551616 λaC=>aK 0 [z6]
 λaR=>ab 2 [z6,((ak+((-18446744073709551616)*aC))+1),aR]/\bj 2 [z6,((ak+((-18446744073709551616)*aC))+1),aR] λba=>bz λbh=>
 S 30 [[ba]] [[bh]]->(aq (decide (bh=1)) (bt (ak+9223372036854775809) 18446744073709551616 λz20=>aK 0 [z6] λz21=>ab 2 [z6,((ak+
 ((-18446744073709551616)*z20))+1),z21]/\bj 2 [z6,((ak+((-18446744073709551616)*z20))+1),z21] λz22=>bz λbU=>S 31 [[z22],[46]] [[bU]]->
 (aq (decide (bU=1)) (aK 0 [z6] λz24=>(aq (decide (z24<=254)) (bO λaO=>S 17 [[z6]] [[aO]]->K [[z0]] [[aO],[0]]) (K [[z0]] [[0],[2]]))) (K
 [[z0]] [[0],[2]]))) (K [[z0]] [[0],[2]]))) (K [[z0]] [[0],[2]]))) (bt (ak+9223372036854775809) 18446744073709551616 λao=>ab 39 [((ak+
 ((-18446744073709551616)*ao))+1),0,9223372036854775807]/\(nF [[((ak+((-18446744073709551616)*ao))+1)]]/\pC [[((ak+((-18446744073709551616)
 *ao))+1)]]<pC [[ak]])))) (K [[z0]] [[0],[2]])))))) (∃(e6:List (List Int)->Prop) (gI:List (List Int)->Nat),e6 [[0]]/\(dH λz9=>e6 [[z9]]->
 aK 0 [z6] λaj=>(aq (decide (z9<aj)) (ab 1 [z6,z9]/\av 1 [z6,z9] λak=>(aq (decide (ak=64)) (ab 2 [z6,0,z9]/\bj 2 [z6,0,z9] λz12=>
 bz λad=>S 29 [[z12]] [[ad]]->(aq (decide (ad=1)) (bt (z9+9223372036854775809) 18446744073709551616 λao=>aK 0 [z6] λaz=>ab 2 [z6,((z9
 +((-18446744073709551616)*ao))+1),az]/\bj 2 [z6,((z9+((-18446744073709551616)*ao))+1),az] λaC=>bz λaR=>S 30 [[aC]] [[aR]]->(aq
 (decide (aR=1)) (bt (z9+9223372036854775809) 18446744073709551616 λba=>aK 0 [z6] λbh=>ab 2 [z6,((z9+((-18446744073709551616)*ba))+
 1),bh]/\bj 2 [z6,((z9+((-18446744073709551616)*ba))+1),bh] λz20=>bz λz21=>S 31 [[z20],[46]] [[z21]]->(aq (decide (z21=1)) (aK 0 [z6]
 λz22=>(aq (decide (z22<=254)) (bO λbU=>S 17 [[z6]] [[bU]]->K [[z0]] [[bU],[0]]) (K [[z0]] [[0],[2]]))) (K [[z0]] [[0],[2]]))) (K [[z0]]
 [[0],[2]]))) (K [[z0]] [[0],[2]]))) (bt (z9+9223372036854775809) 18446744073709551616 λz12=>ab 39 [((z9+((-18446744073709551616)*z12))+
 1),0,9223372036854775807]/\(e6 [[((z9+((-18446744073709551616)*z12))+1)]]/\gI [[((z9+((-18446744073709551616)*z12))+1)]]<gI [[z9]])))) (K
 [[z0]] [[0],[2]]))))))))) (∃(eB:List (List Int)->Prop) (eg:List (List Int)->Nat),eB [[z2]]/\(bO λz5=>eB [[z5]]->aK 0 [z5] λz6=>(aq
 (decide (0<z6)) (aK 0 [z5] λz7=>ab 1 [z5,(z7+(-1))]/\av 1 [z5,(z7+(-1))] λz8=>(aq (decide (z8=32)) (aK 0 [z5] λz9=>ab 2 [z5,0,(z9
 +(-1))]/\bj 2 [z5,0,(z9+(-1))] λaj=>(eB [[aj]]/\eg [[aj]]<eg [[z5]])) (∃(wD:List (List Int)->Prop) (Bg:List (List Int)->Nat),wD [[0]]
 /\(dH λaj=>wD [[aj]]->aK 0 [z5] λak=>(aq (decide (aj<ak)) (ab 1 [z5,aj]/\av 1 [z5,aj] λz12=>(aq (decide (z12=64)) (ab 2
 [z5,0,aj]/\bj 2 [z5,0,aj] λad=>bz λao=>S 29 [[ad]] [[ao]]->(aq (decide (ao=1)) (bt (aj+9223372036854775809) 18446744073709551616 λ
 az=>aK 0 [z5] λaC=>ab 2 [z5,((aj+((-18446744073709551616)*az))+1),aC]/\bj 2 [z5,((aj+((-18446744073709551616)*az))+1),aC] λ
 aR=>bz λba=>S 30 [[aR]] [[ba]]->(aq (decide (ba=1)) (bt (aj+9223372036854775809) 18446744073709551616 λbh=>aK 0 [z5] λz20=>ab 2
 [z5,((aj+((-18446744073709551616)*bh))+1),z20]/\bj 2 [z5,((aj+((-18446744073709551616)*bh))+1),z20] λz21=>bz λz22=>S 31 [[z21],[46]]
 [[z22]]->(aq (decide (z22=1)) (aK 0 [z5] λbU=>(aq (decide (bU<=254)) (bO λz24=>S 17 [[z5]] [[z24]]->K [[z0]] [[z24],[0]]) (K [[z0]]
 [[0],[2]]))) (K [[z0]] [[0],[2]]))) (K [[z0]] [[0],[2]]))) (K [[z0]] [[0],[2]]))) (bt (aj+9223372036854775809) 18446744073709551616 λad=>ab 39 [((aj
 +((-18446744073709551616)*ad))+1),0,9223372036854775807]/\(wD [[((aj+((-18446744073709551616)*ad))+1)]]/\Bg [[((aj+((-18446744073709551616)
 *ad))+1)]]<Bg [[aj]])))) (K [[z0]] [[0],[2]])))))) (∃(fN:List (List Int)->Prop) (fZ:List (List Int)->Nat),fN [[0]]/\(dH λz8=>fN [[z8]]->
 aK 0 [z5] λz9=>(aq (decide (z8<z9)) (ab 1 [z5,z8]/\av 1 [z5,z8] λaj=>(aq (decide (aj=64)) (ab 2 [z5,0,z8]/\bj 2 [z5,0,z8] λak=>
 bz λz12=>S 29 [[ak]] [[z12]]->(aq (decide (z12=1)) (bt (z8+9223372036854775809) 18446744073709551616 λad=>aK 0 [z5] λao=>ab 2 [z5,((z8
 +((-18446744073709551616)*ad))+1),ao]/\bj 2 [z5,((z8+((-18446744073709551616)*ad))+1),ao] λaz=>bz λaC=>S 30 [[az]] [[aC]]->(aq
 (decide (aC=1)) (bt (z8+9223372036854775809) 18446744073709551616 λaR=>aK 0 [z5] λba=>ab 2 [z5,((z8+((-18446744073709551616)*aR))+
 1),ba]/\bj 2 [z5,((z8+((-18446744073709551616)*aR))+1),ba] λbh=>bz λz20=>S 31 [[bh],[46]] [[z20]]->(aq (decide (z20=1)) (aK 0 [z5]
 λz21=>(aq (decide (z21<=254)) (bO λz22=>S 17 [[z5]] [[z22]]->K [[z0]] [[z22],[0]]) (K [[z0]] [[0],[2]]))) (K [[z0]] [[0],[2]]))) (K [[z0]]
 [[0],[2]]))) (K [[z0]] [[0],[2]]))) (bt (z8+9223372036854775809) 18446744073709551616 λak=>ab 39 [((z8+((-18446744073709551616)*ak))+
 1),0,9223372036854775807]/\(fN [[((z8+((-18446744073709551616)*ak))+1)]]/\fZ [[((z8+((-18446744073709551616)*ak))+1)]]<fZ [[z8]])))) (K
 [[z0]] [[0],[2]])))))))))
theorem abi (p:UInt8->Bool) (x:UInt8) (r:aH):gn p (x::r)=cond ((gn p r).isEmpty) (cond (p x) [] [x]) (x::gn p r):=by
 unfold gn
 try dsimp only
 rw[List.reverse_cons,List.dropWhile_append]
 cases hd:r.reverse.dropWhile p with
 |nil=>cases hp:p x<;>simp[pz,hp]
 |cons y t=>
  have e:((y::t).reverse).isEmpty=false:=by
   cases h:(y::t).reverse with
   |nil=>simp at h
   |cons a b=>rfl
  try dsimp only
  rw[e,if_neg (by simp)]
  simp
theorem abj (p:UInt8->Bool):∀s:aH,gn p (fI p s)=fI p (gn p s)
 |[]=>rfl
 |x::r=>by
  have ih:=abj p r
  try dsimp only
  rw[abi]
  cases hp:p x with
  |true=>
   have e:fI p (x::r)=fI p r:=by simp[fI,pz,hp]
   try dsimp only
   rw[e,ih]
   cases hr:gn p r with
   |nil=>simp[fI]
   |cons y t=>simp[fI,pz,hp]
  |false=>
   have e:fI p (x::r)=x::r:=by simp[fI,pz,hp]
   try dsimp only
   rw[e,abi]
   cases hr:gn p r with
   |nil=>simp[fI,pz,hp]
   |cons y t=>simp[fI,pz,hp]
theorem Y6 {c:Int} (h0:0<=c) (h1:c<=255) {l:aH} {i:Nat} (hi:i<l.length) (he:l.getD i 0=u8 c) (hb:∀j,j<i->l.getD j 0≠u8 c):idx c l=(i:Int):=by
 rcases GA h0 h1 l with⟨_,h2⟩|⟨h2,h3,h4,_,h5⟩
 ·refine absurd ?_ h2
  try dsimp only
  rw[<-he]
  simp[ae,hi]
 ·rcases acx i (idx c l).toNat with h|h|h
  ·exact absurd he (h5 i h)
  ·omega
  ·exact absurd h4 (hb _ h)
theorem Y8 {c:Int} (h0:0<=c) (h1:c<=255) {l:aH} (hb:∀j,j<l.length->l.getD j 0≠u8 c):idx c l=-1:=by
 rcases GA h0 h1 l with⟨h2,_⟩|⟨h2,h3,h4,_,h5⟩
 ·exact h2
 ·exact absurd h4 (hb _ h3)
theorem atF {z0 z6:Int} (a1:z6<=bM) (hz:ql (U z0)=tv (U z6)):
 ∃(nF:List (List Int)->Prop) (pC:List (List Int)->Nat),nF [[0]]/\(∀ak:Int,0<=ak->ak<=9223372036854775807->nF [[ak]]->
  ∀z12:Int,0<=z12->z12<=9223372036854775807->z12=au 0 [z6]->
  (((decide (ak<z12))=true->
   ab 1 [z6,ak]/\
   ∀ad:Int,0<=ad->ad<=255->ad=au 1 [z6,ak]->
   (((decide (ad=64))=true->
    ab 2 [z6,0,ak]/\
    ∀ao:Int,0<=ao->ao<=bM->ao=au 2 [z6,0,ak]->
    ∀az:Int,0<=az->az<=1->SB 29 [[ao]] [[az]]->
    (((decide (az=1))=true->
     ∀aC:Int,0<=aC->aC<=1->0<=(ak+9223372036854775809)-18446744073709551616*aC->(ak+9223372036854775809)-18446744073709551616*aC<18446744073709551616->
     ∀aR:Int,0<=aR->aR<=9223372036854775807->aR=au 0 [z6]->
     ab 2 [z6,((ak+((-18446744073709551616)*aC))+1),aR]/\
     ∀ba:Int,0<=ba->ba<=bM->ba=au 2 [z6,((ak+((-18446744073709551616)*aC))+1),aR]->
     ∀bh:Int,0<=bh->bh<=1->SB 30 [[ba]] [[bh]]->
     (((decide (bh=1))=true->
      ∀z20:Int,0<=z20->z20<=1->0<=(ak+9223372036854775809)-18446744073709551616*z20->(ak+9223372036854775809)-18446744073709551616*z20<18446744073709551616->
      ∀z21:Int,0<=z21->z21<=9223372036854775807->z21=au 0 [z6]->
      ab 2 [z6,((ak+((-18446744073709551616)*z20))+1),z21]/\
      ∀z22:Int,0<=z22->z22<=bM->z22=au 2 [z6,((ak+((-18446744073709551616)*z20))+1),z21]->
      ∀bU:Int,0<=bU->bU<=1->SB 31 [[z22],[46]] [[bU]]->
      (((decide (bU=1))=true->
       ∀z24:Int,0<=z24->z24<=9223372036854775807->z24=au 0 [z6]->
       (((decide (z24<=254))=true->
        ∀aO:Int,0<=aO->aO<=bM->SB 17 [[z6]] [[aO]]->
        aY SB [.str,.int .i64 0 21] 11 [[z0]] [[aO],[0]]
       )/\((decide (z24<=254))=false->
        aY SB [.str,.int .i64 0 21] 11 [[z0]] [[0],[2]]
       ))
      )/\((decide (bU=1))=false->
       aY SB [.str,.int .i64 0 21] 11 [[z0]] [[0],[2]]
      ))
     )/\((decide (bh=1))=false->
      aY SB [.str,.int .i64 0 21] 11 [[z0]] [[0],[2]]
     ))
    )/\((decide (az=1))=false->
     aY SB [.str,.int .i64 0 21] 11 [[z0]] [[0],[2]]
    ))
   )/\((decide (ad=64))=false->
    ∀ao:Int,0<=ao->ao<=1->0<=(ak+9223372036854775809)-18446744073709551616*ao->(ak+9223372036854775809)-18446744073709551616*ao<18446744073709551616->
    ab 39 [((ak+((-18446744073709551616)*ao))+1),0,9223372036854775807]/\
    (nF [[((ak+((-18446744073709551616)*ao))+1)]]/\pC [[((ak+((-18446744073709551616)*ao))+1)]]<pC [[ak]])
   ))
  )/\((decide (ak<z12))=false->
   aY SB [.str,.int .i64 0 21] 11 [[z0]] [[0],[2]]
  ))
 ):=by
 have aI:tv (U z6)=([],2)->aY SB [.str,.int .i64 0 21] 11 [[z0]] [[0],[2]]:=λh=>xI (bX _) fv (by decide) (by decide) (by
  show(U 0,(2:Int))=ql (U z0)
  try dsimp only
  rw[hz,h];rfl)
 refine⟨λbl=>∃i:Nat,bl=[[(i:Int)]]/\i<=(U z6).length/\∀j,j<i->(U z6).getD j 0≠u8 64,λbl=>(U z6).length-((bl.getD 0 []).getD 0 0).toNat,⟨0,rfl,gX _,λj hj=>by omega⟩,?_⟩
 rintro ak b0 b1 ⟨i,e,hi,hall⟩ z12 bC c1 dw
 obtain rfl:ak=i:=by simpa using e
 simp only[au]at dw
 refine⟨λhp=>?_,λhp=>aI ?_⟩
 ·have hp:(i:Int)<z12:=by simpa using hp
  have hlt:i<(U z6).length:=by omega
  refine⟨⟨b0,by omega⟩,λad d0 d1 dj=>?_⟩
  try dsimp only
  rw[uZ (n:=64) (k:=i) rfl (by decide) (by decide) dj]
  refine⟨λpN=>⟨⟨by omega,b0,by omega⟩,λao aZ e1 dA az f0 f1 e0=>?_⟩,λpN q fJ bq bE b5=>?_⟩
  ·have hx:idx 64 (U z6)=(i:Int):=Y6 (by decide) (by decide) hlt (beq_iff_eq.1 pN) hall
   have BM:U ao=(U z6).take i:=by rw[dA];simp[au,fm]
   have e0:az=aL (mc (U ao)):=e0
   try dsimp only
   rw[eb e0,BM]
   have hd:∀q x,0<=q->0<=(i:Int)+9223372036854775809-18446744073709551616*q->z12=au 0 [z6]->x=au 2 [z6,((i:Int)+-18446744073709551616*q)+1,z12]->U x=(U z6).drop (i+1):=λq x fJ bE _ hx=>by
    rw[nx (L:=z12) hp c1 b0 fJ bE]at hx
    try dsimp only
    rw[hx];simp only[au,fm]
    try dsimp only
    rw[show((i:Int)+1).toNat=i+1 by omega]
    exact jd (by simp;omega)
   have iS:tv (U z6)=cond (bB (U z6).length 254&&mc ((U z6).take i)&&hS ((U z6).drop (i+1))&&((U z6).drop (i+1)).contains 46) (lower (U z6),0) ([],2):=by
    unfold tv
    try dsimp only
    rw[hx,show decide (0<=(i:Int))=true by simp,gu,rM]
   refine⟨λhl q fJ bq bE b5 aR g0 g1 ju=>?_,λhl=>aI (by rw[iS,hl];simp)⟩
   have aia:=ju
   simp only[au]at aia
   have I3:aR=z12:=by omega
   refine⟨?_,λba i0 i1 lq bh ew dk lr=>?_⟩
   ·try dsimp only
    rw[nx (L:=z12) hp c1 b0 fJ bE];exact⟨by omega,by omega,by omega⟩
   ·have EZ:=hd q ba fJ bE (by rw[<-I3];exact ju) (by rw[<-I3];exact lq)
    have lr:bh=aL (hS (U ba)):=lr
    try dsimp only
    rw[eb lr,EZ]
    refine⟨λai q' KN vQ rD sM z21 fA k1 l3=>?_,λai=>aI (by rw[iS,ai];simp)⟩
    have aib:=l3
    simp only[au]at aib
    have WH:z21=z12:=by omega
    refine⟨?_,λz22 cq l1 pL bU m0 fW jv=>?_⟩
    ·try dsimp only
     rw[nx (L:=z12) hp c1 b0 KN rD];exact⟨by omega,by omega,by omega⟩
    ·have age:=hd q' z22 KN rD (by rw[<-WH];exact l3) (by rw[<-WH];exact pL)
     have jv:bU=aL ((U z22).contains (u8 46)):=jv
     try dsimp only
     rw[eb jv,age]
     refine⟨λhc z24 n0 n1 ng=>?_,λhc=>aI (by rw[iS,show((U z6).drop (i+1)).contains 46=false from hc];simp)⟩
     try dsimp only
     rw[Ak (n:=254) 254 rfl ng]
     refine⟨λhq aO tY o1 kD=>xI tY o1 (by decide) (by decide) ?_,λhq=>aI (by rw[iS,hq];simp)⟩
     have kD:U aO=lower (U z6):=kD
     show(U aO,(0:Int))=ql (U z0)
     try dsimp only
     rw[hz,iS,hq,hl,ai,show((U z6).drop (i+1)).contains 46=true from hc,kD];rfl
  ·try dsimp only
   rw[nx (L:=z12) hp c1 b0 fJ bE]
   refine⟨⟨by omega,by omega⟩,⟨i+1,by simp,by omega,λj hj=>?_⟩,?_⟩
   ·by_cases hj':j=i
    ·subst hj';intro he;rw[he]at pN;simp at pN
    ·exact hall j (by omega)
   ·show(U z6).length-((i:Int)+1).toNat<(U z6).length-(i:Int).toNat
    omega
 ·have hp:¬(i:Int)<z12:=by simpa using hp
  have:=Y8 (c:=64) (by decide) (by decide) (l:=U z6) λj hj=>hall j (by omega)
  unfold tv;rw[this];rfl
theorem asy:Uz SB (aY SB [.str,.int .i64 0 21] 11):=by
 intro z0 a0 a1
 have two:∀z6:Int,z6<=bM->U z6=gn (·==32) (fI (·==32) (U z0))->_:=λz6 h1 he=>atF (z0:=z0) (z6:=z6) h1 (by unfold ql j8;rw[he,abj])
 have one:∀z2:Int,0<=z2->z2<=bM->U z2=fI (·==32) (U z0)->
  ∃(dz:List (List Int)->Prop) (dg:List (List Int)->Nat),dz [[z2]]/\(∀z6:Int,0<=z6->z6<=bM->dz [[z6]]->
   ∀z7:Int,0<=z7->z7<=9223372036854775807->z7=au 0 [z6]->
   (((decide (0<z7))=true->
    ∀z8:Int,0<=z8->z8<=9223372036854775807->z8=au 0 [z6]->
    ab 1 [z6,(z8+(-1))]/\
    ∀z9:Int,0<=z9->z9<=255->z9=au 1 [z6,(z8+(-1))]->
    (((decide (z9=32))=true->
     ∀aj:Int,0<=aj->aj<=9223372036854775807->aj=au 0 [z6]->
     ab 2 [z6,0,(aj+(-1))]/\
     ∀ak:Int,0<=ak->ak<=bM->ak=au 2 [z6,0,(aj+(-1))]->
     (dz [[ak]]/\dg [[ak]]<dg [[z6]])
    )/\((decide (z9=32))=false->
     ∃(nF:List (List Int)->Prop) (pC:List (List Int)->Nat),nF [[0]]/\(∀ak:Int,0<=ak->ak<=9223372036854775807->nF [[ak]]->
      ∀z12:Int,0<=z12->z12<=9223372036854775807->z12=au 0 [z6]->
      (((decide (ak<z12))=true->
       ab 1 [z6,ak]/\
       ∀ad:Int,0<=ad->ad<=255->ad=au 1 [z6,ak]->
       (((decide (ad=64))=true->
        ab 2 [z6,0,ak]/\
        ∀ao:Int,0<=ao->ao<=bM->ao=au 2 [z6,0,ak]->
        ∀az:Int,0<=az->az<=1->SB 29 [[ao]] [[az]]->
        (((decide (az=1))=true->
         ∀aC:Int,0<=aC->aC<=1->0<=(ak+9223372036854775809)-18446744073709551616*aC->(ak+9223372036854775809)-18446744073709551616*aC<18446744073709551616->
         ∀aR:Int,0<=aR->aR<=9223372036854775807->aR=au 0 [z6]->
         ab 2 [z6,((ak+((-18446744073709551616)*aC))+1),aR]/\
         ∀ba:Int,0<=ba->ba<=bM->ba=au 2 [z6,((ak+((-18446744073709551616)*aC))+1),aR]->
         ∀bh:Int,0<=bh->bh<=1->SB 30 [[ba]] [[bh]]->
         (((decide (bh=1))=true->
          ∀z20:Int,0<=z20->z20<=1->0<=(ak+9223372036854775809)-18446744073709551616*z20->(ak+9223372036854775809)-18446744073709551616*z20<18446744073709551616->
          ∀z21:Int,0<=z21->z21<=9223372036854775807->z21=au 0 [z6]->
          ab 2 [z6,((ak+((-18446744073709551616)*z20))+1),z21]/\
          ∀z22:Int,0<=z22->z22<=bM->z22=au 2 [z6,((ak+((-18446744073709551616)*z20))+1),z21]->
          ∀bU:Int,0<=bU->bU<=1->SB 31 [[z22],[46]] [[bU]]->
          (((decide (bU=1))=true->
           ∀z24:Int,0<=z24->z24<=9223372036854775807->z24=au 0 [z6]->
           (((decide (z24<=254))=true->
            ∀aO:Int,0<=aO->aO<=bM->SB 17 [[z6]] [[aO]]->
            aY SB [.str,.int .i64 0 21] 11 [[z0]] [[aO],[0]]
           )/\((decide (z24<=254))=false->
            aY SB [.str,.int .i64 0 21] 11 [[z0]] [[0],[2]]
           ))
          )/\((decide (bU=1))=false->
           aY SB [.str,.int .i64 0 21] 11 [[z0]] [[0],[2]]
          ))
         )/\((decide (bh=1))=false->
          aY SB [.str,.int .i64 0 21] 11 [[z0]] [[0],[2]]
         ))
        )/\((decide (az=1))=false->
         aY SB [.str,.int .i64 0 21] 11 [[z0]] [[0],[2]]
        ))
       )/\((decide (ad=64))=false->
        ∀ao:Int,0<=ao->ao<=1->0<=(ak+9223372036854775809)-18446744073709551616*ao->(ak+9223372036854775809)-18446744073709551616*ao<18446744073709551616->
        ab 39 [((ak+((-18446744073709551616)*ao))+1),0,9223372036854775807]/\
        (nF [[((ak+((-18446744073709551616)*ao))+1)]]/\pC [[((ak+((-18446744073709551616)*ao))+1)]]<pC [[ak]])
       ))
      )/\((decide (ak<z12))=false->
       aY SB [.str,.int .i64 0 21] 11 [[z0]] [[0],[2]]
      ))
     )
    ))
   )/\((decide (0<z7))=false->
    ∃(e6:List (List Int)->Prop) (gI:List (List Int)->Nat),e6 [[0]]/\(∀z9:Int,0<=z9->z9<=9223372036854775807->e6 [[z9]]->
     ∀aj:Int,0<=aj->aj<=9223372036854775807->aj=au 0 [z6]->
     (((decide (z9<aj))=true->
      ab 1 [z6,z9]/\
      ∀ak:Int,0<=ak->ak<=255->ak=au 1 [z6,z9]->
      (((decide (ak=64))=true->
       ab 2 [z6,0,z9]/\
       ∀z12:Int,0<=z12->z12<=bM->z12=au 2 [z6,0,z9]->
       ∀ad:Int,0<=ad->ad<=1->SB 29 [[z12]] [[ad]]->
       (((decide (ad=1))=true->
        ∀ao:Int,0<=ao->ao<=1->0<=(z9+9223372036854775809)-18446744073709551616*ao->(z9+9223372036854775809)-18446744073709551616*ao<18446744073709551616->
        ∀az:Int,0<=az->az<=9223372036854775807->az=au 0 [z6]->
        ab 2 [z6,((z9+((-18446744073709551616)*ao))+1),az]/\
        ∀aC:Int,0<=aC->aC<=bM->aC=au 2 [z6,((z9+((-18446744073709551616)*ao))+1),az]->
        ∀aR:Int,0<=aR->aR<=1->SB 30 [[aC]] [[aR]]->
        (((decide (aR=1))=true->
         ∀ba:Int,0<=ba->ba<=1->0<=(z9+9223372036854775809)-18446744073709551616*ba->(z9+9223372036854775809)-18446744073709551616*ba<18446744073709551616->
         ∀bh:Int,0<=bh->bh<=9223372036854775807->bh=au 0 [z6]->
         ab 2 [z6,((z9+((-18446744073709551616)*ba))+1),bh]/\
         ∀z20:Int,0<=z20->z20<=bM->z20=au 2 [z6,((z9+((-18446744073709551616)*ba))+1),bh]->
         ∀z21:Int,0<=z21->z21<=1->SB 31 [[z20],[46]] [[z21]]->
         (((decide (z21=1))=true->
          ∀z22:Int,0<=z22->z22<=9223372036854775807->z22=au 0 [z6]->
          (((decide (z22<=254))=true->
           ∀bU:Int,0<=bU->bU<=bM->SB 17 [[z6]] [[bU]]->
           aY SB [.str,.int .i64 0 21] 11 [[z0]] [[bU],[0]]
          )/\((decide (z22<=254))=false->
           aY SB [.str,.int .i64 0 21] 11 [[z0]] [[0],[2]]
          ))
         )/\((decide (z21=1))=false->
          aY SB [.str,.int .i64 0 21] 11 [[z0]] [[0],[2]]
         ))
        )/\((decide (aR=1))=false->
         aY SB [.str,.int .i64 0 21] 11 [[z0]] [[0],[2]]
        ))
       )/\((decide (ad=1))=false->
        aY SB [.str,.int .i64 0 21] 11 [[z0]] [[0],[2]]
       ))
      )/\((decide (ak=64))=false->
       ∀z12:Int,0<=z12->z12<=1->0<=(z9+9223372036854775809)-18446744073709551616*z12->(z9+9223372036854775809)-18446744073709551616*z12<18446744073709551616->
       ab 39 [((z9+((-18446744073709551616)*z12))+1),0,9223372036854775807]/\
       (e6 [[((z9+((-18446744073709551616)*z12))+1)]]/\gI [[((z9+((-18446744073709551616)*z12))+1)]]<gI [[z9]])
      ))
     )/\((decide (z9<aj))=false->
      aY SB [.str,.int .i64 0 21] 11 [[z0]] [[0],[2]]
     ))
    )
   ))
  ):=λz2 h0 h1 he=>(by
  refine⟨λbl=>∃z,bl=[[z]]/\gn (·==32) (U z)=gn (·==32) (U z2),λbl=>(U ((bl.getD 0 []).getD 0 0)).length,⟨z2,rfl,rfl⟩,?_⟩
  rintro z3 bC c1 ⟨z,e,hz⟩
  obtain rfl:z3=z:=by simpa using e
  intro z4 d0 d1 e9
  simp only[au]at e9
  by_cases hl:U z3=[]
  ·rw[hl]at e9 hz
   simp only[fM]at e9
   subst e9
   refine⟨λhp=>by simp at hp,λ_=>two z3 c1 ?_⟩
   try dsimp only
   rw[hl,<-he,<-hz];rfl
  ·obtain⟨r,x,hl⟩:=Hj hl
   rw[hl]at e9 hz
   simp only[dN,dv,fM]at e9
   refine⟨λ_=>?_,λhp=>by simp at hp;omega⟩
   intro z5 aZ e1 pd
   simp only[au,hl,dN,dv,fM]at pd
   refine⟨⟨by omega,by rw[hl];simp only[dN,dv,fM];omega⟩,?_⟩
   intro z6 f0 f1 mJ
   try dsimp only
   rw[uZ (n:=32) (k:=r.length) (by omega) (by decide) (by decide) mJ,hl,N5]
   refine⟨λo9=>?_,λo9=>two z3 c1 ?_⟩
   ·have o9:(x==32)=true:=o9
    intro z7 f0 f1 qG
    simp only[au,hl,dN,dv,fM]at qG
    have Gp:(z7+-1).toNat=r.length:=by omega
    refine⟨⟨by omega,by omega,by rw[hl];simp only[dN,dv,fM];omega⟩,?_⟩
    intro z8 g0 g1 Gz
    have hr:U z8=r:=by
     try dsimp only
     rw[Gz];simp only[au,fm,hl,Gp]
     simp
    refine⟨⟨z8,rfl,?_⟩,?_⟩
    ·try dsimp only
     rw[hr,<-hz,x6,o9,cond_true]
    ·show(U z8).length<(U z3).length
     try dsimp only
     rw[hr,hl];simp
   ·have o9:(x==32)=false:=o9
    try dsimp only
    rw[hl,<-he,<-hz,x6,o9,cond_false])
 refine⟨λbl=>∃z,bl=[[z]]/\fI (·==32) (U z)=fI (·==32) (U z0),λbl=>(U ((bl.getD 0 []).getD 0 0)).length,⟨z0,rfl,rfl⟩,?_⟩
 rintro z3 bC c1 ⟨z,e,hz⟩
 obtain rfl:z3=z:=by simpa using e
 intro z4 d0 d1 e9
 simp only[au]at e9
 cases hl:U z3 with
 |nil=>
  rw[hl]at e9 hz
  simp only[fM]at e9
  subst e9
  refine⟨λhp=>by simp at hp,λ_=>one z3 bC c1 ?_⟩
  try dsimp only
  rw[hl,<-hz];rfl
 |cons x r=>
  rw[hl]at e9 hz
  simp only[dv]at e9
  refine⟨λ_=>⟨⟨bX _,by rw[hl];simp only[dv];omega⟩,?_⟩,λhp=>by simp at hp;omega⟩
  intro z5 aZ e1 pd
  try dsimp only
  rw[uZ (n:=32) (k:=0) rfl (by decide) (by decide) pd,hl]
  refine⟨λhe=>?_,λhe=>one z3 bC c1 ?_⟩
  ·have he:(x==32)=true:=he
   intro z6 f0 f1 mJ
   simp only[au,hl,dv]at mJ
   refine⟨⟨by omega,by omega,by rw[hl];simp only[dv];omega⟩,?_⟩
   intro z7 g0 g1 qG
   have hr:U z7=r:=by
    try dsimp only
    rw[qG];simp only[au,fm,hl]
    try dsimp only
    rw[show(1:Int).toNat=1 from rfl,S4,S5]
    exact jd (by omega)
   refine⟨⟨z7,rfl,?_⟩,?_⟩
   ·try dsimp only
    rw[hr,<-hz];simp only[fI,pz,he,if_true]
   ·show(U z7).length<(U z3).length
    try dsimp only
    rw[hr,hl];simp
  ·have he:(x==32)=false:=he
   try dsimp only
   rw[hl,<-hz];simp[fI,pz,he]
def UH (S:Nat->List (List Int)->List (List Int)->Prop) (K:List (List Int)->List (List Int)->Prop):Prop:=
 bO λz0=>bO λag=>(ab 44 [z0,ag]->bO λz2=>bz λz3=>bz λz4=>S 35 [[z0]] [[z2],[z3],[z4]]->(aq ((!(decide (z4=1)))) (K [[z0],[ag]]
 [[0],[7]]) (∃(dz:List (List Int)->Prop) (dg:List (List Int)->Nat),dz [[0],[0],[0]]/\(bO λz6=>dH λz7=>bz λz8=>dz [[z6],[z7],[z8]]->aK
 0 [ag] λz9=>(aq (decide (z7<z9)) (ab 1 [ag,z7]/\av 1 [ag,z7] λaj=>(aq (decide (48<=aj)) ((aq (decide (aj<=57)) (bt (z7+
 9223372036854775809) 18446744073709551616 λak=>ab 2 [ag,z7,((z7+((-18446744073709551616)*ak))+1)]/\bj 2 [ag,z7,((z7+((-18446744073709551616)
 *ak))+1)] λz12=>ab 3 [z6,z12]/\bj 3 [z6,z12] λad=>bt (z7+9223372036854775809) 18446744073709551616 λao=>ab 39 [((z7+
 ((-18446744073709551616)*ao))+1),0,9223372036854775807]/\bz λaz=>decide (z8=1)=decide (az=1)->(dz [[ad],[((z7+((-18446744073709551616)*
 ao))+1)],[az]]/\dg [[ad],[((z7+((-18446744073709551616)*ao))+1)],[az]]<dg [[z6],[z7],[z8]])) (K [[z0],[ag]] [[0],[2]]))) ((aq (decide (aj=
 43)) (cn 4 [z6,0] λak=>(aq (decide (ak=1)) ((aq ((!(decide (z8=1)))) (bt (z7+9223372036854775809) 18446744073709551616 λz12=>ab 39 [((z7+
 ((-18446744073709551616)*z12))+1),0,9223372036854775807]/\(dz [[z6],[((z7+((-18446744073709551616)*z12))+1)],[1]]/\dg [[z6],[((z7+
 ((-18446744073709551616)*z12))+1)],[1]]<dg [[z6],[z7],[z8]])) ((aq (decide (aj=32)) (bt (z7+9223372036854775809) 18446744073709551616 λz12=>ab
 39 [((z7+((-18446744073709551616)*z12))+1),0,9223372036854775807]/\bz λad=>decide (z8=1)=decide (ad=1)->(dz [[z6],[((z7+
 ((-18446744073709551616)*z12))+1)],[ad]]/\dg [[z6],[((z7+((-18446744073709551616)*z12))+1)],[ad]]<dg [[z6],[z7],[z8]])) ((aq (decide (aj=45))
 (bt (z7+9223372036854775809) 18446744073709551616 λz12=>ab 39 [((z7+((-18446744073709551616)*z12))+1),0,9223372036854775807]/\bz λad=>
 decide (z8=1)=decide (ad=1)->(dz [[z6],[((z7+((-18446744073709551616)*z12))+1)],[ad]]/\dg [[z6],[((z7+((-18446744073709551616)*z12))+
 1)],[ad]]<dg [[z6],[z7],[z8]])) ((aq (decide (aj=46)) (bt (z7+9223372036854775809) 18446744073709551616 λz12=>ab 39 [((z7+
 ((-18446744073709551616)*z12))+1),0,9223372036854775807]/\bz λad=>decide (z8=1)=decide (ad=1)->(dz [[z6],[((z7+((-18446744073709551616)*
 z12))+1)],[ad]]/\dg [[z6],[((z7+((-18446744073709551616)*z12))+1)],[ad]]<dg [[z6],[z7],[z8]])) ((aq (decide (aj=40)) (bt (z7+
 9223372036854775809) 18446744073709551616 λz12=>ab 39 [((z7+((-18446744073709551616)*z12))+1),0,9223372036854775807]/\bz λad=>decide (z8=
 1)=decide (ad=1)->(dz [[z6],[((z7+((-18446744073709551616)*z12))+1)],[ad]]/\dg [[z6],[((z7+((-18446744073709551616)*z12))+1)],[ad]]<dg
 [[z6],[z7],[z8]])) ((aq (decide (aj=41)) (bt (z7+9223372036854775809) 18446744073709551616 λz12=>ab 39 [((z7+((-18446744073709551616)*z12))+
 1),0,9223372036854775807]/\bz λad=>decide (z8=1)=decide (ad=1)->(dz [[z6],[((z7+((-18446744073709551616)*z12))+1)],[ad]]/\dg
 [[z6],[((z7+((-18446744073709551616)*z12))+1)],[ad]]<dg [[z6],[z7],[z8]])) (K [[z0],[ag]] [[0],[2]]))))))))))))) ((aq (decide (aj=32)) (bt (z7+
 9223372036854775809) 18446744073709551616 λz12=>ab 39 [((z7+((-18446744073709551616)*z12))+1),0,9223372036854775807]/\bz λad=>decide (z8=
 1)=decide (ad=1)->(dz [[z6],[((z7+((-18446744073709551616)*z12))+1)],[ad]]/\dg [[z6],[((z7+((-18446744073709551616)*z12))+1)],[ad]]<dg
 [[z6],[z7],[z8]])) ((aq (decide (aj=45)) (bt (z7+9223372036854775809) 18446744073709551616 λz12=>ab 39 [((z7+((-18446744073709551616)*z12))+
 1),0,9223372036854775807]/\bz λad=>decide (z8=1)=decide (ad=1)->(dz [[z6],[((z7+((-18446744073709551616)*z12))+1)],[ad]]/\dg
 [[z6],[((z7+((-18446744073709551616)*z12))+1)],[ad]]<dg [[z6],[z7],[z8]])) ((aq (decide (aj=46)) (bt (z7+9223372036854775809) 18446744073709551616
 λz12=>ab 39 [((z7+((-18446744073709551616)*z12))+1),0,9223372036854775807]/\bz λad=>decide (z8=1)=decide (ad=1)->(dz [[z6],[((z7+
 ((-18446744073709551616)*z12))+1)],[ad]]/\dg [[z6],[((z7+((-18446744073709551616)*z12))+1)],[ad]]<dg [[z6],[z7],[z8]])) ((aq (decide (aj=40))
 (bt (z7+9223372036854775809) 18446744073709551616 λz12=>ab 39 [((z7+((-18446744073709551616)*z12))+1),0,9223372036854775807]/\bz λad=>
 decide (z8=1)=decide (ad=1)->(dz [[z6],[((z7+((-18446744073709551616)*z12))+1)],[ad]]/\dg [[z6],[((z7+((-18446744073709551616)*z12))+
 1)],[ad]]<dg [[z6],[z7],[z8]])) ((aq (decide (aj=41)) (bt (z7+9223372036854775809) 18446744073709551616 λz12=>ab 39 [((z7+
 ((-18446744073709551616)*z12))+1),0,9223372036854775807]/\bz λad=>decide (z8=1)=decide (ad=1)->(dz [[z6],[((z7+((-18446744073709551616)*
 z12))+1)],[ad]]/\dg [[z6],[((z7+((-18446744073709551616)*z12))+1)],[ad]]<dg [[z6],[z7],[z8]])) (K [[z0],[ag]] [[0],[2]]))))))))))))) ((aq (decide
 (aj=32)) (bt (z7+9223372036854775809) 18446744073709551616 λak=>ab 39 [((z7+((-18446744073709551616)*ak))+1),0,9223372036854775807]/\bz λ
 z12=>decide (z8=1)=decide (z12=1)->(dz [[z6],[((z7+((-18446744073709551616)*ak))+1)],[z12]]/\dg [[z6],[((z7+((-18446744073709551616)*ak))
 +1)],[z12]]<dg [[z6],[z7],[z8]])) ((aq (decide (aj=45)) (bt (z7+9223372036854775809) 18446744073709551616 λak=>ab 39 [((z7+
 ((-18446744073709551616)*ak))+1),0,9223372036854775807]/\bz λz12=>decide (z8=1)=decide (z12=1)->(dz [[z6],[((z7+((-18446744073709551616)*
 ak))+1)],[z12]]/\dg [[z6],[((z7+((-18446744073709551616)*ak))+1)],[z12]]<dg [[z6],[z7],[z8]])) ((aq (decide (aj=46)) (bt (z7+
 9223372036854775809) 18446744073709551616 λak=>ab 39 [((z7+((-18446744073709551616)*ak))+1),0,9223372036854775807]/\bz λz12=>decide (z8=
 1)=decide (z12=1)->(dz [[z6],[((z7+((-18446744073709551616)*ak))+1)],[z12]]/\dg [[z6],[((z7+((-18446744073709551616)*ak))+1)],[z12]]<dg
 [[z6],[z7],[z8]])) ((aq (decide (aj=40)) (bt (z7+9223372036854775809) 18446744073709551616 λak=>ab 39 [((z7+((-18446744073709551616)*ak))+
 1),0,9223372036854775807]/\bz λz12=>decide (z8=1)=decide (z12=1)->(dz [[z6],[((z7+((-18446744073709551616)*ak))+1)],[z12]]/\dg
 [[z6],[((z7+((-18446744073709551616)*ak))+1)],[z12]]<dg [[z6],[z7],[z8]])) ((aq (decide (aj=41)) (bt (z7+9223372036854775809) 18446744073709551616
 λak=>ab 39 [((z7+((-18446744073709551616)*ak))+1),0,9223372036854775807]/\bz λz12=>decide (z8=1)=decide (z12=1)->(dz [[z6],[((z7+
 ((-18446744073709551616)*ak))+1)],[z12]]/\dg [[z6],[((z7+((-18446744073709551616)*ak))+1)],[z12]]<dg [[z6],[z7],[z8]])) (K [[z0],[ag]]
 [[0],[2]]))))))))))))))) ((aq ((!(decide (z8=1)))) (cn 4 [z0,0] λaj=>(aq ((!(decide (aj=1)))) ((aq (decide (z3=1)) (aK 0 [z6] λak=>(aq
 (decide (0<ak)) (ab 1 [z6,0]/\av 1 [z6,0] λz12=>(aq (decide (z12=48)) (aK 0 [z6] λad=>ab 2 [z6,1,ad]/\bj 2 [z6,1,ad] λao=>ab
 3 [z2,ao]/\bj 3 [z2,ao] λaz=>aK 0 [az] λaC=>(aq (decide (aC<6)) (K [[z0],[ag]] [[0],[2]]) (aK 0 [az] λaR=>(aq (decide (15<aR))
 (K [[z0],[ag]] [[0],[2]]) (ab 1 [az,0]/\av 1 [az,0] λba=>(aq (decide (ba=48)) (K [[z0],[ag]] [[0],[2]]) (K [[z0],[ag]] [[az],[0]]))))))) (ab 3
 [z2,z6]/\bj 3 [z2,z6] λad=>aK 0 [ad] λao=>(aq (decide (ao<6)) (K [[z0],[ag]] [[0],[2]]) (aK 0 [ad] λaz=>(aq (decide (15<az)) (K
 [[z0],[ag]] [[0],[2]]) (ab 1 [ad,0]/\av 1 [ad,0] λaC=>(aq (decide (aC=48)) (K [[z0],[ag]] [[0],[2]]) (K [[z0],[ag]] [[ad],[0]]))))))))) (ab 3
 [z2,z6]/\bj 3 [z2,z6] λz12=>aK 0 [z12] λad=>(aq (decide (ad<6)) (K [[z0],[ag]] [[0],[2]]) (aK 0 [z12] λao=>(aq (decide (15<ao)) (K
 [[z0],[ag]] [[0],[2]]) (ab 1 [z12,0]/\av 1 [z12,0] λaz=>(aq (decide (az=48)) (K [[z0],[ag]] [[0],[2]]) (K [[z0],[ag]] [[z12],[0]]))))))))) (ab 3
 [z2,z6]/\bj 3 [z2,z6] λak=>aK 0 [ak] λz12=>(aq (decide (z12<6)) (K [[z0],[ag]] [[0],[2]]) (aK 0 [ak] λad=>(aq (decide (15<ad)) (K
 [[z0],[ag]] [[0],[2]]) (ab 1 [ak,0]/\av 1 [ak,0] λao=>(aq (decide (ao=48)) (K [[z0],[ag]] [[0],[2]]) (K [[z0],[ag]] [[ak],[0]]))))))))) (aK 0
 [z6] λak=>(aq (decide (ak<6)) (K [[z0],[ag]] [[0],[2]]) (aK 0 [z6] λz12=>(aq (decide (15<z12)) (K [[z0],[ag]] [[0],[2]]) (ab 1 [z6,0]/\av 1
 [z6,0] λad=>(aq (decide (ad=48)) (K [[z0],[ag]] [[0],[2]]) (K [[z0],[ag]] [[z6],[0]]))))))))) (aK 0 [z6] λaj=>(aq (decide (aj<6)) (K
 [[z0],[ag]] [[0],[2]]) (aK 0 [z6] λak=>(aq (decide (15<ak)) (K [[z0],[ag]] [[0],[2]]) (ab 1 [z6,0]/\av 1 [z6,0] λz12=>(aq (decide (z12=48))
 (K [[z0],[ag]] [[0],[2]]) (K [[z0],[ag]] [[z6],[0]]))))))))))))))
def yA (ag:Int) (bl:List (List Int)):Prop:=∃(i:Nat) (d p:Int),bl=[[d],[(i:Int)],[p]]/\i<=(U ag).length/\(U d).length<=i/\fh ((U ag).drop i) (U d) (decide (p=1))=fh (U ag) [] false
def H7 (ag:Int) (bl:List (List Int)):Nat:=(U ag).length-((bl.getD 1 []).getD 0 0).toNat
theorem yA.next {ag d d' p p':Int} {i:Nat} (h1:ag<=bM) (hi:i<(U ag).length) (hd:(U d').length<=i+1) (hb:fh ((U ag).drop (i+1)) (U d') (decide (p'=1))=fh (U ag) [] false):yA ag [[d'],[(i:Int)+1],[p']]/\H7 ag [[d'],[(i:Int)+1],[p']]<H7 ag [[d],[(i:Int)],[p]]:=by
 refine⟨⟨i+1,d',p',by simp,by omega,hd,hb⟩,?_⟩
 show(U ag).length-((i:Int)+1).toNat<(U ag).length-(i:Int).toNat
 omega
theorem VL {s d:aH} {p:Bool} {i:Nat} (hi:i<s.length):fh (s.drop i) d p=cond (ej (s.getD i 0)) (fh (s.drop (i+1)) (d++[s.getD i 0]) p) (cond (s.getD i 0==43&&d.isEmpty&& !p) (fh (s.drop (i+1)) d true) (cond (pv.contains (s.getD i 0)) (fh (s.drop (i+1)) d p) none)):=by
 try dsimp only
 rw[r9 s i hi,fh]
theorem aus {Vc:Prop} {I:List (List Int)->Prop} {M:List (List Int)->Nat} {ag z6 z8 aj:Int} {i:Nat} {c:UInt8} (h1:ag<=bM) (hi:i<(U ag).length) (hc:aj=(c.toNat:Int))
 (hK:pv.contains c=false->Vc) (hA:pv.contains c=true->∀ad:Int,decide (z8=1)=decide (ad=1)->I [[z6],[(i:Int)+1],[ad]]/\M [[z6],[(i:Int)+1],[ad]]<M [[z6],[(i:Int)],[z8]]):
   (((decide (aj=32))=true->
    ∀ak:Int,0<=ak->ak<=1->0<=((i:Int)+9223372036854775809)-18446744073709551616*ak->((i:Int)+9223372036854775809)-18446744073709551616*ak<18446744073709551616->
    ab 39 [(((i:Int)+((-18446744073709551616)*ak))+1),0,9223372036854775807]/\
    ∀z12:Int,0<=z12->z12<=1->decide (z8=1)=decide (z12=1)->
    (I [[z6],[(((i:Int)+((-18446744073709551616)*ak))+1)],[z12]]/\M [[z6],[(((i:Int)+((-18446744073709551616)*ak))+1)],[z12]]<M [[z6],[(i:Int)],[z8]])
   )/\((decide (aj=32))=false->
    (((decide (aj=45))=true->
     ∀ak:Int,0<=ak->ak<=1->0<=((i:Int)+9223372036854775809)-18446744073709551616*ak->((i:Int)+9223372036854775809)-18446744073709551616*ak<18446744073709551616->
     ab 39 [(((i:Int)+((-18446744073709551616)*ak))+1),0,9223372036854775807]/\
     ∀z12:Int,0<=z12->z12<=1->decide (z8=1)=decide (z12=1)->
     (I [[z6],[(((i:Int)+((-18446744073709551616)*ak))+1)],[z12]]/\M [[z6],[(((i:Int)+((-18446744073709551616)*ak))+1)],[z12]]<M [[z6],[(i:Int)],[z8]])
    )/\((decide (aj=45))=false->
     (((decide (aj=46))=true->
      ∀ak:Int,0<=ak->ak<=1->0<=((i:Int)+9223372036854775809)-18446744073709551616*ak->((i:Int)+9223372036854775809)-18446744073709551616*ak<18446744073709551616->
      ab 39 [(((i:Int)+((-18446744073709551616)*ak))+1),0,9223372036854775807]/\
      ∀z12:Int,0<=z12->z12<=1->decide (z8=1)=decide (z12=1)->
      (I [[z6],[(((i:Int)+((-18446744073709551616)*ak))+1)],[z12]]/\M [[z6],[(((i:Int)+((-18446744073709551616)*ak))+1)],[z12]]<M [[z6],[(i:Int)],[z8]])
     )/\((decide (aj=46))=false->
      (((decide (aj=40))=true->
       ∀ak:Int,0<=ak->ak<=1->0<=((i:Int)+9223372036854775809)-18446744073709551616*ak->((i:Int)+9223372036854775809)-18446744073709551616*ak<18446744073709551616->
       ab 39 [(((i:Int)+((-18446744073709551616)*ak))+1),0,9223372036854775807]/\
       ∀z12:Int,0<=z12->z12<=1->decide (z8=1)=decide (z12=1)->
       (I [[z6],[(((i:Int)+((-18446744073709551616)*ak))+1)],[z12]]/\M [[z6],[(((i:Int)+((-18446744073709551616)*ak))+1)],[z12]]<M [[z6],[(i:Int)],[z8]])
      )/\((decide (aj=40))=false->
       (((decide (aj=41))=true->
        ∀ak:Int,0<=ak->ak<=1->0<=((i:Int)+9223372036854775809)-18446744073709551616*ak->((i:Int)+9223372036854775809)-18446744073709551616*ak<18446744073709551616->
        ab 39 [(((i:Int)+((-18446744073709551616)*ak))+1),0,9223372036854775807]/\
        ∀z12:Int,0<=z12->z12<=1->decide (z8=1)=decide (z12=1)->
        (I [[z6],[(((i:Int)+((-18446744073709551616)*ak))+1)],[z12]]/\M [[z6],[(((i:Int)+((-18446744073709551616)*ak))+1)],[z12]]<M [[z6],[(i:Int)],[z8]])
       )/\((decide (aj=41))=false->
        Vc
       ))
      ))
     ))
    ))
   )):=by
 have cF:=tS h1
 have FA:pv.contains c=true->∀q:Int,0<=q->q<=1->0<=((i:Int)+9223372036854775809)-18446744073709551616*q->((i:Int)+9223372036854775809)-18446744073709551616*q<18446744073709551616->
  ab 39 [(((i:Int)+((-18446744073709551616)*q))+1),0,9223372036854775807]/\∀z12:Int,0<=z12->z12<=1->decide (z8=1)=decide (z12=1)->
   (I [[z6],[(((i:Int)+((-18446744073709551616)*q))+1)],[z12]]/\M [[z6],[(((i:Int)+((-18446744073709551616)*q))+1)],[z12]]<M [[z6],[(i:Int)],[z8]]):=λhs q fJ bq bE b5=>by
  try dsimp only
  rw[nx (L:=((U ag).length:Int)) (by omega) cF (rL _) fJ bE]
  exact⟨⟨by omega,by omega⟩,λz12 _ _ h=>hA hs z12 h⟩
 have re:∀n:Int,0<=n->n<=255->decide (aj=n)=(c==u8 n):=λn h0 h1=>by
  try dsimp only
  rw[iv,decide_eq_true_eq,hc,rI h0 h1]
 try dsimp only
 rw[re 32 (by decide) (by decide),re 45 (by decide) (by decide),re 46 (by decide) (by decide),re 40 (by decide) (by decide),re 41 (by decide) (by decide)]
 refine⟨λh=>FA ?_,λh1=>⟨λh=>FA ?_,λh2=>⟨λh=>FA ?_,λh3=>⟨λh=>FA ?_,λh4=>⟨λh=>FA ?_,λh5=>hK ?_⟩⟩⟩⟩⟩
 ·try dsimp only
  rw[beq_iff_eq.1 h];decide
 ·try dsimp only
  rw[beq_iff_eq.1 h];decide
 ·try dsimp only
  rw[beq_iff_eq.1 h];decide
 ·try dsimp only
  rw[beq_iff_eq.1 h];decide
 ·try dsimp only
  rw[beq_iff_eq.1 h];decide
 ·have e:pv=[u8 32,u8 45,u8 46,u8 40,u8 41]:=by decide
  try dsimp only
  rw[e]
  simp only[List.contains_cons,h1,h2,h3,h4,h5]
  rfl
theorem No {w c t:aH} (h:jI w=some (c,t)):t=[]∨t=[48]:=by
 unfold jI at h
 cases h0:(w==[])with
 |true=>rw[h0,cond_true]at h;simp only[aQ,cA]at h;rw[<-h.2];decide
 |false=>
  rw[h0,cond_false]at h
  cases h1:(w==[71,66])with
  |true=>rw[h1,cond_true]at h;simp only[aQ,cA]at h;rw[<-h.2];decide
  |false=>
   rw[h1,cond_false]at h
   cases h2:(w==[85,83])with
   |true=>rw[h2,cond_true]at h;simp only[aQ,cA]at h;rw[<-h.2];decide
   |false=>
    rw[h2,cond_false]at h
    cases h3:(w==[68,69])with
    |true=>rw[h3,cond_true]at h;simp only[aQ,cA]at h;rw[<-h.2];decide
    |false=>
     rw[h3,cond_false]at h
     cases h4:(w==[70,82])with
     |true=>rw[h4,cond_true]at h;simp only[aQ,cA]at h;rw[<-h.2];decide
     |false=>
      rw[h4,cond_false]at h
      cases h5:(w==[67,72])with
      |true=>rw[h5,cond_true]at h;simp only[aQ,cA]at h;rw[<-h.2];decide
      |false=>
       rw[h5,cond_false]at h
       cases h
theorem asG:UH SB (aY SB [.str,.int .i64 0 21] 13):=by
 intro z0 a0 a1 ag b0 b1 hq z2 x0 x1 z3 ja iq z4 bC c1 hc
 have hid:∀a e,(U a,e)=mT (U z0) (U ag)->SB 13 [[z0],[ag]] [[a],[e]]:=λ_ _ h=>h
 have hq:U z0=[]∨(U ag).length<=4294967280:=hq
 have hc:(match jI (U z0)with|some (code,gD)=>U z2=code/\z3=aL (!gD.isEmpty)/\z4=1|none=>U z2=[]/\z3=0/\z4=0):=hc
 have aI:∀e:Int,0<=e->e<=21->mT (U z0) (U ag)=([],e)->aY SB [.str,.int .i64 0 21] 13 [[z0],[ag]] [[0],[e]]:=λe aZ e1 h=>xI (bX _) fv aZ e1 (hid _ _ (by rw[h];rfl))
 cases ib:jI (U z0)with
 |none=>
  rw[ib]at hc
  obtain⟨_,_,rfl⟩:=hc
  exact⟨λ_=>aI 7 (by decide) (by decide) (by unfold mT;rw[ib]),λh=>by simp at h⟩
 |some u5=>
  obtain⟨code,gD⟩:=u5
  rw[ib]at hc
  obtain⟨xb,xo,rfl⟩:=hc
  refine⟨λh=>by simp at h,λ_=>⟨yA ag,H7 ag,⟨0,0,0,rfl,gX _,gX _,rfl⟩,?_⟩⟩
  rintro z6 d0 d1 z7 aZ e1 z8 f0 f1 ⟨i,d,p,e,hi,O0,hb⟩ z9 g0 g1 bg
  obtain⟨rfl,rfl,rfl⟩:z6=d/\z7=i/\z8=p:=by simpa using e
  simp only[au]at bg
  have cF:=tS b1
  refine⟨λhp=>?_,λhp=>?_⟩
  ·have hp:(i:Int)<z9:=by simpa using hp
   have hlt:i<(U ag).length:=by omega
   refine⟨⟨aZ,by omega⟩,λaj i0 i1 b9=>?_⟩
   have b9:aj=(((U ag).getD i 0).toNat:Int):=by rw[b9];simp only[au,gu]
   have hst:=VL (s:=U ag) (d:=U z6) (p:=decide (z8=1)) hlt
   rw[hst]at hb
   have hD:ej ((U ag).getD i 0)=(decide (48<=aj)&&decide (aj<=57)):=by
    try dsimp only
    rw[b9];unfold ej;rw[iv];simp[oS];omega
   have BN:decide (aj=43)=((U ag).getD i 0==43):=by
    try dsimp only
    rw[iv,decide_eq_true_eq,b9,rI (z:=43) (by decide) (by decide)];rfl
   have iT:fh (U ag) [] false=none->aY SB [.str,.int .i64 0 21] 13 [[z0],[ag]] [[0],[2]]:=λh=>aI 2 (by decide) (by decide) (by unfold mT;rw[ib];simp only[h])
   have hs:ej ((U ag).getD i 0)=false->((U ag).getD i 0==43&&(U z6).isEmpty&& !decide (z8=1))=false->_:=λGb YA=>
    aus (I:=yA ag) (M:=H7 ag) (z6:=z6) (z8:=z8) b1 hlt b9 (λP0=>iT (by rw[<-hb,Gb,YA,P0];rfl)) (λP0 ad dj=>yA.next (d:=z6) (p:=z8) b1 hlt (by omega) (by rw[<-dj,<-hb,Gb,YA,P0];rfl))
   refine⟨λhA=>⟨λhB q fJ bq bE b5=>?_,λhB=>?_⟩,λhA=>?_⟩
   ·rw[hA,hB]at hD
    try dsimp only
    rw[nx (L:=z9) hp g1 aZ fJ bE]
    refine⟨⟨aZ,by omega,by omega⟩,λz12 ew dk dw=>?_⟩
    have Ww:U z12=[(U ag).getD i 0]:=by
     try dsimp only
     rw[dw];simp only[au,fm]
     try dsimp only
     rw[show(i:Int).toNat=i by omega,show((i:Int)+1).toNat-i=1 by omega,r9 _ _ hlt]
     rfl
    refine⟨?_,λad fA k1 dj q' KN vQ rD sM=>?_⟩
    ·show(U z6).length+(U z12).length<=gk
     have hm:=tc b1
     try dsimp only
     rw[Ww];simp;omega
    ·have wS:U ad=U z6++[(U ag).getD i 0]:=by rw[dj];simp only[au,fm,Ww]
     try dsimp only
     rw[nx (L:=z9) hp g1 aZ KN rD]
     refine⟨⟨by omega,by omega⟩,λaz cq l1 e0=>yA.next (d:=z6) (p:=z8) b1 hlt (by rw[wS];simp;omega) ?_⟩
     try dsimp only
     rw[<-e0,wS,<-hb,hD];rfl
   ·refine iT ?_
    have Oc:¬aj<=57:=by simpa using hB
    rw[hB,uE]at hD
    have Z1:((U ag).getD i 0==43)=false:=by rw[<-BN];simp;omega
    try dsimp only
    rw[<-hb,hD,Z1]
    have:pv.contains ((U ag).getD i 0)=false:=by
     cases ai:pv.contains ((U ag).getD i 0)with
     |false=>rfl
     |true=>
      exfalso
      have hm:(U ag).getD i 0∈pv:=by simpa using ai
      have:∀c∈pv,c.toNat<=57:=by decide
      have:=this _ hm
      omega
    try dsimp only
    rw[this];rfl
   ·rw[hA,LM]at hD
    try dsimp only
    rw[BN]
    refine⟨λri ak ew dk cH=>?_,λri=>hs hD (by rw[ri];rfl)⟩
    try dsimp only
    rw[eq_nil cH]
    have xe:(U z6==[])=(U z6).isEmpty:=by cases U z6<;>rfl
    try dsimp only
    rw[xe]
    refine⟨λhe=>⟨λPI q fJ bq bE b5=>?_,λPI=>hs hD (by rw[PI];simp)⟩,λhe=>hs hD (by rw[he];simp)⟩
    try dsimp only
    rw[nx (L:=z9) hp g1 aZ fJ bE]
    refine⟨⟨by omega,by omega⟩,yA.next (d:=z6) (p:=z8) b1 hlt (by omega) ?_⟩
    try dsimp only
    rw[<-hb,hD,ri,he,PI];rfl
  ·have hp:¬(i:Int)<z9:=by simpa using hp
   rw[HA (by omega)]at hb
   have pP:fh (U ag) [] false=some (U z6,decide (z8=1)):=by rw[<-hb,fh]
   have hf:mT (U z0) (U ag)=vP (ub (U z0) code gD (U z6) (decide (z8=1))):=by unfold mT;rw[ib];simp only[pP]
   have gP:=Nn ib
   refine⟨λbD aj i0 i1 b9=>?_,λbD=>Aq (z:=0) _ 13 hid d0 d1 (by rw[hf];unfold ub;rw[bD];rfl)⟩
   try dsimp only
   rw[eq_nil b9]
   refine⟨λhw=>?_,λhw=>Aq (z:=0) _ 13 hid d0 d1 (by
    try dsimp only
    rw[hf];unfold ub
    have hw:(!(U z0==[]))=false:=hw
    try dsimp only
    rw[bD,hw];rfl)⟩
   have hw:(!(U z0==[]))=true:=hw
   have hN:ub (U z0) code gD (U z6) (decide (z8=1))=code++cond (gD.isPrefixOf (U z6)) ((U z6).drop gD.length) (U z6):=by unfold ub;rw[bD,hw];rfl
   rw[hN]at hf
   have XP:∀x:Int,(U x).length<=(U z6).length->ab 3 [z2,x]:=λx hx=>by
    show(U z2).length+(U x).length<=gk
    have hq:(U ag).length<=4294967280:=by
     rcases hq with h|h
     ·rw[h]at hw;cases hw
     ·exact h
    try dsimp only
    rw[xb];unfold gk;omega
   have same:cond (gD.isPrefixOf (U z6)) ((U z6).drop gD.length) (U z6)=U z6->ab 3 [z2,z6]/\∀ad:Int,0<=ad->ad<=bM->ad=au 3 [z2,z6]->_:=λCo=>⟨XP z6 (br _),λad ew dk dj=>Aq (z:=0) _ 13 hid ew dk (by
    try dsimp only
    rw[hf,Co,dj];simp only[au,fm,xb])⟩
   try dsimp only
   rw[eb xo]
   refine⟨λht ak ew dk cH=>?_,λht=>same ?_⟩
   ·have P3:gD=[48]:=by
     rcases No ib with h|h
     ·rw[h]at ht;cases ht
     ·exact h
    simp only[au]at cH
    refine⟨λgj=>⟨⟨bX _,?_⟩,λz12 fA k1 dw=>?_⟩,λgj=>same ?_⟩
    ·have gj:0<ak:=by simpa using gj
     omega
    ·have gj:0<ak:=by simpa using gj
     try dsimp only
     rw[uZ (n:=48) (k:=0) rfl (by decide) (by decide) dw]
     cases h6:U z6 with
     |nil=>rw[h6]at cH;simp at cH;omega
     |cons x r=>
      refine⟨λsc ad cq l1 dj=>?_,λsc=>?_⟩
      ·have hx:x=48:=beq_iff_eq.1 sc
       simp only[au,h6,dv]at dj
       refine⟨⟨by omega,by omega,by rw[h6];simp;omega⟩,λao m0 fW dA=>?_⟩
       have BM:U ao=r:=by
        try dsimp only
        rw[dA];simp only[au,fm,h6]
        try dsimp only
        rw[show(1:Int).toNat=1 from rfl,S4,S5]
        exact jd (by omega)
       refine⟨XP ao (by rw[BM,h6];simp),λaz n0 n1 e0=>Aq (z:=0) _ 13 hid n0 n1 ?_⟩
       try dsimp only
       rw[hf,e0];simp only[au,fm,xb,BM,P3,h6,hx]
       simp
      ·have hx:(x==48)=false:=sc
       have:=same (by rw[P3,h6];simp[List.isPrefixOf,Bool.beq_comm,hx])
       exact this
    ·have gj:¬0<ak:=by simpa using gj
     cases h6:U z6 with
     |nil=>rw[P3];rfl
     |cons x r=>rw[h6]at cH;simp at cH;omega
   ·have xn:gD=[]:=by
     rcases No ib with h|h
     ·exact h
     ·rw[h]at ht;cases ht
    try dsimp only
    rw[xn];simp
end Go.cu
namespace Go.cu
open Go Go.bo
def T7 (S:Nat->List (List Int)->List (List Int)->Prop) (K:List (List Int)->List (List Int)->Prop):Prop:=
 bO λz0=>bO λag=>cn 4 [z0,477315081741] λz2=>(aq (decide (z2=1)) (bO λz3=>eG 0 21 λz4=>S 10 [[ag]] [[z3],[z4]]->(aq ((!(decide (z4=
 0)))) (K [[z0],[ag]] [[0,0],[z4]]) (K [[z0],[ag]] [[z0,z3],[0]]))) (cn 4 [z0,124890778723732] λz3=>(aq (decide (z3=1)) (ab 44 [0,ag]/\bO λz4=>eG
 0 21 λz5=>S 12 [[0],[ag]] [[z4],[z5]]->(aq ((!(decide (z5=0)))) (K [[z0],[ag]] [[0,0],[z5]]) (K [[z0],[ag]] [[z0,z4],[0]]))) (K [[z0],[ag]]
 [[0,0],[1]]))))
def UF (S:Nat->List (List Int)->List (List Int)->Prop) (K:List (List Int)->List (List Int)->Prop):Prop:=
 bO λz0=>bO λag=>cn 4 [z0,477315081741] λz2=>(aq (decide (z2=1)) (bO λz3=>eG 0 21 λz4=>S 11 [[ag]] [[z3],[z4]]->(aq ((!(decide (z4=
 0)))) (K [[z0],[ag]] [[0,0],[z4]]) (K [[z0],[ag]] [[z0,z3],[0]]))) (cn 4 [z0,124890778723732] λz3=>(aq (decide (z3=1)) (ab 44 [0,ag]/\bO λz4=>eG
 0 21 λz5=>S 13 [[0],[ag]] [[z4],[z5]]->(aq ((!(decide (z5=0)))) (K [[z0],[ag]] [[0,0],[z5]]) (K [[z0],[ag]] [[z0,z4],[0]]))) (K [[z0],[ag]]
 [[0,0],[1]]))))
def UC (S:Nat->List (List Int)->List (List Int)->Prop) (K:List (List Int)->List (List Int)->Prop):Prop:=
 ∀aP:List Int,aV (da 0 bM 2) aP->∀r2:List Int,aV (da 0 bM 2) r2->eG 0 21 λz4=>S 15 [[(ae aP 0 0)],[(ae aP 1 0)]] [r2,[z4]]->
 (aq (decide (z4=0)) (cn 4 [(ae aP 0 0),(ae r2 0 0)] λz5=>cn 4 [(ae aP 1 0),(ae r2 1 0)] λz6=>K [aP] [[(cond (decide
 ([z5,z6]=[1,1])) 1 0)]]) (K [aP] [[(cond (false) 1 0)]]))
def UI (S:Nat->List (List Int)->List (List Int)->Prop) (K:List (List Int)->List (List Int)->Prop):Prop:=
 ∀aP:List Int,aV (da 0 bM 2) aP->∀r2:List Int,aV (da 0 bM 2) r2->eG 0 21 λz4=>S 18 [[(ae aP 0 0)],[(ae aP 1 0)]] [r2,[z4]]->
 (aq (decide (z4=0)) (cn 4 [(ae aP 0 0),(ae r2 0 0)] λz5=>cn 4 [(ae aP 1 0),(ae r2 1 0)] λz6=>K [aP] [[(cond (decide
 ([z5,z6]=[1,1])) 1 0)]]) (K [aP] [[(cond (false) 1 0)]]))
theorem Zl:U 477315081741=wT:=by decide+kernel
theorem Zm:U 124890778723732=xL:=by decide+kernel
theorem Zr {id:Nat} {zs:List (List Int)} {a b e:Int} (a0:0<=a) (a1:a<=bM) (b0:0<=b) (b1:b<=bM) (aZ:0<=e) (e1:e<=21) (h:SB id zs [[a,b],[e]]):aY SB [.mix [.str,.str],.int .i64 0 21] id zs [[a,b],[e]]:=⟨⟨a0,a1,b0,b1,aZ,e1,trivial⟩,h⟩
theorem ar5:T7 SB (aY SB [.mix [.str,.str],.int .i64 0 21] 15):=by
 intro z0 a0 a1 ag b0 b1 z2 bC c1 h2
 have aI:∀a b e:Int,0<=a->a<=bM->0<=b->b<=bM->0<=e->e<=21->(U a,U b,e)=mQ (U z0) (U ag)->aY SB [.mix [.str,.str],.int .i64 0 21] 15 [[z0],[ag]] [[a,b],[e]]:=λa b e h1 h2 h3 h4 h5 h6 h=>Zr h1 h2 h3 h4 h5 h6 h
 try dsimp only
 rw[jK h2,Zl]
 refine⟨λkE z3 d0 d1 z4 aZ e1 h=>?_,λkE z3 d0 d1 h3=>?_⟩
 ·have hm:(U z0==wT)=true:=by simpa using kE
  have h:(U z3,z4)=ql (U ag):=h
  have fj:mQ (U z0) (U ag)=pX (U z0) (U z3,z4):=by unfold mQ;rw[hm,<-h];rfl
  refine⟨λhz=>aI 0 0 z4 (bX _) fv (bX _) fv aZ e1 ?_,λhz=>aI z0 z3 0 a0 a1 d0 d1 (by decide) (by decide) ?_⟩
  ·try dsimp only
   rw[fj];unfold pX;rw[show decide (z4=0)=false by simpa using hz];rfl
  ·try dsimp only
   rw[fj];unfold pX;rw[show decide (z4=0)=true by simpa using hz];rfl
 ·have hm:(U z0==wT)=false:=by
   have:¬U z0=wT:=by simpa using kE
   simpa using this
  try dsimp only
  rw[jK h3,Zm]
  refine⟨λcL=>⟨.inl (by decide),λz4 aZ e1 z5 f0 f1 h=>?_⟩,λcL=>aI 0 0 1 (bX _) fv (bX _) fv (by decide) (by decide) ?_⟩
  ·have hs:(U z0==xL)=true:=by simpa using cL
   have h:(U z4,z5)=mT (U 0) (U ag):=h
   have fj:mQ (U z0) (U ag)=pX (U z0) (U z4,z5):=by unfold mQ;rw[hm,hs,h];rfl
   refine⟨λhz=>aI 0 0 z5 (bX _) fv (bX _) fv f0 f1 ?_,λhz=>aI z0 z4 0 a0 a1 aZ e1 (by decide) (by decide) ?_⟩
   ·try dsimp only
    rw[fj];unfold pX;rw[show decide (z5=0)=false by simpa using hz];rfl
   ·try dsimp only
    rw[fj];unfold pX;rw[show decide (z5=0)=true by simpa using hz];rfl
  ·have hs:(U z0==xL)=false:=by
    have:¬U z0=xL:=by simpa using cL
    simpa using this
   unfold mQ;rw[hm,hs];rfl
theorem asE:UF SB (aY SB [.mix [.str,.str],.int .i64 0 21] 18):=by
 intro z0 a0 a1 ag b0 b1 z2 bC c1 h2
 have aI:∀a b e:Int,0<=a->a<=bM->0<=b->b<=bM->0<=e->e<=21->(U a,U b,e)=mQ (U z0) (U ag)->aY SB [.mix [.str,.str],.int .i64 0 21] 18 [[z0],[ag]] [[a,b],[e]]:=λa b e h1 h2 h3 h4 h5 h6 h=>Zr h1 h2 h3 h4 h5 h6 h
 try dsimp only
 rw[jK h2,Zl]
 refine⟨λkE z3 d0 d1 z4 aZ e1 h=>?_,λkE z3 d0 d1 h3=>?_⟩
 ·have hm:(U z0==wT)=true:=by simpa using kE
  have h:(U z3,z4)=ql (U ag):=h
  have fj:mQ (U z0) (U ag)=pX (U z0) (U z3,z4):=by unfold mQ;rw[hm,<-h];rfl
  refine⟨λhz=>aI 0 0 z4 (bX _) fv (bX _) fv aZ e1 ?_,λhz=>aI z0 z3 0 a0 a1 d0 d1 (by decide) (by decide) ?_⟩
  ·try dsimp only
   rw[fj];unfold pX;rw[show decide (z4=0)=false by simpa using hz];rfl
  ·try dsimp only
   rw[fj];unfold pX;rw[show decide (z4=0)=true by simpa using hz];rfl
 ·have hm:(U z0==wT)=false:=by
   have:¬U z0=wT:=by simpa using kE
   simpa using this
  try dsimp only
  rw[jK h3,Zm]
  refine⟨λcL=>⟨.inl (by decide),λz4 aZ e1 z5 f0 f1 h=>?_⟩,λcL=>aI 0 0 1 (bX _) fv (bX _) fv (by decide) (by decide) ?_⟩
  ·have hs:(U z0==xL)=true:=by simpa using cL
   have h:(U z4,z5)=mT (U 0) (U ag):=h
   have fj:mQ (U z0) (U ag)=pX (U z0) (U z4,z5):=by unfold mQ;rw[hm,hs,h];rfl
   refine⟨λhz=>aI 0 0 z5 (bX _) fv (bX _) fv f0 f1 ?_,λhz=>aI z0 z4 0 a0 a1 aZ e1 (by decide) (by decide) ?_⟩
   ·try dsimp only
    rw[fj];unfold pX;rw[show decide (z5=0)=false by simpa using hz];rfl
   ·try dsimp only
    rw[fj];unfold pX;rw[show decide (z5=0)=true by simpa using hz];rfl
  ·have hs:(U z0==xL)=false:=by
    have:¬U z0=xL:=by simpa using cL
    simpa using this
   unfold mQ;rw[hm,hs];rfl
theorem asB:UC SB (aY SB [.bool] 16):=by
 intro aP h0
 obtain⟨a,b,rfl,_⟩:=Hp h0
 have aI:∀x:Bool,n6 (U a) (U b)=x->aY SB [.bool] 16 [[a,b]] [[aL x]]:=λx h=>l9 (by show aL x=aL (n6 (U a) (U b));rw[h])
 refineλr2 h2 z4 bC c1 fj=>?_
 obtain⟨c,d,rfl,_⟩:=Hp h2
 have fj:(U c,U d,z4)=mQ (U a) (U b):=fj
 have hR:n6 (U a) (U b)=(decide (z4=0)&&(U a==U c)&&(U b==U d)):=by unfold n6;rw[<-fj]
 refine⟨λhz z5 d0 d1 h5 z6 aZ e1 h6=>?_,λhz=>aI false (by rw[hR,hz];rfl)⟩
 have h5:z5=au 4 [a,c]:=h5
 have h6:z6=au 4 [b,d]:=h6
 have o5:=jK h5
 have jh:=jK h6
 refine aI _ ?_
 try dsimp only
 rw[hR,hz,rM,iv]
 have y2:z5=1↔U a=U c:=by rw[<-decide_eq_true_eq (p:=z5=1),o5,decide_eq_true_eq]
 have y3:z6=1↔U b=U d:=by rw[<-decide_eq_true_eq (p:=z6=1),jh,decide_eq_true_eq]
 simp only[aS,beq_iff_eq,decide_eq_true_eq,hX,and_true,y2,y3]
theorem asH:UI SB (aY SB [.bool] 19):=by
 intro aP h0
 obtain⟨a,b,rfl,_⟩:=Hp h0
 have aI:∀x:Bool,n6 (U a) (U b)=x->aY SB [.bool] 19 [[a,b]] [[aL x]]:=λx h=>l9 (by show aL x=aL (n6 (U a) (U b));rw[h])
 refineλr2 h2 z4 bC c1 fj=>?_
 obtain⟨c,d,rfl,_⟩:=Hp h2
 have fj:(U c,U d,z4)=mQ (U a) (U b):=fj
 have hR:n6 (U a) (U b)=(decide (z4=0)&&(U a==U c)&&(U b==U d)):=by unfold n6;rw[<-fj]
 refine⟨λhz z5 d0 d1 h5 z6 aZ e1 h6=>?_,λhz=>aI false (by rw[hR,hz];rfl)⟩
 have h5:z5=au 4 [a,c]:=h5
 have h6:z6=au 4 [b,d]:=h6
 have o5:=jK h5
 have jh:=jK h6
 refine aI _ ?_
 try dsimp only
 rw[hR,hz,rM,iv]
 have y2:z5=1↔U a=U c:=by rw[<-decide_eq_true_eq (p:=z5=1),o5,decide_eq_true_eq]
 have y3:z6=1↔U b=U d:=by rw[<-decide_eq_true_eq (p:=z6=1),jh,decide_eq_true_eq]
 simp only[aS,beq_iff_eq,decide_eq_true_eq,hX,and_true,y2,y3]
end Go.cu
namespace Go.cu
open Go Go.bo
def U3 (S:Nat->List (List Int)->List (List Int)->Prop) (K:List (List Int)->List (List Int)->Prop):Prop:=
 bO λz0=>cn 4 [z0,0] λag=>(aq (decide (ag=1)) (K [[z0]] [[z0]]) (∃(fF:List (List Int)->Prop) (iM:List (List Int)->Nat),fF [[z0]]/\(bO λ
 z3=>fF [[z3]]->aK 0 [z3] λz4=>(aq (decide (0<z4)) (aK 0 [z3] λz5=>ab 1 [z3,(z5+(-1))]/\av 1 [z3,(z5+(-1))] λz6=>cn 43
 [79221403731691789204265450354666987086070872538664503581038852739373042335165977954796146613462291367,z6] λz7=>(aq ((!(decide (z7=1)))) (∃(e6:List
 (List Int)->Prop) (gI:List (List Int)->Nat),e6 [[z3]]/\(bO λz9=>e6 [[z9]]->aK 0 [z9] λaj=>(aq (decide (0<aj)) (ab 1 [z9,0]/\av 1
 [z9,0] λak=>cn 43 [79221403731691789204265450354666987086070872538664503581038852739373042335165977954796146613462291367,ak] λz12=>(aq ((!(decide
 (z12=1)))) (K [[z0]] [[z9]]) (aK 0 [z9] λad=>ab 2 [z9,1,ad]/\bj 2 [z9,1,ad] λao=>(e6 [[ao]]/\gI [[ao]]<gI [[z9]])))) (K [[z0]]
 [[z9]])))) (aK 0 [z3] λz8=>ab 2 [z3,0,(z8+(-1))]/\bj 2 [z3,0,(z8+(-1))] λz9=>(fF [[z9]]/\iM [[z9]]<iM [[z3]])))) (∃(dz:List (List Int)
 ->Prop) (dg:List (List Int)->Nat),dz [[z3]]/\(bO λz6=>dz [[z6]]->aK 0 [z6] λz7=>(aq (decide (0<z7)) (ab 1 [z6,0]/\av 1 [z6,0] λz8
 =>cn 43 [79221403731691789204265450354666987086070872538664503581038852739373042335165977954796146613462291367,z8] λz9=>(aq ((!(decide (z9=1)))) (K
 [[z0]] [[z6]]) (aK 0 [z6] λaj=>ab 2 [z6,1,aj]/\bj 2 [z6,1,aj] λak=>(dz [[ak]]/\dg [[ak]]<dg [[z6]])))) (K [[z0]] [[z6]]))))))))
def U1 (S:Nat->List (List Int)->List (List Int)->Prop) (K:List (List Int)->List (List Int)->Prop):Prop:=
 bO λz0=>cn 4 [z0,0] λag=>(aq (decide (ag=1)) (K [[z0]] [[z0]]) (∃(fF:List (List Int)->Prop) (iM:List (List Int)->Nat),fF [[z0]]/\(bO λ
 z3=>fF [[z3]]->aK 0 [z3] λz4=>(aq (decide (0<z4)) (aK 0 [z3] λz5=>ab 1 [z3,(z5+(-1))]/\av 1 [z3,(z5+(-1))] λz6=>cn 43
 [125171368403152129163724030630095823892214485118700356753273476726430036133312942901998522965911142354738647179312425756528940035478207487514564356937,z6] λ
 z7=>(aq ((!(decide (z7=1)))) (∃(e6:List (List Int)->Prop) (gI:List (List Int)->Nat),e6 [[z3]]/\(bO λz9=>e6 [[z9]]->aK 0 [z9] λaj=>
 (aq (decide (0<aj)) (ab 1 [z9,0]/\av 1 [z9,0] λak=>cn 43
 [125171368403152129163724030630095823892214485118700356753273476726430036133312942901998522965911142354738647179312425756528940035478207487514564356937,ak] λ
 z12=>(aq ((!(decide (z12=1)))) (K [[z0]] [[z9]]) (aK 0 [z9] λad=>ab 2 [z9,1,ad]/\bj 2 [z9,1,ad] λao=>(e6 [[ao]]/\gI [[ao]]<gI
 [[z9]])))) (K [[z0]] [[z9]])))) (aK 0 [z3] λz8=>ab 2 [z3,0,(z8+(-1))]/\bj 2 [z3,0,(z8+(-1))] λz9=>(fF [[z9]]/\iM [[z9]]<iM [[z3]])))) (∃
 (dz:List (List Int)->Prop) (dg:List (List Int)->Nat),dz [[z3]]/\(bO λz6=>dz [[z6]]->aK 0 [z6] λz7=>(aq (decide (0<z7)) (ab 1 [z6,0]/\
 av 1 [z6,0] λz8=>cn 43
 [125171368403152129163724030630095823892214485118700356753273476726430036133312942901998522965911142354738647179312425756528940035478207487514564356937,z8] λ
 z9=>(aq ((!(decide (z9=1)))) (K [[z0]] [[z6]]) (aK 0 [z6] λaj=>ab 2 [z6,1,aj]/\bj 2 [z6,1,aj] λak=>(dz [[ak]]/\dg [[ak]]<dg
 [[z6]])))) (K [[z0]] [[z6]]))))))))
def TL (S:Nat->List (List Int)->List (List Int)->Prop) (K:List (List Int)->List (List Int)->Prop):Prop:=
 bO λz0=>∃(rX:List (List Int)->Prop) (yw:List (List Int)->Nat),rX [[0]]/\(dH λz2=>rX [[z2]]->aK 0 [z0] λz3=>(aq (decide (z2<z3))
 (ab 1 [z0,z2]/\av 1 [z0,z2] λz4=>(aq (decide (z4=58)) (K [[z0]] [[z2]]) (bt (z2+9223372036854775809) 18446744073709551616 λz5=>ab 39 [((z2+
 ((-18446744073709551616)*z5))+1),0,9223372036854775807]/\(rX [[((z2+((-18446744073709551616)*z5))+1)]]/\yw [[((z2+((-18446744073709551616)*z5))
 +1)]]<yw [[z2]])))) (K [[z0]] [[(-1)]])))
def UK (S:Nat->List (List Int)->List (List Int)->Prop) (K:List (List Int)->List (List Int)->Prop):Prop:=
 bO λz0=>bn λag=>S 204 [[z0]] [[ag]]->(aq (decide (ag<0)) (bz λz2=>S 30 [[z0]] [[z2]]->K [[z0]] [[(cond (decide (z2=1)) 1 0)]]) (bt (ag+
 9223372036854775809) 18446744073709551616 λz2=>aK 0 [z0] λz3=>ab 2 [z0,((ag+((-18446744073709551616)*z2))+1),z3]/\bj 2 [z0,((ag+
 ((-18446744073709551616)*z2))+1),z3] λz4=>∃(dz:List (List Int)->Prop) (dg:List (List Int)->Nat),dz [[0]]/\(dH λz6=>dz [[z6]]->aK 0
 [z4] λz7=>(aq (decide (z6<z7)) (ab 1 [z4,z6]/\av 1 [z4,z6] λz8=>bz λz9=>S 52 [[z8]] [[z9]]->(aq ((!(decide (z9=1)))) (K [[z0]] [[(cond
 (false) 1 0)]]) (bt (z6+9223372036854775809) 18446744073709551616 λaj=>ab 39 [((z6+((-18446744073709551616)*aj))+1),0,9223372036854775807]/\
 (dz [[((z6+((-18446744073709551616)*aj))+1)]]/\dg [[((z6+((-18446744073709551616)*aj))+1)]]<dg [[z6]])))) (ab 2 [z0,0,ag]/\bj 2 [z0,0,ag]
 λz8=>bz λz9=>S 30 [[z8]] [[z9]]->(aq (decide (z9=1)) (aK 0 [z4] λaj=>(aq (decide (1<=aj)) (aK 0 [z4] λak=>K [[z0]] [[(cond (decide
 (ak<=5)) 1 0)]]) (K [[z0]] [[(cond (false) 1 0)]]))) (K [[z0]] [[(cond (false) 1 0)]])))))))
def Ui (S:Nat->List (List Int)->List (List Int)->Prop) (K:List (List Int)->List (List Int)->Prop):Prop:=
 bO λz0=>eG 64 64 λag=>aK 0 [z0] λz2=>(aq (decide (z2=0)) (K [[z0],[ag]] [[0],[0],[(cond (false) 1 0)]]) (aK 0 [z0] λz3=>(aq (decide (255
 <z3)) (K [[z0],[ag]] [[0],[0],[(cond (false) 1 0)]]) (ab 1 [z0,0]/\av 1 [z0,0] λz4=>(aq ((!(decide (z4=ag)))) (K [[z0],[ag]] [[0],[0],[(cond (false)
 1 0)]]) (bn λz5=>S 204 [[z0]] [[z5]]->(aq (decide (z5<0)) (K [[z0],[ag]] [[0],[0],[(cond (false) 1 0)]]) (bt (z5+9223372036854775809)
 18446744073709551616 λz6=>aK 0 [z0] λz7=>ab 2 [z0,((z5+((-18446744073709551616)*z6))+1),z7]/\bj 2 [z0,((z5+((-18446744073709551616)*
 z6))+1),z7] λz8=>bz λz9=>S 205 [[z8]] [[z9]]->(aq ((!(decide (z9=1)))) (K [[z0],[ag]] [[0],[0],[(cond (false) 1 0)]]) (ab 2 [z0,1,z5]/\bj 2
 [z0,1,z5] λaj=>bt (z5+9223372036854775809) 18446744073709551616 λak=>aK 0 [z0] λz12=>ab 2 [z0,((z5+((-18446744073709551616)*ak))+
 1),z12]/\bj 2 [z0,((z5+((-18446744073709551616)*ak))+1),z12] λad=>K [[z0],[ag]] [[aj],[ad],[(cond (true) 1 0)]]))))))))))
def Uh (S:Nat->List (List Int)->List (List Int)->Prop) (K:List (List Int)->List (List Int)->Prop):Prop:=
 bO λz0=>eG 33 33 λag=>aK 0 [z0] λz2=>(aq (decide (z2=0)) (K [[z0],[ag]] [[0],[0],[(cond (false) 1 0)]]) (aK 0 [z0] λz3=>(aq (decide (255
 <z3)) (K [[z0],[ag]] [[0],[0],[(cond (false) 1 0)]]) (ab 1 [z0,0]/\av 1 [z0,0] λz4=>(aq ((!(decide (z4=ag)))) (K [[z0],[ag]] [[0],[0],[(cond (false)
 1 0)]]) (bn λz5=>S 204 [[z0]] [[z5]]->(aq (decide (z5<0)) (K [[z0],[ag]] [[0],[0],[(cond (false) 1 0)]]) (bt (z5+9223372036854775809)
 18446744073709551616 λz6=>aK 0 [z0] λz7=>ab 2 [z0,((z5+((-18446744073709551616)*z6))+1),z7]/\bj 2 [z0,((z5+((-18446744073709551616)*
 z6))+1),z7] λz8=>bz λz9=>S 205 [[z8]] [[z9]]->(aq ((!(decide (z9=1)))) (K [[z0],[ag]] [[0],[0],[(cond (false) 1 0)]]) (ab 2 [z0,1,z5]/\bj 2
 [z0,1,z5] λaj=>bt (z5+9223372036854775809) 18446744073709551616 λak=>aK 0 [z0] λz12=>ab 2 [z0,((z5+((-18446744073709551616)*ak))+
 1),z12]/\bj 2 [z0,((z5+((-18446744073709551616)*ak))+1),z12] λad=>K [[z0],[ag]] [[aj],[ad],[(cond (true) 1 0)]]))))))))))
def UL (S:Nat->List (List Int)->List (List Int)->Prop) (K:List (List Int)->List (List Int)->Prop):Prop:=
 bO λz0=>bO λag=>bO λz2=>bz λz3=>S 206 [[z0],[64]] [[ag],[z2],[z3]]->∃(eB:List (List Int)->Prop) (eg:List (List Int)->Nat),eB [[0]]
 /\(dH λz5=>eB [[z5]]->aK 0 [ag] λz6=>(aq (decide (z5<z6)) (ab 1 [ag,z5]/\av 1 [ag,z5] λz7=>bz λz8=>S 50 [[z7]] [[z8]]->(aq
 ((!(decide (z8=1)))) (bz λz9=>S 52 [[z7]] [[z9]]->(aq ((!(decide (z9=1)))) ((aq ((!(decide (z7=46)))) ((aq ((!(decide (z7=95)))) ((aq ((!(decide
 (z7=61)))) ((aq ((!(decide (z7=47)))) ((aq ((!(decide (z7=43)))) ((aq ((!(decide (z7=45)))) (K [[z0]] [[(cond (false) 1 0)]]) (bt (z5+
 9223372036854775809) 18446744073709551616 λaj=>ab 39 [((z5+((-18446744073709551616)*aj))+1),0,9223372036854775807]/\(eB [[((z5+
 ((-18446744073709551616)*aj))+1)]]/\eg [[((z5+((-18446744073709551616)*aj))+1)]]<eg [[z5]])))) (bt (z5+9223372036854775809)
 18446744073709551616 λaj=>ab 39 [((z5+((-18446744073709551616)*aj))+1),0,9223372036854775807]/\(eB [[((z5+((-18446744073709551616)*aj))+
 1)]]/\eg [[((z5+((-18446744073709551616)*aj))+1)]]<eg [[z5]])))) (bt (z5+9223372036854775809) 18446744073709551616 λaj=>ab 39 [((z5+
 ((-18446744073709551616)*aj))+1),0,9223372036854775807]/\(eB [[((z5+((-18446744073709551616)*aj))+1)]]/\eg [[((z5+((-18446744073709551616)*
 aj))+1)]]<eg [[z5]])))) (bt (z5+9223372036854775809) 18446744073709551616 λaj=>ab 39 [((z5+((-18446744073709551616)*aj))+
 1),0,9223372036854775807]/\(eB [[((z5+((-18446744073709551616)*aj))+1)]]/\eg [[((z5+((-18446744073709551616)*aj))+1)]]<eg [[z5]])))) (bt (z5
 +9223372036854775809) 18446744073709551616 λaj=>ab 39 [((z5+((-18446744073709551616)*aj))+1),0,9223372036854775807]/\(eB [[((z5+
 ((-18446744073709551616)*aj))+1)]]/\eg [[((z5+((-18446744073709551616)*aj))+1)]]<eg [[z5]])))) (bt (z5+9223372036854775809)
 18446744073709551616 λaj=>ab 39 [((z5+((-18446744073709551616)*aj))+1),0,9223372036854775807]/\(eB [[((z5+((-18446744073709551616)*aj))+
 1)]]/\eg [[((z5+((-18446744073709551616)*aj))+1)]]<eg [[z5]])))) (bt (z5+9223372036854775809) 18446744073709551616 λaj=>ab 39 [((z5+
 ((-18446744073709551616)*aj))+1),0,9223372036854775807]/\(eB [[((z5+((-18446744073709551616)*aj))+1)]]/\eg [[((z5+((-18446744073709551616)*
 aj))+1)]]<eg [[z5]])))) (bt (z5+9223372036854775809) 18446744073709551616 λz9=>ab 39 [((z5+((-18446744073709551616)*z9))+
 1),0,9223372036854775807]/\(eB [[((z5+((-18446744073709551616)*z9))+1)]]/\eg [[((z5+((-18446744073709551616)*z9))+1)]]<eg [[z5]])))) ((aq
 (decide (z3=1)) (aK 0 [ag] λz7=>(aq (decide (1<=z7)) (aK 0 [ag] λz8=>K [[z0]] [[(cond (decide (z8<=200)) 1 0)]]) (K [[z0]] [[(cond (false) 1
 0)]]))) (K [[z0]] [[(cond (false) 1 0)]])))))
def UJ (S:Nat->List (List Int)->List (List Int)->Prop) (K:List (List Int)->List (List Int)->Prop):Prop:=
 bO λz0=>bO λag=>bO λz2=>bz λz3=>S 211 [[z0],[33]] [[ag],[z2],[z3]]->∃(eB:List (List Int)->Prop) (eg:List (List Int)->Nat),eB [[0]]
 /\(dH λz5=>eB [[z5]]->aK 0 [ag] λz6=>(aq (decide (z5<z6)) (ab 1 [ag,z5]/\av 1 [ag,z5] λz7=>bz λz8=>S 50 [[z7]] [[z8]]->(aq
 ((!(decide (z8=1)))) (ab 1 [ag,z5]/\av 1 [ag,z5] λz9=>bz λaj=>S 51 [[z9]] [[aj]]->(aq ((!(decide (aj=1)))) (ab 1 [ag,z5]/\av 1
 [ag,z5] λak=>bz λz12=>S 52 [[ak]] [[z12]]->(aq ((!(decide (z12=1)))) (K [[z0]] [[(cond (false) 1 0)]]) (bt (z5+9223372036854775809)
 18446744073709551616 λad=>ab 39 [((z5+((-18446744073709551616)*ad))+1),0,9223372036854775807]/\(eB [[((z5+((-18446744073709551616)*ad))+
 1)]]/\eg [[((z5+((-18446744073709551616)*ad))+1)]]<eg [[z5]])))) (bt (z5+9223372036854775809) 18446744073709551616 λak=>ab 39 [((z5+
 ((-18446744073709551616)*ak))+1),0,9223372036854775807]/\(eB [[((z5+((-18446744073709551616)*ak))+1)]]/\eg [[((z5+((-18446744073709551616)*
 ak))+1)]]<eg [[z5]])))) (bt (z5+9223372036854775809) 18446744073709551616 λz9=>ab 39 [((z5+((-18446744073709551616)*z9))+
 1),0,9223372036854775807]/\(eB [[((z5+((-18446744073709551616)*z9))+1)]]/\eg [[((z5+((-18446744073709551616)*z9))+1)]]<eg [[z5]])))) ((aq
 (decide (z3=1)) (aK 0 [ag] λz7=>(aq (decide (1<=z7)) (aK 0 [ag] λz8=>K [[z0]] [[(cond (decide (z8<=64)) 1 0)]]) (K [[z0]] [[(cond (false) 1
 0)]]))) (K [[z0]] [[(cond (false) 1 0)]])))))
theorem as1:U3 SB (aY SB [.str] 202):=GS (n:=79221403731691789204265450354666987086070872538664503581038852739373042335165977954796146613462291367) (p:=tM) (ti (by decide+kernel)) λ_ _=>rfl
theorem asZ:U1 SB (aY SB [.str] 203):=GS (n:=125171368403152129163724030630095823892214485118700356753273476726430036133312942901998522965911142354738647179312425756528940035478207487514564356937) (p:=tL) (ti (by decide+kernel)) λ_ _=>rfl
theorem Ij {I:List (List Int)->Prop} {M:List (List Int)->Nat} {L:Int} {i:Nat} (hlt:(i:Int)<L) (cF:L<=9223372036854775807) (hI:I [[((i+1:Nat):Int)]]) (fj:M [[((i+1:Nat):Int)]]<M [[(i:Int)]]):
 ∀q:Int,0<=q->q<=1->0<=((i:Int)+9223372036854775809)-18446744073709551616*q->((i:Int)+9223372036854775809)-18446744073709551616*q<18446744073709551616->
  ab 39 [(((i:Int)+((-18446744073709551616)*q))+1),0,9223372036854775807]/\
  (I [[(((i:Int)+((-18446744073709551616)*q))+1)]]/\M [[(((i:Int)+((-18446744073709551616)*q))+1)]]<M [[(i:Int)]]):=by
 intro q fJ bq bE b5
 rw[nx (L:=L) hlt cF (rL _) fJ bE]
 exact⟨⟨by omega,by omega⟩,by simpa using hI,by simpa using fj⟩
def tn (n:Nat) (bl:List (List Int)):Nat:=n-((bl.getD 0 []).getD 0 0).toNat
theorem IP {n i:Nat} (h:i<n):tn n [[((i+1:Nat):Int)]]<tn n [[(i:Int)]]:=by
 show n-(((i+1:Nat):Int)).toNat<n-((i:Int)).toNat
 omega
theorem arJ:TL SB (aY SB [.int .i64 (-1) 9223372036854775807] 204):=by
 intro z0 a0 a1
 have cF:=tS a1
 refine⟨λbl=>∃i:Nat,bl=[[(i:Int)]]/\i<=(U z0).length/\∀j,j<i->(U z0).getD j 0≠u8 58,tn (U z0).length,⟨0,rfl,gX _,λj h=>by omega⟩,?_⟩
 rintro z2 b0 b1 ⟨i,e,hi,hb⟩ z3 bC c1 h3
 obtain rfl:z2=i:=by simpa using e
 simp only[au]at h3
 have fin:∀r:Int,-1<=r->r<=9223372036854775807->r=idx 58 (U z0)->aY SB [.int .i64 (-1) 9223372036854775807] 204 [[z0]] [[r]]:=λr aP r1 h=>⟨⟨aP,r1,trivial⟩,h⟩
 refine⟨λhp=>?_,λhp=>fin _ (by decide) (by decide) ?_⟩
 ·have hp:(i:Int)<z3:=by simpa using hp
  refine⟨⟨b0,by omega⟩,λz4 d0 d1 h4=>?_⟩
  simp only[au,gu]at h4
  have hu:=rI (b:=(U z0).getD i 0) (z:=58) (by decide) (by decide)
  rw[<-h4]at hu
  refine⟨λhq=>fin _ (by omega) (by omega) ?_,λhq=>Ij (I:=λbl=>∃i:Nat,bl=[[(i:Int)]]/\i<=(U z0).length/\∀j,j<i->(U z0).getD j 0≠u8 58) (M:=tn (U z0).length) (L:=z3) hp c1 ⟨i+1,rfl,by omega,λj hj=>?_⟩ (IP (by omega))⟩
  ·exact(Y6 (by decide) (by decide) (by omega) (beq_iff_eq.1 (hu.1 (of_decide_eq_true hq))) hb).symm
  ·by_cases he:j=i
   ·subst he
    intro h
    have:=hu.2 (by rw[h];simp)
    exact of_decide_eq_false hq this
   ·exact hb j (by omega)
 ·have hp:¬(i:Int)<z3:=by simpa using hp
  exact(Y8 (by decide) (by decide) λj hj=>hb j (by omega)).symm
theorem Lg {s z L:Int} {n:Nat} (hz:z=(n:Int)) (h:n<=(U s).length) (cF:L=au 0 [s]):(0<=z/\z<=L/\L<=((U s).length:Int))/\∀y,y=au 2 [s,z,L]->U y=(U s).drop n:=by
 subst hz
 simp only[au]at cF
 refine⟨⟨by omega,by omega,by omega⟩,λy hy=>?_⟩
 rw[hy];simp only[au,fm]
 rw[show((n:Int)).toNat=n by omega]
 exact jd (by simp;omega)
theorem asJ:UK SB (aY SB [.bool] 205):=by
 intro z0 a0 a1 ag b0 b1 h1
 have cF:=tS a1
 have h1:ag=idx 58 (U z0):=h1
 have aI:∀b:Bool,kO (U z0)=b->aY SB [.bool] 205 [[z0]] [[aL b]]:=λb h=>l9 (by show aL b=aL (kO (U z0));rw[h])
 have hr:=zP 58 (U z0)
 refine⟨λhn z2 bC c1 h2=>?_,λhn z2 bC c1 c2 c3 z3 d0 d1 h3=>?_⟩
 ·have h2:z2=aL (hS (U z0)):=h2
  have hn:ag<0:=of_decide_eq_true hn
  rw[eb h2]
  exact aI _ (abz (by omega))
 ·have hn:¬ag<0:=of_decide_eq_false hn
  have hw:ag+-18446744073709551616*z2+1=((ag.toNat+1:Nat):Int):=by omega
  rw[hw]
  obtain⟨s1,s2⟩:=Lg (s:=z0) (z:=((ag.toNat+1:Nat):Int)) (L:=z3) (n:=ag.toNat+1) rfl (by omega) h3
  refine⟨s1,λz4 aZ e1 h4=>?_⟩
  have fi:=s2 z4 h4
  have aCt:=tS e1
  have lx:kO (U z0)=(hS ((U z0).take ag.toNat)&&uc (U z4)):=by
   unfold kO oz
   have:decide (0<=idx 58 (U z0))=true:=decide_eq_true (by omega)
   rw[this,fi,h1]
   simp
  refine⟨λbl=>∃i:Nat,bl=[[(i:Int)]]/\i<=(U z4).length/\((U z4).take i).all ej=true,tn (U z4).length,⟨0,rfl,gX _,rfl⟩,?_⟩
  rintro z6 f0 f1 ⟨i,e,hi,hall⟩ z7 g0 g1 h7
  obtain rfl:z6=i:=by simpa using e
  simp only[au]at h7
  refine⟨λhp=>?_,λhp=>?_⟩
  ·have hp:(i:Int)<z7:=by simpa using hp
   refine⟨⟨f0,by omega⟩,λz8 i0 i1 bD z9 ew dk bg=>?_⟩
   simp only[au,gu]at bD
   have bg:z9=aL (ej (u8 z8)):=bg
   rw[bD,we]at bg
   rw[eb bg]
   refine⟨λhd=>aI false ?_,λhd=>Ij (I:=λbl=>∃i:Nat,bl=[[(i:Int)]]/\i<=(U z4).length/\((U z4).take i).all ej=true) (M:=tn (U z4).length) (L:=z7) hp g1 ⟨i+1,rfl,by omega,?_⟩ (IP (by omega))⟩
   ·have hd:ej ((U z4).getD i 0)=false:=by simpa using hd
    rw[lx];unfold uc;rw[MJ ej _ i (by omega) hd];simp
   ·have hd:ej ((U z4).getD i 0)=true:=by simpa using hd
    rw[Iq _ _ _ (by omega),hall,hd];rfl
  ·have hp:¬(i:Int)<z7:=by simpa using hp
   rw[jd (by omega)]at hall
   refine⟨⟨bX _,by omega,by omega⟩,λz8 i0 i1 bD z9 ew dk bg=>?_⟩
   have o6:U z8=(U z0).take ag.toNat:=by
    rw[bD];simp only[au,fm]
    rw[show(0:Int).toNat=0 from rfl,A5];rfl
   have bg:z9=aL (hS (U z8)):=bg
   rw[eb bg,o6]
   have alB:uc (U z4)=(cf 0 (U z4).length&&bB (U z4).length 5):=by unfold uc;rw[hall,LL]
   rw[alB]at lx
   refine⟨λai aj fA k1 b9=>?_,λai=>aI false (by rw[lx,ai];rfl)⟩
   simp only[au]at b9
   refine⟨λhq ak cq l1 cH=>?_,λhq=>aI false ?_⟩
   ·simp only[au]at cH
    have hq:1<=aj:=of_decide_eq_true hq
    refine aI _ ?_
    rw[lx,ai,show cf 0 (U z4).length=true by rw[p8];omega,rM,rM,iv,decide_eq_true_eq,oS];omega
   ·have hq:¬1<=aj:=of_decide_eq_false hq
    rw[lx,show cf 0 (U z4).length=false by
     cases hb:cf 0 (U z4).length with
     |false=>rfl
     |true=>rw[p8]at hb;omega];simp
theorem Kc {id:Nat} {zs:List (List Int)} {a b:Int} {c:Bool} (a0:0<=a) (a1:a<=bM) (b0:0<=b) (b1:b<=bM) (h:SB id zs [[a],[b],[aL c]]):aY SB [.str,.str,.bool] id zs [[a],[b],[aL c]]:=⟨⟨a0,a1,b0,b1,(pE c).1,(pE c).2,trivial⟩,h⟩
theorem Ap {k:UInt8} {s:aH} (h:(cf 0 s.length&&bB s.length 255&&s.getD 0 0==k&&decide (0<=idx 58 s)&&kO (s.drop ((idx 58 s).toNat+1)))=false):jS k s=([],[],0):=by unfold jS;rw[h];rfl
theorem aay {k:Int} (fA:0<=k) (k1:k<=255) (hk:k≠58) {id:Nat} (hid:∀z a b c,SB id [[z],[k]] [[a],[b],[c]]=((U a,U b,c)=jS (u8 k) (U z))):
 (∀z0:Int,0<=z0->z0<=bM->∀ag:Int,k<=ag->ag<=k->
 ∀z2:Int,0<=z2->z2<=9223372036854775807->z2=au 0 [z0]->
 (((decide (z2=0))=true->
  aY SB [.str,.str,.bool] id [[z0],[ag]] [[0],[0],[(cond (false) 1 0)]]
 )/\((decide (z2=0))=false->
  ∀z3:Int,0<=z3->z3<=9223372036854775807->z3=au 0 [z0]->
  (((decide (255<z3))=true->
   aY SB [.str,.str,.bool] id [[z0],[ag]] [[0],[0],[(cond (false) 1 0)]]
  )/\((decide (255<z3))=false->
   ab 1 [z0,0]/\
   ∀z4:Int,0<=z4->z4<=255->z4=au 1 [z0,0]->
   ((((!(decide (z4=ag))))=true->
    aY SB [.str,.str,.bool] id [[z0],[ag]] [[0],[0],[(cond (false) 1 0)]]
   )/\(((!(decide (z4=ag))))=false->
    ∀z5:Int,(-1)<=z5->z5<=9223372036854775807->SB 204 [[z0]] [[z5]]->
    (((decide (z5<0))=true->
     aY SB [.str,.str,.bool] id [[z0],[ag]] [[0],[0],[(cond (false) 1 0)]]
    )/\((decide (z5<0))=false->
     ∀z6:Int,0<=z6->z6<=1->0<=(z5+9223372036854775809)-18446744073709551616*z6->(z5+9223372036854775809)-18446744073709551616*z6<18446744073709551616->
     ∀z7:Int,0<=z7->z7<=9223372036854775807->z7=au 0 [z0]->
     ab 2 [z0,((z5+((-18446744073709551616)*z6))+1),z7]/\
     ∀z8:Int,0<=z8->z8<=bM->z8=au 2 [z0,((z5+((-18446744073709551616)*z6))+1),z7]->
     ∀z9:Int,0<=z9->z9<=1->SB 205 [[z8]] [[z9]]->
     ((((!(decide (z9=1))))=true->
      aY SB [.str,.str,.bool] id [[z0],[ag]] [[0],[0],[(cond (false) 1 0)]]
     )/\(((!(decide (z9=1))))=false->
      ab 2 [z0,1,z5]/\
      ∀aj:Int,0<=aj->aj<=bM->aj=au 2 [z0,1,z5]->
      ∀ak:Int,0<=ak->ak<=1->0<=(z5+9223372036854775809)-18446744073709551616*ak->(z5+9223372036854775809)-18446744073709551616*ak<18446744073709551616->
      ∀z12:Int,0<=z12->z12<=9223372036854775807->z12=au 0 [z0]->
      ab 2 [z0,((z5+((-18446744073709551616)*ak))+1),z12]/\
      ∀ad:Int,0<=ad->ad<=bM->ad=au 2 [z0,((z5+((-18446744073709551616)*ak))+1),z12]->
      aY SB [.str,.str,.bool] id [[z0],[ag]] [[aj],[ad],[(cond (true) 1 0)]]
     ))
    ))
   ))
  ))
 ))):=by
  intro z0 a0 a1 ag b0 b1 z2 bC c1 h2
  have cF:=tS a1
  obtain rfl:ag=k:=by omega
  simp only[au]at h2
  have iT:jS (u8 ag) (U z0)=([],[],0)->aY SB [.str,.str,.bool] id [[z0],[ag]] [[0],[0],[(cond (false) 1 0)]]:=λh=>Kc (c:=false) (bX _) fv (bX _) fv (by rw[hid,h];rfl)
  have gj:cf 0 (U z0).length= !decide (z2=0):=by
   rw[iv,p8];simp;omega
  refine⟨λh=>iT (Ap (by rw[gj,h];rfl)),λh z3 d0 d1 h3=>?_⟩
  have hz2:¬z2=0:=of_decide_eq_false h
  rw[h]at gj
  have B8:=xJ (n:=255) 255 rfl h3
  refine⟨λh'=>iT (Ap (by
   rw[h']at B8
   have:bB (U z0).length 255=false:=by simpa using B8.symm
   rw[this];simp)),λh'=>⟨⟨bX _,by omega⟩,λz4 aZ e1 h4=>?_⟩⟩
  rw[h']at B8
  have B8:bB (U z0).length 255=true:=by simpa using B8.symm
  have akY:decide (z4=ag)=((U z0).getD 0 0==u8 ag):=by
   rw[h4];simp only[au,uD]
   rw[iv,decide_eq_true_eq,rI fA k1]
  rw[akY]
  refine⟨λhk=>iT (Ap (by
   have:((U z0).getD 0 0==u8 ag)=false:=by simpa using hk
   rw[this];simp)),λjN z5 f0 f1 h5=>?_⟩
  have jN:((U z0).getD 0 0==u8 ag)=true:=by simpa using jN
  have h5:z5=idx 58 (U z0):=h5
  have hr:=zP 58 (U z0)
  refine⟨λhn=>iT (Ap (by
   have hn:z5<0:=of_decide_eq_true hn
   rw[show decide (0<=idx 58 (U z0))=false from decide_eq_false (by omega)];simp)),λhn z6 g0 g1 g2 g3 z7 i0 i1 h7=>?_⟩
  have hn:¬z5<0:=of_decide_eq_false hn
  have h1:1<=z5:=by
   rcases GA (c:=58) (by decide) (by decide) (U z0)with⟨q,_⟩|⟨bq,bE,b5,_⟩
   ·omega
   ·by_cases h0:z5=0
    ·rw[<-h5,h0]at b5
     have b5:(U z0).getD 0 0=u8 58:=b5
     rw[b5]at jN
     have:=beq_iff_eq.1 jN
     have:=congrArg UInt8.toNat this
     have e1:=Lm fA k1
     have e2:=Lm (z:=58) (by decide) (by decide)
     omega
    ·omega
  have hw:∀q:Int,0<=q->q<=1->0<=(z5+9223372036854775809)-18446744073709551616*q->z5+-18446744073709551616*q+1=((z5.toNat+1:Nat):Int):=λq fJ bq bE=>by omega
  rw[hw z6 g0 g1 g2]
  obtain⟨s1,s2⟩:=Lg (s:=z0) (z:=((z5.toNat+1:Nat):Int)) (L:=z7) (n:=z5.toNat+1) rfl (by omega) h7
  refine⟨s1,λz8 ew dk bD z9 cq l1 bg=>?_⟩
  have o6:=s2 z8 bD
  have bg:z9=aL (kO (U z8)):=bg
  rw[eb bg,o6]
  have hi:decide (0<=idx 58 (U z0))=true:=decide_eq_true (by omega)
  refine⟨λhs=>iT (Ap (by
   have hs:kO ((U z0).drop (z5.toNat+1))=false:=by simpa using hs
   rw[<-h5,hs];simp)),λhs=>⟨⟨by decide,by omega,by omega⟩,λaj m0 fW b9 ak n0 n1 en mh z12 tY o1 dw=>?_⟩⟩
  have hs:kO ((U z0).drop (z5.toNat+1))=true:=by simpa using hs
  rw[hw ak n0 n1 en]
  obtain⟨t1,t2⟩:=Lg (s:=z0) (z:=((z5.toNat+1:Nat):Int)) (L:=z12) (n:=z5.toNat+1) rfl (by omega) dw
  refine⟨t1,λad p0 p1 dj=>Kc (c:=true) m0 fW p0 p1 ?_⟩
  rw[hid,t2 ad dj]
  have agd:U aj=((U z0).take z5.toNat).drop 1:=by
   rw[b9];simp only[au,fm]
   rw[List.drop_take];rfl
  have hbl:cf 0 (U z0).length=true:=by rw[gj];rfl
  unfold jS
  rw[hbl,B8,jN,hi,<-h5,hs,agd]
  rfl
theorem asg:Ui SB (aY SB [.str,.str,.bool] 206):=aay (k:=64) (by decide) (by decide) (by decide) λ_ _ _ _=>rfl
theorem asf:Uh SB (aY SB [.str,.str,.bool] 211):=aay (k:=33) (by decide) (by decide) (by decide) λ_ _ _ _=>rfl
theorem Z4 {z0 ag z3:Int} {k:UInt8} {inn:UInt8->Bool} {most:Nat} {Dg:Int} (hm:Dg=(most:Int)) {id:Nat} (hid:∀r,SB id [[z0]] [[r]]=(r=aL (pY k inn most (U z0)))) (h3:0<=z3/\z3<=1) (hp:(jS k (U z0)).1=U ag) (Cl:(jS k (U z0)).2.2=z3) (hall:(U ag).all inn=true):
 (((decide (z3=1))=true->
  ∀z7:Int,0<=z7->z7<=9223372036854775807->z7=au 0 [ag]->
  (((decide (1<=z7))=true->
   ∀z8:Int,0<=z8->z8<=9223372036854775807->z8=au 0 [ag]->
   aY SB [.bool] id [[z0]] [[(cond (decide (z8<=Dg)) 1 0)]]
  )/\((decide (1<=z7))=false->
   aY SB [.bool] id [[z0]] [[(cond (false) 1 0)]]
  ))
 )/\((decide (z3=1))=false->
  aY SB [.bool] id [[z0]] [[(cond (false) 1 0)]]
 )):=by
 have aI:∀b:Bool,pY k inn most (U z0)=b->aY SB [.bool] id [[z0]] [[aL b]]:=λb h=>l9 (by rw[hid,h])
 have hv:pY k inn most (U z0)=(decide (z3=1)&&cf 0 (U ag).length&&bB (U ag).length most):=by
  unfold pY;rw[hp,Cl,hall,LL]
 refine⟨λh z7 a0 a1 h7=>?_,λh=>aI false (by rw[hv,h];rfl)⟩
 simp only[au]at h7
 refine⟨λh1 z8 b0 b1 bD=>aI _ ?_,λh1=>aI false ?_⟩
 ·have h1:1<=z7:=of_decide_eq_true h1
  rw[hv,h,show cf 0 (U ag).length=true by rw[p8];omega,Ak most hm bD];rfl
 ·have h1:¬1<=z7:=of_decide_eq_false h1
  rw[hv,show cf 0 (U ag).length=false by
   cases hb:cf 0 (U ag).length with
   |false=>rfl
   |true=>rw[p8]at hb;omega];simp
theorem Z5 {k:UInt8} {inn:UInt8->Bool} {most:Nat} {s l:aH} (hp:(jS k s).1=l) {i:Nat} (hi:i<l.length) (hf:inn (l.getD i 0)=false):pY k inn most s=false:=by
 unfold pY;rw[hp,MJ inn l i hi hf];simp
theorem asK:UL SB (aY SB [.bool] 207):=by
 intro z0 a0 a1 ag b0 b1 z2 bC c1 z3 d0 d1 kl
 have kl:(U ag,U z2,z3)=jS 64 (U z0):=kl
 have hp:(jS 64 (U z0)).1=U ag:=by rw[<-kl]
 have Cl:(jS 64 (U z0)).2.2=z3:=by rw[<-kl]
 have cF:=tS b1
 have aI:∀b:Bool,kS (U z0)=b->aY SB [.bool] 207 [[z0]] [[aL b]]:=λb h=>l9 (by show aL b=aL (kS (U z0));rw[h])
 refine⟨λbl=>∃i:Nat,bl=[[(i:Int)]]/\i<=(U ag).length/\((U ag).take i).all tM=true,tn (U ag).length,⟨0,rfl,gX _,rfl⟩,?_⟩
 rintro z5 aZ e1 ⟨i,e,hi,hall⟩ z6 f0 f1 h6
 obtain rfl:z5=i:=by simpa using e
 simp only[au]at h6
 refine⟨λhlt=>?_,λec=>?_⟩
 ·have hlt:(i:Int)<z6:=by simpa using hlt
  refine⟨⟨aZ,by omega⟩,λz7 g0 g1 h7 z8 i0 i1 bD=>?_⟩
  simp only[au,gu]at h7
  have bD:z8=aL (kM (u8 z7)):=bD
  have BO:u8 z7=(U ag).getD i 0:=by rw[h7,we]
  rw[BO]at bD
  have on:tM ((U ag).getD i 0)=true->_:=λh=>Ij (I:=λbl=>∃i:Nat,bl=[[(i:Int)]]/\i<=(U ag).length/\((U ag).take i).all tM=true) (M:=tn (U ag).length) (L:=z6) hlt f1 ⟨i+1,rfl,by omega,by rw[Iq _ _ _ (by omega),hall,h];rfl⟩ (IP (by omega))
  have re:∀n:Int,0<=n->n<=255->decide (z7=n)=((U ag).getD i 0==u8 n):=λn h0 h1=>by
   rw[iv,decide_eq_true_eq,h7,rI h0 h1]
  rw[eb bD,re 46 (by decide) (by decide),re 95 (by decide) (by decide),re 61 (by decide) (by decide),re 47 (by decide) (by decide),re 43 (by decide) (by decide),re 45 (by decide) (by decide)]
  have cN:tM ((U ag).getD i 0)=(kM ((U ag).getD i 0)||ej ((U ag).getD i 0)||((U ag).getD i 0==u8 46||((U ag).getD i 0==u8 95||((U ag).getD i 0==u8 61||((U ag).getD i 0==u8 47||((U ag).getD i 0==u8 43||((U ag).getD i 0==u8 45||false))))))):=rfl
  refine⟨λhs z9 ew dk bg=>?_,λhs=>on (by rw[cN,show kM ((U ag).getD i 0)=true by simpa using hs];rfl)⟩
  have hs:kM ((U ag).getD i 0)=false:=by simpa using hs
  have bg:z9=aL (ej (u8 z7)):=bg
  rw[BO]at bg
  rw[eb bg]
  refine⟨λhd=>?_,λhd=>on (by rw[cN,show ej ((U ag).getD i 0)=true by simpa using hd];simp)⟩
  have hd:ej ((U ag).getD i 0)=false:=by simpa using hd
  rw[hs,hd]at cN
  refine⟨λbq=>⟨λbE=>⟨λb5=>⟨λdm=>⟨λik=>⟨λjT=>aI false (Z5 (k:=64) (inn:=tM) (most:=200) hp (i:=i) (by omega) ?_),λjT=>on ?_⟩,λik=>on ?_⟩,λdm=>on ?_⟩,λb5=>on ?_⟩,λbE=>on ?_⟩,λbq=>on ?_⟩
  ·simp only[gW]at bq bE b5 dm ik jT
   rw[cN,bq,bE,b5,dm,ik,jT];rfl
  all_goals rw[cN]
  ·simp only[nD]at jT;rw[jT];simp
  ·simp only[nD]at ik;rw[ik];simp
  ·simp only[nD]at dm;rw[dm];simp
  ·simp only[nD]at b5;rw[b5];simp
  ·simp only[nD]at bE;rw[bE];simp
  ·simp only[nD]at bq;rw[bq];simp
 ·have ec:¬(i:Int)<z6:=by simpa using ec
  rw[jd (by omega)]at hall
  exact Z4 (k:=64) (inn:=tM) (most:=200) rfl (λ_=>rfl) ⟨d0,d1⟩ hp Cl hall
theorem asI:UJ SB (aY SB [.bool] 208):=by
 intro z0 a0 a1 ag b0 b1 z2 bC c1 z3 d0 d1 kl
 have kl:(U ag,U z2,z3)=jS 33 (U z0):=kl
 have hp:(jS 33 (U z0)).1=U ag:=by rw[<-kl]
 have Cl:(jS 33 (U z0)).2.2=z3:=by rw[<-kl]
 have cF:=tS b1
 have aI:∀b:Bool,uk (U z0)=b->aY SB [.bool] 208 [[z0]] [[aL b]]:=λb h=>l9 (by show aL b=aL (uk (U z0));rw[h])
 refine⟨λbl=>∃i:Nat,bl=[[(i:Int)]]/\i<=(U ag).length/\((U ag).take i).all tL=true,tn (U ag).length,⟨0,rfl,gX _,rfl⟩,?_⟩
 rintro z5 aZ e1 ⟨i,e,hi,hall⟩ z6 f0 f1 h6
 obtain rfl:z5=i:=by simpa using e
 simp only[au]at h6
 refine⟨λhlt=>?_,λec=>?_⟩
 ·have hlt:(i:Int)<z6:=by simpa using hlt
  have k1:ab 1 [ag,(i:Int)]:=⟨aZ,by omega⟩
  refine⟨k1,λz7 g0 g1 h7 z8 i0 i1 bD=>?_⟩
  have BO:u8 z7=(U ag).getD i 0:=by rw[h7];simp only[au,gu,we]
  have bD:z8=aL (kM (u8 z7)):=bD
  rw[BO]at bD
  have on:tL ((U ag).getD i 0)=true->_:=λh=>Ij (I:=λbl=>∃i:Nat,bl=[[(i:Int)]]/\i<=(U ag).length/\((U ag).take i).all tL=true) (M:=tn (U ag).length) (L:=z6) hlt f1 ⟨i+1,rfl,by omega,by rw[Iq _ _ _ (by omega),hall,h];rfl⟩ (IP (by omega))
  have cN:tL ((U ag).getD i 0)=(kM ((U ag).getD i 0)||kL ((U ag).getD i 0)||ej ((U ag).getD i 0)):=rfl
  rw[eb bD]
  refine⟨λhs=>⟨k1,λz9 ew dk bg aj cq l1 b9=>?_⟩,λhs=>on (by rw[cN,show kM ((U ag).getD i 0)=true by simpa using hs];rfl)⟩
  have hs:kM ((U ag).getD i 0)=false:=by simpa using hs
  have lp:u8 z9=(U ag).getD i 0:=by rw[bg];simp only[au,gu,we]
  have b9:aj=aL (kL (u8 z9)):=b9
  rw[lp]at b9
  rw[eb b9]
  refine⟨λhg=>⟨k1,λak m0 fW cH z12 n0 n1 dw=>?_⟩,λhg=>on (by rw[cN,show kL ((U ag).getD i 0)=true by simpa using hg];simp)⟩
  have hg:kL ((U ag).getD i 0)=false:=by simpa using hg
  have Nx:u8 ak=(U ag).getD i 0:=by rw[cH];simp only[au,gu,we]
  have dw:z12=aL (ej (u8 ak)):=dw
  rw[Nx]at dw
  rw[eb dw]
  refine⟨λhd=>aI false (Z5 (k:=33) (inn:=tL) (most:=64) hp (i:=i) (by omega) ?_),λhd=>on (by rw[cN,show ej ((U ag).getD i 0)=true by simpa using hd];simp)⟩
  rw[cN,hs,hg,show ej ((U ag).getD i 0)=false by simpa using hd];rfl
 ·have ec:¬(i:Int)<z6:=by simpa using ec
  rw[jd (by omega)]at hall
  exact Z4 (k:=33) (inn:=tL) (most:=64) rfl (λ_=>rfl) ⟨d0,d1⟩ hp Cl hall
end Go.cu
namespace Go.cu
open Go Go.bo
def U4 (S:Nat->List (List Int)->List (List Int)->Prop) (K:List (List Int)->List (List Int)->Prop):Prop:=
 bO λz0=>aK 0 [z0] λag=>(aq (decide (255<ag)) (K [[z0]] [[(cond (false) 1 0)]]) (aK 0 [z0] λz2=>(aq (decide (1<=z2)) (ab 2 [z0,0,1]/\bj 2
 [z0,0,1] λz3=>cn 4 [z3,65] λz4=>(aq ((!(decide (z4=1)))) (K [[z0]] [[(cond (false) 1 0)]]) (aK 0 [z0] λz5=>ab 2 [z0,1,z5]/\bj 2 [z0,1,z5]
 λz6=>bO λz7=>bO λz8=>bz λz9=>S 126 [[z6]] [[z7],[z8],[z9]]->(aq (decide (z9=1)) (cn 4 [z7,0] λaj=>(aq ((!(decide (aj=1)))) (aK
 0 [z7] λak=>(aq (decide (ak<=200)) (bO λz12=>S 202 [[z7]] [[z12]]->cn 4 [z12,0] λad=>(aq (decide (ad=1)) (bz λao=>S 65
 [[z7],[29623484903295033747957742255491238963424329677582429956179748554116486405127370353604394274421496743]] [[ao]]->(aq (decide (ao=1)) (bz λaz=>S
 27 [[z8]] [[az]]->K [[z0]] [[(cond (decide (az=1)) 1 0)]]) (K [[z0]] [[(cond (false) 1 0)]]))) (K [[z0]] [[(cond (false) 1 0)]]))) (K [[z0]] [[(cond
 (false) 1 0)]]))) (K [[z0]] [[(cond (false) 1 0)]]))) (K [[z0]] [[(cond (false) 1 0)]]))))) (K [[z0]] [[(cond (false) 1 0)]]))))
def UG (S:Nat->List (List Int)->List (List Int)->Prop) (K:List (List Int)->List (List Int)->Prop):Prop:=
 bO λz0=>aK 0 [z0] λag=>(aq (decide (255<ag)) (K [[z0]] [[(cond (false) 1 0)]]) (aK 0 [z0] λz2=>(aq (decide (1<=z2)) (ab 2 [z0,0,1]/\bj 2
 [z0,0,1] λz3=>cn 4 [z3,34] λz4=>(aq ((!(decide (z4=1)))) (K [[z0]] [[(cond (false) 1 0)]]) (aK 0 [z0] λz5=>ab 2 [z0,1,z5]/\bj 2 [z0,1,z5]
 λz6=>bO λz7=>bO λz8=>bz λz9=>S 126 [[z6]] [[z7],[z8],[z9]]->(aq (decide (z9=1)) (cn 4 [z7,0] λaj=>(aq ((!(decide (aj=1)))) (aK
 0 [z7] λak=>(aq (decide (ak<=64)) (bO λz12=>S 203 [[z7]] [[z12]]->cn 4 [z12,0] λad=>(aq (decide (ad=1)) (bz λao=>S 65
 [[z7],[59021796509086278835513442974745904212600941011016939989148970812876304133997797978309942486398772379401228430519331053062583050832400642881753195337]]
 [[ao]]->(aq (decide (ao=1)) (bz λaz=>S 27 [[z8]] [[az]]->K [[z0]] [[(cond (decide (az=1)) 1 0)]]) (K [[z0]] [[(cond (false) 1 0)]]))) (K [[z0]]
 [[(cond (false) 1 0)]]))) (K [[z0]] [[(cond (false) 1 0)]]))) (K [[z0]] [[(cond (false) 1 0)]]))) (K [[z0]] [[(cond (false) 1 0)]]))))) (K [[z0]] [[(cond (false)
 1 0)]]))))
theorem amy {c:UInt8} {t:aH} (h:c≠58):idx 58 (c::t)=if idx 58 t<0 then-1 else idx 58 t+1:=by
 have:¬(c.toNat:Int)=58:=λe=>h (by rw[<-S2];show c.toNat=58;omega)
 show(if(c.toNat:Int)=58 then 0 else if idx 58 t<0 then-1 else idx 58 t+1)=_
 rw[if_neg this]
theorem as7 {k:UInt8} (hk:k≠58) {t:aH} (hl:t.length+1<=255):jS k (k::t)=cond (decide (0<=idx 58 t)&&kO (t.drop ((idx 58 t).toNat+1))) (t.take (idx 58 t).toNat,t.drop ((idx 58 t).toNat+1),1) ([],[],0):=by
 unfold jS
 rw[amy hk,show cf 0 (k::t).length=true by rw[p8];simp,show bB (k::t).length 255=true by rw[oS];simpa using hl]
 have hr:=zP 58 t
 have hb:((k::t).getD 0 0==k)=true:=by show(k==k)=true;simp
 rw[hb]
 by_cases hn:idx 58 t<0
 ·rw[if_pos hn,show decide (0<=idx 58 t)=false from decide_eq_false (by omega)]
  simp
 ·rw[if_neg hn,show decide (0<=idx 58 t)=true from decide_eq_true (by omega),show decide (0<=idx 58 t+1)=true from decide_eq_true (by omega),show(idx 58 t+1).toNat=(idx 58 t).toNat+1 by omega]
  simp
theorem aaD {k:UInt8} {s:aH} (h:s.getD 0 0≠k∨s=[]):(jS k s).2.2=0:=by
 rw[Ap]
 rcases h with h|h
 ·rw[show(s.getD 0 0==k)=false by simpa using h];simp
 ·rw[h];rfl
theorem as8 {k:UInt8} {s:aH} (h:bB s.length 255=false):(jS k s).2.2=0:=by
 rw[Ap]
 rw[h];simp
theorem Kr {k:UInt8} {inn:UInt8->Bool} {most:Nat} {s:aH} (h:(jS k s).2.2=0):pY k inn most s=false:=by unfold pY;rw[h];rfl
theorem ark (inn:UInt8->Bool) (s:aH) {n:Int} (hn:∀c,(U n).contains c=inn c):(s.all λc=>(U n).contains c)=s.all inn:=by
 congr 1;funext c;exact hn c
theorem aaw {k:UInt8} {Zo Ni Dg:Int} {inn:UInt8->Bool} {most tid:Nat} (hk:k≠58) (ak0:U Zo=[k]) (gB:∀c,(U Ni).contains c=inn c) (hm:Dg=(most:Int)) (ht:∀z r,SB tid [[z]] [[r]]=(U r=j8 inn (U z))) {id:Nat} (hid:∀z r,SB id [[z]] [[r]]=(r=aL (pY k inn most (U z)))):
(∀z0:Int,0<=z0->z0<=bM->
 ∀ag:Int,0<=ag->ag<=9223372036854775807->ag=au 0 [z0]->
 (((decide (255<ag))=true->
  aY SB [.bool] id [[z0]] [[(cond (false) 1 0)]]
 )/\((decide (255<ag))=false->
  ∀z2:Int,0<=z2->z2<=9223372036854775807->z2=au 0 [z0]->
  (((decide (1<=z2))=true->
   ab 2 [z0,0,1]/\
   ∀z3:Int,0<=z3->z3<=bM->z3=au 2 [z0,0,1]->
   ∀z4:Int,0<=z4->z4<=1->z4=au 4 [z3,Zo]->
   ((((!(decide (z4=1))))=true->
    aY SB [.bool] id [[z0]] [[(cond (false) 1 0)]]
   )/\(((!(decide (z4=1))))=false->
    ∀z5:Int,0<=z5->z5<=9223372036854775807->z5=au 0 [z0]->
    ab 2 [z0,1,z5]/\
    ∀z6:Int,0<=z6->z6<=bM->z6=au 2 [z0,1,z5]->
    ∀z7:Int,0<=z7->z7<=bM->∀z8:Int,0<=z8->z8<=bM->∀z9:Int,0<=z9->z9<=1->SB 126 [[z6]] [[z7],[z8],[z9]]->
    (((decide (z9=1))=true->
     ∀aj:Int,0<=aj->aj<=1->aj=au 4 [z7,0]->
     ((((!(decide (aj=1))))=true->
      ∀ak:Int,0<=ak->ak<=9223372036854775807->ak=au 0 [z7]->
      (((decide (ak<=Dg))=true->
       ∀z12:Int,0<=z12->z12<=bM->SB tid [[z7]] [[z12]]->
       ∀ad:Int,0<=ad->ad<=1->ad=au 4 [z12,0]->
       (((decide (ad=1))=true->
        ∀ao:Int,0<=ao->ao<=1->SB 65 [[z7],[Ni]] [[ao]]->
        (((decide (ao=1))=true->
         ∀az:Int,0<=az->az<=1->SB 27 [[z8]] [[az]]->
         aY SB [.bool] id [[z0]] [[(cond (decide (az=1)) 1 0)]]
        )/\((decide (ao=1))=false->
         aY SB [.bool] id [[z0]] [[(cond (false) 1 0)]]
        ))
       )/\((decide (ad=1))=false->
        aY SB [.bool] id [[z0]] [[(cond (false) 1 0)]]
       ))
      )/\((decide (ak<=Dg))=false->
       aY SB [.bool] id [[z0]] [[(cond (false) 1 0)]]
      ))
     )/\(((!(decide (aj=1))))=false->
      aY SB [.bool] id [[z0]] [[(cond (false) 1 0)]]
     ))
    )/\((decide (z9=1))=false->
     aY SB [.bool] id [[z0]] [[(cond (false) 1 0)]]
    ))
   ))
  )/\((decide (1<=z2))=false->
   aY SB [.bool] id [[z0]] [[(cond (false) 1 0)]]
  ))
 ))):=by
  intro z0 a0 a1 ag b0 b1 h1
  have aI:∀b:Bool,pY k inn most (U z0)=b->aY SB [.bool] id [[z0]] [[aL b]]:=λb h=>l9 (by rw[hid,h])
  have Fj:=xJ (n:=255) 255 rfl h1
  refine⟨λhb=>aI false (Kr (as8 (by rw[hb]at Fj;simpa using Fj.symm))),λhb z2 bC c1 h2=>?_⟩
  rw[hb]at Fj
  have hlen:(U z0).length<=255:=by
   have:bB (U z0).length 255=true:=by simpa using Fj.symm
   exact eC this
  simp only[au]at h2
  refine⟨λhp=>⟨⟨bX _,by decide,by have:=of_decide_eq_true hp;omega⟩,λz3 d0 d1 h3 z4 aZ e1 h4=>?_⟩,λhp=>aI false (Kr (aaD (.inr ?_)))⟩
  ·cases hs:U z0 with
   |nil=>rw[hs]at h2;have:=of_decide_eq_true hp;simp at h2;omega
   |cons c t=>
    have bN:U z3=[c]:=by rw[h3];simp only[au,fm,hs];rfl
    rw[jK h4,bN,ak0]
    refine⟨λhne=>aI false (Kr (aaD (.inl ?_))),λheq z5 f0 f1 h5=>?_⟩
    ·rw[hs];intro h
     have h:c=k:=h
     rw[h]at hne;simp at hne
    ·have akm:c=k:=by simpa using heq
     subst akm
     have tG:t.length+1<=255:=by rw[hs]at hlen;simpa using hlen
     obtain⟨s1,s2⟩:=Lg (s:=z0) (z:=1) (L:=z5) (n:=1) rfl (by rw[hs];simp) h5
     refine⟨s1,λz6 g0 g1 h6 z7 i0 i1 z8 ew dk z9 fA k1 hC=>?_⟩
     have jh:U z6=t:=by rw[s2 z6 h6,hs];rfl
     have hC:(U z7,U z8,z9)=oz 58 (U z6):=hC
     rw[jh]at hC
     have kl:=as7 hk tG
     unfold oz at hC
     cases hi:decide (0<=idx 58 t)with
     |false=>
      rw[hi]at hC kl
      simp only[cond_false,cA]at hC
      obtain⟨_,_,rfl⟩:=hC
      exact⟨λh=>by simp at h,λ_=>aI false (Kr (by rw[hs,kl];rfl))⟩
     |true=>
      rw[hi]at hC kl
      simp only[cond_true,cA]at hC
      obtain⟨BO,o6,rfl⟩:=hC
      rw[rM]at kl
      have hv:pY c inn most (U z0)=(kO (U z8)&&cf 0 (U z7).length&&bB (U z7).length most&&(U z7).all inn):=by
       unfold pY
       rw[hs,kl,<-BO,<-o6]
       cases kO (U z8)<;>rfl
      refine⟨λ_ aj cq l1 b9=>?_,λh=>by simp at h⟩
      have hn:=GO b9
      refine⟨λhq ak m0 fW cH=>?_,λhq=>aI false (by rw[hq]at hn;rw[hv,<-hn];simp)⟩
      rw[hq]at hn
      rw[Ak most hm cH]
      refine⟨λhr z12 n0 n1 dw ad tY o1 dj=>?_,λhr=>aI false (by rw[hv,hr];simp)⟩
      rw[ht]at dw
      rw[eq_nil dj,dw]
      refine⟨λhs ao p0 p1 dA=>?_,λhs=>aI false ?_⟩
      ·have dA:ao=aL ((U z7).all λc=>(U Ni).contains c):=dA
       rw[ark inn _ gB]at dA
       rw[eb dA]
       refine⟨λha az fJ bq e0=>?_,λha=>aI false (by rw[hv,ha];simp)⟩
       have e0:az=aL (kO (U z8)):=e0
       rw[eb e0]
       refine aI _ ?_
       rw[hv,<-hn,hr,ha];simp
      ·rw[hv]
       cases ha:(U z7).all inn with
       |false=>simp
       |true=>rw[Sf ha]at hs;simp at hs
  ·have hp:¬1<=z2:=of_decide_eq_false hp
   exact List.length_eq_zero_iff.1 (by omega)
theorem as2:U4 SB (aY SB [.bool] 200):=aaw (k:=64) (inn:=tM) (most:=200) (tid:=202) (by decide) (by decide) (ti (by decide+kernel)) rfl (λ_ _=>rfl) (λ_ _=>rfl)
theorem asF:UG SB (aY SB [.bool] 201):=aaw (k:=33) (inn:=tL) (most:=64) (tid:=203) (by decide) (by decide) (ti (by decide+kernel)) rfl (λ_ _=>rfl) (λ_ _=>rfl)
end Go.cu
namespace Go.cu
open Go Go.bo
def Uo (S:Nat->List (List Int)->List (List Int)->Prop) (K:List (List Int)->List (List Int)->Prop):Prop:=
 bO λz0=>aK 0 [z0] λag=>∃(fF:List (List Int)->Prop) (iM:List (List Int)->Nat),fF [[0]]/\(dH λz3=>fF [[z3]]->(aq (decide (z3<ag))
 (ab 1 [z0,z3]/\av 1 [z0,z3] λz4=>(aq (decide (z4<32)) (K [[z0]] [[(cond (false) 1 0)]]) (ab 1 [z0,z3]/\av 1 [z0,z3] λz5=>(aq (decide (126<
 z5)) (K [[z0]] [[(cond (false) 1 0)]]) (bt (z3+9223372036854775809) 18446744073709551616 λz6=>ab 39 [((z3+((-18446744073709551616)*z6))+
 1),0,9223372036854775807]/\(fF [[((z3+((-18446744073709551616)*z6))+1)]]/\iM [[((z3+((-18446744073709551616)*z6))+1)]]<iM [[z3]])))))) (K
 [[z0]] [[(cond (true) 1 0)]])))
theorem afa {b:Bool} (h:(!b)=true):b=false:=by cases b<;>first|rfl|cases h
theorem ae9 {b:Bool} (h:(!b)=false):b=true:=by cases b<;>first|rfl|cases h
def adL (z0:Int) (bl:List (List Int)):Prop:=∃i:Nat,bl=[[(i:Int)]]/\i<=(U z0).length/\ud ((U z0).take i)=true
def Vo (z0:Int) (bl:List (List Int)):Nat:=(U z0).length-((bl.getD 0 []).getD 0 0).toNat
theorem aaP {t:aH} {i:Nat} (h:i<t.length):t.getD i 0∈t:=by simp[ae,h]
theorem asn:Uo SB (aY SB [.bool] 400):=by
 intro z0 a0 a1 ag _ c1 h1
 have h1:ag=((U z0).length:Int):=h1
 have aI:∀b:Bool,ud (U z0)=b->aY SB [.bool] 400 [[z0]] [[aL b]]:=λb h=>l9 (by show aL b=aL (ud (U z0));rw[h])
 have iT:∀i,i<(U z0).length->(((U z0).getD i 0).toNat<32∨126<((U z0).getD i 0).toNat)->aY SB [.bool] 400 [[z0]] [[cond false 1 0]]:=λi hi h=>aI false (by
  cases hp:ud (U z0)with
  |false=>rfl
  |true=>
   have:=List.all_eq_true.1 hp _ (aaP hi)
   simp only[aS,oS]at this
   omega)
 refine⟨adL z0,Vo z0,⟨0,rfl,gX _,rfl⟩,?_⟩
 rintro z3 d0 d1 ⟨i,e,hi,hI⟩
 obtain rfl:z3=i:=by simpa using e
 refine⟨λhlt=>?_,λec=>aI true ?_⟩
 ·have hlt:=of_decide_eq_true hlt
  have c9:i<(U z0).length:=by omega
  have hg:∀z:Int,z=au 1 [z0,(i:Int)]->z=(((U z0).getD i 0).toNat:Int):=λz h=>by
   rw[h];simp only[au,gu]
  refine⟨⟨by omega,by omega⟩,λz4 _ _ h4=>⟨λhc=>iT i c9 (.inl ?_),λhc=>⟨⟨by omega,by omega⟩,λz5 _ _ h5=>⟨λhd=>iT i c9 (.inr ?_),λhd z6 x0 x1 x2 gF=>?_⟩⟩⟩⟩
  ·have:=hg z4 h4;have:=of_decide_eq_true hc;omega
  ·have:=hg z5 h5;have:=of_decide_eq_true hd;omega
  ·have fi:=hg z4 h4;have o5:=hg z5 h5
   have hc:=of_decide_eq_false hc;have hd:=of_decide_eq_false hd
   refine⟨⟨by omega,by omega⟩,⟨i+1,by rw[show((i:Int)+(-18446744073709551616)*z6)+1=((i+1:Nat):Int) by omega],by omega,?_⟩,?_⟩
   ·unfold ud at hI⊢
    rw[DK _ _ c9,aAF,hI]
    simp only[HB,aAG,LL,rM,aS,oS]
    omega
   ·show(U z0).length-(((i:Int)+(-18446744073709551616)*z6)+1).toNat<(U z0).length-((i:Int)).toNat;omega
 ·have:=of_decide_eq_false ec
  rwa [jd (by omega)]at hI
theorem afg (z:Int):(af (rc ((U z).map λb=>[(b.toNat:Int)])))=(U z).map λb=>[(b.toNat:Int)]:=ee _
end Go.cu
namespace Go.cu
open Go Go.bo
def U5 (S:Nat->List (List Int)->List (List Int)->Prop) (K:List (List Int)->List (List Int)->Prop):Prop:=
 bO λz0=>∃(rX:List (List Int)->Prop) (yw:List (List Int)->Nat),rX [[0]]/\(dH λz2=>rX [[z2]]->aK 0 [z0] λz3=>(aq (decide (z2<z3))
 (ab 1 [z0,z2]/\av 1 [z0,z2] λz4=>(aq (decide (z4<33)) (K [[z0]] [[(cond (false) 1 0)]]) (ab 1 [z0,z2]/\av 1 [z0,z2] λz5=>(aq (decide (126<
 z5)) (K [[z0]] [[(cond (false) 1 0)]]) (bt (z2+9223372036854775809) 18446744073709551616 λz6=>ab 39 [((z2+((-18446744073709551616)*z6))+
 1),0,9223372036854775807]/\(rX [[((z2+((-18446744073709551616)*z6))+1)]]/\yw [[((z2+((-18446744073709551616)*z6))+1)]]<yw [[z2]])))))) (aK 0
 [z0] λz4=>(aq (decide (1<=z4)) (aK 0 [z0] λz5=>K [[z0]] [[(cond (decide (z5<=64)) 1 0)]]) (K [[z0]] [[(cond (false) 1 0)]])))))
theorem abx (t:aH):iV t=((decide (1<=t.length)&&decide (t.length<=64))&&t.all λc=>bB 33 c.toNat&&bB c.toNat 126):=by
 unfold iV ud
 have h1:(!t.isEmpty)=decide (1<=t.length):=by cases t<;>simp
 have h2:bB t.length 64=decide (t.length<=64):=by rw[iv,oS,decide_eq_true_eq]
 have h3:((t.all λc=>bB 32 c.toNat&&bB c.toNat 126)&& !t.contains 32)=t.all λc=>bB 33 c.toNat&&bB c.toNat 126:=by
  rw[iv]
  simp only[aS,sY,oS,gW,List.contains_eq_mem,decide_eq_false_iff_not]
  constructor
  ·rintro⟨h,hn⟩ c hc
   have h4:=h c hc
   refine⟨?_,h4.2⟩
   have:c.toNat≠32:=λe=>hn (by rw[show(32:UInt8)=c from(UInt8.toNat_inj.1 e).symm];exact hc)
   omega
  ·intro h
   exact⟨λc hc=>⟨by have:=(h c hc).1;omega,(h c hc).2⟩,λhm=>by have:=(h 32 hm).1;revert this;decide⟩
 rw[h1,h2,h3,Bool.and_assoc]
def ad0 (z0:Int) (bl:List (List Int)):Prop:=∃i:Nat,bl=[[(i:Int)]]/\i<=(U z0).length/\((U z0).take i).all (λc=>bB 33 c.toNat&&bB c.toNat 126)=true
theorem as3:U5 SB (aY SB [.bool] 420):=by
 intro z0 a0 a1
 have aI:∀b:Bool,iV (U z0)=b->aY SB [.bool] 420 [[z0]] [[aL b]]:=λb h=>l9 (by show aL b=aL (iV (U z0));rw[h])
 have iT:∀i,i<(U z0).length->(((U z0).getD i 0).toNat<33∨126<((U z0).getD i 0).toNat)->aY SB [.bool] 420 [[z0]] [[cond false 1 0]]:=λi hi h=>aI false (by
  cases hp:iV (U z0)with
  |false=>rfl
  |true=>
   rw[abx]at hp
   simp only[aS,sY,oS]at hp
   have:=hp.2 _ (aaP hi)
   omega)
 refine⟨ad0 z0,Vo z0,⟨0,rfl,gX _,rfl⟩,?_⟩
 rintro z2 d0 d1 ⟨i,e,hi,hI⟩ z3 _ _ h3
 obtain rfl:z2=i:=by simpa using e
 have h3:z3=((U z0).length:Int):=h3
 refine⟨λhlt=>?_,λec z4 _ _ h4=>?_⟩
 ·have hlt:=of_decide_eq_true hlt
  have c9:i<(U z0).length:=by omega
  have hg:∀z:Int,z=au 1 [z0,(i:Int)]->z=(((U z0).getD i 0).toNat:Int):=λz h=>by
   rw[h];simp only[au,gu]
  refine⟨⟨by omega,by omega⟩,λz4 _ _ h4=>⟨λhc=>iT i c9 (.inl ?_),λhc=>⟨⟨by omega,by omega⟩,λz5 _ _ h5=>⟨λhd=>iT i c9 (.inr ?_),λhd z6 x0 x1 x2 gF=>?_⟩⟩⟩⟩
  ·have:=hg z4 h4;have:=of_decide_eq_true hc;omega
  ·have:=hg z5 h5;have:=of_decide_eq_true hd;omega
  ·have fi:=hg z4 h4;have o5:=hg z5 h5
   have hc:=of_decide_eq_false hc;have hd:=of_decide_eq_false hd
   refine⟨⟨by omega,by omega⟩,⟨i+1,by rw[show((i:Int)+(-18446744073709551616)*z6)+1=((i+1:Nat):Int) by omega],by omega,?_⟩,?_⟩
   ·rw[DK _ _ c9,aAF,hI]
    simp only[HB,aAG,LL,rM,aS,oS]
    omega
   ·show(U z0).length-(((i:Int)+(-18446744073709551616)*z6)+1).toNat<(U z0).length-((i:Int)).toNat;omega
 ·have:=of_decide_eq_false ec
  rw[jd (by omega)]at hI
  have h4:z4=((U z0).length:Int):=h4
  have aZ:iV (U z0)=(decide (1<=(U z0).length)&&decide ((U z0).length<=64)):=by rw[abx,hI,LL]
  refine⟨λh1 z5 _ _ h5=>aI _ ?_,λh1=>aI false ?_⟩
  ·have h5:z5=((U z0).length:Int):=h5
   rw[aZ,decide_eq_true (by have:=of_decide_eq_true h1;omega),rM,iv]
   simp only[decide_eq_true_eq];omega
  ·rw[aZ,decide_eq_false (by have:=of_decide_eq_false h1;omega)];rfl
end Go.cu
namespace Go.cu
open Go Go.bo
theorem Kf (a b:UInt8) (x y:aH):dy (a::x) (b::y)=true↔a.toNat<b.toNat∨(a=b/\dy x y=true):=by
 simp only[dy,sZ,aS,beq_iff_eq,decide_eq_true_eq,UInt8.lt_iff_toNat_lt]
theorem QM (x:aH):dy x []=false:=by cases x<;>rfl
theorem Zy:∀x y:aH,dy x y=true->dy y x=true->False
 |x,[],h,_=>by rw[QM]at h;cases h
 |[],_::_,_,h=>by cases h
 |a::x,b::y,h,h'=>by
  rw[Kf]at h h'
  rcases h with h|⟨rfl,h⟩
  ·rcases h' with h'|⟨e,_⟩
   ·omega
   ·rw[e]at h;omega
  ·rcases h' with h'|⟨_,h'⟩
   ·omega
   ·exact Zy x y h h'
theorem ZA:∀x y:aH,dy x y=true∨dy y x=true∨x=y
 |[],[]=> .inr (.inr rfl)
 |[],_::_=> .inl rfl
 |_::_,[]=> .inr (.inl rfl)
 |a::x,b::y=>by
  rw[Kf,Kf]
  rcases acx a.toNat b.toNat with h|h|h
  ·exact .inl (.inl h)
  ·have e:a=b:=UInt8.toNat_inj.1 h
   subst e
   rcases ZA x y with h|h|h
   ·exact .inl (.inr ⟨rfl,h⟩)
   ·exact .inr (.inl (.inr ⟨rfl,h⟩))
   ·exact .inr (.inr (by rw[h]))
  ·exact .inr (.inl (.inl h))
theorem GI:∀x y z:aH,dy x y=true->dy y z=true->dy x z=true
 |_,[],_,h,_=>by rw[QM]at h;cases h
 |_,_::_,[],_,h=>by rw[QM]at h;cases h
 |[],_::_,_::_,_,_=>rfl
 |a::x,b::y,c::z,h,h'=>by
  rw[Kf]at h h'⊢
  rcases h with h|⟨rfl,h⟩
  ·rcases h' with h'|⟨rfl,_⟩
   ·exact .inl (by omega)
   ·exact .inl h
  ·rcases h' with h'|⟨rfl,h'⟩
   ·exact .inl h'
   ·exact .inr ⟨rfl,GI x y z h h'⟩
theorem aaA {a b c d z w:Int} (h:z=au 4 [a,c]) (h':w=au 4 [b,d]):decide ([z,w]=[1,1])=decide (U a=U c/\U b=U d):=by
 have e:=jK h
 have pI:=jK h'
 have i:z=1↔U a=U c:=by rw[<-decide_eq_true_eq (p:=z=1),e,decide_eq_true_eq]
 have zN:w=1↔U b=U d:=by rw[<-decide_eq_true_eq (p:=w=1),pI,decide_eq_true_eq]
 rw[iv,decide_eq_true_eq,decide_eq_true_eq]
 simp only[hX,and_true,i,zN]
def TM (S:Nat->List (List Int)->List (List Int)->Prop) (K:List (List Int)->List (List Int)->Prop):Prop:=
 bO λz0=>cn 4 [33,z0] λag=>(aq (decide (ag=1)) (K [[z0]] [[(cond (true) 1 0)]]) (bn λz2=>S 73 [[z0],[32]] [[z2]]->K [[z0]] [[(cond (decide (0
 <=z2)) 1 0)]]))
def Up (S:Nat->List (List Int)->List (List Int)->Prop) (K:List (List Int)->List (List Int)->Prop):Prop:=
 bO λz0=>cn 4 [z0,0] λag=>(aq ((!(decide (ag=1)))) (aK 0 [z0] λz2=>(aq (decide (z2<=64)) (bz λz3=>S 400 [[z0]] [[z3]]->(aq (decide (z3
 =1)) (bz λz4=>S 501 [[z0]] [[z4]]->K [[z0]] [[(cond ((!(decide (z4=1)))) 1 0)]]) (K [[z0]] [[(cond (false) 1 0)]]))) (K [[z0]] [[(cond (false) 1
 0)]]))) (K [[z0]] [[(cond (false) 1 0)]]))
def Un (S:Nat->List (List Int)->List (List Int)->Prop) (K:List (List Int)->List (List Int)->Prop):Prop:=
 ∀aP:List Int,aV (da 0 bM 7) aP->bz λz7=>S 600 [[(ae aP 0 0)]] [[z7]]->(aq ((!(decide (z7=1)))) (K [aP] [[(cond (false) 1 0)]]) (bz λz8
 =>S 600 [[(ae aP 5 0)]] [[z8]]->(aq ((!(decide (z8=1)))) (K [aP] [[(cond (false) 1 0)]]) (bz λz9=>S 16 [[(ae aP 1 0),(ae aP 2 0)]]
 [[z9]]->(aq ((!(decide (z9=1)))) (K [aP] [[(cond (false) 1 0)]]) (cn 4 [(ae aP 6 0),0] λaj=>(aq ((!(decide (aj=1)))) (bz λak=>S 200
 [[(ae aP 6 0)]] [[ak]]->(aq ((!(decide (ak=1)))) (K [aP] [[(cond (false) 1 0)]]) (bz λz12=>S 201 [[(ae aP 3 0)]] [[z12]]->(aq (decide
 (z12=1)) (bz λad=>S 200 [[(ae aP 4 0)]] [[ad]]->K [aP] [[(cond (decide (ad=1)) 1 0)]]) (K [aP] [[(cond (false) 1 0)]]))))) (bz λak=>S
 201 [[(ae aP 3 0)]] [[ak]]->(aq (decide (ak=1)) (bz λz12=>S 200 [[(ae aP 4 0)]] [[z12]]->K [aP] [[(cond (decide (z12=1)) 1 0)]]) (K
 [aP] [[(cond (false) 1 0)]]))))))))))
def Uc (S:Nat->List (List Int)->List (List Int)->Prop) (K:List (List Int)->List (List Int)->Prop):Prop:=
 cS λz0=>cM λag=>bn λz2=>aK 20 [z0] λz3=>(aq (decide (32<z3)) (K [[z0]] [[(cond (false) 1 0)]]) (∃(eB:List (List Int)->Prop) (eg:
 List (List Int)->Nat),eB [[0]]/\(dH λz5=>eB [[z5]]->(aq (decide (z5<z3)) (ab 30 [z5,z3]/\ab 21 [z0,z5]/\bj 21 [z0,z5,0] λz6=>bj 21
 [z0,z5,1] λz7=>bj 21 [z0,z5,2] λz8=>bj 21 [z0,z5,3] λz9=>bj 21 [z0,z5,4] λaj=>bj 21 [z0,z5,5] λak=>bj 21 [z0,z5,6] λz12=>bz
 λad=>S 601 [[z6,z7,z8,z9,aj,ak,z12]] [[ad]]->(aq ((!(decide (ad=1)))) (K [[z0]] [[(cond (false) 1 0)]]) ((aq (decide (0<z5)) (ab 30 [(z5+
 (-1)),z3]/\ab 21 [z0,(z5+(-1))]/\bj 21 [z0,(z5+(-1)),0] λao=>cn 5 [ao,z6] λaz=>(aq ((!(decide (az=1)))) (K [[z0]] [[(cond (false) 1
 0)]]) (bt (z5+9223372036854775809) 18446744073709551616 λaC=>ab 39 [((z5+((-18446744073709551616)*aC))+1),0,9223372036854775807]/\(eB [[((z5+
 ((-18446744073709551616)*aC))+1)]]/\eg [[((z5+((-18446744073709551616)*aC))+1)]]<eg [[z5]])))) ((eB [[1]]/\eg [[1]]<eg [[z5]])))))) (K [[z0]]
 [[(cond (true) 1 0)]])))))
def Um (S:Nat->List (List Int)->List (List Int)->Prop) (K:List (List Int)->List (List Int)->Prop):Prop:=
 cS λz0=>bO λag=>cM λz2=>bn λz3=>aK 20 [z0] λz4=>∃(dz:List (List Int)->Prop) (dg:List (List Int)->Nat),dz [[0],[z4]]/\(dH λ
 z6=>dH λz7=>dz [[z6],[z7]]->(aq (decide (z6<z7)) (bt ((z6+z7)+9223372036854775808) 18446744073709551616 λz8=>cO (-1) 0 (z6+(z7+
 ((-18446744073709551616)*z8))) 18446744073709551616 λz9=>cO 0 9223372036854775807 (z6+(z7+(((-18446744073709551616)*z8)+((-18446744073709551616)*
 z9)))) 2 λaj=>ab 30 [aj,z4]/\ab 21 [z0,aj]/\bj 21 [z0,aj,0] λak=>bj 21 [z0,aj,1] λz12=>bj 21 [z0,aj,2] λad=>bj 21
 [z0,aj,3] λao=>bj 21 [z0,aj,4] λaz=>bj 21 [z0,aj,5] λaC=>bj 21 [z0,aj,6] λaR=>eG (-1) 1 λba=>S 510 [[ak],[ag]] [[ba]]->
 (aq (decide (ba<0)) (bt (aj+9223372036854775809) 18446744073709551616 λbh=>ab 39 [((aj+((-18446744073709551616)*bh))+
 1),0,9223372036854775807]/\(dz [[((aj+((-18446744073709551616)*bh))+1)],[z7]]/\dg [[((aj+((-18446744073709551616)*bh))+1)],[z7]]<dg
 [[z6],[z7]])) ((dz [[z6],[aj]]/\dg [[z6],[aj]]<dg [[z6],[z7]])))) ((aq (decide (z6<z4)) (ab 30 [z6,z4]/\ab 21 [z0,z6]/\bj 21 [z0,z6,0] λz8=>
 bj 21 [z0,z6,1] λz9=>bj 21 [z0,z6,2] λaj=>bj 21 [z0,z6,3] λak=>bj 21 [z0,z6,4] λz12=>bj 21 [z0,z6,5] λad=>bj 21 [z0,z6,6] λ
 ao=>eG (-1) 1 λaz=>S 510 [[z8],[ag]] [[az]]->K [[z0],[ag]] [[z6],[(cond (decide (az=0)) 1 0)]]) (K [[z0],[ag]] [[z6],[(cond (false) 1 0)]])))))
def Ua (S:Nat->List (List Int)->List (List Int)->Prop) (K:List (List Int)->List (List Int)->Prop):Prop:=
 cS λz0=>bO λag=>cM λz2=>bn λz3=>aK 20 [z0] λz4=>ab 22 [z0,0,z4]/\aA 22 [z0,0,z4] λz5=>bz λz6=>S 602 [[z5]] [[z6]]->(aq
 ((!(decide (z6=1)))) (K [[z0],[ag]] [[0,0,0,0,0,0,0],[(cond (false) 1 0)]]) (ab 22 [z0,0,z4]/\aA 22 [z0,0,z4] λz7=>dH λz8=>bz λz9=>S 603
 [[z7],[ag]] [[z8],[z9]]->(aq ((!(decide (z9=1)))) (K [[z0],[ag]] [[0,0,0,0,0,0,0],[(cond (false) 1 0)]]) (ab 30 [z8,z4]/\ab 21 [z0,z8]/\bj 21
 [z0,z8,0] λaj=>bj 21 [z0,z8,1] λak=>bj 21 [z0,z8,2] λz12=>bj 21 [z0,z8,3] λad=>bj 21 [z0,z8,4] λao=>bj 21 [z0,z8,5] λaz=>
 bj 21 [z0,z8,6] λaC=>K [[z0],[ag]] [[aj,ak,z12,ad,ao,az,aC],[(cond (true) 1 0)]]))))
theorem arK:TM SB (aY SB [.bool] 501):=by
 intro z0 a0 a1 ag b0 b1 hz1
 simp only[au]at hz1
 refine⟨λh=>⟨⟨by decide,by decide,trivial⟩,?_⟩,λh z2 bC c1 h2=>⟨⟨(pE _).1,(pE _).2,trivial⟩,?_⟩⟩
 ·have:U z0=[32]:=by
   have e:U 33=[32]:=by decide
   rw[e]at hz1
   by_cases h':[32]=U z0
   ·exact h'.symm
   ·rw[if_neg h']at hz1;subst hz1;simp at h
  show(1:Int)=aL ((U z0).contains 32)
  rw[this];rfl
 ·have h2:z2=idx 32 (U z0):=h2
  show(cond (decide (0<=z2)) 1 0:Int)=aL ((U z0).contains 32)
  rw[h2,JX (by decide) (by decide)];rfl
theorem aso:Up SB (aY SB [.bool] 600):=by
 intro z0 a0 a1 ag _ _ h1
 have h1:=jK h1
 have PY:U (0:Int)=[]:=by decide
 rw[PY]at h1
 have aI:∀b:Bool,iV (U z0)=b->aY SB [.bool] 600 [[z0]] [[aL b]]:=λb h=>l9 (by show aL b=aL (iV (U z0));rw[h])
 refine⟨λhn z2 _ _ h2=>?_,λhn=>aI false ?_⟩
 rotate_left
 ·have:=ae9 hn
  rw[h1]at this
  rw[of_decide_eq_true this];rfl
 have hne:(U z0).isEmpty=false:=by
  have:=afa hn
  rw[h1]at this
  have:=of_decide_eq_false this
  cases h:U z0 with
  |nil=>exact absurd h this
  |cons _ _=>rfl
 have h2:z2=((U z0).length:Int):=h2
 have aZ:iV (U z0)=(bB (U z0).length 64&&(ud (U z0)&& !(U z0).contains 32)):=by unfold iV;rw[hne];rfl
 refine⟨λpN z3 _ _ h3=>?_,λpN=>aI false ?_⟩
 rotate_left
 ·have:=of_decide_eq_false pN
  rw[aZ,show bB (U z0).length 64=false from by
   cases h:bB (U z0).length 64 with
   |false=>rfl
   |true=>have:=eC h;omega];rfl
 have hb:bB (U z0).length 64=true:=acQ (by have:=of_decide_eq_true pN;omega)
 rw[hb,rM]at aZ
 have h3:z3=aL (ud (U z0)):=h3
 have FK:=eb h3
 refine⟨λhp z4 _ _ h4=>?_,λhp=>aI false (by rw[aZ,<-FK,hp];rfl)⟩
 have h4:z4=aL ((U z0).contains 32):=h4
 have akt:=eb h4
 have:=aI (!decide (z4=1)) (by rw[aZ,<-FK,hp,akt];rfl)
 exact this
theorem lX {z:Int} {b:Bool} (h:decide (z=1)=b) (h2:(!(decide (z=1)))=true):b=false:=by rw[h]at h2;simpa using h2
theorem lW {z:Int} {b:Bool} (h:decide (z=1)=b) (h2:(!(decide (z=1)))=false):b=true:=by rw[h]at h2;simpa using h2
theorem y4 {a z:Int} (h:z=au 4 [a,0]):decide (z=1)=(U a).isEmpty:=by
 have h1:=jK h
 have PY:U (0:Int)=[]:=by decide
 rw[h1,PY]
 cases U a with
 |nil=>rfl
 |cons _ _=>rfl
theorem asm:Un SB (aY SB [.bool] 601):=by
 intro aP hr z7 _ _ h7
 have aI:∀b:Bool,lC (dE aP)=b->aY SB [.bool] 601 [aP] [[cond b 1 0]]:=λb h=>l9 (by show cond b (1:Int) 0=aL (lC (dE aP));rw[h];rfl)
 have aZ:lC (dE aP)=(iV (U (aP.getD 0 0))&&(iV (U (aP.getD 5 0))&&(n6 (U (aP.getD 1 0)) (U (aP.getD 2 0))&&(uk (U (aP.getD 3 0))&&(kS (U (aP.getD 4 0))&&((U (aP.getD 6 0)).isEmpty||kS (U (aP.getD 6 0)))))))):=rfl
 have h7:=eb (show z7=aL (iV (U (aP.getD 0 0))) from h7)
 refine⟨λa=>aI false (by rw[aZ,lX h7 a];rfl),λa z8 _ _ bD=>?_⟩
 rw[lW h7 a]at aZ
 have bD:=eb (show z8=aL (iV (U (aP.getD 5 0))) from bD)
 refine⟨λa=>aI false (by rw[aZ,lX bD a];rfl),λa z9 _ _ bg=>?_⟩
 rw[lW bD a]at aZ
 have bg:=eb (show z9=aL (n6 (U (aP.getD 1 0)) (U (aP.getD 2 0))) from bg)
 refine⟨λa=>aI false (by rw[aZ,lX bg a];rfl),λa aj _ _ b9=>?_⟩
 rw[lW bg a]at aZ
 have b9:=y4 b9
 have fin:((U (aP.getD 6 0)).isEmpty||kS (U (aP.getD 6 0)))=true->∀ak:Int,0<=ak->ak<=1->SB 201 [[aP.getD 3 0]] [[ak]]->
  (((decide (ak=1))=true->∀z12:Int,0<=z12->z12<=1->SB 200 [[aP.getD 4 0]] [[z12]]->aY SB [.bool] 601 [aP] [[(cond (decide (z12=1)) 1 0)]])/\((decide (ak=1))=false->aY SB [.bool] 601 [aP] [[(cond (false) 1 0)]])):=λhb ak _ _ hA=>by
  have hA:=eb (show ak=aL (uk (U (aP.getD 3 0))) from hA)
  rw[hb]at aZ
  refine⟨λa z12 _ _ hB=>?_,λa=>aI false (by rw[aZ,<-hA,a];rfl)⟩
  have hB:=eb (show z12=aL (kS (U (aP.getD 4 0))) from hB)
  exact aI (decide (z12=1)) (by rw[aZ,<-hA,a,<-hB];simp)
 refine⟨λa ak _ _ cH=>?_,λa=>fin (by rw[lW b9 a];rfl)⟩
 have cH:=eb (show ak=aL (kS (U (aP.getD 6 0))) from cH)
 refine⟨λdi=>aI false (by rw[aZ,lX b9 a,lX cH di];simp),λdi=>fin (by rw[lW cH di];simp)⟩
theorem n4 (z:Int):(aJ z).length=(af z).length:=by simp[aJ]
theorem GW {z:Int} {i:Nat} (h:i<(af z).length):(aJ z).getD i cB=dE ((af z).getD i []):=by simp[aJ,ae,h]
theorem vW {z0 i a b c d e f g:Int} {k:Nat} (hi:i=(k:Int)) (ha:a=au 21 [z0,i,0]) (hb:b=au 21 [z0,i,1]) (hc:c=au 21 [z0,i,2]) (hd:d=au 21 [z0,i,3]) (he:e=au 21 [z0,i,4]) (hf:f=au 21 [z0,i,5]) (hg:g=au 21 [z0,i,6]) (hk:k<(af z0).length):dE [a,b,c,d,e,f,g]=(aJ z0).getD k cB:=by
 rw[GW hk,ha,hb,hc,hd,he,hf,hg,hi];rfl
theorem x5 {z0 i a:Int} {k:Nat} (hi:i=(k:Int)) (ha:a=au 21 [z0,i,0]) (hk:k<(af z0).length):U a=((aJ z0).getD k cB).tok:=by
 rw[GW hk,ha,hi];rfl
theorem aa5 (l:List eE):x3 l=true↔∀j,j<l.length->0<j->dy (l.getD (j-1) cB).tok (l.getD j cB).tok=true:=by
 unfold x3
 rw[sY]
 refine⟨λh j hj h0=>?_,λh j hj=>?_⟩
 ·have:=h j (List.mem_range.2 hj)
  rw[decide_eq_false (by omega),sX]at this
  exact this
 ·have hj:=List.mem_range.1 hj
  by_cases h0:j=0
  ·rw[decide_eq_true h0];rfl
  ·rw[h j hj (by omega)];simp
theorem KX {l:List eE} (hr:x3 l=true) {j k:Nat} (Pn:j<k) (hk:k<l.length):dy (l.getD j cB).tok (l.getD k cB).tok=true:=by
 have step:∀i:Nat,i+1<l.length->dy (l.getD i cB).tok (l.getD (i+1) cB).tok=true:=λi hi=>(aa5 l).1 hr (i+1) hi (Nat.succ_pos i)
 obtain⟨d,rfl⟩:=Nat.exists_eq_add_of_lt Pn
 clear Pn
 induction d with
 |zero=>exact step j hk
 |succ d ih=>exact GI _ _ _ (ih (by omega)) (step (j+d+1) hk)
theorem vU (l:List eE):il l=true↔l.length<=32/\∀j,j<l.length->lC (l.getD j cB)=true/\(0<j->dy (l.getD (j-1) cB).tok (l.getD j cB).tok=true):=by
 unfold il
 rw[aS,aS,aa5,sY]
 constructor
 ·rintro⟨h1,h2,h3⟩
  exact⟨eC h1,λj hj=>⟨h2 _ (by simp[ae,hj]),h3 j hj⟩⟩
 ·rintro⟨h1,h2⟩
  refine⟨acQ h1,λp hp=>?_,λj hj=>(h2 j hj).2⟩
  obtain⟨j,hj,rfl⟩:=List.mem_iff_getElem.1 hp
  have:=(h2 j hj).1
  simpa [ae,hj]using this
theorem KW {l:List eE} (h:il l=true):x3 l=true:=by
 unfold il at h
 simp only[aS]at h
 exact h.2.2
def Vq (z0:Int) (bl:List (List Int)):Prop:=∃i:Nat,bl=[[(i:Int)]]/\i<=(aJ z0).length/\∀j,j<i->lC ((aJ z0).getD j cB)=true/\(0<j->dy ((aJ z0).getD (j-1) cB).tok ((aJ z0).getD j cB).tok=true)
def wH (z0:Int) (bl:List (List Int)):Nat:=(aJ z0).length-((bl.getD 0 []).getD 0 0).toNat
theorem asa:Uc SB (dq SB [.d .bool] 602):=by
 intro z0 a0 a1 ag _ z2 _ _ z3 b0 b1 h3
 have h3:z3=((af z0).length:Int):=h3
 have hlen:=n4 z0
 have aI:∀b:Bool,il (aJ z0)=b->dq SB [.d .bool] 602 [[z0]] [[cond b 1 0]]:=λb h=>⟨by cases b<;>exact⟨by decide,by decide,trivial⟩,by show cond b (1:Int) 0=aL (il (aJ z0));rw[h];rfl⟩
 have iT:(¬((aJ z0).length<=32/\∀j,j<(aJ z0).length->lC ((aJ z0).getD j cB)=true/\(0<j->dy ((aJ z0).getD (j-1) cB).tok ((aJ z0).getD j cB).tok=true)))->dq SB [.d .bool] 602 [[z0]] [[cond false 1 0]]:=λh=>aI false (by
  cases hr:il (aJ z0)with
  |false=>rfl
  |true=>exact absurd ((vU _).1 hr) h)
 refine⟨λh=>iT (λh2=>by have:=of_decide_eq_true h;have:=h2.1;omega),λpN=>?_⟩
 have pN:=of_decide_eq_false pN
 refine⟨Vq z0,wH z0,⟨0,rfl,gX _,λj h=>absurd h (Es j)⟩,?_⟩
 rintro z5 bC c1 ⟨i,e,hi,hI⟩
 obtain rfl:z5=i:=by simpa using e
 refine⟨λhlt=>?_,λec=>aI true ((vU _).2 ⟨by omega,λj hj=>hI j (by have:=of_decide_eq_false ec;omega)⟩)⟩
 have hlt:=of_decide_eq_true hlt
 have c9:i<(af z0).length:=by omega
 refine⟨⟨by omega,by omega⟩,⟨by omega,by omega⟩,λz6 _ _ h6 z7 _ _ h7 z8 _ _ bD z9 _ _ bg aj _ _ b9 ak _ _ cH z12 _ _ dw ad _ _ dj=>?_⟩
 have hrow:=vW (k:=i) rfl h6 h7 bD bg b9 cH dw c9
 have dj:ad=aL (lC (dE [z6,z7,z8,z9,aj,ak,z12])):=dj
 rw[hrow]at dj
 have hd:=eb dj
 refine⟨λhb=>iT (λh2=>?_),λhb=>?_⟩
 ·have:=lX hd hb
  rw[(h2.2 i (by omega)).1]at this;cases this
 have bm:lC ((aJ z0).getD i cB)=true:=lW hd hb
 refine⟨λhp=>?_,λhp=>?_⟩
 ·have hp:=of_decide_eq_true hp
  have qA:(i:Int)+(-1)=((i-1:Nat):Int):=by omega
  refine⟨⟨by omega,by omega⟩,⟨by omega,by omega⟩,λao _ _ dA az _ _ e0=>?_⟩
  have e0:=QK e0
  rw[x5 (k:=i-1) qA dA (by omega),x5 (k:=i) rfl h6 c9]at e0
  refine⟨λhc=>iT (λh2=>?_),λhc aC d0 d1 d2 d3=>⟨⟨by omega,by omega⟩,⟨i+1,by rw[show((i:Int)+(-18446744073709551616)*aC)+1=((i+1:Nat):Int) by omega],by omega,λj hj=>?_⟩,?_⟩⟩
  ·have h4:=(h2.2 i (by omega)).2 (by omega)
   have:=lX e0 hc
   rw[h4]at this;cases this
  ·rcases od j i with h|h
   ·exact hI j h
   ·obtain rfl:j=i:=by omega
    exact⟨bm,λ_=>lW e0 hc⟩
  ·show(aJ z0).length-(((i:Int)+(-18446744073709551616)*aC)+1).toNat<(aJ z0).length-((i:Int)).toNat;omega
 ·have hp:=of_decide_eq_false hp
  obtain rfl:i=0:=by omega
  refine⟨⟨1,rfl,by omega,λj hj=>?_⟩,?_⟩
  ·obtain rfl:j=0:=by omega
   exact⟨bm,λh=>absurd h (Nat.lt_irrefl 0)⟩
  ·show(aJ z0).length-(1:Int).toNat<(aJ z0).length-((0:Nat):Int).toNat;omega
theorem anK {x y:aH} (h:dy x y=true):dy y x=false:=by
 cases h2:dy y x with
 |false=>rfl
 |true=>exact(Zy x y h h2).elim
def adJ (z0:Int) (t:aH) (bl:List (List Int)):Prop:=∃lo hi:Nat,bl=[[(lo:Int)],[(hi:Int)]]/\lo<=hi/\hi<=(aJ z0).length/\(x3 (aJ z0)=true->(∀j:Nat,j<lo->dy ((aJ z0).getD j cB).tok t=true)/\∀j:Nat,hi<=j->j<(aJ z0).length->dy ((aJ z0).getD j cB).tok t=false)
def adK (bl:List (List Int)):Nat:=((bl.getD 1 []).getD 0 0).toNat-((bl.getD 0 []).getD 0 0).toNat
theorem asl:Um SB (dq SB [.d (.int .i64 0 9223372036854775807),.d .bool] 603):=by
 intro z0 a0 a1 ag n0 n1 z2 _ z3 _ _ z4 b0 b1 h4
 have h4:z4=((af z0).length:Int):=h4
 have hlen:=n4 z0
 generalize ht:U ag=t
 have sj:∀{z x:Int} {k:Nat},U x=((aJ z0).getD k cB).tok->SB 510 [[x],[ag]] [[z]]->z=cond (dy ((aJ z0).getD k cB).tok t) (-1) (cond (decide (((aJ z0).getD k cB).tok=t)) 0 1):=λ{z x k} hx h=>by
  have h:z=cond (dy (U x) (U ag)) (-1) (cond (decide (U x=U ag)) 0 1):=h
  rw[h,hx,ht]
 refine⟨adJ z0 t,adK,⟨0,(af z0).length,by rw[h4];rfl,gX _,by omega,λ_=>⟨λj h=>absurd h (Es j),λj h h2=>by omega⟩⟩,?_⟩
 rintro z6 bC c1 z7 d0 d1 ⟨lo,hi,e,aCv,akP,hI⟩
 obtain⟨rfl,rfl⟩:z6=lo/\z7=hi:=by simpa using e
 refine⟨λhlt z8 aZ e1 e2 bN z9 f0 f1 f2 f3 aj g0 g1 g2 g3=>?_,λec=>?_⟩
 ·have hlt:=of_decide_eq_true hlt
  have aCF:z8+z9=0:=by omega
  have cH:aj=(((lo+hi)/2:Nat):Int):=by omega
  generalize hk:(lo+hi)/2=k at cH
  have jk:lo<=k:=by omega
  have hk2:k<hi:=by omega
  subst cH
  have F4:k<(af z0).length:=by omega
  have jM:k<(aJ z0).length:=by omega
  refine⟨⟨by omega,by omega⟩,⟨by omega,by omega⟩,λak _ _ cH z12 _ _ _ ad _ _ _ ao _ _ _ az _ _ _ aC _ _ _ aR _ _ _ ba _ _ ju=>?_⟩
  have ju:=sj (x5 (k:=k) rfl cH F4) ju
  refine⟨λhn bh i0 i1 i2 i3=>⟨⟨by omega,by omega⟩,⟨k+1,hi,by rw[show((k:Int)+(-18446744073709551616)*bh)+1=((k+1:Nat):Int) by omega],by omega,akP,λhr=>⟨λj hj=>?_,(hI hr).2⟩⟩,?_⟩,λhn=>⟨⟨lo,k,rfl,jk,by omega,λhr=>⟨(hI hr).1,λj hj hl=>?_⟩⟩,?_⟩⟩
  ·have hn:=of_decide_eq_true hn
   have hb:dy ((aJ z0).getD k cB).tok t=true:=by
    cases hb:dy ((aJ z0).getD k cB).tok t with
    |true=>rfl
    |false=>
     rw[hb]at ju
     cases hd:decide (((aJ z0).getD k cB).tok=t)<;>rw[hd]at ju<;>simp only[cond_true,cond_false]at ju<;>omega
   rcases od j k with h|h
   ·exact GI _ _ _ (KX hr h jM) hb
   ·rw[show j=k by omega];exact hb
  ·show((hi:Int)).toNat-(((k:Int)+(-18446744073709551616)*bh)+1).toNat<((hi:Int)).toNat-((lo:Int)).toNat;omega
  ·have hn:=of_decide_eq_false hn
   have hb:dy ((aJ z0).getD k cB).tok t=false:=by
    cases hb:dy ((aJ z0).getD k cB).tok t with
    |false=>rfl
    |true=>rw[hb]at ju;simp only[cond_true]at ju;omega
   rcases od k j with h|h
   ·cases pQ:dy ((aJ z0).getD j cB).tok t with
    |false=>rfl
    |true=>rw[GI _ _ _ (KX hr h hl) pQ]at hb;cases hb
   ·rw[show j=k by omega];exact hb
  ·show((k:Int)).toNat-((lo:Int)).toNat<((hi:Int)).toNat-((lo:Int)).toNat;omega
 ·have ec:=of_decide_eq_false ec
  have ai:hi=lo:=by omega
  subst ai
  have aI:∀f:Bool,(f=true->hi<(aJ z0).length)->(x3 (aJ z0)=true->(f=true↔hi<(aJ z0).length/\((aJ z0).getD hi cB).tok=t))->dq SB [.d (.int .i64 0 9223372036854775807),.d .bool] 603 [[z0],[ag]] [[(hi:Int)],[cond f 1 0]]:=λf hf iC=>by
   refine⟨⟨by omega,c1,by cases f<;>decide,by cases f<;>decide,trivial⟩,?_⟩
   show yN (aJ z0) (U ag) (hi:Int) (cond f 1 0)
   rw[ht]
   refine⟨⟨by omega,by omega⟩,?_,λhr=>⟨λj hj=>(hI hr).1 j (by omega),λj h1 h2=>(hI hr).2 j (by omega) h2,?_⟩⟩
   ·intro h
    have:f=true:=by cases f with|true=>rfl|false=>cases h
    have:=hf this;omega
   ·have h3:=iC hr
    rw[gu]
    cases f with
    |true=>exact⟨λ_=>⟨by have:=(h3.1 rfl).1;omega,(h3.1 rfl).2⟩,λ_=>rfl⟩
    |false=>exact⟨λh=>(by cases h),λh=>(by have:=h3.2 ⟨by omega,h.2⟩;cases this)⟩
  refine⟨λhl=>?_,λhl=>?_⟩
  ·have hl:=of_decide_eq_true hl
   have F4:hi<(af z0).length:=by omega
   refine⟨⟨by omega,by omega⟩,⟨by omega,by omega⟩,λz8 _ _ bD z9 _ _ _ aj _ _ _ ak _ _ _ z12 _ _ _ ad _ _ _ ao _ _ _ az _ _ dA=>?_⟩
   have dA:=sj (x5 (k:=hi) rfl bD F4) dA
   refine aI (decide (az=0)) (λ_=>by omega) λhr=>?_
   have hb:=(hI hr).2 hi (br _) (by omega)
   rw[hb]at dA
   simp only[cond_false]at dA
   rw[decide_eq_true_eq]
   by_cases hd:((aJ z0).getD hi cB).tok=t
   ·rw[decide_eq_true hd]at dA
    exact⟨λ_=>⟨by omega,hd⟩,λ_=>dA⟩
   ·rw[decide_eq_false hd]at dA
    simp only[cond_false]at dA
    exact⟨λh=>(by omega),λh=>(hd h.2).elim⟩
  ·have hl:=of_decide_eq_false hl
   exact aI false (λh=>by cases h) (λ_=>⟨λh=>(by cases h),λh=>(by omega)⟩)
theorem fD {z n y:Int} (hn:n=((af z).length:Int)):(0<=(0:Int)/\0<=n/\n<=((af z).length:Int))/\(y=au 22 [z,0,n]->af y=af z):=by
 refine⟨⟨bX _,by omega,by omega⟩,λhy=>?_⟩
 rw[hy];simp only[au,ee]
 rw[show(0:Int).toNat=0 from rfl,A5,jd (by omega)]
theorem fX {y z:Int} (h:af y=af z):aJ y=aJ z:=by unfold aJ;rw[h]
theorem aaH {l:List eE} {t:aH} {i:Nat} (hi:i<l.length) (he:(l.getD i cB).tok=t) (hb:∀j,j<i->(l.getD j cB).tok≠t):l.find? (λp=>decide (p.tok=t))=some (l.getD i cB):=by
 induction l generalizing i with
 |nil=>simp at hi
 |cons a r ih=>
  cases i with
  |zero=>
   have he:a.tok=t:=he
   simp[List.find?,he]
  |succ i=>
   have h0:¬a.tok=t:=hb 0 (by omega)
   rw[List.find?,decide_eq_false h0]
   exact ih (by simpa using hi) (by simpa using he) (λj hj=>by have:=hb (j+1) (by omega);simpa using this)
theorem aaI {l:List eE} {t:aH} (h:∀j,j<l.length->(l.getD j cB).tok≠t):l.find? (λp=>decide (p.tok=t))=none:=by
 rw[List.find?_eq_none]
 intro b hb
 obtain⟨j,hj,rfl⟩:=List.mem_iff_getElem.1 hb
 have:=h j hj
 simpa [ae,hj]using this
theorem Rl {l:List eE} {t:aH} {i f:Int} (h:yN l t i f) (hr:il l=true):(f=1->l.find? (λp=>decide (p.tok=t))=some (l.getD i.toNat cB))/\(f≠1->l.find? (λp=>decide (p.tok=t))=none):=by
 obtain⟨⟨h1,h2⟩,h3,h4⟩:=h
 obtain⟨k1,k2,k3⟩:=h4 (KW hr)
 constructor
 ·intro hf
  obtain⟨fW,eF⟩:=k3.1 hf
  exact aaH (by omega) eF (λj hj he=>by
   have:=k1 j (by omega)
   rw[he,QL]at this;cases this)
 ·intro hf
  refine aaI (λj hj he=>hf (k3.2 ?_))
  by_cases kH:(j:Int)<i
  ·have:=k1 j kH
   rw[he,QL]at this;cases this
  ·have h0:=k2 i.toNat (by omega) (by omega)
   refine⟨by omega,?_⟩
   by_cases akT:i.toNat=j
   ·rw[akT];exact he
   ·have hs:=KX (KW hr) (show i.toNat<j by omega) hj
    rw[he,h0]at hs;cases hs
abbrev IW:ck:= .d (.mix [.str,.str,.str,.str,.str,.str,.str])
theorem ar8:Ua SB (dq SB [IW,.d .bool] 604):=by
 intro z0 a0 a1 ag _ _ z2 _ z3 _ _ z4 b0 b1 h4
 have h4:z4=((af z0).length:Int):=h4
 have hlen:=n4 z0
 have iT:mC (aJ z0) (U ag)=none->dq SB [IW,.d .bool] 604 [[z0],[ag]] [[0,0,0,0,0,0,0],[cond false 1 0]]:=λh=>by
  refine⟨⟨bX _,fv,bX _,fv,bX _,fv,bX _,fv,bX _,fv,bX _,fv,bX _,fv,by decide,by decide,trivial⟩,?_⟩
  show(match mC (aJ z0) (U ag)with|some b=>dE [0,0,0,0,0,0,0]=b/\(0:Int)=1|none=>([0,0,0,0,0,0,0]:List Int)=[0,0,0,0,0,0,0]/\(0:Int)=0)
  rw[h];exact⟨rfl,rfl⟩
 have W:=λy=>fD (z:=z0) (y:=y) h4
 refine⟨(W 0).1,λz5 _ _ h5 z6 _ _ h6=>?_⟩
 have h6:z6=aL (il (aJ z5)):=h6
 rw[fX ((W z5).2 h5)]at h6
 have hd:=eb h6
 refine⟨λhn=>iT (by unfold mC;rw[lX hd hn];rfl),λhn=>⟨(W 0).1,λz7 _ _ h7 z8 bC c1 z9 d0 d1 cL=>?_⟩⟩
 have hr:=lW hd hn
 have cL:yN (aJ z7) (U ag) z8 z9:=cL
 rw[fX ((W z7).2 h7)]at cL
 obtain⟨p1,bJ⟩:=Rl cL hr
 refine⟨λhf=>iT ?_,λhf=>?_⟩
 ·unfold mC;rw[hr]
  refine bJ (λh=>?_)
  rw[h]at hf;cases hf
 have ni:z9=1:=by
  cases hx:decide (z9=1)with
  |true=>exact of_decide_eq_true hx
  |false=>rw[hx]at hf;cases hf
 have c9:=cL.2.1 ni
 refine⟨⟨bC,by omega⟩,⟨bC,by omega⟩,λaj aZ e1 b9 ak f0 f1 cH z12 g0 g1 dw ad i0 i1 dj ao ew dk dA az fA k1 e0 aC cq l1 gA=>⟨⟨aZ,e1,f0,f1,g0,g1,i0,i1,ew,dk,fA,k1,cq,l1,by decide,by decide,trivial⟩,?_⟩⟩
 show(match mC (aJ z0) (U ag)with|some b=>dE [aj,ak,z12,ad,ao,az,aC]=b/\(1:Int)=1|none=>[aj,ak,z12,ad,ao,az,aC]=[0,0,0,0,0,0,0]/\(1:Int)=0)
 unfold mC
 rw[hr,cond_true,p1 ni]
 exact⟨vW (k:=z8.toNat) (by omega) b9 cH dw dj dA e0 gA (by omega),rfl⟩
end Go.cu
namespace Go.cu
open Go Go.bo
def Uj (S:Nat->List (List Int)->List (List Int)->Prop) (K:List (List Int)->List (List Int)->Prop):Prop:=
 cS λz0=>(ab 66 [z0]->cM λag=>bn λz2=>aK 20 [z0] λz3=>(ab 53 [z2,z3]->(aq (decide (z2<0)) (K [[z0]] [[0]]) (ab 22 [z0,0,z3]/\
 ab 23 [0,z3]/\aA 22 [z0,0,z3] λz4=>aA 24 [0,z4] λz5=>(aq (decide (z3<=0)) (K [[z0]] [[0]]) (bn λz6=>ab 22 [z5,0,z3]/\aA 22 [z5,0,z3]
 λz7=>K [[z0]] [[z7]]))))))
def Ue (S:Nat->List (List Int)->List (List Int)->Prop) (K:List (List Int)->List (List Int)->Prop):Prop:=
 cS λz0=>∀r1:List Int,aV (da 0 bM 7) r1->cM λz8=>bn λz9=>aK 20 [z0] λaj=>bz λak=>S 601 [r1] [[ak]]->(aq ((!(decide (ak=
 1)))) (ab 22 [z0,0,aj]/\aA 22 [z0,0,aj] λz12=>K [[z0],r1] [[z12],[1]]) (cn 4 [(ae r1 6 0),0] λz12=>(aq ((!(decide (z12=1)))) (ab 22
 [z0,0,aj]/\aA 22 [z0,0,aj] λad=>K [[z0],r1] [[ad],[1]]) (ab 22 [z0,0,aj]/\aA 22 [z0,0,aj] λad=>bz λao=>S 602 [[ad]] [[ao]]->
 (aq ((!(decide (ao=1)))) (ab 22 [z0,0,aj]/\aA 22 [z0,0,aj] λaz=>K [[z0],r1] [[az],[1]]) (ab 22 [z0,0,aj]/\aA 22 [z0,0,aj] λaz=>dH
 λaC=>bz λaR=>S 603 [[az],[(ae r1 0 0)]] [[aC],[aR]]->(aq (decide (aR=1)) (ab 22 [z0,0,aj]/\aA 22 [z0,0,aj] λba=>K
 [[z0],r1] [[ba],[6]]) ((aq (decide (aj=32)) (ab 22 [z0,0,aj]/\aA 22 [z0,0,aj] λba=>K [[z0],r1] [[ba],[10]]) (((ab 22 [z0,0,aj]/\aA 22
 [z0,0,aj] λba=>ab 66 [ba]/\cS λbh=>S 619 [[ba]] [[bh]]->bn λz20=>aK 20 [bh] λz21=>ab 31 [bh,z21]/\aA 23 [0,(ae r1
 0 0),(ae r1 1 0),(ae r1 2 0),(ae r1 3 0),(ae r1 4 0),(ae r1 5 0),(ae r1 6 0)] λz22=>ab 51 [bh,aC,z22]/\cS
 λbU=>S 605 [[bh],[aC],[z22]] [[bU]]->bn λz24=>aK 20 [bU] λaO=>ab 22 [bU,0,aO]/\aA 22 [bU,0,aO] λz26=>K [[z0],r1]
 [[z26],[0]])/\(ab 22 [z0,0,aj]/\aA 22 [z0,0,aj] λba=>ab 66 [ba]/\cS λbh=>S 619 [[ba]] [[bh]]->bn λz20=>aK 20 [bh] λz21=>
 ab 31 [bh,z21]/\aA 23 [0,(ae r1 0 0),(ae r1 1 0),(ae r1 2 0),(ae r1 3 0),(ae r1 4 0),(ae r1 5 0),(ae r1 6
 0)] λz22=>ab 51 [bh,aC,z22]/\cS λbU=>S 605 [[bh],[aC],[z22]] [[bU]]->bn λz24=>aK 20 [bU] λaO=>ab 22 [bU,0,aO]/\aA 22
 [bU,0,aO] λz26=>K [[z0],r1] [[z26],[0]]))))))))))))
def Ud (S:Nat->List (List Int)->List (List Int)->Prop) (K:List (List Int)->List (List Int)->Prop):Prop:=
 cS λz0=>∀r1:List Int,aV (da 0 bM 2) r1->bO λz3=>cM λz4=>bn λz5=>aK 20 [z0] λz6=>bz λz7=>S 200 [[z3]] [[z7]]->(aq
 ((!(decide (z7=1)))) (ab 22 [z0,0,z6]/\aA 22 [z0,0,z6] λz8=>K [[z0],r1,[z3]] [[z8],[0],[1]]) (ab 22 [z0,0,z6]/\aA 22 [z0,0,z6] λz8=>bz λ
 z9=>S 602 [[z8]] [[z9]]->(aq ((!(decide (z9=1)))) (ab 22 [z0,0,z6]/\aA 22 [z0,0,z6] λaj=>K [[z0],r1,[z3]] [[aj],[0],[1]]) (ab 22 [z0,0,z6]/\
 aA 22 [z0,0,z6] λaj=>ab 66 [aj]/\cS λak=>S 619 [[aj]] [[ak]]->bn λz12=>aK 20 [ak] λad=>∃(qd:List (List Int)->Prop) (rV
 :List (List Int)->Nat),qd [[0],[ak],[0],[0],[(-1)]]/\(dH λaz=>cS λaC=>cS λaR=>dH λba=>bn λbh=>qd
 [[az],[aC],[aR],[ba],[bh]]->(aq (decide (az<ad)) (ab 30 [az,ad]/\ab 21 [aC,az]/\bj 21 [aC,az,1] λz20=>bj 21 [aC,az,2] λz21
 =>cn 4 [z20,(ae r1 0 0)] λz22=>cn 4 [z21,(ae r1 1 0)] λbU=>(aq (decide ([z22,bU]=[1,1])) (ab 21 [aC,az]/\bj 21 [aC,az,6]
 λz24=>cn 4 [z24,0] λaO=>(aq (decide (aO=1)) (ab 21 [aC,az]/\(ab 67 [aC,az,7]->aA 42 [aC,az,6,z3] λz26=>ab 21 [z26,az]/\
 bj 21 [z26,az,0] λcY=>bj 21 [z26,az,1] λz28=>bj 21 [z26,az,2] λcy=>bj 21 [z26,az,3] λbW=>bj 21 [z26,az,4] λz31=>bj 21
 [z26,az,5] λb7=>bj 21 [z26,az,6] λcZ=>ab 31 [aR,ba]/\ab 23 [aR,1]/\aA 23 [aR,cY,z28,cy,bW,z31,b7,cZ] λcz=>bn λcr=>bt
 (az+9223372036854775809) 18446744073709551616 λcv=>ab 39 [((az+((-18446744073709551616)*cv))+1),0,9223372036854775807]/\(qd [[((az+
 ((-18446744073709551616)*cv))+1)],[z26],[cz],[(ba+1)],[cr]]/\rV [[((az+((-18446744073709551616)*cv))+1)],[z26],[cz],[(ba+1)],[cr]]<
 rV [[az],[aC],[aR],[ba],[bh]]))) (bt (az+9223372036854775809) 18446744073709551616 λz26=>ab 39 [((az+((-18446744073709551616)*z26))+
 1),0,9223372036854775807]/\(qd [[((az+((-18446744073709551616)*z26))+1)],[aC],[aR],[ba],[bh]]/\rV [[((az+((-18446744073709551616)*z26))+
 1)],[aC],[aR],[ba],[bh]]<rV [[az],[aC],[aR],[ba],[bh]])))) (bt (az+9223372036854775809) 18446744073709551616 λz24=>ab 39 [((az+
 ((-18446744073709551616)*z24))+1),0,9223372036854775807]/\(qd [[((az+((-18446744073709551616)*z24))+1)],[aC],[aR],[ba],[bh]]/\rV [[((az+
 ((-18446744073709551616)*z24))+1)],[aC],[aR],[ba],[bh]]<rV [[az],[aC],[aR],[ba],[bh]])))) (ab 22 [aC,0,ad]/\aA 22 [aC,0,ad] λz20=>
 ab 22 [aR,0,ba]/\aA 22 [aR,0,ba] λz21=>K [[z0],r1,[z3]] [[z20],[z21],[0]])))))))
def Ul (S:Nat->List (List Int)->List (List Int)->Prop) (K:List (List Int)->List (List Int)->Prop):Prop:=
 K [] [[117,477315081741,437051401625,1786258745,1786259033,1721197221,0]]
abbrev Q3:ck:= .kN [.str,.str,.str,.str,.str,.str,.str] 0
abbrev nr:ck:= .rd [.str,.str,.str,.str,.str,.str,.str]
theorem ash:Uj SB (dq SB [Q3] 619):=by
 intro z0 a0 a1 hp ag b1 z2 bC c1 z3 d0 d1 h3 hn
 have h3:z3=((af z0).length:Int):=h3
 have hl:(af z0).length<=1000000:=hp
 have hn:z2<0->z3=0:=hn
 have fin:∀z,0<=z->z<=bK->af z=af z0->dq SB [Q3] 619 [[z0]] [[z]]:=λz h1 h2 h=>⟨⟨h1,h2,trivial⟩,h⟩
 have aZ:z3<=0->dq SB [Q3] 619 [[z0]] [[0]]:=λh=>fin 0 (bX _) ou (by rw[Go.bo.fa];exact(List.eq_nil_of_length_eq_zero (by omega)).symm)
 refine⟨λh=>aZ (by have:=hn (of_decide_eq_true h);omega),λh=>⟨⟨bX _,by omega,by rw[h3];exact bX _⟩,by show(af 0).length+z3<=1073741824;rw[Go.bo.fa];simp only[fM];omega,λz4 f0 f1 h4 z5 g0 g1 h5=>?_⟩⟩
 have h4:=(fD (y:=z4) h3).2 h4
 have h5:af z5=af z0:=by
  try dsimp only
  rw[h5];show af (rc (af 0++af z4))=_
  try dsimp only
  rw[ee,Go.bo.fa,h4];rfl
 refine⟨λh=>aZ (of_decide_eq_true h),λh z6 i0 i1=>⟨⟨bX _,by omega,by rw[h3,h5];exact bX _⟩,λz7 ew dk h7=>fin z7 ew dk ?_⟩⟩
 try dsimp only
 rw[(fD (y:=z7) (by rw[h3,h5])).2 h7,h5]
theorem W0 {α:Type} {d:α} {p:α->Bool}:∀{l:List α} {i:Nat},i<=l.length->(∀j,j<i->p (l.getD j d)=true)->(∀j,i<=j->j<l.length->p (l.getD j d)=false)->l.filter p=l.take i
 |[],i,h,_,_=>by simp
 |a::l,0,h,_,h2=>by
  try dsimp only
  rw[uM,List.filter_eq_nil_iff]
  intro b hb
  obtain⟨j,hj,rfl⟩:=List.mem_iff_getElem.1 hb
  have:=h2 j (gX _) hj
  simp only[ae,kg hj,rP]at this
  try dsimp only
  rw[this];decide
 |a::l,i+1,h,h1,h2=>by
  have b9:p a=true:=h1 0 (by omega)
  try dsimp only
  rw[ac4 b9,List.take_succ_cons,W0 (d:=d) (i:=i) (by simpa using h) (λj hj=>by have:=h1 (j+1) (by omega);simpa using this) (λj hj hl=>by have:=h2 (j+1) (by omega) (by simpa using hl);simpa using this)]
theorem WZ {α:Type} {d:α} {p:α->Bool}:∀{l:List α} {i:Nat},i<=l.length->(∀j,j<i->p (l.getD j d)=false)->(∀j,i<=j->j<l.length->p (l.getD j d)=true)->l.filter p=l.drop i
 |[],i,h,_,_=>by simp
 |a::l,0,h,_,h2=>by
  try dsimp only
  rw[A5,List.filter_eq_self]
  intro b hb
  obtain⟨j,hj,rfl⟩:=List.mem_iff_getElem.1 hb
  have:=h2 j (gX _) hj
  simpa only[ae,kg hj,rP]using this
 |a::l,i+1,h,h1,h2=>by
  have h0:=h1 0 (by omega)
  try dsimp only
  rw[ac5 (by rw[show p a=false from h0];decide),List.drop_succ_cons,WZ (d:=d) (i:=i) (by simpa using h) (λj hj=>by have:=h1 (j+1) (by omega);simpa using this) (λj hj hl=>by have:=h2 (j+1) (by omega) (by simpa using hl);simpa using this)]
theorem Is {l:List eE} {t:aH}:(l.any λp=>decide (p.tok=t))=(l.find? λp=>decide (p.tok=t)).isSome:=by
 try dsimp only
 rw[iv,List.any_eq_true,List.find?_isSome]
theorem dup {p:Prop} (h:p):p/\p:=⟨h,h⟩
theorem Vb {id:Nat} {zs:List (List Int)} {y e:Int} (ja:0<=y) (iq:y<=bK) (aZ:0<=e) (e1:e<=21) (h:SB id zs [[y],[e]]):dq SB [nr,.d (.int .i64 0 21)] id zs [[y],[e]]:=⟨⟨ja,iq,aZ,e1,trivial⟩,h⟩
theorem abO {l:List eE} {w:eE} {i f:Int} (hr:il l=true) (bm:lC w=true) (he:w.mx.isEmpty=true) (h:yN l w.tok i f) (hf:f≠1) (hl:¬l.length=32):mn l w=(l.take i.toNat++w::l.drop i.toNat,0):=by
 have bJ:=(Rl h hr).2 hf
 obtain⟨⟨h1,h2⟩,h3,h4⟩:=h
 obtain⟨k1,k2,k3⟩:=h4 (KW hr)
 have hlt:∀j,j<i.toNat->dy (l.getD j cB).tok w.tok=true:=λj hj=>k1 j (by omega)
 have ec:∀j,i.toNat<=j->j<l.length->dy (l.getD j cB).tok w.tok=false:=λj hj hl=>k2 j (by omega) hl
 have JB:∀j,i.toNat<=j->j<l.length->dy w.tok (l.getD j cB).tok=true:=λj hj hl=>by
  rcases ZA (l.getD j cB).tok w.tok with h|h|h
  ·rw[ec j hj hl]at h;cases h
  ·exact h
  ·have hno:=List.find?_eq_none.1 bJ (l.getD j cB) (by simp[ae,hl])
   exact absurd (decide_eq_true h) (by simpa using hno)
 unfold mn
 try dsimp only
 rw[bm,hr,he,Is,bJ,decide_eq_false hl,W0 (p:=λp=>dy p.tok w.tok) (d:=cB) (i:=i.toNat) (by omega) hlt ec,WZ (p:=λp=>dy w.tok p.tok) (d:=cB) (i:=i.toNat) (by omega) (λj hj=>anK (hlt j hj)) JB]
 rfl
theorem asc:Ue SB (dq SB [nr,.d (.int .i64 0 21)] 606):=by
 intro z0 a0 a1 r1 e3 z8 _ z9 _ _ aj b0 b1 b9 ak _ _ cH
 have b9:aj=((af z0).length:Int):=b9
 have hlen:=n4 z0
 have W:=λy=>fD (z:=z0) (y:=y) b9
 have cH:=eb (show ak=aL (lC (dE r1)) from cH)
 have aI:∀y e:Int,0<=y->y<=bK->0<=e->e<=21->(aJ y,e)=mn (aJ z0) (dE r1)->dq SB [nr,.d (.int .i64 0 21)] 606 [[z0],r1] [[y],[e]]:=λy e ja iq aZ e1 h=>Vb ja iq aZ e1 h
 refine⟨λa=>⟨(W 0).1,λz12 bC c1 dw=>aI z12 1 bC c1 (by decide) (by decide) ?_⟩,λa z12 _ _ dw=>?_⟩
 ·unfold mn;rw[lX cH a,fX ((W z12).2 dw)];rfl
 have bm:=lW cH a
 have dw:decide (z12=1)=(dE r1).mx.isEmpty:=y4 dw
 refine⟨λa=>⟨(W 0).1,λad bC c1 dj=>aI ad 1 bC c1 (by decide) (by decide) ?_⟩,λa=>⟨(W 0).1,λad _ _ dj ao _ _ dA=>?_⟩⟩
 ·unfold mn;rw[lX dw a,LM,uE,fX ((W ad).2 dj)];rfl
 have xe:=lW dw a
 have dA:=eb (show ao=aL (il (aJ ad)) from dA)
 rw[fX ((W ad).2 dj)]at dA
 refine⟨λa=>⟨(W 0).1,λaz bC c1 e0=>aI az 1 bC c1 (by decide) (by decide) ?_⟩,λa=>⟨(W 0).1,λaz _ _ e0 aC bC c1 aR d0 d1 cL=>?_⟩⟩
 ·unfold mn;rw[lX dA a,uE,uE,fX ((W az).2 e0)];rfl
 have hr:=lW dA a
 have tB:=((vU _).1 hr).1
 have cL:yN (aJ az) (dE r1).tok aC aR:=cL
 rw[fX ((W az).2 e0)]at cL
 obtain⟨p1,bJ⟩:=Rl cL hr
 refine⟨λhf=>⟨(W 0).1,λba aZ e1 lq=>aI ba 6 aZ e1 (by decide) (by decide) ?_⟩,λhf=>⟨λh=>⟨(W 0).1,λba aZ e1 lq=>aI ba 10 aZ e1 (by decide) (by decide) ?_⟩,λh=>dup ?_⟩⟩
 ·unfold mn;rw[bm,xe,hr,Is,p1 (of_decide_eq_true hf),fX ((W ba).2 lq)];rfl
 ·have h:=of_decide_eq_true h
  unfold mn;rw[bm,xe,hr,Is,bJ (of_decide_eq_false hf),decide_eq_true (show(aJ z0).length=32 by omega),fX ((W ba).2 lq)];rfl
 have h:=of_decide_eq_false h
 have PC:=of_decide_eq_false hf
 obtain⟨⟨s1,s2⟩,fL,j7⟩:=id cL
 refine⟨(W 0).1,λba _ _ lq=>?_⟩
 have lq:=(W ba).2 lq
 refine⟨by show(af ba).length<=1000000;rw[lq];omega,λbh _ _ lr z20 _ _ z21 _ _ l3=>?_⟩
 have lr:af bh=af ba:=lr
 rw[lq]at lr
 have l3:z21=((af bh).length:Int):=l3
 refine⟨l3,λz22 _ _ pL=>?_⟩
 have YJ:af z22=[[r1.getD 0 0,r1.getD 1 0,r1.getD 2 0,r1.getD 3 0,r1.getD 4 0,r1.getD 5 0,r1.getD 6 0]]:=by rw[pL];simp only[au,ee,Go.bo.fa,jr]
 refine⟨⟨⟨bC,by rw[lr];omega⟩,by rw[YJ];rfl,by rw[lr];omega⟩,λbU _ _ jv z24 _ _ aO _ _ kD=>?_⟩
 have jv:af bU=(af bh).take aC.toNat++af z22++(af bh).drop aC.toNat:=jv
 rw[lr,YJ]at jv
 have kD:aO=((af bU).length:Int):=kD
 refine⟨(fD (y:=0) kD).1,λz26 aZ e1 qp=>aI z26 0 aZ e1 (by decide) (by decide) ?_⟩
 have qp:=(fD (y:=z26) kD).2 qp
 try dsimp only
 rw[abO hr bm xe cL PC (by omega)]
 unfold aJ
 try dsimp only
 rw[qp,jv]
 simp[yr,ys]
 rfl
theorem atV {c i a b:Int} {k:Nat} (hi:i=(k:Int)) (ha:a=au 21 [c,i,1]) (hb:b=au 21 [c,i,2]) (hk:k<(af c).length):(U a,U b)=((aJ c).getD k cB).ez:=by
 try dsimp only
 rw[GW hk,ha,hb,hi];rfl
theorem RD {c i a:Int} {k:Nat} (hi:i=(k:Int)) (ha:a=au 21 [c,i,6]) (hk:k<(af c).length):U a=((aJ c).getD k cB).mx:=by
 try dsimp only
 rw[GW hk,ha,hi];rfl
theorem atf {row:List Int} {z:Int} (h:row.length=7):dE (row.take 6++[z]++row.drop 7)={dE row with mx:=U z}:=by
 match row,h with
 |[a,b,c,d,e,f,g],_=>rfl
def yb (dR:aH) (p:eE):eE:={p with mx:=dR}
def sP (ez:aH×aH) (dR:aH) (p:eE):eE:=cond (py ez p) (yb dR p) p
theorem abA {l:List eE} {ez:aH×aH} {dR:aH} (hu:kS dR=true) (hr:il l=true):nt l ez dR=(l.map (sP ez dR),(l.filter (py ez)).map (yb dR),0):=by
 unfold nt;rw[hu,hr];rfl
def Vr (l:List eE) (ez:aH×aH) (dR:aH) (bl:List (List Int)):Prop:=∃(i:Nat) (c d n x:Int),bl=[[(i:Int)],[c],[d],[n],[x]]/\i<=l.length/\aJ c=(l.take i).map (sP ez dR)++l.drop i/\n=((af d).length:Int)/\(af d).length<=i/\aJ d=((l.take i).filter (py ez)).map (yb dR)
def wI (l:List eE) (bl:List (List Int)):Nat:=l.length-((bl.getD 0 []).getD 0 0).toNat
theorem yg {l:List eE} {i:Nat} (h:i<l.length):l.take (i+1)=l.take i++[l.getD i cB]:=by
 try dsimp only
 rw[List.take_add_one,kg h];simp[ae,h]
theorem agb {l:List eE} {i:Nat} (h:i<l.length):l.drop i=l.getD i cB::l.drop (i+1):=by
 try dsimp only
 rw[List.drop_eq_getElem_cons h];simp[ae,h]
theorem QS {a b:List eE} {x:eE} {i:Nat} (h:a.length=i):(a++x::b).getD i cB=x/\∀y,(a++x::b).set i y=a++y::b:=by
 subst h
 refine⟨by simp[ae],λy=>by simp⟩
theorem Va {id:Nat} {zs:List (List Int)} {y d e:Int} (ja:0<=y) (iq:y<=bK) (d0:0<=d) (d1:d<=bK) (aZ:0<=e) (e1:e<=21) (h:SB id zs [[y],[d],[e]]):dq SB [nr,nr,.d (.int .i64 0 21)] id zs [[y],[d],[e]]:=⟨⟨ja,iq,d0,d1,aZ,e1,trivial⟩,h⟩
theorem xV:aJ 0=[]:=by unfold aJ;rw[Go.bo.fa];rfl
theorem KK {c y:Int} {row:List Int} (h:y=au 23 (c::row)):af y=af c++[row]/\aJ y=aJ c++[dE row]:=by
 have h:af y=af c++[row]:=by rw[h];simp only[au,ee]
 exact⟨h,by unfold aJ;rw[h];simp⟩
theorem xO {i:Nat} {L:Nat} (hl:i<L) (cF:L<=1073741824) {z:Int} (h2:0<=((i:Int)+9223372036854775809)-18446744073709551616*z) (h3:((i:Int)+9223372036854775809)-18446744073709551616*z<18446744073709551616):((i:Int)+(-18446744073709551616)*z)+1=((i+1:Nat):Int):=by omega
theorem asb:Ud SB (dq SB [nr,nr,.d (.int .i64 0 21)] 607):=by
 intro z0 a0 a1 r1 e3 z3 _ _ z4 _ z5 _ _ z6 b0 b1 h6 z7 _ _ h7
 have h6:z6=((af z0).length:Int):=h6
 have hlen:=n4 z0
 have W:=λy=>fD (z:=z0) (y:=y) h6
 have h7:=eb (show z7=aL (kS (U z3)) from h7)
 have aI:∀y d e:Int,0<=y->y<=bK->0<=d->d<=bK->0<=e->e<=21->(aJ y,aJ d,e)=nt (aJ z0) (lG r1) (U z3)->dq SB [nr,nr,.d (.int .i64 0 21)] 607 [[z0],r1,[z3]] [[y],[d],[e]]:=λy d e ja iq d0 d1 aZ e1 h=>Va ja iq d0 d1 aZ e1 h
 refine⟨λa=>⟨(W 0).1,λz8 bC c1 bD=>aI z8 0 1 bC c1 (bX _) ou (by decide) (by decide) ?_⟩,λa=>⟨(W 0).1,λz8 _ _ bD z9 _ _ bg=>?_⟩⟩
 ·unfold nt;rw[lX h7 a,fX ((W z8).2 bD),xV];rfl
 have hu:=lW h7 a
 have bg:=eb (show z9=aL (il (aJ z8)) from bg)
 rw[fX ((W z8).2 bD)]at bg
 refine⟨λa=>⟨(W 0).1,λaj bC c1 b9=>aI aj 0 1 bC c1 (bX _) ou (by decide) (by decide) ?_⟩,λa=>⟨(W 0).1,λaj _ _ b9=>?_⟩⟩
 ·unfold nt;rw[lX bg a,uE,fX ((W aj).2 b9),xV];rfl
 have hr:=lW bg a
 have tB:=((vU _).1 hr).1
 have b9:=(W aj).2 b9
 refine⟨by show(af aj).length<=1000000;rw[b9];omega,λak _ _ cH z12 _ _ ad _ _ dj=>?_⟩
 have cH:af ak=af aj:=cH
 rw[b9]at cH
 have dj:ad=((af ak).length:Int):=dj
 rw[cH]at dj
 generalize Qc:lG r1=ez at aI
 generalize qB:U z3=dR at aI hu
 generalize cF:aJ z0=L at aI hr tB hlen
 refine⟨Vr L ez dR,wI L,⟨0,ak,0,0,-1,rfl,gX _,by rw[fX cH,cF];rfl,by rw[Go.bo.fa];rfl,by rw[Go.bo.fa];exact br _,by rw[xV];rfl⟩,?_⟩
 rintro az aZ e1 aC f0 f1 aR g0 g1 ba i0 i1 bh ew dk ⟨i,c,d,n,x,e,hi,hc,hn,aCz,hd⟩
 obtain⟨rfl,rfl,rfl,rfl,rfl⟩:az=i/\aC=c/\aR=d/\ba=n/\bh=x:=by simpa using e
 have gP:(af aC).length=L.length:=by rw[<-n4,hc];simp;omega
 refine⟨λhlt=>?_,λec=>?_⟩
 ·have hlt:=of_decide_eq_true hlt
  have c9:i<L.length:=by omega
  rw[agb c9]at hc
  have dZ:((L.take i).map (sP ez dR)).length=i:=by simp;omega
  have hrow:(aJ aC).getD i cB=L.getD i cB:=by rw[hc];exact(QS dZ).1
  refine⟨⟨by omega,by omega⟩,⟨by omega,by omega⟩,λz20 _ _ rh z21 _ _ l3 z22 _ _ pL bU _ _ jv=>?_⟩
  have hw:=aaA pL jv
  have Qb:decide (U z20=U (r1.getD 0 0)/\U z21=U (r1.getD 1 0))=decide ((L.getD i cB).ez=ez):=by
   try dsimp only
   rw[<-hrow,<-atV (k:=i) rfl rh l3 (by omega),<-Qc]
   unfold lG
   simp only[cA]
  rw[Qb]at hw
  have Hk:∀{z:Int},sP ez dR (L.getD i cB)=L.getD i cB->py ez (L.getD i cB)=false->0<=((i:Int)+9223372036854775809)-18446744073709551616*z->((i:Int)+9223372036854775809)-18446744073709551616*z<18446744073709551616->ab 39 [((i:Int)+(-18446744073709551616)*z)+1,0,9223372036854775807]/\Vr L ez dR [[((i:Int)+(-18446744073709551616)*z)+1],[aC],[aR],[ba],[bh]]/\wI L [[((i:Int)+(-18446744073709551616)*z)+1],[aC],[aR],[ba],[bh]]<wI L [[(i:Int)],[aC],[aR],[ba],[bh]]:=λ{z} hs sz k2 k3=>by
   try dsimp only
   rw[xO c9 (by omega) k2 k3]
   refine⟨⟨by omega,by omega⟩,⟨i+1,aC,aR,ba,bh,rfl,by omega,?_,hn,by omega,?_⟩,by show L.length-(((i+1:Nat):Int)).toNat<L.length-((i:Int)).toNat;omega⟩
   ·try dsimp only
    rw[hc,yg c9,ft,cI,eo,hs,je];rfl
   ·try dsimp only
    rw[hd,yg c9,Tz,ac5 (by rw[sz];decide),aAE,h9]
  refine⟨λhq=>⟨⟨by omega,by omega⟩,λz24 _ _ ng aO _ _ kD=>?_⟩,λhq z24 _ _ k2 k3=>?_⟩
  ·have rq:=hw.symm.trans hq
   have hb:=y4 kD
   rw[RD (k:=i) rfl ng (by omega),hrow]at hb
   have Cr:py ez (L.getD i cB)=decide (aO=1):=by unfold py;rw[rq,hb];rfl
   refine⟨λhy=>⟨⟨by omega,by omega⟩,λOe z26 _ _ qp=>?_⟩,λhy z26 _ _ k2 k3=>Hk (by unfold sP;rw[Cr,hy];rfl) (Cr.trans hy) k2 k3⟩
   have zJ:=Cr.trans hy
   have Oe:((af aC).getD i []).length=7:=Oe
   have YK:af z26=(af aC).set i (((af aC).getD i []).take 6++[z3]++((af aC).getD i []).drop 7):=by
    try dsimp only
    rw[qp];simp only[au,ee];rfl
   have YI:aJ z26=(L.take i).map (sP ez dR)++yb dR (L.getD i cB)::L.drop (i+1):=by
    have:aJ z26=(aJ aC).set i (yb dR (L.getD i cB)):=by
     unfold aJ
     try dsimp only
     rw[YK,azE,atf Oe,qB]
     try dsimp only
     rw[<-hrow,GW (by omega)];rfl
    try dsimp only
    rw[this,hc];exact(QS dZ).2 _
   have aCd:(af z26).length=L.length:=by rw[YK];simpa using gP
   have alL:(aJ z26).getD i cB=yb dR (L.getD i cB):=by rw[YI];exact(QS dZ).1
   refine⟨⟨by omega,by omega⟩,λcY _ _ qq z28 _ _ jL cy _ _ BZ bW _ _ B0 z31 _ _ Jh b7 _ _ aic cZ _ _ B1=>⟨hn,by show((af aR).length:Int)+1<=1073741824;omega,λcz _ _ w5 cr _ _ cv _ _ k2 k3=>?_⟩⟩
   have PK:=vW (k:=i) rfl qq jL BZ B0 Jh aic B1 (by omega)
   obtain⟨bq,bE⟩:=KK w5
   try dsimp only
   rw[xO c9 (by omega) k2 k3]
   refine⟨⟨by omega,by omega⟩,⟨i+1,z26,cz,ba+1,cr,rfl,by omega,?_,by rw[bq,hn];simp,by rw[bq];simp;omega,?_⟩,by show L.length-(((i+1:Nat):Int)).toNat<L.length-((i:Int)).toNat;omega⟩
   ·try dsimp only
    rw[YI,yg c9,ft,cI,eo,je]
    unfold sP;rw[zJ];rfl
   ·try dsimp only
    rw[bE,PK,alL,hd,yg c9,Tz,ac4 zJ,ft];rfl
  ·have rq:=hw.symm.trans hq
   have sz:py ez (L.getD i cB)=false:=by unfold py;rw[rq];rfl
   exact Hk (by unfold sP;rw[sz];rfl) sz k2 k3
 ·have ec:=of_decide_eq_false ec
  have Pc:i=L.length:=by omega
  subst Pc
  have w1:=fD (z:=aC) (n:=ad) (y:=0) (by omega)
  refine⟨w1.1,λz20 fA k1 rh=>⟨(fD (y:=0) hn).1,λz21 cq l1 l3=>aI z20 z21 0 fA k1 cq l1 (by decide) (by decide) ?_⟩⟩
  try dsimp only
  rw[abA hu hr,fX ((fD (z:=aC) (n:=ad) (y:=z20) (by omega)).2 rh),fX ((fD (y:=z21) hn).2 l3),hc,hd]
  simp
theorem zj {c:Int} {l:List UInt8} (h:ev l=c) (hl:l.length<=gk):c<=bM:=h▸oW hl
theorem asj:Ul SB (aY SB [.mix [.str,.str,.str,.str,.str,.str,.str]] 608):=⟨by
 refine⟨by decide,zj (l:=[116]) (by decide+kernel) (by decide),by decide,zj (l:=[101,109,97,105,108]) (by decide+kernel) (by decide),by decide,zj (l:=[97,64,98,46,99]) (by decide+kernel) (by decide),by decide,zj (l:=[33,114,58,104]) (by decide+kernel) (by decide),by decide,zj (l:=[64,115,58,104]) (by decide+kernel) (by decide),by decide,zj (l:=[115,101,101,100]) (by decide+kernel) (by decide),by decide,zj (l:=[]) (by decide+kernel) (by decide),trivial⟩,rfl⟩
end Go.cu
namespace Go.cu
open Go Go.bo
def Us (S:Nat->List (List Int)->List (List Int)->Prop) (K:List (List Int)->List (List Int)->Prop):Prop:=
 ∀aP:List Int,aV (da 0 bM 7) aP->bz λz7=>S 420 [[(ae aP 0 0)]] [[z7]]->(aq (decide (z7=1)) (bz λz8=>S 420 [[(ae aP 5 0)]]
 [[z8]]->(aq (decide (z8=1)) (bz λz9=>S 19 [[(ae aP 1 0),(ae aP 2 0)]] [[z9]]->(aq (decide (z9=1)) (bz λaj=>S 208 [[(ae aP
 3 0)]] [[aj]]->(aq (decide (aj=1)) (bz λak=>S 207 [[(ae aP 4 0)]] [[ak]]->(aq (decide (ak=1)) (cn 4 [(ae aP 6 0),0] λz12=>
 (aq (decide (z12=1)) (K [aP] [[(cond (true) 1 0)]]) (bz λad=>S 207 [[(ae aP 6 0)]] [[ad]]->K [aP] [[(cond (decide (ad=1)) 1 0)]]))) (K [aP]
 [[(cond (false) 1 0)]]))) (K [aP] [[(cond (false) 1 0)]]))) (K [aP] [[(cond (false) 1 0)]]))) (K [aP] [[(cond (false) 1 0)]]))) (K [aP] [[(cond (false) 1 0)]]))
def Ut (S:Nat->List (List Int)->List (List Int)->Prop) (K:List (List Int)->List (List Int)->Prop):Prop:=
 cS λz0=>cM λag=>bn λz2=>aK 20 [z0] λz3=>(aq (decide (32<z3)) (K [[z0]] [[(cond (false) 1 0)]]) (∃(eB:List (List Int)->Prop) (eg:
 List (List Int)->Nat),eB [[0]]/\(dH λz5=>eB [[z5]]->(aq (decide (z5<z3)) (ab 30 [z5,z3]/\ab 21 [z0,z5]/\bj 21 [z0,z5,0] λz6=>bj 21
 [z0,z5,1] λz7=>bj 21 [z0,z5,2] λz8=>bj 21 [z0,z5,3] λz9=>bj 21 [z0,z5,4] λaj=>bj 21 [z0,z5,5] λak=>bj 21 [z0,z5,6] λz12=>bz
 λad=>S 612 [[z6,z7,z8,z9,aj,ak,z12]] [[ad]]->(aq ((!(decide (ad=1)))) (K [[z0]] [[(cond (false) 1 0)]]) ((aq (decide (0<z5)) (ab 30 [(z5+
 (-1)),z3]/\ab 21 [z0,(z5+(-1))]/\bj 21 [z0,(z5+(-1)),0] λao=>ab 30 [z5,z3]/\ab 21 [z0,z5]/\bj 21 [z0,z5,0] λaz=>cn 5 [ao,az]
 λaC=>(aq ((!(decide (aC=1)))) (K [[z0]] [[(cond (false) 1 0)]]) (bt (z5+9223372036854775809) 18446744073709551616 λaR=>ab 39 [((z5+
 ((-18446744073709551616)*aR))+1),0,9223372036854775807]/\(eB [[((z5+((-18446744073709551616)*aR))+1)]]/\eg [[((z5+((-18446744073709551616)*
 aR))+1)]]<eg [[z5]])))) ((eB [[1]]/\eg [[1]]<eg [[z5]])))))) (K [[z0]] [[(cond (true) 1 0)]])))))
def Ur (S:Nat->List (List Int)->List (List Int)->Prop) (K:List (List Int)->List (List Int)->Prop):Prop:=
 cS λz0=>bO λag=>cM λz2=>bn λz3=>aK 20 [z0] λz4=>∃(dz:List (List Int)->Prop) (dg:List (List Int)->Nat),dz [[0]]/\(dH λz6
 =>dz [[z6]]->(aq (decide (z6<z4)) (ab 22 [z0,0,z4]/\aA 22 [z0,0,z4] λz7=>bz λz8=>S 613 [[z7]] [[z8]]->(aq (decide (z8=1)) (ab 30
 [z6,z4]/\ab 21 [z0,z6]/\bj 21 [z0,z6,0] λz9=>cn 4 [z9,ag] λaj=>(aq (decide (aj=1)) (ab 30 [z6,z4]/\ab 21 [z0,z6]/\bj 21 [z0,z6,0]
 λak=>bj 21 [z0,z6,1] λz12=>bj 21 [z0,z6,2] λad=>bj 21 [z0,z6,3] λao=>bj 21 [z0,z6,4] λaz=>bj 21 [z0,z6,5] λaC=>bj 21
 [z0,z6,6] λaR=>K [[z0],[ag]] [[ak,z12,ad,ao,az,aC,aR],[(cond (true) 1 0)]]) (bt (z6+9223372036854775809) 18446744073709551616 λak=>ab 39
 [((z6+((-18446744073709551616)*ak))+1),0,9223372036854775807]/\(dz [[((z6+((-18446744073709551616)*ak))+1)]]/\dg [[((z6+
 ((-18446744073709551616)*ak))+1)]]<dg [[z6]])))) (K [[z0],[ag]] [[0,0,0,0,0,0,0],[(cond (false) 1 0)]]))) (K [[z0],[ag]] [[0,0,0,0,0,0,0],[(cond (false) 1
 0)]])))
def Uu (S:Nat->List (List Int)->List (List Int)->Prop) (K:List (List Int)->List (List Int)->Prop):Prop:=
 cS λz0=>cS λag=>cM λz2=>bn λz3=>aK 20 [z0] λz4=>cM λz5=>bn λz6=>aK 20 [ag] λz7=>(aq ((!(decide (z4=z7)))) (K
 [[z0],[ag]] [[(cond (false) 1 0)]]) (∃(e6:List (List Int)->Prop) (gI:List (List Int)->Nat),e6 [[0]]/\(dH λz9=>e6 [[z9]]->(aq (decide (z9<z4))
 (ab 30 [z9,z4]/\ab 21 [z0,z9]/\bj 21 [z0,z9,0] λaj=>bj 21 [z0,z9,1] λak=>bj 21 [z0,z9,2] λz12=>bj 21 [z0,z9,3] λad=>bj 21
 [z0,z9,4] λao=>bj 21 [z0,z9,5] λaz=>bj 21 [z0,z9,6] λaC=>ab 30 [z9,z7]/\ab 21 [ag,z9]/\bj 21 [ag,z9,0] λaR=>bj 21 [ag,z9,1]
 λba=>bj 21 [ag,z9,2] λbh=>bj 21 [ag,z9,3] λz20=>bj 21 [ag,z9,4] λz21=>bj 21 [ag,z9,5] λz22=>bj 21 [ag,z9,6] λbU=>cn 4
 [aj,aR] λz24=>cn 4 [ak,ba] λaO=>cn 4 [z12,bh] λz26=>cn 4 [ad,z20] λcY=>cn 4 [ao,z21] λz28=>cn 4 [az,z22] λcy=>cn 4
 [aC,bU] λbW=>(aq ((!(((decide (z24=1))&&(((decide ([aO,z26]=[1,1]))&&(decide ([cY,z28,cy,bW]=[1,1,1,1])))))))) (K [[z0],[ag]] [[(cond
 (false) 1 0)]]) (bt (z9+9223372036854775809) 18446744073709551616 λz31=>ab 39 [((z9+((-18446744073709551616)*z31))+1),0,9223372036854775807]/\
 (e6 [[((z9+((-18446744073709551616)*z31))+1)]]/\gI [[((z9+((-18446744073709551616)*z31))+1)]]<gI [[z9]])))) (K [[z0],[ag]] [[(cond (true) 1
 0)]])))))
def Uv (S:Nat->List (List Int)->List (List Int)->Prop) (K:List (List Int)->List (List Int)->Prop):Prop:=
 cS λz0=>∀r1:List Int,aV (da 0 bM 2) r1->bO λz3=>cM λz4=>bn λz5=>aK 20 [z0] λz6=>ab 22 [z0,0,z6]/\aA 22 [z0,0,z6] λz7=>
 bz λz8=>S 613 [[z7]] [[z8]]->(aq ((!(decide (z8=1)))) (ab 22 [z0,0,z6]/\aA 22 [z0,0,z6] λz9=>K [[z0],r1,[z3]] [[z9],[0],[1]]) (bz λz9=>S
 207 [[z3]] [[z9]]->(aq ((!(decide (z9=1)))) (ab 22 [z0,0,z6]/\aA 22 [z0,0,z6] λaj=>K [[z0],r1,[z3]] [[aj],[0],[1]]) (∃(nF:List (List Int)->
 Prop) (pC:List (List Int)->Nat),nF [[0],[0],[0],[(-1)],[0],[0],[(-1)]]/\(dH λak=>cS λz12=>dH λad=>bn λao=>cS λaz=>dH λaC
 =>bn λaR=>nF [[ak],[z12],[ad],[ao],[az],[aC],[aR]]->(aq (decide (ak<z6)) (ab 30 [ak,z6]/\ab 21 [z0,ak]/\bj 21 [z0,ak,0] λba=>
 bj 21 [z0,ak,1] λbh=>bj 21 [z0,ak,2] λz20=>bj 21 [z0,ak,3] λz21=>bj 21 [z0,ak,4] λz22=>bj 21 [z0,ak,5] λbU=>bj 21
 [z0,ak,6] λz24=>cn 4 [bh,(ae r1 0 0)] λaO=>cn 4 [z20,(ae r1 1 0)] λz26=>(aq (decide ([aO,z26]=[1,1])) (cn 4 [z24,0] λcY
 =>(aq (decide (cY=1)) (ab 31 [az,aC]/\ab 23 [az,1]/\aA 23 [az,ba,bh,z20,z21,z22,bU,z3] λz28=>bn λcy=>ab 31 [z12,ad]/\ab 23
 [z12,1]/\aA 23 [z12,ba,bh,z20,z21,z22,bU,z3] λbW=>bn λz31=>bt (ak+9223372036854775809) 18446744073709551616 λb7=>ab 39 [((ak+
 ((-18446744073709551616)*b7))+1),0,9223372036854775807]/\(nF [[((ak+((-18446744073709551616)*b7))+1)],[bW],[(ad+1)],[z31],[z28],[(aC+
 1)],[cy]]/\pC [[((ak+((-18446744073709551616)*b7))+1)],[bW],[(ad+1)],[z31],[z28],[(aC+1)],[cy]]<pC
 [[ak],[z12],[ad],[ao],[az],[aC],[aR]])) (ab 31 [z12,ad]/\ab 23 [z12,1]/\aA 23 [z12,ba,bh,z20,z21,z22,bU,z24] λz28=>bn λcy=>bt (ak
 +9223372036854775809) 18446744073709551616 λbW=>ab 39 [((ak+((-18446744073709551616)*bW))+1),0,9223372036854775807]/\(nF [[((ak+
 ((-18446744073709551616)*bW))+1)],[z28],[(ad+1)],[cy],[az],[aC],[aR]]/\pC [[((ak+((-18446744073709551616)*bW))+1)],[z28],[(ad+
 1)],[cy],[az],[aC],[aR]]<pC [[ak],[z12],[ad],[ao],[az],[aC],[aR]])))) (ab 31 [z12,ad]/\ab 23 [z12,1]/\aA 23
 [z12,ba,bh,z20,z21,z22,bU,z24] λcY=>bn λz28=>bt (ak+9223372036854775809) 18446744073709551616 λcy=>ab 39 [((ak+
 ((-18446744073709551616)*cy))+1),0,9223372036854775807]/\(nF [[((ak+((-18446744073709551616)*cy))+1)],[cY],[(ad+1)],[z28],[az],[aC],[aR]]
 /\pC [[((ak+((-18446744073709551616)*cy))+1)],[cY],[(ad+1)],[z28],[az],[aC],[aR]]<pC [[ak],[z12],[ad],[ao],[az],[aC],[aR]])))) (ab 22
 [z12,0,ad]/\aA 22 [z12,0,ad] λba=>ab 22 [az,0,aC]/\aA 22 [az,0,aC] λbh=>K [[z0],r1,[z3]] [[ba],[bh],[0]])))))))
theorem asr:Us SB (aY SB [.bool] 612):=by
 intro aP hr z7 _ _ h7
 have aI:∀b:Bool,lC (dE aP)=b->aY SB [.bool] 612 [aP] [[cond b 1 0]]:=λb h=>l9 (by show cond b (1:Int) 0=aL (lC (dE aP));rw[h];rfl)
 have aZ:lC (dE aP)=(iV (U (aP.getD 0 0))&&(iV (U (aP.getD 5 0))&&(n6 (U (aP.getD 1 0)) (U (aP.getD 2 0))&&(uk (U (aP.getD 3 0))&&(kS (U (aP.getD 4 0))&&((U (aP.getD 6 0)).isEmpty||kS (U (aP.getD 6 0)))))))):=rfl
 have h7:=eb (show z7=aL (iV (U (aP.getD 0 0))) from h7)
 rw[<-h7]at aZ
 refine⟨λa z8 _ _ bD=>?_,λa=>aI false (by rw[aZ,a];rfl)⟩
 have bD:=eb (show z8=aL (iV (U (aP.getD 5 0))) from bD)
 rw[a,<-bD]at aZ
 refine⟨λa z9 _ _ bg=>?_,λa=>aI false (by rw[aZ,a];rfl)⟩
 have bg:=eb (show z9=aL (n6 (U (aP.getD 1 0)) (U (aP.getD 2 0))) from bg)
 rw[a,<-bg]at aZ
 refine⟨λa aj _ _ b9=>?_,λa=>aI false (by rw[aZ,a];rfl)⟩
 have b9:=eb (show aj=aL (uk (U (aP.getD 3 0))) from b9)
 rw[a,<-b9]at aZ
 refine⟨λa ak _ _ cH=>?_,λa=>aI false (by rw[aZ,a];rfl)⟩
 have cH:=eb (show ak=aL (kS (U (aP.getD 4 0))) from cH)
 rw[a,<-cH]at aZ
 refine⟨λa z12 _ _ dw=>?_,λa=>aI false (by rw[aZ,a];rfl)⟩
 have dw:=y4 dw
 rw[a,<-dw]at aZ
 refine⟨λa=>aI true (by rw[aZ,a];rfl),λa ad _ _ dj=>?_⟩
 have dj:=eb (show ad=aL (kS (U (aP.getD 6 0))) from dj)
 exact aI (decide (ad=1)) (by rw[aZ,a,<-dj];rfl)
theorem ass:Ut SB (dq SB [.d .bool] 613):=by
 intro z0 a0 a1 ag _ z2 _ _ z3 b0 b1 h3
 have h3:z3=((af z0).length:Int):=h3
 have hlen:=n4 z0
 have aI:∀b:Bool,il (aJ z0)=b->dq SB [.d .bool] 613 [[z0]] [[cond b 1 0]]:=λb h=>⟨by cases b<;>exact⟨by decide,by decide,trivial⟩,by show cond b (1:Int) 0=aL (il (aJ z0));rw[h];rfl⟩
 have iT:(¬((aJ z0).length<=32/\∀j,j<(aJ z0).length->lC ((aJ z0).getD j cB)=true/\(0<j->dy ((aJ z0).getD (j-1) cB).tok ((aJ z0).getD j cB).tok=true)))->dq SB [.d .bool] 613 [[z0]] [[cond false 1 0]]:=λh=>aI false (by
  cases hr:il (aJ z0)with
  |false=>rfl
  |true=>exact absurd ((vU _).1 hr) h)
 refine⟨λh=>iT (λh2=>by have:=of_decide_eq_true h;have:=h2.1;omega),λpN=>?_⟩
 have pN:=of_decide_eq_false pN
 refine⟨Vq z0,wH z0,⟨0,rfl,gX _,λj h=>absurd h (Es j)⟩,?_⟩
 rintro z5 bC c1 ⟨i,e,hi,hI⟩
 obtain rfl:z5=i:=by simpa using e
 refine⟨λhlt=>?_,λec=>aI true ((vU _).2 ⟨by omega,λj hj=>hI j (by have:=of_decide_eq_false ec;omega)⟩)⟩
 have hlt:=of_decide_eq_true hlt
 have c9:i<(af z0).length:=by omega
 refine⟨⟨by omega,by omega⟩,⟨by omega,by omega⟩,λz6 _ _ h6 z7 _ _ h7 z8 _ _ bD z9 _ _ bg aj _ _ b9 ak _ _ cH z12 _ _ dw ad _ _ dj=>?_⟩
 have hrow:=vW (k:=i) rfl h6 h7 bD bg b9 cH dw c9
 have dj:ad=aL (lC (dE [z6,z7,z8,z9,aj,ak,z12])):=dj
 rw[hrow]at dj
 have hd:=eb dj
 refine⟨λhb=>iT (λh2=>?_),λhb=>?_⟩
 ·have:=lX hd hb
  rw[(h2.2 i (by omega)).1]at this;cases this
 have bm:lC ((aJ z0).getD i cB)=true:=lW hd hb
 refine⟨λhp=>?_,λhp=>?_⟩
 ·have hp:=of_decide_eq_true hp
  have qA:(i:Int)+(-1)=((i-1:Nat):Int):=by omega
  refine⟨⟨by omega,by omega⟩,⟨by omega,by omega⟩,λao _ _ dA=>⟨⟨by omega,by omega⟩,⟨by omega,by omega⟩,λaz _ _ e0 aC _ _ gA=>?_⟩⟩
  have gA:=QK gA
  rw[x5 (k:=i-1) qA dA (by omega),x5 (k:=i) rfl e0 c9]at gA
  refine⟨λhc=>iT (λh2=>?_),λhc aR d0 d1 d2 d3=>⟨⟨by omega,by omega⟩,⟨i+1,by rw[xO c9 (by omega) d2 d3],by omega,λj hj=>?_⟩,?_⟩⟩
  ·have h4:=(h2.2 i (by omega)).2 (by omega)
   have:=lX gA hc
   rw[h4]at this;cases this
  ·rcases od j i with h|h
   ·exact hI j h
   ·obtain rfl:j=i:=by omega
    exact⟨bm,λ_=>lW gA hc⟩
  ·show(aJ z0).length-(((i:Int)+(-18446744073709551616)*aR)+1).toNat<(aJ z0).length-((i:Int)).toNat;omega
 ·have hp:=of_decide_eq_false hp
  obtain rfl:i=0:=by omega
  refine⟨⟨1,rfl,by omega,λj hj=>?_⟩,?_⟩
  ·obtain rfl:j=0:=by omega
   exact⟨bm,λh=>absurd h (Nat.lt_irrefl 0)⟩
  ·show(aJ z0).length-(1:Int).toNat<(aJ z0).length-((0:Nat):Int).toNat;omega
theorem Ku {i:Nat} (hl:(i:Int)<9223372036854775807) {z:Int} (h2:0<=((i:Int)+9223372036854775809)-18446744073709551616*z) (h3:((i:Int)+9223372036854775809)-18446744073709551616*z<18446744073709551616):((i:Int)+(-18446744073709551616)*z)+1=((i+1:Nat):Int):=by omega
def adi (z0:Int) (t:aH) (bl:List (List Int)):Prop:=∃i:Nat,bl=[[(i:Int)]]/\i<=(aJ z0).length/\∀j,j<i->((aJ z0).getD j cB).tok≠t
theorem asq:Ur SB (dq SB [IW,.d .bool] 614):=by
 intro z0 a0 a1 ag _ _ z2 _ z3 _ _ z4 b0 b1 h4
 have h4:z4=((af z0).length:Int):=h4
 have hlen:=n4 z0
 have iT:mC (aJ z0) (U ag)=none->dq SB [IW,.d .bool] 614 [[z0],[ag]] [[0,0,0,0,0,0,0],[cond false 1 0]]:=λh=>by
  refine⟨⟨bX _,fv,bX _,fv,bX _,fv,bX _,fv,bX _,fv,bX _,fv,bX _,fv,by decide,by decide,trivial⟩,?_⟩
  show(match mC (aJ z0) (U ag)with|some b=>dE [0,0,0,0,0,0,0]=b/\(0:Int)=1|none=>([0,0,0,0,0,0,0]:List Int)=[0,0,0,0,0,0,0]/\(0:Int)=0)
  rw[h];exact⟨rfl,rfl⟩
 have W:=λy=>fD (z:=z0) (y:=y) h4
 refine⟨adi z0 (U ag),wH z0,⟨0,rfl,gX _,λj h=>absurd h (Es j)⟩,?_⟩
 rintro z6 bC c1 ⟨i,e,hi,hI⟩
 obtain rfl:z6=i:=by simpa using e
 refine⟨λhlt=>⟨(W 0).1,λz7 _ _ h7 z8 _ _ bD=>?_⟩,λec=>iT ?_⟩
 rotate_left
 ·have ec:=of_decide_eq_false ec
  unfold mC
  rw[aaI λj hj=>hI j (by omega)]
  cases il (aJ z0)<;>rfl
 have hlt:=of_decide_eq_true hlt
 have c9:i<(af z0).length:=by omega
 have bD:=eb (show z8=aL (il (aJ z7)) from bD)
 rw[fX ((W z7).2 h7)]at bD
 refine⟨λhr=>?_,λhr=>iT (by unfold mC;rw[<-bD,hr];rfl)⟩
 have hr:=bD.symm.trans hr
 refine⟨⟨by omega,by omega⟩,⟨by omega,by omega⟩,λz9 _ _ bg aj _ _ b9=>?_⟩
 have hw:=jK b9
 rw[x5 (k:=i) rfl bg c9]at hw
 refine⟨λhq=>⟨⟨by omega,by omega⟩,⟨by omega,by omega⟩,λak aZ e1 cH z12 f0 f1 dw ad g0 g1 dj ao i0 i1 dA az ew dk e0 aC fA k1 gA aR cq l1 ju=>⟨⟨aZ,e1,f0,f1,g0,g1,i0,i1,ew,dk,fA,k1,cq,l1,by decide,by decide,trivial⟩,?_⟩⟩,λhq ak d0 d1 d2 d3=>⟨⟨by omega,by omega⟩,⟨i+1,by rw[Ku (by omega) d2 d3],by omega,λj hj=>?_⟩,?_⟩⟩
 ·rw[hw]at hq
  have hq:=of_decide_eq_true hq
  show(match mC (aJ z0) (U ag)with|some b=>dE [ak,z12,ad,ao,az,aC,aR]=b/\(1:Int)=1|none=>[ak,z12,ad,ao,az,aC,aR]=[0,0,0,0,0,0,0]/\(1:Int)=0)
  unfold mC
  rw[hr,cond_true,aaH (i:=i) (by omega) hq hI]
  exact⟨vW (k:=i) rfl cH dw dj dA e0 gA ju c9,rfl⟩
 ·rw[hw]at hq
  have hq:=of_decide_eq_false hq
  rcases od j i with h|h
  ·exact hI j h
  ·obtain rfl:j=i:=by omega
   exact hq
 ·show(aJ z0).length-(((i:Int)+(-18446744073709551616)*ak)+1).toNat<(aJ z0).length-((i:Int)).toNat;omega
theorem aol {α:Type} {d:α} {a b:List α} (hl:a.length=b.length) (h:∀j,j<a.length->a.getD j d=b.getD j d):a=b:=by
 refine List.ext_getElem hl λj h1 h2=>?_
 have:=h j h1
 simpa [ae,h1,h2]using this
def adY {α:Type} (d:α) (a b:List α) (bl:List (List Int)):Prop:=∃i:Nat,bl=[[(i:Int)]]/\i<=a.length/\∀j,j<i->a.getD j d=b.getD j d
theorem yT {a b z:Int} (h:z=au 4 [a,b]):(z=1)=(U a=U b):=by
 have:=jK h
 by_cases h':U a=U b
 ·rw[decide_eq_true h']at this;exact propext ⟨λ_=>h',λ_=>of_decide_eq_true this⟩
 ·rw[decide_eq_false h']at this;exact propext ⟨λh2=>(of_decide_eq_false this h2).elim,λh2=>(h' h2).elim⟩
theorem aaK {a b c d e f g di cp c' d' pI kC ji x1 x2 gF gq gG gV ka:Int} (h1:x1=au 4 [a,di]) (h2:x2=au 4 [b,cp]) (h3:gF=au 4 [c,c']) (h4:gq=au 4 [d,d']) (h5:gG=au 4 [e,pI]) (h6:gV=au 4 [f,kC]) (h7:ka=au 4 [g,ji]):
 (decide (x1=1)&&(decide ([x2,gF]=[1,1])&&decide ([gq,gG,gV,ka]=[1,1,1,1])))=decide (dE [a,b,c,d,e,f,g]=dE [di,cp,c',d',pI,kC,ji]):=by
 rw[iv]
 simp only[aS,decide_eq_true_eq,hX,and_true,yT h1,yT h2,yT h3,yT h4,yT h5,yT h6,yT h7]
 show _↔eE.mk _ (_,_) _ _ _ _=eE.mk _ (_,_) _ _ _ _
 rw[eE.mk.injEq,cA]
 simp
theorem ast:Uu SB (dq SB [.d .bool] 617):=by
 intro z0 a0 a1 ag _ _ z2 _ z3 _ _ z4 _ _ h4 z5 _ z6 _ _ z7 _ _ h7
 have h4:z4=((af z0).length:Int):=h4
 have h7:z7=((af ag).length:Int):=h7
 have hl0:=n4 z0
 have pR:=n4 ag
 have aI:∀b:Bool,decide (aJ z0=aJ ag)=b->dq SB [.d .bool] 617 [[z0],[ag]] [[cond b 1 0]]:=λb h=>⟨by cases b<;>exact⟨by decide,by decide,trivial⟩,by show cond b (1:Int) 0=aL (decide (aJ z0=aJ ag));rw[h];rfl⟩
 refine⟨λh=>aI false (decide_eq_false λe=>?_),λh=>?_⟩
 ·have:¬z4=z7:=by simpa using h
  rw[e]at hl0
  exact this (by omega)
 have h:z4=z7:=by simpa using h
 refine⟨adY cB (aJ z0) (aJ ag),wH z0,⟨0,rfl,gX _,λj h=>absurd h (Es j)⟩,?_⟩
 rintro z9 bC c1 ⟨i,e,hi,hI⟩
 obtain rfl:z9=i:=by simpa using e
 refine⟨λhlt=>?_,λec=>aI true (decide_eq_true (aol (by omega) λj hj=>hI j (by have:=of_decide_eq_false ec;omega)))⟩
 have hlt:=of_decide_eq_true hlt
 have c9:i<(af z0).length:=by omega
 refine⟨⟨by omega,by omega⟩,⟨by omega,by omega⟩,λaj _ _ b9 ak _ _ cH z12 _ _ dw ad _ _ dj ao _ _ dA az _ _ e0 aC _ _ gA=>⟨⟨by omega,by omega⟩,⟨by omega,by omega⟩,λaR _ _ ju ba _ _ lq bh _ _ lr z20 _ _ rh z21 _ _ l3 z22 _ _ pL bU _ _ jv z24 _ _ ng aO _ _ kD z26 _ _ qp cY _ _ qq z28 _ _ jL cy _ _ BZ bW _ _ B0=>?_⟩⟩
 have hd:=aaK ng kD qp qq jL BZ B0
 rw[vW (k:=i) rfl b9 cH dw dj dA e0 gA c9,vW (k:=i) rfl ju lq lr rh l3 pL jv (by omega)]at hd
 refine⟨λhb=>aI false (decide_eq_false λe=>?_),λhb z31 _ _ d2 d3=>⟨⟨by omega,by omega⟩,⟨i+1,by rw[Ku (by omega) d2 d3],by omega,λj hj=>?_⟩,?_⟩⟩
 ·rw[hd]at hb
  rw[e]at hb
  simp at hb
 ·rw[hd]at hb
  rcases od j i with h|h
  ·exact hI j h
  ·obtain rfl:j=i:=by omega
   simpa using hb
 ·show(aJ z0).length-(((i:Int)+(-18446744073709551616)*z31)+1).toNat<(aJ z0).length-((i:Int)).toNat;omega
def Vt (l:List eE) (ez:aH×aH) (dR:aH) (bl:List (List Int)):Prop:=∃(i:Nat) (c n x d k y:Int),bl=[[(i:Int)],[c],[n],[x],[d],[k],[y]]/\i<=l.length/\aJ c=(l.take i).map (sP ez dR)/\n=((af c).length:Int)/\k=((af d).length:Int)/\(af d).length<=i/\aJ d=((l.take i).filter (py ez)).map (yb dR)
theorem asu:Uv SB (dq SB [nr,nr,.d (.int .i64 0 21)] 616):=by
 intro z0 a0 a1 r1 e3 z3 _ _ z4 _ z5 _ _ z6 b0 b1 h6
 have h6:z6=((af z0).length:Int):=h6
 have hlen:=n4 z0
 have W:=λy=>fD (z:=z0) (y:=y) h6
 have aI:∀y d e:Int,0<=y->y<=bK->0<=d->d<=bK->0<=e->e<=21->(aJ y,aJ d,e)=nt (aJ z0) (lG r1) (U z3)->dq SB [nr,nr,.d (.int .i64 0 21)] 616 [[z0],r1,[z3]] [[y],[d],[e]]:=λy d e ja iq d0 d1 aZ e1 h=>Va ja iq d0 d1 aZ e1 h
 refine⟨(W 0).1,λz7 _ _ h7 z8 _ _ bD=>?_⟩
 have bD:=eb (show z8=aL (il (aJ z7)) from bD)
 rw[fX ((W z7).2 h7)]at bD
 refine⟨λa=>⟨(W 0).1,λz9 bC c1 bg=>aI z9 0 1 bC c1 (bX _) ou (by decide) (by decide) ?_⟩,λa z9 _ _ bg=>?_⟩
 ·unfold nt;rw[lX bD a,uE,fX ((W z9).2 bg),xV];rfl
 have hr:=lW bD a
 have tB:=((vU _).1 hr).1
 have bg:=eb (show z9=aL (kS (U z3)) from bg)
 refine⟨λa=>⟨(W 0).1,λaj bC c1 b9=>aI aj 0 1 bC c1 (bX _) ou (by decide) (by decide) ?_⟩,λa=>?_⟩
 ·unfold nt;rw[lX bg a,fX ((W aj).2 b9),xV];rfl
 have hu:=lW bg a
 generalize Qc:lG r1=ez at aI
 generalize qB:U z3=dR at aI hu
 generalize cF:aJ z0=L at aI hr tB hlen
 refine⟨Vt L ez dR,wI L,⟨0,0,0,-1,0,0,-1,rfl,gX _,by rw[xV];rfl,by rw[Go.bo.fa];rfl,by rw[Go.bo.fa];rfl,by rw[Go.bo.fa];exact br _,by rw[xV];rfl⟩,?_⟩
 rintro ak aZ e1 z12 f0 f1 ad g0 g1 ao i0 i1 az ew dk aC fA k1 aR cq l1 ⟨i,c,n,x,d,k,y,e,hi,hc,hn,hk,Yo,hd⟩
 obtain⟨rfl,rfl,rfl,rfl,rfl,rfl,rfl⟩:ak=i/\z12=c/\ad=n/\ao=x/\az=d/\aC=k/\aR=y:=by simpa using e
 have gP:(af z12).length=i:=by rw[<-n4,hc];simp;omega
 refine⟨λhlt=>?_,λec=>?_⟩
 ·have hlt:=of_decide_eq_true hlt
  have c9:i<L.length:=by omega
  refine⟨⟨by omega,by omega⟩,⟨by omega,by omega⟩,λba _ _ lq bh _ _ lr z20 _ _ rh z21 _ _ l3 z22 _ _ pL bU _ _ jv z24 _ _ ng aO _ _ kD z26 _ _ qp=>?_⟩
  have hrow:=vW (k:=i) rfl lq lr rh l3 pL jv ng (by omega)
  rw[cF]at hrow
  have JN:dE [ba,bh,z20,z21,z22,bU,z3]=yb dR (L.getD i cB):=by rw[<-hrow,<-qB];rfl
  have hw:=aaA kD qp
  have Qb:decide (U bh=U (r1.getD 0 0)/\U z20=U (r1.getD 1 0))=decide ((L.getD i cB).ez=ez):=by
   rw[<-hrow,<-Qc]
   show _=decide ((U bh,U z20)=lG r1)
   unfold lG
   simp only[cA]
  rw[Qb]at hw
  have Yz:∀{z a b c d e f di cp c' d' pI kC:Int},0<=((i:Int)+9223372036854775809)-18446744073709551616*z->((i:Int)+9223372036854775809)-18446744073709551616*z<18446744073709551616->wI L [[((i:Int)+(-18446744073709551616)*z)+1],[a],[b],[c],[d],[e],[f]]<wI L [[(i:Int)],[di],[cp],[c'],[d'],[pI],[kC]]:=λ{z a b c d e f di cp c' d' pI kC} k2 k3=>by
   rw[xO c9 (by omega) k2 k3]
   show L.length-(((i+1:Nat):Int)).toNat<L.length-((i:Int)).toNat;omega
  have Hk:py ez (L.getD i cB)=false->∀{y z x:Int},y=au 23 [z12,ba,bh,z20,z21,z22,bU,z24]->0<=((i:Int)+9223372036854775809)-18446744073709551616*z->((i:Int)+9223372036854775809)-18446744073709551616*z<18446744073709551616->ab 39 [((i:Int)+(-18446744073709551616)*z)+1,0,9223372036854775807]/\Vt L ez dR [[((i:Int)+(-18446744073709551616)*z)+1],[y],[ad+1],[x],[az],[aC],[aR]]/\wI L [[((i:Int)+(-18446744073709551616)*z)+1],[y],[ad+1],[x],[az],[aC],[aR]]<wI L [[(i:Int)],[z12],[ad],[ao],[az],[aC],[aR]]:=λsz {y z x} hy k2 k3=>by
   obtain⟨bq,bE⟩:=KK hy
   refine⟨?_,?_,Yz k2 k3⟩
   ·rw[xO c9 (by omega) k2 k3];exact⟨by omega,by omega⟩
   ·rw[xO c9 (by omega) k2 k3]
    refine⟨i+1,y,ad+1,x,az,aC,aR,rfl,by omega,?_,by rw[bq,hn];simp,hk,by omega,?_⟩
    ·rw[bE,hrow,hc,yg c9,ft,cI,eo]
     unfold sP;rw[sz];rfl
    ·rw[hd,yg c9,Tz,ac5 (by rw[sz];decide),aAE,h9]
  refine⟨λhq cY _ _ qq=>?_,λhq=>⟨by show ad=_;exact hn,by show((af z12).length:Int)+1<=1073741824;omega,λcY _ _ qq z28 _ _ cy _ _ k2 k3=>Hk (by unfold py;rw[hw.symm.trans hq];rfl) qq k2 k3⟩⟩
  have rq:=hw.symm.trans hq
  have hb:=y4 qq
  have Cr:py ez (L.getD i cB)=decide (cY=1):=by unfold py;rw[rq,hb,<-hrow];rfl
  refine⟨λhy=>⟨by show aC=_;exact hk,by show((af az).length:Int)+1<=1073741824;omega,λz28 _ _ jL cy _ _=>⟨by show ad=_;exact hn,by show((af z12).length:Int)+1<=1073741824;omega,λbW _ _ B0 z31 _ _ b7 _ _ k2 k3=>?_⟩⟩,λhy=>⟨by show ad=_;exact hn,by show((af z12).length:Int)+1<=1073741824;omega,λz28 _ _ jL cy _ _ bW _ _ k2 k3=>Hk (Cr.trans hy) jL k2 k3⟩⟩
  have zJ:=Cr.trans hy
  obtain⟨bq,bE⟩:=KK jL
  obtain⟨b5,dm⟩:=KK B0
  refine⟨?_,?_,Yz k2 k3⟩
  ·rw[xO c9 (by omega) k2 k3];exact⟨by omega,by omega⟩
  ·rw[xO c9 (by omega) k2 k3]
   refine⟨i+1,bW,ad+1,z31,z28,aC+1,cy,rfl,by omega,?_,by rw[b5,hn];simp,by rw[bq,hk];simp,by rw[bq];simp;omega,?_⟩
   ·rw[dm,JN,hc,yg c9,ft,cI,eo]
    unfold sP;rw[zJ];rfl
   ·rw[bE,JN,hd,yg c9,Tz,ac4 zJ,ft];rfl
 ·have ec:=of_decide_eq_false ec
  have Pc:i=L.length:=by omega
  subst Pc
  refine⟨(fD (y:=0) hn).1,λba m0 fW lq=>⟨(fD (y:=0) hk).1,λbh p0 p1 lr=>aI ba bh 0 m0 fW p0 p1 (by decide) (by decide) ?_⟩⟩
  rw[abA hu hr,fX ((fD (y:=ba) hn).2 lq),fX ((fD (y:=bh) hk).2 lr),hc,hd]
  simp
end Go.cu
namespace Go.cu
open Go Go.bo
def Uw (S:Nat->List (List Int)->List (List Int)->Prop) (K:List (List Int)->List (List Int)->Prop):Prop:=
 cS λz0=>∀r1:List Int,aV (da 0 bM 7) r1->cM λz8=>bn λz9=>aK 20 [z0] λaj=>ab 22 [z0,0,aj]/\aA 22 [z0,0,aj] λak=>bz λ
 z12=>S 613 [[ak]] [[z12]]->(aq ((!(decide (z12=1)))) (ab 22 [z0,0,aj]/\aA 22 [z0,0,aj] λad=>K [[z0],r1] [[ad],[1]]) (bz λad=>S 612
 [r1] [[ad]]->(aq ((!(decide (ad=1)))) (ab 22 [z0,0,aj]/\aA 22 [z0,0,aj] λao=>K [[z0],r1] [[ao],[1]]) (cn 4 [(ae r1 6 0),0] λao=>
 (aq ((!(decide (ao=1)))) (ab 22 [z0,0,aj]/\aA 22 [z0,0,aj] λaz=>K [[z0],r1] [[az],[1]]) (ab 22 [z0,0,aj]/\aA 22 [z0,0,aj] λaz=>∀
 oL:List Int,aV (da 0 bM 7) oL->bz λbU=>S 614 [[az],[(ae r1 0 0)]] [oL,[bU]]->(aq (decide (bU=1)) (ab 22 [z0,0,aj]/\aA 22
 [z0,0,aj] λz24=>K [[z0],r1] [[z24],[6]]) ((aq (decide (aj=32)) (ab 22 [z0,0,aj]/\aA 22 [z0,0,aj] λz24=>K [[z0],r1] [[z24],[10]]) (∃(rY:
 List (List Int)->Prop) (yx:List (List Int)->Nat),rY [[0]]/\(dH λaO=>rY [[aO]]->(aq (decide (aO<aj)) (ab 30 [aO,aj]/\ab 21
 [z0,aO]/\bj 21 [z0,aO,0] λz26=>cn 5 [z26,(ae r1 0 0)] λcY=>(aq (decide (cY=1)) (bt (aO+9223372036854775809) 18446744073709551616
 λz28=>ab 39 [((aO+((-18446744073709551616)*z28))+1),0,9223372036854775807]/\(rY [[((aO+((-18446744073709551616)*z28))+1)]]/\yx [[((aO
 +((-18446744073709551616)*z28))+1)]]<yx [[aO]])) (ab 32 [0,aO,aj]/\ab 32 [aO,aj,aj]/\(ab 68 [aj,z9]->aaS 33 [0,aO,z9] λz28=>
 ((((ab 22 [z0,0,aO]/\ab 23 [0,aO]/\aA 22 [z0,0,aO] λcy=>aA 24 [0,cy] λbW=>(aq (decide (aO<=0)) (ab 23 [0,1]/\aA 23 [0,(ae
 r1 0 0),(ae r1 1 0),(ae r1 2 0),(ae r1 3 0),(ae r1 4 0),(ae r1 5 0),(ae r1 6 0)] λz31=>bn λb7=>ab 31
 [z31,1]/\ab 22 [z0,z28,(aj+(((-1)*aO)+z28))]/\ab 23 [z31,(aj+((-1)*aO))]/\aA 22 [z0,z28,(aj+(((-1)*aO)+z28))] λcZ=>aA 24
 [z31,cZ] λcz=>bn λcr=>ab 22 [cz,0,((aj+((-1)*aO))+1)]/\aA 22 [cz,0,((aj+((-1)*aO))+1)] λcv=>K [[z0],r1] [[cv],[0]])
 (bn λz31=>ab 31 [bW,aO]/\ab 23 [bW,1]/\aA 23 [bW,(ae r1 0 0),(ae r1 1 0),(ae r1 2 0),(ae r1 3 0),(ae r1 4
 0),(ae r1 5 0),(ae r1 6 0)] λb7=>bn λcZ=>ab 31 [b7,(aO+1)]/\ab 22 [z0,z28,(aj+(((-1)*aO)+z28))]/\ab 23 [b7,(aj
 +((-1)*aO))]/\aA 22 [z0,z28,(aj+(((-1)*aO)+z28))] λcz=>aA 24 [b7,cz] λcr=>bn λcv=>ab 22 [cr,0,(aj+1)]/\aA 22
 [cr,0,(aj+1)] λz37=>K [[z0],r1] [[z37],[0]])))/\(ab 22 [z0,0,aO]/\ab 23 [0,aO]/\aA 22 [z0,0,aO] λcy=>aA 24 [0,cy] λbW=>(aq
 (decide (aO<=0)) (ab 23 [0,1]/\aA 23 [0,(ae r1 0 0),(ae r1 1 0),(ae r1 2 0),(ae r1 3 0),(ae r1 4 0),(ae r1 5
 0),(ae r1 6 0)] λz31=>bn λb7=>ab 31 [z31,1]/\ab 22 [z0,z28,(aj+(((-1)*aO)+z28))]/\ab 23 [z31,(aj+((-1)*aO))]/\aA 22
 [z0,z28,(aj+(((-1)*aO)+z28))] λcZ=>aA 24 [z31,cZ] λcz=>bn λcr=>ab 22 [cz,0,((aj+((-1)*aO))+1)]/\aA 22 [cz,0,((aj+
 ((-1)*aO))+1)] λcv=>K [[z0],r1] [[cv],[0]]) (bn λz31=>ab 31 [bW,aO]/\ab 23 [bW,1]/\aA 23 [bW,(ae r1 0 0),(ae r1 1
 0),(ae r1 2 0),(ae r1 3 0),(ae r1 4 0),(ae r1 5 0),(ae r1 6 0)] λb7=>bn λcZ=>ab 31 [b7,(aO+1)]/\ab 22
 [z0,z28,(aj+(((-1)*aO)+z28))]/\ab 23 [b7,(aj+((-1)*aO))]/\aA 22 [z0,z28,(aj+(((-1)*aO)+z28))] λcz=>aA 24 [b7,cz] λcr
 =>bn λcv=>ab 22 [cr,0,(aj+1)]/\aA 22 [cr,0,(aj+1)] λz37=>K [[z0],r1] [[z37],[0]])))))/\(ab 22 [z0,0,aO]/\ab 23 [0,aO]/\aA
 22 [z0,0,aO] λcy=>aA 24 [0,cy] λbW=>(aq (decide (aO<=0)) (ab 23 [0,1]/\aA 23 [0,(ae r1 0 0),(ae r1 1 0),(ae r1 2
 0),(ae r1 3 0),(ae r1 4 0),(ae r1 5 0),(ae r1 6 0)] λz31=>bn λb7=>ab 31 [z31,1]/\ab 22 [z0,z28,(aj+(((-1)*aO)
 +z28))]/\ab 23 [z31,(aj+((-1)*aO))]/\aA 22 [z0,z28,(aj+(((-1)*aO)+z28))] λcZ=>aA 24 [z31,cZ] λcz=>bn λcr=>ab 22
 [cz,0,((aj+((-1)*aO))+1)]/\aA 22 [cz,0,((aj+((-1)*aO))+1)] λcv=>K [[z0],r1] [[cv],[0]]) (bn λz31=>ab 31 [bW,aO]/\ab 23
 [bW,1]/\aA 23 [bW,(ae r1 0 0),(ae r1 1 0),(ae r1 2 0),(ae r1 3 0),(ae r1 4 0),(ae r1 5 0),(ae r1 6 0)] λ
 b7=>bn λcZ=>ab 31 [b7,(aO+1)]/\ab 22 [z0,z28,(aj+(((-1)*aO)+z28))]/\ab 23 [b7,(aj+((-1)*aO))]/\aA 22 [z0,z28,(aj+
 (((-1)*aO)+z28))] λcz=>aA 24 [b7,cz] λcr=>bn λcv=>ab 22 [cr,0,(aj+1)]/\aA 22 [cr,0,(aj+1)] λz37=>K [[z0],r1]
 [[z37],[0]])))))))) (ab 32 [0,aO,aj]/\ab 32 [aO,aj,aj]/\(ab 68 [aj,z9]->aaS 33 [0,aO,z9] λz26=>((((ab 22 [z0,0,aO]/\ab 23 [0,aO]
 /\aA 22 [z0,0,aO] λcY=>aA 24 [0,cY] λz28=>(aq (decide (aO<=0)) (ab 23 [0,1]/\aA 23 [0,(ae r1 0 0),(ae r1 1 0),(ae r1
 2 0),(ae r1 3 0),(ae r1 4 0),(ae r1 5 0),(ae r1 6 0)] λcy=>bn λbW=>ab 31 [cy,1]/\ab 22 [z0,z26,(aj+(((-1)*
 aO)+z26))]/\ab 23 [cy,(aj+((-1)*aO))]/\aA 22 [z0,z26,(aj+(((-1)*aO)+z26))] λz31=>aA 24 [cy,z31] λb7=>bn λcZ=>ab 22
 [b7,0,((aj+((-1)*aO))+1)]/\aA 22 [b7,0,((aj+((-1)*aO))+1)] λcz=>K [[z0],r1] [[cz],[0]]) (bn λcy=>ab 31 [z28,aO]/\ab 23
 [z28,1]/\aA 23 [z28,(ae r1 0 0),(ae r1 1 0),(ae r1 2 0),(ae r1 3 0),(ae r1 4 0),(ae r1 5 0),(ae r1 6 0)] λ
 bW=>bn λz31=>ab 31 [bW,(aO+1)]/\ab 22 [z0,z26,(aj+(((-1)*aO)+z26))]/\ab 23 [bW,(aj+((-1)*aO))]/\aA 22 [z0,z26,(aj+
 (((-1)*aO)+z26))] λb7=>aA 24 [bW,b7] λcZ=>bn λcz=>ab 22 [cZ,0,(aj+1)]/\aA 22 [cZ,0,(aj+1)] λcr=>K [[z0],r1]
 [[cr],[0]])))/\(ab 22 [z0,0,aO]/\ab 23 [0,aO]/\aA 22 [z0,0,aO] λcY=>aA 24 [0,cY] λz28=>(aq (decide (aO<=0)) (ab 23 [0,1]/\aA
 23 [0,(ae r1 0 0),(ae r1 1 0),(ae r1 2 0),(ae r1 3 0),(ae r1 4 0),(ae r1 5 0),(ae r1 6 0)] λcy=>bn λbW
 =>ab 31 [cy,1]/\ab 22 [z0,z26,(aj+(((-1)*aO)+z26))]/\ab 23 [cy,(aj+((-1)*aO))]/\aA 22 [z0,z26,(aj+(((-1)*aO)+z26))] λz31
 =>aA 24 [cy,z31] λb7=>bn λcZ=>ab 22 [b7,0,((aj+((-1)*aO))+1)]/\aA 22 [b7,0,((aj+((-1)*aO))+1)] λcz=>K [[z0],r1]
 [[cz],[0]]) (bn λcy=>ab 31 [z28,aO]/\ab 23 [z28,1]/\aA 23 [z28,(ae r1 0 0),(ae r1 1 0),(ae r1 2 0),(ae r1 3
 0),(ae r1 4 0),(ae r1 5 0),(ae r1 6 0)] λbW=>bn λz31=>ab 31 [bW,(aO+1)]/\ab 22 [z0,z26,(aj+(((-1)*aO)+z26))]/\
 ab 23 [bW,(aj+((-1)*aO))]/\aA 22 [z0,z26,(aj+(((-1)*aO)+z26))] λb7=>aA 24 [bW,b7] λcZ=>bn λcz=>ab 22 [cZ,0,(aj+1)]
 /\aA 22 [cZ,0,(aj+1)] λcr=>K [[z0],r1] [[cr],[0]])))))/\(ab 22 [z0,0,aO]/\ab 23 [0,aO]/\aA 22 [z0,0,aO] λcY=>aA 24 [0,cY] λ
 z28=>(aq (decide (aO<=0)) (ab 23 [0,1]/\aA 23 [0,(ae r1 0 0),(ae r1 1 0),(ae r1 2 0),(ae r1 3 0),(ae r1 4
 0),(ae r1 5 0),(ae r1 6 0)] λcy=>bn λbW=>ab 31 [cy,1]/\ab 22 [z0,z26,(aj+(((-1)*aO)+z26))]/\ab 23 [cy,(aj+((-1)
 *aO))]/\aA 22 [z0,z26,(aj+(((-1)*aO)+z26))] λz31=>aA 24 [cy,z31] λb7=>bn λcZ=>ab 22 [b7,0,((aj+((-1)*aO))+1)]/\aA
 22 [b7,0,((aj+((-1)*aO))+1)] λcz=>K [[z0],r1] [[cz],[0]]) (bn λcy=>ab 31 [z28,aO]/\ab 23 [z28,1]/\aA 23 [z28,(ae r1 0
 0),(ae r1 1 0),(ae r1 2 0),(ae r1 3 0),(ae r1 4 0),(ae r1 5 0),(ae r1 6 0)] λbW=>bn λz31=>ab 31 [bW,(aO
 +1)]/\ab 22 [z0,z26,(aj+(((-1)*aO)+z26))]/\ab 23 [bW,(aj+((-1)*aO))]/\aA 22 [z0,z26,(aj+(((-1)*aO)+z26))] λb7=>aA 24
 [bW,b7] λcZ=>bn λcz=>ab 22 [cZ,0,(aj+1)]/\aA 22 [cZ,0,(aj+1)] λcr=>K [[z0],r1] [[cr],[0]]))))))))))))))))))
def adM (l:List eE) (t:aH) (bl:List (List Int)):Prop:=∃m:Nat,bl=[[(m:Int)]]/\m<=l.length/\∀j,j<m->dy (l.getD j cB).tok t=true
theorem asv:Uw SB (dq SB [nr,.d (.int .i64 0 21)] 615):=by
 intro z0 a0 a1 r1 e3 z8 _ z9 _ _ aj b0 b1 b9
 have b9:aj=((af z0).length:Int):=b9
 have hlen:=n4 z0
 have W:=λy=>fD (z:=z0) (y:=y) b9
 have aI:∀y e:Int,0<=y->y<=bK->0<=e->e<=21->(aJ y,e)=mn (aJ z0) (dE r1)->dq SB [nr,.d (.int .i64 0 21)] 615 [[z0],r1] [[y],[e]]:=λy e ja iq aZ e1 h=>Vb ja iq aZ e1 h
 refine⟨(W 0).1,λak _ _ cH z12 _ _ dw=>?_⟩
 have dw:=eb (show z12=aL (il (aJ ak)) from dw)
 rw[fX ((W ak).2 cH)]at dw
 refine⟨λa=>⟨(W 0).1,λad bC c1 dj=>aI ad 1 bC c1 (by decide) (by decide) ?_⟩,λa ad _ _ dj=>?_⟩
 ·unfold mn;rw[lX dw a,uE,uE,fX ((W ad).2 dj)];rfl
 have hr:=lW dw a
 have tB:=((vU _).1 hr).1
 have dj:=eb (show ad=aL (lC (dE r1)) from dj)
 refine⟨λa=>⟨(W 0).1,λao bC c1 dA=>aI ao 1 bC c1 (by decide) (by decide) ?_⟩,λa ao _ _ dA=>?_⟩
 ·unfold mn;rw[lX dj a,fX ((W ao).2 dA)];rfl
 have bm:=lW dj a
 have dA:decide (ao=1)=(dE r1).mx.isEmpty:=y4 dA
 refine⟨λa=>⟨(W 0).1,λaz bC c1 e0=>aI az 1 bC c1 (by decide) (by decide) ?_⟩,λa=>⟨(W 0).1,λaz _ _ e0 oL _ bU _ _ jv=>?_⟩⟩
 ·unfold mn;rw[lX dA a,LM,uE,fX ((W az).2 e0)];rfl
 have xe:=lW dA a
 have jv:match mC (aJ az) (dE r1).tok with
  |some b=>dE oL=b/\bU=1
  |none=>oL=[0,0,0,0,0,0,0]/\bU=0:=jv
 rw[fX ((W az).2 e0)]at jv
 unfold mC at jv
 rw[hr,cond_true]at jv
 have hf:decide (bU=1)=((aJ z0).find? λp=>decide (p.tok=(dE r1).tok)).isSome:=by
  cases h:(aJ z0).find? λp=>decide (p.tok=(dE r1).tok)with
  |some b=>rw[h]at jv;rw[jv.2];rfl
  |none=>rw[h]at jv;rw[jv.2];rfl
 have aZ:mn (aJ z0) (dE r1)=cond (decide (bU=1)) (aJ z0,6) (cond (decide ((aJ z0).length=32)) (aJ z0,10) ((aJ z0).filter (λp=>dy p.tok (dE r1).tok)++dE r1::(aJ z0).filter (λp=>dy (dE r1).tok p.tok),0)):=by
  unfold mn;rw[bm,xe,hr,Is,<-hf];rfl
 refine⟨λa=>⟨(W 0).1,λz24 bC c1 ng=>aI z24 6 bC c1 (by decide) (by decide) ?_⟩,λa=>⟨λh=>⟨(W 0).1,λz24 bC c1 ng=>aI z24 10 bC c1 (by decide) (by decide) ?_⟩,λh=>?_⟩⟩
 ·try dsimp only
  rw[aZ,a,fX ((W z24).2 ng)];rfl
 ·have h:=of_decide_eq_true h
  try dsimp only
  rw[aZ,a,decide_eq_true (show(aJ z0).length=32 by omega),fX ((W z24).2 ng)];rfl
 have h:=of_decide_eq_false h
 have hno:(aJ z0).find? (λp=>decide (p.tok=(dE r1).tok))=none:=by
  cases h:(aJ z0).find? λp=>decide (p.tok=(dE r1).tok)with
  |none=>rfl
  |some b=>rw[h,a]at hf;cases hf
 have Vh:∀m:Nat,m<=(aJ z0).length->(∀j,j<m->dy ((aJ z0).getD j cB).tok (dE r1).tok=true)->(∀j,m<=j->j<(aJ z0).length->dy ((aJ z0).getD j cB).tok (dE r1).tok=false)->∀z28:Int,ab 68 [aj,z9]->z28=au 33 [0,(m:Int),z9]->
  ab 22 [z0,0,(m:Int)]/\
  ab 23 [0,(m:Int)]/\
  ∀cy:Int,0<=cy->cy<=bK->cy=au 22 [z0,0,(m:Int)]->
  ∀bW:Int,0<=bW->bW<=bK->bW=au 24 [0,cy]->
  (((decide ((m:Int)<=0))=true->
  ab 23 [0,1]/\
  ∀z31:Int,0<=z31->z31<=bK->z31=au 23 [0,(ae r1 0 0),(ae r1 1 0),(ae r1 2 0),(ae r1 3 0),(ae r1 4 0),(ae r1 5 0),(ae r1 6 0)]->
  ∀b7:Int,(-1)<=b7->b7<=9223372036854775807->
  ab 31 [z31,1]/\
  ab 22 [z0,z28,(aj+(((-1)*(m:Int))+z28))]/\
  ab 23 [z31,(aj+((-1)*(m:Int)))]/\
  ∀cZ:Int,0<=cZ->cZ<=bK->cZ=au 22 [z0,z28,(aj+(((-1)*(m:Int))+z28))]->
  ∀cz:Int,0<=cz->cz<=bK->cz=au 24 [z31,cZ]->
  ∀cr:Int,(-1)<=cr->cr<=9223372036854775807->
  ab 22 [cz,0,((aj+((-1)*(m:Int)))+1)]/\
  ∀cv:Int,0<=cv->cv<=bK->cv=au 22 [cz,0,((aj+((-1)*(m:Int)))+1)]->
  dq SB [nr,.d (.int .i64 0 21)] 615 [[z0],r1] [[cv],[0]]
  )/\((decide ((m:Int)<=0))=false->
  ∀z31:Int,(-1)<=z31->z31<=9223372036854775807->
  ab 31 [bW,(m:Int)]/\
  ab 23 [bW,1]/\
  ∀b7:Int,0<=b7->b7<=bK->b7=au 23 [bW,(ae r1 0 0),(ae r1 1 0),(ae r1 2 0),(ae r1 3 0),(ae r1 4 0),(ae r1 5 0),(ae r1 6 0)]->
  ∀cZ:Int,(-1)<=cZ->cZ<=9223372036854775807->
  ab 31 [b7,((m:Int)+1)]/\
  ab 22 [z0,z28,(aj+(((-1)*(m:Int))+z28))]/\
  ab 23 [b7,(aj+((-1)*(m:Int)))]/\
  ∀cz:Int,0<=cz->cz<=bK->cz=au 22 [z0,z28,(aj+(((-1)*(m:Int))+z28))]->
  ∀cr:Int,0<=cr->cr<=bK->cr=au 24 [b7,cz]->
  ∀cv:Int,(-1)<=cv->cv<=9223372036854775807->
  ab 22 [cr,0,(aj+1)]/\
  ∀z37:Int,0<=z37->z37<=bK->z37=au 22 [cr,0,(aj+1)]->
  dq SB [nr,.d (.int .i64 0 21)] 615 [[z0],r1] [[z37],[0]]
  )):=by
  intro m hm hlt ec z28 B3 jL
  have cL:yN (aJ z0) (dE r1).tok (m:Int) 0:=⟨⟨by omega,by omega⟩,λh=>by omega,λ_=>⟨λj hj=>hlt j (by omega),λj h1 h2=>ec j (by omega) h2,⟨λh=>by omega,λh=>by
   have:=List.find?_eq_none.1 hno ((aJ z0).getD m cB) (by simp[ae,show m<(aJ z0).length by omega])
   exact absurd (decide_eq_true h.2) (by simpa using this)⟩⟩⟩
  have e1:=abO hr bm xe cL (by decide) (by omega)
  rw[gu]at e1
  have B3:aj<=z9∨aj=0:=B3
  have jL:z28=if(m:Int)=z9 then 0 else 0+(m:Int):=jL
  have X8:∀z:Int,z=au 22 [z0,z28,(aj+(((-1)*(m:Int))+z28))]->af z=(af z0).drop m:=λz h=>by
   try dsimp only
   rw[h];simp only[au,ee]
   by_cases hc:(m:Int)=z9
   ·rw[if_pos hc]at jL
    have:m=(af z0).length:=by omega
    try dsimp only
    rw[HA (i:=m) (by omega)]
    refine List.take_eq_nil_iff.2 (.inl ?_)
    omega
   ·rw[if_neg hc]at jL
    try dsimp only
    rw[show z28.toNat=m by omega,jd (by rw[q2];omega)]
  have X6:ab 22 [z0,z28,(aj+(((-1)*(m:Int))+z28))]:=by
   by_cases hc:(m:Int)=z9
   ·rw[if_pos hc]at jL;exact⟨by omega,by omega,by omega⟩
   ·rw[if_neg hc]at jL;exact⟨by omega,by omega,by omega⟩
  have fin:∀z y:Int,af y=(af z0).take m++[[r1.getD 0 0,r1.getD 1 0,r1.getD 2 0,r1.getD 3 0,r1.getD 4 0,r1.getD 5 0,r1.getD 6 0]]++(af z0).drop m->0<=z->z<=bK->af z=af y->dq SB [nr,.d (.int .i64 0 21)] 615 [[z0],r1] [[z],[0]]:=λz y hy azt azu hz=>aI z 0 azt azu (by decide) (by decide) (by
   try dsimp only
   rw[e1]
   unfold aJ;rw[hz,hy];simp[yr,ys];rfl)
  have hrow:∀c z:Int,z=au 23 [c,(ae r1 0 0),(ae r1 1 0),(ae r1 2 0),(ae r1 3 0),(ae r1 4 0),(ae r1 5 0),(ae r1 6 0)]->af z=af c++[[r1.getD 0 0,r1.getD 1 0,r1.getD 2 0,r1.getD 3 0,r1.getD 4 0,r1.getD 5 0,r1.getD 6 0]]:=λc z h=>by
   try dsimp only
   rw[h];simp only[au,ee]
  generalize alN:[r1.getD 0 0,r1.getD 1 0,r1.getD 2 0,r1.getD 3 0,r1.getD 4 0,r1.getD 5 0,r1.getD 6 0]=abp at fin hrow
  have pS:((af z0).take m).length=m:=by rw[List.length_take];omega
  have O0:((af z0).drop m).length=(af z0).length-m:=by rw[q2]
  refine⟨⟨by omega,by omega,by omega⟩,by show(af 0).length+(m:Int)<=1073741824;rw[Go.bo.fa];simp;omega,λz28 _ _ jL cy _ _ BZ=>?_⟩
  have alH:af z28=(af z0).take m:=by
   try dsimp only
   rw[jL];simp only[au,ee]
   try dsimp only
   rw[show(0:Int).toNat=0 from rfl,A5,show((m:Int)).toNat-0=m by omega]
  have PR:af cy=(af z0).take m:=by rw[BZ];simp only[au,ee,Go.bo.fa,jr,alH]
  refine⟨λPw=>⟨by show(af 0).length+(1:Int)<=1073741824;rw[Go.bo.fa];decide,λz31 _ _ Jh b7 _ _=>?_⟩,λPw bW _ _=>⟨by show(m:Int)=_;rw[PR,pS],by show((af cy).length:Int)+1<=1073741824;rw[PR,pS];omega,λb7 _ _ tB cZ _ _=>?_⟩⟩
  ·have Pw:=of_decide_eq_true Pw
   have ale:m=0:=by omega
   have JO:=hrow 0 z31 Jh
   rw[Go.bo.fa,jr]at JO
   refine⟨by show(1:Int)=_;rw[JO];rfl,X6,by show((af z31).length:Int)+_<=1073741824;rw[JO];simp;omega,λcZ _ _ B1 cz _ _ w5 cr _ _=>?_⟩
   have YL:af cz=(af z0).take m++[abp]++(af z0).drop m:=by
    try dsimp only
    rw[w5];simp only[au,ee,JO,X8 cZ B1,ale,uM,jr]
   have hn:(aj+(-1)*(m:Int))+1=((af cz).length:Int):=by rw[YL];simp only[dN,pS,O0,yn];omega
   exact⟨(fD (z:=cz) (y:=0) hn).1,λcv p0 p1 w7=>fin cv cz YL p0 p1 ((fD (z:=cz) hn).2 w7)⟩
  ·have PS:=hrow cy b7 tB
   rw[PR]at PS
   have aCq:((af b7).length:Int)=(m:Int)+1:=by rw[PS];simp only[dN,pS,yn];omega
   refine⟨by show(m:Int)+1=_;omega,X6,by show((af b7).length:Int)+_<=1073741824;omega,λcz _ _ w5 cr _ _ w6 cv _ _=>?_⟩
   have YM:af cr=(af z0).take m++[abp]++(af z0).drop m:=by
    try dsimp only
    rw[w6];simp only[au,ee,PS,X8 cz w5]
   have hn:aj+1=((af cr).length:Int):=by rw[YM];simp only[dN,pS,O0,yn];omega
   exact⟨(fD (z:=cr) (y:=0) hn).1,λz37 p0 p1 Ji=>fin z37 cr YM p0 p1 ((fD (z:=cr) hn).2 Ji)⟩
 refine⟨adM (aJ z0) (dE r1).tok,wH z0,⟨0,rfl,gX _,λj h=>absurd h (Es j)⟩,?_⟩
 rintro aO bC c1 ⟨m,e,hm,hlt⟩
 obtain rfl:aO=m:=by simpa using e
 refine⟨λhl=>?_,λhl=>?_⟩
 ·have hl:=of_decide_eq_true hl
  have pS:m<(af z0).length:=by omega
  refine⟨⟨by omega,by omega⟩,⟨by omega,by omega⟩,λz26 _ _ qp cY _ _ qq=>?_⟩
  have qq:decide (cY=1)=dy ((aJ z0).getD m cB).tok (dE r1).tok:=by rw[QK qq,x5 (k:=m) rfl qp pS];rfl
  refine⟨λhb z28 _ _ d2 d3=>?_,λhb=>⟨⟨by omega,by omega,by omega⟩,⟨by omega,by omega,by omega⟩,λB3 z28 _ _ jL=>?_⟩⟩
  ·try dsimp only
   rw[Ku (by omega) d2 d3]
   refine⟨⟨by omega,by omega⟩,⟨m+1,rfl,by omega,λj hj=>?_⟩,by show(aJ z0).length-(((m+1:Nat):Int)).toNat<(aJ z0).length-((m:Int)).toNat;omega⟩
   rcases od j m with h|h
   ·exact hlt j h
   ·obtain rfl:j=m:=by omega
    exact qq.symm.trans hb
  ·have pP:=qq.symm.trans hb
   have Mr:=Vh m hm hlt (λj h1 h2=>by
    rcases od m j with h|h
    ·cases hj:dy ((aJ z0).getD j cB).tok (dE r1).tok with
     |false=>rfl
     |true=>rw[GI _ _ _ (KX (KW hr) h h2) hj]at pP;cases pP
    ·try dsimp only
     rw[show j=m by omega];exact pP) z28 B3 jL
   repeat' (first|exact Mr|refine⟨?_,?_⟩)
 ·have hl:=of_decide_eq_false hl
  refine⟨⟨by omega,by omega,by omega⟩,⟨by omega,by omega,by omega⟩,λB3 z28 _ _ jL=>?_⟩
  have Mr:=Vh m hm hlt (λj h1 h2=>by omega) z28 B3 jL
  repeat' (first|exact Mr|refine⟨?_,?_⟩)
end Go.cu
