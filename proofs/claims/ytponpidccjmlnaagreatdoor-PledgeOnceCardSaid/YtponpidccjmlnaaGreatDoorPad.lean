/- Pad: a part of the proof of statements of this seat. -/
import Derived.Test.YtponpidccjmlnaaGreatDoorPac
open Bool renaming and_eq_true->aK,not_eq_true'->js,or_eq_true->qL,eq_iff_iff->rY,true_and->Cv,not_eq_false'->Cy,and_false->Gl,and_eq_false_iff->auY
open Function renaming comp->F0
open Go.IntKind renaming max->eX
open Go.Op renaming bytesLess->dj
open Int renaming le_refl->cn,toNat_natCast->k9,mul_comm->tj,toNat_zero->u3,natCast_nonneg->w5,ediv_eq_iff_of_pos->Kt
open List renaming getD->af,map_cons->cr,range->cA,replicate->cV,length_cons->dv,length_append->dQ,map_nil->dY,map_append->ff,length_nil->gF,map_congr_left->gG,append_nil->gT,append_assoc->ie,nil_append->jr,getElem?_eq_getElem->jt,map_map->j5,length_map->j6,mem_cons->lR,take_of_length_le->mq,length_take->mw,zipWith->oD,getD_cons_zero->qK,length_drop->rV,flatten_cons->rW,all_eq_true->tf,getD_eq_getElem?_getD->tg,take_zero->tn,replicate_succ->tq,cons_append->u6,eq_nil_of_length_eq_zero->vd,dropWhile_cons->zt,length_replicate->zC,not_mem_nil->Cw,map_id->Cx,drop_succ_cons->CO,length_singleton->FY,drop_zero->Gk,take_add_one->Kl,all_cons->Kn,flatten_nil->KL,length_reverse->RB,length_range->R1,map_set->Z6,replicate_append_replicate->aaA,replicate_succ'->aaF,drop_one->auT,tail_cons->auU,filter_cons_of_pos->avT,filter_cons_of_neg->avV,filter_append->avW,drop_replicate->avZ,range_succ->av1
open List.cons renaming injEq->hS
open Nat renaming le_refl->a6,ble->bw,blt->b7,le_of_ble_eq_true->eb,zero_le->mr,zero_add->oE,lt_or_ge->qJ,ble_eq->u2,blt_eq->w3,pow_succ->w6,mul_comm->w7,div_div_eq_div_mul->F6,mul_div_cancel_left->RC,not_lt_zero->R3,ble_eq_true_of_le->aar,div_eq_of_lt->av0
open Option renaming getD_some->qN
open Option.some renaming injEq->aG
open Prod.mk renaming injEq->cj
open UInt8 renaming ofNat->k8
set_option maxRecDepth 100000
set_option linter.unusedVariables false
set_option linter.unusedSimpArgs false
namespace Go.cd
open Go Go.bg
def S5 (S:Nat->List (List Int)->List (List Int)->Prop) (K:List (List Int)->List (List Int)->Prop):Prop:=
 cu λz0=>Jk λah=>∃(fy:List (List Int)->Prop) (iK:List (List Int)->Nat),fy [[z0]]/\(cu λz3=>fy [[z3]]->bF 0 [z3] λz4=>(aD (decide
 (0<z4)) (aa 1 [z3,0]/\ao 1 [z3,0] λz5=>(aD (decide (z5=ah)) (bF 0 [z3] λaq=>aa 2 [z3,1,aq]/\bW 2 [z3,1,aq] λz7=>(fy [[z7]]/\iK
 [[z7]]<iK [[z3]])) (K [[z0],[ah]] [[z3]]))) (K [[z0],[ah]] [[z3]])))
def S7 (S:Nat->List (List Int)->List (List Int)->Prop) (K:List (List Int)->List (List Int)->Prop):Prop:=
 cu λz0=>Jk λah=>∃(fy:List (List Int)->Prop) (iK:List (List Int)->Nat),fy [[z0]]/\(cu λz3=>fy [[z3]]->bF 0 [z3] λz4=>(aD (decide
 (0<z4)) (bF 0 [z3] λz5=>aa 1 [z3,(z5+(-1))]/\ao 1 [z3,(z5+(-1))] λaq=>(aD (decide (aq=ah)) (bF 0 [z3] λz7=>aa 2 [z3,0,(z7+
 (-1))]/\bW 2 [z3,0,(z7+(-1))] λav=>(fy [[av]]/\iK [[av]]<iK [[z3]])) (K [[z0],[ah]] [[z3]]))) (K [[z0],[ah]] [[z3]])))
def S9 (S:Nat->List (List Int)->List (List Int)->Prop) (K:List (List Int)->List (List Int)->Prop):Prop:=
 cu λz0=>df 4 [z0,0] λah=>(aD (decide (ah=1)) (K [[z0]] [[z0]]) (cu λz2=>S 37 [[z0],[32]] [[z2]]->cu λz3=>S 36 [[z2],[32]] [[z3]]->K
 [[z0]] [[z3]]))
def S3 (S:Nat->List (List Int)->List (List Int)->Prop) (K:List (List Int)->List (List Int)->Prop):Prop:=
 cu λz0=>df 4 [z0,0] λah=>(aD (decide (ah=1)) (K [[z0]] [[z0]]) (cu λz2=>S 37 [[z0],[46]] [[z2]]->cu λz3=>S 36 [[z2],[46]] [[z3]]->K
 [[z0]] [[z3]]))
def Sc (S:Nat->List (List Int)->List (List Int)->Prop) (K:List (List Int)->List (List Int)->Prop):Prop:=
 cu λz0=>df 4 [47,z0] λah=>(aD (decide (ah=1)) (K [[z0]] [[(cond (true) 1 0)]]) (bY λz2=>S 73 [[z0],[46]] [[z2]]->K [[z0]] [[(cond (decide (0
 <=z2)) 1 0)]]))
theorem aoX:S5 SB (bO SB [.str] 36):=by
 intro z0 a0 a1 ah b0 b1
 refine⟨λbl=>∃z,bl=[[z]]/\jV (·==u8 ah) (U z)=jV (·==u8 ah) (U z0),λbl=>(U ((bl.getD 0 []).getD 0 0)).length,⟨z0,rfl,rfl⟩,?_⟩
 rintro z3 bT c1 ⟨z,e,hz⟩
 obtain rfl:z3=z:=by simpa using e
 intro z4 d0 d1 gL
 simp only[aB]at gL
 cases hl:U z3 with
 |nil=>
  rw[hl]at gL hz
  simp only[gF]at gL
  subst gL
  refine⟨λhp=>by simp at hp,λ_=>⟨⟨bT,c1,trivial⟩,?_⟩⟩
  show U z3=_
  try dsimp only
  rw[hl,<-hz]
  rfl
 |cons x r=>
  rw[hl]at gL hz
  simp only[dv]at gL
  refine⟨λ_=>⟨⟨cn _,by rw[hl];simp only[dv];omega⟩,?_⟩,λhp=>by simp at hp;omega⟩
  intro z5 bC e1 ry
  simp only[aB,hl,u3,qK]at ry
  have hx:=JX (b:=x) b0 b1
  rw[<-ry]at hx
  refine⟨λhe=>?_,λhe=>⟨⟨bT,c1,trivial⟩,?_⟩⟩
  ·have x5:=hx.1 (by simpa using he)
   intro aq f0 f1 oc
   simp only[aB,hl,dv]at oc
   refine⟨⟨by omega,by omega,by rw[hl];simp only[dv];omega⟩,?_⟩
   intro z7 g0 g1 tY
   have hr:U z7=r:=by
    try dsimp only
    rw[tY];simp only[aB,fS,hl]
    try dsimp only
    rw[show(1:Int).toNat=1 from rfl,auT,auU]
    exact mq (by omega)
   refine⟨⟨z7,rfl,?_⟩,?_⟩
   ·try dsimp only
    rw[hr,<-hz];simp only[jV,zt,x5,if_true]
   ·show(U z7).length<(U z3).length
    try dsimp only
    rw[hr,hl];simp
  ·show U z3=_
   have x5:¬(x==u8 ah)=true:=λh=>by have:=hx.2 h;simp[this]at he
   try dsimp only
   rw[hl,<-hz];simp only[jV,zt,x5,if_false];rfl
theorem JJ {l:ay} (h:l≠[]):∃r x,l=r++[x]:=⟨_,_,(List.dropLast_concat_getLast h).symm⟩
theorem aoZ:S7 SB (bO SB [.str] 37):=by
 intro z0 a0 a1 ah b0 b1
 refine⟨λbl=>∃z,bl=[[z]]/\jj (·==u8 ah) (U z)=jj (·==u8 ah) (U z0),λbl=>(U ((bl.getD 0 []).getD 0 0)).length,⟨z0,rfl,rfl⟩,?_⟩
 rintro z3 bT c1 ⟨z,e,hz⟩
 obtain rfl:z3=z:=by simpa using e
 intro z4 d0 d1 gL
 simp only[aB]at gL
 by_cases hl:U z3=[]
 ·rw[hl]at gL hz
  simp only[gF]at gL
  subst gL
  refine⟨λhp=>by simp at hp,λ_=>⟨⟨bT,c1,trivial⟩,?_⟩⟩
  show U z3=_
  try dsimp only
  rw[hl,<-hz]
  rfl
 ·obtain⟨r,x,hl⟩:=JJ hl
  rw[hl]at gL hz
  simp only[dQ,dv,gF]at gL
  refine⟨λ_=>?_,λhp=>by simp at hp;omega⟩
  intro z5 bC e1 ry
  simp only[aB,hl,dQ,dv,gF]at ry
  refine⟨⟨by omega,by rw[hl];simp only[dQ,dv,gF];omega⟩,?_⟩
  intro aq f0 f1 oc
  have ht:(z5+-1).toNat=r.length:=by omega
  simp only[aB,hl,ht]at oc
  have hx:=JX (b:=x) b0 b1
  rw[show((r++[x]).getD r.length 0)=x by simp[af]]at oc
  rw[<-oc]at hx
  refine⟨λhe=>?_,λhe=>⟨⟨bT,c1,trivial⟩,?_⟩⟩
  ·have x5:=hx.1 (by simpa using he)
   intro z7 f0 f1 tY
   simp only[aB,hl,dQ,dv,gF]at tY
   have Ox:(z7+-1).toNat=r.length:=by omega
   refine⟨⟨by omega,by omega,by rw[hl];simp only[dQ,dv,gF];omega⟩,?_⟩
   intro av g0 g1 OJ
   have hr:U av=r:=by
    try dsimp only
    rw[OJ];simp only[aB,fS,hl,Ox]
    simp
   refine⟨⟨av,rfl,?_⟩,?_⟩
   ·try dsimp only
    rw[hr,<-hz,BV,x5,cond_true]
   ·show(U av).length<(U z3).length
    try dsimp only
    rw[hr,hl];simp
  ·show U z3=_
   have x5:(x==u8 ah)=false:=by
    cases h:(x==u8 ah)with
    |false=>rfl
    |true=>have:=hx.2 h;simp[this]at he
   try dsimp only
   rw[hl,<-hz,BV,x5,cond_false]
theorem aqa:U 0=[]:=rfl
theorem eq_nil {z ah:Int} (h:ah=aB 4 [z,0]):decide (ah=1)=(U z==[]):=by
 try dsimp only
 rw[h];simp only[aB,aqa]
 cases hz:U z with
 |nil=>rfl
 |cons x r=>simp
theorem Yj {c:Int} {p:UInt8->Bool} (hc:p=(·==u8 c)) {id:Nat} (hid:∀z r,SB id [[z]] [[r]]=(U r=jF p (U z))):
 (∀z0:Int,0<=z0->z0<=ch->
 ∀ah:Int,0<=ah->ah<=1->ah=aB 4 [z0,0]->
 (((decide (ah=1))=true->
  bO SB [.str] id [[z0]] [[z0]]
 )/\((decide (ah=1))=false->
  ∀z2:Int,0<=z2->z2<=ch->SB 37 [[z0],[c]] [[z2]]->
  ∀z3:Int,0<=z3->z3<=ch->SB 36 [[z2],[c]] [[z3]]->
  bO SB [.str] id [[z0]] [[z3]]
 ))):=by
  intro z0 a0 a1 ah b0 b1 hz1
  try dsimp only
  rw[eq_nil hz1]
  refine⟨λh=>⟨⟨a0,a1,trivial⟩,?_⟩,λh z2 bT c1 h2 z3 d0 d1 h3=>⟨⟨d0,d1,trivial⟩,?_⟩⟩
  ·try dsimp only
   rw[hid]
   have:U z0=[]:=by simpa using h
   try dsimp only
   rw[this];rfl
  ·try dsimp only
   rw[hid]
   have h2:U z2=jj (·==u8 c) (U z0):=h2
   have h3:U z3=jV (·==u8 c) (U z2):=h3
   try dsimp only
   rw[h3,h2,hc];rfl
theorem ao1:S9 SB (bO SB [.str] 120):=Yj (c:=32) (p:=(·==32)) rfl λ_ _=>rfl
theorem aoV:S3 SB (bO SB [.str] 121):=Yj (c:=46) (p:=(·==46)) rfl λ_ _=>rfl
theorem an6:Sc SB (bO SB [.bool] 127):=by
 intro z0 a0 a1 ah b0 b1 hz1
 simp only[aB]at hz1
 refine⟨λh=>⟨⟨by decide,by decide,trivial⟩,?_⟩,λh z2 bT c1 h2=>⟨⟨(p5 _).1,(p5 _).2,trivial⟩,?_⟩⟩
 ·have:U z0=[46]:=by
   have e:U 47=[46]:=by decide
   rw[e]at hz1
   by_cases h':[46]=U z0
   ·exact h'.symm
   ·rw[if_neg h']at hz1;subst hz1;simp at h
  show(1:Int)=bh ((U z0).contains 46)
  try dsimp only
  rw[this];rfl
 ·have h2:z2=idx 46 (U z0):=h2
  show(cond (decide (0<=z2)) 1 0:Int)=bh ((U z0).contains 46)
  try dsimp only
  rw[h2,Ir (by decide) (by decide)];rfl
def Sg (S:Nat->List (List Int)->List (List Int)->Prop) (K:List (List Int)->List (List Int)->Prop):Prop:=
 cu λz0=>df 4 [65,z0] λah=>(aD (decide (ah=1)) (aa 2 [z0,0,0]/\bW 2 [z0,0,0] λz2=>bF 0 [z0] λz3=>aa 2 [z0,1,z3]/\bW 2 [z0,1,z3]
 λz4=>K [[z0]] [[z2],[z4],[(cond (true) 1 0)]]) (bY λz2=>S 73 [[z0],[64]] [[z2]]->(aD (decide (0<=z2)) (aa 2 [z0,0,z2]/\bW 2 [z0,0,z2] λz3=>
 dT (z2+9223372036854775809) 18446744073709551616 λz4=>bF 0 [z0] λz5=>aa 2 [z0,((z2+((-18446744073709551616)*z4))+1),z5]/\bW 2 [z0,((z2+
 ((-18446744073709551616)*z4))+1),z5] λaq=>K [[z0]] [[z3],[aq],[(cond (true) 1 0)]]) (K [[z0]] [[z0],[0],[(cond (false) 1 0)]]))))
def Sh (S:Nat->List (List Int)->List (List Int)->Prop) (K:List (List Int)->List (List Int)->Prop):Prop:=
 cu λz0=>df 4 [59,z0] λah=>(aD (decide (ah=1)) (aa 2 [z0,0,0]/\bW 2 [z0,0,0] λz2=>bF 0 [z0] λz3=>aa 2 [z0,1,z3]/\bW 2 [z0,1,z3]
 λz4=>K [[z0]] [[z2],[z4],[(cond (true) 1 0)]]) (bY λz2=>S 73 [[z0],[58]] [[z2]]->(aD (decide (0<=z2)) (aa 2 [z0,0,z2]/\bW 2 [z0,0,z2] λz3=>
 dT (z2+9223372036854775809) 18446744073709551616 λz4=>bF 0 [z0] λz5=>aa 2 [z0,((z2+((-18446744073709551616)*z4))+1),z5]/\bW 2 [z0,((z2+
 ((-18446744073709551616)*z4))+1),z5] λaq=>K [[z0]] [[z3],[aq],[(cond (true) 1 0)]]) (K [[z0]] [[z0],[0],[(cond (false) 1 0)]]))))
def SA (S:Nat->List (List Int)->List (List Int)->Prop) (K:List (List Int)->List (List Int)->Prop):Prop:=
 cu λz0=>cu λah=>bF 0 [z0] λz2=>∃(qT:List (List Int)->Prop) (xd:List (List Int)->Nat),qT [[0]]/\(fB λz4=>qT [[z4]]->(aD (decide
 (z4<z2)) (aa 1 [z0,z4]/\ao 1 [z0,z4] λz5=>bY λaq=>S 73 [[ah],[z5]] [[aq]]->(aD (decide (aq<0)) (K [[z0],[ah]] [[(cond (false) 1 0)]]) (dT
 (z4+9223372036854775809) 18446744073709551616 λz7=>aa 39 [((z4+((-18446744073709551616)*z7))+1),0,9223372036854775807]/\(qT [[((z4+
 ((-18446744073709551616)*z7))+1)]]/\xd [[((z4+((-18446744073709551616)*z7))+1)]]<xd [[z4]])))) (K [[z0],[ah]] [[(cond (true) 1 0)]])))
def Su (S:Nat->List (List Int)->List (List Int)->Prop) (K:List (List Int)->List (List Int)->Prop):Prop:=
 cu λz0=>cu λah=>bF 0 [z0] λz2=>∃(qT:List (List Int)->Prop) (xd:List (List Int)->Nat),qT [[0]]/\(fB λz4=>qT [[z4]]->(aD (decide
 (z4<z2)) (aa 1 [z0,z4]/\ao 1 [z0,z4] λz5=>bY λaq=>S 73 [[ah],[z5]] [[aq]]->(aD (decide (aq<0)) (K [[z0],[ah]] [[(cond (false) 1 0)]]) (dT
 (z4+9223372036854775809) 18446744073709551616 λz7=>aa 39 [((z4+((-18446744073709551616)*z7))+1),0,9223372036854775807]/\(qT [[((z4+
 ((-18446744073709551616)*z7))+1)]]/\xd [[((z4+((-18446744073709551616)*z7))+1)]]<xd [[z4]])))) (K [[z0],[ah]] [[(cond (true) 1 0)]])))
theorem Yg {c n:Int} (h0:0<=c) (h1:c<=255) (hn:U n=[u8 c]) {id:Nat} (hid:∀z a b r,SB id [[z]] [[a],[b],[r]]=((U a,U b,r)=nZ c (U z))):
 (∀z0:Int,0<=z0->z0<=ch->
 ∀ah:Int,0<=ah->ah<=1->ah=aB 4 [n,z0]->
 (((decide (ah=1))=true->
  aa 2 [z0,0,0]/\
  ∀z2:Int,0<=z2->z2<=ch->z2=aB 2 [z0,0,0]->
  ∀z3:Int,0<=z3->z3<=9223372036854775807->z3=aB 0 [z0]->
  aa 2 [z0,1,z3]/\
  ∀z4:Int,0<=z4->z4<=ch->z4=aB 2 [z0,1,z3]->
  bO SB [.str,.str,.bool] id [[z0]] [[z2],[z4],[(cond (true) 1 0)]]
 )/\((decide (ah=1))=false->
  ∀z2:Int,(-1)<=z2->z2<=9223372036854775807->SB 73 [[z0],[c]] [[z2]]->
  (((decide (0<=z2))=true->
   aa 2 [z0,0,z2]/\
   ∀z3:Int,0<=z3->z3<=ch->z3=aB 2 [z0,0,z2]->
   ∀z4:Int,0<=z4->z4<=1->0<=(z2+9223372036854775809)-18446744073709551616*z4->(z2+9223372036854775809)-18446744073709551616*z4<18446744073709551616->
   ∀z5:Int,0<=z5->z5<=9223372036854775807->z5=aB 0 [z0]->
   aa 2 [z0,((z2+((-18446744073709551616)*z4))+1),z5]/\
   ∀aq:Int,0<=aq->aq<=ch->aq=aB 2 [z0,((z2+((-18446744073709551616)*z4))+1),z5]->
   bO SB [.str,.str,.bool] id [[z0]] [[z3],[aq],[(cond (true) 1 0)]]
  )/\((decide (0<=z2))=false->
   bO SB [.str,.str,.bool] id [[z0]] [[z0],[0],[(cond (false) 1 0)]]
  ))
 ))):=by
  intro z0 a0 a1 ah b0 b1 hz1
  simp only[aB,hn]at hz1
  refine⟨λh=>?_,λh z2 bT c1 h2=>?_⟩
  ·have hs:U z0=[u8 c]:=by
    by_cases h':[u8 c]=U z0
    ·exact h'.symm
    ·rw[if_neg h']at hz1;subst hz1;simp at h
   refine⟨⟨by omega,by omega,by omega⟩,λz2 bT c1 h2 z3 d0 d1 h3=>?_⟩
   simp only[aB,hs,FY]at h3
   refine⟨⟨by omega,by omega,by rw[hs];simp only[FY];omega⟩,λz4 bC e1 h4=>⟨⟨bT,c1,bC,e1,by decide,by decide,trivial⟩,?_⟩⟩
   try dsimp only
   rw[hid]
   have e2:U z2=[]:=by rw[h2];simp[aB,fS]
   have eS:U z4=[]:=by rw[h4];simp[aB,fS,hs]
   have aec:idx c [u8 c]=0:=by simp[idx,aru h0 h1]
   try dsimp only
   rw[e2,eS,hs]
   simp[nZ,aec]
  ·have h2:z2=idx c (U z0):=h2
   refine⟨λhp=>?_,λhp=>⟨⟨a0,a1,cn _,jw,by decide,by decide,trivial⟩,?_⟩⟩
   ·have hp:0<=z2:=by simpa using hp
    have hr:=ES c (U z0)
    have cJ:=ak2 a1
    refine⟨⟨by omega,by omega,by omega⟩,λz3 d0 d1 h3 z4 bC e1 e2 bt z5 f0 f1 h5=>?_⟩
    simp only[aB]at h5
    have ael:z2+-18446744073709551616*z4+1=z2+1:=by omega
    try dsimp only
    rw[ael]
    refine⟨⟨by omega,by omega,by omega⟩,λaq g0 g1 h6=>⟨⟨d0,d1,g0,g1,by decide,by decide,trivial⟩,?_⟩⟩
    try dsimp only
    rw[hid]
    have bt:U z3=(U z0).take z2.toNat:=by rw[h3];simp[aB,fS]
    have iM:U aq=(U z0).drop (z2.toNat+1):=by
     try dsimp only
     rw[h6];simp only[aB,fS]
     try dsimp only
     rw[show(z2+1).toNat=z2.toNat+1 by omega]
     exact mq (by simp;omega)
    try dsimp only
    rw[bt,iM]
    unfold nZ
    try dsimp only
    rw[<-h2,show decide (0<=z2)=true by simpa using hp]
    rfl
   ·try dsimp only
    rw[hid]
    unfold nZ
    try dsimp only
    rw[<-h2,hp]
    rfl
theorem aoa:Sg SB (bO SB [.str,.str,.bool] 125):=Yg (c:=64) (n:=65) (by decide) (by decide) (by decide) λ_ _ _ _=>rfl
theorem aob:Sh SB (bO SB [.str,.str,.bool] 126):=Yg (c:=58) (n:=59) (by decide) (by decide) (by decide) λ_ _ _ _=>rfl
theorem aci (p:UInt8->Bool) (l:ay) (i:Nat) (h:i<l.length):(l.take (i+1)).all p=((l.take i).all p&&p (l.getD i 0)):=by
 try dsimp only
 rw[JT l i h];simp
theorem acf (p:UInt8->Bool) (l:ay) (i:Nat) (h:i<l.length) (hp:p (l.getD i 0)=false):l.all p=false:=by
 try dsimp only
 rw[List.all_eq_false]
 refine⟨l.getD i 0,?_,λe=>by rw[hp]at e;cases e⟩
 simp[af,h]
theorem J2 {z q L:Int} (h:z<L) (cJ:L<=9223372036854775807) (h0:0<=z) (kp:0<=q) (e2:0<=(z+9223372036854775809)-18446744073709551616*q):z+-18446744073709551616*q+1=z+1:=by omega
theorem Yi {id:Nat} (hid:∀s b r,SB id [[s],[b]] [[r]]=(r=bh ((U s).all λc=>(U b).contains c))):
 (∀z0:Int,0<=z0->z0<=ch->∀ah:Int,0<=ah->ah<=ch->
 ∀z2:Int,0<=z2->z2<=9223372036854775807->z2=aB 0 [z0]->
 ∃(qT:List (List Int)->Prop) (xd:List (List Int)->Nat),qT [[0]]/\(∀z4:Int,0<=z4->z4<=9223372036854775807->qT [[z4]]->
  (((decide (z4<z2))=true->
   aa 1 [z0,z4]/\
   ∀z5:Int,0<=z5->z5<=255->z5=aB 1 [z0,z4]->
   ∀aq:Int,(-1)<=aq->aq<=9223372036854775807->SB 73 [[ah],[z5]] [[aq]]->
   (((decide (aq<0))=true->
    bO SB [.bool] id [[z0],[ah]] [[(cond (false) 1 0)]]
   )/\((decide (aq<0))=false->
    ∀z7:Int,0<=z7->z7<=1->0<=(z4+9223372036854775809)-18446744073709551616*z7->(z4+9223372036854775809)-18446744073709551616*z7<18446744073709551616->
    aa 39 [((z4+((-18446744073709551616)*z7))+1),0,9223372036854775807]/\
    (qT [[((z4+((-18446744073709551616)*z7))+1)]]/\xd [[((z4+((-18446744073709551616)*z7))+1)]]<xd [[z4]])
   ))
  )/\((decide (z4<z2))=false->
   bO SB [.bool] id [[z0],[ah]] [[(cond (true) 1 0)]]
  ))
 )):=by
  intro z0 a0 a1 ah b0 b1 z2 bT c1 h2
  simp only[aB]at h2
  refine⟨λbl=>∃i:Nat,bl=[[(i:Int)]]/\i<=(U z0).length/\((U z0).take i).all (λc=>(U ah).contains c)=true,λbl=>(U z0).length-((bl.getD 0 []).getD 0 0).toNat,⟨0,rfl,mr _,rfl⟩,?_⟩
  rintro z4 d0 d1 ⟨i,e,hi,hall⟩
  obtain rfl:z4=i:=by simpa using e
  refine⟨λhp=>?_,λhp=>⟨⟨by decide,by decide,trivial⟩,?_⟩⟩
  ·have hp:(i:Int)<z2:=by simpa using hp
   refine⟨⟨d0,by omega⟩,λz5 bC e1 h5 aq f0 f1 h6=>?_⟩
   have h6:aq=idx z5 (U ah):=h6
   simp only[aB,k9]at h5
   have hu:u8 z5=(U z0).getD i 0:=by rw[h5,QX]
   have hm:=Ir bC e1 (U ah)
   rw[hu,<-h6]at hm
   refine⟨λhq=>⟨⟨by decide,by decide,trivial⟩,?_⟩,λhq z7 g0 g1 g2 g3=>?_⟩
   ·try dsimp only
    rw[hid,acf _ _ i (by omega) (by rw[<-hm];simpa using hq)];rfl
   ·have hq:0<=aq:=by simpa using hq
    try dsimp only
    rw[J2 (L:=z2) hp c1 d0 g0 g2]
    refine⟨⟨by omega,by omega⟩,⟨i+1,by simp,by omega,?_⟩,?_⟩
    ·try dsimp only
     rw[aci _ _ _ (by omega),hall,<-hm];simpa using hq
    ·show(U z0).length-((i:Int)+1).toNat<(U z0).length-(i:Int).toNat
     omega
  ·have hp:¬(i:Int)<z2:=by simpa using hp
   rw[mq (by omega)]at hall
   try dsimp only
   rw[hid,hall];rfl
theorem aou:SA SB (bO SB [.bool] 44):=Yi λ_ _ _=>rfl
theorem aoo:Su SB (bO SB [.bool] 65):=Yi λ_ _ _=>rfl
def S2 (S:Nat->List (List Int)->List (List Int)->Prop) (K:List (List Int)->List (List Int)->Prop):Prop:=
 cu λz0=>df 4 [z0,0] λah=>(aD (decide (ah=1)) (K [[z0]] [[z0]]) (∃(fy:List (List Int)->Prop) (iK:List (List Int)->Nat),fy [[z0]]/\(cu λ
 z3=>fy [[z3]]->bF 0 [z3] λz4=>(aD (decide (0<z4)) (bF 0 [z3] λz5=>aa 1 [z3,(z5+(-1))]/\ao 1 [z3,(z5+(-1))] λaq=>df 43 [12125,aq]
 λz7=>(aD ((!(decide (z7=1)))) (∃(ig:List (List Int)->Prop) (lg:List (List Int)->Nat),ig [[z3]]/\(cu λz9=>ig [[z9]]->bF 0 [z9] λaC
 =>(aD (decide (0<aC)) (aa 1 [z9,0]/\ao 1 [z9,0] λbf=>df 43 [12125,bf] λz12=>(aD ((!(decide (z12=1)))) (K [[z0]] [[z9]]) (bF 0 [z9] λ
 ag=>aa 2 [z9,1,ag]/\bW 2 [z9,1,ag] λak=>(ig [[ak]]/\lg [[ak]]<lg [[z9]])))) (K [[z0]] [[z9]])))) (bF 0 [z3] λav=>aa 2 [z3,0,(av+
 (-1))]/\bW 2 [z3,0,(av+(-1))] λz9=>(fy [[z9]]/\iK [[z9]]<iK [[z3]])))) (∃(hU:List (List Int)->Prop) (j8:List (List Int)->Nat),hU [[z3]]/\
 (cu λaq=>hU [[aq]]->bF 0 [aq] λz7=>(aD (decide (0<z7)) (aa 1 [aq,0]/\ao 1 [aq,0] λav=>df 43 [12125,av] λz9=>(aD ((!(decide (z9=
 1)))) (K [[z0]] [[aq]]) (bF 0 [aq] λaC=>aa 2 [aq,1,aC]/\bW 2 [aq,1,aC] λbf=>(hU [[bf]]/\j8 [[bf]]<j8 [[aq]])))) (K [[z0]]
 [[aq]]))))))))
def S4 (S:Nat->List (List Int)->List (List Int)->Prop) (K:List (List Int)->List (List Int)->Prop):Prop:=
 cu λz0=>df 4 [z0,0] λah=>(aD (decide (ah=1)) (K [[z0]] [[z0]]) (∃(fy:List (List Int)->Prop) (iK:List (List Int)->Nat),fy [[z0]]/\(cu λ
 z3=>fy [[z3]]->bF 0 [z3] λz4=>(aD (decide (0<z4)) (bF 0 [z3] λz5=>aa 1 [z3,(z5+(-1))]/\ao 1 [z3,(z5+(-1))] λaq=>df 43
 [8267443711659794979134808499087199072256874527605039863196959864303977456569186565734100443375465041388132907546406408792979960403300126342849461211344038,aq]
 λz7=>(aD ((!(decide (z7=1)))) (∃(ig:List (List Int)->Prop) (lg:List (List Int)->Nat),ig [[z3]]/\(cu λz9=>ig [[z9]]->bF 0 [z9] λaC
 =>(aD (decide (0<aC)) (aa 1 [z9,0]/\ao 1 [z9,0] λbf=>df 43
 [8267443711659794979134808499087199072256874527605039863196959864303977456569186565734100443375465041388132907546406408792979960403300126342849461211344038,bf]
 λz12=>(aD ((!(decide (z12=1)))) (K [[z0]] [[z9]]) (bF 0 [z9] λag=>aa 2 [z9,1,ag]/\bW 2 [z9,1,ag] λak=>(ig [[ak]]/\lg [[ak]]<lg
 [[z9]])))) (K [[z0]] [[z9]])))) (bF 0 [z3] λav=>aa 2 [z3,0,(av+(-1))]/\bW 2 [z3,0,(av+(-1))] λz9=>(fy [[z9]]/\iK [[z9]]<iK [[z3]])))) (∃
 (hU:List (List Int)->Prop) (j8:List (List Int)->Nat),hU [[z3]]/\(cu λaq=>hU [[aq]]->bF 0 [aq] λz7=>(aD (decide (0<z7)) (aa 1 [aq,0]/\
 ao 1 [aq,0] λav=>df 43
 [8267443711659794979134808499087199072256874527605039863196959864303977456569186565734100443375465041388132907546406408792979960403300126342849461211344038,av]
 λz9=>(aD ((!(decide (z9=1)))) (K [[z0]] [[aq]]) (bF 0 [aq] λaC=>aa 2 [aq,1,aC]/\bW 2 [aq,1,aC] λbf=>(hU [[bf]]/\j8 [[bf]]<j8
 [[aq]])))) (K [[z0]] [[aq]]))))))))
def S1 (S:Nat->List (List Int)->List (List Int)->Prop) (K:List (List Int)->List (List Int)->Prop):Prop:=
 cu λz0=>df 4 [z0,0] λah=>(aD (decide (ah=1)) (K [[z0]] [[z0]]) (∃(fy:List (List Int)->Prop) (iK:List (List Int)->Nat),fy [[z0]]/\(cu λ
 z3=>fy [[z3]]->bF 0 [z3] λz4=>(aD (decide (0<z4)) (bF 0 [z3] λz5=>aa 1 [z3,(z5+(-1))]/\ao 1 [z3,(z5+(-1))] λaq=>df 43
 [284767230291263911083031,aq] λz7=>(aD ((!(decide (z7=1)))) (∃(ig:List (List Int)->Prop) (lg:List (List Int)->Nat),ig [[z3]]/\(cu λz9=>ig
 [[z9]]->bF 0 [z9] λaC=>(aD (decide (0<aC)) (aa 1 [z9,0]/\ao 1 [z9,0] λbf=>df 43 [284767230291263911083031,bf] λz12=>(aD ((!(decide
 (z12=1)))) (K [[z0]] [[z9]]) (bF 0 [z9] λag=>aa 2 [z9,1,ag]/\bW 2 [z9,1,ag] λak=>(ig [[ak]]/\lg [[ak]]<lg [[z9]])))) (K [[z0]]
 [[z9]])))) (bF 0 [z3] λav=>aa 2 [z3,0,(av+(-1))]/\bW 2 [z3,0,(av+(-1))] λz9=>(fy [[z9]]/\iK [[z9]]<iK [[z3]])))) (∃(hU:List (List Int)
 ->Prop) (j8:List (List Int)->Nat),hU [[z3]]/\(cu λaq=>hU [[aq]]->bF 0 [aq] λz7=>(aD (decide (0<z7)) (aa 1 [aq,0]/\ao 1 [aq,0] λav
 =>df 43 [284767230291263911083031,av] λz9=>(aD ((!(decide (z9=1)))) (K [[z0]] [[aq]]) (bF 0 [aq] λaC=>aa 2 [aq,1,aC]/\bW 2 [aq,1,aC] λ
 bf=>(hU [[bf]]/\j8 [[bf]]<j8 [[aq]])))) (K [[z0]] [[aq]]))))))))
theorem UW {n z q:Int} {p:UInt8->Bool} (hn:∀c,(U n).contains c=p c) (h:q=aB 43 [n,z]):decide (q=1)=p (u8 z):=by
 try dsimp only
 rw[h];simp only[aB]
 have:=hn (u8 z)
 unfold u8 at this⊢
 try dsimp only
 rw[<-this]
 by_cases hm:k8 z.toNat∈U n
 ·simp[hm]
 ·simp[hm]
theorem Fh {n:Int} {p:UInt8->Bool} (hn:∀c,(U n).contains c=p c) {id:Nat} (hid:∀z r,SB id [[z]] [[r]]=(U r=jF p (U z))):
 (∀z0:Int,0<=z0->z0<=ch->
 ∀ah:Int,0<=ah->ah<=1->ah=aB 4 [z0,0]->
 (((decide (ah=1))=true->
   bO SB [.str] id [[z0]] [[z0]]
 )/\((decide (ah=1))=false->
  ∃(fy:List (List Int)->Prop) (iK:List (List Int)->Nat),fy [[z0]]/\(∀z3:Int,0<=z3->z3<=ch->fy [[z3]]->
   ∀z4:Int,0<=z4->z4<=9223372036854775807->z4=aB 0 [z3]->
   (((decide (0<z4))=true->
    ∀z5:Int,0<=z5->z5<=9223372036854775807->z5=aB 0 [z3]->
    aa 1 [z3,(z5+(-1))]/\
    ∀aq:Int,0<=aq->aq<=255->aq=aB 1 [z3,(z5+(-1))]->
    ∀z7:Int,0<=z7->z7<=1->z7=aB 43 [n,aq]->
    ((((!(decide (z7=1))))=true->
     ∃(ig:List (List Int)->Prop) (lg:List (List Int)->Nat),ig [[z3]]/\(∀z9:Int,0<=z9->z9<=ch->ig [[z9]]->
      ∀aC:Int,0<=aC->aC<=9223372036854775807->aC=aB 0 [z9]->
      (((decide (0<aC))=true->
       aa 1 [z9,0]/\
       ∀bf:Int,0<=bf->bf<=255->bf=aB 1 [z9,0]->
       ∀z12:Int,0<=z12->z12<=1->z12=aB 43 [n,bf]->
       ((((!(decide (z12=1))))=true->
         bO SB [.str] id [[z0]] [[z9]]
       )/\(((!(decide (z12=1))))=false->
        ∀ag:Int,0<=ag->ag<=9223372036854775807->ag=aB 0 [z9]->
        aa 2 [z9,1,ag]/\
        ∀ak:Int,0<=ak->ak<=ch->ak=aB 2 [z9,1,ag]->
        (ig [[ak]]/\lg [[ak]]<lg [[z9]])
       ))
      )/\((decide (0<aC))=false->
       bO SB [.str] id [[z0]] [[z9]]
      ))
     )
    )/\(((!(decide (z7=1))))=false->
     ∀av:Int,0<=av->av<=9223372036854775807->av=aB 0 [z3]->
     aa 2 [z3,0,(av+(-1))]/\
     ∀z9:Int,0<=z9->z9<=ch->z9=aB 2 [z3,0,(av+(-1))]->
     (fy [[z9]]/\iK [[z9]]<iK [[z3]])
    ))
   )/\((decide (0<z4))=false->
    ∃(hU:List (List Int)->Prop) (j8:List (List Int)->Nat),hU [[z3]]/\(∀aq:Int,0<=aq->aq<=ch->hU [[aq]]->
     ∀z7:Int,0<=z7->z7<=9223372036854775807->z7=aB 0 [aq]->
     (((decide (0<z7))=true->
      aa 1 [aq,0]/\
      ∀av:Int,0<=av->av<=255->av=aB 1 [aq,0]->
      ∀z9:Int,0<=z9->z9<=1->z9=aB 43 [n,av]->
      ((((!(decide (z9=1))))=true->
        bO SB [.str] id [[z0]] [[aq]]
      )/\(((!(decide (z9=1))))=false->
       ∀aC:Int,0<=aC->aC<=9223372036854775807->aC=aB 0 [aq]->
       aa 2 [aq,1,aC]/\
       ∀bf:Int,0<=bf->bf<=ch->bf=aB 2 [aq,1,aC]->
       (hU [[bf]]/\j8 [[bf]]<j8 [[aq]])
      ))
     )/\((decide (0<z7))=false->
      bO SB [.str] id [[z0]] [[aq]]
     ))
    )
   ))
  )
 ))):=by
  intro z0 a0 a1 ah b0 b1 hz1
  try dsimp only
  rw[eq_nil hz1]
  have inner:∀z3:Int,0<=z3->z3<=ch->U z3=jj p (U z0)->∃(ig:List (List Int)->Prop) (lg:List (List Int)->Nat),ig [[z3]]/\(∀z9:Int,0<=z9->z9<=ch->ig [[z9]]->
   ∀aC:Int,0<=aC->aC<=9223372036854775807->aC=aB 0 [z9]->
   (((decide (0<aC))=true->
    aa 1 [z9,0]/\
    ∀bf:Int,0<=bf->bf<=255->bf=aB 1 [z9,0]->
    ∀z12:Int,0<=z12->z12<=1->z12=aB 43 [n,bf]->
    ((((!(decide (z12=1))))=true->
     bO SB [.str] id [[z0]] [[z9]]
    )/\(((!(decide (z12=1))))=false->
     ∀ag:Int,0<=ag->ag<=9223372036854775807->ag=aB 0 [z9]->
     aa 2 [z9,1,ag]/\
     ∀ak:Int,0<=ak->ak<=ch->ak=aB 2 [z9,1,ag]->
     (ig [[ak]]/\lg [[ak]]<lg [[z9]])
    ))
   )/\((decide (0<aC))=false->
    bO SB [.str] id [[z0]] [[z9]]
   ))):=by
   intro z3 a0 a1 h3
   refine⟨λbl=>∃z,bl=[[z]]/\jV p (U z)=jV p (jj p (U z0)),λbl=>(U ((bl.getD 0 []).getD 0 0)).length,⟨z3,rfl,by rw[h3]⟩,?_⟩
   rintro z9 bT c1 ⟨z,e,hz⟩
   obtain rfl:z9=z:=by simpa using e
   intro z4 d0 d1 gL
   simp only[aB]at gL
   cases hl:U z9 with
   |nil=>
    rw[hl]at gL hz
    simp only[gF]at gL
    subst gL
    refine⟨λhp=>by simp at hp,λ_=>⟨⟨bT,c1,trivial⟩,?_⟩⟩
    try dsimp only
    rw[hid,hl];exact hz
   |cons x r=>
    rw[hl]at gL hz
    simp only[dv]at gL
    refine⟨λ_=>⟨⟨cn _,by rw[hl];simp only[dv];omega⟩,?_⟩,λhp=>by simp at hp;omega⟩
    intro z5 bC e1 ry
    simp only[aB,hl,u3,qK]at ry
    intro aq f0 f1 oc
    try dsimp only
    rw[UW hn oc,ry,QX]
    refine⟨λhe=>⟨⟨bT,c1,trivial⟩,?_⟩,λhe=>?_⟩
    ·try dsimp only
     rw[hid,hl]
     have he:p x=false:=by simpa using he
     show x::r=jV p (jj p (U z0))
     try dsimp only
     rw[<-hz]
     simp[jV,zt,he]
    ·have he:p x=true:=by simpa using he
     intro ag f0 f1 oc
     simp only[aB,hl,dv]at oc
     refine⟨⟨by omega,by omega,by rw[hl];simp only[dv];omega⟩,?_⟩
     intro z7 g0 g1 tY
     have hr:U z7=r:=by
      try dsimp only
      rw[tY];simp only[aB,fS,hl]
      try dsimp only
      rw[show(1:Int).toNat=1 from rfl,auT,auU]
      exact mq (by omega)
     refine⟨⟨z7,rfl,?_⟩,?_⟩
     ·try dsimp only
      rw[hr,<-hz];simp only[jV,zt,he,if_true]
     ·show(U z7).length<(U z9).length
      try dsimp only
      rw[hr,hl];simp
  refine⟨λh=>⟨⟨a0,a1,trivial⟩,?_⟩,λh=>?_⟩
  ·try dsimp only
   rw[hid]
   have:U z0=[]:=by simpa using h
   try dsimp only
   rw[this];rfl
  ·refine⟨λbl=>∃z,bl=[[z]]/\jj p (U z)=jj p (U z0),λbl=>(U ((bl.getD 0 []).getD 0 0)).length,⟨z0,rfl,rfl⟩,?_⟩
   rintro z3 bT c1 ⟨z,e,hz⟩
   obtain rfl:z3=z:=by simpa using e
   intro z4 d0 d1 gL
   simp only[aB]at gL
   by_cases hl:U z3=[]
   ·have axY:=gL
    rw[hl]at gL
    simp only[gF]at gL
    subst gL
    refine⟨λhp=>by simp at hp,λ_=>inner z3 bT c1 ?_⟩
    rw[hl]at hz⊢
    exact hz
   ·obtain⟨r,x,hl⟩:=JJ hl
    rw[hl]at gL hz
    simp only[dQ,dv,gF]at gL
    refine⟨λ_=>?_,λhp=>by simp at hp;omega⟩
    intro z5 d0 d1 ry
    simp only[aB,hl,dQ,dv,gF]at ry
    refine⟨⟨by omega,by rw[hl];simp only[dQ,dv,gF];omega⟩,?_⟩
    intro aq f0 f1 oc
    have ht:(z5+-1).toNat=r.length:=by omega
    simp only[aB,hl,ht]at oc
    rw[show((r++[x]).getD r.length 0)=x by simp[af]]at oc
    intro z7 g0 g1 tY
    try dsimp only
    rw[UW hn tY,oc,QX]
    refine⟨λhe=>inner z3 bT c1 ?_,λhe=>?_⟩
    ·have he:p x=false:=by simpa using he
     try dsimp only
     rw[hl,<-hz,BV,he,cond_false]
    ·have he:p x=true:=by simpa using he
     intro z7 f0 f1 tY
     simp only[aB,hl,dQ,dv,gF]at tY
     have Ox:(z7+-1).toNat=r.length:=by omega
     refine⟨⟨by omega,by omega,by rw[hl];simp only[dQ,dv,gF];omega⟩,?_⟩
     intro av g0 g1 OJ
     have hr:U av=r:=by
      try dsimp only
      rw[OJ];simp only[aB,fS,hl,Ox]
      simp
     refine⟨⟨av,rfl,?_⟩,?_⟩
     ·try dsimp only
      rw[hr,<-hz,BV,he,cond_true]
     ·show(U av).length<(U z3).length
      try dsimp only
      rw[hr,hl];simp
theorem sd {q p:UInt8->Bool} (h:((cA 256).all λi=>q (k8 i)==p (k8 i))=true) (c:UInt8):q c=p c:=by
 have:=List.all_eq_true.1 h c.toNat (List.mem_range.2 c.toNat_lt)
 simpa using this
theorem aoU:S2 SB (bO SB [.str] 122):=Fh (n:=12125) (p:=Dv) (sd (by decide+kernel)) λ_ _=>rfl
theorem aoW:S4 SB (bO SB [.str] 123):=Fh (n:=8267443711659794979134808499087199072256874527605039863196959864303977456569186565734100443375465041388132907546406408792979960403300126342849461211344038) (p:=v8) (sd (by decide+kernel)) λ_ _=>rfl
theorem aoT:S1 SB (bO SB [.str] 124):=Fh (n:=284767230291263911083031) (p:=iu) (sd (by decide+kernel)) λ_ _=>rfl
def Sw (S:Nat->List (List Int)->List (List Int)->Prop) (K:List (List Int)->List (List Int)->Prop):Prop:=
 cu λz0=>aH 27 [z0] λah=>bF 0 [z0] λz2=>bY λz3=>∃(lT:List (List Int)->Prop) (nf:List (List Int)->Nat),lT [[0],[ah]]/\(fB λz5
 =>cX λaq=>lT [[z5],[aq]]->(aD (decide (z5<z2)) (aa 30 [z5,z2]/\aa 21 [aq,z5]/\ao 21 [aq,z5,0] λz7=>(aD (decide (65<=z7)) ((aD (decide
 (z7<=90)) (cQ λav=>av<=eX .u8->av=cf .or .u8 z7 32->aa 30 [z5,z2]/\aa 21 [aq,z5]/\(aa 67 [aq,z5,1]->aH 42 [aq,z5,0,av] λ
 z9=>dT (z5+9223372036854775809) 18446744073709551616 λaC=>aa 39 [((z5+((-18446744073709551616)*aC))+1),0,9223372036854775807]/\(lT [[((z5+
 ((-18446744073709551616)*aC))+1)],[z9]]/\nf [[((z5+((-18446744073709551616)*aC))+1)],[z9]]<nf [[z5],[aq]]))) (dT (z5+9223372036854775809)
 18446744073709551616 λav=>aa 39 [((z5+((-18446744073709551616)*av))+1),0,9223372036854775807]/\(lT [[((z5+((-18446744073709551616)*av))+
 1)],[aq]]/\nf [[((z5+((-18446744073709551616)*av))+1)],[aq]]<nf [[z5],[aq]])))) (dT (z5+9223372036854775809) 18446744073709551616 λav=>aa 39
 [((z5+((-18446744073709551616)*av))+1),0,9223372036854775807]/\(lT [[((z5+((-18446744073709551616)*av))+1)],[aq]]/\nf [[((z5+
 ((-18446744073709551616)*av))+1)],[aq]]<nf [[z5],[aq]])))) (aa 35 [aq,0,z2]/\bW 34 [aq,0,z2] λz7=>K [[z0]] [[z7]])))
def mX (l:ay):List (List Int):=l.map λb=>[(b.toNat:Int)]
theorem Qb (l:ay):(mX l).length=l.length:=by simp[mX]
theorem YP (l:ay) (i:Nat) (h:i<l.length):(mX l).getD i []=[((l.getD i 0).toNat:Int)]:=by
 simp[mX,af,h]
theorem apT (l:ay) (i:Nat) (c:UInt8):(mX l).set i [(c.toNat:Int)]=mX (l.set i c):=by
 simp[mX,Z6]
theorem apS (l:ay):(mX l).map (λrow=>k8 (row.getD 0 0).toNat)=l:=by
 unfold mX
 try dsimp only
 rw[j5]
 conv=>rhs;rw[<-Cx l]
 exact gG λb _=>by simp
def lE (s:ay) (i:Nat):ay:=(s.take i).map lo++s.drop i
theorem Pq (s:ay) (i:Nat) (h:i<=s.length):(lE s i).length=s.length:=by
 simp[lE];omega
theorem al9 (s:ay) (i:Nat) (h:i<s.length):(lE s i).getD i 0=s.getD i 0:=by
 unfold lE
 try dsimp only
 rw[sm s i h]
 simp only[af]
 try dsimp only
 rw[List.getElem?_append_right (by simp;omega)]
 simp[show min i s.length=i by omega]
theorem amb (s:ay) (i:Nat) (h:i<s.length):lE s (i+1)=(lE s i).set i (lo (s.getD i 0)):=by
 unfold lE
 try dsimp only
 rw[JT s i h,sm s i h,ff]
 have:((s.take i).map lo).length=i:=by simp;omega
 try dsimp only
 rw[List.set_append_right _ _ (by omega),this]
 simp
theorem ama (s:ay) (i:Nat) (h:i<s.length) (hl:ua (s.getD i 0)=false):lE s (i+1)=lE s i:=by
 unfold lE
 have e:lo (s.getD i 0)=s.getD i 0:=by unfold lo;rw[hl];rfl
 try dsimp only
 rw[JT s i h,sm s i h,ff,List.map_singleton,e]
 simp
theorem al8 (s:ay) (i:Nat) (h:s.length<=i):lE s i=lower s:=by
 unfold lE lower
 try dsimp only
 rw[mq h,List.drop_of_length_le h,gT]
theorem Xf {z:Int} {c:UInt8} (h:z=(c.toNat:Int)):ua c=(decide (65<=z)&&decide (z<=90)):=by
 try dsimp only
 rw[h];unfold ua
 try dsimp only
 rw[rY]
 simp[u2]
 omega
theorem alv {z:Int} {c:UInt8} (h:z=(c.toNat:Int)) (h1:65<=z) (h2:z<=90):z+32=((lo c).toNat:Int):=by
 have:=Xf h
 unfold lo
 try dsimp only
 rw[this,show decide (65<=z)=true by simpa using h1,show decide (z<=90)=true by simpa using h2]
 simp
 omega
theorem anR {z:Int} (h1:65<=z) (h2:z<=90):cf .or .u8 z 32=z+32:=by
 have h:∀i:Fin 26,cf .or .u8 (65+(i.val:Int)) 32=65+(i.val:Int)+32:=by decide+kernel
 have:=h ⟨(z-65).toNat,by omega⟩
 simp only at this
 rw[show(65+((z-65).toNat:Int))=z by omega]at this
 exact this
def nR (z0 ah:Int) (bl:List (List Int)):Prop:=∃(i:Nat) (r:Int),bl=[[(i:Int)],[r]]/\i<=(U z0).length/\ab r=mX (lE (U z0) i)
theorem nR.start {z0 ah:Int} (h:ah=aB 27 [z0]):nR z0 ah [[0],[ah]]:=by
 refine⟨0,ah,rfl,mr _,?_⟩
 try dsimp only
 rw[h];simp only[aB,dW]
 simp[lE,mX]
theorem nR.get {z0 z2 r z7:Int} {i:Nat} (h2:z2=aB 0 [z0]) (hr:ab r=mX (lE (U z0) i)) (hi:i<=(U z0).length) (hp:(i:Int)<z2):aa 30 [(i:Int),z2]/\aa 21 [r,(i:Int)]/\(z7=aB 21 [r,(i:Int),0]->z7=(((U z0).getD i 0).toNat:Int)):=by
 simp only[aB]at h2
 refine⟨⟨w5 _,hp⟩,⟨w5 _,?_⟩,λh=>?_⟩
 ·try dsimp only
  rw[hr,Qb,Pq _ _ hi];omega
 ·try dsimp only
  rw[h];simp only[aB]
  try dsimp only
  rw[hr,k9,YP _ _ (by rw[Pq _ _ hi];omega),al9 _ _ (by omega)]
  rfl
theorem nR.set {z0 ah z2 r z9 v:Int} {i:Nat} (h2:z2=aB 0 [z0]) (hr:ab r=mX (lE (U z0) i)) (hi:i<=(U z0).length) (hp:(i:Int)<z2) (hv:v=((lo ((U z0).getD i 0)).toNat:Int)) (h:z9=aB 42 [r,(i:Int),0,v]):nR z0 ah [[(i:Int)+1],[z9]]:=by
 simp only[aB]at h2
 refine⟨i+1,z9,by simp,by omega,?_⟩
 try dsimp only
 rw[h];simp only[aB,dW]
 have hl:i<(lE (U z0) i).length:=by rw[Pq _ _ hi];omega
 try dsimp only
 rw[hr,k9,YP _ _ hl,amb _ _ (by omega),<-apT,hv]
 rfl
theorem nR.same {z0 ah z2 r:Int} {i:Nat} (h2:z2=aB 0 [z0]) (hr:ab r=mX (lE (U z0) i)) (hi:i<=(U z0).length) (hp:(i:Int)<z2) (hg:ua ((U z0).getD i 0)=false):nR z0 ah [[(i:Int)+1],[r]]:=by
 simp only[aB]at h2
 refine⟨i+1,r,by simp,by omega,?_⟩
 try dsimp only
 rw[ama _ _ (by omega) hg,hr]
theorem nR.done {z0 z2 r:Int} {i:Nat} (h2:z2=aB 0 [z0]) (cJ:z0<=ch) (hr:ab r=mX (lE (U z0) i)) (hi:i<=(U z0).length) (hp:¬(i:Int)<z2):aa 35 [r,0,z2]/\∀z7,z7=aB 34 [r,0,z2]->U z7=lower (U z0):=by
 have rp:=tu cJ
 unfold fQ at rp
 simp only[aB]at h2
 have hm:=al8 (U z0) i (by omega)
 rw[hm]at hr
 have hlen:(lower (U z0)).length=(U z0).length:=by simp[lower]
 refine⟨⟨⟨by omega,by omega,by rw[hr,Qb,hlen];omega⟩,by omega⟩,λz7 h=>?_⟩
 try dsimp only
 rw[h];simp only[aB,fS]
 try dsimp only
 rw[hr,show((mX (lower (U z0))).drop (0:Int).toNat)=mX (lower (U z0)) from rfl,mq (by rw[Qb,hlen];omega),apS]
def Pk (z0:Int) (bl:List (List Int)):Nat:=(U z0).length-((bl.getD 0 []).getD 0 0).toNat
theorem Pl {z0 z2 r r':Int} {i:Nat} (h2:z2=aB 0 [z0]) (hp:(i:Int)<z2):Pk z0 [[(i:Int)+1],[r]]<Pk z0 [[(i:Int)],[r']]:=by
 simp only[aB]at h2
 show(U z0).length-((i:Int)+1).toNat<(U z0).length-(i:Int).toNat
 omega
theorem aoq:Sw SB (bO SB [.str] 28):=by
 intro z0 a0 a1 ah b0 b1 h1 z2 bT c1 h2 z3 d0 d1
 refine⟨nR z0 ah,Pk z0,nR.start h1,?_⟩
 rintro z5 bC e1 aq f0 f1 ⟨i,r,e,hi,hr⟩
 obtain⟨rfl,rfl⟩:z5=i/\aq=r:=by simpa using e
 refine⟨λhp=>?_,λhp=>?_⟩
 ·have hp:(i:Int)<z2:=by simpa using hp
  have hg:=λz7=>nR.get (z7:=z7) h2 hr hi hp
  refine⟨(hg 0).1,(hg 0).2.1,λz7 g0 g1 h7=>?_⟩
  have h7:=(hg z7).2.2 h7
  have hG:=Xf h7
  refine⟨λhA=>⟨λhB av jD k1 cq=>?_,λhB av jD k1 k2 k3=>?_⟩,λhA av jD k1 k2 k3=>?_⟩
  ·have Vp:65<=z7:=by simpa using hA
   have Vq:z7<=90:=by simpa using hB
   refine⟨(hg 0).1,(hg 0).2.1,λ_ z9 cm l1 bU aC m0 iG ey IT=>?_⟩
   try dsimp only
   rw[J2 (L:=z2) hp c1 bC m0 ey]
   refine⟨⟨by omega,by omega⟩,nR.set h2 hr hi hp ?_ bU,Pl h2 hp⟩
   try dsimp only
   rw[cq,anR Vp Vq,alv h7 Vp Vq]
  ·try dsimp only
   rw[J2 (L:=z2) hp c1 bC jD k2]
   refine⟨⟨by omega,by omega⟩,nR.same h2 hr hi hp ?_,Pl h2 hp⟩
   try dsimp only
   rw[hG,hB];simp
  ·try dsimp only
   rw[J2 (L:=z2) hp c1 bC jD k2]
   refine⟨⟨by omega,by omega⟩,nR.same h2 hr hi hp ?_,Pl h2 hp⟩
   try dsimp only
   rw[hG,hA];simp
 ·have hp:¬(i:Int)<z2:=by simpa using hp
  have hd:=nR.done h2 a1 hr hi hp
  exact⟨hd.1,λz7 g0 g1 h7=>⟨⟨g0,g1,trivial⟩,hd.2 z7 h7⟩⟩
end Go.cd
namespace Go.cd
open Go Go.bg
def St (S:Nat->List (List Int)->List (List Int)->Prop) (K:List (List Int)->List (List Int)->Prop):Prop:=
 cu λz0=>df 4 [z0,0] λah=>(aD ((!(decide (ah=1)))) (bF 0 [z0] λz2=>(aD (decide (z2<=230)) (cu λz3=>S 123 [[z0]] [[z3]]->df 4 [z3,0]
 λz4=>(aD (decide (z4=1)) (ea λz5=>S 65
 [[z0],[3092260449727753699381237987134896180985020549865866695797500355328521677512090486983914513878993150076419119825652852662229468458769751959831595687466918]]
 [[z5]]->(aD (decide (z5=1)) (cu λaq=>S 122 [[z0]] [[aq]]->df 4 [aq,z0] λz7=>(aD (decide (z7=1)) (aa 41 [z0]/\ea λav=>S 128 [[z0]]
 [[av]]->K [[z0]] [[(cond ((!(decide (av=1)))) 1 0)]]) (K [[z0]] [[(cond (false) 1 0)]]))) (K [[z0]] [[(cond (false) 1 0)]]))) (K [[z0]] [[(cond (false) 1
 0)]]))) (K [[z0]] [[(cond (false) 1 0)]]))) (K [[z0]] [[(cond (false) 1 0)]]))
def Sv (S:Nat->List (List Int)->List (List Int)->Prop) (K:List (List Int)->List (List Int)->Prop):Prop:=
 cu λz0=>df 4 [z0,0] λah=>(aD (decide (ah=1)) (K [[z0]] [[(cond (false) 1 0)]]) (bF 0 [z0] λz2=>(aD (decide (64<z2)) (K [[z0]] [[(cond
 (false) 1 0)]]) (ea λz3=>S 44
 [[z0],[74473080028620518966381883429228484808440201678127597570840141201138927665149786990616077870556514776478160775702785383470653111892427074463158448094822482491594731032954821022169486867841687777697]]
 [[z3]]->(aD ((!(decide (z3=1)))) (K [[z0]] [[(cond (false) 1 0)]]) (cu λz4=>S 121 [[z0]] [[z4]]->df 4 [z4,z0] λz5=>(aD (decide (z5=1)) (aa
 41 [z0]/\ea λaq=>S 128 [[z0]] [[aq]]->K [[z0]] [[(cond ((!(decide (aq=1)))) 1 0)]]) (K [[z0]] [[(cond (false) 1 0)]]))))))))
theorem IQ (p:UInt8->Bool) (l:ay):(jV p l).length<=l.length:=(List.dropWhile_sublist p).length_le
theorem apZ (p:UInt8->Bool) (l:ay):(jj p l).length<=l.length:=by
 unfold jj;rw[RB]
 have:=IQ p l.reverse
 rwa [RB]at this
theorem alW {p:UInt8->Bool} {l:ay} (h:l.length<=(jV p l).length):jV p l=l:=(List.dropWhile_suffix p).eq_of_length (Nat.le_antisymm (IQ p l) h)
theorem apY {p:UInt8->Bool} {l:ay} (h:l.length<=(jj p l).length):jj p l=l:=by
 have:jV p l.reverse=l.reverse:=alW (by unfold jj at h;rw[RB]at h;rw[RB];exact h)
 unfold jj;unfold jV at this;rw[this,List.reverse_reverse]
theorem U6 (r:ay) (x:UInt8):(r++[x]).getD r.length 0=x:=by simp[af]
theorem ara (p:UInt8->Bool) (s:ay):jF p s=s↔∀i,i<s.length->p (s.getD i 0)=true->0<i/\i+1<s.length:=by
 by_cases hs:s=[]
 ·subst hs;exact⟨λ_ i h=>by simp at h,λ_=>rfl⟩
 ·constructor
  ·intro h i hi hp
   have hl:s.length<=(jF p s).length:=by rw[h];exact a6 _
   have h1:=IQ p (jj p s)
   have hr:jj p s=s:=apY (Nat.le_trans hl h1)
   have ht:jV p s=s:=by unfold jF at h;rwa [hr]at h
   refine⟨Nat.pos_of_ne_zero λh0=>?_,Nat.lt_of_le_of_ne hi λh0=>?_⟩
   ·subst h0
    cases s with
    |nil=>exact hs rfl
    |cons x r=>
     have hp:p x=true:=hp
     have h2:jV p (x::r)=jV p r:=by simp[jV,zt,hp]
     have:=IQ p r
     rw[h2]at ht
     rw[ht]at this
     simp at this
     omega
   ·obtain⟨r,x,rfl⟩:=JJ hs
    have:i=r.length:=by simp at h0;omega
    subst this
    rw[U6]at hp
    rw[BV,hp,cond_true]at hr
    have:=apZ p r
    rw[hr]at this
    simp at this
    omega
  ·intro h
   have hr:jj p s=s:=by
    obtain⟨r,x,rfl⟩:=JJ hs
    try dsimp only
    rw[BV]
    cases hx:p x with
    |false=>rfl
    |true=>have:=(h r.length (by simp) (by rw[U6];exact hx)).2;simp at this
   unfold jF;rw[hr]
   cases s with
   |nil=>rfl
   |cons x r=>
    cases hx:p x with
    |false=>simp[jV,zt,hx]
    |true=>have:=(h 0 (by simp) hx).1;omega
theorem acg (p:UInt8->Bool) (s:ay):s.all p=true↔∀i,i<s.length->p (s.getD i 0)=true:=by
 try dsimp only
 rw[tf]
 constructor
 ·intro h i hi
  refine h _ ?_
  simp[af,hi]
 ·intro h x hx
  obtain⟨i,hi,rfl⟩:=List.getElem_of_mem hx
  have:=h i hi
  simpa [af,hi]using this
theorem adQ (s:ay):dd s=false↔∀i,i<s.length->¬(s.getD i 0=46/\s.getD (i+1) 0=46):=by
 unfold dd
 try dsimp only
 rw[List.any_eq_false]
 constructor
 ·intro h i hi ae
  exact h i (List.mem_range.2 hi) (by rw[ae.1,ae.2];rfl)
 ·intro h i hi ae
  rw[aK,beq_iff_eq,beq_iff_eq]at ae
  exact h i (List.mem_range.1 hi) ae
theorem amw (inn vw:UInt8->Bool) (s:ay):Ff inn vw s=true↔∀i,i<s.length->inn (s.getD i 0)=true/\(vw (s.getD i 0)=true->0<i/\i+1<s.length)/\¬(s.getD i 0=46/\0<i/\s.getD (i-1) 0=46):=by
 unfold Ff
 try dsimp only
 rw[tf]
 constructor
 ·intro h i hi
  have:=h i (List.mem_range.2 hi)
  simp only[aK,qL,js,w3,auY,beq_eq_false_iff_ne]at this
  refine⟨this.1.1,λhe=>?_,λae=>?_⟩
  ·rcases this.1.2 with h1|h1
   ·rw[h1]at he;cases he
   ·exact h1
  ·have h3:b7 0 i=true:=by rw[w3];exact ae.2.1
   rcases this.2 with(h1|h1)|h1
   ·exact h1 ae.1
   ·rw[h3]at h1;cases h1
   ·exact h1 ae.2.2
 ·intro h i hi
  obtain⟨h1,h2,h3⟩:=h i (List.mem_range.1 hi)
  simp only[aK,qL,js,w3,auY,beq_eq_false_iff_ne]
  refine⟨⟨h1,?_⟩,?_⟩
  ·cases he:vw (s.getD i 0)with
   |false=>exact .inl rfl
   |true=>exact .inr (h2 he)
  ·by_cases e1:s.getD i 0=46
   ·by_cases e2:s.getD (i-1) 0=46
    ·left;right
     cases hb:b7 0 i with
     |false=>rfl
     |true=>rw[w3]at hb;exact absurd ⟨e1,hb,e2⟩ h3
    ·exact .inr e2
   ·exact .inl (.inl e1)
theorem wC (inn vw:UInt8->Bool) (s:ay):Ff inn vw s=(s.all inn&&decide (jF vw s=s)&& !dd s):=by
 try dsimp only
 rw[rY,amw,aK,aK,acg,decide_eq_true_eq,ara,js,adQ]
 constructor
 ·intro h
  refine⟨⟨λi hi=>(h i hi).1,λi hi=>(h i hi).2.1⟩,λi hi ae=>?_⟩
  by_cases hj:i+1<s.length
  ·exact(h (i+1) hj).2.2 ⟨ae.2,by omega,by simpa using ae.1⟩
  ·have:s.getD (i+1) 0=0:=by simp[af,show s.length<=i+1 by omega]
   rw[this]at ae;exact absurd ae.2 (by decide)
 ·rintro⟨⟨h1,h2⟩,h3⟩ i hi
  refine⟨h1 i hi,h2 i hi,λae=>?_⟩
  exact h3 (i-1) (by omega) ⟨ae.2.2,by rw[show i-1+1=i by omega];exact ae.1⟩
theorem Uu {p:UInt8->Bool}:∀{l:ay},l.all p=true->l.dropWhile p=[]
 |[],_=>rfl
 |x::r,h=>by
  simp only[Kn,aK]at h
  try dsimp only
  rw[zt,if_pos h.1]
  exact Uu h.2
theorem QM {p:UInt8->Bool} {s:ay} (h:s.all p=true):jF p s=[]:=by
 have:jj p s=[]:=by
  unfold jj
  have:s.reverse.all p=true:=by rw[List.all_reverse];exact h
  try dsimp only
  rw[Uu this];rfl
 unfold jF;rw[this];rfl
theorem np {z a b:Int} (h:z=aB 4 [a,b]):decide (z=1)=decide (U a=U b):=by
 try dsimp only
 rw[h];simp only[aB]
 by_cases e:U a=U b<;>simp[e]
theorem Fb {z a:Int} (h:z=aB 4 [a,0]):(!decide (z=1))=b7 0 (U a).length:=by
 try dsimp only
 rw[eq_nil h]
 cases U a with
 |nil=>rfl
 |cons x r=>simp
theorem E1 {z a n:Int} (m:Nat) (hm:n=(m:Int)) (h:z=aB 0 [a]):decide (z<=n)=bw (U a).length m:=by
 try dsimp only
 rw[h,hm];simp only[aB]
 try dsimp only
 rw[rY,decide_eq_true_eq,u2];omega
theorem E2 {z a n:Int} (m:Nat) (hm:n=(m:Int)) (h:z=aB 0 [a]):decide (n<z)= !bw (U a).length m:=by
 try dsimp only
 rw[h,hm];simp only[aB]
 try dsimp only
 rw[rY,decide_eq_true_eq,js,<-Bool.not_eq_true,u2];omega
theorem il {z:Int} {b:Bool} (h:z=bh b):decide (z=1)=b:=by rw[h,Lu]
theorem wu {id:Nat} {zs:List (List Int)} {b:Bool} (h:SB id zs [[bh b]]):bO SB [.bool] id zs [[bh b]]:=⟨⟨(p5 b).1,(p5 b).2,trivial⟩,h⟩
theorem anL (s:ay) {n:Int} (hn:∀c,(U n).contains c=v8 c):(s.all λc=>(U n).contains c)=s.all v8:=by
 congr 1;funext c;exact hn c
theorem aon:St SB (bO SB [.bool] 47):=by
 intro z0 a0 a1 ah b0 b1 h1
 have bA:∀b:Bool,kR (U z0)=b->bO SB [.bool] 47 [[z0]] [[bh b]]:=λb h=>wu (by show bh b=bh (kR (U z0));rw[h])
 refine⟨λhp z2 bT c1 h2=>⟨λhq z3 d0 d1 h3 z4 bC e1 h4=>⟨λhr z5 f0 f1 h5=>?_,λhr=>bA false ?_⟩,λhq=>bA false ?_⟩,λhp=>bA false ?_⟩
 ·rw[Fb h1]at hp
  rw[E1 (n:=230) 230 rfl h2]at hq
  have h5:z5=bh ((U z0).all λc=>(U _).contains c):=h5
  rw[anL (U z0) (sd (by decide+kernel))]at h5
  try dsimp only
  rw[il h5]
  refine⟨λhs aq g0 g1 h6 z7 i0 i1 h7=>?_,λhs=>bA false ?_⟩
  ·have h6:U aq=jF Dv (U z0):=h6
   try dsimp only
   rw[np h7,h6]
   refine⟨λht=>⟨?_,λav fO dV cq=>?_⟩,λht=>bA false ?_⟩
   ·show(U z0).length<=4294967280
    rw[u2]at hq;omega
   ·have cq:av=bh (dd (U z0)):=cq
    try dsimp only
    rw[il cq]
    refine bA _ ?_
    unfold kR;rw[hp,hq,wC,hs,ht];rfl
   ·unfold kR;rw[wC,ht];simp
  ·unfold kR;rw[wC,hs];simp
 ·have h3:U z3=jF v8 (U z0):=h3
  rw[eq_nil h4,h3]at hr
  unfold kR;rw[wC]
  cases ha:(U z0).all v8 with
  |false=>simp
  |true=>rw[QM ha]at hr;simp at hr
 ·rw[E1 (n:=230) 230 rfl h2]at hq
  unfold kR;rw[hq];simp
 ·rw[Fb h1]at hp
  unfold kR;rw[hp];rfl
theorem aop:Sv SB (bO SB [.bool] 24):=by
 intro z0 a0 a1 ah b0 b1 h1
 have bA:∀b:Bool,qn (U z0)=b->bO SB [.bool] 24 [[z0]] [[bh b]]:=λb h=>wu (by show bh b=bh (qn (U z0));rw[h])
 have hn:=Fb h1
 refine⟨λhp=>bA false ?_,λhp z2 bT c1 h2=>⟨λhq=>bA false ?_,λhq z3 d0 d1 h3=>?_⟩⟩
 ·rw[hp]at hn;unfold qn;rw[<-hn];rfl
 ·rw[E2 (n:=64) 64 rfl h2,js]at hq
  unfold qn;rw[hq];simp
 ·rw[E2 (n:=64) 64 rfl h2,Cy]at hq
  rw[hp]at hn
  have h3:z3=bh ((U z0).all λc=>(U _).contains c):=h3
  have e:((U z0).all λc=>(U 74473080028620518966381883429228484808440201678127597570840141201138927665149786990616077870556514776478160775702785383470653111892427074463158448094822482491594731032954821022169486867841687777697).contains c)=(U z0).all EU:=congrArg (List.all (U z0)) (funext (sd (p:=EU) (by decide+kernel)))
  rw[e]at h3
  try dsimp only
  rw[il h3]
  refine⟨λhs=>bA false ?_,λhs z4 bC e1 h4 z5 f0 f1 h5=>?_⟩
  ·have hs:(U z0).all EU=false:=by simpa using hs
   unfold qn;rw[wC,hs];simp
  ·have hs:(U z0).all EU=true:=by simpa using hs
   have h4:U z4=jF (·==46) (U z0):=h4
   try dsimp only
   rw[np h5,h4]
   refine⟨λht=>⟨?_,λav fO dV cq=>?_⟩,λht=>bA false ?_⟩
   ·show(U z0).length<=4294967280
    rw[u2]at hq;omega
   ·have cq:av=bh (dd (U z0)):=cq
    try dsimp only
    rw[il cq]
    refine bA _ ?_
    unfold qn;rw[<-hn,hq,wC,hs,ht];rfl
   ·unfold qn;rw[wC,ht];simp
def SV (S:Nat->List (List Int)->List (List Int)->Prop) (K:List (List Int)->List (List Int)->Prop):Prop:=
 cu λz0=>cu λah=>cu λz2=>ea λz3=>S 126 [[z0]] [[ah],[z2],[z3]]->ea λz4=>S 47 [[ah]] [[z4]]->(aD (decide (z4=1)) ((aD ((!(decide (z3
 =1)))) (K [[z0]] [[(cond (true) 1 0)]]) (df 4 [z2,0] λz5=>(aD ((!(decide (z5=1)))) (bF 0 [z2] λaq=>(aD (decide (aq<=5)) (cu λz7=>S 124
 [[z2]] [[z7]]->df 4 [z7,0] λav=>(aD (decide (av=1)) (ea λz9=>S 65 [[z2],[284767230291263911083031]] [[z9]]->K [[z0]] [[(cond (decide (z9=1)) 1
 0)]]) (K [[z0]] [[(cond (false) 1 0)]]))) (K [[z0]] [[(cond (false) 1 0)]]))) (K [[z0]] [[(cond (false) 1 0)]]))))) (K [[z0]] [[(cond (false) 1 0)]]))
def Si (S:Nat->List (List Int)->List (List Int)->Prop) (K:List (List Int)->List (List Int)->Prop):Prop:=
 cu λz0=>cu λah=>S 120 [[z0]] [[ah]]->cu λz2=>cu λz3=>ea λz4=>S 125 [[ah]] [[z2],[z3],[z4]]->(aD ((!(decide (z4=1)))) (K [[z0]]
 [[0],[2]]) (bF 0 [ah] λz5=>(aD (decide (254<z5)) (K [[z0]] [[0],[2]]) (ea λaq=>S 24 [[z2]] [[aq]]->(aD ((!(decide (aq=1)))) (K [[z0]] [[0],[2]])
 (bY λz7=>S 73 [[z3],[58]] [[z7]]->(aD (decide (0<=z7)) (K [[z0]] [[0],[2]]) (ea λav=>S 127 [[z3]] [[av]]->(aD ((!(decide (av=1)))) (K [[z0]]
 [[0],[2]]) (ea λz9=>S 27 [[z3]] [[z9]]->(aD ((!(decide (z9=1)))) (K [[z0]] [[0],[2]]) (cu λaC=>S 28 [[ah]] [[aC]]->K [[z0]]
 [[aC],[0]]))))))))))))
theorem al6:v8 58=false:=by decide
theorem ai1 {s:ay} (h:kR s=true):¬(58:UInt8)∈s:=λhm=>by
 unfold kR at h
 rw[wC]at h
 simp only[aK]at h
 have:=List.all_eq_true.1 h.2.1.1 58 hm
 rw[al6]at this;cases this
theorem aqj {s:ay} (h:idx 58 s<0):ox s=kR s:=by
 have:decide (0<=idx 58 s)=false:=by simpa using h
 unfold ox nZ
 try dsimp only
 rw[this]
 simp
theorem aoN:SV SB (bO SB [.bool] 27):=by
 intro z0 a0 a1 ah b0 b1 z2 bT c1 z3 d0 d1 cw z4 bC e1 h4
 have cw:(U ah,U z2,z3)=nZ 58 (U z0):=cw
 have h4:z4=bh (kR (U ah)):=h4
 have hv:ox (U z0)=(kR (U ah)&&(decide (z3=0)||BI (U z2))):=by unfold ox;rw[<-cw]
 have bA:∀b:Bool,ox (U z0)=b->bO SB [.bool] 27 [[z0]] [[bh b]]:=λb h=>wu (by show bh b=bh (ox (U z0));rw[h])
 have h3:(!decide (z3=1))=decide (z3=0):=by
  rcases(show z3=0∨z3=1 by omega)with rfl|rfl<;>rfl
 try dsimp only
 rw[il h4,h3]
 refine⟨λhp=>⟨λhq=>bA true ?_,λhq z5 f0 f1 h5=>?_⟩,λhp=>bA false ?_⟩
 ·try dsimp only
  rw[hv,hp,hq];rfl
 ·have hn:=Fb h5
  refine⟨λhr aq g0 g1 h6=>⟨λhs z7 i0 i1 h7 av fO dV cq=>?_,λhs=>bA false ?_⟩,λhr=>bA false ?_⟩
  ·rw[hr]at hn
   rw[E1 (n:=5) 5 rfl h6]at hs
   have h7:U z7=jF iu (U z2):=h7
   try dsimp only
   rw[eq_nil cq,h7]
   refine⟨λht z9 jD k1 bU=>?_,λht=>bA false ?_⟩
   ·have bU:z9=bh ((U z2).all λc=>(U 284767230291263911083031).contains c):=bU
    have e:((U z2).all λc=>(U 284767230291263911083031).contains c)=(U z2).all iu:=congrArg (List.all (U z2)) (funext (sd (p:=iu) (by decide+kernel)))
    rw[e]at bU
    try dsimp only
    rw[il bU]
    refine bA _ ?_
    try dsimp only
    rw[hv,hp,hq];unfold BI;rw[<-hn,hs];simp
   ·try dsimp only
    rw[hv,hp,hq];unfold BI
    cases ha:(U z2).all iu with
    |false=>simp
    |true=>rw[QM ha]at ht;simp at ht
  ·rw[E1 (n:=5) 5 rfl h6]at hs
   try dsimp only
   rw[hv,hp,hq];unfold BI;rw[hs];simp
  ·rw[hr]at hn
   try dsimp only
   rw[hv,hp,hq];unfold BI;rw[<-hn];rfl
 ·try dsimp only
  rw[hv,hp];rfl
theorem EZ {id:Nat} {zs:List (List Int)} {a e:Int} (h0:0<=a) (h1:a<=ch) (bC:0<=e) (e1:e<=21) (h:SB id zs [[a],[e]]):bO SB [.str,.int .i64 0 21] id zs [[a],[e]]:=⟨⟨h0,h1,bC,e1,trivial⟩,h⟩
theorem Af {t:ay} (h:(decide (0<=idx 64 t)&&bw t.length 254&&qn (t.take (idx 64 t).toNat)&&kR (t.drop ((idx 64 t).toNat+1))&&(t.drop ((idx 64 t).toNat+1)).contains 46)=false):Dx t=([],2):=by unfold Dx;rw[h];rfl
theorem aoc:Si SB (bO SB [.str,.int .i64 0 21] 10):=by
 intro z0 a0 a1 ah b0 b1 h1 z2 bT c1 z3 d0 d1 z4 bC e1 cw
 have h1:U ah=jF (·==32) (U z0):=h1
 have cw:(U z2,U z3,z4)=nZ 64 (U ah):=cw
 have bA:Dx (U ah)=([],2)->bO SB [.str,.int .i64 0 21] 10 [[z0]] [[0],[2]]:=λh=>EZ (cn _) jw (by decide) (by decide) (by
  show(U 0,(2:Int))=vx (U z0)
  unfold vx;rw[<-h1,h];rfl)
 unfold nZ at cw
 cases hi:decide (0<=idx 64 (U ah))with
 |false=>
  rw[hi]at cw
  simp only[cond_false,cj]at cw
  obtain⟨_,_,rfl⟩:=cw
  exact⟨λ_=>bA (Af (by rw[hi];rfl)),λh=>by simp at h⟩
 |true=>
  rw[hi]at cw
  simp only[cond_true,cj]at cw
  obtain⟨h2,h3,rfl⟩:=cw
  refine⟨λh=>by simp at h,λ_ z5 f0 f1 h5=>⟨λhq=>bA (Af ?_),λhq aq g0 g1 h6=>?_⟩⟩
  ·rw[E2 (n:=254) 254 rfl h5,js]at hq
   try dsimp only
   rw[hq];simp
  ·rw[E2 (n:=254) 254 rfl h5,Cy]at hq
   have h6:aq=bh (qn (U z2)):=h6
   try dsimp only
   rw[il h6,h2]
   refine⟨λhl=>bA (Af ?_),λhl z7 i0 i1 h7=>?_⟩
   ·rw[js]at hl
    try dsimp only
    rw[hl];simp
   ·rw[Cy]at hl
    have h7:z7=idx 58 (U z3):=h7
    refine⟨λhc=>bA (Af ?_),λhc av fO dV cq=>?_⟩
    ·have AE:u8 58∈U z3:=by
      have:=Ir (c:=58) (by decide) (by decide) (U z3)
      rw[<-h7,hc]at this
      simpa using this.symm
     have:kR (U z3)=false:=by
      cases ae:kR (U z3)with
      |false=>rfl
      |true=>exact absurd AE (ai1 ae)
     try dsimp only
     rw[<-h3,this];simp
    ·have hlt:idx 58 (U z3)<0:=by rw[<-h7];simpa using hc
     have cq:av=bh ((U z3).contains 46):=cq
     try dsimp only
     rw[il cq]
     refine⟨λhd=>bA (Af ?_),λhd z9 jD k1 bU=>?_⟩
     ·rw[js]at hd
      try dsimp only
      rw[<-h3,hd];simp
     ·rw[Cy]at hd
      have bU:z9=bh (ox (U z3)):=bU
      try dsimp only
      rw[il bU,aqj hlt]
      refine⟨λae=>bA (Af ?_),λae aC cm l1 c8=>?_⟩
      ·rw[js]at ae
       try dsimp only
       rw[<-h3,ae];simp
      ·rw[Cy]at ae
       have c8:U aC=lower (U ah):=c8
       refine EZ cm l1 (by decide) (by decide) ?_
       show(U aC,(0:Int))=vx (U z0)
       unfold vx Dx
       try dsimp only
       rw[<-h1,hi,hq,hl,<-h3,ae,hd,c8]
       rfl
theorem QN {r:List Int} (h:aO (c7 0 ch 2) r):∃a b,r=[a,b]/\0<=a/\a<=ch/\0<=b/\b<=ch:=by
 match r,h with
 |[a,b],h=>exact⟨a,b,rfl,h.1,h.2.1,h.2.2.1,h.2.2.2.1⟩
theorem ak3 {z a b:Int} (h:z=aB 5 [a,b]):decide (z=1)=dj (U a) (U b):=by
 try dsimp only
 rw[h];simp only[aB]
 cases dj (U a) (U b)<;>simp
theorem E3:∀l:ay,dj l l=false
 |[]=>rfl
 |x::r=>by
  have:=E3 r
  simp[dj,this]
def S6 (S:Nat->List (List Int)->List (List Int)->Prop) (K:List (List Int)->List (List Int)->Prop):Prop:=
 cu λz0=>cu λah=>bF 0 [z0] λz2=>bF 0 [ah] λz3=>(aD (decide (z3<=z2)) (bF 0 [ah] λz4=>aa 2 [z0,0,z4]/\bW 2 [z0,0,z4] λz5=>
 df 4 [z5,ah] λaq=>(aD (decide (aq=1)) (bF 0 [ah] λz7=>bF 0 [z0] λav=>aa 2 [z0,z7,av]/\bW 2 [z0,z7,av] λz9=>K [[z0],[ah]] [[z9]]) (K
 [[z0],[ah]] [[z0]]))) (K [[z0],[ah]] [[z0]]))
def SK (S:Nat->List (List Int)->List (List Int)->Prop) (K:List (List Int)->List (List Int)->Prop):Prop:=
 cu λz0=>cu λah=>(aa 44 [z0,ah]->∀r2:List Int,aO (c7 0 ch 2) r2->ea λz4=>S 32 [[z0]] [r2,[z4]]->(aD ((!(decide (z4=1)))) (K
 [[z0],[ah]] [[0],[7]]) (cu λz5=>ea λaq=>ea λz7=>S 33 [[ah]] [[z5],[aq],[z7]]->(aD ((!(decide (z7=1)))) (K [[z0],[ah]] [[0],[2]]) ((aD
 ((!(decide (aq=1)))) (df 4 [z0,0] λav=>(aD ((!(decide (av=1)))) (cu λz9=>S 34 [[z5],[(af r2 1 0)]] [[z9]]->aa 3 [(af r2 0 0),z9]
 /\bW 3 [(af r2 0 0),z9] λaC=>bF 0 [aC] λbf=>(aD (decide (bf<6)) (K [[z0],[ah]] [[0],[2]]) (bF 0 [aC] λz12=>(aD (decide (15<
 z12)) (K [[z0],[ah]] [[0],[2]]) (aa 1 [aC,0]/\ao 1 [aC,0] λag=>(aD (decide (ag=48)) (K [[z0],[ah]] [[0],[2]]) (K [[z0],[ah]] [[aC],[0]])))))))
 (bF 0 [z5] λz9=>(aD (decide (z9<6)) (K [[z0],[ah]] [[0],[2]]) (bF 0 [z5] λaC=>(aD (decide (15<aC)) (K [[z0],[ah]] [[0],[2]]) (aa 1 [z5,0]/\
 ao 1 [z5,0] λbf=>(aD (decide (bf=48)) (K [[z0],[ah]] [[0],[2]]) (K [[z0],[ah]] [[z5],[0]]))))))))) (bF 0 [z5] λav=>(aD (decide (av<6)) (K
 [[z0],[ah]] [[0],[2]]) (bF 0 [z5] λz9=>(aD (decide (15<z9)) (K [[z0],[ah]] [[0],[2]]) (aa 1 [z5,0]/\ao 1 [z5,0] λaC=>(aD (decide (aC=48))
 (K [[z0],[ah]] [[0],[2]]) (K [[z0],[ah]] [[z5],[0]])))))))))))))
theorem aoY:S6 SB (bO SB [.str] 34):=by
 intro z0 a0 a1 ah b0 b1 z2 bT c1 h2 z3 d0 d1 h3
 have bA:∀x:Int,0<=x->x<=ch->U x=cond ((U ah).isPrefixOf (U z0)) ((U z0).drop (U ah).length) (U z0)->bO SB [.str] 34 [[z0],[ah]] [[x]]:=λx h0 h1 h=>⟨⟨h0,h1,trivial⟩,h⟩
 simp only[aB]at h2 h3
 refine⟨λhp z4 bC e1 h4=>⟨?_,λz5 f0 f1 h5 aq g0 g1 h6=>?_⟩,λhp=>bA _ a0 a1 ?_⟩
 ·simp only[aB]at h4
  have hp:z3<=z2:=by simpa using hp
  exact⟨by omega,by omega,by omega⟩
 ·simp only[aB]at h4
  have hp:z3<=z2:=by simpa using hp
  have oL:U z5=(U z0).take (U ah).length:=by rw[h5];simp[aB,fS,h4]
  have gJ:(U ah).isPrefixOf (U z0)=decide (U z5=U ah):=by
   try dsimp only
   rw[rY,List.isPrefixOf_iff_prefix,List.prefix_iff_eq_take,decide_eq_true_eq,oL]
   exact eq_comm
  try dsimp only
  rw[np h6,<-gJ]
  refine⟨λhq z7 i0 i1 h7 av fO dV cq=>?_,λhq=>bA _ a0 a1 (by rw[hq];rfl)⟩
  simp only[aB]at h7 cq
  refine⟨⟨by omega,by omega,by omega⟩,λz9 jD k1 bU=>bA _ jD k1 ?_⟩
  try dsimp only
  rw[hq,bU];simp only[aB,fS,cond_true]
  try dsimp only
  rw[show z7.toNat=(U ah).length by omega]
  exact mq (by simp;omega)
 ·have hp:¬z3<=z2:=by simpa using hp
  cases hc:(U ah).isPrefixOf (U z0)with
  |false=>rfl
  |true=>
   have:=(List.isPrefixOf_iff_prefix.1 hc).length_le
   omega
theorem C6:∀(s d:ay) (p:Bool) {d':ay} {p':Bool},fs s d p=some (d',p')->d'.length<=d.length+s.length
 |[],d,p,d',p',h=>by
  simp only[fs,aG,cj]at h
  try dsimp only
  rw[h.1];simp
 |c::r,d,p,d',p',h=>by
  unfold fs at h
  cases h1:iu c with
  |true=>
   rw[h1,cond_true]at h
   have:=C6 r _ _ h
   simp at this⊢;omega
  |false=>
   rw[h1,cond_false]at h
   cases h2:(c==43&&d.isEmpty&& !p)with
   |true=>
    rw[h2,cond_true]at h
    have:=C6 r _ _ h
    simp at this⊢;omega
   |false=>
    rw[h2,cond_false]at h
    cases h3:zi.contains c with
    |true=>
     rw[h3,cond_true]at h
     have:=C6 r _ _ h
     simp at this⊢;omega
    |false=>rw[h3,cond_false]at h;cases h
theorem Ug {w c t:ay} (h:nY w=some (c,t)):c.length<=2:=by
 unfold nY at h
 cases h0:(w==[])with
 |true=>rw[h0,cond_true]at h;simp only[aG,cj]at h;rw[<-h.1];decide
 |false=>
  rw[h0,cond_false]at h
  cases h1:(w==[71,66])with
  |true=>rw[h1,cond_true]at h;simp only[aG,cj]at h;rw[<-h.1];decide
  |false=>
   rw[h1,cond_false]at h
   cases h2:(w==[85,83])with
   |true=>rw[h2,cond_true]at h;simp only[aG,cj]at h;rw[<-h.1];decide
   |false=>
    rw[h2,cond_false]at h
    cases h3:(w==[68,69])with
    |true=>rw[h3,cond_true]at h;simp only[aG,cj]at h;rw[<-h.1];decide
    |false=>
     rw[h3,cond_false]at h
     cases h4:(w==[70,82])with
     |true=>rw[h4,cond_true]at h;simp only[aG,cj]at h;rw[<-h.1];decide
     |false=>
      rw[h4,cond_false]at h
      cases h5:(w==[67,72])with
      |true=>rw[h5,cond_true]at h;simp only[aG,cj]at h;rw[<-h.1];decide
      |false=>
       rw[h5,cond_false]at h
       cases h
theorem PQ {w s:ay} {z n:Int} (zs:List (List Int)) (id:Nat) (hid:∀a e,(U a,e)=qt w s->SB id zs [[a],[e]]) (n0:0<=n) (n1:n<=ch) (hf:qt w s=wH (U n)):
 ∀bf:Int,0<=bf->bf<=9223372036854775807->bf=aB 0 [n]->
  (((decide (bf<6))=true->
   bO SB [.str,.int .i64 0 21] id zs [[0],[2]]
  )/\((decide (bf<6))=false->
   ∀z12:Int,0<=z12->z12<=9223372036854775807->z12=aB 0 [n]->
   (((decide (15<z12))=true->
    bO SB [.str,.int .i64 0 21] id zs [[0],[2]]
   )/\((decide (15<z12))=false->
    aa 1 [n,0]/\
    ∀ag:Int,0<=ag->ag<=255->ag=aB 1 [n,0]->
    (((decide (ag=48))=true->
     bO SB [.str,.int .i64 0 21] id zs [[0],[2]]
    )/\((decide (ag=48))=false->
     bO SB [.str,.int .i64 0 21] id zs [[n],[0]]
    ))
   ))
  )):=by
 intro ah a0 a1 h1
 have e1:decide (ah<6)=b7 (U n).length 6:=by
  try dsimp only
  rw[h1];simp only[aB];rw[rY,decide_eq_true_eq,w3];omega
 have bA:wH (U n)=([],2)->bO SB [.str,.int .i64 0 21] id zs [[0],[2]]:=λh=>EZ (cn _) jw (by decide) (by decide) (hid _ _ (by rw[hf,h];rfl))
 try dsimp only
 rw[e1]
 refine⟨λh=>bA (by unfold wH;rw[h];rfl),λh z2 b0 b1 h2=>?_⟩
 have e2:decide (15<z2)=b7 15 (U n).length:=by
  try dsimp only
  rw[h2];simp only[aB];rw[rY,decide_eq_true_eq,w3];omega
 try dsimp only
 rw[e2]
 refine⟨λh'=>bA (by unfold wH;rw[h,h'];rfl),λh'=>⟨⟨cn _,?_⟩,λz3 bT c1 h3=>?_⟩⟩
 ·have:¬b7 (U n).length 6=true:=by rw[h];simp
  rw[w3]at this;omega
 ·have bt:decide (z3=48)=((U n).getD 0 0==48):=by
   try dsimp only
   rw[h3];simp only[aB,u3]
   try dsimp only
   rw[rY,decide_eq_true_eq,JX (by decide) (by decide)];rfl
  try dsimp only
  rw[bt]
  refine⟨λh3=>bA (by unfold wH;rw[h,h',h3];rfl),λh3=>EZ n0 n1 (by decide) (by decide) (hid _ _ ?_)⟩
  try dsimp only
  rw[hf];unfold wH;rw[h,h',h3];rfl
theorem aoD:SK SB (bO SB [.str,.int .i64 0 21] 12):=by
 intro z0 a0 a1 ah b0 b1 hq r2 h2 z4 bT c1 hc
 obtain⟨c,t,rfl,x0,x1,jH,jn⟩:=QN h2
 have hid:∀a e,(U a,e)=qt (U z0) (U ah)->SB 12 [[z0],[ah]] [[a],[e]]:=λ_ _ h=>h
 have hq:U z0=[]∨(U ah).length<=4294967280:=hq
 have hc:(match nY (U z0)with|some (code,nK)=>U c=code/\U t=nK/\z4=1|none=>z4=0/\U c=[]/\U t=[]):=hc
 have bA:∀e:Int,0<=e->e<=21->qt (U z0) (U ah)=([],e)->bO SB [.str,.int .i64 0 21] 12 [[z0],[ah]] [[0],[e]]:=λe bC e1 h=>EZ (cn _) jw bC e1 (hid _ _ (by rw[h];rfl))
 cases kj:nY (U z0)with
 |none=>
  rw[kj]at hc
  obtain⟨rfl,_⟩:=hc
  exact⟨λ_=>bA 7 (by decide) (by decide) (by unfold qt;rw[kj]),λh=>by simp at h⟩
 |some Dm=>
  obtain⟨code,nK⟩:=Dm
  rw[kj]at hc
  obtain⟨HT,AU,rfl⟩:=hc
  refine⟨λh=>by simp at h,λ_ z5 d0 d1 aq bC e1 z7 f0 f1 hb=>?_⟩
  have hb:(match fs (U ah) [] false with|some (d',p')=>U z5=d'/\aq=bh p'/\z7=1|none=>U z5=[]/\aq=0/\z7=0):=hb
  cases vN:fs (U ah) [] false with
  |none=>
   rw[vN]at hb
   obtain⟨_,_,rfl⟩:=hb
   exact⟨λ_=>bA 2 (by decide) (by decide) (by unfold qt;rw[kj];simp only[vN]),λh=>by simp at h⟩
  |some adT=>
   obtain⟨d,p⟩:=adT
   rw[vN]at hb
   obtain⟨hd,hp,rfl⟩:=hb
   have hf:qt (U z0) (U ah)=wH (Fk (U z0) code nK d p):=by unfold qt;rw[kj];simp only[vN]
   have hlen:=C6 _ _ _ vN
   refine⟨λh=>by simp at h,λ_=>?_⟩
   try dsimp only
   rw[il hp]
   refine⟨λhp=>λav g0 g1 cq=>?_,λhp=>PQ (z:=0) _ 12 hid d0 d1 ?_⟩
   ·try dsimp only
    rw[eq_nil cq]
    refine⟨λhw z9 i0 i1 bU=>?_,λhw=>PQ (z:=0) _ 12 hid d0 d1 ?_⟩
    ·have bU:U z9=cond ((U t).isPrefixOf (U z5)) ((U z5).drop (U t).length) (U z5):=bU
     have aiC:(U z9).length<=(U z5).length:=by
      try dsimp only
      rw[bU];cases(U t).isPrefixOf (U z5)<;>simp
     refine⟨?_,λaC fO dV c8=>PQ (z:=0) _ 12 hid fO dV ?_⟩
     ·show(U c).length+(U z9).length<=fQ
      have:=Ug kj
      have hq:(U ah).length<=4294967280:=by
       rcases hq with h|h
       ·have hw:(!(U z0==[]))=true:=hw
        rw[h]at hw;cases hw
       ·exact h
      try dsimp only
      rw[HT];rw[hd]at aiC;unfold fQ;simp at hlen;omega
     ·try dsimp only
      rw[hf]
      have:U aC=U c++U z9:=by rw[c8];simp only[aB,fS];rfl
      try dsimp only
      rw[this,bU,HT,AU,hd]
      unfold Fk
      have hw:(!(U z0==[]))=true:=hw
      try dsimp only
      rw[hp,hw];rfl
    ·try dsimp only
     rw[hf,hd];unfold Fk
     have hw:(!(U z0==[]))=false:=hw
     try dsimp only
     rw[hp,hw];rfl
   ·try dsimp only
    rw[hf,hd];unfold Fk;rw[hp];rfl
end Go.cd
namespace Go.cd
open Go Go.bg
def Sy (S:Nat->List (List Int)->List (List Int)->Prop) (K:List (List Int)->List (List Int)->Prop):Prop:=
 cu λz0=>cu λah=>df 4 [z0,477315081741] λz2=>(aD (decide (z2=1)) (cu λz3=>eW 0 21 λz4=>S 10 [[ah]] [[z3],[z4]]->(aD ((!(decide (z4=
 0)))) (K [[z0],[ah]] [[0,0],[z4]]) (K [[z0],[ah]] [[z0,z3],[0]]))) (df 4 [z0,124890778723732] λz3=>(aD (decide (z3=1)) (aa 44 [0,ah]/\cu λz4=>eW
 0 21 λz5=>S 12 [[0],[ah]] [[z4],[z5]]->(aD ((!(decide (z5=0)))) (K [[z0],[ah]] [[0,0],[z5]]) (K [[z0],[ah]] [[z0,z4],[0]]))) (K [[z0],[ah]]
 [[0,0],[1]]))))
def SS (S:Nat->List (List Int)->List (List Int)->Prop) (K:List (List Int)->List (List Int)->Prop):Prop:=
 ∀aV:List Int,aO (c7 0 ch 2) aV->∀r2:List Int,aO (c7 0 ch 2) r2->eW 0 21 λz4=>S 15 [[(af aV 0 0)],[(af aV 1 0)]] [r2,[z4]]->
 (aD (decide (z4=0)) (df 4 [(af aV 0 0),(af r2 0 0)] λz5=>df 4 [(af aV 1 0),(af r2 1 0)] λaq=>K [aV] [[(cond (decide
 ([z5,aq]=[1,1])) 1 0)]]) (K [aV] [[(cond (false) 1 0)]]))
theorem akk:U 477315081741=Dw:=by decide+kernel
theorem akm:U 124890778723732=E9:=by decide+kernel
theorem akz {id:Nat} {zs:List (List Int)} {a b e:Int} (a0:0<=a) (a1:a<=ch) (b0:0<=b) (b1:b<=ch) (bC:0<=e) (e1:e<=21) (h:SB id zs [[a,b],[e]]):bO SB [.mix [.str,.str],.int .i64 0 21] id zs [[a,b],[e]]:=⟨⟨a0,a1,b0,b1,bC,e1,trivial⟩,h⟩
theorem aos:Sy SB (bO SB [.mix [.str,.str],.int .i64 0 21] 15):=by
 intro z0 a0 a1 ah b0 b1 z2 bT c1 h2
 have bA:∀a b e:Int,0<=a->a<=ch->0<=b->b<=ch->0<=e->e<=21->(U a,U b,e)=qp (U z0) (U ah)->bO SB [.mix [.str,.str],.int .i64 0 21] 15 [[z0],[ah]] [[a,b],[e]]:=λa b e h1 h2 h3 h4 h5 h6 h=>akz h1 h2 h3 h4 h5 h6 h
 try dsimp only
 rw[np h2,akk]
 refine⟨λtL z3 d0 d1 z4 bC e1 h=>?_,λtL z3 d0 d1 h3=>?_⟩
 ·have hm:(U z0==Dw)=true:=by simpa using tL
  have h:(U z3,z4)=vx (U ah):=h
  have gz:qp (U z0) (U ah)=wx (U z0) (U z3,z4):=by unfold qp;rw[hm,<-h];rfl
  refine⟨λhz=>bA 0 0 z4 (cn _) jw (cn _) jw bC e1 ?_,λhz=>bA z0 z3 0 a0 a1 d0 d1 (by decide) (by decide) ?_⟩
  ·try dsimp only
   rw[gz];unfold wx;rw[show decide (z4=0)=false by simpa using hz];rfl
  ·try dsimp only
   rw[gz];unfold wx;rw[show decide (z4=0)=true by simpa using hz];rfl
 ·have hm:(U z0==Dw)=false:=by
   have:¬U z0=Dw:=by simpa using tL
   simpa using this
  try dsimp only
  rw[np h3,akm]
  refine⟨λcw=>⟨.inl (by decide),λz4 bC e1 z5 f0 f1 h=>?_⟩,λcw=>bA 0 0 1 (cn _) jw (cn _) jw (by decide) (by decide) ?_⟩
  ·have hs:(U z0==E9)=true:=by simpa using cw
   have h:(U z4,z5)=qt (U 0) (U ah):=h
   have gz:qp (U z0) (U ah)=wx (U z0) (U z4,z5):=by unfold qp;rw[hm,hs,h];rfl
   refine⟨λhz=>bA 0 0 z5 (cn _) jw (cn _) jw f0 f1 ?_,λhz=>bA z0 z4 0 a0 a1 bC e1 (by decide) (by decide) ?_⟩
   ·try dsimp only
    rw[gz];unfold wx;rw[show decide (z5=0)=false by simpa using hz];rfl
   ·try dsimp only
    rw[gz];unfold wx;rw[show decide (z5=0)=true by simpa using hz];rfl
  ·have hs:(U z0==E9)=false:=by
    have:¬U z0=E9:=by simpa using cw
    simpa using this
   unfold qp;rw[hm,hs];rfl
theorem aoL:SS SB (bO SB [.bool] 16):=by
 intro aV h0
 obtain⟨a,b,rfl,_⟩:=QN h0
 have bA:∀x:Bool,rK (U a) (U b)=x->bO SB [.bool] 16 [[a,b]] [[bh x]]:=λx h=>wu (by show bh x=bh (rK (U a) (U b));rw[h])
 refineλr2 h2 z4 bT c1 gz=>?_
 obtain⟨c,d,rfl,_⟩:=QN h2
 have gz:(U c,U d,z4)=qp (U a) (U b):=gz
 have hR:rK (U a) (U b)=(decide (z4=0)&&(U a==U c)&&(U b==U d)):=by unfold rK;rw[<-gz]
 refine⟨λhz z5 d0 d1 h5 aq bC e1 h6=>?_,λhz=>bA false (by rw[hR,hz];rfl)⟩
 have h5:z5=aB 4 [a,c]:=h5
 have h6:aq=aB 4 [b,d]:=h6
 have oL:=np h5
 have iM:=np h6
 refine bA _ ?_
 try dsimp only
 rw[hR,hz,Cv,rY]
 have Dt:z5=1↔U a=U c:=by rw[<-decide_eq_true_eq (p:=z5=1),oL,decide_eq_true_eq]
 have Du:aq=1↔U b=U d:=by rw[<-decide_eq_true_eq (p:=aq=1),iM,decide_eq_true_eq]
 simp only[aK,beq_iff_eq,decide_eq_true_eq,hS,and_true,Dt,Du]
theorem acE {s d:ay} {p:Bool} {i:Nat} (hi:i<s.length):fs (s.drop i) d p=cond (iu (s.getD i 0)) (fs (s.drop (i+1)) (d++[s.getD i 0]) p) (cond (s.getD i 0==43&&d.isEmpty&& !p) (fs (s.drop (i+1)) d true) (cond (zi.contains (s.getD i 0)) (fs (s.drop (i+1)) d p) none)):=by
 try dsimp only
 rw[sm s i hi,fs]
theorem adK {w c t:ay} (h:nY w=some (c,t)):t=[]∨t=[48]:=by
 unfold nY at h
 cases h0:(w==[])with
 |true=>rw[h0,cond_true]at h;simp only[aG,cj]at h;rw[<-h.2];decide
 |false=>
  rw[h0,cond_false]at h
  cases h1:(w==[71,66])with
  |true=>rw[h1,cond_true]at h;simp only[aG,cj]at h;rw[<-h.2];decide
  |false=>
   rw[h1,cond_false]at h
   cases h2:(w==[85,83])with
   |true=>rw[h2,cond_true]at h;simp only[aG,cj]at h;rw[<-h.2];decide
   |false=>
    rw[h2,cond_false]at h
    cases h3:(w==[68,69])with
    |true=>rw[h3,cond_true]at h;simp only[aG,cj]at h;rw[<-h.2];decide
    |false=>
     rw[h3,cond_false]at h
     cases h4:(w==[70,82])with
     |true=>rw[h4,cond_true]at h;simp only[aG,cj]at h;rw[<-h.2];decide
     |false=>
      rw[h4,cond_false]at h
      cases h5:(w==[67,72])with
      |true=>rw[h5,cond_true]at h;simp only[aG,cj]at h;rw[<-h.2];decide
      |false=>
       rw[h5,cond_false]at h
       cases h
end Go.cd
namespace Go.cd
open Go Go.bg
def Ta (S:Nat->List (List Int)->List (List Int)->Prop) (K:List (List Int)->List (List Int)->Prop):Prop:=
 cu λz0=>df 4 [z0,0] λah=>(aD (decide (ah=1)) (K [[z0]] [[z0]]) (∃(fy:List (List Int)->Prop) (iK:List (List Int)->Nat),fy [[z0]]/\(cu λ
 z3=>fy [[z3]]->bF 0 [z3] λz4=>(aD (decide (0<z4)) (bF 0 [z3] λz5=>aa 1 [z3,(z5+(-1))]/\ao 1 [z3,(z5+(-1))] λaq=>df 43
 [79221403731691789204265450354666987086070872538664503581038852739373042335165977954796146613462291367,aq] λz7=>(aD ((!(decide (z7=1)))) (∃(ig:List
 (List Int)->Prop) (lg:List (List Int)->Nat),ig [[z3]]/\(cu λz9=>ig [[z9]]->bF 0 [z9] λaC=>(aD (decide (0<aC)) (aa 1 [z9,0]/\ao 1
 [z9,0] λbf=>df 43 [79221403731691789204265450354666987086070872538664503581038852739373042335165977954796146613462291367,bf] λz12=>(aD ((!(decide
 (z12=1)))) (K [[z0]] [[z9]]) (bF 0 [z9] λag=>aa 2 [z9,1,ag]/\bW 2 [z9,1,ag] λak=>(ig [[ak]]/\lg [[ak]]<lg [[z9]])))) (K [[z0]]
 [[z9]])))) (bF 0 [z3] λav=>aa 2 [z3,0,(av+(-1))]/\bW 2 [z3,0,(av+(-1))] λz9=>(fy [[z9]]/\iK [[z9]]<iK [[z3]])))) (∃(hU:List (List Int)
 ->Prop) (j8:List (List Int)->Nat),hU [[z3]]/\(cu λaq=>hU [[aq]]->bF 0 [aq] λz7=>(aD (decide (0<z7)) (aa 1 [aq,0]/\ao 1 [aq,0] λav
 =>df 43 [79221403731691789204265450354666987086070872538664503581038852739373042335165977954796146613462291367,av] λz9=>(aD ((!(decide (z9=1)))) (K
 [[z0]] [[aq]]) (bF 0 [aq] λaC=>aa 2 [aq,1,aC]/\bW 2 [aq,1,aC] λbf=>(hU [[bf]]/\j8 [[bf]]<j8 [[aq]])))) (K [[z0]] [[aq]]))))))))
def S8 (S:Nat->List (List Int)->List (List Int)->Prop) (K:List (List Int)->List (List Int)->Prop):Prop:=
 cu λz0=>df 4 [z0,0] λah=>(aD (decide (ah=1)) (K [[z0]] [[z0]]) (∃(fy:List (List Int)->Prop) (iK:List (List Int)->Nat),fy [[z0]]/\(cu λ
 z3=>fy [[z3]]->bF 0 [z3] λz4=>(aD (decide (0<z4)) (bF 0 [z3] λz5=>aa 1 [z3,(z5+(-1))]/\ao 1 [z3,(z5+(-1))] λaq=>df 43
 [125171368403152129163724030630095823892214485118700356753273476726430036133312942901998522965911142354738647179312425756528940035478207487514564356937,aq] λ
 z7=>(aD ((!(decide (z7=1)))) (∃(ig:List (List Int)->Prop) (lg:List (List Int)->Nat),ig [[z3]]/\(cu λz9=>ig [[z9]]->bF 0 [z9] λaC=>
 (aD (decide (0<aC)) (aa 1 [z9,0]/\ao 1 [z9,0] λbf=>df 43
 [125171368403152129163724030630095823892214485118700356753273476726430036133312942901998522965911142354738647179312425756528940035478207487514564356937,bf] λ
 z12=>(aD ((!(decide (z12=1)))) (K [[z0]] [[z9]]) (bF 0 [z9] λag=>aa 2 [z9,1,ag]/\bW 2 [z9,1,ag] λak=>(ig [[ak]]/\lg [[ak]]<lg
 [[z9]])))) (K [[z0]] [[z9]])))) (bF 0 [z3] λav=>aa 2 [z3,0,(av+(-1))]/\bW 2 [z3,0,(av+(-1))] λz9=>(fy [[z9]]/\iK [[z9]]<iK [[z3]])))) (∃
 (hU:List (List Int)->Prop) (j8:List (List Int)->Nat),hU [[z3]]/\(cu λaq=>hU [[aq]]->bF 0 [aq] λz7=>(aD (decide (0<z7)) (aa 1 [aq,0]/\
 ao 1 [aq,0] λav=>df 43
 [125171368403152129163724030630095823892214485118700356753273476726430036133312942901998522965911142354738647179312425756528940035478207487514564356937,av] λ
 z9=>(aD ((!(decide (z9=1)))) (K [[z0]] [[aq]]) (bF 0 [aq] λaC=>aa 2 [aq,1,aC]/\bW 2 [aq,1,aC] λbf=>(hU [[bf]]/\j8 [[bf]]<j8
 [[aq]])))) (K [[z0]] [[aq]]))))))))
theorem ao2:Ta SB (bO SB [.str] 202):=Fh (n:=79221403731691789204265450354666987086070872538664503581038852739373042335165977954796146613462291367) (p:=Iv) (sd (by decide+kernel)) λ_ _=>rfl
theorem ao0:S8 SB (bO SB [.str] 203):=Fh (n:=125171368403152129163724030630095823892214485118700356753273476726430036133312942901998522965911142354738647179312425756528940035478207487514564356937) (p:=Iu) (sd (by decide+kernel)) λ_ _=>rfl
theorem aqP {s z L:Int} {n:Nat} (hz:z=(n:Int)) (h:n<=(U s).length) (cJ:L=aB 0 [s]):(0<=z/\z<=L/\L<=((U s).length:Int))/\∀y,y=aB 2 [s,z,L]->U y=(U s).drop n:=by
 subst hz
 simp only[aB]at cJ
 refine⟨⟨by omega,by omega,by omega⟩,λy hy=>?_⟩
 rw[hy];simp only[aB,fS]
 rw[show((n:Int)).toNat=n by omega]
 exact mq (by simp;omega)
theorem Xl {id:Nat} {zs:List (List Int)} {a b:Int} {c:Bool} (a0:0<=a) (a1:a<=ch) (b0:0<=b) (b1:b<=ch) (h:SB id zs [[a],[b],[bh c]]):bO SB [.str,.str,.bool] id zs [[a],[b],[bh c]]:=⟨⟨a0,a1,b0,b1,(p5 c).1,(p5 c).2,trivial⟩,h⟩
theorem Yn {k:UInt8} {s:ay} (h:(b7 0 s.length&&bw s.length 255&&s.getD 0 0==k&&decide (0<=idx 58 s)&&ox (s.drop ((idx 58 s).toNat+1)))=false):pJ k s=([],[],0):=by unfold pJ;rw[h];rfl
end Go.cd
namespace Go.cd
open Go Go.bg
def Tb (S:Nat->List (List Int)->List (List Int)->Prop) (K:List (List Int)->List (List Int)->Prop):Prop:=
 cu λz0=>bF 0 [z0] λah=>(aD (decide (255<ah)) (K [[z0]] [[(cond (false) 1 0)]]) (bF 0 [z0] λz2=>(aD (decide (1<=z2)) (aa 2 [z0,0,1]/\bW 2
 [z0,0,1] λz3=>df 4 [z3,65] λz4=>(aD ((!(decide (z4=1)))) (K [[z0]] [[(cond (false) 1 0)]]) (bF 0 [z0] λz5=>aa 2 [z0,1,z5]/\bW 2 [z0,1,z5]
 λaq=>cu λz7=>cu λav=>ea λz9=>S 126 [[aq]] [[z7],[av],[z9]]->(aD (decide (z9=1)) (df 4 [z7,0] λaC=>(aD ((!(decide (aC=1)))) (bF
 0 [z7] λbf=>(aD (decide (bf<=200)) (cu λz12=>S 202 [[z7]] [[z12]]->df 4 [z12,0] λag=>(aD (decide (ag=1)) (ea λak=>S 65
 [[z7],[29623484903295033747957742255491238963424329677582429956179748554116486405127370353604394274421496743]] [[ak]]->(aD (decide (ak=1)) (ea λaI=>S
 27 [[av]] [[aI]]->K [[z0]] [[(cond (decide (aI=1)) 1 0)]]) (K [[z0]] [[(cond (false) 1 0)]]))) (K [[z0]] [[(cond (false) 1 0)]]))) (K [[z0]] [[(cond
 (false) 1 0)]]))) (K [[z0]] [[(cond (false) 1 0)]]))) (K [[z0]] [[(cond (false) 1 0)]]))))) (K [[z0]] [[(cond (false) 1 0)]]))))
def SU (S:Nat->List (List Int)->List (List Int)->Prop) (K:List (List Int)->List (List Int)->Prop):Prop:=
 cu λz0=>bF 0 [z0] λah=>(aD (decide (255<ah)) (K [[z0]] [[(cond (false) 1 0)]]) (bF 0 [z0] λz2=>(aD (decide (1<=z2)) (aa 2 [z0,0,1]/\bW 2
 [z0,0,1] λz3=>df 4 [z3,34] λz4=>(aD ((!(decide (z4=1)))) (K [[z0]] [[(cond (false) 1 0)]]) (bF 0 [z0] λz5=>aa 2 [z0,1,z5]/\bW 2 [z0,1,z5]
 λaq=>cu λz7=>cu λav=>ea λz9=>S 126 [[aq]] [[z7],[av],[z9]]->(aD (decide (z9=1)) (df 4 [z7,0] λaC=>(aD ((!(decide (aC=1)))) (bF
 0 [z7] λbf=>(aD (decide (bf<=64)) (cu λz12=>S 203 [[z7]] [[z12]]->df 4 [z12,0] λag=>(aD (decide (ag=1)) (ea λak=>S 65
 [[z7],[59021796509086278835513442974745904212600941011016939989148970812876304133997797978309942486398772379401228430519331053062583050832400642881753195337]]
 [[ak]]->(aD (decide (ak=1)) (ea λaI=>S 27 [[av]] [[aI]]->K [[z0]] [[(cond (decide (aI=1)) 1 0)]]) (K [[z0]] [[(cond (false) 1 0)]]))) (K [[z0]]
 [[(cond (false) 1 0)]]))) (K [[z0]] [[(cond (false) 1 0)]]))) (K [[z0]] [[(cond (false) 1 0)]]))) (K [[z0]] [[(cond (false) 1 0)]]))))) (K [[z0]] [[(cond (false)
 1 0)]]))))
theorem ajS {c:UInt8} {t:ay} (h:c≠58):idx 58 (c::t)=if idx 58 t<0 then-1 else idx 58 t+1:=by
 have:¬(c.toNat:Int)=58:=λe=>h (by rw[<-UInt8.toNat_inj];show c.toNat=58;omega)
 show(if(c.toNat:Int)=58 then 0 else if idx 58 t<0 then-1 else idx 58 t+1)=_
 rw[if_neg this]
theorem ao8 {k:UInt8} (hk:k≠58) {t:ay} (hl:t.length+1<=255):pJ k (k::t)=cond (decide (0<=idx 58 t)&&ox (t.drop ((idx 58 t).toNat+1))) (t.take (idx 58 t).toNat,t.drop ((idx 58 t).toNat+1),1) ([],[],0):=by
 unfold pJ
 rw[ajS hk,show b7 0 (k::t).length=true by rw[w3];simp,show bw (k::t).length 255=true by rw[u2];simpa using hl]
 have hr:=ES 58 t
 have hb:((k::t).getD 0 0==k)=true:=by show(k==k)=true;simp
 rw[hb]
 by_cases hn:idx 58 t<0
 ·rw[if_pos hn,show decide (0<=idx 58 t)=false from decide_eq_false (by omega)]
  simp
 ·rw[if_neg hn,show decide (0<=idx 58 t)=true from decide_eq_true (by omega),show decide (0<=idx 58 t+1)=true from decide_eq_true (by omega),show(idx 58 t+1).toNat=(idx 58 t).toNat+1 by omega]
  simp
theorem Ym {k:UInt8} {s:ay} (h:s.getD 0 0≠k∨s=[]):(pJ k s).2.2=0:=by
 rw[Yn]
 rcases h with h|h
 ·rw[show(s.getD 0 0==k)=false by simpa using h];simp
 ·rw[h];rfl
theorem ao9 {k:UInt8} {s:ay} (h:bw s.length 255=false):(pJ k s).2.2=0:=by
 rw[Yn]
 rw[h];simp
theorem IX {k:UInt8} {inn:UInt8->Bool} {most:Nat} {s:ay} (h:(pJ k s).2.2=0):wz k inn most s=false:=by unfold wz;rw[h];rfl
theorem anM (inn:UInt8->Bool) (s:ay) {n:Int} (hn:∀c,(U n).contains c=inn c):(s.all λc=>(U n).contains c)=s.all inn:=by
 congr 1;funext c;exact hn c
theorem Yh {k:UInt8} {Xh LZ Pv:Int} {inn:UInt8->Bool} {most tid:Nat} (hk:k≠58) (aix:U Xh=[k]) (fN:∀c,(U LZ).contains c=inn c) (hm:Pv=(most:Int)) (ht:∀z r,SB tid [[z]] [[r]]=(U r=jF inn (U z))) {id:Nat} (hid:∀z r,SB id [[z]] [[r]]=(r=bh (wz k inn most (U z)))):
(∀z0:Int,0<=z0->z0<=ch->
 ∀ah:Int,0<=ah->ah<=9223372036854775807->ah=aB 0 [z0]->
 (((decide (255<ah))=true->
  bO SB [.bool] id [[z0]] [[(cond (false) 1 0)]]
 )/\((decide (255<ah))=false->
  ∀z2:Int,0<=z2->z2<=9223372036854775807->z2=aB 0 [z0]->
  (((decide (1<=z2))=true->
   aa 2 [z0,0,1]/\
   ∀z3:Int,0<=z3->z3<=ch->z3=aB 2 [z0,0,1]->
   ∀z4:Int,0<=z4->z4<=1->z4=aB 4 [z3,Xh]->
   ((((!(decide (z4=1))))=true->
    bO SB [.bool] id [[z0]] [[(cond (false) 1 0)]]
   )/\(((!(decide (z4=1))))=false->
    ∀z5:Int,0<=z5->z5<=9223372036854775807->z5=aB 0 [z0]->
    aa 2 [z0,1,z5]/\
    ∀aq:Int,0<=aq->aq<=ch->aq=aB 2 [z0,1,z5]->
    ∀z7:Int,0<=z7->z7<=ch->∀av:Int,0<=av->av<=ch->∀z9:Int,0<=z9->z9<=1->SB 126 [[aq]] [[z7],[av],[z9]]->
    (((decide (z9=1))=true->
     ∀aC:Int,0<=aC->aC<=1->aC=aB 4 [z7,0]->
     ((((!(decide (aC=1))))=true->
      ∀bf:Int,0<=bf->bf<=9223372036854775807->bf=aB 0 [z7]->
      (((decide (bf<=Pv))=true->
       ∀z12:Int,0<=z12->z12<=ch->SB tid [[z7]] [[z12]]->
       ∀ag:Int,0<=ag->ag<=1->ag=aB 4 [z12,0]->
       (((decide (ag=1))=true->
        ∀ak:Int,0<=ak->ak<=1->SB 65 [[z7],[LZ]] [[ak]]->
        (((decide (ak=1))=true->
         ∀aI:Int,0<=aI->aI<=1->SB 27 [[av]] [[aI]]->
         bO SB [.bool] id [[z0]] [[(cond (decide (aI=1)) 1 0)]]
        )/\((decide (ak=1))=false->
         bO SB [.bool] id [[z0]] [[(cond (false) 1 0)]]
        ))
       )/\((decide (ag=1))=false->
        bO SB [.bool] id [[z0]] [[(cond (false) 1 0)]]
       ))
      )/\((decide (bf<=Pv))=false->
       bO SB [.bool] id [[z0]] [[(cond (false) 1 0)]]
      ))
     )/\(((!(decide (aC=1))))=false->
      bO SB [.bool] id [[z0]] [[(cond (false) 1 0)]]
     ))
    )/\((decide (z9=1))=false->
     bO SB [.bool] id [[z0]] [[(cond (false) 1 0)]]
    ))
   ))
  )/\((decide (1<=z2))=false->
   bO SB [.bool] id [[z0]] [[(cond (false) 1 0)]]
  ))
 ))):=by
  intro z0 a0 a1 ah b0 b1 h1
  have bA:∀b:Bool,wz k inn most (U z0)=b->bO SB [.bool] id [[z0]] [[bh b]]:=λb h=>wu (by rw[hid,h])
  have DO:=E2 (n:=255) 255 rfl h1
  refine⟨λhb=>bA false (IX (ao9 (by rw[hb]at DO;simpa using DO.symm))),λhb z2 bT c1 h2=>?_⟩
  rw[hb]at DO
  have hlen:(U z0).length<=255:=by
   have:bw (U z0).length 255=true:=by simpa using DO.symm
   exact eb this
  simp only[aB]at h2
  refine⟨λhp=>⟨⟨cn _,by decide,by have:=of_decide_eq_true hp;omega⟩,λz3 d0 d1 h3 z4 bC e1 h4=>?_⟩,λhp=>bA false (IX (Ym (.inr ?_)))⟩
  ·cases hs:U z0 with
   |nil=>rw[hs]at h2;have:=of_decide_eq_true hp;simp at h2;omega
   |cons c t=>
    have bt:U z3=[c]:=by rw[h3];simp only[aB,fS,hs];rfl
    rw[np h4,bt,aix]
    refine⟨λhne=>bA false (IX (Ym (.inl ?_))),λheq z5 f0 f1 h5=>?_⟩
    ·rw[hs];intro h
     have h:c=k:=h
     rw[h]at hne;simp at hne
    ·have ahQ:c=k:=by simpa using heq
     subst ahQ
     have sC:t.length+1<=255:=by rw[hs]at hlen;simpa using hlen
     obtain⟨s1,s2⟩:=aqP (s:=z0) (z:=1) (L:=z5) (n:=1) rfl (by rw[hs];simp) h5
     refine⟨s1,λaq g0 g1 h6 z7 i0 i1 av fO dV z9 jD k1 hC=>?_⟩
     have iM:U aq=t:=by rw[s2 aq h6,hs];rfl
     have hC:(U z7,U av,z9)=nZ 58 (U aq):=hC
     rw[iM]at hC
     have po:=ao8 hk sC
     unfold nZ at hC
     cases hi:decide (0<=idx 58 t)with
     |false=>
      rw[hi]at hC po
      simp only[cond_false,cj]at hC
      obtain⟨_,_,rfl⟩:=hC
      exact⟨λh=>by simp at h,λ_=>bA false (IX (by rw[hs,po];rfl))⟩
     |true=>
      rw[hi]at hC po
      simp only[cond_true,cj]at hC
      obtain⟨adZ,q2,rfl⟩:=hC
      rw[Cv]at po
      have hv:wz c inn most (U z0)=(ox (U av)&&b7 0 (U z7).length&&bw (U z7).length most&&(U z7).all inn):=by
       unfold wz
       rw[hs,po,<-adZ,<-q2]
       cases ox (U av)<;>rfl
      refine⟨λ_ aC cm l1 c8=>?_,λh=>by simp at h⟩
      have hn:=Fb c8
      refine⟨λhq bf m0 iG e0=>?_,λhq=>bA false (by rw[hq]at hn;rw[hv,<-hn];simp)⟩
      rw[hq]at hn
      rw[E1 most hm e0]
      refine⟨λhr z12 n0 n1 gd ag BA o1 gr=>?_,λhr=>bA false (by rw[hv,hr];simp)⟩
      rw[ht]at gd
      rw[eq_nil gr,gd]
      refine⟨λhs ak p0 p1 eD=>?_,λhs=>bA false ?_⟩
      ·have eD:ak=bh ((U z7).all λc=>(U LZ).contains c):=eD
       rw[anM inn _ fN]at eD
       rw[il eD]
       refine⟨λha aI kp bo iN=>?_,λha=>bA false (by rw[hv,ha];simp)⟩
       have iN:aI=bh (ox (U av)):=iN
       rw[il iN]
       refine bA _ ?_
       rw[hv,<-hn,hr,ha];simp
      ·rw[hv]
       cases ha:(U z7).all inn with
       |false=>simp
       |true=>rw[QM ha]at hs;simp at hs
  ·have hp:¬1<=z2:=of_decide_eq_false hp
   exact List.length_eq_zero_iff.1 (by omega)
theorem ao3:Tb SB (bO SB [.bool] 200):=Yh (k:=64) (inn:=Iv) (most:=200) (tid:=202) (by decide) (by decide) (sd (by decide+kernel)) rfl (λ_ _=>rfl) (λ_ _=>rfl)
theorem aoM:SU SB (bO SB [.bool] 201):=Yh (k:=33) (inn:=Iu) (most:=64) (tid:=203) (by decide) (by decide) (sd (by decide+kernel)) rfl (λ_ _=>rfl) (λ_ _=>rfl)
end Go.cd
namespace Go.cd
open Go Go.bg
def SO (S:Nat->List (List Int)->List (List Int)->Prop) (K:List (List Int)->List (List Int)->Prop):Prop:=
 cu λz0=>bF 0 [z0] λah=>∃(fy:List (List Int)->Prop) (iK:List (List Int)->Nat),fy [[0]]/\(fB λz3=>fy [[z3]]->(aD (decide (z3<ah))
 (aa 1 [z0,z3]/\ao 1 [z0,z3] λz4=>(aD (decide (z4<32)) (K [[z0]] [[(cond (false) 1 0)]]) (aa 1 [z0,z3]/\ao 1 [z0,z3] λz5=>(aD (decide (126<
 z5)) (K [[z0]] [[(cond (false) 1 0)]]) (dT (z3+9223372036854775809) 18446744073709551616 λaq=>aa 39 [((z3+((-18446744073709551616)*aq))+
 1),0,9223372036854775807]/\(fy [[((z3+((-18446744073709551616)*aq))+1)]]/\iK [[((z3+((-18446744073709551616)*aq))+1)]]<iK [[z3]])))))) (K
 [[z0]] [[(cond (true) 1 0)]])))
theorem acS {b:Bool} (h:(!b)=true):b=false:=by cases b<;>first|rfl|cases h
theorem acR {b:Bool} (h:(!b)=false):b=true:=by cases b<;>first|rfl|cases h
def abj (z0:Int) (bl:List (List Int)):Prop:=∃i:Nat,bl=[[(i:Int)]]/\i<=(U z0).length/\uI ((U z0).take i)=true
def abk (z0:Int) (bl:List (List Int)):Nat:=(U z0).length-((bl.getD 0 []).getD 0 0).toNat
theorem apn {t:ay} {i:Nat} (h:i<t.length):t.getD i 0∈t:=by simp[af,h]
theorem aoH:SO SB (bO SB [.bool] 400):=by
 intro z0 a0 a1 ah _ c1 h1
 have h1:ah=((U z0).length:Int):=h1
 have bA:∀b:Bool,uI (U z0)=b->bO SB [.bool] 400 [[z0]] [[bh b]]:=λb h=>wu (by show bh b=bh (uI (U z0));rw[h])
 have uA:∀i,i<(U z0).length->(((U z0).getD i 0).toNat<32∨126<((U z0).getD i 0).toNat)->bO SB [.bool] 400 [[z0]] [[cond false 1 0]]:=λi hi h=>bA false (by
  cases hp:uI (U z0)with
  |false=>rfl
  |true=>
   have:=List.all_eq_true.1 hp _ (apn hi)
   simp only[aK,u2]at this
   omega)
 refine⟨abj z0,abk z0,⟨0,rfl,mr _,rfl⟩,?_⟩
 rintro z3 d0 d1 ⟨i,e,hi,hI⟩
 obtain rfl:z3=i:=by simpa using e
 refine⟨λhlt=>?_,λfa=>bA true ?_⟩
 ·have hlt:=of_decide_eq_true hlt
  have dZ:i<(U z0).length:=by omega
  have hg:∀z:Int,z=aB 1 [z0,(i:Int)]->z=(((U z0).getD i 0).toNat:Int):=λz h=>by
   rw[h];simp only[aB,k9]
  refine⟨⟨by omega,by omega⟩,λz4 _ _ h4=>⟨λhc=>uA i dZ (.inl ?_),λhc=>⟨⟨by omega,by omega⟩,λz5 _ _ h5=>⟨λhd=>uA i dZ (.inr ?_),λhd aq x0 x1 x2 gP=>?_⟩⟩⟩⟩
  ·have:=hg z4 h4;have:=of_decide_eq_true hc;omega
  ·have:=hg z5 h5;have:=of_decide_eq_true hd;omega
  ·have eS:=hg z4 h4;have oL:=hg z5 h5
   have hc:=of_decide_eq_false hc;have hd:=of_decide_eq_false hd
   refine⟨⟨by omega,by omega⟩,⟨i+1,by rw[show((i:Int)+(-18446744073709551616)*aq)+1=((i+1:Nat):Int) by omega],by omega,?_⟩,?_⟩
   ·unfold uI at hI⊢
    rw[JT _ _ dZ,List.all_append,hI]
    simp only[Kn,List.all_nil,Bool.and_true,Cv,aK,u2]
    omega
   ·show(U z0).length-(((i:Int)+(-18446744073709551616)*aq)+1).toNat<(U z0).length-((i:Int)).toNat;omega
 ·have:=of_decide_eq_false fa
  rwa [mq (by omega)]at hI
theorem acY (z:Int):(ab (rc ((U z).map λb=>[(b.toNat:Int)])))=(U z).map λb=>[(b.toNat:Int)]:=dW _
end Go.cd
namespace Go.cd
open Go Go.bg
theorem IK (a b:UInt8) (x y:ay):dj (a::x) (b::y)=true↔a.toNat<b.toNat∨(a=b/\dj x y=true):=by
 simp only[dj,qL,aK,beq_iff_eq,decide_eq_true_eq,UInt8.lt_iff_toNat_lt]
theorem Pc (x:ay):dj x []=false:=by cases x<;>rfl
theorem Xs:∀x y:ay,dj x y=true->dj y x=true->False
 |x,[],h,_=>by rw[Pc]at h;cases h
 |[],_::_,_,h=>by cases h
 |a::x,b::y,h,h'=>by
  rw[IK]at h h'
  rcases h with h|⟨rfl,h⟩
  ·rcases h' with h'|⟨e,_⟩
   ·omega
   ·rw[e]at h;omega
  ·rcases h' with h'|⟨_,h'⟩
   ·omega
   ·exact Xs x y h h'
theorem Pd:∀x y:ay,dj x y=true∨dj y x=true∨x=y
 |[],[]=> .inr (.inr rfl)
 |[],_::_=> .inl rfl
 |_::_,[]=> .inr (.inl rfl)
 |a::x,b::y=>by
  rw[IK,IK]
  rcases Nat.lt_trichotomy a.toNat b.toNat with h|h|h
  ·exact .inl (.inl h)
  ·have e:a=b:=UInt8.toNat_inj.1 h
   subst e
   rcases Pd x y with h|h|h
   ·exact .inl (.inr ⟨rfl,h⟩)
   ·exact .inr (.inl (.inr ⟨rfl,h⟩))
   ·exact .inr (.inr (by rw[h]))
  ·exact .inr (.inl (.inl h))
theorem E4:∀x y z:ay,dj x y=true->dj y z=true->dj x z=true
 |_,[],_,h,_=>by rw[Pc]at h;cases h
 |_,_::_,[],_,h=>by rw[Pc]at h;cases h
 |[],_::_,_::_,_,_=>rfl
 |a::x,b::y,c::z,h,h'=>by
  rw[IK]at h h'⊢
  rcases h with h|⟨rfl,h⟩
  ·rcases h' with h'|⟨rfl,_⟩
   ·exact .inl (by omega)
   ·exact .inl h
  ·rcases h' with h'|⟨rfl,h'⟩
   ·exact .inl h'
   ·exact .inr ⟨rfl,E4 x y z h h'⟩
theorem ao6 {a b c d z w:Int} (h:z=aB 4 [a,c]) (h':w=aB 4 [b,d]):decide ([z,w]=[1,1])=decide (U a=U c/\U b=U d):=by
 have e:=np h
 have vv:=np h'
 have i:z=1↔U a=U c:=by rw[<-decide_eq_true_eq (p:=z=1),e,decide_eq_true_eq]
 have ys:w=1↔U b=U d:=by rw[<-decide_eq_true_eq (p:=w=1),vv,decide_eq_true_eq]
 rw[rY,decide_eq_true_eq,decide_eq_true_eq]
 simp only[hS,and_true,i,ys]
def Sf (S:Nat->List (List Int)->List (List Int)->Prop) (K:List (List Int)->List (List Int)->Prop):Prop:=
 cu λz0=>df 4 [33,z0] λah=>(aD (decide (ah=1)) (K [[z0]] [[(cond (true) 1 0)]]) (bY λz2=>S 73 [[z0],[32]] [[z2]]->K [[z0]] [[(cond (decide (0
 <=z2)) 1 0)]]))
def SP (S:Nat->List (List Int)->List (List Int)->Prop) (K:List (List Int)->List (List Int)->Prop):Prop:=
 cu λz0=>df 4 [z0,0] λah=>(aD ((!(decide (ah=1)))) (bF 0 [z0] λz2=>(aD (decide (z2<=64)) (ea λz3=>S 400 [[z0]] [[z3]]->(aD (decide (z3
 =1)) (ea λz4=>S 501 [[z0]] [[z4]]->K [[z0]] [[(cond ((!(decide (z4=1)))) 1 0)]]) (K [[z0]] [[(cond (false) 1 0)]]))) (K [[z0]] [[(cond (false) 1
 0)]]))) (K [[z0]] [[(cond (false) 1 0)]]))
def SN (S:Nat->List (List Int)->List (List Int)->Prop) (K:List (List Int)->List (List Int)->Prop):Prop:=
 ∀aV:List Int,aO (c7 0 ch 7) aV->ea λz7=>S 600 [[(af aV 0 0)]] [[z7]]->(aD ((!(decide (z7=1)))) (K [aV] [[(cond (false) 1 0)]]) (ea λav
 =>S 600 [[(af aV 5 0)]] [[av]]->(aD ((!(decide (av=1)))) (K [aV] [[(cond (false) 1 0)]]) (ea λz9=>S 16 [[(af aV 1 0),(af aV 2 0)]]
 [[z9]]->(aD ((!(decide (z9=1)))) (K [aV] [[(cond (false) 1 0)]]) (df 4 [(af aV 6 0),0] λaC=>(aD ((!(decide (aC=1)))) (ea λbf=>S 200
 [[(af aV 6 0)]] [[bf]]->(aD ((!(decide (bf=1)))) (K [aV] [[(cond (false) 1 0)]]) (ea λz12=>S 201 [[(af aV 3 0)]] [[z12]]->(aD (decide
 (z12=1)) (ea λag=>S 200 [[(af aV 4 0)]] [[ag]]->K [aV] [[(cond (decide (ag=1)) 1 0)]]) (K [aV] [[(cond (false) 1 0)]]))))) (ea λbf=>S
 201 [[(af aV 3 0)]] [[bf]]->(aD (decide (bf=1)) (ea λz12=>S 200 [[(af aV 4 0)]] [[z12]]->K [aV] [[(cond (decide (z12=1)) 1 0)]]) (K
 [aV] [[(cond (false) 1 0)]]))))))))))
def SE (S:Nat->List (List Int)->List (List Int)->Prop) (K:List (List Int)->List (List Int)->Prop):Prop:=
 cX λz0=>cQ λah=>bY λz2=>bF 20 [z0] λz3=>(aD (decide (32<z3)) (K [[z0]] [[(cond (false) 1 0)]]) (∃(lT:List (List Int)->Prop) (nf:
 List (List Int)->Nat),lT [[0]]/\(fB λz5=>lT [[z5]]->(aD (decide (z5<z3)) (aa 30 [z5,z3]/\aa 21 [z0,z5]/\bW 21 [z0,z5,0] λaq=>bW 21
 [z0,z5,1] λz7=>bW 21 [z0,z5,2] λav=>bW 21 [z0,z5,3] λz9=>bW 21 [z0,z5,4] λaC=>bW 21 [z0,z5,5] λbf=>bW 21 [z0,z5,6] λz12=>ea
 λag=>S 601 [[aq,z7,av,z9,aC,bf,z12]] [[ag]]->(aD ((!(decide (ag=1)))) (K [[z0]] [[(cond (false) 1 0)]]) ((aD (decide (0<z5)) (aa 30 [(z5+
 (-1)),z3]/\aa 21 [z0,(z5+(-1))]/\bW 21 [z0,(z5+(-1)),0] λak=>df 5 [ak,aq] λaI=>(aD ((!(decide (aI=1)))) (K [[z0]] [[(cond (false) 1
 0)]]) (dT (z5+9223372036854775809) 18446744073709551616 λaT=>aa 39 [((z5+((-18446744073709551616)*aT))+1),0,9223372036854775807]/\(lT [[((z5+
 ((-18446744073709551616)*aT))+1)]]/\nf [[((z5+((-18446744073709551616)*aT))+1)]]<nf [[z5]])))) ((lT [[1]]/\nf [[1]]<nf [[z5]])))))) (K [[z0]]
 [[(cond (true) 1 0)]])))))
def SM (S:Nat->List (List Int)->List (List Int)->Prop) (K:List (List Int)->List (List Int)->Prop):Prop:=
 cX λz0=>cu λah=>cQ λz2=>bY λz3=>bF 20 [z0] λz4=>∃(hU:List (List Int)->Prop) (j8:List (List Int)->Nat),hU [[0],[z4]]/\(fB λ
 aq=>fB λz7=>hU [[aq],[z7]]->(aD (decide (aq<z7)) (dT ((aq+z7)+9223372036854775808) 18446744073709551616 λav=>cc (-1) 0 (aq+(z7+
 ((-18446744073709551616)*av))) 18446744073709551616 λz9=>cc 0 9223372036854775807 (aq+(z7+(((-18446744073709551616)*av)+((-18446744073709551616)*
 z9)))) 2 λaC=>aa 30 [aC,z4]/\aa 21 [z0,aC]/\bW 21 [z0,aC,0] λbf=>bW 21 [z0,aC,1] λz12=>bW 21 [z0,aC,2] λag=>bW 21
 [z0,aC,3] λak=>bW 21 [z0,aC,4] λaI=>bW 21 [z0,aC,5] λaT=>bW 21 [z0,aC,6] λbE=>eW (-1) 1 λbr=>S 510 [[bf],[ah]] [[br]]->
 (aD (decide (br<0)) (dT (aC+9223372036854775809) 18446744073709551616 λbH=>aa 39 [((aC+((-18446744073709551616)*bH))+
 1),0,9223372036854775807]/\(hU [[((aC+((-18446744073709551616)*bH))+1)],[z7]]/\j8 [[((aC+((-18446744073709551616)*bH))+1)],[z7]]<j8
 [[aq],[z7]])) ((hU [[aq],[aC]]/\j8 [[aq],[aC]]<j8 [[aq],[z7]])))) ((aD (decide (aq<z4)) (aa 30 [aq,z4]/\aa 21 [z0,aq]/\bW 21 [z0,aq,0] λav=>
 bW 21 [z0,aq,1] λz9=>bW 21 [z0,aq,2] λaC=>bW 21 [z0,aq,3] λbf=>bW 21 [z0,aq,4] λz12=>bW 21 [z0,aq,5] λag=>bW 21 [z0,aq,6] λ
 ak=>eW (-1) 1 λaI=>S 510 [[av],[ah]] [[aI]]->K [[z0],[ah]] [[aq],[(cond (decide (aI=0)) 1 0)]]) (K [[z0],[ah]] [[aq],[(cond (false) 1 0)]])))))
def SC (S:Nat->List (List Int)->List (List Int)->Prop) (K:List (List Int)->List (List Int)->Prop):Prop:=
 cX λz0=>cu λah=>cQ λz2=>bY λz3=>bF 20 [z0] λz4=>aa 22 [z0,0,z4]/\aH 22 [z0,0,z4] λz5=>ea λaq=>S 602 [[z5]] [[aq]]->(aD
 ((!(decide (aq=1)))) (K [[z0],[ah]] [[0,0,0,0,0,0,0],[(cond (false) 1 0)]]) (aa 22 [z0,0,z4]/\aH 22 [z0,0,z4] λz7=>fB λav=>ea λz9=>S 603
 [[z7],[ah]] [[av],[z9]]->(aD ((!(decide (z9=1)))) (K [[z0],[ah]] [[0,0,0,0,0,0,0],[(cond (false) 1 0)]]) (aa 30 [av,z4]/\aa 21 [z0,av]/\bW 21
 [z0,av,0] λaC=>bW 21 [z0,av,1] λbf=>bW 21 [z0,av,2] λz12=>bW 21 [z0,av,3] λag=>bW 21 [z0,av,4] λak=>bW 21 [z0,av,5] λaI=>
 bW 21 [z0,av,6] λaT=>K [[z0],[ah]] [[aC,bf,z12,ag,ak,aI,aT],[(cond (true) 1 0)]]))))
theorem an9:Sf SB (bO SB [.bool] 501):=by
 intro z0 a0 a1 ah b0 b1 hz1
 simp only[aB]at hz1
 refine⟨λh=>⟨⟨by decide,by decide,trivial⟩,?_⟩,λh z2 bT c1 h2=>⟨⟨(p5 _).1,(p5 _).2,trivial⟩,?_⟩⟩
 ·have:U z0=[32]:=by
   have e:U 33=[32]:=by decide
   rw[e]at hz1
   by_cases h':[32]=U z0
   ·exact h'.symm
   ·rw[if_neg h']at hz1;subst hz1;simp at h
  show(1:Int)=bh ((U z0).contains 32)
  rw[this];rfl
 ·have h2:z2=idx 32 (U z0):=h2
  show(cond (decide (0<=z2)) 1 0:Int)=bh ((U z0).contains 32)
  rw[h2,Ir (by decide) (by decide)];rfl
theorem aoI:SP SB (bO SB [.bool] 600):=by
 intro z0 a0 a1 ah _ _ h1
 have h1:=np h1
 have Ot:U (0:Int)=[]:=by decide
 rw[Ot]at h1
 have bA:∀b:Bool,mb (U z0)=b->bO SB [.bool] 600 [[z0]] [[bh b]]:=λb h=>wu (by show bh b=bh (mb (U z0));rw[h])
 refine⟨λhn z2 _ _ h2=>?_,λhn=>bA false ?_⟩
 rotate_left
 ·have:=acR hn
  rw[h1]at this
  rw[of_decide_eq_true this];rfl
 have hne:(U z0).isEmpty=false:=by
  have:=acS hn
  rw[h1]at this
  have:=of_decide_eq_false this
  cases h:U z0 with
  |nil=>exact absurd h this
  |cons _ _=>rfl
 have h2:z2=((U z0).length:Int):=h2
 have bC:mb (U z0)=(bw (U z0).length 64&&(uI (U z0)&& !(U z0).contains 32)):=by unfold mb;rw[hne];rfl
 refine⟨λAx z3 _ _ h3=>?_,λAx=>bA false ?_⟩
 rotate_left
 ·have:=of_decide_eq_false Ax
  rw[bC,show bw (U z0).length 64=false from by
   cases h:bw (U z0).length 64 with
   |false=>rfl
   |true=>have:=eb h;omega];rfl
 have hb:bw (U z0).length 64=true:=aar (by have:=of_decide_eq_true Ax;omega)
 rw[hb,Cv]at bC
 have h3:z3=bh (uI (U z0)):=h3
 have D7:=il h3
 refine⟨λhp z4 _ _ h4=>?_,λhp=>bA false (by rw[bC,<-D7,hp];rfl)⟩
 have h4:z4=bh ((U z0).contains 32):=h4
 have ahX:=il h4
 have:=bA (!decide (z4=1)) (by rw[bC,<-D7,hp,ahX];rfl)
 exact this
theorem pf {z:Int} {b:Bool} (h:decide (z=1)=b) (h2:(!(decide (z=1)))=true):b=false:=by rw[h]at h2;simpa using h2
theorem pe {z:Int} {b:Bool} (h:decide (z=1)=b) (h2:(!(decide (z=1)))=false):b=true:=by rw[h]at h2;simpa using h2
theorem Ho {a z:Int} (h:z=aB 4 [a,0]):decide (z=1)=(U a).isEmpty:=by
 have h1:=np h
 have Ot:U (0:Int)=[]:=by decide
 rw[h1,Ot]
 cases U a with
 |nil=>rfl
 |cons _ _=>rfl
theorem aoG:SN SB (bO SB [.bool] 601):=by
 intro aV hr z7 _ _ h7
 have bA:∀b:Bool,l9 (gN aV)=b->bO SB [.bool] 601 [aV] [[cond b 1 0]]:=λb h=>wu (by show cond b (1:Int) 0=bh (l9 (gN aV));rw[h];rfl)
 have bC:l9 (gN aV)=(mb (U (aV.getD 0 0))&&(mb (U (aV.getD 5 0))&&(rK (U (aV.getD 1 0)) (U (aV.getD 2 0))&&(BT (U (aV.getD 3 0))&&(mY (U (aV.getD 4 0))&&((U (aV.getD 6 0)).isEmpty||mY (U (aV.getD 6 0)))))))):=rfl
 have h7:=il (show z7=bh (mb (U (aV.getD 0 0))) from h7)
 refine⟨λa=>bA false (by rw[bC,pf h7 a];rfl),λa av _ _ cq=>?_⟩
 rw[pe h7 a]at bC
 have cq:=il (show av=bh (mb (U (aV.getD 5 0))) from cq)
 refine⟨λa=>bA false (by rw[bC,pf cq a];rfl),λa z9 _ _ bU=>?_⟩
 rw[pe cq a]at bC
 have bU:=il (show z9=bh (rK (U (aV.getD 1 0)) (U (aV.getD 2 0))) from bU)
 refine⟨λa=>bA false (by rw[bC,pf bU a];rfl),λa aC _ _ c8=>?_⟩
 rw[pe bU a]at bC
 have c8:=Ho c8
 have fin:((U (aV.getD 6 0)).isEmpty||mY (U (aV.getD 6 0)))=true->∀bf:Int,0<=bf->bf<=1->SB 201 [[aV.getD 3 0]] [[bf]]->
  (((decide (bf=1))=true->∀z12:Int,0<=z12->z12<=1->SB 200 [[aV.getD 4 0]] [[z12]]->bO SB [.bool] 601 [aV] [[(cond (decide (z12=1)) 1 0)]])/\((decide (bf=1))=false->bO SB [.bool] 601 [aV] [[(cond (false) 1 0)]])):=λhb bf _ _ hA=>by
  have hA:=il (show bf=bh (BT (U (aV.getD 3 0))) from hA)
  rw[hb]at bC
  refine⟨λa z12 _ _ hB=>?_,λa=>bA false (by rw[bC,<-hA,a];rfl)⟩
  have hB:=il (show z12=bh (mY (U (aV.getD 4 0))) from hB)
  exact bA (decide (z12=1)) (by rw[bC,<-hA,a,<-hB];simp)
 refine⟨λa bf _ _ e0=>?_,λa=>fin (by rw[pe c8 a];rfl)⟩
 have e0:=il (show bf=bh (mY (U (aV.getD 6 0))) from e0)
 refine⟨λdc=>bA false (by rw[bC,pf c8 a,pf e0 dc];simp),λdc=>fin (by rw[pe e0 dc];simp)⟩
theorem sR (z:Int):(a7 z).length=(ab z).length:=by simp[a7]
theorem Fl {z:Int} {i:Nat} (h:i<(ab z).length):(a7 z).getD i cG=gN ((ab z).getD i []):=by simp[a7,af,h]
theorem Jv {z0 i a b c d e f g:Int} {k:Nat} (hi:i=(k:Int)) (ha:a=aB 21 [z0,i,0]) (hb:b=aB 21 [z0,i,1]) (hc:c=aB 21 [z0,i,2]) (hd:d=aB 21 [z0,i,3]) (he:e=aB 21 [z0,i,4]) (hf:f=aB 21 [z0,i,5]) (hg:g=aB 21 [z0,i,6]) (hk:k<(ab z0).length):gN [a,b,c,d,e,f,g]=(a7 z0).getD k cG:=by
 rw[Fl hk,ha,hb,hc,hd,he,hf,hg,hi];rfl
theorem Jw {z0 i a:Int} {k:Nat} (hi:i=(k:Int)) (ha:a=aB 21 [z0,i,0]) (hk:k<(ab z0).length):U a=((a7 z0).getD k cG).tok:=by
 rw[Fl hk,ha,hi];rfl
theorem P6 (l:List cW):uN l=true↔∀j,j<l.length->0<j->dj (l.getD (j-1) cG).tok (l.getD j cG).tok=true:=by
 unfold uN
 rw[tf]
 refine⟨λh j hj h0=>?_,λh j hj=>?_⟩
 ·have:=h j (List.mem_range.2 hj)
  rw[decide_eq_false (by omega),Bool.false_or]at this
  exact this
 ·have hj:=List.mem_range.1 hj
  by_cases h0:j=0
  ·rw[decide_eq_true h0];rfl
  ·rw[h j hj (by omega)];simp
theorem Js {l:List cW} (hr:uN l=true) {j k:Nat} (NT:j<k) (hk:k<l.length):dj (l.getD j cG).tok (l.getD k cG).tok=true:=by
 have step:∀i:Nat,i+1<l.length->dj (l.getD i cG).tok (l.getD (i+1) cG).tok=true:=λi hi=>(P6 l).1 hr (i+1) hi (Nat.succ_pos i)
 obtain⟨d,rfl⟩:=Nat.exists_eq_add_of_lt NT
 clear NT
 induction d with
 |zero=>exact step j hk
 |succ d ih=>exact E4 _ _ _ (ih (by omega)) (step (j+d+1) hk)
theorem FB (l:List cW):gA l=true↔l.length<=32/\∀j,j<l.length->l9 (l.getD j cG)=true/\(0<j->dj (l.getD (j-1) cG).tok (l.getD j cG).tok=true):=by
 unfold gA
 rw[aK,aK,P6,tf]
 constructor
 ·rintro⟨h1,h2,h3⟩
  exact⟨eb h1,λj hj=>⟨h2 _ (by simp[af,hj]),h3 j hj⟩⟩
 ·rintro⟨h1,h2⟩
  refine⟨aar h1,λp hp=>?_,λj hj=>(h2 j hj).2⟩
  obtain⟨j,hj,rfl⟩:=List.mem_iff_getElem.1 hp
  have:=(h2 j hj).1
  simpa [af,hj]using this
theorem P5 {l:List cW} (h:gA l=true):uN l=true:=by
 unfold gA at h
 simp only[aK]at h
 exact h.2.2
def abp (z0:Int) (bl:List (List Int)):Prop:=∃i:Nat,bl=[[(i:Int)]]/\i<=(a7 z0).length/\∀j,j<i->l9 ((a7 z0).getD j cG)=true/\(0<j->dj ((a7 z0).getD (j-1) cG).tok ((a7 z0).getD j cG).tok=true)
def GH (z0:Int) (bl:List (List Int)):Nat:=(a7 z0).length-((bl.getD 0 []).getD 0 0).toNat
theorem aox:SE SB (eL SB [.d .bool] 602):=by
 intro z0 a0 a1 ah _ z2 _ _ z3 b0 b1 h3
 have h3:z3=((ab z0).length:Int):=h3
 have hlen:=sR z0
 have bA:∀b:Bool,gA (a7 z0)=b->eL SB [.d .bool] 602 [[z0]] [[cond b 1 0]]:=λb h=>⟨by cases b<;>exact⟨by decide,by decide,trivial⟩,by show cond b (1:Int) 0=bh (gA (a7 z0));rw[h];rfl⟩
 have uA:(¬((a7 z0).length<=32/\∀j,j<(a7 z0).length->l9 ((a7 z0).getD j cG)=true/\(0<j->dj ((a7 z0).getD (j-1) cG).tok ((a7 z0).getD j cG).tok=true)))->eL SB [.d .bool] 602 [[z0]] [[cond false 1 0]]:=λh=>bA false (by
  cases hr:gA (a7 z0)with
  |false=>rfl
  |true=>exact absurd ((FB _).1 hr) h)
 refine⟨λh=>uA (λh2=>by have:=of_decide_eq_true h;have:=h2.1;omega),λAx=>?_⟩
 have Ax:=of_decide_eq_false Ax
 refine⟨abp z0,GH z0,⟨0,rfl,mr _,λj h=>absurd h (R3 j)⟩,?_⟩
 rintro z5 bT c1 ⟨i,e,hi,hI⟩
 obtain rfl:z5=i:=by simpa using e
 refine⟨λhlt=>?_,λfa=>bA true ((FB _).2 ⟨by omega,λj hj=>hI j (by have:=of_decide_eq_false fa;omega)⟩)⟩
 have hlt:=of_decide_eq_true hlt
 have dZ:i<(ab z0).length:=by omega
 refine⟨⟨by omega,by omega⟩,⟨by omega,by omega⟩,λaq _ _ h6 z7 _ _ h7 av _ _ cq z9 _ _ bU aC _ _ c8 bf _ _ e0 z12 _ _ gd ag _ _ gr=>?_⟩
 have hrow:=Jv (k:=i) rfl h6 h7 cq bU c8 e0 gd dZ
 have gr:ag=bh (l9 (gN [aq,z7,av,z9,aC,bf,z12])):=gr
 rw[hrow]at gr
 have hd:=il gr
 refine⟨λhb=>uA (λh2=>?_),λhb=>?_⟩
 ·have:=pf hd hb
  rw[(h2.2 i (by omega)).1]at this;cases this
 have aZ:l9 ((a7 z0).getD i cG)=true:=pe hd hb
 refine⟨λhp=>?_,λhp=>?_⟩
 ·have hp:=of_decide_eq_true hp
  have rl:(i:Int)+(-1)=((i-1:Nat):Int):=by omega
  refine⟨⟨by omega,by omega⟩,⟨by omega,by omega⟩,λak _ _ eD aI _ _ iN=>?_⟩
  have iN:=ak3 iN
  rw[Jw (k:=i-1) rl eD (by omega),Jw (k:=i) rfl h6 dZ]at iN
  refine⟨λhc=>uA (λh2=>?_),λhc aT d0 d1 d2 d3=>⟨⟨by omega,by omega⟩,⟨i+1,by rw[show((i:Int)+(-18446744073709551616)*aT)+1=((i+1:Nat):Int) by omega],by omega,λj hj=>?_⟩,?_⟩⟩
  ·have h4:=(h2.2 i (by omega)).2 (by omega)
   have:=pf iN hc
   rw[h4]at this;cases this
  ·rcases qJ j i with h|h
   ·exact hI j h
   ·obtain rfl:j=i:=by omega
    exact⟨aZ,λ_=>pe iN hc⟩
  ·show(a7 z0).length-(((i:Int)+(-18446744073709551616)*aT)+1).toNat<(a7 z0).length-((i:Int)).toNat;omega
 ·have hp:=of_decide_eq_false hp
  obtain rfl:i=0:=by omega
  refine⟨⟨1,rfl,by omega,λj hj=>?_⟩,?_⟩
  ·obtain rfl:j=0:=by omega
   exact⟨aZ,λh=>absurd h (Nat.lt_irrefl 0)⟩
  ·show(a7 z0).length-(1:Int).toNat<(a7 z0).length-((0:Nat):Int).toNat;omega
theorem ak4 {x y:ay} (h:dj x y=true):dj y x=false:=by
 cases h2:dj y x with
 |false=>rfl
 |true=>exact(Xs x y h h2).elim
def abh (z0:Int) (t:ay) (bl:List (List Int)):Prop:=∃lo hi:Nat,bl=[[(lo:Int)],[(hi:Int)]]/\lo<=hi/\hi<=(a7 z0).length/\(uN (a7 z0)=true->(∀j:Nat,j<lo->dj ((a7 z0).getD j cG).tok t=true)/\∀j:Nat,hi<=j->j<(a7 z0).length->dj ((a7 z0).getD j cG).tok t=false)
def abi (bl:List (List Int)):Nat:=((bl.getD 1 []).getD 0 0).toNat-((bl.getD 0 []).getD 0 0).toNat
theorem aoF:SM SB (eL SB [.d (.int .i64 0 9223372036854775807),.d .bool] 603):=by
 intro z0 a0 a1 ah n0 n1 z2 _ z3 _ _ z4 b0 b1 h4
 have h4:z4=((ab z0).length:Int):=h4
 have hlen:=sR z0
 generalize ht:U ah=t
 have ra:∀{z x:Int} {k:Nat},U x=((a7 z0).getD k cG).tok->SB 510 [[x],[ah]] [[z]]->z=cond (dj ((a7 z0).getD k cG).tok t) (-1) (cond (decide (((a7 z0).getD k cG).tok=t)) 0 1):=λ{z x k} hx h=>by
  have h:z=cond (dj (U x) (U ah)) (-1) (cond (decide (U x=U ah)) 0 1):=h
  rw[h,hx,ht]
 refine⟨abh z0 t,abi,⟨0,(ab z0).length,by rw[h4];rfl,mr _,by omega,λ_=>⟨λj h=>absurd h (R3 j),λj h h2=>by omega⟩⟩,?_⟩
 rintro aq bT c1 z7 d0 d1 ⟨lo,hi,e,axN,ail,hI⟩
 obtain⟨rfl,rfl⟩:aq=lo/\z7=hi:=by simpa using e
 refine⟨λhlt av bC e1 e2 bt z9 f0 f1 f2 f3 aC g0 g1 g2 g3=>?_,λfa=>?_⟩
 ·have hlt:=of_decide_eq_true hlt
  have axZ:av+z9=0:=by omega
  have e0:aC=(((lo+hi)/2:Nat):Int):=by omega
  generalize hk:(lo+hi)/2=k at e0
  have ir:lo<=k:=by omega
  have hk2:k<hi:=by omega
  subst e0
  have Ep:k<(ab z0).length:=by omega
  have iO:k<(a7 z0).length:=by omega
  refine⟨⟨by omega,by omega⟩,⟨by omega,by omega⟩,λbf _ _ e0 z12 _ _ _ ag _ _ _ ak _ _ _ aI _ _ _ aT _ _ _ bE _ _ _ br _ _ lp=>?_⟩
  have lp:=ra (Jw (k:=k) rfl e0 Ep) lp
  refine⟨λhn bH i0 i1 i2 i3=>⟨⟨by omega,by omega⟩,⟨k+1,hi,by rw[show((k:Int)+(-18446744073709551616)*bH)+1=((k+1:Nat):Int) by omega],by omega,ail,λhr=>⟨λj hj=>?_,(hI hr).2⟩⟩,?_⟩,λhn=>⟨⟨lo,k,rfl,ir,by omega,λhr=>⟨(hI hr).1,λj hj hl=>?_⟩⟩,?_⟩⟩
  ·have hn:=of_decide_eq_true hn
   have hb:dj ((a7 z0).getD k cG).tok t=true:=by
    cases hb:dj ((a7 z0).getD k cG).tok t with
    |true=>rfl
    |false=>
     rw[hb]at lp
     cases hd:decide (((a7 z0).getD k cG).tok=t)<;>rw[hd]at lp<;>simp only[cond_true,cond_false]at lp<;>omega
   rcases qJ j k with h|h
   ·exact E4 _ _ _ (Js hr h iO) hb
   ·rw[show j=k by omega];exact hb
  ·show((hi:Int)).toNat-(((k:Int)+(-18446744073709551616)*bH)+1).toNat<((hi:Int)).toNat-((lo:Int)).toNat;omega
  ·have hn:=of_decide_eq_false hn
   have hb:dj ((a7 z0).getD k cG).tok t=false:=by
    cases hb:dj ((a7 z0).getD k cG).tok t with
    |false=>rfl
    |true=>rw[hb]at lp;simp only[cond_true]at lp;omega
   rcases qJ k j with h|h
   ·cases oO:dj ((a7 z0).getD j cG).tok t with
    |false=>rfl
    |true=>rw[E4 _ _ _ (Js hr h hl) oO]at hb;cases hb
   ·rw[show j=k by omega];exact hb
  ·show((k:Int)).toNat-((lo:Int)).toNat<((hi:Int)).toNat-((lo:Int)).toNat;omega
 ·have fa:=of_decide_eq_false fa
  have ae:hi=lo:=by omega
  subst ae
  have bA:∀f:Bool,(f=true->hi<(a7 z0).length)->(uN (a7 z0)=true->(f=true↔hi<(a7 z0).length/\((a7 z0).getD hi cG).tok=t))->eL SB [.d (.int .i64 0 9223372036854775807),.d .bool] 603 [[z0],[ah]] [[(hi:Int)],[cond f 1 0]]:=λf hf hE=>by
   refine⟨⟨by omega,c1,by cases f<;>decide,by cases f<;>decide,trivial⟩,?_⟩
   show zK (a7 z0) (U ah) (hi:Int) (cond f 1 0)
   rw[ht]
   refine⟨⟨by omega,by omega⟩,?_,λhr=>⟨λj hj=>(hI hr).1 j (by omega),λj h1 h2=>(hI hr).2 j (by omega) h2,?_⟩⟩
   ·intro h
    have:f=true:=by cases f with|true=>rfl|false=>cases h
    have:=hf this;omega
   ·have h3:=hE hr
    rw[k9]
    cases f with
    |true=>exact⟨λ_=>⟨by have:=(h3.1 rfl).1;omega,(h3.1 rfl).2⟩,λ_=>rfl⟩
    |false=>exact⟨λh=>(by cases h),λh=>(by have:=h3.2 ⟨by omega,h.2⟩;cases this)⟩
  refine⟨λhl=>?_,λhl=>?_⟩
  ·have hl:=of_decide_eq_true hl
   have Ep:hi<(ab z0).length:=by omega
   refine⟨⟨by omega,by omega⟩,⟨by omega,by omega⟩,λav _ _ cq z9 _ _ _ aC _ _ _ bf _ _ _ z12 _ _ _ ag _ _ _ ak _ _ _ aI _ _ eD=>?_⟩
   have eD:=ra (Jw (k:=hi) rfl cq Ep) eD
   refine bA (decide (aI=0)) (λ_=>by omega) λhr=>?_
   have hb:=(hI hr).2 hi (a6 _) (by omega)
   rw[hb]at eD
   simp only[cond_false]at eD
   rw[decide_eq_true_eq]
   by_cases hd:((a7 z0).getD hi cG).tok=t
   ·rw[decide_eq_true hd]at eD
    exact⟨λ_=>⟨by omega,hd⟩,λ_=>eD⟩
   ·rw[decide_eq_false hd]at eD
    simp only[cond_false]at eD
    exact⟨λh=>(by omega),λh=>(hd h.2).elim⟩
  ·have hl:=of_decide_eq_false hl
   exact bA false (λh=>by cases h) (λ_=>⟨λh=>(by cases h),λh=>(by omega)⟩)
theorem iU {z n y:Int} (hn:n=((ab z).length:Int)):(0<=(0:Int)/\0<=n/\n<=((ab z).length:Int))/\(y=aB 22 [z,0,n]->ab y=ab z):=by
 refine⟨⟨cn _,by omega,by omega⟩,λhy=>?_⟩
 rw[hy];simp only[aB,dW]
 rw[show(0:Int).toNat=0 from rfl,Gk,mq (by omega)]
theorem ji {y z:Int} (h:ab y=ab z):a7 y=a7 z:=by unfold a7;rw[h]
theorem apc {l:List cW} {t:ay} {i:Nat} (hi:i<l.length) (he:(l.getD i cG).tok=t) (hb:∀j,j<i->(l.getD j cG).tok≠t):l.find? (λp=>decide (p.tok=t))=some (l.getD i cG):=by
 induction l generalizing i with
 |nil=>simp at hi
 |cons a r ih=>
  cases i with
  |zero=>
   have he:a.tok=t:=he
   simp[List.find?,he]
  |succ i=>
   have h0:¬a.tok=t:=hb 0 (by omega)
   rw[List.find?,decide_eq_false h0]
   exact ih (by simpa using hi) (by simpa using he) (λj hj=>by have:=hb (j+1) (by omega);simpa using this)
theorem apd {l:List cW} {t:ay} (h:∀j,j<l.length->(l.getD j cG).tok≠t):l.find? (λp=>decide (p.tok=t))=none:=by
 rw[List.find?_eq_none]
 intro b hb
 obtain⟨j,hj,rfl⟩:=List.mem_iff_getElem.1 hb
 have:=h j hj
 simpa [af,hj]using this
theorem PT {l:List cW} {t:ay} {i f:Int} (h:zK l t i f) (hr:gA l=true):(f=1->l.find? (λp=>decide (p.tok=t))=some (l.getD i.toNat cG))/\(f≠1->l.find? (λp=>decide (p.tok=t))=none):=by
 obtain⟨⟨h1,h2⟩,h3,h4⟩:=h
 obtain⟨k1,k2,k3⟩:=h4 (P5 hr)
 constructor
 ·intro hf
  obtain⟨iG,ey⟩:=k3.1 hf
  exact apc (by omega) ey (λj hj he=>by
   have:=k1 j (by omega)
   rw[he,E3]at this;cases this)
 ·intro hf
  refine apd (λj hj he=>hf (k3.2 ?_))
  by_cases jQ:(j:Int)<i
  ·have:=k1 j jQ
   rw[he,E3]at this;cases this
  ·have h0:=k2 i.toNat (by omega) (by omega)
   refine⟨by omega,?_⟩
   by_cases aiq:i.toNat=j
   ·rw[aiq];exact he
   ·have hs:=Js (P5 hr) (show i.toNat<j by omega) hj
    rw[he,h0]at hs;cases hs
abbrev Uh:bQ:= .d (.mix [.str,.str,.str,.str,.str,.str,.str])
theorem aov:SC SB (eL SB [Uh,.d .bool] 604):=by
 intro z0 a0 a1 ah _ _ z2 _ z3 _ _ z4 b0 b1 h4
 have h4:z4=((ab z0).length:Int):=h4
 have hlen:=sR z0
 have uA:pj (a7 z0) (U ah)=none->eL SB [Uh,.d .bool] 604 [[z0],[ah]] [[0,0,0,0,0,0,0],[cond false 1 0]]:=λh=>by
  refine⟨⟨cn _,jw,cn _,jw,cn _,jw,cn _,jw,cn _,jw,cn _,jw,cn _,jw,by decide,by decide,trivial⟩,?_⟩
  show(match pj (a7 z0) (U ah)with|some b=>gN [0,0,0,0,0,0,0]=b/\(0:Int)=1|none=>([0,0,0,0,0,0,0]:List Int)=[0,0,0,0,0,0,0]/\(0:Int)=0)
  rw[h];exact⟨rfl,rfl⟩
 have W:=λy=>iU (z:=z0) (y:=y) h4
 refine⟨(W 0).1,λz5 _ _ h5 aq _ _ h6=>?_⟩
 have h6:aq=bh (gA (a7 z5)):=h6
 rw[ji ((W z5).2 h5)]at h6
 have hd:=il h6
 refine⟨λhn=>uA (by unfold pj;rw[pf hd hn];rfl),λhn=>⟨(W 0).1,λz7 _ _ h7 av bT c1 z9 d0 d1 cw=>?_⟩⟩
 have hr:=pe hd hn
 have cw:zK (a7 z7) (U ah) av z9:=cw
 rw[ji ((W z7).2 h7)]at cw
 obtain⟨p1,bq⟩:=PT cw hr
 refine⟨λhf=>uA ?_,λhf=>?_⟩
 ·unfold pj;rw[hr]
  refine bq (λh=>?_)
  rw[h]at hf;cases hf
 have l0:z9=1:=by
  cases hx:decide (z9=1)with
  |true=>exact of_decide_eq_true hx
  |false=>rw[hx]at hf;cases hf
 have dZ:=cw.2.1 l0
 refine⟨⟨bT,by omega⟩,⟨bT,by omega⟩,λaC bC e1 c8 bf f0 f1 e0 z12 g0 g1 gd ag i0 i1 gr ak fO dV eD aI jD k1 iN aT cm l1 jc=>⟨⟨bC,e1,f0,f1,g0,g1,i0,i1,fO,dV,jD,k1,cm,l1,by decide,by decide,trivial⟩,?_⟩⟩
 show(match pj (a7 z0) (U ah)with|some b=>gN [aC,bf,z12,ag,ak,aI,aT]=b/\(1:Int)=1|none=>[aC,bf,z12,ag,ak,aI,aT]=[0,0,0,0,0,0,0]/\(1:Int)=0)
 unfold pj
 rw[hr,cond_true,p1 l0]
 exact⟨Jv (k:=av.toNat) (by omega) c8 e0 gd gr eD iN jc (by omega),rfl⟩
end Go.cd
namespace Go.cd
open Go Go.bg
def SJ (S:Nat->List (List Int)->List (List Int)->Prop) (K:List (List Int)->List (List Int)->Prop):Prop:=
 cX λz0=>(aa 66 [z0]->cQ λah=>bY λz2=>bF 20 [z0] λz3=>(aa 53 [z2,z3]->(aD (decide (z2<0)) (K [[z0]] [[0]]) (aa 22 [z0,0,z3]/\
 aa 23 [0,z3]/\aH 22 [z0,0,z3] λz4=>aH 24 [0,z4] λz5=>(aD (decide (z3<=0)) (K [[z0]] [[0]]) (bY λaq=>aa 22 [z5,0,z3]/\aH 22 [z5,0,z3]
 λz7=>K [[z0]] [[z7]]))))))
def SG (S:Nat->List (List Int)->List (List Int)->Prop) (K:List (List Int)->List (List Int)->Prop):Prop:=
 cX λz0=>∀r1:List Int,aO (c7 0 ch 7) r1->cQ λav=>bY λz9=>bF 20 [z0] λaC=>ea λbf=>S 601 [r1] [[bf]]->(aD ((!(decide (bf=
 1)))) (aa 22 [z0,0,aC]/\aH 22 [z0,0,aC] λz12=>K [[z0],r1] [[z12],[1]]) (df 4 [(af r1 6 0),0] λz12=>(aD ((!(decide (z12=1)))) (aa 22
 [z0,0,aC]/\aH 22 [z0,0,aC] λag=>K [[z0],r1] [[ag],[1]]) (aa 22 [z0,0,aC]/\aH 22 [z0,0,aC] λag=>ea λak=>S 602 [[ag]] [[ak]]->
 (aD ((!(decide (ak=1)))) (aa 22 [z0,0,aC]/\aH 22 [z0,0,aC] λaI=>K [[z0],r1] [[aI],[1]]) (aa 22 [z0,0,aC]/\aH 22 [z0,0,aC] λaI=>fB
 λaT=>ea λbE=>S 603 [[aI],[(af r1 0 0)]] [[aT],[bE]]->(aD (decide (bE=1)) (aa 22 [z0,0,aC]/\aH 22 [z0,0,aC] λbr=>K
 [[z0],r1] [[br],[6]]) ((aD (decide (aC=32)) (aa 22 [z0,0,aC]/\aH 22 [z0,0,aC] λbr=>K [[z0],r1] [[br],[10]]) (((aa 22 [z0,0,aC]/\aH 22
 [z0,0,aC] λbr=>aa 66 [br]/\cX λbH=>S 619 [[br]] [[bH]]->bY λz20=>bF 20 [bH] λz21=>aa 31 [bH,z21]/\aH 23 [0,(af r1
 0 0),(af r1 1 0),(af r1 2 0),(af r1 3 0),(af r1 4 0),(af r1 5 0),(af r1 6 0)] λz22=>aa 51 [bH,aT,z22]/\cX
 λdg=>S 605 [[bH],[aT],[z22]] [[dg]]->bY λz24=>bF 20 [dg] λcK=>aa 22 [dg,0,cK]/\aH 22 [dg,0,cK] λz26=>K [[z0],r1]
 [[z26],[0]])/\(aa 22 [z0,0,aC]/\aH 22 [z0,0,aC] λbr=>aa 66 [br]/\cX λbH=>S 619 [[br]] [[bH]]->bY λz20=>bF 20 [bH] λz21=>
 aa 31 [bH,z21]/\aH 23 [0,(af r1 0 0),(af r1 1 0),(af r1 2 0),(af r1 3 0),(af r1 4 0),(af r1 5 0),(af r1 6
 0)] λz22=>aa 51 [bH,aT,z22]/\cX λdg=>S 605 [[bH],[aT],[z22]] [[dg]]->bY λz24=>bF 20 [dg] λcK=>aa 22 [dg,0,cK]/\aH 22
 [dg,0,cK] λz26=>K [[z0],r1] [[z26],[0]]))))))))))))
def SF (S:Nat->List (List Int)->List (List Int)->Prop) (K:List (List Int)->List (List Int)->Prop):Prop:=
 cX λz0=>∀r1:List Int,aO (c7 0 ch 2) r1->cu λz3=>cQ λz4=>bY λz5=>bF 20 [z0] λaq=>ea λz7=>S 200 [[z3]] [[z7]]->(aD
 ((!(decide (z7=1)))) (aa 22 [z0,0,aq]/\aH 22 [z0,0,aq] λav=>K [[z0],r1,[z3]] [[av],[0],[1]]) (aa 22 [z0,0,aq]/\aH 22 [z0,0,aq] λav=>ea λ
 z9=>S 602 [[av]] [[z9]]->(aD ((!(decide (z9=1)))) (aa 22 [z0,0,aq]/\aH 22 [z0,0,aq] λaC=>K [[z0],r1,[z3]] [[aC],[0],[1]]) (aa 22 [z0,0,aq]/\
 aH 22 [z0,0,aq] λaC=>aa 66 [aC]/\cX λbf=>S 619 [[aC]] [[bf]]->bY λz12=>bF 20 [bf] λag=>∃(o5:List (List Int)->Prop) (qR
 :List (List Int)->Nat),o5 [[0],[bf],[0],[0],[(-1)]]/\(fB λaI=>cX λaT=>cX λbE=>fB λbr=>bY λbH=>o5
 [[aI],[aT],[bE],[br],[bH]]->(aD (decide (aI<ag)) (aa 30 [aI,ag]/\aa 21 [aT,aI]/\bW 21 [aT,aI,1] λz20=>bW 21 [aT,aI,2] λz21
 =>df 4 [z20,(af r1 0 0)] λz22=>df 4 [z21,(af r1 1 0)] λdg=>(aD (decide ([z22,dg]=[1,1])) (aa 21 [aT,aI]/\bW 21 [aT,aI,6]
 λz24=>df 4 [z24,0] λcK=>(aD (decide (cK=1)) (aa 21 [aT,aI]/\(aa 67 [aT,aI,7]->aH 42 [aT,aI,6,z3] λz26=>aa 21 [z26,aI]/\
 bW 21 [z26,aI,0] λdM=>bW 21 [z26,aI,1] λz28=>bW 21 [z26,aI,2] λfj=>bW 21 [z26,aI,3] λee=>bW 21 [z26,aI,4] λz31=>bW 21
 [z26,aI,5] λdh=>bW 21 [z26,aI,6] λdN=>aa 31 [bE,br]/\aa 23 [bE,1]/\aH 23 [bE,dM,z28,fj,ee,z31,dh,dN] λdX=>bY λdu=>dT
 (aI+9223372036854775809) 18446744073709551616 λcY=>aa 39 [((aI+((-18446744073709551616)*cY))+1),0,9223372036854775807]/\(o5 [[((aI+
 ((-18446744073709551616)*cY))+1)],[z26],[dX],[(br+1)],[du]]/\qR [[((aI+((-18446744073709551616)*cY))+1)],[z26],[dX],[(br+1)],[du]]<
 qR [[aI],[aT],[bE],[br],[bH]]))) (dT (aI+9223372036854775809) 18446744073709551616 λz26=>aa 39 [((aI+((-18446744073709551616)*z26))+
 1),0,9223372036854775807]/\(o5 [[((aI+((-18446744073709551616)*z26))+1)],[aT],[bE],[br],[bH]]/\qR [[((aI+((-18446744073709551616)*z26))+
 1)],[aT],[bE],[br],[bH]]<qR [[aI],[aT],[bE],[br],[bH]])))) (dT (aI+9223372036854775809) 18446744073709551616 λz24=>aa 39 [((aI+
 ((-18446744073709551616)*z24))+1),0,9223372036854775807]/\(o5 [[((aI+((-18446744073709551616)*z24))+1)],[aT],[bE],[br],[bH]]/\qR [[((aI+
 ((-18446744073709551616)*z24))+1)],[aT],[bE],[br],[bH]]<qR [[aI],[aT],[bE],[br],[bH]])))) (aa 22 [aT,0,ag]/\aH 22 [aT,0,ag] λz20=>
 aa 22 [bE,0,br]/\aH 22 [bE,0,br] λz21=>K [[z0],r1,[z3]] [[z20],[z21],[0]])))))))
def SL (S:Nat->List (List Int)->List (List Int)->Prop) (K:List (List Int)->List (List Int)->Prop):Prop:=
 K [] [[117,477315081741,437051401625,1786258745,1786259033,1721197221,0]]
abbrev Pz:bQ:= .jW [.str,.str,.str,.str,.str,.str,.str] 0
abbrev uM:bQ:= .rd [.str,.str,.str,.str,.str,.str,.str]
theorem aoC:SJ SB (eL SB [Pz] 619):=by
 intro z0 a0 a1 hp ah b1 z2 bT c1 z3 d0 d1 h3 hn
 have h3:z3=((ab z0).length:Int):=h3
 have hl:(ab z0).length<=1000000:=hp
 have hn:z2<0->z3=0:=hn
 have fin:∀z,0<=z->z<=bZ->ab z=ab z0->eL SB [Pz] 619 [[z0]] [[z]]:=λz h1 h2 h=>⟨⟨h1,h2,trivial⟩,h⟩
 have bC:z3<=0->eL SB [Pz] 619 [[z0]] [[0]]:=λh=>fin 0 (cn _) oH (by rw[Go.bg.fD];exact(vd (by omega)).symm)
 refine⟨λh=>bC (by have:=hn (of_decide_eq_true h);omega),λh=>⟨⟨cn _,by omega,by rw[h3];exact cn _⟩,by show(ab 0).length+z3<=1073741824;rw[Go.bg.fD];simp only[gF];omega,λz4 f0 f1 h4 z5 g0 g1 h5=>?_⟩⟩
 have h4:=(iU (y:=z4) h3).2 h4
 have h5:ab z5=ab z0:=by
  try dsimp only
  rw[h5];show ab (rc (ab 0++ab z4))=_
  try dsimp only
  rw[dW,Go.bg.fD,h4];rfl
 refine⟨λh=>bC (of_decide_eq_true h),λh aq i0 i1=>⟨⟨cn _,by omega,by rw[h3,h5];exact cn _⟩,λz7 fO dV h7=>fin z7 fO dV ?_⟩⟩
 try dsimp only
 rw[(iU (y:=z7) (by rw[h3,h5])).2 h7,h5]
theorem UU {α:Type} {d:α} {p:α->Bool}:∀{l:List α} {i:Nat},i<=l.length->(∀j,j<i->p (l.getD j d)=true)->(∀j,i<=j->j<l.length->p (l.getD j d)=false)->l.filter p=l.take i
 |[],i,h,_,_=>by simp
 |a::l,0,h,_,h2=>by
  try dsimp only
  rw[tn,List.filter_eq_nil_iff]
  intro b hb
  obtain⟨j,hj,rfl⟩:=List.mem_iff_getElem.1 hb
  have:=h2 j (mr _) hj
  simp only[af,jt hj,qN]at this
  try dsimp only
  rw[this];decide
 |a::l,i+1,h,h1,h2=>by
  have c8:p a=true:=h1 0 (by omega)
  try dsimp only
  rw[avT c8,List.take_succ_cons,UU (d:=d) (i:=i) (by simpa using h) (λj hj=>by have:=h1 (j+1) (by omega);simpa using this) (λj hj hl=>by have:=h2 (j+1) (by omega) (by simpa using hl);simpa using this)]
theorem UT {α:Type} {d:α} {p:α->Bool}:∀{l:List α} {i:Nat},i<=l.length->(∀j,j<i->p (l.getD j d)=false)->(∀j,i<=j->j<l.length->p (l.getD j d)=true)->l.filter p=l.drop i
 |[],i,h,_,_=>by simp
 |a::l,0,h,_,h2=>by
  try dsimp only
  rw[Gk,List.filter_eq_self]
  intro b hb
  obtain⟨j,hj,rfl⟩:=List.mem_iff_getElem.1 hb
  have:=h2 j (mr _) hj
  simpa only[af,jt hj,qN]using this
 |a::l,i+1,h,h1,h2=>by
  have h0:=h1 0 (by omega)
  try dsimp only
  rw[avV (by rw[show p a=false from h0];decide),CO,UT (d:=d) (i:=i) (by simpa using h) (λj hj=>by have:=h1 (j+1) (by omega);simpa using this) (λj hj hl=>by have:=h2 (j+1) (by omega) (by simpa using hl);simpa using this)]
theorem Lr {l:List cW} {t:ay}:(l.any λp=>decide (p.tok=t))=(l.find? λp=>decide (p.tok=t)).isSome:=by
 try dsimp only
 rw[rY,List.any_eq_true,List.find?_isSome]
theorem dup {p:Prop} (h:p):p/\p:=⟨h,h⟩
theorem aa4 {id:Nat} {zs:List (List Int)} {y e:Int} (jH:0<=y) (jn:y<=bZ) (bC:0<=e) (e1:e<=21) (h:SB id zs [[y],[e]]):eL SB [uM,.d (.int .i64 0 21)] id zs [[y],[e]]:=⟨⟨jH,jn,bC,e1,trivial⟩,h⟩
theorem aqH {l:List cW} {w:cW} {i f:Int} (hr:gA l=true) (aZ:l9 w=true) (he:w.hV.isEmpty=true) (h:zK l w.tok i f) (hf:f≠1) (hl:¬l.length=32):oz l w=(l.take i.toNat++w::l.drop i.toNat,0):=by
 have bq:=(PT h hr).2 hf
 obtain⟨⟨h1,h2⟩,h3,h4⟩:=h
 obtain⟨k1,k2,k3⟩:=h4 (P5 hr)
 have hlt:∀j,j<i.toNat->dj (l.getD j cG).tok w.tok=true:=λj hj=>k1 j (by omega)
 have fa:∀j,i.toNat<=j->j<l.length->dj (l.getD j cG).tok w.tok=false:=λj hj hl=>k2 j (by omega) hl
 have H3:∀j,i.toNat<=j->j<l.length->dj w.tok (l.getD j cG).tok=true:=λj hj hl=>by
  rcases Pd (l.getD j cG).tok w.tok with h|h|h
  ·rw[fa j hj hl]at h;cases h
  ·exact h
  ·have hno:=List.find?_eq_none.1 bq (l.getD j cG) (by simp[af,hl])
   exact absurd (decide_eq_true h) (by simpa using hno)
 unfold oz
 try dsimp only
 rw[aZ,hr,he,Lr,bq,decide_eq_false hl,UU (p:=λp=>dj p.tok w.tok) (d:=cG) (i:=i.toNat) (by omega) hlt fa,UT (p:=λp=>dj w.tok p.tok) (d:=cG) (i:=i.toNat) (by omega) (λj hj=>ak4 (hlt j hj)) H3]
 rfl
theorem aoz:SG SB (eL SB [uM,.d (.int .i64 0 21)] 606):=by
 intro z0 a0 a1 r1 eT av _ z9 _ _ aC b0 b1 c8 bf _ _ e0
 have c8:aC=((ab z0).length:Int):=c8
 have hlen:=sR z0
 have W:=λy=>iU (z:=z0) (y:=y) c8
 have e0:=il (show bf=bh (l9 (gN r1)) from e0)
 have bA:∀y e:Int,0<=y->y<=bZ->0<=e->e<=21->(a7 y,e)=oz (a7 z0) (gN r1)->eL SB [uM,.d (.int .i64 0 21)] 606 [[z0],r1] [[y],[e]]:=λy e jH jn bC e1 h=>aa4 jH jn bC e1 h
 refine⟨λa=>⟨(W 0).1,λz12 bT c1 gd=>bA z12 1 bT c1 (by decide) (by decide) ?_⟩,λa z12 _ _ gd=>?_⟩
 ·unfold oz;rw[pf e0 a,ji ((W z12).2 gd)];rfl
 have aZ:=pe e0 a
 have gd:decide (z12=1)=(gN r1).hV.isEmpty:=Ho gd
 refine⟨λa=>⟨(W 0).1,λag bT c1 gr=>bA ag 1 bT c1 (by decide) (by decide) ?_⟩,λa=>⟨(W 0).1,λag _ _ gr ak _ _ eD=>?_⟩⟩
 ·unfold oz;rw[pf gd a,Bool.false_and,Gl,ji ((W ag).2 gr)];rfl
 have Nw:=pe gd a
 have eD:=il (show ak=bh (gA (a7 ag)) from eD)
 rw[ji ((W ag).2 gr)]at eD
 refine⟨λa=>⟨(W 0).1,λaI bT c1 iN=>bA aI 1 bT c1 (by decide) (by decide) ?_⟩,λa=>⟨(W 0).1,λaI _ _ iN aT bT c1 bE d0 d1 cw=>?_⟩⟩
 ·unfold oz;rw[pf eD a,Gl,Gl,ji ((W aI).2 iN)];rfl
 have hr:=pe eD a
 have tK:=((FB _).1 hr).1
 have cw:zK (a7 aI) (gN r1).tok aT bE:=cw
 rw[ji ((W aI).2 iN)]at cw
 obtain⟨p1,bq⟩:=PT cw hr
 refine⟨λhf=>⟨(W 0).1,λbr bC e1 mH=>bA br 6 bC e1 (by decide) (by decide) ?_⟩,λhf=>⟨λh=>⟨(W 0).1,λbr bC e1 mH=>bA br 10 bC e1 (by decide) (by decide) ?_⟩,λh=>dup ?_⟩⟩
 ·unfold oz;rw[aZ,Nw,hr,Lr,p1 (of_decide_eq_true hf),ji ((W br).2 mH)];rfl
 ·have h:=of_decide_eq_true h
  unfold oz;rw[aZ,Nw,hr,Lr,bq (of_decide_eq_false hf),decide_eq_true (show(a7 z0).length=32 by omega),ji ((W br).2 mH)];rfl
 have h:=of_decide_eq_false h
 have N7:=of_decide_eq_false hf
 obtain⟨⟨s1,s2⟩,fR,nF⟩:=id cw
 refine⟨(W 0).1,λbr _ _ mH=>?_⟩
 have mH:=(W br).2 mH
 refine⟨by show(ab br).length<=1000000;rw[mH];omega,λbH _ _ ns z20 _ _ z21 _ _ vE=>?_⟩
 have ns:ab bH=ab br:=ns
 rw[mH]at ns
 have vE:z21=((ab bH).length:Int):=vE
 refine⟨vE,λz22 _ _ sw=>?_⟩
 have WA:ab z22=[[r1.getD 0 0,r1.getD 1 0,r1.getD 2 0,r1.getD 3 0,r1.getD 4 0,r1.getD 5 0,r1.getD 6 0]]:=by rw[sw];simp only[aB,dW,Go.bg.fD,jr]
 refine⟨⟨⟨bT,by rw[ns];omega⟩,by rw[WA];rfl,by rw[ns];omega⟩,λdg _ _ sx z24 _ _ cK _ _ nt=>?_⟩
 have sx:ab dg=(ab bH).take aT.toNat++ab z22++(ab bH).drop aT.toNat:=sx
 rw[ns,WA]at sx
 have nt:cK=((ab dg).length:Int):=nt
 refine⟨(iU (y:=0) nt).1,λz26 bC e1 xK=>bA z26 0 bC e1 (by decide) (by decide) ?_⟩
 have xK:=(iU (y:=z26) nt).2 xK
 try dsimp only
 rw[aqH hr aZ Nw cw N7 (by omega)]
 unfold a7
 try dsimp only
 rw[xK,sx]
 simp[List.map_take,List.map_drop]
 rfl
theorem apQ {c i a b:Int} {k:Nat} (hi:i=(k:Int)) (ha:a=aB 21 [c,i,1]) (hb:b=aB 21 [c,i,2]) (hk:k<(ab c).length):(U a,U b)=((a7 c).getD k cG).who:=by
 try dsimp only
 rw[Fl hk,ha,hb,hi];rfl
theorem Qa {c i a:Int} {k:Nat} (hi:i=(k:Int)) (ha:a=aB 21 [c,i,6]) (hk:k<(ab c).length):U a=((a7 c).getD k cG).hV:=by
 try dsimp only
 rw[Fl hk,ha,hi];rfl
theorem apg {row:List Int} {z:Int} (h:row.length=7):gN (row.take 6++[z]++row.drop 7)={gN row with hV:=U z}:=by
 match row,h with
 |[a,b,c,d,e,f,g],_=>rfl
def zj (dy:ay) (p:cW):cW:={p with hV:=dy}
def qv (who:ay×ay) (dy:ay) (p:cW):cW:=cond (oX who p) (zj dy p) p
theorem Y5 {l:List cW} {who:ay×ay} {dy:ay} (hu:mY dy=true) (hr:gA l=true):oy l who dy=(l.map (qv who dy),(l.filter (oX who)).map (zj dy),0):=by
 unfold oy;rw[hu,hr];rfl
def Tt (l:List cW) (who:ay×ay) (dy:ay) (bl:List (List Int)):Prop:=∃(i:Nat) (c d n x:Int),bl=[[(i:Int)],[c],[d],[n],[x]]/\i<=l.length/\a7 c=(l.take i).map (qv who dy)++l.drop i/\n=((ab d).length:Int)/\(ab d).length<=i/\a7 d=((l.take i).filter (oX who)).map (zj dy)
def Li (l:List cW) (bl:List (List Int)):Nat:=l.length-((bl.getD 0 []).getD 0 0).toNat
theorem JS {l:List cW} {i:Nat} (h:i<l.length):l.take (i+1)=l.take i++[l.getD i cG]:=by
 try dsimp only
 rw[Kl,jt h];simp[af,h]
theorem adW {l:List cW} {i:Nat} (h:i<l.length):l.drop i=l.getD i cG::l.drop (i+1):=by
 try dsimp only
 rw[List.drop_eq_getElem_cons h];simp[af,h]
theorem Po {a b:List cW} {x:cW} {i:Nat} (h:a.length=i):(a++x::b).getD i cG=x/\∀y,(a++x::b).set i y=a++y::b:=by
 subst h
 refine⟨by simp[af],λy=>by simp⟩
theorem aa3 {id:Nat} {zs:List (List Int)} {y d e:Int} (jH:0<=y) (jn:y<=bZ) (d0:0<=d) (d1:d<=bZ) (bC:0<=e) (e1:e<=21) (h:SB id zs [[y],[d],[e]]):eL SB [uM,uM,.d (.int .i64 0 21)] id zs [[y],[d],[e]]:=⟨⟨jH,jn,d0,d1,bC,e1,trivial⟩,h⟩
theorem BH:a7 0=[]:=by unfold a7;rw[Go.bg.fD];rfl
theorem apj {c y:Int} {row:List Int} (h:y=aB 23 (c::row)):ab y=ab c++[row]/\a7 y=a7 c++[gN row]:=by
 have h:ab y=ab c++[row]:=by rw[h];simp only[aB,dW]
 exact⟨h,by unfold a7;rw[h];simp⟩
theorem XY {i:Nat} {L:Nat} (hl:i<L) (cJ:L<=1073741824) {z:Int} (h2:0<=((i:Int)+9223372036854775809)-18446744073709551616*z) (h3:((i:Int)+9223372036854775809)-18446744073709551616*z<18446744073709551616):((i:Int)+(-18446744073709551616)*z)+1=((i+1:Nat):Int):=by omega
theorem aoy:SF SB (eL SB [uM,uM,.d (.int .i64 0 21)] 607):=by
 intro z0 a0 a1 r1 eT z3 _ _ z4 _ z5 _ _ aq b0 b1 h6 z7 _ _ h7
 have h6:aq=((ab z0).length:Int):=h6
 have hlen:=sR z0
 have W:=λy=>iU (z:=z0) (y:=y) h6
 have h7:=il (show z7=bh (mY (U z3)) from h7)
 have bA:∀y d e:Int,0<=y->y<=bZ->0<=d->d<=bZ->0<=e->e<=21->(a7 y,a7 d,e)=oy (a7 z0) (oC r1) (U z3)->eL SB [uM,uM,.d (.int .i64 0 21)] 607 [[z0],r1,[z3]] [[y],[d],[e]]:=λy d e jH jn d0 d1 bC e1 h=>aa3 jH jn d0 d1 bC e1 h
 refine⟨λa=>⟨(W 0).1,λav bT c1 cq=>bA av 0 1 bT c1 (cn _) oH (by decide) (by decide) ?_⟩,λa=>⟨(W 0).1,λav _ _ cq z9 _ _ bU=>?_⟩⟩
 ·unfold oy;rw[pf h7 a,ji ((W av).2 cq),BH];rfl
 have hu:=pe h7 a
 have bU:=il (show z9=bh (gA (a7 av)) from bU)
 rw[ji ((W av).2 cq)]at bU
 refine⟨λa=>⟨(W 0).1,λaC bT c1 c8=>bA aC 0 1 bT c1 (cn _) oH (by decide) (by decide) ?_⟩,λa=>⟨(W 0).1,λaC _ _ c8=>?_⟩⟩
 ·unfold oy;rw[pf bU a,Gl,ji ((W aC).2 c8),BH];rfl
 have hr:=pe bU a
 have tK:=((FB _).1 hr).1
 have c8:=(W aC).2 c8
 refine⟨by show(ab aC).length<=1000000;rw[c8];omega,λbf _ _ e0 z12 _ _ ag _ _ gr=>?_⟩
 have e0:ab bf=ab aC:=e0
 rw[c8]at e0
 have gr:ag=((ab bf).length:Int):=gr
 rw[e0]at gr
 generalize Io:oC r1=who at bA
 generalize rp:U z3=dy at bA hu
 generalize cJ:a7 z0=L at bA hr tK hlen
 refine⟨Tt L who dy,Li L,⟨0,bf,0,0,-1,rfl,mr _,by rw[ji e0,cJ];rfl,by rw[Go.bg.fD];rfl,by rw[Go.bg.fD];exact a6 _,by rw[BH];rfl⟩,?_⟩
 rintro aI bC e1 aT f0 f1 bE g0 g1 br i0 i1 bH fO dV ⟨i,c,d,n,x,e,hi,hc,hn,axR,hd⟩
 obtain⟨rfl,rfl,rfl,rfl,rfl⟩:aI=i/\aT=c/\bE=d/\br=n/\bH=x:=by simpa using e
 have hh:(ab aT).length=L.length:=by rw[<-sR,hc];simp;omega
 refine⟨λhlt=>?_,λfa=>?_⟩
 ·have hlt:=of_decide_eq_true hlt
  have dZ:i<L.length:=by omega
  rw[adW dZ]at hc
  have dG:((L.take i).map (qv who dy)).length=i:=by simp;omega
  have hrow:(a7 aT).getD i cG=L.getD i cG:=by rw[hc];exact(Po dG).1
  refine⟨⟨by omega,by omega⟩,⟨by omega,by omega⟩,λz20 _ _ Ap z21 _ _ vE z22 _ _ sw dg _ _ sx=>?_⟩
  have hw:=ao6 sw sx
  have ajF:decide (U z20=U (r1.getD 0 0)/\U z21=U (r1.getD 1 0))=decide ((L.getD i cG).who=who):=by
   try dsimp only
   rw[<-hrow,<-apQ (k:=i) rfl Ap vE (by omega),<-Io]
   unfold oC
   simp only[cj]
  rw[ajF]at hw
  have Zi:∀{z:Int},qv who dy (L.getD i cG)=L.getD i cG->oX who (L.getD i cG)=false->0<=((i:Int)+9223372036854775809)-18446744073709551616*z->((i:Int)+9223372036854775809)-18446744073709551616*z<18446744073709551616->aa 39 [((i:Int)+(-18446744073709551616)*z)+1,0,9223372036854775807]/\Tt L who dy [[((i:Int)+(-18446744073709551616)*z)+1],[aT],[bE],[br],[bH]]/\Li L [[((i:Int)+(-18446744073709551616)*z)+1],[aT],[bE],[br],[bH]]<Li L [[(i:Int)],[aT],[bE],[br],[bH]]:=λ{z} hs vY k2 k3=>by
   try dsimp only
   rw[XY dZ (by omega) k2 k3]
   refine⟨⟨by omega,by omega⟩,⟨i+1,aT,bE,br,bH,rfl,by omega,?_,hn,by omega,?_⟩,by show L.length-(((i+1:Nat):Int)).toNat<L.length-((i:Int)).toNat;omega⟩
   ·try dsimp only
    rw[hc,JS dZ,ff,cr,dY,hs,ie];rfl
   ·try dsimp only
    rw[hd,JS dZ,avW,avV (by rw[vY];decide),List.filter_nil,gT]
  refine⟨λhq=>⟨⟨by omega,by omega⟩,λz24 _ _ vF cK _ _ nt=>?_⟩,λhq z24 _ _ k2 k3=>?_⟩
  ·have sE:=hw.symm.trans hq
   have hb:=Ho nt
   rw[Qa (k:=i) rfl vF (by omega),hrow]at hb
   have OC:oX who (L.getD i cG)=decide (cK=1):=by unfold oX;rw[sE,hb];rfl
   refine⟨λhy=>⟨⟨by omega,by omega⟩,λMO z26 _ _ xK=>?_⟩,λhy z26 _ _ k2 k3=>Zi (by unfold qv;rw[OC,hy];rfl) (OC.trans hy) k2 k3⟩
   have AW:=OC.trans hy
   have MO:((ab aT).getD i []).length=7:=MO
   have WB:ab z26=(ab aT).set i (((ab aT).getD i []).take 6++[z3]++((ab aT).getD i []).drop 7):=by
    try dsimp only
    rw[xK];simp only[aB,dW];rfl
   have Wz:a7 z26=(L.take i).map (qv who dy)++zj dy (L.getD i cG)::L.drop (i+1):=by
    have:a7 z26=(a7 aT).set i (zj dy (L.getD i cG)):=by
     unfold a7
     try dsimp only
     rw[WB,Z6,apg MO,rp]
     try dsimp only
     rw[<-hrow,Fl (by omega)];rfl
    try dsimp only
    rw[this,hc];exact(Po dG).2 _
   have axy:(ab z26).length=L.length:=by rw[WB];simpa using hh
   have ajf:(a7 z26).getD i cG=zj dy (L.getD i cG):=by rw[Wz];exact(Po dG).1
   refine⟨⟨by omega,by omega⟩,λdM _ _ HF z28 _ _ Aq fj _ _ HG ee _ _ HH z31 _ _ HI dh _ _ afW dN _ _ HJ=>⟨hn,by show((ab bE).length:Int)+1<=1073741824;omega,λdX _ _ Ar du _ _ cY _ _ k2 k3=>?_⟩⟩
   have Oe:=Jv (k:=i) rfl HF Aq HG HH HI afW HJ (by omega)
   obtain⟨bo,bI⟩:=apj Ar
   try dsimp only
   rw[XY dZ (by omega) k2 k3]
   refine⟨⟨by omega,by omega⟩,⟨i+1,z26,dX,br+1,du,rfl,by omega,?_,by rw[bo,hn];simp,by rw[bo];simp;omega,?_⟩,by show L.length-(((i+1:Nat):Int)).toNat<L.length-((i:Int)).toNat;omega⟩
   ·try dsimp only
    rw[Wz,JS dZ,ff,cr,dY,ie]
    unfold qv;rw[AW];rfl
   ·try dsimp only
    rw[bI,Oe,ajf,hd,JS dZ,avW,avT AW,ff];rfl
  ·have sE:=hw.symm.trans hq
   have vY:oX who (L.getD i cG)=false:=by unfold oX;rw[sE];rfl
   exact Zi (by unfold qv;rw[vY];rfl) vY k2 k3
 ·have fa:=of_decide_eq_false fa
  have aim:i=L.length:=by omega
  subst aim
  have w1:=iU (z:=aT) (n:=ag) (y:=0) (by omega)
  refine⟨w1.1,λz20 jD k1 Ap=>⟨(iU (y:=0) hn).1,λz21 cm l1 vE=>bA z20 z21 0 jD k1 cm l1 (by decide) (by decide) ?_⟩⟩
  try dsimp only
  rw[Y5 hu hr,ji ((iU (z:=aT) (n:=ag) (y:=z20) (by omega)).2 Ap),ji ((iU (y:=z21) hn).2 vE),hc,hd]
  simp
theorem xV {c:Int} {l:List UInt8} (h:dP l=c) (hl:l.length<=fQ):c<=ch:=h▸oG hl
theorem aoE:SL SB (bO SB [.mix [.str,.str,.str,.str,.str,.str,.str]] 608):=⟨by
 refine⟨by decide,xV (l:=[116]) (by decide+kernel) (by decide),by decide,xV (l:=[101,109,97,105,108]) (by decide+kernel) (by decide),by decide,xV (l:=[97,64,98,46,99]) (by decide+kernel) (by decide),by decide,xV (l:=[33,114,58,104]) (by decide+kernel) (by decide),by decide,xV (l:=[64,115,58,104]) (by decide+kernel) (by decide),by decide,xV (l:=[115,101,101,100]) (by decide+kernel) (by decide),by decide,xV (l:=[]) (by decide+kernel) (by decide),trivial⟩,rfl⟩
end Go.cd
namespace Go.cd
open Go Go.bg
theorem ams {i:Nat} (hl:(i:Int)<9223372036854775807) {z:Int} (h2:0<=((i:Int)+9223372036854775809)-18446744073709551616*z) (h3:((i:Int)+9223372036854775809)-18446744073709551616*z<18446744073709551616):((i:Int)+(-18446744073709551616)*z)+1=((i+1:Nat):Int):=by omega
end Go.cd
namespace Go.cd
open Go Go.bg
def Sj (S:Nat->List (List Int)->List (List Int)->Prop) (K:List (List Int)->List (List Int)->Prop):Prop:=
 mW λz0=>cc 0 1073741823 (1073741824*z0) 4294967296 λah=>cc 0 1073741823 z0 4 λz2=>cQ λz3=>z3<=eX .u32->z3=cf .xor .u32 0
 ((1073741824*z0)+(((-4294967296)*ah)+z2))->cc 0 524287 (524288*z0) 4294967296 λz4=>cc 0 524287 z0 8192 λz5=>cQ λaq=>aq<=eX
 .u32->aq=cf .xor .u32 z3 ((524288*z0)+(((-4294967296)*z4)+z5))->cc 0 1023 (1024*z0) 4294967296 λz7=>cc 0 1023 z0 4194304 λav=>cQ λ
 z9=>z9<=eX .u32->z9=cf .xor .u32 aq ((1024*z0)+(((-4294967296)*z7)+av))->K [[z0]] [[z9]]
def Sl (S:Nat->List (List Int)->List (List Int)->Prop) (K:List (List Int)->List (List Int)->Prop):Prop:=
 mW λz0=>cc 0 67108863 (67108864*z0) 4294967296 λah=>cc 0 67108863 z0 64 λz2=>cQ λz3=>z3<=eX .u32->z3=cf .xor .u32 0
 ((67108864*z0)+(((-4294967296)*ah)+z2))->cc 0 2097151 (2097152*z0) 4294967296 λz4=>cc 0 2097151 z0 2048 λz5=>cQ λaq=>aq<=eX
 .u32->aq=cf .xor .u32 z3 ((2097152*z0)+(((-4294967296)*z4)+z5))->cc 0 127 (128*z0) 4294967296 λz7=>cc 0 127 z0 33554432 λav=>cQ λ
 z9=>z9<=eX .u32->z9=cf .xor .u32 aq ((128*z0)+(((-4294967296)*z7)+av))->K [[z0]] [[z9]]
def Sn (S:Nat->List (List Int)->List (List Int)->Prop) (K:List (List Int)->List (List Int)->Prop):Prop:=
 mW λz0=>cc 0 33554431 (33554432*z0) 4294967296 λah=>cc 0 33554431 z0 128 λz2=>cQ λz3=>z3<=eX .u32->z3=cf .xor .u32 0
 ((33554432*z0)+(((-4294967296)*ah)+z2))->cc 0 16383 (16384*z0) 4294967296 λz4=>cc 0 16383 z0 262144 λz5=>cQ λaq=>aq<=eX .u32
 ->aq=cf .xor .u32 z3 ((16384*z0)+(((-4294967296)*z4)+z5))->cc 0 536870911 z0 8 λz7=>cQ λav=>av<=eX .u32->av=cf .xor .u32
 aq z7->K [[z0]] [[av]]
def Sp (S:Nat->List (List Int)->List (List Int)->Prop) (K:List (List Int)->List (List Int)->Prop):Prop:=
 mW λz0=>cc 0 32767 (32768*z0) 4294967296 λah=>cc 0 32767 z0 131072 λz2=>cQ λz3=>z3<=eX .u32->z3=cf .xor .u32 0 ((32768*
 z0)+(((-4294967296)*ah)+z2))->cc 0 8191 (8192*z0) 4294967296 λz4=>cc 0 8191 z0 524288 λz5=>cQ λaq=>aq<=eX .u32->aq=cf
 .xor .u32 z3 ((8192*z0)+(((-4294967296)*z4)+z5))->cc 0 4194303 z0 1024 λz7=>cQ λav=>av<=eX .u32->av=cf .xor .u32 aq z7->K
 [[z0]] [[av]]
def Sk (S:Nat->List (List Int)->List (List Int)->Prop) (K:List (List Int)->List (List Int)->Prop):Prop:=
 kq λz0=>cc 0 68719476735 (68719476736*z0) 18446744073709551616 λah=>cc 0 68719476735 z0 268435456 λz2=>cQ λz3=>z3<=eX .u64->z3
 =cf .xor .u64 0 ((68719476736*z0)+(((-18446744073709551616)*ah)+z2))->cc 0 1073741823 (1073741824*z0) 18446744073709551616 λz4=>cc 0
 1073741823 z0 17179869184 λz5=>cQ λaq=>aq<=eX .u64->aq=cf .xor .u64 z3 ((1073741824*z0)+(((-18446744073709551616)*z4)+z5))->
 cc 0 33554431 (33554432*z0) 18446744073709551616 λz7=>cc 0 33554431 z0 549755813888 λav=>cQ λz9=>z9<=eX .u64->z9=cf .xor .u64 aq
 ((33554432*z0)+(((-18446744073709551616)*z7)+av))->K [[z0]] [[z9]]
def Sm (S:Nat->List (List Int)->List (List Int)->Prop) (K:List (List Int)->List (List Int)->Prop):Prop:=
 kq λz0=>cc 0 1125899906842623 (1125899906842624*z0) 18446744073709551616 λah=>cc 0 1125899906842623 z0 16384 λz2=>cQ λz3=>z3<=eX
 .u64->z3=cf .xor .u64 0 ((1125899906842624*z0)+(((-18446744073709551616)*ah)+z2))->cc 0 70368744177663 (70368744177664*z0) 18446744073709551616
 λz4=>cc 0 70368744177663 z0 262144 λz5=>cQ λaq=>aq<=eX .u64->aq=cf .xor .u64 z3 ((70368744177664*z0)+(((-18446744073709551616)
 *z4)+z5))->cc 0 8388607 (8388608*z0) 18446744073709551616 λz7=>cc 0 8388607 z0 2199023255552 λav=>cQ λz9=>z9<=eX .u64->z9=
 cf .xor .u64 aq ((8388608*z0)+(((-18446744073709551616)*z7)+av))->K [[z0]] [[z9]]
def So (S:Nat->List (List Int)->List (List Int)->Prop) (K:List (List Int)->List (List Int)->Prop):Prop:=
 kq λz0=>cc 0 9223372036854775807 (9223372036854775808*z0) 18446744073709551616 λah=>cc 0 9223372036854775807 z0 2 λz2=>cQ λz3=>z3<=
 eX .u64->z3=cf .xor .u64 0 ((9223372036854775808*z0)+(((-18446744073709551616)*ah)+z2))->cc 0 72057594037927935 (72057594037927936*z0)
 18446744073709551616 λz4=>cc 0 72057594037927935 z0 256 λz5=>cQ λaq=>aq<=eX .u64->aq=cf .xor .u64 z3 ((72057594037927936*z0)+
 (((-18446744073709551616)*z4)+z5))->cc 0 144115188075855871 z0 128 λz7=>cQ λav=>av<=eX .u64->av=cf .xor .u64 aq z7->K [[z0]]
 [[av]]
def Sq (S:Nat->List (List Int)->List (List Int)->Prop) (K:List (List Int)->List (List Int)->Prop):Prop:=
 kq λz0=>cc 0 35184372088831 (35184372088832*z0) 18446744073709551616 λah=>cc 0 35184372088831 z0 524288 λz2=>cQ λz3=>z3<=eX .u64
 ->z3=cf .xor .u64 0 ((35184372088832*z0)+(((-18446744073709551616)*ah)+z2))->cc 0 7 (8*z0) 18446744073709551616 λz4=>cc 0 7 z0
 2305843009213693952 λz5=>cQ λaq=>aq<=eX .u64->aq=cf .xor .u64 z3 ((8*z0)+(((-18446744073709551616)*z4)+z5))->cc 0
 288230376151711743 z0 64 λz7=>cQ λav=>av<=eX .u64->av=cf .xor .u64 aq z7->K [[z0]] [[av]]
theorem apO (w n:Nat) (hn:n<=w) (z q r:Int) (h1:0<=2^(w-n)*z-2^w*q) (h2:2^(w-n)*z-2^w*q<2^w) (h3:0<=z-2^n*r) (h4:z-2^n*r<2^n):(2^(w-n)*z-2^w*q)+r=Ju w n z:=by
 have e:(2:Int)^w=2^(w-n)*2^n:=by rw[<-Int.pow_add];congr 1;omega
 have p1:(0:Int)<2^(w-n):=Int.pow_pos (by decide)
 have bq:(0:Int)<2^n:=Int.pow_pos (by decide)
 have tJ:z/2^n=r:=by
  rw[Kt bq]
  constructor
  ·rw[tj];omega
  ·rw[tj r];omega
 have eq:q=r:=by
  rw[e]at h1 h2
  have f1:2^(w-n)*z-2^(w-n)*2^n*q=2^(w-n)*(z-2^n*q):=by rw[Int.mul_sub,Int.mul_assoc]
  rw[f1]at h1 h2
  have g1:0<=z-2^n*q:=by
   rcases Int.lt_or_le (z-2^n*q) 0 with h|h
   ·have:=Int.mul_neg_of_pos_of_neg p1 h;omega
   ·exact h
  have g2:z-2^n*q<2^n:=Int.lt_of_mul_lt_mul_left h2 (Int.le_of_lt p1)
  have:=tJ
  rw[Kt bq]at this
  have h5:z/2^n=q:=by
   rw[Kt bq]
   constructor
   ·rw[tj];omega
   ·rw[tj q];omega
  rw[<-h5,tJ]
 subst eq
 unfold Ju
 rw[tJ,Int.emod_def,tJ,e,Int.mul_assoc,<-Int.mul_sub,tj (z-2^n*q) _]
 omega
theorem kZ (w n:Nat) (hn:n<=w) (A B D:Int) (hA:A=2^(w-n)) (hB:B=2^w) (hD:D=2^n) {z q r:Int} (h1:0<=A*z-B*q) (h2:A*z-B*q<B) (h3:0<=z-D*r) (h4:z-D*r<D):A*z+(-B*q+r)=Ju w n z:=by
 subst hA;subst hB;subst hD
 rw[<-apO w n hn z q r h1 h2 h3 h4,Int.neg_mul];omega
theorem aod:Sj SB (bO SB [oK] 444):=by
 intro z0 a0 a1 ah bo yU p1 oo z2 bI yV bq oq z3 b6 uJ bt z4 dz yW dI ot z5 jX yX dJ ou aq mV yY iM z7 pK yZ lF rG av jY rJ rH yN z9 y0 y1 ln
 have r1:=kZ 32 2 (by decide) 1073741824 4294967296 4 (by decide) (by decide) (by decide) p1 oo bq oq
 have hO:=kZ 32 13 (by decide) 524288 4294967296 8192 (by decide) (by decide) (by decide) dI ot dJ ou
 have ov:=kZ 32 22 (by decide) 1024 4294967296 4194304 (by decide) (by decide) (by decide) lF rG rH yN
 refine⟨⟨y0,y1,trivial⟩,?_⟩
 show [[z9]]=[[tD cB z0]]
 rw[ln,iM,bt,r1,hO,ov]
 rfl
theorem aof:Sl SB (bO SB [oK] 445):=by
 intro z0 a0 a1 ah bo yU p1 oo z2 bI yV bq oq z3 b6 uJ bt z4 dz yW dI ot z5 jX yX dJ ou aq mV yY iM z7 pK yZ lF rG av jY rJ rH yN z9 y0 y1 ln
 have r1:=kZ 32 6 (by decide) 67108864 4294967296 64 (by decide) (by decide) (by decide) p1 oo bq oq
 have hO:=kZ 32 11 (by decide) 2097152 4294967296 2048 (by decide) (by decide) (by decide) dI ot dJ ou
 have ov:=kZ 32 25 (by decide) 128 4294967296 33554432 (by decide) (by decide) (by decide) lF rG rH yN
 refine⟨⟨y0,y1,trivial⟩,?_⟩
 show [[z9]]=[[tE cB z0]]
 rw[ln,iM,bt,r1,hO,ov]
 rfl
theorem aoh:Sn SB (bO SB [oK] 446):=by
 intro z0 a0 a1 ah bo yU p1 oo z2 bI yV bq oq z3 b6 uJ bt z4 dz yW dI ot z5 jX yX dJ ou aq mV yY iM z7 pK yZ lF rG av jY rJ q2
 have r1:=kZ 32 7 (by decide) 33554432 4294967296 128 (by decide) (by decide) (by decide) p1 oo bq oq
 have hO:=kZ 32 18 (by decide) 16384 4294967296 262144 (by decide) (by decide) (by decide) dI ot dJ ou
 have ov:z7=z0/2^3:=by rw[show(2:Int)^3=8 by decide];omega
 refine⟨⟨jY,rJ,trivial⟩,?_⟩
 show [[av]]=[[zl cB z0]]
 rw[q2,iM,bt,r1,hO,ov]
 rfl
theorem aoj:Sp SB (bO SB [oK] 447):=by
 intro z0 a0 a1 ah bo yU p1 oo z2 bI yV bq oq z3 b6 uJ bt z4 dz yW dI ot z5 jX yX dJ ou aq mV yY iM z7 pK yZ lF rG av jY rJ q2
 have r1:=kZ 32 17 (by decide) 32768 4294967296 131072 (by decide) (by decide) (by decide) p1 oo bq oq
 have hO:=kZ 32 19 (by decide) 8192 4294967296 524288 (by decide) (by decide) (by decide) dI ot dJ ou
 have ov:z7=z0/2^10:=by rw[show(2:Int)^10=1024 by decide];omega
 refine⟨⟨jY,rJ,trivial⟩,?_⟩
 show [[av]]=[[zm cB z0]]
 rw[q2,iM,bt,r1,hO,ov]
 rfl
theorem aoe:Sk SB (bO SB [ki] 448):=by
 intro z0 a0 a1 ah bo yU p1 oo z2 bI yV bq oq z3 b6 uJ bt z4 dz yW dI ot z5 jX yX dJ ou aq mV yY iM z7 pK yZ lF rG av jY rJ rH yN z9 y0 y1 ln
 have r1:=kZ 64 28 (by decide) 68719476736 18446744073709551616 268435456 (by decide) (by decide) (by decide) p1 oo bq oq
 have hO:=kZ 64 34 (by decide) 1073741824 18446744073709551616 17179869184 (by decide) (by decide) (by decide) dI ot dJ ou
 have ov:=kZ 64 39 (by decide) 33554432 18446744073709551616 549755813888 (by decide) (by decide) (by decide) lF rG rH yN
 refine⟨⟨y0,y1,trivial⟩,?_⟩
 show [[z9]]=[[tD cC z0]]
 rw[ln,iM,bt,r1,hO,ov]
 rfl
theorem aog:Sm SB (bO SB [ki] 449):=by
 intro z0 a0 a1 ah bo yU p1 oo z2 bI yV bq oq z3 b6 uJ bt z4 dz yW dI ot z5 jX yX dJ ou aq mV yY iM z7 pK yZ lF rG av jY rJ rH yN z9 y0 y1 ln
 have r1:=kZ 64 14 (by decide) 1125899906842624 18446744073709551616 16384 (by decide) (by decide) (by decide) p1 oo bq oq
 have hO:=kZ 64 18 (by decide) 70368744177664 18446744073709551616 262144 (by decide) (by decide) (by decide) dI ot dJ ou
 have ov:=kZ 64 41 (by decide) 8388608 18446744073709551616 2199023255552 (by decide) (by decide) (by decide) lF rG rH yN
 refine⟨⟨y0,y1,trivial⟩,?_⟩
 show [[z9]]=[[tE cC z0]]
 rw[ln,iM,bt,r1,hO,ov]
 rfl
theorem aoi:So SB (bO SB [ki] 450):=by
 intro z0 a0 a1 ah bo yU p1 oo z2 bI yV bq oq z3 b6 uJ bt z4 dz yW dI ot z5 jX yX dJ ou aq mV yY iM z7 pK yZ lF rG av jY rJ q2
 have r1:=kZ 64 1 (by decide) 9223372036854775808 18446744073709551616 2 (by decide) (by decide) (by decide) p1 oo bq oq
 have hO:=kZ 64 8 (by decide) 72057594037927936 18446744073709551616 256 (by decide) (by decide) (by decide) dI ot dJ ou
 have ov:z7=z0/2^7:=by rw[show(2:Int)^7=128 by decide];omega
 refine⟨⟨jY,rJ,trivial⟩,?_⟩
 show [[av]]=[[zl cC z0]]
 rw[q2,iM,bt,r1,hO,ov]
 rfl
theorem aok:Sq SB (bO SB [ki] 451):=by
 intro z0 a0 a1 ah bo yU p1 oo z2 bI yV bq oq z3 b6 uJ bt z4 dz yW dI ot z5 jX yX dJ ou aq mV yY iM z7 pK yZ lF rG av jY rJ q2
 have r1:=kZ 64 19 (by decide) 35184372088832 18446744073709551616 524288 (by decide) (by decide) (by decide) p1 oo bq oq
 have hO:=kZ 64 61 (by decide) 8 18446744073709551616 2305843009213693952 (by decide) (by decide) (by decide) dI ot dJ ou
 have ov:z7=z0/2^6:=by rw[show(2:Int)^6=64 by decide];omega
 refine⟨⟨jY,rJ,trivial⟩,?_⟩
 show [[av]]=[[zm cC z0]]
 rw[q2,iM,bt,r1,hO,ov]
 rfl
end Go.cd
namespace Go.cd
open Go Go.bg
def Sd (S:Nat->List (List Int)->List (List Int)->Prop) (K:List (List Int)->List (List Int)->Prop):Prop:=
 cX λz0=>(aa 66 [z0]->cQ λah=>bY λz2=>bF 20 [z0] λz3=>(aa 53 [z2,z3]->(aD (decide (z2<0)) (K [[z0]] [[0]]) (aa 22 [z0,0,z3]/\
 aa 23 [0,z3]/\aH 22 [z0,0,z3] λz4=>aH 24 [0,z4] λz5=>(aD (decide (z3<=0)) (K [[z0]] [[0]]) (bY λaq=>aa 22 [z5,0,z3]/\aH 22 [z5,0,z3]
 λz7=>K [[z0]] [[z7]]))))))
def Se (S:Nat->List (List Int)->List (List Int)->Prop) (K:List (List Int)->List (List Int)->Prop):Prop:=
 cX λz0=>(aa 66 [z0]->cQ λah=>bY λz2=>bF 20 [z0] λz3=>(aa 53 [z2,z3]->(aD (decide (z2<0)) (K [[z0]] [[0]]) (aa 22 [z0,0,z3]/\
 aa 23 [0,z3]/\aH 22 [z0,0,z3] λz4=>aH 24 [0,z4] λz5=>(aD (decide (z3<=0)) (K [[z0]] [[0]]) (bY λaq=>aa 22 [z5,0,z3]/\aH 22 [z5,0,z3]
 λz7=>K [[z0]] [[z7]]))))))
def SW (S:Nat->List (List Int)->List (List Int)->Prop) (K:List (List Int)->List (List Int)->Prop):Prop:=
 eW (-9223372036854775808) 9223372036854775807 λz0=>eW (-9223372036854775808) 9223372036854775807 λah=>(aD (decide (z0<0)) (K [[z0],[ah]] [[0]]) ((aD
 (decide (1099511627776<z0)) (K [[z0],[ah]] [[0]]) ((aD ((!(decide (ah=32)))) ((aD ((!(decide (ah=64)))) (K [[z0],[ah]] [[0]]) (cc (-1) 1 ((2*ah)+
 9223372036854775808) 18446744073709551616 λz2=>aa 77 [ah]/\cc 0 2305843009213693951 ah 4 λz3=>aa 36 [((2*ah)+((-18446744073709551616)*z2))]
 /\Jl 0 2305844108725321728 38 [((z0+z3)+1),((2*ah)+((-18446744073709551616)*z2))] λz4=>cc (-1) 0 (((2*ah)+(((-18446744073709551616)*z2)+
 ((-1)*z4)))+9223372036854775808) 18446744073709551616 λz5=>aa 77 [((2*ah)+(((-18446744073709551616)*z2)+(((-1)*z4)+
 ((-18446744073709551616)*z5))))]/\aa 36 [((2*ah)+((-18446744073709551616)*z2))]/\Jl 0 9223372036854775806 38 [((2*ah)+
 (((-18446744073709551616)*z2)+(((-1)*z4)+((-18446744073709551616)*z5)))),((2*ah)+((-18446744073709551616)*z2))] λaq=>dT ((z0+(z3+aq))+
 9223372036854775809) 18446744073709551616 λz7=>K [[z0],[ah]] [[((z0+(z3+(aq+((-18446744073709551616)*z7))))+1)]]))) (cc (-1) 1 ((2*ah)+
 9223372036854775808) 18446744073709551616 λz2=>aa 77 [ah]/\cc 0 2305843009213693951 ah 4 λz3=>aa 36 [((2*ah)+((-18446744073709551616)*z2))]
 /\Jl 0 2305844108725321728 38 [((z0+z3)+1),((2*ah)+((-18446744073709551616)*z2))] λz4=>cc (-1) 0 (((2*ah)+(((-18446744073709551616)*z2)+
 ((-1)*z4)))+9223372036854775808) 18446744073709551616 λz5=>aa 77 [((2*ah)+(((-18446744073709551616)*z2)+(((-1)*z4)+
 ((-18446744073709551616)*z5))))]/\aa 36 [((2*ah)+((-18446744073709551616)*z2))]/\Jl 0 9223372036854775806 38 [((2*ah)+
 (((-18446744073709551616)*z2)+(((-1)*z4)+((-18446744073709551616)*z5)))),((2*ah)+((-18446744073709551616)*z2))] λaq=>dT ((z0+(z3+aq))+
 9223372036854775809) 18446744073709551616 λz7=>K [[z0],[ah]] [[((z0+(z3+(aq+((-18446744073709551616)*z7))))+1)]]))))))
theorem nJ {c l z:Int} (h:z=aB 22 [c,0,l]) (hl:l=((ab c).length:Int)):ab z=ab c:=by
 rw[h];show ab (rc (((ab c).drop (0:Int).toNat).take (l.toNat-(0:Int).toNat)))=_
 rw[dW,hl];simp
theorem XV {c:Int} (h:((ab c).length:Int)=0):ab c=[]:=vd (by omega)
theorem an7:Sd SB (eL SB [I9] 462):=by
 intro z0 a0 a1 hp ah b1 z2 bT c1 z3 d0 d1 h3 hn
 have h3:z3=((ab z0).length:Int):=h3
 have hl:(ab z0).length<=1000000:=hp
 have hn:z2<0->z3=0:=hn
 have fin:∀z,0<=z->z<=bZ->ab z=ab z0->eL SB [I9] 462 [[z0]] [[z]]:=λz h1 h2 h=>⟨⟨h1,h2,trivial⟩,h⟩
 have bC:z3<=0->eL SB [I9] 462 [[z0]] [[0]]:=λh=>fin 0 (cn _) oH (by rw[fD,XV (c:=z0) (by omega)])
 refine⟨λh=>bC (by have:=hn (of_decide_eq_true h);omega),λh=>⟨⟨cn _,by omega,by rw[h3];exact cn _⟩,by show(ab 0).length+z3<=1073741824;rw[fD];simp only[gF];omega,λz4 f0 f1 h4 z5 g0 g1 h5=>?_⟩⟩
 have h4:=nJ h4 h3
 have h5:ab z5=ab z0:=by
  rw[h5];show ab (rc (ab 0++ab z4))=_
  rw[dW,fD,h4];rfl
 refine⟨λh=>bC (of_decide_eq_true h),λh aq i0 i1=>⟨⟨cn _,by omega,by rw[h3,h5];exact cn _⟩,λz7 fO dV h7=>fin z7 fO dV ?_⟩⟩
 rw[nJ h7 (by rw[h3,h5]),h5]
theorem an8:Se SB (eL SB [Ja] 463):=by
 intro z0 a0 a1 hp ah b1 z2 bT c1 z3 d0 d1 h3 hn
 have h3:z3=((ab z0).length:Int):=h3
 have hl:(ab z0).length<=1000000:=hp
 have hn:z2<0->z3=0:=hn
 have fin:∀z,0<=z->z<=bZ->ab z=ab z0->eL SB [Ja] 463 [[z0]] [[z]]:=λz h1 h2 h=>⟨⟨h1,h2,trivial⟩,h⟩
 have bC:z3<=0->eL SB [Ja] 463 [[z0]] [[0]]:=λh=>fin 0 (cn _) oH (by rw[fD,XV (c:=z0) (by omega)])
 refine⟨λh=>bC (by have:=hn (of_decide_eq_true h);omega),λh=>⟨⟨cn _,by omega,by rw[h3];exact cn _⟩,by show(ab 0).length+z3<=1073741824;rw[fD];simp only[gF];omega,λz4 f0 f1 h4 z5 g0 g1 h5=>?_⟩⟩
 have h4:=nJ h4 h3
 have h5:ab z5=ab z0:=by
  rw[h5];show ab (rc (ab 0++ab z4))=_
  rw[dW,fD,h4];rfl
 refine⟨λh=>bC (of_decide_eq_true h),λh aq i0 i1=>⟨⟨cn _,by omega,by rw[h3,h5];exact cn _⟩,λz7 fO dV h7=>fin z7 fO dV ?_⟩⟩
 rw[nJ h7 (by rw[h3,h5]),h5]
theorem aoO:SW SB (bO SB [Ad] 440):=by
 intro z0 a0 a1 ah b0 b1
 have fin:∀z:Int,-9223372036854775808<=z->z<=9223372036854775807->z=pH z0 ah->bO SB [Ad] 440 [[z0],[ah]] [[z]]:=λz h1 h2 h=>⟨⟨h1,h2,trivial⟩,by show [[z]]=[[pH z0 ah]];rw[h]⟩
 have bad:(z0<0∨1099511627776<z0∨(ah≠32/\ah≠64))->bO SB [Ad] 440 [[z0],[ah]] [[0]]:=λh=>fin 0 (by omega) (by omega) (by unfold pH;rw[if_pos h])
 refine⟨λh=>bad (.inl (of_decide_eq_true h)),λh=>⟨λh'=>bad (.inr (.inl (of_decide_eq_true h'))),λh'=>?_⟩⟩
 have n0:0<=z0:=by have:=of_decide_eq_false h;omega
 have n1:z0<=1099511627776:=by have:=of_decide_eq_false h';omega
 obtain⟨N,rfl⟩:∃N:Nat,(N:Int)=z0:=⟨z0.toNat,by omega⟩
 refine⟨λg=>⟨λjb=>bad (.inr (.inr ⟨by simpa using g,by simpa using jb⟩)),λjb=>?_⟩,λg=>?_⟩
 ·have hz:ah=64:=by simpa using jb
  subst hz
  intro z2 bT c1 c2 c3
  have:z2=0:=by omega
  subst this
  refine⟨by show(0:Int)<=64;decide,λz3 d0 d1 d2 d3=>?_⟩
  have:z3=16:=by omega
  subst this
  refine⟨by show(0:Int)<2*64+-18446744073709551616*0;decide,λz4 bC e1 h4 z5 f0 f1 f2 f3=>?_⟩
  have h4:z4=((N:Int)+16+1)% (2*64+-18446744073709551616*0):=h4
  rw[show(2*64+-18446744073709551616*0:Int)=128 by decide]at h4
  have:z5=0:=by omega
  subst this
  refine⟨by show(0:Int)<=_;omega,by show(0:Int)<2*64+-18446744073709551616*0;decide,λaq g0 g1 h6 z7 i0 i1 i2 i3=>?_⟩
  have h6:aq=(2*64+(-18446744073709551616*0+(-1*z4+-18446744073709551616*0)))% (2*64+-18446744073709551616*0):=h6
  rw[show(2*64+-18446744073709551616*0:Int)=128 by decide]at h6
  have:z7=0:=by omega
  subst this
  refine fin _ (by omega) (by omega) ?_
  unfold pH kY
  rw[if_neg (by omega)]
  simp only[k9]
  rw[show(64:Int).toNat=64 from rfl]
  omega
 ·have hz:ah=32:=by simpa using g
  subst hz
  intro z2 bT c1 c2 c3
  have:z2=0:=by omega
  subst this
  refine⟨by show(0:Int)<=32;decide,λz3 d0 d1 d2 d3=>?_⟩
  have:z3=8:=by omega
  subst this
  refine⟨by show(0:Int)<2*32+-18446744073709551616*0;decide,λz4 bC e1 h4 z5 f0 f1 f2 f3=>?_⟩
  have h4:z4=((N:Int)+8+1)% (2*32+-18446744073709551616*0):=h4
  rw[show(2*32+-18446744073709551616*0:Int)=64 by decide]at h4
  have:z5=0:=by omega
  subst this
  refine⟨by show(0:Int)<=_;omega,by show(0:Int)<2*32+-18446744073709551616*0;decide,λaq g0 g1 h6 z7 i0 i1 i2 i3=>?_⟩
  have h6:aq=(2*32+(-18446744073709551616*0+(-1*z4+-18446744073709551616*0)))% (2*32+-18446744073709551616*0):=h6
  rw[show(2*32+-18446744073709551616*0:Int)=64 by decide]at h6
  have:z7=0:=by omega
  subst this
  refine fin _ (by omega) (by omega) ?_
  unfold pH kY
  rw[if_neg (by omega)]
  simp only[k9]
  rw[show(32:Int).toNat=32 from rfl]
  omega
end Go.cd
namespace Go.cd
open Go Go.bg
def Sr (S:Nat->List (List Int)->List (List Int)->Prop) (K:List (List Int)->List (List Int)->Prop):Prop:=
 eW 0 79 λz0=>aa 74 [z0,80]/\eW 489312712824947311 17689382322260857208 λah=>ah=af
 [4794697086780616226,8158064640168781261,13096744586834688815,16840607885511220156,4131703408338449720,6480981068601479193,10538285296894168987,12329834152419229976,15566598209576043074,1334009975649890238,2608012711638119052,6128411473006802146,8268148722764581231,9286055187155687089,11230858885718282805,13951009754708518548,16472876342353939154,17275323862435702243,1135362057144423861,2597628984639134821,3308224258029322869,5365058923640841347,6679025012923562964,8573033837759648693,10970295158949994411,12119686244451234320,12683024718118986047,13788192230050041572,14330467153632333762,15395433587784984357,489312712824947311,1452737877330783856,2861767655752347644,3322285676063803686,5560940570517711597,5996557281743188959,7280758554555802590,8532644243296465576,9350256976987008742,10552545826968843579,11727347734174303076,12113106623233404929,14000437183269869457,14369950271660146224,15101387698204529176,15463397548674623760,17586052441742319658,1182934255886127544,1847814050463011016,2177327727835720531,2830643537854262169,3796741975233480872,4115178125766777443,5681478168544905931,6601373596472566643,7507060721942968483,8399075790359081724,8693463985226723168,9568029438360202098,10144078919501101548,10430055236837252648,11840083180663258601,13761210420658862357,14299343276471374635,14566680578165727644,15097957966210449927,16922976911328602910,17689382322260857208,500013540394364858,748580250866718886,1242879168328830382,1977374033974150939,2944078676154940804,3659926193048069267,4368137639120453308,4836135668995329356,5532061633213252278,6448918945643986474,6902733635092675308,7801388544844847127]
 (z0).toNat 0->cc 113926993 4118630271 ah 4294967296 λz2=>K [[z0]] [[z2]]
def Ss (S:Nat->List (List Int)->List (List Int)->Prop) (K:List (List Int)->List (List Int)->Prop):Prop:=
 eW 0 79 λz0=>aa 74 [z0,80]/\eW 489312712824947311 17689382322260857208 λah=>ah=af
 [4794697086780616226,8158064640168781261,13096744586834688815,16840607885511220156,4131703408338449720,6480981068601479193,10538285296894168987,12329834152419229976,15566598209576043074,1334009975649890238,2608012711638119052,6128411473006802146,8268148722764581231,9286055187155687089,11230858885718282805,13951009754708518548,16472876342353939154,17275323862435702243,1135362057144423861,2597628984639134821,3308224258029322869,5365058923640841347,6679025012923562964,8573033837759648693,10970295158949994411,12119686244451234320,12683024718118986047,13788192230050041572,14330467153632333762,15395433587784984357,489312712824947311,1452737877330783856,2861767655752347644,3322285676063803686,5560940570517711597,5996557281743188959,7280758554555802590,8532644243296465576,9350256976987008742,10552545826968843579,11727347734174303076,12113106623233404929,14000437183269869457,14369950271660146224,15101387698204529176,15463397548674623760,17586052441742319658,1182934255886127544,1847814050463011016,2177327727835720531,2830643537854262169,3796741975233480872,4115178125766777443,5681478168544905931,6601373596472566643,7507060721942968483,8399075790359081724,8693463985226723168,9568029438360202098,10144078919501101548,10430055236837252648,11840083180663258601,13761210420658862357,14299343276471374635,14566680578165727644,15097957966210449927,16922976911328602910,17689382322260857208,500013540394364858,748580250866718886,1242879168328830382,1977374033974150939,2944078676154940804,3659926193048069267,4368137639120453308,4836135668995329356,5532061633213252278,6448918945643986474,6902733635092675308,7801388544844847127]
 (z0).toNat 0->K [[z0]] [[ah]]
def SZ (S:Nat->List (List Int)->List (List Int)->Prop) (K:List (List Int)->List (List Int)->Prop):Prop:=
 cX λz0=>(aa 71 [z0]->cQ λah=>bY λz2=>bF 20 [z0] λz3=>aa 22 [z0,0,z3]/\aH 22 [z0,0,z3] λz4=>aa 71 [z4]/\cX λz5=>S 460
 [[z4]] [[z5]]->cQ λaq=>bY λz7=>bF 20 [z5] λav=>aa 22 [z5,0,av]/\aH 22 [z5,0,av] λz9=>aa 71 [z9]/\cX λaC=>S 442 [[z9]]
 [[aC]]->bY λbf=>bF 20 [aC] λz12=>aa 22 [aC,0,z12]/\aH 22 [aC,0,z12] λag=>aa 72 [ag]/\cX λak=>S 464 [[ag]] [[ak]]->bY
 λaI=>bF 20 [ak] λaT=>aa 30 [31,aT]/\aa 21 [ak,0]/\aa 21 [ak,0]/\ao 21 [ak,0,0] λbE=>aa 21 [ak,1]/\ao 21 [ak,1,0] λ
 br=>aa 21 [ak,2]/\ao 21 [ak,2,0] λbH=>aa 21 [ak,3]/\ao 21 [ak,3,0] λz20=>aa 21 [ak,4]/\ao 21 [ak,4,0] λz21=>aa 21
 [ak,5]/\ao 21 [ak,5,0] λz22=>aa 21 [ak,6]/\ao 21 [ak,6,0] λdg=>aa 21 [ak,7]/\ao 21 [ak,7,0] λz24=>aa 21 [ak,8]/\ao 21
 [ak,8,0] λcK=>aa 21 [ak,9]/\ao 21 [ak,9,0] λz26=>aa 21 [ak,10]/\ao 21 [ak,10,0] λdM=>aa 21 [ak,11]/\ao 21 [ak,11,0] λ
 z28=>aa 21 [ak,12]/\ao 21 [ak,12,0] λfj=>aa 21 [ak,13]/\ao 21 [ak,13,0] λee=>aa 21 [ak,14]/\ao 21 [ak,14,0] λz31=>aa 21
 [ak,15]/\ao 21 [ak,15,0] λdh=>aa 21 [ak,16]/\ao 21 [ak,16,0] λdN=>aa 21 [ak,17]/\ao 21 [ak,17,0] λdX=>aa 21 [ak,18]/\
 ao 21 [ak,18,0] λdu=>aa 21 [ak,19]/\ao 21 [ak,19,0] λcY=>aa 21 [ak,20]/\ao 21 [ak,20,0] λz37=>aa 21 [ak,21]/\ao 21
 [ak,21,0] λcZ=>aa 21 [ak,22]/\ao 21 [ak,22,0] λej=>aa 21 [ak,23]/\ao 21 [ak,23,0] λz40=>aa 21 [ak,24]/\ao 21 [ak,24,0] λ
 dB=>aa 21 [ak,25]/\ao 21 [ak,25,0] λc0=>aa 21 [ak,26]/\ao 21 [ak,26,0] λda=>aa 21 [ak,27]/\ao 21 [ak,27,0] λa8=>aa 21
 [ak,28]/\ao 21 [ak,28,0] λbL=>aa 21 [ak,29]/\ao 21 [ak,29,0] λz46=>aa 21 [ak,30]/\ao 21 [ak,30,0] λdi=>aa 21 [ak,31]/\
 ao 21 [ak,31,0] λfU=>K [[z0]]
 [[bE,br,bH,z20,z21,z22,dg,z24,cK,z26,dM,z28,fj,ee,z31,dh,dN,dX,du,cY,z37,cZ,ej,z40,dB,c0,da,a8,bL,z46,di,fU]])
def S0 (S:Nat->List (List Int)->List (List Int)->Prop) (K:List (List Int)->List (List Int)->Prop):Prop:=
 cX λz0=>(aa 71 [z0]->cQ λah=>bY λz2=>bF 20 [z0] λz3=>aa 22 [z0,0,z3]/\aH 22 [z0,0,z3] λz4=>aa 71 [z4]/\cX λz5=>S 461
 [[z4]] [[z5]]->cQ λaq=>bY λz7=>bF 20 [z5] λav=>aa 22 [z5,0,av]/\aH 22 [z5,0,av] λz9=>aa 71 [z9]/\cX λaC=>S 443 [[z9]]
 [[aC]]->bY λbf=>bF 20 [aC] λz12=>aa 22 [aC,0,z12]/\aH 22 [aC,0,z12] λag=>aa 73 [ag]/\cX λak=>S 465 [[ag]] [[ak]]->bY
 λaI=>bF 20 [ak] λaT=>aa 30 [63,aT]/\aa 21 [ak,0]/\aa 21 [ak,0]/\ao 21 [ak,0,0] λbE=>aa 21 [ak,1]/\ao 21 [ak,1,0] λ
 br=>aa 21 [ak,2]/\ao 21 [ak,2,0] λbH=>aa 21 [ak,3]/\ao 21 [ak,3,0] λz20=>aa 21 [ak,4]/\ao 21 [ak,4,0] λz21=>aa 21
 [ak,5]/\ao 21 [ak,5,0] λz22=>aa 21 [ak,6]/\ao 21 [ak,6,0] λdg=>aa 21 [ak,7]/\ao 21 [ak,7,0] λz24=>aa 21 [ak,8]/\ao 21
 [ak,8,0] λcK=>aa 21 [ak,9]/\ao 21 [ak,9,0] λz26=>aa 21 [ak,10]/\ao 21 [ak,10,0] λdM=>aa 21 [ak,11]/\ao 21 [ak,11,0] λ
 z28=>aa 21 [ak,12]/\ao 21 [ak,12,0] λfj=>aa 21 [ak,13]/\ao 21 [ak,13,0] λee=>aa 21 [ak,14]/\ao 21 [ak,14,0] λz31=>aa 21
 [ak,15]/\ao 21 [ak,15,0] λdh=>aa 21 [ak,16]/\ao 21 [ak,16,0] λdN=>aa 21 [ak,17]/\ao 21 [ak,17,0] λdX=>aa 21 [ak,18]/\
 ao 21 [ak,18,0] λdu=>aa 21 [ak,19]/\ao 21 [ak,19,0] λcY=>aa 21 [ak,20]/\ao 21 [ak,20,0] λz37=>aa 21 [ak,21]/\ao 21
 [ak,21,0] λcZ=>aa 21 [ak,22]/\ao 21 [ak,22,0] λej=>aa 21 [ak,23]/\ao 21 [ak,23,0] λz40=>aa 21 [ak,24]/\ao 21 [ak,24,0] λ
 dB=>aa 21 [ak,25]/\ao 21 [ak,25,0] λc0=>aa 21 [ak,26]/\ao 21 [ak,26,0] λda=>aa 21 [ak,27]/\ao 21 [ak,27,0] λa8=>aa 21
 [ak,28]/\ao 21 [ak,28,0] λbL=>aa 21 [ak,29]/\ao 21 [ak,29,0] λz46=>aa 21 [ak,30]/\ao 21 [ak,30,0] λdi=>aa 21 [ak,31]/\
 ao 21 [ak,31,0] λfU=>aa 21 [ak,32]/\ao 21 [ak,32,0] λz49=>aa 21 [ak,33]/\ao 21 [ak,33,0] λfe=>aa 21 [ak,34]/\ao 21
 [ak,34,0] λz51=>aa 21 [ak,35]/\ao 21 [ak,35,0] λeP=>aa 21 [ak,36]/\ao 21 [ak,36,0] λz53=>aa 21 [ak,37]/\ao 21 [ak,37,0] λ
 fG=>aa 21 [ak,38]/\ao 21 [ak,38,0] λeJ=>aa 21 [ak,39]/\ao 21 [ak,39,0] λeF=>aa 21 [ak,40]/\ao 21 [ak,40,0] λek=>aa 21
 [ak,41]/\ao 21 [ak,41,0] λeG=>aa 21 [ak,42]/\ao 21 [ak,42,0] λz59=>aa 21 [ak,43]/\ao 21 [ak,43,0] λgm=>aa 21 [ak,44]/\
 ao 21 [ak,44,0] λkx=>aa 21 [ak,45]/\ao 21 [ak,45,0] λky=>aa 21 [ak,46]/\ao 21 [ak,46,0] λiV=>aa 21 [ak,47]/\ao 21
 [ak,47,0] λmj=>aa 21 [ak,48]/\ao 21 [ak,48,0] λjq=>aa 21 [ak,49]/\ao 21 [ak,49,0] λjJ=>aa 21 [ak,50]/\ao 21 [ak,50,0] λ
 jK=>aa 21 [ak,51]/\ao 21 [ak,51,0] λml=>aa 21 [ak,52]/\ao 21 [ak,52,0] λmm=>aa 21 [ak,53]/\ao 21 [ak,53,0] λz70=>aa 21
 [ak,54]/\ao 21 [ak,54,0] λmn=>aa 21 [ak,55]/\ao 21 [ak,55,0] λz72=>aa 21 [ak,56]/\ao 21 [ak,56,0] λgx=>aa 21 [ak,57]/\
 ao 21 [ak,57,0] λmo=>aa 21 [ak,58]/\ao 21 [ak,58,0] λz75=>aa 21 [ak,59]/\ao 21 [ak,59,0] λz76=>aa 21 [ak,60]/\ao 21
 [ak,60,0] λkz=>aa 21 [ak,61]/\ao 21 [ak,61,0] λm4=>aa 21 [ak,62]/\ao 21 [ak,62,0] λm5=>aa 21 [ak,63]/\ao 21 [ak,63,0] λ
 m6=>K [[z0]]
 [[bE,br,bH,z20,z21,z22,dg,z24,cK,z26,dM,z28,fj,ee,z31,dh,dN,dX,du,cY,z37,cZ,ej,z40,dB,c0,da,a8,bL,z46,di,fU,z49,fe,z51,eP,z53,fG,eJ,eF,ek,eG,z59,gm,kx,ky,iV,mj,jq,jJ,jK,ml,mm,z70,mn,z72,gx,mo,z75,z76,kz,m4,m5,m6]])
theorem aol:Sr SB (bO SB [oK] 466):=by
 intro z0 a0 a1
 refine⟨⟨a0,by omega⟩,λah b0 b1 h1 z2 bT c1 c2 c3=>⟨⟨by omega,by omega,trivial⟩,?_⟩⟩
 have h1:ah=wL.getD z0.toNat 0:=h1
 show [[z2]]=[[wL.getD z0.toNat 0/2^(64-32)]]
 rw[<-h1,show(2:Int)^(64-32)=4294967296 by decide]
 have:z2=ah/4294967296:=by omega
 rw[this]
theorem aom:Ss SB (bO SB [ki] 467):=by
 intro z0 a0 a1
 refine⟨⟨a0,by omega⟩,λah b0 b1 h1=>⟨⟨by omega,by omega,trivial⟩,?_⟩⟩
 have h1:ah=wL.getD z0.toNat 0:=h1
 show [[ah]]=[[wL.getD z0.toNat 0/2^(64-64)]]
 rw[<-h1];simp
theorem sg (z:Int):(ck z).length=(ab z).length:=by simp[ck]
theorem G5 {z r:Int} (h:ab r=ab z):ck r=ck z:=by unfold ck;rw[h]
theorem bP {c i z:Int} (h:z=aB 21 [c,i,0]):z=(ck c).getD i.toNat 0:=by
 rw[h]
 show((ab c).getD i.toNat []).getD (0:Int).toNat 0=_
 unfold ck
 rw[tg (l:=(ab c).map _),List.getElem?_map,tg (l:=ab c)]
 cases(ab c)[i.toNat]?<;>rfl
theorem DG (l:List Int) (n:Nat) (h:l.length=n):l=(cA n).map λi=>l.getD i 0:=by
 apply List.ext_getElem
 ·simp[h]
 ·intro i h1 h2
  simp[af,h1]
theorem aqE (p:fr) (i:Nat) (x:Int) (v:List Int) (h:v.length=8):(s5 p i x v).length=8:=by
 match v,h with
 |[a,b,c,d,e,f,g,k],_=>rfl
theorem YU (p:fr):∀(m:List Int) (i:Nat) (v:List Int),v.length=8->(uP p i m v).length=8
 |[],_,_,h=>h
 |x::m,i,v,h=>YU p m (i+1) _ (aqE p i x v h)
theorem aq0 (p:fr) (h m:List Int) (hl:h.length=8):(uT p h m).length=8:=by
 unfold uT;rw[List.length_zipWith,YU p _ _ _ hl,hl];rfl
theorem acI (p:fr):(p6 p).length=8:=by simp[p6];rfl
theorem TS (p:fr) (b:List Int):∀i,(xy p b i (p6 p)).length=8
 |0=>acI p
 |i+1=>aq0 p _ _ (TS p b i)
theorem Ye (p:fr):∀(h:List Int),(sQ p h).length=h.length*(p.w/8)
 |[]=>by simp[sQ]
 |x::h=>by
  have:=Ye p h
  unfold sQ at*
  simp only[List.flatMap_cons,dQ,j6,R1,this,dv]
  rw[Nat.succ_mul];omega
theorem TH (p:fr) (b:List Int):(o9 p b).length=8*(p.w/8):=by unfold o9;rw[Ye,TS]
theorem ao4 (b:List Int):(pI cB b).length=kY 32 b.length/\64∣kY 32 b.length/\kY 32 b.length<=b.length+100:=by
 have e:kY 32 b.length=(b.length+1+8+63)/64*64:=rfl
 refine⟨?_,⟨(b.length+1+8+63)/64,by rw[e,w7]⟩,by rw[e];omega⟩
 unfold pI sf
 simp only[dQ,dv,gF,zC,j6,R1]
 show _+(kY 32 _-_-9)+8=kY 32 _
 rw[e];omega
theorem ao5 (b:List Int):(pI cC b).length=kY 64 b.length/\128∣kY 64 b.length/\kY 64 b.length<=b.length+200:=by
 have e:kY 64 b.length=(b.length+1+16+127)/128*128:=rfl
 refine⟨?_,⟨(b.length+1+16+127)/128,by rw[e,w7]⟩,by rw[e];omega⟩
 unfold pI sf
 simp only[dQ,dv,gF,zC,j6,R1]
 show _+(kY 64 _-_-9)+8=kY 64 _
 rw[e];omega
theorem OR:∀(n:Nat) (l:List Int),l.length=n->(∀x∈l,0<=x/\x<=255)->aO (c7 0 255 n) l
 |0,[],_,_=>trivial
 |n+1,x::l,hl,h=>⟨(h x (by simp)).1,(h x (by simp)).2,OR n l (by simpa using hl) λy hy=>h y (List.mem_cons_of_mem _ hy)⟩
theorem aoR:SZ SB (eL SB [.d sb] 452):=by
 intro z0 a0 a1 hp ah b0 z2 bT c1 z3 d0 d1 h3
 have hp:(ab z0).length<=1000000000:=hp
 have h3:z3=((ab z0).length:Int):=h3
 refine⟨⟨cn _,by omega,by rw[h3];exact cn _⟩,λz4 bC e1 h4=>?_⟩
 have h4:=nJ h4 h3
 refine⟨by show(ab z4).length<=1000000000;rw[h4];exact hp,λz5 f0 f1 h5 aq g0 z7 i0 i1 av fO dV cq=>?_⟩
 have h5:ab z5=ab z4:=h5
 have cq:av=((ab z5).length:Int):=cq
 refine⟨⟨cn _,by omega,by rw[cq];exact cn _⟩,λz9 jD k1 bU=>?_⟩
 have bU:=nJ bU cq
 have ln:ab z9=ab z0:=by rw[bU,h5,h4]
 refine⟨by show(ab z9).length<=1000000000;rw[ln];exact hp,λaC cm l1 c8 bf m0 iG z12 n0 n1 gd=>?_⟩
 have c8:ck aC=pI cB (ck z9):=c8
 have gd:z12=((ab aC).length:Int):=gd
 rw[G5 ln]at c8
 obtain⟨bo,bI,b6⟩:=ao4 (ck z0)
 have hl0:(ck z0).length=(ab z0).length:=sg z0
 refine⟨⟨cn _,by omega,by rw[gd];exact cn _⟩,λag BA o1 gr=>?_⟩
 have gr:=nJ gr gd
 have NW:(ab ag).length=kY 32 (ck z0).length:=by rw[gr,<-sg,c8,bo]
 refine⟨by show 64∣(ab ag).length/\(ab ag).length<=1000001000;rw[NW];exact⟨bI,by omega⟩,λak p0 p1 eD aI aV r1 aT iw s1 jc=>?_⟩
 have eD:ck ak=o9 cB (ck ag):=eD
 rw[G5 gr,c8]at eD
 have jc:aT=((ab ak).length:Int):=jc
 have Er:(ck ak).length=32:=by rw[eD,TH];rfl
 have Oj:(ab ak).length=32:=by rw[<-sg,Er]
 have au:∀i:Int,0<=i->i<32->aa 21 [ak,i]:=λi h1 h2=>⟨h1,by rw[Oj];exact h2⟩
 refine⟨⟨by decide,by omega⟩,au 0 (by decide) (by decide),?_⟩
 refine⟨au 0 (by decide) (by decide),?_⟩
 intro bE x0 jH t0
 refine⟨au 1 (by decide) (by decide),?_⟩
 intro br x1 jn t1
 refine⟨au 2 (by decide) (by decide),?_⟩
 intro bH x2 qz t2
 refine⟨au 3 (by decide) (by decide),?_⟩
 intro z20 gP zq t3
 refine⟨au 4 (by decide) (by decide),?_⟩
 intro z21 gw Cd t4
 refine⟨au 5 (by decide) (by decide),?_⟩
 intro z22 gD Ce t5
 refine⟨au 6 (by decide) (by decide),?_⟩
 intro dg gQ Cf t6
 refine⟨au 7 (by decide) (by decide),?_⟩
 intro z24 kt Cg t7
 refine⟨au 8 (by decide) (by decide),?_⟩
 intro cK ku Ch t8
 refine⟨au 9 (by decide) (by decide),?_⟩
 intro z26 kv Ci t9
 refine⟨au 10 (by decide) (by decide),?_⟩
 intro dM k6 Ca t10
 refine⟨au 11 (by decide) (by decide),?_⟩
 intro z28 fi zp t11
 refine⟨au 12 (by decide) (by decide),?_⟩
 intro fj gC Cb t12
 refine⟨au 13 (by decide) (by decide),?_⟩
 intro ee j2 Cc t13
 refine⟨au 14 (by decide) (by decide),?_⟩
 intro z31 wX FR t14
 refine⟨au 15 (by decide) (by decide),?_⟩
 intro dh wY FT t15
 refine⟨au 16 (by decide) (by decide),?_⟩
 intro dN B6 Q9 t16
 refine⟨au 17 (by decide) (by decide),?_⟩
 intro dX B7 Ra t17
 refine⟨au 18 (by decide) (by decide),?_⟩
 intro du B8 Rb t18
 refine⟨au 19 (by decide) (by decide),?_⟩
 intro cY B9 Rc t19
 refine⟨au 20 (by decide) (by decide),?_⟩
 intro z37 J4 Re t20
 refine⟨au 21 (by decide) (by decide),?_⟩
 intro cZ J5 Rf t21
 refine⟨au 22 (by decide) (by decide),?_⟩
 intro ej J6 Rg t22
 refine⟨au 23 (by decide) (by decide),?_⟩
 intro z40 J7 Rh t23
 refine⟨au 24 (by decide) (by decide),?_⟩
 intro dB J8 Ri t24
 refine⟨au 25 (by decide) (by decide),?_⟩
 intro c0 J9 Rj t25
 refine⟨au 26 (by decide) (by decide),?_⟩
 intro da Ka Rk t26
 refine⟨au 27 (by decide) (by decide),?_⟩
 intro a8 Kb Rl t27
 refine⟨au 28 (by decide) (by decide),?_⟩
 intro bL Kc Rm t28
 refine⟨au 29 (by decide) (by decide),?_⟩
 intro z46 Kd Rn t29
 refine⟨au 30 (by decide) (by decide),?_⟩
 intro di Ke Ro t30
 refine⟨au 31 (by decide) (by decide),?_⟩
 intro fU Kf Rp t31
 have cJ:[bE,br,bH,z20,z21,z22,dg,z24,cK,z26,dM,z28,fj,ee,z31,dh,dN,dX,du,cY,z37,cZ,ej,z40,dB,c0,da,a8,bL,z46,di,fU]=ck ak:=by
  rw[bP t0,bP t1,bP t2,bP t3,bP t4,bP t5,bP t6,bP t7,bP t8,bP t9,bP t10,bP t11,bP t12,bP t13,bP t14,bP t15,bP t16,bP t17,bP t18,bP t19,bP t20,bP t21,bP t22,bP t23,bP t24,bP t25,bP t26,bP t27,bP t28,bP t29,bP t30,bP t31]
  exact(DG (ck ak) 32 Er).symm
 refine⟨?_,?_⟩
 ·show aO (c7 0 255 32++[]) _
  rw[gT]
  exact OR 32 _ rfl λx hx=>by
   simp only[rW,KL,gT,lR,Cw,or_false]at hx
   rcases hx with rfl|rfl|rfl|rfl|rfl|rfl|rfl|rfl|rfl|rfl|rfl|rfl|rfl|rfl|rfl|rfl|rfl|rfl|rfl|rfl|rfl|rfl|rfl|rfl|rfl|rfl|rfl|rfl|rfl|rfl|rfl|rfl
   ·exact⟨x0,jH⟩
   ·exact⟨x1,jn⟩
   ·exact⟨x2,qz⟩
   ·exact⟨gP,zq⟩
   ·exact⟨gw,Cd⟩
   ·exact⟨gD,Ce⟩
   ·exact⟨gQ,Cf⟩
   ·exact⟨kt,Cg⟩
   ·exact⟨ku,Ch⟩
   ·exact⟨kv,Ci⟩
   ·exact⟨k6,Ca⟩
   ·exact⟨fi,zp⟩
   ·exact⟨gC,Cb⟩
   ·exact⟨j2,Cc⟩
   ·exact⟨wX,FR⟩
   ·exact⟨wY,FT⟩
   ·exact⟨B6,Q9⟩
   ·exact⟨B7,Ra⟩
   ·exact⟨B8,Rb⟩
   ·exact⟨B9,Rc⟩
   ·exact⟨J4,Re⟩
   ·exact⟨J5,Rf⟩
   ·exact⟨J6,Rg⟩
   ·exact⟨J7,Rh⟩
   ·exact⟨J8,Ri⟩
   ·exact⟨J9,Rj⟩
   ·exact⟨Ka,Rk⟩
   ·exact⟨Kb,Rl⟩
   ·exact⟨Kc,Rm⟩
   ·exact⟨Kd,Rn⟩
   ·exact⟨Ke,Ro⟩
   ·exact⟨Kf,Rp⟩
 ·show [[bE,br,bH,z20,z21,z22,dg,z24,cK,z26,dM,z28,fj,ee,z31,dh,dN,dX,du,cY,z37,cZ,ej,z40,dB,c0,da,a8,bL,z46,di,fU]]=[qw cB (ck z0)]
  rw[cJ,eD];rfl
theorem aoS:S0 SB (eL SB [.d Ty] 453):=by
 intro z0 a0 a1 hp ah b0 z2 bT c1 z3 d0 d1 h3
 have hp:(ab z0).length<=1000000000:=hp
 have h3:z3=((ab z0).length:Int):=h3
 refine⟨⟨cn _,by omega,by rw[h3];exact cn _⟩,λz4 bC e1 h4=>?_⟩
 have h4:=nJ h4 h3
 refine⟨by show(ab z4).length<=1000000000;rw[h4];exact hp,λz5 f0 f1 h5 aq g0 z7 i0 i1 av fO dV cq=>?_⟩
 have h5:ab z5=ab z4:=h5
 have cq:av=((ab z5).length:Int):=cq
 refine⟨⟨cn _,by omega,by rw[cq];exact cn _⟩,λz9 jD k1 bU=>?_⟩
 have bU:=nJ bU cq
 have ln:ab z9=ab z0:=by rw[bU,h5,h4]
 refine⟨by show(ab z9).length<=1000000000;rw[ln];exact hp,λaC cm l1 c8 bf m0 iG z12 n0 n1 gd=>?_⟩
 have c8:ck aC=pI cC (ck z9):=c8
 have gd:z12=((ab aC).length:Int):=gd
 rw[G5 ln]at c8
 obtain⟨bo,bI,b6⟩:=ao5 (ck z0)
 have hl0:(ck z0).length=(ab z0).length:=sg z0
 refine⟨⟨cn _,by omega,by rw[gd];exact cn _⟩,λag BA o1 gr=>?_⟩
 have gr:=nJ gr gd
 have NW:(ab ag).length=kY 64 (ck z0).length:=by rw[gr,<-sg,c8,bo]
 refine⟨by show 128∣(ab ag).length/\(ab ag).length<=1000001000;rw[NW];exact⟨bI,by omega⟩,λak p0 p1 eD aI aV r1 aT iw s1 jc=>?_⟩
 have eD:ck ak=o9 cC (ck ag):=eD
 rw[G5 gr,c8]at eD
 have jc:aT=((ab ak).length:Int):=jc
 have Er:(ck ak).length=64:=by rw[eD,TH];rfl
 have Oj:(ab ak).length=64:=by rw[<-sg,Er]
 have au:∀i:Int,0<=i->i<64->aa 21 [ak,i]:=λi h1 h2=>⟨h1,by rw[Oj];exact h2⟩
 refine⟨⟨by decide,by omega⟩,au 0 (by decide) (by decide),?_⟩
 refine⟨au 0 (by decide) (by decide),?_⟩
 intro bE x0 jH t0
 refine⟨au 1 (by decide) (by decide),?_⟩
 intro br x1 jn t1
 refine⟨au 2 (by decide) (by decide),?_⟩
 intro bH x2 qz t2
 refine⟨au 3 (by decide) (by decide),?_⟩
 intro z20 gP zq t3
 refine⟨au 4 (by decide) (by decide),?_⟩
 intro z21 gw Cd t4
 refine⟨au 5 (by decide) (by decide),?_⟩
 intro z22 gD Ce t5
 refine⟨au 6 (by decide) (by decide),?_⟩
 intro dg gQ Cf t6
 refine⟨au 7 (by decide) (by decide),?_⟩
 intro z24 kt Cg t7
 refine⟨au 8 (by decide) (by decide),?_⟩
 intro cK ku Ch t8
 refine⟨au 9 (by decide) (by decide),?_⟩
 intro z26 kv Ci t9
 refine⟨au 10 (by decide) (by decide),?_⟩
 intro dM k6 Ca t10
 refine⟨au 11 (by decide) (by decide),?_⟩
 intro z28 fi zp t11
 refine⟨au 12 (by decide) (by decide),?_⟩
 intro fj gC Cb t12
 refine⟨au 13 (by decide) (by decide),?_⟩
 intro ee j2 Cc t13
 refine⟨au 14 (by decide) (by decide),?_⟩
 intro z31 wX FR t14
 refine⟨au 15 (by decide) (by decide),?_⟩
 intro dh wY FT t15
 refine⟨au 16 (by decide) (by decide),?_⟩
 intro dN B6 Q9 t16
 refine⟨au 17 (by decide) (by decide),?_⟩
 intro dX B7 Ra t17
 refine⟨au 18 (by decide) (by decide),?_⟩
 intro du B8 Rb t18
 refine⟨au 19 (by decide) (by decide),?_⟩
 intro cY B9 Rc t19
 refine⟨au 20 (by decide) (by decide),?_⟩
 intro z37 J4 Re t20
 refine⟨au 21 (by decide) (by decide),?_⟩
 intro cZ J5 Rf t21
 refine⟨au 22 (by decide) (by decide),?_⟩
 intro ej J6 Rg t22
 refine⟨au 23 (by decide) (by decide),?_⟩
 intro z40 J7 Rh t23
 refine⟨au 24 (by decide) (by decide),?_⟩
 intro dB J8 Ri t24
 refine⟨au 25 (by decide) (by decide),?_⟩
 intro c0 J9 Rj t25
 refine⟨au 26 (by decide) (by decide),?_⟩
 intro da Ka Rk t26
 refine⟨au 27 (by decide) (by decide),?_⟩
 intro a8 Kb Rl t27
 refine⟨au 28 (by decide) (by decide),?_⟩
 intro bL Kc Rm t28
 refine⟨au 29 (by decide) (by decide),?_⟩
 intro z46 Kd Rn t29
 refine⟨au 30 (by decide) (by decide),?_⟩
 intro di Ke Ro t30
 refine⟨au 31 (by decide) (by decide),?_⟩
 intro fU Kf Rp t31
 refine⟨au 32 (by decide) (by decide),?_⟩
 intro z49 atE auf t32
 refine⟨au 33 (by decide) (by decide),?_⟩
 intro fe atF aug t33
 refine⟨au 34 (by decide) (by decide),?_⟩
 intro z51 atG auh t34
 refine⟨au 35 (by decide) (by decide),?_⟩
 intro eP atH aui t35
 refine⟨au 36 (by decide) (by decide),?_⟩
 intro z53 atI auj t36
 refine⟨au 37 (by decide) (by decide),?_⟩
 intro fG atJ auk t37
 refine⟨au 38 (by decide) (by decide),?_⟩
 intro eJ atK aul t38
 refine⟨au 39 (by decide) (by decide),?_⟩
 intro eF atL aum t39
 refine⟨au 40 (by decide) (by decide),?_⟩
 intro ek atM aun t40
 refine⟨au 41 (by decide) (by decide),?_⟩
 intro eG atN auo t41
 refine⟨au 42 (by decide) (by decide),?_⟩
 intro z59 atO aup t42
 refine⟨au 43 (by decide) (by decide),?_⟩
 intro gm atP auq t43
 refine⟨au 44 (by decide) (by decide),?_⟩
 intro kx atQ aur t44
 refine⟨au 45 (by decide) (by decide),?_⟩
 intro ky atS aus t45
 refine⟨au 46 (by decide) (by decide),?_⟩
 intro iV atT aut t46
 refine⟨au 47 (by decide) (by decide),?_⟩
 intro mj atU auu t47
 refine⟨au 48 (by decide) (by decide),?_⟩
 intro jq atV Rq t48
 refine⟨au 49 (by decide) (by decide),?_⟩
 intro jJ atW auv t49
 refine⟨au 50 (by decide) (by decide),?_⟩
 intro jK atX auw t50
 refine⟨au 51 (by decide) (by decide),?_⟩
 intro ml atY auy t51
 refine⟨au 52 (by decide) (by decide),?_⟩
 intro mm atZ auz t52
 refine⟨au 53 (by decide) (by decide),?_⟩
 intro z70 at0 auA t53
 refine⟨au 54 (by decide) (by decide),?_⟩
 intro mn at1 auB t54
 refine⟨au 55 (by decide) (by decide),?_⟩
 intro z72 at2 auC t55
 refine⟨au 56 (by decide) (by decide),?_⟩
 intro gx at3 auD t56
 refine⟨au 57 (by decide) (by decide),?_⟩
 intro mo at4 auE t57
 refine⟨au 58 (by decide) (by decide),?_⟩
 intro z75 at5 auF t58
 refine⟨au 59 (by decide) (by decide),?_⟩
 intro z76 at6 auG t59
 refine⟨au 60 (by decide) (by decide),?_⟩
 intro kz at7 auH t60
 refine⟨au 61 (by decide) (by decide),?_⟩
 intro m4 aua auI t61
 refine⟨au 62 (by decide) (by decide),?_⟩
 intro m5 aub auJ t62
 refine⟨au 63 (by decide) (by decide),?_⟩
 intro m6 auc auK t63
 have cJ:[bE,br,bH,z20,z21,z22,dg,z24,cK,z26,dM,z28,fj,ee,z31,dh,dN,dX,du,cY,z37,cZ,ej,z40,dB,c0,da,a8,bL,z46,di,fU,z49,fe,z51,eP,z53,fG,eJ,eF,ek,eG,z59,gm,kx,ky,iV,mj,jq,jJ,jK,ml,mm,z70,mn,z72,gx,mo,z75,z76,kz,m4,m5,m6]=ck ak:=by
  rw[bP t0,bP t1,bP t2,bP t3,bP t4,bP t5,bP t6,bP t7,bP t8,bP t9,bP t10,bP t11,bP t12,bP t13,bP t14,bP t15,bP t16,bP t17,bP t18,bP t19,bP t20,bP t21,bP t22,bP t23,bP t24,bP t25,bP t26,bP t27,bP t28,bP t29,bP t30,bP t31,bP t32,bP t33,bP t34,bP t35,bP t36,bP t37,bP t38,bP t39,bP t40,bP t41,bP t42,bP t43,bP t44,bP t45,bP t46,bP t47,bP t48,bP t49,bP t50,bP t51,bP t52,bP t53,bP t54,bP t55,bP t56,bP t57,bP t58,bP t59,bP t60,bP t61,bP t62,bP t63]
  exact(DG (ck ak) 64 Er).symm
 refine⟨?_,?_⟩
 ·show aO (c7 0 255 64++[]) _
  rw[gT]
  exact OR 64 _ rfl λx hx=>by
   simp only[rW,KL,gT,lR,Cw,or_false]at hx
   rcases hx with rfl|rfl|rfl|rfl|rfl|rfl|rfl|rfl|rfl|rfl|rfl|rfl|rfl|rfl|rfl|rfl|rfl|rfl|rfl|rfl|rfl|rfl|rfl|rfl|rfl|rfl|rfl|rfl|rfl|rfl|rfl|rfl|rfl|rfl|rfl|rfl|rfl|rfl|rfl|rfl|rfl|rfl|rfl|rfl|rfl|rfl|rfl|rfl|rfl|rfl|rfl|rfl|rfl|rfl|rfl|rfl|rfl|rfl|rfl|rfl|rfl|rfl|rfl|rfl
   ·exact⟨x0,jH⟩
   ·exact⟨x1,jn⟩
   ·exact⟨x2,qz⟩
   ·exact⟨gP,zq⟩
   ·exact⟨gw,Cd⟩
   ·exact⟨gD,Ce⟩
   ·exact⟨gQ,Cf⟩
   ·exact⟨kt,Cg⟩
   ·exact⟨ku,Ch⟩
   ·exact⟨kv,Ci⟩
   ·exact⟨k6,Ca⟩
   ·exact⟨fi,zp⟩
   ·exact⟨gC,Cb⟩
   ·exact⟨j2,Cc⟩
   ·exact⟨wX,FR⟩
   ·exact⟨wY,FT⟩
   ·exact⟨B6,Q9⟩
   ·exact⟨B7,Ra⟩
   ·exact⟨B8,Rb⟩
   ·exact⟨B9,Rc⟩
   ·exact⟨J4,Re⟩
   ·exact⟨J5,Rf⟩
   ·exact⟨J6,Rg⟩
   ·exact⟨J7,Rh⟩
   ·exact⟨J8,Ri⟩
   ·exact⟨J9,Rj⟩
   ·exact⟨Ka,Rk⟩
   ·exact⟨Kb,Rl⟩
   ·exact⟨Kc,Rm⟩
   ·exact⟨Kd,Rn⟩
   ·exact⟨Ke,Ro⟩
   ·exact⟨Kf,Rp⟩
   ·exact⟨atE,auf⟩
   ·exact⟨atF,aug⟩
   ·exact⟨atG,auh⟩
   ·exact⟨atH,aui⟩
   ·exact⟨atI,auj⟩
   ·exact⟨atJ,auk⟩
   ·exact⟨atK,aul⟩
   ·exact⟨atL,aum⟩
   ·exact⟨atM,aun⟩
   ·exact⟨atN,auo⟩
   ·exact⟨atO,aup⟩
   ·exact⟨atP,auq⟩
   ·exact⟨atQ,aur⟩
   ·exact⟨atS,aus⟩
   ·exact⟨atT,aut⟩
   ·exact⟨atU,auu⟩
   ·exact⟨atV,Rq⟩
   ·exact⟨atW,auv⟩
   ·exact⟨atX,auw⟩
   ·exact⟨atY,auy⟩
   ·exact⟨atZ,auz⟩
   ·exact⟨at0,auA⟩
   ·exact⟨at1,auB⟩
   ·exact⟨at2,auC⟩
   ·exact⟨at3,auD⟩
   ·exact⟨at4,auE⟩
   ·exact⟨at5,auF⟩
   ·exact⟨at6,auG⟩
   ·exact⟨at7,auH⟩
   ·exact⟨aua,auI⟩
   ·exact⟨aub,auJ⟩
   ·exact⟨auc,auK⟩
 ·show [[bE,br,bH,z20,z21,z22,dg,z24,cK,z26,dM,z28,fj,ee,z31,dh,dN,dX,du,cY,z37,cZ,ej,z40,dB,c0,da,a8,bL,z46,di,fU,z49,fe,z51,eP,z53,fG,eJ,eF,ek,eG,z59,gm,kx,ky,iV,mj,jq,jJ,jK,ml,mm,z70,mn,z72,gx,mo,z75,z76,kz,m4,m5,m6]]=[qw cC (ck z0)]
  rw[cJ,eD];rfl
end Go.cd
namespace Go.cd
open Go Go.bg
def SX (S:Nat->List (List Int)->List (List Int)->Prop) (K:List (List Int)->List (List Int)->Prop):Prop:=
 cX λz0=>(aa 71 [z0]->cQ λah=>bY λz2=>bF 20 [z0] λz3=>eW (-9223372036854775808) 9223372036854775807 λz4=>S 440 [[z3],[32]] [[z4]]->
 aa 49 [z4,z4]/\aH 26 [z4,0] λz5=>bY λaq=>aa 80 [z5,0,z4]/\aa 22 [z0,0,z3]/\bF 62 [z3,z4] λz7=>aH 22 [z0,0,z7] λav=>aH 63
 [z5,0,av] λz9=>aa 30 [z3,z4]/\aa 21 [z9,z3]/\(aa 67 [z9,z3,1]->aH 42 [z9,z3,0,128] λaC=>cc 0 3 (8*z3) 18446744073709551616 λbf=>∃
 (xj:List (List Int)->Prop) (Gm:List (List Int)->Nat),xj [[((8*z3)+((-18446744073709551616)*bf))],[(z4+(-1))],[aC]]/\(kq λag=>bY λ
 ak=>cX λaI=>xj [[ag],[ak],[aI]]->(aD (decide (0<ag)) (cc 0 72057594037927935 ag 256 λaT=>aa 30 [ak,z4]/\aa 21 [aI,ak]/\(aa
 67 [aI,ak,1]->aH 42 [aI,ak,0,(ag+((-256)*aT))] λbE=>cc 0 72057594037927935 ag 256 λbr=>aa 39 [(ak+(-1)),(-1),9223372036854775807]
 /\(xj [[br],[(ak+(-1))],[bE]]/\Gm [[br],[(ak+(-1))],[bE]]<Gm [[ag],[ak],[aI]]))) (aa 22 [aI,0,z4]/\aH 22 [aI,0,z4] λaT=>K
 [[z0]] [[aT]])))))
def SY (S:Nat->List (List Int)->List (List Int)->Prop) (K:List (List Int)->List (List Int)->Prop):Prop:=
 cX λz0=>(aa 71 [z0]->cQ λah=>bY λz2=>bF 20 [z0] λz3=>eW (-9223372036854775808) 9223372036854775807 λz4=>S 440 [[z3],[64]] [[z4]]->
 aa 49 [z4,z4]/\aH 26 [z4,0] λz5=>bY λaq=>aa 80 [z5,0,z4]/\aa 22 [z0,0,z3]/\bF 62 [z3,z4] λz7=>aH 22 [z0,0,z7] λav=>aH 63
 [z5,0,av] λz9=>aa 30 [z3,z4]/\aa 21 [z9,z3]/\(aa 67 [z9,z3,1]->aH 42 [z9,z3,0,128] λaC=>cc 0 3 (8*z3) 18446744073709551616 λbf=>∃
 (xj:List (List Int)->Prop) (Gm:List (List Int)->Nat),xj [[((8*z3)+((-18446744073709551616)*bf))],[(z4+(-1))],[aC]]/\(kq λag=>bY λ
 ak=>cX λaI=>xj [[ag],[ak],[aI]]->(aD (decide (0<ag)) (cc 0 72057594037927935 ag 256 λaT=>aa 30 [ak,z4]/\aa 21 [aI,ak]/\(aa
 67 [aI,ak,1]->aH 42 [aI,ak,0,(ag+((-256)*aT))] λbE=>cc 0 72057594037927935 ag 256 λbr=>aa 39 [(ak+(-1)),(-1),9223372036854775807]
 /\(xj [[br],[(ak+(-1))],[bE]]/\Gm [[br],[(ak+(-1))],[bE]]<Gm [[ag],[ak],[aI]]))) (aa 22 [aI,0,z4]/\aH 22 [aI,0,z4] λaT=>K
 [[z0]] [[aT]])))))
def rws (l:List Int):List (List Int):=l.map λx=>[x]
theorem Dc {z:Int} {l:List Int} (h:ab z=rws l):ck z=l:=by
 unfold ck rws at*
 rw[h,j5]
 exact(gG λx _=>rfl).trans (Cx l)
theorem ma (l:List Int):(rws l).length=l.length:=by simp[rws]
theorem Qi (a b:List Int):rws (a++b)=rws a++rws b:=by simp[rws]
theorem BW (n:Nat) (x:Int):rws (cV n x)=cV n [x]:=by simp[rws]
def k5 (v:Nat) (j:Nat):List Int:=(cA j).map λq=>((v/256^(j-1-q)% 256:Nat):Int)
theorem Zw (v j:Nat):(k5 v j).length=j:=by simp[k5]
theorem QK (v j:Nat):k5 v (j+1)=((v/256^j% 256:Nat):Int)::k5 v j:=by
 unfold k5
 rw[List.range_succ_eq_map,cr,j5]
 refine congr (congrArg _ (by simp)) (gG λq hq=>?_)
 have:q<j:=List.mem_range.1 hq
 simp only[F0]
 rw[show j+1-1-(q+1)=j-1-q by omega]
theorem Zv (v:Nat):∀(d j:Nat),j+d=8->v/256^j=0->sf v=cV (8-j) 0++k5 v j:=by
 have base:sf v=k5 v 8:=by
  unfold sf k5
  refine gG λq hq=>?_
  have:q<8:=List.mem_range.1 hq
  have e:(256:Nat)^(8-1-q)=2^(56-8*q):=by
   rw[show(256:Nat)=2^8 by rfl,<-Nat.pow_mul];congr 1;omega
  rw[e]
 intro d
 induction d with
 |zero=>
  intro j hj _
  have:j=8:=by omega
  subst this
  simpa using base
 |succ d ih=>
  intro j hj h0
  have h1:v/256^(j+1)=0:=by rw[w6,<-F6,h0]
  rw[ih (j+1) (by omega) h1,QK,h0,show 8-j=(8-(j+1))+1 by omega,aaF]
  simp
theorem JG {α:Type} (a b:List α) (x y:α) (n:Nat) (h:a.length=n):(a++x::b).set n y=a++y::b:=by
 subst h
 induction a with
 |nil=>rfl
 |cons z a ih=>simp[ih]
theorem HA {α:Type} (a b:List α) (x d:α) (n:Nat) (h:a.length=n):(a++x::b).getD n d=x:=by
 subst h
 simp[af]
theorem aoP:SX SB (eL SB [wE] 442):=by
 intro z0 a0 a1 hp ah b0 z2 bT c1 z3 d0 d1 h3 z4 bC e1 h4
 have hp:(ab z0).length<=1000000000:=hp
 have h3:z3=((ab z0).length:Int):=h3
 have h4:[[z4]]=[[pH z3 32]]:=h4
 obtain⟨n,hn⟩:∃n,(ab z0).length=n:=⟨_,rfl⟩
 rw[hn]at h3 hp
 have xY:(ck z0).length=n:=by rw[sg,hn]
 obtain⟨P,po⟩:∃P,kY 32 n=P:=⟨_,rfl⟩
 have agJ:P=(n+1+8+63)/64*64:=po.symm
 have h4:z4=(P:Int):=by
  have:z4=pH z3 32:=by simpa using h4
  rw[this];unfold pH
  rw[if_neg (by omega),h3]
  simp only[k9]
  rw[show(32:Int).toNat=32 from rfl,po]
 have g1:n+9<=P:=by omega
 have g2:P<=1000001000:=by omega
 refine⟨⟨by omega,by omega,by omega⟩,λz5 f0 f1 h5 aq i0 i1=>?_⟩
 have h5:ab z5=rws (cV P 0):=by
  rw[h5]
  show ab (rc (cV z4.toNat [0]))=_
  rw[dW,BW,h4];simp
 have uB:(ab z5).length=P:=by rw[h5,ma];simp
 refine⟨⟨cn _,by omega,by rw[uB];omega⟩,⟨cn _,by omega,by rw[hn];omega⟩,λz7 fO dV h7 av jD k1 cq z9 m0 iG bU=>?_⟩
 have h7:z7=(n:Int):=by
  have:z7=min z3 z4:=h7
  rw[this,h3,h4];omega
 have cq:ab av=ab z0:=nJ cq (by rw[h7,hn])
 obtain⟨av3,AX⟩:∃l:List (List Int),ab z0=l:=⟨_,rfl⟩
 have bU:ab z9=ab z0++rws (0::cV (P-n-1) 0):=by
  rw[bU]
  show ab (rc ((ab z5).take (0:Int).toNat++ab av++(ab z5).drop ((0:Int).toNat+(ab av).length)))=_
  rw[dW,cq,h5,hn]
  simp only[u3,tn,jr,oE]
  congr 1
  rw[BW,avZ,<-tq,BW]
  rw[show P-n-1+1=P-n by omega]
 have uC:(ab z9).length=P:=by rw[bU,dQ,hn,ma];simp;omega
 refine⟨⟨by omega,by omega⟩,⟨by omega,by rw[uC];omega⟩,λ_ aC n0 n1 c8 bf BA o1 o2 Py=>?_⟩
 have:bf=0:=by omega
 subst this
 have c8:ab aC=ab z0++rws (128::cV (P-n-1) 0):=by
  rw[c8]
  show ab (rc ((ab z9).set z3.toNat (((ab z9).getD z3.toNat []).take (0:Int).toNat++[128]++((ab z9).getD z3.toNat []).drop ((0:Int).toNat+[(128:Int)].length))))=_
  have e1:rws (0::cV (P-n-1) 0)=[0]::rws (cV (P-n-1) 0):=rfl
  have e2:rws (128::cV (P-n-1) 0)=[128]::rws (cV (P-n-1) 0):=rfl
  have hl:(ab z0).length=z3.toNat:=by rw[hn,h3];simp
  rw[dW,bU,e1,e2,HA _ _ _ _ _ hl]
  simp only[u3,tn,jr,FY,CO,Gk,oE,gT]
  exact JG _ _ _ _ _ hl
 refine⟨λl=>∃(j:Nat) (c:Int),j<=8/\l=[[((8*n/256^j:Nat):Int)],[(P:Int)-1-j],[c]]/\ab c=ab z0++rws (128::cV (P-n-1-j) 0++k5 (8*n) j),λl=>((l.getD 0 []).getD 0 0).toNat,⟨0,aC,by decide,by
  rw[Nat.pow_zero,Nat.div_one,show(8*z3+-18446744073709551616*0:Int)=((8*n:Nat):Int) by omega,show(z4+-1:Int)=(P:Int)-1-((0:Nat):Int) by omega],by rw[c8];simp[k5]⟩,?_⟩
 intro ag p0 p1 ak kp bo aI aV r1 hI
 obtain⟨j,c,hj,hl,hc⟩:=hI
 simp only[hS,and_true]at hl
 obtain⟨Dq,adY,Mc⟩:=hl
 subst Mc
 have yK:(ab aI).length=P:=by
  rw[hc,dQ,hn,ma]
  simp only[dQ,dv,zC,Zw]
  omega
 refine⟨λjB=>?_,λye=>⟨⟨cn _,by omega,by rw[yK];omega⟩,λaT iw s1 jc=>⟨⟨iw,s1,trivial⟩,?_⟩⟩⟩
 ·have jB:=of_decide_eq_true jB
  intro aT iw s1 s2 fR
  have aip:j<8:=by
   rcases qJ j 8 with h|h
   ·exact h
   ·have:j=8:=by omega
    subst this
    have:8*n/256^8=0:=av0 (by omega)
    omega
  refine⟨⟨by omega,by omega⟩,⟨by omega,by rw[yK];omega⟩,λ_ bE t0 t1 lp br u0 oB rO s7=>?_⟩
  have sG:ab aI=ab z0++rws ((128::cV (P-n-1-j-1) 0)++0::k5 (8*n) j):=by
   rw[hc];congr 2
   rw[show P-n-1-j=(P-n-1-j-1)+1 by omega,aaF]
   simp
  have OI:ab bE=ab z0++rws ((128::cV (P-n-1-j-1) 0)++(ag+-256*aT)::k5 (8*n) j):=by
   rw[lp]
   show ab (rc ((ab aI).set ak.toNat (((ab aI).getD ak.toNat []).take (0:Int).toNat++[ag+-256*aT]++((ab aI).getD ak.toNat []).drop ((0:Int).toNat+[ag+-256*aT].length))))=_
   have e1:∀x:Int,ab z0++rws ((128::cV (P-n-1-j-1) 0)++x::k5 (8*n) j)=(ab z0++rws (128::cV (P-n-1-j-1) 0))++[x]::rws (k5 (8*n) j):=λx=>by
    rw[Qi,ie];rfl
   have hl:(ab z0++rws (128::cV (P-n-1-j-1) 0)).length=ak.toNat:=by
    rw[dQ,hn,ma]
    simp only[dv,zC]
    omega
   rw[dW,sG,e1,e1,HA _ _ _ _ _ hl]
   simp only[u3,tn,jr,FY,CO,Gk,oE,gT]
   exact JG _ _ _ _ _ hl
  have Md:aT=ag/256:=by omega
  have Me:br=ag/256:=by omega
  refine⟨⟨by omega,by omega⟩,⟨j+1,bE,by omega,?_,?_⟩,?_⟩
  ·rw[show br=((8*n/256^(j+1):Nat):Int) by rw[w6,<-F6,Me,Dq];simp,show(ak+-1:Int)=(P:Int)-1-((j+1:Nat):Int) by omega]
  ·rw[OI,QK]
   congr 2
   rw[show P-n-1-(j+1)=P-n-1-j-1 by omega]
   congr 2
   rw[Md,Dq];omega
  ·show br.toNat<ag.toNat
   omega
 ·have ye:=of_decide_eq_false ye
  have h0:8*n/256^j=0:=by omega
  show ck aT=pI cB (ck z0)
  have jc:=nJ jc (by rw[yK,h4])
  have bC:ab aI=ab z0++rws (128::cV (P-n-9) 0++sf (8*n)):=by
   rw[hc,Zv (8*n) (8-j) j (by omega) h0]
   congr 2
   rw[show P-n-1-j=(P-n-9)+(8-j) by omega,<-aaA]
   simp only[u6,ie]
  unfold pI
  rw[xY,show cB.w=32 from rfl,po]
  unfold ck
  rw[jc,bC,ff]
  have:=Dc (z:=rc (rws (128::cV (P-n-9) 0++sf (8*n)))) (dW _)
  unfold ck at this
  rw[dW]at this
  rw[this]
  simp
theorem aoQ:SY SB (eL SB [wE] 443):=by
 intro z0 a0 a1 hp ah b0 z2 bT c1 z3 d0 d1 h3 z4 bC e1 h4
 have hp:(ab z0).length<=1000000000:=hp
 have h3:z3=((ab z0).length:Int):=h3
 have h4:[[z4]]=[[pH z3 64]]:=h4
 obtain⟨n,hn⟩:∃n,(ab z0).length=n:=⟨_,rfl⟩
 rw[hn]at h3 hp
 have xY:(ck z0).length=n:=by rw[sg,hn]
 obtain⟨P,po⟩:∃P,kY 64 n=P:=⟨_,rfl⟩
 have agJ:P=(n+1+16+127)/128*128:=po.symm
 have h4:z4=(P:Int):=by
  have:z4=pH z3 64:=by simpa using h4
  rw[this];unfold pH
  rw[if_neg (by omega),h3]
  simp only[k9]
  rw[show(64:Int).toNat=64 from rfl,po]
 have g1:n+9<=P:=by omega
 have g2:P<=1000001000:=by omega
 refine⟨⟨by omega,by omega,by omega⟩,λz5 f0 f1 h5 aq i0 i1=>?_⟩
 have h5:ab z5=rws (cV P 0):=by
  rw[h5]
  show ab (rc (cV z4.toNat [0]))=_
  rw[dW,BW,h4];simp
 have uB:(ab z5).length=P:=by rw[h5,ma];simp
 refine⟨⟨cn _,by omega,by rw[uB];omega⟩,⟨cn _,by omega,by rw[hn];omega⟩,λz7 fO dV h7 av jD k1 cq z9 m0 iG bU=>?_⟩
 have h7:z7=(n:Int):=by
  have:z7=min z3 z4:=h7
  rw[this,h3,h4];omega
 have cq:ab av=ab z0:=nJ cq (by rw[h7,hn])
 obtain⟨av3,AX⟩:∃l:List (List Int),ab z0=l:=⟨_,rfl⟩
 have bU:ab z9=ab z0++rws (0::cV (P-n-1) 0):=by
  rw[bU]
  show ab (rc ((ab z5).take (0:Int).toNat++ab av++(ab z5).drop ((0:Int).toNat+(ab av).length)))=_
  rw[dW,cq,h5,hn]
  simp only[u3,tn,jr,oE]
  congr 1
  rw[BW,avZ,<-tq,BW]
  rw[show P-n-1+1=P-n by omega]
 have uC:(ab z9).length=P:=by rw[bU,dQ,hn,ma];simp;omega
 refine⟨⟨by omega,by omega⟩,⟨by omega,by rw[uC];omega⟩,λ_ aC n0 n1 c8 bf BA o1 o2 Py=>?_⟩
 have:bf=0:=by omega
 subst this
 have c8:ab aC=ab z0++rws (128::cV (P-n-1) 0):=by
  rw[c8]
  show ab (rc ((ab z9).set z3.toNat (((ab z9).getD z3.toNat []).take (0:Int).toNat++[128]++((ab z9).getD z3.toNat []).drop ((0:Int).toNat+[(128:Int)].length))))=_
  have e1:rws (0::cV (P-n-1) 0)=[0]::rws (cV (P-n-1) 0):=rfl
  have e2:rws (128::cV (P-n-1) 0)=[128]::rws (cV (P-n-1) 0):=rfl
  have hl:(ab z0).length=z3.toNat:=by rw[hn,h3];simp
  rw[dW,bU,e1,e2,HA _ _ _ _ _ hl]
  simp only[u3,tn,jr,FY,CO,Gk,oE,gT]
  exact JG _ _ _ _ _ hl
 refine⟨λl=>∃(j:Nat) (c:Int),j<=8/\l=[[((8*n/256^j:Nat):Int)],[(P:Int)-1-j],[c]]/\ab c=ab z0++rws (128::cV (P-n-1-j) 0++k5 (8*n) j),λl=>((l.getD 0 []).getD 0 0).toNat,⟨0,aC,by decide,by
  rw[Nat.pow_zero,Nat.div_one,show(8*z3+-18446744073709551616*0:Int)=((8*n:Nat):Int) by omega,show(z4+-1:Int)=(P:Int)-1-((0:Nat):Int) by omega],by rw[c8];simp[k5]⟩,?_⟩
 intro ag p0 p1 ak kp bo aI aV r1 hI
 obtain⟨j,c,hj,hl,hc⟩:=hI
 simp only[hS,and_true]at hl
 obtain⟨Dq,adY,Mc⟩:=hl
 subst Mc
 have yK:(ab aI).length=P:=by
  rw[hc,dQ,hn,ma]
  simp only[dQ,dv,zC,Zw]
  omega
 refine⟨λjB=>?_,λye=>⟨⟨cn _,by omega,by rw[yK];omega⟩,λaT iw s1 jc=>⟨⟨iw,s1,trivial⟩,?_⟩⟩⟩
 ·have jB:=of_decide_eq_true jB
  intro aT iw s1 s2 fR
  have aip:j<8:=by
   rcases qJ j 8 with h|h
   ·exact h
   ·have:j=8:=by omega
    subst this
    have:8*n/256^8=0:=av0 (by omega)
    omega
  refine⟨⟨by omega,by omega⟩,⟨by omega,by rw[yK];omega⟩,λ_ bE t0 t1 lp br u0 oB rO s7=>?_⟩
  have sG:ab aI=ab z0++rws ((128::cV (P-n-1-j-1) 0)++0::k5 (8*n) j):=by
   rw[hc];congr 2
   rw[show P-n-1-j=(P-n-1-j-1)+1 by omega,aaF]
   simp
  have OI:ab bE=ab z0++rws ((128::cV (P-n-1-j-1) 0)++(ag+-256*aT)::k5 (8*n) j):=by
   rw[lp]
   show ab (rc ((ab aI).set ak.toNat (((ab aI).getD ak.toNat []).take (0:Int).toNat++[ag+-256*aT]++((ab aI).getD ak.toNat []).drop ((0:Int).toNat+[ag+-256*aT].length))))=_
   have e1:∀x:Int,ab z0++rws ((128::cV (P-n-1-j-1) 0)++x::k5 (8*n) j)=(ab z0++rws (128::cV (P-n-1-j-1) 0))++[x]::rws (k5 (8*n) j):=λx=>by
    rw[Qi,ie];rfl
   have hl:(ab z0++rws (128::cV (P-n-1-j-1) 0)).length=ak.toNat:=by
    rw[dQ,hn,ma]
    simp only[dv,zC]
    omega
   rw[dW,sG,e1,e1,HA _ _ _ _ _ hl]
   simp only[u3,tn,jr,FY,CO,Gk,oE,gT]
   exact JG _ _ _ _ _ hl
  have Md:aT=ag/256:=by omega
  have Me:br=ag/256:=by omega
  refine⟨⟨by omega,by omega⟩,⟨j+1,bE,by omega,?_,?_⟩,?_⟩
  ·rw[show br=((8*n/256^(j+1):Nat):Int) by rw[w6,<-F6,Me,Dq];simp,show(ak+-1:Int)=(P:Int)-1-((j+1:Nat):Int) by omega]
  ·rw[OI,QK]
   congr 2
   rw[show P-n-1-(j+1)=P-n-1-j-1 by omega]
   congr 2
   rw[Md,Dq];omega
  ·show br.toNat<ag.toNat
   omega
 ·have ye:=of_decide_eq_false ye
  have h0:8*n/256^j=0:=by omega
  show ck aT=pI cC (ck z0)
  have jc:=nJ jc (by rw[yK,h4])
  have bC:ab aI=ab z0++rws (128::cV (P-n-9) 0++sf (8*n)):=by
   rw[hc,Zv (8*n) (8-j) j (by omega) h0]
   congr 2
   rw[show P-n-1-j=(P-n-9)+(8-j) by omega,<-aaA]
   simp only[u6,ie]
  unfold pI
  rw[xY,show cC.w=64 from rfl,po]
  unfold ck
  rw[jc,bC,ff]
  have:=Dc (z:=rc (rws (128::cV (P-n-9) 0++sf (8*n)))) (dW _)
  unfold ck at this
  rw[dW]at this
  rw[this]
  simp
end Go.cd
namespace Go.cd
open Go Go.bg
theorem Mp (p:fr):∀(j:Nat) (m:List Int),qb p (j+1) m=qb p j m++[wB p (qb p j m)]
 |0,m=>rfl
 |j+1,m=>by
  show qb p (j+1) (m++[wB p m])=_
  rw[Mp p j];rfl
theorem Mo (p:fr):∀(j:Nat) (m:List Int),(qb p j m).length=m.length+j
 |0,_=>rfl
 |j+1,m=>by
  show(qb p j (m++[wB p m])).length=_
  rw[Mo p j];simp;omega
theorem Qg (p:fr):∀(m:List Int) (i:Nat) (x:Int) (v:List Int),uP p i (m++[x]) v=s5 p (i+m.length) x (uP p i m v)
 |[],i,x,v=>rfl
 |y::m,i,x,v=>by
  show uP p (i+1) (m++[x]) _=s5 p _ x (uP p (i+1) m _)
  rw[Qg p m]
  congr 1
  simp only[dv];omega
theorem Zu (m:List Int) (i:Nat) (h:i<m.length):m.take (i+1)=m.take i++[m.getD i 0]:=by
 rw[Kl,jt h];simp[af,h]
theorem Xy {r:List Int} (h:r.length=8):r=[r.getD 0 0,r.getD 1 0,r.getD 2 0,r.getD 3 0,r.getD 4 0,r.getD 5 0,r.getD 6 0,r.getD 7 0]:=DG r 8 h
theorem ft {c z x:Int} {l:List Int} (h:z=aB 23 [c,x]) (hc:ab c=rws l):ab z=rws (l++[x]):=by
 rw[h]
 show ab (rc (ab c++[[x]]))=_
 rw[dW,hc,Qi];rfl
theorem ss {c i z:Int} {l:List Int} (h:z=aB 21 [c,i,0]) (hc:ab c=rws l):z=l.getD i.toNat 0:=by
 rw[bP h,Dc hc]
theorem ET {lo hi:Int}:∀(n:Nat) (l:List Int),aO (c7 lo hi n) l->l.length=n/\∀x∈l,lo<=x/\x<=hi
 |0,[],_=>⟨rfl,λ_ h=>by cases h⟩
 |n+1,x::l,h=>by
  obtain⟨h1,h2⟩:=ET n l h.2.2
  refine⟨by simp[h1],λy hy=>?_⟩
  rcases List.mem_cons.1 hy with rfl|hy
  ·exact⟨h.1,h.2.1⟩
  ·exact h2 y hy
 |0,_::_,h=>h.elim
 |_+1,[],h=>h.elim
theorem Uv (b:List Int) (o n k:Nat) (hk:k<n):((b.drop o).take n).getD k 0=b.getD (o+k) 0:=by
 simp only[af,List.getElem?_take,List.getElem?_drop,hk,if_true]
theorem wS {x c l k:Int} {pre:List Int} {Next:Int->Int->Int->Prop} (hc:ab c=rws pre) (hl:l=(pre.length:Int)) (hb:pre.length<=1000)
 (hn:∀c' bp aP:Int,0<=c'->c'<=bZ->ab c'=rws (pre++(cA 4).map (kg cB x))->bp=((pre.length+4:Nat):Int)->Next c' bp aP):
 ∃(fx:List (List Int)->Prop) (gV:List (List Int)->Nat),fx [[3],[c],[l],[k]]/\(∀aI:Int,(-1)<=aI->aI<=3->∀aT:Int,0<=aT->aT<=bZ->∀bE:Int,0<=bE->bE<=9223372036854775807->∀br:Int,(-1)<=br->br<=9223372036854775807->fx [[aI],[aT],[bE],[br]]->
 (((decide (0<=aI))=true->
  ∀bH:Int,0<=bH->bH<=4294967295->bH=x/2^((8*aI)).toNat->
  ∀z20:Int,0<=z20->z20<=16777215->0<=bH-256*z20->bH-256*z20<256->
  aa 31 [aT,bE]/\
  aa 23 [aT,1]/\
  ∀z21:Int,0<=z21->z21<=bZ->z21=aB 23 [aT,(bH+((-256)*z20))]->
  ∀z22:Int,(-1)<=z22->z22<=9223372036854775807->
  (fx [[(aI+(-1))],[z21],[(bE+1)],[z22]]/\gV [[(aI+(-1))],[z21],[(bE+1)],[z22]]<gV [[aI],[aT],[bE],[br]])
 )/\((decide (0<=aI))=false->Next aT bE br))):=by
 refine⟨λl=>∃(j:Nat) (c' aP:Int),j<=4/\l=[[3-(j:Int)],[c'],[((pre.length+j:Nat):Int)],[aP]]/\ab c'=rws (pre++(cA j).map (kg cB x)),λl=>((l.getD 0 []).getD 0 0+1).toNat,⟨0,c,k,by decide,by rw[hl];rfl,by rw[hc];simp⟩,?_⟩
 intro aI a0 a1 aT b0 b1 bE bT c1 br d0 d1 ⟨j,c',aP,hj,e,hr⟩
 simp only[hS,and_true]at e
 obtain⟨e1,e2,bt,eS⟩:=e
 subst e2
 have hlen:(ab aT).length=pre.length+j:=by rw[hr,ma];simp
 refine⟨λh bH f0 f1 f2 z20 g0 g1 g2 g3=>?_,λh=>?_⟩
 ·have h:=of_decide_eq_true h
  refine⟨by show bE=((ab aT).length:Int);rw[hlen,bt],by show(ab aT).length+(1:Int)<=1073741824;rw[hlen];omega,λz21 i0 i1 i2 z22 fO dV=>⟨⟨j+1,z21,z22,by omega,?_,?_⟩,?_⟩⟩
  ·rw[show aI+-1=3-((j+1:Nat):Int) by omega,show bE+1=((pre.length+(j+1):Nat):Int) by omega]
  ·rw[ft i2 hr,ie,av1,ff]
   congr 3
   show [bH+-256*z20]=[x/2^(32-8-8*j)% 256]
   have:(8*aI).toNat=32-8-8*j:=by omega
   rw[<-this,<-f2]
   congr 1;omega
  ·show(aI+-1+1).toNat<(aI+1).toNat
   omega
 ·have h:=of_decide_eq_false h
  have:j=4:=by omega
  subst this
  exact hn aT bE br b0 b1 hr bt
theorem wT {x c l k:Int} {pre:List Int} {Next:Int->Int->Int->Prop} (hc:ab c=rws pre) (hl:l=(pre.length:Int)) (hb:pre.length<=1000)
 (hn:∀c' bp aP:Int,0<=c'->c'<=bZ->ab c'=rws (pre++(cA 8).map (kg cC x))->bp=((pre.length+8:Nat):Int)->Next c' bp aP):
 ∃(fx:List (List Int)->Prop) (gV:List (List Int)->Nat),fx [[7],[c],[l],[k]]/\(∀aI:Int,(-1)<=aI->aI<=7->∀aT:Int,0<=aT->aT<=bZ->∀bE:Int,0<=bE->bE<=9223372036854775807->∀br:Int,(-1)<=br->br<=9223372036854775807->fx [[aI],[aT],[bE],[br]]->
 (((decide (0<=aI))=true->
  ∀bH:Int,0<=bH->bH<=18446744073709551615->bH=x/2^((8*aI)).toNat->
  ∀z20:Int,0<=z20->z20<=72057594037927935->0<=bH-256*z20->bH-256*z20<256->
  aa 31 [aT,bE]/\
  aa 23 [aT,1]/\
  ∀z21:Int,0<=z21->z21<=bZ->z21=aB 23 [aT,(bH+((-256)*z20))]->
  ∀z22:Int,(-1)<=z22->z22<=9223372036854775807->
  (fx [[(aI+(-1))],[z21],[(bE+1)],[z22]]/\gV [[(aI+(-1))],[z21],[(bE+1)],[z22]]<gV [[aI],[aT],[bE],[br]])
 )/\((decide (0<=aI))=false->Next aT bE br))):=by
 refine⟨λl=>∃(j:Nat) (c' aP:Int),j<=8/\l=[[7-(j:Int)],[c'],[((pre.length+j:Nat):Int)],[aP]]/\ab c'=rws (pre++(cA j).map (kg cC x)),λl=>((l.getD 0 []).getD 0 0+1).toNat,⟨0,c,k,by decide,by rw[hl];rfl,by rw[hc];simp⟩,?_⟩
 intro aI a0 a1 aT b0 b1 bE bT c1 br d0 d1 ⟨j,c',aP,hj,e,hr⟩
 simp only[hS,and_true]at e
 obtain⟨e1,e2,bt,eS⟩:=e
 subst e2
 have hlen:(ab aT).length=pre.length+j:=by rw[hr,ma];simp
 refine⟨λh bH f0 f1 f2 z20 g0 g1 g2 g3=>?_,λh=>?_⟩
 ·have h:=of_decide_eq_true h
  refine⟨by show bE=((ab aT).length:Int);rw[hlen,bt],by show(ab aT).length+(1:Int)<=1073741824;rw[hlen];omega,λz21 i0 i1 i2 z22 fO dV=>⟨⟨j+1,z21,z22,by omega,?_,?_⟩,?_⟩⟩
  ·rw[show aI+-1=7-((j+1:Nat):Int) by omega,show bE+1=((pre.length+(j+1):Nat):Int) by omega]
  ·rw[ft i2 hr,ie,av1,ff]
   congr 3
   show [bH+-256*z20]=[x/2^(64-8-8*j)% 256]
   have:(8*aI).toNat=64-8-8*j:=by omega
   rw[<-this,<-f2]
   congr 1;omega
  ·show(aI+-1+1).toNat<(aI+1).toNat
   omega
 ·have h:=of_decide_eq_false h
  have:j=8:=by omega
  subst this
  exact hn aT bE br b0 b1 hr bt
end Go.cd
namespace Go.cd
open Go Go.bg
def Sa (S:Nat->List (List Int)->List (List Int)->Prop) (K:List (List Int)->List (List Int)->Prop):Prop:=
 cX λz0=>(aa 72 [z0]->cQ λah=>bY λz2=>bF 20 [z0] λz3=>aa 70 [z3,64]/\∃(lT:List (List Int)->Prop) (nf:List (List Int)->
 Nat),lT [[1779033703,3144134277,1013904242,2773480762,1359893119,2600822924,528734635,1541459225],[0]]/\(∀bb:List Int,aO (c7 0 4294967295 8) bb->fB λ
 ag=>lT [bb,[ag]]->(aD (decide ((64*ag)<z3)) (aa 21 [z0,(64*ag)]/\ao 21 [z0,(64*ag),0] λak=>aa 21 [z0,((64*ag)+1)]/\ao 21
 [z0,((64*ag)+1),0] λaI=>aa 21 [z0,((64*ag)+2)]/\ao 21 [z0,((64*ag)+2),0] λaT=>aa 21 [z0,((64*ag)+3)]/\ao 21 [z0,((64*
 ag)+3),0] λbE=>aa 21 [z0,((64*ag)+4)]/\ao 21 [z0,((64*ag)+4),0] λbr=>aa 21 [z0,((64*ag)+5)]/\ao 21 [z0,((64*ag)+
 5),0] λbH=>aa 21 [z0,((64*ag)+6)]/\ao 21 [z0,((64*ag)+6),0] λz20=>aa 21 [z0,((64*ag)+7)]/\ao 21 [z0,((64*ag)+7),0] λ
 z21=>aa 21 [z0,((64*ag)+8)]/\ao 21 [z0,((64*ag)+8),0] λz22=>aa 21 [z0,((64*ag)+9)]/\ao 21 [z0,((64*ag)+9),0] λdg=>aa
 21 [z0,((64*ag)+10)]/\ao 21 [z0,((64*ag)+10),0] λz24=>aa 21 [z0,((64*ag)+11)]/\ao 21 [z0,((64*ag)+11),0] λcK=>aa 21
 [z0,((64*ag)+12)]/\ao 21 [z0,((64*ag)+12),0] λz26=>aa 21 [z0,((64*ag)+13)]/\ao 21 [z0,((64*ag)+13),0] λdM=>aa 21
 [z0,((64*ag)+14)]/\ao 21 [z0,((64*ag)+14),0] λz28=>aa 21 [z0,((64*ag)+15)]/\ao 21 [z0,((64*ag)+15),0] λfj=>aa 21
 [z0,((64*ag)+16)]/\ao 21 [z0,((64*ag)+16),0] λee=>aa 21 [z0,((64*ag)+17)]/\ao 21 [z0,((64*ag)+17),0] λz31=>aa 21
 [z0,((64*ag)+18)]/\ao 21 [z0,((64*ag)+18),0] λdh=>aa 21 [z0,((64*ag)+19)]/\ao 21 [z0,((64*ag)+19),0] λdN=>aa 21
 [z0,((64*ag)+20)]/\ao 21 [z0,((64*ag)+20),0] λdX=>aa 21 [z0,((64*ag)+21)]/\ao 21 [z0,((64*ag)+21),0] λdu=>aa 21
 [z0,((64*ag)+22)]/\ao 21 [z0,((64*ag)+22),0] λcY=>aa 21 [z0,((64*ag)+23)]/\ao 21 [z0,((64*ag)+23),0] λz37=>aa 21
 [z0,((64*ag)+24)]/\ao 21 [z0,((64*ag)+24),0] λcZ=>aa 21 [z0,((64*ag)+25)]/\ao 21 [z0,((64*ag)+25),0] λej=>aa 21
 [z0,((64*ag)+26)]/\ao 21 [z0,((64*ag)+26),0] λz40=>aa 21 [z0,((64*ag)+27)]/\ao 21 [z0,((64*ag)+27),0] λdB=>aa 21
 [z0,((64*ag)+28)]/\ao 21 [z0,((64*ag)+28),0] λc0=>aa 21 [z0,((64*ag)+29)]/\ao 21 [z0,((64*ag)+29),0] λda=>aa 21
 [z0,((64*ag)+30)]/\ao 21 [z0,((64*ag)+30),0] λa8=>aa 21 [z0,((64*ag)+31)]/\ao 21 [z0,((64*ag)+31),0] λbL=>aa 21
 [z0,((64*ag)+32)]/\ao 21 [z0,((64*ag)+32),0] λz46=>aa 21 [z0,((64*ag)+33)]/\ao 21 [z0,((64*ag)+33),0] λdi=>aa 21
 [z0,((64*ag)+34)]/\ao 21 [z0,((64*ag)+34),0] λfU=>aa 21 [z0,((64*ag)+35)]/\ao 21 [z0,((64*ag)+35),0] λz49=>aa 21
 [z0,((64*ag)+36)]/\ao 21 [z0,((64*ag)+36),0] λfe=>aa 21 [z0,((64*ag)+37)]/\ao 21 [z0,((64*ag)+37),0] λz51=>aa 21
 [z0,((64*ag)+38)]/\ao 21 [z0,((64*ag)+38),0] λeP=>aa 21 [z0,((64*ag)+39)]/\ao 21 [z0,((64*ag)+39),0] λz53=>aa 21
 [z0,((64*ag)+40)]/\ao 21 [z0,((64*ag)+40),0] λfG=>aa 21 [z0,((64*ag)+41)]/\ao 21 [z0,((64*ag)+41),0] λeJ=>aa 21
 [z0,((64*ag)+42)]/\ao 21 [z0,((64*ag)+42),0] λeF=>aa 21 [z0,((64*ag)+43)]/\ao 21 [z0,((64*ag)+43),0] λek=>aa 21
 [z0,((64*ag)+44)]/\ao 21 [z0,((64*ag)+44),0] λeG=>aa 21 [z0,((64*ag)+45)]/\ao 21 [z0,((64*ag)+45),0] λz59=>aa 21
 [z0,((64*ag)+46)]/\ao 21 [z0,((64*ag)+46),0] λgm=>aa 21 [z0,((64*ag)+47)]/\ao 21 [z0,((64*ag)+47),0] λkx=>aa 21
 [z0,((64*ag)+48)]/\ao 21 [z0,((64*ag)+48),0] λky=>aa 21 [z0,((64*ag)+49)]/\ao 21 [z0,((64*ag)+49),0] λiV=>aa 21
 [z0,((64*ag)+50)]/\ao 21 [z0,((64*ag)+50),0] λmj=>aa 21 [z0,((64*ag)+51)]/\ao 21 [z0,((64*ag)+51),0] λjq=>aa 21
 [z0,((64*ag)+52)]/\ao 21 [z0,((64*ag)+52),0] λjJ=>aa 21 [z0,((64*ag)+53)]/\ao 21 [z0,((64*ag)+53),0] λjK=>aa 21
 [z0,((64*ag)+54)]/\ao 21 [z0,((64*ag)+54),0] λml=>aa 21 [z0,((64*ag)+55)]/\ao 21 [z0,((64*ag)+55),0] λmm=>aa 21
 [z0,((64*ag)+56)]/\ao 21 [z0,((64*ag)+56),0] λz70=>aa 21 [z0,((64*ag)+57)]/\ao 21 [z0,((64*ag)+57),0] λmn=>aa 21
 [z0,((64*ag)+58)]/\ao 21 [z0,((64*ag)+58),0] λz72=>aa 21 [z0,((64*ag)+59)]/\ao 21 [z0,((64*ag)+59),0] λgx=>aa 21
 [z0,((64*ag)+60)]/\ao 21 [z0,((64*ag)+60),0] λmo=>aa 21 [z0,((64*ag)+61)]/\ao 21 [z0,((64*ag)+61),0] λz75=>aa 21
 [z0,((64*ag)+62)]/\ao 21 [z0,((64*ag)+62),0] λz76=>aa 21 [z0,((64*ag)+63)]/\ao 21 [z0,((64*ag)+63),0] λkz=>aH 23
 [0,((16777216*ak)+((65536*aI)+((256*aT)+bE)))] λm4=>aH 23 [m4,((16777216*br)+((65536*bH)+((256*z20)+z21)))] λm5=>aH
 23 [m5,((16777216*z22)+((65536*dg)+((256*z24)+cK)))] λm6=>aH 23 [m6,((16777216*z26)+((65536*dM)+((256*z28)+fj)))] λqA=>
 aH 23 [qA,((16777216*ee)+((65536*z31)+((256*dh)+dN)))] λqB=>aH 23 [qB,((16777216*dX)+((65536*du)+((256*cY)+z37)))] λ
 qC=>aH 23 [qC,((16777216*cZ)+((65536*ej)+((256*z40)+dB)))] λqD=>aH 23 [qD,((16777216*c0)+((65536*da)+((256*a8)+bL)))]
 λz85=>aH 23 [z85,((16777216*z46)+((65536*di)+((256*fU)+z49)))] λqE=>aH 23 [qE,((16777216*fe)+((65536*z51)+((256*eP)+
 z53)))] λz87=>aH 23 [z87,((16777216*fG)+((65536*eJ)+((256*eF)+ek)))] λqF=>aH 23 [qF,((16777216*eG)+((65536*z59)+((256*
 gm)+kx)))] λqG=>aH 23 [qG,((16777216*ky)+((65536*iV)+((256*mj)+jq)))] λqH=>aH 23 [qH,((16777216*jJ)+((65536*jK)+
 ((256*ml)+mm)))] λz91=>aH 23 [z91,((16777216*z70)+((65536*mn)+((256*z72)+gx)))] λqI=>aH 23 [qI,((16777216*mo)+((65536*
 z75)+((256*z76)+kz)))] λz93=>aa 66 [z93]/\cX λm7=>S 462 [[z93]] [[m7]]->bY λpV=>bF 20 [m7] λpW=>∃(K5:List (List Int)
 ->Prop) (aaK:List (List Int)->Nat),K5 [[16],[m7],[pW],[pV]]/\(eW 16 9223372036854775807 λfH=>cX λhQ=>fB λjo=>bY λpR=>K5
 [[fH],[hQ],[jo],[pR]]->(aD (decide (fH<64)) (aa 30 [(fH+(-16)),jo]/\aa 21 [hQ,(fH+(-16))]/\Fq 21 [hQ,(fH+(-16)),0] λnN=>
 aa 30 [(fH+(-15)),jo]/\aa 21 [hQ,(fH+(-15))]/\Fq 21 [hQ,(fH+(-15)),0] λpS=>mW λmg=>S 446 [[pS]] [[mg]]->dT (nN+
 mg) 4294967296 λz105=>aa 30 [(fH+(-7)),jo]/\aa 21 [hQ,(fH+(-7))]/\Fq 21 [hQ,(fH+(-7)),0] λlO=>dT (nN+(mg+
 (((-4294967296)*z105)+lO))) 4294967296 λz107=>aa 30 [(fH+(-2)),jo]/\aa 21 [hQ,(fH+(-2))]/\Fq 21 [hQ,(fH+(-2)),0] λta=>mW
 λz109=>S 447 [[ta]] [[z109]]->dT (nN+(mg+(((-4294967296)*z105)+(lO+(((-4294967296)*z107)+z109))))) 4294967296 λtc=>aa 31
 [hQ,jo]/\aa 23 [hQ,1]/\aH 23 [hQ,(nN+(mg+(((-4294967296)*z105)+(lO+(((-4294967296)*z107)+(z109+((-4294967296)*tc)))))))]
 λgR=>bY λgS=>(K5 [[(fH+1)],[gR],[(jo+1)],[gS]]/\aaK [[(fH+1)],[gR],[(jo+1)],[gS]]<aaK [[fH],[hQ],[jo],[pR]])) (∃
 (K2:List (List Int)->Prop) (aaH:List (List Int)->Nat),K2 [bb,[0]]/\(∀cT:List Int,aO (c7 0 4294967295 8) cT->fB λgR=>K2
 [cT,[gR]]->(aD (decide (gR<jo)) (aa 30 [gR,jo]/\aa 21 [hQ,gR]/\Fq 21 [hQ,gR,0] λgS=>mW λhP=>S 445 [[(af cT
 4 0)]] [[hP]]->dT ((af cT 7 0)+hP) 4294967296 λix=>cQ λlP=>lP<=eX .u32->lP=cf .and .u32 (af cT 4 0)
 (af cT 5 0)->cQ λz116=>z116<=eX .u32->z116=cf .and .u32 (((-1)*(af cT 4 0))+4294967295) (af cT 6 0)->cQ
 λz117=>z117<=eX .u32->z117=cf .xor .u32 lP z116->dT ((af cT 7 0)+(hP+(((-4294967296)*ix)+z117))) 4294967296 λ
 iI=>aa 39 [gR,0,79]/\mW λz119=>S 466 [[gR]] [[z119]]->dT ((af cT 7 0)+(hP+(((-4294967296)*ix)+(z117+(((-4294967296)*
 iI)+z119))))) 4294967296 λmh=>dT ((af cT 7 0)+(gS+(hP+(((-4294967296)*ix)+(z117+(((-4294967296)*iI)+(z119+
 ((-4294967296)*mh)))))))) 4294967296 λm2=>mW λm3=>S 444 [[(af cT 0 0)]] [[m3]]->cQ λrP=>rP<=eX .u32->rP=
 cf .and .u32 (af cT 0 0) (af cT 1 0)->cQ λz124=>z124<=eX .u32->z124=cf .and .u32 (af cT 0 0) (af cT
 2 0)->cQ λrQ=>rQ<=eX .u32->rQ=cf .xor .u32 rP z124->cQ λrR=>rR<=eX .u32->rR=cf .and .u32 (af
 cT 1 0) (af cT 2 0)->cQ λz127=>z127<=eX .u32->z127=cf .xor .u32 rQ rR->dT (m3+z127) 4294967296 λpT=>ea λ
 pU=>0<=((af cT 3 0)+((af cT 7 0)+(gS+(hP+(((-4294967296)*ix)+(z117+(((-4294967296)*iI)+(z119+(((-4294967296)*
 mh)+((-4294967296)*m2))))))))))-4294967296*pU->((af cT 3 0)+((af cT 7 0)+(gS+(hP+(((-4294967296)*ix)+(z117+
 (((-4294967296)*iI)+(z119+(((-4294967296)*mh)+((-4294967296)*m2))))))))))-4294967296*pU<4294967296->ea λz130=>0<=((af
 cT 7 0)+(gS+(hP+(((-4294967296)*ix)+(z117+(((-4294967296)*iI)+(z119+(((-4294967296)*mh)+(((-4294967296)*m2)+(m3+(z127
 +((-4294967296)*pT))))))))))))-4294967296*z130->((af cT 7 0)+(gS+(hP+(((-4294967296)*ix)+(z117+(((-4294967296)*iI)+
 (z119+(((-4294967296)*mh)+(((-4294967296)*m2)+(m3+(z127+((-4294967296)*pT))))))))))))-4294967296*z130<4294967296->dT (gR+
 9223372036854775809) 18446744073709551616 λz131=>aa 39 [((gR+((-18446744073709551616)*z131))+1),0,9223372036854775807]/\(K2 [[((af cT
 7 0)+(gS+(hP+(((-4294967296)*ix)+(z117+(((-4294967296)*iI)+(z119+(((-4294967296)*mh)+(((-4294967296)*m2)+(m3+(z127+
 (((-4294967296)*pT)+((-4294967296)*z130))))))))))))),(af cT 0 0),(af cT 1 0),(af cT 2 0),((af cT 3 0)+((af
 cT 7 0)+(gS+(hP+(((-4294967296)*ix)+(z117+(((-4294967296)*iI)+(z119+(((-4294967296)*mh)+(((-4294967296)*m2)+
 ((-4294967296)*pU))))))))))),(af cT 4 0),(af cT 5 0),(af cT 6 0)],[((gR+((-18446744073709551616)*z131))+1)]]/\aaH
 [[((af cT 7 0)+(gS+(hP+(((-4294967296)*ix)+(z117+(((-4294967296)*iI)+(z119+(((-4294967296)*mh)+(((-4294967296)*m2)+
 (m3+(z127+(((-4294967296)*pT)+((-4294967296)*z130))))))))))))),(af cT 0 0),(af cT 1 0),(af cT 2 0),((af cT 3 0)
 +((af cT 7 0)+(gS+(hP+(((-4294967296)*ix)+(z117+(((-4294967296)*iI)+(z119+(((-4294967296)*mh)+(((-4294967296)*m2)+
 ((-4294967296)*pU))))))))))),(af cT 4 0),(af cT 5 0),(af cT 6 0)],[((gR+((-18446744073709551616)*z131))+1)]]<aaH
 [cT,[gR]])) (dT ((af bb 0 0)+(af cT 0 0)) 4294967296 λgS=>dT ((af bb 1 0)+(af cT 1 0)) 4294967296 λhP=>dT
 ((af bb 2 0)+(af cT 2 0)) 4294967296 λix=>dT ((af bb 3 0)+(af cT 3 0)) 4294967296 λlP=>dT ((af bb 4 0)+
 (af cT 4 0)) 4294967296 λz116=>dT ((af bb 5 0)+(af cT 5 0)) 4294967296 λz117=>dT ((af bb 6 0)+(af cT 6 0))
 4294967296 λiI=>dT ((af bb 7 0)+(af cT 7 0)) 4294967296 λz119=>(lT [[((af bb 0 0)+((af cT 0 0)+((-4294967296)*
 gS))),((af bb 1 0)+((af cT 1 0)+((-4294967296)*hP))),((af bb 2 0)+((af cT 2 0)+((-4294967296)*ix))),((af
 bb 3 0)+((af cT 3 0)+((-4294967296)*lP))),((af bb 4 0)+((af cT 4 0)+((-4294967296)*z116))),((af bb 5 0)+
 ((af cT 5 0)+((-4294967296)*z117))),((af bb 6 0)+((af cT 6 0)+((-4294967296)*iI))),((af bb 7 0)+((af cT 7
 0)+((-4294967296)*z119)))],[(ag+1)]]/\nf [[((af bb 0 0)+((af cT 0 0)+((-4294967296)*gS))),((af bb 1 0)+((af cT
 1 0)+((-4294967296)*hP))),((af bb 2 0)+((af cT 2 0)+((-4294967296)*ix))),((af bb 3 0)+((af cT 3 0)+
 ((-4294967296)*lP))),((af bb 4 0)+((af cT 4 0)+((-4294967296)*z116))),((af bb 5 0)+((af cT 5 0)+((-4294967296)*
 z117))),((af bb 6 0)+((af cT 6 0)+((-4294967296)*iI))),((af bb 7 0)+((af cT 7 0)+((-4294967296)*z119)))],[(ag+
 1)]]<nf [bb,[ag]])))))))) (∃(o5:List (List Int)->Prop) (qR:List (List Int)->Nat),o5 [[3],[0],[0],[(-1)]]/\(eW (-1) 3 λaI=>cX λaT=>fB
 λbE=>bY λbr=>o5 [[aI],[aT],[bE],[br]]->(aD (decide (0<=aI)) (mW λbH=>bH=(af bb 0 0)/2^((8*aI)).toNat->cc 0 16777215
 bH 256 λz20=>aa 31 [aT,bE]/\aa 23 [aT,1]/\aH 23 [aT,(bH+((-256)*z20))] λz21=>bY λz22=>(o5 [[(aI+(-1))],[z21],[(bE+
 1)],[z22]]/\qR [[(aI+(-1))],[z21],[(bE+1)],[z22]]<qR [[aI],[aT],[bE],[br]])) (∃(xk:List (List Int)->Prop) (Gn:List (List Int)->
 Nat),xk [[3],[aT],[bE],[br]]/\(eW (-1) 3 λz20=>cX λz21=>fB λz22=>bY λdg=>xk [[z20],[z21],[z22],[dg]]->(aD (decide (0<=z20)) (mW
 λz24=>z24=(af bb 1 0)/2^((8*z20)).toNat->cc 0 16777215 z24 256 λcK=>aa 31 [z21,z22]/\aa 23 [z21,1]/\aH 23 [z21,(z24+
 ((-256)*cK))] λz26=>bY λdM=>(xk [[(z20+(-1))],[z26],[(z22+1)],[dM]]/\Gn [[(z20+(-1))],[z26],[(z22+1)],[dM]]<Gn
 [[z20],[z21],[z22],[dg]])) (∃(xl:List (List Int)->Prop) (Gp:List (List Int)->Nat),xl [[3],[z21],[z22],[dg]]/\(eW (-1) 3 λcK=>cX λz26=>
 fB λdM=>bY λz28=>xl [[cK],[z26],[dM],[z28]]->(aD (decide (0<=cK)) (mW λfj=>fj=(af bb 2 0)/2^((8*cK)).toNat->cc 0
 16777215 fj 256 λee=>aa 31 [z26,dM]/\aa 23 [z26,1]/\aH 23 [z26,(fj+((-256)*ee))] λz31=>bY λdh=>(xl [[(cK+(-1))],[z31],[(dM
 +1)],[dh]]/\Gp [[(cK+(-1))],[z31],[(dM+1)],[dh]]<Gp [[cK],[z26],[dM],[z28]])) (∃(xm:List (List Int)->Prop) (Gq:List (List Int)->
 Nat),xm [[3],[z26],[dM],[z28]]/\(eW (-1) 3 λee=>cX λz31=>fB λdh=>bY λdN=>xm [[ee],[z31],[dh],[dN]]->(aD (decide (0<=ee)) (mW
 λdX=>dX=(af bb 3 0)/2^((8*ee)).toNat->cc 0 16777215 dX 256 λdu=>aa 31 [z31,dh]/\aa 23 [z31,1]/\aH 23 [z31,(dX+
 ((-256)*du))] λcY=>bY λz37=>(xm [[(ee+(-1))],[cY],[(dh+1)],[z37]]/\Gq [[(ee+(-1))],[cY],[(dh+1)],[z37]]<Gq
 [[ee],[z31],[dh],[dN]])) (∃(xn:List (List Int)->Prop) (Gr:List (List Int)->Nat),xn [[3],[z31],[dh],[dN]]/\(eW (-1) 3 λdu=>cX λcY=>
 fB λz37=>bY λcZ=>xn [[du],[cY],[z37],[cZ]]->(aD (decide (0<=du)) (mW λej=>ej=(af bb 4 0)/2^((8*du)).toNat->cc 0
 16777215 ej 256 λz40=>aa 31 [cY,z37]/\aa 23 [cY,1]/\aH 23 [cY,(ej+((-256)*z40))] λdB=>bY λc0=>(xn [[(du+(-1))],[dB],[(z37
 +1)],[c0]]/\Gr [[(du+(-1))],[dB],[(z37+1)],[c0]]<Gr [[du],[cY],[z37],[cZ]])) (∃(xo:List (List Int)->Prop) (Gs:List (List Int)->
 Nat),xo [[3],[cY],[z37],[cZ]]/\(eW (-1) 3 λz40=>cX λdB=>fB λc0=>bY λda=>xo [[z40],[dB],[c0],[da]]->(aD (decide (0<=z40)) (mW
 λa8=>a8=(af bb 5 0)/2^((8*z40)).toNat->cc 0 16777215 a8 256 λbL=>aa 31 [dB,c0]/\aa 23 [dB,1]/\aH 23 [dB,(a8+
 ((-256)*bL))] λz46=>bY λdi=>(xo [[(z40+(-1))],[z46],[(c0+1)],[di]]/\Gs [[(z40+(-1))],[z46],[(c0+1)],[di]]<Gs
 [[z40],[dB],[c0],[da]])) (∃(xp:List (List Int)->Prop) (Gt:List (List Int)->Nat),xp [[3],[dB],[c0],[da]]/\(eW (-1) 3 λbL=>cX λz46=>
 fB λdi=>bY λfU=>xp [[bL],[z46],[di],[fU]]->(aD (decide (0<=bL)) (mW λz49=>z49=(af bb 6 0)/2^((8*bL)).toNat->cc 0
 16777215 z49 256 λfe=>aa 31 [z46,di]/\aa 23 [z46,1]/\aH 23 [z46,(z49+((-256)*fe))] λz51=>bY λeP=>(xp [[(bL+(-1))],[z51],[(di
 +1)],[eP]]/\Gt [[(bL+(-1))],[z51],[(di+1)],[eP]]<Gt [[bL],[z46],[di],[fU]])) (∃(xq:List (List Int)->Prop) (Gu:List (List Int)->
 Nat),xq [[3],[z46],[di],[fU]]/\(eW (-1) 3 λfe=>cX λz51=>fB λeP=>bY λz53=>xq [[fe],[z51],[eP],[z53]]->(aD (decide (0<=fe)) (mW
 λfG=>fG=(af bb 7 0)/2^((8*fe)).toNat->cc 0 16777215 fG 256 λeJ=>aa 31 [z51,eP]/\aa 23 [z51,1]/\aH 23 [z51,(fG+
 ((-256)*eJ))] λeF=>bY λek=>(xq [[(fe+(-1))],[eF],[(eP+1)],[ek]]/\Gu [[(fe+(-1))],[eF],[(eP+1)],[ek]]<Gu
 [[fe],[z51],[eP],[z53]])) (aa 22 [z51,0,eP]/\aH 22 [z51,0,eP] λfG=>K [[z0]] [[fG]]))))))))))))))))))))))))))))
theorem IW {L S M k:Int} (h:L=S-M*k) (h1:0<=L) (h2:L<M):L=S% M:=by
 have e:S=L+M*k:=by omega
 rw[e,Int.add_mul_emod_self_left,Int.emod_eq_of_lt h1 h2]
theorem auR (f:Int->Int->Int) {r t:List Int} (h:r.length=8) (h':t.length=8):oD f r t=[f (r.getD 0 0) (t.getD 0 0),f (r.getD 1 0) (t.getD 1 0),f (r.getD 2 0) (t.getD 2 0),f (r.getD 3 0) (t.getD 3 0),f (r.getD 4 0) (t.getD 4 0),f (r.getD 5 0) (t.getD 5 0),f (r.getD 6 0) (t.getD 6 0),f (r.getD 7 0) (t.getD 7 0)]:=by
 match r,t,h,h' with
 |[_,_,_,_,_,_,_,_],[_,_,_,_,_,_,_,_],_,_=>rfl
theorem aqA (i:Nat) (x:Int) {r:List Int} (hr:r.length=8):s5 cB i x r=(let t:=md cB (r.getD 7 0+tE cB (r.getD 4 0)+xB cB (r.getD 4 0) (r.getD 5 0) (r.getD 6 0)+zd cB i+x);let u:=md cB (tD cB (r.getD 0 0)+E6 cB (r.getD 0 0) (r.getD 1 0) (r.getD 2 0));[md cB (t+u),r.getD 0 0,r.getD 1 0,r.getD 2 0,md cB (r.getD 3 0+t),r.getD 4 0,r.getD 5 0,r.getD 6 0]):=by
 match r,hr with
 |[_,_,_,_,_,_,_,_],_=>rfl
theorem Bu (x:Int):md cB x=x% 4294967296:=by
 show x% (2:Int)^32=_
 rw[show(2:Int)^32=4294967296 by decide]
theorem acJ:p6 cB=[1779033703,3144134277,1013904242,2773480762,1359893119,2600822924,528734635,1541459225]:=by decide+kernel
set_option maxHeartbeats 4000000 in
theorem an4:Sa SB (eL SB [wE] 464):=by
 intro z0 a0 a1 hp ah b0 z2 bT c1 z3 d0 d1 h3
 have hp:64∣(ab z0).length/\(ab z0).length<=1000001000:=hp
 have h3:z3=((ab z0).length:Int):=h3
 obtain⟨⟨q,hq⟩,vV⟩:=hp
 have hbl:(ck z0).length=64*q:=by rw[sg,hq]
 have DQ:z3=64*(q:Int):=by rw[h3,hq];simp
 refine⟨⟨(q:Int),DQ⟩,λl=>∃(i:Nat),i<=q/\l=[xy cB (ck z0) i (p6 cB),[(i:Int)]],λl=>((q:Int)-(l.getD 1 []).getD 0 0).toNat,⟨0,mr _,by
  show _=[p6 cB,[(0:Int)]]
  rw[acJ]⟩,?_⟩
 intro bb Ol ag bC e1 ⟨i,hi,hI⟩
 simp only[hS,and_true]at hI
 obtain⟨vM,agC⟩:=hI
 obtain⟨uB,mC⟩:=ET 8 bb Ol
 have yd:((ab z0).length:Int)=64*(q:Int):=by rw[<-h3,DQ]
 refine⟨λh=>?_,λh=>?_⟩
 ·have h:=of_decide_eq_true h
  have El:i<q:=by omega
  have au:∀k:Int,0<=k->k<64->aa 21 [z0,64*ag+k]:=λk h1 h2=>⟨by omega,by rw[yd];omega⟩
  have LG:aa 21 [z0,64*ag]:=⟨by omega,by rw[yd];omega⟩
  refine⟨LG,?_⟩
  intro ak f0 g0 t0
  refine⟨au 1 (by decide) (by decide),?_⟩
  intro aI f1 g1 t1
  refine⟨au 2 (by decide) (by decide),?_⟩
  intro aT f2 g2 t2
  refine⟨au 3 (by decide) (by decide),?_⟩
  intro bE f3 g3 t3
  refine⟨au 4 (by decide) (by decide),?_⟩
  intro br f4 g4 t4
  refine⟨au 5 (by decide) (by decide),?_⟩
  intro bH f5 g5 t5
  refine⟨au 6 (by decide) (by decide),?_⟩
  intro z20 f6 g6 t6
  refine⟨au 7 (by decide) (by decide),?_⟩
  intro z21 f7 g7 t7
  refine⟨au 8 (by decide) (by decide),?_⟩
  intro z22 f8 g8 t8
  refine⟨au 9 (by decide) (by decide),?_⟩
  intro dg f9 g9 t9
  refine⟨au 10 (by decide) (by decide),?_⟩
  intro z24 f10 g10 t10
  refine⟨au 11 (by decide) (by decide),?_⟩
  intro cK f11 g11 t11
  refine⟨au 12 (by decide) (by decide),?_⟩
  intro z26 f12 g12 t12
  refine⟨au 13 (by decide) (by decide),?_⟩
  intro dM f13 g13 t13
  refine⟨au 14 (by decide) (by decide),?_⟩
  intro z28 f14 g14 t14
  refine⟨au 15 (by decide) (by decide),?_⟩
  intro fj f15 g15 t15
  refine⟨au 16 (by decide) (by decide),?_⟩
  intro ee f16 g16 t16
  refine⟨au 17 (by decide) (by decide),?_⟩
  intro z31 f17 g17 t17
  refine⟨au 18 (by decide) (by decide),?_⟩
  intro dh f18 g18 t18
  refine⟨au 19 (by decide) (by decide),?_⟩
  intro dN f19 g19 t19
  refine⟨au 20 (by decide) (by decide),?_⟩
  intro dX f20 g20 t20
  refine⟨au 21 (by decide) (by decide),?_⟩
  intro du f21 g21 t21
  refine⟨au 22 (by decide) (by decide),?_⟩
  intro cY f22 g22 t22
  refine⟨au 23 (by decide) (by decide),?_⟩
  intro z37 f23 g23 t23
  refine⟨au 24 (by decide) (by decide),?_⟩
  intro cZ f24 g24 t24
  refine⟨au 25 (by decide) (by decide),?_⟩
  intro ej f25 aeD t25
  refine⟨au 26 (by decide) (by decide),?_⟩
  intro z40 f26 aeE t26
  refine⟨au 27 (by decide) (by decide),?_⟩
  intro dB f27 aeF t27
  refine⟨au 28 (by decide) (by decide),?_⟩
  intro c0 f28 aeG t28
  refine⟨au 29 (by decide) (by decide),?_⟩
  intro da f29 aeH t29
  refine⟨au 30 (by decide) (by decide),?_⟩
  intro a8 f30 aeL t30
  refine⟨au 31 (by decide) (by decide),?_⟩
  intro bL f31 aeM t31
  refine⟨au 32 (by decide) (by decide),?_⟩
  intro z46 f32 aeN t32
  refine⟨au 33 (by decide) (by decide),?_⟩
  intro di f33 aeO t33
  refine⟨au 34 (by decide) (by decide),?_⟩
  intro fU f34 aeP t34
  refine⟨au 35 (by decide) (by decide),?_⟩
  intro z49 f35 aeQ t35
  refine⟨au 36 (by decide) (by decide),?_⟩
  intro fe f36 aeR t36
  refine⟨au 37 (by decide) (by decide),?_⟩
  intro z51 f37 aeS t37
  refine⟨au 38 (by decide) (by decide),?_⟩
  intro eP f38 aeT t38
  refine⟨au 39 (by decide) (by decide),?_⟩
  intro z53 f39 aeU t39
  refine⟨au 40 (by decide) (by decide),?_⟩
  intro fG f40 aeX t40
  refine⟨au 41 (by decide) (by decide),?_⟩
  intro eJ f41 aeY t41
  refine⟨au 42 (by decide) (by decide),?_⟩
  intro eF f42 aeZ t42
  refine⟨au 43 (by decide) (by decide),?_⟩
  intro ek f43 ae0 t43
  refine⟨au 44 (by decide) (by decide),?_⟩
  intro eG f44 ae1 t44
  refine⟨au 45 (by decide) (by decide),?_⟩
  intro z59 f45 ae2 t45
  refine⟨au 46 (by decide) (by decide),?_⟩
  intro gm f46 ae3 t46
  refine⟨au 47 (by decide) (by decide),?_⟩
  intro kx f47 ae4 t47
  refine⟨au 48 (by decide) (by decide),?_⟩
  intro ky f48 ae5 t48
  refine⟨au 49 (by decide) (by decide),?_⟩
  intro iV f49 ae6 t49
  refine⟨au 50 (by decide) (by decide),?_⟩
  intro mj f50 ae9 t50
  refine⟨au 51 (by decide) (by decide),?_⟩
  intro jq f51 afa t51
  refine⟨au 52 (by decide) (by decide),?_⟩
  intro jJ f52 afb t52
  refine⟨au 53 (by decide) (by decide),?_⟩
  intro jK f53 afc t53
  refine⟨au 54 (by decide) (by decide),?_⟩
  intro ml f54 afd t54
  refine⟨au 55 (by decide) (by decide),?_⟩
  intro mm f55 afe t55
  refine⟨au 56 (by decide) (by decide),?_⟩
  intro z70 f56 aff t56
  refine⟨au 57 (by decide) (by decide),?_⟩
  intro mn f57 afg t57
  refine⟨au 58 (by decide) (by decide),?_⟩
  intro z72 f58 afh t58
  refine⟨au 59 (by decide) (by decide),?_⟩
  intro gx f59 afi t59
  refine⟨au 60 (by decide) (by decide),?_⟩
  intro mo f60 afl t60
  refine⟨au 61 (by decide) (by decide),?_⟩
  intro z75 f61 afm t61
  refine⟨au 62 (by decide) (by decide),?_⟩
  intro z76 f62 afn t62
  refine⟨au 63 (by decide) (by decide),?_⟩
  intro kz f63 afo t63
  obtain⟨bl,ps⟩:∃l,((ck z0).drop (64*i)).take 64=l:=⟨_,rfl⟩
  have Lz:bl.length=64:=by rw[<-ps,mw,rV,hbl];omega
  have aF:∀(k:Nat) (y z:Int),k<64->y=(k:Int)->z=aB 21 [z0,64*ag+y,0]->z=bl.getD k 0:=λk y z hk hy hz=>by
   rw[bP hz,<-ps,Uv _ _ _ _ hk]
   congr 1;omega
  have hB:[ak,aI,aT,bE,br,bH,z20,z21,z22,dg,z24,cK,z26,dM,z28,fj,ee,z31,dh,dN,dX,du,cY,z37,cZ,ej,z40,dB,c0,da,a8,bL,z46,di,fU,z49,fe,z51,eP,z53,fG,eJ,eF,ek,eG,z59,gm,kx,ky,iV,mj,jq,jJ,jK,ml,mm,z70,mn,z72,gx,mo,z75,z76,kz]=bl:=by
   rw[aF 0 0 ak (by decide) rfl (by rw[Int.add_zero];exact t0),aF 1 1 aI (by decide) rfl t1,aF 2 2 aT (by decide) rfl t2,aF 3 3 bE (by decide) rfl t3,aF 4 4 br (by decide) rfl t4,aF 5 5 bH (by decide) rfl t5,aF 6 6 z20 (by decide) rfl t6,aF 7 7 z21 (by decide) rfl t7,aF 8 8 z22 (by decide) rfl t8,aF 9 9 dg (by decide) rfl t9,aF 10 10 z24 (by decide) rfl t10,aF 11 11 cK (by decide) rfl t11,aF 12 12 z26 (by decide) rfl t12,aF 13 13 dM (by decide) rfl t13,aF 14 14 z28 (by decide) rfl t14,aF 15 15 fj (by decide) rfl t15,aF 16 16 ee (by decide) rfl t16,aF 17 17 z31 (by decide) rfl t17,aF 18 18 dh (by decide) rfl t18,aF 19 19 dN (by decide) rfl t19,aF 20 20 dX (by decide) rfl t20,aF 21 21 du (by decide) rfl t21,aF 22 22 cY (by decide) rfl t22,aF 23 23 z37 (by decide) rfl t23,aF 24 24 cZ (by decide) rfl t24,aF 25 25 ej (by decide) rfl t25,aF 26 26 z40 (by decide) rfl t26,aF 27 27 dB (by decide) rfl t27,aF 28 28 c0 (by decide) rfl t28,aF 29 29 da (by decide) rfl t29,aF 30 30 a8 (by decide) rfl t30,aF 31 31 bL (by decide) rfl t31,aF 32 32 z46 (by decide) rfl t32,aF 33 33 di (by decide) rfl t33,aF 34 34 fU (by decide) rfl t34,aF 35 35 z49 (by decide) rfl t35,aF 36 36 fe (by decide) rfl t36,aF 37 37 z51 (by decide) rfl t37,aF 38 38 eP (by decide) rfl t38,aF 39 39 z53 (by decide) rfl t39,aF 40 40 fG (by decide) rfl t40,aF 41 41 eJ (by decide) rfl t41,aF 42 42 eF (by decide) rfl t42,aF 43 43 ek (by decide) rfl t43,aF 44 44 eG (by decide) rfl t44,aF 45 45 z59 (by decide) rfl t45,aF 46 46 gm (by decide) rfl t46,aF 47 47 kx (by decide) rfl t47,aF 48 48 ky (by decide) rfl t48,aF 49 49 iV (by decide) rfl t49,aF 50 50 mj (by decide) rfl t50,aF 51 51 jq (by decide) rfl t51,aF 52 52 jJ (by decide) rfl t52,aF 53 53 jK (by decide) rfl t53,aF 54 54 ml (by decide) rfl t54,aF 55 55 mm (by decide) rfl t55,aF 56 56 z70 (by decide) rfl t56,aF 57 57 mn (by decide) rfl t57,aF 58 58 z72 (by decide) rfl t58,aF 59 59 gx (by decide) rfl t59,aF 60 60 mo (by decide) rfl t60,aF 61 61 z75 (by decide) rfl t61,aF 62 62 z76 (by decide) rfl t62,aF 63 63 kz (by decide) rfl t63]
   exact(DG bl 64 Lz).symm
  have mI:uX cB bl=[((16777216*ak)+((65536*aI)+((256*aT)+bE))),((16777216*br)+((65536*bH)+((256*z20)+z21))),((16777216*z22)+((65536*dg)+((256*z24)+cK))),((16777216*z26)+((65536*dM)+((256*z28)+fj))),((16777216*ee)+((65536*z31)+((256*dh)+dN))),((16777216*dX)+((65536*du)+((256*cY)+z37))),((16777216*cZ)+((65536*ej)+((256*z40)+dB))),((16777216*c0)+((65536*da)+((256*a8)+bL))),((16777216*z46)+((65536*di)+((256*fU)+z49))),((16777216*fe)+((65536*z51)+((256*eP)+z53))),((16777216*fG)+((65536*eJ)+((256*eF)+ek))),((16777216*eG)+((65536*z59)+((256*gm)+kx))),((16777216*ky)+((65536*iV)+((256*mj)+jq))),((16777216*jJ)+((65536*jK)+((256*ml)+mm))),((16777216*z70)+((65536*mn)+((256*z72)+gx))),((16777216*mo)+((65536*z75)+((256*z76)+kz)))]:=by
   rw[<-hB]
   show [((((0*256+ak)*256+aI)*256+aT)*256+bE),((((0*256+br)*256+bH)*256+z20)*256+z21),((((0*256+z22)*256+dg)*256+z24)*256+cK),((((0*256+z26)*256+dM)*256+z28)*256+fj),((((0*256+ee)*256+z31)*256+dh)*256+dN),((((0*256+dX)*256+du)*256+cY)*256+z37),((((0*256+cZ)*256+ej)*256+z40)*256+dB),((((0*256+c0)*256+da)*256+a8)*256+bL),((((0*256+z46)*256+di)*256+fU)*256+z49),((((0*256+fe)*256+z51)*256+eP)*256+z53),((((0*256+fG)*256+eJ)*256+eF)*256+ek),((((0*256+eG)*256+z59)*256+gm)*256+kx),((((0*256+ky)*256+iV)*256+mj)*256+jq),((((0*256+jJ)*256+jK)*256+ml)*256+mm),((((0*256+z70)*256+mn)*256+z72)*256+gx),((((0*256+mo)*256+z75)*256+z76)*256+kz)]=_
   simp only[hS,and_true]
   refine⟨by omega,by omega,by omega,by omega,by omega,by omega,by omega,by omega,by omega,by omega,by omega,by omega,by omega,by omega,by omega,by omega⟩
  obtain⟨ws,yo⟩:∃l,uX cB bl=l:=⟨_,rfl⟩
  intro m4 x0 jH u0 m5 x1 jn oB m6 x2 qz rO qA gP zq s7 qB gw Cd FO qC gD Ce QU qD gQ Cf QV z85 kt Cg QW qE ku Ch u8 z87 kv Ci QY qF k6 Ca QO qG fi zp QP qH gC Cb QQ z91 j2 Cc QR qI wX FR QS z93 wY FT QT
  have v0:=ft (l:=[]) u0 fD
  have v1:=ft oB v0
  have v2:=ft rO v1
  have v3:=ft s7 v2
  have v4:=ft FO v3
  have v5:=ft QU v4
  have v6:=ft QV v5
  have Q4:=ft QW v6
  have Q5:=ft u8 Q4
  have v9:=ft QY Q5
  have v10:=ft QO v9
  have v11:=ft QP v10
  have v12:=ft QQ v11
  have Q1:=ft QR v12
  have Q2:=ft QS Q1
  have Q3:=ft QT Q2
  have hr:ab z93=rws ws:=by
   rw[<-yo,mI];exact Q3
  have wl:ws.length=16:=by rw[<-yo];simp[uX]
  refine⟨by show(ab z93).length<=1000000;rw[hr,ma,wl];decide,?_⟩
  intro m7 i0 i1 fO pV jD k1 pW m0 iG n0
  have fO:ab m7=ab z93:=fO
  rw[hr]at fO
  have n0:pW=((ab m7).length:Int):=n0
  rw[fO,ma,wl]at n0
  refine⟨λl=>∃(j:Nat) (c k:Int),j<=48/\l=[[((16+j:Nat):Int)],[c],[((16+j:Nat):Int)],[k]]/\ab c=rws (qb cB j ws),λl=>(64-(l.getD 0 []).getD 0 0).toNat,⟨0,m7,pV,mr _,by rw[n0];rfl,fO⟩,?_⟩
  intro fH BA o1 hQ p0 p1 jo kp bo pR aV r1 ⟨j,c,bA,hj,hl,hc⟩
  simp only[hS,and_true]at hl
  obtain⟨py,hl2,Es,aiB⟩:=hl
  subst hl2
  obtain⟨ba,iP⟩:∃l,qb cB j ws=l:=⟨_,rfl⟩
  rw[iP]at hc
  have E8:ba.length=16+j:=by rw[<-iP,Mo,wl]
  have q1:((ab hQ).length:Int)=16+(j:Int):=by rw[hc,ma,E8];omega
  refine⟨λhlt=>?_,λfa=>?_⟩
  ·have hlt:=of_decide_eq_true hlt
   refine⟨⟨by omega,by omega⟩,⟨by omega,by rw[q1];omega⟩,λnN iw s1 s2=>⟨⟨by omega,by omega⟩,⟨by omega,by rw[q1];omega⟩,λpS ard arh QH mg ars art uV z105 atl atm atn ato=>⟨⟨by omega,by omega⟩,⟨by omega,by rw[q1];omega⟩,λlO w0 w1 w2 z107 aud aue atC atD=>⟨⟨by omega,by omega⟩,⟨by omega,by rw[q1];omega⟩,λta auL auM Rd z109 C1 C2 nU tc Lv Lw qZ acG=>⟨by show jo=((ab hQ).length:Int);omega,by show((ab hQ).length:Int)+1<=1073741824;omega,λgR LN LO xA gS L4 L5=>?_⟩⟩⟩⟩⟩
   have uV:[[mg]]=[[zl cB pS]]:=uV
   have nU:[[z109]]=[[zm cB ta]]:=nU
   simp only[hS,and_true]at uV nU
   have e1:=ss s2 hc
   have e2:=ss QH hc
   have bt:=ss w2 hc
   have eS:=ss Rd hc
   have N8:nN+(mg+((-4294967296)*z105+(lO+((-4294967296)*z107+(z109+(-4294967296)*tc)))))=wB cB ba:=by
    unfold wB
    rw[Bu,E8,show 16+j-16=(fH+-16).toNat by omega,show 16+j-15=(fH+-15).toNat by omega,show 16+j-7=(fH+-7).toNat by omega,show 16+j-2=(fH+-2).toNat by omega,<-e1,<-e2,<-bt,<-eS,<-uV,<-nU]
    omega
   have gf:=ft xA hc
   rw[N8]at gf
   refine⟨⟨j+1,gR,gS,by omega,by rw[show fH+1=((16+(j+1):Nat):Int) by omega,show jo+1=((16+(j+1):Nat):Int) by omega],by rw[Mp,iP];exact gf⟩,?_⟩
   show(64-(fH+1)).toNat<(64-fH).toNat
   omega
  ·have fa:=of_decide_eq_false fa
   have NR:j=48:=by omega
   have Ou:sched cB ws=ba:=by rw[<-iP,NR];rfl
   refine⟨λl=>∃(t:Nat),t<=64/\l=[uP cB 0 (ba.take t) bb,[(t:Int)]],λl=>(64-(l.getD 1 []).getD 0 0).toNat,⟨0,mr _,rfl⟩,?_⟩
   intro eE Om gR iw s1 ⟨t,ht,hl⟩
   simp only[hS,and_true]at hl
   obtain⟨hv,ajN⟩:=hl
   obtain⟨uC,acx⟩:=ET 8 eE Om
   refine⟨λhlt=>?_,λEi=>?_⟩
   ·have hlt:=of_decide_eq_true hlt
    refine⟨⟨by omega,by omega⟩,⟨by omega,by rw[q1];omega⟩,?_⟩
    intro gS C1 C2 nU hP Lv Lw qZ ix LN LO xA LP lP L4 L5 L6 z116 aea aeb Mj z117 aeo aep Mr iI afq afr MG MH
    refine⟨⟨by omega,by omega⟩,?_⟩
    intro z119 Ej aij rj mh ajV ajW OP OQ m2 aj5 aj6 OX OY m3 akx aky uz rP alr als Pf z124 ame amf Pr rQ amo amp Pw rR anN anO PF z127 apk apl PS pT apv apw apx apy pU apW apX FE FF z130 aqx aqy Qz QA z131 arf ari arj ark
    have EI:t<64:=by omega
    have Mb:z131=0:=by omega
    have ex:=ss nU hc
    rw[show gR.toNat=t by omega]at ex
    have qZ:[[hP]]=[[tE cB (eE.getD 4 0)]]:=qZ
    have rj:[[z119]]=[[zd cB gR.toNat]]:=rj
    have uz:[[m3]]=[[tD cB (eE.getD 0 0)]]:=uz
    simp only[hS,and_true]at qZ rj uz
    rw[show gR.toNat=t by omega]at rj
    have je:z117=xB cB (eE.getD 4 0) (eE.getD 5 0) (eE.getD 6 0):=by
     rw[Mr,L6,Mj]
     unfold xB
     rw[show(2:Int)^cB.w-1-eE.getD 4 0=-1*eE.getD 4 0+4294967295 by rw[show(2:Int)^cB.w=4294967296 by decide];omega]
     rfl
    have N4:z127=E6 cB (eE.getD 0 0) (eE.getD 1 0) (eE.getD 2 0):=by
     rw[PS,Pw,Pr,Pf,PF];rfl
    obtain⟨A,hA⟩:∃A,eE.getD 0 0=A:=⟨_,rfl⟩
    obtain⟨D,hD⟩:∃A,eE.getD 3 0=A:=⟨_,rfl⟩
    obtain⟨H,DT⟩:∃A,eE.getD 7 0=A:=⟨_,rfl⟩
    rw[DT]at xA LP MG MH OP OQ OX OY FE FF Qz QA⊢
    rw[hD]at FE FF⊢
    have yl:=aqA t gS uC
    rw[DT,hD,<-qZ,<-je,<-rj,<-uz,<-N4]at yl
    have bn:md cB (H+hP+z117+z119+gS)=H+(gS+(hP+((-4294967296)*ix+(z117+((-4294967296)*iI+(z119+((-4294967296)*mh+(-4294967296)*m2))))))):=by
     rw[Bu];omega
    have M0:md cB (m3+z127)=m3+(z127+(-4294967296)*pT):=by
     rw[Bu];omega
    simp only[bn,M0]at yl
    refine⟨⟨by omega,by omega⟩,⟨t+1,by omega,?_⟩,?_⟩
    ·rw[Zu ba t (by omega),Qg,<-hv,show 0+(ba.take t).length=t by rw[mw];omega,<-ex,yl,Mb]
     simp only[hS,and_true]
     refine⟨⟨?_,trivial,trivial,trivial,?_⟩,?_⟩
     ·rw[Bu];exact IW (k:=z130) (by omega) (by omega) (by omega)
     ·rw[Bu];exact IW (k:=pU) (by omega) (by omega) (by omega)
     ·omega
    ·show(64-(gR+-18446744073709551616*z131+1)).toNat<(64-gR).toNat
     omega
   ·have Ei:=of_decide_eq_false Ei
    intro gS C1 abF abN abW hP C2 abG abO abX ix nU abH abP abY lP abA abI abQ abZ z116 abB abJ abR ab0 z117 abC abK abS ab1 iI abD abL abT ab2 z119 abE abM abU ab3
    have EI:t=64:=by omega
    have Ny:ba.take t=ba:=mq (by omega)
    rw[Ny]at hv
    have l3:uT cB bb ws=[bb.getD 0 0+(eE.getD 0 0+(-4294967296)*gS),bb.getD 1 0+(eE.getD 1 0+(-4294967296)*hP),bb.getD 2 0+(eE.getD 2 0+(-4294967296)*ix),bb.getD 3 0+(eE.getD 3 0+(-4294967296)*lP),bb.getD 4 0+(eE.getD 4 0+(-4294967296)*z116),bb.getD 5 0+(eE.getD 5 0+(-4294967296)*z117),bb.getD 6 0+(eE.getD 6 0+(-4294967296)*iI),bb.getD 7 0+(eE.getD 7 0+(-4294967296)*z119)]:=by
     unfold uT
     rw[Ou,<-hv,auR _ uB uC]
     simp only[Bu,hS,and_true]
     refine⟨by omega,by omega,by omega,by omega,by omega,by omega,by omega,by omega⟩
    refine⟨⟨i+1,by omega,?_⟩,?_⟩
    ·rw[<-l3,vM]
     show _=[uT cB (xy cB (ck z0) i (p6 cB)) (uX cB (((ck z0).drop (64*i)).take 64)),_]
     rw[ps,yo,show ag+1=((i+1:Nat):Int) by omega]
    ·show((q:Int)-(ag+1)).toNat<((q:Int)-ag).toNat
     omega
 ·have h:=of_decide_eq_false h
  have El:i=q:=by omega
  have hall:o9 cB (ck z0)=sQ cB bb:=by
   unfold o9
   rw[hbl,show 2*cB.w=64 from rfl,RC q (by decide),<-El,<-vM]
  have gI:sQ cB bb=((((((([]++(cA 4).map (kg cB (bb.getD 0 0)))++(cA 4).map (kg cB (bb.getD 1 0)))++(cA 4).map (kg cB (bb.getD 2 0)))++(cA 4).map (kg cB (bb.getD 3 0)))++(cA 4).map (kg cB (bb.getD 4 0)))++(cA 4).map (kg cB (bb.getD 5 0)))++(cA 4).map (kg cB (bb.getD 6 0)))++(cA 4).map (kg cB (bb.getD 7 0)):=by
   conv=>lhs;rw[Xy uB]
   rfl
  refine wS (pre:=[]) fD rfl (by simp) λac1 akG aj7 p0 p1 h0 Ma=>?_
  refine wS h0 (by rw[Ma];simp) (by simp) λac2 O2 aj8 bq cv h1 Ae=>?_
  refine wS h1 (by rw[Ae];simp) (by simp) λac5 O3 aj9 dI dJ h2 Dr=>?_
  refine wS h2 (by rw[Dr];simp) (by simp) λDe akI aka fv lF h3 Ds=>?_
  refine wS h3 (by rw[Ds];simp) (by simp) λac6 akJ akc rH PL h4 Mf=>?_
  refine wS h4 (by rw[Mf];simp) (by simp) λac7 akM akd PK anY h5 Dt=>?_
  refine wS h5 (by rw[Dt];simp) (by simp) λac8 akN ake anZ an0 h6 Du=>?_
  refine wS h6 (by rw[Du];simp) (by simp) λDf O4 akg an1 an2 h7 Mh=>?_
  have Et:ab Df=rws (sQ cB bb):=by rw[h7,gI]
  have Pe:O4=((ab Df).length:Int):=by rw[h7,ma,Mh];simp
  refine⟨⟨cn _,by omega,by omega⟩,λRy x0 x1 x2=>⟨⟨x0,x1,trivial⟩,?_⟩⟩
  have hf:=nJ x2 Pe
  show ck Ry=o9 cB (ck z0)
  rw[hall]
  exact Dc (by rw[hf,Et])
end Go.cd
namespace Go.cd
open Go Go.bg
def Sb (S:Nat->List (List Int)->List (List Int)->Prop) (K:List (List Int)->List (List Int)->Prop):Prop:=
 cX λz0=>(aa 73 [z0]->cQ λah=>bY λz2=>bF 20 [z0] λz3=>aa 70 [z3,128]/\∃(lT:List (List Int)->Prop) (nf:List (List Int)->
 Nat),lT
 [[7640891576956012808,13503953896175478587,4354685564936845355,11912009170470909681,5840696475078001361,11170449401992604703,2270897969802886507,6620516959819538809],[0]]
 /\(∀bb:List Int,aO (c7 0 18446744073709551615 8) bb->fB λag=>lT [bb,[ag]]->(aD (decide ((128*ag)<z3)) (aa 21 [z0,(128*ag)]/\ao 21
 [z0,(128*ag),0] λak=>aa 21 [z0,((128*ag)+1)]/\ao 21 [z0,((128*ag)+1),0] λaI=>aa 21 [z0,((128*ag)+2)]/\ao 21 [z0,((128*
 ag)+2),0] λaT=>aa 21 [z0,((128*ag)+3)]/\ao 21 [z0,((128*ag)+3),0] λbE=>aa 21 [z0,((128*ag)+4)]/\ao 21 [z0,((128*ag)+
 4),0] λbr=>aa 21 [z0,((128*ag)+5)]/\ao 21 [z0,((128*ag)+5),0] λbH=>aa 21 [z0,((128*ag)+6)]/\ao 21 [z0,((128*ag)+6),0]
 λz20=>aa 21 [z0,((128*ag)+7)]/\ao 21 [z0,((128*ag)+7),0] λz21=>aa 21 [z0,((128*ag)+8)]/\ao 21 [z0,((128*ag)+8),0] λz22
 =>aa 21 [z0,((128*ag)+9)]/\ao 21 [z0,((128*ag)+9),0] λdg=>aa 21 [z0,((128*ag)+10)]/\ao 21 [z0,((128*ag)+10),0] λz24=>
 aa 21 [z0,((128*ag)+11)]/\ao 21 [z0,((128*ag)+11),0] λcK=>aa 21 [z0,((128*ag)+12)]/\ao 21 [z0,((128*ag)+12),0] λz26=>
 aa 21 [z0,((128*ag)+13)]/\ao 21 [z0,((128*ag)+13),0] λdM=>aa 21 [z0,((128*ag)+14)]/\ao 21 [z0,((128*ag)+14),0] λz28=>
 aa 21 [z0,((128*ag)+15)]/\ao 21 [z0,((128*ag)+15),0] λfj=>aa 21 [z0,((128*ag)+16)]/\ao 21 [z0,((128*ag)+16),0] λee=>
 aa 21 [z0,((128*ag)+17)]/\ao 21 [z0,((128*ag)+17),0] λz31=>aa 21 [z0,((128*ag)+18)]/\ao 21 [z0,((128*ag)+18),0] λdh=>
 aa 21 [z0,((128*ag)+19)]/\ao 21 [z0,((128*ag)+19),0] λdN=>aa 21 [z0,((128*ag)+20)]/\ao 21 [z0,((128*ag)+20),0] λdX=>
 aa 21 [z0,((128*ag)+21)]/\ao 21 [z0,((128*ag)+21),0] λdu=>aa 21 [z0,((128*ag)+22)]/\ao 21 [z0,((128*ag)+22),0] λcY=>
 aa 21 [z0,((128*ag)+23)]/\ao 21 [z0,((128*ag)+23),0] λz37=>aa 21 [z0,((128*ag)+24)]/\ao 21 [z0,((128*ag)+24),0] λcZ=>
 aa 21 [z0,((128*ag)+25)]/\ao 21 [z0,((128*ag)+25),0] λej=>aa 21 [z0,((128*ag)+26)]/\ao 21 [z0,((128*ag)+26),0] λz40=>
 aa 21 [z0,((128*ag)+27)]/\ao 21 [z0,((128*ag)+27),0] λdB=>aa 21 [z0,((128*ag)+28)]/\ao 21 [z0,((128*ag)+28),0] λc0=>
 aa 21 [z0,((128*ag)+29)]/\ao 21 [z0,((128*ag)+29),0] λda=>aa 21 [z0,((128*ag)+30)]/\ao 21 [z0,((128*ag)+30),0] λa8=>
 aa 21 [z0,((128*ag)+31)]/\ao 21 [z0,((128*ag)+31),0] λbL=>aa 21 [z0,((128*ag)+32)]/\ao 21 [z0,((128*ag)+32),0] λz46=>
 aa 21 [z0,((128*ag)+33)]/\ao 21 [z0,((128*ag)+33),0] λdi=>aa 21 [z0,((128*ag)+34)]/\ao 21 [z0,((128*ag)+34),0] λfU=>
 aa 21 [z0,((128*ag)+35)]/\ao 21 [z0,((128*ag)+35),0] λz49=>aa 21 [z0,((128*ag)+36)]/\ao 21 [z0,((128*ag)+36),0] λfe=>
 aa 21 [z0,((128*ag)+37)]/\ao 21 [z0,((128*ag)+37),0] λz51=>aa 21 [z0,((128*ag)+38)]/\ao 21 [z0,((128*ag)+38),0] λeP=>
 aa 21 [z0,((128*ag)+39)]/\ao 21 [z0,((128*ag)+39),0] λz53=>aa 21 [z0,((128*ag)+40)]/\ao 21 [z0,((128*ag)+40),0] λfG=>
 aa 21 [z0,((128*ag)+41)]/\ao 21 [z0,((128*ag)+41),0] λeJ=>aa 21 [z0,((128*ag)+42)]/\ao 21 [z0,((128*ag)+42),0] λeF=>
 aa 21 [z0,((128*ag)+43)]/\ao 21 [z0,((128*ag)+43),0] λek=>aa 21 [z0,((128*ag)+44)]/\ao 21 [z0,((128*ag)+44),0] λeG=>
 aa 21 [z0,((128*ag)+45)]/\ao 21 [z0,((128*ag)+45),0] λz59=>aa 21 [z0,((128*ag)+46)]/\ao 21 [z0,((128*ag)+46),0] λgm=>
 aa 21 [z0,((128*ag)+47)]/\ao 21 [z0,((128*ag)+47),0] λkx=>aa 21 [z0,((128*ag)+48)]/\ao 21 [z0,((128*ag)+48),0] λky=>
 aa 21 [z0,((128*ag)+49)]/\ao 21 [z0,((128*ag)+49),0] λiV=>aa 21 [z0,((128*ag)+50)]/\ao 21 [z0,((128*ag)+50),0] λmj=>
 aa 21 [z0,((128*ag)+51)]/\ao 21 [z0,((128*ag)+51),0] λjq=>aa 21 [z0,((128*ag)+52)]/\ao 21 [z0,((128*ag)+52),0] λjJ=>
 aa 21 [z0,((128*ag)+53)]/\ao 21 [z0,((128*ag)+53),0] λjK=>aa 21 [z0,((128*ag)+54)]/\ao 21 [z0,((128*ag)+54),0] λml=>
 aa 21 [z0,((128*ag)+55)]/\ao 21 [z0,((128*ag)+55),0] λmm=>aa 21 [z0,((128*ag)+56)]/\ao 21 [z0,((128*ag)+56),0] λz70=>
 aa 21 [z0,((128*ag)+57)]/\ao 21 [z0,((128*ag)+57),0] λmn=>aa 21 [z0,((128*ag)+58)]/\ao 21 [z0,((128*ag)+58),0] λz72=>
 aa 21 [z0,((128*ag)+59)]/\ao 21 [z0,((128*ag)+59),0] λgx=>aa 21 [z0,((128*ag)+60)]/\ao 21 [z0,((128*ag)+60),0] λmo=>
 aa 21 [z0,((128*ag)+61)]/\ao 21 [z0,((128*ag)+61),0] λz75=>aa 21 [z0,((128*ag)+62)]/\ao 21 [z0,((128*ag)+62),0] λz76=>
 aa 21 [z0,((128*ag)+63)]/\ao 21 [z0,((128*ag)+63),0] λkz=>aa 21 [z0,((128*ag)+64)]/\ao 21 [z0,((128*ag)+64),0] λm4=>
 aa 21 [z0,((128*ag)+65)]/\ao 21 [z0,((128*ag)+65),0] λm5=>aa 21 [z0,((128*ag)+66)]/\ao 21 [z0,((128*ag)+66),0] λm6=>
 aa 21 [z0,((128*ag)+67)]/\ao 21 [z0,((128*ag)+67),0] λqA=>aa 21 [z0,((128*ag)+68)]/\ao 21 [z0,((128*ag)+68),0] λqB=>
 aa 21 [z0,((128*ag)+69)]/\ao 21 [z0,((128*ag)+69),0] λqC=>aa 21 [z0,((128*ag)+70)]/\ao 21 [z0,((128*ag)+70),0] λqD=>
 aa 21 [z0,((128*ag)+71)]/\ao 21 [z0,((128*ag)+71),0] λz85=>aa 21 [z0,((128*ag)+72)]/\ao 21 [z0,((128*ag)+72),0] λqE=>
 aa 21 [z0,((128*ag)+73)]/\ao 21 [z0,((128*ag)+73),0] λz87=>aa 21 [z0,((128*ag)+74)]/\ao 21 [z0,((128*ag)+74),0] λqF=>
 aa 21 [z0,((128*ag)+75)]/\ao 21 [z0,((128*ag)+75),0] λqG=>aa 21 [z0,((128*ag)+76)]/\ao 21 [z0,((128*ag)+76),0] λqH=>
 aa 21 [z0,((128*ag)+77)]/\ao 21 [z0,((128*ag)+77),0] λz91=>aa 21 [z0,((128*ag)+78)]/\ao 21 [z0,((128*ag)+78),0] λqI=>
 aa 21 [z0,((128*ag)+79)]/\ao 21 [z0,((128*ag)+79),0] λz93=>aa 21 [z0,((128*ag)+80)]/\ao 21 [z0,((128*ag)+80),0] λm7=>
 aa 21 [z0,((128*ag)+81)]/\ao 21 [z0,((128*ag)+81),0] λpV=>aa 21 [z0,((128*ag)+82)]/\ao 21 [z0,((128*ag)+82),0] λpW=>
 aa 21 [z0,((128*ag)+83)]/\ao 21 [z0,((128*ag)+83),0] λu1=>aa 21 [z0,((128*ag)+84)]/\ao 21 [z0,((128*ag)+84),0] λfH=>
 aa 21 [z0,((128*ag)+85)]/\ao 21 [z0,((128*ag)+85),0] λhQ=>aa 21 [z0,((128*ag)+86)]/\ao 21 [z0,((128*ag)+86),0] λjo=>
 aa 21 [z0,((128*ag)+87)]/\ao 21 [z0,((128*ag)+87),0] λpR=>aa 21 [z0,((128*ag)+88)]/\ao 21 [z0,((128*ag)+88),0] λnN=>
 aa 21 [z0,((128*ag)+89)]/\ao 21 [z0,((128*ag)+89),0] λpS=>aa 21 [z0,((128*ag)+90)]/\ao 21 [z0,((128*ag)+90),0] λmg=>
 aa 21 [z0,((128*ag)+91)]/\ao 21 [z0,((128*ag)+91),0] λz105=>aa 21 [z0,((128*ag)+92)]/\ao 21 [z0,((128*ag)+92),0] λlO=>
 aa 21 [z0,((128*ag)+93)]/\ao 21 [z0,((128*ag)+93),0] λz107=>aa 21 [z0,((128*ag)+94)]/\ao 21 [z0,((128*ag)+94),0] λta=>
 aa 21 [z0,((128*ag)+95)]/\ao 21 [z0,((128*ag)+95),0] λz109=>aa 21 [z0,((128*ag)+96)]/\ao 21 [z0,((128*ag)+96),0] λtc=>
 aa 21 [z0,((128*ag)+97)]/\ao 21 [z0,((128*ag)+97),0] λgR=>aa 21 [z0,((128*ag)+98)]/\ao 21 [z0,((128*ag)+98),0] λgS=>
 aa 21 [z0,((128*ag)+99)]/\ao 21 [z0,((128*ag)+99),0] λhP=>aa 21 [z0,((128*ag)+100)]/\ao 21 [z0,((128*ag)+100),0] λix=>
 aa 21 [z0,((128*ag)+101)]/\ao 21 [z0,((128*ag)+101),0] λlP=>aa 21 [z0,((128*ag)+102)]/\ao 21 [z0,((128*ag)+102),0] λz116
 =>aa 21 [z0,((128*ag)+103)]/\ao 21 [z0,((128*ag)+103),0] λz117=>aa 21 [z0,((128*ag)+104)]/\ao 21 [z0,((128*ag)+104),0] λ
 iI=>aa 21 [z0,((128*ag)+105)]/\ao 21 [z0,((128*ag)+105),0] λz119=>aa 21 [z0,((128*ag)+106)]/\ao 21 [z0,((128*ag)+106),0]
 λmh=>aa 21 [z0,((128*ag)+107)]/\ao 21 [z0,((128*ag)+107),0] λm2=>aa 21 [z0,((128*ag)+108)]/\ao 21 [z0,((128*ag)+
 108),0] λm3=>aa 21 [z0,((128*ag)+109)]/\ao 21 [z0,((128*ag)+109),0] λrP=>aa 21 [z0,((128*ag)+110)]/\ao 21 [z0,((128*ag)
 +110),0] λz124=>aa 21 [z0,((128*ag)+111)]/\ao 21 [z0,((128*ag)+111),0] λrQ=>aa 21 [z0,((128*ag)+112)]/\ao 21 [z0,((128*
 ag)+112),0] λrR=>aa 21 [z0,((128*ag)+113)]/\ao 21 [z0,((128*ag)+113),0] λz127=>aa 21 [z0,((128*ag)+114)]/\ao 21 [z0,((128
 *ag)+114),0] λpT=>aa 21 [z0,((128*ag)+115)]/\ao 21 [z0,((128*ag)+115),0] λpU=>aa 21 [z0,((128*ag)+116)]/\ao 21
 [z0,((128*ag)+116),0] λz130=>aa 21 [z0,((128*ag)+117)]/\ao 21 [z0,((128*ag)+117),0] λz131=>aa 21 [z0,((128*ag)+118)]/\ao
 21 [z0,((128*ag)+118),0] λCj=>aa 21 [z0,((128*ag)+119)]/\ao 21 [z0,((128*ag)+119),0] λCk=>aa 21 [z0,((128*ag)+120)]/\
 ao 21 [z0,((128*ag)+120),0] λCl=>aa 21 [z0,((128*ag)+121)]/\ao 21 [z0,((128*ag)+121),0] λCm=>aa 21 [z0,((128*ag)+122)]
 /\ao 21 [z0,((128*ag)+122),0] λCn=>aa 21 [z0,((128*ag)+123)]/\ao 21 [z0,((128*ag)+123),0] λCo=>aa 21 [z0,((128*ag)+
 124)]/\ao 21 [z0,((128*ag)+124),0] λz138=>aa 21 [z0,((128*ag)+125)]/\ao 21 [z0,((128*ag)+125),0] λz139=>aa 21 [z0,((128*ag)
 +126)]/\ao 21 [z0,((128*ag)+126),0] λCp=>aa 21 [z0,((128*ag)+127)]/\ao 21 [z0,((128*ag)+127),0] λz141=>aH 23
 [0,((72057594037927936*ak)+((281474976710656*aI)+((1099511627776*aT)+((4294967296*bE)+((16777216*br)+((65536*bH)+((256*z20)+
 z21)))))))] λZS=>aH 23 [ZS,((72057594037927936*z22)+((281474976710656*dg)+((1099511627776*z24)+((4294967296*cK)+((16777216*z26)+
 ((65536*dM)+((256*z28)+fj)))))))] λz143=>aH 23 [z143,((72057594037927936*ee)+((281474976710656*z31)+((1099511627776*dh)+
 ((4294967296*dN)+((16777216*dX)+((65536*du)+((256*cY)+z37)))))))] λZT=>aH 23 [ZT,((72057594037927936*cZ)+((281474976710656*
 ej)+((1099511627776*z40)+((4294967296*dB)+((16777216*c0)+((65536*da)+((256*a8)+bL)))))))] λz145=>aH 23
 [z145,((72057594037927936*z46)+((281474976710656*di)+((1099511627776*fU)+((4294967296*z49)+((16777216*fe)+((65536*z51)+((256*eP)+
 z53)))))))] λz146=>aH 23 [z146,((72057594037927936*fG)+((281474976710656*eJ)+((1099511627776*eF)+((4294967296*ek)+((16777216*eG)+
 ((65536*z59)+((256*gm)+kx)))))))] λZU=>aH 23 [ZU,((72057594037927936*ky)+((281474976710656*iV)+((1099511627776*mj)+
 ((4294967296*jq)+((16777216*jJ)+((65536*jK)+((256*ml)+mm)))))))] λz148=>aH 23 [z148,((72057594037927936*z70)+((281474976710656*
 mn)+((1099511627776*z72)+((4294967296*gx)+((16777216*mo)+((65536*z75)+((256*z76)+kz)))))))] λZV=>aH 23
 [ZV,((72057594037927936*m4)+((281474976710656*m5)+((1099511627776*m6)+((4294967296*qA)+((16777216*qB)+((65536*qC)+((256*qD)+
 z85)))))))] λZW=>aH 23 [ZW,((72057594037927936*qE)+((281474976710656*z87)+((1099511627776*qF)+((4294967296*qG)+((16777216*qH)+
 ((65536*z91)+((256*qI)+z93)))))))] λZX=>aH 23 [ZX,((72057594037927936*m7)+((281474976710656*pV)+((1099511627776*pW)+
 ((4294967296*u1)+((16777216*fH)+((65536*hQ)+((256*jo)+pR)))))))] λz152=>aH 23 [z152,((72057594037927936*nN)+((281474976710656
 *pS)+((1099511627776*mg)+((4294967296*z105)+((16777216*lO)+((65536*z107)+((256*ta)+z109)))))))] λZY=>aH 23
 [ZY,((72057594037927936*tc)+((281474976710656*gR)+((1099511627776*gS)+((4294967296*hP)+((16777216*ix)+((65536*lP)+((256*
 z116)+z117)))))))] λz154=>aH 23 [z154,((72057594037927936*iI)+((281474976710656*z119)+((1099511627776*mh)+((4294967296*m2)+
 ((16777216*m3)+((65536*rP)+((256*z124)+rQ)))))))] λZZ=>aH 23 [ZZ,((72057594037927936*rR)+((281474976710656*z127)+
 ((1099511627776*pT)+((4294967296*pU)+((16777216*z130)+((65536*z131)+((256*Cj)+Ck)))))))] λz156=>aH 23 [z156,((72057594037927936
 *Cl)+((281474976710656*Cm)+((1099511627776*Cn)+((4294967296*Co)+((16777216*z138)+((65536*z139)+((256*Cp)+z141)))))))] λ
 z157=>aa 66 [z157]/\cX λzr=>S 463 [[z157]] [[zr]]->bY λz159=>bF 20 [zr] λz160=>∃(K3:List (List Int)->Prop) (aaI:List
 (List Int)->Nat),K3 [[16],[zr],[z160],[z159]]/\(eW 16 9223372036854775807 λz162=>cX λlQ=>fB λz164=>bY λRs=>K3
 [[z162],[lQ],[z164],[Rs]]->(aD (decide (z162<80)) (aa 30 [(z162+(-16)),z164]/\aa 21 [lQ,(z162+(-16))]/\Fp 21 [lQ,(z162+(-16)),0] λ
 Cq=>aa 30 [(z162+(-15)),z164]/\aa 21 [lQ,(z162+(-15))]/\Fp 21 [lQ,(z162+(-15)),0] λz167=>kq λz168=>S 450 [[z167]] [[z168]]->dT
 (Cq+z168) 18446744073709551616 λFU=>aa 30 [(z162+(-7)),z164]/\aa 21 [lQ,(z162+(-7))]/\Fp 21 [lQ,(z162+(-7)),0] λFV=>dT (Cq
 +(z168+(((-18446744073709551616)*FU)+FV))) 18446744073709551616 λz171=>aa 30 [(z162+(-2)),z164]/\aa 21 [lQ,(z162+(-2))]/\Fp 21
 [lQ,(z162+(-2)),0] λRt=>kq λz173=>S 451 [[Rt]] [[z173]]->dT (Cq+(z168+(((-18446744073709551616)*FU)+(FV+
 (((-18446744073709551616)*z171)+z173))))) 18446744073709551616 λRu=>aa 31 [lQ,z164]/\aa 23 [lQ,1]/\aH 23 [lQ,(Cq+(z168+
 (((-18446744073709551616)*FU)+(FV+(((-18446744073709551616)*z171)+(z173+((-18446744073709551616)*Ru)))))))] λz175=>bY λjI=>(K3
 [[(z162+1)],[z175],[(z164+1)],[jI]]/\aaI [[(z162+1)],[z175],[(z164+1)],[jI]]<aaI [[z162],[lQ],[z164],[Rs]])) (∃(K4:List (List Int)->
 Prop) (aaJ:List (List Int)->Nat),K4 [bb,[0]]/\(∀cU:List Int,aO (c7 0 18446744073709551615 8) cU->fB λz175=>K4 [cU,[z175]]->(aD
 (decide (z175<z164)) (aa 30 [z175,z164]/\aa 21 [lQ,z175]/\Fp 21 [lQ,z175,0] λjI=>kq λj3=>S 449 [[(af cU 4 0)]] [[j3]]->
 dT ((af cU 7 0)+j3) 18446744073709551616 λmi=>cQ λuY=>uY<=eX .u64->uY=cf .and .u64 (af cU 4 0) (af
 cU 5 0)->cQ λuZ=>uZ<=eX .u64->uZ=cf .and .u64 (((-1)*(af cU 4 0))+18446744073709551615) (af cU 6 0)->cQ
 λj4=>j4<=eX .u64->j4=cf .xor .u64 uY uZ->dT ((af cU 7 0)+(j3+(((-18446744073709551616)*mi)+j4)))
 18446744073709551616 λz182=>aa 39 [z175,0,79]/\kq λz183=>S 467 [[z175]] [[z183]]->dT ((af cU 7 0)+(j3+(((-18446744073709551616)*
 mi)+(j4+(((-18446744073709551616)*z182)+z183))))) 18446744073709551616 λrS=>dT ((af cU 7 0)+(jI+(j3+
 (((-18446744073709551616)*mi)+(j4+(((-18446744073709551616)*z182)+(z183+((-18446744073709551616)*rS)))))))) 18446744073709551616 λtd=>
 kq λte=>S 448 [[(af cU 0 0)]] [[te]]->cQ λKg=>Kg<=eX .u64->Kg=cf .and .u64 (af cU 0 0) (af cU 1
 0)->cQ λKh=>Kh<=eX .u64->Kh=cf .and .u64 (af cU 0 0) (af cU 2 0)->cQ λKi=>Ki<=eX .u64->Ki
 =cf .xor .u64 Kg Kh->cQ λKj=>Kj<=eX .u64->Kj=cf .and .u64 (af cU 1 0) (af cU 2 0)->cQ λrT=>rT<=
 eX .u64->rT=cf .xor .u64 Ki Kj->dT (te+rT) 18446744073709551616 λCr=>ea λz193=>0<=((af cU 3 0)+((af
 cU 7 0)+(jI+(j3+(((-18446744073709551616)*mi)+(j4+(((-18446744073709551616)*z182)+(z183+(((-18446744073709551616)*rS)+
 ((-18446744073709551616)*td))))))))))-18446744073709551616*z193->((af cU 3 0)+((af cU 7 0)+(jI+(j3+
 (((-18446744073709551616)*mi)+(j4+(((-18446744073709551616)*z182)+(z183+(((-18446744073709551616)*rS)+((-18446744073709551616)*
 td))))))))))-18446744073709551616*z193<18446744073709551616->ea λz194=>0<=((af cU 7 0)+(jI+(j3+(((-18446744073709551616)*
 mi)+(j4+(((-18446744073709551616)*z182)+(z183+(((-18446744073709551616)*rS)+(((-18446744073709551616)*td)+(te+(rT+
 ((-18446744073709551616)*Cr))))))))))))-18446744073709551616*z194->((af cU 7 0)+(jI+(j3+(((-18446744073709551616)*mi)+(j4+
 (((-18446744073709551616)*z182)+(z183+(((-18446744073709551616)*rS)+(((-18446744073709551616)*td)+(te+(rT+((-18446744073709551616)*
 Cr))))))))))))-18446744073709551616*z194<18446744073709551616->dT (z175+9223372036854775809) 18446744073709551616 λCs=>aa 39 [((z175+
 ((-18446744073709551616)*Cs))+1),0,9223372036854775807]/\(K4 [[((af cU 7 0)+(jI+(j3+(((-18446744073709551616)*mi)+(j4+
 (((-18446744073709551616)*z182)+(z183+(((-18446744073709551616)*rS)+(((-18446744073709551616)*td)+(te+(rT+(((-18446744073709551616)*
 Cr)+((-18446744073709551616)*z194))))))))))))),(af cU 0 0),(af cU 1 0),(af cU 2 0),((af cU 3 0)+((af cU 7 0)
 +(jI+(j3+(((-18446744073709551616)*mi)+(j4+(((-18446744073709551616)*z182)+(z183+(((-18446744073709551616)*rS)+
 (((-18446744073709551616)*td)+((-18446744073709551616)*z193))))))))))),(af cU 4 0),(af cU 5 0),(af cU 6 0)],[((z175+
 ((-18446744073709551616)*Cs))+1)]]/\aaJ [[((af cU 7 0)+(jI+(j3+(((-18446744073709551616)*mi)+(j4+(((-18446744073709551616)
 *z182)+(z183+(((-18446744073709551616)*rS)+(((-18446744073709551616)*td)+(te+(rT+(((-18446744073709551616)*Cr)+
 ((-18446744073709551616)*z194))))))))))))),(af cU 0 0),(af cU 1 0),(af cU 2 0),((af cU 3 0)+((af cU 7 0)+(jI
 +(j3+(((-18446744073709551616)*mi)+(j4+(((-18446744073709551616)*z182)+(z183+(((-18446744073709551616)*rS)+(((-18446744073709551616)*
 td)+((-18446744073709551616)*z193))))))))))),(af cU 4 0),(af cU 5 0),(af cU 6 0)],[((z175+((-18446744073709551616)*Cs))+
 1)]]<aaJ [cU,[z175]])) (dT ((af bb 0 0)+(af cU 0 0)) 18446744073709551616 λjI=>dT ((af bb 1 0)+(af cU 1 0))
 18446744073709551616 λj3=>dT ((af bb 2 0)+(af cU 2 0)) 18446744073709551616 λmi=>dT ((af bb 3 0)+(af cU 3 0))
 18446744073709551616 λuY=>dT ((af bb 4 0)+(af cU 4 0)) 18446744073709551616 λuZ=>dT ((af bb 5 0)+(af cU 5 0))
 18446744073709551616 λj4=>dT ((af bb 6 0)+(af cU 6 0)) 18446744073709551616 λz182=>dT ((af bb 7 0)+(af cU 7 0))
 18446744073709551616 λz183=>(lT [[((af bb 0 0)+((af cU 0 0)+((-18446744073709551616)*jI))),((af bb 1 0)+((af cU 1
 0)+((-18446744073709551616)*j3))),((af bb 2 0)+((af cU 2 0)+((-18446744073709551616)*mi))),((af bb 3 0)+((af cU 3
 0)+((-18446744073709551616)*uY))),((af bb 4 0)+((af cU 4 0)+((-18446744073709551616)*uZ))),((af bb 5 0)+((af cU 5
 0)+((-18446744073709551616)*j4))),((af bb 6 0)+((af cU 6 0)+((-18446744073709551616)*z182))),((af bb 7 0)+((af cU 7
 0)+((-18446744073709551616)*z183)))],[(ag+1)]]/\nf [[((af bb 0 0)+((af cU 0 0)+((-18446744073709551616)*jI))),((af bb 1
 0)+((af cU 1 0)+((-18446744073709551616)*j3))),((af bb 2 0)+((af cU 2 0)+((-18446744073709551616)*mi))),((af bb 3
 0)+((af cU 3 0)+((-18446744073709551616)*uY))),((af bb 4 0)+((af cU 4 0)+((-18446744073709551616)*uZ))),((af bb 5
 0)+((af cU 5 0)+((-18446744073709551616)*j4))),((af bb 6 0)+((af cU 6 0)+((-18446744073709551616)*z182))),((af bb 7
 0)+((af cU 7 0)+((-18446744073709551616)*z183)))],[(ag+1)]]<nf [bb,[ag]])))))))) (∃(o5:List (List Int)->Prop) (qR:List (List Int)
 ->Nat),o5 [[7],[0],[0],[(-1)]]/\(eW (-1) 7 λaI=>cX λaT=>fB λbE=>bY λbr=>o5 [[aI],[aT],[bE],[br]]->(aD (decide (0<=aI)) (kq
 λbH=>bH=(af bb 0 0)/2^((8*aI)).toNat->cc 0 72057594037927935 bH 256 λz20=>aa 31 [aT,bE]/\aa 23 [aT,1]/\aH 23 [aT,(bH
 +((-256)*z20))] λz21=>bY λz22=>(o5 [[(aI+(-1))],[z21],[(bE+1)],[z22]]/\qR [[(aI+(-1))],[z21],[(bE+1)],[z22]]<qR
 [[aI],[aT],[bE],[br]])) (∃(xk:List (List Int)->Prop) (Gn:List (List Int)->Nat),xk [[7],[aT],[bE],[br]]/\(eW (-1) 7 λz20=>cX λz21=>
 fB λz22=>bY λdg=>xk [[z20],[z21],[z22],[dg]]->(aD (decide (0<=z20)) (kq λz24=>z24=(af bb 1 0)/2^((8*z20)).toNat->cc 0
 72057594037927935 z24 256 λcK=>aa 31 [z21,z22]/\aa 23 [z21,1]/\aH 23 [z21,(z24+((-256)*cK))] λz26=>bY λdM=>(xk [[(z20+
 (-1))],[z26],[(z22+1)],[dM]]/\Gn [[(z20+(-1))],[z26],[(z22+1)],[dM]]<Gn [[z20],[z21],[z22],[dg]])) (∃(xl:List (List Int)->Prop) (Gp:List
 (List Int)->Nat),xl [[7],[z21],[z22],[dg]]/\(eW (-1) 7 λcK=>cX λz26=>fB λdM=>bY λz28=>xl [[cK],[z26],[dM],[z28]]->(aD (decide (0
 <=cK)) (kq λfj=>fj=(af bb 2 0)/2^((8*cK)).toNat->cc 0 72057594037927935 fj 256 λee=>aa 31 [z26,dM]/\aa 23 [z26,1]/\aH
 23 [z26,(fj+((-256)*ee))] λz31=>bY λdh=>(xl [[(cK+(-1))],[z31],[(dM+1)],[dh]]/\Gp [[(cK+(-1))],[z31],[(dM+1)],[dh]]<Gp
 [[cK],[z26],[dM],[z28]])) (∃(xm:List (List Int)->Prop) (Gq:List (List Int)->Nat),xm [[7],[z26],[dM],[z28]]/\(eW (-1) 7 λee=>cX λz31=>
 fB λdh=>bY λdN=>xm [[ee],[z31],[dh],[dN]]->(aD (decide (0<=ee)) (kq λdX=>dX=(af bb 3 0)/2^((8*ee)).toNat->cc 0
 72057594037927935 dX 256 λdu=>aa 31 [z31,dh]/\aa 23 [z31,1]/\aH 23 [z31,(dX+((-256)*du))] λcY=>bY λz37=>(xm [[(ee+
 (-1))],[cY],[(dh+1)],[z37]]/\Gq [[(ee+(-1))],[cY],[(dh+1)],[z37]]<Gq [[ee],[z31],[dh],[dN]])) (∃(xn:List (List Int)->Prop) (Gr:List
 (List Int)->Nat),xn [[7],[z31],[dh],[dN]]/\(eW (-1) 7 λdu=>cX λcY=>fB λz37=>bY λcZ=>xn [[du],[cY],[z37],[cZ]]->(aD (decide (0
 <=du)) (kq λej=>ej=(af bb 4 0)/2^((8*du)).toNat->cc 0 72057594037927935 ej 256 λz40=>aa 31 [cY,z37]/\aa 23 [cY,1]/\aH
 23 [cY,(ej+((-256)*z40))] λdB=>bY λc0=>(xn [[(du+(-1))],[dB],[(z37+1)],[c0]]/\Gr [[(du+(-1))],[dB],[(z37+1)],[c0]]<Gr
 [[du],[cY],[z37],[cZ]])) (∃(xo:List (List Int)->Prop) (Gs:List (List Int)->Nat),xo [[7],[cY],[z37],[cZ]]/\(eW (-1) 7 λz40=>cX λdB=>
 fB λc0=>bY λda=>xo [[z40],[dB],[c0],[da]]->(aD (decide (0<=z40)) (kq λa8=>a8=(af bb 5 0)/2^((8*z40)).toNat->cc 0
 72057594037927935 a8 256 λbL=>aa 31 [dB,c0]/\aa 23 [dB,1]/\aH 23 [dB,(a8+((-256)*bL))] λz46=>bY λdi=>(xo [[(z40+
 (-1))],[z46],[(c0+1)],[di]]/\Gs [[(z40+(-1))],[z46],[(c0+1)],[di]]<Gs [[z40],[dB],[c0],[da]])) (∃(xp:List (List Int)->Prop) (Gt:List
 (List Int)->Nat),xp [[7],[dB],[c0],[da]]/\(eW (-1) 7 λbL=>cX λz46=>fB λdi=>bY λfU=>xp [[bL],[z46],[di],[fU]]->(aD (decide (0
 <=bL)) (kq λz49=>z49=(af bb 6 0)/2^((8*bL)).toNat->cc 0 72057594037927935 z49 256 λfe=>aa 31 [z46,di]/\aa 23 [z46,1]/\aH
 23 [z46,(z49+((-256)*fe))] λz51=>bY λeP=>(xp [[(bL+(-1))],[z51],[(di+1)],[eP]]/\Gt [[(bL+(-1))],[z51],[(di+1)],[eP]]<Gt
 [[bL],[z46],[di],[fU]])) (∃(xq:List (List Int)->Prop) (Gu:List (List Int)->Nat),xq [[7],[z46],[di],[fU]]/\(eW (-1) 7 λfe=>cX λz51=>
 fB λeP=>bY λz53=>xq [[fe],[z51],[eP],[z53]]->(aD (decide (0<=fe)) (kq λfG=>fG=(af bb 7 0)/2^((8*fe)).toNat->cc 0
 72057594037927935 fG 256 λeJ=>aa 31 [z51,eP]/\aa 23 [z51,1]/\aH 23 [z51,(fG+((-256)*eJ))] λeF=>bY λek=>(xq [[(fe+
 (-1))],[eF],[(eP+1)],[ek]]/\Gu [[(fe+(-1))],[eF],[(eP+1)],[ek]]<Gu [[fe],[z51],[eP],[z53]])) (aa 22 [z51,0,eP]/\aH 22 [z51,0,eP] λ
 fG=>K [[z0]] [[fG]]))))))))))))))))))))))))))))
theorem auS (f:Int->Int->Int) {r t:List Int} (h:r.length=8) (h':t.length=8):oD f r t=[f (r.getD 0 0) (t.getD 0 0),f (r.getD 1 0) (t.getD 1 0),f (r.getD 2 0) (t.getD 2 0),f (r.getD 3 0) (t.getD 3 0),f (r.getD 4 0) (t.getD 4 0),f (r.getD 5 0) (t.getD 5 0),f (r.getD 6 0) (t.getD 6 0),f (r.getD 7 0) (t.getD 7 0)]:=by
 match r,t,h,h' with
 |[_,_,_,_,_,_,_,_],[_,_,_,_,_,_,_,_],_,_=>rfl
theorem aqB (i:Nat) (x:Int) {r:List Int} (hr:r.length=8):s5 cC i x r=(let t:=md cC (r.getD 7 0+tE cC (r.getD 4 0)+xB cC (r.getD 4 0) (r.getD 5 0) (r.getD 6 0)+zd cC i+x);let u:=md cC (tD cC (r.getD 0 0)+E6 cC (r.getD 0 0) (r.getD 1 0) (r.getD 2 0));[md cC (t+u),r.getD 0 0,r.getD 1 0,r.getD 2 0,md cC (r.getD 3 0+t),r.getD 4 0,r.getD 5 0,r.getD 6 0]):=by
 match r,hr with
 |[_,_,_,_,_,_,_,_],_=>rfl
theorem Bv (x:Int):md cC x=x% 18446744073709551616:=by
 show x% (2:Int)^64=_
 rw[show(2:Int)^64=18446744073709551616 by decide]
theorem acK:p6 cC=[7640891576956012808,13503953896175478587,4354685564936845355,11912009170470909681,5840696475078001361,11170449401992604703,2270897969802886507,6620516959819538809]:=by decide+kernel
set_option maxHeartbeats 4000000 in
theorem an5:Sb SB (eL SB [wE] 465):=by
 intro z0 a0 a1 hp ah b0 z2 bT c1 z3 d0 d1 h3
 have hp:128∣(ab z0).length/\(ab z0).length<=1000001000:=hp
 have h3:z3=((ab z0).length:Int):=h3
 obtain⟨⟨q,hq⟩,vV⟩:=hp
 have hbl:(ck z0).length=128*q:=by rw[sg,hq]
 have DQ:z3=128*(q:Int):=by rw[h3,hq];simp
 refine⟨⟨(q:Int),DQ⟩,λl=>∃(i:Nat),i<=q/\l=[xy cC (ck z0) i (p6 cC),[(i:Int)]],λl=>((q:Int)-(l.getD 1 []).getD 0 0).toNat,⟨0,mr _,by
  show _=[p6 cC,[(0:Int)]]
  rw[acK]⟩,?_⟩
 intro bb Ol ag bC e1 ⟨i,hi,hI⟩
 simp only[hS,and_true]at hI
 obtain⟨vM,agC⟩:=hI
 obtain⟨uB,mC⟩:=ET 8 bb Ol
 have yd:((ab z0).length:Int)=128*(q:Int):=by rw[<-h3,DQ]
 refine⟨λh=>?_,λh=>?_⟩
 ·have h:=of_decide_eq_true h
  have El:i<q:=by omega
  have au:∀k:Int,0<=k->k<128->aa 21 [z0,128*ag+k]:=λk h1 h2=>⟨by omega,by rw[yd];omega⟩
  have LG:aa 21 [z0,128*ag]:=⟨by omega,by rw[yd];omega⟩
  refine⟨LG,?_⟩
  intro ak f0 g0 t0
  refine⟨au 1 (by decide) (by decide),?_⟩
  intro aI f1 g1 t1
  refine⟨au 2 (by decide) (by decide),?_⟩
  intro aT f2 g2 t2
  refine⟨au 3 (by decide) (by decide),?_⟩
  intro bE f3 g3 t3
  refine⟨au 4 (by decide) (by decide),?_⟩
  intro br f4 g4 t4
  refine⟨au 5 (by decide) (by decide),?_⟩
  intro bH f5 g5 t5
  refine⟨au 6 (by decide) (by decide),?_⟩
  intro z20 f6 g6 t6
  refine⟨au 7 (by decide) (by decide),?_⟩
  intro z21 f7 g7 t7
  refine⟨au 8 (by decide) (by decide),?_⟩
  intro z22 f8 g8 t8
  refine⟨au 9 (by decide) (by decide),?_⟩
  intro dg f9 g9 t9
  refine⟨au 10 (by decide) (by decide),?_⟩
  intro z24 f10 g10 t10
  refine⟨au 11 (by decide) (by decide),?_⟩
  intro cK f11 g11 t11
  refine⟨au 12 (by decide) (by decide),?_⟩
  intro z26 f12 g12 t12
  refine⟨au 13 (by decide) (by decide),?_⟩
  intro dM f13 g13 t13
  refine⟨au 14 (by decide) (by decide),?_⟩
  intro z28 f14 g14 t14
  refine⟨au 15 (by decide) (by decide),?_⟩
  intro fj f15 g15 t15
  refine⟨au 16 (by decide) (by decide),?_⟩
  intro ee f16 g16 t16
  refine⟨au 17 (by decide) (by decide),?_⟩
  intro z31 f17 g17 t17
  refine⟨au 18 (by decide) (by decide),?_⟩
  intro dh f18 g18 t18
  refine⟨au 19 (by decide) (by decide),?_⟩
  intro dN f19 g19 t19
  refine⟨au 20 (by decide) (by decide),?_⟩
  intro dX f20 g20 t20
  refine⟨au 21 (by decide) (by decide),?_⟩
  intro du f21 g21 t21
  refine⟨au 22 (by decide) (by decide),?_⟩
  intro cY f22 g22 t22
  refine⟨au 23 (by decide) (by decide),?_⟩
  intro z37 f23 g23 t23
  refine⟨au 24 (by decide) (by decide),?_⟩
  intro cZ f24 g24 t24
  refine⟨au 25 (by decide) (by decide),?_⟩
  intro ej f25 aeD t25
  refine⟨au 26 (by decide) (by decide),?_⟩
  intro z40 f26 aeE t26
  refine⟨au 27 (by decide) (by decide),?_⟩
  intro dB f27 aeF t27
  refine⟨au 28 (by decide) (by decide),?_⟩
  intro c0 f28 aeG t28
  refine⟨au 29 (by decide) (by decide),?_⟩
  intro da f29 aeH t29
  refine⟨au 30 (by decide) (by decide),?_⟩
  intro a8 f30 aeL t30
  refine⟨au 31 (by decide) (by decide),?_⟩
  intro bL f31 aeM t31
  refine⟨au 32 (by decide) (by decide),?_⟩
  intro z46 f32 aeN t32
  refine⟨au 33 (by decide) (by decide),?_⟩
  intro di f33 aeO t33
  refine⟨au 34 (by decide) (by decide),?_⟩
  intro fU f34 aeP t34
  refine⟨au 35 (by decide) (by decide),?_⟩
  intro z49 f35 aeQ t35
  refine⟨au 36 (by decide) (by decide),?_⟩
  intro fe f36 aeR t36
  refine⟨au 37 (by decide) (by decide),?_⟩
  intro z51 f37 aeS t37
  refine⟨au 38 (by decide) (by decide),?_⟩
  intro eP f38 aeT t38
  refine⟨au 39 (by decide) (by decide),?_⟩
  intro z53 f39 aeU t39
  refine⟨au 40 (by decide) (by decide),?_⟩
  intro fG f40 aeX t40
  refine⟨au 41 (by decide) (by decide),?_⟩
  intro eJ f41 aeY t41
  refine⟨au 42 (by decide) (by decide),?_⟩
  intro eF f42 aeZ t42
  refine⟨au 43 (by decide) (by decide),?_⟩
  intro ek f43 ae0 t43
  refine⟨au 44 (by decide) (by decide),?_⟩
  intro eG f44 ae1 t44
  refine⟨au 45 (by decide) (by decide),?_⟩
  intro z59 f45 ae2 t45
  refine⟨au 46 (by decide) (by decide),?_⟩
  intro gm f46 ae3 t46
  refine⟨au 47 (by decide) (by decide),?_⟩
  intro kx f47 ae4 t47
  refine⟨au 48 (by decide) (by decide),?_⟩
  intro ky f48 ae5 t48
  refine⟨au 49 (by decide) (by decide),?_⟩
  intro iV f49 ae6 t49
  refine⟨au 50 (by decide) (by decide),?_⟩
  intro mj f50 ae9 t50
  refine⟨au 51 (by decide) (by decide),?_⟩
  intro jq f51 afa t51
  refine⟨au 52 (by decide) (by decide),?_⟩
  intro jJ f52 afb t52
  refine⟨au 53 (by decide) (by decide),?_⟩
  intro jK f53 afc t53
  refine⟨au 54 (by decide) (by decide),?_⟩
  intro ml f54 afd t54
  refine⟨au 55 (by decide) (by decide),?_⟩
  intro mm f55 afe t55
  refine⟨au 56 (by decide) (by decide),?_⟩
  intro z70 f56 aff t56
  refine⟨au 57 (by decide) (by decide),?_⟩
  intro mn f57 afg t57
  refine⟨au 58 (by decide) (by decide),?_⟩
  intro z72 f58 afh t58
  refine⟨au 59 (by decide) (by decide),?_⟩
  intro gx f59 afi t59
  refine⟨au 60 (by decide) (by decide),?_⟩
  intro mo f60 afl t60
  refine⟨au 61 (by decide) (by decide),?_⟩
  intro z75 f61 afm t61
  refine⟨au 62 (by decide) (by decide),?_⟩
  intro z76 f62 afn t62
  refine⟨au 63 (by decide) (by decide),?_⟩
  intro kz f63 afo t63
  refine⟨au 64 (by decide) (by decide),?_⟩
  intro m4 f64 awX t64
  refine⟨au 65 (by decide) (by decide),?_⟩
  intro m5 f65 awY t65
  refine⟨au 66 (by decide) (by decide),?_⟩
  intro m6 f66 awZ t66
  refine⟨au 67 (by decide) (by decide),?_⟩
  intro qA f67 aw0 t67
  refine⟨au 68 (by decide) (by decide),?_⟩
  intro qB f68 aw1 t68
  refine⟨au 69 (by decide) (by decide),?_⟩
  intro qC f69 aw2 t69
  refine⟨au 70 (by decide) (by decide),?_⟩
  intro qD f70 aw3 t70
  refine⟨au 71 (by decide) (by decide),?_⟩
  intro z85 f71 aw4 t71
  refine⟨au 72 (by decide) (by decide),?_⟩
  intro qE f72 aw5 t72
  refine⟨au 73 (by decide) (by decide),?_⟩
  intro z87 f73 aw6 t73
  refine⟨au 74 (by decide) (by decide),?_⟩
  intro qF f74 aw7 t74
  refine⟨au 75 (by decide) (by decide),?_⟩
  intro qG f75 aw8 t75
  refine⟨au 76 (by decide) (by decide),?_⟩
  intro qH f76 aw9 t76
  refine⟨au 77 (by decide) (by decide),?_⟩
  intro z91 f77 axa t77
  refine⟨au 78 (by decide) (by decide),?_⟩
  intro qI f78 axb t78
  refine⟨au 79 (by decide) (by decide),?_⟩
  intro z93 f79 axc t79
  refine⟨au 80 (by decide) (by decide),?_⟩
  intro m7 f80 axd t80
  refine⟨au 81 (by decide) (by decide),?_⟩
  intro pV f81 axe t81
  refine⟨au 82 (by decide) (by decide),?_⟩
  intro pW f82 axf t82
  refine⟨au 83 (by decide) (by decide),?_⟩
  intro u1 f83 axg t83
  refine⟨au 84 (by decide) (by decide),?_⟩
  intro fH f84 axh t84
  refine⟨au 85 (by decide) (by decide),?_⟩
  intro hQ f85 axi t85
  refine⟨au 86 (by decide) (by decide),?_⟩
  intro jo f86 axj t86
  refine⟨au 87 (by decide) (by decide),?_⟩
  intro pR f87 axk t87
  refine⟨au 88 (by decide) (by decide),?_⟩
  intro nN f88 axl t88
  refine⟨au 89 (by decide) (by decide),?_⟩
  intro pS f89 axm t89
  refine⟨au 90 (by decide) (by decide),?_⟩
  intro mg f90 axn t90
  refine⟨au 91 (by decide) (by decide),?_⟩
  intro z105 f91 axo t91
  refine⟨au 92 (by decide) (by decide),?_⟩
  intro lO f92 axp t92
  refine⟨au 93 (by decide) (by decide),?_⟩
  intro z107 f93 axq t93
  refine⟨au 94 (by decide) (by decide),?_⟩
  intro ta f94 axr t94
  refine⟨au 95 (by decide) (by decide),?_⟩
  intro z109 f95 axs t95
  refine⟨au 96 (by decide) (by decide),?_⟩
  intro tc f96 axt t96
  refine⟨au 97 (by decide) (by decide),?_⟩
  intro gR f97 axu t97
  refine⟨au 98 (by decide) (by decide),?_⟩
  intro gS f98 axv t98
  refine⟨au 99 (by decide) (by decide),?_⟩
  intro hP f99 axw t99
  refine⟨au 100 (by decide) (by decide),?_⟩
  intro ix f100 awv t100
  refine⟨au 101 (by decide) (by decide),?_⟩
  intro lP f101 aww t101
  refine⟨au 102 (by decide) (by decide),?_⟩
  intro z116 f102 awx t102
  refine⟨au 103 (by decide) (by decide),?_⟩
  intro z117 f103 awy t103
  refine⟨au 104 (by decide) (by decide),?_⟩
  intro iI f104 awz t104
  refine⟨au 105 (by decide) (by decide),?_⟩
  intro z119 f105 awA t105
  refine⟨au 106 (by decide) (by decide),?_⟩
  intro mh f106 awB t106
  refine⟨au 107 (by decide) (by decide),?_⟩
  intro m2 f107 awC t107
  refine⟨au 108 (by decide) (by decide),?_⟩
  intro m3 f108 awD t108
  refine⟨au 109 (by decide) (by decide),?_⟩
  intro rP f109 awE t109
  refine⟨au 110 (by decide) (by decide),?_⟩
  intro z124 f110 awF t110
  refine⟨au 111 (by decide) (by decide),?_⟩
  intro rQ f111 awG t111
  refine⟨au 112 (by decide) (by decide),?_⟩
  intro rR f112 awH t112
  refine⟨au 113 (by decide) (by decide),?_⟩
  intro z127 f113 awI t113
  refine⟨au 114 (by decide) (by decide),?_⟩
  intro pT f114 awJ t114
  refine⟨au 115 (by decide) (by decide),?_⟩
  intro pU f115 awK t115
  refine⟨au 116 (by decide) (by decide),?_⟩
  intro z130 f116 awL t116
  refine⟨au 117 (by decide) (by decide),?_⟩
  intro z131 f117 awM t117
  refine⟨au 118 (by decide) (by decide),?_⟩
  intro Cj f118 awN t118
  refine⟨au 119 (by decide) (by decide),?_⟩
  intro Ck f119 awO t119
  refine⟨au 120 (by decide) (by decide),?_⟩
  intro Cl f120 awP t120
  refine⟨au 121 (by decide) (by decide),?_⟩
  intro Cm f121 awQ t121
  refine⟨au 122 (by decide) (by decide),?_⟩
  intro Cn f122 awR t122
  refine⟨au 123 (by decide) (by decide),?_⟩
  intro Co f123 awS t123
  refine⟨au 124 (by decide) (by decide),?_⟩
  intro z138 f124 awT t124
  refine⟨au 125 (by decide) (by decide),?_⟩
  intro z139 f125 awU t125
  refine⟨au 126 (by decide) (by decide),?_⟩
  intro Cp f126 awV t126
  refine⟨au 127 (by decide) (by decide),?_⟩
  intro z141 f127 awW t127
  obtain⟨bl,ps⟩:∃l,((ck z0).drop (128*i)).take 128=l:=⟨_,rfl⟩
  have Lz:bl.length=128:=by rw[<-ps,mw,rV,hbl];omega
  have aF:∀(k:Nat) (y z:Int),k<128->y=(k:Int)->z=aB 21 [z0,128*ag+y,0]->z=bl.getD k 0:=λk y z hk hy hz=>by
   rw[bP hz,<-ps,Uv _ _ _ _ hk]
   congr 1;omega
  have hB:[ak,aI,aT,bE,br,bH,z20,z21,z22,dg,z24,cK,z26,dM,z28,fj,ee,z31,dh,dN,dX,du,cY,z37,cZ,ej,z40,dB,c0,da,a8,bL,z46,di,fU,z49,fe,z51,eP,z53,fG,eJ,eF,ek,eG,z59,gm,kx,ky,iV,mj,jq,jJ,jK,ml,mm,z70,mn,z72,gx,mo,z75,z76,kz,m4,m5,m6,qA,qB,qC,qD,z85,qE,z87,qF,qG,qH,z91,qI,z93,m7,pV,pW,u1,fH,hQ,jo,pR,nN,pS,mg,z105,lO,z107,ta,z109,tc,gR,gS,hP,ix,lP,z116,z117,iI,z119,mh,m2,m3,rP,z124,rQ,rR,z127,pT,pU,z130,z131,Cj,Ck,Cl,Cm,Cn,Co,z138,z139,Cp,z141]=bl:=by
   rw[aF 0 0 ak (by decide) rfl (by rw[Int.add_zero];exact t0),aF 1 1 aI (by decide) rfl t1,aF 2 2 aT (by decide) rfl t2,aF 3 3 bE (by decide) rfl t3,aF 4 4 br (by decide) rfl t4,aF 5 5 bH (by decide) rfl t5,aF 6 6 z20 (by decide) rfl t6,aF 7 7 z21 (by decide) rfl t7,aF 8 8 z22 (by decide) rfl t8,aF 9 9 dg (by decide) rfl t9,aF 10 10 z24 (by decide) rfl t10,aF 11 11 cK (by decide) rfl t11,aF 12 12 z26 (by decide) rfl t12,aF 13 13 dM (by decide) rfl t13,aF 14 14 z28 (by decide) rfl t14,aF 15 15 fj (by decide) rfl t15,aF 16 16 ee (by decide) rfl t16,aF 17 17 z31 (by decide) rfl t17,aF 18 18 dh (by decide) rfl t18,aF 19 19 dN (by decide) rfl t19,aF 20 20 dX (by decide) rfl t20,aF 21 21 du (by decide) rfl t21,aF 22 22 cY (by decide) rfl t22,aF 23 23 z37 (by decide) rfl t23,aF 24 24 cZ (by decide) rfl t24,aF 25 25 ej (by decide) rfl t25,aF 26 26 z40 (by decide) rfl t26,aF 27 27 dB (by decide) rfl t27,aF 28 28 c0 (by decide) rfl t28,aF 29 29 da (by decide) rfl t29,aF 30 30 a8 (by decide) rfl t30,aF 31 31 bL (by decide) rfl t31,aF 32 32 z46 (by decide) rfl t32,aF 33 33 di (by decide) rfl t33,aF 34 34 fU (by decide) rfl t34,aF 35 35 z49 (by decide) rfl t35,aF 36 36 fe (by decide) rfl t36,aF 37 37 z51 (by decide) rfl t37,aF 38 38 eP (by decide) rfl t38,aF 39 39 z53 (by decide) rfl t39,aF 40 40 fG (by decide) rfl t40,aF 41 41 eJ (by decide) rfl t41,aF 42 42 eF (by decide) rfl t42,aF 43 43 ek (by decide) rfl t43,aF 44 44 eG (by decide) rfl t44,aF 45 45 z59 (by decide) rfl t45,aF 46 46 gm (by decide) rfl t46,aF 47 47 kx (by decide) rfl t47,aF 48 48 ky (by decide) rfl t48,aF 49 49 iV (by decide) rfl t49,aF 50 50 mj (by decide) rfl t50,aF 51 51 jq (by decide) rfl t51,aF 52 52 jJ (by decide) rfl t52,aF 53 53 jK (by decide) rfl t53,aF 54 54 ml (by decide) rfl t54,aF 55 55 mm (by decide) rfl t55,aF 56 56 z70 (by decide) rfl t56,aF 57 57 mn (by decide) rfl t57,aF 58 58 z72 (by decide) rfl t58,aF 59 59 gx (by decide) rfl t59,aF 60 60 mo (by decide) rfl t60,aF 61 61 z75 (by decide) rfl t61,aF 62 62 z76 (by decide) rfl t62,aF 63 63 kz (by decide) rfl t63,aF 64 64 m4 (by decide) rfl t64,aF 65 65 m5 (by decide) rfl t65,aF 66 66 m6 (by decide) rfl t66,aF 67 67 qA (by decide) rfl t67,aF 68 68 qB (by decide) rfl t68,aF 69 69 qC (by decide) rfl t69,aF 70 70 qD (by decide) rfl t70,aF 71 71 z85 (by decide) rfl t71,aF 72 72 qE (by decide) rfl t72,aF 73 73 z87 (by decide) rfl t73,aF 74 74 qF (by decide) rfl t74,aF 75 75 qG (by decide) rfl t75,aF 76 76 qH (by decide) rfl t76,aF 77 77 z91 (by decide) rfl t77,aF 78 78 qI (by decide) rfl t78,aF 79 79 z93 (by decide) rfl t79,aF 80 80 m7 (by decide) rfl t80,aF 81 81 pV (by decide) rfl t81,aF 82 82 pW (by decide) rfl t82,aF 83 83 u1 (by decide) rfl t83,aF 84 84 fH (by decide) rfl t84,aF 85 85 hQ (by decide) rfl t85,aF 86 86 jo (by decide) rfl t86,aF 87 87 pR (by decide) rfl t87,aF 88 88 nN (by decide) rfl t88,aF 89 89 pS (by decide) rfl t89,aF 90 90 mg (by decide) rfl t90,aF 91 91 z105 (by decide) rfl t91,aF 92 92 lO (by decide) rfl t92,aF 93 93 z107 (by decide) rfl t93,aF 94 94 ta (by decide) rfl t94,aF 95 95 z109 (by decide) rfl t95,aF 96 96 tc (by decide) rfl t96,aF 97 97 gR (by decide) rfl t97,aF 98 98 gS (by decide) rfl t98,aF 99 99 hP (by decide) rfl t99,aF 100 100 ix (by decide) rfl t100,aF 101 101 lP (by decide) rfl t101,aF 102 102 z116 (by decide) rfl t102,aF 103 103 z117 (by decide) rfl t103,aF 104 104 iI (by decide) rfl t104,aF 105 105 z119 (by decide) rfl t105,aF 106 106 mh (by decide) rfl t106,aF 107 107 m2 (by decide) rfl t107,aF 108 108 m3 (by decide) rfl t108,aF 109 109 rP (by decide) rfl t109,aF 110 110 z124 (by decide) rfl t110,aF 111 111 rQ (by decide) rfl t111,aF 112 112 rR (by decide) rfl t112,aF 113 113 z127 (by decide) rfl t113,aF 114 114 pT (by decide) rfl t114,aF 115 115 pU (by decide) rfl t115,aF 116 116 z130 (by decide) rfl t116,aF 117 117 z131 (by decide) rfl t117,aF 118 118 Cj (by decide) rfl t118,aF 119 119 Ck (by decide) rfl t119,aF 120 120 Cl (by decide) rfl t120,aF 121 121 Cm (by decide) rfl t121,aF 122 122 Cn (by decide) rfl t122,aF 123 123 Co (by decide) rfl t123,aF 124 124 z138 (by decide) rfl t124,aF 125 125 z139 (by decide) rfl t125,aF 126 126 Cp (by decide) rfl t126,aF 127 127 z141 (by decide) rfl t127]
   exact(DG bl 128 Lz).symm
  have mI:uX cC bl=[((72057594037927936*ak)+((281474976710656*aI)+((1099511627776*aT)+((4294967296*bE)+((16777216*br)+((65536*bH)+((256*z20)+z21))))))),((72057594037927936*z22)+((281474976710656*dg)+((1099511627776*z24)+((4294967296*cK)+((16777216*z26)+((65536*dM)+((256*z28)+fj))))))),((72057594037927936*ee)+((281474976710656*z31)+((1099511627776*dh)+((4294967296*dN)+((16777216*dX)+((65536*du)+((256*cY)+z37))))))),((72057594037927936*cZ)+((281474976710656*ej)+((1099511627776*z40)+((4294967296*dB)+((16777216*c0)+((65536*da)+((256*a8)+bL))))))),((72057594037927936*z46)+((281474976710656*di)+((1099511627776*fU)+((4294967296*z49)+((16777216*fe)+((65536*z51)+((256*eP)+z53))))))),((72057594037927936*fG)+((281474976710656*eJ)+((1099511627776*eF)+((4294967296*ek)+((16777216*eG)+((65536*z59)+((256*gm)+kx))))))),((72057594037927936*ky)+((281474976710656*iV)+((1099511627776*mj)+((4294967296*jq)+((16777216*jJ)+((65536*jK)+((256*ml)+mm))))))),((72057594037927936*z70)+((281474976710656*mn)+((1099511627776*z72)+((4294967296*gx)+((16777216*mo)+((65536*z75)+((256*z76)+kz))))))),((72057594037927936*m4)+((281474976710656*m5)+((1099511627776*m6)+((4294967296*qA)+((16777216*qB)+((65536*qC)+((256*qD)+z85))))))),((72057594037927936*qE)+((281474976710656*z87)+((1099511627776*qF)+((4294967296*qG)+((16777216*qH)+((65536*z91)+((256*qI)+z93))))))),((72057594037927936*m7)+((281474976710656*pV)+((1099511627776*pW)+((4294967296*u1)+((16777216*fH)+((65536*hQ)+((256*jo)+pR))))))),((72057594037927936*nN)+((281474976710656*pS)+((1099511627776*mg)+((4294967296*z105)+((16777216*lO)+((65536*z107)+((256*ta)+z109))))))),((72057594037927936*tc)+((281474976710656*gR)+((1099511627776*gS)+((4294967296*hP)+((16777216*ix)+((65536*lP)+((256*z116)+z117))))))),((72057594037927936*iI)+((281474976710656*z119)+((1099511627776*mh)+((4294967296*m2)+((16777216*m3)+((65536*rP)+((256*z124)+rQ))))))),((72057594037927936*rR)+((281474976710656*z127)+((1099511627776*pT)+((4294967296*pU)+((16777216*z130)+((65536*z131)+((256*Cj)+Ck))))))),((72057594037927936*Cl)+((281474976710656*Cm)+((1099511627776*Cn)+((4294967296*Co)+((16777216*z138)+((65536*z139)+((256*Cp)+z141)))))))]:=by
   rw[<-hB]
   show [((((((((0*256+ak)*256+aI)*256+aT)*256+bE)*256+br)*256+bH)*256+z20)*256+z21),((((((((0*256+z22)*256+dg)*256+z24)*256+cK)*256+z26)*256+dM)*256+z28)*256+fj),((((((((0*256+ee)*256+z31)*256+dh)*256+dN)*256+dX)*256+du)*256+cY)*256+z37),((((((((0*256+cZ)*256+ej)*256+z40)*256+dB)*256+c0)*256+da)*256+a8)*256+bL),((((((((0*256+z46)*256+di)*256+fU)*256+z49)*256+fe)*256+z51)*256+eP)*256+z53),((((((((0*256+fG)*256+eJ)*256+eF)*256+ek)*256+eG)*256+z59)*256+gm)*256+kx),((((((((0*256+ky)*256+iV)*256+mj)*256+jq)*256+jJ)*256+jK)*256+ml)*256+mm),((((((((0*256+z70)*256+mn)*256+z72)*256+gx)*256+mo)*256+z75)*256+z76)*256+kz),((((((((0*256+m4)*256+m5)*256+m6)*256+qA)*256+qB)*256+qC)*256+qD)*256+z85),((((((((0*256+qE)*256+z87)*256+qF)*256+qG)*256+qH)*256+z91)*256+qI)*256+z93),((((((((0*256+m7)*256+pV)*256+pW)*256+u1)*256+fH)*256+hQ)*256+jo)*256+pR),((((((((0*256+nN)*256+pS)*256+mg)*256+z105)*256+lO)*256+z107)*256+ta)*256+z109),((((((((0*256+tc)*256+gR)*256+gS)*256+hP)*256+ix)*256+lP)*256+z116)*256+z117),((((((((0*256+iI)*256+z119)*256+mh)*256+m2)*256+m3)*256+rP)*256+z124)*256+rQ),((((((((0*256+rR)*256+z127)*256+pT)*256+pU)*256+z130)*256+z131)*256+Cj)*256+Ck),((((((((0*256+Cl)*256+Cm)*256+Cn)*256+Co)*256+z138)*256+z139)*256+Cp)*256+z141)]=_
   simp only[hS,and_true]
   refine⟨by omega,by omega,by omega,by omega,by omega,by omega,by omega,by omega,by omega,by omega,by omega,by omega,by omega,by omega,by omega,by omega⟩
  obtain⟨ws,yo⟩:∃l,uX cC bl=l:=⟨_,rfl⟩
  intro ZS x0 jH u0 z143 x1 jn oB ZT x2 qz rO z145 gP zq s7 z146 gw Cd FO ZU gD Ce QU z148 gQ Cf QV ZV kt Cg QW ZW ku Ch u8 ZX kv Ci QY z152 k6 Ca QO ZY fi zp QP z154 gC Cb QQ ZZ j2 Cc QR z156 wX FR QS z157 wY FT QT
  have v0:=ft (l:=[]) u0 fD
  have v1:=ft oB v0
  have v2:=ft rO v1
  have v3:=ft s7 v2
  have v4:=ft FO v3
  have v5:=ft QU v4
  have v6:=ft QV v5
  have Q4:=ft QW v6
  have Q5:=ft u8 Q4
  have v9:=ft QY Q5
  have v10:=ft QO v9
  have v11:=ft QP v10
  have v12:=ft QQ v11
  have Q1:=ft QR v12
  have Q2:=ft QS Q1
  have Q3:=ft QT Q2
  have hr:ab z157=rws ws:=by
   rw[<-yo,mI];exact Q3
  have wl:ws.length=16:=by rw[<-yo];simp[uX]
  refine⟨by show(ab z157).length<=1000000;rw[hr,ma,wl];decide,?_⟩
  intro zr i0 i1 fO z159 jD k1 z160 m0 iG n0
  have fO:ab zr=ab z157:=fO
  rw[hr]at fO
  have n0:z160=((ab zr).length:Int):=n0
  rw[fO,ma,wl]at n0
  refine⟨λl=>∃(j:Nat) (c k:Int),j<=64/\l=[[((16+j:Nat):Int)],[c],[((16+j:Nat):Int)],[k]]/\ab c=rws (qb cC j ws),λl=>(80-(l.getD 0 []).getD 0 0).toNat,⟨0,zr,z159,mr _,by rw[n0];rfl,fO⟩,?_⟩
  intro z162 BA o1 lQ p0 p1 z164 kp bo Rs aV r1 ⟨j,c,bA,hj,hl,hc⟩
  simp only[hS,and_true]at hl
  obtain⟨py,hl2,Es,aiB⟩:=hl
  subst hl2
  obtain⟨ba,iP⟩:∃l,qb cC j ws=l:=⟨_,rfl⟩
  rw[iP]at hc
  have E8:ba.length=16+j:=by rw[<-iP,Mo,wl]
  have q1:((ab lQ).length:Int)=16+(j:Int):=by rw[hc,ma,E8];omega
  refine⟨λhlt=>?_,λfa=>?_⟩
  ·have hlt:=of_decide_eq_true hlt
   refine⟨⟨by omega,by omega⟩,⟨by omega,by rw[q1];omega⟩,λCq iw s1 s2=>⟨⟨by omega,by omega⟩,⟨by omega,by rw[q1];omega⟩,λz167 ard arh QH z168 ars art uV FU atl atm atn ato=>⟨⟨by omega,by omega⟩,⟨by omega,by rw[q1];omega⟩,λFV w0 w1 w2 z171 aud aue atC atD=>⟨⟨by omega,by omega⟩,⟨by omega,by rw[q1];omega⟩,λRt auL auM Rd z173 C1 C2 nU Ru Lv Lw qZ acG=>⟨by show z164=((ab lQ).length:Int);omega,by show((ab lQ).length:Int)+1<=1073741824;omega,λz175 LN LO xA jI L4 L5=>?_⟩⟩⟩⟩⟩
   have uV:[[z168]]=[[zl cC z167]]:=uV
   have nU:[[z173]]=[[zm cC Rt]]:=nU
   simp only[hS,and_true]at uV nU
   have e1:=ss s2 hc
   have e2:=ss QH hc
   have bt:=ss w2 hc
   have eS:=ss Rd hc
   have N8:Cq+(z168+((-18446744073709551616)*FU+(FV+((-18446744073709551616)*z171+(z173+(-18446744073709551616)*Ru)))))=wB cC ba:=by
    unfold wB
    rw[Bv,E8,show 16+j-16=(z162+-16).toNat by omega,show 16+j-15=(z162+-15).toNat by omega,show 16+j-7=(z162+-7).toNat by omega,show 16+j-2=(z162+-2).toNat by omega,<-e1,<-e2,<-bt,<-eS,<-uV,<-nU]
    omega
   have gf:=ft xA hc
   rw[N8]at gf
   refine⟨⟨j+1,z175,jI,by omega,by rw[show z162+1=((16+(j+1):Nat):Int) by omega,show z164+1=((16+(j+1):Nat):Int) by omega],by rw[Mp,iP];exact gf⟩,?_⟩
   show(80-(z162+1)).toNat<(80-z162).toNat
   omega
  ·have fa:=of_decide_eq_false fa
   have NR:j=64:=by omega
   have Ou:sched cC ws=ba:=by rw[<-iP,NR];rfl
   refine⟨λl=>∃(t:Nat),t<=80/\l=[uP cC 0 (ba.take t) bb,[(t:Int)]],λl=>(80-(l.getD 1 []).getD 0 0).toNat,⟨0,mr _,rfl⟩,?_⟩
   intro eE Om z175 iw s1 ⟨t,ht,hl⟩
   simp only[hS,and_true]at hl
   obtain⟨hv,ajN⟩:=hl
   obtain⟨uC,acx⟩:=ET 8 eE Om
   refine⟨λhlt=>?_,λEi=>?_⟩
   ·have hlt:=of_decide_eq_true hlt
    refine⟨⟨by omega,by omega⟩,⟨by omega,by rw[q1];omega⟩,?_⟩
    intro jI C1 C2 nU j3 Lv Lw qZ mi LN LO xA LP uY L4 L5 L6 uZ aea aeb Mj j4 aeo aep Mr z182 afq afr MG MH
    refine⟨⟨by omega,by omega⟩,?_⟩
    intro z183 Ej aij rj rS ajV ajW OP OQ td aj5 aj6 OX OY te akx aky uz Kg alr als Pf Kh ame amf Pr Ki amo amp Pw Kj anN anO PF rT apk apl PS Cr apv apw apx apy z193 apW apX FE FF z194 aqx aqy Qz QA Cs arf ari arj ark
    have EI:t<80:=by omega
    have Mb:Cs=0:=by omega
    have ex:=ss nU hc
    rw[show z175.toNat=t by omega]at ex
    have qZ:[[j3]]=[[tE cC (eE.getD 4 0)]]:=qZ
    have rj:[[z183]]=[[zd cC z175.toNat]]:=rj
    have uz:[[te]]=[[tD cC (eE.getD 0 0)]]:=uz
    simp only[hS,and_true]at qZ rj uz
    rw[show z175.toNat=t by omega]at rj
    have je:j4=xB cC (eE.getD 4 0) (eE.getD 5 0) (eE.getD 6 0):=by
     rw[Mr,L6,Mj]
     unfold xB
     rw[show(2:Int)^cC.w-1-eE.getD 4 0=-1*eE.getD 4 0+18446744073709551615 by rw[show(2:Int)^cC.w=18446744073709551616 by decide];omega]
     rfl
    have N4:rT=E6 cC (eE.getD 0 0) (eE.getD 1 0) (eE.getD 2 0):=by
     rw[PS,Pw,Pr,Pf,PF];rfl
    obtain⟨A,hA⟩:∃A,eE.getD 0 0=A:=⟨_,rfl⟩
    obtain⟨D,hD⟩:∃A,eE.getD 3 0=A:=⟨_,rfl⟩
    obtain⟨H,DT⟩:∃A,eE.getD 7 0=A:=⟨_,rfl⟩
    rw[DT]at xA LP MG MH OP OQ OX OY FE FF Qz QA⊢
    rw[hD]at FE FF⊢
    have yl:=aqB t jI uC
    rw[DT,hD,<-qZ,<-je,<-rj,<-uz,<-N4]at yl
    have bn:md cC (H+j3+j4+z183+jI)=H+(jI+(j3+((-18446744073709551616)*mi+(j4+((-18446744073709551616)*z182+(z183+((-18446744073709551616)*rS+(-18446744073709551616)*td))))))):=by
     rw[Bv];omega
    have M0:md cC (te+rT)=te+(rT+(-18446744073709551616)*Cr):=by
     rw[Bv];omega
    simp only[bn,M0]at yl
    refine⟨⟨by omega,by omega⟩,⟨t+1,by omega,?_⟩,?_⟩
    ·rw[Zu ba t (by omega),Qg,<-hv,show 0+(ba.take t).length=t by rw[mw];omega,<-ex,yl,Mb]
     simp only[hS,and_true]
     refine⟨⟨?_,trivial,trivial,trivial,?_⟩,?_⟩
     ·rw[Bv];exact IW (k:=z194) (by omega) (by omega) (by omega)
     ·rw[Bv];exact IW (k:=z193) (by omega) (by omega) (by omega)
     ·omega
    ·show(80-(z175+-18446744073709551616*Cs+1)).toNat<(80-z175).toNat
     omega
   ·have Ei:=of_decide_eq_false Ei
    intro jI C1 abF abN abW j3 C2 abG abO abX mi nU abH abP abY uY abA abI abQ abZ uZ abB abJ abR ab0 j4 abC abK abS ab1 z182 abD abL abT ab2 z183 abE abM abU ab3
    have EI:t=80:=by omega
    have Ny:ba.take t=ba:=mq (by omega)
    rw[Ny]at hv
    have l3:uT cC bb ws=[bb.getD 0 0+(eE.getD 0 0+(-18446744073709551616)*jI),bb.getD 1 0+(eE.getD 1 0+(-18446744073709551616)*j3),bb.getD 2 0+(eE.getD 2 0+(-18446744073709551616)*mi),bb.getD 3 0+(eE.getD 3 0+(-18446744073709551616)*uY),bb.getD 4 0+(eE.getD 4 0+(-18446744073709551616)*uZ),bb.getD 5 0+(eE.getD 5 0+(-18446744073709551616)*j4),bb.getD 6 0+(eE.getD 6 0+(-18446744073709551616)*z182),bb.getD 7 0+(eE.getD 7 0+(-18446744073709551616)*z183)]:=by
     unfold uT
     rw[Ou,<-hv,auS _ uB uC]
     simp only[Bv,hS,and_true]
     refine⟨by omega,by omega,by omega,by omega,by omega,by omega,by omega,by omega⟩
    refine⟨⟨i+1,by omega,?_⟩,?_⟩
    ·rw[<-l3,vM]
     show _=[uT cC (xy cC (ck z0) i (p6 cC)) (uX cC (((ck z0).drop (128*i)).take 128)),_]
     rw[ps,yo,show ag+1=((i+1:Nat):Int) by omega]
    ·show((q:Int)-(ag+1)).toNat<((q:Int)-ag).toNat
     omega
 ·have h:=of_decide_eq_false h
  have El:i=q:=by omega
  have hall:o9 cC (ck z0)=sQ cC bb:=by
   unfold o9
   rw[hbl,show 2*cC.w=128 from rfl,RC q (by decide),<-El,<-vM]
  have gI:sQ cC bb=((((((([]++(cA 8).map (kg cC (bb.getD 0 0)))++(cA 8).map (kg cC (bb.getD 1 0)))++(cA 8).map (kg cC (bb.getD 2 0)))++(cA 8).map (kg cC (bb.getD 3 0)))++(cA 8).map (kg cC (bb.getD 4 0)))++(cA 8).map (kg cC (bb.getD 5 0)))++(cA 8).map (kg cC (bb.getD 6 0)))++(cA 8).map (kg cC (bb.getD 7 0)):=by
   conv=>lhs;rw[Xy uB]
   rfl
  refine wT (pre:=[]) fD rfl (by simp) λac1 akG aj7 p0 p1 h0 Ma=>?_
  refine wT h0 (by rw[Ma];simp) (by simp) λac2 O2 aj8 bq cv h1 Ae=>?_
  refine wT h1 (by rw[Ae];simp) (by simp) λac5 O3 aj9 dI dJ h2 Dr=>?_
  refine wT h2 (by rw[Dr];simp) (by simp) λDe akI aka fv lF h3 Ds=>?_
  refine wT h3 (by rw[Ds];simp) (by simp) λac6 akJ akc rH PL h4 Mf=>?_
  refine wT h4 (by rw[Mf];simp) (by simp) λac7 akM akd PK anY h5 Dt=>?_
  refine wT h5 (by rw[Dt];simp) (by simp) λac8 akN ake anZ an0 h6 Du=>?_
  refine wT h6 (by rw[Du];simp) (by simp) λDf O4 akg an1 an2 h7 Mh=>?_
  have Et:ab Df=rws (sQ cC bb):=by rw[h7,gI]
  have Pe:O4=((ab Df).length:Int):=by rw[h7,ma,Mh];simp
  refine⟨⟨cn _,by omega,by omega⟩,λRy x0 x1 x2=>⟨⟨x0,x1,trivial⟩,?_⟩⟩
  have hf:=nJ x2 Pe
  show ck Ry=o9 cC (ck z0)
  rw[hall]
  exact Dc (by rw[hf,Et])
end Go.cd
namespace Go.cd
open Go Go.bg
def SR (S:Nat->List (List Int)->List (List Int)->Prop) (K:List (List Int)->List (List Int)->Prop):Prop:=
 ∀aV:List Int,aO (c7 0 18446744073709551615 5) aV->∀bb:List Int,aO (c7 0 18446744073709551615 4) bb->∃(GC:List (List Int)->Prop) (KP:List
 (List Int)->Nat),GC [[255],[1,0,0,0,0]]/\(eW (-1) 255 λaC=>∀lH:List Int,aO (c7 0 18446744073709551615 5) lH->GC [[aC],lH]->(aD (decide (0
 <=aC)) (∀sV:List Int,aO (c7 0 18446744073709551615 5) sV->S 664 [lH] [sV]->cc 0 3 aC 64 λz21=>kq λz22=>z22=af bb (z21).toNat 0
 ->cc 0 3 aC 64 λdg=>kq λz24=>z24=z22/2^((aC+((-64)*dg))).toNat->cc 0 9223372036854775807 z24 2 λcK=>(aD (decide ((z24+((-2)*
 cK))=1)) (∀sW:List Int,aO (c7 0 18446744073709551615 5) sW->S 643 [sV,aV] [sW]->(GC [[(aC+(-1))],sW]/\KP [[(aC+(-1))],sW]<KP
 [[aC],lH])) ((GC [[(aC+(-1))],sV]/\KP [[(aC+(-1))],sV]<KP [[aC],lH])))) (K [aV,bb] [lH])))
theorem UN {a b:Int} {r:List Int} (h:aO (c7 a b 20) r):[[af r 0 0,af r 1 0,af r 2 0,af r 3 0,af r 4 0],[af r 5 0,af r 6 0,af r 7 0,af r 8 0,af r 9 0],[af r 10 0,af r 11 0,af r 12 0,af r 13 0,af r 14 0],[af r 15 0,af r 16 0,af r 17 0,af r 18 0,af r 19 0]].flatten=r:=by
 match r,h with
 |[x0,x1,x2,gP,gw,gD,gQ,kt,ku,kv,k6,fi,gC,j2,wX,wY,B6,B7,B8,B9],_=>rfl
theorem anH {r:List Int} (h:aO (c7 0 18446744073709551615 5) r):aO (de [f5]) [r].flatten:=by rw[rW,KL,gT];exact h
theorem TR {w:Nat} (hw:w=8∨w=64) {r:List Int} {i:Nat} {q v q' u b:Int} (h0:0<=(i:Int)-w*q) (h1:(i:Int)-w*q<w) (hq:0<=q) (hv:v=af r q.toNat 0) (h2:0<=(i:Int)-w*q') (h3:(i:Int)-w*q'<w) (hu:u=v/2^((i:Int)+((-w)*q')).toNat) (h4:0<=u-2*b) (h5:u-2*b<2):decide (u+(-2)*b=1)=GX w r i:=by
 have e1:q=((i/w:Nat):Int):=by rcases hw with rfl|rfl<;>omega
 have e2:q'=q:=by rcases hw with rfl|rfl<;>omega
 have bt:((i:Int)+((-w)*q')).toNat=i% w:=by rw[e2,e1];rcases hw with rfl|rfl<;>omega
 rw[bt]at hu
 rw[e1,k9]at hv
 unfold GX
 rw[<-hv,<-hu]
 have:u% 2=u+(-2)*b:=by omega
 rw[this]
theorem nr (r:List Int):[r].flatten=r:=by rw[rW,KL,gT]
theorem vA (r s:List Int):[r,s].flatten=r++s:=by rw[rW,nr]
def abo (G:Nat->List Int->List Int) (e n:List Int) (bl:List (List Int)):Prop:=∃(k:Nat) (r:List Int),bl=[[255-(k:Int)],r]/\k<=256/\r=y5 G e n k
def zM (bl:List (List Int)):Nat:=((bl.getD 0 []).getD 0 0+1).toNat
theorem aoK (G):SR (tx G) (bO (tx G) [f5] 645):=by
 intro aV i0 bb i5
 refine⟨abo G aV bb,zM,⟨0,_,rfl,by decide,rfl⟩,?_⟩
 rintro aC awe awg lH i11 ⟨k,r,e,hk,hr⟩
 obtain⟨rfl,rfl⟩:aC=255-(k:Int)/\lH=r:=by simpa using e
 refine⟨λh sV i16 iw z21 a21 acv au d21 z22 _ _ sw dg abz acw Dd d23 z24 _ _ vF cK _ _ LH d25=>?_,λh=>?_⟩
 ·have h:=of_decide_eq_true h
  obtain⟨i,hi⟩:∃i:Nat,(255:Int)-k=i:=⟨255-k,by omega⟩
  rw[hi]at au d21 Dd d23 vF⊢
  have hb:=TR (w:=64) (.inr rfl) (r:=bb) (i:=i) au d21 a21 sw Dd d23 vF LH d25
  have iw:sV=G 664 (y5 G aV bb k):=by
   have iw:[sV].flatten=G 664 [lH].flatten:=iw
   rwa [nr,nr,hr]at iw
  have cD:i=255-k:=by omega
  have hm:∀x y:List Int,zM [[(i:Int)+(-1)],x]<zM [[(i:Int)],y]:=λx y=>by show((i:Int)+(-1)+1).toNat<((i:Int)+1).toNat;omega
  have hn:(i:Int)+(-1)=255-((k+1:Nat):Int):=by omega
  refine⟨λhq sW i26 s1=>⟨⟨k+1,sW,by rw[hn],by omega,?_⟩,hm _ _⟩,λhq=>⟨⟨k+1,sV,by rw[hn],by omega,?_⟩,hm _ _⟩⟩
  ·have s1:[sW].flatten=G 643 [sV,aV].flatten:=s1
   rw[nr,vA]at s1
   unfold y5
   rw[<-iw,<-cD,<-hb,hq,s1];rfl
  ·unfold y5
   rw[<-iw,<-cD,<-hb,hq];rfl
 ·have h:=of_decide_eq_false h
  have hk:k=256:=by omega
  subst hk
  refine⟨anH i11,?_⟩
  show [lH].flatten=y5 G ([aV,bb].flatten.take 5) ([aV,bb].flatten.drop 5) 256
  have cm:aV.length=5:=gi i0
  rw[nr,vA,List.take_left' cm,List.drop_left' cm,hr]
end Go.cd
