/- The evaluator's soundness,whole. -/
import Derived.Test.YtejjagiggkgdmaaGreatDoorPab
import Derived.Laws.Externs
import Derived.ChangeMaps5
import Derived.ChangeSame
import Derived.OpenShut
import Derived.Handed
import Derived.ProofKit
import Derived.LaidMore
import Derived.Stop.Joined
import Derived.HandedShaped
import Derived.SizedLaws
import Derived.Carry

set_option linter.unusedVariables false
set_option linter.unusedSimpArgs false
namespace Go.bo
open M
section
variable {S:Nat->List Int->List Int->Prop} {L:V->Env->Prop} {w0:cR} {P:Program} {gl:dt} {bd:ey} {rd:Option Nat}
def qw (S:Nat->List Int->List Int->Prop) (L:V->Env->Prop) (w0:cR) (k:jM) (n nb:Nat) (ρ:Env) (m:Nat->Nat) (G:cP) (Q:Exit->Act->World->Prop):Prop:=
 ∀x n' ag m' bB aW cV cS w',cv n nb ρ m n' (List.length aW) ag m'->c5 n G cV->R w0 n' ag m' bB aW cS w'->(k x n' bB aW).holds S L cV ag->Q x.to cS w'
theorem qw.later {k:jM} {n nb n1 p6:Nat} {ρ aH:Env} {m jj:Nat->Nat} {G G1:cP} {Q:Exit->Act->World->Prop} (h:qw S L w0 k n nb ρ m G Q) (hl:cv n nb ρ m n1 p6 aH jj) (hA:c5 n G G1):qw S L w0 k n1 p6 aH jj G1 Q:=
 λx n' ag m' bB aW cV cS w' h1 h2 h3 h4=>h x n' ag m' bB aW cV cS w' (hl.trans h1) (hA.trans h2 hl.hn) h3 h4
def xE (rd:Option Nat) (S:Nat->List Int->List Int->Prop) (L:V->Env->Prop) (w0:cR) (P:Program) (c:Code) (e:Nat->List V->List ax->jM->T):Prop:=(rd=none∨jk c=true)->
 ∀n tm bl k G ρ m a w Q,R w0 n ρ m tm bl a w->(e n tm bl k).holds S L G ρ->qw S L w0 k n bl.length ρ m G Q->c.wpIn (ku rd) 0 P Q a w
theorem LF {c:Code} {e:Nat->List V->List ax->jM->T} (hd:rd=none∨jk c=true) (he:xE rd S L w0 P c e) {Q:Exit->Act->World->Prop}:∀(r:Nat) {n:Nat} {ρ:Env} {m:Nat->Nat} {tm:List V} {bl:List ax} {a:Act} {w:World} {G:cP} {k:jM},
 R w0 n ρ m tm bl a w->(EB e r n tm bl k).holds S L G ρ->qw S L w0 k n bl.length ρ m G Q->Code.roundsIn (ku rd) 0 P c Q r a w
 |0,_,_,_,_,_,_,_,_,_,_,al,_=>al.elim
 |r+1,n,ρ,m,tm,bl,a,w,G,k,h,al,hk=>by
  rw[roundsIn_succ]
  refine he hd n tm bl _ G ρ m a w _ h al λx n' ag m' bB aW cV cS w' h1 h2 h3 h4=>?_
  cases x with
  |normal=>exact LF hd he r h3 h4 (hk.later h1 h2)
  |exit id=>exact hk (.exit id) n' ag m' bB aW cV cS w' h1 h2 h3 h4
  |ret=>exact hk .ret n' ag m' bB aW cV cS w' h1 h2 h3 h4
theorem Nb {n nb:Nat} {ρ:Env} {m:Nat->Nat} {tm:List V} {xs:Array Value} (h:cI n nb ρ m tm xs):qA n nb ρ m tm xs.toList:=Gu (by simpa using h)
def ml (w0:cR) (ρ:Env) (m:Nat->Nat) (bl:List ax) (w:World) (D:Nat->Prop):Prop:=
 ∀(i:Nat) (sh:List az) (off code cap:J) (kind:Nat) (t:TypeId×Bool),bl[i]?=some ([.rows sh off code cap kind],t)->fE w0 ρ D (m i) sh off code cap kind t.1 w
theorem QL {D:Nat->Prop} {li:c0} {n:Nat} {bu ag:Env} {m0 m':Nat->Nat} {tm bB gU oZ:List V} {bl aW eA n3:List ax} {l1 l2 v1 v2 ext:List J} {b1 b2 sQ qL:List (Int×Int)} {n':Nat} {a:Act} {w:World}
 (hlen:bl.length<=aW.length)
 (ha:agree n bu ag) (hm:∀b,b<bl.length->m' b=m0 b) (ht:∀v∈tm,V.ok n bl.length bu v) (gK:bQ n bl.length bu bl)
 (h:R w0 n' ag m' bB aW a w) (e1:hs li.keep li.ints 0 (n+1) tm=some (gU,l1,b1)) (e2:hb li.cells 0 (n+1+l1.length) bl=some (eA,l2,b2))
 (e3:hs li.keep li.ints 0 (n+1) bB=some (oZ,v1,sQ)) (eo:hb li.cells 0 (n+1+v1.length) (aW.take bl.length)=some (n3,v2,qL))
 (f1:iZ gU oZ=true) (f2:ka eA n3=true) (og:∀g,D g->bD w0 ag m' aW g) (hU:ml w0 ag m' aW w D):
 v1.length+v2.length=l1.length+l2.length/\bI (b1++b2) ((v1++v2).map (·.den ag))/\R w0 (n+1+l1.length+l2.length+ext.length) (bP bu (n+1) ((v1++v2++ext).map (·.den ag))) m0 gU eA a w/\eA.length=bl.length/\(∀(i:Nat) (p:ax),eA[i]?=some p->i<bl.length/\∃bV:ax,aW[i]?=some bV/\a6 (bP bu (n+1) ((v1++v2++ext).map (·.den ag))) p.1=a6 ag bV.1)/\(∀g,D g->bD w0 (bP bu (n+1) ((v1++v2++ext).map (·.den ag))) m0 eA g)/\ml w0 (bP bu (n+1) ((v1++v2++ext).map (·.den ag))) m0 eA w D:=by
 have Ck:agree n bu (bP bu (n+1) ((v1++v2++ext).map (·.den ag))):=(agree.bP _ (n+1) bu).mono (by omega)
 have pH:∀j,j<(v1++v2).length->bP bu (n+1) ((v1++v2++ext).map (·.den ag)) (n+1+j)=((v1++v2).getD j (.const 0)).den ag:=λj hj=>by
  rw[xz _ _ _ j (by simp at hj⊢;omega)]
  have kJ:j<(v1++v2++ext).length:=by simp at hj⊢;omega
  have e:(v1++v2++ext)[j]=(v1++v2)[j]:=List.getElem_append_left hj
  simp only[List.getD,List.getElem?_map,List.getElem?_eq_getElem hj,List.getElem?_eq_getElem kJ,Option.map_some,Option.getD_some,e]
 have y4:v1.length+v2.length=(v1++v2).length:=by simp
 obtain⟨p1,bz,cd⟩:=wv (N:=n+1+v1.length+v2.length+ext.length) ha Ck hm (by omega) ht (Nb h.t) e1 e3 f1 (λj hj=>by
  rw[pH j (by simp;omega),Ii hj]) (by omega)
 rw[<-cd]at e2
 have Qu:bQ n' aW.length ag (aW.take bl.length):=λp hp=>h.b p (List.mem_of_mem_take hp)
 obtain⟨q1,q2,q3,q4⟩:=IJ (N:=n+1+v1.length+v2.length+ext.length) ha Ck hm (by omega) gK Qu e2 eo f2 (λj hj=>by
  rw[show n+1+v1.length+j=n+1+(v1.length+j) by omega,pH (v1.length+j) (by simp;omega),Ij]) (by omega)
 have hbl:eA.length=bl.length:=(yM e2).2
 refine⟨by omega,by rw[List.map_append];exact oH bz q2,?_⟩
 rw[<-cd,<-q3]
 have tr:∀(i:Nat) (p:ax),eA[i]?=some p->i<bl.length/\∃bV:ax,aW[i]?=some bV/\bO p.1=bO bV.1/\p.2=bV.2/\(bO p.1=false->∃sh off code code' cap k,p.1=[.rows sh off code cap k]/\bV.1=[.rows sh off code' cap k]/\off.aX n/\cap.aX n):=λi p hi=>by
  have ff:i<bl.length:=by rw[<-hbl];exact(List.getElem?_eq_some_iff.1 hi).1
  obtain⟨bV,h1,h2,rf,h3⟩:=Cm eo i p (HY f2 i p hi)
  rw[List.getElem?_take,if_pos ff]at h1
  obtain⟨p0,g1,_,_,g3⟩:=Cm e2 i p hi
  refine⟨ff,bV,h1,h2,rf,λho=>?_⟩
  obtain⟨sh,off,code,code',cap,k,s1,s2⟩:=h3 ho
  obtain⟨cn,cY,c1,aU,cW,aZ,l7,xp⟩:=g3 ho
  rw[s1]at l7
  cases l7
  have a8:A.ok n bl.length bu (.rows sh off aU cap k):=gK _ (List.mem_of_getElem? g1) _ (by rw[xp];simp)
  exact⟨sh,off,code,code',cap,k,s1,s2,a8.1.1,a8.1.2.2⟩
 have Cl:agree n ag (bP bu (n+1) ((v1++v2++ext).map (·.den ag))):=ha.sym.trans Ck (Nat.le_refl _)
 have hk2:∀(p bV:ax),bO p.1=bO bV.1->(bO p.1=false->∃sh off code code' cap k,p.1=[.rows sh off code cap k]/\bV.1=[.rows sh off code' cap k]/\off.aX n/\cap.aX n)->a6 (bP bu (n+1) ((v1++v2++ext).map (·.den ag))) p.1=a6 ag bV.1:=λp bV h1 h2=>by
  cases ho:bO p.1 with
  |true=>rw[jT ho,jT (h1▸ho)]
  |false=>
   obtain⟨sh,off,code,code',cap,k,s1,s2,l7,xp⟩:=h2 ho
   rw[s1,s2]
   simp only[a6]
   rw[J.bj Cl xp]
 have hrel:∀(F:Nat->Prop),ml w0 ag m' aW w F->ml w0 (bP bu (n+1) ((v1++v2++ext).map (·.den ag))) m0 eA w F:=λF hF i sh off code cap kind t hi=>by
  obtain⟨ff,bV,k1,_,k2,k3⟩:=tr i _ hi
  obtain⟨cn,cY,c1,aU,cW,aZ,s1,s2,l7,xp⟩:=k3 rfl
  cases s1
  obtain⟨C,t'⟩:=bV
  simp only at s2 k2
  subst s2;subst k2
  obtain⟨c',h1,h2⟩:=q4 i _ t hi
  rw[List.getElem?_take,if_pos ff,k1]at h1
  cases h1
  simp only[List.map_cons,List.map_nil,A.den,List.cons.injEq,Value.int.injEq,and_true,true_and]at h2
  rw[<-hm i ff]
  have hR:=hF i sh off aU cap kind t k1
  unfold fE at hR⊢
  rw[J.bj Cl l7,J.bj Cl xp,h2]
  exact hR
 have oy:∀g,bD w0 ag m' aW g->bD w0 (bP bu (n+1) ((v1++v2++ext).map (·.den ag))) m0 eA g:=bD.mono λi p hi hk=>by
  obtain⟨g1,bV,g2,g3,_,g4⟩:=tr i p hi
  exact⟨i,bV,g2,by rw[<-hk2 p bV g3 g4];exact hk,hm i g1⟩
 refine⟨?_,hbl,λi p hi=>by
  obtain⟨g1,bV,g2,g3,_,g4⟩:=tr i p hi
  exact⟨g1,bV,g2,hk2 p bV g3 g4⟩,λg hg=>oy g (og g hg),hrel D hU⟩
 refine⟨?_,h.d,by rw[hbl];exact q1,⟨h.bm.ext,h.bm.gP,h.bm.kj,h.bm.kh,h.bm.fG,h.bm.kc,λi cs t hi ho=>?_,λi sh off code cap kind t hi=>?_,λi j p q hi hj he=>?_⟩⟩
 ·rw[hbl]
  have:=AZ p1
  simpa using this
 ·obtain⟨c',h1,h2⟩:=q4 i cs t hi
  obtain⟨ff,bV,k1,k2,_⟩:=tr i _ hi
  rw[List.getElem?_take,if_pos ff,k1]at h1
  have h1:=Option.some.inj h1
  subst h1
  obtain⟨g1,gx,r,hr,g2⟩:=h.bm.ef i c' t k1 (k2▸ho)
  rw[<-hm i ff]
  exact⟨g1,gx,r,hr,by rw[h2];exact g2⟩
 ·exact(hrel _ h.bm.rws i sh off code cap kind t hi).mono oy
 ·obtain⟨ff,bV,k1,k2,_,k3⟩:=tr i p hi
  obtain⟨rA,gm,l1,l2,_,r7⟩:=tr j q hj
  rw[hk2 p bV k2 k3,hk2 q gm l2 r7]
  rw[<-hm i ff,<-hm j rA]at he
  exact h.bm.inj i j bV gm k1 l1 he
theorem cI.set {n nb:Nat} {ρ:Env} {m:Nat->Nat} {tm:List V} {xs:Array Value} {s:Nat} {v:V} (h:cI n nb ρ m tm xs) (hv:v.ok n nb ρ) (hr:∀x,xs[s]?=some x->v.rel ρ m x):cI n nb ρ m (mT tm s v) xs:=by
 rw[EV]
 refine⟨by simp[h.1],λi u hu=>?_⟩
 rw[List.getElem?_set]at hu
 split at hu
 ·rename_i RY
  subst RY
  split at hu
  ·rename_i hlt
   cases hu
   rw[h.1]at hlt
   exact⟨hv,_,Array.getElem?_eq_getElem hlt,hr _ (Array.getElem?_eq_getElem hlt)⟩
  ·cases hu
 ·exact h.2 i u hu
def sG (tmps:Array Value):List Nat->List Int->Prop
 |[],[]=>True
 |s::r,z::zs=>(0<=z/\z<=1)/\(∀x,tmps[s]?=some x->x= .bool (decide (z=1)))/\sG tmps r zs
 |_,_=>False
def qs (w0:cR) (w:World) (tmps:Array Value) (D:Nat->Prop) (F:Nat->Prop):List (Nat×List az×TypeId)->List Int->Prop
 |[],[]=>True
 |(s,sh,e)::r,code::len::cap::zs=>∃g:Nat,(∀x,tmps[s]?=some x->x=if cap<0 then .slice (jJ cap g) 0 0 else .slice (some ⟨g,0,none⟩) len.toNat cap.toNat)/\sy 0 0 len cap/\(0<=code/\code<=au)/\(cap<0->ae code=[])/\
    (0<=cap->∃cells:Array Value,w.heap[g]?=some (.cells cells e (0,0))/\fZ D w cells 0 sh (ae code)/\cells.size=cap.toNat*sh.length/\w0.b.heap.size<=g/\(w0.ex g∨w0.r.heap.size<=g)/\∀bA,D bA->bA≠g)/\
    (0<=cap->F g)/\qs w0 w tmps D (λbA=>F bA/\(0<=cap->bA≠g)) r zs
 |_,_=>False
theorem Bk {nb:Nat} {tm:List V} {m:Nat->Nat} {tmps:Array Value}:∀{l:List Nat} {n:Nat} {ρ:Env},cI n nb ρ m tm tmps->ar S L (vl tm l) n ρ λag n' ls=>(∀x∈ls,J.aX n' x)/\ls.length=l.length/\sG tmps l (ls.map (·.den ag))
 |[],n,ρ,ht=>ar.pure ⟨λ_ h=>by simp at h,rfl,trivial⟩
 |s::r,n,ρ,ht=>by
  unfold vl
  split
  ·rename_i e hs
   obtain⟨h1,x,h2,h3⟩:=ht.2 s _ hs
   have h3:x= .bool (e.den ρ):=h3
   have key:ar S L (match e with| .lit v=>pure (J.const (cond v 1 0))|e=>rT e) n ρ λag n' l=>l.aX n'/\(0<=l.den ag/\l.den ag<=1)/\e.den ρ=decide (l.den ag=1):=by
    cases e with
    |lit v=>cases v<;>exact ar.pure ⟨J.bU _ _,by simp only[J.aS];decide,by simp only[J.aS,aY.den];rfl⟩
    |_=>exact zf
   refine key.bind λaH n1 l hn ha ⟨g1,g2,g3⟩=>(Bk (l:=r) (ht.ext ha hn (Nat.le_refl _) (λ_ _=>rfl))).bind λba db ls cQ cA ⟨k1,k2,k3⟩=>ar.pure ⟨λy hy=>?_,by simp[k2],?_⟩
   ·rcases List.mem_cons.1 hy with rfl|hy
    ·exact g1.mono cQ
    ·exact k1 y hy
   ·have e1:=J.bj cA g1
    simp only[List.map_cons,sG,e1]
    refine⟨g2,λy hy=>?_,k3⟩
    rw[h2]at hy
    cases hy
    rw[h3,g3]
  ·exact ar.fail
theorem vy {nb:Nat} {m:Nat->Nat} {tmps:Array Value}:∀{l:List (Nat×Int×Int)} {tm:List V} {n:Nat} {ρ:Env},cI n nb ρ m tm tmps->ar S L (q7 l tm) n ρ λag n' bB=>cI n' nb ag m bB tmps
 |[],tm,n,ρ,ht=>ar.pure ht
 |(s,lo,hi)::r,tm,n,ρ,ht=>by
  unfold q7
  split
  ·rename_i k x hs
   cases hc:(decide (lo<=x.lo)&&decide (x.hi<=hi))with
   |true=>simp only[cond_true];exact vy ht
   |false=>
    simp only[cond_false]
    refine eh λhk=>?_
    simp only[List.map_cons,List.map_nil,ad,J.aS]at hk
    obtain⟨h1,y,h2,h3⟩:=ht.2 s _ hs
    have h1:x.ok n ρ:=h1
    exact vy (ht.set (v:= .w (.one (.int k ⟨x.l,lo,hi⟩))) ⟨h1.1,hk.1,hk.2⟩ λz hz=>by
     rw[h2]at hz;cases hz;exact h3)
  ·exact vy ht
theorem xQ {n lo:Nat} {ρ:Env} {m:Nat->Nat} {tm:List V} {bl:List ax} {a:Act} {w:World} (h:R w0 n ρ m tm bl a w):∀{l:List (Nat×List az×TypeId)} {used:List Nat} {ls:List J} {u:List Nat},m6 lo l tm bl used=some (ls,u)->
 (∀x∈ls,J.aX n x)/\ls.length=(qF l).length/\(∀b∈used,b∈u)/\(∀b∈u,b∈used∨lo<=b)/\∀F:Nat->Prop,(∀(b:Nat) (p:ax),b∈u->b∉used->bl[b]?=some p->a6 ρ p.1=2->bO p.1=false->F (m b))->qs w0 w a.tmps (bD w0 ρ m bl) F l (ls.map (·.den ρ))
 |[],used,ls,u,he=>by
  simp only[m6,Option.some.injEq,Prod.mk.injEq]at he
  obtain⟨rfl,rfl⟩:=he
  exact⟨λ_ h=>by simp at h,rfl,λ_ h=>h,λ_ h=> .inl h,λ_ _=>trivial⟩
 |(s,sh,e)::r,used,ls,u,he=>by
  unfold m6 at he
  split at he
  ·rename_i hs
   split at he
   ·rename_i l1 o0 hr
    simp only[Option.some.injEq,Prod.mk.injEq]at he
    obtain⟨rfl,rfl⟩:=he
    obtain⟨g1,g2,g3,g4,g5⟩:=xQ h hr
    refine⟨λx hx=>?_,by simp[qF]at g2⊢;omega,g3,g4,λF hF=>⟨0,λx hx=>?_,?_,?_,?_,?_,?_,?_⟩⟩
    ·simp only[List.mem_cons]at hx
     rcases hx with rfl|rfl|rfl|hx
     ·exact J.bU _ _
     ·exact J.bU _ _
     ·exact J.bU _ _
     ·exact g1 x hx
    ·obtain⟨_,y,h2,h3⟩:=h.t.2 s _ hs
     rw[h2]at hx;cases hx
     have oa:(J.const (-1)).den ρ<0:=by rw[J.aS];decide
     simp only[oa,if_true]
     exact h3
    ·simp only[J.aS];exact⟨⟨by omega,by omega,by omega,by omega⟩,⟨by omega,by omega⟩,λ_=>rfl,λh=>by omega⟩
    ·simp only[J.aS];exact⟨Int.le_refl _,Int.le_trans (dk []) (j4 (l:=[]) (by simp) (by simp))⟩
    ·intro _;simp only[J.aS];exact dY
    ·simp only[J.aS];intro h;omega
    ·simp only[J.aS];intro h;omega
    ·refine g5 _ λb p hb hu hbl hk ho=>⟨hF b p hb hu hbl hk ho,?_⟩
     simp only[J.aS];intro h;omega
   ·cases he
  ·rename_i b aV o ro len cap hs
   split at he
   ·rename_i cn off code cu kind t hbl
    cases hc:(hZ sh cn&&Nat.beq kind 2&&J.beq o (.const 0)&&J.beq off (.const 0)&&J.beq ro (.const 0)&&J.beq cap cu&&Nat.beq t.1 e&&Nat.beq aV sh.length&&Nat.ble lo b&& !(used.any (Nat.beq b)))with
    |false=>rw[hc]at he;cases he
    |true=>
     rw[hc]at he
     simp only[cond_true]at he
     split at he
     ·rename_i l1 o0 hr
      simp only[Option.some.injEq,Prod.mk.injEq]at he
      obtain⟨rfl,rfl⟩:=he
      simp only[Bool.and_eq_true]at hc
      obtain⟨⟨⟨⟨⟨⟨⟨⟨⟨c1,aU⟩,bL⟩,b9⟩,du⟩,e0⟩,lJ⟩,lK⟩,ph⟩,Bo⟩:=hc
      have c1:=mU c1;have aU:=Nat.eq_of_beq_eq_true aU;have bL:=J.beq_eq bL;have b9:=J.beq_eq b9;have du:=J.beq_eq du;have e0:=J.beq_eq e0
      have lJ:=Nat.eq_of_beq_eq_true lJ;have lK:=Nat.eq_of_beq_eq_true lK;have ph:=Nat.le_of_ble_eq_true ph
      have Rz:b∉used:=λhb=>by
       have:used.any (Nat.beq b)=true:=List.any_eq_true.2 ⟨b,hb,Nat.beq_refl b⟩
       rw[this]at Bo;cases Bo
      subst c1;subst aU;subst bL;subst b9;subst du;subst e0;subst lJ;subst lK
      obtain⟨g1,g2,g3,g4,g5⟩:=xQ h hr
      obtain⟨a8,y,h2,h3⟩:=h.t.2 s _ hs
      have a8:(A.sl b sh.length (.const 0) (.const 0) len cap).ok n bl.length ρ:=a8
      obtain⟨x1,⟨cU,dm,gA,gX⟩,ia⟩:=a8
      simp only[J.aS]at ia
      have dw:(A.rows sh (.const 0) code cap 2).ok n bl.length ρ:=h.b _ (List.mem_of_getElem? hbl) _ (by simp)
      obtain⟨⟨r1,r2,eR⟩,oU,uD⟩:=dw
      have fq:=h.bm.rws b sh (.const 0) code cap 2 t hbl (by decide)
      refine⟨λx hx=>?_,by simp[qF]at g2⊢;omega,λbX hb'=>g3 bX (List.mem_cons_of_mem _ hb'),λbX hb'=>?_,λF hF=>⟨m b,λx hx=>?_,ia,oU,fq.1,λh0=>?_,λh0=>?_,?_⟩⟩
      ·simp only[List.mem_cons]at hx
       rcases hx with rfl|rfl|rfl|hx
       ·exact r2
       ·exact gA
       ·exact gX
       ·exact g1 x hx
      ·rcases g4 bX hb' with h5|h5
       ·rcases List.mem_cons.1 h5 with rfl|h5
        ·exact .inr ph
        ·exact .inl h5
       ·exact .inr h5
      ·have Dg:y=x:=Option.some.inj (h2.symm.trans hx)
       subst Dg
       have h3:y=(A.sl b sh.length (.const 0) (.const 0) len cap).den ρ m:=h3
       rw[h3]
       simp only[A.den,J.aS]
       split<;>simp
      ·obtain⟨_,cells,e9,fz,k1,⟨k2,k3⟩,k4⟩:=fq.2 h0
       obtain⟨c9,mP,rV,SI,SJ,SK⟩:=k4 (by decide)
       subst c9
       have rV:=rV.two
       subst rV
       rw[J.aS]at k3
       exact⟨cells,k1,k3,SI,SJ,SK,λbA gM e=>gM.2 b _ hbl (by rw[gi (by decide) h0];exact Nat.le_refl 2) e.symm⟩
      ·exact hF b _ (g3 b (by simp)) Rz hbl (gi (by decide) h0) rfl
      ·refine g5 _ λbX p hb' hu IN hk ho=>⟨hF bX p hb' (λh=>hu (List.mem_cons_of_mem _ h)) IN hk ho,λh0=>?_⟩
       have e7:a6 ρ [A.rows sh (.const 0) code cap 2]=2:=gi (by decide) h0
       exact h.bm.ne IN hbl (by rw[hk];exact Nat.le_refl 2) (by simp only[e7];decide) λe=>hu (by simp[e])
     ·cases he
   ·cases he
  ·cases he
theorem K6 {c:List A} (h:bO c=false):∃sh off code cap k,c=[.rows sh off code cap k]:=by
 unfold bO at h
 split at h
 ·exact⟨_,_,_,_,_,rfl⟩
 ·cases h
theorem DE {n:Nat} {ρ:Env} {m:Nat->Nat} {tm:List V} {a:Act} {w:World}:∀{us:List Nat} {bl:List ax},R w0 n ρ m tm bl a w->R w0 n ρ m tm (iw us bl) a w/\(iw us bl).length=bl.length/\∀(i:Nat) (p:ax),(iw us bl)[i]?=some p->(bl[i]?=some p/\(i∈us->bO p.1=true∨a6 ρ p.1=0))∨a6 ρ p.1=0
 |[],bl,h=>⟨h,rfl,λi p hp=> .inl ⟨hp,λh=>by simp at h⟩⟩
 |b::r,bl,h=>by
  unfold iw
  split
  ·rename_i sh off code cap k t hbl
   obtain⟨g1,g2,g3⟩:=DE (us:=r) (h.kill hbl)
   refine⟨g1,by rw[g2,fW],λi p hp=>?_⟩
   rcases g3 i p hp with⟨g4,g5⟩|g4
   ·by_cases ff:i=b
    ·subst ff
     rw[hY,List.getElem?_set_self (List.getElem?_eq_some_iff.1 hbl).1]at g4
     cases g4
     exact .inr (by simp[a6])
    ·rw[hY,List.getElem?_set_ne (λe=>ff e.symm)]at g4
     exact .inl ⟨g4,λhi=>g5 (by simpa [ff]using hi)⟩
   ·exact .inr g4
  ·rename_i fS
   obtain⟨g1,g2,g3⟩:=DE (us:=r) h
   refine⟨g1,g2,λi p hp=>?_⟩
   rcases g3 i p hp with⟨g4,g5⟩|g4
   ·refine .inl ⟨g4,λhi=>?_⟩
    rcases List.mem_cons.1 hi with rfl|hi
    ·cases ho:bO p.1 with
     |true=>exact .inl rfl
     |false=>
      exfalso
      obtain⟨c,t⟩:=p
      obtain⟨sh,off,code,cap,k,rfl⟩:=K6 ho
      exact fS _ _ _ _ _ _ g4
    ·exact g5 hi
   ·exact .inr g4
theorem I3 {N:Nat} {ba:Env} {m:Nat->Nat} {bl:List ax} {a:Act} {w:World}:∀{l:List Nat} {zs:List Int} {v:Nat} {tm:List V},R w0 N ba m tm bl a w->sG a.tmps l zs->(∀j,j<zs.length->ba (v+j)=zs.getD j 0)->v+zs.length<=N->R w0 N ba m (mC l v tm) bl a w
 |[],[],v,tm,h,_,_,_=>h
 |s::r,z::zs,v,tm,h,hb,hv,hN=>by
  unfold mC
  have h0:=hv 0 (by simp)
  simp only[Nat.add_zero,List.getD_cons_zero]at h0
  simp only[List.length_cons]at hN
  refine I3 (l:=r) (zs:=zs) ⟨cI.set h.t ?_ λx hx=>?_,h.d,h.b,h.bm⟩ hb.2.2 (λj hj=>by
   have:=hv (j+1) (by simpa using hj)
   rw[show v+1+j=v+(j+1) by omega];simpa using this) (by omega)
  ·exact⟨J.da (by omega),J.bU _ _⟩
  ·rw[hb.2.1 x hx]
   simp[V.rel,W.den,A.den,aY.den,J.bH,J.aS,h0]
 |[],_::_,_,_,_,h,_,_=>h.elim
 |_::_,[],_,_,_,h,_,_=>h.elim
theorem I2 {N:Nat} {ba:Env} {a:Act} {w:World}:∀{l:List (Nat×List az×TypeId)} {zs:List Int} {v:Nat} {tm:List V} {bl:List ax} {m:Nat->Nat} {D F:Nat->Prop},R w0 N ba m tm bl a w->(∀g,D g->bD w0 ba m bl g)->ml w0 ba m bl w D->qs w0 w a.tmps D F l zs->(∀g,F g->∀(i:Nat) (p:ax),bl[i]?=some p->m i=g->a6 ba p.1=0)->
 (∀j,j<zs.length->ba (v+j)=zs.getD j 0)->v+zs.length<=N->∃dX,(∀b,b<bl.length->dX b=m b)/\bl.length<=(lq l v tm bl).2.length/\R w0 N ba dX (lq l v tm bl).1 (lq l v tm bl).2 a w
 |[],[],v,tm,bl,m,D,F,h,_,_,_,_,_,_=>⟨m,λ_ _=>rfl,Nat.le_refl _,h⟩
 |(s,sh,e)::r,code::len::cap::zs,v,tm,bl,m,D,F,h,og,hU,hf,hF,hv,hN=>by
  obtain⟨g,f1,f2,f3,f4,f5,f6,f7⟩:=hf
  have v0:=hv 0 (by simp)
  have v1:=hv 1 (by simp)
  have v2:=hv 2 (by simp)
  simp only[List.getD_cons_zero,List.getD_cons_succ,Nat.add_zero]at v0 v1 v2
  simp only[List.length_cons]at hN
  have hc:(-2:Int)<=cap/\cap<=9223372036854775807:=⟨f2.2.1.1,by have:=f2.2.1.2;omega⟩
  have hA:(A.rows sh (.const 0) (.var v) (.var (v+2)) 2).ok N bl.length ba:=⟨⟨J.bU _ _,J.da (by omega),J.da (by omega)⟩,by rw[J.bH,v0];exact f3,by rw[J.bH,v2];exact hc⟩
  have rh:∀bA,D bA->bD w0 ba (fa m bl.length g) (bl++[([.rows sh (.const 0) (.var v) (.var (v+2)) 2],(e,false))]) bA:=λbA gM=>(og bA gM).push (by
   rcases Int.lt_or_le cap 0 with h0|h0
   ·refine .inl ?_
    simp only[a6,J.bH,v2]
    rw[if_pos h0];decide
   ·obtain⟨_,_,_,_,_,_,rV⟩:=f5 h0
    exact .inr (rV bA gM))
  have gO:fE w0 ba D g sh (.const 0) (.var v) (.var (v+2)) 2 e w:=by
   intro _
   simp only[J.bH,v0,v2,J.aS]
   refine⟨f4,λh0=>?_⟩
   obtain⟨cells,k1,k2,k3,k4,mP,_⟩:=f5 h0
   exact⟨mP.elim .inl λh=> .inr (.inr h),cells,e,(0,0),k1,⟨Int.le_refl _,k2⟩,λ_=>⟨rfl,by trivial,.wW,k3,k4,mP⟩⟩
  have Cc:ml w0 ba (fa m bl.length g) (bl++[([.rows sh (.const 0) (.var v) (.var (v+2)) 2],(e,false))]) w D:=λi cn cY code' cW ea t' hi=>by
   rcases w9 hi with⟨bM,h1⟩|⟨rfl,h1⟩
   ·rw[fX bM];exact hU i cn cY code' cW ea t' h1
   ·cases h1
    rw[h9];exact gO
  have hO:=h.bm.push (x:=([.rows sh (.const 0) (.var v) (.var (v+2)) 2],(e,false))) (g:=g) h.b (λy hy=>by simp at hy;subst hy;exact hA) (λho=>by cases ho) (λcn cY code' cW ea he=>by
   cases he
   exact gO.mono rh) (λi p hi he=>by
   rcases Int.lt_or_le cap 0 with h0|h0
   ·refine .inr (.inr ?_)
    simp only[a6,J.bH,v2]
    rw[if_pos h0]
   ·exact .inr (.inl (hF g (f6 h0) i p hi he))) (λi cn cY code' cW ea t' hi=>(hU i cn cY code' cW ea t' hi).mono rh)
  have hL:=cv.alloc N ba m bl ([A.rows sh (.const 0) (.var v) (.var (v+2)) 2],(e,false)) g
  have hR:R w0 N ba (fa m bl.length g) (mT tm s (.w (.one (.sl bl.length sh.length (.const 0) (.const 0) (.var (v+1)) (.var (v+2)))))) (bl++[([.rows sh (.const 0) (.var v) (.var (v+2)) 2],(e,false))]) a w:=by
   refine⟨cI.set (h.t.ext hL.ha hL.hn hL.hb hL.hm) ?_ λx hx=>?_,h.d,h.b.alloc (λy hy=>by simp at hy;subst hy;exact hA),hO⟩
   ·refine⟨by simp,⟨J.bU _ _,J.bU _ _,J.da (by omega),J.da (by omega)⟩,?_⟩
    simp only[J.aS,J.bH,v1,v2];exact f2
   ·rw[f1 x hx]
    simp only[V.rel,W.den,A.den,J.aS,J.bH,v1,v2,h9]
    split<;>simp
  obtain⟨dX,q1,q2,q3⟩:=I2 (l:=r) (zs:=zs) (v:=v+3) hR rh Cc f7 (λbA gM i p hi he=>by
   rw[List.getElem?_append]at hi
   split at hi
   ·rename_i bM
    rw[fX bM]at he
    exact hF bA gM.1 i p hi he
   ·have bM:=(List.getElem?_eq_some_iff.1 hi).1
    have:i=bl.length:=by simp at bM;omega
    subst this
    simp only[Nat.sub_self,List.getElem?_cons_zero,Option.some.injEq]at hi
    subst hi
    rw[h9]at he
    rcases Int.lt_or_le cap 0 with h0|h0
    ·simp only[a6,J.bH,v2]
     rw[if_pos h0]
    ·exact absurd he.symm (gM.2 h0)) (λj hj=>by
   have:=hv (j+3) (by simp only[List.length_cons];omega)
   rw[show v+3+j=v+(j+3) by omega];simpa using this) (by omega)
  simp only[List.length_append,List.length_cons,List.length_nil]at q1 q2
  exact⟨dX,λb hb=>by rw[q1 b (by omega)];exact fX hb,by unfold lq;omega,by unfold lq;exact q3⟩
 |[],_::_,_,_,_,_,_,_,_,_,_,h,_,_,_=>h.elim
 |_::_,[],_,_,_,_,_,_,_,_,_,h,_,_,_=>h.elim
 |_::_,[_],_,_,_,_,_,_,_,_,_,h,_,_,_=>h.elim
 |_::_,[_,_],_,_,_,_,_,_,_,_,_,h,_,_,_=>h.elim
theorem JW {tmps:Array Value}:∀{l:List Nat} {zs:List Int},sG tmps l zs->bI (x8 l) zs
 |[],[],_=>trivial
 |s::r,z::zs,h=>⟨h.1.1,h.1.2,JW h.2.2⟩
 |[],_::_,h=>h.elim
 |_::_,[],h=>h.elim
theorem JU {w:World} {tmps:Array Value}:∀{l:List (Nat×List az×TypeId)} {zs:List Int} {D F:Nat->Prop},qs w0 w tmps D F l zs->bI (qF l) zs
 |[],[],_,_,_=>trivial
 |(s,sh,e)::r,code::len::cap::zs,D,F,⟨g,f1,f2,f3,f4,f5,f6,f7⟩=>⟨f3.1,f3.2,f2.1.2.2.1,f2.1.2.2.2,f2.2.1.1,by have:=f2.2.1.2;omega,JU f7⟩
 |[],_::_,_,_,h=>h.elim
 |_::_,[],_,_,h=>h.elim
 |_::_,[_],_,_,h=>h.elim
 |_::_,[_,_],_,_,h=>h.elim
theorem Mem.zY {n:Nat} {ρ:Env} {m:Nat->Nat} {bl:List ax} {w:World} {b c:Nat} {C:List A} {sh:List az} {code:J} {t:TypeId×Bool} (h:Mem w0 ρ m bl w) (hbl:bl[b]?=some (C,t)) (ho:bO C=true) (ht:t.2=false)
 (hp:fJ sh=true) (dF:∀row∈ae (code.den ρ),bn sh row) (fp:cf sh (ae (code.den ρ))=C.map (A.den ρ m)) (hlen:C.length=c*sh.length):Mem w0 ρ m (cF bl b ([.rows sh (.const 0) code (.const c) 2],t)) w:=by
 have jv:b<bl.length:=(List.getElem?_eq_some_iff.1 hbl).1
 obtain⟨q1,q2,r,hr,q3⟩:=h.ef b C t hbl ho
 have hr:=hr ht
 subst hr
 rw[List.append_nil]at q3
 have c8:∀(i:Nat) (p:ax),(cF bl b ([.rows sh (.const 0) code (.const c) 2],t))[i]?=some p->(i=b/\p=([.rows sh (.const 0) code (.const c) 2],t))∨(i≠b/\bl[i]?=some p):=λi p hi=>by
  rw[hY,List.getElem?_set]at hi
  split at hi
  ·rename_i eU
   subst eU
   simp only[jv,if_true,Option.some.injEq]at hi
   exact .inl ⟨rfl,hi.symm⟩
  ·rename_i eU;exact .inr ⟨λe=>eU e.symm,hi⟩
 have hk2:a6 ρ [.rows sh (.const 0) code (.const c) 2]=2:=gi (by decide) (by rw[J.aS];omega)
 refine⟨h.ext,h.gP,h.kj,h.kh,h.fG,h.kc,λi gH t' hi jg=>?_,λi cn cY code' cW ea t' hi=>?_,λi j p q hi hj he=>?_⟩
 ·rcases c8 i _ hi with⟨rfl,cj⟩|⟨hne,hi⟩
  ·cases cj;cases jg
  ·exact h.ef i gH t' hi jg
 ·rcases c8 i _ hi with⟨rfl,cj⟩|⟨hne,hi⟩
  ·cases cj
   intro _
   simp only[J.aS]
   refine⟨λh0=>by omega,λ_=>⟨q2.elim .inl λh=> .inr (.inr h),_,_,_,q3,⟨Int.le_refl _,(jr hp).2 ⟨dF,[],[],by simp[fp],rfl⟩⟩,λ_=>⟨rfl,by trivial,.wW,by simp[hlen],q1,q2⟩⟩⟩
  ·exact(h.rws i cn cY _ cW ea t' hi).mono λbA h'=>h'.set hbl λ_=>by rw[jT ho];exact Nat.le_refl 2
 ·have hk:∀(i:Nat) (p:ax),(cF bl b ([.rows sh (.const 0) code (.const c) 2],t))[i]?=some p->∃bV,bl[i]?=some bV/\a6 ρ bV.1=a6 ρ p.1:=λi p hi=>by
   rcases c8 i _ hi with⟨rfl,cj⟩|⟨hne,hi⟩
   ·exact⟨_,hbl,by rw[cj];simp only[hk2,jT ho]⟩
   ·exact⟨p,hi,rfl⟩
  obtain⟨bV,hp,ep⟩:=hk i p hi
  obtain⟨gm,hq,eq⟩:=hk j q hj
  rw[<-ep,<-eq]
  exact h.inj i j bV gm hp hq he
theorem EK {m:Nat->Nat} {tm:List V} {a:Act} {w:World}:∀{l:List (Nat×List az×Nat)} {bl:List ax} {n:Nat} {ρ:Env},R w0 n ρ m tm bl a w->ar S L (xo l bl) n ρ λag n' aW=>R w0 n' ag m tm aW a w/\aW.length=bl.length
 |[],bl,n,ρ,h=>ar.pure ⟨h,rfl⟩
 |(b,sh,c)::r,bl,n,ρ,h=>by
  unfold xo
  split
  ·rename_i C t hbl
   cases ho:bO C with
   |false=>simp only[cond_false];exact EK h
   |true=>
    simp only[cond_true]
    refine cH λhc=>?_
    simp only[Bool.and_eq_true]at hc
    obtain⟨⟨⟨⟨c1,aU⟩,bL⟩,b9⟩,du⟩:=hc
    have c1:t.2=false:=by simpa using c1
    have aU:=Nat.eq_of_beq_eq_true aU
    have b9:=Nat.le_of_ble_eq_true b9
    have a8:∀x∈C,A.ok n bl.length ρ x:=h.b _ (List.mem_of_getElem? hbl)
    have gL:=qR (w:=sh.length) (k:=c) aU
    have cy:ae ((J.const 0).den ρ)=[]:=by rw[J.aS];exact dY
    have hz:(0:Int)<=au:=Int.le_trans (dk []) (j4 (l:=[]) (by simp) (by simp))
    refine(ve (nb:=bl.length) (m:=m) bL (rs:=gG sh.length c C) (c:= .const 0) (λrow hr x hx=>a8 x (qS row hr x hx)) (J.bU _ _) (by rw[J.aS];exact⟨Int.le_refl _,hz⟩) (by rw[cy];intro _ h;simp at h) (by rw[cy,gL.1];simp;omega)).bind λaH n1 code c7 cm ⟨p1,bz,b7,cd,eE,eV,gk⟩=>?_
    rw[cy,List.nil_append]at cd
    have h1:=h.later c7 cm
    have wg:C.map (A.den aH m)=C.map (A.den ρ m):=kM a8 cm (λ_ _=>rfl)
    have hO:=h1.bm.zY (n:=n1) (c:=c) (sh:=sh) (code:=code) hbl ho c1 du (by rw[cd];exact eV) (by rw[cd,gk,gL.2,wg]) aU
    have hP:bQ n1 (cF bl b ([.rows sh (.const 0) code (.const c) 2],t)).length aH (cF bl b ([.rows sh (.const 0) code (.const c) 2],t)):=h1.b.set (λy hy=>by
     have hy:y= .rows sh (.const 0) code (.const c) 2:=by simpa using hy
     subst hy
     exact⟨⟨J.bU _ _,p1,J.bU _ _⟩,bz,by rw[J.aS];omega⟩)
    have hR:R w0 n1 aH m tm (cF bl b ([.rows sh (.const 0) code (.const c) 2],t)) a w:=⟨by rw[fW];exact h1.t,h1.d,hP,hO⟩
    exact(EK (l:=r) hR).mono λba db jO _ _ ⟨g1,g2⟩=>⟨g1,by rw[g2,fW]⟩
  ·exact ar.fail
theorem natsM_holds {G:cP} {xB:Unit->Nat->T}:∀{k n:Nat} {ρ:Env} {offs:List Int},(zx k n xB).holds S L G ρ->offs.length=k->(∀z∈offs,0<=z)->(xB () (n+k)).holds S L G (bP ρ n offs)
 |0,n,ρ,[],h,_,_=>h
 |k+1,n,ρ,z::zs,h,hl,h0=>by
  have h1:(zx k (n+1) xB).holds S L G (cl ρ n z):=h z (h0 z (by simp))
  have:=natsM_holds (offs:=zs) h1 (by simpa using hl) λy hy=>h0 y (List.mem_cons_of_mem _ hy)
  rw[show n+(k+1)=n+1+k by omega];exact this
 |0,_,_,_::_,_,hl,_=>by simp at hl
 |_+1,_,_,[],_,hl,_=>by simp at hl
def kZ (w0:cR) (w:World) (tmps:Array Value) (D:Nat->Prop) (F:Nat->Prop):List (Nat×List az)->List Nat->List Int->List Int->Prop
 |[],[],[],[]=>True
 |(s,sh)::r,g::gs,o::os,code::len::cap::zs=>(∀x,tmps[s]?=some x->x=if cap<0 then .slice (jJ cap g) 0 0 else .slice (some ⟨g,o.toNat,none⟩) len.toNat cap.toNat)/\sy o 0 len cap/\(0<=code/\code<=au)/\(cap<0->ae code=[])/\
    (0<=cap->(w0.ex g∨w0.ro g∨w0.r.heap.size<=g)/\∃(cells:Array Value) (t:TypeId) (fz:Nat×Nat),w.heap[g]?=some (.cells cells t fz)/\fZ D w cells o.toNat sh (ae code))/\
    (0<=cap->F g)/\kZ w0 w tmps D F r gs os zs
 |_,_,_,_=>False
theorem kZ.len {w:World} {tmps:Array Value} {D F:Nat->Prop}:∀{l:List (Nat×List az)} {gs:List Nat} {os zs:List Int},kZ w0 w tmps D F l gs os zs->os.length=l.length/\∀z∈os,0<=z
 |[],[],[],[],_=>⟨rfl,λ_ h=>by simp at h⟩
 |(s,sh)::r,g::gs,o::os,code::len::cap::zs,h=>by
  obtain⟨_,h2,_,_,_,_,h7⟩:=h
  obtain⟨i1,i2⟩:=kZ.len h7
  exact⟨by simp[i1],λz hz=>by
   rcases List.mem_cons.1 hz with rfl|hz
   ·exact h2.1.1
   ·exact i2 z hz⟩
 |_::_,[],_,_,h=>h.elim
 |_::_,_::_,[],_,h=>h.elim
 |_::_,_::_,_::_,[],h=>h.elim
 |_::_,_::_,_::_,[_],h=>h.elim
 |_::_,_::_,_::_,[_,_],h=>h.elim
 |[],_::_,_,_,h=>h.elim
 |[],[],_::_,_,h=>h.elim
 |[],[],[],_::_,h=>h.elim
theorem JX {w:World} {tmps:Array Value} {D F:Nat->Prop}:∀{l:List (Nat×List az)} {gs:List Nat} {os zs:List Int},kZ w0 w tmps D F l gs os zs->bI (qc l) zs
 |[],[],[],[],_=>trivial
 |(s,sh)::r,g::gs,o::os,code::len::cap::zs,⟨f1,f2,f3,f4,f5,f6,f7⟩=>⟨f3.1,f3.2,f2.1.2.2.1,f2.1.2.2.2,f2.2.1.1,by have:=f2.2.1.2;omega,JX f7⟩
 |_::_,[],_,_,h=>h.elim
 |_::_,_::_,[],_,h=>h.elim
 |_::_,_::_,_::_,[],h=>h.elim
 |_::_,_::_,_::_,[_],h=>h.elim
 |_::_,_::_,_::_,[_,_],h=>h.elim
 |[],_::_,_,_,h=>h.elim
 |[],[],_::_,_,h=>h.elim
 |[],[],[],_::_,h=>h.elim
theorem xc {n:Nat} {ρ:Env} {m:Nat->Nat} {tm:List V} {bl:List ax} {a:Act} {w:World} (h:R w0 n ρ m tm bl a w):∀{l:List (Nat×List az)} {ls:List J},qd l tm bl=some ls->
 (∀x∈ls,J.aX n x)/\ls.length=(qc l).length/\∃gs os,kZ w0 w a.tmps (bD w0 ρ m bl) (λg=>∃(i:Nat) (p:ax),bl[i]?=some p/\m i=g/\a6 ρ p.1=1) l gs os (ls.map (·.den ρ))
 |[],ls,he=>by
  simp only[qd,Option.some.injEq]at he
  subst he
  exact⟨λ_ h=>by simp at h,rfl,[],[],trivial⟩
 |(s,sh)::r,ls,he=>by
  unfold qd at he
  split at he
  ·rename_i hs
   split at he
   ·rename_i l1 hr
    simp only[Option.some.injEq]at he
    subst he
    obtain⟨g1,g2,gs,os,g3⟩:=xc h hr
    refine⟨λx hx=>?_,by simp[qc]at g2⊢;omega,0::gs,0::os,λx hx=>?_,?_,?_,?_,?_,?_,g3⟩
    ·simp only[List.mem_cons]at hx
     rcases hx with rfl|rfl|rfl|hx
     ·exact J.bU _ _
     ·exact J.bU _ _
     ·exact J.bU _ _
     ·exact g1 x hx
    ·obtain⟨_,y,h2,h3⟩:=h.t.2 s _ hs
     rw[h2]at hx;cases hx
     have oa:(J.const (-1)).den ρ<0:=by rw[J.aS];decide
     simp only[oa,if_true]
     exact h3
    ·simp only[J.aS];exact⟨⟨by omega,by omega,by omega,by omega⟩,⟨by omega,by omega⟩,λ_=>rfl,λh=>by omega⟩
    ·simp only[J.aS];exact⟨Int.le_refl _,Int.le_trans (dk []) (j4 (l:=[]) (by simp) (by simp))⟩
    ·intro _;simp only[J.aS];exact dY
    ·simp only[J.aS];intro h;omega
    ·simp only[J.aS];intro h;omega
   ·cases he
  ·rename_i b off hs
   split at he
   ·rename_i l1 hr
    simp only[Option.some.injEq]at he
    subst he
    obtain⟨g1,g2,gs,os,g3⟩:=xc h hr
    obtain⟨c,g,⟨hc1,hc2⟩,iu⟩:=AA (some ⟨m b,off,none⟩)
    have lp:c=-2:=by
     by_cases hc:c=-1
     ·have:=MN c g
      rw[iu,decide_eq_true hc]at this;cases this
     ·omega
    subst lp
    refine⟨λx hx=>?_,by simp[qc]at g2⊢;omega,g::gs,0::os,λx hx=>?_,?_,?_,?_,?_,?_,g3⟩
    ·simp only[List.mem_cons]at hx
     rcases hx with rfl|rfl|rfl|hx
     ·exact J.bU _ _
     ·exact J.bU _ _
     ·exact J.bU _ _
     ·exact g1 x hx
    ·obtain⟨_,y,h2,h3⟩:=h.t.2 s _ hs
     rw[h2]at hx;cases hx
     have oa:(J.const (-2)).den ρ<0:=by rw[J.aS];decide
     simp only[oa,if_true]
     rw[J.aS,iu]
     exact h3
    ·simp only[J.aS];exact⟨⟨by omega,by omega,by omega,by omega⟩,⟨by omega,by omega⟩,λ_=>rfl,λh=>by omega⟩
    ·simp only[J.aS];exact⟨Int.le_refl _,Int.le_trans (dk []) (j4 (l:=[]) (by simp) (by simp))⟩
    ·intro _;simp only[J.aS];exact dY
    ·simp only[J.aS];intro h;omega
    ·simp only[J.aS];intro h;omega
   ·cases he
  ·rename_i b aV o ro len cap hs
   split at he
   ·rename_i cn off code cu kind t hbl
    cases hc:(hZ sh cn&&Nat.beq kind 1&&J.beq o off&&J.beq ro (.const 0)&&J.beq cap cu&&Nat.beq aV sh.length)with
    |false=>rw[hc]at he;cases he
    |true=>
     rw[hc]at he
     simp only[cond_true]at he
     split at he
     ·rename_i l1 hr
      simp only[Option.some.injEq]at he
      subst he
      simp only[Bool.and_eq_true]at hc
      obtain⟨⟨⟨⟨⟨c1,aU⟩,bL⟩,b9⟩,du⟩,e0⟩:=hc
      have c1:=mU c1;have aU:=Nat.eq_of_beq_eq_true aU;have bL:=J.beq_eq bL;have b9:=J.beq_eq b9;have du:=J.beq_eq du;have e0:=Nat.eq_of_beq_eq_true e0
      subst c1;subst aU;subst bL;subst b9;subst du;subst e0
      obtain⟨g1,g2,gs,os,g3⟩:=xc h hr
      obtain⟨a8,y,h2,h3⟩:=h.t.2 s _ hs
      have a8:(A.sl b sh.length o (.const 0) len cap).ok n bl.length ρ:=a8
      obtain⟨x1,⟨cU,dm,gA,gX⟩,ia⟩:=a8
      simp only[J.aS]at ia
      have dw:(A.rows sh o code cap 1).ok n bl.length ρ:=h.b _ (List.mem_of_getElem? hbl) _ (by simp)
      obtain⟨⟨r1,r2,eR⟩,oU,uD⟩:=dw
      have fq:=h.bm.rws b sh o code cap 1 t hbl (by decide)
      refine⟨λx hx=>?_,by simp[qc]at g2⊢;omega,m b::gs,o.den ρ::os,λx hx=>?_,ia,oU,fq.1,λh0=>?_,λh0=>?_,g3⟩
      ·simp only[List.mem_cons]at hx
       rcases hx with rfl|rfl|rfl|hx
       ·exact r2
       ·exact gA
       ·exact gX
       ·exact g1 x hx
      ·have Dg:y=x:=Option.some.inj (h2.symm.trans hx)
       subst Dg
       have h3:y=(A.sl b sh.length o (.const 0) len cap).den ρ m:=h3
       rw[h3]
       simp only[A.den,J.aS]
       split<;>simp
      ·obtain⟨q0,cells,e9,fz,k1,⟨k2,k3⟩,k4⟩:=fq.2 h0
       exact⟨q0,cells,e9,fz,k1,k3⟩
      ·exact⟨b,_,hbl,rfl,gi (by decide) h0⟩
     ·cases he
   ·cases he
  ·cases he
theorem kZ.mono {w:World} {tmps:Array Value} {D F F':Nat->Prop} (hF:∀g,F g->F' g):∀{l:List (Nat×List az)} {gs:List Nat} {os zs:List Int},kZ w0 w tmps D F l gs os zs->kZ w0 w tmps D F' l gs os zs
 |[],[],[],[],_=>trivial
 |(s,sh)::r,g::gs,o::os,code::len::cap::zs,⟨f1,f2,f3,f4,f5,f6,f7⟩=>⟨f1,f2,f3,f4,f5,λh=>hF g (f6 h),kZ.mono hF f7⟩
 |_::_,[],_,_,h=>h.elim
 |_::_,_::_,[],_,h=>h.elim
 |_::_,_::_,_::_,[],h=>h.elim
 |_::_,_::_,_::_,[_],h=>h.elim
 |_::_,_::_,_::_,[_,_],h=>h.elim
 |[],_::_,_,_,h=>h.elim
 |[],[],_::_,_,h=>h.elim
 |[],[],[],_::_,h=>h.elim
theorem A3 {lo:Nat} {tm:List V} {bl:List ax}:∀{l:List (Nat×List az×TypeId)} {used:List Nat} {ls:List J} {u:List Nat},m6 lo l tm bl used=some (ls,u)->∀b∈u,b∈used∨∃sh off code cap t,bl[b]?=some ([.rows sh off code cap 2],t)
 |[],used,ls,u,he=>by
  simp only[m6,Option.some.injEq,Prod.mk.injEq]at he
  obtain⟨rfl,rfl⟩:=he
  exactλb hb=> .inl hb
 |(s,sh,e)::r,used,ls,u,he=>by
  unfold m6 at he
  split at he
  ·split at he
   ·rename_i l1 o0 hr
    simp only[Option.some.injEq,Prod.mk.injEq]at he
    obtain⟨rfl,rfl⟩:=he
    exact A3 hr
   ·cases he
  ·rename_i b aV o ro len cap hs
   split at he
   ·rename_i cn off code cu kind t hbl
    cases hc:(hZ sh cn&&Nat.beq kind 2&&J.beq o (.const 0)&&J.beq off (.const 0)&&J.beq ro (.const 0)&&J.beq cap cu&&Nat.beq t.1 e&&Nat.beq aV sh.length&&Nat.ble lo b&& !(used.any (Nat.beq b)))with
    |false=>rw[hc]at he;cases he
    |true=>
     rw[hc]at he
     simp only[cond_true]at he
     split at he
     ·rename_i l1 o0 hr
      simp only[Option.some.injEq,Prod.mk.injEq]at he
      obtain⟨rfl,rfl⟩:=he
      simp only[Bool.and_eq_true]at hc
      obtain⟨⟨⟨⟨⟨⟨⟨⟨⟨c1,aU⟩,bL⟩,b9⟩,du⟩,e0⟩,lJ⟩,lK⟩,ph⟩,Bo⟩:=hc
      have aU:=Nat.eq_of_beq_eq_true aU
      subst aU
      intro bX hb'
      rcases A3 hr bX hb' with h5|h5
      ·rcases List.mem_cons.1 h5 with rfl|h5
       ·exact .inr ⟨_,_,_,_,_,hbl⟩
       ·exact .inl h5
      ·exact .inr h5
     ·cases he
   ·cases he
  ·cases he
theorem DD {i:Nat} {p:ax}:∀{us:List Nat} {bl:List ax},bl[i]?=some p->i∉us->(iw us bl)[i]?=some p
 |[],bl,h,_=>h
 |b::r,bl,h,hi=>by
  unfold iw
  split
  ·refine DD ?_ λh=>hi (List.mem_cons_of_mem _ h)
   rw[hY,List.getElem?_set_ne (λe=>hi (by simp[e]))];exact h
  ·exact DD h λh=>hi (List.mem_cons_of_mem _ h)
theorem I4 {N:Nat} {ba:Env} {a:Act} {w:World} {D F:Nat->Prop}:∀{l:List (Nat×List az)} {gs:List Nat} {os zs:List Int} {v u:Nat} {tm:List V} {bl:List ax} {m:Nat->Nat},R w0 N ba m tm bl a w->(∀g,D g->bD w0 ba m bl g)->ml w0 ba m bl w D->kZ w0 w a.tmps D F l gs os zs->(∀g,F g->∀(i:Nat) (p:ax),bl[i]?=some p->m i=g->a6 ba p.1<=1)->
 (∀j,j<zs.length->ba (v+j)=zs.getD j 0)->(∀j,j<os.length->ba (u+j)=os.getD j 0)->v+zs.length<=N->u+os.length<=N->
 ∃dX,(∀b,b<bl.length->dX b=m b)/\bl.length<=(headD l v u tm bl).2.length/\R w0 N ba dX (headD l v u tm bl).1 (headD l v u tm bl).2 a w/\(∀(i:Nat) (p:ax),(headD l v u tm bl).2[i]?=some p->(i<bl.length/\bl[i]?=some p)∨(a6 ba p.1≠0->F (dX i)))/\(∀g,D g->bD w0 ba dX (headD l v u tm bl).2 g)/\ml w0 ba dX (headD l v u tm bl).2 w D
 |[],[],[],[],v,u,tm,bl,m,h,og,hU,_,_,_,_,_,_=>⟨m,λ_ _=>rfl,Nat.le_refl _,h,λi p hp=> .inl ⟨(List.getElem?_eq_some_iff.1 hp).1,hp⟩,og,hU⟩
 |(s,sh)::r,g::gs,o::os,code::len::cap::zs,v,u,tm,bl,m,h,og,hU,hf,hF,hv,hu,hN,Ca=>by
  obtain⟨f1,f2,f3,f4,f5,f6,f7⟩:=hf
  have v0:=hv 0 (by simp)
  have v1:=hv 1 (by simp)
  have v2:=hv 2 (by simp)
  have u0:=hu 0 (by simp)
  simp only[List.getD_cons_zero,List.getD_cons_succ,Nat.add_zero]at v0 v1 v2 u0
  simp only[List.length_cons]at hN Ca
  have hc:(-2:Int)<=cap/\cap<=9223372036854775807:=⟨f2.2.1.1,by have:=f2.2.1.2;omega⟩
  have hA:(A.rows sh (.var u) (.var v) (.var (v+2)) 1).ok N bl.length ba:=⟨⟨J.da (by omega),J.da (by omega),J.da (by omega)⟩,by rw[J.bH,v0];exact f3,by rw[J.bH,v2];exact hc⟩
  have CR:a6 ba [A.rows sh (.var u) (.var v) (.var (v+2)) 1]<=1:=by
   simp only[a6]
   split<;>omega
  have rh:∀bA,D bA->bD w0 ba (fa m bl.length g) (bl++[([.rows sh (.var u) (.var v) (.var (v+2)) 1],(0,false))]) bA:=λbA gM=>(og bA gM).push (.inl CR)
  have gO:fE w0 ba D g sh (.var u) (.var v) (.var (v+2)) 1 0 w:=by
   intro _
   simp only[J.bH,v0,v2,u0]
   refine⟨f4,λh0=>?_⟩
   obtain⟨c9,cells,t,fz,k1,k2⟩:=f5 h0
   exact⟨c9,cells,t,fz,k1,⟨f2.1.1,k2⟩,λbk=>by omega⟩
  have Cc:ml w0 ba (fa m bl.length g) (bl++[([.rows sh (.var u) (.var v) (.var (v+2)) 1],(0,false))]) w D:=λi cn cY code' cW ea t' hi=>by
   rcases w9 hi with⟨bM,h1⟩|⟨rfl,h1⟩
   ·rw[fX bM];exact hU i cn cY code' cW ea t' h1
   ·cases h1
    rw[h9];exact gO
  have hO:=h.bm.push (x:=([.rows sh (.var u) (.var v) (.var (v+2)) 1],(0,false))) (g:=g) h.b (λy hy=>by simp at hy;subst hy;exact hA) (λho=>by cases ho) (λcn cY code' cW ea he=>by
   cases he
   exact gO.mono rh) (λi p hi he=>by
   rcases Int.lt_or_le cap 0 with h0|h0
   ·refine .inr (.inr ?_)
    simp only[a6,J.bH,v2]
    rw[if_pos h0]
   ·exact .inl ⟨hF g (f6 h0) i p hi he,CR⟩) (λi cn cY code' cW ea t' hi=>(hU i cn cY code' cW ea t' hi).mono rh)
  have hL:=cv.alloc N ba m bl ([A.rows sh (.var u) (.var v) (.var (v+2)) 1],(0,false)) g
  have hR:R w0 N ba (fa m bl.length g) (mT tm s (.w (.one (.sl bl.length sh.length (.var u) (.const 0) (.var (v+1)) (.var (v+2)))))) (bl++[([.rows sh (.var u) (.var v) (.var (v+2)) 1],(0,false))]) a w:=by
   refine⟨cI.set (h.t.ext hL.ha hL.hn hL.hb hL.hm) ?_ λx hx=>?_,h.d,h.b.alloc (λy hy=>by simp at hy;subst hy;exact hA),hO⟩
   ·refine⟨by simp,⟨J.da (by omega),J.bU _ _,J.da (by omega),J.da (by omega)⟩,?_⟩
    simp only[J.aS,J.bH,v1,v2,u0];exact f2
   ·rw[f1 x hx]
    simp only[V.rel,W.den,A.den,J.aS,J.bH,v1,v2,u0,h9]
    split<;>simp
  obtain⟨dX,q1,q2,q3,q4,lD,l6⟩:=I4 (F:=F) (l:=r) (gs:=gs) (os:=os) (zs:=zs) (v:=v+3) (u:=u+1) hR rh Cc f7 (λbA gM i p hi he=>by
   rw[List.getElem?_append]at hi
   split at hi
   ·rename_i bM
    rw[fX bM]at he
    exact hF bA gM i p hi he
   ·have bM:=(List.getElem?_eq_some_iff.1 hi).1
    have:i=bl.length:=by simp at bM;omega
    subst this
    simp only[Nat.sub_self,List.getElem?_cons_zero,Option.some.injEq]at hi
    subst hi
    exact CR) (λj hj=>by
   have:=hv (j+3) (by simp only[List.length_cons];omega)
   rw[show v+3+j=v+(j+3) by omega];simpa using this) (λj hj=>by
   have:=hu (j+1) (by simp only[List.length_cons];omega)
   rw[show u+1+j=u+(j+1) by omega];simpa using this) (by omega) (by omega)
  simp only[List.length_append,List.length_cons,List.length_nil]at q1 q2
  refine⟨dX,λb hb=>by rw[q1 b (by omega)];exact fX hb,by unfold headD;omega,by unfold headD;exact q3,λi p hp=>?_,by unfold headD;exact lD,by unfold headD;exact l6⟩
  unfold headD at hp
  rcases q4 i p hp with⟨q5,q6⟩|q5
  ·simp only[List.length_append,List.length_cons,List.length_nil]at q5
   rw[List.getElem?_append]at q6
   split at q6
   ·rename_i bM;exact .inl ⟨bM,q6⟩
   ·rename_i bM
    have hi:i=bl.length:=by omega
    subst hi
    simp only[Nat.sub_self,List.getElem?_cons_zero,Option.some.injEq]at q6
    subst q6
    refine .inr λh0=>?_
    rw[q1 bl.length (by omega),h9]
    refine f6 ?_
    rcases Int.lt_or_le cap 0 with h1|h1
    ·refine absurd ?_ h0
     simp only[a6,J.bH,v2]
     rw[if_pos h1]
    ·exact h1
  ·exact .inr q5
 |_::_,[],_,_,_,_,_,_,_,_,_,_,h,_,_,_,_,_=>h.elim
 |_::_,_::_,[],_,_,_,_,_,_,_,_,_,h,_,_,_,_,_=>h.elim
 |_::_,_::_,_::_,[],_,_,_,_,_,_,_,_,h,_,_,_,_,_=>h.elim
 |_::_,_::_,_::_,[_],_,_,_,_,_,_,_,_,h,_,_,_,_,_=>h.elim
 |_::_,_::_,_::_,[_,_],_,_,_,_,_,_,_,_,h,_,_,_,_,_=>h.elim
 |[],_::_,_,_,_,_,_,_,_,_,_,_,h,_,_,_,_,_=>h.elim
 |[],[],_::_,_,_,_,_,_,_,_,_,_,h,_,_,_,_,_=>h.elim
 |[],[],[],_::_,_,_,_,_,_,_,_,_,h,_,_,_,_,_=>h.elim
theorem I5 {D:Nat->Prop} {li:c0} {n:Nat} {bu ag:Env} {m0 m':Nat->Nat} {tm bB gU oZ:List V} {bl aW eA n3:List ax} {l1 l2 v1 v2 lb la fA:List J} {b1 b2 sQ qL:List (Int×Int)} {n':Nat} {a:Act} {w:World} {NA ND NN:Nat} {gs:List Nat} {os:List Int}
 (hlen:bl.length<=aW.length)
 (ha:agree n bu ag) (hm:∀b,b<bl.length->m' b=m0 b) (ht:∀v∈tm,V.ok n bl.length bu v) (gK:bQ n bl.length bu bl)
 (h:R w0 n' ag m' bB aW a w) (e1:hs li.keep li.ints 0 (n+1) tm=some (gU,l1,b1)) (e2:hb li.cells 0 (n+1+l1.length) bl=some (eA,l2,b2))
 (e3:hs li.keep li.ints 0 (n+1) bB=some (oZ,v1,sQ)) (eo:hb li.cells 0 (n+1+v1.length) (aW.take bl.length)=some (n3,v2,qL))
 (f1:iZ gU oZ=true) (f2:ka eA n3=true) (IM:sG a.tmps li.kB (lb.map (·.den ag))) (tv:qs w0 w a.tmps D (λg=>(∀(i:Nat) (p:ax),i<bl.length->aW[i]?=some p->m' i=g->a6 ag p.1=0)/\¬∃(i:Nat) (p:ax),aW[i]?=some p/\m' i=g/\a6 ag p.1=1) li.j6 (la.map (·.den ag)))
 (og:∀g,D g->bD w0 ag m' aW g) (hU:ml w0 ag m' aW w D)
 (tO:kZ w0 w a.tmps D (λg=>∃(i:Nat) (p:ax),aW[i]?=some p/\m' i=g/\a6 ag p.1=1) li.fK gs os (fA.map (·.den ag)))
 (Ix:NA=n+1+l1.length+l2.length+lb.length) (Iy:ND=n+1+l1.length+l2.length+(lb++la).length) (Iz:NN=n+1+l1.length+l2.length+(lb++la++fA).length):
 bI (b1++b2++(x8 li.kB++qF li.j6++qc li.fK)) ((v1++v2++(lb++la++fA)).map (·.den ag))/\∃dX,(∀b,b<bl.length->dX b=m0 b)/\bl.length<=(lq li.j6 NA (headD li.fK ND NN (mC li.kB (n+1+l1.length+l2.length) gU) eA).1 (headD li.fK ND NN (mC li.kB (n+1+l1.length+l2.length) gU) eA).2).2.length/\
  R w0 (NN+li.fK.length) (bP (bP bu (n+1) ((v1++v2++(lb++la++fA)).map (·.den ag))) NN os) dX (lq li.j6 NA (headD li.fK ND NN (mC li.kB (n+1+l1.length+l2.length) gU) eA).1 (headD li.fK ND NN (mC li.kB (n+1+l1.length+l2.length) gU) eA).2).1 (lq li.j6 NA (headD li.fK ND NN (mC li.kB (n+1+l1.length+l2.length) gU) eA).1 (headD li.fK ND NN (mC li.kB (n+1+l1.length+l2.length) gU) eA).2).2 a w:=by
 obtain⟨Sa,i1,i2,i3,i4,i5,i6⟩:=QL (D:=D) (ext:=lb++la++fA) hlen ha hm ht gK h e1 e2 e3 eo f1 f2 og hU
 obtain⟨RB,aao⟩:=tO.len
 subst Ix;subst Iy;subst Iz
 have pH:∀j,j<(lb++la++fA).length->bP bu (n+1) ((v1++v2++(lb++la++fA)).map (·.den ag)) (n+1+l1.length+l2.length+j)=((lb++la++fA).map (·.den ag)).getD j 0:=λj hj=>by
  rw[show n+1+l1.length+l2.length+j=n+1+(v1.length+v2.length+j) by omega,xz _ _ _ _ (by simp at hj⊢;omega)]
  rw[List.map_append (l₁:=v1++v2),List.getD_eq_getElem?_getD,List.getElem?_append_right (by simp),List.getD_eq_getElem?_getD]
  congr 2
  simp
 generalize aau:bP bu (n+1) ((v1++v2++(lb++la++fA)).map (·.den ag))=ba at*
 have lQ:agree (n+1+l1.length+l2.length+(lb++la++fA).length) ba (bP ba (n+1+l1.length+l2.length+(lb++la++fA).length) os):=agree.bP os _ ba
 have Sn:=i2.later (Nat.le_add_right _ li.fK.length) lQ
 have CE:∀j,j<(lb++la++fA).length->bP ba (n+1+l1.length+l2.length+(lb++la++fA).length) os (n+1+l1.length+l2.length+j)=((lb++la++fA).map (·.den ag)).getD j 0:=λj hj=>by
  rw[<-pH j hj]
  exact(lQ _ (by omega))
 have y0:∀(i:Nat) (p:ax),eA[i]?=some p->a6 (bP ba (n+1+l1.length+l2.length+(lb++la++fA).length) os) p.1=a6 ba p.1:=λi p hi=>jC (i2.b p (List.mem_of_getElem? hi)) lQ
 have Sp:∀g,D g->bD w0 (bP ba (n+1+l1.length+l2.length+(lb++la++fA).length) os) m0 eA g:=λg hg=>bD.dA i2.b lQ (i5 g hg)
 have Sq:ml w0 (bP ba (n+1+l1.length+l2.length+(lb++la++fA).length) os) m0 eA w D:=λi sh off code cap kind t hi=>(i6 i sh off code cap kind t hi).dA (i2.b _ (List.mem_of_getElem? hi) _ (by simp)) lQ
 generalize Sm:bP ba (n+1+l1.length+l2.length+(lb++la++fA).length) os=ek at*
 have hB:=I3 (v:=n+1+l1.length+l2.length) Sn IM (λj hj=>by
  simp only[List.length_map]at hj
  rw[CE j (by simp;omega),List.append_assoc,List.map_append,List.getD_eq_getElem?_getD,List.getElem?_append_left (by simpa using hj),List.getD_eq_getElem?_getD]) (by simp;omega)
 obtain⟨jj,p1,bz,cd,eE,eV,gk⟩:=I4 (D:=D) (v:=n+1+l1.length+l2.length+(lb++la).length) (u:=n+1+l1.length+l2.length+(lb++la++fA).length) hB Sp Sq tO (λg hg i p hi he=>by
  obtain⟨g1,bV,g2,g3⟩:=i4 i p hi
  rw[y0 i p hi,g3]
  obtain⟨j,q,q1,q2,q3⟩:=hg
  rcases h.bm.inj i j bV q g2 q1 (by rw[q2,<-he,hm i g1])with bk|bk|bk|bk
  ·subst bk
   rw[g2]at q1;cases q1
   omega
  ·exact bk.1
  ·omega
  ·omega) (λj hj=>by
  simp only[List.length_map]at hj
  rw[show n+1+l1.length+l2.length+(lb++la).length+j=n+1+l1.length+l2.length+((lb++la).length+j) by omega,CE _ (by simp at hj⊢;omega),List.map_append (l₁:=lb++la),List.getD_eq_getElem?_getD,List.getElem?_append_right (by simp),List.getD_eq_getElem?_getD]
  congr 2
  simp) (λj hj=>by rw[<-Sm,xz _ _ _ _ hj]) (by simp only[List.length_map,List.length_append];omega) (by rw[RB];exact Nat.le_refl _)
 obtain⟨dX,q1,q2,q3⟩:=I2 (v:=n+1+l1.length+l2.length+lb.length) cd eV gk tv (λg hg i p hi he=>by
  rcases eE i p hi with⟨g0,g1⟩|g1
  ·obtain⟨gx,bV,g2,g3⟩:=i4 i p g1
   rw[y0 i p g1,g3]
   exact hg.1 i bV gx g2 (by rw[hm i gx,<-p1 i g0];exact he)
  ·by_cases h0:a6 ek p.1=0
   ·exact h0
   ·have:=g1 h0
    rw[he]at this
    exact absurd this hg.2) (λj hj=>by
  simp only[List.length_map]at hj
  rw[show n+1+l1.length+l2.length+lb.length+j=n+1+l1.length+l2.length+(lb.length+j) by omega,CE _ (by simp;omega),List.append_assoc,List.map_append,List.getD_eq_getElem?_getD,List.getElem?_append_right (by simp),List.map_append,List.getElem?_append_left (by simp;omega),List.getD_eq_getElem?_getD]
  congr 2
  simp) (by simp;omega)
 refine⟨?_,dX,λb hb=>by rw[q1 b (by rw[i3]at bz;omega),p1 b (by rw[i3];exact hb)],by rw[i3]at bz;omega,q3⟩
 rw[List.map_append,List.map_append (l₁:=lb++la),List.map_append (l₁:=lb)]
 exact oH i1 (oH (oH (JW IM) (JU tv)) (JX tO))
theorem Bj {a b c:Nat} (h:a=c) (h':b=c):b=a:=h'.trans h.symm
theorem zq {n:Nat} {ρ:Env} {m:Nat->Nat} {tm:List V} {a:Act} {w:World}:∀{l:List (Nat×List az)} {bl:List ax} (bB:List V),R w0 n ρ m tm bl a w->R w0 n ρ m tm (p5 l bB bl) a w/\(p5 l bB bl).length=bl.length
 |[],bl,bB,h=>⟨h,rfl⟩
 |(s,_)::r,bl,bB,h=>by
  unfold p5
  split
  ·rename_i x _
   obtain⟨h1,h2⟩:=Ku h x
   obtain⟨h3,h4⟩:=zq (l:=r) bB h1
   exact⟨h3,by rw[h4,h2]⟩
  ·exact zq (l:=r) bB h
theorem TK {li:c0} {c:Code} {e:Nat->List V->List ax->jM->T} (hd:rd=none∨jk c=true) (he:xE rd S L w0 P c e) {Q:Exit->Act->World->Prop} {n:Nat} {ρ:Env} {m:Nat->Nat} {tm:List V} {bl:List ax} {a:Act} {w:World} {G:cP} {k:jM}
 (h:R w0 n ρ m tm bl a w) (al:(DX li e n tm bl k).holds S L G ρ) (hk:qw S L w0 k n bl.length ρ m G Q):(Code.loop c).wpIn (ku rd) 0 P Q a w:=by
 unfold DX at al
 obtain⟨MS,KU,G3,Js,II,⟨hz1,wG⟩,al⟩:=EK (S:=S) (L:=L) h G _ al
 have hk:=hk.later (⟨Js,II,by rw[wG];exact Nat.le_refl _,λ_ _=>rfl⟩:cv n bl.length ρ m KU G3.length MS m) (c5.refl _ G)
 clear h
 have h:=hz1
 clear hz1 wG Js II
 revert h hk al
 generalize KU=n
 generalize MS=ρ
 generalize G3=bl
 intro al hk h
 obtain⟨bu,n0,tm,jy,ha0,R1,al⟩:=vy (S:=S) (L:=L) h.t G _ al
 have vC:=h.later jy ha0
 have h:R w0 n0 bu m tm bl a w:=⟨R1,vC.d,vC.b,vC.bm⟩
 have hk:=hk.later (⟨jy,ha0,Nat.le_refl _,λ_ _=>rfl⟩:cv n bl.length ρ m n0 bl.length bu m) (c5.refl _ G)
 obtain⟨aH,n1,lb,c7,cm,⟨s1,s2,l7⟩,al⟩:=Bk (S:=S) (L:=L) h.t G _ al
 have h1:=h.later c7 cm
 have hk:=hk.later (⟨c7,cm,Nat.le_refl _,λ_ _=>rfl⟩:cv n0 bl.length bu m n1 bl.length aH m) (c5.refl _ G)
 split at al
 rotate_left
 ·exact al.elim
 rename_i gU l1 b1 la us fA e1 HM OV
 obtain⟨a1,a2,_,_,a5⟩:=xQ h1 HM
 obtain⟨k1,k2,k3⟩:=DE (us:=us) h1
 obtain⟨r1,r2,gs,os,eR⟩:=xc h1 OV
 cases e2:hb li.cells 0 (n1+1+l1.length) (iw us bl)with
 |none=>rw[e2]at al;exact al.elim
 |some q2=>
  obtain⟨eA,l2,b2⟩:=q2
  rw[e2]at al
  simp only at al
  cases hf:(iZ gU gU&&ka eA eA)with
  |false=>rw[hf]at al;exact al.elim
  |true=>
   rw[hf]at al
   simp only[Bool.not_true,cond_false,T.holds]at al
   simp only[Bool.and_eq_true]at hf
   obtain⟨I,kV,PH,hB⟩:=al
   have JH:∀v∈tm,V.ok n1 (iw us bl).length aH v:=λv hv=>by
    obtain⟨i,hi⟩:=List.getElem?_of_mem hv
    exact(k1.t.2 i v hi).1
   have OQ:hb li.cells 0 (n1+1+l1.length) ((iw us bl).take (iw us bl).length)=some (eA,l2,b2):=by rw[List.take_length];exact e2
   have Qf:qs w0 w a.tmps (bD w0 aH m bl) (λg=>(∀(i:Nat) (p:ax),i<(iw us bl).length->(iw us bl)[i]?=some p->m i=g->a6 aH p.1=0)/\¬∃(i:Nat) (p:ax),(iw us bl)[i]?=some p/\m i=g/\a6 aH p.1=1) li.j6 (la.map (·.den aH)):=by
    refine a5 _ λb p hb _ hbl e7 gf=>?_
    have key:∀(i:Nat) (q:ax),(iw us bl)[i]?=some q->m i=m b->a6 aH q.1=0:=λi q hi he=>by
     rcases k3 i q hi with⟨g1,g2⟩|g1
     ·by_cases ff:i=b
      ·subst ff
       rw[hbl]at g1;cases g1
       rcases g2 hb with g2|g2
       ·rw[gf]at g2;cases g2
       ·exact g2
      ·rcases h1.bm.inj i b q p g1 hbl he with g3|g3|g3|g3
       ·exact absurd g3 ff
       ·omega
       ·exact g3
       ·omega
     ·exact g1
    exact⟨λi q _ hi he=>key i q hi he,λ⟨i,q,hi,he,hk⟩=>by have:=key i q hi he;omega⟩
   have tO:kZ w0 w a.tmps (bD w0 aH m bl) (λg=>∃(i:Nat) (p:ax),(iw us bl)[i]?=some p/\m i=g/\a6 aH p.1=1) li.fK gs os (fA.map (·.den aH)):=by
    refine eR.mono λg ⟨i,p,hi,he,hk⟩=>⟨i,p,DD hi λhu=>?_,he,hk⟩
    rcases A3 HM i hu with bk|⟨sh,off,code,cap,t,bk⟩
    ·simp at bk
    ·rw[hi]at bk
     cases bk
     simp only[a6]at hk
     split at hk<;>omega
   obtain⟨i1,dX,i2,i3,i4⟩:=I5 (Nat.le_refl _) (agree.refl n1 aH) (λ_ _=>rfl) JH k1.b k1 e1 e2 e1 OQ hf.1 hf.2 l7 Qf (λg hg=>⟨hg.1,λi p hi hk=>by
    rcases k3 i p hi with⟨g1,_⟩|g1
    ·exact hg.2 i p g1 hk
    ·omega⟩) (λi sh off code cap kind t hi=>by
    rcases k3 i _ hi with⟨g1,_⟩|g1
    ·exact h1.bm.rws i sh off code cap kind t g1
    ·intro fR
     refine⟨(k1.bm.rws i sh off code cap kind t hi fR).1,λhc=>?_⟩
     simp only[gi fR hc]at g1
     exact absurd g1 fR) tO rfl rfl rfl
   generalize Iz:n1+1+l1.length+l2.length+(lb++la++fA).length=NN at*
   generalize Iy:n1+1+l1.length+l2.length+(lb++la).length=ND at*
   generalize Ix:n1+1+l1.length+l2.length+lb.length=NA at*
   generalize QH:headD li.fK ND NN (mC li.kB (n1+1+l1.length+l2.length) gU) eA=d at*
   refine wpIn_loop_ghost (λN cS w'=>∃zs os dX,bI (b1++b2++(x8 li.kB++qF li.j6++qc li.fK)) zs/\I zs/\kV zs=N/\(os.length=li.fK.length/\∀z∈os,0<=z)/\(∀b,b<(iw us bl).length->dX b=m b)/\
    R w0 (NN+li.fK.length) (bP (bP aH (n1+1) zs) NN os) dX (lq li.j6 NA d.1 d.2).1 (lq li.j6 NA d.1 d.2).2 cS w') (kV ((l1++l2++(lb++la++fA)).map (·.den aH))) ⟨_,os,dX,i1,PH,rfl,tO.len,i2,i4⟩ ?_
   rintro N a1 w1 ⟨zs,Eh,dX,hz1,wG,rfl,⟨tT,oF⟩,Si,ir⟩
   have tz:=natsM_holds (nY hB hz1 wG) tT oF
   refine he hd _ _ _ _ _ _ _ a1 w1 _ ir tz λx n' ag m' bB aW cV cS w' h1 h2 h3 h4=>?_
   have rn:agree n1 aH (bP aH (n1+1) zs):=(agree.bP _ (n1+1) aH).mono (by omega)
   have Qi:agree n1 aH (bP (bP aH (n1+1) zs) NN Eh):=rn.trans (agree.bP Eh NN _) (by omega)
   have PI:cv n1 bl.length aH m (NN+li.fK.length) (lq li.j6 NA d.1 d.2).2.length (bP (bP aH (n1+1) zs) NN Eh) dX:=⟨by omega,Qi,by rw[k2]at i3;exact i3,λb hb=>Si b (by rw[k2];exact hb)⟩
   have py:c5 n1 G (G.set n1 λvs=>I vs/\kV vs<kV zs):=λl hl=>by
    unfold cP.set
    cases hb:Nat.beq l n1 with
    |true=>have:=Nat.eq_of_beq_eq_true hb;omega
    |false=>rfl
   have hL:=PI.trans h1
   have PG:cV n1=λvs=>I vs/\kV vs<kV zs:=by
    rw[h2 n1 (by omega)]
    unfold cP.set
    have:Nat.beq n1 n1=true:=Nat.beq_refl n1
    rw[this];rfl
   cases x with
   |exit id=>exact hk (.exit id) n' ag m' bB aW cV cS w' hL (py.trans h2 (by omega)) h3 h4
   |ret=>exact hk .ret n' ag m' bB aW cV cS w' hL (py.trans h2 (by omega)) h3 h4
   |normal=>
    simp only at h4
    obtain⟨jx,nn⟩:=zq (l:=li.fK) bB h3
    obtain⟨aW,Qt⟩:∃N4,N4=p5 li.fK bB aW:=⟨_,rfl⟩
    rw[<-Qt]at h4 jx nn
    rw[<-nn]at hL
    have h3:=jx
    obtain⟨Fz,wX,bB,Jq,IF,R3,h4⟩:=vy (S:=S) (L:=L) h3.t cV _ h4
    have vF:=h3.later Jq IF
    have h3:R w0 wX Fz m' bB aW cS w':=⟨R3,vF.d,vF.b,vF.bm⟩
    have hL:=hL.trans (⟨Jq,IF,Nat.le_refl _,λ_ _=>rfl⟩:cv n' aW.length ag m' wX aW.length Fz m')
    obtain⟨lG,uv,Kj,cQ,cA,⟨t1,t2,t3⟩,h4⟩:=Bk (S:=S) (L:=L) h3.t cV _ h4
    have h3:=h3.later cQ cA
    split at h4
    rotate_left
    ·exact h4.elim
    rename_i oZ v1 sQ DJ jm Kv e3 OU OW
    obtain⟨c1,aU,_,b9,du⟩:=xQ h3 OU
    obtain⟨d1,d2,ZY,w6,d3⟩:=xc h3 OW
    cases eo:hb li.cells 0 (n1+1+v1.length) (aW.take bl.length)with
    |none=>rw[eo]at h4;exact h4.elim
    |some q4=>
     obtain⟨n3,v2,qL⟩:=q4
     rw[eo]at h4
     simp only at h4
     cases fe:(iZ gU oZ&&ka eA n3)with
     |false=>rw[fe]at h4;exact h4.elim
     |true=>
      rw[fe]at h4
      simp only[cond_true,T.holds,PG]at h4
      simp only[Bool.and_eq_true]at fe
      have hL2:=hL.trans (⟨cQ,cA,Nat.le_refl _,λ_ _=>rfl⟩:cv wX aW.length Fz m' uv aW.length lG m')
      have Qg:qs w0 w' cS.tmps (bD w0 lG m' aW) (λg=>(∀(i:Nat) (p:ax),i<(iw us bl).length->aW[i]?=some p->m' i=g->a6 lG p.1=0)/\¬∃(i:Nat) (p:ax),aW[i]?=some p/\m' i=g/\a6 lG p.1=1) li.j6 (DJ.map (·.den lG)):=by
       refine du _ λb p hb _ hbl e7 gf=>⟨λi q bM hi he=>?_,λ⟨i,q,hi,he,hk⟩=>?_⟩
       ·have IQ:bl.length<=b:=by
         rcases b9 b hb with h|h
         ·simp at h
         ·exact h
        rw[k2]at bM
        rcases h3.bm.inj i b q p hi hbl he with g3|g3|g3|g3
        ·omega
        ·omega
        ·exact g3
        ·omega
       ·rcases h3.bm.inj i b q p hi hbl he with g3|g3|g3|g3
        ·subst g3
         rw[hi]at hbl;cases hbl
         omega
        ·omega
        ·omega
        ·omega
      obtain⟨gQ,sb,SH,aax,J6⟩:=I5 (NA:=NA) (ND:=ND) (NN:=NN) (by rw[k2];exact hL2.hb) hL2.ha (λb hb=>hL2.hm b (by rw[k2]at hb;exact hb)) JH k1.b h3 e1 e2 e3 (by rw[k2];exact eo) fe.1 fe.2 t3 Qg (λg hg=>hg) h3.bm.rws d3 (by have:=t2;have:=Bj s2 t2;omega) (by have:=Bj s2 t2;simp only[List.length_append]at*;omega) (by have:=Bj s2 t2;simp only[List.length_append]at*;omega)
      rw[QH]at J6
      exact⟨_,h4.2,_,w6,sb,gQ,h4.1,rfl,d3.len,SH,J6⟩
theorem TJ {li:c0} {c:Code} {e:Nat->List V->List ax->jM->T} (hd:rd=none∨jk c=true) (he:xE rd S L w0 P c e) {Q:Exit->Act->World->Prop} {n:Nat} {ρ:Env} {m:Nat->Nat} {tm:List V} {bl:List ax} {a:Act} {w:World} {G:cP} {k:jM}
 (h:R w0 n ρ m tm bl a w) (al:(DW li e n tm bl k).holds S L G ρ) (hk:qw S L w0 k n bl.length ρ m G Q):(Code.loop c).wpIn (ku rd) 0 P Q a w:=by
 unfold DW at al
 obtain⟨h1,h2⟩:=zq (l:=li.fK) tm h
 exact TK hd he h1 al (by rw[h2];exact hk)
theorem toL {ops:Array Oper}:ops.toList.toArray=ops:=Array.toArray_toList
theorem B0 (N:Nat):∀(i:Nat) (bl:List ax),(eJ N i bl).length=bl.length
 |_,[]=>rfl
 |i,_::r=>by simp[eJ,B0 N (i+1) r]
theorem th (N:Nat):∀(i:Nat) (bl:List ax) (k:Nat) (p:ax),(eJ N i bl)[k]?=some p->p=pk∨(i+k<N/\(bO p.1||nu p.1)=true/\bl[k]?=some p)
 |_,[],k,p,h=>by simp[eJ]at h
 |i,q::r,0,p,h=>by
  simp only[eJ,List.getElem?_cons_zero,Option.some.injEq]at h
  cases hc:(Nat.blt i N&&(bO q.1||nu q.1))with
  |false=>rw[hc]at h;exact .inl h.symm
  |true=>
   rw[hc]at h
   simp only[cond_true]at h
   subst h
   simp only[Bool.and_eq_true]at hc
   exact .inr ⟨by simpa using k7 hc.1,hc.2,rfl⟩
 |i,q::r,k+1,p,h=>by
  rcases th N (i+1) r k p (by simpa [eJ]using h)with h1|⟨h1,h2,h3⟩
  ·exact .inl h1
  ·exact .inr ⟨by omega,h2,by simpa using h3⟩
theorem Ll:∀{a b:List ax},preB a b=true->∀(k:Nat) (p:ax),a[k]?=some p->b[k]?=some p
 |[],_,_,_,_,h=>by simp at h
 |(c,t)::r,(c',t')::s,hf,k,p,h=>by
  simp only[preB,Bool.and_eq_true]at hf
  obtain⟨⟨⟨h1,h2⟩,h3⟩,h4⟩:=hf
  cases k with
  |zero=>
   have e1:=vk h1;have e2:=Nat.eq_of_beq_eq_true h2;have e3:t.2=t'.2:=by simpa using h3
   have:t=t':=Prod.ext e2 e3
   subst e1;subst this
   simpa using h
  |succ k=>have:=Ll h4 k p (by simpa using h);simpa using this
 |_::_,[],h,_,_,_=>by simp[preB]at h
theorem SG {c:List A} (h:nu c=true):∃sh off code cap,c=[.rows sh off code cap 1]:=by
 unfold nu at h
 split at h
 ·rename_i sh off code cap k
  have:=Nat.eq_of_beq_eq_true h
  subst this
  exact⟨sh,off,code,cap,rfl⟩
 ·cases h
def zW (ρ ba:Env) (c:List A):Prop:=∀sh off code cap k,c=[.rows sh off code cap k]->off.den ba=off.den ρ/\code.den ba=code.den ρ/\cap.den ba=cap.den ρ
theorem DG {ρ ba:Env} {c:List A} (h:(bO c||nu c)=true) (hr:zW ρ ba c):a6 ba c=a6 ρ c:=by
 rcases Bool.or_eq_true _ _▸h with h|h
 ·rw[jT h,jT h]
 ·obtain⟨sh,off,code,cap,rfl⟩:=SG h
  simp only[a6,(hr sh off code cap 1 rfl).2.2]
theorem Mem.sub {ρ ba:Env} {m dX:Nat->Nat} {bl jO:List ax} {w:World} (h:Mem w0 ρ m bl w) (hs:∀(i:Nat) (p:ax),jO[i]?=some p->p=pk∨(bl[i]?=some p/\(bO p.1||nu p.1)=true/\dX i=m i/\p.1.map (A.den ba dX)=p.1.map (A.den ρ m)/\zW ρ ba p.1)):Mem w0 ba dX jO w:=by
 have fR:a6 ba pk.1=0:=by simp[pk,a6]
 refine⟨h.ext,h.gP,h.kj,h.kh,h.fG,h.kc,λi cs t hi ho=>?_,λi sh off code cap kind t hi=>?_,λi j p q hi hj he=>?_⟩
 ·rcases hs i _ hi with h1|⟨h1,_,h3,h4,_⟩
  ·cases h1;simp[bO]at ho
  ·rw[h3,h4];exact h.ef i cs t h1 ho
 ·rcases hs i _ hi with h1|⟨h1,h2,h3,_,h5⟩
  ·cases h1;intro hk;exact absurd rfl hk
  ·obtain⟨e1,e2,e3⟩:=h5 sh off code cap kind rfl
   have:=(h.rws i sh off code cap kind t h1).mono (F':=bD w0 ba dX jO) (bD.mono λj p hj hk=>by
    rcases hs j p hj with g1|⟨g1,g2,g3,_,g5⟩
    ·subst g1;rw[fR]at hk;omega
    ·exact⟨j,p,g1,by rw[<-DG g2 g5];exact hk,g3.symm⟩)
   unfold fE at this⊢
   rw[e1,e2,e3,h3];exact this
 ·rcases hs i _ hi with h1|⟨h1,h2,h3,_,h5⟩
  ·subst h1;exact .inr (.inr (.inl fR))
  ·rcases hs j _ hj with g1|⟨g1,g2,g3,_,g5⟩
   ·subst g1;exact .inr (.inr (.inr fR))
   ·rw[DG h2 h5,DG g2 g5]
    exact h.inj i j p q h1 g1 (by rw[<-h3,<-g3];exact he)
theorem bQ.eJ {n nb:Nat} {ρ:Env} {bl:List ax} (h:bQ n nb ρ bl) (N:Nat):bQ n nb ρ (Go.bo.eJ N 0 bl):=λp hp=>by
 obtain⟨i,hi⟩:=List.mem_iff_getElem?.1 hp
 rcases th N 0 bl i p hi with h1|⟨_,_,h3⟩
 ·subst h1
  intro a ha
  simp only[pk,List.mem_singleton]at ha
  subst ha
  exact⟨⟨J.bU _ _,J.bU _ _,J.bU _ _⟩,⟨by simp[J.aS],by rw[J.aS];exact Int.le_trans (dk []) (j4 (by simp) (λ_ h=>by cases h))⟩,by simp[J.aS]⟩
 ·exact h p (List.mem_of_getElem? h3)
theorem LO {n nb:Nat} {ρ ag:Env} {c:List A} (a8:∀a∈c,A.ok n nb ρ a) (ha:agree n ρ ag) (back:Bool):cond back (zW ag ρ c) (zW ρ ag c):=by
 have key:∀sh off code cap k,c=[.rows sh off code cap k]->off.den ag=off.den ρ/\code.den ag=code.den ρ/\cap.den ag=cap.den ρ:=λsh off code cap k hc=>by
  have:=a8 _ (by rw[hc];exact List.mem_singleton.2 rfl)
  obtain⟨⟨h1,h2,h3⟩,_⟩:=this
  exact⟨J.bj ha h1,J.bj ha h2,J.bj ha h3⟩
 cases back with
 |true=>exactλsh off code cap k hc=>by obtain⟨h1,h2,h3⟩:=key sh off code cap k hc;exact⟨h1.symm,h2.symm,h3.symm⟩
 |false=>exact key
theorem QN {N:Nat} {tm:List V} {bl:List ax} {o:Oper} {a:Act} {w:World} {v:Value} (ho:yV N tm bl o=true) (h:sK P o a w v):(execOp a.eval o).run P w= .ok (.value v) w:=by
 rcases h with h|⟨f,args,h,_⟩
 ·exact h
 ·exfalso
  have key:∀s:Sem Value,(do pure (Next.value (<-s)):Sem Next).run P w= .ok (.enter f args) w->False:=λs hs=>by
   simp only[Sem.run_bind]at hs
   cases hx:s.run P w with
   |ok u w'=>rw[hx]at hs;simp at hs
   |halt x w'=>rw[hx]at hs;simp at hs
  unfold yV at ho
  split at ho
  ·rename_i op t x y u hop;exact key (eqGuard op t x y (a.eval x) (a.eval y) >>= λ_=>binOp op t (a.eval x) (a.eval y)) (by simpa [execOp,hop]using h)
  ·rename_i t x i hop;exact key (Instr.indexAt t (a.eval x) (a.eval i)) (by simpa [execOp,hop]using h)
  ·rename_i t x lo hi dq hop;exact key (Instr.sliceAt t (a.eval x) (lo.map a.eval) (hi.map a.eval) (dq.map a.eval)) (by simpa [execOp,hop]using h)
  ·rename_i t p hop;exact key (Instr.loadAt t (a.eval p)) (by simpa [execOp,hop]using h)
  ·cases ho
theorem QO {ops:Array Oper} {N:Nat} {tm:List V} {bl:List ax} {o:Oper} {a:Act} {w:World} {v:Value} (ho:yU N tm bl o=true) (h:sK P o a w v):(execOp a.eval o).run P w= .ok (.value v) w:=by
 rcases h with h|⟨f,args,h,_⟩
 ·exact h
 ·exfalso
  have key:∀s:Sem Value,(do pure (Next.value (<-s)):Sem Next).run P w= .ok (.enter f args) w->False:=λs hs=>by
   simp only[Sem.run_bind]at hs
   cases hx:s.run P w with
   |ok u w'=>rw[hx]at hs;simp at hs
   |halt x w'=>rw[hx]at hs;simp at hs
  unfold yU at ho
  split at ho
  ·rename_i x hop;simp[execOp,hop]at h
  ·rename_i x hop;simp[execOp,hop]at h
  ·rename_i x i hop;exact key (Instr.extract (a.eval x) i) (by simpa [execOp,hop]using h)
  ·rename_i s x i hop;exact key (Instr.fieldAt s (a.eval x) i) (by simpa [execOp,hop]using h)
  ·rename_i t p hop;exact key (Instr.loadAt t (a.eval p)) (by simpa [execOp,hop]using h)
  ·rename_i t x lo hi dq hop;exact key (Instr.sliceAt t (a.eval x) (lo.map a.eval) (hi.map a.eval) (dq.map a.eval)) (by simpa [execOp,hop]using h)
  ·cases ho
theorem NS {ops:Array Oper} {Q:Exit->Act->World->Prop} {inl:iT} (cN:gD S P gl w0 bd) (hg:fv gl w0) (kI:mm S L w0 P inl) (hQ:∀c a w,¬Q (.panic c) a w)
 {N n0:Nat} {ie:List ax} {bu:Env} {m0:Nat->Nat} (hN:N<=ie.length) (gK:bQ n0 ie.length bu ie):∀(f:Nat) {listed:Array Bool} {n:Nat} {ρ:Env} {m:Nat->Nat} {tm:List V} {bl:List ax} {a:Act} {w:World} {G:cP} {k:en},
 R w0 n ρ m tm bl a w->cv n0 ie.length bu m0 n bl.length ρ m->(∀(k:Nat) (p:ax),(eJ N 0 ie)[k]?=some p->(eJ N 0 bl)[k]?=some p)->(nZ P gl bd inl ops N (eJ N 0 ie) f listed n tm bl k).holds S L G ρ->fM S L w0 k n bl.length ρ m G (Q .normal)->wpAnyH P .any ops Q (λw=>Mem w0 bu m0 (eJ N 0 ie) w) f listed a w:=by
 have down:∀{n:Nat} {ρ:Env} {m:Nat->Nat} {bl:List ax} {w:World},cv n0 ie.length bu m0 n bl.length ρ m->(∀(k:Nat) (p:ax),(eJ N 0 ie)[k]?=some p->(eJ N 0 bl)[k]?=some p)->Mem w0 ρ m bl w->Mem w0 bu m0 (eJ N 0 ie) w:=λhl hp hm=>by
  refine hm.sub λi p hi=>?_
  rcases th N 0 ie i p hi with h1|⟨h1,h2,h3⟩
  ·exact .inl h1
  ·refine .inr ?_
   rcases th N 0 _ i p (hp i p hi)with g1|⟨_,_,g3⟩
   ·subst g1;simp[pk,bO,nu]at h2
   ·exact⟨g3,h2,(hl.hm i (by omega)).symm,(kM (gK p (List.mem_of_getElem? h3)) hl.ha hl.hm).symm,LO (gK p (List.mem_of_getElem? h3)) hl.ha true⟩
 have up:∀{n:Nat} {ρ:Env} {m:Nat->Nat} {bl:List ax} {w:World},cv n0 ie.length bu m0 n bl.length ρ m->(∀(k:Nat) (p:ax),(eJ N 0 ie)[k]?=some p->(eJ N 0 bl)[k]?=some p)->Mem w0 bu m0 (eJ N 0 ie) w->Mem w0 ρ m (eJ N 0 bl) w:=λ{n ρ m bl w} hl hp hm=>by
  refine hm.sub λi p hi=>?_
  rcases th N 0 bl i p hi with h1|⟨h1,h2,h3⟩
  ·exact .inl h1
  ·refine .inr ?_
   have hlt:i<(eJ N 0 ie).length:=by rw[B0];omega
   have hq:=hp i _ (List.getElem?_eq_getElem hlt)
   rw[hi]at hq
   have hq:p=(eJ N 0 ie)[i]:=Option.some.inj hq
   have h0:(eJ N 0 ie)[i]?=some p:=by rw[List.getElem?_eq_getElem hlt,hq]
   rcases th N 0 ie i p h0 with g1|⟨_,_,g3⟩
   ·subst g1;simp[pk,bO,nu]at h2
   ·exact⟨h0,h2,hl.hm i (by omega),kM (gK p (List.mem_of_getElem? g3)) hl.ha hl.hm,LO (gK p (List.mem_of_getElem? g3)) hl.ha false⟩
 intro f
 induction f with
 |zero=>
  intro listed n ρ m tm bl a w G k h hl hp al hk
  unfold nZ at al
  unfold wpAnyH
  split at al
  ·rename_i hr
   exact⟨hr,hk n ρ m tm bl G a w (cv.refl _ _ _ _) (c5.refl _ _) h al⟩
  ·exact al.elim
 |succ f ih=>
  intro listed n ρ m tm bl a w G k h hl hp al hk
  unfold nZ at al
  split at al
  ·rename_i hr
   exact⟨λ_=>hk n ρ m tm bl G a w (cv.refl _ _ _ _) (c5.refl _ _) h al,λi hi=>by rw[hr]at hi;cases hi⟩
  ·rename_i l hl0
   split at al
   ·rename_i i hi
    unfold I7 at hi
    cases mG:Region.noSelect ops with
    |false=>rw[mG]at hi;cases hi
    |true=>
    rw[mG,cond_true]at hi
    have cj:=List.find?_some hi
    have lx:=List.mem_of_find?_eq_some hi
    simp only[Bool.and_eq_true]at cj
    cases ho:ops[i]? with
    |none=>simp only[ho]at al;exact al.elim
    |some o=>
     simp only[ho]at al
     have fp:yU N tm bl o=true∨yV N tm bl o=true:=by
      have:=cj.1;simp only[ho,Bool.or_eq_true,Bool.and_eq_true]at this;exact this.imp id And.right
     obtain⟨bB,lV,hgd⟩:=vA h.t al
     have h:R w0 n ρ m bB bl a w:=⟨lV,h.d,h.b,h.bm⟩
     have e5:=down hl hp h.bm
     rcases hgd with⟨hw,al⟩|⟨hw,al⟩
     ·have hlen:(eJ N 0 bl).length=bl.length:=B0 N 0 bl
      obtain⟨ag,n',v,mF,gJ,⟨hv,val,hr,hq⟩,tG⟩:=Eu (L:=L) (bl:=eJ N 0 bl) cN (by rw[hlen];exact h.b.eJ N) hg ⟨w,up hl hp e5⟩ (by rw[hlen];exact lV) o G _ al
      rw[hlen]at hv
      have hy:YieldsIf P ops (λw=>Mem w0 bu m0 (eJ N 0 ie) w) o val a:= .inl ⟨hw,λw' mK=>fp.elim (λhf=>QO (ops:=ops) hf (hq w' (up hl hp mK))) (λhf=>QN hf (hq w' (up hl hp mK)))⟩
      refine wpAnyH_take ho mG cj.2 (by simpa using lx) (λc a w hp=>absurd hp (hQ _ _ _)) hy e5 ?_
      have hlt:cv n bl.length ρ m n' bl.length ag m:=⟨mF,gJ,Nat.le_refl _,λ_ _=>rfl⟩
      exact ih ⟨cI.put (lV.ext gJ mF (Nat.le_refl _) (λ_ _=>rfl)) o.dst hv hr,by rw[put_defers];exact h.d,h.b.ext gJ mF (Nat.le_refl _),h.bm.dA h.b gJ⟩ (hl.trans hlt) hp tG (hk.later hlt (c5.refl _ _))
     ·refine wpAnyH_take ho mG cj.2 (by simpa using lx) (λc a w hp=>absurd hp (hQ _ _ _)) (.inr ⟨hw,rfl⟩) e5 ?_
      exact ih (h.skip o.dst) hl hp al hk
   split at al
   ·rename_i i hi
    unfold KW at hi
    cases mG:Region.noSelect ops with
    |false=>rw[mG]at hi;cases hi
    |true=>
    rw[mG,cond_true]at hi
    have cj:=List.find?_some hi
    have lx:=List.mem_of_find?_eq_some hi
    simp only[Bool.and_eq_true]at cj
    cases ho:ops[i]? with
    |none=>simp only[ho]at al;exact al.elim
    |some o=>
     simp only[ho]at al
     obtain⟨bB,lV,hgd⟩:=vA h.t al
     have h:R w0 n ρ m bB bl a w:=⟨lV,h.d,h.b,h.bm⟩
     have e5:=down hl hp h.bm
     rcases hgd with⟨_,al⟩|⟨hw,al⟩
     ·exact al.elim
     ·refine wpAnyH_take ho mG cj.2 (by simpa using lx) (λc a w hp=>absurd hp (hQ _ _ _)) (.inr ⟨hw,rfl⟩) e5 ?_
      exact ih (h.skip o.dst) hl hp al hk
   unfold wpAnyH
   refine⟨λhr=>absurd hr hl0,λi hi=>?_⟩
   have cj:=allT_holds al i hi
   unfold wpOp
   cases ho:ops[i]? with
   |none=>simp only[ho]at cj;exact cj.elim
   |some o=>
    simp only[ho]at cj⊢
    obtain⟨bB,lV,hgd⟩:=vA h.t cj
    have h:R w0 n ρ m bB bl a w:=⟨lV,h.d,h.b,h.bm⟩
    rcases hgd with⟨hw,CH⟩|⟨hw,CH⟩
    ·rw[if_pos hw]
     refine .inl (Mi cN hg kI h CH λn' ag m' bB aW cV cS w' h1 h2 h3 h4=>?_)
     cases hf:preB (eJ N 0 ie) (eJ N 0 aW)with
     |false=>rw[hf]at h4;exact h4.elim
     |true=>
      rw[hf,cond_true]at h4
      have ow:=hl.trans h1
      have hf:=Ll hf
      exact⟨down ow hf h3.bm,ih h3 ow hf h4 (hk.later h1 h2)⟩
    ·rw[if_neg (by simp[hw])]
     exact⟨down hl hp h.bm,ih (h.skip o.dst) hl hp CH hk⟩
theorem Ou {inl:iT} {li:Nat->Option c0} {rounds:Nat} (hm:P.follows .mixedOrders=true) (cN:gD S P gl w0 bd) (hg:fv gl w0) (kI:mm S L w0 P inl):∀(c:Code),xE rd S L w0 P c (j9 P gl bd inl li rounds c):=by
 intro c
 induction c with
 |skip=>intro hd n tm bl k G ρ m a w Q h al hk;exact wpIn_skip (hk .normal n ρ m tm bl G a w (cv.refl _ _ _ _) (c5.refl _ _) h al)
 |exit id=>intro hd n tm bl k G ρ m a w Q h al hk;exact wpIn_exit (hk (.exit id) n ρ m tm bl G a w (cv.refl _ _ _ _) (c5.refl _ _) h al)
 |ret=>intro hd n tm bl k G ρ m a w Q h al hk;exact wpIn_ret (hk .ret n ρ m tm bl G a w (cv.refl _ _ _ _) (c5.refl _ _) h al)
 |region id ops draw=>
  intro hd n tm bl k G ρ m a w Q h al hk
  have Cb:fM S L w0 (k .normal) n bl.length ρ m G (ks Q .normal):=λn' ag m' bB aW cV cS w' h1 h2 h3 h4=>hk .normal n' ag m' bB aW cV cS w' h1 h2 h3 h4
  cases draw with
  |false=>
   simp only[j9,cond_false]at al
   refine WM hd ?_
   exact zF cN hg kI ops.toList h al Cb
  |true=>
   simp only[j9,cond_true]at al
   cases ht:(uO ops (tF P bd ops)&&AB P (ops.toList.take (tF P bd ops))&& !E0 P (ops.toList.take (tF P bd ops)))with
   |false=>
    simp only[ht,cond_false]at al
    cases hsz:Nat.ble (ops.toList.filter λo=> !DY o).length 24 with
    |false=>simp only[hsz,cond_false]at al;exact al.elim
    |true=>
     simp only[hsz,cond_true]at al
     have kG:R w0 n ρ m tm bl a w.drew:=⟨h.t,h.d,h.b,h.bm.grow (World.Extends.drew (World.Extends.refl w))⟩
     refine Lt hm hd (wpAny_of_held (S:=λw=>Mem w0 ρ m (eJ (vT P ops tm bl) 0 bl) w) _ _ _ _ ?_)
     exact NS cN hg kI (λc a w h=>h) (N:=vT P ops tm bl) (by unfold vT;cases D1 P ops<;>cases ops.toList.any Dw<;>simp<;>exact Nat.min_le_left _ _) h.b ops.size kG (cv.refl _ _ _ _) (λ_ _ h=>h) al Cb
   |true=>
    simp only[ht,cond_true]at al
    simp only[Bool.and_eq_true]at ht
    replace ht:=ht.1
    have hle:tF P bd ops<=ops.toList.length:=by
     have h1:=ht.1
     simp only[uO,Bool.and_eq_true]at h1
     simpa using Nat.le_of_ble_eq_true h1.1.1.2
    generalize tF P bd ops=hl0 at*
    have kG:R w0 n ρ m tm bl a w.drew:=⟨h.t,h.d,h.b,h.bm.grow (World.Extends.drew (World.Extends.refl w))⟩
    have key:=Zs (P:=P) (Q:=ks Q) (a:=a) (w:=w) (l:=ops.toList) (C:=λw'=>Mem w0 ρ m bl w') hl0 (uX P ops) hm (by rw[toL];exact ht.1) (λw' mK=>kG.bm.grow mK) (λj o hj ho c4 b w'=>by
     have:=ZA (l:=ops.toList) (P:=P) ht.2 hj ho c4 b w'
     rw[toL]at this;exact this) (by
     rw[toL]
     refine yS cN hg h.b ⟨_,h.bm⟩ _ (Nat.le_refl _) (agree.refl _ _) h.t h.d al λn' ag bB an h1 h2 h3 h4 h5 dG b w' lu lj wi=>?_
     have hl:cv n bl.length ρ m n' bl.length ag m:=⟨h1,h2,Nat.le_refl _,λ_ _=>rfl⟩
     have PK:=(kG.bm.grow lj).dA h.b h2
     refine Ba (S:=S) (L:=L) (w0:=w0) (P:=P) (K:=λb w'=>wpList P ops (calm (ks Q)) (ops.toList.drop hl0) b w') lu wi kG.bm.ext.size kG.bm.fG (ops.toList.take hl0) 0 (λj hj=>?_) (by simp;exact Nat.min_eq_left (by simpa using hle)) ⟨h3,h4,h.b.ext h2 h1 (Nat.le_refl _),PK⟩ ((kG.bm.dA h.b h2).under lj) (λbc p fy hp=> .inl ?_) rfl (λt=>⟨λ⟨j,o,hj,_⟩=>by omega,λ_=>rfl⟩) h5 (λuv lG aaE Mr ZR AL GH iC k1 k2 k3 k4=>zF cN hg kI _ k3 k4 ((Cb.later hl (c5.refl _ _)).later k1 k2)) h4
     ·have hj':j<hl0:=by simp at hj;omega
      rw[List.getElem?_take,if_pos hj'];simp
     ·rw[jC (h.b _ (List.mem_of_getElem? fy)) h2]at hp
      exact kG.bm.lt fy hp)
    rw[toL]at key
    exact Lt hm hd key
 |seq x y Sw zd=>
  intro hd n tm bl k G ρ m a w Q h al hk
  have yO:rd=none∨jk x=true:=hd.imp id λh=>by simp only[jk,Bool.and_eq_true]at h;exact h.1
  have yR:rd=none∨jk y=true:=hd.imp id λh=>by simp only[jk,Bool.and_eq_true]at h;exact h.2
  refine wpIn_seq (Sw yO n tm bl _ G ρ m a w _ h al λx n' ag m' bB aW cV cS w' h1 h2 h3 h4=>?_)
  cases x with
  |normal=>exact zd yR n' bB aW k cV ag m' cS w' Q h3 h4 (hk.later h1 h2)
  |exit id=>exact hk (.exit id) n' ag m' bB aW cV cS w' h1 h2 h3 h4
  |ret=>exact hk .ret n' ag m' bB aW cV cS w' h1 h2 h3 h4
 |cond x y z zd JT=>
  intro hd n tm bl k G ρ m a w Q h al hk
  simp only[j9]at al
  have hx:=bJ h.t x
  split at al
  ·rename_i b hb
   rw[hb]at hx
   have cg:a.eval x= .bool (b.den ρ):=hx.2
   have yO:rd=none∨jk y=true:=hd.imp id λh=>by simp only[jk,Bool.and_eq_true]at h;exact h.1
   have yR:rd=none∨jk z=true:=hd.imp id λh=>by simp only[jk,Bool.and_eq_true]at h;exact h.2
   refine wpIn_cond cg ?_
   split at al
   ·rename_i v
    cases v with
    |true=>simp only[cond_true]at al;exact zd yO n tm bl k G ρ m a w Q h al hk
    |false=>simp only[cond_false]at al;exact JT yR n tm bl k G ρ m a w Q h al hk
   ·simp only[T.holds]at al
    cases hd:aY.den ρ b with
    |true=>exact zd yO n _ bl k G ρ m a w Q ⟨uN hd h.t,h.d,h.b,h.bm⟩ (al.1 (by simpa using hd)) hk
    |false=>exact JT yR n _ bl k G ρ m a w Q ⟨uN hd h.t,h.d,h.b,h.bm⟩ (al.2 (by simpa using hd)) hk
  ·exact al.elim
 |block id x ih=>
  intro hd n tm bl k G ρ m a w Q h al hk
  refine wpIn_block (ih hd n tm bl _ G ρ m a w _ h al λx n' ag m' bB aW cV cS w' h1 h2 h3 h4=>?_)
  cases x with
  |normal=>exact hk .normal n' ag m' bB aW cV cS w' h1 h2 h3 h4
  |ret=>exact hk .ret n' ag m' bB aW cV cS w' h1 h2 h3 h4
  |exit pQ=>
   simp only at h4
   simp only[X.to,Exit.inBlock]
   cases hb:Nat.beq pQ id with
   |true=>
    simp only[hb,cond_true]at h4
    rw[if_pos (Nat.eq_of_beq_eq_true hb)]
    exact hk .normal n' ag m' bB aW cV cS w' h1 h2 h3 h4
   |false=>
    simp only[hb,cond_false]at h4
    rw[if_neg (λe=>by subst e;rw[show Nat.beq pQ pQ=true from Nat.beq_refl pQ]at hb;cases hb)]
    exact hk (.exit pQ) n' ag m' bB aW cV cS w' h1 h2 h3 h4
 |loop x ih=>
  intro hd n tm bl k G ρ m a w Q h al hk
  simp only[j9]at al
  split at al
  ·exact TJ (c:=x) hd ih h al hk
  ·exact wpIn_loop_rounds rounds (LF (c:=x) hd ih rounds h al hk)
 |_=>intro hd n tm bl k G ρ m a w Q h al hk;exact al.elim
def ss (a:Act):ResultVar->Sem Value
 | .tmp t=>Pure.pure (a.tmps.getD t undef)
 | .cell x t=>do loadVar t (<-asAddr (a.tmps.getD x undef))
theorem WS {n:Nat} {ρ:Env} {m:Nat->Nat} {bl:List ax} {tm:List V} {a:Act} {w:World} {r:ResultVar} {u:W} (hg:fv gl w0) (h:R w0 n ρ m tm bl a w) (hr:xf P gl bl tm r=some u):
 u.ok n bl.length ρ/\(ss a r).run P w= .ok (u.den ρ m) w:=by
 cases r with
 |tmp t=>
  simp only[xf]at hr
  cases ht:tm[t]? with
  |none=>simp[ht]at hr
  |some v=>
   obtain⟨h1,x,h2,h3⟩:=h.t.2 t v ht
   simp only[ht]at hr
   cases v with
   |w Yh=>
    simp only[Option.some.injEq]at hr
    subst hr
    refine⟨h1,?_⟩
    have:a.tmps.getD t undef=Yh.den ρ m:=by simp[h2];exact h3
    simp only[ss,this];rfl
   |_=>simp at hr
 |cell x t=>
  simp only[xf]at hr
  cases ht:tm[x]? with
  |none=>simp[ht]at hr
  |some v=>
   obtain⟨h1,y,h2,h3⟩:=h.t.2 x v ht
   simp only[ht]at hr
   cases v with
   |eb l=>simp at hr
   |any=>simp at hr
   |jE _ _ _=>simp at hr
   |j8 _ _=>simp at hr
   |w q=>
    cases q with
    |agg l=>simp at hr
    |one p=>
     simp only at hr
     have hy:a.tmps.getD x undef=p.den ρ m:=by simp[h2];exact h3
     cases hc:s3 bl gl p with
     |none=>simp[hc]at hr
     |some cs=>
      obtain⟨g,o,hp,a8,hcell⟩:=Bv h.bm h.b hg hc
      simp only[ss,hy,hp]
      cases ja:e8 P t with
      |none=>simp[hc,ja]at hr
      |some b=>
       cases b with
       |true=>
        cases hs:de P t with
        |none=>simp[hc,ja,hs]at hr
        |some k=>
         simp only[hc,ja,hs]at hr
         cases hk:Nat.ble k cs.length with
         |false=>simp[hk]at hr
         |true=>
          simp only[hk,cond_true,Option.some.injEq]at hr
          subst hr
          have hk:=Nat.le_of_ble_eq_true hk
          refine⟨λa h=>a8 a (List.mem_of_mem_take h),?_⟩
          have hl:=run_loadCells_list (P:=P) w ⟨g,o,none⟩ ((cs.take k).map (A.den ρ m)) λj v hj=>by
           rw[eZ]
           rw[List.getElem?_map]at hj
           cases hq:(cs.take k)[j]? with
           |none=>simp[hq]at hj
           |some a=>
            simp only[hq,Option.map_some,Option.some.injEq]at hj
            subst hj
            refine hcell j a ?_
            rw[List.getElem?_take]at hq
            split at hq
            ·exact hq
            ·cases hq
          simp only[List.length_map,List.length_take,Nat.min_eq_left hk]at hl
          simp[asAddr,loadVar,jH ja,eS hs,hl,W.den]
       |false=>
        cases cs with
        |nil=>simp[hc,ja]at hr
        |cons z r=>
         simp only[hc,ja,Option.some.injEq]at hr
         subst hr
         refine⟨a8 z (by simp),?_⟩
         have:=hcell 0 z rfl
         simp only[Nat.add_zero]at this
         simp[asAddr,loadVar,jH ja,this,W.den]
theorem Ly {n:Nat} {ρ:Env} {m:Nat->Nat} {bl:List ax} {tm:List V} {a:Act} {w:World} (hg:fv gl w0) (h:R w0 n ρ m tm bl a w):∀{rs:List ResultVar} {l:List W},su P gl bl tm rs=some l->
 (∀u∈l,W.ok n bl.length ρ u)/\(rs.mapM (m:=Sem) (ss a)).run P w= .ok (l.map (W.den ρ m)) w
 |[],l,hr=>by simp[su]at hr;subst hr;exact⟨by simp,by simp⟩
 |r::s,l,hr=>by
  simp only[su]at hr
  cases h1:xf P gl bl tm r with
  |none=>simp[h1]at hr
  |some u=>
   cases h2:su P gl bl tm s with
   |none=>simp[h1,h2]at hr
   |some bp=>
    simp only[h1,h2,Option.some.injEq]at hr
    subst hr
    have e1:=WS hg h h1
    have e2:=Ly hg h h2
    refine⟨λx hx=>by rcases List.mem_cons.1 hx with rfl|hx;exact e1.1;exact e2.1 x hx,?_⟩
    rw[List.mapM_cons,Sem.run_bind]
    simp only[e1.2,e2.2,Result.andThen_ok,Sem.run_bind,Sem.run_pure,List.map_cons]
theorem Lx {fn:Func} {n:Nat} {ρ:Env} {m:Nat->Nat} {bl:List ax} {tm:List V} {a:Act} {w:World} {k:RK} {G:cP} (hg:fv gl w0) (h:R w0 n ρ m tm bl a w) (al:(Ew P gl fn n tm bl k).holds S L G ρ):
 ∃v val,V.ok n bl.length ρ v/\v.rel ρ m val/\(results fn a.tmps).run P w= .ok val w/\(k n v bl).holds S L G ρ:=by
 unfold Ew at al
 cases hr:su P gl bl tm fn.results.toList with
 |none=>
  simp only[hr]at al
  cases ho:Ee tm fn.results.toList with
  |none=>simp[ho,T.holds]at al
  |some v=>
   simp only[ho]at al
   obtain⟨t,e,hv⟩:∃t,fn.results.toList=[.tmp t]/\tm[t]?=some v:=by
    unfold Ee at ho
    split at ho
    ·rename_i t he
     refine⟨t,he,?_⟩
     split at ho<;>first|(cases ho;assumption)|cases ho
    ·cases ho
   obtain⟨h1,x,h2,h3⟩:=h.t.2 t v hv
   refine⟨v,x,h1,h3,?_,al⟩
   have s9:fn.results=#[.tmp t]:=by rw[<-Array.toArray_toList (xs:=fn.results),e]
   have ex:a.tmps.getD t undef=x:=by simp[h2]
   have e:results fn a.tmps=(do let vs<-fn.results.mapM (ss a);Pure.pure (if h:vs.size=1 then vs[0]else .tuple vs)):=by
    unfold results
    congr 1
   rw[e,s9,Array.mapM_eq_mapM_toList]
   simp[Sem.run_bind,Sem.run_map,Result.andThen_ok,ss,h2]
 |some l=>
  obtain⟨h1,h2⟩:=Ly hg h hr
  have eC:(results fn a.tmps).run P w= .ok (if h:(l.map (W.den ρ m)).toArray.size=1 then(l.map (W.den ρ m)).toArray[0]else .tuple (l.map (W.den ρ m)).toArray) w:=by
   have e:results fn a.tmps=(do let vs<-fn.results.mapM (ss a);Pure.pure (if h:vs.size=1 then vs[0]else .tuple vs)):=by
    unfold results
    congr 1
   rw[e,Array.mapM_eq_mapM_toList]
   simp only[Sem.run_bind,Sem.run_map,Result.andThen_ok,h2,Sem.run_pure]
  simp only[hr]at al
  split at al
  ·rename_i u heq
   have heq:=Option.some.inj heq
   subst heq
   exact⟨.w u,_,h1 u (by simp),rfl,by rw[eC];simp,al⟩
  ·rename_i bp hne heq
   have heq:=Option.some.inj heq
   subst heq
   refine⟨.eb l,_,h1,rfl,?_,al⟩
   rw[eC,dif_neg]
   intro hs
   simp at hs
   match l,hs,hne with
   |[u],_,hne=>exact hne u rfl
  ·rename_i heq;cases heq
theorem Gw {ρ:Env} {m:Nat->Nat}:∀{vs:List V} {xs:List Value},dK ρ m vs xs->vs.length=xs.length
 |[],[],_=>rfl
 |_::_,_::_,h=>by simp[Gw h.2]
 |[],_::_,h=>h.elim
 |_::_,[],h=>h.elim
theorem Gt {n nb:Nat} {ρ:Env} {m:Nat->Nat} (k:Nat):∀{vs:List V} {xs:List Value},(∀v∈vs,V.ok n nb ρ v)->dK ρ m vs xs->qA n nb ρ m (vs++zQ k) (xs++List.replicate k undef)
 |[],[],_,_=>by
  simp only[List.nil_append]
  induction k with
  |zero=>trivial
  |succ k ih=>exact⟨by intro x hx;simp at hx,rfl,ih⟩
 |v::r,x::s,h,hr=>⟨h v (by simp),hr.1,Gt k (λu hu=>h u (List.mem_cons_of_mem _ hu)) hr.2⟩
 |[],_::_,_,h=>h.elim
 |_::_,[],_,h=>h.elim
theorem G5 (oq:w0.ds=[]) {li:FuncId->Nat->Option c0} {rounds:Nat} {inl:iT} (hm:P.follows .mixedOrders=true) (cN:gD S P gl w0 bd) (hg:fv gl w0) (ih:mm S L w0 P inl):mm S L w0 P (x7 P gl bd inl li rounds):=by
 intro f n vs bl k G ρ m w xs dR hb il eQ hrel al hk
 unfold x7 at al
 cases hf:P.funcs[f]? with
 |none=>simp[hf,T.holds]at al
 |some fn=>
  cases tz:fn.body with
  |none=>simp[hf,tz,T.holds]at al
  |some c=>
   simp only[hf,tz]at al
   cases hc:(!(fn.name== "runtime.NumGoroutine")&&Nat.ble vs.length fn.ntmps)with
   |false=>simp[hc,T.holds]at al
   |true=>
    simp only[hc,cond_true]at al
    simp only[Bool.and_eq_true,Bool.not_eq_true']at hc
    have hlen:=Gw hrel
    refine⟨?_,calls_of_wp hf tz ?_⟩
    ·have h1:¬fn.name= "runtime.NumGoroutine" :=by have:=hc.1;simpa using this
     simp[callFunc,hf,tz,h1]
    ·have hR:R w0 n ρ m (vs++zQ (fn.ntmps-vs.length)) bl {tmps:=xs.toArray++Array.replicate (fn.ntmps-xs.toArray.size) undef,defers:=[]} w:=by
      refine⟨?_,oq.symm,hb,il⟩
      have:=AZ (Gt (fn.ntmps-vs.length) eQ hrel)
      have e:(xs++List.replicate (fn.ntmps-vs.length) undef).toArray=xs.toArray++Array.replicate (fn.ntmps-xs.toArray.size) undef:=by
       simp[hlen]
      rw[e]at this
      exact this
     refine wpIn_wide.1 (Ou (rd:=none) hm cN hg ih c (.inl rfl) n _ bl _ G ρ m _ w _ hR al λx n' ag m' bB aW cV cS w' h1 h2 h3 h4=>?_)
     cases x with
     |exit id=>exact h4.elim
     |normal=>
      obtain⟨v,val,p1,bz,cd,eE⟩:=Lx hg h3 h4
      exact⟨h3.d.trans oq,val,cd,hk n' v aW cV ag m' w' val h1 h2 p1 bz h3.b h3.bm eE⟩
     |ret=>
      obtain⟨v,val,p1,bz,cd,eE⟩:=Lx hg h3 h4
      exact⟨h3.d.trans oq,val,cd,hk n' v aW cV ag m' w' val h1 h2 p1 bz h3.b h3.bm eE⟩
theorem Hg (oq:w0.ds=[]) {li:FuncId->Nat->Option c0} {rounds:Nat} (hm:P.follows .mixedOrders=true) (cN:gD S P gl w0 bd) (hg:fv gl w0):∀d,mm S L w0 P (yd P gl bd li rounds d)
 |0=>λf n vs bl k G ρ m w xs dR _ _ _ _ al _=>al.elim
 |d+1=>G5 oq hm cN hg (Hg oq hm cN hg d)
def sF (S:Nat->List Int->List Int->Prop) (L:V->Env->Prop) (w0:cR) (P:Program) (gb:kX):Prop:=
 ∀f g,gb f=some g->∀n vs bl k G ρ m w xs dR,bQ n (List.length bl) ρ bl->Mem w0 ρ m bl w->(∀v∈vs,V.ok n bl.length ρ v)->dK ρ m vs xs->(g n vs bl k).holds S L G ρ->sL S L w0 k n bl.length ρ m G dR->
  (callFunc f xs.toArray).run P w= .ok (.enter f xs.toArray) w/\Calls P f xs.toArray w dR
theorem VA {gb:kX} {inl:iT} (lS:sF S L w0 P gb) (h:mm S L w0 P inl):mm S L w0 P (Ef gb inl):=by
 intro f n vs bl k G ρ m w xs dR h1 h2 h3 h4 h5 h6
 unfold Ef at h5
 cases hf:gb f with
 |none=>rw[hf]at h5;exact h f n vs bl k G ρ m w xs dR h1 h2 h3 h4 h5 h6
 |some g=>rw[hf]at h5;exact lS f g hf n vs bl k G ρ m w xs dR h1 h2 h3 h4 h5 h6
theorem Hf (oq:w0.ds=[]) {gb:kX} {li:FuncId->Nat->Option c0} {rounds:Nat} (hm:P.follows .mixedOrders=true) (cN:gD S P gl w0 bd) (hg:fv gl w0) (lS:sF S L w0 P gb):∀d,mm S L w0 P (Bs gb P gl bd li rounds d)
 |0=>λf n vs bl k G ρ m w xs dR _ _ _ _ al _=>al.elim
 |d+1=>G5 oq hm cN hg (VA lS (Hf oq hm cN hg lS d))
theorem Mem.extends {b w w':World} {ρ:Env} {m:Nat->Nat} {bl:List ax} (h:Mem ⟨b,w,λ_=>False,λ_=>False,[]⟩ ρ m bl w'):w.Extends w':=by
 have ll:∀i:Nat,i<w.heap.size->w'.heap[i]?=w.heap[i]?:=λi hi=>h.kc i hi id
 exact⟨h.gP,h.kj,h.kh,h.fG,λa ha=>by simp only[World.cell?,ll a.block ha],λa ha=>by simp only[World.frozen?,ll a.block ha],ll⟩
theorem Oa {b w:World} {li:FuncId->Nat->Option c0} {rounds d:Nat} (hm:P.follows .mixedOrders=true) (cN:gD S P gl ⟨b,w,λ_=>False,λ_=>False,[]⟩ bd) (hg:fv gl ⟨b,w,λ_=>False,λ_=>False,[]⟩) (f:FuncId) (n:Nat) (vs:List V) (ρ:Env) (xs:List Value) (he:b.Extends w)
 (eQ:∀v∈vs,V.ok n 0 ρ v) (hrel:dK ρ (λ_=>0) vs xs) (al:(yd P gl bd li rounds d f n vs [] λn' v _=> .leaf v).holds S (λv ag=>L v ag) (λ_ _=>False) ρ):
 Calls P f xs.toArray w λe w'=>∃v ag m val nb,e= .returned val/\v.rel ag m val/\(∃n',V.ok n' nb ag v)/\L v ag/\w.Extends w':=by
 have il:Mem ⟨b,w,λ_=>False,λ_=>False,[]⟩ ρ (λ_=>0) [] w:=⟨he,rfl,rfl,rfl,Nat.le_refl _,λ_ _ _=>rfl,λi cs t h=>by simp at h,λi sh off code cap kind t h=>by simp at h,λi j p q h=>by simp at h⟩
 refine(Hg rfl (L:=L) (li:=li) (rounds:=rounds) hm cN hg d f n vs [] (λn' v _=> .leaf v) (λ_ _=>False) ρ (λ_=>0) w xs _ (λp hp=>by simp at hp) il eQ hrel al ?_).2
 intro n' v aW cV ag m' w' val h1 h2 h3 h4 h5 h6 h7
 exact⟨v,ag,m',val,_,rfl,h4,⟨n',h3⟩,h7,h6.extends⟩
end
end Go.bo
namespace Go.bo
open M
def az.sym (s:Nat):az->A
 |int k lo hi=> .int k ⟨.var s,lo,hi⟩
 |str=> .str (.var s)
 |bool=> .bool (.eq (.var s) (.const 1))
 |sub _=> .con (.slice none 0 0)
inductive D where
 |str
 |int (k:IntKind) (lo hi:Int)
 |bool
 |agg (k:IntKind) (n:Nat) (lo hi:Int)
 |mix (l:List az)
 |jl (l:List UInt8)
 |mM (k:IntKind) (c:Int)
def oV (lo hi:Int):Nat->List (Int×Int)
 |0=>[]
 |n+1=>(lo,hi)::oV lo hi n
noncomputable def D.bds:D->List (Int×Int)
 |str=>[(0,aD)]
 |int _ lo hi=>[(lo,hi)]
 |bool=>[(0,1)]
 |agg _ n lo hi=>oV lo hi n
 |mix l=>l.map az.c3
 |jl _=>[]
 |mM .. =>[]
def D.num:D->Nat
 |str=>1
 |int .. =>1
 |bool=>1
 |agg _ n _ _=>n
 |mix l=>l.length
 |jl _=>0
 |mM .. =>0
def D.val:D->List Int->Value
 |str,zs=> .string (a7 (ab (zs.getD 0 0)))
 |int k _ _,zs=> .int k (zs.getD 0 0)
 |bool,zs=> .bool (decide (zs.getD 0 0=1))
 |agg k n _ _,zs=> .agg ((zs.take n).map (.int k)).toArray
 |mix l,zs=> .agg (List.zipWith az.val l zs).toArray
 |jl l,_=> .string (a7 (l3 l))
 |mM k c,_=> .int k c
def uE (k:IntKind) (lo hi:Int):Nat->Nat->List A
 |_,0=>[]
 |s,n+1=> .int k ⟨.var s,lo,hi⟩::uE k lo hi (s+1) n
def ur:Nat->List az->List A
 |_,[]=>[]
 |s,c::r=>c.sym s::ur (s+1) r
def D.sym (s:Nat):D->W
 |str=> .one (.str (.var s))
 |int k lo hi=> .one (.int k ⟨.var s,lo,hi⟩)
 |bool=> .one (.bool (.eq (.var s) (.const 1)))
 |agg k n lo hi=> .agg (uE k lo hi s n)
 |mix l=> .agg (ur s l)
 |jl l=> .one (.str (.const (eI (l3 l))))
 |mM k c=> .one (.int k (bh.const c))
noncomputable def dD:List D->List (Int×Int)
 |[]=>[]
 |d::r=>d.bds++dD r
def jn:List D->List Int->List Value
 |[],_=>[]
 |d::r,zs=>d.val zs::jn r (zs.drop d.num)
def nM:Nat->List D->List W
 |_,[]=>[]
 |s,d::r=>d.sym s::nM (s+d.num) r
theorem iL:∀{b:List (Int×Int)} {l:List Int},bI b l->l.length=b.length
 |[],[],_=>rfl
 |_::_,_::_,h=>by simp[iL h.2.2]
 |[],_::_,h=>h.elim
 |_::_,[],h=>h.elim
theorem Lv (lo hi:Int):∀n,(oV lo hi n).length=n
 |0=>rfl
 |n+1=>by simp[oV,Lv lo hi n]
theorem D.vj (d:D):d.bds.length=d.num:=by cases d<;>simp[D.bds,D.num,Lv]
theorem ze:∀{b bX:List (Int×Int)} {l:List Int},bI (b++bX) l->bI b (l.take b.length)/\bI bX (l.drop b.length)
 |[],_,_,h=>⟨trivial,h⟩
 |_::_,_,_::_,h=>by
  have ih:=ze h.2.2
  exact⟨⟨h.1,h.2.1,ih.1⟩,ih.2⟩
 |_::_,_,[],h=>h.elim
def At (ρ:Env) (s:Nat) (zs:List Int):Prop:=∀j,j<zs.length->ρ (s+j)=zs.getD j 0
theorem At.bP (ρ:Env) (s:Nat) (zs:List Int):At (bP ρ s zs) s zs:=λj hj=>xz zs s ρ j hj
theorem At.tail {ρ:Env} {s:Nat} {z:Int} {zs:List Int} (h:At ρ s (z::zs)):ρ s=z/\At ρ (s+1) zs:=by
 refine⟨by simpa using h 0 (by simp),λj hj=>?_⟩
 have:=h (j+1) (by simpa using hj)
 rw[show s+1+j=s+(j+1) by omega,this];simp
theorem At.drop {ρ:Env} {s:Nat} {zs:List Int} (h:At ρ s zs) (k:Nat):At ρ (s+k) (zs.drop k):=λj hj=>by
 have:=h (k+j) (by simp at hj;omega)
 rw[show s+k+j=s+(k+j) by omega,this]
 simp[List.getD]
theorem Lu {ρ:Env} {m:Nat->Nat} {N nb:Nat} {k:IntKind} {lo hi:Int}:∀(n s:Nat) (zs:List Int),bI (oV lo hi n) (zs.take n)->At ρ s zs->s+n<=N->
 (∀a∈uE k lo hi s n,A.ok N nb ρ a)/\(uE k lo hi s n).map (A.den ρ m)=(zs.take n).map (.int k)
 |0,s,zs,_,_,_=>by simp[uE]
 |n+1,s,[],h,_,_=>by simp[oV,bI]at h
 |n+1,s,z::zs,h,ha,hN=>by
  have ht:=ha.tail
  simp only[oV,List.take_succ_cons,bI]at h
  obtain⟨h1,h2⟩:=Lu (m:=m) (nb:=nb) (k:=k) (N:=N) n (s+1) zs h.2.2 ht.2 (by omega)
  refine⟨λa hm=>?_,by simp only[uE,List.map_cons,A.den,J.bH,ht.1,h2,List.take_succ_cons]⟩
  rcases List.mem_cons.1 hm with rfl|hm
  ·exact⟨J.da (by omega),by simp only[J.bH,ht.1];exact h.1,by simp only[J.bH,ht.1];exact h.2.1⟩
  ·exact h1 a hm
theorem az.xt {ρ:Env} {m:Nat->Nat} {N nb:Nat} (c:az) {s:Nat} {z:Int} (h0:c.c3.1<=z) (h1:z<=c.c3.2) (hz:ρ s=z) (hN:s<N):(c.sym s).ok N nb ρ/\(c.sym s).den ρ m=c.val z:=by
 cases c with
 |int k lo hi=>exact⟨⟨J.da hN,by simp only[J.bH,hz];exact h0,by simp only[J.bH,hz];exact h1⟩,by simp[az.sym,az.val,A.den,J.bH,hz]⟩
 |str=>exact⟨⟨J.da hN,by rw[J.bH,hz];exact h0,by rw[J.bH,hz];exact h1⟩,by simp[az.sym,az.val,A.den,J.bH,hz]⟩
 |bool=>exact⟨⟨J.da hN,J.bU _ _⟩,by simp[az.sym,az.val,A.den,aY.den,J.bH,J.aS,hz]⟩
 |sub k=>exact⟨(rfl:(Value.slice none 0 0).oneCell'=true),rfl⟩
theorem KI {ρ:Env} {m:Nat->Nat} {N nb:Nat}:∀(l:List az) (s:Nat) (zs:List Int),bI (l.map az.c3) (zs.take l.length)->At ρ s zs->s+l.length<=N->
 (∀a∈ur s l,A.ok N nb ρ a)/\(ur s l).map (A.den ρ m)=List.zipWith az.val l zs
 |[],s,zs,_,_,_=>by simp[ur]
 |_::_,s,[],h,_,_=>by simp[bI]at h
 |c::r,s,z::zs,h,ha,hN=>by
  have ht:=ha.tail
  simp only[List.map_cons,List.length_cons,List.take_succ_cons,bI]at h
  obtain⟨h1,h2⟩:=KI (m:=m) (nb:=nb) (N:=N) r (s+1) zs h.2.2 ht.2 (by simp at hN;omega)
  have hc:=c.xt (m:=m) (nb:=nb) (N:=N) h.1 h.2.1 ht.1 (by simp at hN;omega)
  refine⟨λa hm=>?_,by simp only[ur,List.map_cons,hc.2,h2,List.zipWith_cons_cons]⟩
  rcases List.mem_cons.1 hm with rfl|hm
  ·exact hc.1
  ·exact h1 a hm
theorem D.xt {ρ:Env} {m:Nat->Nat} {N nb:Nat} (d:D) {s:Nat} {zs:List Int} (h:bI d.bds (zs.take d.num)) (ha:At ρ s zs) (hN:s+d.num<=N):(d.sym s).ok N nb ρ/\(d.sym s).den ρ m=d.val zs:=by
 cases d with
 |str=>
  cases zs with
  |nil=>simp[D.bds,bI]at h
  |cons z r=>
   have ht:=ha.tail
   simp only[D.bds,D.num,List.take_succ_cons,bI]at h
   simp only[D.num]at hN
   exact⟨⟨J.da (by omega),by rw[J.bH,ht.1];exact h.1,by rw[J.bH,ht.1];exact h.2.1⟩,by simp[D.sym,W.den,A.den,D.val,J.bH,ht.1]⟩
 |int k lo hi=>
  cases zs with
  |nil=>simp[D.bds,bI]at h
  |cons z r=>
   have ht:=ha.tail
   simp only[D.bds,D.num,List.take_succ_cons,bI]at h
   simp only[D.num]at hN
   exact⟨⟨J.da (by omega),by simp only[J.bH,ht.1];exact h.1,by simp only[J.bH,ht.1];exact h.2.1⟩,by simp[D.sym,W.den,A.den,D.val,J.bH,ht.1]⟩
 |bool=>
  cases zs with
  |nil=>simp[D.bds,bI]at h
  |cons z r=>
   have ht:=ha.tail
   simp only[D.num]at hN
   exact⟨⟨J.da (by omega),J.bU _ _⟩,by simp[D.sym,W.den,A.den,D.val,aY.den,J.bH,J.aS,ht.1]⟩
 |agg k n lo hi=>
  have:=Lu (m:=m) (nb:=nb) (k:=k) n s zs h ha hN
  exact⟨this.1,by simp only[D.sym,W.den,D.val,this.2]⟩
 |mix l=>
  have:=KI (m:=m) (nb:=nb) l s zs h ha hN
  exact⟨this.1,by simp only[D.sym,W.den,D.val,this.2]⟩
 |jl l=>exact⟨⟨J.bU _ _,by rw[J.aS];exact SM l⟩,by simp[D.sym,W.den,A.den,D.val,J.aS,gT]⟩
 |mM k c=>exact⟨bh.iW _ _ c,by simp[D.sym,W.den,A.den,D.val,bh.const,J.aS]⟩
theorem Fg {ρ:Env} {m:Nat->Nat} {N nb:Nat}:∀(ds:List D) {s:Nat} {zs:List Int},bI (dD ds) zs->At ρ s zs->s+(dD ds).length<=N->(∀u∈nM s ds,W.ok N nb ρ u)/\(nM s ds).map (W.den ρ m)=jn ds zs
 |[],s,zs,_,_,_=>by simp[nM,jn]
 |d::r,s,zs,h,ha,hN=>by
  have hs:=ze h
  rw[D.vj]at hs
  simp only[dD,List.length_append,D.vj]at hN
  have h1:=d.xt (m:=m) (nb:=nb) hs.1 ha (N:=N) (by omega)
  have h2:=Fg (m:=m) (nb:=nb) (N:=N) r hs.2 (ha.drop d.num) (by omega)
  exact⟨λu hu=>by rcases List.mem_cons.1 hu with rfl|hu;exact h1.1;exact h2.1 u hu,by simp[nM,jn,h1.2,h2.2]⟩
def uG (ds:List D) (s:Nat):V:=match nM s ds with|[u]=> .w u|l=> .eb l
def gn (ds:List D) (zs:List Int):Value:=match jn ds zs with|[x]=>x|l=> .tuple l.toArray
def kb (lo hi:Int) (x:bh):Bool:=decide (lo<=x.lo)&&decide (x.hi<=hi)
def ig (k:IntKind) (lo hi:Int):List A->Option (List J)
 |[]=>some []
 | .int aZ x::r=>cond (decide (k=aZ)&&kb lo hi x) (match ig k lo hi r with|some l=>some (x.l::l)|none=>none) none
 |_::_=>none
def az.fit:az->A->Option J
 |int k lo hi,.int aZ x=>cond (decide (k=aZ)&&kb lo hi x) (some x.l) none
 |str,.str l=>some l
 |bool,.bool (.lit b)=>some (.const (cond b 1 0))
 |_,_=>none
def kD:List az->List A->Option (List J)
 |[],[]=>some []
 |c::r,a::s=>match c.fit a,kD r s with|some x,some l=>some (x::l)|_,_=>none
 |_,_=>none
def q9:D->V->Option (List J)
 | .int k lo hi,.w (.one (.int aZ x))=>cond (decide (k=aZ)&&kb lo hi x) (some [x.l]) none
 | .agg k n lo hi,.w (.agg l)=>cond (Nat.beq l.length n) (ig k lo hi l) none
 | .mix l,.w (.agg s)=>kD l s
 | .str,.w (.one (.str l))=>some [l]
 | .bool,.w (.one (.bool (.lit b)))=>some [.const (cond b 1 0)]
 | .jl l,.w (.one (.str x))=>match x.cG with|some c=>cond (decide (c=eI (l3 l))) (some []) none|none=>none
 | .mM k c,.w (.one (.int aZ x))=>match x.l.cG with|some d=>cond (decide (k=aZ)&&decide (d=c)) (some []) none|none=>none
 |_,_=>none
def lg:List D->List V->Option (List J)
 |[],[]=>some []
 |d::r,v::s=>match q9 d v,lg r s with|some a,some b=>some (a++b)|_,_=>none
 |_,_=>none
theorem vx {n:Nat} {ρ:Env} {lo hi:Int} {x:bh} (h:kb lo hi x=true) (hx:x.ok n ρ):lo<=x.l.den ρ/\x.l.den ρ<=hi:=by
 simp only[kb,Bool.and_eq_true,decide_eq_true_eq]at h
 have:=hx.2;omega
theorem BV {n nb:Nat} {ρ:Env} {m:Nat->Nat} {k:IntKind} {lo hi:Int}:∀{l:List A} {r:List J},ig k lo hi l=some r->(∀a∈l,A.ok n nb ρ a)->r.length=l.length/\bI (oV lo hi l.length) (r.map (·.den ρ))/\l.map (A.den ρ m)=(r.map (·.den ρ)).map (.int k)
 |[],r,h,_=>by simp[ig]at h;subst h;exact⟨rfl,trivial,rfl⟩
 | .int aZ x::s,r,h,a8=>by
  simp only[ig]at h
  cases hc:(decide (k=aZ)&&kb lo hi x)with
  |false=>simp[hc]at h
  |true=>
   simp only[hc,cond_true]at h
   simp only[Bool.and_eq_true,decide_eq_true_eq]at hc
   cases hr:ig k lo hi s with
   |none=>simp[hr]at h
   |some fh=>
    simp only[hr,Option.some.injEq]at h
    subst h
    obtain⟨h1,h2,h3⟩:=BV (m:=m) hr λa ha=>a8 a (List.mem_cons_of_mem _ ha)
    have hx:x.ok n ρ:=a8 (.int aZ x) (by simp)
    have hf:=vx hc.2 hx
    exact⟨by simp[h1],⟨hf.1,hf.2,h2⟩,by simp only[List.map_cons,h3,A.den,hc.1]⟩
 | .bool _::_,_,h,_=>by simp[ig]at h
 | .ptr .. ::_,_,h,_=>by simp[ig]at h
 | .iQ .. ::_,_,h,_=>by simp[ig]at h
 | .gptr .. ::_,_,h,_=>by simp[ig]at h
 | .slc .. ::_,_,h,_=>by simp[ig]at h
 | .con _::_,_,h,_=>by simp[ig]at h
 | .str _::_,_,h,_=>by simp[ig]at h
theorem az.Pa {n nb:Nat} {ρ:Env} {m:Nat->Nat} {c:az} {a:A} {l:J} (h:c.fit a=some l) (a8:a.ok n nb ρ):(c.c3.1<=l.den ρ/\l.den ρ<=c.c3.2)/\a.den ρ m=c.val (l.den ρ):=by
 unfold az.fit at h
 split at h
 ·rename_i k lo hi aZ x
  cases hc:(decide (k=aZ)&&kb lo hi x)with
  |false=>simp[hc]at h
  |true=>
   simp only[hc,cond_true,Option.some.injEq]at h
   subst h
   simp only[Bool.and_eq_true,decide_eq_true_eq]at hc
   exact⟨vx hc.2 a8,by simp only[A.den,az.val,hc.1]⟩
 ·simp only[Option.some.injEq]at h;subst h
  exact⟨a8.2,rfl⟩
 ·rename_i b
  simp only[Option.some.injEq]at h;subst h
  cases b<;>simp[az.c3,az.val,A.den,aY.den,J.aS]
 ·cases h
theorem H6 {n nb:Nat} {ρ:Env} {m:Nat->Nat}:∀{d:List az} {l:List A} {r:List J},kD d l=some r->(∀a∈l,A.ok n nb ρ a)->r.length=d.length/\bI (d.map az.c3) (r.map (·.den ρ))/\l.map (A.den ρ m)=List.zipWith az.val d (r.map (·.den ρ))
 |[],[],r,h,_=>by simp[kD]at h;subst h;exact⟨rfl,trivial,rfl⟩
 |c::d,a::s,r,h,a8=>by
  simp only[kD]at h
  cases hx:c.fit a with
  |none=>simp[hx]at h
  |some x=>
   cases hr:kD d s with
   |none=>simp[hx,hr]at h
   |some fh=>
    simp only[hx,hr,Option.some.injEq]at h
    subst h
    obtain⟨h1,h2,h3⟩:=H6 (m:=m) hr λa ha=>a8 a (List.mem_cons_of_mem _ ha)
    have hf:=az.Pa (m:=m) hx (a8 a (by simp))
    exact⟨by simp[h1],⟨hf.1.1,hf.1.2,h2⟩,by simp only[List.map_cons,h3,hf.2,List.zipWith_cons_cons]⟩
 |[],_::_,_,h,_=>by simp[kD]at h
 |_::_,[],_,h,_=>by simp[kD]at h
theorem Mn {n:Nat} {ρ:Env} {l:List UInt8} {x:J} {c:Int} (hc:x.cG=some c) (h:c=eI (l3 l)):ab (x.den ρ)=l3 l:=by rw[J.fl hc,h,gT]
theorem H3 {n nb:Nat} {ρ:Env} {m:Nat->Nat} {d:D} {v:V} {r:List J} {x:Value} (h:q9 d v=some r) (a8:v.ok n nb ρ) (hx:v.rel ρ m x):r.length=d.num/\bI d.bds (r.map (·.den ρ))/\∀zs,d.val ((r.map (·.den ρ))++zs)=x:=by
 unfold q9 at h
 split at h
 ·rename_i k lo hi aZ y
  cases hc:(decide (k=aZ)&&kb lo hi y)with
  |false=>simp[hc]at h
  |true=>
   simp only[hc,cond_true,Option.some.injEq]at h
   subst h
   simp only[Bool.and_eq_true,decide_eq_true_eq]at hc
   have hf:=vx hc.2 a8
   simp only[V.rel,W.den,A.den]at hx
   exact⟨rfl,⟨hf.1,hf.2,trivial⟩,λzs=>by simp[D.val,hx,hc.1]⟩
 ·rename_i k n' lo hi l
  cases hc:Nat.beq l.length n' with
  |false=>simp[hc]at h
  |true=>
   simp only[hc,cond_true]at h
   have hl:=Nat.eq_of_beq_eq_true hc
   subst hl
   obtain⟨h1,h2,h3⟩:=BV (m:=m) h a8
   simp only[V.rel,W.den]at hx
   exact⟨h1,h2,λzs=>by rw[hx,h3];simp only[D.val];rw[List.take_append_of_le_length (by simp[h1]),List.take_of_length_le (by simp[h1])]⟩
 ·rename_i l s
  obtain⟨h1,h2,h3⟩:=H6 (m:=m) h a8
  simp only[V.rel,W.den]at hx
  refine⟨h1,h2,λzs=>?_⟩
  rw[hx,h3]
  simp only[D.val]
  congr 2
  have key:∀(a:List az) (b c:List Int),b.length=a.length->List.zipWith az.val a (b++c)=List.zipWith az.val a b:=by
   intro a
   induction a with
   |nil=>intro b c _;simp
   |cons p a ih=>
    intro b c hb
    cases b with
    |nil=>simp at hb
    |cons z b=>simp[ih b c (by simpa using hb)]
  exact key _ _ _ (by simp[h1])
 ·rename_i l
  simp only[Option.some.injEq]at h;subst h
  simp only[V.rel,W.den,A.den]at hx
  exact⟨rfl,⟨a8.2.1,a8.2.2,trivial⟩,λzs=>by rw[hx];rfl⟩
 ·rename_i b
  simp only[Option.some.injEq]at h;subst h
  simp only[V.rel,W.den,A.den,aY.den]at hx
  cases b<;>exact⟨rfl,by simp[D.bds,bI,J.aS],λzs=>by rw[hx];simp[D.val,J.aS]⟩
 ·rename_i l y
  cases hc:y.cG with
  |none=>simp[hc]at h
  |some c=>
   simp only[hc]at h
   cases hd:decide (c=eI (l3 l))with
   |false=>simp[hd]at h
   |true=>
    simp only[hd,cond_true,Option.some.injEq]at h
    subst h
    have hd:c=eI (l3 l):=by simpa using hd
    refine⟨rfl,trivial,λzs=>?_⟩
    have hx:x= .string (a7 (ab (y.den ρ))):=hx
    rw[hx,Mn (n:=n) hc hd];rfl
 ·rename_i k c aZ y
  cases hc:y.l.cG with
  |none=>simp[hc]at h
  |some d=>
   simp only[hc]at h
   cases hd:(decide (k=aZ)&&decide (d=c))with
   |false=>simp[hd]at h
   |true=>
    simp only[hd,cond_true,Option.some.injEq]at h
    subst h
    simp only[Bool.and_eq_true,decide_eq_true_eq]at hd
    refine⟨rfl,trivial,λzs=>?_⟩
    have hx:x= .int aZ (y.l.den ρ):=hx
    rw[hx,J.fl hc,<-hd.1,hd.2];rfl
 ·cases h
theorem BY {n nb:Nat} {ρ:Env} {m:Nat->Nat}:∀{ds:List D} {vs:List V} {r:List J} {xs:List Value},lg ds vs=some r->(∀v∈vs,V.ok n nb ρ v)->dK ρ m vs xs->bI (dD ds) (r.map (·.den ρ))/\jn ds (r.map (·.den ρ))=xs
 |[],[],r,[],h,_,_=>by simp[lg]at h;subst h;exact⟨trivial,rfl⟩
 |d::ds,v::vs,r,x::xs,h,a8,hr=>by
  simp only[lg]at h
  cases h1:q9 d v with
  |none=>simp[h1]at h
  |some a=>
   cases h2:lg ds vs with
   |none=>simp[h1,h2]at h
   |some b=>
    simp only[h1,h2,Option.some.injEq]at h
    subst h
    obtain⟨p1,bz,cd⟩:=H3 (m:=m) h1 (a8 v (by simp)) hr.1
    obtain⟨q1,q2⟩:=BY h2 (λu hu=>a8 u (List.mem_cons_of_mem _ hu)) hr.2
    refine⟨by rw[List.map_append];exact oH bz q1,?_⟩
    rw[List.map_append]
    simp only[jn,cd]
    rw[show d.num=(a.map (·.den ρ)).length by simp[p1],List.drop_left,q2]
 |[],_::_,_,_,h,_,_=>by simp[lg]at h
 |_::_,[],_,_,h,_,_=>by simp[lg]at h
 |[],[],_,_::_,_,_,hr=>hr.elim
 |_::_,_::_,_,[],_,_,hr=>hr.elim
structure cC where
 f:FuncId
 id:Nat
 args:List D
 res:List D
def cC.Ok (P:Program) (wb:World) (c:cC) (spec:List Int->List Int->Prop):Prop:=
 (∀args w,(callFunc c.f args).run P w= .ok (.enter c.f args) w)/\
 ∀zs,bI (dD c.args) zs->∃rs,bI (dD c.res) rs/\spec zs rs/\∀w,wb.Extends w->Calls P c.f (jn c.args zs).toArray w λe w'=>e= .returned (gn c.res rs)/\w.Extends w'
noncomputable def BW (d:D) (v:V):M (List J):=
 match d,v with
 | .bool,.w (.one (.bool e))=>bind (rT e) λl=>pure [l]
 | .mix l,.w (.agg s)=>sw l s
 | .int k lo hi,.w (.one (.int aZ x))=>cond (decide (k=aZ)) (cond (kb lo hi x) (pure [x.l]) (bind (dh 39 [x.l,.const lo,.const hi]) λ_=>pure [x.l])) fail
 |d,v=>match q9 d v with|some r=>pure r|none=>fail
noncomputable def yD:List D->List V->M (List J)
 |[],[]=>pure []
 |d::r,v::s=>bind (BW d v) λa=>bind (yD r s) λb=>pure (a++b)
 |_,_=>fail
noncomputable def cC.M (c:cC):List ax->List V->M V:=λ_ vs n k=>
 match lg c.args vs with
 |some l=> .call c.id l n (dD c.res) (k (uG c.res n) (n+(dD c.res).length))
 |none=>yD c.args vs n λl n=> .call c.id l n (dD c.res) (k (uG c.res n) (n+(dD c.res).length))
section
variable {S:Nat->List Int->List Int->Prop} {L:V->Env->Prop}
theorem BU {k:IntKind} {lo hi:Int} {n nb:Nat} {ρ:Env}:∀{l:List A} {r:List J},ig k lo hi l=some r->(∀a∈l,A.ok n nb ρ a)->∀x∈r,J.aX n x
 |[],r,h,_=>by simp[ig]at h;subst h;intro x hx;simp at hx
 |a::s,r,h,a8=>by
  cases a with
  |int aZ x=>
   simp only[ig]at h
   cases hc:(decide (k=aZ)&&kb lo hi x)with
   |false=>simp[hc]at h
   |true=>
    cases hr:ig k lo hi s with
    |none=>simp[hc,hr]at h
    |some fh=>
     simp only[hc,hr,cond_true,Option.some.injEq]at h
     subst h
     intro y hy
     rcases List.mem_cons.1 hy with hy|hy
     ·rw[hy]
      have h0:A.ok n nb ρ (.int aZ x):=a8 _ (List.mem_cons_self ..)
      have h0:x.ok n ρ:=h0
      exact h0.1
     ·exact BU hr (λa ha=>a8 a (List.mem_cons_of_mem _ ha)) y hy
  |_=>simp[ig]at h
theorem H5 {n nb:Nat} {ρ:Env}:∀{d:List az} {l:List A} {r:List J},kD d l=some r->(∀a∈l,A.ok n nb ρ a)->∀x∈r,J.aX n x
 |[],[],r,h,_=>by simp[kD]at h;subst h;intro x hx;simp at hx
 |c::d,a::s,r,h,a8=>by
  simp only[kD]at h
  cases hx:c.fit a with
  |none=>simp[hx]at h
  |some x=>
   cases hr:kD d s with
   |none=>simp[hx,hr]at h
   |some fh=>
    simp only[hx,hr,Option.some.injEq]at h
    subst h
    intro y hy
    rcases List.mem_cons.1 hy with hy|hy
    ·subst hy
     have h0:=a8 a (by simp)
     unfold az.fit at hx
     split at hx
     ·rename_i k lo hi aZ z
      cases hc:(decide (k=aZ)&&kb lo hi z)with
      |false=>simp[hc]at hx
      |true=>
       simp only[hc,cond_true,Option.some.injEq]at hx
       subst hx
       have h0:z.ok n ρ:=h0
       exact h0.1
     ·simp only[Option.some.injEq]at hx;subst hx
      exact h0.1
     ·simp only[Option.some.injEq]at hx;subst hx
      exact J.bU _ _
     ·cases hx
    ·exact H5 hr (λa ha=>a8 a (List.mem_cons_of_mem _ ha)) y hy
 |[],_::_,_,h,_=>by simp[kD]at h
 |_::_,[],_,h,_=>by simp[kD]at h
theorem Pe {n nb:Nat} {ρ:Env} {d:D} {v:V} {r:List J} (h:q9 d v=some r) (a8:v.ok n nb ρ):∀x∈r,J.aX n x:=by
 unfold q9 at h
 split at h
 ·rename_i k lo hi aZ y
  cases hc:(decide (k=aZ)&&kb lo hi y)with
  |false=>simp[hc]at h
  |true=>
   simp only[hc,cond_true,Option.some.injEq]at h
   subst h
   have h0:y.ok n ρ:=a8
   intro x hx
   simp at hx;subst hx
   exact h0.1
 ·rename_i k n' lo hi l
  cases hc:Nat.beq l.length n' with
  |false=>simp[hc]at h
  |true=>
   simp only[hc,cond_true]at h
   exact BU h a8
 ·exact H5 h a8
 ·simp only[Option.some.injEq]at h;subst h
  intro x hx
  simp at hx;subst hx
  exact a8.1
 ·simp only[Option.some.injEq]at h;subst h
  intro x hx
  simp at hx;subst hx
  exact J.bU _ _
 ·rename_i l y
  cases hc:y.cG with
  |none=>simp[hc]at h
  |some c=>
   simp only[hc]at h
   cases hd:decide (c=eI (l3 l))with
   |false=>simp[hd]at h
   |true=>
    simp only[hd,cond_true,Option.some.injEq]at h
    subst h
    intro x hx;simp at hx
 ·rename_i k c aZ y
  cases hc:y.l.cG with
  |none=>simp[hc]at h
  |some d=>
   simp only[hc]at h
   cases hd:(decide (k=aZ)&&decide (d=c))with
   |false=>simp[hd]at h
   |true=>
    simp only[hd,cond_true,Option.some.injEq]at h
    subst h
    intro x hx;simp at hx
 ·cases h
theorem bn.Dr:∀{sh:List az} {zs:List Int},bn sh zs->bI (sh.map az.c3) zs/\List.zipWith az.val sh zs=cz sh zs
 |[],[],_=>⟨trivial,rfl⟩
 |c::sh,z::zs,h=>⟨⟨h.1.1,h.1.2,(bn.Dr h.2).1⟩,by simp[cz,(bn.Dr h.2).2]⟩
 |[],_::_,h=>h.elim
 |_::_,[],h=>h.elim
theorem MP {f:az->Int->Value}:∀(a:List az) (b c:List Int),b.length=a.length->List.zipWith f a (b++c)=List.zipWith f a b
 |[],b,c,_=>by simp
 |_::a,[],c,h=>by simp at h
 |_::a,z::b,c,h=>by simp[MP a b c (by simpa using h)]
theorem Pc {d:D} {v:V} {X:Value} {n nb:Nat} {ρ:Env} {m:Nat->Nat} (hv:v.ok n nb ρ) (bt:v.rel ρ m X):ar S L (BW d v) n ρ λag n' ls=>(∀x∈ls,J.aX n' x)/\ls.length=d.num/\bI d.bds (ls.map (·.den ag))/\∀zs,d.val ((ls.map (·.den ag))++zs)=X:=by
 unfold BW
 split
 ·rename_i e
  have bt:X= .bool (e.den ρ):=bt
  exact zf.bind λaH n1 l hn ha ⟨g1,g2,g3⟩=>ar.pure ⟨λx hx=>by simp at hx;subst hx;exact g1,rfl,⟨g2.1,g2.2,trivial⟩,λzs=>by rw[bt,g3];rfl⟩
 ·rename_i l s
  have bt:X= .agg (s.map (A.den ρ m)).toArray:=bt
  refine(xi (nb:=nb) (m:=m) hv).mono λaH n1 ls hn ha ⟨g1,g2,g3⟩=>?_
  have h1:=bn.Dr g2
  have h2:=g2.len
  refine⟨g1,by simpa [D.num]using h2,h1.1,λzs=>?_⟩
  rw[bt,<-g3,<-h1.2]
  simp only[D.val]
  rw[MP _ _ _ (by simpa using h2)]
 ·rename_i k lo hi aZ x
  have bt:X= .int aZ (x.l.den ρ):=bt
  have hv:x.ok n ρ:=hv
  refine cH λhk=>?_
  have hk:=of_decide_eq_true hk
  subst hk
  cases hf:kb lo hi x with
  |true=>
   have:=vx hf hv
   exact ar.pure ⟨λy hy=>by simp at hy;subst hy;exact hv.1,rfl,⟨this.1,this.2,trivial⟩,λzs=>by rw[bt];rfl⟩
  |false=>
   refine eh λhc=>ar.pure ?_
   simp only[List.map_cons,List.map_nil,ad,J.aS]at hc
   exact⟨λy hy=>by simp at hy;subst hy;exact hv.1,rfl,⟨hc.1,hc.2,trivial⟩,λzs=>by rw[bt];rfl⟩
 ·split
  ·rename_i hf
   obtain⟨p1,bz,cd⟩:=H3 (m:=m) hf hv bt
   exact ar.pure ⟨Pe hf hv,p1,bz,cd⟩
  ·exact ar.fail
theorem dK.ext {n nb:Nat} {ρ ag:Env} {m m':Nat->Nat}:∀{vs:List V} {xs:List Value},dK ρ m vs xs->(∀v∈vs,V.ok n nb ρ v)->agree n ρ ag->(∀b,b<nb->m' b=m b)->dK ag m' vs xs
 |[],[],_,_,_,_=>trivial
 |v::vs,x::xs,h,a8,ha,hm=>⟨V.rel.ext h.1 (a8 v (by simp)) ha hm,dK.ext h.2 (λu hu=>a8 u (List.mem_cons_of_mem _ hu)) ha hm⟩
 |[],_::_,h,_,_,_=>h.elim
 |_::_,[],h,_,_,_=>h.elim
theorem H4 {nb:Nat} {m:Nat->Nat}:∀{ds:List D} {vs:List V} {xs:List Value} {n:Nat} {ρ:Env},(∀v∈vs,V.ok n nb ρ v)->dK ρ m vs xs->ar S L (yD ds vs) n ρ λag n' ls=>(∀x∈ls,J.aX n' x)/\bI (dD ds) (ls.map (·.den ag))/\jn ds (ls.map (·.den ag))=xs
 |[],[],[],n,ρ,_,_=>ar.pure ⟨λ_ h=>by simp at h,trivial,rfl⟩
 |d::ds,v::vs,x::xs,n,ρ,a8,hr=>by
  unfold yD
  refine(Pc (nb:=nb) (a8 v (by simp)) hr.1).bind λaH n1 a c7 cm ⟨p0,p1,bz,cd⟩=>(H4 (ds:=ds) (vs:=vs) (λu hu=>(a8 u (List.mem_cons_of_mem _ hu)).ext cm c7 (Nat.le_refl _)) (dK.ext hr.2 (λu hu=>a8 u (List.mem_cons_of_mem _ hu)) cm (λ_ _=>rfl))).bind λba db b cQ cA ⟨q0,q1,q2⟩=>ar.pure ⟨λy hy=>?_,?_,?_⟩
  ·rcases List.mem_append.1 hy with hy|hy
   ·exact(p0 y hy).mono cQ
   ·exact q0 y hy
  ·have e:a.map (·.den ba)=a.map (·.den aH):=List.map_congr_left λy hy=>J.bj cA (p0 y hy)
   rw[List.map_append,e];exact oH bz q1
  ·have e:a.map (·.den ba)=a.map (·.den aH):=List.map_congr_left λy hy=>J.bj cA (p0 y hy)
   rw[List.map_append,e]
   simp only[jn,cd]
   rw[show d.num=(a.map (·.den aH)).length by simp[p1],List.drop_left,q2]
 |[],_::_,_,_,_,_,_=>ar.fail
 |_::_,[],_,_,_,_,_=>ar.fail
 |[],[],_::_,_,_,_,hr=>hr.elim
 |_::_,_::_,[],_,_,_,hr=>hr.elim
end
section
variable {S:Nat->List Int->List Int->Prop} {P:Program} {gl:dt} {w0:cR}
theorem Bt {L:V->Env->Prop} {id:Nat} {l:List J} {n:Nat} {bds:List (Int×Int)} {r:T} {G:cP} {ρ:Env} (h:(T.call id l n bds r).holds S L G ρ) {rs:List Int} (hi:bI bds rs) (hs:S id (l.map (·.den ρ)) rs):r.holds S L G (bP ρ n rs):=
 nY h hi hs
theorem Ey {ρ:Env} {m:Nat->Nat} {N nb:Nat} {ds:List D} {s:Nat} {zs:List Int} (h:bI (dD ds) zs) (ha:At ρ s zs) (hN:s+(dD ds).length<=N):(uG ds s).ok N nb ρ/\(uG ds s).rel ρ m (gn ds zs):=by
 have hs:=Fg (m:=m) (nb:=nb) ds h ha hN
 unfold uG gn
 rw[<-hs.2]
 split
 ·rename_i u heq
  rw[heq]at hs
  rw[heq]
  exact⟨hs.1 u (by simp),rfl⟩
 ·rename_i l hne
  refine⟨hs.1,?_⟩
  split
  ·rename_i x heq
   have:∃u,nM s ds=[u]:=by
    cases hl:nM s ds with
    |nil=>rw[hl]at heq;simp at heq
    |cons u r=>
     cases r with
     |nil=>exact⟨u,rfl⟩
     |cons _ _=>rw[hl]at heq;simp at heq
   obtain⟨u,hu⟩:=this
   exact absurd hu (hne u)
  ·rfl
def cC.o8 (P:Program) (wb:World) (c:cC) (spec:List Int->List Int->Prop):Prop:=
 ∀zs,bI (dD c.args) zs->∃rs,bI (dD c.res) rs/\spec zs rs/\∀w,wb.Extends w->sI P c.f (jn c.args zs).toArray w (gn c.res rs)
theorem cC.Ok.f {wb:World} {c:cC} {spec:List Int->List Int->Prop} (h:c.Ok P wb spec):c.o8 P wb spec:=λzs hz=>by
 obtain⟨rs,h1,h2,h3⟩:=h.2 zs hz
 exact⟨rs,h1,h2,λw hw=> .inr ⟨h.1 _ _,h3 w hw⟩⟩
theorem cC.snd {c:cC} {spec:List Int->List Int->Prop} (hc:c.o8 P w0.b spec) (e5:∀zs rs,spec zs rs->S c.id zs rs) (L:V->Env->Prop) (n:Nat) (ρ:Env) (m:Nat->Nat) (bl:List ax) (vs:List V) (xs:List Value)
 (eQ:∀v∈vs,V.ok n bl.length ρ v) (hr:dK ρ m vs xs):ar S L (c.M bl vs) n ρ λag n' v=>v.ok n' bl.length ag/\∃val,v.rel ag m val/\∀w,Mem w0 ρ m bl w->sI P c.f xs.toArray w val:=by
 intro G k hk
 unfold cC.M at hk
 cases hl:lg c.args vs with
 |none=>
  simp only[hl]at hk
  obtain⟨aH,n1,l,c7,cm,⟨_,h1,h2⟩,hk⟩:=H4 (S:=S) (L:=L) (nb:=bl.length) eQ hr G _ hk
  obtain⟨rs,r1,r2,eR⟩:=hc _ h1
  have al:=Bt hk r1 (e5 _ _ r2)
  have hlen:=iL r1
  have ki:=Ey (m:=m) (nb:=bl.length) (N:=n1+(dD c.res).length) r1 (At.bP aH n1 rs) (Nat.le_refl _)
  refine⟨_,_,_,Nat.le_trans c7 (Nat.le_add_right _ _),cm.trans (agree.bP rs n1 aH) c7,⟨ki.1,_,ki.2,λw hw=>?_⟩,al⟩
  rw[h2]at eR
  exact eR w hw.ext
 |some l=>
  simp only[hl]at hk
  obtain⟨h1,h2⟩:=BY hl eQ hr
  obtain⟨rs,r1,r2,eR⟩:=hc _ h1
  have al:=Bt hk r1 (e5 _ _ r2)
  have hlen:=iL r1
  have ki:=Ey (m:=m) (nb:=bl.length) (N:=n+(dD c.res).length) r1 (At.bP ρ n rs) (Nat.le_refl _)
  refine⟨_,_,_,Nat.le_add_right _ _,agree.bP rs n ρ,⟨ki.1,_,ki.2,λw hw=>?_⟩,al⟩
  rw[h2]at eR
  exact eR w hw.ext
def Un:List ax->List V->M V:=λ_ vs=>
 match vs with
 |[.w (.one (.int .u64 x)),.w (.one (.int .u64 y))]=>
  cond (decide (0<=x.lo)&&decide (x.hi<18446744073709551616)&&decide (0<=y.lo)&&decide (y.hi<18446744073709551616)) (bind (mulM x y) λp=>bind (nd p 18446744073709551616) λq=>
   pure (.eb [.one (.int .u64 q),.one (.int .u64 ⟨p.l.sub (q.l.smul 18446744073709551616),0,18446744073709551615⟩)])) fail
 |_=>fail
def Nz:List ax->List V->M V:=λ_ vs=>
 match vs with
 |[.w (.one (.int .u64 x)),.w (.one (.int .u64 y)),.w (.one (.int .u64 c))]=>
  cond (decide (0<=x.lo)&&decide (0<=y.lo)&&decide (0<=c.lo)&&decide (c.hi<=1)) (bind (nd ⟨(x.l.add y.l).add c.l,x.lo+y.lo+c.lo,x.hi+y.hi+c.hi⟩ 18446744073709551616) λq=>
   pure (.eb [.one (.int .u64 ⟨((x.l.add y.l).add c.l).sub (q.l.smul 18446744073709551616),0,18446744073709551615⟩),.one (.int .u64 q)])) fail
 |_=>fail
def XY:List ax->List V->M V:=λ_ vs=>
 match vs with
 |[.w (.one (.int .u64 x)),.w (.one (.int .u64 y)),.w (.one (.int .u64 c))]=>
  cond (decide (0<=x.lo)&&decide (x.hi<18446744073709551616)&&decide (0<=y.lo)&&decide (y.hi<18446744073709551616)&&decide (0<=c.lo)&&decide (c.hi<=1)) (bind (nd ⟨(x.l.sub y.l).sub c.l,x.lo-y.hi-c.hi,x.hi-y.lo-c.lo⟩ 18446744073709551616) λq=>
   pure (.eb [.one (.int .u64 ⟨((x.l.sub y.l).sub c.l).sub (q.l.smul 18446744073709551616),0,18446744073709551615⟩),.one (.int .u64 ⟨q.l.smul (-1),0,1⟩)])) fail
 |_=>fail
variable {L:V->Env->Prop} {n:Nat} {ρ:Env} {m:Nat->Nat} {bl:List ax} {vs:List V} {xs:List Value}
end
end Go.bo
namespace Go.bo
open M
theorem qH:∀{b:List (Int×Int)} {P:List Int->Prop},(∀rs,bI b rs->P rs)->m7 b P
 |[],_,h=>h [] trivial
 |(l,u)::b,P,h=>λr h1 h2=>qH (b:=b) (P:=λrs=>P (r::rs)) λrs hi=>h (r::rs) ⟨h1,h2,hi⟩
inductive O where
 |l (x:J)
 |b (x:aY)
def O.den (ρ:Env):O->Int
 |l x=>x.den ρ
 |b x=>cond (x.den ρ) 1 0
def fC (k:IntKind):List A->Option (List O)
 |[]=>some []
 | .int aZ x::r=>cond (decide (k=aZ)) (match fC k r with|some l=>some (.l x.l::l)|none=>none) none
 |_::_=>none
def az.out:az->A->Option O
 | .int k _ _,.int aZ x=>cond (decide (k=aZ)) (some (.l x.l)) none
 | .str,.str l=>some (.l l)
 | .bool,.bool e=>some (.b e)
 |_,_=>none
def kO:List az->List A->Option (List O)
 |[],[]=>some []
 |c::d,a::r=>match c.out a,kO d r with|some o,some l=>some (o::l)|_,_=>none
 |_,_=>none
def oS:D->W->Option (List O)
 | .int k _ _,.one (.int aZ x)=>cond (decide (k=aZ)) (some [.l x.l]) none
 | .bool,.one (.bool x)=>some [.b x]
 | .agg k n _ _,.agg l=>cond (Nat.beq l.length n) (fC k l) none
 | .str,.one (.str l)=>some [.l l]
 | .mix d,.agg l=>kO d l
 |_,_=>none
def qa:List D->List W->Option (List O)
 |[],[]=>some []
 |d::r,w::s=>match oS d w,qa r s with|some a,some b=>some (a++b)|_,_=>none
 |_,_=>none
def outs (ds:List D):V->Option (List O)
 | .w u=>match ds with|[d]=>oS d u|_=>none
 | .eb l=>match ds with|[_]=>none|_=>qa ds l
 |_=>none
def qC (ds:List D) (K:List Int->Prop) (v:V) (ρ:Env):Prop:=
 match outs ds v with
 |some os=>K (os.map (O.den ρ))
 |none=>False
theorem K9 {ρ:Env} {m:Nat->Nat} {k:IntKind}:∀{l:List A} {os:List O},fC k l=some os->os.length=l.length/\l.map (A.den ρ m)=(os.map (O.den ρ)).map (.int k)
 |[],os,h=>by simp[fC]at h;subst h;exact⟨rfl,rfl⟩
 | .int aZ x::r,os,h=>by
  simp only[fC]at h
  by_cases hk:k=aZ
  ·simp only[hk,decide_true,cond_true]at h
   cases hr:fC aZ r with
   |none=>simp[hr]at h
   |some o=>
    simp only[hr,Option.some.injEq]at h
    subst h
    subst hk
    obtain⟨h1,h2⟩:=K9 (ρ:=ρ) (m:=m) hr
    exact⟨by simp[h1],by simp only[List.map_cons,h2,A.den,O.den]⟩
  ·simp[hk]at h
 | .bool _::_,_,h=>by simp[fC]at h
 | .ptr .. ::_,_,h=>by simp[fC]at h
 | .iQ .. ::_,_,h=>by simp[fC]at h
 | .gptr .. ::_,_,h=>by simp[fC]at h
 | .slc .. ::_,_,h=>by simp[fC]at h
 | .con _::_,_,h=>by simp[fC]at h
 | .str _::_,_,h=>by simp[fC]at h
theorem az.VE {ρ:Env} {m:Nat->Nat} {c:az} {a:A} {o:O} (h:c.out a=some o):a.den ρ m=c.val (o.den ρ):=by
 unfold az.out at h
 split at h
 ·rename_i k lo hi aZ x
  by_cases hk:k=aZ
  ·subst hk
   simp only[decide_true,cond_true,Option.some.injEq]at h
   subst h;rfl
  ·simp[hk]at h
 ·simp only[Option.some.injEq]at h;subst h;rfl
 ·rename_i e
  simp only[Option.some.injEq]at h;subst h
  have hb:∀b:Bool,Value.bool b=Value.bool (decide ((cond b 1 0:Int)=1)):=by intro b;cases b<;>rfl
  exact hb (e.den ρ)
 ·cases h
theorem Lc {ρ:Env} {m:Nat->Nat}:∀{d:List az} {l:List A} {os:List O},kO d l=some os->os.length=d.length/\l.map (A.den ρ m)=List.zipWith az.val d (os.map (O.den ρ))
 |[],[],os,h=>by simp[kO]at h;subst h;exact⟨rfl,rfl⟩
 |c::d,a::r,os,h=>by
  simp only[kO]at h
  cases h1:c.out a with
  |none=>simp[h1]at h
  |some o=>
   cases hr:kO d r with
   |none=>simp[h1,hr]at h
   |some l=>
    simp only[h1,hr,Option.some.injEq]at h
    subst h
    obtain⟨p1,bz⟩:=Lc (ρ:=ρ) (m:=m) hr
    exact⟨by simp[p1],by simp only[List.map_cons,bz,az.VE h1,List.zipWith_cons_cons]⟩
 |[],_::_,_,h=>by simp[kO]at h
 |_::_,[],_,h=>by simp[kO]at h
theorem Ei {ρ:Env} {m:Nat->Nat} {d:D} {u:W} {os:List O} (h:oS d u=some os):os.length=d.num/\∀zs,d.val (os.map (O.den ρ)++zs)=u.den ρ m:=by
 unfold oS at h
 split at h
 ·rename_i k _ _ aZ x
  by_cases hk:k=aZ
  ·subst hk
   simp only[decide_true,cond_true,Option.some.injEq]at h
   subst h
   exact⟨rfl,λzs=>by simp[D.val,W.den,A.den,O.den]⟩
  ·simp[hk]at h
 ·rename_i x
  simp only[Option.some.injEq]at h
  subst h
  exact⟨rfl,λzs=>by cases hx:x.den ρ<;>simp[D.val,W.den,A.den,O.den,hx]⟩
 ·rename_i k n' _ _ l
  cases hc:Nat.beq l.length n' with
  |false=>simp[hc]at h
  |true=>
   simp only[hc,cond_true]at h
   have hl:=Nat.eq_of_beq_eq_true hc
   subst hl
   obtain⟨h1,h2⟩:=K9 (ρ:=ρ) (m:=m) h
   exact⟨h1,λzs=>by simp only[D.val,W.den,h2];rw[List.take_append_of_le_length (by simp[h1]),List.take_of_length_le (by simp[h1])]⟩
 ·simp only[Option.some.injEq]at h;subst h
  exact⟨rfl,λzs=>rfl⟩
 ·rename_i d l
  obtain⟨h1,h2⟩:=Lc (ρ:=ρ) (m:=m) h
  refine⟨h1,λzs=>?_⟩
  simp only[D.val,W.den,h2]
  congr 2
  have key:∀(a:List az) (b c:List Int),b.length=a.length->List.zipWith az.val a (b++c)=List.zipWith az.val a b:=by
   intro a
   induction a with
   |nil=>intro b c _;simp
   |cons p a ih=>
    intro b c hb
    cases b with
    |nil=>simp at hb
    |cons z b=>simp[ih b c (by simpa using hb)]
  exact key _ _ _ (by simp[h1])
 ·cases h
theorem La {ρ:Env} {m:Nat->Nat}:∀{ds:List D} {l:List W} {os:List O},qa ds l=some os->jn ds (os.map (O.den ρ))=l.map (W.den ρ m)
 |[],[],os,h=>by simp[qa]at h;subst h;rfl
 |d::ds,u::l,os,h=>by
  simp only[qa]at h
  cases h1:oS d u with
  |none=>simp[h1]at h
  |some a=>
   cases h2:qa ds l with
   |none=>simp[h1,h2]at h
   |some b=>
    simp only[h1,h2,Option.some.injEq]at h
    subst h
    obtain⟨p1,bz⟩:=Ei (ρ:=ρ) (m:=m) h1
    rw[List.map_append]
    simp only[jn,bz,List.map_cons]
    rw[show d.num=(a.map (O.den ρ)).length by simp[p1],List.drop_left,La h2]
 |[],_::_,_,h=>by simp[qa]at h
 |_::_,[],_,h=>by simp[qa]at h
theorem Zn (ds:List D):∀zs,(jn ds zs).length=ds.length:=by
 induction ds with
 |nil=>intro zs;rfl
 |cons d r ih=>intro zs;simp[jn,ih]
theorem Gy {ds:List D} {K:List Int->Prop} {v:V} {ρ:Env} {m:Nat->Nat} {val:Value} (h:qC ds K v ρ) (hr:v.rel ρ m val):∃rs,K rs/\val=gn ds rs:=by
 unfold qC at h
 cases ho:outs ds v with
 |none=>simp[ho]at h
 |some os=>
  simp only[ho]at h
  refine⟨_,h,?_⟩
  unfold outs at ho
  cases v with
  |any=>cases ho
  |jE _ _ _=>cases ho
  |j8 _ _=>cases ho
  |w u=>
   simp only at ho
   split at ho
   ·rename_i d
    obtain⟨p1,bz⟩:=Ei (ρ:=ρ) (m:=m) ho
    simp only[V.rel]at hr
    have:=bz []
    rw[List.append_nil]at this
    simp[gn,jn,this,hr]
   ·cases ho
  |eb l=>
   simp only at ho
   split at ho
   ·cases ho
   ·rename_i hne
    have:=La (ρ:=ρ) (m:=m) ho
    simp only[V.rel]at hr
    unfold gn
    split
    ·rename_i x heq
     exfalso
     have hl:=Zn ds (os.map (O.den ρ))
     rw[heq]at hl
     match ds,hl with
     |[d],_=>exact hne d rfl
    ·rw[hr,this]
noncomputable def ZS (cons:List cC) (Uo NB XZ:FuncId):ey:=λf=>
 cond (Nat.beq f Uo) (some Un) <| cond (Nat.beq f NB) (some Nz) <| cond (Nat.beq f XZ) (some XY) <|
 match cons.find? (λc=>Nat.beq f c.f)with
 |some c=>some c.M
 |none=>none
section
variable {S:Nat->List Int->List Int->Prop} {P:Program} {gl:dt} {wb:World}
noncomputable def yc (cons:List cC):ey:=λf=>
 match cons.filter (λc=>Nat.beq f c.f)with
 |[]=>none
 |l=>some λbl vs n k=>match l.find? (λc=>(lg c.args vs).isSome)with
  |some c=>c.M bl vs n k
  |none=>match l with
   |c::_=>c.M bl vs n k
   |[]=> .stuck
theorem He {w0:cR} {cons:List cC} (hc:∀c∈cons,c.o8 P w0.b (S c.id)):gD S P gl w0 (yc cons):=by
 intro f g mD L n ρ m bl vs xs h1 h2 h3 h4
 unfold yc at mD
 split at mD
 ·cases mD
 ·rename_i l hl
  simp only[Option.some.injEq]at mD
  subst mD
  intro G k hk
  simp only at hk
  split at hk
  ·rename_i c ni
   have ck:=List.mem_filter.1 (List.mem_of_find?_eq_some ni)
   have vV:=Nat.eq_of_beq_eq_true ck.2
   subst vV
   exact cC.snd (hc c ck.1) (λ_ _ h=>h) L n ρ m bl vs xs h3 h4 G k hk
  ·split at hk
   ·rename_i c r hl2
    have ck:=List.mem_filter.1 (show c∈cons.filter (λc=>Nat.beq f c.f) from by rw[hl2];exact List.mem_cons_self (a:=c) (l:=r))
    have vV:=Nat.eq_of_beq_eq_true ck.2
    subst vV
    exact cC.snd (hc c ck.1) (λ_ _ h=>h) L n ρ m bl vs xs h3 h4 G k hk
   ·exact hk.elim
theorem Calls.some {f:FuncId} {args:Array Value} {w:World} {R:Ending->World->Prop} (h:Calls P f args w R):∃e w',R e w':=by
 obtain⟨e,w',ob,h1,_⟩:=h []
 exact⟨e,w',h1⟩
noncomputable def cC.tree (P:Program) (gl:dt) (bd:ey) (li:FuncId->Nat->Option c0) (rounds d:Nat) (c:cC):T:=
 yd P gl bd li rounds d c.f (dD c.args).length ((nM 0 c.args).map V.w) [] λ_ v _=> .leaf v
theorem Gx {ρ:Env} {m:Nat->Nat}:∀(l:List W),dK ρ m (l.map V.w) (l.map (W.den ρ m))
 |[]=>trivial
 |_::r=>⟨rfl,Gx r⟩
theorem cC.calls {c:cC} {bd:ey} {li:FuncId->Nat->Option c0} {rounds d:Nat} {L:V->Env->Prop} (hm:P.follows .mixedOrders=true) (cN:∀r ex ro,gD S P gl ⟨wb,r,ex,ro,[]⟩ bd) (hg:fv gl ⟨wb,wb,λ_=>False,λ_=>False,[]⟩) {zs:List Int} (hz:bI (dD c.args) zs)
 (ht:(c.tree P gl bd li rounds d).holds S L (λ_ _=>False) (bP (λ_=>0) 0 zs)) (w:World) (hw:wb.Extends w):
 Calls P c.f (jn c.args zs).toArray w λe w'=>∃v ag m val,e= .returned val/\v.rel ag m val/\L v ag/\w.Extends w':=by
 have hs:=Fg (m:=λ_=>0) (nb:=0) (N:=(dD c.args).length) c.args hz (At.bP (λ_=>0) 0 zs) (by omega)
 have:=Oa (L:=L) (b:=wb) (w:=w) hm (cN w _ _) hg c.f _ _ _ ((nM 0 c.args).map (W.den (bP (λ_=>0) 0 zs) λ_=>0)) hw (λv hv=>by
  obtain⟨u,hu,rfl⟩:=List.mem_map.1 hv
  exact hs.1 u hu) (Gx _) ht
 rw[hs.2]at this
 refine this.mono λe w' ⟨v,ag,m,val,nb,h1,h2,_,h3,h4⟩=>⟨v,ag,m,val,h1,h2,h3,h4⟩
end
end Go.bo
namespace Go.bo
open M
structure ZL where
 f:FuncId
 id:Nat
 k:IntKind
 N:Nat
 lo:Int
 hi:Int
 ty:TypeId
 off:Nat
 len:Nat
 cap:Nat
 args:List D
 res:List D
section
variable {S:Nat->List Int->List Int->Prop} {P:Program} {gl:dt} {w0:cR}
end
end Go.bo
namespace Go.bo
def ti (P:Program) (f:FuncId):Bool:=match P.funcs[f]? with
 |some fn=> !(fn.name== "runtime.NumGoroutine")&&fn.body.isSome
 |none=>false
theorem enters {P:Program} {f:FuncId} (h:ti P f=true) (args:Array Value) (w:World):(callFunc f args).run P w= .ok (.enter f args) w:=by
 unfold ti at h
 cases hf:P.funcs[f]? with
 |none=>simp[hf]at h
 |some fn=>
  simp only[hf,Bool.and_eq_true,Bool.not_eq_true']at h
  have h1:fn.name≠ "runtime.NumGoroutine" :=by simpa using h.1
  obtain⟨c,hc⟩:=Option.isSome_iff_exists.1 h.2
  simp[callFunc,hf,h1,hc,Sem.run]
section
variable {S:Nat->List Int->List Int->Prop} {P:Program} {gl:dt} {wb:World}
end
end Go.bo
namespace Go.bo
abbrev eN:=List (Nat×Nat)
abbrev eM:=List (List Int)
def l4:eN->eM->Nat->Int
 |(s,k)::st,l::aP,i=>cond (Nat.ble s i&&Nat.blt i (s+k)) (l.getD (i-s) 0) (l4 st aP i)
 |_,_,_=>0
def DP:eN->eM->Prop
 |(_,k)::st,l::aP=>l.length=k/\DP st aP
 |[],[]=>True
 |_,_=>False
def js (ρ:Env) (st:eN) (aP:eM):Prop:=DP st aP/\∀i,ρ i=l4 st aP i
def s6 (st:eN) (aP:eM):List (Int×Nat)->Int
 |[]=>0
 |(k,i)::r=>match r with
  |[]=>cond (k==1) (l4 st aP i) (k*l4 st aP i)
  |_=>cond (k==1) (l4 st aP i) (k*l4 st aP i)+s6 st aP r
def J.di (st:eN) (aP:eM) (l:J):Int:=
 match l.ts with
 |[]=>l.c
 |ts=>cond (l.c==0) (s6 st aP ts) (s6 st aP ts+l.c)
theorem Hx {ρ:Env} {st:eN} {aP:eM} (h:∀i,ρ i=l4 st aP i):∀ts,s6 st aP ts=eP ρ ts
 |[]=>rfl
 |(k,i)::[]=>by
  simp only[s6,eP,<-h i]
  cases hk:(k==1)with
  |true=>have:k=1:=by simpa using hk
         subst this;simp
  |false=>simp
 |(k,i)::t::r=>by
  have ih:=Hx h (t::r)
  rw[s6,eP,ih,<-h i]
  ·cases hk:(k==1)with
   |true=>have:k=1:=by simpa using hk
          subst this;simp
   |false=>simp
  ·intro hc;cases hc
theorem J.fx {ρ:Env} {st:eN} {aP:eM} (h:∀i,ρ i=l4 st aP i) (l:J):l.di st aP=l.den ρ:=by
 unfold J.di J.den
 cases hl:l.ts with
 |nil=>simp[eP]
 |cons t r=>
  simp only[Hx h]
  cases hc:(l.c==0)with
  |true=>have:l.c=0:=by simpa using hc
         rw[this];simp
  |false=>simp
def qZ:eN->eM->Nat->Nat->Option (List Int)
 |(s,k)::st,l::aP,i,len=>cond (Nat.beq s i&&Nat.beq k len) (some l) (cond (Nat.ble (i+len) s||Nat.ble (s+k) i) (qZ st aP i len) none)
 |_,_,_,_=>none
theorem HU:∀{st:eN} {aP:eM} {i len:Nat} {l:List Int},qZ st aP i len=some l->DP st aP->l.length=len/\∀j,j<len->l4 st aP (i+j)=l.getD j 0
 |[],_,_,_,_,h,_=>by simp[qZ]at h
 |_::_,[],_,_,_,h,_=>by simp[qZ]at h
 |(s,k)::st,bp::aP,i,len,l,h,hl=>by
  unfold qZ at h
  cases h1:(Nat.beq s i&&Nat.beq k len)with
  |true=>
   simp only[h1,cond_true,Option.some.injEq]at h
   subst h
   simp only[Bool.and_eq_true]at h1
   have e1:=Nat.eq_of_beq_eq_true h1.1
   have e2:=Nat.eq_of_beq_eq_true h1.2
   subst e1;subst e2
   refine⟨hl.1,λj hj=>?_⟩
   unfold l4
   have:(Nat.ble s (s+j)&&Nat.blt (s+j) (s+k))=true:=by simp[Nat.blt];omega
   rw[this,cond_true,Nat.add_sub_cancel_left]
  |false=>
   simp only[h1,cond_false]at h
   cases h2:(Nat.ble (i+len) s||Nat.ble (s+k) i)with
   |false=>simp[h2]at h
   |true=>
    simp only[h2,cond_true]at h
    obtain⟨g1,g2⟩:=HU h hl.2
    refine⟨g1,λj hj=>?_⟩
    rw[<-g2 j hj]
    conv=>lhs;unfold l4
    have:(Nat.ble s (i+j)&&Nat.blt (i+j) (s+k))=false:=by
     simp only[Bool.or_eq_true,Nat.ble_eq]at h2
     cases h3:(Nat.ble s (i+j)&&Nat.blt (i+j) (s+k))with
     |false=>rfl
     |true=>simp[Nat.blt]at h3;omega
    rw[this,cond_false]
def wK:Nat->List J->Bool
 |_,[]=>true
 |i,l::r=>(l.c==0&&(match l.ts with|[(k,j)]=>k==1&&Nat.beq i j|_=>false))&&wK (i+1) r
def firstVar:List J->Nat
 |[]=>0
 |l::_=>match l.ts with|[(_,j)]=>j|_=>0
theorem J5 {ρ:Env}:∀{ls:List J} {i:Nat},wK i ls=true->∀j,j<ls.length->(ls.map (·.den ρ)).getD j 0=ρ (i+j)
 |[],_,_,j,hj=>by simp at hj
 |l::r,i,h,j,hj=>by
  simp only[wK,Bool.and_eq_true]at h
  cases j with
  |zero=>
   obtain⟨⟨h1,h2⟩,_⟩:=h
   have hc:l.c=0:=by simpa using h1
   cases hl:l.ts with
   |nil=>simp[hl]at h2
   |cons t s=>
    cases s with
    |cons t' Xi=>simp[hl]at h2
    |nil=>
     obtain⟨k,q⟩:=t
     simp only[hl,Bool.and_eq_true]at h2
     have e1:k=1:=by simpa using h2.1
     have e2:=Nat.eq_of_beq_eq_true h2.2
     subst e1;subst e2
     simp[J.den,hl,eP,hc]
  |succ j=>
   have:=J5 (ρ:=ρ) h.2 j (by simpa using hj)
   simp only[List.map_cons,List.getD_cons_succ]
   rw[this]
   congr 1;omega
def nK (st:eN) (aP:eM) (ls:List J):List Int:=
 cond (Nat.blt 1 ls.length&&wK (firstVar ls) ls) (match qZ st aP (firstVar ls) ls.length with|some l=>l|none=>ls.map (J.di st aP)) (ls.map (J.di st aP))
theorem Kr {l bp:List Int} (hl:l.length=bp.length) (h:∀j,j<l.length->l.getD j 0=bp.getD j 0):l=bp:=by
 apply List.ext_getElem hl
 intro j h1 h2
 have:=h j h1
 simpa [List.getD_eq_getElem?_getD,List.getElem?_eq_getElem h1,List.getElem?_eq_getElem h2]using this
theorem Ac {ρ:Env} {st:eN} {aP:eM} (h:js ρ st aP) (ls:List J):nK st aP ls=ls.map (·.den ρ):=by
 have cy:ls.map (J.di st aP)=ls.map (·.den ρ):=List.map_congr_left λl _=>J.fx h.2 l
 unfold nK
 cases h1:(Nat.blt 1 ls.length&&wK (firstVar ls) ls)with
 |false=>simpa using cy
 |true=>
  simp only[cond_true]
  simp only[Bool.and_eq_true]at h1
  cases h2:qZ st aP (firstVar ls) ls.length with
  |none=>exact cy
  |some l=>
   obtain⟨g1,g2⟩:=HU h2 h.1
   show l=_
   refine Kr (by simp[g1]) λj hj=>?_
   rw[J5 h1.2 j (by omega),h.2,g2 j (by omega)]
def iY:aY->Option (List J×List J)
 | .eq a b=>some ([a],[b])
 | .and (.eq a b) r=>match iY r with|some (x,y)=>some (a::x,b::y)|none=>none
 |_=>none
def aY.di (st:eN) (aP:eM):aY->Bool
 |lit b=>b
 |eq a b=>decide (a.di st aP=b.di st aP)
 |lt a b=>decide (a.di st aP<b.di st aP)
 |le a b=>decide (a.di st aP<=b.di st aP)
 |not a=> !a.di st aP
 |and a b=>match iY (.and a b)with
  |some (x,y)=>decide (nK st aP x=nK st aP y)
  |none=>a.di st aP&&b.di st aP
 |iff a b=>a.di st aP==b.di st aP
theorem HR {ρ:Env}:∀{b:aY} {x y:List J},iY b=some (x,y)->b.den ρ=decide (x.map (·.den ρ)=y.map (·.den ρ))
 | .eq a b,x,y,h=>by
  simp only[iY,Option.some.injEq,Prod.mk.injEq]at h
  obtain⟨rfl,rfl⟩:=h
  simp[aY.den]
 | .and (.eq a b) r,x,y,h=>by
  simp only[iY]at h
  cases hr:iY r with
  |none=>simp[hr]at h
  |some p=>
   obtain⟨et,gq⟩:=p
   simp only[hr,Option.some.injEq,Prod.mk.injEq]at h
   obtain⟨rfl,rfl⟩:=h
   have ih:=HR (ρ:=ρ) hr
   simp only[aY.den,ih,List.map_cons,List.cons.injEq]
   simp
 | .lit _,_,_,h=>by simp[iY]at h
 | .lt _ _,_,_,h=>by simp[iY]at h
 | .le _ _,_,_,h=>by simp[iY]at h
 | .not _,_,_,h=>by simp[iY]at h
 | .iff _ _,_,_,h=>by simp[iY]at h
 | .and (.lit _) _,_,_,h=>by simp[iY]at h
 | .and (.lt _ _) _,_,_,h=>by simp[iY]at h
 | .and (.le _ _) _,_,_,h=>by simp[iY]at h
 | .and (.not _) _,_,_,h=>by simp[iY]at h
 | .and (.and _ _) _,_,_,h=>by simp[iY]at h
 | .and (.iff _ _) _,_,_,h=>by simp[iY]at h
theorem aY.fx {ρ:Env} {st:eN} {aP:eM} (h:js ρ st aP):∀b:aY,b.di st aP=b.den ρ
 |lit _=>rfl
 |eq a b=>by simp only[di,den,J.fx h.2]
 |lt a b=>by simp only[di,den,J.fx h.2]
 |le a b=>by simp only[di,den,J.fx h.2]
 |not a=>by simp only[di,den,aY.fx h a]
 |and a b=>by
  have e1:=aY.fx h a
  have e2:=aY.fx h b
  unfold di
  cases hq:iY (.and a b)with
  |none=>simp only[den,e1,e2]
  |some p=>
   obtain⟨x,y⟩:=p
   simp only[HR (ρ:=ρ) hq,Ac h]
 |iff a b=>by simp only[di,den,aY.fx h a,aY.fx h b]
def eW {α:Type}:List Nat->List α->List (List α)
 |[],[]=>[]
 |[],x::l=>[x::l]
 |k::ix,l=>l.take k::eW ix (l.drop k)
theorem Ad {α β:Type} (f:α->β):∀(ix:List Nat) (l:List α),eW ix (l.map f)=(eW ix l).map (List.map f)
 |[],[]=>rfl
 |[],_::_=>rfl
 |k::ix,l=>by simp only[eW,List.map_cons,<-List.map_take,<-List.map_drop,Ad f ix]
def pb:List Nat->Nat->List (Int×Int)->(eN->eM->List (List Int)->Prop)->eN->eM->Prop
 |[],_,[],P,st,aP=>P st aP []
 |[],_,_::_,_,_,_=>False
 |k::ix,n,bds,P,st,aP=>cond (Nat.beq k 1)
  (match bds with
  |(lo,hi)::GV=>∀z:Int,lo<=z->z<=hi->pb ix (n+1) GV (λjZ jP ls=>P jZ jP ([z]::ls)) ((n,1)::st) ([z]::aP)
  |[]=>False)
  (cond (Nat.ble k bds.length) (∀r:List Int,bI (bds.take k) r->pb ix (n+k) (bds.drop k) (λjZ jP ls=>P jZ jP (r::ls)) ((n,k)::st) (r::aP)) False)
theorem MC:∀(a b:List Int) (n:Nat) (ρ:Env),bP ρ n (a++b)=bP (bP ρ n a) (n+a.length) b
 |[],b,n,ρ=>rfl
 |z::a,b,n,ρ=>by
  simp only[List.cons_append,bP,List.length_cons]
  rw[MC a b]
  congr 1;omega
theorem MD:∀(l:List Int) (n:Nat) (ρ:Env) (i:Nat),bP ρ n l i=cond (Nat.ble n i&&Nat.blt i (n+l.length)) (l.getD (i-n) 0) (ρ i)
 |[],n,ρ,i=>by
  have:(Nat.ble n i&&Nat.blt i (n+0))=false:=by
   cases h:(Nat.ble n i&&Nat.blt i (n+0))with
   |false=>rfl
   |true=>simp[Nat.blt]at h;omega
  simp only[bP,List.length_nil,this,cond_false]
 |z::l,n,ρ,i=>by
  simp only[bP]
  rw[MD l (n+1)]
  by_cases h1:i=n
  ·subst h1
   have e1:(Nat.ble (i+1) i&&Nat.blt i (i+1+l.length))=false:=by
    have:Nat.ble (i+1) i=false:=by
     cases h:Nat.ble (i+1) i with
     |false=>rfl
     |true=>exact absurd (Nat.le_of_ble_eq_true h) (by omega)
    simp[this]
   have e2:(Nat.ble i i&&Nat.blt i (i+(z::l).length))=true:=by simp[Nat.blt]
   rw[e1,e2]
   simp[cl]
  ·have hu:cl ρ n z i=ρ i:=An ρ z h1
   by_cases h2:n<=i/\i<n+1+l.length
   ·have e1:(Nat.ble (n+1) i&&Nat.blt i (n+1+l.length))=true:=by simp[Nat.blt];omega
    have e2:(Nat.ble n i&&Nat.blt i (n+(z::l).length))=true:=by simp[Nat.blt];omega
    rw[e1,e2]
    simp only[cond_true]
    rw[show i-n=(i-(n+1))+1 by omega,List.getD_cons_succ]
   ·have e1:(Nat.ble (n+1) i&&Nat.blt i (n+1+l.length))=false:=by
     cases h:(Nat.ble (n+1) i&&Nat.blt i (n+1+l.length))with
     |false=>rfl
     |true=>simp[Nat.blt]at h;omega
    have e2:(Nat.ble n i&&Nat.blt i (n+(z::l).length))=false:=by
     cases h:(Nat.ble n i&&Nat.blt i (n+(z::l).length))with
     |false=>rfl
     |true=>simp[Nat.blt]at h;omega
    rw[e1,e2]
    simp[hu]
theorem js.push {ρ:Env} {st:eN} {aP:eM} (h:js ρ st aP) (n:Nat) (l:List Int):js (bP ρ n l) ((n,l.length)::st) (l::aP):=
 ⟨⟨rfl,h.1⟩,λi=>by rw[MD,l4,<-h.2 i]⟩
theorem JY:∀{bds:List (Int×Int)} {zs:List Int} (k:Nat),bI bds zs->bI (bds.take k) (zs.take k)/\bI (bds.drop k) (zs.drop k)
 |[],[],k,_=>by simp[bI]
 |[],_::_,_,h=>h.elim
 |(_,_)::_,[],_,h=>h.elim
 |(l,u)::b,z::zs,0,h=>by simpa [bI]using h
 |(l,u)::b,z::zs,k+1,h=>by
  obtain⟨h1,h2,h3⟩:=h
  obtain⟨g1,g2⟩:=JY (bds:=b) (zs:=zs) k h3
  exact⟨⟨h1,h2,g1⟩,g2⟩
theorem sN:∀{ix:List Nat} {n:Nat} {bds:List (Int×Int)} {P:eN->eM->List (List Int)->Prop} {st:eN} {aP:eM} {ρ:Env} {zs:List Int},pb ix n bds P st aP->js ρ st aP->bI bds zs->∃jZ jP,js (bP ρ n zs) jZ jP/\P jZ jP (eW ix zs)
 |[],n,[],P,st,aP,ρ,[],h,ht,_=>⟨st,aP,ht,h⟩
 |[],_,[],_,_,_,_,_::_,_,_,hi=>hi.elim
 |[],_,_::_,_,_,_,_,_,h,_,_=>h.elim
 |k::ix,n,bds,P,st,aP,ρ,zs,h,ht,hi=>by
  unfold pb at h
  cases hk:Nat.beq k 1 with
  |true=>
   have e:=Nat.eq_of_beq_eq_true hk
   subst e
   simp only[hk,cond_true]at h
   cases bds with
   |nil=>exact h.elim
   |cons b GV=>
    obtain⟨lo,jw⟩:=b
    cases zs with
    |nil=>exact hi.elim
    |cons z zs=>
     obtain⟨h1,h2,h3⟩:=hi
     have:=sN (h z h1 h2) (ht.push n [z]) h3
     obtain⟨jZ,jP,g1,g2⟩:=this
     refine⟨jZ,jP,g1,?_⟩
     simpa [eW]using g2
  |false=>
   simp only[hk,cond_false]at h
   cases hb:Nat.ble k bds.length with
   |false=>simp only[hb,cond_false]at h
   |true=>
    simp only[hb,cond_true]at h
    have hb':k<=bds.length:=by simpa using hb
    have hlen:=iL hi
    obtain⟨i1,i2⟩:=JY k hi
    have e:(zs.take k).length=k:=by simp;omega
    have lV:=ht.push n (zs.take k)
    rw[e]at lV
    obtain⟨jZ,jP,g1,g2⟩:=sN (h _ i1) lV i2
    refine⟨jZ,jP,?_,g2⟩
    have e2:=MC (zs.take k) (zs.drop k) n ρ
    rw[List.take_append_drop,e]at e2
    rw[e2];exact g1
abbrev sE:=Nat->List (List Int)->Prop
def sE.set (A:sE) (fI:Nat) (p:List (List Int)->Prop):sE:=λi=>cond (Nat.beq i fI) p (A i)
def T.iq (sh:Nat->List Nat×List Nat) (dx:Nat->List Nat) (S:Nat->List (List Int)->List (List Int)->Prop) (L:V->eN->eM->Prop):T->sE->eN->eM->Prop
 |stuck,_,_,_=>False
 |leaf v,_,st,aP=>L v st aP
 |div n x d lo hi r,A,st,aP=>∀q:Int,lo<=q->q<=hi->0<=x.di st aP-d*q->x.di st aP-d*q<d->r.iq sh dx S L A ((n,1)::st) ([q]::aP)
 |mul n x y lo hi r,A,st,aP=>∀p:Int,lo<=p->p<=hi->p=x.di st aP*y.di st aP->r.iq sh dx S L A ((n,1)::st) ([p]::aP)
 |bit n op k x y r,A,st,aP=>∀z:Int,0<=z->z<=k.max->z=fN op k (x.di st aP) (y.di st aP)->r.iq sh dx S L A ((n,1)::st) ([z]::aP)
 |shr n x y lo hi r,A,st,aP=>∀z:Int,lo<=z->z<=hi->z=x.di st aP/2^(y.di st aP).toNat->r.iq sh dx S L A ((n,1)::st) ([z]::aP)
 |sel n cs aR lo hi r,A,st,aP=>∀z:Int,lo<=z->z<=hi->z=(nK st aP cs).getD (aR.di st aP).toNat 0->r.iq sh dx S L A ((n,1)::st) ([z]::aP)
 |pg b t e,A,st,aP=>(b.di st aP=true->t.iq sh dx S L A st aP)/\(b.di st aP=false->e.iq sh dx S L A st aP)
 |call id args n bds r,A,st,aP=>pb (sh id).2 n bds (λjZ jP rs=>S id ((eW (sh id).1 args).map (nK st aP)) rs->r.iq sh dx S L A jZ jP) st aP
 |loop fI init n bds r,A,st,aP=>∃(I:List (List Int)->Prop) (kV:List (List Int)->Nat),I ((eW (dx fI) init).map (nK st aP))/\
  pb (dx fI) n bds (λjZ jP zs=>I zs->r.iq sh dx S L (A.set fI λvs=>I vs/\kV vs<kV zs) jZ jP) st aP
 |again fI vals,A,st,aP=>A fI ((eW (dx fI) vals).map (nK st aP))
 |both a b,A,st,aP=>a.iq sh dx S L A st aP/\b.iq sh dx S L A st aP
 |fn n op args lo hi r,A,st,aP=>∀z:Int,lo<=z->z<=hi->z=aa op (args.map (J.di st aP))->r.iq sh dx S L A ((n,1)::st) ([z]::aP)
 |ind n b r,A,st,aP=>∀z:Int,0<=z->z<=1->b.di st aP=decide (z=1)->r.iq sh dx S L A ((n,1)::st) ([z]::aP)
 |mZ n lo hi r,A,st,aP=>∀z:Int,lo<=z->z<=hi->r.iq sh dx S L A ((n,1)::st) ([z]::aP)
 |nat n r,A,st,aP=>∀z:Int,0<=z->r.iq sh dx S L A ((n,1)::st) ([z]::aP)
 |qJ op args r,A,st,aP=>ad op (args.map (J.di st aP))->r.iq sh dx S L A st aP
 |m9 op args r,A,st,aP=>ad op (args.map (J.di st aP))/\r.iq sh dx S L A st aP
theorem ER {ρ:Env} {st:eN} {aP:eM} (h:js ρ st aP) (ix:List Nat) (l:List J):(eW ix l).map (nK st aP)=eW ix (l.map (·.den ρ)):=by
 rw[Ad];exact List.map_congr_left λx _=>Ac h x
def dp (sh:Nat->List Nat×List Nat) (S:Nat->List (List Int)->List (List Int)->Prop):Nat->List Int->List Int->Prop:=λid zs rs=>S id (eW (sh id).1 zs) (eW (sh id).2 rs)
theorem D2 {ρ:Env} {st:eN} {aP:eM} (h:js ρ st aP) (l:List J):l.map (J.di st aP)=l.map (·.den ρ):=List.map_congr_left λx _=>J.fx h.2 x
theorem iI {sh:Nat->List Nat×List Nat} {dx:Nat->List Nat} {S:Nat->List (List Int)->List (List Int)->Prop} {Gs:V->eN->eM->Prop} {L:V->Env->Prop} (hL:∀v ρ st aP,js ρ st aP->Gs v st aP->L v ρ):
 ∀(t:T) (ew:sE) (A:cP) (ρ:Env) (st:eN) (aP:eM),(∀fI vs,ew fI (eW (dx fI) vs)->A fI vs)->js ρ st aP->t.iq sh dx S Gs ew st aP->t.holds (dp sh S) L A ρ
 | .stuck,_,_,_,_,_,_,_,h=>h
 | .leaf v,_,_,ρ,st,aP,_,ht,h=>hL v ρ st aP ht h
 | .div n x d lo hi r,ew,A,ρ,st,aP,hA,ht,h=>λq h1 h2 h3 h4=>iI hL r ew A _ _ _ hA (ht.push n [q]) (h q h1 h2 (by rw[J.fx ht.2];exact h3) (by rw[J.fx ht.2];exact h4))
 | .mul n x y lo hi r,ew,A,ρ,st,aP,hA,ht,h=>λq h1 h2 h3=>iI hL r ew A _ _ _ hA (ht.push n [q]) (h q h1 h2 (by rw[J.fx ht.2,J.fx ht.2];exact h3))
 | .bit n op k x y r,ew,A,ρ,st,aP,hA,ht,h=>λq h1 h2 h3=>iI hL r ew A _ _ _ hA (ht.push n [q]) (h q h1 h2 (by rw[J.fx ht.2,J.fx ht.2];exact h3))
 | .shr n x y lo hi r,ew,A,ρ,st,aP,hA,ht,h=>λq h1 h2 h3=>iI hL r ew A _ _ _ hA (ht.push n [q]) (h q h1 h2 (by rw[J.fx ht.2,J.fx ht.2];exact h3))
 | .sel n cs aR lo hi r,ew,A,ρ,st,aP,hA,ht,h=>λq h1 h2 h3=>iI hL r ew A _ _ _ hA (ht.push n [q]) (h q h1 h2 (by rw[Ac ht,J.fx ht.2];exact h3))
 | .pg b t e,ew,A,ρ,st,aP,hA,ht,h=>⟨λhb=>iI hL t ew A _ _ _ hA ht (h.1 (by rw[aY.fx ht];exact hb)),λhb=>iI hL e ew A _ _ _ hA ht (h.2 (by rw[aY.fx ht];exact hb))⟩
 | .call id args n bds r,ew,A,ρ,st,aP,hA,ht,h=>by
  refine qH λrs hi hs=>?_
  obtain⟨jZ,jP,h1,h2⟩:=sN h ht hi
  exact iI hL r ew A _ _ _ hA h1 (h2 (by rw[ER ht];exact hs))
 | .loop fI init n bds r,ew,A,ρ,st,aP,hA,ht,h=>by
  obtain⟨I,kV,h1,h2⟩:=h
  refine⟨λzs=>I (eW (dx fI) zs),λzs=>kV (eW (dx fI) zs),?_,?_⟩
  ·rw[ER ht]at h1;exact h1
  ·refine qH λzs hi hI=>?_
   obtain⟨jZ,jP,g1,g2⟩:=sN h2 ht hi
   refine iI hL r _ _ _ _ _ (λTD vs hv=>?_) g1 (g2 hI)
   unfold sE.set at hv
   unfold cP.set
   cases hq:Nat.beq TD fI with
   |true=>
    rw[hq]at hv
    have e:=Nat.eq_of_beq_eq_true hq
    subst e
    exact hv
   |false=>rw[hq]at hv;exact hA _ _ hv
 | .again fI vals,ew,A,ρ,st,aP,hA,ht,h=>hA fI _ (by rw[<-ER ht];exact h)
 | .both x y,ew,A,ρ,st,aP,hA,ht,h=>⟨iI hL x ew A ρ st aP hA ht h.1,iI hL y ew A ρ st aP hA ht h.2⟩
 | .fn n op args lo hi r,ew,A,ρ,st,aP,hA,ht,h=>λq h1 h2 h3=>iI hL r ew A _ _ _ hA (ht.push n [q]) (h q h1 h2 (by rw[D2 ht];exact h3))
 | .ind n b r,ew,A,ρ,st,aP,hA,ht,h=>λq h1 h2 h3=>iI hL r ew A _ _ _ hA (ht.push n [q]) (h q h1 h2 (by rw[aY.fx ht];exact h3))
 | .mZ n lo hi r,ew,A,ρ,st,aP,hA,ht,h=>λq h1 h2=>iI hL r ew A _ _ _ hA (ht.push n [q]) (h q h1 h2)
 | .nat n r,ew,A,ρ,st,aP,hA,ht,h=>λq h1=>iI hL r ew A _ _ _ hA (ht.push n [q]) (h q h1)
 | .qJ op args r,ew,A,ρ,st,aP,hA,ht,h=>λh1=>iI hL r ew A ρ st aP hA ht (h (by rw[D2 ht];exact h1))
 | .m9 op args r,ew,A,ρ,st,aP,hA,ht,h=>⟨by rw[<-D2 ht];exact h.1,iI hL r ew A _ _ _ hA ht h.2⟩
def p3:List O->Option (List J)
 |[]=>some []
 | .l x::r=>match p3 r with|some l=>some (x::l)|none=>none
 | .b _::_=>none
def O.di (st:eN) (aP:eM):O->Int
 |l x=>x.di st aP
 |b x=>cond (x.di st aP) 1 0
def uK (st:eN) (aP:eM) (os:List O):List Int:=
 match p3 os with
 |some ls=>nK st aP ls
 |none=>os.map (O.di st aP)
theorem Kq {ρ:Env}:∀{os:List O} {ls:List J},p3 os=some ls->ls.map (·.den ρ)=os.map (O.den ρ)
 |[],ls,h=>by simp[p3]at h;subst h;rfl
 | .l x::r,ls,h=>by
  simp only[p3]at h
  cases hr:p3 r with
  |none=>simp[hr]at h
  |some l=>
   simp only[hr,Option.some.injEq]at h
   subst h
   simp only[List.map_cons,Kq hr,O.den]
 | .b _::_,_,h=>by simp[p3]at h
theorem O.fx {ρ:Env} {st:eN} {aP:eM} (h:js ρ st aP):∀o:O,o.di st aP=o.den ρ
 | .l x=>J.fx h.2 x
 | .b x=>by simp only[di,den,aY.fx h]
theorem L4 {ρ:Env} {st:eN} {aP:eM} (h:js ρ st aP) (os:List O):uK st aP os=os.map (O.den ρ):=by
 unfold uK
 cases hl:p3 os with
 |some ls=>exact(Ac h ls).trans (Kq hl)
 |none=>exact List.map_congr_left λo _=>O.fx h o
def Ul (k:Nat):List Nat:=match k with
 |12=>[4,4,4]
 |15=>[5,5,5]
 |20=>[5,5,5,5]
 |k=>[k]
def D.zA:D->List Nat
 | .mix l=>Ul l.length
 | .jl _=>[]
 | .mM .. =>[]
 |d=>[d.num]
def p7 (ds:List D):List Nat:=ds.flatMap D.zA
def AQ (ds:List D) (K:List (List Int)->Prop) (v:V) (st:eN) (aP:eM):Prop:=
 match outs ds v with
 |some os=>K ((eW (p7 ds) os).map (uK st aP))
 |none=>False
theorem Nc {ds:List D} {K:List (List Int)->Prop} (v:V) (ρ:Env) (st:eN) (aP:eM) (ht:js ρ st aP) (h:AQ ds K v st aP):qC ds (λrs=>K (eW (p7 ds) rs)) v ρ:=by
 unfold AQ at h
 unfold qC
 cases ho:outs ds v with
 |none=>simp[ho]at h
 |some os=>
  simp only[ho]at h⊢
  rw[Ad]
  rwa [show(eW (p7 ds) os).map (uK st aP)=(eW (p7 ds) os).map (List.map (O.den ρ)) from List.map_congr_left λo _=>L4 ht o]at h
def u9 (sh:Nat->List Nat×List Nat) (dx:Nat->List Nat) (S:Nat->List (List Int)->List (List Int)->Prop) (K:List (List Int)->List (List Int)->Prop) (lens:List Nat) (bds:List (Int×Int)) (ds:List D) (t:T):Prop:=
 pb lens 0 bds (λst aP zs=>t.iq sh dx S (AQ ds (K zs)) (λ_ _=>False) st aP) [] []
theorem Nt {sh:Nat->List Nat×List Nat} {dx:Nat->List Nat} {S:Nat->List (List Int)->List (List Int)->Prop} {K:List (List Int)->List (List Int)->Prop} {lens:List Nat} {bds:List (Int×Int)} {ds:List D} {t:T}
 (h:u9 sh dx S K lens bds ds t):m7 bds λzs=>t.holds (dp sh S) (qC ds λrs=>K (eW lens zs) (eW (p7 ds) rs)) (λ_ _=>False) (bP (λ_=>0) 0 zs):=by
 refine qH λzs hi=>?_
 obtain⟨st,aP,h1,h2⟩:=sN h (show js (λ_=>0) [] [] from⟨trivial,λ_=>rfl⟩) hi
 exact iI (λv ρ st aP ht hl=>Nc v ρ st aP ht hl) t _ _ _ st aP (λ_ _ hf=>hf.elim) h1 h2
end Go.bo
namespace Go.bo
open Go.ChangeShapes Go.WideShapes Go.RowKit
variable {H:Type} {enc:TypeId×Value->H} {P:Program}
theorem MJ {k:IntKind} {z:Int}:(Lit.int k z).wf=true↔k.min<=z/\z<=k.max:=by simp[Lit.wf]
theorem JV:∀{b bX:List (Int×Int)} {l bp:List Int},bI b l->bI bX bp->bI (b++bX) (l++bp)
 |[],_,[],_,_,h=>h
 |_::_,_,_::_,_,h,h'=>⟨h.1,h.2.1,JV h.2.2 h'⟩
 |[],_,_::_,_,h,_=>h.elim
 |_::_,_,[],_,h,_=>h.elim
theorem D.MG (d:D) {zs l:List Int} (h:zs.length=d.num):d.val (zs++l)=d.val zs:=by
 cases d with
 |str=>match zs,h with|[z],_=>rfl
 |int k lo hi=>match zs,h with|[z],_=>rfl
 |bool=>match zs,h with|[z],_=>rfl
 |agg k n lo hi=>simp only[D.num]at h;simp only[D.val,<-h];simp
 |jl p=>rfl
 |mM k c=>rfl
 |mix p=>
  simp only[D.num]at h
  simp only[D.val]
  congr 2
  revert zs
  induction p with
  |nil=>intro zs h;simp
  |cons a p ih=>
   intro zs h
   match zs,h with
   |z::zs,h=>simp only[List.cons_append,List.zipWith_cons_cons,ih (zs:=zs) (by simpa using h)]
theorem SS {w w':World} (h:w.Extends w') (may:MemPlace->Prop):w.keptBut w' may:=
 Below.frame (W:=w) ⟨h.os,h.tape,h.output,h.size,λi hi=>h.block i hi⟩ may
end Go.bo
namespace Go.bo
open M
inductive bN where
 |d (x:D)
 |rd (sh:List az)
 |iP (sh:List az) (e:TypeId)
def bN.num:bN->Nat
 |d x=>x.num
 |_=>1
noncomputable def bN.bds:bN->List (Int×Int)
 |d x=>x.bds
 |_=>[(0,au)]
noncomputable def cL:List bN->List (Int×Int)
 |[]=>[]
 |x::r=>x.bds++cL r
def bN.dW:bN->Bool
 |d _=>true
 |_=>false
def bN.mN:bN->Bool
 |iP _ _=>true
 |_=>false
def bN.jR:bN->Bool
 |rd _=>true
 |_=>false
def m8:List bN->Bool
 |[]=>true
 | .d _::r=>m8 r
 | .rd _::r=>r.all (λb=> !b.mN)&&m8 r
 | .iP sh _::r=>r.all bN.dW&&fJ sh&&m8 r
def eY (F:Nat->Prop) (w:World) (sh:List az) (rows:List (List Int)) (v:Value):Prop:=
 ((∃p,v= .slice p 0 0)/\rows=[])∨∃(g o cap:Nat) (cells:Array Value) (t:TypeId) (fz:Nat×Nat),v= .slice (some ⟨g,o,none⟩) rows.length cap/\(rows.length<=cap/\(cap:Int)<=9223372036854775807)/\F g/\w.heap[g]?=some (.cells cells t fz)/\fZ F w cells o sh rows
def qE (N:Nat->Prop) (w:World) (sh:List az) (e:TypeId) (rows:List (List Int)) (v:Value):Prop:=
 ((∃p,v= .slice p 0 0)/\rows=[])∨∃(g cap:Nat) (cells:Array Value),v= .slice (some ⟨g,0,none⟩) rows.length cap/\(rows.length<=cap/\(cap:Int)<=9223372036854775807)/\N g/\w.heap[g]?=some (.cells cells e (0,0))/\kv cells 0 sh rows/\cells.size=cap*sh.length
def bN.at (F N:Nat->Prop) (w:World):bN->List Int->Value->Prop
 |d x,zs,v=>v=x.val zs
 |rd sh,zs,v=>eY F w sh (ae (zs.getD 0 0)) v
 |iP sh e,zs,v=>qE N w sh e (ae (zs.getD 0 0)) v
def gF (F N:Nat->Prop) (w:World):List bN->List Int->List Value->Prop
 |[],_,[]=>True
 |b::r,zs,v::vs=>b.at F N w zs v/\gF F N w r (zs.drop b.num) vs
 |_,_,_=>False
def nO (us:List Value):Value:=match us with|[x]=>x|l=> .tuple l.toArray
structure cM where
 f:FuncId
 id:Nat
 args:List bN
 res:List bN
 pre:Nat:=0
def zM:Nat->List Int->Prop
 |0,_=>True
 |p+1,l=>ad (p+1) l
def Lm:Nat->List J->T->T
 |0,_,r=>r
 |p+1,ls,r=> .m9 (p+1) ls r
def Lk:Nat->List J->T->T
 |0,_,r=>r
 |p+1,ls,r=> .qJ (p+1) ls r
theorem preM_holds {S:Nat->List Int->List Int->Prop} {L:V->Env->Prop} {A:cP} {ρ:Env} {p:Nat} {ls:List J} {r:T} (h:(Lm p ls r).holds S L A ρ):zM p (ls.map (·.den ρ))/\r.holds S L A ρ:=by
 cases p with
 |zero=>exact⟨trivial,h⟩
 |succ p=>exact h
theorem preA_holds {S:Nat->List Int->List Int->Prop} {L:V->Env->Prop} {A:cP} {ρ:Env} {p:Nat} {ls:List J} {r:T} (h:(Lk p ls r).holds S L A ρ) (hp:zM p (ls.map (·.den ρ))):r.holds S L A ρ:=by
 cases p with
 |zero=>exact h
 |succ p=>exact h hp
def cM.Ok (P:Program) (wb:World) (c:cM) (spec:List Int->List Int->Prop):Prop:=
 (∀args w,(callFunc c.f args).run P w= .ok (.enter c.f args) w)/\
 ∀(F:Nat->Prop) (w:World) (vs:List Value) (zs:List Int),wb.Extends w->bI (cL c.args) zs->zM c.pre zs->gF F (λ_=>False) w c.args zs vs->
  Calls P c.f vs.toArray w λe w'=>w.Extends w'/\∃rs us,bI (cL c.res) rs/\spec zs rs/\gF (λg=>F g∨w.heap.size<=g) (λg=>w.heap.size<=g) w' c.res rs us/\e= .returned (nO us)
noncomputable def pd:List bN->Nat->Nat->List W->List ax->(Nat->List W->List ax->T)->T
 |[],_,n,us,bl,k=>k n us bl
 | .d x::r,s,n,us,bl,k=>pd r (s+x.num) n (us++[x.sym s]) bl k
 | .rd sh::r,s,n,us,bl,k=> .nat n (.mZ (n+1) (-2) 9223372036854775807 (.fn (n+2) 20 [.var s] 0 9223372036854775807
  (pd r (s+1) (n+3) (us++[.one (.sl bl.length sh.length (.var n) (.const 0) (.var (n+2)) (.var (n+1)))]) (bl++[([.rows sh (.var n) (.var s) (.var (n+1)) 1],(0,false))]) k)))
 | .iP sh e::r,s,n,us,bl,k=> .mZ n (-2) 9223372036854775807 (.fn (n+1) 20 [.var s] 0 9223372036854775807
  (pd r (s+1) (n+2) (us++[.one (.sl bl.length sh.length (.const 0) (.const 0) (.var (n+1)) (.var n))]) (bl++[([.rows sh (.const 0) (.var s) (.var n) 2],(e,false))]) k))
section
variable {S:Nat->List Int->List Int->Prop} {L:V->Env->Prop} {w0:cR} {P:Program} {gl:dt} {bd:ey}
theorem At.agree {ρ ag:Env} {s n:Nat} {zs:List Int} (h:At ρ s zs) (ha:agree n ρ ag) (hn:s+zs.length<=n):At ag s zs:=λj hj=>by rw[ha (s+j) (by omega)];exact h j hj
theorem l9 {ρ:Env} {n i:Nat} {z:Int} (h:i<n):cl ρ n z i=ρ i:=An ρ z (by omega)
theorem xZ {F N:Nat->Prop} (hF:∀g,F g->w0.ex g∨w0.ro g∨w0.r.heap.size<=g) (hN:∀g,N g->w0.b.heap.size<=g/\w0.r.heap.size<=g):∀{l:List bN} {s n:Nat} {us:List W} {bl:List ax} {k:Nat->List W->List ax->T} {G:cP} {ρ:Env} {m:Nat->Nat} {w:World} {zs:List Int} {vals:List Value},
 m8 l=true->bQ n bl.length ρ bl->Mem w0 ρ m bl w->At ρ s zs->bI (cL l) zs->s+(cL l).length<=n->gF F N w l zs vals->
 ((l.all λb=> !b.jR)=true∨∀(i:Nat) (p:ax),bl[i]?=some p->F (m i)->a6 ρ p.1<=1)->((l.all λb=> !b.mN)=true∨∀(i:Nat) (p:ax),bl[i]?=some p->N (m i)->a6 ρ p.1=0)->
 ((l.all λb=> !b.mN)=true∨∀g,N g->mh w0 ρ m bl w g)->
 (∀u∈us,W.ok n bl.length ρ u)->
 (pd l s n us bl k).holds S L G ρ->∃n' ag m' jm aW,cv n bl.length ρ m n' (List.length aW) ag m'/\bQ n' aW.length ag aW/\Mem w0 ag m' aW w/\jm.map (W.den ag m')=us.map (W.den ρ m)++vals/\(∀u∈jm,W.ok n' aW.length ag u)/\(k n' jm aW).holds S L G ag
 |[],s,n,us,bl,k,G,ρ,m,w,zs,vals,_,hb,hm,_,_,_,hat,_,_,_,lA,al=>by
  match vals,hat with
  |[],_=>exact⟨n,ρ,m,us,bl,cv.refl _ _ _ _,hb,hm,by simp,lA,al⟩
 | .d x::r,s,n,us,bl,k,G,ρ,m,w,zs,vals,a8,hb,hm,hA,hz,hn,hat,h1,h2,jb,lA,al=>by
  match vals,hat with
  |v::vs,hat=>
   obtain⟨hv,hat⟩:=hat
   have hv:v=x.val zs:=hv
   simp only[cL,bN.bds]at hz hn
   simp only[List.length_append]at hn
   obtain⟨i1,i2⟩:=ze hz
   rw[D.vj]at i1 i2 hn
   have hs:=D.xt (ρ:=ρ) (m:=m) (N:=n) (nb:=bl.length) x i1 hA (by omega)
   obtain⟨n',ag,m',jm,aW,g1,g2,g3,g4,g5,g6⟩:=xZ hF hN (l:=r) (s:=s+x.num) (us:=us++[x.sym s]) (zs:=zs.drop x.num) a8 hb hm (hA.drop x.num) i2 (by omega) hat (by
    rcases h1 with h1|h1
    ·left;simpa [bN.jR]using h1
    ·exact .inr h1) (by
    rcases h2 with h2|h2
    ·left;simpa [bN.mN]using h2
    ·exact .inr h2) (by
    rcases jb with h2|h2
    ·left;simpa [bN.mN]using h2
    ·exact .inr h2) (λu hu=>by
    rcases List.mem_append.1 hu with hu|hu
    ·exact lA u hu
    ·simp at hu;subst hu;exact hs.1) al
   exact⟨n',ag,m',jm,aW,g1,g2,g3,by rw[g4,List.map_append,hv];simp[hs.2],g5,g6⟩
 | .rd sh::r,s,n,us,bl,k,G,ρ,m,w,zs,vals,a8,hb,hm,hA,hz,hn,hat,h1,h2,jb,lA,al=>by
  match vals,hat with
  |v::vs,hat=>
   obtain⟨hv,hat⟩:=hat
   match zs,hz with
   |z::zs,hz=>
    obtain⟨af,z2,hz⟩:=hz
    have hv:eY F w sh (ae z) v:=hv
    obtain⟨py,B5⟩:=hA.tail
    have h1:∀(i:Nat) (p:ax),bl[i]?=some p->F (m i)->a6 ρ p.1<=1:=by
     rcases h1 with h1|h1
     ·simp[bN.jR]at h1
     ·exact h1
    simp only[cL,bN.bds,List.length_append,List.length_cons,List.length_nil]at hn
    simp only[m8,Bool.and_eq_true]at a8
    have hlen:(ae z).length<=9223372036854775807:=by
     rcases hv with⟨_,h⟩|⟨_,_,cap,_,_,_,_,⟨h3,h4⟩,_⟩
     ·simp[h]
     ·omega
    have kl:zs.length=(cL r).length:=iL hz
    obtain⟨g,o,cap,hg1,hg2,vY,vZ,ou⟩:∃(g:Nat) (o:Nat) (cap:Int),(-2<=cap/\cap<=9223372036854775807)/\(cap<0->ae z=[])/\(0<=cap->((ae z).length:Int)<=cap)/\
     (v=if cap<0 then Value.slice (jJ cap g) 0 0 else .slice (some ⟨g,o,none⟩) (ae z).length cap.toNat)/\
     (0<=cap->F g/\∃cells t fz,w.heap[g]?=some (.cells cells t fz)/\fZ F w cells o sh (ae z)):=by
     rcases hv with⟨⟨p,h3⟩,h4⟩|⟨g,o,cap,cells,t,fz,h3,⟨h4,h5⟩,h6,h7,bw⟩
     ·obtain⟨c,g,hc,hp⟩:=AA p
      exact⟨g,0,c,by omega,λ_=>h4,λh=>by omega,by rw[if_pos hc.2,hp,h3],λh=>by omega⟩
     ·exact⟨g,o,cap,by omega,λh=>by omega,λ_=>by omega,by rw[if_neg (by omega)];simpa using h3,λ_=>⟨h6,cells,t,fz,h7,bw⟩⟩
    have ry:=al (o:Int) (by omega) cap hg1.1 hg1.2 (ae z).length (by omega) (by omega) (by
     simp only[List.map_cons,List.map_nil,aa,J.bH]
     rw[l9 (by omega),l9 (by omega),py])
    generalize iv:cl (cl (cl ρ n (o:Int)) (n+1) cap) (n+2) ((ae z).length:Int)=ek at ry
    have ha:agree n ρ ek:=by
     rw[<-iv]
     intro i hi
     rw[l9 (by omega),l9 (by omega),l9 hi]
    have cy:ek n=o:=by rw[<-iv,l9 (by omega),l9 (by omega),fu]
    have e1:ek (n+1)=cap:=by rw[<-iv,l9 (by omega),fu]
    have e2:ek (n+2)=(ae z).length:=by rw[<-iv,fu]
    have e3:ek s=z:=by rw[ha s (by omega)];exact py
    have pK:=hm.dA hb ha
    have pC:=hb.ext ha (show n<=n+3 by omega) (Nat.le_refl bl.length)
    have pz:(A.rows sh (.var n) (.var s) (.var (n+1)) 1).ok (n+3) bl.length ek:=⟨⟨J.da (by omega),J.da (by omega),J.da (by omega)⟩,by rw[J.bH,e3];exact⟨af,z2⟩,by rw[J.bH,e1];exact hg1⟩
    have dV:a6 ek [A.rows sh (.var n) (.var s) (.var (n+1)) 1]<=1:=by
     simp only[a6];split<;>omega
    have ri:∀bA,F bA->bD w0 ek (fa m bl.length g) (bl++[([.rows sh (.var n) (.var s) (.var (n+1)) 1],(0,false))]) bA:=λbA gM=>bD.push ⟨hF bA gM,λi p hi hk he=>by
     have bk:=h1 i p hi (by rw[he];exact gM)
     rw[jC (hb _ (List.mem_of_getElem? hi)) ha]at hk
     omega⟩ (.inl dV)
    have hO:=pK.push (x:=([.rows sh (.var n) (.var s) (.var (n+1)) 1],(0,false))) (g:=g) pC (λy hy=>by simp at hy;subst hy;exact pz) (λho=>by cases ho) (λcn cY code' cW ea he=>by
     cases he
     intro _
     refine⟨λh=>by rw[J.bH,e1]at h;rw[J.bH,e3];exact hg2 h,λh=>?_⟩
     rw[J.bH,e1]at h
     obtain⟨B7,cells,t,fz,k1,k2⟩:=ou h
     exact⟨hF g B7,cells,t,fz,k1,⟨by rw[J.bH,cy];omega,by rw[J.bH,J.bH,cy,e3];exact k2.mono (Fr.of w ri)⟩,λh2=>by omega⟩) (λi p hi he=>by
      by_cases hc:0<=cap
      ·refine .inl ⟨?_,?_⟩
       ·rw[jC (hb _ (List.mem_of_getElem? hi)) ha]
        exact h1 i p hi (by rw[he];exact(ou hc).1)
       ·rw[gi (by decide) (by rw[J.bH,e1];exact hc)];exact Nat.le_refl 1
      ·refine .inr (.inr ?_)
       simp only[a6,J.bH,e1]
       rw[if_pos (by omega)]) (pK.z8 dV)
    have CS:cv n bl.length ρ m (n+3) (bl++[([A.rows sh (.var n) (.var s) (.var (n+1)) 1],((0:TypeId),false))]).length ek (fa m bl.length g):=⟨by omega,ha,by simp,λb hb=>fX hb⟩
    have Cn:bQ (n+3) (bl++[([A.rows sh (.var n) (.var s) (.var (n+1)) 1],((0:TypeId),false))]).length ek (bl++[([.rows sh (.var n) (.var s) (.var (n+1)) 1],(0,false))]):=λp hp a gJ=>by
     rcases List.mem_append.1 hp with hp|hp
     ·exact(pC p hp a gJ).ext (agree.refl _ _) (Nat.le_refl _) (by simp)
     ·simp at hp;subst hp;simp at gJ;subst gJ
      exact pz.ext (agree.refl _ _) (Nat.le_refl _) (by simp)
    have Db:W.ok (n+3) (bl++[([A.rows sh (.var n) (.var s) (.var (n+1)) 1],((0:TypeId),false))]).length ek (.one (.sl bl.length sh.length (.var n) (.const 0) (.var (n+2)) (.var (n+1)))):=by
     refine⟨by simp,⟨J.da (by omega),J.bU _ _,J.da (by omega),J.da (by omega)⟩,?_⟩
     simp only[J.bH,J.aS,cy,e1,e2]
     exact⟨by omega,by omega,λh=>by rw[hg2 h];rfl,vY⟩
    obtain⟨n',ag,m',jm,aW,g1,g2,g3,g4,g5,g6⟩:=xZ hF hN (l:=r) (s:=s+1) (us:=us++[.one (.sl bl.length sh.length (.var n) (.const 0) (.var (n+2)) (.var (n+1)))]) (zs:=zs) (vals:=vs) a8.2 Cn hO (B5.agree ha (by omega)) hz (by omega) hat (.inr λi p hi hf=>by
     rw[List.getElem?_append]at hi
     split at hi
     ·rename_i bM
      rw[fX bM]at hf
      rw[jC (hb _ (List.mem_of_getElem? hi)) ha]
      exact h1 i p hi hf
     ·have:i=bl.length:=by
       have:=(List.getElem?_eq_some_iff.1 hi).1
       simp at this;omega
      subst this
      simp at hi
      subst hi
      simp only[a6];split<;>omega) (.inl a8.1) (.inl a8.1) (λu hu=>by
     rcases List.mem_append.1 hu with hu|hu
     ·exact(lA u hu).ext ha (by omega) (by simp)
     ·simp at hu;subst hu;exact Db) ry
    refine⟨n',ag,m',jm,aW,CS.trans g1,g2,g3,?_,g5,g6⟩
    rw[g4,List.map_append,List.append_assoc]
    congr 1
    ·exact List.map_congr_left λu hu=>W.hM (lA u hu) ha (λb hb=>fX hb)
    ·simp only[List.map_cons,List.map_nil,List.cons_append,List.nil_append,W.den,A.den,J.bH,J.aS,cy,e1,e2,h9]
     rw[vZ]
     simp
 | .iP sh e::r,s,n,us,bl,k,G,ρ,m,w,zs,vals,a8,hb,hm,hA,hz,hn,hat,h1,h2,jb,lA,al=>by
  match vals,hat with
  |v::vs,hat=>
   obtain⟨hv,hat⟩:=hat
   match zs,hz with
   |z::zs,hz=>
    obtain⟨af,z2,hz⟩:=hz
    have hv:qE N w sh e (ae z) v:=hv
    obtain⟨py,B5⟩:=hA.tail
    simp only[cL,bN.bds,List.length_append,List.length_cons,List.length_nil]at hn
    simp only[m8,Bool.and_eq_true]at a8
    have h2:∀(i:Nat) (p:ax),bl[i]?=some p->N (m i)->a6 ρ p.1=0:=by
     rcases h2 with h2|h2
     ·simp[bN.mN]at h2
     ·exact h2
    have jb:∀g,N g->mh w0 ρ m bl w g:=by
     rcases jb with h2|h2
     ·simp[bN.mN]at h2
     ·exact h2
    have hlen:(ae z).length<=9223372036854775807:=by
     rcases hv with⟨_,h⟩|⟨_,cap,_,_,⟨h3,h4⟩,_⟩
     ·simp[h]
     ·omega
    have kl:zs.length=(cL r).length:=iL hz
    obtain⟨g,cap,hg1,hg2,vY,vZ,ou⟩:∃(g:Nat) (cap:Int),(-2<=cap/\cap<=9223372036854775807)/\(cap<0->ae z=[])/\(0<=cap->((ae z).length:Int)<=cap)/\
     (v=if cap<0 then Value.slice (jJ cap g) 0 0 else .slice (some ⟨g,0,none⟩) (ae z).length cap.toNat)/\
     (0<=cap->N g/\∃cells,w.heap[g]?=some (.cells cells e (0,0))/\kv cells 0 sh (ae z)/\cells.size=cap.toNat*sh.length):=by
     rcases hv with⟨⟨p,h3⟩,h4⟩|⟨g,cap,cells,h3,⟨h4,h5⟩,h6,h7,bw,bk⟩
     ·obtain⟨c,g,hc,hp⟩:=AA p
      exact⟨g,c,by omega,λ_=>h4,λh=>by omega,by rw[if_pos hc.2,hp,h3],λh=>by omega⟩
     ·exact⟨g,cap,by omega,λh=>by omega,λ_=>by omega,by rw[if_neg (by omega)];simpa using h3,λ_=>⟨h6,cells,h7,bw,by simpa using bk⟩⟩
    have ry:=al cap hg1.1 hg1.2 (ae z).length (by omega) (by omega) (by
     simp only[List.map_cons,List.map_nil,aa,J.bH]
     rw[l9 (by omega),py])
    generalize iv:cl (cl ρ n cap) (n+1) ((ae z).length:Int)=ek at ry
    have ha:agree n ρ ek:=by
     rw[<-iv]
     intro i hi
     rw[l9 (by omega),l9 hi]
    have e1:ek n=cap:=by rw[<-iv,l9 (by omega),fu]
    have e2:ek (n+1)=(ae z).length:=by rw[<-iv,fu]
    have e3:ek s=z:=by rw[ha s (by omega)];exact py
    have pK:=hm.dA hb ha
    have pC:=hb.ext ha (show n<=n+2 by omega) (Nat.le_refl bl.length)
    have pz:(A.rows sh (.const 0) (.var s) (.var n) 2).ok (n+2) bl.length ek:=⟨⟨J.bU _ _,J.da (by omega),J.da (by omega)⟩,by rw[J.bH,e3];exact⟨af,z2⟩,by rw[J.bH,e1];exact hg1⟩
    have Qm:∀(i:Nat) (cn:List az) (cY code' cW:J) (ea:Nat) (t':TypeId×Bool),bl[i]?=some ([.rows cn cY code' cW ea],t')->fE w0 ek (bD w0 ek (fa m bl.length g) (bl++[([.rows sh (.const 0) (.var s) (.var n) 2],(e,false))])) (m i) cn cY code' cW ea t'.1 w:=λi cn cY code' cW ea t' hi=>by
     rcases Int.lt_or_le cap 0 with hc|hc
     ·exact pK.z8 (by simp only[a6,J.bH,e1];rw[if_pos hc];decide) i cn cY code' cW ea t' hi
     ·exact(((jb g (ou hc).1) i cn cY code' cW ea t' hi).dA (hb _ (List.mem_of_getElem? hi) _ (by simp)) ha).mono λbA h'=>(bD.dA hb ha h'.1).push (.inr h'.2)
    have hO:=pK.push (x:=([.rows sh (.const 0) (.var s) (.var n) 2],(e,false))) (g:=g) pC (λy hy=>by simp at hy;subst hy;exact pz) (λho=>by cases ho) (λcn cY code' cW ea he=>by
     cases he
     intro _
     refine⟨λh=>by rw[J.bH,e1]at h;rw[J.bH,e3];exact hg2 h,λh=>?_⟩
     rw[J.bH,e1]at h
     obtain⟨PM,cells,k1,k2,k3⟩:=ou h
     have cQ:=hN g PM
     exact⟨.inr (.inr cQ.2),cells,e,(0,0),k1,⟨by rw[J.aS];exact Int.le_refl _,by rw[J.aS,J.bH,e3];exact(jr a8.1.2).2 k2⟩,λ_=>⟨rfl,J.aS _ _,.wW,by rw[J.bH,e1];exact k3,cQ.1,.inr cQ.2⟩⟩) (λi p hi he=>by
      by_cases hc:0<=cap
      ·refine .inr (.inl ?_)
       rw[jC (hb _ (List.mem_of_getElem? hi)) ha]
       exact h2 i p hi (by rw[he];exact(ou hc).1)
      ·refine .inr (.inr ?_)
       simp only[a6,J.bH,e1]
       rw[if_pos (by omega)]) Qm
    have CS:cv n bl.length ρ m (n+2) (bl++[([A.rows sh (.const 0) (.var s) (.var n) 2],(e,false))]).length ek (fa m bl.length g):=⟨by omega,ha,by simp,λb hb=>fX hb⟩
    have Cn:bQ (n+2) (bl++[([A.rows sh (.const 0) (.var s) (.var n) 2],(e,false))]).length ek (bl++[([.rows sh (.const 0) (.var s) (.var n) 2],(e,false))]):=λp hp a gJ=>by
     rcases List.mem_append.1 hp with hp|hp
     ·exact(pC p hp a gJ).ext (agree.refl _ _) (Nat.le_refl _) (by simp)
     ·simp at hp;subst hp;simp at gJ;subst gJ
      exact pz.ext (agree.refl _ _) (Nat.le_refl _) (by simp)
    have Db:W.ok (n+2) (bl++[([A.rows sh (.const 0) (.var s) (.var n) 2],(e,false))]).length ek (.one (.sl bl.length sh.length (.const 0) (.const 0) (.var (n+1)) (.var n))):=by
     refine⟨by simp,⟨J.bU _ _,J.bU _ _,J.da (by omega),J.da (by omega)⟩,?_⟩
     simp only[J.bH,J.aS,e1,e2]
     exact⟨by omega,by omega,λh=>by rw[hg2 h];rfl,vY⟩
    obtain⟨n',ag,m',jm,aW,g1,g2,g3,g4,g5,g6⟩:=GR (w0:=w0) (l:=r) (s:=s+1) (us:=us++[.one (.sl bl.length sh.length (.const 0) (.const 0) (.var (n+1)) (.var n))]) (zs:=zs) (vals:=vs) a8.1.1 Cn hO (B5.agree ha (by omega)) hz (by omega) hat (λu hu=>by
     rcases List.mem_append.1 hu with hu|hu
     ·exact(lA u hu).ext ha (by omega) (by simp)
     ·simp at hu;subst hu;exact Db) ry
    refine⟨n',ag,m',jm,aW,CS.trans g1,g2,g3,?_,g5,g6⟩
    rw[g4,List.map_append,List.append_assoc]
    congr 1
    ·exact List.map_congr_left λu hu=>W.hM (lA u hu) ha (λb hb=>fX hb)
    ·simp only[List.map_cons,List.map_nil,List.cons_append,List.nil_append,W.den,A.den,J.bH,J.aS,e1,e2,h9]
     rw[vZ]
     simp
where
 GR {w0:cR} {F N:Nat->Prop}:∀{l:List bN} {s n:Nat} {us:List W} {bl:List ax} {k:Nat->List W->List ax->T} {G:cP} {ρ:Env} {m:Nat->Nat} {w:World} {zs:List Int} {vals:List Value},
  (l.all bN.dW)=true->bQ n bl.length ρ bl->Mem w0 ρ m bl w->At ρ s zs->bI (cL l) zs->s+(cL l).length<=n->gF F N w l zs vals->
  (∀u∈us,W.ok n bl.length ρ u)->
  (pd l s n us bl k).holds S L G ρ->∃n' ag m' jm aW,cv n bl.length ρ m n' (List.length aW) ag m'/\bQ n' aW.length ag aW/\Mem w0 ag m' aW w/\jm.map (W.den ag m')=us.map (W.den ρ m)++vals/\(∀u∈jm,W.ok n' aW.length ag u)/\(k n' jm aW).holds S L G ag
 |[],s,n,us,bl,k,G,ρ,m,w,zs,vals,_,hb,hm,_,_,_,hat,lA,al=>by
  match vals,hat with
  |[],_=>exact⟨n,ρ,m,us,bl,cv.refl _ _ _ _,hb,hm,by simp,lA,al⟩
 | .d x::r,s,n,us,bl,k,G,ρ,m,w,zs,vals,a8,hb,hm,hA,hz,hn,hat,lA,al=>by
  match vals,hat with
  |v::vs,hat=>
   obtain⟨hv,hat⟩:=hat
   have hv:v=x.val zs:=hv
   simp only[cL,bN.bds]at hz hn
   simp only[List.length_append]at hn
   obtain⟨i1,i2⟩:=ze hz
   rw[D.vj]at i1 i2 hn
   have hs:=D.xt (ρ:=ρ) (m:=m) (N:=n) (nb:=bl.length) x i1 hA (by omega)
   obtain⟨n',ag,m',jm,aW,g1,g2,g3,g4,g5,g6⟩:=GR (l:=r) (s:=s+x.num) (us:=us++[x.sym s]) (zs:=zs.drop x.num) (by simpa [bN.dW]using a8) hb hm (hA.drop x.num) i2 (by omega) hat (λu hu=>by
    rcases List.mem_append.1 hu with hu|hu
    ·exact lA u hu
    ·simp at hu;subst hu;exact hs.1) al
   exact⟨n',ag,m',jm,aW,g1,g2,g3,by rw[g4,List.map_append,hv];simp[hs.2],g5,g6⟩
 | .rd _::_,_,_,_,_,_,_,_,_,_,_,_,a8,_,_,_,_,_,_,_,_=>by simp[bN.dW]at a8
 | .iP _ _::_,_,_,_,_,_,_,_,_,_,_,_,a8,_,_,_,_,_,_,_,_=>by simp[bN.dW]at a8
end
end Go.bo
namespace Go.bo
open M
theorem zm (x:Nat) (r:List Nat):lc (x::r)=2^x*(2*lc r+1):=rfl
theorem Tb (x:Nat) (r:List Nat):lc r<=lc (x::r):=by
 rw[zm]
 have h1:1<=2^x:=Nat.one_le_two_pow
 have h2:2*lc r+1<=2^x*(2*lc r+1):=Nat.le_mul_of_pos_left _ h1
 omega
theorem Kk:∀(a:Nat) (l:List Nat),lc (l.drop a)<=lc l
 |0,l=>by simp
 |a+1,[]=>by simp
 |a+1,x::r=>by rw[List.drop_succ_cons];exact Nat.le_trans (Kk a r) (Tb x r)
theorem Kl:∀(k:Nat) (l:List Nat),lc (l.take k)<=lc l
 |0,l=>by simp[lc]
 |k+1,[]=>by simp
 |k+1,x::r=>by
  rw[List.take_succ_cons,zm,zm]
  exact Nat.mul_le_mul_left _ (by have:=Kl k r;omega)
theorem Lr (l:List (List Int)) (a k:Nat):rc ((l.drop a).take k)<=rc l:=by
 unfold rc
 rw[List.map_take,List.map_drop]
 exact_mod_cast Nat.le_trans (Kl k _) (Kk a _)
theorem ZB (n:Nat):nS (qn n)=n:=by
 unfold nS qn
 by_cases h:n% 2=0
 ·rw[if_pos h,if_pos (by omega)];omega
 ·rw[if_neg h,if_neg (by omega)];omega
theorem My:∀(f n:Nat),0<n->n<=f->n=2^j0 f n*(2*(n/2^j0 f n/2)+1)
 |0,n,h,h'=>by omega
 |f+1,n,h,h'=>by
  unfold j0
  by_cases hn:n% 2=0
  ·rw[if_pos hn]
   have ih:=My f (n/2) (by omega) (by omega)
   have e:n/2^(j0 f (n/2)+1)=n/2/2^j0 f (n/2):=by rw[Nat.pow_succ,Nat.mul_comm,Nat.div_div_eq_div_mul]
   rw[e,Nat.pow_succ,Nat.mul_comm (2^_) 2,Nat.mul_assoc,<-ih];omega
  ·rw[if_neg hn];simp;omega
theorem DM:∀(f n:Nat),n<=f->lc (oM f n)=n
 |0,n,h=>by
  have:n=0:=by omega
  subst this;rfl
 |f+1,n,h=>by
  unfold oM
  by_cases hn:n=0
  ·rw[if_pos hn,hn];rfl
  ·rw[if_neg hn,zm]
   have hp:0<2^j0 n n:=Nat.two_pow_pos _
   have hd:n/2^j0 n n/2<=f:=by
    have h1:n/2^j0 n n<=n:=Nat.div_le_self _ _
    omega
   rw[DM f _ hd]
   exact(My n n (by omega) (Nat.le_refl _)).symm
theorem Lq {z:Int} (h:0<=z):rc (ae z)=z:=by
 unfold rc ae
 rw[List.map_map]
 have e:((λrow:List Int=>lc (row.map nS))∘λn=>(oM n n).map qn)=id:=by
  funext n
  simp only[Function.comp,List.map_map,id]
  have:(nS∘qn)=id:=by funext k;exact ZB k
  rw[this,List.map_id,DM n n (Nat.le_refl _)]
 rw[e,List.map_id,DM _ _ (Nat.le_refl _)]
 omega
def iU:V->List Nat
 | .w (.one (.sl b _ _ _ _ _))=>[b]
 | .w (.one (.slc b _ _ _))=>[b]
 |_=>[]
noncomputable def xd (jX:Bool) (sh:List az) (bl:List ax) (v:V):M J:=
 match v with
 | .w (.one (.con (.slice none 0 0)))=>pure (.const 0)
 | .w (.one (.sl b aV o ro len cap))=>match bl[b]? with
  |some ([.rows cn off code cu kind],_)=>cond (Nat.blt 0 kind&&hZ sh cn&&J.beq o off&&Nat.beq aV sh.length) (bind (dh 22 [code,ro,ro.add len]) λ_=>bind (sZ cap cu) λ_=>cT 22 [code,ro,ro.add len] 0 au) fail
  |_=>fail
 | .w (.one (.slc b off len cap))=>match kH bl b off (len*sh.length)with
  |some cs=>cond (gy sh&&Nat.ble len 1073741824&&Nat.ble len cap&&Nat.ble cap 9223372036854775807&&(fJ sh||jX)) (cond (fJ sh) (pc sh (gG sh.length len cs) (.const 0)) (xY bl sh (gG sh.length len cs) (.const 0))) fail
  |none=>fail
 |_=>fail
noncomputable def Ej (sh:List az) (e:TypeId) (bl:List ax) (v:V):M J:=
 match v with
 | .w (.one (.con (.slice none 0 0)))=>pure (.const 0)
 | .w (.one (.sl b aV o ro len cap))=>match bl[b]? with
  |some ([.rows cn off code cu kind],t)=>cond (Nat.beq kind 2&&hZ sh cn&&J.beq o (.const 0)&&J.beq off (.const 0)&&J.beq ro (.const 0)&&J.beq cap cu&&Nat.beq aV sh.length&&Nat.beq t.1 e&&fJ sh) (bind (dh 22 [code,.const 0,len]) λ_=>cT 22 [code,.const 0,len] 0 au) fail
  |_=>fail
 | .w (.one (.slc b off len cap))=>match bl[b]? with
  |some (C,t)=>match kH bl b off (len*sh.length)with
   |some cs=>cond (gy sh&&Nat.ble len 1073741824&&Nat.ble len cap&&Nat.ble cap 9223372036854775807&&Nat.beq off 0&&Nat.beq C.length (cap*sh.length)&& !t.2&&Nat.beq t.1 e&&fJ sh) (pc sh (gG sh.length len cs) (.const 0)) fail
   |none=>fail
  |none=>fail
 |_=>fail
def kS:V->List Nat
 | .w (.one (.slc b _ _ _))=>[b]
 |_=>[]
def FC (w0:cR) (ρ:Env) (m:Nat->Nat) (bl:List ax) (bs os:List Nat) (g:Nat):Prop:=
 (∃b∈bs,m b=g/\∃p,bl[b]?=some p/\a6 ρ p.1≠0/\(bO p.1=true->b∈os))/\(w0.ex g∨w0.ro g∨w0.r.heap.size<=g)
def mi (F:Nat->Prop) (w0:cR) (ρ:Env) (m:Nat->Nat) (bl:List ax) (bs os:List Nat) (g:Nat):Prop:=FC w0 ρ m bl bs os g∨F g
def u2 (F:Nat->Prop) (w0:cR) (ρ:Env) (m:Nat->Nat) (bl:List ax) (w:World):Prop:=
 ∀(i:Nat) (sh:List az) (off code cap:J) (kind:Nat) (t:TypeId×Bool),bl[i]?=some ([.rows sh off code cap kind],t)->fE w0 ρ F (m i) sh off code cap kind t.1 w
def qu (w0:cR) (ρ:Env) (m:Nat->Nat) (bl:List ax) (bs os:List Nat) (g:Nat):Prop:=FC w0 ρ m bl bs os g∨bD w0 ρ m bl g
section
variable {S:Nat->List Int->List Int->Prop} {L:V->Env->Prop} {n:Nat} {ρ:Env} {m:Nat->Nat} {bl:List ax} {gl:dt} {w0:cR} {P:Program} {w:World}
theorem eY.mono {F F':Nat->Prop} {sh:List az} {rows:List (List Int)} {v:Value} (h:eY F w sh rows v) (hF:∀g,F g->F' g):eY F' w sh rows v:=by
 rcases h with h|⟨g,o,cap,cells,t,fz,h1,h2,h3,h4⟩
 ·exact .inl h
 ·exact .inr ⟨g,o,cap,cells,t,fz,h1,h2,hF g h3,h4.1,h4.2.mono (Fr.of w hF)⟩
theorem Md {b off len:Nat} {C:List A} {t:TypeId×Bool} {cs:List A} {sh:List az} {rows:List (List Int)} (hb:bQ n bl.length ρ bl) (hw:Mem w0 ρ m bl w) (hbl:bl[b]?=some (C,t)) (hcs:kH bl b off (len*sh.length)=some cs)
 (dF:∀row∈rows,bn sh row) (fp:cf sh rows=cs.map (A.den ρ m)):w0.b.heap.size<=m b/\(w0.ex (m b)∨w0.r.heap.size<=m b)/\∃cells:Array Value,w.heap[m b]?=some (.cells cells t.1 (0,0))/\kv cells off sh rows/\(t.2=false->cells.size=C.length):=by
 unfold kH at hcs
 rw[hbl]at hcs
 simp only at hcs
 cases hc:(Nat.ble (off+len*sh.length) C.length&&bO C)with
 |false=>rw[hc]at hcs;cases hcs
 |true=>
  rw[hc]at hcs
  simp only[cond_true,Option.some.injEq]at hcs
  simp only[Bool.and_eq_true]at hc
  have hle:=Nat.le_of_ble_eq_true hc.1
  obtain⟨g1,g2,r,hr,g3⟩:=hw.ef b C t hbl hc.2
  refine⟨g1,g2,_,g3,⟨dF,(C.take off).map (A.den ρ m),((C.drop off).drop (len*sh.length)).map (A.den ρ m)++r,?_,by simp;omega⟩,λht=>by rw[hr ht];simp⟩
  rw[fp,<-hcs]
  show C.map (A.den ρ m)++r=_
  have e:C=C.take off++((C.drop off).take (len*sh.length)++(C.drop off).drop (len*sh.length)):=by rw[List.take_append_drop,List.take_append_drop]
  conv=>lhs;rw[e]
  simp only[List.map_append,List.append_assoc]
theorem mR:ae ((J.const 0).den ρ)=[]:=by rw[J.aS];exact dY
theorem o9:(0:Int)<=au:=Int.le_trans (dk []) (j4 (l:=[]) (by simp) (by simp))
theorem Mc {sh:List az} {len:Nat} {cs:List A} (fU:gy sh=true) (hl:len<=1073741824) (a8:∀a∈cs,A.ok n bl.length ρ a) (dj:cs.length=len*sh.length):
 ar S L (pc sh (gG sh.length len cs) (.const 0)) n ρ λag n' l=>l.aX n'/\(0<=l.den ag/\l.den ag<=au)/\(ae (l.den ag)).length=len/\(∀row∈ae (l.den ag),bn sh row)/\cf sh (ae (l.den ag))=cs.map (A.den ρ m):=by
 have gL:=qR (w:=sh.length) (k:=len) dj
 refine(ve (nb:=bl.length) (m:=m) fU (rs:=gG sh.length len cs) (c:= .const 0) (λrow hr a ha=>a8 a (qS row hr a ha)) (J.bU _ _) (by rw[J.aS];exact⟨Int.le_refl _,o9⟩) (by rw[mR];intro _ h;simp at h) (by rw[mR,gL.1];simpa using hl)).mono λaH n1 l hn ha ⟨p1,bz,b7,cd,eE,eV,gk⟩=>?_
 rw[mR,List.nil_append]at cd
 rw[cd]
 exact⟨p1,bz,by rw[eE,gL.1],eV,by rw[gk,gL.2]⟩
theorem Ob {cap cu:J} {α:Type} {x:M α} {R:Env->Nat->α->Prop} (h:(0<=cap.den ρ->0<=cu.den ρ)->ar S L x n ρ R):ar S L (bind (sZ cap cu) λ_=>x) n ρ R:=by
 unfold sZ
 cases hc:J.beq cap cu with
 |true=>exact h (by rw[J.beq_eq hc];exact id)
 |false=>exact eh h
theorem XH {F:Nat->Prop} {b off len:Nat} {C:List A} {t:TypeId×Bool} {cs:List A} {sh:List az} {rows:List (List Int)} (hw:Mem w0 ρ m bl w) (hbl:bl[b]?=some (C,t)) (hcs:kH bl b off (len*sh.length)=some cs)
 (dF:∀row∈rows,bn sh row) (fp:dQ F w sh rows (cs.map (A.den ρ m))):w0.b.heap.size<=m b/\(w0.ex (m b)∨w0.r.heap.size<=m b)/\∃cells:Array Value,w.heap[m b]?=some (.cells cells t.1 (0,0))/\fZ F w cells off sh rows:=by
 unfold kH at hcs
 rw[hbl]at hcs
 simp only at hcs
 cases hc:(Nat.ble (off+len*sh.length) C.length&&bO C)with
 |false=>rw[hc]at hcs;cases hcs
 |true=>
  rw[hc]at hcs
  simp only[cond_true,Option.some.injEq]at hcs
  simp only[Bool.and_eq_true]at hc
  have hle:=Nat.le_of_ble_eq_true hc.1
  obtain⟨g1,g2,r,hr,g3⟩:=hw.ef b C t hbl hc.2
  refine⟨g1,g2,_,g3,dF,(C.take off).map (A.den ρ m),cs.map (A.den ρ m),((C.drop off).drop (len*sh.length)).map (A.den ρ m)++r,?_,by simp;omega,fp⟩
  rw[<-hcs]
  show C.map (A.den ρ m)++r=_
  have e:C=C.take off++((C.drop off).take (len*sh.length)++(C.drop off).drop (len*sh.length)):=by rw[List.take_append_drop,List.take_append_drop]
  conv=>lhs;rw[e]
  simp only[List.map_append,List.append_assoc]
theorem Ls {F:Nat->Prop} {jX:Bool} (hF:u2 F w0 ρ m bl w) (hN:jX=true->∀g,bD w0 ρ m bl g->F g) {sh:List az} {v:V} {X:Value} (hb:bQ n bl.length ρ bl) (hw:Mem w0 ρ m bl w) (hv:v.ok n bl.length ρ) (bt:v.rel ρ m X):
 ar S L (xd jX sh bl v) n ρ λag n' l=>l.aX n'/\(0<=l.den ag/\l.den ag<=au)/\eY (mi F w0 ρ m bl (iU v) (kS v)) w sh (ae (l.den ag)) X:=by
 unfold xd
 split
 ·refine ar.pure ⟨J.bU _ _,by rw[J.aS];exact⟨Int.le_refl _,o9⟩,.inl ⟨⟨_,bt⟩,mR⟩⟩
 ·rename_i b aV o ro len cap
  split
  ·rename_i cn off code cu kind t hbl
   refine cH λhc=>eh λhk=>?_
   simp only[Bool.and_eq_true]at hc
   obtain⟨⟨⟨c1,aU⟩,bL⟩,b9⟩:=hc
   have c1:0<kind:=Nat.le_of_ble_eq_true c1
   have aU:=mU aU;have bL:=J.beq_eq bL;have b9:=Nat.eq_of_beq_eq_true b9
   subst aU;subst bL;subst b9
   simp only[List.map_cons,List.map_nil,ad,J.den_add]at hk
   have wA:(A.sl b sh.length o ro len cap).ok n bl.length ρ:=hv
   obtain⟨ptr,e1,e2,e3⟩:=kR (m:=m) wA
   have bt:X=(A.sl b sh.length o ro len cap).den ρ m:=bt
   obtain⟨x1,⟨cU,dm,gA,gX⟩,⟨ia,me,mf,mg⟩,⟨m2,mc⟩,fj,gW⟩:=wA
   have dw:(A.rows sh o code cu kind).ok n bl.length ρ:=hb _ (List.mem_of_getElem? hbl) _ (by simp)
   have hf:aa 22 ([code,ro,ro.add len].map (·.den ρ))=rc (((ae (code.den ρ)).drop (ro.den ρ).toNat).take (len.den ρ).toNat):=by
    simp only[List.map_cons,List.map_nil,aa,J.den_add]
    congr 2;omega
   have fo:rc (((ae (code.den ρ)).drop (ro.den ρ).toNat).take (len.den ρ).toNat)<=au:=by
    have h1:=Lr (ae (code.den ρ)) (ro.den ρ).toNat (len.den ρ).toNat
    rw[Lq dw.2.1.1]at h1
    exact Int.le_trans h1 dw.2.1.2
   refine Ob λtB=>?_
   refine(dE (by rw[hf];exact dk _) (by rw[hf];exact fo)).mono λaH n1 l hn ha ⟨k1,k2⟩=>?_
   rw[hf]at k2
   refine⟨k1,by rw[k2];exact⟨dk _,fo⟩,?_⟩
   rw[k2,dP]
   have hlen:(((ae (code.den ρ)).drop (ro.den ρ).toNat).take (len.den ρ).toNat).length=(len.den ρ).toNat:=by simp;omega
   rcases Int.lt_or_le (cap.den ρ) 0 with bW|bW
   ·left
    have:=fj bW
    refine⟨⟨_,by rw[bt,e1,e2 bW,if_pos bW,this];rfl⟩,by rw[this];simp⟩
   ·right
    clear fo
    rcases Int.lt_or_le (cu.den ρ) 0 with kf|kf
    ·have:=tB bW;omega
    ·obtain⟨q0,cells,e9,fz,q1,⟨q2,q3⟩,_⟩:=(hF b sh o code cu kind t hbl (by omega)).2 kf
     refine⟨m b,(o.den ρ).toNat+(ro.den ρ).toNat*sh.length,(cap.den ρ).toNat,cells,e9,fz,?_,⟨by rw[hlen];have:=gW bW;omega,by omega⟩,(.inl ⟨⟨b,by simp[iU],rfl,_,hbl,by rw[gi (by omega) kf];omega,λh=>by cases h⟩,q0⟩),q1,?_⟩
     ·rw[bt,e1,e3 bW,hlen,if_neg (by omega)]
     ·exact(q3.sub (ro.den ρ).toNat (len.den ρ).toNat (by omega)).mono (Fr.of w λg hg=> .inr hg)
  ·exact ar.fail
 ·rename_i b off len cap
  split
  ·rename_i cs hcs
   refine cH λhc=>?_
   simp only[Bool.and_eq_true]at hc
   obtain⟨⟨⟨⟨c1,aU⟩,bL⟩,b9⟩,e4⟩:=hc
   have aU:=Nat.le_of_ble_eq_true aU;have bL:=Nat.le_of_ble_eq_true bL;have b9:=Nat.le_of_ble_eq_true b9
   obtain⟨d1,d2,d3⟩:=vS hw hb hcs
   have bt:X= .slice (some ⟨m b,off,none⟩) len cap:=bt
   have gf:∀C t,bl[b]?=some (C,t)->bO C=true:=λC t hbl=>by
    unfold kH at hcs
    rw[hbl]at hcs
    simp only at hcs
    cases hc:(Nat.ble (off+len*sh.length) C.length&&bO C)with
    |false=>rw[hc]at hcs;cases hcs
    |true=>simp only[Bool.and_eq_true]at hc;exact hc.2
   cases Ht:fJ sh with
   |false=>
    have Ry:jX=true:=by rw[Ht,Bool.false_or]at e4;exact e4
    have gL:=qR (w:=sh.length) (k:=len) d1
    refine(Be c1 (rs:=gG sh.length len cs) (c:= .const 0) hb hw (λrow hr a ha=>d2 a (qS row hr a ha)) (J.bU _ _) (by rw[J.aS];exact⟨Int.le_refl _,o9⟩) (by rw[mR];intro _ h;simp at h) (by rw[mR,gL.1];simpa using aU)).mono λaH n1 l hn ha ⟨p1,bz,b7,cd,eE,eV,gk⟩=>⟨p1,bz,.inr ?_⟩
    rw[mR,List.nil_append]at cd
    rw[cd]
    rw[gL.2]at gk
    rw[gL.1]at eE
    cases hbl:bl[b]? with
    |none=>unfold kH at hcs;rw[hbl]at hcs;cases hcs
    |some q=>
     obtain⟨C,t⟩:=q
     obtain⟨g1,g2,cells,g3,g4⟩:=XH hw hbl hcs eV (gk.mono (Fr.of w λg hg=>(.inr (hN Ry g hg):mi F w0 ρ m bl (iU (.w (.one (.slc b off len cap)))) (kS (.w (.one (.slc b off len cap)))) g)))
     exact⟨m b,off,cap,cells,t.1,(0,0),by rw[bt,eE],⟨by omega,by omega⟩,(.inl ⟨⟨b,by simp[iU],rfl,_,hbl,by rw[jT (gf C t hbl)];decide,λ_=>by simp[kS]⟩,g2.elim .inl λh=> .inr (.inr h)⟩),g3,g4⟩
   |true=>
   refine(Mc (m:=m) c1 aU d2 d1).mono λaH n1 l hn ha ⟨k1,k2,k3,k4,mP⟩=>⟨k1,k2,.inr ?_⟩
   cases hbl:bl[b]? with
   |none=>unfold kH at hcs;rw[hbl]at hcs;cases hcs
   |some q=>
    obtain⟨C,t⟩:=q
    obtain⟨g1,g2,cells,g3,g4,_⟩:=Md hb hw hbl hcs k4 mP
    exact⟨m b,off,cap,cells,t.1,(0,0),by rw[bt,k3],⟨by omega,by omega⟩,(.inl ⟨⟨b,by simp[iU],rfl,_,hbl,by rw[jT (gf C t hbl)];decide,λ_=>by simp[kS]⟩,g2.elim .inl λh=> .inr (.inr h)⟩),g3,(jr Ht).2 g4⟩
  ·exact ar.fail
 ·exact ar.fail
theorem WG {jX:Bool} {sh:List az} {v:V} {X:Value} (hb:bQ n bl.length ρ bl) (hw:Mem w0 ρ m bl w) (hv:v.ok n bl.length ρ) (bt:v.rel ρ m X):
 ar S L (xd jX sh bl v) n ρ λag n' l=>l.aX n'/\(0<=l.den ag/\l.den ag<=au)/\eY (qu w0 ρ m bl (iU v) (kS v)) w sh (ae (l.den ag)) X:=Ls (F:=bD w0 ρ m bl) hw.rws (λ_ _ h=>h) hb hw hv bt
theorem VF {sh:List az} {e:TypeId} {v:V} {X:Value} (hex:∀g,¬w0.ex g) (hb:bQ n bl.length ρ bl) (hw:Mem w0 ρ m bl w) (hv:v.ok n bl.length ρ) (bt:v.rel ρ m X):
 ar S L (Ej sh e bl v) n ρ λag n' l=>l.aX n'/\(0<=l.den ag/\l.den ag<=au)/\qE (λg=>w0.r.heap.size<=g) w sh e (ae (l.den ag)) X:=by
 unfold Ej
 split
 ·refine ar.pure ⟨J.bU _ _,by rw[J.aS];exact⟨Int.le_refl _,o9⟩,.inl ⟨⟨_,bt⟩,mR⟩⟩
 ·rename_i b aV o ro len cap
  split
  ·rename_i cn off code cu kind t hbl
   refine cH λhc=>eh λhk=>?_
   simp only[Bool.and_eq_true]at hc
   obtain⟨⟨⟨⟨⟨⟨⟨⟨c1,aU⟩,bL⟩,Bp⟩,Bq⟩,e0⟩,b9⟩,du⟩,e4⟩:=hc
   have c1:=Nat.eq_of_beq_eq_true c1
   have aU:=mU aU;have bL:=J.beq_eq bL;have Bp:=J.beq_eq Bp;have Bq:=J.beq_eq Bq;have e0:=J.beq_eq e0;have b9:=Nat.eq_of_beq_eq_true b9;have du:=Nat.eq_of_beq_eq_true du
   subst aU;subst bL;subst b9;subst Bp;subst Bq;subst e0;subst du;subst c1
   simp only[List.map_cons,List.map_nil,ad,J.aS]at hk
   have wA:(A.sl b sh.length (.const 0) (.const 0) len cap).ok n bl.length ρ:=hv
   obtain⟨ptr,e1,e2,e3⟩:=kR (m:=m) wA
   have bt:X=(A.sl b sh.length (.const 0) (.const 0) len cap).den ρ m:=bt
   obtain⟨x1,⟨cU,dm,gA,gX⟩,⟨ia,me,mf,mg⟩,⟨m2,mc⟩,fj,gW⟩:=wA
   rw[J.aS]at mc
   have dw:(A.rows sh (.const 0) code cap 2).ok n bl.length ρ:=hb _ (List.mem_of_getElem? hbl) _ (by simp)
   have hf:aa 22 ([code,.const 0,len].map (·.den ρ))=rc (((ae (code.den ρ)).drop 0).take (len.den ρ).toNat):=by
    simp only[List.map_cons,List.map_nil,aa,J.aS]
    congr 2
   have fo:rc (((ae (code.den ρ)).drop 0).take (len.den ρ).toNat)<=au:=by
    have h1:=Lr (ae (code.den ρ)) 0 (len.den ρ).toNat
    rw[Lq dw.2.1.1]at h1
    exact Int.le_trans h1 dw.2.1.2
   refine(dE (by rw[hf];exact dk _) (by rw[hf];exact fo)).mono λaH n1 l hn ha ⟨k1,k2⟩=>?_
   rw[hf]at k2
   refine⟨k1,by rw[k2];exact⟨dk _,fo⟩,?_⟩
   rw[k2,dP]
   have hlen:(((ae (code.den ρ)).drop 0).take (len.den ρ).toNat).length=(len.den ρ).toNat:=by simp;omega
   rcases Int.lt_or_le (cap.den ρ) 0 with bW|bW
   ·left
    have:=fj bW
    refine⟨⟨_,by rw[bt,e1,e2 bW,if_pos bW,this];rfl⟩,by rw[this];simp⟩
   ·right
    clear fo
    obtain⟨q0,cells,e9,fz,q1,⟨q2,q3⟩,q4⟩:=(hw.rws b sh (.const 0) code cap 2 t hbl (by omega)).2 bW
    obtain⟨p0,p1,bz,cd,eE,eV⟩:=q4 (by omega)
    have bz:=bz.two
    subst p0;subst bz
    rw[J.aS]at q3
    refine⟨m b,(cap.den ρ).toNat,cells,?_,⟨by rw[hlen];have:=gW bW;omega,by omega⟩,eV.elim (λh=>absurd h (hex _)) id,q1,?_,cd⟩
    ·rw[bt,e1,e3 bW,hlen,if_neg (by omega)];simp[J.aS]
    ·have:=((jr e4).1 q3).sub 0 (len.den ρ).toNat (by omega)
     simpa using this
  ·exact ar.fail
 ·rename_i b off len cap
  split
  ·rename_i C t hbl
   split
   ·rename_i cs hcs
    refine cH λhc=>?_
    simp only[Bool.and_eq_true]at hc
    obtain⟨⟨⟨⟨⟨⟨⟨⟨c1,aU⟩,bL⟩,b9⟩,du⟩,e0⟩,lJ⟩,lK⟩,e4⟩:=hc
    have aU:=Nat.le_of_ble_eq_true aU;have bL:=Nat.le_of_ble_eq_true bL;have b9:=Nat.le_of_ble_eq_true b9
    have du:=Nat.eq_of_beq_eq_true du;have e0:=Nat.eq_of_beq_eq_true e0;have lK:=Nat.eq_of_beq_eq_true lK
    subst du;subst lK
    obtain⟨d1,d2,d3⟩:=vS hw hb hcs
    refine(Mc (m:=m) c1 aU d2 d1).mono λaH n1 l hn ha ⟨k1,k2,k3,k4,mP⟩=>⟨k1,k2,.inr ?_⟩
    have bt:X= .slice (some ⟨m b,0,none⟩) len cap:=bt
    obtain⟨g1,g2,cells,g3,g4,g5⟩:=Md hb hw hbl hcs k4 mP
    exact⟨m b,cap,cells,by rw[bt,k3],⟨by omega,by omega⟩,g2.elim (λh=>absurd h (hex _)) id,g3,g4,by rw[g5 (by simpa using lJ),e0]⟩
   ·exact ar.fail
  ·exact ar.fail
 ·exact ar.fail
end
def BX (d:D) (v:V):M (List J):=
 match d,v with
 | .bool,.w (.one (.bool e))=>match e with
  | .lit v=>pure [.const (cond v 1 0)]
  |e=>bind (rT e) λl=>pure [l]
 | .int k lo hi,.w (.one (.int aZ x))=>cond (decide (k=aZ)) (cond (kb lo hi x) (pure [x.l]) (bind (dh 39 [x.l,.const lo,.const hi]) λ_=>pure [x.l])) fail
 | .mix l,.w (.agg s)=>sw l s
 | .str,.w (.one (.str l))=>pure [l]
 | .jl l,.w (.one (.str x))=>match x.cG with|some c=>cond (decide (c=eI (l3 l))) (pure []) fail|none=>fail
 | .mM k c,.w (.one (.int aZ x))=>match x.l.cG with|some d=>cond (decide (k=aZ)&&decide (d=c)) (pure []) fail|none=>fail
 | .agg k n lo hi,.w (.agg l)=>cond (Nat.beq l.length n) (match ig k lo hi l with|some r=>pure r|none=>fail) fail
 |_,_=>fail
noncomputable def q8 (jX:Bool) (bl:List ax):List bN->List V->M (List J)
 |[],[]=>pure []
 | .d x::r,v::s=>bind (BX x v) λa=>bind (q8 jX bl r s) λb=>pure (a++b)
 | .rd sh::r,v::s=>bind (xd jX sh bl v) λa=>bind (q8 jX bl r s) λb=>pure (a::b)
 |_,_=>fail
section
variable {S:Nat->List Int->List Int->Prop} {L:V->Env->Prop} {w0:cR} {P:Program} {w:World}
theorem EF:∀{sh:List az} {zs:List Int},bn sh zs->bI (sh.map az.c3) zs/\List.zipWith az.val sh zs=cz sh zs
 |[],[],_=>⟨trivial,rfl⟩
 |c::sh,z::zs,h=>⟨⟨h.1.1,h.1.2,(EF h.2).1⟩,by simp[cz,(EF h.2).2]⟩
 |[],_::_,h=>h.elim
 |_::_,[],h=>h.elim
theorem Pd {d:D} {v:V} {X:Value} {n nb:Nat} {ρ:Env} {m:Nat->Nat} (hv:v.ok n nb ρ) (bt:v.rel ρ m X):ar S L (BX d v) n ρ λag n' ls=>(∀x∈ls,J.aX n' x)/\bI d.bds (ls.map (·.den ag))/\X=d.val (ls.map (·.den ag)):=by
 unfold BX
 split
 ·rename_i e
  have bt:X= .bool (e.den ρ):=bt
  have key:ar S L (bind (rT e) λl=>pure [l]) n ρ λag n' ls=>(∀x∈ls,J.aX n' x)/\bI D.bool.bds (ls.map (·.den ag))/\X=D.bool.val (ls.map (·.den ag)):=
   zf.bind λaH n1 l hn ha ⟨g1,g2,g3⟩=>ar.pure ⟨λx hx=>by simp at hx;subst hx;exact g1,⟨g2.1,g2.2,trivial⟩,by rw[bt,g3];rfl⟩
  cases e with
  |lit b=>
   refine ar.pure ⟨λx hx=>by simp at hx;subst hx;exact J.bU _ _,?_,?_⟩
   ·simp only[List.map_cons,List.map_nil,J.aS,D.bds];cases b<;>exact⟨by decide,by decide,trivial⟩
   ·rw[bt];simp only[List.map_cons,List.map_nil,J.aS];cases b<;>rfl
  |_=>exact key
 ·rename_i k lo hi aZ x
  refine cH λhk=>?_
  have hk:k=aZ:=by simpa using hk
  subst hk
  have hv:x.ok n ρ:=hv
  have bt:X= .int k (x.l.den ρ):=bt
  cases hf:kb lo hi x with
  |true=>
   have:=vx hf hv
   exact ar.pure ⟨λy hy=>by simp at hy;subst hy;exact hv.1,⟨this.1,this.2,trivial⟩,bt⟩
  |false=>
   refine eh λhk=>ar.pure ?_
   simp only[List.map_cons,List.map_nil,ad,J.aS]at hk
   exact⟨λy hy=>by simp at hy;subst hy;exact hv.1,⟨hk.1,hk.2,trivial⟩,bt⟩
 ·rename_i l s
  have bt:X= .agg (s.map (A.den ρ m)).toArray:=bt
  refine(xi (nb:=nb) (m:=m) hv).mono λaH n1 ls hn ha ⟨g1,g2,g3⟩=>?_
  have:=EF g2
  refine⟨g1,this.1,?_⟩
  rw[bt,<-g3]
  simp only[D.val,this.2]
 ·rename_i l
  have bt:X= .string (a7 (ab (l.den ρ))):=bt
  have hv:l.aX n/\0<=l.den ρ/\l.den ρ<=aD:=hv
  exact ar.pure ⟨λy hy=>by simp at hy;subst hy;exact hv.1,⟨hv.2.1,hv.2.2,trivial⟩,bt⟩
 ·rename_i l x
  have bt:X= .string (a7 (ab (x.den ρ))):=bt
  cases hc:x.cG with
  |none=>exact ar.fail
  |some c=>
   refine cH λhd=>ar.pure ⟨λy hy=>by simp at hy,trivial,?_⟩
   rw[bt,Mn (n:=n) hc (by simpa using hd)];rfl
 ·rename_i k c aZ x
  have bt:X= .int aZ (x.l.den ρ):=bt
  cases hc:x.l.cG with
  |none=>exact ar.fail
  |some d=>
   refine cH λhd=>ar.pure ⟨λy hy=>by simp at hy,trivial,?_⟩
   simp only[Bool.and_eq_true,decide_eq_true_eq]at hd
   rw[bt,J.fl hc,<-hd.1,hd.2];rfl
 ·rename_i k n' lo hi l
  refine cH λhk=>?_
  have hk:=Nat.eq_of_beq_eq_true hk
  have bt:X= .agg (l.map (A.den ρ m)).toArray:=bt
  cases hf:ig k lo hi l with
  |none=>exact ar.fail
  |some r=>
   obtain⟨g1,g2,g3⟩:=BV (m:=m) hf hv
   rw[hk]at g2
   refine ar.pure ⟨BU hf hv,g2,?_⟩
   rw[bt,g3]
   simp only[D.val]
   rw[List.take_of_length_le (by simp[g1,hk])]
 ·exact ar.fail
theorem Kz {n:Nat} {ρ ag:Env} {ls:List J} (h:∀x∈ls,J.aX n x) (ha:agree n ρ ag):ls.map (·.den ag)=ls.map (·.den ρ):=List.map_congr_left λx hx=>J.bj ha (h x hx)
theorem mi.later {F:Nat->Prop} {n nb:Nat} {ρ ag:Env} {m:Nat->Nat} {bl:List ax} {bs os:List Nat} {g:Nat} (hb:bQ n nb ρ bl) (ha:agree n ρ ag) (h:mi F w0 ag m bl bs os g):mi F w0 ρ m bl bs os g:=by
 rcases h with⟨⟨b,h1,h2,p,h3,h4,h6⟩,h5⟩|h
 ·exact .inl ⟨⟨b,h1,h2,p,h3,by rw[<-jC (hb p (List.mem_of_getElem? h3)) ha];exact h4,h6⟩,h5⟩
 ·exact .inr h
theorem mi.more {F:Nat->Prop} {ρ:Env} {m:Nat->Nat} {bl:List ax} {bs os G8 w6:List Nat} {g:Nat} (h:mi F w0 ρ m bl bs os g) (h1:∀b∈bs,b∈G8) (h2:∀b∈os,b∈w6):mi F w0 ρ m bl G8 w6 g:=by
 rcases h with⟨⟨b,k1,k2,p,k3,k4,rV⟩,mP⟩|h
 ·exact .inl ⟨⟨b,h1 b k1,k2,p,k3,k4,λh=>h2 b (rV h)⟩,mP⟩
 ·exact .inr h
theorem u2.dA {F:Nat->Prop} {n nb:Nat} {ρ ag:Env} {m:Nat->Nat} {bl:List ax} {w:World} (h:u2 F w0 ρ m bl w) (hb:bQ n nb ρ bl) (ha:agree n ρ ag):u2 F w0 ag m bl w:=λi sh off code cap kind t hi=>
 (h i sh off code cap kind t hi).dA (hb _ (List.mem_of_getElem? hi) _ (by simp)) ha
theorem yC {jX:Bool} {F0:Nat->Prop} {bl:List ax} {m:Nat->Nat}:∀{ds:List bN} {vs:List V} {xs:List Value} {n:Nat} {ρ:Env},u2 F0 w0 ρ m bl w->(jX=true->∀g,bD w0 ρ m bl g->F0 g)->bQ n bl.length ρ bl->Mem w0 ρ m bl w->(∀v∈vs,V.ok n bl.length ρ v)->dK ρ m vs xs->
 ar S L (q8 jX bl ds vs) n ρ λag n' ls=>(∀x∈ls,J.aX n' x)/\bI (cL ds) (ls.map (·.den ag))/\∀F:Nat->Prop,(∀g,mi F0 w0 ρ m bl (vs.flatMap iU) (vs.flatMap kS) g->F g)->gF F (λ_=>False) w ds (ls.map (·.den ag)) xs
 |[],[],[],n,ρ,_,_,_,_,_,_=>ar.pure ⟨λ_ h=>by simp at h,trivial,λ_ _=>trivial⟩
 | .d x::r,v::s,X::xs,n,ρ,h0,hN,hb,hw,hv,hr=>by
  unfold q8
  refine(Pd (hv v (by simp)) hr.1).bind λaH n1 a hn ha ⟨g1,g2,g3⟩=>?_
  refine(yC (ds:=r) (vs:=s) (xs:=xs) (h0.dA hb ha) (λh g hg=>hN h g (bD.zS hb ha hg)) (hb.ext ha hn (Nat.le_refl _)) (hw.dA hb ha) (λu hu=>(hv u (List.mem_cons_of_mem _ hu)).ext ha hn (Nat.le_refl _)) (dK.later (λu hu=>hv u (List.mem_cons_of_mem _ hu)) ha hr.2)).bind λba db b cQ cA ⟨k1,k2,k3⟩=>ar.pure ⟨λy hy=>?_,?_,λF hF=>?_⟩
  ·rcases List.mem_append.1 hy with hy|hy
   ·exact(g1 y hy).mono cQ
   ·exact k1 y hy
  ·rw[List.map_append,Kz g1 cA]
   exact oH g2 k2
  ·have hl:(a.map (·.den aH)).length=x.num:=by rw[iL g2,D.vj]
   rw[List.map_append,Kz g1 cA]
   refine⟨?_,?_⟩
   ·show X=x.val _
    rw[D.MG x hl];exact g3
   ·show gF F _ w r (List.drop x.num _) xs
    rw[<-hl,List.drop_left]
    exact k3 F λg hg=>hF g (by
     exact(mi.later hb ha hg).more (λbX h1=>by simp only[List.flatMap_cons,List.mem_append];exact .inr h1) (λbX h1=>by simp only[List.flatMap_cons,List.mem_append];exact .inr h1))
 | .rd sh::r,v::s,X::xs,n,ρ,h0,hN,hb,hw,hv,hr=>by
  unfold q8
  refine(Ls h0 hN hb hw (hv v (by simp)) hr.1).bind λaH n1 a hn ha ⟨g1,g2,g3⟩=>?_
  refine(yC (ds:=r) (vs:=s) (xs:=xs) (h0.dA hb ha) (λh g hg=>hN h g (bD.zS hb ha hg)) (hb.ext ha hn (Nat.le_refl _)) (hw.dA hb ha) (λu hu=>(hv u (List.mem_cons_of_mem _ hu)).ext ha hn (Nat.le_refl _)) (dK.later (λu hu=>hv u (List.mem_cons_of_mem _ hu)) ha hr.2)).bind λba db b cQ cA ⟨k1,k2,k3⟩=>ar.pure ⟨λy hy=>?_,?_,λF hF=>?_⟩
  ·rcases List.mem_cons.1 hy with rfl|hy
   ·exact g1.mono cQ
   ·exact k1 y hy
  ·simp only[List.map_cons,J.bj cA g1]
   exact⟨g2.1,g2.2,k2⟩
  ·simp only[List.map_cons,J.bj cA g1]
   refine⟨?_,?_⟩
   ·show eY F w sh (ae _) X
    exact g3.mono λg hg=>hF g (by
     exact hg.more (λbX h1=>by simp only[List.flatMap_cons,List.mem_append];exact .inl h1) (λbX h1=>by simp only[List.flatMap_cons,List.mem_append];exact .inl h1))
   ·exact k3 F λg hg=>hF g (by
     exact(mi.later hb ha hg).more (λbX h1=>by simp only[List.flatMap_cons,List.mem_append];exact .inr h1) (λbX h1=>by simp only[List.flatMap_cons,List.mem_append];exact .inr h1))
 |[],_::_,_,_,_,_,_,_,_,_,_=>ar.fail
 | .d _::_,[],_,_,_,_,_,_,_,_,_=>ar.fail
 | .rd _::_,[],_,_,_,_,_,_,_,_,_=>ar.fail
 | .iP _ _::_,[],_,_,_,_,_,_,_,_,_=>ar.fail
 | .iP _ _::_,_::_,_,_,_,_,_,_,_,_,_=>ar.fail
 |_,[],_::_,_,_,_,_,_,_,_,hr=>hr.elim
 |_,_::_,[],_,_,_,_,_,_,_,hr=>hr.elim
where
 dK.later {n nb:Nat} {ρ ag:Env} {m:Nat->Nat}:∀{vs:List V} {xs:List Value},(∀v∈vs,V.ok n nb ρ v)->agree n ρ ag->dK ρ m vs xs->dK ag m vs xs
 |[],[],_,_,_=>trivial
 |v::vs,x::xs,hv,ha,hr=>⟨V.rel.ext hr.1 (hv v (by simp)) ha (λ_ _=>rfl),dK.later (λu hu=>hv u (List.mem_cons_of_mem _ hu)) ha hr.2⟩
 |[],_::_,_,_,hr=>hr.elim
 |_::_,[],_,_,hr=>hr.elim
theorem Pb {jX:Bool} {bl:List ax} {m:Nat->Nat} {ds:List bN} {vs:List V} {xs:List Value} {n:Nat} {ρ:Env} (hb:bQ n bl.length ρ bl) (hw:Mem w0 ρ m bl w) (hv:∀v∈vs,V.ok n bl.length ρ v) (hr:dK ρ m vs xs):
 ar S L (q8 jX bl ds vs) n ρ λag n' ls=>(∀x∈ls,J.aX n' x)/\bI (cL ds) (ls.map (·.den ag))/\∀F:Nat->Prop,(∀g,qu w0 ρ m bl (vs.flatMap iU) (vs.flatMap kS) g->F g)->gF F (λ_=>False) w ds (ls.map (·.den ag)) xs:=yC (F0:=bD w0 ρ m bl) hw.rws (λ_ _ h=>h) hb hw hv hr
end
end Go.bo
namespace Go.bo
open M
def ps:List Nat->List ax->List ax
 |[],bl=>bl
 |b::r,bl=>match bl[b]? with
  |some ([.rows sh off code cap (k+1)],t)=>ps r (cF bl b ([.rows sh off code cap 1],t))
  |_=>ps r bl
def uH (us:List W):V:=match us with|[u]=> .w u|l=> .eb l
def l5:List V->Bool
 |[]=>true
 | .w (.one (.slc ..))::_=>false
 |_::r=>l5 r
noncomputable def cM.u1 (c:cM) (n:Nat) (vs:List V) (bl:List ax) (k:RK):T:=
 q8 true bl c.args vs n λls n1=>cond (m8 c.res&&(!(c.res.any bN.jR)||l5 vs)) (Lm c.pre ls (.call c.id ls n1 (cL c.res) (pd c.res n1 (n1+(cL c.res).length) [] (cond (c.res.any bN.jR) (ps (vs.flatMap iU) bl) bl) λdb us jO=>k db (uH us) jO))) .stuck
def MQ (sh:List az) (b:Nat):V:= .w (.one (.sl b sh.length (.const 0) (.const 0) (.const 0) (.const 0)))
def Fx (rd:Bool) (sh:List az) (b:Nat) (bl:List ax):Option (List ax):=
 match bl[b]? with
 |some ([],(t,false))=>cond rd (some (cF bl b ([.rows sh (.const 0) (.const 0) (.const 0) 1],(t,false)))) none
 |some ([.rows cn off code cap kind],t)=>cond (hZ sh cn&&J.beq off (.const 0)&&J.beq cap (.const 0)&&Nat.blt 0 kind) (some bl) none
 |_=>none
def gB (rd:Bool):List bN->List V->List ax->List V×List ax
 | .rd sh::r,v::s,bl=>match v with
  | .w (.one (.slc b 0 0 0))=>match Fx rd sh b bl with
   |some n2=>(MQ sh b::(gB rd r s n2).1,(gB rd r s n2).2)
   |none=>(v::(gB rd r s bl).1,(gB rd r s bl).2)
  |_=>(v::(gB rd r s bl).1,(gB rd r s bl).2)
 |_::r,v::s,bl=>(v::(gB rd r s bl).1,(gB rd r s bl).2)
 |_,vs,bl=>(vs,bl)
noncomputable def nN:List bN->List V->List ax->M (List V×List ax)
 |[],vs,bl=>pure (vs,bl)
 | .d _::_,[],bl=>pure ([],bl)
 | .rd _::_,[],bl=>pure ([],bl)
 | .iP _ _::_,[],bl=>pure ([],bl)
 | .d _::r,v::s,bl=>bind (nN r s bl) λq=>pure (v::q.1,q.2)
 | .iP _ _::r,v::s,bl=>bind (nN r s bl) λq=>pure (v::q.1,q.2)
 | .rd sh::r,v::s,bl=>match v with
  | .w (.one (.slc b 0 len cap))=>match bl[b]? with
   |some (C,t)=>cond (bO C&& !t.2&&Nat.beq len cap&&Nat.beq C.length (len*sh.length)&&gy sh&&Nat.ble len 1000000&&fJ sh&&Nat.blt 0 len)
    (bind (pc sh (gG sh.length len C) (.const 0)) λcode=>bind (nN r s (cF bl b ([.rows sh (.const 0) code (.const len) 2],t))) λq=>pure (.w (.one (.sl b sh.length (.const 0) (.const 0) (.const len) (.const len)))::q.1,q.2))
    (bind (nN r s bl) λq=>pure (v::q.1,q.2))
   |none=>bind (nN r s bl) λq=>pure (v::q.1,q.2)
  |_=>bind (nN r s bl) λq=>pure (v::q.1,q.2)
noncomputable def cM.AK (c:cM) (n:Nat) (vs:List V) (bl:List ax) (k:RK):T:=
 cond (c.res.any bN.jR&& !l5 vs) (nN c.args vs bl n λq n1=>c.u1 n1 q.1 q.2 k) (c.u1 n vs bl k)
noncomputable def cM.E (c:cM) (n:Nat) (vs:List V) (bl:List ax) (k:RK):T:=
 c.AK n (gB (c.res.any bN.jR) c.args vs bl).1 (gB (c.res.any bN.jR) c.args vs bl).2 k
section
variable {S:Nat->List Int->List Int->Prop} {L:V->Env->Prop} {w0:cR} {P:Program}
theorem Mem.zero {ρ:Env} {m:Nat->Nat} {bl:List ax} {w:World} {b:Nat} {sh:List az} {t:TypeId} (h:Mem w0 ρ m bl w) (hbl:bl[b]?=some ([],(t,false))):Mem w0 ρ m (cF bl b ([.rows sh (.const 0) (.const 0) (.const 0) 1],(t,false))) w:=by
 have jv:b<bl.length:=(List.getElem?_eq_some_iff.1 hbl).1
 obtain⟨q1,q2,r,hr,q3⟩:=h.ef b [] (t,false) hbl rfl
 have hr:=hr rfl
 subst hr
 have c8:∀(i:Nat) (p:ax),(cF bl b ([.rows sh (.const 0) (.const 0) (.const 0) 1],(t,false)))[i]?=some p->(i=b/\p=([.rows sh (.const 0) (.const 0) (.const 0) 1],(t,false)))∨(i≠b/\bl[i]?=some p):=λi p hi=>by
  rw[hY,List.getElem?_set]at hi
  split at hi
  ·rename_i eU
   subst eU
   simp only[jv,if_true,Option.some.injEq]at hi
   exact .inl ⟨rfl,hi.symm⟩
  ·rename_i eU;exact .inr ⟨λe=>eU e.symm,hi⟩
 have hold:a6 ρ ([]:List A)=2:=jT rfl
 refine⟨h.ext,h.gP,h.kj,h.kh,h.fG,h.kc,λi gH t' hi jg=>?_,λi cn cY code' cW ea t' hi=>?_,λi j p q hi hj he=>?_⟩
 ·rcases c8 i _ hi with⟨rfl,cj⟩|⟨hne,hi⟩
  ·cases cj;cases jg
  ·exact h.ef i gH t' hi jg
 ·rcases c8 i _ hi with⟨rfl,cj⟩|⟨hne,hi⟩
  ·cases cj
   intro _
   simp only[J.aS]
   exact⟨λh0=>by omega,λ_=>⟨q2.elim .inl λh=> .inr (.inr h),_,_,_,q3,⟨Int.le_refl _,by rw[dY];intro _ h;simp at h,[],[],[],by simp,rfl,by rw[dY];rfl⟩,λbk=>by omega⟩⟩
  ·exact(h.rws i cn cY _ cW ea t' hi).mono λbA h'=>h'.set hbl λhk=>by simp only[a6,J.aS]at hk;split at hk<;>omega
 ·rcases c8 i _ hi with⟨rfl,cj⟩|⟨hne,jw⟩
  ·rcases c8 j _ hj with⟨rfl,kJ⟩|⟨Rv,hj⟩
   ·exact .inl rfl
   ·rcases h.inj i j _ q hbl hj he with h1|h1|h1|h1
    ·exact .inl h1
    ·simp only[hold]at h1;omega
    ·simp only[hold]at h1;omega
    ·exact .inr (.inr (.inr h1))
  ·rcases c8 j _ hj with⟨rA,kJ⟩|⟨Rv,hj⟩
   ·subst rA
    rcases h.inj i j p _ jw hbl he with h1|h1|h1|h1
    ·exact .inl h1
    ·simp only[hold]at h1;omega
    ·exact .inr (.inr (.inl h1))
    ·simp only[hold]at h1;omega
   ·exact h.inj i j p q jw hj he
theorem Zy {n:Nat} {ρ:Env} {m:Nat->Nat} {w:World} {rd:Bool} {sh:List az} {b:Nat} {bl n2:List ax} (h:Fx rd sh b bl=some n2) (hm:Mem w0 ρ m bl w) (hb:bQ n bl.length ρ bl):Mem w0 ρ m n2 w/\bQ n n2.length ρ n2/\n2.length=bl.length/\b<bl.length:=by
 unfold Fx at h
 split at h
 ·rename_i t hbl
  cases rd with
  |false=>cases h
  |true=>
   simp only[cond_true,Option.some.injEq]at h
   subst h
   refine⟨hm.zero hbl,hb.set (λa ha=>?_),fW _ _ _,(List.getElem?_eq_some_iff.1 hbl).1⟩
   have ha:a= .rows sh (.const 0) (.const 0) (.const 0) 1:=by simpa using ha
   subst ha
   refine⟨⟨J.bU _ _,J.bU _ _,J.bU _ _⟩,?_,?_⟩
   ·simp only[J.aS];exact⟨Int.le_refl _,o9⟩
   ·simp only[J.aS];omega
 ·rename_i cn off code cap kind t hbl
  cases hc:(hZ sh cn&&J.beq off (.const 0)&&J.beq cap (.const 0)&&Nat.blt 0 kind)with
  |false=>rw[hc]at h;cases h
  |true=>
   rw[hc]at h
   simp only[cond_true,Option.some.injEq]at h
   subst h
   exact⟨hm,hb,rfl,(List.getElem?_eq_some_iff.1 hbl).1⟩
 ·cases h
theorem Fy {n:Nat} {ρ:Env} {m:Nat->Nat} {w:World} {rd:Bool}:∀{ds:List bN} {vs:List V} {bl:List ax} {xs:List Value},Mem w0 ρ m bl w->bQ n bl.length ρ bl->(∀v∈vs,V.ok n bl.length ρ v)->dK ρ m vs xs->
 Mem w0 ρ m (gB rd ds vs bl).2 w/\bQ n (gB rd ds vs bl).2.length ρ (gB rd ds vs bl).2/\(gB rd ds vs bl).2.length=bl.length/\(∀v∈(gB rd ds vs bl).1,V.ok n bl.length ρ v)/\dK ρ m (gB rd ds vs bl).1 xs
 |[],vs,bl,xs,hm,hb,hv,hr=>⟨hm,hb,rfl,hv,hr⟩
 |d::r,[],bl,xs,hm,hb,hv,hr=>by
  cases d<;>exact⟨hm,hb,rfl,hv,hr⟩
 |d::r,v::s,bl,xs,hm,hb,hv,hr=>by
  match xs,hr with
  |x::xs,hr=>
  have keep:Mem w0 ρ m (gB rd r s bl).2 w/\bQ n (gB rd r s bl).2.length ρ (gB rd r s bl).2/\(gB rd r s bl).2.length=bl.length/\(∀u∈(v::(gB rd r s bl).1),V.ok n bl.length ρ u)/\dK ρ m (v::(gB rd r s bl).1) (x::xs):=by
   obtain⟨g1,g2,g3,g4,g5⟩:=Fy (rd:=rd) (ds:=r) (vs:=s) hm hb (λu hu=>hv u (List.mem_cons_of_mem _ hu)) hr.2
   exact⟨g1,g2,g3,λu hu=>by
    rcases List.mem_cons.1 hu with rfl|hu
    ·exact hv u (by simp)
    ·exact g4 u hu,hr.1,g5⟩
  cases d with
  |d y=>exact keep
  |iP sh e=>exact keep
  |rd sh=>
   unfold gB
   split
   ·rename_i b _
    split
    ·rename_i n2 hz
     obtain⟨q1,q2,q3,q4⟩:=Zy hz hm hb
     obtain⟨g1,g2,g3,g4,g5⟩:=Fy (rd:=rd) (ds:=r) (vs:=s) q1 q2 (λu hu=>by rw[q3];exact hv u (List.mem_cons_of_mem _ hu)) hr.2
     refine⟨g1,g2,by rw[g3,q3],λu hu=>?_,?_,g5⟩
     ·rcases List.mem_cons.1 hu with rfl|hu
      ·refine⟨q4,⟨J.bU _ _,J.bU _ _,J.bU _ _,J.bU _ _⟩,?_⟩
       simp only[J.aS]
       exact⟨⟨by omega,by omega,by omega,by omega⟩,⟨by omega,by omega⟩,λh=>by omega,λ_=>by omega⟩
      ·rw[<-q3];exact g4 u hu
     ·have h0:x= .slice (some ⟨m b,0,none⟩) 0 0:=hr.1
      rw[h0]
      simp[MQ,V.rel,W.den,A.den,J.aS]
    ·exact keep
   ·exact keep
theorem yE {n nb:Nat} {ρ:Env} {m:Nat->Nat} {w:World}:∀{bs:List Nat} {bl:List ax},Mem w0 ρ m bl w->bQ n nb ρ bl->Mem w0 ρ m (ps bs bl) w/\bQ n nb ρ (ps bs bl)/\(ps bs bl).length=bl.length/\
 ∀(i:Nat) (p:ax),(ps bs bl)[i]?=some p->∃bV,bl[i]?=some bV/\a6 ρ p.1<=a6 ρ bV.1/\(i∈bs->bO bV.1=false->a6 ρ p.1<=1)
 |[],bl,h,hb=>⟨h,hb,rfl,λi p hi=>⟨p,hi,Nat.le_refl _,λh=>by simp at h⟩⟩
 |b::r,bl,h,hb=>by
  unfold ps
  split
  ·rename_i sh off code cap k t hbl
   have jv:b<bl.length:=(List.getElem?_eq_some_iff.1 hbl).1
   have hb':bQ n nb ρ (cF bl b ([.rows sh off code cap 1],t)):=λp hp a ha=>by
    rw[hY]at hp
    rcases List.mem_or_eq_of_mem_set hp with hp|hp
    ·exact hb p hp a ha
    ·subst hp
     simp at ha;subst ha
     have h0:A.ok n nb ρ (.rows sh off code cap (k+1)):=hb _ (List.mem_of_getElem? hbl) _ (by simp)
     exact h0
   obtain⟨g1,g2,g3,g4⟩:=yE (bs:=r) (h.low hbl) hb'
   refine⟨g1,g2,by rw[g3,fW],λi p hp=>?_⟩
   obtain⟨bV,h1,h2,h3⟩:=g4 i p hp
   by_cases ff:i=b
   ·subst ff
    rw[hY,List.getElem?_set_self jv]at h1
    cases h1
    refine⟨_,hbl,Nat.le_trans h2 (by simp only[a6];split<;>omega),λ_ _=>Nat.le_trans h2 (by simp only[a6];split<;>omega)⟩
   ·rw[hY,List.getElem?_set_ne (λe=>ff e.symm)]at h1
    exact⟨bV,h1,h2,λhi ho=>h3 (by simpa [ff]using hi) ho⟩
  ·rename_i fS
   obtain⟨g1,g2,g3,g4⟩:=yE (bs:=r) h hb
   refine⟨g1,g2,g3,λi p hp=>?_⟩
   obtain⟨bV,h1,h2,h3⟩:=g4 i p hp
   refine⟨bV,h1,h2,λhi ho=>?_⟩
   rcases List.mem_cons.1 hi with rfl|hi
   ·obtain⟨C,t⟩:=bV
    obtain⟨sh,off,code,cap,k,rfl⟩:=K6 ho
    cases k with
    |zero=>
     have:a6 ρ [A.rows sh off code cap 0]=0:=by simp[a6]
     simp only[this]at h2;omega
    |succ k=>exact absurd h1 (fS _ _ _ _ _ _)
   ·exact h3 hi ho
theorem WT {n nb:Nat} {ρ:Env} {m:Nat->Nat} {us:List W} {vals:List Value} (h:∀u∈us,W.ok n nb ρ u) (hm:us.map (W.den ρ m)=vals):(uH us).ok n nb ρ/\(uH us).rel ρ m (nO vals):=by
 subst hm
 unfold uH nO
 split
 ·exact⟨h _ (by simp),rfl⟩
 ·rename_i hne
  refine⟨h,?_⟩
  split
  ·rename_i x hx
   match us,hne,hx with
   |[u],hne,_=>exact absurd rfl (hne u)
  ·rfl
theorem KS:∀{vs:List V},l5 vs=true->vs.flatMap kS=[]
 |[],_=>rfl
 |v::r,h=>by
  unfold l5 at h
  split at h
  ·rename_i heq;cases heq
  ·cases h
  ·rename_i hne heq
   cases heq
   rw[List.flatMap_cons,KS h,List.append_nil]
   unfold kS
   split
   ·exact(hne _ _ _ _ rfl).elim
   ·rfl
theorem KT:∀{vs:List V} {b:Nat},l5 vs=true->b∈vs.flatMap iU->∃aV o ro len cap,V.w (.one (.sl b aV o ro len cap))∈vs
 |[],b,_,h=>by simp at h
 |v::r,b,h,hb=>by
  simp only[List.flatMap_cons,List.mem_append]at hb
  rcases hb with hb|hb
  ·unfold iU at hb
   split at hb
   ·simp at hb;subst hb;exact⟨_,_,_,_,_,List.mem_cons_self ..⟩
   ·simp[l5]at h
   ·simp at hb
  ·have h':l5 r=true:=by
    unfold l5 at h
    split at h
    ·rename_i heq;cases heq
    ·cases h
    ·rename_i heq;cases heq;exact h
   obtain⟨aV,o,ro,len,cap,h1⟩:=KT h' hb
   exact⟨aV,o,ro,len,cap,List.mem_cons_of_mem _ h1⟩
theorem cM.M0 {c:cM} {spec:List Int->List Int->Prop} {f:FuncId} {GS:Array Value} (e5:∀zs rs,spec zs rs->S c.id zs rs) (n:Nat) (vs:List V) (bl:List ax) (k:RK) (G:cP) (ρ:Env) (m:Nat->Nat) (w:World) (xs:List Value) (dR:Ending->World->Prop)
 (hc:∀zs,bI (cL c.args) zs->zM c.pre zs->gF (qu w0 ρ m bl (vs.flatMap iU) (vs.flatMap kS)) (λ_=>False) w c.args zs xs->
   Calls P f GS w λe w'=>w.Extends w'/\∃rs us,bI (cL c.res) rs/\spec zs rs/\gF (λg=>qu w0 ρ m bl (vs.flatMap iU) (vs.flatMap kS) g∨w.heap.size<=g) (λg=>w.heap.size<=g) w' c.res rs us/\e= .returned (nO us))
 (hb:bQ n bl.length ρ bl) (hw:Mem w0 ρ m bl w) (hv:∀v∈vs,V.ok n bl.length ρ v) (hr:dK ρ m vs xs) (al:(c.u1 n vs bl k).holds S L G ρ) (hk:sL S L w0 k n bl.length ρ m G dR):
 Calls P f GS w dR:=by
 unfold cM.u1 at al
 obtain⟨aH,n1,ls,c7,cm,⟨g1,g2,g3⟩,al⟩:=Pb (S:=S) (L:=L) hb hw hv hr G _ al
 cases hq:(m8 c.res&&(!(c.res.any bN.jR)||l5 vs))with
 |false=>rw[hq]at al;exact al.elim
 |true=>
  rw[hq]at al
  simp only[cond_true]at al
  obtain⟨fT,al⟩:=preM_holds al
  simp only[T.holds]at al
  simp only[Bool.and_eq_true,Bool.or_eq_true,Bool.not_eq_true']at hq
  refine(hc _ g2 fT (g3 _ λ_ h=>h)).mono ?_
  rintro e w' ⟨he,rs,us,r1,r2,eR,rfl⟩
  have al:=nY al r1 (e5 _ _ r2)
  have hP:=hb.ext cm c7 (Nat.le_refl bl.length)
  have Sc:=(hw.grow he).dA hb cm
  have cA:agree n1 aH (bP aH n1 rs):=agree.bP rs n1 aH
  have mz:=hP.ext cA (Nat.le_add_right n1 (cL c.res).length) (Nat.le_refl bl.length)
  have JK:=Sc.dA hP cA
  have hA:At (bP aH n1 rs) n1 rs:=At.bP aH n1 rs
  have Jx:rs.length=(cL c.res).length:=iL r1
  have nh:=cm.trans cA c7
  have PJ:cv n bl.length ρ m (n1+(cL c.res).length) bl.length (bP aH n1 rs) m:=⟨by omega,nh,Nat.le_refl _,λ_ _=>rfl⟩
  have fg:∀(i:Nat) (p:ax),bl[i]?=some p->a6 (bP aH n1 rs) p.1=a6 ρ p.1:=λi p hi=>jC (hb p (List.mem_of_getElem? hi)) nh
  have Cy:∀(i:Nat) (p:ax),bl[i]?=some p->w.heap.size<=m i->a6 ρ p.1=0:=λi p hi ct=>by
   by_cases h0:a6 ρ p.1=0
   ·exact h0
   ·have:=hw.lt hi h0;omega
  have fin:∀aW:List ax,bQ (n1+(cL c.res).length) aW.length (bP aH n1 rs) aW->Mem w0 (bP aH n1 rs) m aW w'->aW.length=bl.length->
   (∀(i:Nat) (p:ax),aW[i]?=some p->(qu w0 ρ m bl (vs.flatMap iU) (vs.flatMap kS) (m i)∨w.heap.size<=m i)->(c.res.any bN.jR)=true->a6 (bP aH n1 rs) p.1<=1)->
   (∀(i:Nat) (p:ax),aW[i]?=some p->w.heap.size<=m i->a6 (bP aH n1 rs) p.1=0)->(∀g,w.heap.size<=g->mh w0 (bP aH n1 rs) m aW w' g)->
   (pd c.res n1 (n1+(cL c.res).length) [] aW λdb us jO=>k db (uH us) jO).holds S L G (bP aH n1 rs)->dR (.returned (nO us)) w':=λaW hb' mK hlen c4 Ql jb al=>by
   have hF:∀g,(qu w0 ρ m bl (vs.flatMap iU) (vs.flatMap kS) g∨w.heap.size<=g)->w0.ex g∨w0.ro g∨w0.r.heap.size<=g:=λg hg=>by
    rcases hg with(hg|hg)|hg
    ·exact hg.2
    ·exact hg.1
    ·exact .inr (.inr (Nat.le_trans hw.fG hg))
   have hN:∀g,w.heap.size<=g->w0.b.heap.size<=g/\w0.r.heap.size<=g:=λg hg=>⟨Nat.le_trans hw.ext.size hg,Nat.le_trans hw.fG hg⟩
   have h1:(c.res.all λb=> !b.jR)=true∨∀(i:Nat) (p:ax),aW[i]?=some p->(qu w0 ρ m bl (vs.flatMap iU) (vs.flatMap kS) (m i)∨w.heap.size<=m i)->a6 (bP aH n1 rs) p.1<=1:=by
    cases oz:c.res.any bN.jR with
    |true=>exact .inr λi p hi hf=>c4 i p hi hf oz
    |false=>
     left
     rw[List.all_eq_true]
     intro b hb
     cases fo:b.jR with
     |false=>rfl
     |true=>rw[List.any_eq_true.2 ⟨b,hb,fo⟩]at oz;cases oz
   obtain⟨n',ag,m',jm,jO,p1,bz,cd,eE,eV,gk⟩:=xZ (S:=S) (L:=L) hF hN (l:=c.res) (us:=[]) (vals:=us) hq.1 hb' mK hA r1 (Nat.le_refl _) eR h1 (.inr Ql) (.inr jb) (λu hu=>by simp at hu) al
   have ki:=WT (m:=m') eV (by simpa using eE)
   exact hk n' (uH jm) jO G ag m' w' (nO us) (PJ.trans (hlen▸p1)) (c5.refl _ _) ki.1 ki.2 bz cd gk
  cases oz:c.res.any bN.jR with
  |false=>
   rw[oz]at al
   exact fin bl mz JK rfl (λ_ _ _ _ h=>by rw[oz]at h;cases h) (λi p hi ct=>by rw[fg i p hi];exact Cy i p hi ct) (λg hg=>(hw.sO he hg).dA hb nh) al
  |true=>
   rw[oz]at al hq
   obtain⟨f1,f2,f3,f4⟩:=yE (bs:=vs.flatMap iU) JK mz
   have mG:l5 vs=true:=by
    rcases hq.2 with h|h
    ·cases h
    ·exact h
   refine fin _ (by rw[f3];exact f2) f1 f3 (λi p hi hf _=>?_) (λi p hi ct=>?_) (λg hg=>(yE (bs:=vs.flatMap iU) (hw.dA hb nh) mz).1.sO he hg) al
   ·obtain⟨bV,h1,h2,h3⟩:=f4 i p hi
    rw[fg i bV h1]at h2
    rcases hf with(⟨⟨b,IP,Qo,q,tN,nq,RN⟩,_⟩|oy)|ct
    rotate_left
    ·rcases Nat.lt_or_ge (a6 ρ bV.1) 2 with bk|bk
     ·omega
     ·exact absurd rfl (oy.2 i bV h1 bk)
    rotate_left
    ·obtain⟨aV,o,ro,len,cap,il⟩:=KT mG IP
     rcases hw.inj i b bV q h1 tN (by rw[Qo])with h5|h5|h5|h5
     ·subst h5
      rw[h1]at tN;cases tN
      cases ho:bO bV.1 with
      |false=>exact h3 IP ho
      |true=>
       have:=RN ho
       rw[KS mG]at this
       simp at this
     ·omega
     ·omega
     ·exact absurd h5 nq
    ·have:=Cy i bV h1 ct;omega
   ·obtain⟨bV,h1,h2,_⟩:=f4 i p hi
    rw[fg i bV h1]at h2
    have:=Cy i bV h1 ct;omega
theorem cM.Gm {c:cM} {spec:List Int->List Int->Prop} (hc:c.Ok P w0.b spec) (e5:∀zs rs,spec zs rs->S c.id zs rs) (n:Nat) (vs:List V) (bl:List ax) (k:RK) (G:cP) (ρ:Env) (m:Nat->Nat) (w:World) (xs:List Value) (dR:Ending->World->Prop)
 (hb:bQ n bl.length ρ bl) (hw:Mem w0 ρ m bl w) (hv:∀v∈vs,V.ok n bl.length ρ v) (hr:dK ρ m vs xs) (al:(c.u1 n vs bl k).holds S L G ρ) (hk:sL S L w0 k n bl.length ρ m G dR):
 (callFunc c.f xs.toArray).run P w= .ok (.enter c.f xs.toArray) w/\Calls P c.f xs.toArray w dR:=by
 exact⟨hc.1 _ _,cM.M0 e5 n vs bl k G ρ m w xs dR (λzs h1 h2 h3=>hc.2 _ w xs zs hw.ext h1 h2 h3) hb hw hv hr al hk⟩
theorem Fj {m:Nat->Nat} {w:World}:∀{ds:List bN} {vs:List V} {bl:List ax} {xs:List Value} {n:Nat} {ρ:Env},Mem w0 ρ m bl w->bQ n bl.length ρ bl->(∀v∈vs,V.ok n bl.length ρ v)->dK ρ m vs xs->
 ar S L (nN ds vs bl) n ρ λag n' q=>Mem w0 ag m q.2 w/\bQ n' q.2.length ag q.2/\q.2.length=bl.length/\(∀v∈q.1,V.ok n' bl.length ag v)/\dK ag m q.1 xs
 |[],vs,bl,xs,n,ρ,hm,hb,hv,hr=>ar.pure ⟨hm,hb,rfl,hv,hr⟩
 | .d _::_,[],bl,xs,n,ρ,hm,hb,hv,hr=>ar.pure ⟨hm,hb,rfl,hv,hr⟩
 | .rd _::_,[],bl,xs,n,ρ,hm,hb,hv,hr=>ar.pure ⟨hm,hb,rfl,hv,hr⟩
 | .iP _ _::_,[],bl,xs,n,ρ,hm,hb,hv,hr=>ar.pure ⟨hm,hb,rfl,hv,hr⟩
 |d::r,v::s,bl,xs,n,ρ,hm,hb,hv,hr=>by
  match xs,hr with
  |x::xs,hr=>
  have keep:ar S L (bind (nN r s bl) λq=>pure (v::q.1,q.2)) n ρ λag n' q=>Mem w0 ag m q.2 w/\bQ n' q.2.length ag q.2/\q.2.length=bl.length/\(∀v∈q.1,V.ok n' bl.length ag v)/\dK ag m q.1 (x::xs):=
   (Fj (ds:=r) (vs:=s) hm hb (λu hu=>hv u (List.mem_cons_of_mem _ hu)) hr.2).bind λaH n1 q hn ha ⟨g1,g2,g3,g4,g5⟩=>ar.pure ⟨g1,g2,g3,λu hu=>by
     rcases List.mem_cons.1 hu with rfl|hu
     ·exact(hv u (by simp)).ext ha hn (Nat.le_refl _)
     ·exact g4 u hu,V.rel.ext hr.1 (hv v (by simp)) ha (λ_ _=>rfl),g5⟩
  cases d with
  |d y=>exact keep
  |iP sh e=>exact keep
  |rd sh=>
   unfold nN
   split
   ·rename_i b len cap _
    split
    ·rename_i C t hbl
     cases hc:(bO C&& !t.2&&Nat.beq len cap&&Nat.beq C.length (len*sh.length)&&gy sh&&Nat.ble len 1000000&&fJ sh&&Nat.blt 0 len)with
     |false=>exact keep
     |true=>
      simp only[cond_true]
      simp only[Bool.and_eq_true]at hc
      obtain⟨⟨⟨⟨⟨⟨⟨ho,c1⟩,bY⟩,aU⟩,bL⟩,b9⟩,du⟩,e0⟩:=hc
      have c1:t.2=false:=by simpa using c1
      have bY:=Nat.eq_of_beq_eq_true bY
      have aU:=Nat.eq_of_beq_eq_true aU
      have b9:=Nat.le_of_ble_eq_true b9
      subst bY
      have a8:∀x∈C,A.ok n bl.length ρ x:=hb _ (List.mem_of_getElem? hbl)
      have jv:b<bl.length:=(List.getElem?_eq_some_iff.1 hbl).1
      have gL:=qR (w:=sh.length) (k:=len) aU
      refine(ve (nb:=bl.length) (m:=m) bL (rs:=gG sh.length len C) (c:= .const 0) (λrow hr x hx=>a8 x (qS row hr x hx)) (J.bU _ _) (by rw[J.aS];exact⟨Int.le_refl _,o9⟩) (by rw[mR];intro _ h;simp at h) (by rw[mR,gL.1];simp;omega)).bind λaH n1 code c7 cm ⟨p1,bz,b7,cd,eE,eV,gk⟩=>?_
      rw[mR,List.nil_append]at cd
      have wg:C.map (A.den aH m)=C.map (A.den ρ m):=kM a8 cm (λ_ _=>rfl)
      have hO:=(hm.dA hb cm).zY (n:=n1) (c:=len) (sh:=sh) (code:=code) hbl ho c1 du (by rw[cd];exact eV) (by rw[cd,gk,gL.2,wg]) aU
      have hP:bQ n1 (cF bl b ([.rows sh (.const 0) code (.const len) 2],t)).length aH (cF bl b ([.rows sh (.const 0) code (.const len) 2],t)):=(hb.ext cm c7 (Nat.le_refl _)).set (λy hy=>by
       have hy:y= .rows sh (.const 0) code (.const len) 2:=by simpa using hy
       subst hy
       exact⟨⟨J.bU _ _,p1,J.bU _ _⟩,bz,by rw[J.aS];omega⟩)
      have y4:=fW bl b ([.rows sh (.const 0) code (.const len) 2],t)
      refine(Fj (ds:=r) (vs:=s) hO hP (λu hu=>by rw[y4];exact(hv u (List.mem_cons_of_mem _ hu)).ext cm c7 (Nat.le_refl _)) (yC.dK.later (λu hu=>hv u (List.mem_cons_of_mem _ hu)) cm hr.2)).bind λba db q cQ cA ⟨g1,g2,g3,g4,g5⟩=>ar.pure ⟨g1,g2,by rw[g3,y4],λu hu=>?_,?_,g5⟩
      ·rcases List.mem_cons.1 hu with rfl|hu
       ·refine⟨jv,⟨J.bU _ _,J.bU _ _,J.bU _ _,J.bU _ _⟩,?_⟩
        simp only[J.aS]
        exact⟨⟨by omega,by omega,by omega,by omega⟩,⟨by omega,by omega⟩,λh=>by omega,λ_=>by omega⟩
       ·rw[<-y4];exact g4 u hu
      ·have h0:x= .slice (some ⟨m b,0,none⟩) len len:=hr.1
       have rD:¬((len:Int)<0):=by omega
       rw[h0]
       simp[V.rel,W.den,A.den,J.aS,rD]
    ·exact keep
   ·exact keep
theorem cM.M1 {c:cM} {spec:List Int->List Int->Prop} (hc:c.Ok P w0.b spec) (e5:∀zs rs,spec zs rs->S c.id zs rs) (n:Nat) (vs:List V) (bl:List ax) (k:RK) (G:cP) (ρ:Env) (m:Nat->Nat) (w:World) (xs:List Value) (dR:Ending->World->Prop)
 (hb:bQ n bl.length ρ bl) (hw:Mem w0 ρ m bl w) (hv:∀v∈vs,V.ok n bl.length ρ v) (hr:dK ρ m vs xs) (al:(c.AK n vs bl k).holds S L G ρ) (hk:sL S L w0 k n bl.length ρ m G dR):
 (callFunc c.f xs.toArray).run P w= .ok (.enter c.f xs.toArray) w/\Calls P c.f xs.toArray w dR:=by
 unfold cM.AK at al
 cases hq:(c.res.any bN.jR&& !l5 vs)with
 |false=>rw[hq]at al;exact c.Gm hc e5 n _ _ k G ρ m w xs dR hb hw hv hr al hk
 |true=>
  rw[hq]at al
  simp only[cond_true]at al
  obtain⟨aH,n1,q,hn,ha,⟨g1,g2,g3,g4,g5⟩,al⟩:=Fj (S:=S) (L:=L) (ds:=c.args) hw hb hv hr G _ al
  refine c.Gm hc e5 n1 _ _ k G aH m w xs dR g2 g1 (λv hv=>by rw[g3];exact g4 v hv) g5 al ?_
  rw[g3]
  intro n' v aW cV ag m' w' val h1 h2 h3 h4 h5 h6 h7
  exact hk n' v aW cV ag m' w' val (cv.trans ⟨hn,ha,Nat.le_refl _,λ_ _=>rfl⟩ h1) (λl hl=>h2 l (Nat.lt_of_lt_of_le hl hn)) h3 h4 h5 h6 h7
theorem cM.M3 {c:cM} {spec:List Int->List Int->Prop} (hc:c.Ok P w0.b spec) (e5:∀zs rs,spec zs rs->S c.id zs rs) (n:Nat) (vs:List V) (bl:List ax) (k:RK) (G:cP) (ρ:Env) (m:Nat->Nat) (w:World) (xs:List Value) (dR:Ending->World->Prop)
 (hb:bQ n bl.length ρ bl) (hw:Mem w0 ρ m bl w) (hv:∀v∈vs,V.ok n bl.length ρ v) (hr:dK ρ m vs xs) (al:(c.E n vs bl k).holds S L G ρ) (hk:sL S L w0 k n bl.length ρ m G dR):
 (callFunc c.f xs.toArray).run P w= .ok (.enter c.f xs.toArray) w/\Calls P c.f xs.toArray w dR:=by
 obtain⟨g1,g2,g3,g4,g5⟩:=Fy (rd:=c.res.any bN.jR) (ds:=c.args) hw hb hv hr
 exact c.M1 hc e5 n _ _ k G ρ m w xs dR g2 g1 (λv hv=>by rw[g3];exact g4 v hv) g5 al (by rw[g3];exact hk)
end
end Go.bo
namespace Go.bo
open M
def O.aX (n:Nat):O->Prop
 |l x=>x.aX n
 |b x=>x.aX n
theorem O.bj {n:Nat} {ρ ag:Env} (ha:agree n ρ ag):∀{o:O},o.aX n->o.den ag=o.den ρ
 | .l x,h=>J.bj ha h
 | .b x,h=>by simp only[O.den];rw[aY.bj ha h]
theorem K8 {k:IntKind} {n nb:Nat} {ρ:Env}:∀{l:List A} {os:List O},fC k l=some os->(∀a∈l,A.ok n nb ρ a)->∀o∈os,O.aX n o
 |[],os,h,_=>by simp[fC]at h;subst h;intro x hx;simp at hx
 | .int aZ x::s,os,h,a8=>by
  simp only[fC]at h
  cases hc:decide (k=aZ)with
  |false=>simp[hc]at h
  |true=>
   cases hr:fC k s with
   |none=>simp[hc,hr]at h
   |some fh=>
    simp only[hc,hr,cond_true,Option.some.injEq]at h
    subst h
    intro y hy
    rcases List.mem_cons.1 hy with hy|hy
    ·rw[hy]
     have h0:A.ok n nb ρ (.int aZ x):=a8 _ (List.mem_cons_self ..)
     have h0:x.ok n ρ:=h0
     exact h0.1
    ·exact K8 hr (λa ha=>a8 a (List.mem_cons_of_mem _ ha)) y hy
 | .bool _::_,_,h,_=>by simp[fC]at h
 | .ptr .. ::_,_,h,_=>by simp[fC]at h
 | .iQ .. ::_,_,h,_=>by simp[fC]at h
 | .gptr .. ::_,_,h,_=>by simp[fC]at h
 | .slc .. ::_,_,h,_=>by simp[fC]at h
 | .con _::_,_,h,_=>by simp[fC]at h
 | .str _::_,_,h,_=>by simp[fC]at h
 | .rows .. ::_,_,h,_=>by simp[fC]at h
 | .sl .. ::_,_,h,_=>by simp[fC]at h
 | .ep .. ::_,_,h,_=>by simp[fC]at h
theorem az.VD {c:az} {a:A} {o:O} {n nb:Nat} {ρ:Env} (h:c.out a=some o) (ha:a.ok n nb ρ):o.aX n:=by
 unfold az.out at h
 split at h
 ·rename_i k _ _ aZ x
  cases hk:decide (k=aZ)with
  |false=>simp[hk]at h
  |true=>
   simp only[hk,cond_true,Option.some.injEq]at h
   subst h
   have ha:x.ok n ρ:=ha
   exact ha.1
 ·simp only[Option.some.injEq]at h;subst h
  exact ha.1
 ·simp only[Option.some.injEq]at h;subst h
  exact ha
 ·cases h
theorem Lb {n nb:Nat} {ρ:Env}:∀{d:List az} {l:List A} {os:List O},kO d l=some os->(∀a∈l,A.ok n nb ρ a)->∀o∈os,O.aX n o
 |[],[],os,h,_=>by simp[kO]at h;subst h;intro x hx;simp at hx
 |c::d,a::s,os,h,a8=>by
  simp only[kO]at h
  cases h1:c.out a with
  |none=>simp[h1]at h
  |some o=>
   cases h2:kO d s with
   |none=>simp[h1,h2]at h
   |some w6=>
    simp only[h1,h2,Option.some.injEq]at h
    subst h
    intro y hy
    rcases List.mem_cons.1 hy with hy|hy
    ·rw[hy];exact az.VD h1 (a8 a (List.mem_cons_self ..))
    ·exact Lb h2 (λb hb=>a8 b (List.mem_cons_of_mem _ hb)) y hy
 |[],_::_,_,h,_=>by simp[kO]at h
 |_::_,[],_,h,_=>by simp[kO]at h
theorem VC {d:D} {u:W} {os:List O} {n nb:Nat} {ρ:Env} (h:oS d u=some os) (hu:u.ok n nb ρ):∀o∈os,O.aX n o:=by
 unfold oS at h
 split at h
 ·rename_i k _ _ aZ x
  cases hk:decide (k=aZ)with
  |false=>simp[hk]at h
  |true=>
   simp only[hk,cond_true,Option.some.injEq]at h
   subst h
   have hu:x.ok n ρ:=hu
   intro o ho;simp at ho;subst ho;exact hu.1
 ·simp only[Option.some.injEq]at h;subst h
  intro o ho;simp at ho;subst ho;exact hu
 ·rename_i k n' _ _ l
  cases hk:Nat.beq l.length n' with
  |false=>simp[hk]at h
  |true=>
   simp only[hk,cond_true]at h
   exact K8 h hu
 ·simp only[Option.some.injEq]at h;subst h
  intro o ho;simp at ho;subst ho;exact hu.1
 ·exact Lb h hu
 ·cases h
noncomputable def uF (bl:List ax):bN->W->M (List O)
 | .d x,u=>match oS x u with|some os=>pure os|none=>fail
 | .rd sh,u=>bind (xd true sh bl (.w u)) λl=>pure [.l l]
 | .iP sh e,u=>bind (Ej sh e bl (.w u)) λl=>pure [.l l]
noncomputable def zR (bl:List ax):List bN->List W->M (List O)
 |[],[]=>pure []
 |b::r,u::s=>bind (uF bl b u) λa=>bind (zR bl r s) λc=>pure (a++c)
 |_,_=>fail
noncomputable def Ex (bl:List ax) (ds:List bN) (v:V):M (List O):=
 match v with
 | .w u=>match ds with|[d]=>uF bl d u|_=>fail
 | .eb l=>match ds with|[_]=>fail|_=>zR bl ds l
 |_=>fail
def O.toW:O->W
 |l x=> .one (.int .u8 ⟨x,0,0⟩)
 |b x=> .one (.bool x)
def W.toO:W->O
 | .one (.int _ x)=> .l x.l
 | .one (.bool e)=> .b e
 |_=> .l (.const 0)
theorem O.toW_toO (o:O):o.toW.toO=o:=by cases o<;>rfl
def zH (os:List O):V:= .eb (os.map O.toW)
def qB (K:List Int->Prop) (v:V) (ρ:Env):Prop:=
 match v with
 | .eb l=>K (l.map λu=>u.toO.den ρ)
 |_=>False
theorem Nf {K:List Int->Prop} {os:List O} {ρ:Env}:qB K (zH os) ρ=K (os.map (O.den ρ)):=by
 unfold qB zH
 simp only[List.map_map]
 congr 1
 exact List.map_congr_left λo _=>by simp[Function.comp,O.toW_toO]
section
variable {S:Nat->List Int->List Int->Prop} {L:V->Env->Prop} {w0:cR} {P:Program} {w:World}
theorem qE.mono {N u4:Nat->Prop} {sh:List az} {e:TypeId} {rows:List (List Int)} {v:Value} (h:qE N w sh e rows v) (hN:∀g,N g->u4 g):qE u4 w sh e rows v:=by
 rcases h with h|⟨g,cap,cells,h1,h2,h3,h4⟩
 ·exact .inl h
 ·exact .inr ⟨g,cap,cells,h1,h2,hN g h3,h4⟩
def F0 (w0:cR) (g:Nat):Prop:=w0.ex g∨w0.ro g∨w0.r.heap.size<=g
theorem Lz {d:bN} {u:W} {n:Nat} {ρ:Env} {m:Nat->Nat} {bl:List ax} (hex:∀g,¬w0.ex g) (hb:bQ n bl.length ρ bl) (hw:Mem w0 ρ m bl w) (hu:u.ok n bl.length ρ):
 ar S L (uF bl d u) n ρ λag n' os=>(∀o∈os,O.aX n' o)/\os.length=d.num/\(d.dW=false->bI d.bds (os.map (O.den ag)))/\∀zs,d.at (F0 w0) (λg=>w0.r.heap.size<=g) w (os.map (O.den ag)++zs) (u.den ρ m):=by
 cases d with
 |d x=>
  unfold uF
  cases ho:oS x u with
  |none=>simp only[ho];exact ar.fail
  |some os=>
   simp only[ho]
   have:=Ei (ρ:=ρ) (m:=m) ho
   exact ar.pure ⟨VC ho hu,this.1,λh=>(by simp[bN.dW]at h),λzs=>(this.2 zs).symm⟩
 |rd sh=>
  unfold uF
  refine(WG (v:= .w u) hb hw hu rfl).bind λaH n1 l hn ha ⟨g1,g2,g3⟩=>ar.pure ⟨λo ho=>by simp at ho;subst ho;exact g1,rfl,λ_=>⟨g2.1,g2.2,trivial⟩,λzs=>?_⟩
  exact g3.mono λg hg=>hg.elim (λh=>h.2) λh=>h.1
 |iP sh e=>
  unfold uF
  refine(VF (v:= .w u) hex hb hw hu rfl).bind λaH n1 l hn ha ⟨g1,g2,g3⟩=>ar.pure ⟨λo ho=>by simp at ho;subst ho;exact g1,rfl,λ_=>⟨g2.1,g2.2,trivial⟩,λzs=>g3⟩
theorem Ug {n:Nat} {ρ ag:Env} {os:List O} (h:∀x∈os,O.aX n x) (ha:agree n ρ ag):os.map (O.den ag)=os.map (O.den ρ):=List.map_congr_left λx hx=>O.bj ha (h x hx)
theorem LA {m:Nat->Nat} {bl:List ax} (hex:∀g,¬w0.ex g):∀{ds:List bN} {us:List W} {n:Nat} {ρ:Env},bQ n bl.length ρ bl->Mem w0 ρ m bl w->(∀u∈us,W.ok n bl.length ρ u)->
 ar S L (zR bl ds us) n ρ λag n' os=>(∀o∈os,O.aX n' o)/\gF (F0 w0) (λg=>w0.r.heap.size<=g) w ds (os.map (O.den ag)) (us.map (W.den ρ m))
 |[],[],n,ρ,_,_,_=>ar.pure ⟨λ_ h=>by simp at h,trivial⟩
 |b::r,u::s,n,ρ,hb,hw,hu=>by
  unfold zR
  refine(Lz hex hb hw (hu u (by simp))).bind λaH n1 a hn ha ⟨g1,g2,_,g3⟩=>?_
  refine(LA (ds:=r) (us:=s) hex (hb.ext ha hn (Nat.le_refl _)) (hw.dA hb ha) (λx hx=>(hu x (List.mem_cons_of_mem _ hx)).ext ha hn (Nat.le_refl _))).bind λba db c cQ cA ⟨k1,k2⟩=>ar.pure ⟨λo ho=>?_,?_⟩
  ·rcases List.mem_append.1 ho with ho|ho
   ·have:=g1 o ho
    cases o with
    |l x=>exact J.aX.mono this cQ
    |b x=>exact aY.aX.mono cQ this
   ·exact k1 o ho
  ·rw[List.map_append,Ug g1 cA]
   refine⟨g3 _,?_⟩
   rw[<-g2,<-List.length_map (f:=O.den aH) (as:=a),List.drop_left]
   have e:s.map (W.den ρ m)=s.map (W.den aH m):=List.map_congr_left λx hx=>(W.hM (hu x (List.mem_cons_of_mem _ hx)) ha (λ_ _=>rfl)).symm
   rw[e];exact k2
 |[],_::_,_,_,_,_,_=>ar.fail
 |_::_,[],_,_,_,_,_=>ar.fail
theorem WR {ds:List bN} {v:V} {val:Value} {n:Nat} {ρ:Env} {m:Nat->Nat} {bl:List ax} (hex:∀g,¬w0.ex g) (hb:bQ n bl.length ρ bl) (hw:Mem w0 ρ m bl w) (hv:v.ok n bl.length ρ) (hr:v.rel ρ m val):
 ar S L (Ex bl ds v) n ρ λag n' os=>∃us,val=nO us/\gF (F0 w0) (λg=>w0.r.heap.size<=g) w ds (os.map (O.den ag)) us:=by
 unfold Ex
 split
 ·rename_i u
  split
  ·rename_i d
   refine(Lz hex hb hw hv).mono λaH n1 os hn ha ⟨g1,g2,_,g3⟩=>⟨[u.den ρ m],hr,?_,trivial⟩
   have:=g3 []
   rwa [List.append_nil]at this
  ·exact ar.fail
 ·rename_i l
  split
  ·exact ar.fail
  ·rename_i hne
   refine(LA (ds:=ds) hex hb hw hv).mono λaH n1 os hn ha ⟨g1,g2⟩=>⟨l.map (W.den ρ m),?_,g2⟩
   have hr:val= .tuple (l.map (W.den ρ m)).toArray:=hr
   rw[hr]
   unfold nO
   split
   ·rename_i x hx
    exfalso
    have hl:l.length=1:=by have:=congrArg List.length hx;simpa using this
    match ds,l,hl,g2,hne with
    |[d],[u],_,_,hne=>exact hne d rfl
    |[],[u],_,g2,_=>simp[gF]at g2
    |_::_::_,[u],_,g2,_=>simp[gF]at g2
   ·rfl
 ·exact ar.fail
def D0 (i:Nat):J:=⟨0,[(1,i)]⟩
theorem Ue (ρ:Env) (zs:List Int):((List.range zs.length).map D0).map (·.den (bP ρ 0 zs))=zs:=by
 refine Kr (by simp) λj hj=>?_
 have hj:j<zs.length:=by simpa using hj
 have:=At.bP ρ 0 zs j hj
 rw[Nat.zero_add]at this
 simp[D0,J.den,eP,List.getD,hj]at this⊢
 exact this
noncomputable def cM.tree (gb:kX) (P:Program) (gl:dt) (bd:ey) (li:FuncId->Nat->Option c0) (rounds d:Nat) (c:cM):T:=
 cond (m8 c.args&& !(c.args.any bN.mN)) (Lk c.pre ((List.range (cL c.args).length).map D0) (pd c.args 0 (cL c.args).length [] [] λn us bl=>Bs gb P gl bd li rounds d c.f n (us.map V.w) bl λn' v aW=>Ex aW c.res v n' λos _=> .leaf (zH os))) .stuck
theorem Gv {ρ:Env} {m:Nat->Nat}:∀{us:List W} {xs:List Value},us.map (W.den ρ m)=xs->dK ρ m (us.map V.w) xs
 |[],[],_=>trivial
 |u::us,x::xs,h=>by
  simp only[List.map_cons,List.cons.injEq]at h
  exact⟨h.1.symm,Gv h.2⟩
 |[],_::_,h=>by simp at h
 |_::_,[],h=>by simp at h
noncomputable def gw:List cM->kX
 |[],_=>none
 |c::r,f=>cond (Nat.beq c.f f) (some c.E) (gw r f)
theorem hJ {wb:World} {r:World} {ex ro:Nat->Prop}:∀{l:List cM},(∀c∈l,c.Ok P wb (S c.id))->sF S L ⟨wb,r,ex,ro,[]⟩ P (gw l)
 |[],_=>λf g h=>by cases h
 |c::l,h=>λf g hf=>by
  unfold gw at hf
  cases hb:Nat.beq c.f f with
  |true=>
   rw[hb]at hf
   simp only[cond_true,Option.some.injEq]at hf
   have:=Nat.eq_of_beq_eq_true hb
   subst this;subst hf
   intro n vs bl k G ρ m w xs dR h1 h2 h3 h4 h5 h6
   exact cM.M3 (w0:=⟨wb,r,ex,ro,[]⟩) (h c (by simp)) (λ_ _ h=>h) n vs bl k G ρ m w xs dR h1 h2 h3 h4 h5 h6
  |false=>
   rw[hb]at hf
   exact hJ (λc hc=>h c (List.mem_cons_of_mem _ hc)) f g hf
theorem cM.UC {wb:World} {gl:dt} {c:cM} {gb:kX} {bd:ey} {li:FuncId->Nat->Option c0} {rounds d:Nat} {spec:List Int->List Int->Prop} (hm:P.follows .mixedOrders=true) (cN:∀r ex ro,gD S P gl ⟨wb,r,ex,ro,[]⟩ bd) (hg:fv gl ⟨wb,wb,λ_=>False,λ_=>False,[]⟩)
 (lS:∀(L:V->Env->Prop) (r:World) (ro:Nat->Prop),sF S L ⟨wb,r,λ_=>False,ro,[]⟩ P gb) (hf:∀args w,(callFunc c.f args).run P w= .ok (.enter c.f args) w)
 (ht:m7 (cL c.args) λzs=>(c.tree gb P gl bd li rounds d).holds S (qB λrs=>bI (cL c.res) rs/\spec zs rs) (λ_ _=>False) (bP (λ_=>0) 0 zs)):c.Ok P wb spec:=by
 refine⟨hf,λF w vs zs hw hz RM hat=>?_⟩
 have al:=nY ht hz
 have kl:=iL hz
 unfold cM.tree at al
 cases hq:(m8 c.args&& !(c.args.any bN.mN))with
 |false=>rw[hq]at al;exact al.elim
 |true=>
  rw[hq]at al
  simp only[cond_true]at al
  have al:=preA_holds al (by rw[<-kl,Ue];exact RM)
  simp only[Bool.and_eq_true,Bool.not_eq_true']at hq
  have il:Mem ⟨wb,w,λ_=>False,F,[]⟩ (bP (λ_=>0) 0 zs) (λ_=>0) [] w:=⟨hw,rfl,rfl,rfl,Nat.le_refl _,λ_ _ _=>rfl,λi cs t h=>by simp at h,λi sh off code cap kind t h=>by simp at h,λi j p q h=>by simp at h⟩
  have hall:(c.args.all λb=> !b.mN)=true:=by
   rw[List.all_eq_true]
   intro b hb
   cases fo:b.mN with
   |false=>rfl
   |true=>rw[List.any_eq_true.2 ⟨b,hb,fo⟩]at hq;cases hq.2
  obtain⟨n',ag,m',us,bl,p1,bz,cd,eE,eV,gk⟩:=xZ (S:=S) (L:=_) (w0:=⟨wb,w,λ_=>False,F,[]⟩) (F:=F) (N:=λ_=>False) (λg hg=> .inr (.inl hg)) (λg hg=>hg.elim) (l:=c.args) (s:=0) (us:=[]) (bl:=[]) (m:=λ_=>0) hq.1 (λp hp=>by simp at hp) il (At.bP _ 0 zs) hz (by omega) hat (.inr λi p h=>by simp at h) (.inl hall) (.inl hall) (λu hu=>by simp at hu) al
  have QY:fv gl ⟨wb,w,λ_=>False,F,[]⟩:=hg
  refine(Hf (S:=S) (w0:=⟨wb,w,λ_=>False,F,[]⟩) rfl hm (cN w (λ_=>False) F) QY (lS _ _ _) d c.f n' (us.map V.w) bl _ _ ag m' w vs _ bz cd (λv hv=>by
   obtain⟨u,hu,rfl⟩:=List.mem_map.1 hv
   exact eV u hu) (Gv (by simpa using eE)) gk ?_).2
  intro db v aW cV ba dX w' val h1 h2 h3 h4 h5 h6 h7
  obtain⟨ek,jW,os,tL,lQ,⟨xs,oC,hx2⟩,hl⟩:=WR (S:=S) (w0:=⟨wb,w,λ_=>False,F,[]⟩) (λg hg=>hg) h5 h6 h3 h4 cV _ h7
  have hl:qB _ (zH os) ek:=hl
  rw[Nf]at hl
  refine⟨?_,os.map (O.den ek),xs,hl.1,hl.2,?_,by rw[oC]⟩
  ·have ll:∀i:Nat,i<w.heap.size->w'.heap[i]?=w.heap[i]?:=λi hi=>h6.kc i hi λh=>h
   exact⟨h6.gP,h6.kj,h6.kh,h6.fG,λa ha=>by simp only[World.cell?,ll a.block ha],λa ha=>by simp only[World.frozen?,ll a.block ha],ll⟩
  ·exact x4 (λg hg=>by
    rcases hg with hg|hg|hg
    ·exact hg.elim
    ·exact .inl hg
    ·exact .inr hg) (λg hg=>hg) hx2
where
 x4 {F F' N u4:Nat->Prop} {w:World} (hF:∀g,F g->F' g) (hN:∀g,N g->u4 g):∀{ds:List bN} {zs:List Int} {vs:List Value},gF F N w ds zs vs->gF F' u4 w ds zs vs
 |[],_,[],_=>trivial
 | .d x::r,zs,v::vs,h=>⟨h.1,x4 hF hN h.2⟩
 | .rd sh::r,zs,v::vs,h=>⟨eY.mono h.1 hF,x4 hF hN h.2⟩
 | .iP sh e::r,zs,v::vs,h=>⟨qE.mono h.1 hN,x4 hF hN h.2⟩
 |[],_,_::_,h=>h.elim
 |_::_,_,[],h=>by simp[gF]at h
end
def bN.zA:bN->List Nat
 | .d x=>x.zA
 |_=>[1]
def sf (ds:List bN):List Nat:=ds.flatMap bN.zA
def AR (ds:List bN) (K:List (List Int)->Prop) (v:V) (st:eN) (aP:eM):Prop:=
 match v with
 | .eb l=>K ((eW (sf ds) (l.map W.toO)).map (uK st aP))
 |_=>False
theorem Nd {ds:List bN} {K:List (List Int)->Prop} (v:V) (ρ:Env) (st:eN) (aP:eM) (ht:js ρ st aP) (h:AR ds K v st aP):qB (λrs=>K (eW (sf ds) rs)) v ρ:=by
 unfold AR at h
 unfold qB
 split at h
 ·rename_i l
  have e:l.map (λu=>u.toO.den ρ)=(l.map W.toO).map (O.den ρ):=by simp
  simp only[e]
  rw[Ad]
  rwa [show(eW (sf ds) (l.map W.toO)).map (uK st aP)=(eW (sf ds) (l.map W.toO)).map (List.map (O.den ρ)) from List.map_congr_left λo _=>L4 ht o]at h
 ·exact h.elim
def gv (sh:Nat->List Nat×List Nat) (dx:Nat->List Nat) (S:Nat->List (List Int)->List (List Int)->Prop) (K:List (List Int)->List (List Int)->Prop) (lens:List Nat) (bds:List (Int×Int)) (ds:List bN) (t:T):Prop:=
 pb lens 0 bds (λst aP zs=>t.iq sh dx S (AR ds (K zs)) (λ_ _=>False) st aP) [] []
theorem Nu {sh:Nat->List Nat×List Nat} {dx:Nat->List Nat} {S:Nat->List (List Int)->List (List Int)->Prop} {K:List (List Int)->List (List Int)->Prop} {lens:List Nat} {bds:List (Int×Int)} {ds:List bN} {t:T}
 (h:gv sh dx S K lens bds ds t):m7 bds λzs=>t.holds (dp sh S) (qB λrs=>K (eW lens zs) (eW (sf ds) rs)) (λ_ _=>False) (bP (λ_=>0) 0 zs):=by
 refine qH λzs hi=>?_
 obtain⟨st,aP,h1,h2⟩:=sN h (show js (λ_=>0) [] [] from⟨trivial,λ_=>rfl⟩) hi
 exact iI (λv ρ st aP ht hl=>Nd v ρ st aP ht hl) t _ _ _ st aP (λ_ _ hf=>hf.elim) h1 h2
end Go.bo
namespace Go.bo
open M
structure lH where
 c:cC
 pre:Nat
def lH.Ok (P:Program) (wb:World) (q:lH) (spec:List Int->List Int->Prop):Prop:=
 ∀zs,bI (dD q.c.args) zs->ad q.pre zs->∃rs,bI (dD q.c.res) rs/\spec zs rs/\∀w,wb.Extends w->sI P q.c.f (jn q.c.args zs).toArray w (gn q.c.res rs)
noncomputable def lH.M (q:lH):List ax->List V->M V:=λ_ vs n k=>
 match lg q.c.args vs with
 |some l=> .m9 q.pre l (.call q.c.id l n (dD q.c.res) (k (uG q.c.res n) (n+(dD q.c.res).length)))
 |none=> .stuck
noncomputable def dz (zO:List lH) (cons:List cC):ey:=λf=>
 match zO.filter (λq=>Nat.beq f q.c.f)with
 |[]=>yc cons f
 |l=>some λbl vs n k=>match l.find? (λq=>(lg q.c.args vs).isSome)with
  |some q=>q.M bl vs n k
  |none=>match yc cons f with
   |some g=>g bl vs n k
   |none=> .stuck
section
variable {S:Nat->List Int->List Int->Prop} {P:Program} {gl:dt} {w0:cR}
theorem lH.snd {q:lH} {spec:List Int->List Int->Prop} (hc:q.Ok P w0.b spec) (e5:∀zs rs,spec zs rs->S q.c.id zs rs) (L:V->Env->Prop) (n:Nat) (ρ:Env) (m:Nat->Nat) (bl:List ax) (vs:List V) (xs:List Value)
 (eQ:∀v∈vs,V.ok n bl.length ρ v) (hr:dK ρ m vs xs):ar S L (q.M bl vs) n ρ λag n' v=>v.ok n' bl.length ag/\∃val,v.rel ag m val/\∀w,Mem w0 ρ m bl w->sI P q.c.f xs.toArray w val:=by
 intro G k hk
 unfold lH.M at hk
 cases hl:lg q.c.args vs with
 |none=>simp[hl,T.holds]at hk
 |some l=>
  simp only[hl]at hk
  obtain⟨fR,hk⟩:=hk
  obtain⟨h1,h2⟩:=BY hl eQ hr
  obtain⟨rs,r1,r2,eR⟩:=hc _ h1 fR
  have al:=Bt hk r1 (e5 _ _ r2)
  have hlen:=iL r1
  have ki:=Ey (m:=m) (nb:=bl.length) (N:=n+(dD q.c.res).length) r1 (At.bP ρ n rs) (Nat.le_refl _)
  refine⟨_,_,_,Nat.le_add_right _ _,agree.bP rs n ρ,⟨ki.1,_,ki.2,λw hw=>?_⟩,al⟩
  rw[h2]at eR
  exact eR w hw.ext
theorem dH {zO:List lH} {cons:List cC} (hq:∀q∈zO,q.Ok P w0.b (S q.c.id)) (hc:∀c∈cons,c.o8 P w0.b (S c.id)):gD S P gl w0 (dz zO cons):=by
 intro f g mD L n ρ m bl vs xs h1 h2 h3 h4
 unfold dz at mD
 split at mD
 ·exact He (gl:=gl) hc f g mD L n ρ m bl vs xs h1 h2 h3 h4
 ·rename_i l hl
  simp only[Option.some.injEq]at mD
  subst mD
  intro G k hk
  simp only at hk
  split at hk
  ·rename_i q ni
   have ck:=List.mem_filter.1 (List.mem_of_find?_eq_some ni)
   have vV:=Nat.eq_of_beq_eq_true ck.2
   subst vV
   exact lH.snd (hq q ck.1) (λ_ _ h=>h) L n ρ m bl vs xs h3 h4 G k hk
  ·split at hk
   ·rename_i bA gM
    exact He (gl:=gl) hc f bA gM L n ρ m bl vs xs h1 h2 h3 h4 G k hk
   ·exact hk.elim
def idx (c:Int):List UInt8->Int
 |[]=>-1
 |b::r=>if(b.toNat:Int)=c then 0 else if idx c r<0 then-1 else idx c r+1
theorem rS (c:Int):∀l:List UInt8,-1<=idx c l/\idx c l<l.length
 |[]=>by simp[idx]
 |b::r=>by
  have:=rS c r
  simp only[idx,List.length_cons]
  split
  ·omega
  ·split<;>omega
theorem find_range (p:Nat->Bool):∀n:Nat,(List.range (n+1)).find? p=if p 0=true then some 0 else((List.range n).find? λi=>p (i+1)).map (·+1):=λn=>by
 rw[List.range_succ_eq_map,List.find?_cons]
 cases h:p 0 with
 |true=>simp
 |false=>
  simp only[Bool.false_eq_true,if_false]
  rw[List.find?_map];rfl
theorem JQ (c:Int):∀l:List UInt8,(match(List.range l.length).find? λi=>decide (((l.getD i 0).toNat:Int)=c)with|some i=>(i:Int)|none=>-1)=idx c l
 |[]=>rfl
 |b::r=>by
  have ih:=JQ c r
  rw[List.length_cons,find_range]
  simp only[List.getD_cons_zero,List.getD_cons_succ,decide_eq_true_eq,idx]
  by_cases h:(b.toNat:Int)=c
  ·simp[h]
  ·simp only[if_neg h]
   have hr:=rS c r
   cases hf:(List.range r.length).find? λi=>decide (((r.getD i 0).toNat:Int)=c)with
   |none=>rw[hf]at ih;simp only[Option.map_none]at ih⊢;rw[<-ih];simp
   |some i=>rw[hf]at ih;simp only[Option.map_some]at ih⊢;rw[<-ih,if_neg (by omega)];rfl
theorem find_congr {α:Type} {p q:α->Bool}:∀{l:List α},(∀x∈l,p x=q x)->l.find? p=l.find? q
 |[],_=>rfl
 |x::r,h=>by
  rw[List.find?_cons,List.find?_cons,h x (by simp),find_congr λy hy=>h y (List.mem_cons_of_mem _ hy)]
theorem Xc (l:List UInt8) (c:Int) (h0:0<=c) (h1:c<=255) (w:World):(Extern.BytealgIndexByte.indexByte #[.string (a7 l),.int .u8 c]).run P w= .ok (.int .i64 (idx c l)) w:=by
 have hsz:(a7 l).size=l.length:=k6 l
 have pH:∀i,i<l.length->(a7 l)[i]! =l.getD i 0:=λi hi=>by
  have:i<(a7 l).size:=by omega
  rw[getElem!_pos (a7 l) i this]
  simp only[List.getD,List.getElem?_eq_getElem hi,Option.getD_some]
  rfl
 have e:((List.range (a7 l).size).find? λi=>(a7 l)[i]! ==c.toNat.toUInt8)=(List.range l.length).find? λi=>decide (((l.getD i 0).toNat:Int)=c):=by
  rw[hsz]
  refine find_congr λi hi=>?_
  have hi:=List.mem_range.1 hi
  rw[pH i hi]
  have hc:c.toNat.toUInt8.toNat=c.toNat:=by simp;omega
  rw[Bool.eq_iff_iff]
  simp only[beq_iff_eq,decide_eq_true_eq]
  rw[<-UInt8.toNat_inj,hc]
  omega
 have hf:=JQ c l
 have hd:Extern.BytealgIndexByte.indexByte #[.string (a7 l),.int .u8 c]=(match(List.range (a7 l).size).find? (λi=>(a7 l)[i]! ==c.toNat.toUInt8)with
  |some i=>Pure.pure (goInt i)
  |none=>Pure.pure (goInt (-1)):Sem Value):=rfl
 rw[hd,e,<-hf]
 cases(List.range l.length).find? λi=>decide (((l.getD i 0).toNat:Int)=c)<;>rfl
theorem Sr {f:FuncId} {fn:Func} {id:Nat} {wb:World} (hf:P.funcs[f]?=some fn) (CU:(fn.name== "runtime.NumGoroutine")=false) (hb:fn.body.isNone=true) (hn:Extern.findNext fn=none) (he:Extern.find fn=some Extern.BytealgIndexByte.indexByte):
 (⟨f,id,[.str,.int .u8 0 255],[.int .i64 (-1) 9223372036854775807]⟩:cC).o8 P wb λzs rs=>rs=[idx (zs.getD 1 0) (ab (zs.getD 0 0))]:=by
 intro zs hz
 match zs,hz with
 |[s,c],hz=>
  obtain⟨s1,s2,c1,aU,_⟩:=hz
  have hr:=rS c (ab s)
  have hl:(ab s).length<=9223372036854775807:=by have:=qx s2;unfold fs at this;omega
  refine⟨[idx c (ab s)],(show bI [((-1:Int),9223372036854775807)] _ from⟨by omega,by omega,trivial⟩),rfl,λw _=> .inl ?_⟩
  rw[run_callFunc_extern hf CU hb hn he]
  have:=Xc (P:=P) (ab s) c c1 aU w
  show((Extern.BytealgIndexByte.indexByte #[.string (a7 (ab s)),.int .u8 c]).run P w).andThen _=_
  rw[this];rfl
 |[],h=>exact h.elim
 |[_],h=>exact(h.2.2).elim
 |_::_::_::_,h=>exact(h.2.2.2.2).elim
def cmpL:List UInt8->List UInt8->Int
 |[],[]=>0
 |[],_::_=>-1
 |_::_,[]=>1
 |a::l,b::r=>if a=b then cmpL l r else if a<b then-1 else 1
theorem BA:∀l r:List UInt8,-1<=cmpL l r/\cmpL l r<=1
 |[],[]=>by decide
 |[],_::_=>by unfold cmpL;decide
 |_::_,[]=>by unfold cmpL;decide
 |a::l,b::r=>by
  have:=BA l r
  unfold cmpL
  split
  ·exact this
  ·split<;>decide
theorem Hl:∀l r:List UInt8,(cmpL l r=-1↔Op.bytesLess l r=true)/\(cmpL l r=0↔l=r)
 |[],[]=>by simp[cmpL,Op.bytesLess]
 |[],_::_=>by simp[cmpL,Op.bytesLess]
 |_::_,[]=>by simp[cmpL,Op.bytesLess]
 |a::l,b::r=>by
  have ih:=Hl l r
  unfold cmpL Op.bytesLess
  by_cases h:a=b
  ·subst h;simp[ih.1,ih.2]
  ·by_cases h2:a<b
   ·simp[h,h2]
   ·have:b<a:=by
     rcases Nat.lt_trichotomy a.toNat b.toNat with h3|h3|h3
     ·exact absurd (UInt8.lt_iff_toNat_lt.2 h3) h2
     ·exact absurd (UInt8.toNat_inj.1 h3) h
     ·exact UInt8.lt_iff_toNat_lt.2 h3
    simp[h,h2,this]
theorem O9 (p:Nat->Bool) (n:Nat):(List.range (n+1)).find? p=if p 0=true then some 0 else((List.range n).find? λi=>p (i+1)).map (·+1):=by
 rw[List.range_succ_eq_map,List.find?_cons]
 cases h:p 0 with
 |true=>simp
 |false=>simp[List.find?_map];rfl
theorem Hm:∀l r:List UInt8,(match(List.range (min l.length r.length)).find? λi=>l.getD i 0 != r.getD i 0 with
 |some i=>if l.getD i 0<r.getD i 0 then(-1:Int)else 1
 |none=>if l.length<r.length then-1 else if l.length>r.length then 1 else 0)=cmpL l r
 |[],[]=>by simp[cmpL]
 |[],_::_=>by simp[cmpL]
 |_::_,[]=>by simp[cmpL]
 |a::l,b::r=>by
  have ih:=Hm l r
  have e:min (a::l).length (b::r).length=min l.length r.length+1:=by simp only[List.length_cons];omega
  rw[e,O9]
  unfold cmpL
  by_cases h:a=b
  ·subst h
   simp only[List.getD_cons_zero,bne_self_eq_false,Bool.false_eq_true,if_false,List.getD_cons_succ,if_true]
   rw[<-ih]
   cases(List.range (min l.length r.length)).find? λi=>l.getD i 0 != r.getD i 0 with
   |none=>simp
   |some i=>simp
  ·simp[h]
theorem Xa (l r:List UInt8) (w:World):(Extern.BytealgCompare.compare #[.string (a7 l),.string (a7 r)]).run P w= .ok (.int .i64 (cmpL l r)) w:=by
 have hg:∀(x:List UInt8) (i:Nat),i<x.length->(a7 x)[i]! =x.getD i 0:=λx i hi=>by
  have:i<(a7 x).size:=by rw[k6];exact hi
  rw[getElem!_pos (a7 x) i this]
  simp only[List.getD,List.getElem?_eq_getElem hi,Option.getD_some]
  rfl
 have e:Extern.BytealgCompare.cmp (a7 l) (a7 r)=cmpL l r:=by
  rw[<-Hm]
  unfold Extern.BytealgCompare.cmp
  rw[k6,k6]
  have hf:((List.range (min l.length r.length)).find? λi=>(a7 l)[i]! != (a7 r)[i]!)=(List.range (min l.length r.length)).find? λi=>l.getD i 0 != r.getD i 0:=find_congr λi hi=>by
   have hi:=List.mem_range.1 hi
   rw[hg l i (by omega),hg r i (by omega)]
  rw[hf]
  cases al:(List.range (min l.length r.length)).find? λi=>l.getD i 0 != r.getD i 0 with
  |none=>rfl
  |some i=>
   have hi:=List.mem_range.1 (List.mem_of_find?_eq_some al)
   simp only[hg l i (by omega),hg r i (by omega)]
 have hd:Extern.BytealgCompare.compare #[.string (a7 l),.string (a7 r)]=(Pure.pure (goInt (Extern.BytealgCompare.cmp (a7 l) (a7 r))):Sem Value):=rfl
 rw[hd,e];rfl
theorem Ot {f:FuncId} {fn:Func} {id:Nat} {wb:World} (hf:P.funcs[f]?=some fn) (CU:(fn.name== "runtime.NumGoroutine")=false) (hb:fn.body.isNone=true) (hn:Extern.findNext fn=none) (he:Extern.find fn=some Extern.BytealgCompare.compare):
 (⟨f,id,[.str,.str],[.int .i64 (-1) 1]⟩:cC).o8 P wb λzs rs=>rs=[cmpL (ab (zs.getD 0 0)) (ab (zs.getD 1 0))]:=by
 intro zs hz
 match zs,hz with
 |[s,c],hz=>
  have hr:=BA (ab s) (ab c)
  refine⟨[cmpL (ab s) (ab c)],(show bI [((-1:Int),1)] _ from⟨hr.1,hr.2,trivial⟩),rfl,λw _=> .inl ?_⟩
  rw[run_callFunc_extern hf CU hb hn he]
  have:=Xa (P:=P) (ab s) (ab c) w
  show((Extern.BytealgCompare.compare #[.string (a7 (ab s)),.string (a7 (ab c))]).run P w).andThen _=_
  rw[this];rfl
 |[],h=>exact h.elim
 |[_],h=>exact(h.2.2).elim
 |_::_::_::_,h=>exact(h.2.2.2.2).elim
end
end Go.bo
namespace Go.bo
section
variable {S:Nat->List Int->List Int->Prop} {P:Program} {gl:dt} {wb:World}
def fw (args res:List D) (spec:List Int->List Int->Prop):Prop:=∀zs rs kr,bI (dD args) zs->bI (dD res) rs->bI (dD res) kr->spec zs rs->spec zs kr->gn res rs=gn res kr
theorem cC.UD {c:cC} {bd:ey} {li:FuncId->Nat->Option c0} {rounds d:Nat} {spec:List Int->List Int->Prop} (hm:P.follows .mixedOrders=true) (cN:∀r ex ro,gD S P gl ⟨wb,r,ex,ro,[]⟩ bd) (hg:fv gl ⟨wb,wb,λ_=>False,λ_=>False,[]⟩)
 (hf:∀args w,(callFunc c.f args).run P w= .ok (.enter c.f args) w) (hu:fw c.args c.res spec)
 (ht:m7 (dD c.args) λzs=>(c.tree P gl bd li rounds d).holds S (qC c.res λrs=>bI (dD c.res) rs/\spec zs rs) (λ_ _=>False) (bP (λ_=>0) 0 zs)):c.Ok P wb spec:=by
 refine⟨hf,λzs hz=>?_⟩
 have h0:=cC.calls hm cN hg hz (nY ht hz) wb (World.Extends.refl wb)
 obtain⟨e,w',v,ag,m,val,h1,h2,h3,h4⟩:=Calls.some h0
 obtain⟨rs,⟨hb,hs⟩,hv⟩:=Gy h3 h2
 refine⟨rs,hb,hs,λw hw=>?_⟩
 refine(cC.calls hm cN hg hz (nY ht hz) w hw).mono λe w' ⟨v,ag,m,val,h1,h2,h3,h4⟩=>?_
 obtain⟨kr,⟨hb',RS⟩,hv'⟩:=Gy h3 h2
 rw[hu zs kr rs hz hb' hb RS hs]at hv'
 exact⟨by rw[h1,hv'],h4⟩
end
theorem E5 {α:Type}:∀(ix:List Nat) (l:List α),(eW ix l).flatten=l
 |[],[]=>rfl
 |[],_::_=>by simp[eW]
 |k::ix,l=>by simp only[eW,List.flatten_cons,E5 ix,List.take_append_drop]
section
variable {P:Program} {gl:dt} {wb:World} {sh:Nat->List Nat×List Nat} {SB:Nat->List (List Int)->List (List Int)->Prop}
def b6 (SB:Nat->List (List Int)->List (List Int)->Prop) (res:List D) (id:Nat):List (List Int)->List (List Int)->Prop:=λzs rs=>bI (dD res) rs.flatten/\SB id zs rs
theorem Zo {dx:Nat->List Nat} {id:Nat} {lens:List Nat} {bds:List (Int×Int)} {ds:List D} {t:T} (hl:lens=(sh id).1) (hd:p7 ds=(sh id).2) (h:u9 sh dx SB (b6 SB ds id) lens bds ds t):
 m7 bds λzs=>t.holds (dp sh SB) (qC ds λrs=>bI (dD ds) rs/\dp sh SB id zs rs) (λ_ _=>False) (bP (λ_=>0) 0 zs):=by
 refine qH λzs hz=>?_
 have h:=nY (Nt h) hz
 simp only[b6,E5]at h
 rw[hl,hd]at h
 exact h
theorem Vr {c:cC} {bd:ey} {li:FuncId->Nat->Option c0} {rounds d:Nat} {dx:Nat->List Nat} {lens:List Nat} (hm:P.follows .mixedOrders=true) (cN:∀r ex ro,gD (dp sh SB) P gl ⟨wb,r,ex,ro,[]⟩ bd) (hg:fv gl ⟨wb,wb,λ_=>False,λ_=>False,[]⟩)
 (hf:ti P c.f=true) (hu:fw c.args c.res (dp sh SB c.id)) (hl:lens=(sh c.id).1) (hd:p7 c.res=(sh c.id).2)
 (hv:u9 sh dx SB (b6 SB c.res c.id) lens (dD c.args) c.res (c.tree P gl bd li rounds d)):c.Ok P wb (dp sh SB c.id):=
 cC.UD hm cN hg (enters hf) hu (Zo hl hd hv)
end
end Go.bo
namespace Go.bo
open Go.ChangeShapes Go.WideShapes Go.RowKit
variable {H:Type} {enc:TypeId×Value->H} {P:Program}
def uL (g:TypeId->Option (List az)) (cells:TypeId->Nat):List Field->Nat->Option (List az)
 |[],_=>some []
 |f::r,o=>match g f.type,uL g cells r (o+cells f.type)with
  |some l,some m=>cond (Nat.beq f.offset o&&Nat.beq (cells f.type) l.length) (some (l++m)) none
  |_,_=>none
def Fe (l:List az):Option (List az):=cond (hZ l (fL 0)) (some [.sub 0]) (cond (hZ l (fL 1)) (some [.sub 1]) none)
theorem X0 {l sh:List az} (h:Fe l=some sh):∃k,l=fL k/\sh=[.sub k]:=by
 unfold Fe at h
 cases h0:hZ l (fL 0)with
 |true=>
  rw[h0]at h
  simp only[cond_true,Option.some.injEq]at h
  exact⟨0,mU h0,h.symm⟩
 |false=>
  cases h1:hZ l (fL 1)with
  |true=>
   rw[h0,h1]at h
   simp only[cond_true,cond_false,Option.some.injEq]at h
   exact⟨1,mU h1,h.symm⟩
  |false=>rw[h0,h1]at h;cases h
def mV (P:Program):Nat->TypeId->Option (List az)
 |0,_=>none
 |d+1,t=>match P.underlying t with
  |some (.int k)=>some [.int k k.min k.max]
  |some .string=>some [.str]
  |some .bool=>some [.bool]
  |some (.struct cJ)=>uL (mV P d) P.cellsOf cJ.toList 0
  |some (.array n e)=>match mV P d e with
   |some l=>cond (Nat.beq (P.cellsOf e) l.length) (some (List.replicate n l).flatten) none
   |none=>none
  |some (.slice e)=>match mV P d e with
   |some l=>cond (Nat.beq (P.cellsOf e) l.length&&Nat.blt 0 (P.bytesOf e)) (Fe l) none
   |none=>none
  |_=>none
theorem bn.append:∀{a b:List az} {x y:List Int},bn a x->bn b y->bn (a++b) (x++y)/\cz (a++b) (x++y)=cz a x++cz b y
 |[],_,[],_,_,h=>⟨h,rfl⟩
 |_::_,_,_::_,_,h,h'=>by
  have:=bn.append h.2 h'
  exact⟨⟨h.1,this.1⟩,by simp only[List.cons_append,cz,this.2]⟩
 |[],_,_::_,_,h,_=>h.elim
 |_::_,_,[],_,h,_=>h.elim
theorem EG {F:Nat->Prop} {w:World}:∀{a b:List az} {x y:List Int} {u v:List Value},dB F w a x u->dB F w b y v->dB F w (a++b) (x++y) (u++v)
 |[],_,[],_,[],_,_,h=>h
 |_::_,_,_::_,_,_::_,_,h,h'=>⟨h.1,EG h.2 h'⟩
 |[],_,_::_,_,_,_,h,_=>h.elim
 |[],_,[],_,_::_,_,h,_=>h.elim
 |_::_,_,[],_,_,_,h,_=>h.elim
 |_::_,_,_::_,_,[],_,h,_=>h.elim
def xM (enc:TypeId×Value->H) (P:Program) (w:World) (t:TypeId) (sh:List az):Prop:=
 ∀(n:Nat) (cs:List Value) (x:DataW H×List MemPlace),DataW.trod enc P w 0 (λ_=>true) true n t cs=some x->cs.length=sh.length->(∀m∈x.1.weights P t,m<=reachBytes)->
  ∃zs,bn sh zs/\dB (λg=>g<w.heap.size) w sh zs cs
theorem K3 {n:Nat} {w:World} {g:TypeId->Option (List az)} (hg:∀t sh,g t=some sh->xM enc P w t sh) {cs:List Value}:∀(cJ:List Field) (o:Nat) (sh:List az) (xs:List (DataW H×List MemPlace)),uL g P.cellsOf cJ o=some sh->cs.length=o+sh.length->xs.length=cJ.length->
 (∀(j:Nat) (f:Field),cJ[j]?=some f->DataW.trod enc P w 0 (λ_=>true) true n f.type ((cs.drop f.offset).take (P.cellsOf f.type))=xs[j]?)->
 (∀m∈DataW.weightsEach P (cJ.map (·.type)) (xs.map (·.1)),m<=reachBytes)->
 ∃zs,bn sh zs/\dB (λg=>g<w.heap.size) w sh zs (cs.drop o)
 |[],o,sh,xs,h,hl,hx,_,_=>by
  simp only[uL,Option.some.injEq]at h
  subst h
  have:xs=[]:=List.length_eq_zero_iff.1 (by simpa using hx)
  subst this
  exact⟨[],trivial,by rw[List.drop_of_length_le (by simp at hl;omega)];trivial⟩
 |f::cJ,o,sh,[],_,_,hx,_,_=>by simp at hx
 |f::cJ,o,sh,x::xs,h,hl,hx,hf,hw=>by
  unfold uL at h
  cases h1:g f.type with
  |none=>simp[h1]at h
  |some l=>
   cases h2:uL g P.cellsOf cJ (o+P.cellsOf f.type)with
   |none=>simp[h1,h2]at h
   |some m=>
    simp only[h1,h2]at h
    cases hc:(Nat.beq f.offset o&&Nat.beq (P.cellsOf f.type) l.length)with
    |false=>simp[hc]at h
    |true=>
     simp only[hc,cond_true,Option.some.injEq]at h
     subst h
     simp only[Bool.and_eq_true]at hc
     have e1:=Nat.eq_of_beq_eq_true hc.1
     have e2:=Nat.eq_of_beq_eq_true hc.2
     have h0:=hf 0 f rfl
     simp only[List.getElem?_cons_zero]at h0
     simp only[List.map_cons,DataW.weightsEach,List.mem_append]at hw
     simp only[List.length_append]at hl
     obtain⟨zs,a1,a2⟩:=hg f.type l h1 n ((cs.drop f.offset).take (P.cellsOf f.type)) x h0 (by rw[List.length_take,List.length_drop,e1,e2];omega) λm' hm=>hw m' (.inl hm)
     obtain⟨eu,b1,b2⟩:=K3 (cs:=cs) hg cJ (o+P.cellsOf f.type) m xs h2 (by omega) (by simpa using hx) (λj lN hj=>by simpa using hf (j+1) lN (by simpa using hj)) λm' hm=>hw m' (.inr hm)
     have jb:=bn.append a1 b1
     refine⟨zs++eu,jb.1,?_⟩
     have:=EG a2 b2
     rwa [e1,<-List.drop_drop,List.take_append_drop]at this
theorem K2 {n:Nat} {w:World} {e:TypeId} {l:List az} (hg:xM enc P w e l) (hc:P.cellsOf e=l.length) {cs:List Value}:∀(k i:Nat) (xs:List (DataW H×List MemPlace)),cs.length=(i+k)*l.length->xs.length=k->
 (∀j,j<k->DataW.trod enc P w 0 (λ_=>true) true n e ((cs.drop ((i+j)*P.cellsOf e)).take (P.cellsOf e))=xs[j]?)->
 (∀m∈DataW.weightsAll P e (xs.map (·.1)),m<=reachBytes)->
 ∃zs,bn (List.replicate k l).flatten zs/\dB (λg=>g<w.heap.size) w (List.replicate k l).flatten zs (cs.drop (i*l.length))
 |0,i,xs,hl,hx,_,_=>by
  have:xs=[]:=List.length_eq_zero_iff.1 hx
  subst this
  exact⟨[],trivial,by rw[List.drop_of_length_le (by rw[hl];exact Nat.le_refl _)];trivial⟩
 |k+1,i,[],_,hx,_,_=>by simp at hx
 |k+1,i,x::xs,hl,hx,hf,hw=>by
  have h0:=hf 0 (Nat.succ_pos k)
  simp only[List.getElem?_cons_zero,Nat.add_zero]at h0
  simp only[List.map_cons,DataW.weightsAll,List.mem_append]at hw
  have hl2:cs.length=i*l.length+(l.length+k*l.length):=by rw[hl,Nat.add_mul,Nat.succ_mul];omega
  obtain⟨zs,a1,a2⟩:=hg n _ x h0 (by rw[List.length_take,List.length_drop,hc];omega) λm' hm=>hw m' (.inl hm)
  obtain⟨eu,b1,b2⟩:=K2 hg hc k (i+1) xs (by rw[hl];congr 1;omega) (by simpa using hx) (λj hj=>by
   have:=hf (j+1) (by omega)
   rw[show i+(j+1)=i+1+j by omega]at this
   simpa using this) λm' hm=>hw m' (.inr hm)
  have jb:=bn.append a1 b1
  refine⟨zs++eu,by rw[List.replicate_succ,List.flatten_cons];exact jb.1,?_⟩
  have:=EG a2 b2
  rw[hc,Nat.succ_mul,<-List.drop_drop,List.take_append_drop]at this
  rw[List.replicate_succ,List.flatten_cons];exact this
theorem Hi {base:Nat} {w:World} {a:Addr} {n:Nat} {cs:List Value} (h:w.cells? base a n=some cs):cs.length=n/\∀j,j<n->w.cell? (a.add j)=cs[j]?:=by
 unfold World.cells? at h
 split at h
 ·have hl:=List.Kn h
  refine⟨by simpa using hl,λj hj=>?_⟩
  have:=List.Il h j j (by simp[hj])
  exact this
 ·cases h
where
 List.Kn {α β:Type} {f:α->Option β}:∀{l:List α} {r:List β},l.mapM f=some r->r.length=l.length
  |[],r,h=>by simp at h;subst h;rfl
  |x::l,r,h=>by
   rw[List.mapM_cons]at h
   cases hx:f x with
   |none=>simp[hx]at h
   |some y=>
    cases hl:l.mapM f with
    |none=>simp[hx,hl]at h
    |some s=>
     simp[hx,hl]at h
     subst h
     simp[List.Kn hl]
 List.Il {α β:Type} {f:α->Option β}:∀{l:List α} {r:List β},l.mapM f=some r->∀(j:Nat) (x:α),l[j]?=some x->f x=r[j]?
  |[],r,h,j,x,hx=>by simp at hx
  |y::l,r,h,j,x,hx=>by
   rw[List.mapM_cons]at h
   cases hy:f y with
   |none=>simp[hy]at h
   |some z=>
    cases hl:l.mapM f with
    |none=>simp[hy,hl]at h
    |some s=>
     simp[hy,hl]at h
     subst h
     cases j with
     |zero=>simp at hx;subst hx;simp[hy]
     |succ j=>simpa using List.Il hl j x (by simpa using hx)
theorem LP {F:Nat->Prop} {w:World} {cells:Array Value} {sh:List az}:∀(len o:Nat),o<=cells.size->(∀i,i<len->∃zs vs,bn sh zs/\dB F w sh zs vs/\∀j,j<sh.length->cells[o+i*sh.length+j]?=vs[j]?)->(0<len->0<sh.length)->
 ∃rows:List (List Int),rows.length=len/\fZ F w cells o sh rows
 |0,o,ho,_,_=>⟨[],rfl,λ_ h=>by simp at h,cells.toList.take o,[],cells.toList.drop o,by simp,by simp;omega,rfl⟩
 |len+1,o,ho,h,hp=>by
  obtain⟨zs,us,a1,a0,a2⟩:=h 0 (Nat.succ_pos _)
  have hp:=hp (Nat.succ_pos _)
  have hv:=a0.len
  have Ri:=a2 (sh.length-1) (by omega)
  have hsz:o+sh.length<=cells.size:=by
   have:us[sh.length-1]?≠none:=by rw[List.getElem?_eq_getElem (by omega)];simp
   rw[<-Ri]at this
   have:=Array.Pl.1 this
   omega
  obtain⟨rows,b1,b2,pre,vs,post,b3,b4,qM⟩:=LP len (o+sh.length) hsz (λi hi=>by
   obtain⟨eu,vs,c1,bY,aU⟩:=h (i+1) (by omega)
   refine⟨eu,vs,c1,bY,λj hj=>?_⟩
   rw[<-aU j hj]
   congr 1
   rw[Nat.succ_mul];omega) λ_=>hp
  refine⟨zs::rows,by simp[b1],λrow hr=>?_,cells.toList.take o,us++vs,post,?_,by simp;omega,us,vs,rfl,a0,qM⟩
  ·rcases List.mem_cons.1 hr with rfl|hr
   ·exact a1
   ·exact b2 row hr
  ·have e1:pre=cells.toList.take (o+sh.length):=by
    rw[b3,List.append_assoc,List.take_left' b4]
   have e2:pre=cells.toList.take o++us:=by
    rw[e1,List.take_add]
    congr 1
    refine List.ext_getElem? λj=>?_
    by_cases hj:j<sh.length
    ·have:=a2 j hj
     rw[List.getElem?_take,if_pos hj,List.getElem?_drop,<-this]
     simp
    ·rw[List.getElem?_eq_none (by simp;omega),List.getElem?_eq_none (by omega)]
   rw[<-List.append_assoc,<-e2];exact b3
where
 Array.Pl {α:Type} {a:Array α} {i:Nat}:a[i]?≠none↔i<a.size:=by simp
theorem KC {e:TypeId}:∀{l:List (DataW H×List MemPlace)} {i:Nat} {y:DataW H×List MemPlace} {m:Nat},l[i]?=some y->m∈y.1.weights P e->m∈DataW.weightsAll P e (l.map (·.1))
 |x::l,0,y,m,h,hm=>by
  simp only[List.getElem?_cons_zero,Option.some.injEq]at h
  subst h
  simp only[List.map_cons,DataW.weightsAll,List.mem_append]
  exact .inl hm
 |x::l,i+1,y,m,h,hm=>by
  simp only[List.map_cons,DataW.weightsAll,List.mem_append]
  exact .inr (KC (by simpa using h) hm)
 |[],_,_,_,h,_=>by simp at h
theorem K4 {w:World} {t e:TypeId} {sh:List az} (ho:xM enc P w e sh) (ht:P.underlying t=some (.slice e)) (hc:P.cellsOf e=sh.length) (hp:0<sh.length) {n:Nat} {cs:List Value} {x:DataW H×List MemPlace} (h:DataW.trod enc P w 0 (λ_=>true) true n t cs=some x) (hw:∀m∈x.1.weights P t,m<=reachBytes):
 ∃(v:Value) (rows:List (List Int)),cs=[v]/\(∀row∈rows,bn sh row)/\(rows.length<=maxLen/\(0<P.bytesOf e->rows.length<=140737488351232))/\(((∃p,v= .slice p 0 0)/\rows=[])∨∃(g o cap:Nat) (cells:Array Value) (t:TypeId) (fz:Nat×Nat),v= .slice (some ⟨g,o,none⟩) rows.length cap/\(rows.length<=cap/\(cap:Int)<=9223372036854775807)/\g<w.heap.size/\w.heap[g]?=some (.cells cells t fz)/\fZ (λg=>g<w.heap.size) w cells o sh rows):=by
 rcases DataW.trod_slice ht h with⟨rfl,_⟩|⟨xR,len,cap,elems,rest,n,rfl,rfl,hx,_,Rj,lp,yT,I8,lU,_⟩
 ·exact⟨_,[],rfl,λ_ h=>by simp at h,⟨Nat.zero_le _,λ_=>Nat.zero_le _⟩,.inl ⟨⟨_,rfl⟩,rfl⟩⟩
 ·rcases Nat.eq_zero_or_pos cap with h0|h0
  ·subst h0
   have:len=0:=by omega
   subst this
   exact⟨_,[],rfl,λ_ h=>by simp at h,⟨Nat.zero_le _,λ_=>Nat.zero_le _⟩,.inl ⟨⟨_,rfl⟩,rfl⟩⟩
  ·have lU:=(lU rfl).2
   have CC:∃cs,w.cells? 0 (xR.add 0) (P.cellsOf e)=some cs:=by
    rcases Nat.eq_zero_or_pos len with hl|hl
    ·have h1:=(DataW.trod_slice ht h)
     have h2:=lU 0 (by omega)
     cases hy:rest[0]? with
     |none=>
      exfalso
      rcases h1 with⟨h1,_⟩|⟨ZP,iM,cW,ZV,aaG,n',_,h3,h4,_,_,_,h5,_,h6,_⟩
      ·simp at h1
      ·simp only[List.cons.injEq,Value.slice.injEq,Option.some.injEq,and_true]at h3
       rw[hx]at h4
       simp only[Prod.mk.injEq,DataW.slice.injEq]at h4
       have h7:=congrArg List.length h4.1.2
       simp only[List.length_map]at h7
       have bw:=(h6 rfl).1
       rw[List.getElem?_eq_none_iff]at hy
       omega
     |some y=>
      rw[hy,Option.bind_eq_some_iff,hl]at h2
      obtain⟨cs,g1,_⟩:=h2
      exact⟨cs,by simpa using g1⟩
    ·have h2:=I8 0 hl
     cases hy:elems[0]? with
     |none=>rw[List.getElem?_eq_none_iff]at hy;omega
     |some y=>
      rw[hy,Option.bind_eq_some_iff]at h2
      obtain⟨cs,g1,_⟩:=h2
      exact⟨cs,by simpa using g1⟩
   obtain⟨OD,CC⟩:=CC
   obtain⟨l1,l2⟩:=Hi CC
   have hc0:=l2 0 (by omega)
   have hc1:OD[0]?≠none:=by rw[List.getElem?_eq_getElem (by omega)];simp
   rw[<-hc0]at hc1
   have Qh:(xR.add 0).add 0=xR:=by simp[Addr.add]
   rw[Qh]at hc1
   obtain⟨g,o,sp⟩:=xR
   unfold World.cell? at hc1
   split at hc1
   ·rename_i cells tt fz nm
    simp only at nm
    cases JD:sp with
    |some k=>rw[JD]at hc1;exact absurd rfl hc1
    |none=>
    subst JD
    simp only[Option.isSome_none,Bool.false_eq_true,if_false]at hc1
    have jg:o<cells.size:=by
     rcases Nat.lt_or_ge o cells.size with h|h
     ·exact h
     ·exact absurd (Array.getElem?_eq_none h) hc1
    rw[hx]at hw
    simp only[DataW.weights,ht,List.mem_cons,List.mem_append]at hw
    obtain⟨rows,r1,r2⟩:=LP (F:=λg=>g<w.heap.size) (w:=w) (cells:=cells) (sh:=sh) len o (by omega) (λi hi=>by
     have:=I8 i hi
     cases hy:elems[i]? with
     |none=>rw[List.getElem?_eq_none_iff]at hy;omega
     |some y=>
      rw[hy,Option.bind_eq_some_iff]at this
      obtain⟨cs,g1,g2⟩:=this
      obtain⟨l1,l2⟩:=Hi g1
      obtain⟨zs,af,z2⟩:=ho n cs y g2 (by rw[l1,hc]) λm hm=>by
       refine hw m (.inr (.inl ?_))
       exact KC hy hm
      refine⟨zs,cs,af,z2,λj hj=>?_⟩
      have:=l2 j (by rw[hc];exact hj)
      rw[eZ,eZ]at this
      simp only[World.cell?,nm,Option.isSome_none,Bool.false_eq_true,if_false]at this
      rw[<-this,hc]) λ_=>hp
    have bW:(cap:Int)<=9223372036854775807:=by unfold maxLen at lp;omega
    have Df:(elems.length+rest.length)*P.bytesOf e<=reachBytes:=hw _ (.inl (by simp))
    refine⟨_,rows,rfl,r2.1,⟨by omega,λhb=>?_⟩,.inr ⟨g,o,cap,cells,tt,fz,by rw[r1],by rw[r1];exact⟨Rj,bW⟩,(Array.getElem?_eq_some_iff.1 nm).1,nm,r2⟩⟩
    have bw:(elems.length+rest.length)*1<=(elems.length+rest.length)*P.bytesOf e:=Nat.mul_le_mul_left _ hb
    unfold reachBytes at Df
    omega
   ·exact absurd rfl hc1
theorem zE {w:World}:∀(d:Nat) (t:TypeId) (sh:List az),mV P d t=some sh->xM enc P w t sh
 |0,t,sh,h=>by simp[mV]at h
 |d+1,t,sh,h=>by
  have ih:=zE (w:=w) d
  intro n cs x hx hl hw
  unfold mV at h
  split at h
  ·rename_i k hu
   simp only[Option.some.injEq]at h
   subst h
   obtain⟨z,rfl,rfl,De⟩:=DataW.trod_int hu hx
   have:=MJ.1 De
   exact⟨[z],⟨this,trivial⟩,rfl,trivial⟩
  ·rename_i hu
   simp only[Option.some.injEq]at h
   subst h
   obtain⟨s,rfl,rfl,hs⟩:=DataW.trod_string hu hx
   have hb:s.data.toList.length<=fs:=hw _ (by simp[DataW.weights])
   refine⟨[eI s.data.toList],⟨⟨lL _,kY hb⟩,trivial⟩,?_,trivial⟩
   show _=az.val .str _
   simp[az.val,gT,a7]
  ·rename_i hu
   simp only[Option.some.injEq]at h
   subst h
   obtain⟨b,rfl,rfl⟩:=DataW.trod_bool hu hx
   refine⟨[cond b 1 0],⟨?_,trivial⟩,?_,trivial⟩
   ·cases b<;>simp[az.c3]
   ·show _=az.val .bool _
    cases b<;>simp[az.val]
  ·rename_i cJ hu
   obtain⟨xs,m,rfl,rfl,hlen,hn,yT⟩:=DataW.trod_struct hu hx
   simp only[DataW.weights,hu]at hw
   obtain⟨zs,a1,a2⟩:=K3 (n:=m) ih cJ.toList 0 sh xs h (by omega) (by rw[hn];simp) (λj f hj=>yT j f (by simpa using hj)) hw
   exact⟨zs,a1,by simpa using a2⟩
  ·rename_i k e hu
   cases h1:mV P d e with
   |none=>simp[h1]at h
   |some l=>
    simp only[h1]at h
    cases hc:Nat.beq (P.cellsOf e) l.length with
    |false=>simp[hc]at h
    |true=>
     simp only[hc,cond_true,Option.some.injEq]at h
     subst h
     have hc:=Nat.eq_of_beq_eq_true hc
     obtain⟨xs,m,rfl,rfl,hlen,hn,yT⟩:=DataW.trod_array hu hx
     simp only[DataW.weights,hu]at hw
     have fp:(List.replicate k l).flatten.length=k*l.length:=by simp
     obtain⟨zs,a1,a2⟩:=K2 (n:=m) (ih e l h1) hc k 0 xs (by rw[hl,fp];simp) hn (λj hj=>by
      have:=yT j hj
      simpa using this) hw
     exact⟨zs,a1,by simpa using a2⟩
  ·rename_i e hu
   cases h1:mV P d e with
   |none=>simp[h1]at h
   |some l=>
    simp only[h1]at h
    cases hc:(Nat.beq (P.cellsOf e) l.length&&Nat.blt 0 (P.bytesOf e))with
    |false=>rw[hc]at h;cases h
    |true=>
     rw[hc]at h
     simp only[cond_true]at h
     simp only[Bool.and_eq_true,Nat.blt_eq]at hc
     obtain⟨k,rfl,rfl⟩:=X0 h
     obtain⟨v,rows,rfl,r1,⟨r2,WD⟩,eR⟩:=K4 (ih e _ h1) hu (Nat.eq_of_beq_eq_true hc.1) (by cases k<;>exact Nat.one_pos) hx hw
     have Jx:(rows.length:Int)<=9223372036854775807:=by unfold maxLen at r2;omega
     refine⟨[rc rows],⟨⟨dk _,AW Jx r1⟩,trivial⟩,?_,trivial⟩
     show j5 _ _ _ (ae (rc rows)) v
     rw[dP]
     rcases eR with eR|⟨g,o,cap,cells,t,fz,q1,q2,q3,q4,q5⟩
     ·exact .inl eR
     ·exact .inr ⟨g,o,cap,cells,t,fz,q1,⟨q2.1,q2.2,WD hc.2⟩,q3,q4,(jr (Ff k)).1 q5⟩
  ·cases h
def uY (P:Program) (t:TypeId):bN->Prop
 | .d (.int k lo hi)=>P.underlying t=some (.int k)/\lo=k.min/\hi=k.max
 | .d .bool=>P.underlying t=some .bool
 | .d .str=>P.underlying t=some .string
 | .d (.agg k n lo hi)=>∃e,P.underlying t=some (.array n e)/\mV P 8 t=some (List.replicate n (.int k lo hi))/\P.cellsOf t=n
 | .d (.mix l)=>((∃cJ,P.underlying t=some (.struct cJ))∨∃n e,P.underlying t=some (.array n e))/\mV P 8 t=some l/\P.cellsOf t=l.length/\fJ l=true
 | .d (.jl _)=>False
 | .d (.mM ..)=>False
 | .rd sh=>∃e,P.underlying t=some (.slice e)/\mV P 8 e=some sh/\P.cellsOf e=sh.length/\gy sh=true
 | .iP _ _=>False
theorem bn.bI:∀{sh:List az} {zs:List Int},bn sh zs->bI (sh.map az.c3) zs
 |[],[],_=>trivial
 |_::_,_::_,h=>⟨h.1.1,h.1.2,bn.bI h.2⟩
 |[],_::_,h=>h.elim
 |_::_,[],h=>h.elim
theorem LL:∀(sh:List az) (zs:List Int),cz sh zs=List.zipWith az.val sh zs
 |[],_=>by simp[cz]
 |_::_,[]=>by simp[cz]
 |c::sh,z::zs=>by simp only[cz,List.zipWith_cons_cons,LL sh zs]
theorem LK (k:IntKind) (lo hi:Int):∀(n:Nat) (zs:List Int),zs.length=n->cz (List.replicate n (.int k lo hi)) zs=zs.map (Value.int k)
 |0,[],_=>rfl
 |n+1,z::zs,h=>by
  rw[List.replicate_succ]
  simp only[cz,List.map_cons,LK k lo hi n zs (by simpa using h)]
  rfl
 |0,_::_,h=>by simp at h
 |n+1,[],h=>by simp at h
theorem KA (k:IntKind) (lo hi:Int):∀n:Nat,(List.replicate n (az.int k lo hi)).map az.c3=oV lo hi n
 |0=>rfl
 |n+1=>by rw[List.replicate_succ,List.map_cons,KA k lo hi n];rfl
theorem Vz {b0:Nat} {w:World} {t:TypeId} {b:bN} {v:Value} {x:DataW H} {jG:List MemPlace} (ht:uY P t b) (hval:Value.okWide P w .any b0 t v) (hd:DataW.Trod enc P w 0 (λ_=>true) true t v x jG) (hw:∀m∈x.weights P t,m<=reachBytes):
 ∃zs,bI b.bds zs/\zs.length=b.num/\b.at (λg=>g<w.heap.size) (λ_=>False) w zs v:=by
 obtain⟨fuel,hf⟩:=hd
 have agg:((∃cJ,P.underlying t=some (.struct cJ))∨∃n e,P.underlying t=some (.array n e))->∃cs,v= .agg cs/\cs.size=P.cellsOf t:=λh=>by
  unfold Value.okWide at hval
  rcases h with⟨cJ,h⟩|⟨n,e,h⟩
  ·rw[h]at hval;obtain⟨cs,a,b,_⟩:=hval;exact⟨cs,a,b⟩
  ·rw[h]at hval;obtain⟨cs,a,b,_⟩:=hval;exact⟨cs,a,b⟩
 cases b with
 |iP _ _=>exact ht.elim
 |d y=>
  cases y with
  |jl l=>exact ht.elim
  |mM k c=>exact ht.elim
  |int k lo hi=>
   obtain⟨h1,rfl,rfl⟩:=ht
   obtain⟨n,rfl⟩:=okWide_int h1 hval
   obtain⟨n',h,hx,De⟩:=DataW.trod_int h1 hf
   simp[Value.cells]at h
   subst h
   have:=MJ.1 De
   exact⟨[n],⟨this.1,this.2,trivial⟩,rfl,rfl⟩
  |bool=>
   obtain⟨c,rfl⟩:=okWide_bool ht hval
   refine⟨[cond c 1 0],?_,rfl,?_⟩
   ·cases c<;>simp[bN.bds,D.bds,bI]
   ·cases c<;>simp[bN.at,D.val]
  |str=>
   obtain⟨s,rfl⟩:=okWide_string ht hval
   obtain⟨Xi,h,hx,hs⟩:=DataW.trod_string ht hf
   simp[Value.cells]at h
   subst h
   simp only[Prod.mk.injEq]at hx
   have hb:s.data.toList.length<=fs:=hw _ (by rw[hx.1];simp[DataW.weights])
   exact⟨[eI s.data.toList],⟨lL _,kY hb,trivial⟩,rfl,by simp[bN.at,D.val,gT,a7]⟩
  |agg k n lo hi=>
   obtain⟨e,h1,h2,h3⟩:=ht
   obtain⟨cs,rfl,hsz⟩:=agg (.inr ⟨n,e,h1⟩)
   obtain⟨zs,a1,a2⟩:=zE 8 t _ h2 fuel _ _ hf (by show cs.toList.length=_;simp[hsz,h3]) hw
   have a2:=(xk (by simp[fJ,az.plain]) a1).1 a2
   have hl:zs.length=n:=by have:=a1.len;simpa using this
   have hcs:cs=(cz (List.replicate n (.int k lo hi)) zs).toArray:=by rw[<-a2];simp[Value.cells]
   refine⟨zs,?_,hl,?_⟩
   ·have:=a1.bI;rw[KA]at this;exact this
   ·show Value.agg cs=_
    rw[hcs,LK k lo hi n zs hl]
    simp only[D.val,<-hl,List.take_length]
  |mix l=>
   obtain⟨h1,h2,h3,h4⟩:=ht
   obtain⟨cs,rfl,hsz⟩:=agg h1
   obtain⟨zs,a1,a2⟩:=zE 8 t _ h2 fuel _ _ hf (by show cs.toList.length=_;simp[hsz,h3]) hw
   have a2:=(xk h4 a1).1 a2
   have hl:zs.length=l.length:=a1.len
   have hcs:cs=(cz l zs).toArray:=by rw[<-a2];simp[Value.cells]
   refine⟨zs,a1.bI,hl,?_⟩
   show Value.agg cs=_
   rw[hcs,LL];rfl
 |rd sh=>
  obtain⟨e,h1,h2,h3,rM⟩:=ht
  have h4:0<sh.length:=by
   unfold gy at rM
   simp only[Bool.and_eq_true,Nat.blt_eq]at rM
   exact rM.1.2
  obtain⟨u,rows,hu,r1,⟨r2,_⟩,eR⟩:=K4 (zE 8 e sh h2) h1 h3 h4 hf hw
  obtain⟨a,len,cap,rfl⟩:=okWide_slice h1 hval
  have hu:u= .slice a len cap:=by simpa [Value.cells]using hu.symm
  subst hu
  refine⟨[rc rows],⟨dk _,j4 r2 λr hr=>(r1 r hr).row rM,trivial⟩,rfl,?_⟩
  show eY _ _ _ (ae (rc rows)) _
  rw[dP]
  exact eR
def AI (P:Program):List TypeId->List bN->Prop
 |[],[]=>True
 |t::ts,b::bs=>uY P t b/\AI P ts bs
 |_,_=>False
theorem bN.NY {F N:Nat->Prop} {w:World} (b:bN) {zs l:List Int} {v:Value} (h:zs.length=b.num) (ha:b.at F N w zs v):b.at F N w (zs++l) v:=by
 cases b with
 |d x=>
  show v=x.val (zs++l)
  rw[D.MG x (l:=l) h];exact ha
 |rd sh=>match zs,h with|[z],_=>exact ha
 |iP sh e=>match zs,h with|[z],_=>exact ha
theorem K1 {b0:Nat} {w:World}:∀{ts:List TypeId} {bs:List bN} {vs:List Value} {xs:List (DataW H)} {jG:List MemPlace},AI P ts bs->(∀(j:Nat) t v,ts[j]?=some t->vs[j]?=some v->Value.okWide P w .any b0 t v)->DataW.TrodAll enc P w 0 (λ_=>true) true ts vs xs jG->
 (∀m∈DataW.weightsEach P ts xs,m<=reachBytes)->∃zs,bI (cL bs) zs/\gF (λg=>g<w.heap.size) (λ_=>False) w bs zs vs/\xs.length=bs.length
 |[],[],[],[],jG,_,_,h,_=>⟨[],trivial,trivial,rfl⟩
 |[],[],_::_,_,_,_,_,h,_=>h.elim
 |[],[],[],_::_,_,_,_,h,_=>h.elim
 |[],_::_,_,_,_,h,_,_,_=>h.elim
 |_::_,[],_,_,_,h,_,_,_=>h.elim
 |_::_,_::_,[],_,_,_,_,h,_=>by cases h
 |_::_,_::_,_::_,[],_,_,_,h,_=>by cases h
 |t::ts,b::bs,v::vs,x::xs,jG,ht,hv,h,hw=>by
  obtain⟨p,q,h1,h2,rfl⟩:=h
  simp only[DataW.weightsEach,List.mem_append]at hw
  obtain⟨zs,a1,a2,a3⟩:=Vz ht.1 (hv 0 t v rfl rfl) h1 λm hm=>hw m (.inl hm)
  obtain⟨eu,b1,b2,b3⟩:=K1 ht.2 (λj t v h1 h2=>hv (j+1) t v (by simpa using h1) (by simpa using h2)) h2 λm hm=>hw m (.inr hm)
  refine⟨zs++eu,JV a1 b1,⟨bN.NY b a2 a3,?_⟩,by simp[b3]⟩
  rw[<-a2,List.drop_left];exact b2
theorem Mt (hl:laidOutB P=true) {W ky:World} (hb:Below W.heap.size W ky):∀{ts:List TypeId} {vs:List Value} {xs:List (DataW H)} {jG:List MemPlace},(∀t∈ts,P.readableRec t=true/\t<P.types.size)->DataW.TrodAll enc P W 0 (λ_=>true) true ts vs xs jG->(∀x∈jG,x.block<W.heap.size)->
 DataW.TrodAll enc P ky 0 (λb=>decide (b<W.heap.size)) true ts vs xs jG
 |[],[],[],_,_,h,_=>h
 |[],_::_,_,_,_,h,_=>h.elim
 |[],[],_::_,_,_,h,_=>h.elim
 |_::_,[],_,_,_,h,_=>by cases h
 |_::_,_::_,[],_,_,h,_=>by cases h
 |t::ts,v::vs,x::xs,jG,hr,h,hlt=>by
  obtain⟨p,q,h1,h2,rfl⟩:=h
  exact⟨p,q,Below.trod hl (hr t (by simp)).1 (hr t (by simp)).2 h1 hb λx hx=>hlt x (List.mem_append.2 (.inl hx)),Mt hl hb (λt ht=>hr t (List.mem_cons_of_mem _ ht)) h2 λx hx=>hlt x (List.mem_append.2 (.inr hx)),rfl⟩
theorem Oi {C:Checked} {os:Os} {f:FuncId} {fn:Func} {s:ChangeSpec} {apart:Bool} {X:World->Array Value->Prop}
 (bt:∀(w w':World) (args:Array Value),w.heap=w'.heap->X w args->X w' args)
 (own:ownKnob C.prog.godebug=none) (started:os.Started) (D9:C.prog.inits.idxOf? f=none) (rv:C.prog.funcs[f]?=some fn)
 (witness:∃(w:World) (tape:Tape) (i:Input),w.os=os/\(w.forCall tape i).Shaped C.prog/\i.vars=[]/\Input.okWide C.prog (w.forCall tape i) .any w.heap.size f i/\
   ((s.pre enc C.prog fn [] apart (w.forCall tape i).memory i.args/\X (w.forCall tape i).memory i.args)/\sizedMet enc C.prog fn (OpenSpec.ofChange s) apart (w.forCall tape i).memory i.args)/\({}:Assume).holds C.prog (lone (Frame.enter C.prog f i.args .normal) [] (w.forCall tape i)))
 (contract:∀(W:World) (base:Nat) (args:Array Value) (ds gs:List (DataW H)) (before:List MemPlace),
   (∀(j:Nat) t v,fn.params[j]?=some t->args[j]?=some v->Value.okWide C.prog W .any base t v)->
   DataW.Whole enc C.prog fn.params.toList s.vars apart W args.toList ds gs before->(DataW.weightsEach C.prog (fn.params.toList++s.plain.varTypes C.prog) (ds++gs)).all (·<=reachBytes)=true->X W args->W.ShapedOpen C.prog->
   Calls C.prog f args W λe ky=>∃v,e= .returned v/\s.post enc C.prog fn apart true false false W args v ky):
 ReturnsInHanded {} C os f .any (λw args=>(s.pre enc C.prog fn [] apart w args/\X w args)/\sizedMet enc C.prog fn (OpenSpec.ofChange s) apart w args) (s.post enc C.prog fn apart true false false):=by
 refine returnsInHanded_of_calls own started D9 witness ?_
 intro w tape i _ fU _ a8 fT aae
 obtain⟨_,_,_,Pj,vW,_,_,_,_,hval⟩:=a8
 have e:Pj=fn:=Option.some.inj (vW.symm.trans rv)
 subst e
 obtain⟨⟨⟨ds,gs,before,hw,hc⟩,hx⟩,hz⟩:=fT
 have mK:=DataW.Whole.of_heap (w':=w.forCall tape i) (by rfl) hw
 refine(contract (w.forCall tape i) w.heap.size i.args ds gs before hval mK (hz.weights hw) (bt _ _ _ (by rfl) hx) fU).mono λe ky ⟨v,he,hp⟩=>?_
 subst he
 exact ChangeSpec.post_blind hp
theorem S7 {C:Checked} {os:Os} {f:FuncId} {fn:Func} {s:ChangeSpec} {X:World->Array Value->Prop} {apart:Bool} {ts:List TypeId} {tb:TypeId} {bs:List bN}
 (bt:∀(w w':World) (args:Array Value),w.heap=w'.heap->X w args->X w' args)
 (own:ownKnob C.prog.godebug=none) (started:os.Started) (D9:C.prog.inits.idxOf? f=none) (rv:C.prog.funcs[f]?=some fn)
 (witness:∃(w:World) (tape:Tape) (i:Input),w.os=os/\(w.forCall tape i).Shaped C.prog/\i.vars=[]/\Input.okWide C.prog (w.forCall tape i) .any w.heap.size f i/\
   ((s.pre enc C.prog fn [] apart (w.forCall tape i).memory i.args/\X (w.forCall tape i).memory i.args)/\sizedMet enc C.prog fn (OpenSpec.ofChange s) apart (w.forCall tape i).memory i.args)/\({}:Assume).holds C.prog (lone (Frame.enter C.prog f i.args .normal) [] (w.forCall tape i)))
 (hp:fn.params.toList=ts) (hr:fn.resultTypes.toList=[tb]) (dM:fn.resultTypes.size=1) (tR:C.prog.underlying tb=some .bool) (wy:AI C.prog ts bs) (jx:laidOutB C.prog=true) (oz:(ts.all λt=>C.prog.readableRec t&&decide (t<C.prog.types.size))=true) (Dd:s.vars=[])
 (hs:∀xs:List (DataW H),xs.length=bs.length->s.fn H xs={results:=[.lit (.bool true)],args:=xs,vars:=[]})
 (contract:∀(W:World) (zs:List Int) (vs:List Value),bI (cL bs) zs->gF (λg=>g<W.heap.size) (λ_=>False) W bs zs vs->X W vs.toArray->W.ShapedOpen C.prog->Calls C.prog f vs.toArray W λe ky=>e= .returned (.bool true)/\W.Extends ky):
 ReturnsInHanded {} C os f .any (λw args=>(s.pre enc C.prog fn [] apart w args/\X w args)/\sizedMet enc C.prog fn (OpenSpec.ofChange s) apart w args) (s.post enc C.prog fn apart true false false):=by
 refine Oi bt own started D9 rv witness ?_
 intro W base args xs gs before R8 rk hsz hx fU
 have PR:=rk
 have hlt:=rk.lt
 obtain⟨p,q,hA,rj,rfl,vX,aan⟩:=rk
 rw[hp]at hA
 rw[Dd]at rj
 obtain⟨rfl,rfl⟩:gs=[]/\q=[]:=by
  cases gs with
  |nil=>exact⟨rfl,rj⟩
  |cons g r=>exact absurd rj (by intro h;cases h)
 have hval:∀(j:Nat) t v,ts[j]?=some t->args.toList[j]?=some v->Value.okWide C.prog W .any base t v:=λj t v h1 h2=>R8 j t v (by rw[<-hp]at h1;simpa using h1) (by simpa using h2)
 have e:(fn.params.toList++s.plain.varTypes C.prog)=ts:=by rw[hp];simp[DataSpec.varTypes,ChangeSpec.plain,Dd]
 rw[e,List.append_nil,List.all_eq_true]at hsz
 obtain⟨zs,hz,hat,hlen⟩:=K1 wy hval hA λn hn=>by simpa using hsz n hn
 have lR:args=args.toList.toArray:=by simp
 rw[lR]at hx
 have Cq:Calls C.prog f args W λe ky=>e= .returned (.bool true)/\W.Extends ky:=by
  have:=contract W zs args.toList hz hat hx fU
  rwa [<-lR]at this
 refine Cq.mono λe ky ⟨he,hw⟩=>?_
 subst he
 have vW:=hs (xs++[]) (by simp[hlen])
 have Qp:Below W.heap.size W ky:=⟨hw.os,hw.tape,hw.output,hw.size,λi hi=>hw.block i hi⟩
 refine⟨_,rfl,_,_,_,[],p,[],PR,?_,?_,?_,SS hw _,λh=>by cases h⟩
 ·rw[vW,hr,dM];exact trodAll_mk1 (shut_bool tR true)
 ·rw[vW,hp,List.append_nil]
  exact Mt jx Qp (λt ht=>by
   have:=List.all_eq_true.1 oz t ht
   simpa using this) hA λx hx=>hlt x (by simp[hx])
 ·rw[vW,Dd];rfl
section
variable {gl:dt} {wb:World} {sh:Nat->List Nat×List Nat} {SB:Nat->List (List Int)->List (List Int)->Prop}
def cx (SB:Nat->List (List Int)->List (List Int)->Prop) (res:List bN) (id:Nat):List (List Int)->List (List Int)->Prop:=λzs rs=>bI (cL res) rs.flatten/\SB id zs rs
theorem N3 {c:cM} {gb:kX} {bd:ey} {li:FuncId->Nat->Option c0} {rounds d:Nat} {dx:Nat->List Nat} {lens:List Nat} (hm:P.follows .mixedOrders=true) (cN:∀r ex ro,gD (dp sh SB) P gl ⟨wb,r,ex,ro,[]⟩ bd) (hg:fv gl ⟨wb,wb,λ_=>False,λ_=>False,[]⟩)
 (lS:∀(L:V->Env->Prop) (r:World) (ro:Nat->Prop),sF (dp sh SB) L ⟨wb,r,λ_=>False,ro,[]⟩ P gb) (hf:ti P c.f=true) (hl:lens=(sh c.id).1) (hd:sf c.res=(sh c.id).2)
 (hv:gv sh dx SB (cx SB c.res c.id) lens (cL c.args) c.res (c.tree gb P gl bd li rounds d)):c.Ok P wb (dp sh SB c.id):=by
 refine cM.UC (li:=li) (rounds:=rounds) (d:=d) hm cN hg lS (enters hf) (qH λzs hz=>?_)
 have h:=nY (Nu hv) hz
 simp only[cx,E5]at h
 rw[hl,hd]at h
 exact h
theorem S6 {c:cM} {W:World} {vs:List Value} {zs:List Int} (hc:c.Ok P W (dp sh SB c.id)) (ki:c.res=[.d .bool]) (fT:c.pre=0) (hz:bI (cL c.args) zs) (hat:gF (λg=>g<W.heap.size) (λ_=>False) W c.args zs vs) (h1:∀a z,SB c.id a [[z]]->z=1) (h2:(sh c.id).2=[1]):
 Calls P c.f vs.toArray W λe ky=>e= .returned (.bool true)/\W.Extends ky:=by
 refine(hc.2 _ W vs zs (World.Extends.refl W) hz (by rw[fT];trivial) hat).mono λe ky ⟨hx,rs,us,hb,hs,hr,he⟩=>⟨?_,hx⟩
 rw[ki]at hb hr
 match rs,hb,us,hr,hs,he with
 |[z],hb,[u],hr,hs,he=>
  unfold dp at hs
  rw[h2]at hs
  have e1:z=1:=h1 _ z hs
  subst e1
  have:u= .bool true:=hr.1
  subst this
  rw[he];rfl
 |[z],hb,[],hr,hs,he=>exact hr.elim
 |[z],hb,_::_::_,hr,hs,he=>exact hr.2.elim
 |[],hb,_,_,_,_=>exact hb.elim
 |_::_::_,hb,_,_,_,_=>exact hb.2.2.elim
end
end Go.bo
namespace Go.bo
open M
def ga (w w':World) (own:Option Nat):Prop:=
 w'.os=w.os/\w'.tape=w.tape/\w'.output=w.output/\w.heap.size<=w'.heap.size/\∀k:Nat,k<w.heap.size->own≠some k->w'.heap[k]?=w.heap[k]?
structure ZI where
 f:FuncId
 id:Nat
 sh:List az
 e:TypeId
 args:List bN
 pre:Nat:=0
def sg:Value->Option Nat
 | .slice (some a) _ (_+1)=>some a.block
 |_=>none
section
variable {S:Nat->List Int->List Int->Prop} {L:V->Env->Prop} {w0:cR} {P:Program}
theorem ga.ext {w w':World} (h:ga w w' none):w.Extends w':=by
 obtain⟨n1,db,jW,Uq,wX⟩:=h
 have ll:∀i:Nat,i<w.heap.size->w'.heap[i]?=w.heap[i]?:=λi hi=>wX i hi (λe=>by cases e)
 exact⟨n1,db,jW,Uq,λa ha=>by simp only[World.cell?,ll a.block ha],λa ha=>by simp only[World.frozen?,ll a.block ha],ll⟩
end
end Go.bo
