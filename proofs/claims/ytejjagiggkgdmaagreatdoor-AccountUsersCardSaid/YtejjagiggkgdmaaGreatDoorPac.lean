/- The evaluator's soundness,whole. -/
import Derived.Test.YtejjagiggkgdmaaGreatDoorPab
import Derived.Laws.Externs
import Derived.ChangeMaps5
import Derived.ChangeSame
import Derived.OpenShut
import Derived.Handed
import Derived.ProofKit
import Derived.LaidMore
import Derived.Stop.Joined
import Derived.HandedShaped
import Derived.SizedLaws
import Derived.Carry

set_option linter.unusedVariables false
set_option linter.unusedSimpArgs false
namespace Go.bo
open M
section
variable {S:Nat->List Int->List Int->Prop} {L:V->Env->Prop} {w0:cQ} {P:Program} {gl:dt} {bf:ew} {rd:Option Nat}
def qv (S:Nat->List Int->List Int->Prop) (L:V->Env->Prop) (w0:cQ) (k:jJ) (n nb:Nat) (ρ:Env) (m:Nat->Nat) (G:cN) (Q:Exit->Act->World->Prop):Prop:=
 ∀x n' ag m' bB aW cU cR w',cw n nb ρ m n' (List.length aW) ag m'->c5 n G cU->R w0 n' ag m' bB aW cR w'->(k x n' bB aW).holds S L cU ag->Q x.to cR w'
theorem qv.later {k:jJ} {n nb n1 p5:Nat} {ρ aG:Env} {m jf:Nat->Nat} {G G1:cN} {Q:Exit->Act->World->Prop} (h:qv S L w0 k n nb ρ m G Q) (hl:cw n nb ρ m n1 p5 aG jf) (hA:c5 n G G1):qv S L w0 k n1 p5 aG jf G1 Q:=
 λx n' ag m' bB aW cU cR w' h1 h2 h3 h4=>h x n' ag m' bB aW cU cR w' (hl.trans h1) (hA.trans h2 hl.hn) h3 h4
def xK (rd:Option Nat) (S:Nat->List Int->List Int->Prop) (L:V->Env->Prop) (w0:cQ) (P:Program) (c:Code) (e:Nat->List V->List ay->jJ->T):Prop:=(rd=none∨jg c=true)->
 ∀n tm bl k G ρ m a w Q,R w0 n ρ m tm bl a w->(e n tm bl k).holds S L G ρ->qv S L w0 k n bl.length ρ m G Q->c.wpIn (kt rd) 0 P Q a w
theorem LM {c:Code} {e:Nat->List V->List ay->jJ->T} (hd:rd=none∨jg c=true) (he:xK rd S L w0 P c e) {Q:Exit->Act->World->Prop}:∀(r:Nat) {n:Nat} {ρ:Env} {m:Nat->Nat} {tm:List V} {bl:List ay} {a:Act} {w:World} {G:cN} {k:jJ},
 R w0 n ρ m tm bl a w->(EM e r n tm bl k).holds S L G ρ->qv S L w0 k n bl.length ρ m G Q->Code.roundsIn (kt rd) 0 P c Q r a w
 |0,_,_,_,_,_,_,_,_,_,_,al,_=>al.elim
 |r+1,n,ρ,m,tm,bl,a,w,G,k,h,al,hk=>by
  rw[roundsIn_succ]
  refine he hd n tm bl _ G ρ m a w _ h al λx n' ag m' bB aW cU cR w' h1 h2 h3 h4=>?_
  cases x with
  |normal=>exact LM hd he r h3 h4 (hk.later h1 h2)
  |exit id=>exact hk (.exit id) n' ag m' bB aW cU cR w' h1 h2 h3 h4
  |ret=>exact hk .ret n' ag m' bB aW cU cR w' h1 h2 h3 h4
theorem Nj {n nb:Nat} {ρ:Env} {m:Nat->Nat} {tm:List V} {xs:Array Value} (h:cI n nb ρ m tm xs):qz n nb ρ m tm xs.toList:=GI (by simpa using h)
def mi (w0:cQ) (ρ:Env) (m:Nat->Nat) (bl:List ay) (w:World) (D:Nat->Prop):Prop:=
 ∀(i:Nat) (sh:List az) (off code cap:J) (kind:Nat) (t:TypeId×Bool),bl[i]?=some ([.rows sh off code cap kind],t)->fE w0 ρ D (m i) sh off code cap kind t.1 w
theorem QT {D:Nat->Prop} {li:c0} {n:Nat} {bw ag:Env} {m0 m':Nat->Nat} {tm bB gS oW:List V} {bl aW ez n3:List ay} {l1 l2 v1 v2 ext:List J} {b1 b2 sQ qK:List (Int×Int)} {n':Nat} {a:Act} {w:World}
 (hlen:bl.length<=aW.length)
 (ha:agree n bw ag) (hm:∀b,b<bl.length->m' b=m0 b) (ht:∀v∈tm,V.ok n bl.length bw v) (gJ:bQ n bl.length bw bl)
 (h:R w0 n' ag m' bB aW a w) (e1:hs li.keep li.ints 0 (n+1) tm=some (gS,l1,b1)) (e2:hb li.cells 0 (n+1+l1.length) bl=some (ez,l2,b2))
 (e3:hs li.keep li.ints 0 (n+1) bB=some (oW,v1,sQ)) (en:hb li.cells 0 (n+1+v1.length) (aW.take bl.length)=some (n3,v2,qK))
 (f1:iU gS oW=true) (f2:kb ez n3=true) (og:∀g,D g->bD w0 ag m' aW g) (hU:mi w0 ag m' aW w D):
 v1.length+v2.length=l1.length+l2.length/\bI (b1++b2) ((v1++v2).map (·.den ag))/\R w0 (n+1+l1.length+l2.length+ext.length) (bP bw (n+1) ((v1++v2++ext).map (·.den ag))) m0 gS ez a w/\ez.length=bl.length/\(∀(i:Nat) (p:ay),ez[i]?=some p->i<bl.length/\∃bU:ay,aW[i]?=some bU/\a6 (bP bw (n+1) ((v1++v2++ext).map (·.den ag))) p.1=a6 ag bU.1)/\(∀g,D g->bD w0 (bP bw (n+1) ((v1++v2++ext).map (·.den ag))) m0 ez g)/\mi w0 (bP bw (n+1) ((v1++v2++ext).map (·.den ag))) m0 ez w D:=by
 have Cu:agree n bw (bP bw (n+1) ((v1++v2++ext).map (·.den ag))):=(agree.bP _ (n+1) bw).mono (by omega)
 have pE:∀j,j<(v1++v2).length->bP bw (n+1) ((v1++v2++ext).map (·.den ag)) (n+1+j)=((v1++v2).getD j (.const 0)).den ag:=λj hj=>by
  rw[xE _ _ _ j (by simp at hj⊢;omega)]
  have kI:j<(v1++v2++ext).length:=by simp at hj⊢;omega
  have e:(v1++v2++ext)[j]=(v1++v2)[j]:=List.getElem_append_left hj
  simp only[List.getD,List.getElem?_map,List.getElem?_eq_getElem hj,List.getElem?_eq_getElem kI,Option.map_some,Option.getD_some,e]
 have zb:v1.length+v2.length=(v1++v2).length:=by simp
 obtain⟨p1,bz,b5⟩:=wB (N:=n+1+v1.length+v2.length+ext.length) ha Cu hm (by omega) ht (Nj h.t) e1 e3 f1 (λj hj=>by
  rw[pE j (by simp;omega),Iv hj]) (by omega)
 rw[<-b5]at e2
 have QC:bQ n' aW.length ag (aW.take bl.length):=λp hp=>h.b p (List.mem_of_mem_take hp)
 obtain⟨q1,q2,q3,q4⟩:=IV (N:=n+1+v1.length+v2.length+ext.length) ha Cu hm (by omega) gJ QC e2 en f2 (λj hj=>by
  rw[show n+1+v1.length+j=n+1+(v1.length+j) by omega,pE (v1.length+j) (by simp;omega),Iw]) (by omega)
 have hbl:ez.length=bl.length:=(yT e2).2
 refine⟨by omega,by rw[List.map_append];exact oG bz q2,?_⟩
 rw[<-b5,<-q3]
 have tp:∀(i:Nat) (p:ay),ez[i]?=some p->i<bl.length/\∃bU:ay,aW[i]?=some bU/\bO p.1=bO bU.1/\p.2=bU.2/\(bO p.1=false->∃sh off code code' cap k,p.1=[.rows sh off code cap k]/\bU.1=[.rows sh off code' cap k]/\off.aX n/\cap.aX n):=λi p hi=>by
  have ff:i<bl.length:=by rw[<-hbl];exact(List.getElem?_eq_some_iff.1 hi).1
  obtain⟨bU,h1,h2,re,h3⟩:=Cw en i p (Ib f2 i p hi)
  rw[List.getElem?_take,if_pos ff]at h1
  obtain⟨p0,g1,_,_,g3⟩:=Cw e2 i p hi
  refine⟨ff,bU,h1,h2,re,λho=>?_⟩
  obtain⟨sh,off,code,code',cap,k,s1,s2⟩:=h3 ho
  obtain⟨cp,cY,c1,aU,cV,aZ,nI,xv⟩:=g3 ho
  rw[s1]at nI
  cases nI
  have bb:A.ok n bl.length bw (.rows sh off aU cap k):=gJ _ (List.mem_of_getElem? g1) _ (by rw[xv];simp)
  exact⟨sh,off,code,code',cap,k,s1,s2,bb.1.1,bb.1.2.2⟩
 have Cv:agree n ag (bP bw (n+1) ((v1++v2++ext).map (·.den ag))):=ha.sym.trans Cu (Nat.le_refl _)
 have hk2:∀(p bU:ay),bO p.1=bO bU.1->(bO p.1=false->∃sh off code code' cap k,p.1=[.rows sh off code cap k]/\bU.1=[.rows sh off code' cap k]/\off.aX n/\cap.aX n)->a6 (bP bw (n+1) ((v1++v2++ext).map (·.den ag))) p.1=a6 ag bU.1:=λp bU h1 h2=>by
  cases ho:bO p.1 with
  |true=>rw[jR ho,jR (h1▸ho)]
  |false=>
   obtain⟨sh,off,code,code',cap,k,s1,s2,nI,xv⟩:=h2 ho
   rw[s1,s2]
   simp only[a6]
   rw[J.bj Cv xv]
 have hrel:∀(F:Nat->Prop),mi w0 ag m' aW w F->mi w0 (bP bw (n+1) ((v1++v2++ext).map (·.den ag))) m0 ez w F:=λF hF i sh off code cap kind t hi=>by
  obtain⟨ff,bU,k1,_,k2,k3⟩:=tp i _ hi
  obtain⟨cp,cY,c1,aU,cV,aZ,s1,s2,nI,xv⟩:=k3 rfl
  cases s1
  obtain⟨C,t'⟩:=bU
  simp only at s2 k2
  subst s2;subst k2
  obtain⟨c',h1,h2⟩:=q4 i _ t hi
  rw[List.getElem?_take,if_pos ff,k1]at h1
  cases h1
  simp only[List.map_cons,List.map_nil,A.den,List.cons.injEq,Value.int.injEq,and_true,true_and]at h2
  rw[<-hm i ff]
  have hR:=hF i sh off aU cap kind t k1
  unfold fE at hR⊢
  rw[J.bj Cv nI,J.bj Cv xv,h2]
  exact hR
 have ox:∀g,bD w0 ag m' aW g->bD w0 (bP bw (n+1) ((v1++v2++ext).map (·.den ag))) m0 ez g:=bD.mono λi p hi hk=>by
  obtain⟨g1,bU,g2,g3,_,g4⟩:=tp i p hi
  exact⟨i,bU,g2,by rw[<-hk2 p bU g3 g4];exact hk,hm i g1⟩
 refine⟨?_,hbl,λi p hi=>by
  obtain⟨g1,bU,g2,g3,_,g4⟩:=tp i p hi
  exact⟨g1,bU,g2,hk2 p bU g3 g4⟩,λg hg=>ox g (og g hg),hrel D hU⟩
 refine⟨?_,h.d,by rw[hbl];exact q1,⟨h.bk.ext,h.bk.gO,h.bk.kk,h.bk.ki,h.bk.fG,h.bk.ke,λi cs t hi ho=>?_,λi sh off code cap kind t hi=>?_,λi j p q hi hj he=>?_⟩⟩
 ·rw[hbl]
  have:=A6 p1
  simpa using this
 ·obtain⟨c',h1,h2⟩:=q4 i cs t hi
  obtain⟨ff,bU,k1,k2,_⟩:=tp i _ hi
  rw[List.getElem?_take,if_pos ff,k1]at h1
  have h1:=Option.some.inj h1
  subst h1
  obtain⟨g1,gw,r,hr,g2⟩:=h.bk.ec i c' t k1 (k2▸ho)
  rw[<-hm i ff]
  exact⟨g1,gw,r,hr,by rw[h2];exact g2⟩
 ·exact(hrel _ h.bk.rws i sh off code cap kind t hi).mono ox
 ·obtain⟨ff,bU,k1,k2,_,k3⟩:=tp i p hi
  obtain⟨rA,gk,l1,l2,_,r6⟩:=tp j q hj
  rw[hk2 p bU k2 k3,hk2 q gk l2 r6]
  rw[<-hm i ff,<-hm j rA]at he
  exact h.bk.inj i j bU gk k1 l1 he
theorem cI.set {n nb:Nat} {ρ:Env} {m:Nat->Nat} {tm:List V} {xs:Array Value} {s:Nat} {v:V} (h:cI n nb ρ m tm xs) (hv:v.ok n nb ρ) (hr:∀x,xs[s]?=some x->v.rel ρ m x):cI n nb ρ m (mR tm s v) xs:=by
 rw[E7]
 refine⟨by simp[h.1],λi u hu=>?_⟩
 rw[List.getElem?_set]at hu
 split at hu
 ·rename_i R6
  subst R6
  split at hu
  ·rename_i hlt
   cases hu
   rw[h.1]at hlt
   exact⟨hv,_,Array.getElem?_eq_getElem hlt,hr _ (Array.getElem?_eq_getElem hlt)⟩
  ·cases hu
 ·exact h.2 i u hu
def sG (tmps:Array Value):List Nat->List Int->Prop
 |[],[]=>True
 |s::r,z::zs=>(0<=z/\z<=1)/\(∀x,tmps[s]?=some x->x= .bool (decide (z=1)))/\sG tmps r zs
 |_,_=>False
def qq (w0:cQ) (w:World) (tmps:Array Value) (D:Nat->Prop) (F:Nat->Prop):List (Nat×List az×TypeId)->List Int->Prop
 |[],[]=>True
 |(s,sh,e)::r,code::len::cap::zs=>∃g:Nat,(∀x,tmps[s]?=some x->x=if cap<0 then .slice (jG cap g) 0 0 else .slice (some ⟨g,0,none⟩) len.toNat cap.toNat)/\sw 0 0 len cap/\(0<=code/\code<=au)/\(cap<0->ae code=[])/\
    (0<=cap->∃cells:Array Value,w.heap[g]?=some (.cells cells e (0,0))/\ga D w cells 0 sh (ae code)/\cells.size=cap.toNat*sh.length/\w0.b.heap.size<=g/\(w0.ex g∨w0.r.heap.size<=g)/\∀bA,D bA->bA≠g)/\
    (0<=cap->F g)/\qq w0 w tmps D (λbA=>F bA/\(0<=cap->bA≠g)) r zs
 |_,_=>False
theorem Bs {nb:Nat} {tm:List V} {m:Nat->Nat} {tmps:Array Value}:∀{l:List Nat} {n:Nat} {ρ:Env},cI n nb ρ m tm tmps->ar S L (vq tm l) n ρ λag n' ls=>(∀x∈ls,J.aX n' x)/\ls.length=l.length/\sG tmps l (ls.map (·.den ag))
 |[],n,ρ,ht=>ar.pure ⟨λ_ h=>by simp at h,rfl,trivial⟩
 |s::r,n,ρ,ht=>by
  unfold vq
  split
  ·rename_i e hs
   obtain⟨h1,x,h2,h3⟩:=ht.2 s _ hs
   have h3:x= .bool (e.den ρ):=h3
   have key:ar S L (match e with| .lit v=>pure (J.const (cond v 1 0))|e=>rS e) n ρ λag n' l=>l.aX n'/\(0<=l.den ag/\l.den ag<=1)/\e.den ρ=decide (l.den ag=1):=by
    cases e with
    |lit v=>cases v<;>exact ar.pure ⟨J.bS _ _,by simp only[J.aS];decide,by simp only[J.aS,aY.den];rfl⟩
    |_=>exact zm
   refine key.bind λaG n1 l hn ha ⟨g1,g2,g3⟩=>(Bs (l:=r) (ht.ext ha hn (Nat.le_refl _) (λ_ _=>rfl))).bind λa8 da ls cO cC ⟨k1,k2,k3⟩=>ar.pure ⟨λy hy=>?_,by simp[k2],?_⟩
   ·rcases List.mem_cons.1 hy with rfl|hy
    ·exact g1.mono cO
    ·exact k1 y hy
   ·have e1:=J.bj cC g1
    simp only[List.map_cons,sG,e1]
    refine⟨g2,λy hy=>?_,k3⟩
    rw[h2]at hy
    cases hy
    rw[h3,g3]
  ·exact ar.fail
theorem vD {nb:Nat} {m:Nat->Nat} {tmps:Array Value}:∀{l:List (Nat×Int×Int)} {tm:List V} {n:Nat} {ρ:Env},cI n nb ρ m tm tmps->ar S L (qZ l tm) n ρ λag n' bB=>cI n' nb ag m bB tmps
 |[],tm,n,ρ,ht=>ar.pure ht
 |(s,lo,hi)::r,tm,n,ρ,ht=>by
  unfold qZ
  split
  ·rename_i k x hs
   cases hc:(decide (lo<=x.lo)&&decide (x.hi<=hi))with
   |true=>simp only[cond_true];exact vD ht
   |false=>
    simp only[cond_false]
    refine ee λhk=>?_
    simp only[List.map_cons,List.map_nil,ad,J.aS]at hk
    obtain⟨h1,y,h2,h3⟩:=ht.2 s _ hs
    have h1:x.ok n ρ:=h1
    exact vD (ht.set (v:= .w (.one (.int k ⟨x.l,lo,hi⟩))) ⟨h1.1,hk.1,hk.2⟩ λz hz=>by
     rw[h2]at hz;cases hz;exact h3)
  ·exact vD ht
theorem xV {n lo:Nat} {ρ:Env} {m:Nat->Nat} {tm:List V} {bl:List ay} {a:Act} {w:World} (h:R w0 n ρ m tm bl a w):∀{l:List (Nat×List az×TypeId)} {used:List Nat} {ls:List J} {u:List Nat},m4 lo l tm bl used=some (ls,u)->
 (∀x∈ls,J.aX n x)/\ls.length=(qE l).length/\(∀b∈used,b∈u)/\(∀b∈u,b∈used∨lo<=b)/\∀F:Nat->Prop,(∀(b:Nat) (p:ay),b∈u->b∉used->bl[b]?=some p->a6 ρ p.1=2->bO p.1=false->F (m b))->qq w0 w a.tmps (bD w0 ρ m bl) F l (ls.map (·.den ρ))
 |[],used,ls,u,he=>by
  simp only[m4,Option.some.injEq,Prod.mk.injEq]at he
  obtain⟨rfl,rfl⟩:=he
  exact⟨λ_ h=>by simp at h,rfl,λ_ h=>h,λ_ h=> .inl h,λ_ _=>trivial⟩
 |(s,sh,e)::r,used,ls,u,he=>by
  unfold m4 at he
  split at he
  ·rename_i hs
   split at he
   ·rename_i l1 oX hr
    simp only[Option.some.injEq,Prod.mk.injEq]at he
    obtain⟨rfl,rfl⟩:=he
    obtain⟨g1,g2,g3,g4,g5⟩:=xV h hr
    refine⟨λx hx=>?_,by simp[qE]at g2⊢;omega,g3,g4,λF hF=>⟨0,λx hx=>?_,?_,?_,?_,?_,?_,?_⟩⟩
    ·simp only[List.mem_cons]at hx
     rcases hx with rfl|rfl|rfl|hx
     ·exact J.bS _ _
     ·exact J.bS _ _
     ·exact J.bS _ _
     ·exact g1 x hx
    ·obtain⟨_,y,h2,h3⟩:=h.t.2 s _ hs
     rw[h2]at hx;cases hx
     have oa:(J.const (-1)).den ρ<0:=by rw[J.aS];decide
     simp only[oa,if_true]
     exact h3
    ·simp only[J.aS];exact⟨⟨by omega,by omega,by omega,by omega⟩,⟨by omega,by omega⟩,λ_=>rfl,λh=>by omega⟩
    ·simp only[J.aS];exact⟨Int.le_refl _,Int.le_trans (dj []) (j3 (l:=[]) (by simp) (by simp))⟩
    ·intro _;simp only[J.aS];exact dW
    ·simp only[J.aS];intro h;omega
    ·simp only[J.aS];intro h;omega
    ·refine g5 _ λb p hb hu hbl hk ho=>⟨hF b p hb hu hbl hk ho,?_⟩
     simp only[J.aS];intro h;omega
   ·cases he
  ·rename_i b aV o ro len cap hs
   split at he
   ·rename_i cp off code cv kind t hbl
    cases hc:(hW sh cp&&Nat.beq kind 2&&J.beq o (.const 0)&&J.beq off (.const 0)&&J.beq ro (.const 0)&&J.beq cap cv&&Nat.beq t.1 e&&Nat.beq aV sh.length&&Nat.ble lo b&& !(used.any (Nat.beq b)))with
    |false=>rw[hc]at he;cases he
    |true=>
     rw[hc]at he
     simp only[cond_true]at he
     split at he
     ·rename_i l1 oX hr
      simp only[Option.some.injEq,Prod.mk.injEq]at he
      obtain⟨rfl,rfl⟩:=he
      simp only[Bool.and_eq_true]at hc
      obtain⟨⟨⟨⟨⟨⟨⟨⟨⟨c1,aU⟩,bL⟩,b7⟩,dv⟩,e0⟩,lI⟩,lJ⟩,pe⟩,Bw⟩:=hc
      have c1:=mS c1;have aU:=Nat.eq_of_beq_eq_true aU;have bL:=J.beq_eq bL;have b7:=J.beq_eq b7;have dv:=J.beq_eq dv;have e0:=J.beq_eq e0
      have lI:=Nat.eq_of_beq_eq_true lI;have lJ:=Nat.eq_of_beq_eq_true lJ;have pe:=Nat.le_of_ble_eq_true pe
      have RH:b∉used:=λhb=>by
       have:used.any (Nat.beq b)=true:=List.any_eq_true.2 ⟨b,hb,Nat.beq_refl b⟩
       rw[this]at Bw;cases Bw
      subst c1;subst aU;subst bL;subst b7;subst dv;subst e0;subst lI;subst lJ
      obtain⟨g1,g2,g3,g4,g5⟩:=xV h hr
      obtain⟨bb,y,h2,h3⟩:=h.t.2 s _ hs
      have bb:(A.sl b sh.length (.const 0) (.const 0) len cap).ok n bl.length ρ:=bb
      obtain⟨x1,⟨cT,dk,gy,gV⟩,h8⟩:=bb
      simp only[J.aS]at h8
      have dw:(A.rows sh (.const 0) code cap 2).ok n bl.length ρ:=h.b _ (List.mem_of_getElem? hbl) _ (by simp)
      obtain⟨⟨r1,r2,eR⟩,oS,uC⟩:=dw
      have fq:=h.bk.rws b sh (.const 0) code cap 2 t hbl (by decide)
      refine⟨λx hx=>?_,by simp[qE]at g2⊢;omega,λbX hb'=>g3 bX (List.mem_cons_of_mem _ hb'),λbX hb'=>?_,λF hF=>⟨m b,λx hx=>?_,h8,oS,fq.1,λh0=>?_,λh0=>?_,?_⟩⟩
      ·simp only[List.mem_cons]at hx
       rcases hx with rfl|rfl|rfl|hx
       ·exact r2
       ·exact gy
       ·exact gV
       ·exact g1 x hx
      ·rcases g4 bX hb' with h5|h5
       ·rcases List.mem_cons.1 h5 with rfl|h5
        ·exact .inr pe
        ·exact .inl h5
       ·exact .inr h5
      ·have Dr:y=x:=Option.some.inj (h2.symm.trans hx)
       subst Dr
       have h3:y=(A.sl b sh.length (.const 0) (.const 0) len cap).den ρ m:=h3
       rw[h3]
       simp only[A.den,J.aS]
       split<;>simp
      ·obtain⟨_,cells,e9,fz,k1,⟨k2,k3⟩,k4⟩:=fq.2 h0
       obtain⟨cX,mN,rU,SQ,SR,SS⟩:=k4 (by decide)
       subst cX
       have rU:=rU.two
       subst rU
       rw[J.aS]at k3
       exact⟨cells,k1,k3,SQ,SR,SS,λbA gL e=>gL.2 b _ hbl (by rw[gi (by decide) h0];exact Nat.le_refl 2) e.symm⟩
      ·exact hF b _ (g3 b (by simp)) RH hbl (gi (by decide) h0) rfl
      ·refine g5 _ λbX p hb' hu IZ hk ho=>⟨hF bX p hb' (λh=>hu (List.mem_cons_of_mem _ h)) IZ hk ho,λh0=>?_⟩
       have e7:a6 ρ [A.rows sh (.const 0) code cap 2]=2:=gi (by decide) h0
       exact h.bk.ne IZ hbl (by rw[hk];exact Nat.le_refl 2) (by simp only[e7];decide) λe=>hu (by simp[e])
     ·cases he
   ·cases he
  ·cases he
theorem Ld {c:List A} (h:bO c=false):∃sh off code cap k,c=[.rows sh off code cap k]:=by
 unfold bO at h
 split at h
 ·exact⟨_,_,_,_,_,rfl⟩
 ·cases h
theorem DO {n:Nat} {ρ:Env} {m:Nat->Nat} {tm:List V} {a:Act} {w:World}:∀{us:List Nat} {bl:List ay},R w0 n ρ m tm bl a w->R w0 n ρ m tm (iq us bl) a w/\(iq us bl).length=bl.length/\∀(i:Nat) (p:ay),(iq us bl)[i]?=some p->(bl[i]?=some p/\(i∈us->bO p.1=true∨a6 ρ p.1=0))∨a6 ρ p.1=0
 |[],bl,h=>⟨h,rfl,λi p hp=> .inl ⟨hp,λh=>by simp at h⟩⟩
 |b::r,bl,h=>by
  unfold iq
  split
  ·rename_i sh off code cap k t hbl
   obtain⟨g1,g2,g3⟩:=DO (us:=r) (h.kill hbl)
   refine⟨g1,by rw[g2,fX],λi p hp=>?_⟩
   rcases g3 i p hp with⟨g4,g5⟩|g4
   ·by_cases ff:i=b
    ·subst ff
     rw[hV,List.getElem?_set_self (List.getElem?_eq_some_iff.1 hbl).1]at g4
     cases g4
     exact .inr (by simp[a6])
    ·rw[hV,List.getElem?_set_ne (λe=>ff e.symm)]at g4
     exact .inl ⟨g4,λhi=>g5 (by simpa [ff]using hi)⟩
   ·exact .inr g4
  ·rename_i fT
   obtain⟨g1,g2,g3⟩:=DO (us:=r) h
   refine⟨g1,g2,λi p hp=>?_⟩
   rcases g3 i p hp with⟨g4,g5⟩|g4
   ·refine .inl ⟨g4,λhi=>?_⟩
    rcases List.mem_cons.1 hi with rfl|hi
    ·cases ho:bO p.1 with
     |true=>exact .inl rfl
     |false=>
      exfalso
      obtain⟨c,t⟩:=p
      obtain⟨sh,off,code,cap,k,rfl⟩:=Ld ho
      exact fT _ _ _ _ _ _ g4
    ·exact g5 hi
   ·exact .inr g4
theorem Jd {N:Nat} {a8:Env} {m:Nat->Nat} {bl:List ay} {a:Act} {w:World}:∀{l:List Nat} {zs:List Int} {v:Nat} {tm:List V},R w0 N a8 m tm bl a w->sG a.tmps l zs->(∀j,j<zs.length->a8 (v+j)=zs.getD j 0)->v+zs.length<=N->R w0 N a8 m (mA l v tm) bl a w
 |[],[],v,tm,h,_,_,_=>h
 |s::r,z::zs,v,tm,h,hb,hv,hN=>by
  unfold mA
  have h0:=hv 0 (by simp)
  simp only[Nat.add_zero,List.getD_cons_zero]at h0
  simp only[List.length_cons]at hN
  refine Jd (l:=r) (zs:=zs) ⟨cI.set h.t ?_ λx hx=>?_,h.d,h.b,h.bk⟩ hb.2.2 (λj hj=>by
   have:=hv (j+1) (by simpa using hj)
   rw[show v+1+j=v+(j+1) by omega];simpa using this) (by omega)
  ·exact⟨J.c9 (by omega),J.bS _ _⟩
  ·rw[hb.2.1 x hx]
   simp[V.rel,W.den,A.den,aY.den,J.bH,J.aS,h0]
 |[],_::_,_,_,_,h,_,_=>h.elim
 |_::_,[],_,_,_,h,_,_=>h.elim
theorem Jc {N:Nat} {a8:Env} {a:Act} {w:World}:∀{l:List (Nat×List az×TypeId)} {zs:List Int} {v:Nat} {tm:List V} {bl:List ay} {m:Nat->Nat} {D F:Nat->Prop},R w0 N a8 m tm bl a w->(∀g,D g->bD w0 a8 m bl g)->mi w0 a8 m bl w D->qq w0 w a.tmps D F l zs->(∀g,F g->∀(i:Nat) (p:ay),bl[i]?=some p->m i=g->a6 a8 p.1=0)->
 (∀j,j<zs.length->a8 (v+j)=zs.getD j 0)->v+zs.length<=N->∃dU,(∀b,b<bl.length->dU b=m b)/\bl.length<=(lp l v tm bl).2.length/\R w0 N a8 dU (lp l v tm bl).1 (lp l v tm bl).2 a w
 |[],[],v,tm,bl,m,D,F,h,_,_,_,_,_,_=>⟨m,λ_ _=>rfl,Nat.le_refl _,h⟩
 |(s,sh,e)::r,code::len::cap::zs,v,tm,bl,m,D,F,h,og,hU,hf,hF,hv,hN=>by
  obtain⟨g,f1,f2,f3,f4,f5,f6,f7⟩:=hf
  have v0:=hv 0 (by simp)
  have v1:=hv 1 (by simp)
  have v2:=hv 2 (by simp)
  simp only[List.getD_cons_zero,List.getD_cons_succ,Nat.add_zero]at v0 v1 v2
  simp only[List.length_cons]at hN
  have hc:(-2:Int)<=cap/\cap<=9223372036854775807:=⟨f2.2.1.1,by have:=f2.2.1.2;omega⟩
  have hA:(A.rows sh (.const 0) (.var v) (.var (v+2)) 2).ok N bl.length a8:=⟨⟨J.bS _ _,J.c9 (by omega),J.c9 (by omega)⟩,by rw[J.bH,v0];exact f3,by rw[J.bH,v2];exact hc⟩
  have rh:∀bA,D bA->bD w0 a8 (fa m bl.length g) (bl++[([.rows sh (.const 0) (.var v) (.var (v+2)) 2],(e,false))]) bA:=λbA gL=>(og bA gL).push (by
   rcases Int.lt_or_le cap 0 with h0|h0
   ·refine .inl ?_
    simp only[a6,J.bH,v2]
    rw[if_pos h0];decide
   ·obtain⟨_,_,_,_,_,_,rU⟩:=f5 h0
    exact .inr (rU bA gL))
  have gN:fE w0 a8 D g sh (.const 0) (.var v) (.var (v+2)) 2 e w:=by
   intro _
   simp only[J.bH,v0,v2,J.aS]
   refine⟨f4,λh0=>?_⟩
   obtain⟨cells,k1,k2,k3,k4,mN,_⟩:=f5 h0
   exact⟨mN.elim .inl λh=> .inr (.inr h),cells,e,(0,0),k1,⟨Int.le_refl _,k2⟩,λ_=>⟨rfl,by trivial,.w5,k3,k4,mN⟩⟩
  have Cm:mi w0 a8 (fa m bl.length g) (bl++[([.rows sh (.const 0) (.var v) (.var (v+2)) 2],(e,false))]) w D:=λi cp cY code' cV dY t' hi=>by
   rcases xd hi with⟨bM,h1⟩|⟨rfl,h1⟩
   ·rw[fY bM];exact hU i cp cY code' cV dY t' h1
   ·cases h1
    rw[hZ];exact gN
  have hE:=h.bk.push (x:=([.rows sh (.const 0) (.var v) (.var (v+2)) 2],(e,false))) (g:=g) h.b (λy hy=>by simp at hy;subst hy;exact hA) (λho=>by cases ho) (λcp cY code' cV dY he=>by
   cases he
   exact gN.mono rh) (λi p hi he=>by
   rcases Int.lt_or_le cap 0 with h0|h0
   ·refine .inr (.inr ?_)
    simp only[a6,J.bH,v2]
    rw[if_pos h0]
   ·exact .inr (.inl (hF g (f6 h0) i p hi he))) (λi cp cY code' cV dY t' hi=>(hU i cp cY code' cV dY t' hi).mono rh)
  have hL:=cw.alloc N a8 m bl ([A.rows sh (.const 0) (.var v) (.var (v+2)) 2],(e,false)) g
  have hR:R w0 N a8 (fa m bl.length g) (mR tm s (.w (.one (.sl bl.length sh.length (.const 0) (.const 0) (.var (v+1)) (.var (v+2)))))) (bl++[([.rows sh (.const 0) (.var v) (.var (v+2)) 2],(e,false))]) a w:=by
   refine⟨cI.set (h.t.ext hL.ha hL.hn hL.hb hL.hm) ?_ λx hx=>?_,h.d,h.b.alloc (λy hy=>by simp at hy;subst hy;exact hA),hE⟩
   ·refine⟨by simp,⟨J.bS _ _,J.bS _ _,J.c9 (by omega),J.c9 (by omega)⟩,?_⟩
    simp only[J.aS,J.bH,v1,v2];exact f2
   ·rw[f1 x hx]
    simp only[V.rel,W.den,A.den,J.aS,J.bH,v1,v2,hZ]
    split<;>simp
  obtain⟨dU,q1,q2,q3⟩:=Jc (l:=r) (zs:=zs) (v:=v+3) hR rh Cm f7 (λbA gL i p hi he=>by
   rw[List.getElem?_append]at hi
   split at hi
   ·rename_i bM
    rw[fY bM]at he
    exact hF bA gL.1 i p hi he
   ·have bM:=(List.getElem?_eq_some_iff.1 hi).1
    have:i=bl.length:=by simp at bM;omega
    subst this
    simp only[Nat.sub_self,List.getElem?_cons_zero,Option.some.injEq]at hi
    subst hi
    rw[hZ]at he
    rcases Int.lt_or_le cap 0 with h0|h0
    ·simp only[a6,J.bH,v2]
     rw[if_pos h0]
    ·exact absurd he.symm (gL.2 h0)) (λj hj=>by
   have:=hv (j+3) (by simp only[List.length_cons];omega)
   rw[show v+3+j=v+(j+3) by omega];simpa using this) (by omega)
  simp only[List.length_append,List.length_cons,List.length_nil]at q1 q2
  exact⟨dU,λb hb=>by rw[q1 b (by omega)];exact fY hb,by unfold lp;omega,by unfold lp;exact q3⟩
 |[],_::_,_,_,_,_,_,_,_,_,_,h,_,_,_=>h.elim
 |_::_,[],_,_,_,_,_,_,_,_,_,h,_,_,_=>h.elim
 |_::_,[_],_,_,_,_,_,_,_,_,_,h,_,_,_=>h.elim
 |_::_,[_,_],_,_,_,_,_,_,_,_,_,h,_,_,_=>h.elim
theorem J6 {tmps:Array Value}:∀{l:List Nat} {zs:List Int},sG tmps l zs->bI (yd l) zs
 |[],[],_=>trivial
 |s::r,z::zs,h=>⟨h.1.1,h.1.2,J6 h.2.2⟩
 |[],_::_,h=>h.elim
 |_::_,[],h=>h.elim
theorem J4 {w:World} {tmps:Array Value}:∀{l:List (Nat×List az×TypeId)} {zs:List Int} {D F:Nat->Prop},qq w0 w tmps D F l zs->bI (qE l) zs
 |[],[],_,_,_=>trivial
 |(s,sh,e)::r,code::len::cap::zs,D,F,⟨g,f1,f2,f3,f4,f5,f6,f7⟩=>⟨f3.1,f3.2,f2.1.2.2.1,f2.1.2.2.2,f2.2.1.1,by have:=f2.2.1.2;omega,J4 f7⟩
 |[],_::_,_,_,h=>h.elim
 |_::_,[],_,_,h=>h.elim
 |_::_,[_],_,_,h=>h.elim
 |_::_,[_,_],_,_,h=>h.elim
theorem Mem.Ab {n:Nat} {ρ:Env} {m:Nat->Nat} {bl:List ay} {w:World} {b c:Nat} {C:List A} {sh:List az} {code:J} {t:TypeId×Bool} (h:Mem w0 ρ m bl w) (hbl:bl[b]?=some (C,t)) (ho:bO C=true) (ht:t.2=false)
 (hp:fK sh=true) (dF:∀row∈ae (code.den ρ),bn sh row) (fp:b9 sh (ae (code.den ρ))=C.map (A.den ρ m)) (hlen:C.length=c*sh.length):Mem w0 ρ m (cF bl b ([.rows sh (.const 0) code (.const c) 2],t)) w:=by
 have jq:b<bl.length:=(List.getElem?_eq_some_iff.1 hbl).1
 obtain⟨q1,q2,r,hr,q3⟩:=h.ec b C t hbl ho
 have hr:=hr ht
 subst hr
 rw[List.append_nil]at q3
 have c8:∀(i:Nat) (p:ay),(cF bl b ([.rows sh (.const 0) code (.const c) 2],t))[i]?=some p->(i=b/\p=([.rows sh (.const 0) code (.const c) 2],t))∨(i≠b/\bl[i]?=some p):=λi p hi=>by
  rw[hV,List.getElem?_set]at hi
  split at hi
  ·rename_i eV
   subst eV
   simp only[jq,if_true,Option.some.injEq]at hi
   exact .inl ⟨rfl,hi.symm⟩
  ·rename_i eV;exact .inr ⟨λe=>eV e.symm,hi⟩
 have hk2:a6 ρ [.rows sh (.const 0) code (.const c) 2]=2:=gi (by decide) (by rw[J.aS];omega)
 refine⟨h.ext,h.gO,h.kk,h.ki,h.fG,h.ke,λi gF t' hi jb=>?_,λi cp cY code' cV dY t' hi=>?_,λi j p q hi hj he=>?_⟩
 ·rcases c8 i _ hi with⟨rfl,ck⟩|⟨hne,hi⟩
  ·cases ck;cases jb
  ·exact h.ec i gF t' hi jb
 ·rcases c8 i _ hi with⟨rfl,ck⟩|⟨hne,hi⟩
  ·cases ck
   intro _
   simp only[J.aS]
   refine⟨λh0=>by omega,λ_=>⟨q2.elim .inl λh=> .inr (.inr h),_,_,_,q3,⟨Int.le_refl _,(jm hp).2 ⟨dF,[],[],by simp[fp],rfl⟩⟩,λ_=>⟨rfl,by trivial,.w5,by simp[hlen],q1,q2⟩⟩⟩
  ·exact(h.rws i cp cY _ cV dY t' hi).mono λbA h'=>h'.set hbl λ_=>by rw[jR ho];exact Nat.le_refl 2
 ·have hk:∀(i:Nat) (p:ay),(cF bl b ([.rows sh (.const 0) code (.const c) 2],t))[i]?=some p->∃bU,bl[i]?=some bU/\a6 ρ bU.1=a6 ρ p.1:=λi p hi=>by
   rcases c8 i _ hi with⟨rfl,ck⟩|⟨hne,hi⟩
   ·exact⟨_,hbl,by rw[ck];simp only[hk2,jR ho]⟩
   ·exact⟨p,hi,rfl⟩
  obtain⟨bU,hp,ep⟩:=hk i p hi
  obtain⟨gk,hq,eq⟩:=hk j q hj
  rw[<-ep,<-eq]
  exact h.inj i j bU gk hp hq he
theorem EW {m:Nat->Nat} {tm:List V} {a:Act} {w:World}:∀{l:List (Nat×List az×Nat)} {bl:List ay} {n:Nat} {ρ:Env},R w0 n ρ m tm bl a w->ar S L (xu l bl) n ρ λag n' aW=>R w0 n' ag m tm aW a w/\aW.length=bl.length
 |[],bl,n,ρ,h=>ar.pure ⟨h,rfl⟩
 |(b,sh,c)::r,bl,n,ρ,h=>by
  unfold xu
  split
  ·rename_i C t hbl
   cases ho:bO C with
   |false=>simp only[cond_false];exact EW h
   |true=>
    simp only[cond_true]
    refine cH λhc=>?_
    simp only[Bool.and_eq_true]at hc
    obtain⟨⟨⟨⟨c1,aU⟩,bL⟩,b7⟩,dv⟩:=hc
    have c1:t.2=false:=by simpa using c1
    have aU:=Nat.eq_of_beq_eq_true aU
    have b7:=Nat.le_of_ble_eq_true b7
    have bb:∀x∈C,A.ok n bl.length ρ x:=h.b _ (List.mem_of_getElem? hbl)
    have gK:=qQ (w:=sh.length) (k:=c) aU
    have cA:ae ((J.const 0).den ρ)=[]:=by rw[J.aS];exact dW
    have hz:(0:Int)<=au:=Int.le_trans (dj []) (j3 (l:=[]) (by simp) (by simp))
    refine(vk (nb:=bl.length) (m:=m) bL (rs:=gE sh.length c C) (c:= .const 0) (λrow hr x hx=>bb x (qR row hr x hx)) (J.bS _ _) (by rw[J.aS];exact⟨Int.le_refl _,hz⟩) (by rw[cA];intro _ h;simp at h) (by rw[cA,gK.1];simp;omega)).bind λaG n1 code c7 cn ⟨p1,bz,b6,b5,eg,eK,fJ⟩=>?_
    rw[cA,List.nil_append]at b5
    have h1:=h.later c7 cn
    have wm:C.map (A.den aG m)=C.map (A.den ρ m):=kL bb cn (λ_ _=>rfl)
    have hE:=h1.bk.Ab (n:=n1) (c:=c) (sh:=sh) (code:=code) hbl ho c1 dv (by rw[b5];exact eK) (by rw[b5,fJ,gK.2,wm]) aU
    have hJ:bQ n1 (cF bl b ([.rows sh (.const 0) code (.const c) 2],t)).length aG (cF bl b ([.rows sh (.const 0) code (.const c) 2],t)):=h1.b.set (λy hy=>by
     have hy:y= .rows sh (.const 0) code (.const c) 2:=by simpa using hy
     subst hy
     exact⟨⟨J.bS _ _,p1,J.bS _ _⟩,bz,by rw[J.aS];omega⟩)
    have hR:R w0 n1 aG m tm (cF bl b ([.rows sh (.const 0) code (.const c) 2],t)) a w:=⟨by rw[fX];exact h1.t,h1.d,hJ,hE⟩
    exact(EW (l:=r) hR).mono λa8 da jL _ _ ⟨g1,g2⟩=>⟨g1,by rw[g2,fX]⟩
  ·exact ar.fail
theorem natsM_holds {G:cN} {xG:Unit->Nat->T}:∀{k n:Nat} {ρ:Env} {offs:List Int},(zE k n xG).holds S L G ρ->offs.length=k->(∀z∈offs,0<=z)->(xG () (n+k)).holds S L G (bP ρ n offs)
 |0,n,ρ,[],h,_,_=>h
 |k+1,n,ρ,z::zs,h,hl,h0=>by
  have h1:(zE k (n+1) xG).holds S L G (cm ρ n z):=h z (h0 z (by simp))
  have:=natsM_holds (offs:=zs) h1 (by simpa using hl) λy hy=>h0 y (List.mem_cons_of_mem _ hy)
  rw[show n+(k+1)=n+1+k by omega];exact this
 |0,_,_,_::_,_,hl,_=>by simp at hl
 |_+1,_,_,[],_,hl,_=>by simp at hl
def kX (w0:cQ) (w:World) (tmps:Array Value) (D:Nat->Prop) (F:Nat->Prop):List (Nat×List az)->List Nat->List Int->List Int->Prop
 |[],[],[],[]=>True
 |(s,sh)::r,g::gs,o::os,code::len::cap::zs=>(∀x,tmps[s]?=some x->x=if cap<0 then .slice (jG cap g) 0 0 else .slice (some ⟨g,o.toNat,none⟩) len.toNat cap.toNat)/\sw o 0 len cap/\(0<=code/\code<=au)/\(cap<0->ae code=[])/\
    (0<=cap->(w0.ex g∨w0.ro g∨w0.r.heap.size<=g)/\∃(cells:Array Value) (t:TypeId) (fz:Nat×Nat),w.heap[g]?=some (.cells cells t fz)/\ga D w cells o.toNat sh (ae code))/\
    (0<=cap->F g)/\kX w0 w tmps D F r gs os zs
 |_,_,_,_=>False
theorem kX.len {w:World} {tmps:Array Value} {D F:Nat->Prop}:∀{l:List (Nat×List az)} {gs:List Nat} {os zs:List Int},kX w0 w tmps D F l gs os zs->os.length=l.length/\∀z∈os,0<=z
 |[],[],[],[],_=>⟨rfl,λ_ h=>by simp at h⟩
 |(s,sh)::r,g::gs,o::os,code::len::cap::zs,h=>by
  obtain⟨_,h2,_,_,_,_,h7⟩:=h
  obtain⟨i1,i2⟩:=kX.len h7
  exact⟨by simp[i1],λz hz=>by
   rcases List.mem_cons.1 hz with rfl|hz
   ·exact h2.1.1
   ·exact i2 z hz⟩
 |_::_,[],_,_,h=>h.elim
 |_::_,_::_,[],_,h=>h.elim
 |_::_,_::_,_::_,[],h=>h.elim
 |_::_,_::_,_::_,[_],h=>h.elim
 |_::_,_::_,_::_,[_,_],h=>h.elim
 |[],_::_,_,_,h=>h.elim
 |[],[],_::_,_,h=>h.elim
 |[],[],[],_::_,h=>h.elim
theorem J7 {w:World} {tmps:Array Value} {D F:Nat->Prop}:∀{l:List (Nat×List az)} {gs:List Nat} {os zs:List Int},kX w0 w tmps D F l gs os zs->bI (qb l) zs
 |[],[],[],[],_=>trivial
 |(s,sh)::r,g::gs,o::os,code::len::cap::zs,⟨f1,f2,f3,f4,f5,f6,f7⟩=>⟨f3.1,f3.2,f2.1.2.2.1,f2.1.2.2.2,f2.2.1.1,by have:=f2.2.1.2;omega,J7 f7⟩
 |_::_,[],_,_,h=>h.elim
 |_::_,_::_,[],_,h=>h.elim
 |_::_,_::_,_::_,[],h=>h.elim
 |_::_,_::_,_::_,[_],h=>h.elim
 |_::_,_::_,_::_,[_,_],h=>h.elim
 |[],_::_,_,_,h=>h.elim
 |[],[],_::_,_,h=>h.elim
 |[],[],[],_::_,h=>h.elim
theorem xg {n:Nat} {ρ:Env} {m:Nat->Nat} {tm:List V} {bl:List ay} {a:Act} {w:World} (h:R w0 n ρ m tm bl a w):∀{l:List (Nat×List az)} {ls:List J},qc l tm bl=some ls->
 (∀x∈ls,J.aX n x)/\ls.length=(qb l).length/\∃gs os,kX w0 w a.tmps (bD w0 ρ m bl) (λg=>∃(i:Nat) (p:ay),bl[i]?=some p/\m i=g/\a6 ρ p.1=1) l gs os (ls.map (·.den ρ))
 |[],ls,he=>by
  simp only[qc,Option.some.injEq]at he
  subst he
  exact⟨λ_ h=>by simp at h,rfl,[],[],trivial⟩
 |(s,sh)::r,ls,he=>by
  unfold qc at he
  split at he
  ·rename_i hs
   split at he
   ·rename_i l1 hr
    simp only[Option.some.injEq]at he
    subst he
    obtain⟨g1,g2,gs,os,g3⟩:=xg h hr
    refine⟨λx hx=>?_,by simp[qb]at g2⊢;omega,0::gs,0::os,λx hx=>?_,?_,?_,?_,?_,?_,g3⟩
    ·simp only[List.mem_cons]at hx
     rcases hx with rfl|rfl|rfl|hx
     ·exact J.bS _ _
     ·exact J.bS _ _
     ·exact J.bS _ _
     ·exact g1 x hx
    ·obtain⟨_,y,h2,h3⟩:=h.t.2 s _ hs
     rw[h2]at hx;cases hx
     have oa:(J.const (-1)).den ρ<0:=by rw[J.aS];decide
     simp only[oa,if_true]
     exact h3
    ·simp only[J.aS];exact⟨⟨by omega,by omega,by omega,by omega⟩,⟨by omega,by omega⟩,λ_=>rfl,λh=>by omega⟩
    ·simp only[J.aS];exact⟨Int.le_refl _,Int.le_trans (dj []) (j3 (l:=[]) (by simp) (by simp))⟩
    ·intro _;simp only[J.aS];exact dW
    ·simp only[J.aS];intro h;omega
    ·simp only[J.aS];intro h;omega
   ·cases he
  ·rename_i b off hs
   split at he
   ·rename_i l1 hr
    simp only[Option.some.injEq]at he
    subst he
    obtain⟨g1,g2,gs,os,g3⟩:=xg h hr
    obtain⟨c,g,⟨hc1,hc2⟩,il⟩:=AH (some ⟨m b,off,none⟩)
    have ln:c=-2:=by
     by_cases hc:c=-1
     ·have:=MU c g
      rw[il,decide_eq_true hc]at this;cases this
     ·omega
    subst ln
    refine⟨λx hx=>?_,by simp[qb]at g2⊢;omega,g::gs,0::os,λx hx=>?_,?_,?_,?_,?_,?_,g3⟩
    ·simp only[List.mem_cons]at hx
     rcases hx with rfl|rfl|rfl|hx
     ·exact J.bS _ _
     ·exact J.bS _ _
     ·exact J.bS _ _
     ·exact g1 x hx
    ·obtain⟨_,y,h2,h3⟩:=h.t.2 s _ hs
     rw[h2]at hx;cases hx
     have oa:(J.const (-2)).den ρ<0:=by rw[J.aS];decide
     simp only[oa,if_true]
     rw[J.aS,il]
     exact h3
    ·simp only[J.aS];exact⟨⟨by omega,by omega,by omega,by omega⟩,⟨by omega,by omega⟩,λ_=>rfl,λh=>by omega⟩
    ·simp only[J.aS];exact⟨Int.le_refl _,Int.le_trans (dj []) (j3 (l:=[]) (by simp) (by simp))⟩
    ·intro _;simp only[J.aS];exact dW
    ·simp only[J.aS];intro h;omega
    ·simp only[J.aS];intro h;omega
   ·cases he
  ·rename_i b aV o ro len cap hs
   split at he
   ·rename_i cp off code cv kind t hbl
    cases hc:(hW sh cp&&Nat.beq kind 1&&J.beq o off&&J.beq ro (.const 0)&&J.beq cap cv&&Nat.beq aV sh.length)with
    |false=>rw[hc]at he;cases he
    |true=>
     rw[hc]at he
     simp only[cond_true]at he
     split at he
     ·rename_i l1 hr
      simp only[Option.some.injEq]at he
      subst he
      simp only[Bool.and_eq_true]at hc
      obtain⟨⟨⟨⟨⟨c1,aU⟩,bL⟩,b7⟩,dv⟩,e0⟩:=hc
      have c1:=mS c1;have aU:=Nat.eq_of_beq_eq_true aU;have bL:=J.beq_eq bL;have b7:=J.beq_eq b7;have dv:=J.beq_eq dv;have e0:=Nat.eq_of_beq_eq_true e0
      subst c1;subst aU;subst bL;subst b7;subst dv;subst e0
      obtain⟨g1,g2,gs,os,g3⟩:=xg h hr
      obtain⟨bb,y,h2,h3⟩:=h.t.2 s _ hs
      have bb:(A.sl b sh.length o (.const 0) len cap).ok n bl.length ρ:=bb
      obtain⟨x1,⟨cT,dk,gy,gV⟩,h8⟩:=bb
      simp only[J.aS]at h8
      have dw:(A.rows sh o code cap 1).ok n bl.length ρ:=h.b _ (List.mem_of_getElem? hbl) _ (by simp)
      obtain⟨⟨r1,r2,eR⟩,oS,uC⟩:=dw
      have fq:=h.bk.rws b sh o code cap 1 t hbl (by decide)
      refine⟨λx hx=>?_,by simp[qb]at g2⊢;omega,m b::gs,o.den ρ::os,λx hx=>?_,h8,oS,fq.1,λh0=>?_,λh0=>?_,g3⟩
      ·simp only[List.mem_cons]at hx
       rcases hx with rfl|rfl|rfl|hx
       ·exact r2
       ·exact gy
       ·exact gV
       ·exact g1 x hx
      ·have Dr:y=x:=Option.some.inj (h2.symm.trans hx)
       subst Dr
       have h3:y=(A.sl b sh.length o (.const 0) len cap).den ρ m:=h3
       rw[h3]
       simp only[A.den,J.aS]
       split<;>simp
      ·obtain⟨q0,cells,e9,fz,k1,⟨k2,k3⟩,k4⟩:=fq.2 h0
       exact⟨q0,cells,e9,fz,k1,k3⟩
      ·exact⟨b,_,hbl,rfl,gi (by decide) h0⟩
     ·cases he
   ·cases he
  ·cases he
theorem kX.mono {w:World} {tmps:Array Value} {D F F':Nat->Prop} (hF:∀g,F g->F' g):∀{l:List (Nat×List az)} {gs:List Nat} {os zs:List Int},kX w0 w tmps D F l gs os zs->kX w0 w tmps D F' l gs os zs
 |[],[],[],[],_=>trivial
 |(s,sh)::r,g::gs,o::os,code::len::cap::zs,⟨f1,f2,f3,f4,f5,f6,f7⟩=>⟨f1,f2,f3,f4,f5,λh=>hF g (f6 h),kX.mono hF f7⟩
 |_::_,[],_,_,h=>h.elim
 |_::_,_::_,[],_,h=>h.elim
 |_::_,_::_,_::_,[],h=>h.elim
 |_::_,_::_,_::_,[_],h=>h.elim
 |_::_,_::_,_::_,[_,_],h=>h.elim
 |[],_::_,_,_,h=>h.elim
 |[],[],_::_,_,h=>h.elim
 |[],[],[],_::_,h=>h.elim
theorem Bb {lo:Nat} {tm:List V} {bl:List ay}:∀{l:List (Nat×List az×TypeId)} {used:List Nat} {ls:List J} {u:List Nat},m4 lo l tm bl used=some (ls,u)->∀b∈u,b∈used∨∃sh off code cap t,bl[b]?=some ([.rows sh off code cap 2],t)
 |[],used,ls,u,he=>by
  simp only[m4,Option.some.injEq,Prod.mk.injEq]at he
  obtain⟨rfl,rfl⟩:=he
  exactλb hb=> .inl hb
 |(s,sh,e)::r,used,ls,u,he=>by
  unfold m4 at he
  split at he
  ·split at he
   ·rename_i l1 oX hr
    simp only[Option.some.injEq,Prod.mk.injEq]at he
    obtain⟨rfl,rfl⟩:=he
    exact Bb hr
   ·cases he
  ·rename_i b aV o ro len cap hs
   split at he
   ·rename_i cp off code cv kind t hbl
    cases hc:(hW sh cp&&Nat.beq kind 2&&J.beq o (.const 0)&&J.beq off (.const 0)&&J.beq ro (.const 0)&&J.beq cap cv&&Nat.beq t.1 e&&Nat.beq aV sh.length&&Nat.ble lo b&& !(used.any (Nat.beq b)))with
    |false=>rw[hc]at he;cases he
    |true=>
     rw[hc]at he
     simp only[cond_true]at he
     split at he
     ·rename_i l1 oX hr
      simp only[Option.some.injEq,Prod.mk.injEq]at he
      obtain⟨rfl,rfl⟩:=he
      simp only[Bool.and_eq_true]at hc
      obtain⟨⟨⟨⟨⟨⟨⟨⟨⟨c1,aU⟩,bL⟩,b7⟩,dv⟩,e0⟩,lI⟩,lJ⟩,pe⟩,Bw⟩:=hc
      have aU:=Nat.eq_of_beq_eq_true aU
      subst aU
      intro bX hb'
      rcases Bb hr bX hb' with h5|h5
      ·rcases List.mem_cons.1 h5 with rfl|h5
       ·exact .inr ⟨_,_,_,_,_,hbl⟩
       ·exact .inl h5
      ·exact .inr h5
     ·cases he
   ·cases he
  ·cases he
theorem DN {i:Nat} {p:ay}:∀{us:List Nat} {bl:List ay},bl[i]?=some p->i∉us->(iq us bl)[i]?=some p
 |[],bl,h,_=>h
 |b::r,bl,h,hi=>by
  unfold iq
  split
  ·refine DN ?_ λh=>hi (List.mem_cons_of_mem _ h)
   rw[hV,List.getElem?_set_ne (λe=>hi (by simp[e]))];exact h
  ·exact DN h λh=>hi (List.mem_cons_of_mem _ h)
theorem Je {N:Nat} {a8:Env} {a:Act} {w:World} {D F:Nat->Prop}:∀{l:List (Nat×List az)} {gs:List Nat} {os zs:List Int} {v u:Nat} {tm:List V} {bl:List ay} {m:Nat->Nat},R w0 N a8 m tm bl a w->(∀g,D g->bD w0 a8 m bl g)->mi w0 a8 m bl w D->kX w0 w a.tmps D F l gs os zs->(∀g,F g->∀(i:Nat) (p:ay),bl[i]?=some p->m i=g->a6 a8 p.1<=1)->
 (∀j,j<zs.length->a8 (v+j)=zs.getD j 0)->(∀j,j<os.length->a8 (u+j)=os.getD j 0)->v+zs.length<=N->u+os.length<=N->
 ∃dU,(∀b,b<bl.length->dU b=m b)/\bl.length<=(headD l v u tm bl).2.length/\R w0 N a8 dU (headD l v u tm bl).1 (headD l v u tm bl).2 a w/\(∀(i:Nat) (p:ay),(headD l v u tm bl).2[i]?=some p->(i<bl.length/\bl[i]?=some p)∨(a6 a8 p.1≠0->F (dU i)))/\(∀g,D g->bD w0 a8 dU (headD l v u tm bl).2 g)/\mi w0 a8 dU (headD l v u tm bl).2 w D
 |[],[],[],[],v,u,tm,bl,m,h,og,hU,_,_,_,_,_,_=>⟨m,λ_ _=>rfl,Nat.le_refl _,h,λi p hp=> .inl ⟨(List.getElem?_eq_some_iff.1 hp).1,hp⟩,og,hU⟩
 |(s,sh)::r,g::gs,o::os,code::len::cap::zs,v,u,tm,bl,m,h,og,hU,hf,hF,hv,hu,hN,Ck=>by
  obtain⟨f1,f2,f3,f4,f5,f6,f7⟩:=hf
  have v0:=hv 0 (by simp)
  have v1:=hv 1 (by simp)
  have v2:=hv 2 (by simp)
  have u0:=hu 0 (by simp)
  simp only[List.getD_cons_zero,List.getD_cons_succ,Nat.add_zero]at v0 v1 v2 u0
  simp only[List.length_cons]at hN Ck
  have hc:(-2:Int)<=cap/\cap<=9223372036854775807:=⟨f2.2.1.1,by have:=f2.2.1.2;omega⟩
  have hA:(A.rows sh (.var u) (.var v) (.var (v+2)) 1).ok N bl.length a8:=⟨⟨J.c9 (by omega),J.c9 (by omega),J.c9 (by omega)⟩,by rw[J.bH,v0];exact f3,by rw[J.bH,v2];exact hc⟩
  have C1:a6 a8 [A.rows sh (.var u) (.var v) (.var (v+2)) 1]<=1:=by
   simp only[a6]
   split<;>omega
  have rh:∀bA,D bA->bD w0 a8 (fa m bl.length g) (bl++[([.rows sh (.var u) (.var v) (.var (v+2)) 1],(0,false))]) bA:=λbA gL=>(og bA gL).push (.inl C1)
  have gN:fE w0 a8 D g sh (.var u) (.var v) (.var (v+2)) 1 0 w:=by
   intro _
   simp only[J.bH,v0,v2,u0]
   refine⟨f4,λh0=>?_⟩
   obtain⟨cX,cells,t,fz,k1,k2⟩:=f5 h0
   exact⟨cX,cells,t,fz,k1,⟨f2.1.1,k2⟩,λbm=>by omega⟩
  have Cm:mi w0 a8 (fa m bl.length g) (bl++[([.rows sh (.var u) (.var v) (.var (v+2)) 1],(0,false))]) w D:=λi cp cY code' cV dY t' hi=>by
   rcases xd hi with⟨bM,h1⟩|⟨rfl,h1⟩
   ·rw[fY bM];exact hU i cp cY code' cV dY t' h1
   ·cases h1
    rw[hZ];exact gN
  have hE:=h.bk.push (x:=([.rows sh (.var u) (.var v) (.var (v+2)) 1],(0,false))) (g:=g) h.b (λy hy=>by simp at hy;subst hy;exact hA) (λho=>by cases ho) (λcp cY code' cV dY he=>by
   cases he
   exact gN.mono rh) (λi p hi he=>by
   rcases Int.lt_or_le cap 0 with h0|h0
   ·refine .inr (.inr ?_)
    simp only[a6,J.bH,v2]
    rw[if_pos h0]
   ·exact .inl ⟨hF g (f6 h0) i p hi he,C1⟩) (λi cp cY code' cV dY t' hi=>(hU i cp cY code' cV dY t' hi).mono rh)
  have hL:=cw.alloc N a8 m bl ([A.rows sh (.var u) (.var v) (.var (v+2)) 1],(0,false)) g
  have hR:R w0 N a8 (fa m bl.length g) (mR tm s (.w (.one (.sl bl.length sh.length (.var u) (.const 0) (.var (v+1)) (.var (v+2)))))) (bl++[([.rows sh (.var u) (.var v) (.var (v+2)) 1],(0,false))]) a w:=by
   refine⟨cI.set (h.t.ext hL.ha hL.hn hL.hb hL.hm) ?_ λx hx=>?_,h.d,h.b.alloc (λy hy=>by simp at hy;subst hy;exact hA),hE⟩
   ·refine⟨by simp,⟨J.c9 (by omega),J.bS _ _,J.c9 (by omega),J.c9 (by omega)⟩,?_⟩
    simp only[J.aS,J.bH,v1,v2,u0];exact f2
   ·rw[f1 x hx]
    simp only[V.rel,W.den,A.den,J.aS,J.bH,v1,v2,u0,hZ]
    split<;>simp
  obtain⟨dU,q1,q2,q3,q4,lC,l6⟩:=Je (F:=F) (l:=r) (gs:=gs) (os:=os) (zs:=zs) (v:=v+3) (u:=u+1) hR rh Cm f7 (λbA gL i p hi he=>by
   rw[List.getElem?_append]at hi
   split at hi
   ·rename_i bM
    rw[fY bM]at he
    exact hF bA gL i p hi he
   ·have bM:=(List.getElem?_eq_some_iff.1 hi).1
    have:i=bl.length:=by simp at bM;omega
    subst this
    simp only[Nat.sub_self,List.getElem?_cons_zero,Option.some.injEq]at hi
    subst hi
    exact C1) (λj hj=>by
   have:=hv (j+3) (by simp only[List.length_cons];omega)
   rw[show v+3+j=v+(j+3) by omega];simpa using this) (λj hj=>by
   have:=hu (j+1) (by simp only[List.length_cons];omega)
   rw[show u+1+j=u+(j+1) by omega];simpa using this) (by omega) (by omega)
  simp only[List.length_append,List.length_cons,List.length_nil]at q1 q2
  refine⟨dU,λb hb=>by rw[q1 b (by omega)];exact fY hb,by unfold headD;omega,by unfold headD;exact q3,λi p hp=>?_,by unfold headD;exact lC,by unfold headD;exact l6⟩
  unfold headD at hp
  rcases q4 i p hp with⟨q5,q6⟩|q5
  ·simp only[List.length_append,List.length_cons,List.length_nil]at q5
   rw[List.getElem?_append]at q6
   split at q6
   ·rename_i bM;exact .inl ⟨bM,q6⟩
   ·rename_i bM
    have hi:i=bl.length:=by omega
    subst hi
    simp only[Nat.sub_self,List.getElem?_cons_zero,Option.some.injEq]at q6
    subst q6
    refine .inr λh0=>?_
    rw[q1 bl.length (by omega),hZ]
    refine f6 ?_
    rcases Int.lt_or_le cap 0 with h1|h1
    ·refine absurd ?_ h0
     simp only[a6,J.bH,v2]
     rw[if_pos h1]
    ·exact h1
  ·exact .inr q5
 |_::_,[],_,_,_,_,_,_,_,_,_,_,h,_,_,_,_,_=>h.elim
 |_::_,_::_,[],_,_,_,_,_,_,_,_,_,h,_,_,_,_,_=>h.elim
 |_::_,_::_,_::_,[],_,_,_,_,_,_,_,_,h,_,_,_,_,_=>h.elim
 |_::_,_::_,_::_,[_],_,_,_,_,_,_,_,_,h,_,_,_,_,_=>h.elim
 |_::_,_::_,_::_,[_,_],_,_,_,_,_,_,_,_,h,_,_,_,_,_=>h.elim
 |[],_::_,_,_,_,_,_,_,_,_,_,_,h,_,_,_,_,_=>h.elim
 |[],[],_::_,_,_,_,_,_,_,_,_,_,h,_,_,_,_,_=>h.elim
 |[],[],[],_::_,_,_,_,_,_,_,_,_,h,_,_,_,_,_=>h.elim
theorem Jf {D:Nat->Prop} {li:c0} {n:Nat} {bw ag:Env} {m0 m':Nat->Nat} {tm bB gS oW:List V} {bl aW ez n3:List ay} {l1 l2 v1 v2 lb la fA:List J} {b1 b2 sQ qK:List (Int×Int)} {n':Nat} {a:Act} {w:World} {NA ND NN:Nat} {gs:List Nat} {os:List Int}
 (hlen:bl.length<=aW.length)
 (ha:agree n bw ag) (hm:∀b,b<bl.length->m' b=m0 b) (ht:∀v∈tm,V.ok n bl.length bw v) (gJ:bQ n bl.length bw bl)
 (h:R w0 n' ag m' bB aW a w) (e1:hs li.keep li.ints 0 (n+1) tm=some (gS,l1,b1)) (e2:hb li.cells 0 (n+1+l1.length) bl=some (ez,l2,b2))
 (e3:hs li.keep li.ints 0 (n+1) bB=some (oW,v1,sQ)) (en:hb li.cells 0 (n+1+v1.length) (aW.take bl.length)=some (n3,v2,qK))
 (f1:iU gS oW=true) (f2:kb ez n3=true) (IY:sG a.tmps li.kA (lb.map (·.den ag))) (tr:qq w0 w a.tmps D (λg=>(∀(i:Nat) (p:ay),i<bl.length->aW[i]?=some p->m' i=g->a6 ag p.1=0)/\¬∃(i:Nat) (p:ay),aW[i]?=some p/\m' i=g/\a6 ag p.1=1) li.j5 (la.map (·.den ag)))
 (og:∀g,D g->bD w0 ag m' aW g) (hU:mi w0 ag m' aW w D)
 (tM:kX w0 w a.tmps D (λg=>∃(i:Nat) (p:ay),aW[i]?=some p/\m' i=g/\a6 ag p.1=1) li.fL gs os (fA.map (·.den ag)))
 (IH:NA=n+1+l1.length+l2.length+lb.length) (II:ND=n+1+l1.length+l2.length+(lb++la).length) (IJ:NN=n+1+l1.length+l2.length+(lb++la++fA).length):
 bI (b1++b2++(yd li.kA++qE li.j5++qb li.fL)) ((v1++v2++(lb++la++fA)).map (·.den ag))/\∃dU,(∀b,b<bl.length->dU b=m0 b)/\bl.length<=(lp li.j5 NA (headD li.fL ND NN (mA li.kA (n+1+l1.length+l2.length) gS) ez).1 (headD li.fL ND NN (mA li.kA (n+1+l1.length+l2.length) gS) ez).2).2.length/\
  R w0 (NN+li.fL.length) (bP (bP bw (n+1) ((v1++v2++(lb++la++fA)).map (·.den ag))) NN os) dU (lp li.j5 NA (headD li.fL ND NN (mA li.kA (n+1+l1.length+l2.length) gS) ez).1 (headD li.fL ND NN (mA li.kA (n+1+l1.length+l2.length) gS) ez).2).1 (lp li.j5 NA (headD li.fL ND NN (mA li.kA (n+1+l1.length+l2.length) gS) ez).1 (headD li.fL ND NN (mA li.kA (n+1+l1.length+l2.length) gS) ez).2).2 a w:=by
 obtain⟨Si,i1,i2,i3,i4,i5,i6⟩:=QT (D:=D) (ext:=lb++la++fA) hlen ha hm ht gJ h e1 e2 e3 en f1 f2 og hU
 obtain⟨RJ,aaq⟩:=tM.len
 subst IH;subst II;subst IJ
 have pE:∀j,j<(lb++la++fA).length->bP bw (n+1) ((v1++v2++(lb++la++fA)).map (·.den ag)) (n+1+l1.length+l2.length+j)=((lb++la++fA).map (·.den ag)).getD j 0:=λj hj=>by
  rw[show n+1+l1.length+l2.length+j=n+1+(v1.length+v2.length+j) by omega,xE _ _ _ _ (by simp at hj⊢;omega)]
  rw[List.map_append (l₁:=v1++v2),List.getD_eq_getElem?_getD,List.getElem?_append_right (by simp),List.getD_eq_getElem?_getD]
  congr 2
  simp
 generalize aaw:bP bw (n+1) ((v1++v2++(lb++la++fA)).map (·.den ag))=a8 at*
 have lQ:agree (n+1+l1.length+l2.length+(lb++la++fA).length) a8 (bP a8 (n+1+l1.length+l2.length+(lb++la++fA).length) os):=agree.bP os _ a8
 have Sw:=i2.later (Nat.le_add_right _ li.fL.length) lQ
 have CO:∀j,j<(lb++la++fA).length->bP a8 (n+1+l1.length+l2.length+(lb++la++fA).length) os (n+1+l1.length+l2.length+j)=((lb++la++fA).map (·.den ag)).getD j 0:=λj hj=>by
  rw[<-pE j hj]
  exact(lQ _ (by omega))
 have y7:∀(i:Nat) (p:ay),ez[i]?=some p->a6 (bP a8 (n+1+l1.length+l2.length+(lb++la++fA).length) os) p.1=a6 a8 p.1:=λi p hi=>jy (i2.b p (List.mem_of_getElem? hi)) lQ
 have Sx:∀g,D g->bD w0 (bP a8 (n+1+l1.length+l2.length+(lb++la++fA).length) os) m0 ez g:=λg hg=>bD.dA i2.b lQ (i5 g hg)
 have Sy:mi w0 (bP a8 (n+1+l1.length+l2.length+(lb++la++fA).length) os) m0 ez w D:=λi sh off code cap kind t hi=>(i6 i sh off code cap kind t hi).dA (i2.b _ (List.mem_of_getElem? hi) _ (by simp)) lQ
 generalize Sv:bP a8 (n+1+l1.length+l2.length+(lb++la++fA).length) os=ei at*
 have hB:=Jd (v:=n+1+l1.length+l2.length) Sw IY (λj hj=>by
  simp only[List.length_map]at hj
  rw[CO j (by simp;omega),List.append_assoc,List.map_append,List.getD_eq_getElem?_getD,List.getElem?_append_left (by simpa using hj),List.getD_eq_getElem?_getD]) (by simp;omega)
 obtain⟨jf,p1,bz,b5,eg,eK,fJ⟩:=Je (D:=D) (v:=n+1+l1.length+l2.length+(lb++la).length) (u:=n+1+l1.length+l2.length+(lb++la++fA).length) hB Sx Sy tM (λg hg i p hi he=>by
  obtain⟨g1,bU,g2,g3⟩:=i4 i p hi
  rw[y7 i p hi,g3]
  obtain⟨j,q,q1,q2,q3⟩:=hg
  rcases h.bk.inj i j bU q g2 q1 (by rw[q2,<-he,hm i g1])with bm|bm|bm|bm
  ·subst bm
   rw[g2]at q1;cases q1
   omega
  ·exact bm.1
  ·omega
  ·omega) (λj hj=>by
  simp only[List.length_map]at hj
  rw[show n+1+l1.length+l2.length+(lb++la).length+j=n+1+l1.length+l2.length+((lb++la).length+j) by omega,CO _ (by simp at hj⊢;omega),List.map_append (l₁:=lb++la),List.getD_eq_getElem?_getD,List.getElem?_append_right (by simp),List.getD_eq_getElem?_getD]
  congr 2
  simp) (λj hj=>by rw[<-Sv,xE _ _ _ _ hj]) (by simp only[List.length_map,List.length_append];omega) (by rw[RJ];exact Nat.le_refl _)
 obtain⟨dU,q1,q2,q3⟩:=Jc (v:=n+1+l1.length+l2.length+lb.length) b5 eK fJ tr (λg hg i p hi he=>by
  rcases eg i p hi with⟨g0,g1⟩|g1
  ·obtain⟨gw,bU,g2,g3⟩:=i4 i p g1
   rw[y7 i p g1,g3]
   exact hg.1 i bU gw g2 (by rw[hm i gw,<-p1 i g0];exact he)
  ·by_cases h0:a6 ei p.1=0
   ·exact h0
   ·have:=g1 h0
    rw[he]at this
    exact absurd this hg.2) (λj hj=>by
  simp only[List.length_map]at hj
  rw[show n+1+l1.length+l2.length+lb.length+j=n+1+l1.length+l2.length+(lb.length+j) by omega,CO _ (by simp;omega),List.append_assoc,List.map_append,List.getD_eq_getElem?_getD,List.getElem?_append_right (by simp),List.map_append,List.getElem?_append_left (by simp;omega),List.getD_eq_getElem?_getD]
  congr 2
  simp) (by simp;omega)
 refine⟨?_,dU,λb hb=>by rw[q1 b (by rw[i3]at bz;omega),p1 b (by rw[i3];exact hb)],by rw[i3]at bz;omega,q3⟩
 rw[List.map_append,List.map_append (l₁:=lb++la),List.map_append (l₁:=lb)]
 exact oG i1 (oG (oG (J6 IY) (J4 tr)) (J7 tM))
theorem Br {a b c:Nat} (h:a=c) (h':b=c):b=a:=h'.trans h.symm
theorem zy {n:Nat} {ρ:Env} {m:Nat->Nat} {tm:List V} {a:Act} {w:World}:∀{l:List (Nat×List az)} {bl:List ay} (bB:List V),R w0 n ρ m tm bl a w->R w0 n ρ m tm (p3 l bB bl) a w/\(p3 l bB bl).length=bl.length
 |[],bl,bB,h=>⟨h,rfl⟩
 |(s,_)::r,bl,bB,h=>by
  unfold p3
  split
  ·rename_i x _
   obtain⟨h1,h2⟩:=KC h x
   obtain⟨h3,h4⟩:=zy (l:=r) bB h1
   exact⟨h3,by rw[h4,h2]⟩
  ·exact zy (l:=r) bB h
theorem TQ {li:c0} {c:Code} {e:Nat->List V->List ay->jJ->T} (hd:rd=none∨jg c=true) (he:xK rd S L w0 P c e) {Q:Exit->Act->World->Prop} {n:Nat} {ρ:Env} {m:Nat->Nat} {tm:List V} {bl:List ay} {a:Act} {w:World} {G:cN} {k:jJ}
 (h:R w0 n ρ m tm bl a w) (al:(D7 li e n tm bl k).holds S L G ρ) (hk:qv S L w0 k n bl.length ρ m G Q):(Code.loop c).wpIn (kt rd) 0 P Q a w:=by
 unfold D7 at al
 obtain⟨MZ,K1,Hf,JC,IU,⟨hz1,wL⟩,al⟩:=EW (S:=S) (L:=L) h G _ al
 have hk:=hk.later (⟨JC,IU,by rw[wL];exact Nat.le_refl _,λ_ _=>rfl⟩:cw n bl.length ρ m K1 Hf.length MZ m) (c5.refl _ G)
 clear h
 have h:=hz1
 clear hz1 wL JC IU
 revert h hk al
 generalize K1=n
 generalize MZ=ρ
 generalize Hf=bl
 intro al hk h
 obtain⟨bw,n0,tm,jt,ha0,R9,al⟩:=vD (S:=S) (L:=L) h.t G _ al
 have vH:=h.later jt ha0
 have h:R w0 n0 bw m tm bl a w:=⟨R9,vH.d,vH.b,vH.bk⟩
 have hk:=hk.later (⟨jt,ha0,Nat.le_refl _,λ_ _=>rfl⟩:cw n bl.length ρ m n0 bl.length bw m) (c5.refl _ G)
 obtain⟨aG,n1,lb,c7,cn,⟨s1,s2,nI⟩,al⟩:=Bs (S:=S) (L:=L) h.t G _ al
 have h1:=h.later c7 cn
 have hk:=hk.later (⟨c7,cn,Nat.le_refl _,λ_ _=>rfl⟩:cw n0 bl.length bw m n1 bl.length aG m) (c5.refl _ G)
 split at al
 rotate_left
 ·exact al.elim
 rename_i gS l1 b1 la us fA e1 HY O2
 obtain⟨a1,a2,_,_,a5⟩:=xV h1 HY
 obtain⟨k1,k2,k3⟩:=DO (us:=us) h1
 obtain⟨r1,r2,gs,os,eR⟩:=xg h1 O2
 cases e2:hb li.cells 0 (n1+1+l1.length) (iq us bl)with
 |none=>rw[e2]at al;exact al.elim
 |some q2=>
  obtain⟨ez,l2,b2⟩:=q2
  rw[e2]at al
  simp only at al
  cases hf:(iU gS gS&&kb ez ez)with
  |false=>rw[hf]at al;exact al.elim
  |true=>
   rw[hf]at al
   simp only[Bool.not_true,cond_false,T.holds]at al
   simp only[Bool.and_eq_true]at hf
   obtain⟨I,kT,PQ,hB⟩:=al
   have JR:∀v∈tm,V.ok n1 (iq us bl).length aG v:=λv hv=>by
    obtain⟨i,hi⟩:=List.getElem?_of_mem hv
    exact(k1.t.2 i v hi).1
   have OW:hb li.cells 0 (n1+1+l1.length) ((iq us bl).take (iq us bl).length)=some (ez,l2,b2):=by rw[List.take_length];exact e2
   have Qn:qq w0 w a.tmps (bD w0 aG m bl) (λg=>(∀(i:Nat) (p:ay),i<(iq us bl).length->(iq us bl)[i]?=some p->m i=g->a6 aG p.1=0)/\¬∃(i:Nat) (p:ay),(iq us bl)[i]?=some p/\m i=g/\a6 aG p.1=1) li.j5 (la.map (·.den aG)):=by
    refine a5 _ λb p hb _ hbl e7 gf=>?_
    have key:∀(i:Nat) (q:ay),(iq us bl)[i]?=some q->m i=m b->a6 aG q.1=0:=λi q hi he=>by
     rcases k3 i q hi with⟨g1,g2⟩|g1
     ·by_cases ff:i=b
      ·subst ff
       rw[hbl]at g1;cases g1
       rcases g2 hb with g2|g2
       ·rw[gf]at g2;cases g2
       ·exact g2
      ·rcases h1.bk.inj i b q p g1 hbl he with g3|g3|g3|g3
       ·exact absurd g3 ff
       ·omega
       ·exact g3
       ·omega
     ·exact g1
    exact⟨λi q _ hi he=>key i q hi he,λ⟨i,q,hi,he,hk⟩=>by have:=key i q hi he;omega⟩
   have tM:kX w0 w a.tmps (bD w0 aG m bl) (λg=>∃(i:Nat) (p:ay),(iq us bl)[i]?=some p/\m i=g/\a6 aG p.1=1) li.fL gs os (fA.map (·.den aG)):=by
    refine eR.mono λg ⟨i,p,hi,he,hk⟩=>⟨i,p,DN hi λhu=>?_,he,hk⟩
    rcases Bb HY i hu with bm|⟨sh,off,code,cap,t,bm⟩
    ·simp at bm
    ·rw[hi]at bm
     cases bm
     simp only[a6]at hk
     split at hk<;>omega
   obtain⟨i1,dU,i2,i3,i4⟩:=Jf (Nat.le_refl _) (agree.refl n1 aG) (λ_ _=>rfl) JR k1.b k1 e1 e2 e1 OW hf.1 hf.2 nI Qn (λg hg=>⟨hg.1,λi p hi hk=>by
    rcases k3 i p hi with⟨g1,_⟩|g1
    ·exact hg.2 i p g1 hk
    ·omega⟩) (λi sh off code cap kind t hi=>by
    rcases k3 i _ hi with⟨g1,_⟩|g1
    ·exact h1.bk.rws i sh off code cap kind t g1
    ·intro fR
     refine⟨(k1.bk.rws i sh off code cap kind t hi fR).1,λhc=>?_⟩
     simp only[gi fR hc]at g1
     exact absurd g1 fR) tM rfl rfl rfl
   generalize IJ:n1+1+l1.length+l2.length+(lb++la++fA).length=NN at*
   generalize II:n1+1+l1.length+l2.length+(lb++la).length=ND at*
   generalize IH:n1+1+l1.length+l2.length+lb.length=NA at*
   generalize QP:headD li.fL ND NN (mA li.kA (n1+1+l1.length+l2.length) gS) ez=d at*
   refine wpIn_loop_ghost (λN cR w'=>∃zs os dU,bI (b1++b2++(yd li.kA++qE li.j5++qb li.fL)) zs/\I zs/\kT zs=N/\(os.length=li.fL.length/\∀z∈os,0<=z)/\(∀b,b<(iq us bl).length->dU b=m b)/\
    R w0 (NN+li.fL.length) (bP (bP aG (n1+1) zs) NN os) dU (lp li.j5 NA d.1 d.2).1 (lp li.j5 NA d.1 d.2).2 cR w') (kT ((l1++l2++(lb++la++fA)).map (·.den aG))) ⟨_,os,dU,i1,PQ,rfl,tM.len,i2,i4⟩ ?_
   rintro N a1 w1 ⟨zs,Et,dU,hz1,wL,rfl,⟨tR,oE⟩,Sr,ik⟩
   have tw:=natsM_holds (nY hB hz1 wL) tR oE
   refine he hd _ _ _ _ _ _ _ a1 w1 _ ik tw λx n' ag m' bB aW cU cR w' h1 h2 h3 h4=>?_
   have rn:agree n1 aG (bP aG (n1+1) zs):=(agree.bP _ (n1+1) aG).mono (by omega)
   have Qq:agree n1 aG (bP (bP aG (n1+1) zs) NN Et):=rn.trans (agree.bP Et NN _) (by omega)
   have PR:cw n1 bl.length aG m (NN+li.fL.length) (lp li.j5 NA d.1 d.2).2.length (bP (bP aG (n1+1) zs) NN Et) dU:=⟨by omega,Qq,by rw[k2]at i3;exact i3,λb hb=>Sr b (by rw[k2];exact hb)⟩
   have pv:c5 n1 G (G.set n1 λvs=>I vs/\kT vs<kT zs):=λl hl=>by
    unfold cN.set
    cases hb:Nat.beq l n1 with
    |true=>have:=Nat.eq_of_beq_eq_true hb;omega
    |false=>rfl
   have hL:=PR.trans h1
   have PO:cU n1=λvs=>I vs/\kT vs<kT zs:=by
    rw[h2 n1 (by omega)]
    unfold cN.set
    have:Nat.beq n1 n1=true:=Nat.beq_refl n1
    rw[this];rfl
   cases x with
   |exit id=>exact hk (.exit id) n' ag m' bB aW cU cR w' hL (pv.trans h2 (by omega)) h3 h4
   |ret=>exact hk .ret n' ag m' bB aW cU cR w' hL (pv.trans h2 (by omega)) h3 h4
   |normal=>
    simp only at h4
    obtain⟨js,nm⟩:=zy (l:=li.fL) bB h3
    obtain⟨aW,QB⟩:∃Oa,Oa=p3 li.fL bB aW:=⟨_,rfl⟩
    rw[<-QB]at h4 js nm
    rw[<-nm]at hL
    have h3:=js
    obtain⟨FM,w6,bB,JA,IQ,Sb,h4⟩:=vD (S:=S) (L:=L) h3.t cU _ h4
    have ps:=h3.later JA IQ
    have h3:R w0 w6 FM m' bB aW cR w':=⟨Sb,ps.d,ps.b,ps.bk⟩
    have hL:=hL.trans (⟨JA,IQ,Nat.le_refl _,λ_ _=>rfl⟩:cw n' aW.length ag m' w6 aW.length FM m')
    obtain⟨lF,uu,Kr,cO,cC,⟨t1,t2,t3⟩,h4⟩:=Bs (S:=S) (L:=L) h3.t cU _ h4
    have h3:=h3.later cO cC
    split at h4
    rotate_left
    ·exact h4.elim
    rename_i oW v1 sQ DT ji KD e3 O1 O3
    obtain⟨c1,aU,_,b7,dv⟩:=xV h3 O1
    obtain⟨d1,d2,Z0,xa,d3⟩:=xg h3 O3
    cases en:hb li.cells 0 (n1+1+v1.length) (aW.take bl.length)with
    |none=>rw[en]at h4;exact h4.elim
    |some q4=>
     obtain⟨n3,v2,qK⟩:=q4
     rw[en]at h4
     simp only at h4
     cases fe:(iU gS oW&&kb ez n3)with
     |false=>rw[fe]at h4;exact h4.elim
     |true=>
      rw[fe]at h4
      simp only[cond_true,T.holds,PO]at h4
      simp only[Bool.and_eq_true]at fe
      have hL2:=hL.trans (⟨cO,cC,Nat.le_refl _,λ_ _=>rfl⟩:cw w6 aW.length FM m' uu aW.length lF m')
      have Qo:qq w0 w' cR.tmps (bD w0 lF m' aW) (λg=>(∀(i:Nat) (p:ay),i<(iq us bl).length->aW[i]?=some p->m' i=g->a6 lF p.1=0)/\¬∃(i:Nat) (p:ay),aW[i]?=some p/\m' i=g/\a6 lF p.1=1) li.j5 (DT.map (·.den lF)):=by
       refine dv _ λb p hb _ hbl e7 gf=>⟨λi q bM hi he=>?_,λ⟨i,q,hi,he,hk⟩=>?_⟩
       ·have I1:bl.length<=b:=by
         rcases b7 b hb with h|h
         ·simp at h
         ·exact h
        rw[k2]at bM
        rcases h3.bk.inj i b q p hi hbl he with g3|g3|g3|g3
        ·omega
        ·omega
        ·exact g3
        ·omega
       ·rcases h3.bk.inj i b q p hi hbl he with g3|g3|g3|g3
        ·subst g3
         rw[hi]at hbl;cases hbl
         omega
        ·omega
        ·omega
        ·omega
      obtain⟨gP,r9,SP,aaz,Kg⟩:=Jf (NA:=NA) (ND:=ND) (NN:=NN) (by rw[k2];exact hL2.hb) hL2.ha (λb hb=>hL2.hm b (by rw[k2]at hb;exact hb)) JR k1.b h3 e1 e2 e3 (by rw[k2];exact en) fe.1 fe.2 t3 Qo (λg hg=>hg) h3.bk.rws d3 (by have:=t2;have:=Br s2 t2;omega) (by have:=Br s2 t2;simp only[List.length_append]at*;omega) (by have:=Br s2 t2;simp only[List.length_append]at*;omega)
      rw[QP]at Kg
      exact⟨_,h4.2,_,xa,r9,gP,h4.1,rfl,d3.len,SP,Kg⟩
theorem TP {li:c0} {c:Code} {e:Nat->List V->List ay->jJ->T} (hd:rd=none∨jg c=true) (he:xK rd S L w0 P c e) {Q:Exit->Act->World->Prop} {n:Nat} {ρ:Env} {m:Nat->Nat} {tm:List V} {bl:List ay} {a:Act} {w:World} {G:cN} {k:jJ}
 (h:R w0 n ρ m tm bl a w) (al:(D6 li e n tm bl k).holds S L G ρ) (hk:qv S L w0 k n bl.length ρ m G Q):(Code.loop c).wpIn (kt rd) 0 P Q a w:=by
 unfold D6 at al
 obtain⟨h1,h2⟩:=zy (l:=li.fL) tm h
 exact TQ hd he h1 al (by rw[h2];exact hk)
theorem toL {ops:Array Oper}:ops.toList.toArray=ops:=Array.toArray_toList
theorem B8 (N:Nat):∀(i:Nat) (bl:List ay),(eH N i bl).length=bl.length
 |_,[]=>rfl
 |i,_::r=>by simp[eH,B8 N (i+1) r]
theorem th (N:Nat):∀(i:Nat) (bl:List ay) (k:Nat) (p:ay),(eH N i bl)[k]?=some p->p=pg∨(i+k<N/\(bO p.1||nu p.1)=true/\bl[k]?=some p)
 |_,[],k,p,h=>by simp[eH]at h
 |i,q::r,0,p,h=>by
  simp only[eH,List.getElem?_cons_zero,Option.some.injEq]at h
  cases hc:(Nat.blt i N&&(bO q.1||nu q.1))with
  |false=>rw[hc]at h;exact .inl h.symm
  |true=>
   rw[hc]at h
   simp only[cond_true]at h
   subst h
   simp only[Bool.and_eq_true]at hc
   exact .inr ⟨by simpa using k5 hc.1,hc.2,rfl⟩
 |i,q::r,k+1,p,h=>by
  rcases th N (i+1) r k p (by simpa [eH]using h)with h1|⟨h1,h2,h3⟩
  ·exact .inl h1
  ·exact .inr ⟨by omega,h2,by simpa using h3⟩
theorem Ls:∀{a b:List ay},preB a b=true->∀(k:Nat) (p:ay),a[k]?=some p->b[k]?=some p
 |[],_,_,_,_,h=>by simp at h
 |(c,t)::r,(c',t')::s,hf,k,p,h=>by
  simp only[preB,Bool.and_eq_true]at hf
  obtain⟨⟨⟨h1,h2⟩,h3⟩,h4⟩:=hf
  cases k with
  |zero=>
   have e1:=vp h1;have e2:=Nat.eq_of_beq_eq_true h2;have e3:t.2=t'.2:=by simpa using h3
   have:t=t':=Prod.ext e2 e3
   subst e1;subst this
   simpa using h
  |succ k=>have:=Ls h4 k p (by simpa using h);simpa using this
 |_::_,[],h,_,_,_=>by simp[preB]at h
theorem SO {c:List A} (h:nu c=true):∃sh off code cap,c=[.rows sh off code cap 1]:=by
 unfold nu at h
 split at h
 ·rename_i sh off code cap k
  have:=Nat.eq_of_beq_eq_true h
  subst this
  exact⟨sh,off,code,cap,rfl⟩
 ·cases h
def z8 (ρ a8:Env) (c:List A):Prop:=∀sh off code cap k,c=[.rows sh off code cap k]->off.den a8=off.den ρ/\code.den a8=code.den ρ/\cap.den a8=cap.den ρ
theorem DQ {ρ a8:Env} {c:List A} (h:(bO c||nu c)=true) (hr:z8 ρ a8 c):a6 a8 c=a6 ρ c:=by
 rcases Bool.or_eq_true _ _▸h with h|h
 ·rw[jR h,jR h]
 ·obtain⟨sh,off,code,cap,rfl⟩:=SO h
  simp only[a6,(hr sh off code cap 1 rfl).2.2]
theorem Mem.sub {ρ a8:Env} {m dU:Nat->Nat} {bl jL:List ay} {w:World} (h:Mem w0 ρ m bl w) (hs:∀(i:Nat) (p:ay),jL[i]?=some p->p=pg∨(bl[i]?=some p/\(bO p.1||nu p.1)=true/\dU i=m i/\p.1.map (A.den a8 dU)=p.1.map (A.den ρ m)/\z8 ρ a8 p.1)):Mem w0 a8 dU jL w:=by
 have fR:a6 a8 pg.1=0:=by simp[pg,a6]
 refine⟨h.ext,h.gO,h.kk,h.ki,h.fG,h.ke,λi cs t hi ho=>?_,λi sh off code cap kind t hi=>?_,λi j p q hi hj he=>?_⟩
 ·rcases hs i _ hi with h1|⟨h1,_,h3,h4,_⟩
  ·cases h1;simp[bO]at ho
  ·rw[h3,h4];exact h.ec i cs t h1 ho
 ·rcases hs i _ hi with h1|⟨h1,h2,h3,_,h5⟩
  ·cases h1;intro hk;exact absurd rfl hk
  ·obtain⟨e1,e2,e3⟩:=h5 sh off code cap kind rfl
   have:=(h.rws i sh off code cap kind t h1).mono (F':=bD w0 a8 dU jL) (bD.mono λj p hj hk=>by
    rcases hs j p hj with g1|⟨g1,g2,g3,_,g5⟩
    ·subst g1;rw[fR]at hk;omega
    ·exact⟨j,p,g1,by rw[<-DQ g2 g5];exact hk,g3.symm⟩)
   unfold fE at this⊢
   rw[e1,e2,e3,h3];exact this
 ·rcases hs i _ hi with h1|⟨h1,h2,h3,_,h5⟩
  ·subst h1;exact .inr (.inr (.inl fR))
  ·rcases hs j _ hj with g1|⟨g1,g2,g3,_,g5⟩
   ·subst g1;exact .inr (.inr (.inr fR))
   ·rw[DQ h2 h5,DQ g2 g5]
    exact h.inj i j p q h1 g1 (by rw[<-h3,<-g3];exact he)
theorem bQ.eH {n nb:Nat} {ρ:Env} {bl:List ay} (h:bQ n nb ρ bl) (N:Nat):bQ n nb ρ (Go.bo.eH N 0 bl):=λp hp=>by
 obtain⟨i,hi⟩:=List.mem_iff_getElem?.1 hp
 rcases th N 0 bl i p hi with h1|⟨_,_,h3⟩
 ·subst h1
  intro a ha
  simp only[pg,List.mem_singleton]at ha
  subst ha
  exact⟨⟨J.bS _ _,J.bS _ _,J.bS _ _⟩,⟨by simp[J.aS],by rw[J.aS];exact Int.le_trans (dj []) (j3 (by simp) (λ_ h=>by cases h))⟩,by simp[J.aS]⟩
 ·exact h p (List.mem_of_getElem? h3)
theorem LW {n nb:Nat} {ρ ag:Env} {c:List A} (bb:∀a∈c,A.ok n nb ρ a) (ha:agree n ρ ag) (back:Bool):cond back (z8 ag ρ c) (z8 ρ ag c):=by
 have key:∀sh off code cap k,c=[.rows sh off code cap k]->off.den ag=off.den ρ/\code.den ag=code.den ρ/\cap.den ag=cap.den ρ:=λsh off code cap k hc=>by
  have:=bb _ (by rw[hc];exact List.mem_singleton.2 rfl)
  obtain⟨⟨h1,h2,h3⟩,_⟩:=this
  exact⟨J.bj ha h1,J.bj ha h2,J.bj ha h3⟩
 cases back with
 |true=>exactλsh off code cap k hc=>by obtain⟨h1,h2,h3⟩:=key sh off code cap k hc;exact⟨h1.symm,h2.symm,h3.symm⟩
 |false=>exact key
theorem QV {N:Nat} {tm:List V} {bl:List ay} {o:Oper} {a:Act} {w:World} {v:Value} (ho:y2 N tm bl o=true) (h:sK P o a w v):(execOp a.eval o).run P w= .ok (.value v) w:=by
 rcases h with h|⟨f,args,h,_⟩
 ·exact h
 ·exfalso
  have key:∀s:Sem Value,(do pure (Next.value (<-s)):Sem Next).run P w= .ok (.enter f args) w->False:=λs hs=>by
   simp only[Sem.run_bind]at hs
   cases hx:s.run P w with
   |ok u w'=>rw[hx]at hs;simp at hs
   |halt x w'=>rw[hx]at hs;simp at hs
  unfold y2 at ho
  split at ho
  ·rename_i op t x y u hop;exact key (eqGuard op t x y (a.eval x) (a.eval y) >>= λ_=>binOp op t (a.eval x) (a.eval y)) (by simpa [execOp,hop]using h)
  ·rename_i t x i hop;exact key (Instr.indexAt t (a.eval x) (a.eval i)) (by simpa [execOp,hop]using h)
  ·rename_i t x lo hi dV hop;exact key (Instr.sliceAt t (a.eval x) (lo.map a.eval) (hi.map a.eval) (dV.map a.eval)) (by simpa [execOp,hop]using h)
  ·rename_i t p hop;exact key (Instr.loadAt t (a.eval p)) (by simpa [execOp,hop]using h)
  ·cases ho
theorem QW {ops:Array Oper} {N:Nat} {tm:List V} {bl:List ay} {o:Oper} {a:Act} {w:World} {v:Value} (ho:y1 N tm bl o=true) (h:sK P o a w v):(execOp a.eval o).run P w= .ok (.value v) w:=by
 rcases h with h|⟨f,args,h,_⟩
 ·exact h
 ·exfalso
  have key:∀s:Sem Value,(do pure (Next.value (<-s)):Sem Next).run P w= .ok (.enter f args) w->False:=λs hs=>by
   simp only[Sem.run_bind]at hs
   cases hx:s.run P w with
   |ok u w'=>rw[hx]at hs;simp at hs
   |halt x w'=>rw[hx]at hs;simp at hs
  unfold y1 at ho
  split at ho
  ·rename_i x hop;simp[execOp,hop]at h
  ·rename_i x hop;simp[execOp,hop]at h
  ·rename_i x i hop;exact key (Instr.extract (a.eval x) i) (by simpa [execOp,hop]using h)
  ·rename_i s x i hop;exact key (Instr.fieldAt s (a.eval x) i) (by simpa [execOp,hop]using h)
  ·rename_i t p hop;exact key (Instr.loadAt t (a.eval p)) (by simpa [execOp,hop]using h)
  ·rename_i t x lo hi dV hop;exact key (Instr.sliceAt t (a.eval x) (lo.map a.eval) (hi.map a.eval) (dV.map a.eval)) (by simpa [execOp,hop]using h)
  ·cases ho
theorem NY {ops:Array Oper} {Q:Exit->Act->World->Prop} {inl:iO} (cM:gB S P gl w0 bf) (hg:fv gl w0) (kH:mj S L w0 P inl) (hQ:∀c a w,¬Q (.panic c) a w)
 {N n0:Nat} {ia:List ay} {bw:Env} {m0:Nat->Nat} (hN:N<=ia.length) (gJ:bQ n0 ia.length bw ia):∀(f:Nat) {listed:Array Bool} {n:Nat} {ρ:Env} {m:Nat->Nat} {tm:List V} {bl:List ay} {a:Act} {w:World} {G:cN} {k:ej},
 R w0 n ρ m tm bl a w->cw n0 ia.length bw m0 n bl.length ρ m->(∀(k:Nat) (p:ay),(eH N 0 ia)[k]?=some p->(eH N 0 bl)[k]?=some p)->(nZ P gl bf inl ops N (eH N 0 ia) f listed n tm bl k).holds S L G ρ->fN S L w0 k n bl.length ρ m G (Q .normal)->wpAnyH P .any ops Q (λw=>Mem w0 bw m0 (eH N 0 ia) w) f listed a w:=by
 have down:∀{n:Nat} {ρ:Env} {m:Nat->Nat} {bl:List ay} {w:World},cw n0 ia.length bw m0 n bl.length ρ m->(∀(k:Nat) (p:ay),(eH N 0 ia)[k]?=some p->(eH N 0 bl)[k]?=some p)->Mem w0 ρ m bl w->Mem w0 bw m0 (eH N 0 ia) w:=λhl hp hm=>by
  refine hm.sub λi p hi=>?_
  rcases th N 0 ia i p hi with h1|⟨h1,h2,h3⟩
  ·exact .inl h1
  ·refine .inr ?_
   rcases th N 0 _ i p (hp i p hi)with g1|⟨_,_,g3⟩
   ·subst g1;simp[pg,bO,nu]at h2
   ·exact⟨g3,h2,(hl.hm i (by omega)).symm,(kL (gJ p (List.mem_of_getElem? h3)) hl.ha hl.hm).symm,LW (gJ p (List.mem_of_getElem? h3)) hl.ha true⟩
 have up:∀{n:Nat} {ρ:Env} {m:Nat->Nat} {bl:List ay} {w:World},cw n0 ia.length bw m0 n bl.length ρ m->(∀(k:Nat) (p:ay),(eH N 0 ia)[k]?=some p->(eH N 0 bl)[k]?=some p)->Mem w0 bw m0 (eH N 0 ia) w->Mem w0 ρ m (eH N 0 bl) w:=λ{n ρ m bl w} hl hp hm=>by
  refine hm.sub λi p hi=>?_
  rcases th N 0 bl i p hi with h1|⟨h1,h2,h3⟩
  ·exact .inl h1
  ·refine .inr ?_
   have hlt:i<(eH N 0 ia).length:=by rw[B8];omega
   have hq:=hp i _ (List.getElem?_eq_getElem hlt)
   rw[hi]at hq
   have hq:p=(eH N 0 ia)[i]:=Option.some.inj hq
   have h0:(eH N 0 ia)[i]?=some p:=by rw[List.getElem?_eq_getElem hlt,hq]
   rcases th N 0 ia i p h0 with g1|⟨_,_,g3⟩
   ·subst g1;simp[pg,bO,nu]at h2
   ·exact⟨h0,h2,hl.hm i (by omega),kL (gJ p (List.mem_of_getElem? g3)) hl.ha hl.hm,LW (gJ p (List.mem_of_getElem? g3)) hl.ha false⟩
 intro f
 induction f with
 |zero=>
  intro listed n ρ m tm bl a w G k h hl hp al hk
  unfold nZ at al
  unfold wpAnyH
  split at al
  ·rename_i hr
   exact⟨hr,hk n ρ m tm bl G a w (cw.refl _ _ _ _) (c5.refl _ _) h al⟩
  ·exact al.elim
 |succ f ih=>
  intro listed n ρ m tm bl a w G k h hl hp al hk
  unfold nZ at al
  split at al
  ·rename_i hr
   exact⟨λ_=>hk n ρ m tm bl G a w (cw.refl _ _ _ _) (c5.refl _ _) h al,λi hi=>by rw[hr]at hi;cases hi⟩
  ·rename_i l hl0
   split at al
   ·rename_i i hi
    unfold Jh at hi
    cases mE:Region.noSelect ops with
    |false=>rw[mE]at hi;cases hi
    |true=>
    rw[mE,cond_true]at hi
    have ck:=List.find?_some hi
    have lv:=List.mem_of_find?_eq_some hi
    simp only[Bool.and_eq_true]at ck
    cases ho:ops[i]? with
    |none=>simp only[ho]at al;exact al.elim
    |some o=>
     simp only[ho]at al
     have fp:y1 N tm bl o=true∨y2 N tm bl o=true:=by
      have:=ck.1;simp only[ho,Bool.or_eq_true,Bool.and_eq_true]at this;exact this.imp id And.right
     obtain⟨bB,lV,hgd⟩:=vF h.t al
     have h:R w0 n ρ m bB bl a w:=⟨lV,h.d,h.b,h.bk⟩
     have e5:=down hl hp h.bk
     rcases hgd with⟨hw,al⟩|⟨hw,al⟩
     ·have hlen:(eH N 0 bl).length=bl.length:=B8 N 0 bl
      obtain⟨ag,n',v,mD,gI,⟨hv,val,hr,hq⟩,tE⟩:=EF (L:=L) (bl:=eH N 0 bl) cM (by rw[hlen];exact h.b.eH N) hg ⟨w,up hl hp e5⟩ (by rw[hlen];exact lV) o G _ al
      rw[hlen]at hv
      have hy:YieldsIf P ops (λw=>Mem w0 bw m0 (eH N 0 ia) w) o val a:= .inl ⟨hw,λw' mI=>fp.elim (λhf=>QW (ops:=ops) hf (hq w' (up hl hp mI))) (λhf=>QV hf (hq w' (up hl hp mI)))⟩
      refine wpAnyH_take ho mE ck.2 (by simpa using lv) (λc a w hp=>absurd hp (hQ _ _ _)) hy e5 ?_
      have hlt:cw n bl.length ρ m n' bl.length ag m:=⟨mD,gI,Nat.le_refl _,λ_ _=>rfl⟩
      exact ih ⟨cI.put (lV.ext gI mD (Nat.le_refl _) (λ_ _=>rfl)) o.dst hv hr,by rw[put_defers];exact h.d,h.b.ext gI mD (Nat.le_refl _),h.bk.dA h.b gI⟩ (hl.trans hlt) hp tE (hk.later hlt (c5.refl _ _))
     ·refine wpAnyH_take ho mE ck.2 (by simpa using lv) (λc a w hp=>absurd hp (hQ _ _ _)) (.inr ⟨hw,rfl⟩) e5 ?_
      exact ih (h.skip o.dst) hl hp al hk
   split at al
   ·rename_i i hi
    unfold K3 at hi
    cases mE:Region.noSelect ops with
    |false=>rw[mE]at hi;cases hi
    |true=>
    rw[mE,cond_true]at hi
    have ck:=List.find?_some hi
    have lv:=List.mem_of_find?_eq_some hi
    simp only[Bool.and_eq_true]at ck
    cases ho:ops[i]? with
    |none=>simp only[ho]at al;exact al.elim
    |some o=>
     simp only[ho]at al
     obtain⟨bB,lV,hgd⟩:=vF h.t al
     have h:R w0 n ρ m bB bl a w:=⟨lV,h.d,h.b,h.bk⟩
     have e5:=down hl hp h.bk
     rcases hgd with⟨_,al⟩|⟨hw,al⟩
     ·exact al.elim
     ·refine wpAnyH_take ho mE ck.2 (by simpa using lv) (λc a w hp=>absurd hp (hQ _ _ _)) (.inr ⟨hw,rfl⟩) e5 ?_
      exact ih (h.skip o.dst) hl hp al hk
   unfold wpAnyH
   refine⟨λhr=>absurd hr hl0,λi hi=>?_⟩
   have ck:=allT_holds al i hi
   unfold wpOp
   cases ho:ops[i]? with
   |none=>simp only[ho]at ck;exact ck.elim
   |some o=>
    simp only[ho]at ck⊢
    obtain⟨bB,lV,hgd⟩:=vF h.t ck
    have h:R w0 n ρ m bB bl a w:=⟨lV,h.d,h.b,h.bk⟩
    rcases hgd with⟨hw,CR⟩|⟨hw,CR⟩
    ·rw[if_pos hw]
     refine .inl (Mo cM hg kH h CR λn' ag m' bB aW cU cR w' h1 h2 h3 h4=>?_)
     cases hf:preB (eH N 0 ia) (eH N 0 aW)with
     |false=>rw[hf]at h4;exact h4.elim
     |true=>
      rw[hf,cond_true]at h4
      have ov:=hl.trans h1
      have hf:=Ls hf
      exact⟨down ov hf h3.bk,ih h3 ov hf h4 (hk.later h1 h2)⟩
    ·rw[if_neg (by simp[hw])]
     exact⟨down hl hp h.bk,ih (h.skip o.dst) hl hp CR hk⟩
theorem OA {inl:iO} {li:Nat->Option c0} {rounds:Nat} (hm:P.follows .mixedOrders=true) (cM:gB S P gl w0 bf) (hg:fv gl w0) (kH:mj S L w0 P inl):∀(c:Code),xK rd S L w0 P c (ka P gl bf inl li rounds c):=by
 intro c
 induction c with
 |skip=>intro hd n tm bl k G ρ m a w Q h al hk;exact wpIn_skip (hk .normal n ρ m tm bl G a w (cw.refl _ _ _ _) (c5.refl _ _) h al)
 |exit id=>intro hd n tm bl k G ρ m a w Q h al hk;exact wpIn_exit (hk (.exit id) n ρ m tm bl G a w (cw.refl _ _ _ _) (c5.refl _ _) h al)
 |ret=>intro hd n tm bl k G ρ m a w Q h al hk;exact wpIn_ret (hk .ret n ρ m tm bl G a w (cw.refl _ _ _ _) (c5.refl _ _) h al)
 |region id ops draw=>
  intro hd n tm bl k G ρ m a w Q h al hk
  have Cl:fN S L w0 (k .normal) n bl.length ρ m G (kr Q .normal):=λn' ag m' bB aW cU cR w' h1 h2 h3 h4=>hk .normal n' ag m' bB aW cU cR w' h1 h2 h3 h4
  cases draw with
  |false=>
   simp only[ka,cond_false]at al
   refine WT hd ?_
   exact zM cM hg kH ops.toList h al Cl
  |true=>
   simp only[ka,cond_true]at al
   cases ht:(uN ops (tD P bf ops)&&AI P (ops.toList.take (tD P bf ops))&& !Fc P (ops.toList.take (tD P bf ops)))with
   |false=>
    simp only[ht,cond_false]at al
    cases hsz:Nat.ble (ops.toList.filter λo=> !D8 o).length 24 with
    |false=>simp only[hsz,cond_false]at al;exact al.elim
    |true=>
     simp only[hsz,cond_true]at al
     have kF:R w0 n ρ m tm bl a w.drew:=⟨h.t,h.d,h.b,h.bk.grow (World.Extends.drew (World.Extends.refl w))⟩
     refine LA hm hd (wpAny_of_held (S:=λw=>Mem w0 ρ m (eH (vX P ops tm bl) 0 bl) w) _ _ _ _ ?_)
     exact NY cM hg kH (λc a w h=>h) (N:=vX P ops tm bl) (by unfold vX;cases Eb P ops<;>cases ops.toList.any DG<;>simp<;>exact Nat.min_le_left _ _) h.b ops.size kF (cw.refl _ _ _ _) (λ_ _ h=>h) al Cl
   |true=>
    simp only[ht,cond_true]at al
    simp only[Bool.and_eq_true]at ht
    replace ht:=ht.1
    have hle:tD P bf ops<=ops.toList.length:=by
     have h1:=ht.1
     simp only[uN,Bool.and_eq_true]at h1
     simpa using Nat.le_of_ble_eq_true h1.1.1.2
    generalize tD P bf ops=hl0 at*
    have kF:R w0 n ρ m tm bl a w.drew:=⟨h.t,h.d,h.b,h.bk.grow (World.Extends.drew (World.Extends.refl w))⟩
    have key:=Zu (P:=P) (Q:=kr Q) (a:=a) (w:=w) (l:=ops.toList) (C:=λw'=>Mem w0 ρ m bl w') hl0 (u4 P ops) hm (by rw[toL];exact ht.1) (λw' mI=>kF.bk.grow mI) (λj o hj ho c3 b w'=>by
     have:=ZC (l:=ops.toList) (P:=P) ht.2 hj ho c3 b w'
     rw[toL]at this;exact this) (by
     rw[toL]
     refine yZ cM hg h.b ⟨_,h.bk⟩ _ (Nat.le_refl _) (agree.refl _ _) h.t h.d al λn' ag bB an h1 h2 h3 h4 h5 dG b w' lr lh wq=>?_
     have hl:cw n bl.length ρ m n' bl.length ag m:=⟨h1,h2,Nat.le_refl _,λ_ _=>rfl⟩
     have PT:=(kF.bk.grow lh).dA h.b h2
     refine Bi (S:=S) (L:=L) (w0:=w0) (P:=P) (K:=λb w'=>wpList P ops (calm (kr Q)) (ops.toList.drop hl0) b w') lr wq kF.bk.ext.size kF.bk.fG (ops.toList.take hl0) 0 (λj hj=>?_) (by simp;exact Nat.min_eq_left (by simpa using hle)) ⟨h3,h4,h.b.ext h2 h1 (Nat.le_refl _),PT⟩ ((kF.bk.dA h.b h2).under lh) (λbc p fS hp=> .inl ?_) rfl (λt=>⟨λ⟨j,o,hj,_⟩=>by omega,λ_=>rfl⟩) h5 (λuu lF aaG Mx ZT AR GV iy k1 k2 k3 k4=>zM cM hg kH _ k3 k4 ((Cl.later hl (c5.refl _ _)).later k1 k2)) h4
     ·have hj':j<hl0:=by simp at hj;omega
      rw[List.getElem?_take,if_pos hj'];simp
     ·rw[jy (h.b _ (List.mem_of_getElem? fS)) h2]at hp
      exact kF.bk.lt fS hp)
    rw[toL]at key
    exact LA hm hd key
 |seq x y SF zk=>
  intro hd n tm bl k G ρ m a w Q h al hk
  have yV:rd=none∨jg x=true:=hd.imp id λh=>by simp only[jg,Bool.and_eq_true]at h;exact h.1
  have yY:rd=none∨jg y=true:=hd.imp id λh=>by simp only[jg,Bool.and_eq_true]at h;exact h.2
  refine wpIn_seq (SF yV n tm bl _ G ρ m a w _ h al λx n' ag m' bB aW cU cR w' h1 h2 h3 h4=>?_)
  cases x with
  |normal=>exact zk yY n' bB aW k cU ag m' cR w' Q h3 h4 (hk.later h1 h2)
  |exit id=>exact hk (.exit id) n' ag m' bB aW cU cR w' h1 h2 h3 h4
  |ret=>exact hk .ret n' ag m' bB aW cU cR w' h1 h2 h3 h4
 |cond x y z zk J3=>
  intro hd n tm bl k G ρ m a w Q h al hk
  simp only[ka]at al
  have hx:=bJ h.t x
  split at al
  ·rename_i b hb
   rw[hb]at hx
   have cd:a.eval x= .bool (b.den ρ):=hx.2
   have yV:rd=none∨jg y=true:=hd.imp id λh=>by simp only[jg,Bool.and_eq_true]at h;exact h.1
   have yY:rd=none∨jg z=true:=hd.imp id λh=>by simp only[jg,Bool.and_eq_true]at h;exact h.2
   refine wpIn_cond cd ?_
   split at al
   ·rename_i v
    cases v with
    |true=>simp only[cond_true]at al;exact zk yV n tm bl k G ρ m a w Q h al hk
    |false=>simp only[cond_false]at al;exact J3 yY n tm bl k G ρ m a w Q h al hk
   ·simp only[T.holds]at al
    cases hd:aY.den ρ b with
    |true=>exact zk yV n _ bl k G ρ m a w Q ⟨uM hd h.t,h.d,h.b,h.bk⟩ (al.1 (by simpa using hd)) hk
    |false=>exact J3 yY n _ bl k G ρ m a w Q ⟨uM hd h.t,h.d,h.b,h.bk⟩ (al.2 (by simpa using hd)) hk
  ·exact al.elim
 |block id x ih=>
  intro hd n tm bl k G ρ m a w Q h al hk
  refine wpIn_block (ih hd n tm bl _ G ρ m a w _ h al λx n' ag m' bB aW cU cR w' h1 h2 h3 h4=>?_)
  cases x with
  |normal=>exact hk .normal n' ag m' bB aW cU cR w' h1 h2 h3 h4
  |ret=>exact hk .ret n' ag m' bB aW cU cR w' h1 h2 h3 h4
  |exit pN=>
   simp only at h4
   simp only[X.to,Exit.inBlock]
   cases hb:Nat.beq pN id with
   |true=>
    simp only[hb,cond_true]at h4
    rw[if_pos (Nat.eq_of_beq_eq_true hb)]
    exact hk .normal n' ag m' bB aW cU cR w' h1 h2 h3 h4
   |false=>
    simp only[hb,cond_false]at h4
    rw[if_neg (λe=>by subst e;rw[show Nat.beq pN pN=true from Nat.beq_refl pN]at hb;cases hb)]
    exact hk (.exit pN) n' ag m' bB aW cU cR w' h1 h2 h3 h4
 |loop x ih=>
  intro hd n tm bl k G ρ m a w Q h al hk
  simp only[ka]at al
  split at al
  ·exact TP (c:=x) hd ih h al hk
  ·exact wpIn_loop_rounds rounds (LM (c:=x) hd ih rounds h al hk)
 |_=>intro hd n tm bl k G ρ m a w Q h al hk;exact al.elim
def sq (a:Act):ResultVar->Sem Value
 | .tmp t=>Pure.pure (a.tmps.getD t undef)
 | .cell x t=>do loadVar t (<-asAddr (a.tmps.getD x undef))
theorem WY {n:Nat} {ρ:Env} {m:Nat->Nat} {bl:List ay} {tm:List V} {a:Act} {w:World} {r:ResultVar} {u:W} (hg:fv gl w0) (h:R w0 n ρ m tm bl a w) (hr:xj P gl bl tm r=some u):
 u.ok n bl.length ρ/\(sq a r).run P w= .ok (u.den ρ m) w:=by
 cases r with
 |tmp t=>
  simp only[xj]at hr
  cases ht:tm[t]? with
  |none=>simp[ht]at hr
  |some v=>
   obtain⟨h1,x,h2,h3⟩:=h.t.2 t v ht
   simp only[ht]at hr
   cases v with
   |w Yj=>
    simp only[Option.some.injEq]at hr
    subst hr
    refine⟨h1,?_⟩
    have:a.tmps.getD t undef=Yj.den ρ m:=by simp[h2];exact h3
    simp only[sq,this];rfl
   |_=>simp at hr
 |cell x t=>
  simp only[xj]at hr
  cases ht:tm[x]? with
  |none=>simp[ht]at hr
  |some v=>
   obtain⟨h1,y,h2,h3⟩:=h.t.2 x v ht
   simp only[ht]at hr
   cases v with
   |dZ l=>simp at hr
   |any=>simp at hr
   |jA _ _ _=>simp at hr
   |j9 _ _=>simp at hr
   |w q=>
    cases q with
    |agg l=>simp at hr
    |one p=>
     simp only at hr
     have hy:a.tmps.getD x undef=p.den ρ m:=by simp[h2];exact h3
     cases hc:s3 bl gl p with
     |none=>simp[hc]at hr
     |some cs=>
      obtain⟨g,o,hp,bb,hcell⟩:=BD h.bk h.b hg hc
      simp only[sq,hy,hp]
      cases iV:e8 P t with
      |none=>simp[hc,iV]at hr
      |some b=>
       cases b with
       |true=>
        cases hs:dc P t with
        |none=>simp[hc,iV,hs]at hr
        |some k=>
         simp only[hc,iV,hs]at hr
         cases hk:Nat.ble k cs.length with
         |false=>simp[hk]at hr
         |true=>
          simp only[hk,cond_true,Option.some.injEq]at hr
          subst hr
          have hk:=Nat.le_of_ble_eq_true hk
          refine⟨λa h=>bb a (List.mem_of_mem_take h),?_⟩
          have hl:=run_loadCells_list (P:=P) w ⟨g,o,none⟩ ((cs.take k).map (A.den ρ m)) λj v hj=>by
           rw[eZ]
           rw[List.getElem?_map]at hj
           cases hq:(cs.take k)[j]? with
           |none=>simp[hq]at hj
           |some a=>
            simp only[hq,Option.map_some,Option.some.injEq]at hj
            subst hj
            refine hcell j a ?_
            rw[List.getElem?_take]at hq
            split at hq
            ·exact hq
            ·cases hq
          simp only[List.length_map,List.length_take,Nat.min_eq_left hk]at hl
          simp[asAddr,loadVar,jE iV,eS hs,hl,W.den]
       |false=>
        cases cs with
        |nil=>simp[hc,iV]at hr
        |cons z r=>
         simp only[hc,iV,Option.some.injEq]at hr
         subst hr
         refine⟨bb z (by simp),?_⟩
         have:=hcell 0 z rfl
         simp only[Nat.add_zero]at this
         simp[asAddr,loadVar,jE iV,this,W.den]
theorem LG {n:Nat} {ρ:Env} {m:Nat->Nat} {bl:List ay} {tm:List V} {a:Act} {w:World} (hg:fv gl w0) (h:R w0 n ρ m tm bl a w):∀{rs:List ResultVar} {l:List W},sr P gl bl tm rs=some l->
 (∀u∈l,W.ok n bl.length ρ u)/\(rs.mapM (m:=Sem) (sq a)).run P w= .ok (l.map (W.den ρ m)) w
 |[],l,hr=>by simp[sr]at hr;subst hr;exact⟨by simp,by simp⟩
 |r::s,l,hr=>by
  simp only[sr]at hr
  cases h1:xj P gl bl tm r with
  |none=>simp[h1]at hr
  |some u=>
   cases h2:sr P gl bl tm s with
   |none=>simp[h1,h2]at hr
   |some bp=>
    simp only[h1,h2,Option.some.injEq]at hr
    subst hr
    have e1:=WY hg h h1
    have e2:=LG hg h h2
    refine⟨λx hx=>by rcases List.mem_cons.1 hx with rfl|hx;exact e1.1;exact e2.1 x hx,?_⟩
    rw[List.mapM_cons,Sem.run_bind]
    simp only[e1.2,e2.2,Result.andThen_ok,Sem.run_bind,Sem.run_pure,List.map_cons]
theorem LF {fn:Func} {n:Nat} {ρ:Env} {m:Nat->Nat} {bl:List ay} {tm:List V} {a:Act} {w:World} {k:RK} {G:cN} (hg:fv gl w0) (h:R w0 n ρ m tm bl a w) (al:(EH P gl fn n tm bl k).holds S L G ρ):
 ∃v val,V.ok n bl.length ρ v/\v.rel ρ m val/\(results fn a.tmps).run P w= .ok val w/\(k n v bl).holds S L G ρ:=by
 unfold EH at al
 cases hr:sr P gl bl tm fn.results.toList with
 |none=>
  simp only[hr]at al
  cases ho:Ep tm fn.results.toList with
  |none=>simp[ho,T.holds]at al
  |some v=>
   simp only[ho]at al
   obtain⟨t,e,hv⟩:∃t,fn.results.toList=[.tmp t]/\tm[t]?=some v:=by
    unfold Ep at ho
    split at ho
    ·rename_i t he
     refine⟨t,he,?_⟩
     split at ho<;>first|(cases ho;assumption)|cases ho
    ·cases ho
   obtain⟨h1,x,h2,h3⟩:=h.t.2 t v hv
   refine⟨v,x,h1,h3,?_,al⟩
   have s9:fn.results=#[.tmp t]:=by rw[<-Array.toArray_toList (xs:=fn.results),e]
   have ex:a.tmps.getD t undef=x:=by simp[h2]
   have e:results fn a.tmps=(do let vs<-fn.results.mapM (sq a);Pure.pure (if h:vs.size=1 then vs[0]else .tuple vs)):=by
    unfold results
    congr 1
   rw[e,s9,Array.mapM_eq_mapM_toList]
   simp[Sem.run_bind,Sem.run_map,Result.andThen_ok,sq,h2]
 |some l=>
  obtain⟨h1,h2⟩:=LG hg h hr
  have eB:(results fn a.tmps).run P w= .ok (if h:(l.map (W.den ρ m)).toArray.size=1 then(l.map (W.den ρ m)).toArray[0]else .tuple (l.map (W.den ρ m)).toArray) w:=by
   have e:results fn a.tmps=(do let vs<-fn.results.mapM (sq a);Pure.pure (if h:vs.size=1 then vs[0]else .tuple vs)):=by
    unfold results
    congr 1
   rw[e,Array.mapM_eq_mapM_toList]
   simp only[Sem.run_bind,Sem.run_map,Result.andThen_ok,h2,Sem.run_pure]
  simp only[hr]at al
  split at al
  ·rename_i u heq
   have heq:=Option.some.inj heq
   subst heq
   exact⟨.w u,_,h1 u (by simp),rfl,by rw[eB];simp,al⟩
  ·rename_i bp hne heq
   have heq:=Option.some.inj heq
   subst heq
   refine⟨.dZ l,_,h1,rfl,?_,al⟩
   rw[eB,dif_neg]
   intro hs
   simp at hs
   match l,hs,hne with
   |[u],_,hne=>exact hne u rfl
  ·rename_i heq;cases heq
theorem GK {ρ:Env} {m:Nat->Nat}:∀{vs:List V} {xs:List Value},dJ ρ m vs xs->vs.length=xs.length
 |[],[],_=>rfl
 |_::_,_::_,h=>by simp[GK h.2]
 |[],_::_,h=>h.elim
 |_::_,[],h=>h.elim
theorem GH {n nb:Nat} {ρ:Env} {m:Nat->Nat} (k:Nat):∀{vs:List V} {xs:List Value},(∀v∈vs,V.ok n nb ρ v)->dJ ρ m vs xs->qz n nb ρ m (vs++zX k) (xs++List.replicate k undef)
 |[],[],_,_=>by
  simp only[List.nil_append]
  induction k with
  |zero=>trivial
  |succ k ih=>exact⟨by intro x hx;simp at hx,rfl,ih⟩
 |v::r,x::s,h,hr=>⟨h v (by simp),hr.1,GH k (λu hu=>h u (List.mem_cons_of_mem _ hu)) hr.2⟩
 |[],_::_,_,h=>h.elim
 |_::_,[],_,h=>h.elim
theorem Hh (oo:w0.ds=[]) {li:FuncId->Nat->Option c0} {rounds:Nat} {inl:iO} (hm:P.follows .mixedOrders=true) (cM:gB S P gl w0 bf) (hg:fv gl w0) (ih:mj S L w0 P inl):mj S L w0 P (yc P gl bf inl li rounds):=by
 intro f n vs bl k G ρ m w xs dQ hb iZ eQ hrel al hk
 unfold yc at al
 cases hf:P.funcs[f]? with
 |none=>simp[hf,T.holds]at al
 |some fn=>
  cases tw:fn.body with
  |none=>simp[hf,tw,T.holds]at al
  |some c=>
   simp only[hf,tw]at al
   cases hc:(!(fn.name== "runtime.NumGoroutine")&&Nat.ble vs.length fn.ntmps)with
   |false=>simp[hc,T.holds]at al
   |true=>
    simp only[hc,cond_true]at al
    simp only[Bool.and_eq_true,Bool.not_eq_true']at hc
    have hlen:=GK hrel
    refine⟨?_,calls_of_wp hf tw ?_⟩
    ·have h1:¬fn.name= "runtime.NumGoroutine" :=by have:=hc.1;simpa using this
     simp[callFunc,hf,tw,h1]
    ·have hR:R w0 n ρ m (vs++zX (fn.ntmps-vs.length)) bl {tmps:=xs.toArray++Array.replicate (fn.ntmps-xs.toArray.size) undef,defers:=[]} w:=by
      refine⟨?_,oo.symm,hb,iZ⟩
      have:=A6 (GH (fn.ntmps-vs.length) eQ hrel)
      have e:(xs++List.replicate (fn.ntmps-vs.length) undef).toArray=xs.toArray++Array.replicate (fn.ntmps-xs.toArray.size) undef:=by
       simp[hlen]
      rw[e]at this
      exact this
     refine wpIn_wide.1 (OA (rd:=none) hm cM hg ih c (.inl rfl) n _ bl _ G ρ m _ w _ hR al λx n' ag m' bB aW cU cR w' h1 h2 h3 h4=>?_)
     cases x with
     |exit id=>exact h4.elim
     |normal=>
      obtain⟨v,val,p1,bz,b5,eg⟩:=LF hg h3 h4
      exact⟨h3.d.trans oo,val,b5,hk n' v aW cU ag m' w' val h1 h2 p1 bz h3.b h3.bk eg⟩
     |ret=>
      obtain⟨v,val,p1,bz,b5,eg⟩:=LF hg h3 h4
      exact⟨h3.d.trans oo,val,b5,hk n' v aW cU ag m' w' val h1 h2 p1 bz h3.b h3.bk eg⟩
theorem Hs (oo:w0.ds=[]) {li:FuncId->Nat->Option c0} {rounds:Nat} (hm:P.follows .mixedOrders=true) (cM:gB S P gl w0 bf) (hg:fv gl w0):∀d,mj S L w0 P (yi P gl bf li rounds d)
 |0=>λf n vs bl k G ρ m w xs dQ _ _ _ _ al _=>al.elim
 |d+1=>Hh oo hm cM hg (Hs oo hm cM hg d)
def sF (S:Nat->List Int->List Int->Prop) (L:V->Env->Prop) (w0:cQ) (P:Program) (gd:kV):Prop:=
 ∀f g,gd f=some g->∀n vs bl k G ρ m w xs dQ,bQ n (List.length bl) ρ bl->Mem w0 ρ m bl w->(∀v∈vs,V.ok n bl.length ρ v)->dJ ρ m vs xs->(g n vs bl k).holds S L G ρ->sL S L w0 k n bl.length ρ m G dQ->
  (callFunc f xs.toArray).run P w= .ok (.enter f xs.toArray) w/\Calls P f xs.toArray w dQ
theorem VG {gd:kV} {inl:iO} (lS:sF S L w0 P gd) (h:mj S L w0 P inl):mj S L w0 P (Er gd inl):=by
 intro f n vs bl k G ρ m w xs dQ h1 h2 h3 h4 h5 h6
 unfold Er at h5
 cases hf:gd f with
 |none=>rw[hf]at h5;exact h f n vs bl k G ρ m w xs dQ h1 h2 h3 h4 h5 h6
 |some g=>rw[hf]at h5;exact lS f g hf n vs bl k G ρ m w xs dQ h1 h2 h3 h4 h5 h6
theorem Hr (oo:w0.ds=[]) {gd:kV} {li:FuncId->Nat->Option c0} {rounds:Nat} (hm:P.follows .mixedOrders=true) (cM:gB S P gl w0 bf) (hg:fv gl w0) (lS:sF S L w0 P gd):∀d,mj S L w0 P (BA gd P gl bf li rounds d)
 |0=>λf n vs bl k G ρ m w xs dQ _ _ _ _ al _=>al.elim
 |d+1=>Hh oo hm cM hg (VG lS (Hr oo hm cM hg lS d))
theorem Mem.extends {b w w':World} {ρ:Env} {m:Nat->Nat} {bl:List ay} (h:Mem ⟨b,w,λ_=>False,λ_=>False,[]⟩ ρ m bl w'):w.Extends w':=by
 have lk:∀i:Nat,i<w.heap.size->w'.heap[i]?=w.heap[i]?:=λi hi=>h.ke i hi id
 exact⟨h.gO,h.kk,h.ki,h.fG,λa ha=>by simp only[World.cell?,lk a.block ha],λa ha=>by simp only[World.frozen?,lk a.block ha],lk⟩
theorem Og {b w:World} {li:FuncId->Nat->Option c0} {rounds d:Nat} (hm:P.follows .mixedOrders=true) (cM:gB S P gl ⟨b,w,λ_=>False,λ_=>False,[]⟩ bf) (hg:fv gl ⟨b,w,λ_=>False,λ_=>False,[]⟩) (f:FuncId) (n:Nat) (vs:List V) (ρ:Env) (xs:List Value) (he:b.Extends w)
 (eQ:∀v∈vs,V.ok n 0 ρ v) (hrel:dJ ρ (λ_=>0) vs xs) (al:(yi P gl bf li rounds d f n vs [] λn' v _=> .leaf v).holds S (λv ag=>L v ag) (λ_ _=>False) ρ):
 Calls P f xs.toArray w λe w'=>∃v ag m val nb,e= .returned val/\v.rel ag m val/\(∃n',V.ok n' nb ag v)/\L v ag/\w.Extends w':=by
 have iZ:Mem ⟨b,w,λ_=>False,λ_=>False,[]⟩ ρ (λ_=>0) [] w:=⟨he,rfl,rfl,rfl,Nat.le_refl _,λ_ _ _=>rfl,λi cs t h=>by simp at h,λi sh off code cap kind t h=>by simp at h,λi j p q h=>by simp at h⟩
 refine(Hs rfl (L:=L) (li:=li) (rounds:=rounds) hm cM hg d f n vs [] (λn' v _=> .leaf v) (λ_ _=>False) ρ (λ_=>0) w xs _ (λp hp=>by simp at hp) iZ eQ hrel al ?_).2
 intro n' v aW cU ag m' w' val h1 h2 h3 h4 h5 h6 h7
 exact⟨v,ag,m',val,_,rfl,h4,⟨n',h3⟩,h7,h6.extends⟩
end
end Go.bo
namespace Go.bo
open M
def az.sym (s:Nat):az->A
 |int k lo hi=> .int k ⟨.var s,lo,hi⟩
 |str=> .str (.var s)
 |bool=> .bool (.eq (.var s) (.const 1))
 |sub _=> .con (.slice none 0 0)
inductive D where
 |str
 |int (k:IntKind) (lo hi:Int)
 |bool
 |agg (k:IntKind) (n:Nat) (lo hi:Int)
 |mix (l:List az)
 |jh (l:List UInt8)
 |mK (k:IntKind) (c:Int)
def oT (lo hi:Int):Nat->List (Int×Int)
 |0=>[]
 |n+1=>(lo,hi)::oT lo hi n
noncomputable def D.bds:D->List (Int×Int)
 |str=>[(0,aC)]
 |int _ lo hi=>[(lo,hi)]
 |bool=>[(0,1)]
 |agg _ n lo hi=>oT lo hi n
 |mix l=>l.map az.c2
 |jh _=>[]
 |mK .. =>[]
def D.num:D->Nat
 |str=>1
 |int .. =>1
 |bool=>1
 |agg _ n _ _=>n
 |mix l=>l.length
 |jh _=>0
 |mK .. =>0
def D.val:D->List Int->Value
 |str,zs=> .string (a7 (ab (zs.getD 0 0)))
 |int k _ _,zs=> .int k (zs.getD 0 0)
 |bool,zs=> .bool (decide (zs.getD 0 0=1))
 |agg k n _ _,zs=> .agg ((zs.take n).map (.int k)).toArray
 |mix l,zs=> .agg (List.zipWith az.val l zs).toArray
 |jh l,_=> .string (a7 (lZ l))
 |mK k c,_=> .int k c
def uD (k:IntKind) (lo hi:Int):Nat->Nat->List A
 |_,0=>[]
 |s,n+1=> .int k ⟨.var s,lo,hi⟩::uD k lo hi (s+1) n
def uq:Nat->List az->List A
 |_,[]=>[]
 |s,c::r=>c.sym s::uq (s+1) r
def D.sym (s:Nat):D->W
 |str=> .one (.str (.var s))
 |int k lo hi=> .one (.int k ⟨.var s,lo,hi⟩)
 |bool=> .one (.bool (.eq (.var s) (.const 1)))
 |agg k n lo hi=> .agg (uD k lo hi s n)
 |mix l=> .agg (uq s l)
 |jh l=> .one (.str (.const (eG (lZ l))))
 |mK k c=> .one (.int k (bg.const c))
noncomputable def dD:List D->List (Int×Int)
 |[]=>[]
 |d::r=>d.bds++dD r
def jj:List D->List Int->List Value
 |[],_=>[]
 |d::r,zs=>d.val zs::jj r (zs.drop d.num)
def nM:Nat->List D->List W
 |_,[]=>[]
 |s,d::r=>d.sym s::nM (s+d.num) r
theorem iG:∀{b:List (Int×Int)} {l:List Int},bI b l->l.length=b.length
 |[],[],_=>rfl
 |_::_,_::_,h=>by simp[iG h.2.2]
 |[],_::_,h=>h.elim
 |_::_,[],h=>h.elim
theorem LC (lo hi:Int):∀n,(oT lo hi n).length=n
 |0=>rfl
 |n+1=>by simp[oT,LC lo hi n]
theorem D.vo (d:D):d.bds.length=d.num:=by cases d<;>simp[D.bds,D.num,LC]
theorem zl:∀{b bX:List (Int×Int)} {l:List Int},bI (b++bX) l->bI b (l.take b.length)/\bI bX (l.drop b.length)
 |[],_,_,h=>⟨trivial,h⟩
 |_::_,_,_::_,h=>by
  have ih:=zl h.2.2
  exact⟨⟨h.1,h.2.1,ih.1⟩,ih.2⟩
 |_::_,_,[],h=>h.elim
def At (ρ:Env) (s:Nat) (zs:List Int):Prop:=∀j,j<zs.length->ρ (s+j)=zs.getD j 0
theorem At.bP (ρ:Env) (s:Nat) (zs:List Int):At (bP ρ s zs) s zs:=λj hj=>xE zs s ρ j hj
theorem At.tail {ρ:Env} {s:Nat} {z:Int} {zs:List Int} (h:At ρ s (z::zs)):ρ s=z/\At ρ (s+1) zs:=by
 refine⟨by simpa using h 0 (by simp),λj hj=>?_⟩
 have:=h (j+1) (by simpa using hj)
 rw[show s+1+j=s+(j+1) by omega,this];simp
theorem At.drop {ρ:Env} {s:Nat} {zs:List Int} (h:At ρ s zs) (k:Nat):At ρ (s+k) (zs.drop k):=λj hj=>by
 have:=h (k+j) (by simp at hj;omega)
 rw[show s+k+j=s+(k+j) by omega,this]
 simp[List.getD]
theorem LB {ρ:Env} {m:Nat->Nat} {N nb:Nat} {k:IntKind} {lo hi:Int}:∀(n s:Nat) (zs:List Int),bI (oT lo hi n) (zs.take n)->At ρ s zs->s+n<=N->
 (∀a∈uD k lo hi s n,A.ok N nb ρ a)/\(uD k lo hi s n).map (A.den ρ m)=(zs.take n).map (.int k)
 |0,s,zs,_,_,_=>by simp[uD]
 |n+1,s,[],h,_,_=>by simp[oT,bI]at h
 |n+1,s,z::zs,h,ha,hN=>by
  have ht:=ha.tail
  simp only[oT,List.take_succ_cons,bI]at h
  obtain⟨h1,h2⟩:=LB (m:=m) (nb:=nb) (k:=k) (N:=N) n (s+1) zs h.2.2 ht.2 (by omega)
  refine⟨λa hm=>?_,by simp only[uD,List.map_cons,A.den,J.bH,ht.1,h2,List.take_succ_cons]⟩
  rcases List.mem_cons.1 hm with rfl|hm
  ·exact⟨J.c9 (by omega),by simp only[J.bH,ht.1];exact h.1,by simp only[J.bH,ht.1];exact h.2.1⟩
  ·exact h1 a hm
theorem az.xy {ρ:Env} {m:Nat->Nat} {N nb:Nat} (c:az) {s:Nat} {z:Int} (h0:c.c2.1<=z) (h1:z<=c.c2.2) (hz:ρ s=z) (hN:s<N):(c.sym s).ok N nb ρ/\(c.sym s).den ρ m=c.val z:=by
 cases c with
 |int k lo hi=>exact⟨⟨J.c9 hN,by simp only[J.bH,hz];exact h0,by simp only[J.bH,hz];exact h1⟩,by simp[az.sym,az.val,A.den,J.bH,hz]⟩
 |str=>exact⟨⟨J.c9 hN,by rw[J.bH,hz];exact h0,by rw[J.bH,hz];exact h1⟩,by simp[az.sym,az.val,A.den,J.bH,hz]⟩
 |bool=>exact⟨⟨J.c9 hN,J.bS _ _⟩,by simp[az.sym,az.val,A.den,aY.den,J.bH,J.aS,hz]⟩
 |sub k=>exact⟨(rfl:(Value.slice none 0 0).oneCell'=true),rfl⟩
theorem KP {ρ:Env} {m:Nat->Nat} {N nb:Nat}:∀(l:List az) (s:Nat) (zs:List Int),bI (l.map az.c2) (zs.take l.length)->At ρ s zs->s+l.length<=N->
 (∀a∈uq s l,A.ok N nb ρ a)/\(uq s l).map (A.den ρ m)=List.zipWith az.val l zs
 |[],s,zs,_,_,_=>by simp[uq]
 |_::_,s,[],h,_,_=>by simp[bI]at h
 |c::r,s,z::zs,h,ha,hN=>by
  have ht:=ha.tail
  simp only[List.map_cons,List.length_cons,List.take_succ_cons,bI]at h
  obtain⟨h1,h2⟩:=KP (m:=m) (nb:=nb) (N:=N) r (s+1) zs h.2.2 ht.2 (by simp at hN;omega)
  have hc:=c.xy (m:=m) (nb:=nb) (N:=N) h.1 h.2.1 ht.1 (by simp at hN;omega)
  refine⟨λa hm=>?_,by simp only[uq,List.map_cons,hc.2,h2,List.zipWith_cons_cons]⟩
  rcases List.mem_cons.1 hm with rfl|hm
  ·exact hc.1
  ·exact h1 a hm
theorem D.xy {ρ:Env} {m:Nat->Nat} {N nb:Nat} (d:D) {s:Nat} {zs:List Int} (h:bI d.bds (zs.take d.num)) (ha:At ρ s zs) (hN:s+d.num<=N):(d.sym s).ok N nb ρ/\(d.sym s).den ρ m=d.val zs:=by
 cases d with
 |str=>
  cases zs with
  |nil=>simp[D.bds,bI]at h
  |cons z r=>
   have ht:=ha.tail
   simp only[D.bds,D.num,List.take_succ_cons,bI]at h
   simp only[D.num]at hN
   exact⟨⟨J.c9 (by omega),by rw[J.bH,ht.1];exact h.1,by rw[J.bH,ht.1];exact h.2.1⟩,by simp[D.sym,W.den,A.den,D.val,J.bH,ht.1]⟩
 |int k lo hi=>
  cases zs with
  |nil=>simp[D.bds,bI]at h
  |cons z r=>
   have ht:=ha.tail
   simp only[D.bds,D.num,List.take_succ_cons,bI]at h
   simp only[D.num]at hN
   exact⟨⟨J.c9 (by omega),by simp only[J.bH,ht.1];exact h.1,by simp only[J.bH,ht.1];exact h.2.1⟩,by simp[D.sym,W.den,A.den,D.val,J.bH,ht.1]⟩
 |bool=>
  cases zs with
  |nil=>simp[D.bds,bI]at h
  |cons z r=>
   have ht:=ha.tail
   simp only[D.num]at hN
   exact⟨⟨J.c9 (by omega),J.bS _ _⟩,by simp[D.sym,W.den,A.den,D.val,aY.den,J.bH,J.aS,ht.1]⟩
 |agg k n lo hi=>
  have:=LB (m:=m) (nb:=nb) (k:=k) n s zs h ha hN
  exact⟨this.1,by simp only[D.sym,W.den,D.val,this.2]⟩
 |mix l=>
  have:=KP (m:=m) (nb:=nb) l s zs h ha hN
  exact⟨this.1,by simp only[D.sym,W.den,D.val,this.2]⟩
 |jh l=>exact⟨⟨J.bS _ _,by rw[J.aS];exact SV l⟩,by simp[D.sym,W.den,A.den,D.val,J.aS,gR]⟩
 |mK k c=>exact⟨bg.iR _ _ c,by simp[D.sym,W.den,A.den,D.val,bg.const,J.aS]⟩
theorem Fu {ρ:Env} {m:Nat->Nat} {N nb:Nat}:∀(ds:List D) {s:Nat} {zs:List Int},bI (dD ds) zs->At ρ s zs->s+(dD ds).length<=N->(∀u∈nM s ds,W.ok N nb ρ u)/\(nM s ds).map (W.den ρ m)=jj ds zs
 |[],s,zs,_,_,_=>by simp[nM,jj]
 |d::r,s,zs,h,ha,hN=>by
  have hs:=zl h
  rw[D.vo]at hs
  simp only[dD,List.length_append,D.vo]at hN
  have h1:=d.xy (m:=m) (nb:=nb) hs.1 ha (N:=N) (by omega)
  have h2:=Fu (m:=m) (nb:=nb) (N:=N) r hs.2 (ha.drop d.num) (by omega)
  exact⟨λu hu=>by rcases List.mem_cons.1 hu with rfl|hu;exact h1.1;exact h2.1 u hu,by simp[nM,jj,h1.2,h2.2]⟩
def uF (ds:List D) (s:Nat):V:=match nM s ds with|[u]=> .w u|l=> .dZ l
def gm (ds:List D) (zs:List Int):Value:=match jj ds zs with|[x]=>x|l=> .tuple l.toArray
def kc (lo hi:Int) (x:bg):Bool:=decide (lo<=x.lo)&&decide (x.hi<=hi)
def ib (k:IntKind) (lo hi:Int):List A->Option (List J)
 |[]=>some []
 | .int aZ x::r=>cond (decide (k=aZ)&&kc lo hi x) (match ib k lo hi r with|some l=>some (x.l::l)|none=>none) none
 |_::_=>none
def az.fit:az->A->Option J
 |int k lo hi,.int aZ x=>cond (decide (k=aZ)&&kc lo hi x) (some x.l) none
 |str,.str l=>some l
 |bool,.bool (.lit b)=>some (.const (cond b 1 0))
 |_,_=>none
def kC:List az->List A->Option (List J)
 |[],[]=>some []
 |c::r,a::s=>match c.fit a,kC r s with|some x,some l=>some (x::l)|_,_=>none
 |_,_=>none
def q8:D->V->Option (List J)
 | .int k lo hi,.w (.one (.int aZ x))=>cond (decide (k=aZ)&&kc lo hi x) (some [x.l]) none
 | .agg k n lo hi,.w (.agg l)=>cond (Nat.beq l.length n) (ib k lo hi l) none
 | .mix l,.w (.agg s)=>kC l s
 | .str,.w (.one (.str l))=>some [l]
 | .bool,.w (.one (.bool (.lit b)))=>some [.const (cond b 1 0)]
 | .jh l,.w (.one (.str x))=>match x.cG with|some c=>cond (decide (c=eG (lZ l))) (some []) none|none=>none
 | .mK k c,.w (.one (.int aZ x))=>match x.l.cG with|some d=>cond (decide (k=aZ)&&decide (d=c)) (some []) none|none=>none
 |_,_=>none
def ld:List D->List V->Option (List J)
 |[],[]=>some []
 |d::r,v::s=>match q8 d v,ld r s with|some a,some b=>some (a++b)|_,_=>none
 |_,_=>none
theorem vC {n:Nat} {ρ:Env} {lo hi:Int} {x:bg} (h:kc lo hi x=true) (hx:x.ok n ρ):lo<=x.l.den ρ/\x.l.den ρ<=hi:=by
 simp only[kc,Bool.and_eq_true,decide_eq_true_eq]at h
 have:=hx.2;omega
theorem B3 {n nb:Nat} {ρ:Env} {m:Nat->Nat} {k:IntKind} {lo hi:Int}:∀{l:List A} {r:List J},ib k lo hi l=some r->(∀a∈l,A.ok n nb ρ a)->r.length=l.length/\bI (oT lo hi l.length) (r.map (·.den ρ))/\l.map (A.den ρ m)=(r.map (·.den ρ)).map (.int k)
 |[],r,h,_=>by simp[ib]at h;subst h;exact⟨rfl,trivial,rfl⟩
 | .int aZ x::s,r,h,bb=>by
  simp only[ib]at h
  cases hc:(decide (k=aZ)&&kc lo hi x)with
  |false=>simp[hc]at h
  |true=>
   simp only[hc,cond_true]at h
   simp only[Bool.and_eq_true,decide_eq_true_eq]at hc
   cases hr:ib k lo hi s with
   |none=>simp[hr]at h
   |some fh=>
    simp only[hr,Option.some.injEq]at h
    subst h
    obtain⟨h1,h2,h3⟩:=B3 (m:=m) hr λa ha=>bb a (List.mem_cons_of_mem _ ha)
    have hx:x.ok n ρ:=bb (.int aZ x) (by simp)
    have hf:=vC hc.2 hx
    exact⟨by simp[h1],⟨hf.1,hf.2,h2⟩,by simp only[List.map_cons,h3,A.den,hc.1]⟩
 | .bool _::_,_,h,_=>by simp[ib]at h
 | .ptr .. ::_,_,h,_=>by simp[ib]at h
 | .iL .. ::_,_,h,_=>by simp[ib]at h
 | .gptr .. ::_,_,h,_=>by simp[ib]at h
 | .slc .. ::_,_,h,_=>by simp[ib]at h
 | .con _::_,_,h,_=>by simp[ib]at h
 | .str _::_,_,h,_=>by simp[ib]at h
theorem az.Ph {n nb:Nat} {ρ:Env} {m:Nat->Nat} {c:az} {a:A} {l:J} (h:c.fit a=some l) (bb:a.ok n nb ρ):(c.c2.1<=l.den ρ/\l.den ρ<=c.c2.2)/\a.den ρ m=c.val (l.den ρ):=by
 unfold az.fit at h
 split at h
 ·rename_i k lo hi aZ x
  cases hc:(decide (k=aZ)&&kc lo hi x)with
  |false=>simp[hc]at h
  |true=>
   simp only[hc,cond_true,Option.some.injEq]at h
   subst h
   simp only[Bool.and_eq_true,decide_eq_true_eq]at hc
   exact⟨vC hc.2 bb,by simp only[A.den,az.val,hc.1]⟩
 ·simp only[Option.some.injEq]at h;subst h
  exact⟨bb.2,rfl⟩
 ·rename_i b
  simp only[Option.some.injEq]at h;subst h
  cases b<;>simp[az.c2,az.val,A.den,aY.den,J.aS]
 ·cases h
theorem Ik {n nb:Nat} {ρ:Env} {m:Nat->Nat}:∀{d:List az} {l:List A} {r:List J},kC d l=some r->(∀a∈l,A.ok n nb ρ a)->r.length=d.length/\bI (d.map az.c2) (r.map (·.den ρ))/\l.map (A.den ρ m)=List.zipWith az.val d (r.map (·.den ρ))
 |[],[],r,h,_=>by simp[kC]at h;subst h;exact⟨rfl,trivial,rfl⟩
 |c::d,a::s,r,h,bb=>by
  simp only[kC]at h
  cases hx:c.fit a with
  |none=>simp[hx]at h
  |some x=>
   cases hr:kC d s with
   |none=>simp[hx,hr]at h
   |some fh=>
    simp only[hx,hr,Option.some.injEq]at h
    subst h
    obtain⟨h1,h2,h3⟩:=Ik (m:=m) hr λa ha=>bb a (List.mem_cons_of_mem _ ha)
    have hf:=az.Ph (m:=m) hx (bb a (by simp))
    exact⟨by simp[h1],⟨hf.1.1,hf.1.2,h2⟩,by simp only[List.map_cons,h3,hf.2,List.zipWith_cons_cons]⟩
 |[],_::_,_,h,_=>by simp[kC]at h
 |_::_,[],_,h,_=>by simp[kC]at h
theorem Mt {n:Nat} {ρ:Env} {l:List UInt8} {x:J} {c:Int} (hc:x.cG=some c) (h:c=eG (lZ l)):ab (x.den ρ)=lZ l:=by rw[J.fl hc,h,gR]
theorem Ih {n nb:Nat} {ρ:Env} {m:Nat->Nat} {d:D} {v:V} {r:List J} {x:Value} (h:q8 d v=some r) (bb:v.ok n nb ρ) (hx:v.rel ρ m x):r.length=d.num/\bI d.bds (r.map (·.den ρ))/\∀zs,d.val ((r.map (·.den ρ))++zs)=x:=by
 unfold q8 at h
 split at h
 ·rename_i k lo hi aZ y
  cases hc:(decide (k=aZ)&&kc lo hi y)with
  |false=>simp[hc]at h
  |true=>
   simp only[hc,cond_true,Option.some.injEq]at h
   subst h
   simp only[Bool.and_eq_true,decide_eq_true_eq]at hc
   have hf:=vC hc.2 bb
   simp only[V.rel,W.den,A.den]at hx
   exact⟨rfl,⟨hf.1,hf.2,trivial⟩,λzs=>by simp[D.val,hx,hc.1]⟩
 ·rename_i k n' lo hi l
  cases hc:Nat.beq l.length n' with
  |false=>simp[hc]at h
  |true=>
   simp only[hc,cond_true]at h
   have hl:=Nat.eq_of_beq_eq_true hc
   subst hl
   obtain⟨h1,h2,h3⟩:=B3 (m:=m) h bb
   simp only[V.rel,W.den]at hx
   exact⟨h1,h2,λzs=>by rw[hx,h3];simp only[D.val];rw[List.take_append_of_le_length (by simp[h1]),List.take_of_length_le (by simp[h1])]⟩
 ·rename_i l s
  obtain⟨h1,h2,h3⟩:=Ik (m:=m) h bb
  simp only[V.rel,W.den]at hx
  refine⟨h1,h2,λzs=>?_⟩
  rw[hx,h3]
  simp only[D.val]
  congr 2
  have key:∀(a:List az) (b c:List Int),b.length=a.length->List.zipWith az.val a (b++c)=List.zipWith az.val a b:=by
   intro a
   induction a with
   |nil=>intro b c _;simp
   |cons p a ih=>
    intro b c hb
    cases b with
    |nil=>simp at hb
    |cons z b=>simp[ih b c (by simpa using hb)]
  exact key _ _ _ (by simp[h1])
 ·rename_i l
  simp only[Option.some.injEq]at h;subst h
  simp only[V.rel,W.den,A.den]at hx
  exact⟨rfl,⟨bb.2.1,bb.2.2,trivial⟩,λzs=>by rw[hx];rfl⟩
 ·rename_i b
  simp only[Option.some.injEq]at h;subst h
  simp only[V.rel,W.den,A.den,aY.den]at hx
  cases b<;>exact⟨rfl,by simp[D.bds,bI,J.aS],λzs=>by rw[hx];simp[D.val,J.aS]⟩
 ·rename_i l y
  cases hc:y.cG with
  |none=>simp[hc]at h
  |some c=>
   simp only[hc]at h
   cases hd:decide (c=eG (lZ l))with
   |false=>simp[hd]at h
   |true=>
    simp only[hd,cond_true,Option.some.injEq]at h
    subst h
    have hd:c=eG (lZ l):=by simpa using hd
    refine⟨rfl,trivial,λzs=>?_⟩
    have hx:x= .string (a7 (ab (y.den ρ))):=hx
    rw[hx,Mt (n:=n) hc hd];rfl
 ·rename_i k c aZ y
  cases hc:y.l.cG with
  |none=>simp[hc]at h
  |some d=>
   simp only[hc]at h
   cases hd:(decide (k=aZ)&&decide (d=c))with
   |false=>simp[hd]at h
   |true=>
    simp only[hd,cond_true,Option.some.injEq]at h
    subst h
    simp only[Bool.and_eq_true,decide_eq_true_eq]at hd
    refine⟨rfl,trivial,λzs=>?_⟩
    have hx:x= .int aZ (y.l.den ρ):=hx
    rw[hx,J.fl hc,<-hd.1,hd.2];rfl
 ·cases h
theorem B6 {n nb:Nat} {ρ:Env} {m:Nat->Nat}:∀{ds:List D} {vs:List V} {r:List J} {xs:List Value},ld ds vs=some r->(∀v∈vs,V.ok n nb ρ v)->dJ ρ m vs xs->bI (dD ds) (r.map (·.den ρ))/\jj ds (r.map (·.den ρ))=xs
 |[],[],r,[],h,_,_=>by simp[ld]at h;subst h;exact⟨trivial,rfl⟩
 |d::ds,v::vs,r,x::xs,h,bb,hr=>by
  simp only[ld]at h
  cases h1:q8 d v with
  |none=>simp[h1]at h
  |some a=>
   cases h2:ld ds vs with
   |none=>simp[h1,h2]at h
   |some b=>
    simp only[h1,h2,Option.some.injEq]at h
    subst h
    obtain⟨p1,bz,b5⟩:=Ih (m:=m) h1 (bb v (by simp)) hr.1
    obtain⟨q1,q2⟩:=B6 h2 (λu hu=>bb u (List.mem_cons_of_mem _ hu)) hr.2
    refine⟨by rw[List.map_append];exact oG bz q1,?_⟩
    rw[List.map_append]
    simp only[jj,b5]
    rw[show d.num=(a.map (·.den ρ)).length by simp[p1],List.drop_left,q2]
 |[],_::_,_,_,h,_,_=>by simp[ld]at h
 |_::_,[],_,_,h,_,_=>by simp[ld]at h
 |[],[],_,_::_,_,_,hr=>hr.elim
 |_::_,_::_,_,[],_,_,hr=>hr.elim
structure cD where
 f:FuncId
 id:Nat
 args:List D
 res:List D
def cD.Ok (P:Program) (wb:World) (c:cD) (spec:List Int->List Int->Prop):Prop:=
 (∀args w,(callFunc c.f args).run P w= .ok (.enter c.f args) w)/\
 ∀zs,bI (dD c.args) zs->∃rs,bI (dD c.res) rs/\spec zs rs/\∀w,wb.Extends w->Calls P c.f (jj c.args zs).toArray w λe w'=>e= .returned (gm c.res rs)/\w.Extends w'
noncomputable def B4 (d:D) (v:V):M (List J):=
 match d,v with
 | .bool,.w (.one (.bool e))=>bind (rS e) λl=>pure [l]
 | .mix l,.w (.agg s)=>su l s
 | .int k lo hi,.w (.one (.int aZ x))=>cond (decide (k=aZ)) (cond (kc lo hi x) (pure [x.l]) (bind (df 39 [x.l,.const lo,.const hi]) λ_=>pure [x.l])) fail
 |d,v=>match q8 d v with|some r=>pure r|none=>fail
noncomputable def yI:List D->List V->M (List J)
 |[],[]=>pure []
 |d::r,v::s=>bind (B4 d v) λa=>bind (yI r s) λb=>pure (a++b)
 |_,_=>fail
noncomputable def cD.M (c:cD):List ay->List V->M V:=λ_ vs n k=>
 match ld c.args vs with
 |some l=> .call c.id l n (dD c.res) (k (uF c.res n) (n+(dD c.res).length))
 |none=>yI c.args vs n λl n=> .call c.id l n (dD c.res) (k (uF c.res n) (n+(dD c.res).length))
section
variable {S:Nat->List Int->List Int->Prop} {L:V->Env->Prop}
theorem B2 {k:IntKind} {lo hi:Int} {n nb:Nat} {ρ:Env}:∀{l:List A} {r:List J},ib k lo hi l=some r->(∀a∈l,A.ok n nb ρ a)->∀x∈r,J.aX n x
 |[],r,h,_=>by simp[ib]at h;subst h;intro x hx;simp at hx
 |a::s,r,h,bb=>by
  cases a with
  |int aZ x=>
   simp only[ib]at h
   cases hc:(decide (k=aZ)&&kc lo hi x)with
   |false=>simp[hc]at h
   |true=>
    cases hr:ib k lo hi s with
    |none=>simp[hc,hr]at h
    |some fh=>
     simp only[hc,hr,cond_true,Option.some.injEq]at h
     subst h
     intro y hy
     rcases List.mem_cons.1 hy with hy|hy
     ·rw[hy]
      have h0:A.ok n nb ρ (.int aZ x):=bb _ (List.mem_cons_self ..)
      have h0:x.ok n ρ:=h0
      exact h0.1
     ·exact B2 hr (λa ha=>bb a (List.mem_cons_of_mem _ ha)) y hy
  |_=>simp[ib]at h
theorem Ij {n nb:Nat} {ρ:Env}:∀{d:List az} {l:List A} {r:List J},kC d l=some r->(∀a∈l,A.ok n nb ρ a)->∀x∈r,J.aX n x
 |[],[],r,h,_=>by simp[kC]at h;subst h;intro x hx;simp at hx
 |c::d,a::s,r,h,bb=>by
  simp only[kC]at h
  cases hx:c.fit a with
  |none=>simp[hx]at h
  |some x=>
   cases hr:kC d s with
   |none=>simp[hx,hr]at h
   |some fh=>
    simp only[hx,hr,Option.some.injEq]at h
    subst h
    intro y hy
    rcases List.mem_cons.1 hy with hy|hy
    ·subst hy
     have h0:=bb a (by simp)
     unfold az.fit at hx
     split at hx
     ·rename_i k lo hi aZ z
      cases hc:(decide (k=aZ)&&kc lo hi z)with
      |false=>simp[hc]at hx
      |true=>
       simp only[hc,cond_true,Option.some.injEq]at hx
       subst hx
       have h0:z.ok n ρ:=h0
       exact h0.1
     ·simp only[Option.some.injEq]at hx;subst hx
      exact h0.1
     ·simp only[Option.some.injEq]at hx;subst hx
      exact J.bS _ _
     ·cases hx
    ·exact Ij hr (λa ha=>bb a (List.mem_cons_of_mem _ ha)) y hy
 |[],_::_,_,h,_=>by simp[kC]at h
 |_::_,[],_,h,_=>by simp[kC]at h
theorem Pm {n nb:Nat} {ρ:Env} {d:D} {v:V} {r:List J} (h:q8 d v=some r) (bb:v.ok n nb ρ):∀x∈r,J.aX n x:=by
 unfold q8 at h
 split at h
 ·rename_i k lo hi aZ y
  cases hc:(decide (k=aZ)&&kc lo hi y)with
  |false=>simp[hc]at h
  |true=>
   simp only[hc,cond_true,Option.some.injEq]at h
   subst h
   have h0:y.ok n ρ:=bb
   intro x hx
   simp at hx;subst hx
   exact h0.1
 ·rename_i k n' lo hi l
  cases hc:Nat.beq l.length n' with
  |false=>simp[hc]at h
  |true=>
   simp only[hc,cond_true]at h
   exact B2 h bb
 ·exact Ij h bb
 ·simp only[Option.some.injEq]at h;subst h
  intro x hx
  simp at hx;subst hx
  exact bb.1
 ·simp only[Option.some.injEq]at h;subst h
  intro x hx
  simp at hx;subst hx
  exact J.bS _ _
 ·rename_i l y
  cases hc:y.cG with
  |none=>simp[hc]at h
  |some c=>
   simp only[hc]at h
   cases hd:decide (c=eG (lZ l))with
   |false=>simp[hd]at h
   |true=>
    simp only[hd,cond_true,Option.some.injEq]at h
    subst h
    intro x hx;simp at hx
 ·rename_i k c aZ y
  cases hc:y.l.cG with
  |none=>simp[hc]at h
  |some d=>
   simp only[hc]at h
   cases hd:(decide (k=aZ)&&decide (d=c))with
   |false=>simp[hd]at h
   |true=>
    simp only[hd,cond_true,Option.some.injEq]at h
    subst h
    intro x hx;simp at hx
 ·cases h
theorem bn.DB:∀{sh:List az} {zs:List Int},bn sh zs->bI (sh.map az.c2) zs/\List.zipWith az.val sh zs=cB sh zs
 |[],[],_=>⟨trivial,rfl⟩
 |c::sh,z::zs,h=>⟨⟨h.1.1,h.1.2,(bn.DB h.2).1⟩,by simp[cB,(bn.DB h.2).2]⟩
 |[],_::_,h=>h.elim
 |_::_,[],h=>h.elim
theorem MW {f:az->Int->Value}:∀(a:List az) (b c:List Int),b.length=a.length->List.zipWith f a (b++c)=List.zipWith f a b
 |[],b,c,_=>by simp
 |_::a,[],c,h=>by simp at h
 |_::a,z::b,c,h=>by simp[MW a b c (by simpa using h)]
theorem Pk {d:D} {v:V} {X:Value} {n nb:Nat} {ρ:Env} {m:Nat->Nat} (hv:v.ok n nb ρ) (bt:v.rel ρ m X):ar S L (B4 d v) n ρ λag n' ls=>(∀x∈ls,J.aX n' x)/\ls.length=d.num/\bI d.bds (ls.map (·.den ag))/\∀zs,d.val ((ls.map (·.den ag))++zs)=X:=by
 unfold B4
 split
 ·rename_i e
  have bt:X= .bool (e.den ρ):=bt
  exact zm.bind λaG n1 l hn ha ⟨g1,g2,g3⟩=>ar.pure ⟨λx hx=>by simp at hx;subst hx;exact g1,rfl,⟨g2.1,g2.2,trivial⟩,λzs=>by rw[bt,g3];rfl⟩
 ·rename_i l s
  have bt:X= .agg (s.map (A.den ρ m)).toArray:=bt
  refine(xn (nb:=nb) (m:=m) hv).mono λaG n1 ls hn ha ⟨g1,g2,g3⟩=>?_
  have h1:=bn.DB g2
  have h2:=g2.len
  refine⟨g1,by simpa [D.num]using h2,h1.1,λzs=>?_⟩
  rw[bt,<-g3,<-h1.2]
  simp only[D.val]
  rw[MW _ _ _ (by simpa using h2)]
 ·rename_i k lo hi aZ x
  have bt:X= .int aZ (x.l.den ρ):=bt
  have hv:x.ok n ρ:=hv
  refine cH λhk=>?_
  have hk:=of_decide_eq_true hk
  subst hk
  cases hf:kc lo hi x with
  |true=>
   have:=vC hf hv
   exact ar.pure ⟨λy hy=>by simp at hy;subst hy;exact hv.1,rfl,⟨this.1,this.2,trivial⟩,λzs=>by rw[bt];rfl⟩
  |false=>
   refine ee λhc=>ar.pure ?_
   simp only[List.map_cons,List.map_nil,ad,J.aS]at hc
   exact⟨λy hy=>by simp at hy;subst hy;exact hv.1,rfl,⟨hc.1,hc.2,trivial⟩,λzs=>by rw[bt];rfl⟩
 ·split
  ·rename_i hf
   obtain⟨p1,bz,b5⟩:=Ih (m:=m) hf hv bt
   exact ar.pure ⟨Pm hf hv,p1,bz,b5⟩
  ·exact ar.fail
theorem dJ.ext {n nb:Nat} {ρ ag:Env} {m m':Nat->Nat}:∀{vs:List V} {xs:List Value},dJ ρ m vs xs->(∀v∈vs,V.ok n nb ρ v)->agree n ρ ag->(∀b,b<nb->m' b=m b)->dJ ag m' vs xs
 |[],[],_,_,_,_=>trivial
 |v::vs,x::xs,h,bb,ha,hm=>⟨V.rel.ext h.1 (bb v (by simp)) ha hm,dJ.ext h.2 (λu hu=>bb u (List.mem_cons_of_mem _ hu)) ha hm⟩
 |[],_::_,h,_,_,_=>h.elim
 |_::_,[],h,_,_,_=>h.elim
theorem Ii {nb:Nat} {m:Nat->Nat}:∀{ds:List D} {vs:List V} {xs:List Value} {n:Nat} {ρ:Env},(∀v∈vs,V.ok n nb ρ v)->dJ ρ m vs xs->ar S L (yI ds vs) n ρ λag n' ls=>(∀x∈ls,J.aX n' x)/\bI (dD ds) (ls.map (·.den ag))/\jj ds (ls.map (·.den ag))=xs
 |[],[],[],n,ρ,_,_=>ar.pure ⟨λ_ h=>by simp at h,trivial,rfl⟩
 |d::ds,v::vs,x::xs,n,ρ,bb,hr=>by
  unfold yI
  refine(Pk (nb:=nb) (bb v (by simp)) hr.1).bind λaG n1 a c7 cn ⟨p0,p1,bz,b5⟩=>(Ii (ds:=ds) (vs:=vs) (λu hu=>(bb u (List.mem_cons_of_mem _ hu)).ext cn c7 (Nat.le_refl _)) (dJ.ext hr.2 (λu hu=>bb u (List.mem_cons_of_mem _ hu)) cn (λ_ _=>rfl))).bind λa8 da b cO cC ⟨q0,q1,q2⟩=>ar.pure ⟨λy hy=>?_,?_,?_⟩
  ·rcases List.mem_append.1 hy with hy|hy
   ·exact(p0 y hy).mono cO
   ·exact q0 y hy
  ·have e:a.map (·.den a8)=a.map (·.den aG):=List.map_congr_left λy hy=>J.bj cC (p0 y hy)
   rw[List.map_append,e];exact oG bz q1
  ·have e:a.map (·.den a8)=a.map (·.den aG):=List.map_congr_left λy hy=>J.bj cC (p0 y hy)
   rw[List.map_append,e]
   simp only[jj,b5]
   rw[show d.num=(a.map (·.den aG)).length by simp[p1],List.drop_left,q2]
 |[],_::_,_,_,_,_,_=>ar.fail
 |_::_,[],_,_,_,_,_=>ar.fail
 |[],[],_::_,_,_,_,hr=>hr.elim
 |_::_,_::_,[],_,_,_,hr=>hr.elim
end
section
variable {S:Nat->List Int->List Int->Prop} {P:Program} {gl:dt} {w0:cQ}
theorem BB {L:V->Env->Prop} {id:Nat} {l:List J} {n:Nat} {bds:List (Int×Int)} {r:T} {G:cN} {ρ:Env} (h:(T.call id l n bds r).holds S L G ρ) {rs:List Int} (hi:bI bds rs) (hs:S id (l.map (·.den ρ)) rs):r.holds S L G (bP ρ n rs):=
 nY h hi hs
theorem EJ {ρ:Env} {m:Nat->Nat} {N nb:Nat} {ds:List D} {s:Nat} {zs:List Int} (h:bI (dD ds) zs) (ha:At ρ s zs) (hN:s+(dD ds).length<=N):(uF ds s).ok N nb ρ/\(uF ds s).rel ρ m (gm ds zs):=by
 have hs:=Fu (m:=m) (nb:=nb) ds h ha hN
 unfold uF gm
 rw[<-hs.2]
 split
 ·rename_i u heq
  rw[heq]at hs
  rw[heq]
  exact⟨hs.1 u (by simp),rfl⟩
 ·rename_i l hne
  refine⟨hs.1,?_⟩
  split
  ·rename_i x heq
   have:∃u,nM s ds=[u]:=by
    cases hl:nM s ds with
    |nil=>rw[hl]at heq;simp at heq
    |cons u r=>
     cases r with
     |nil=>exact⟨u,rfl⟩
     |cons _ _=>rw[hl]at heq;simp at heq
   obtain⟨u,hu⟩:=this
   exact absurd hu (hne u)
  ·rfl
def cD.o5 (P:Program) (wb:World) (c:cD) (spec:List Int->List Int->Prop):Prop:=
 ∀zs,bI (dD c.args) zs->∃rs,bI (dD c.res) rs/\spec zs rs/\∀w,wb.Extends w->sI P c.f (jj c.args zs).toArray w (gm c.res rs)
theorem cD.Ok.f {wb:World} {c:cD} {spec:List Int->List Int->Prop} (h:c.Ok P wb spec):c.o5 P wb spec:=λzs hz=>by
 obtain⟨rs,h1,h2,h3⟩:=h.2 zs hz
 exact⟨rs,h1,h2,λw hw=> .inr ⟨h.1 _ _,h3 w hw⟩⟩
theorem cD.snd {c:cD} {spec:List Int->List Int->Prop} (hc:c.o5 P w0.b spec) (e5:∀zs rs,spec zs rs->S c.id zs rs) (L:V->Env->Prop) (n:Nat) (ρ:Env) (m:Nat->Nat) (bl:List ay) (vs:List V) (xs:List Value)
 (eQ:∀v∈vs,V.ok n bl.length ρ v) (hr:dJ ρ m vs xs):ar S L (c.M bl vs) n ρ λag n' v=>v.ok n' bl.length ag/\∃val,v.rel ag m val/\∀w,Mem w0 ρ m bl w->sI P c.f xs.toArray w val:=by
 intro G k hk
 unfold cD.M at hk
 cases hl:ld c.args vs with
 |none=>
  simp only[hl]at hk
  obtain⟨aG,n1,l,c7,cn,⟨_,h1,h2⟩,hk⟩:=Ii (S:=S) (L:=L) (nb:=bl.length) eQ hr G _ hk
  obtain⟨rs,r1,r2,eR⟩:=hc _ h1
  have al:=BB hk r1 (e5 _ _ r2)
  have hlen:=iG r1
  have kj:=EJ (m:=m) (nb:=bl.length) (N:=n1+(dD c.res).length) r1 (At.bP aG n1 rs) (Nat.le_refl _)
  refine⟨_,_,_,Nat.le_trans c7 (Nat.le_add_right _ _),cn.trans (agree.bP rs n1 aG) c7,⟨kj.1,_,kj.2,λw hw=>?_⟩,al⟩
  rw[h2]at eR
  exact eR w hw.ext
 |some l=>
  simp only[hl]at hk
  obtain⟨h1,h2⟩:=B6 hl eQ hr
  obtain⟨rs,r1,r2,eR⟩:=hc _ h1
  have al:=BB hk r1 (e5 _ _ r2)
  have hlen:=iG r1
  have kj:=EJ (m:=m) (nb:=bl.length) (N:=n+(dD c.res).length) r1 (At.bP ρ n rs) (Nat.le_refl _)
  refine⟨_,_,_,Nat.le_add_right _ _,agree.bP rs n ρ,⟨kj.1,_,kj.2,λw hw=>?_⟩,al⟩
  rw[h2]at eR
  exact eR w hw.ext
def Ut:List ay->List V->M V:=λ_ vs=>
 match vs with
 |[.w (.one (.int .u64 x)),.w (.one (.int .u64 y))]=>
  cond (decide (0<=x.lo)&&decide (x.hi<18446744073709551616)&&decide (0<=y.lo)&&decide (y.hi<18446744073709551616)) (bind (mulM x y) λp=>bind (na p 18446744073709551616) λq=>
   pure (.dZ [.one (.int .u64 q),.one (.int .u64 ⟨p.l.sub (q.l.smul 18446744073709551616),0,18446744073709551615⟩)])) fail
 |_=>fail
def NJ:List ay->List V->M V:=λ_ vs=>
 match vs with
 |[.w (.one (.int .u64 x)),.w (.one (.int .u64 y)),.w (.one (.int .u64 c))]=>
  cond (decide (0<=x.lo)&&decide (0<=y.lo)&&decide (0<=c.lo)&&decide (c.hi<=1)) (bind (na ⟨(x.l.add y.l).add c.l,x.lo+y.lo+c.lo,x.hi+y.hi+c.hi⟩ 18446744073709551616) λq=>
   pure (.dZ [.one (.int .u64 ⟨((x.l.add y.l).add c.l).sub (q.l.smul 18446744073709551616),0,18446744073709551615⟩),.one (.int .u64 q)])) fail
 |_=>fail
def X3:List ay->List V->M V:=λ_ vs=>
 match vs with
 |[.w (.one (.int .u64 x)),.w (.one (.int .u64 y)),.w (.one (.int .u64 c))]=>
  cond (decide (0<=x.lo)&&decide (x.hi<18446744073709551616)&&decide (0<=y.lo)&&decide (y.hi<18446744073709551616)&&decide (0<=c.lo)&&decide (c.hi<=1)) (bind (na ⟨(x.l.sub y.l).sub c.l,x.lo-y.hi-c.hi,x.hi-y.lo-c.lo⟩ 18446744073709551616) λq=>
   pure (.dZ [.one (.int .u64 ⟨((x.l.sub y.l).sub c.l).sub (q.l.smul 18446744073709551616),0,18446744073709551615⟩),.one (.int .u64 ⟨q.l.smul (-1),0,1⟩)])) fail
 |_=>fail
variable {L:V->Env->Prop} {n:Nat} {ρ:Env} {m:Nat->Nat} {bl:List ay} {vs:List V} {xs:List Value}
end
end Go.bo
namespace Go.bo
open M
theorem qG:∀{b:List (Int×Int)} {P:List Int->Prop},(∀rs,bI b rs->P rs)->m5 b P
 |[],_,h=>h [] trivial
 |(l,u)::b,P,h=>λr h1 h2=>qG (b:=b) (P:=λrs=>P (r::rs)) λrs hi=>h (r::rs) ⟨h1,h2,hi⟩
inductive O where
 |l (x:J)
 |b (x:aY)
def O.den (ρ:Env):O->Int
 |l x=>x.den ρ
 |b x=>cond (x.den ρ) 1 0
def fC (k:IntKind):List A->Option (List O)
 |[]=>some []
 | .int aZ x::r=>cond (decide (k=aZ)) (match fC k r with|some l=>some (.l x.l::l)|none=>none) none
 |_::_=>none
def az.out:az->A->Option O
 | .int k _ _,.int aZ x=>cond (decide (k=aZ)) (some (.l x.l)) none
 | .str,.str l=>some (.l l)
 | .bool,.bool e=>some (.b e)
 |_,_=>none
def kN:List az->List A->Option (List O)
 |[],[]=>some []
 |c::d,a::r=>match c.out a,kN d r with|some o,some l=>some (o::l)|_,_=>none
 |_,_=>none
def oQ:D->W->Option (List O)
 | .int k _ _,.one (.int aZ x)=>cond (decide (k=aZ)) (some [.l x.l]) none
 | .bool,.one (.bool x)=>some [.b x]
 | .agg k n _ _,.agg l=>cond (Nat.beq l.length n) (fC k l) none
 | .str,.one (.str l)=>some [.l l]
 | .mix d,.agg l=>kN d l
 |_,_=>none
def p9:List D->List W->Option (List O)
 |[],[]=>some []
 |d::r,w::s=>match oQ d w,p9 r s with|some a,some b=>some (a++b)|_,_=>none
 |_,_=>none
def outs (ds:List D):V->Option (List O)
 | .w u=>match ds with|[d]=>oQ d u|_=>none
 | .dZ l=>match ds with|[_]=>none|_=>p9 ds l
 |_=>none
def qB (ds:List D) (K:List Int->Prop) (v:V) (ρ:Env):Prop:=
 match outs ds v with
 |some os=>K (os.map (O.den ρ))
 |none=>False
theorem Lg {ρ:Env} {m:Nat->Nat} {k:IntKind}:∀{l:List A} {os:List O},fC k l=some os->os.length=l.length/\l.map (A.den ρ m)=(os.map (O.den ρ)).map (.int k)
 |[],os,h=>by simp[fC]at h;subst h;exact⟨rfl,rfl⟩
 | .int aZ x::r,os,h=>by
  simp only[fC]at h
  by_cases hk:k=aZ
  ·simp only[hk,decide_true,cond_true]at h
   cases hr:fC aZ r with
   |none=>simp[hr]at h
   |some o=>
    simp only[hr,Option.some.injEq]at h
    subst h
    subst hk
    obtain⟨h1,h2⟩:=Lg (ρ:=ρ) (m:=m) hr
    exact⟨by simp[h1],by simp only[List.map_cons,h2,A.den,O.den]⟩
  ·simp[hk]at h
 | .bool _::_,_,h=>by simp[fC]at h
 | .ptr .. ::_,_,h=>by simp[fC]at h
 | .iL .. ::_,_,h=>by simp[fC]at h
 | .gptr .. ::_,_,h=>by simp[fC]at h
 | .slc .. ::_,_,h=>by simp[fC]at h
 | .con _::_,_,h=>by simp[fC]at h
 | .str _::_,_,h=>by simp[fC]at h
theorem az.VK {ρ:Env} {m:Nat->Nat} {c:az} {a:A} {o:O} (h:c.out a=some o):a.den ρ m=c.val (o.den ρ):=by
 unfold az.out at h
 split at h
 ·rename_i k lo hi aZ x
  by_cases hk:k=aZ
  ·subst hk
   simp only[decide_true,cond_true,Option.some.injEq]at h
   subst h;rfl
  ·simp[hk]at h
 ·simp only[Option.some.injEq]at h;subst h;rfl
 ·rename_i e
  simp only[Option.some.injEq]at h;subst h
  have hb:∀b:Bool,Value.bool b=Value.bool (decide ((cond b 1 0:Int)=1)):=by intro b;cases b<;>rfl
  exact hb (e.den ρ)
 ·cases h
theorem Lj {ρ:Env} {m:Nat->Nat}:∀{d:List az} {l:List A} {os:List O},kN d l=some os->os.length=d.length/\l.map (A.den ρ m)=List.zipWith az.val d (os.map (O.den ρ))
 |[],[],os,h=>by simp[kN]at h;subst h;exact⟨rfl,rfl⟩
 |c::d,a::r,os,h=>by
  simp only[kN]at h
  cases h1:c.out a with
  |none=>simp[h1]at h
  |some o=>
   cases hr:kN d r with
   |none=>simp[h1,hr]at h
   |some l=>
    simp only[h1,hr,Option.some.injEq]at h
    subst h
    obtain⟨p1,bz⟩:=Lj (ρ:=ρ) (m:=m) hr
    exact⟨by simp[p1],by simp only[List.map_cons,bz,az.VK h1,List.zipWith_cons_cons]⟩
 |[],_::_,_,h=>by simp[kN]at h
 |_::_,[],_,h=>by simp[kN]at h
theorem Eu {ρ:Env} {m:Nat->Nat} {d:D} {u:W} {os:List O} (h:oQ d u=some os):os.length=d.num/\∀zs,d.val (os.map (O.den ρ)++zs)=u.den ρ m:=by
 unfold oQ at h
 split at h
 ·rename_i k _ _ aZ x
  by_cases hk:k=aZ
  ·subst hk
   simp only[decide_true,cond_true,Option.some.injEq]at h
   subst h
   exact⟨rfl,λzs=>by simp[D.val,W.den,A.den,O.den]⟩
  ·simp[hk]at h
 ·rename_i x
  simp only[Option.some.injEq]at h
  subst h
  exact⟨rfl,λzs=>by cases hx:x.den ρ<;>simp[D.val,W.den,A.den,O.den,hx]⟩
 ·rename_i k n' _ _ l
  cases hc:Nat.beq l.length n' with
  |false=>simp[hc]at h
  |true=>
   simp only[hc,cond_true]at h
   have hl:=Nat.eq_of_beq_eq_true hc
   subst hl
   obtain⟨h1,h2⟩:=Lg (ρ:=ρ) (m:=m) h
   exact⟨h1,λzs=>by simp only[D.val,W.den,h2];rw[List.take_append_of_le_length (by simp[h1]),List.take_of_length_le (by simp[h1])]⟩
 ·simp only[Option.some.injEq]at h;subst h
  exact⟨rfl,λzs=>rfl⟩
 ·rename_i d l
  obtain⟨h1,h2⟩:=Lj (ρ:=ρ) (m:=m) h
  refine⟨h1,λzs=>?_⟩
  simp only[D.val,W.den,h2]
  congr 2
  have key:∀(a:List az) (b c:List Int),b.length=a.length->List.zipWith az.val a (b++c)=List.zipWith az.val a b:=by
   intro a
   induction a with
   |nil=>intro b c _;simp
   |cons p a ih=>
    intro b c hb
    cases b with
    |nil=>simp at hb
    |cons z b=>simp[ih b c (by simpa using hb)]
  exact key _ _ _ (by simp[h1])
 ·cases h
theorem Lh {ρ:Env} {m:Nat->Nat}:∀{ds:List D} {l:List W} {os:List O},p9 ds l=some os->jj ds (os.map (O.den ρ))=l.map (W.den ρ m)
 |[],[],os,h=>by simp[p9]at h;subst h;rfl
 |d::ds,u::l,os,h=>by
  simp only[p9]at h
  cases h1:oQ d u with
  |none=>simp[h1]at h
  |some a=>
   cases h2:p9 ds l with
   |none=>simp[h1,h2]at h
   |some b=>
    simp only[h1,h2,Option.some.injEq]at h
    subst h
    obtain⟨p1,bz⟩:=Eu (ρ:=ρ) (m:=m) h1
    rw[List.map_append]
    simp only[jj,bz,List.map_cons]
    rw[show d.num=(a.map (O.den ρ)).length by simp[p1],List.drop_left,Lh h2]
 |[],_::_,_,h=>by simp[p9]at h
 |_::_,[],_,h=>by simp[p9]at h
theorem Zp (ds:List D):∀zs,(jj ds zs).length=ds.length:=by
 induction ds with
 |nil=>intro zs;rfl
 |cons d r ih=>intro zs;simp[jj,ih]
theorem GM {ds:List D} {K:List Int->Prop} {v:V} {ρ:Env} {m:Nat->Nat} {val:Value} (h:qB ds K v ρ) (hr:v.rel ρ m val):∃rs,K rs/\val=gm ds rs:=by
 unfold qB at h
 cases ho:outs ds v with
 |none=>simp[ho]at h
 |some os=>
  simp only[ho]at h
  refine⟨_,h,?_⟩
  unfold outs at ho
  cases v with
  |any=>cases ho
  |jA _ _ _=>cases ho
  |j9 _ _=>cases ho
  |w u=>
   simp only at ho
   split at ho
   ·rename_i d
    obtain⟨p1,bz⟩:=Eu (ρ:=ρ) (m:=m) ho
    simp only[V.rel]at hr
    have:=bz []
    rw[List.append_nil]at this
    simp[gm,jj,this,hr]
   ·cases ho
  |dZ l=>
   simp only at ho
   split at ho
   ·cases ho
   ·rename_i hne
    have:=Lh (ρ:=ρ) (m:=m) ho
    simp only[V.rel]at hr
    unfold gm
    split
    ·rename_i x heq
     exfalso
     have hl:=Zp ds (os.map (O.den ρ))
     rw[heq]at hl
     match ds,hl with
     |[d],_=>exact hne d rfl
    ·rw[hr,this]
noncomputable def ZU (cons:List cD) (Uu NK X4:FuncId):ew:=λf=>
 cond (Nat.beq f Uu) (some Ut) <| cond (Nat.beq f NK) (some NJ) <| cond (Nat.beq f X4) (some X3) <|
 match cons.find? (λc=>Nat.beq f c.f)with
 |some c=>some c.M
 |none=>none
section
variable {S:Nat->List Int->List Int->Prop} {P:Program} {gl:dt} {wb:World}
noncomputable def yh (cons:List cD):ew:=λf=>
 match cons.filter (λc=>Nat.beq f c.f)with
 |[]=>none
 |l=>some λbl vs n k=>match l.find? (λc=>(ld c.args vs).isSome)with
  |some c=>c.M bl vs n k
  |none=>match l with
   |c::_=>c.M bl vs n k
   |[]=> .stuck
theorem Hq {w0:cQ} {cons:List cD} (hc:∀c∈cons,c.o5 P w0.b (S c.id)):gB S P gl w0 (yh cons):=by
 intro f g mB L n ρ m bl vs xs h1 h2 h3 h4
 unfold yh at mB
 split at mB
 ·cases mB
 ·rename_i l hl
  simp only[Option.some.injEq]at mB
  subst mB
  intro G k hk
  simp only at hk
  split at hk
  ·rename_i c ng
   have cl:=List.mem_filter.1 (List.mem_of_find?_eq_some ng)
   have vZ:=Nat.eq_of_beq_eq_true cl.2
   subst vZ
   exact cD.snd (hc c cl.1) (λ_ _ h=>h) L n ρ m bl vs xs h3 h4 G k hk
  ·split at hk
   ·rename_i c r hl2
    have cl:=List.mem_filter.1 (show c∈cons.filter (λc=>Nat.beq f c.f) from by rw[hl2];exact List.mem_cons_self (a:=c) (l:=r))
    have vZ:=Nat.eq_of_beq_eq_true cl.2
    subst vZ
    exact cD.snd (hc c cl.1) (λ_ _ h=>h) L n ρ m bl vs xs h3 h4 G k hk
   ·exact hk.elim
theorem Calls.some {f:FuncId} {args:Array Value} {w:World} {R:Ending->World->Prop} (h:Calls P f args w R):∃e w',R e w':=by
 obtain⟨e,w',ob,h1,_⟩:=h []
 exact⟨e,w',h1⟩
noncomputable def cD.tree (P:Program) (gl:dt) (bf:ew) (li:FuncId->Nat->Option c0) (rounds d:Nat) (c:cD):T:=
 yi P gl bf li rounds d c.f (dD c.args).length ((nM 0 c.args).map V.w) [] λ_ v _=> .leaf v
theorem GL {ρ:Env} {m:Nat->Nat}:∀(l:List W),dJ ρ m (l.map V.w) (l.map (W.den ρ m))
 |[]=>trivial
 |_::r=>⟨rfl,GL r⟩
theorem cD.calls {c:cD} {bf:ew} {li:FuncId->Nat->Option c0} {rounds d:Nat} {L:V->Env->Prop} (hm:P.follows .mixedOrders=true) (cM:∀r ex ro,gB S P gl ⟨wb,r,ex,ro,[]⟩ bf) (hg:fv gl ⟨wb,wb,λ_=>False,λ_=>False,[]⟩) {zs:List Int} (hz:bI (dD c.args) zs)
 (ht:(c.tree P gl bf li rounds d).holds S L (λ_ _=>False) (bP (λ_=>0) 0 zs)) (w:World) (hw:wb.Extends w):
 Calls P c.f (jj c.args zs).toArray w λe w'=>∃v ag m val,e= .returned val/\v.rel ag m val/\L v ag/\w.Extends w':=by
 have hs:=Fu (m:=λ_=>0) (nb:=0) (N:=(dD c.args).length) c.args hz (At.bP (λ_=>0) 0 zs) (by omega)
 have:=Og (L:=L) (b:=wb) (w:=w) hm (cM w _ _) hg c.f _ _ _ ((nM 0 c.args).map (W.den (bP (λ_=>0) 0 zs) λ_=>0)) hw (λv hv=>by
  obtain⟨u,hu,rfl⟩:=List.mem_map.1 hv
  exact hs.1 u hu) (GL _) ht
 rw[hs.2]at this
 refine this.mono λe w' ⟨v,ag,m,val,nb,h1,h2,_,h3,h4⟩=>⟨v,ag,m,val,h1,h2,h3,h4⟩
end
end Go.bo
namespace Go.bo
open M
structure ZN where
 f:FuncId
 id:Nat
 k:IntKind
 N:Nat
 lo:Int
 hi:Int
 ty:TypeId
 off:Nat
 len:Nat
 cap:Nat
 args:List D
 res:List D
section
variable {S:Nat->List Int->List Int->Prop} {P:Program} {gl:dt} {w0:cQ}
end
end Go.bo
namespace Go.bo
def ti (P:Program) (f:FuncId):Bool:=match P.funcs[f]? with
 |some fn=> !(fn.name== "runtime.NumGoroutine")&&fn.body.isSome
 |none=>false
theorem enters {P:Program} {f:FuncId} (h:ti P f=true) (args:Array Value) (w:World):(callFunc f args).run P w= .ok (.enter f args) w:=by
 unfold ti at h
 cases hf:P.funcs[f]? with
 |none=>simp[hf]at h
 |some fn=>
  simp only[hf,Bool.and_eq_true,Bool.not_eq_true']at h
  have h1:fn.name≠ "runtime.NumGoroutine" :=by simpa using h.1
  obtain⟨c,hc⟩:=Option.isSome_iff_exists.1 h.2
  simp[callFunc,hf,h1,hc,Sem.run]
section
variable {S:Nat->List Int->List Int->Prop} {P:Program} {gl:dt} {wb:World}
end
end Go.bo
namespace Go.bo
abbrev eM:=List (Nat×Nat)
abbrev eL:=List (List Int)
def l4:eM->eL->Nat->Int
 |(s,k)::st,l::aP,i=>cond (Nat.ble s i&&Nat.blt i (s+k)) (l.getD (i-s) 0) (l4 st aP i)
 |_,_,_=>0
def DZ:eM->eL->Prop
 |(_,k)::st,l::aP=>l.length=k/\DZ st aP
 |[],[]=>True
 |_,_=>False
def jn (ρ:Env) (st:eM) (aP:eL):Prop:=DZ st aP/\∀i,ρ i=l4 st aP i
def s6 (st:eM) (aP:eL):List (Int×Nat)->Int
 |[]=>0
 |(k,i)::r=>match r with
  |[]=>cond (k==1) (l4 st aP i) (k*l4 st aP i)
  |_=>cond (k==1) (l4 st aP i) (k*l4 st aP i)+s6 st aP r
def J.dg (st:eM) (aP:eL) (l:J):Int:=
 match l.ts with
 |[]=>l.c
 |ts=>cond (l.c==0) (s6 st aP ts) (s6 st aP ts+l.c)
theorem HJ {ρ:Env} {st:eM} {aP:eL} (h:∀i,ρ i=l4 st aP i):∀ts,s6 st aP ts=eO ρ ts
 |[]=>rfl
 |(k,i)::[]=>by
  simp only[s6,eO,<-h i]
  cases hk:(k==1)with
  |true=>have:k=1:=by simpa using hk
         subst this;simp
  |false=>simp
 |(k,i)::t::r=>by
  have ih:=HJ h (t::r)
  rw[s6,eO,ih,<-h i]
  ·cases hk:(k==1)with
   |true=>have:k=1:=by simpa using hk
          subst this;simp
   |false=>simp
  ·intro hc;cases hc
theorem J.fx {ρ:Env} {st:eM} {aP:eL} (h:∀i,ρ i=l4 st aP i) (l:J):l.dg st aP=l.den ρ:=by
 unfold J.dg J.den
 cases hl:l.ts with
 |nil=>simp[eO]
 |cons t r=>
  simp only[HJ h]
  cases hc:(l.c==0)with
  |true=>have:l.c=0:=by simpa using hc
         rw[this];simp
  |false=>simp
def qY:eM->eL->Nat->Nat->Option (List Int)
 |(s,k)::st,l::aP,i,len=>cond (Nat.beq s i&&Nat.beq k len) (some l) (cond (Nat.ble (i+len) s||Nat.ble (s+k) i) (qY st aP i len) none)
 |_,_,_,_=>none
theorem H7:∀{st:eM} {aP:eL} {i len:Nat} {l:List Int},qY st aP i len=some l->DZ st aP->l.length=len/\∀j,j<len->l4 st aP (i+j)=l.getD j 0
 |[],_,_,_,_,h,_=>by simp[qY]at h
 |_::_,[],_,_,_,h,_=>by simp[qY]at h
 |(s,k)::st,bp::aP,i,len,l,h,hl=>by
  unfold qY at h
  cases h1:(Nat.beq s i&&Nat.beq k len)with
  |true=>
   simp only[h1,cond_true,Option.some.injEq]at h
   subst h
   simp only[Bool.and_eq_true]at h1
   have e1:=Nat.eq_of_beq_eq_true h1.1
   have e2:=Nat.eq_of_beq_eq_true h1.2
   subst e1;subst e2
   refine⟨hl.1,λj hj=>?_⟩
   unfold l4
   have:(Nat.ble s (s+j)&&Nat.blt (s+j) (s+k))=true:=by simp[Nat.blt];omega
   rw[this,cond_true,Nat.add_sub_cancel_left]
  |false=>
   simp only[h1,cond_false]at h
   cases h2:(Nat.ble (i+len) s||Nat.ble (s+k) i)with
   |false=>simp[h2]at h
   |true=>
    simp only[h2,cond_true]at h
    obtain⟨g1,g2⟩:=H7 h hl.2
    refine⟨g1,λj hj=>?_⟩
    rw[<-g2 j hj]
    conv=>lhs;unfold l4
    have:(Nat.ble s (i+j)&&Nat.blt (i+j) (s+k))=false:=by
     simp only[Bool.or_eq_true,Nat.ble_eq]at h2
     cases h3:(Nat.ble s (i+j)&&Nat.blt (i+j) (s+k))with
     |false=>rfl
     |true=>simp[Nat.blt]at h3;omega
    rw[this,cond_false]
def wP:Nat->List J->Bool
 |_,[]=>true
 |i,l::r=>(l.c==0&&(match l.ts with|[(k,j)]=>k==1&&Nat.beq i j|_=>false))&&wP (i+1) r
def firstVar:List J->Nat
 |[]=>0
 |l::_=>match l.ts with|[(_,j)]=>j|_=>0
theorem Kf {ρ:Env}:∀{ls:List J} {i:Nat},wP i ls=true->∀j,j<ls.length->(ls.map (·.den ρ)).getD j 0=ρ (i+j)
 |[],_,_,j,hj=>by simp at hj
 |l::r,i,h,j,hj=>by
  simp only[wP,Bool.and_eq_true]at h
  cases j with
  |zero=>
   obtain⟨⟨h1,h2⟩,_⟩:=h
   have hc:l.c=0:=by simpa using h1
   cases hl:l.ts with
   |nil=>simp[hl]at h2
   |cons t s=>
    cases s with
    |cons t' Xo=>simp[hl]at h2
    |nil=>
     obtain⟨k,q⟩:=t
     simp only[hl,Bool.and_eq_true]at h2
     have e1:k=1:=by simpa using h2.1
     have e2:=Nat.eq_of_beq_eq_true h2.2
     subst e1;subst e2
     simp[J.den,hl,eO,hc]
  |succ j=>
   have:=Kf (ρ:=ρ) h.2 j (by simpa using hj)
   simp only[List.map_cons,List.getD_cons_succ]
   rw[this]
   congr 1;omega
def nK (st:eM) (aP:eL) (ls:List J):List Int:=
 cond (Nat.blt 1 ls.length&&wP (firstVar ls) ls) (match qY st aP (firstVar ls) ls.length with|some l=>l|none=>ls.map (J.dg st aP)) (ls.map (J.dg st aP))
theorem Kz {l bp:List Int} (hl:l.length=bp.length) (h:∀j,j<l.length->l.getD j 0=bp.getD j 0):l=bp:=by
 apply List.ext_getElem hl
 intro j h1 h2
 have:=h j h1
 simpa [List.getD_eq_getElem?_getD,List.getElem?_eq_getElem h1,List.getElem?_eq_getElem h2]using this
theorem Aj {ρ:Env} {st:eM} {aP:eL} (h:jn ρ st aP) (ls:List J):nK st aP ls=ls.map (·.den ρ):=by
 have cA:ls.map (J.dg st aP)=ls.map (·.den ρ):=List.map_congr_left λl _=>J.fx h.2 l
 unfold nK
 cases h1:(Nat.blt 1 ls.length&&wP (firstVar ls) ls)with
 |false=>simpa using cA
 |true=>
  simp only[cond_true]
  simp only[Bool.and_eq_true]at h1
  cases h2:qY st aP (firstVar ls) ls.length with
  |none=>exact cA
  |some l=>
   obtain⟨g1,g2⟩:=H7 h2 h.1
   show l=_
   refine Kz (by simp[g1]) λj hj=>?_
   rw[Kf h1.2 j (by omega),h.2,g2 j (by omega)]
def iT:aY->Option (List J×List J)
 | .eq a b=>some ([a],[b])
 | .and (.eq a b) r=>match iT r with|some (x,y)=>some (a::x,b::y)|none=>none
 |_=>none
def aY.dg (st:eM) (aP:eL):aY->Bool
 |lit b=>b
 |eq a b=>decide (a.dg st aP=b.dg st aP)
 |lt a b=>decide (a.dg st aP<b.dg st aP)
 |le a b=>decide (a.dg st aP<=b.dg st aP)
 |not a=> !a.dg st aP
 |and a b=>match iT (.and a b)with
  |some (x,y)=>decide (nK st aP x=nK st aP y)
  |none=>a.dg st aP&&b.dg st aP
 |iff a b=>a.dg st aP==b.dg st aP
theorem H4 {ρ:Env}:∀{b:aY} {x y:List J},iT b=some (x,y)->b.den ρ=decide (x.map (·.den ρ)=y.map (·.den ρ))
 | .eq a b,x,y,h=>by
  simp only[iT,Option.some.injEq,Prod.mk.injEq]at h
  obtain⟨rfl,rfl⟩:=h
  simp[aY.den]
 | .and (.eq a b) r,x,y,h=>by
  simp only[iT]at h
  cases hr:iT r with
  |none=>simp[hr]at h
  |some p=>
   obtain⟨er,gp⟩:=p
   simp only[hr,Option.some.injEq,Prod.mk.injEq]at h
   obtain⟨rfl,rfl⟩:=h
   have ih:=H4 (ρ:=ρ) hr
   simp only[aY.den,ih,List.map_cons,List.cons.injEq]
   simp
 | .lit _,_,_,h=>by simp[iT]at h
 | .lt _ _,_,_,h=>by simp[iT]at h
 | .le _ _,_,_,h=>by simp[iT]at h
 | .not _,_,_,h=>by simp[iT]at h
 | .iff _ _,_,_,h=>by simp[iT]at h
 | .and (.lit _) _,_,_,h=>by simp[iT]at h
 | .and (.lt _ _) _,_,_,h=>by simp[iT]at h
 | .and (.le _ _) _,_,_,h=>by simp[iT]at h
 | .and (.not _) _,_,_,h=>by simp[iT]at h
 | .and (.and _ _) _,_,_,h=>by simp[iT]at h
 | .and (.iff _ _) _,_,_,h=>by simp[iT]at h
theorem aY.fx {ρ:Env} {st:eM} {aP:eL} (h:jn ρ st aP):∀b:aY,b.dg st aP=b.den ρ
 |lit _=>rfl
 |eq a b=>by simp only[dg,den,J.fx h.2]
 |lt a b=>by simp only[dg,den,J.fx h.2]
 |le a b=>by simp only[dg,den,J.fx h.2]
 |not a=>by simp only[dg,den,aY.fx h a]
 |and a b=>by
  have e1:=aY.fx h a
  have e2:=aY.fx h b
  unfold dg
  cases hq:iT (.and a b)with
  |none=>simp only[den,e1,e2]
  |some p=>
   obtain⟨x,y⟩:=p
   simp only[H4 (ρ:=ρ) hq,Aj h]
 |iff a b=>by simp only[dg,den,aY.fx h a,aY.fx h b]
def eW {α:Type}:List Nat->List α->List (List α)
 |[],[]=>[]
 |[],x::l=>[x::l]
 |k::ir,l=>l.take k::eW ir (l.drop k)
theorem Ak {α β:Type} (f:α->β):∀(ir:List Nat) (l:List α),eW ir (l.map f)=(eW ir l).map (List.map f)
 |[],[]=>rfl
 |[],_::_=>rfl
 |k::ir,l=>by simp only[eW,List.map_cons,<-List.map_take,<-List.map_drop,Ak f ir]
def o8:List Nat->Nat->List (Int×Int)->(eM->eL->List (List Int)->Prop)->eM->eL->Prop
 |[],_,[],P,st,aP=>P st aP []
 |[],_,_::_,_,_,_=>False
 |k::ir,n,bds,P,st,aP=>cond (Nat.beq k 1)
  (match bds with
  |(lo,hi)::G8=>∀z:Int,lo<=z->z<=hi->o8 ir (n+1) G8 (λjX jM ls=>P jX jM ([z]::ls)) ((n,1)::st) ([z]::aP)
  |[]=>False)
  (cond (Nat.ble k bds.length) (∀r:List Int,bI (bds.take k) r->o8 ir (n+k) (bds.drop k) (λjX jM ls=>P jX jM (r::ls)) ((n,k)::st) (r::aP)) False)
theorem MJ:∀(a b:List Int) (n:Nat) (ρ:Env),bP ρ n (a++b)=bP (bP ρ n a) (n+a.length) b
 |[],b,n,ρ=>rfl
 |z::a,b,n,ρ=>by
  simp only[List.cons_append,bP,List.length_cons]
  rw[MJ a b]
  congr 1;omega
theorem MK:∀(l:List Int) (n:Nat) (ρ:Env) (i:Nat),bP ρ n l i=cond (Nat.ble n i&&Nat.blt i (n+l.length)) (l.getD (i-n) 0) (ρ i)
 |[],n,ρ,i=>by
  have:(Nat.ble n i&&Nat.blt i (n+0))=false:=by
   cases h:(Nat.ble n i&&Nat.blt i (n+0))with
   |false=>rfl
   |true=>simp[Nat.blt]at h;omega
  simp only[bP,List.length_nil,this,cond_false]
 |z::l,n,ρ,i=>by
  simp only[bP]
  rw[MK l (n+1)]
  by_cases h1:i=n
  ·subst h1
   have e1:(Nat.ble (i+1) i&&Nat.blt i (i+1+l.length))=false:=by
    have:Nat.ble (i+1) i=false:=by
     cases h:Nat.ble (i+1) i with
     |false=>rfl
     |true=>exact absurd (Nat.le_of_ble_eq_true h) (by omega)
    simp[this]
   have e2:(Nat.ble i i&&Nat.blt i (i+(z::l).length))=true:=by simp[Nat.blt]
   rw[e1,e2]
   simp[cm]
  ·have hu:cm ρ n z i=ρ i:=Au ρ z h1
   by_cases h2:n<=i/\i<n+1+l.length
   ·have e1:(Nat.ble (n+1) i&&Nat.blt i (n+1+l.length))=true:=by simp[Nat.blt];omega
    have e2:(Nat.ble n i&&Nat.blt i (n+(z::l).length))=true:=by simp[Nat.blt];omega
    rw[e1,e2]
    simp only[cond_true]
    rw[show i-n=(i-(n+1))+1 by omega,List.getD_cons_succ]
   ·have e1:(Nat.ble (n+1) i&&Nat.blt i (n+1+l.length))=false:=by
     cases h:(Nat.ble (n+1) i&&Nat.blt i (n+1+l.length))with
     |false=>rfl
     |true=>simp[Nat.blt]at h;omega
    have e2:(Nat.ble n i&&Nat.blt i (n+(z::l).length))=false:=by
     cases h:(Nat.ble n i&&Nat.blt i (n+(z::l).length))with
     |false=>rfl
     |true=>simp[Nat.blt]at h;omega
    rw[e1,e2]
    simp[hu]
theorem jn.push {ρ:Env} {st:eM} {aP:eL} (h:jn ρ st aP) (n:Nat) (l:List Int):jn (bP ρ n l) ((n,l.length)::st) (l::aP):=
 ⟨⟨rfl,h.1⟩,λi=>by rw[MK,l4,<-h.2 i]⟩
theorem J8:∀{bds:List (Int×Int)} {zs:List Int} (k:Nat),bI bds zs->bI (bds.take k) (zs.take k)/\bI (bds.drop k) (zs.drop k)
 |[],[],k,_=>by simp[bI]
 |[],_::_,_,h=>h.elim
 |(_,_)::_,[],_,h=>h.elim
 |(l,u)::b,z::zs,0,h=>by simpa [bI]using h
 |(l,u)::b,z::zs,k+1,h=>by
  obtain⟨h1,h2,h3⟩:=h
  obtain⟨g1,g2⟩:=J8 (bds:=b) (zs:=zs) k h3
  exact⟨⟨h1,h2,g1⟩,g2⟩
theorem sN:∀{ir:List Nat} {n:Nat} {bds:List (Int×Int)} {P:eM->eL->List (List Int)->Prop} {st:eM} {aP:eL} {ρ:Env} {zs:List Int},o8 ir n bds P st aP->jn ρ st aP->bI bds zs->∃jX jM,jn (bP ρ n zs) jX jM/\P jX jM (eW ir zs)
 |[],n,[],P,st,aP,ρ,[],h,ht,_=>⟨st,aP,ht,h⟩
 |[],_,[],_,_,_,_,_::_,_,_,hi=>hi.elim
 |[],_,_::_,_,_,_,_,_,h,_,_=>h.elim
 |k::ir,n,bds,P,st,aP,ρ,zs,h,ht,hi=>by
  unfold o8 at h
  cases hk:Nat.beq k 1 with
  |true=>
   have e:=Nat.eq_of_beq_eq_true hk
   subst e
   simp only[hk,cond_true]at h
   cases bds with
   |nil=>exact h.elim
   |cons b G8=>
    obtain⟨lo,jr⟩:=b
    cases zs with
    |nil=>exact hi.elim
    |cons z zs=>
     obtain⟨h1,h2,h3⟩:=hi
     have:=sN (h z h1 h2) (ht.push n [z]) h3
     obtain⟨jX,jM,g1,g2⟩:=this
     refine⟨jX,jM,g1,?_⟩
     simpa [eW]using g2
  |false=>
   simp only[hk,cond_false]at h
   cases hb:Nat.ble k bds.length with
   |false=>simp only[hb,cond_false]at h
   |true=>
    simp only[hb,cond_true]at h
    have hb':k<=bds.length:=by simpa using hb
    have hlen:=iG hi
    obtain⟨i1,i2⟩:=J8 k hi
    have e:(zs.take k).length=k:=by simp;omega
    have lV:=ht.push n (zs.take k)
    rw[e]at lV
    obtain⟨jX,jM,g1,g2⟩:=sN (h _ i1) lV i2
    refine⟨jX,jM,?_,g2⟩
    have e2:=MJ (zs.take k) (zs.drop k) n ρ
    rw[List.take_append_drop,e]at e2
    rw[e2];exact g1
abbrev sE:=Nat->List (List Int)->Prop
def sE.set (A:sE) (fI:Nat) (p:List (List Int)->Prop):sE:=λi=>cond (Nat.beq i fI) p (A i)
def T.ij (sh:Nat->List Nat×List Nat) (dx:Nat->List Nat) (S:Nat->List (List Int)->List (List Int)->Prop) (L:V->eM->eL->Prop):T->sE->eM->eL->Prop
 |stuck,_,_,_=>False
 |leaf v,_,st,aP=>L v st aP
 |div n x d lo hi r,A,st,aP=>∀q:Int,lo<=q->q<=hi->0<=x.dg st aP-d*q->x.dg st aP-d*q<d->r.ij sh dx S L A ((n,1)::st) ([q]::aP)
 |mul n x y lo hi r,A,st,aP=>∀p:Int,lo<=p->p<=hi->p=x.dg st aP*y.dg st aP->r.ij sh dx S L A ((n,1)::st) ([p]::aP)
 |bit n op k x y r,A,st,aP=>∀z:Int,0<=z->z<=k.max->z=fO op k (x.dg st aP) (y.dg st aP)->r.ij sh dx S L A ((n,1)::st) ([z]::aP)
 |shr n x y lo hi r,A,st,aP=>∀z:Int,lo<=z->z<=hi->z=x.dg st aP/2^(y.dg st aP).toNat->r.ij sh dx S L A ((n,1)::st) ([z]::aP)
 |sel n cs aR lo hi r,A,st,aP=>∀z:Int,lo<=z->z<=hi->z=(nK st aP cs).getD (aR.dg st aP).toNat 0->r.ij sh dx S L A ((n,1)::st) ([z]::aP)
 |pd b t e,A,st,aP=>(b.dg st aP=true->t.ij sh dx S L A st aP)/\(b.dg st aP=false->e.ij sh dx S L A st aP)
 |call id args n bds r,A,st,aP=>o8 (sh id).2 n bds (λjX jM rs=>S id ((eW (sh id).1 args).map (nK st aP)) rs->r.ij sh dx S L A jX jM) st aP
 |loop fI init n bds r,A,st,aP=>∃(I:List (List Int)->Prop) (kT:List (List Int)->Nat),I ((eW (dx fI) init).map (nK st aP))/\
  o8 (dx fI) n bds (λjX jM zs=>I zs->r.ij sh dx S L (A.set fI λvs=>I vs/\kT vs<kT zs) jX jM) st aP
 |again fI vals,A,st,aP=>A fI ((eW (dx fI) vals).map (nK st aP))
 |both a b,A,st,aP=>a.ij sh dx S L A st aP/\b.ij sh dx S L A st aP
 |fn n op args lo hi r,A,st,aP=>∀z:Int,lo<=z->z<=hi->z=aa op (args.map (J.dg st aP))->r.ij sh dx S L A ((n,1)::st) ([z]::aP)
 |ind n b r,A,st,aP=>∀z:Int,0<=z->z<=1->b.dg st aP=decide (z=1)->r.ij sh dx S L A ((n,1)::st) ([z]::aP)
 |mY n lo hi r,A,st,aP=>∀z:Int,lo<=z->z<=hi->r.ij sh dx S L A ((n,1)::st) ([z]::aP)
 |nat n r,A,st,aP=>∀z:Int,0<=z->r.ij sh dx S L A ((n,1)::st) ([z]::aP)
 |qI op args r,A,st,aP=>ad op (args.map (J.dg st aP))->r.ij sh dx S L A st aP
 |m7 op args r,A,st,aP=>ad op (args.map (J.dg st aP))/\r.ij sh dx S L A st aP
theorem E3 {ρ:Env} {st:eM} {aP:eL} (h:jn ρ st aP) (ir:List Nat) (l:List J):(eW ir l).map (nK st aP)=eW ir (l.map (·.den ρ)):=by
 rw[Ak];exact List.map_congr_left λx _=>Aj h x
def dn (sh:Nat->List Nat×List Nat) (S:Nat->List (List Int)->List (List Int)->Prop):Nat->List Int->List Int->Prop:=λid zs rs=>S id (eW (sh id).1 zs) (eW (sh id).2 rs)
theorem Ec {ρ:Env} {st:eM} {aP:eL} (h:jn ρ st aP) (l:List J):l.map (J.dg st aP)=l.map (·.den ρ):=List.map_congr_left λx _=>J.fx h.2 x
theorem iD {sh:Nat->List Nat×List Nat} {dx:Nat->List Nat} {S:Nat->List (List Int)->List (List Int)->Prop} {GG:V->eM->eL->Prop} {L:V->Env->Prop} (hL:∀v ρ st aP,jn ρ st aP->GG v st aP->L v ρ):
 ∀(t:T) (ev:sE) (A:cN) (ρ:Env) (st:eM) (aP:eL),(∀fI vs,ev fI (eW (dx fI) vs)->A fI vs)->jn ρ st aP->t.ij sh dx S GG ev st aP->t.holds (dn sh S) L A ρ
 | .stuck,_,_,_,_,_,_,_,h=>h
 | .leaf v,_,_,ρ,st,aP,_,ht,h=>hL v ρ st aP ht h
 | .div n x d lo hi r,ev,A,ρ,st,aP,hA,ht,h=>λq h1 h2 h3 h4=>iD hL r ev A _ _ _ hA (ht.push n [q]) (h q h1 h2 (by rw[J.fx ht.2];exact h3) (by rw[J.fx ht.2];exact h4))
 | .mul n x y lo hi r,ev,A,ρ,st,aP,hA,ht,h=>λq h1 h2 h3=>iD hL r ev A _ _ _ hA (ht.push n [q]) (h q h1 h2 (by rw[J.fx ht.2,J.fx ht.2];exact h3))
 | .bit n op k x y r,ev,A,ρ,st,aP,hA,ht,h=>λq h1 h2 h3=>iD hL r ev A _ _ _ hA (ht.push n [q]) (h q h1 h2 (by rw[J.fx ht.2,J.fx ht.2];exact h3))
 | .shr n x y lo hi r,ev,A,ρ,st,aP,hA,ht,h=>λq h1 h2 h3=>iD hL r ev A _ _ _ hA (ht.push n [q]) (h q h1 h2 (by rw[J.fx ht.2,J.fx ht.2];exact h3))
 | .sel n cs aR lo hi r,ev,A,ρ,st,aP,hA,ht,h=>λq h1 h2 h3=>iD hL r ev A _ _ _ hA (ht.push n [q]) (h q h1 h2 (by rw[Aj ht,J.fx ht.2];exact h3))
 | .pd b t e,ev,A,ρ,st,aP,hA,ht,h=>⟨λhb=>iD hL t ev A _ _ _ hA ht (h.1 (by rw[aY.fx ht];exact hb)),λhb=>iD hL e ev A _ _ _ hA ht (h.2 (by rw[aY.fx ht];exact hb))⟩
 | .call id args n bds r,ev,A,ρ,st,aP,hA,ht,h=>by
  refine qG λrs hi hs=>?_
  obtain⟨jX,jM,h1,h2⟩:=sN h ht hi
  exact iD hL r ev A _ _ _ hA h1 (h2 (by rw[E3 ht];exact hs))
 | .loop fI init n bds r,ev,A,ρ,st,aP,hA,ht,h=>by
  obtain⟨I,kT,h1,h2⟩:=h
  refine⟨λzs=>I (eW (dx fI) zs),λzs=>kT (eW (dx fI) zs),?_,?_⟩
  ·rw[E3 ht]at h1;exact h1
  ·refine qG λzs hi hI=>?_
   obtain⟨jX,jM,g1,g2⟩:=sN h2 ht hi
   refine iD hL r _ _ _ _ _ (λTJ vs hv=>?_) g1 (g2 hI)
   unfold sE.set at hv
   unfold cN.set
   cases hq:Nat.beq TJ fI with
   |true=>
    rw[hq]at hv
    have e:=Nat.eq_of_beq_eq_true hq
    subst e
    exact hv
   |false=>rw[hq]at hv;exact hA _ _ hv
 | .again fI vals,ev,A,ρ,st,aP,hA,ht,h=>hA fI _ (by rw[<-E3 ht];exact h)
 | .both x y,ev,A,ρ,st,aP,hA,ht,h=>⟨iD hL x ev A ρ st aP hA ht h.1,iD hL y ev A ρ st aP hA ht h.2⟩
 | .fn n op args lo hi r,ev,A,ρ,st,aP,hA,ht,h=>λq h1 h2 h3=>iD hL r ev A _ _ _ hA (ht.push n [q]) (h q h1 h2 (by rw[Ec ht];exact h3))
 | .ind n b r,ev,A,ρ,st,aP,hA,ht,h=>λq h1 h2 h3=>iD hL r ev A _ _ _ hA (ht.push n [q]) (h q h1 h2 (by rw[aY.fx ht];exact h3))
 | .mY n lo hi r,ev,A,ρ,st,aP,hA,ht,h=>λq h1 h2=>iD hL r ev A _ _ _ hA (ht.push n [q]) (h q h1 h2)
 | .nat n r,ev,A,ρ,st,aP,hA,ht,h=>λq h1=>iD hL r ev A _ _ _ hA (ht.push n [q]) (h q h1)
 | .qI op args r,ev,A,ρ,st,aP,hA,ht,h=>λh1=>iD hL r ev A ρ st aP hA ht (h (by rw[Ec ht];exact h1))
 | .m7 op args r,ev,A,ρ,st,aP,hA,ht,h=>⟨by rw[<-Ec ht];exact h.1,iD hL r ev A _ _ _ hA ht h.2⟩
def pZ:List O->Option (List J)
 |[]=>some []
 | .l x::r=>match pZ r with|some l=>some (x::l)|none=>none
 | .b _::_=>none
def O.dg (st:eM) (aP:eL):O->Int
 |l x=>x.dg st aP
 |b x=>cond (x.dg st aP) 1 0
def uJ (st:eM) (aP:eL) (os:List O):List Int:=
 match pZ os with
 |some ls=>nK st aP ls
 |none=>os.map (O.dg st aP)
theorem Ky {ρ:Env}:∀{os:List O} {ls:List J},pZ os=some ls->ls.map (·.den ρ)=os.map (O.den ρ)
 |[],ls,h=>by simp[pZ]at h;subst h;rfl
 | .l x::r,ls,h=>by
  simp only[pZ]at h
  cases hr:pZ r with
  |none=>simp[hr]at h
  |some l=>
   simp only[hr,Option.some.injEq]at h
   subst h
   simp only[List.map_cons,Ky hr,O.den]
 | .b _::_,_,h=>by simp[pZ]at h
theorem O.fx {ρ:Env} {st:eM} {aP:eL} (h:jn ρ st aP):∀o:O,o.dg st aP=o.den ρ
 | .l x=>J.fx h.2 x
 | .b x=>by simp only[dg,den,aY.fx h]
theorem Ma {ρ:Env} {st:eM} {aP:eL} (h:jn ρ st aP) (os:List O):uJ st aP os=os.map (O.den ρ):=by
 unfold uJ
 cases hl:pZ os with
 |some ls=>exact(Aj h ls).trans (Ky hl)
 |none=>exact List.map_congr_left λo _=>O.fx h o
def Ur (k:Nat):List Nat:=match k with
 |12=>[4,4,4]
 |15=>[5,5,5]
 |20=>[5,5,5,5]
 |k=>[k]
def D.zH:D->List Nat
 | .mix l=>Ur l.length
 | .jh _=>[]
 | .mK .. =>[]
 |d=>[d.num]
def p6 (ds:List D):List Nat:=ds.flatMap D.zH
def AX (ds:List D) (K:List (List Int)->Prop) (v:V) (st:eM) (aP:eL):Prop:=
 match outs ds v with
 |some os=>K ((eW (p6 ds) os).map (uJ st aP))
 |none=>False
theorem Nk {ds:List D} {K:List (List Int)->Prop} (v:V) (ρ:Env) (st:eM) (aP:eL) (ht:jn ρ st aP) (h:AX ds K v st aP):qB ds (λrs=>K (eW (p6 ds) rs)) v ρ:=by
 unfold AX at h
 unfold qB
 cases ho:outs ds v with
 |none=>simp[ho]at h
 |some os=>
  simp only[ho]at h⊢
  rw[Ak]
  rwa [show(eW (p6 ds) os).map (uJ st aP)=(eW (p6 ds) os).map (List.map (O.den ρ)) from List.map_congr_left λo _=>Ma ht o]at h
def vf (sh:Nat->List Nat×List Nat) (dx:Nat->List Nat) (S:Nat->List (List Int)->List (List Int)->Prop) (K:List (List Int)->List (List Int)->Prop) (lens:List Nat) (bds:List (Int×Int)) (ds:List D) (t:T):Prop:=
 o8 lens 0 bds (λst aP zs=>t.ij sh dx S (AX ds (K zs)) (λ_ _=>False) st aP) [] []
theorem NB {sh:Nat->List Nat×List Nat} {dx:Nat->List Nat} {S:Nat->List (List Int)->List (List Int)->Prop} {K:List (List Int)->List (List Int)->Prop} {lens:List Nat} {bds:List (Int×Int)} {ds:List D} {t:T}
 (h:vf sh dx S K lens bds ds t):m5 bds λzs=>t.holds (dn sh S) (qB ds λrs=>K (eW lens zs) (eW (p6 ds) rs)) (λ_ _=>False) (bP (λ_=>0) 0 zs):=by
 refine qG λzs hi=>?_
 obtain⟨st,aP,h1,h2⟩:=sN h (show jn (λ_=>0) [] [] from⟨trivial,λ_=>rfl⟩) hi
 exact iD (λv ρ st aP ht hl=>Nk v ρ st aP ht hl) t _ _ _ st aP (λ_ _ hf=>hf.elim) h1 h2
end Go.bo
namespace Go.bo
open Go.ChangeShapes Go.WideShapes Go.RowKit
variable {H:Type} {enc:TypeId×Value->H} {P:Program}
theorem MQ {k:IntKind} {z:Int}:(Lit.int k z).wf=true↔k.min<=z/\z<=k.max:=by simp[Lit.wf]
theorem J5:∀{b bX:List (Int×Int)} {l bp:List Int},bI b l->bI bX bp->bI (b++bX) (l++bp)
 |[],_,[],_,_,h=>h
 |_::_,_,_::_,_,h,h'=>⟨h.1,h.2.1,J5 h.2.2 h'⟩
 |[],_,_::_,_,h,_=>h.elim
 |_::_,_,[],_,h,_=>h.elim
theorem D.MN (d:D) {zs l:List Int} (h:zs.length=d.num):d.val (zs++l)=d.val zs:=by
 cases d with
 |str=>match zs,h with|[z],_=>rfl
 |int k lo hi=>match zs,h with|[z],_=>rfl
 |bool=>match zs,h with|[z],_=>rfl
 |agg k n lo hi=>simp only[D.num]at h;simp only[D.val,<-h];simp
 |jh p=>rfl
 |mK k c=>rfl
 |mix p=>
  simp only[D.num]at h
  simp only[D.val]
  congr 2
  revert zs
  induction p with
  |nil=>intro zs h;simp
  |cons a p ih=>
   intro zs h
   match zs,h with
   |z::zs,h=>simp only[List.cons_append,List.zipWith_cons_cons,ih (zs:=zs) (by simpa using h)]
theorem S1 {w w':World} (h:w.Extends w') (may:MemPlace->Prop):w.keptBut w' may:=
 Below.frame (W:=w) ⟨h.os,h.tape,h.output,h.size,λi hi=>h.block i hi⟩ may
end Go.bo
namespace Go.bo
open M
inductive bN where
 |d (x:D)
 |rd (sh:List az)
 |iK (sh:List az) (e:TypeId)
def bN.num:bN->Nat
 |d x=>x.num
 |_=>1
noncomputable def bN.bds:bN->List (Int×Int)
 |d x=>x.bds
 |_=>[(0,au)]
noncomputable def cK:List bN->List (Int×Int)
 |[]=>[]
 |x::r=>x.bds++cK r
def bN.dT:bN->Bool
 |d _=>true
 |_=>false
def bN.mL:bN->Bool
 |iK _ _=>true
 |_=>false
def bN.jP:bN->Bool
 |rd _=>true
 |_=>false
def m6:List bN->Bool
 |[]=>true
 | .d _::r=>m6 r
 | .rd _::r=>r.all (λb=> !b.mL)&&m6 r
 | .iK sh _::r=>r.all bN.dT&&fK sh&&m6 r
def eY (F:Nat->Prop) (w:World) (sh:List az) (rows:List (List Int)) (v:Value):Prop:=
 ((∃p,v= .slice p 0 0)/\rows=[])∨∃(g o cap:Nat) (cells:Array Value) (t:TypeId) (fz:Nat×Nat),v= .slice (some ⟨g,o,none⟩) rows.length cap/\(rows.length<=cap/\(cap:Int)<=9223372036854775807)/\F g/\w.heap[g]?=some (.cells cells t fz)/\ga F w cells o sh rows
def qD (N:Nat->Prop) (w:World) (sh:List az) (e:TypeId) (rows:List (List Int)) (v:Value):Prop:=
 ((∃p,v= .slice p 0 0)/\rows=[])∨∃(g cap:Nat) (cells:Array Value),v= .slice (some ⟨g,0,none⟩) rows.length cap/\(rows.length<=cap/\(cap:Int)<=9223372036854775807)/\N g/\w.heap[g]?=some (.cells cells e (0,0))/\ku cells 0 sh rows/\cells.size=cap*sh.length
def bN.at (F N:Nat->Prop) (w:World):bN->List Int->Value->Prop
 |d x,zs,v=>v=x.val zs
 |rd sh,zs,v=>eY F w sh (ae (zs.getD 0 0)) v
 |iK sh e,zs,v=>qD N w sh e (ae (zs.getD 0 0)) v
def gD (F N:Nat->Prop) (w:World):List bN->List Int->List Value->Prop
 |[],_,[]=>True
 |b::r,zs,v::vs=>b.at F N w zs v/\gD F N w r (zs.drop b.num) vs
 |_,_,_=>False
def nO (us:List Value):Value:=match us with|[x]=>x|l=> .tuple l.toArray
structure cL where
 f:FuncId
 id:Nat
 args:List bN
 res:List bN
 pre:Nat:=0
def zT:Nat->List Int->Prop
 |0,_=>True
 |p+1,l=>ad (p+1) l
def Lt:Nat->List J->T->T
 |0,_,r=>r
 |p+1,ls,r=> .m7 (p+1) ls r
def Lr:Nat->List J->T->T
 |0,_,r=>r
 |p+1,ls,r=> .qI (p+1) ls r
theorem preM_holds {S:Nat->List Int->List Int->Prop} {L:V->Env->Prop} {A:cN} {ρ:Env} {p:Nat} {ls:List J} {r:T} (h:(Lt p ls r).holds S L A ρ):zT p (ls.map (·.den ρ))/\r.holds S L A ρ:=by
 cases p with
 |zero=>exact⟨trivial,h⟩
 |succ p=>exact h
theorem preA_holds {S:Nat->List Int->List Int->Prop} {L:V->Env->Prop} {A:cN} {ρ:Env} {p:Nat} {ls:List J} {r:T} (h:(Lr p ls r).holds S L A ρ) (hp:zT p (ls.map (·.den ρ))):r.holds S L A ρ:=by
 cases p with
 |zero=>exact h
 |succ p=>exact h hp
def cL.Ok (P:Program) (wb:World) (c:cL) (spec:List Int->List Int->Prop):Prop:=
 (∀args w,(callFunc c.f args).run P w= .ok (.enter c.f args) w)/\
 ∀(F:Nat->Prop) (w:World) (vs:List Value) (zs:List Int),wb.Extends w->bI (cK c.args) zs->zT c.pre zs->gD F (λ_=>False) w c.args zs vs->
  Calls P c.f vs.toArray w λe w'=>w.Extends w'/\∃rs us,bI (cK c.res) rs/\spec zs rs/\gD (λg=>F g∨w.heap.size<=g) (λg=>w.heap.size<=g) w' c.res rs us/\e= .returned (nO us)
noncomputable def pa:List bN->Nat->Nat->List W->List ay->(Nat->List W->List ay->T)->T
 |[],_,n,us,bl,k=>k n us bl
 | .d x::r,s,n,us,bl,k=>pa r (s+x.num) n (us++[x.sym s]) bl k
 | .rd sh::r,s,n,us,bl,k=> .nat n (.mY (n+1) (-2) 9223372036854775807 (.fn (n+2) 20 [.var s] 0 9223372036854775807
  (pa r (s+1) (n+3) (us++[.one (.sl bl.length sh.length (.var n) (.const 0) (.var (n+2)) (.var (n+1)))]) (bl++[([.rows sh (.var n) (.var s) (.var (n+1)) 1],(0,false))]) k)))
 | .iK sh e::r,s,n,us,bl,k=> .mY n (-2) 9223372036854775807 (.fn (n+1) 20 [.var s] 0 9223372036854775807
  (pa r (s+1) (n+2) (us++[.one (.sl bl.length sh.length (.const 0) (.const 0) (.var (n+1)) (.var n))]) (bl++[([.rows sh (.const 0) (.var s) (.var n) 2],(e,false))]) k))
section
variable {S:Nat->List Int->List Int->Prop} {L:V->Env->Prop} {w0:cQ} {P:Program} {gl:dt} {bf:ew}
theorem At.agree {ρ ag:Env} {s n:Nat} {zs:List Int} (h:At ρ s zs) (ha:agree n ρ ag) (hn:s+zs.length<=n):At ag s zs:=λj hj=>by rw[ha (s+j) (by omega)];exact h j hj
theorem l7 {ρ:Env} {n i:Nat} {z:Int} (h:i<n):cm ρ n z i=ρ i:=Au ρ z (by omega)
theorem x6 {F N:Nat->Prop} (hF:∀g,F g->w0.ex g∨w0.ro g∨w0.r.heap.size<=g) (hN:∀g,N g->w0.b.heap.size<=g/\w0.r.heap.size<=g):∀{l:List bN} {s n:Nat} {us:List W} {bl:List ay} {k:Nat->List W->List ay->T} {G:cN} {ρ:Env} {m:Nat->Nat} {w:World} {zs:List Int} {vals:List Value},
 m6 l=true->bQ n bl.length ρ bl->Mem w0 ρ m bl w->At ρ s zs->bI (cK l) zs->s+(cK l).length<=n->gD F N w l zs vals->
 ((l.all λb=> !b.jP)=true∨∀(i:Nat) (p:ay),bl[i]?=some p->F (m i)->a6 ρ p.1<=1)->((l.all λb=> !b.mL)=true∨∀(i:Nat) (p:ay),bl[i]?=some p->N (m i)->a6 ρ p.1=0)->
 ((l.all λb=> !b.mL)=true∨∀g,N g->mf w0 ρ m bl w g)->
 (∀u∈us,W.ok n bl.length ρ u)->
 (pa l s n us bl k).holds S L G ρ->∃n' ag m' ji aW,cw n bl.length ρ m n' (List.length aW) ag m'/\bQ n' aW.length ag aW/\Mem w0 ag m' aW w/\ji.map (W.den ag m')=us.map (W.den ρ m)++vals/\(∀u∈ji,W.ok n' aW.length ag u)/\(k n' ji aW).holds S L G ag
 |[],s,n,us,bl,k,G,ρ,m,w,zs,vals,_,hb,hm,_,_,_,hat,_,_,_,lz,al=>by
  match vals,hat with
  |[],_=>exact⟨n,ρ,m,us,bl,cw.refl _ _ _ _,hb,hm,by simp,lz,al⟩
 | .d x::r,s,n,us,bl,k,G,ρ,m,w,zs,vals,bb,hb,hm,hA,hz,hn,hat,h1,h2,iW,lz,al=>by
  match vals,hat with
  |v::vs,hat=>
   obtain⟨hv,hat⟩:=hat
   have hv:v=x.val zs:=hv
   simp only[cK,bN.bds]at hz hn
   simp only[List.length_append]at hn
   obtain⟨i1,i2⟩:=zl hz
   rw[D.vo]at i1 i2 hn
   have hs:=D.xy (ρ:=ρ) (m:=m) (N:=n) (nb:=bl.length) x i1 hA (by omega)
   obtain⟨n',ag,m',ji,aW,g1,g2,g3,g4,g5,g6⟩:=x6 hF hN (l:=r) (s:=s+x.num) (us:=us++[x.sym s]) (zs:=zs.drop x.num) bb hb hm (hA.drop x.num) i2 (by omega) hat (by
    rcases h1 with h1|h1
    ·left;simpa [bN.jP]using h1
    ·exact .inr h1) (by
    rcases h2 with h2|h2
    ·left;simpa [bN.mL]using h2
    ·exact .inr h2) (by
    rcases iW with h2|h2
    ·left;simpa [bN.mL]using h2
    ·exact .inr h2) (λu hu=>by
    rcases List.mem_append.1 hu with hu|hu
    ·exact lz u hu
    ·simp at hu;subst hu;exact hs.1) al
   exact⟨n',ag,m',ji,aW,g1,g2,g3,by rw[g4,List.map_append,hv];simp[hs.2],g5,g6⟩
 | .rd sh::r,s,n,us,bl,k,G,ρ,m,w,zs,vals,bb,hb,hm,hA,hz,hn,hat,h1,h2,iW,lz,al=>by
  match vals,hat with
  |v::vs,hat=>
   obtain⟨hv,hat⟩:=hat
   match zs,hz with
   |z::zs,hz=>
    obtain⟨af,z2,hz⟩:=hz
    have hv:eY F w sh (ae z) v:=hv
    obtain⟨pv,Cf⟩:=hA.tail
    have h1:∀(i:Nat) (p:ay),bl[i]?=some p->F (m i)->a6 ρ p.1<=1:=by
     rcases h1 with h1|h1
     ·simp[bN.jP]at h1
     ·exact h1
    simp only[cK,bN.bds,List.length_append,List.length_cons,List.length_nil]at hn
    simp only[m6,Bool.and_eq_true]at bb
    have hlen:(ae z).length<=9223372036854775807:=by
     rcases hv with⟨_,h⟩|⟨_,_,cap,_,_,_,_,⟨h3,h4⟩,_⟩
     ·simp[h]
     ·omega
    have km:zs.length=(cK r).length:=iG hz
    obtain⟨g,o,cap,hg1,hg2,wa,wc,ot⟩:∃(g:Nat) (o:Nat) (cap:Int),(-2<=cap/\cap<=9223372036854775807)/\(cap<0->ae z=[])/\(0<=cap->((ae z).length:Int)<=cap)/\
     (v=if cap<0 then Value.slice (jG cap g) 0 0 else .slice (some ⟨g,o,none⟩) (ae z).length cap.toNat)/\
     (0<=cap->F g/\∃cells t fz,w.heap[g]?=some (.cells cells t fz)/\ga F w cells o sh (ae z)):=by
     rcases hv with⟨⟨p,h3⟩,h4⟩|⟨g,o,cap,cells,t,fz,h3,⟨h4,h5⟩,h6,h7,bC⟩
     ·obtain⟨c,g,hc,hp⟩:=AH p
      exact⟨g,0,c,by omega,λ_=>h4,λh=>by omega,by rw[if_pos hc.2,hp,h3],λh=>by omega⟩
     ·exact⟨g,o,cap,by omega,λh=>by omega,λ_=>by omega,by rw[if_neg (by omega)];simpa using h3,λ_=>⟨h6,cells,t,fz,h7,bC⟩⟩
    have ry:=al (o:Int) (by omega) cap hg1.1 hg1.2 (ae z).length (by omega) (by omega) (by
     simp only[List.map_cons,List.map_nil,aa,J.bH]
     rw[l7 (by omega),l7 (by omega),pv])
    generalize im:cm (cm (cm ρ n (o:Int)) (n+1) cap) (n+2) ((ae z).length:Int)=ei at ry
    have ha:agree n ρ ei:=by
     rw[<-im]
     intro i hi
     rw[l7 (by omega),l7 (by omega),l7 hi]
    have cA:ei n=o:=by rw[<-im,l7 (by omega),l7 (by omega),fu]
    have e1:ei (n+1)=cap:=by rw[<-im,l7 (by omega),fu]
    have e2:ei (n+2)=(ae z).length:=by rw[<-im,fu]
    have e3:ei s=z:=by rw[ha s (by omega)];exact pv
    have pH:=hm.dA hb ha
    have pz:=hb.ext ha (show n<=n+3 by omega) (Nat.le_refl bl.length)
    have pw:(A.rows sh (.var n) (.var s) (.var (n+1)) 1).ok (n+3) bl.length ei:=⟨⟨J.c9 (by omega),J.c9 (by omega),J.c9 (by omega)⟩,by rw[J.bH,e3];exact⟨af,z2⟩,by rw[J.bH,e1];exact hg1⟩
    have dS:a6 ei [A.rows sh (.var n) (.var s) (.var (n+1)) 1]<=1:=by
     simp only[a6];split<;>omega
    have ri:∀bA,F bA->bD w0 ei (fa m bl.length g) (bl++[([.rows sh (.var n) (.var s) (.var (n+1)) 1],(0,false))]) bA:=λbA gL=>bD.push ⟨hF bA gL,λi p hi hk he=>by
     have bm:=h1 i p hi (by rw[he];exact gL)
     rw[jy (hb _ (List.mem_of_getElem? hi)) ha]at hk
     omega⟩ (.inl dS)
    have hE:=pH.push (x:=([.rows sh (.var n) (.var s) (.var (n+1)) 1],(0,false))) (g:=g) pz (λy hy=>by simp at hy;subst hy;exact pw) (λho=>by cases ho) (λcp cY code' cV dY he=>by
     cases he
     intro _
     refine⟨λh=>by rw[J.bH,e1]at h;rw[J.bH,e3];exact hg2 h,λh=>?_⟩
     rw[J.bH,e1]at h
     obtain⟨Ch,cells,t,fz,k1,k2⟩:=ot h
     exact⟨hF g Ch,cells,t,fz,k1,⟨by rw[J.bH,cA];omega,by rw[J.bH,J.bH,cA,e3];exact k2.mono (Fr.of w ri)⟩,λh2=>by omega⟩) (λi p hi he=>by
      by_cases hc:0<=cap
      ·refine .inl ⟨?_,?_⟩
       ·rw[jy (hb _ (List.mem_of_getElem? hi)) ha]
        exact h1 i p hi (by rw[he];exact(ot hc).1)
       ·rw[gi (by decide) (by rw[J.bH,e1];exact hc)];exact Nat.le_refl 1
      ·refine .inr (.inr ?_)
       simp only[a6,J.bH,e1]
       rw[if_pos (by omega)]) (pH.Ag dS)
    have C2:cw n bl.length ρ m (n+3) (bl++[([A.rows sh (.var n) (.var s) (.var (n+1)) 1],((0:TypeId),false))]).length ei (fa m bl.length g):=⟨by omega,ha,by simp,λb hb=>fY hb⟩
    have Cx:bQ (n+3) (bl++[([A.rows sh (.var n) (.var s) (.var (n+1)) 1],((0:TypeId),false))]).length ei (bl++[([.rows sh (.var n) (.var s) (.var (n+1)) 1],(0,false))]):=λp hp a gI=>by
     rcases List.mem_append.1 hp with hp|hp
     ·exact(pz p hp a gI).ext (agree.refl _ _) (Nat.le_refl _) (by simp)
     ·simp at hp;subst hp;simp at gI;subst gI
      exact pw.ext (agree.refl _ _) (Nat.le_refl _) (by simp)
    have Dl:W.ok (n+3) (bl++[([A.rows sh (.var n) (.var s) (.var (n+1)) 1],((0:TypeId),false))]).length ei (.one (.sl bl.length sh.length (.var n) (.const 0) (.var (n+2)) (.var (n+1)))):=by
     refine⟨by simp,⟨J.c9 (by omega),J.bS _ _,J.c9 (by omega),J.c9 (by omega)⟩,?_⟩
     simp only[J.bH,J.aS,cA,e1,e2]
     exact⟨by omega,by omega,λh=>by rw[hg2 h];rfl,wa⟩
    obtain⟨n',ag,m',ji,aW,g1,g2,g3,g4,g5,g6⟩:=x6 hF hN (l:=r) (s:=s+1) (us:=us++[.one (.sl bl.length sh.length (.var n) (.const 0) (.var (n+2)) (.var (n+1)))]) (zs:=zs) (vals:=vs) bb.2 Cx hE (Cf.agree ha (by omega)) hz (by omega) hat (.inr λi p hi hf=>by
     rw[List.getElem?_append]at hi
     split at hi
     ·rename_i bM
      rw[fY bM]at hf
      rw[jy (hb _ (List.mem_of_getElem? hi)) ha]
      exact h1 i p hi hf
     ·have:i=bl.length:=by
       have:=(List.getElem?_eq_some_iff.1 hi).1
       simp at this;omega
      subst this
      simp at hi
      subst hi
      simp only[a6];split<;>omega) (.inl bb.1) (.inl bb.1) (λu hu=>by
     rcases List.mem_append.1 hu with hu|hu
     ·exact(lz u hu).ext ha (by omega) (by simp)
     ·simp at hu;subst hu;exact Dl) ry
    refine⟨n',ag,m',ji,aW,C2.trans g1,g2,g3,?_,g5,g6⟩
    rw[g4,List.map_append,List.append_assoc]
    congr 1
    ·exact List.map_congr_left λu hu=>W.hh (lz u hu) ha (λb hb=>fY hb)
    ·simp only[List.map_cons,List.map_nil,List.cons_append,List.nil_append,W.den,A.den,J.bH,J.aS,cA,e1,e2,hZ]
     rw[wc]
     simp
 | .iK sh e::r,s,n,us,bl,k,G,ρ,m,w,zs,vals,bb,hb,hm,hA,hz,hn,hat,h1,h2,iW,lz,al=>by
  match vals,hat with
  |v::vs,hat=>
   obtain⟨hv,hat⟩:=hat
   match zs,hz with
   |z::zs,hz=>
    obtain⟨af,z2,hz⟩:=hz
    have hv:qD N w sh e (ae z) v:=hv
    obtain⟨pv,Cf⟩:=hA.tail
    simp only[cK,bN.bds,List.length_append,List.length_cons,List.length_nil]at hn
    simp only[m6,Bool.and_eq_true]at bb
    have h2:∀(i:Nat) (p:ay),bl[i]?=some p->N (m i)->a6 ρ p.1=0:=by
     rcases h2 with h2|h2
     ·simp[bN.mL]at h2
     ·exact h2
    have iW:∀g,N g->mf w0 ρ m bl w g:=by
     rcases iW with h2|h2
     ·simp[bN.mL]at h2
     ·exact h2
    have hlen:(ae z).length<=9223372036854775807:=by
     rcases hv with⟨_,h⟩|⟨_,cap,_,_,⟨h3,h4⟩,_⟩
     ·simp[h]
     ·omega
    have km:zs.length=(cK r).length:=iG hz
    obtain⟨g,cap,hg1,hg2,wa,wc,ot⟩:∃(g:Nat) (cap:Int),(-2<=cap/\cap<=9223372036854775807)/\(cap<0->ae z=[])/\(0<=cap->((ae z).length:Int)<=cap)/\
     (v=if cap<0 then Value.slice (jG cap g) 0 0 else .slice (some ⟨g,0,none⟩) (ae z).length cap.toNat)/\
     (0<=cap->N g/\∃cells,w.heap[g]?=some (.cells cells e (0,0))/\ku cells 0 sh (ae z)/\cells.size=cap.toNat*sh.length):=by
     rcases hv with⟨⟨p,h3⟩,h4⟩|⟨g,cap,cells,h3,⟨h4,h5⟩,h6,h7,bC,bm⟩
     ·obtain⟨c,g,hc,hp⟩:=AH p
      exact⟨g,c,by omega,λ_=>h4,λh=>by omega,by rw[if_pos hc.2,hp,h3],λh=>by omega⟩
     ·exact⟨g,cap,by omega,λh=>by omega,λ_=>by omega,by rw[if_neg (by omega)];simpa using h3,λ_=>⟨h6,cells,h7,bC,by simpa using bm⟩⟩
    have ry:=al cap hg1.1 hg1.2 (ae z).length (by omega) (by omega) (by
     simp only[List.map_cons,List.map_nil,aa,J.bH]
     rw[l7 (by omega),pv])
    generalize im:cm (cm ρ n cap) (n+1) ((ae z).length:Int)=ei at ry
    have ha:agree n ρ ei:=by
     rw[<-im]
     intro i hi
     rw[l7 (by omega),l7 hi]
    have e1:ei n=cap:=by rw[<-im,l7 (by omega),fu]
    have e2:ei (n+1)=(ae z).length:=by rw[<-im,fu]
    have e3:ei s=z:=by rw[ha s (by omega)];exact pv
    have pH:=hm.dA hb ha
    have pz:=hb.ext ha (show n<=n+2 by omega) (Nat.le_refl bl.length)
    have pw:(A.rows sh (.const 0) (.var s) (.var n) 2).ok (n+2) bl.length ei:=⟨⟨J.bS _ _,J.c9 (by omega),J.c9 (by omega)⟩,by rw[J.bH,e3];exact⟨af,z2⟩,by rw[J.bH,e1];exact hg1⟩
    have Qu:∀(i:Nat) (cp:List az) (cY code' cV:J) (dY:Nat) (t':TypeId×Bool),bl[i]?=some ([.rows cp cY code' cV dY],t')->fE w0 ei (bD w0 ei (fa m bl.length g) (bl++[([.rows sh (.const 0) (.var s) (.var n) 2],(e,false))])) (m i) cp cY code' cV dY t'.1 w:=λi cp cY code' cV dY t' hi=>by
     rcases Int.lt_or_le cap 0 with hc|hc
     ·exact pH.Ag (by simp only[a6,J.bH,e1];rw[if_pos hc];decide) i cp cY code' cV dY t' hi
     ·exact(((iW g (ot hc).1) i cp cY code' cV dY t' hi).dA (hb _ (List.mem_of_getElem? hi) _ (by simp)) ha).mono λbA h'=>(bD.dA hb ha h'.1).push (.inr h'.2)
    have hE:=pH.push (x:=([.rows sh (.const 0) (.var s) (.var n) 2],(e,false))) (g:=g) pz (λy hy=>by simp at hy;subst hy;exact pw) (λho=>by cases ho) (λcp cY code' cV dY he=>by
     cases he
     intro _
     refine⟨λh=>by rw[J.bH,e1]at h;rw[J.bH,e3];exact hg2 h,λh=>?_⟩
     rw[J.bH,e1]at h
     obtain⟨PV,cells,k1,k2,k3⟩:=ot h
     have cO:=hN g PV
     exact⟨.inr (.inr cO.2),cells,e,(0,0),k1,⟨by rw[J.aS];exact Int.le_refl _,by rw[J.aS,J.bH,e3];exact(jm bb.1.2).2 k2⟩,λ_=>⟨rfl,J.aS _ _,.w5,by rw[J.bH,e1];exact k3,cO.1,.inr cO.2⟩⟩) (λi p hi he=>by
      by_cases hc:0<=cap
      ·refine .inr (.inl ?_)
       rw[jy (hb _ (List.mem_of_getElem? hi)) ha]
       exact h2 i p hi (by rw[he];exact(ot hc).1)
      ·refine .inr (.inr ?_)
       simp only[a6,J.bH,e1]
       rw[if_pos (by omega)]) Qu
    have C2:cw n bl.length ρ m (n+2) (bl++[([A.rows sh (.const 0) (.var s) (.var n) 2],(e,false))]).length ei (fa m bl.length g):=⟨by omega,ha,by simp,λb hb=>fY hb⟩
    have Cx:bQ (n+2) (bl++[([A.rows sh (.const 0) (.var s) (.var n) 2],(e,false))]).length ei (bl++[([.rows sh (.const 0) (.var s) (.var n) 2],(e,false))]):=λp hp a gI=>by
     rcases List.mem_append.1 hp with hp|hp
     ·exact(pz p hp a gI).ext (agree.refl _ _) (Nat.le_refl _) (by simp)
     ·simp at hp;subst hp;simp at gI;subst gI
      exact pw.ext (agree.refl _ _) (Nat.le_refl _) (by simp)
    have Dl:W.ok (n+2) (bl++[([A.rows sh (.const 0) (.var s) (.var n) 2],(e,false))]).length ei (.one (.sl bl.length sh.length (.const 0) (.const 0) (.var (n+1)) (.var n))):=by
     refine⟨by simp,⟨J.bS _ _,J.bS _ _,J.c9 (by omega),J.c9 (by omega)⟩,?_⟩
     simp only[J.bH,J.aS,e1,e2]
     exact⟨by omega,by omega,λh=>by rw[hg2 h];rfl,wa⟩
    obtain⟨n',ag,m',ji,aW,g1,g2,g3,g4,g5,g6⟩:=G5 (w0:=w0) (l:=r) (s:=s+1) (us:=us++[.one (.sl bl.length sh.length (.const 0) (.const 0) (.var (n+1)) (.var n))]) (zs:=zs) (vals:=vs) bb.1.1 Cx hE (Cf.agree ha (by omega)) hz (by omega) hat (λu hu=>by
     rcases List.mem_append.1 hu with hu|hu
     ·exact(lz u hu).ext ha (by omega) (by simp)
     ·simp at hu;subst hu;exact Dl) ry
    refine⟨n',ag,m',ji,aW,C2.trans g1,g2,g3,?_,g5,g6⟩
    rw[g4,List.map_append,List.append_assoc]
    congr 1
    ·exact List.map_congr_left λu hu=>W.hh (lz u hu) ha (λb hb=>fY hb)
    ·simp only[List.map_cons,List.map_nil,List.cons_append,List.nil_append,W.den,A.den,J.bH,J.aS,e1,e2,hZ]
     rw[wc]
     simp
where
 G5 {w0:cQ} {F N:Nat->Prop}:∀{l:List bN} {s n:Nat} {us:List W} {bl:List ay} {k:Nat->List W->List ay->T} {G:cN} {ρ:Env} {m:Nat->Nat} {w:World} {zs:List Int} {vals:List Value},
  (l.all bN.dT)=true->bQ n bl.length ρ bl->Mem w0 ρ m bl w->At ρ s zs->bI (cK l) zs->s+(cK l).length<=n->gD F N w l zs vals->
  (∀u∈us,W.ok n bl.length ρ u)->
  (pa l s n us bl k).holds S L G ρ->∃n' ag m' ji aW,cw n bl.length ρ m n' (List.length aW) ag m'/\bQ n' aW.length ag aW/\Mem w0 ag m' aW w/\ji.map (W.den ag m')=us.map (W.den ρ m)++vals/\(∀u∈ji,W.ok n' aW.length ag u)/\(k n' ji aW).holds S L G ag
 |[],s,n,us,bl,k,G,ρ,m,w,zs,vals,_,hb,hm,_,_,_,hat,lz,al=>by
  match vals,hat with
  |[],_=>exact⟨n,ρ,m,us,bl,cw.refl _ _ _ _,hb,hm,by simp,lz,al⟩
 | .d x::r,s,n,us,bl,k,G,ρ,m,w,zs,vals,bb,hb,hm,hA,hz,hn,hat,lz,al=>by
  match vals,hat with
  |v::vs,hat=>
   obtain⟨hv,hat⟩:=hat
   have hv:v=x.val zs:=hv
   simp only[cK,bN.bds]at hz hn
   simp only[List.length_append]at hn
   obtain⟨i1,i2⟩:=zl hz
   rw[D.vo]at i1 i2 hn
   have hs:=D.xy (ρ:=ρ) (m:=m) (N:=n) (nb:=bl.length) x i1 hA (by omega)
   obtain⟨n',ag,m',ji,aW,g1,g2,g3,g4,g5,g6⟩:=G5 (l:=r) (s:=s+x.num) (us:=us++[x.sym s]) (zs:=zs.drop x.num) (by simpa [bN.dT]using bb) hb hm (hA.drop x.num) i2 (by omega) hat (λu hu=>by
    rcases List.mem_append.1 hu with hu|hu
    ·exact lz u hu
    ·simp at hu;subst hu;exact hs.1) al
   exact⟨n',ag,m',ji,aW,g1,g2,g3,by rw[g4,List.map_append,hv];simp[hs.2],g5,g6⟩
 | .rd _::_,_,_,_,_,_,_,_,_,_,_,_,bb,_,_,_,_,_,_,_,_=>by simp[bN.dT]at bb
 | .iK _ _::_,_,_,_,_,_,_,_,_,_,_,_,bb,_,_,_,_,_,_,_,_=>by simp[bN.dT]at bb
end
end Go.bo
namespace Go.bo
open M
theorem zu (x:Nat) (r:List Nat):lc (x::r)=2^x*(2*lc r+1):=rfl
theorem Th (x:Nat) (r:List Nat):lc r<=lc (x::r):=by
 rw[zu]
 have h1:1<=2^x:=Nat.one_le_two_pow
 have h2:2*lc r+1<=2^x*(2*lc r+1):=Nat.le_mul_of_pos_left _ h1
 omega
theorem Ks:∀(a:Nat) (l:List Nat),lc (l.drop a)<=lc l
 |0,l=>by simp
 |a+1,[]=>by simp
 |a+1,x::r=>by rw[List.drop_succ_cons];exact Nat.le_trans (Ks a r) (Th x r)
theorem Kt:∀(k:Nat) (l:List Nat),lc (l.take k)<=lc l
 |0,l=>by simp[lc]
 |k+1,[]=>by simp
 |k+1,x::r=>by
  rw[List.take_succ_cons,zu,zu]
  exact Nat.mul_le_mul_left _ (by have:=Kt k r;omega)
theorem Ly (l:List (List Int)) (a k:Nat):rc ((l.drop a).take k)<=rc l:=by
 unfold rc
 rw[List.map_take,List.map_drop]
 exact_mod_cast Nat.le_trans (Kt k _) (Ks a _)
theorem ZD (n:Nat):nS (qm n)=n:=by
 unfold nS qm
 by_cases h:n% 2=0
 ·rw[if_pos h,if_pos (by omega)];omega
 ·rw[if_neg h,if_neg (by omega)];omega
theorem MF:∀(f n:Nat),0<n->n<=f->n=2^jY f n*(2*(n/2^jY f n/2)+1)
 |0,n,h,h'=>by omega
 |f+1,n,h,h'=>by
  unfold jY
  by_cases hn:n% 2=0
  ·rw[if_pos hn]
   have ih:=MF f (n/2) (by omega) (by omega)
   have e:n/2^(jY f (n/2)+1)=n/2/2^jY f (n/2):=by rw[Nat.pow_succ,Nat.mul_comm,Nat.div_div_eq_div_mul]
   rw[e,Nat.pow_succ,Nat.mul_comm (2^_) 2,Nat.mul_assoc,<-ih];omega
  ·rw[if_neg hn];simp;omega
theorem DW:∀(f n:Nat),n<=f->lc (oL f n)=n
 |0,n,h=>by
  have:n=0:=by omega
  subst this;rfl
 |f+1,n,h=>by
  unfold oL
  by_cases hn:n=0
  ·rw[if_pos hn,hn];rfl
  ·rw[if_neg hn,zu]
   have hp:0<2^jY n n:=Nat.two_pow_pos _
   have hd:n/2^jY n n/2<=f:=by
    have h1:n/2^jY n n<=n:=Nat.div_le_self _ _
    omega
   rw[DW f _ hd]
   exact(MF n n (by omega) (Nat.le_refl _)).symm
theorem Lx {z:Int} (h:0<=z):rc (ae z)=z:=by
 unfold rc ae
 rw[List.map_map]
 have e:((λrow:List Int=>lc (row.map nS))∘λn=>(oL n n).map qm)=id:=by
  funext n
  simp only[Function.comp,List.map_map,id]
  have:(nS∘qm)=id:=by funext k;exact ZD k
  rw[this,List.map_id,DW n n (Nat.le_refl _)]
 rw[e,List.map_id,DW _ _ (Nat.le_refl _)]
 omega
def iP:V->List Nat
 | .w (.one (.sl b _ _ _ _ _))=>[b]
 | .w (.one (.slc b _ _ _))=>[b]
 |_=>[]
noncomputable def xh (jV:Bool) (sh:List az) (bl:List ay) (v:V):M J:=
 match v with
 | .w (.one (.con (.slice none 0 0)))=>pure (.const 0)
 | .w (.one (.sl b aV o ro len cap))=>match bl[b]? with
  |some ([.rows cp off code cv kind],_)=>cond (Nat.blt 0 kind&&hW sh cp&&J.beq o off&&Nat.beq aV sh.length) (bind (df 22 [code,ro,ro.add len]) λ_=>bind (sZ cap cv) λ_=>cS 22 [code,ro,ro.add len] 0 au) fail
  |_=>fail
 | .w (.one (.slc b off len cap))=>match kG bl b off (len*sh.length)with
  |some cs=>cond (gx sh&&Nat.ble len 1073741824&&Nat.ble len cap&&Nat.ble cap 9223372036854775807&&(fK sh||jV)) (cond (fK sh) (o9 sh (gE sh.length len cs) (.const 0)) (x5 bl sh (gE sh.length len cs) (.const 0))) fail
  |none=>fail
 |_=>fail
noncomputable def Ev (sh:List az) (e:TypeId) (bl:List ay) (v:V):M J:=
 match v with
 | .w (.one (.con (.slice none 0 0)))=>pure (.const 0)
 | .w (.one (.sl b aV o ro len cap))=>match bl[b]? with
  |some ([.rows cp off code cv kind],t)=>cond (Nat.beq kind 2&&hW sh cp&&J.beq o (.const 0)&&J.beq off (.const 0)&&J.beq ro (.const 0)&&J.beq cap cv&&Nat.beq aV sh.length&&Nat.beq t.1 e&&fK sh) (bind (df 22 [code,.const 0,len]) λ_=>cS 22 [code,.const 0,len] 0 au) fail
  |_=>fail
 | .w (.one (.slc b off len cap))=>match bl[b]? with
  |some (C,t)=>match kG bl b off (len*sh.length)with
   |some cs=>cond (gx sh&&Nat.ble len 1073741824&&Nat.ble len cap&&Nat.ble cap 9223372036854775807&&Nat.beq off 0&&Nat.beq C.length (cap*sh.length)&& !t.2&&Nat.beq t.1 e&&fK sh) (o9 sh (gE sh.length len cs) (.const 0)) fail
   |none=>fail
  |none=>fail
 |_=>fail
def kR:V->List Nat
 | .w (.one (.slc b _ _ _))=>[b]
 |_=>[]
def FP (w0:cQ) (ρ:Env) (m:Nat->Nat) (bl:List ay) (bs os:List Nat) (g:Nat):Prop:=
 (∃b∈bs,m b=g/\∃p,bl[b]?=some p/\a6 ρ p.1≠0/\(bO p.1=true->b∈os))/\(w0.ex g∨w0.ro g∨w0.r.heap.size<=g)
def mg (F:Nat->Prop) (w0:cQ) (ρ:Env) (m:Nat->Nat) (bl:List ay) (bs os:List Nat) (g:Nat):Prop:=FP w0 ρ m bl bs os g∨F g
def u7 (F:Nat->Prop) (w0:cQ) (ρ:Env) (m:Nat->Nat) (bl:List ay) (w:World):Prop:=
 ∀(i:Nat) (sh:List az) (off code cap:J) (kind:Nat) (t:TypeId×Bool),bl[i]?=some ([.rows sh off code cap kind],t)->fE w0 ρ F (m i) sh off code cap kind t.1 w
def qt (w0:cQ) (ρ:Env) (m:Nat->Nat) (bl:List ay) (bs os:List Nat) (g:Nat):Prop:=FP w0 ρ m bl bs os g∨bD w0 ρ m bl g
section
variable {S:Nat->List Int->List Int->Prop} {L:V->Env->Prop} {n:Nat} {ρ:Env} {m:Nat->Nat} {bl:List ay} {gl:dt} {w0:cQ} {P:Program} {w:World}
theorem eY.mono {F F':Nat->Prop} {sh:List az} {rows:List (List Int)} {v:Value} (h:eY F w sh rows v) (hF:∀g,F g->F' g):eY F' w sh rows v:=by
 rcases h with h|⟨g,o,cap,cells,t,fz,h1,h2,h3,h4⟩
 ·exact .inl h
 ·exact .inr ⟨g,o,cap,cells,t,fz,h1,h2,hF g h3,h4.1,h4.2.mono (Fr.of w hF)⟩
theorem Mj {b off len:Nat} {C:List A} {t:TypeId×Bool} {cs:List A} {sh:List az} {rows:List (List Int)} (hb:bQ n bl.length ρ bl) (hw:Mem w0 ρ m bl w) (hbl:bl[b]?=some (C,t)) (hcs:kG bl b off (len*sh.length)=some cs)
 (dF:∀row∈rows,bn sh row) (fp:b9 sh rows=cs.map (A.den ρ m)):w0.b.heap.size<=m b/\(w0.ex (m b)∨w0.r.heap.size<=m b)/\∃cells:Array Value,w.heap[m b]?=some (.cells cells t.1 (0,0))/\ku cells off sh rows/\(t.2=false->cells.size=C.length):=by
 unfold kG at hcs
 rw[hbl]at hcs
 simp only at hcs
 cases hc:(Nat.ble (off+len*sh.length) C.length&&bO C)with
 |false=>rw[hc]at hcs;cases hcs
 |true=>
  rw[hc]at hcs
  simp only[cond_true,Option.some.injEq]at hcs
  simp only[Bool.and_eq_true]at hc
  have hle:=Nat.le_of_ble_eq_true hc.1
  obtain⟨g1,g2,r,hr,g3⟩:=hw.ec b C t hbl hc.2
  refine⟨g1,g2,_,g3,⟨dF,(C.take off).map (A.den ρ m),((C.drop off).drop (len*sh.length)).map (A.den ρ m)++r,?_,by simp;omega⟩,λht=>by rw[hr ht];simp⟩
  rw[fp,<-hcs]
  show C.map (A.den ρ m)++r=_
  have e:C=C.take off++((C.drop off).take (len*sh.length)++(C.drop off).drop (len*sh.length)):=by rw[List.take_append_drop,List.take_append_drop]
  conv=>lhs;rw[e]
  simp only[List.map_append,List.append_assoc]
theorem mP:ae ((J.const 0).den ρ)=[]:=by rw[J.aS];exact dW
theorem o6:(0:Int)<=au:=Int.le_trans (dj []) (j3 (l:=[]) (by simp) (by simp))
theorem Mi {sh:List az} {len:Nat} {cs:List A} (fV:gx sh=true) (hl:len<=1073741824) (bb:∀a∈cs,A.ok n bl.length ρ a) (di:cs.length=len*sh.length):
 ar S L (o9 sh (gE sh.length len cs) (.const 0)) n ρ λag n' l=>l.aX n'/\(0<=l.den ag/\l.den ag<=au)/\(ae (l.den ag)).length=len/\(∀row∈ae (l.den ag),bn sh row)/\b9 sh (ae (l.den ag))=cs.map (A.den ρ m):=by
 have gK:=qQ (w:=sh.length) (k:=len) di
 refine(vk (nb:=bl.length) (m:=m) fV (rs:=gE sh.length len cs) (c:= .const 0) (λrow hr a ha=>bb a (qR row hr a ha)) (J.bS _ _) (by rw[J.aS];exact⟨Int.le_refl _,o6⟩) (by rw[mP];intro _ h;simp at h) (by rw[mP,gK.1];simpa using hl)).mono λaG n1 l hn ha ⟨p1,bz,b6,b5,eg,eK,fJ⟩=>?_
 rw[mP,List.nil_append]at b5
 rw[b5]
 exact⟨p1,bz,by rw[eg,gK.1],eK,by rw[fJ,gK.2]⟩
theorem Oh {cap cv:J} {α:Type} {x:M α} {R:Env->Nat->α->Prop} (h:(0<=cap.den ρ->0<=cv.den ρ)->ar S L x n ρ R):ar S L (bind (sZ cap cv) λ_=>x) n ρ R:=by
 unfold sZ
 cases hc:J.beq cap cv with
 |true=>exact h (by rw[J.beq_eq hc];exact id)
 |false=>exact ee h
theorem XM {F:Nat->Prop} {b off len:Nat} {C:List A} {t:TypeId×Bool} {cs:List A} {sh:List az} {rows:List (List Int)} (hw:Mem w0 ρ m bl w) (hbl:bl[b]?=some (C,t)) (hcs:kG bl b off (len*sh.length)=some cs)
 (dF:∀row∈rows,bn sh row) (fp:dP F w sh rows (cs.map (A.den ρ m))):w0.b.heap.size<=m b/\(w0.ex (m b)∨w0.r.heap.size<=m b)/\∃cells:Array Value,w.heap[m b]?=some (.cells cells t.1 (0,0))/\ga F w cells off sh rows:=by
 unfold kG at hcs
 rw[hbl]at hcs
 simp only at hcs
 cases hc:(Nat.ble (off+len*sh.length) C.length&&bO C)with
 |false=>rw[hc]at hcs;cases hcs
 |true=>
  rw[hc]at hcs
  simp only[cond_true,Option.some.injEq]at hcs
  simp only[Bool.and_eq_true]at hc
  have hle:=Nat.le_of_ble_eq_true hc.1
  obtain⟨g1,g2,r,hr,g3⟩:=hw.ec b C t hbl hc.2
  refine⟨g1,g2,_,g3,dF,(C.take off).map (A.den ρ m),cs.map (A.den ρ m),((C.drop off).drop (len*sh.length)).map (A.den ρ m)++r,?_,by simp;omega,fp⟩
  rw[<-hcs]
  show C.map (A.den ρ m)++r=_
  have e:C=C.take off++((C.drop off).take (len*sh.length)++(C.drop off).drop (len*sh.length)):=by rw[List.take_append_drop,List.take_append_drop]
  conv=>lhs;rw[e]
  simp only[List.map_append,List.append_assoc]
theorem Lz {F:Nat->Prop} {jV:Bool} (hF:u7 F w0 ρ m bl w) (hN:jV=true->∀g,bD w0 ρ m bl g->F g) {sh:List az} {v:V} {X:Value} (hb:bQ n bl.length ρ bl) (hw:Mem w0 ρ m bl w) (hv:v.ok n bl.length ρ) (bt:v.rel ρ m X):
 ar S L (xh jV sh bl v) n ρ λag n' l=>l.aX n'/\(0<=l.den ag/\l.den ag<=au)/\eY (mg F w0 ρ m bl (iP v) (kR v)) w sh (ae (l.den ag)) X:=by
 unfold xh
 split
 ·refine ar.pure ⟨J.bS _ _,by rw[J.aS];exact⟨Int.le_refl _,o6⟩,.inl ⟨⟨_,bt⟩,mP⟩⟩
 ·rename_i b aV o ro len cap
  split
  ·rename_i cp off code cv kind t hbl
   refine cH λhc=>ee λhk=>?_
   simp only[Bool.and_eq_true]at hc
   obtain⟨⟨⟨c1,aU⟩,bL⟩,b7⟩:=hc
   have c1:0<kind:=Nat.le_of_ble_eq_true c1
   have aU:=mS aU;have bL:=J.beq_eq bL;have b7:=Nat.eq_of_beq_eq_true b7
   subst aU;subst bL;subst b7
   simp only[List.map_cons,List.map_nil,ad,J.den_add]at hk
   have wF:(A.sl b sh.length o ro len cap).ok n bl.length ρ:=hv
   obtain⟨ptr,e1,e2,e3⟩:=kQ (m:=m) wF
   have bt:X=(A.sl b sh.length o ro len cap).den ρ m:=bt
   obtain⟨x1,⟨cT,dk,gy,gV⟩,⟨h8,mb,mc,me⟩,⟨mZ,ma⟩,fj,gU⟩:=wF
   have dw:(A.rows sh o code cv kind).ok n bl.length ρ:=hb _ (List.mem_of_getElem? hbl) _ (by simp)
   have hf:aa 22 ([code,ro,ro.add len].map (·.den ρ))=rc (((ae (code.den ρ)).drop (ro.den ρ).toNat).take (len.den ρ).toNat):=by
    simp only[List.map_cons,List.map_nil,aa,J.den_add]
    congr 2;omega
   have fo:rc (((ae (code.den ρ)).drop (ro.den ρ).toNat).take (len.den ρ).toNat)<=au:=by
    have h1:=Ly (ae (code.den ρ)) (ro.den ρ).toNat (len.den ρ).toNat
    rw[Lx dw.2.1.1]at h1
    exact Int.le_trans h1 dw.2.1.2
   refine Oh λtz=>?_
   refine(dE (by rw[hf];exact dj _) (by rw[hf];exact fo)).mono λaG n1 l hn ha ⟨k1,k2⟩=>?_
   rw[hf]at k2
   refine⟨k1,by rw[k2];exact⟨dj _,fo⟩,?_⟩
   rw[k2,dO]
   have hlen:(((ae (code.den ρ)).drop (ro.den ρ).toNat).take (len.den ρ).toNat).length=(len.den ρ).toNat:=by simp;omega
   rcases Int.lt_or_le (cap.den ρ) 0 with bW|bW
   ·left
    have:=fj bW
    refine⟨⟨_,by rw[bt,e1,e2 bW,if_pos bW,this];rfl⟩,by rw[this];simp⟩
   ·right
    clear fo
    rcases Int.lt_or_le (cv.den ρ) 0 with kg|kg
    ·have:=tz bW;omega
    ·obtain⟨q0,cells,e9,fz,q1,⟨q2,q3⟩,_⟩:=(hF b sh o code cv kind t hbl (by omega)).2 kg
     refine⟨m b,(o.den ρ).toNat+(ro.den ρ).toNat*sh.length,(cap.den ρ).toNat,cells,e9,fz,?_,⟨by rw[hlen];have:=gU bW;omega,by omega⟩,(.inl ⟨⟨b,by simp[iP],rfl,_,hbl,by rw[gi (by omega) kg];omega,λh=>by cases h⟩,q0⟩),q1,?_⟩
     ·rw[bt,e1,e3 bW,hlen,if_neg (by omega)]
     ·exact(q3.sub (ro.den ρ).toNat (len.den ρ).toNat (by omega)).mono (Fr.of w λg hg=> .inr hg)
  ·exact ar.fail
 ·rename_i b off len cap
  split
  ·rename_i cs hcs
   refine cH λhc=>?_
   simp only[Bool.and_eq_true]at hc
   obtain⟨⟨⟨⟨c1,aU⟩,bL⟩,b7⟩,e4⟩:=hc
   have aU:=Nat.le_of_ble_eq_true aU;have bL:=Nat.le_of_ble_eq_true bL;have b7:=Nat.le_of_ble_eq_true b7
   obtain⟨d1,d2,d3⟩:=vW hw hb hcs
   have bt:X= .slice (some ⟨m b,off,none⟩) len cap:=bt
   have gf:∀C t,bl[b]?=some (C,t)->bO C=true:=λC t hbl=>by
    unfold kG at hcs
    rw[hbl]at hcs
    simp only at hcs
    cases hc:(Nat.ble (off+len*sh.length) C.length&&bO C)with
    |false=>rw[hc]at hcs;cases hcs
    |true=>simp only[Bool.and_eq_true]at hc;exact hc.2
   cases HF:fK sh with
   |false=>
    have RG:jV=true:=by rw[HF,Bool.false_or]at e4;exact e4
    have gK:=qQ (w:=sh.length) (k:=len) d1
    refine(Bm c1 (rs:=gE sh.length len cs) (c:= .const 0) hb hw (λrow hr a ha=>d2 a (qR row hr a ha)) (J.bS _ _) (by rw[J.aS];exact⟨Int.le_refl _,o6⟩) (by rw[mP];intro _ h;simp at h) (by rw[mP,gK.1];simpa using aU)).mono λaG n1 l hn ha ⟨p1,bz,b6,b5,eg,eK,fJ⟩=>⟨p1,bz,.inr ?_⟩
    rw[mP,List.nil_append]at b5
    rw[b5]
    rw[gK.2]at fJ
    rw[gK.1]at eg
    cases hbl:bl[b]? with
    |none=>unfold kG at hcs;rw[hbl]at hcs;cases hcs
    |some q=>
     obtain⟨C,t⟩:=q
     obtain⟨g1,g2,cells,g3,g4⟩:=XM hw hbl hcs eK (fJ.mono (Fr.of w λg hg=>(.inr (hN RG g hg):mg F w0 ρ m bl (iP (.w (.one (.slc b off len cap)))) (kR (.w (.one (.slc b off len cap)))) g)))
     exact⟨m b,off,cap,cells,t.1,(0,0),by rw[bt,eg],⟨by omega,by omega⟩,(.inl ⟨⟨b,by simp[iP],rfl,_,hbl,by rw[jR (gf C t hbl)];decide,λ_=>by simp[kR]⟩,g2.elim .inl λh=> .inr (.inr h)⟩),g3,g4⟩
   |true=>
   refine(Mi (m:=m) c1 aU d2 d1).mono λaG n1 l hn ha ⟨k1,k2,k3,k4,mN⟩=>⟨k1,k2,.inr ?_⟩
   cases hbl:bl[b]? with
   |none=>unfold kG at hcs;rw[hbl]at hcs;cases hcs
   |some q=>
    obtain⟨C,t⟩:=q
    obtain⟨g1,g2,cells,g3,g4,_⟩:=Mj hb hw hbl hcs k4 mN
    exact⟨m b,off,cap,cells,t.1,(0,0),by rw[bt,k3],⟨by omega,by omega⟩,(.inl ⟨⟨b,by simp[iP],rfl,_,hbl,by rw[jR (gf C t hbl)];decide,λ_=>by simp[kR]⟩,g2.elim .inl λh=> .inr (.inr h)⟩),g3,(jm HF).2 g4⟩
  ·exact ar.fail
 ·exact ar.fail
theorem WM {jV:Bool} {sh:List az} {v:V} {X:Value} (hb:bQ n bl.length ρ bl) (hw:Mem w0 ρ m bl w) (hv:v.ok n bl.length ρ) (bt:v.rel ρ m X):
 ar S L (xh jV sh bl v) n ρ λag n' l=>l.aX n'/\(0<=l.den ag/\l.den ag<=au)/\eY (qt w0 ρ m bl (iP v) (kR v)) w sh (ae (l.den ag)) X:=Lz (F:=bD w0 ρ m bl) hw.rws (λ_ _ h=>h) hb hw hv bt
theorem VL {sh:List az} {e:TypeId} {v:V} {X:Value} (hex:∀g,¬w0.ex g) (hb:bQ n bl.length ρ bl) (hw:Mem w0 ρ m bl w) (hv:v.ok n bl.length ρ) (bt:v.rel ρ m X):
 ar S L (Ev sh e bl v) n ρ λag n' l=>l.aX n'/\(0<=l.den ag/\l.den ag<=au)/\qD (λg=>w0.r.heap.size<=g) w sh e (ae (l.den ag)) X:=by
 unfold Ev
 split
 ·refine ar.pure ⟨J.bS _ _,by rw[J.aS];exact⟨Int.le_refl _,o6⟩,.inl ⟨⟨_,bt⟩,mP⟩⟩
 ·rename_i b aV o ro len cap
  split
  ·rename_i cp off code cv kind t hbl
   refine cH λhc=>ee λhk=>?_
   simp only[Bool.and_eq_true]at hc
   obtain⟨⟨⟨⟨⟨⟨⟨⟨c1,aU⟩,bL⟩,Bx⟩,By⟩,e0⟩,b7⟩,dv⟩,e4⟩:=hc
   have c1:=Nat.eq_of_beq_eq_true c1
   have aU:=mS aU;have bL:=J.beq_eq bL;have Bx:=J.beq_eq Bx;have By:=J.beq_eq By;have e0:=J.beq_eq e0;have b7:=Nat.eq_of_beq_eq_true b7;have dv:=Nat.eq_of_beq_eq_true dv
   subst aU;subst bL;subst b7;subst Bx;subst By;subst e0;subst dv;subst c1
   simp only[List.map_cons,List.map_nil,ad,J.aS]at hk
   have wF:(A.sl b sh.length (.const 0) (.const 0) len cap).ok n bl.length ρ:=hv
   obtain⟨ptr,e1,e2,e3⟩:=kQ (m:=m) wF
   have bt:X=(A.sl b sh.length (.const 0) (.const 0) len cap).den ρ m:=bt
   obtain⟨x1,⟨cT,dk,gy,gV⟩,⟨h8,mb,mc,me⟩,⟨mZ,ma⟩,fj,gU⟩:=wF
   rw[J.aS]at ma
   have dw:(A.rows sh (.const 0) code cap 2).ok n bl.length ρ:=hb _ (List.mem_of_getElem? hbl) _ (by simp)
   have hf:aa 22 ([code,.const 0,len].map (·.den ρ))=rc (((ae (code.den ρ)).drop 0).take (len.den ρ).toNat):=by
    simp only[List.map_cons,List.map_nil,aa,J.aS]
    congr 2
   have fo:rc (((ae (code.den ρ)).drop 0).take (len.den ρ).toNat)<=au:=by
    have h1:=Ly (ae (code.den ρ)) 0 (len.den ρ).toNat
    rw[Lx dw.2.1.1]at h1
    exact Int.le_trans h1 dw.2.1.2
   refine(dE (by rw[hf];exact dj _) (by rw[hf];exact fo)).mono λaG n1 l hn ha ⟨k1,k2⟩=>?_
   rw[hf]at k2
   refine⟨k1,by rw[k2];exact⟨dj _,fo⟩,?_⟩
   rw[k2,dO]
   have hlen:(((ae (code.den ρ)).drop 0).take (len.den ρ).toNat).length=(len.den ρ).toNat:=by simp;omega
   rcases Int.lt_or_le (cap.den ρ) 0 with bW|bW
   ·left
    have:=fj bW
    refine⟨⟨_,by rw[bt,e1,e2 bW,if_pos bW,this];rfl⟩,by rw[this];simp⟩
   ·right
    clear fo
    obtain⟨q0,cells,e9,fz,q1,⟨q2,q3⟩,q4⟩:=(hw.rws b sh (.const 0) code cap 2 t hbl (by omega)).2 bW
    obtain⟨p0,p1,bz,b5,eg,eK⟩:=q4 (by omega)
    have bz:=bz.two
    subst p0;subst bz
    rw[J.aS]at q3
    refine⟨m b,(cap.den ρ).toNat,cells,?_,⟨by rw[hlen];have:=gU bW;omega,by omega⟩,eK.elim (λh=>absurd h (hex _)) id,q1,?_,b5⟩
    ·rw[bt,e1,e3 bW,hlen,if_neg (by omega)];simp[J.aS]
    ·have:=((jm e4).1 q3).sub 0 (len.den ρ).toNat (by omega)
     simpa using this
  ·exact ar.fail
 ·rename_i b off len cap
  split
  ·rename_i C t hbl
   split
   ·rename_i cs hcs
    refine cH λhc=>?_
    simp only[Bool.and_eq_true]at hc
    obtain⟨⟨⟨⟨⟨⟨⟨⟨c1,aU⟩,bL⟩,b7⟩,dv⟩,e0⟩,lI⟩,lJ⟩,e4⟩:=hc
    have aU:=Nat.le_of_ble_eq_true aU;have bL:=Nat.le_of_ble_eq_true bL;have b7:=Nat.le_of_ble_eq_true b7
    have dv:=Nat.eq_of_beq_eq_true dv;have e0:=Nat.eq_of_beq_eq_true e0;have lJ:=Nat.eq_of_beq_eq_true lJ
    subst dv;subst lJ
    obtain⟨d1,d2,d3⟩:=vW hw hb hcs
    refine(Mi (m:=m) c1 aU d2 d1).mono λaG n1 l hn ha ⟨k1,k2,k3,k4,mN⟩=>⟨k1,k2,.inr ?_⟩
    have bt:X= .slice (some ⟨m b,0,none⟩) len cap:=bt
    obtain⟨g1,g2,cells,g3,g4,g5⟩:=Mj hb hw hbl hcs k4 mN
    exact⟨m b,cap,cells,by rw[bt,k3],⟨by omega,by omega⟩,g2.elim (λh=>absurd h (hex _)) id,g3,g4,by rw[g5 (by simpa using lI),e0]⟩
   ·exact ar.fail
  ·exact ar.fail
 ·exact ar.fail
end
def B5 (d:D) (v:V):M (List J):=
 match d,v with
 | .bool,.w (.one (.bool e))=>match e with
  | .lit v=>pure [.const (cond v 1 0)]
  |e=>bind (rS e) λl=>pure [l]
 | .int k lo hi,.w (.one (.int aZ x))=>cond (decide (k=aZ)) (cond (kc lo hi x) (pure [x.l]) (bind (df 39 [x.l,.const lo,.const hi]) λ_=>pure [x.l])) fail
 | .mix l,.w (.agg s)=>su l s
 | .str,.w (.one (.str l))=>pure [l]
 | .jh l,.w (.one (.str x))=>match x.cG with|some c=>cond (decide (c=eG (lZ l))) (pure []) fail|none=>fail
 | .mK k c,.w (.one (.int aZ x))=>match x.l.cG with|some d=>cond (decide (k=aZ)&&decide (d=c)) (pure []) fail|none=>fail
 | .agg k n lo hi,.w (.agg l)=>cond (Nat.beq l.length n) (match ib k lo hi l with|some r=>pure r|none=>fail) fail
 |_,_=>fail
noncomputable def q7 (jV:Bool) (bl:List ay):List bN->List V->M (List J)
 |[],[]=>pure []
 | .d x::r,v::s=>bind (B5 x v) λa=>bind (q7 jV bl r s) λb=>pure (a++b)
 | .rd sh::r,v::s=>bind (xh jV sh bl v) λa=>bind (q7 jV bl r s) λb=>pure (a::b)
 |_,_=>fail
section
variable {S:Nat->List Int->List Int->Prop} {L:V->Env->Prop} {w0:cQ} {P:Program} {w:World}
theorem ER:∀{sh:List az} {zs:List Int},bn sh zs->bI (sh.map az.c2) zs/\List.zipWith az.val sh zs=cB sh zs
 |[],[],_=>⟨trivial,rfl⟩
 |c::sh,z::zs,h=>⟨⟨h.1.1,h.1.2,(ER h.2).1⟩,by simp[cB,(ER h.2).2]⟩
 |[],_::_,h=>h.elim
 |_::_,[],h=>h.elim
theorem Pl {d:D} {v:V} {X:Value} {n nb:Nat} {ρ:Env} {m:Nat->Nat} (hv:v.ok n nb ρ) (bt:v.rel ρ m X):ar S L (B5 d v) n ρ λag n' ls=>(∀x∈ls,J.aX n' x)/\bI d.bds (ls.map (·.den ag))/\X=d.val (ls.map (·.den ag)):=by
 unfold B5
 split
 ·rename_i e
  have bt:X= .bool (e.den ρ):=bt
  have key:ar S L (bind (rS e) λl=>pure [l]) n ρ λag n' ls=>(∀x∈ls,J.aX n' x)/\bI D.bool.bds (ls.map (·.den ag))/\X=D.bool.val (ls.map (·.den ag)):=
   zm.bind λaG n1 l hn ha ⟨g1,g2,g3⟩=>ar.pure ⟨λx hx=>by simp at hx;subst hx;exact g1,⟨g2.1,g2.2,trivial⟩,by rw[bt,g3];rfl⟩
  cases e with
  |lit b=>
   refine ar.pure ⟨λx hx=>by simp at hx;subst hx;exact J.bS _ _,?_,?_⟩
   ·simp only[List.map_cons,List.map_nil,J.aS,D.bds];cases b<;>exact⟨by decide,by decide,trivial⟩
   ·rw[bt];simp only[List.map_cons,List.map_nil,J.aS];cases b<;>rfl
  |_=>exact key
 ·rename_i k lo hi aZ x
  refine cH λhk=>?_
  have hk:k=aZ:=by simpa using hk
  subst hk
  have hv:x.ok n ρ:=hv
  have bt:X= .int k (x.l.den ρ):=bt
  cases hf:kc lo hi x with
  |true=>
   have:=vC hf hv
   exact ar.pure ⟨λy hy=>by simp at hy;subst hy;exact hv.1,⟨this.1,this.2,trivial⟩,bt⟩
  |false=>
   refine ee λhk=>ar.pure ?_
   simp only[List.map_cons,List.map_nil,ad,J.aS]at hk
   exact⟨λy hy=>by simp at hy;subst hy;exact hv.1,⟨hk.1,hk.2,trivial⟩,bt⟩
 ·rename_i l s
  have bt:X= .agg (s.map (A.den ρ m)).toArray:=bt
  refine(xn (nb:=nb) (m:=m) hv).mono λaG n1 ls hn ha ⟨g1,g2,g3⟩=>?_
  have:=ER g2
  refine⟨g1,this.1,?_⟩
  rw[bt,<-g3]
  simp only[D.val,this.2]
 ·rename_i l
  have bt:X= .string (a7 (ab (l.den ρ))):=bt
  have hv:l.aX n/\0<=l.den ρ/\l.den ρ<=aC:=hv
  exact ar.pure ⟨λy hy=>by simp at hy;subst hy;exact hv.1,⟨hv.2.1,hv.2.2,trivial⟩,bt⟩
 ·rename_i l x
  have bt:X= .string (a7 (ab (x.den ρ))):=bt
  cases hc:x.cG with
  |none=>exact ar.fail
  |some c=>
   refine cH λhd=>ar.pure ⟨λy hy=>by simp at hy,trivial,?_⟩
   rw[bt,Mt (n:=n) hc (by simpa using hd)];rfl
 ·rename_i k c aZ x
  have bt:X= .int aZ (x.l.den ρ):=bt
  cases hc:x.l.cG with
  |none=>exact ar.fail
  |some d=>
   refine cH λhd=>ar.pure ⟨λy hy=>by simp at hy,trivial,?_⟩
   simp only[Bool.and_eq_true,decide_eq_true_eq]at hd
   rw[bt,J.fl hc,<-hd.1,hd.2];rfl
 ·rename_i k n' lo hi l
  refine cH λhk=>?_
  have hk:=Nat.eq_of_beq_eq_true hk
  have bt:X= .agg (l.map (A.den ρ m)).toArray:=bt
  cases hf:ib k lo hi l with
  |none=>exact ar.fail
  |some r=>
   obtain⟨g1,g2,g3⟩:=B3 (m:=m) hf hv
   rw[hk]at g2
   refine ar.pure ⟨B2 hf hv,g2,?_⟩
   rw[bt,g3]
   simp only[D.val]
   rw[List.take_of_length_le (by simp[g1,hk])]
 ·exact ar.fail
theorem KG {n:Nat} {ρ ag:Env} {ls:List J} (h:∀x∈ls,J.aX n x) (ha:agree n ρ ag):ls.map (·.den ag)=ls.map (·.den ρ):=List.map_congr_left λx hx=>J.bj ha (h x hx)
theorem mg.later {F:Nat->Prop} {n nb:Nat} {ρ ag:Env} {m:Nat->Nat} {bl:List ay} {bs os:List Nat} {g:Nat} (hb:bQ n nb ρ bl) (ha:agree n ρ ag) (h:mg F w0 ag m bl bs os g):mg F w0 ρ m bl bs os g:=by
 rcases h with⟨⟨b,h1,h2,p,h3,h4,h6⟩,h5⟩|h
 ·exact .inl ⟨⟨b,h1,h2,p,h3,by rw[<-jy (hb p (List.mem_of_getElem? h3)) ha];exact h4,h6⟩,h5⟩
 ·exact .inr h
theorem mg.more {F:Nat->Prop} {ρ:Env} {m:Nat->Nat} {bl:List ay} {bs os Hk xa:List Nat} {g:Nat} (h:mg F w0 ρ m bl bs os g) (h1:∀b∈bs,b∈Hk) (h2:∀b∈os,b∈xa):mg F w0 ρ m bl Hk xa g:=by
 rcases h with⟨⟨b,k1,k2,p,k3,k4,rU⟩,mN⟩|h
 ·exact .inl ⟨⟨b,h1 b k1,k2,p,k3,k4,λh=>h2 b (rU h)⟩,mN⟩
 ·exact .inr h
theorem u7.dA {F:Nat->Prop} {n nb:Nat} {ρ ag:Env} {m:Nat->Nat} {bl:List ay} {w:World} (h:u7 F w0 ρ m bl w) (hb:bQ n nb ρ bl) (ha:agree n ρ ag):u7 F w0 ag m bl w:=λi sh off code cap kind t hi=>
 (h i sh off code cap kind t hi).dA (hb _ (List.mem_of_getElem? hi) _ (by simp)) ha
theorem yH {jV:Bool} {F0:Nat->Prop} {bl:List ay} {m:Nat->Nat}:∀{ds:List bN} {vs:List V} {xs:List Value} {n:Nat} {ρ:Env},u7 F0 w0 ρ m bl w->(jV=true->∀g,bD w0 ρ m bl g->F0 g)->bQ n bl.length ρ bl->Mem w0 ρ m bl w->(∀v∈vs,V.ok n bl.length ρ v)->dJ ρ m vs xs->
 ar S L (q7 jV bl ds vs) n ρ λag n' ls=>(∀x∈ls,J.aX n' x)/\bI (cK ds) (ls.map (·.den ag))/\∀F:Nat->Prop,(∀g,mg F0 w0 ρ m bl (vs.flatMap iP) (vs.flatMap kR) g->F g)->gD F (λ_=>False) w ds (ls.map (·.den ag)) xs
 |[],[],[],n,ρ,_,_,_,_,_,_=>ar.pure ⟨λ_ h=>by simp at h,trivial,λ_ _=>trivial⟩
 | .d x::r,v::s,X::xs,n,ρ,h0,hN,hb,hw,hv,hr=>by
  unfold q7
  refine(Pl (hv v (by simp)) hr.1).bind λaG n1 a hn ha ⟨g1,g2,g3⟩=>?_
  refine(yH (ds:=r) (vs:=s) (xs:=xs) (h0.dA hb ha) (λh g hg=>hN h g (bD.zZ hb ha hg)) (hb.ext ha hn (Nat.le_refl _)) (hw.dA hb ha) (λu hu=>(hv u (List.mem_cons_of_mem _ hu)).ext ha hn (Nat.le_refl _)) (dJ.later (λu hu=>hv u (List.mem_cons_of_mem _ hu)) ha hr.2)).bind λa8 da b cO cC ⟨k1,k2,k3⟩=>ar.pure ⟨λy hy=>?_,?_,λF hF=>?_⟩
  ·rcases List.mem_append.1 hy with hy|hy
   ·exact(g1 y hy).mono cO
   ·exact k1 y hy
  ·rw[List.map_append,KG g1 cC]
   exact oG g2 k2
  ·have hl:(a.map (·.den aG)).length=x.num:=by rw[iG g2,D.vo]
   rw[List.map_append,KG g1 cC]
   refine⟨?_,?_⟩
   ·show X=x.val _
    rw[D.MN x hl];exact g3
   ·show gD F _ w r (List.drop x.num _) xs
    rw[<-hl,List.drop_left]
    exact k3 F λg hg=>hF g (by
     exact(mg.later hb ha hg).more (λbX h1=>by simp only[List.flatMap_cons,List.mem_append];exact .inr h1) (λbX h1=>by simp only[List.flatMap_cons,List.mem_append];exact .inr h1))
 | .rd sh::r,v::s,X::xs,n,ρ,h0,hN,hb,hw,hv,hr=>by
  unfold q7
  refine(Lz h0 hN hb hw (hv v (by simp)) hr.1).bind λaG n1 a hn ha ⟨g1,g2,g3⟩=>?_
  refine(yH (ds:=r) (vs:=s) (xs:=xs) (h0.dA hb ha) (λh g hg=>hN h g (bD.zZ hb ha hg)) (hb.ext ha hn (Nat.le_refl _)) (hw.dA hb ha) (λu hu=>(hv u (List.mem_cons_of_mem _ hu)).ext ha hn (Nat.le_refl _)) (dJ.later (λu hu=>hv u (List.mem_cons_of_mem _ hu)) ha hr.2)).bind λa8 da b cO cC ⟨k1,k2,k3⟩=>ar.pure ⟨λy hy=>?_,?_,λF hF=>?_⟩
  ·rcases List.mem_cons.1 hy with rfl|hy
   ·exact g1.mono cO
   ·exact k1 y hy
  ·simp only[List.map_cons,J.bj cC g1]
   exact⟨g2.1,g2.2,k2⟩
  ·simp only[List.map_cons,J.bj cC g1]
   refine⟨?_,?_⟩
   ·show eY F w sh (ae _) X
    exact g3.mono λg hg=>hF g (by
     exact hg.more (λbX h1=>by simp only[List.flatMap_cons,List.mem_append];exact .inl h1) (λbX h1=>by simp only[List.flatMap_cons,List.mem_append];exact .inl h1))
   ·exact k3 F λg hg=>hF g (by
     exact(mg.later hb ha hg).more (λbX h1=>by simp only[List.flatMap_cons,List.mem_append];exact .inr h1) (λbX h1=>by simp only[List.flatMap_cons,List.mem_append];exact .inr h1))
 |[],_::_,_,_,_,_,_,_,_,_,_=>ar.fail
 | .d _::_,[],_,_,_,_,_,_,_,_,_=>ar.fail
 | .rd _::_,[],_,_,_,_,_,_,_,_,_=>ar.fail
 | .iK _ _::_,[],_,_,_,_,_,_,_,_,_=>ar.fail
 | .iK _ _::_,_::_,_,_,_,_,_,_,_,_,_=>ar.fail
 |_,[],_::_,_,_,_,_,_,_,_,hr=>hr.elim
 |_,_::_,[],_,_,_,_,_,_,_,hr=>hr.elim
where
 dJ.later {n nb:Nat} {ρ ag:Env} {m:Nat->Nat}:∀{vs:List V} {xs:List Value},(∀v∈vs,V.ok n nb ρ v)->agree n ρ ag->dJ ρ m vs xs->dJ ag m vs xs
 |[],[],_,_,_=>trivial
 |v::vs,x::xs,hv,ha,hr=>⟨V.rel.ext hr.1 (hv v (by simp)) ha (λ_ _=>rfl),dJ.later (λu hu=>hv u (List.mem_cons_of_mem _ hu)) ha hr.2⟩
 |[],_::_,_,_,hr=>hr.elim
 |_::_,[],_,_,hr=>hr.elim
theorem Pj {jV:Bool} {bl:List ay} {m:Nat->Nat} {ds:List bN} {vs:List V} {xs:List Value} {n:Nat} {ρ:Env} (hb:bQ n bl.length ρ bl) (hw:Mem w0 ρ m bl w) (hv:∀v∈vs,V.ok n bl.length ρ v) (hr:dJ ρ m vs xs):
 ar S L (q7 jV bl ds vs) n ρ λag n' ls=>(∀x∈ls,J.aX n' x)/\bI (cK ds) (ls.map (·.den ag))/\∀F:Nat->Prop,(∀g,qt w0 ρ m bl (vs.flatMap iP) (vs.flatMap kR) g->F g)->gD F (λ_=>False) w ds (ls.map (·.den ag)) xs:=yH (F0:=bD w0 ρ m bl) hw.rws (λ_ _ h=>h) hb hw hv hr
end
end Go.bo
namespace Go.bo
open M
def po:List Nat->List ay->List ay
 |[],bl=>bl
 |b::r,bl=>match bl[b]? with
  |some ([.rows sh off code cap (k+1)],t)=>po r (cF bl b ([.rows sh off code cap 1],t))
  |_=>po r bl
def uG (us:List W):V:=match us with|[u]=> .w u|l=> .dZ l
def l5:List V->Bool
 |[]=>true
 | .w (.one (.slc ..))::_=>false
 |_::r=>l5 r
noncomputable def cL.u6 (c:cL) (n:Nat) (vs:List V) (bl:List ay) (k:RK):T:=
 q7 true bl c.args vs n λls n1=>cond (m6 c.res&&(!(c.res.any bN.jP)||l5 vs)) (Lt c.pre ls (.call c.id ls n1 (cK c.res) (pa c.res n1 (n1+(cK c.res).length) [] (cond (c.res.any bN.jP) (po (vs.flatMap iP) bl) bl) λda us jL=>k da (uG us) jL))) .stuck
def MX (sh:List az) (b:Nat):V:= .w (.one (.sl b sh.length (.const 0) (.const 0) (.const 0) (.const 0)))
def FK (rd:Bool) (sh:List az) (b:Nat) (bl:List ay):Option (List ay):=
 match bl[b]? with
 |some ([],(t,false))=>cond rd (some (cF bl b ([.rows sh (.const 0) (.const 0) (.const 0) 1],(t,false)))) none
 |some ([.rows cp off code cap kind],t)=>cond (hW sh cp&&J.beq off (.const 0)&&J.beq cap (.const 0)&&Nat.blt 0 kind) (some bl) none
 |_=>none
def gz (rd:Bool):List bN->List V->List ay->List V×List ay
 | .rd sh::r,v::s,bl=>match v with
  | .w (.one (.slc b 0 0 0))=>match FK rd sh b bl with
   |some n2=>(MX sh b::(gz rd r s n2).1,(gz rd r s n2).2)
   |none=>(v::(gz rd r s bl).1,(gz rd r s bl).2)
  |_=>(v::(gz rd r s bl).1,(gz rd r s bl).2)
 |_::r,v::s,bl=>(v::(gz rd r s bl).1,(gz rd r s bl).2)
 |_,vs,bl=>(vs,bl)
noncomputable def nN:List bN->List V->List ay->M (List V×List ay)
 |[],vs,bl=>pure (vs,bl)
 | .d _::_,[],bl=>pure ([],bl)
 | .rd _::_,[],bl=>pure ([],bl)
 | .iK _ _::_,[],bl=>pure ([],bl)
 | .d _::r,v::s,bl=>bind (nN r s bl) λq=>pure (v::q.1,q.2)
 | .iK _ _::r,v::s,bl=>bind (nN r s bl) λq=>pure (v::q.1,q.2)
 | .rd sh::r,v::s,bl=>match v with
  | .w (.one (.slc b 0 len cap))=>match bl[b]? with
   |some (C,t)=>cond (bO C&& !t.2&&Nat.beq len cap&&Nat.beq C.length (len*sh.length)&&gx sh&&Nat.ble len 1000000&&fK sh&&Nat.blt 0 len)
    (bind (o9 sh (gE sh.length len C) (.const 0)) λcode=>bind (nN r s (cF bl b ([.rows sh (.const 0) code (.const len) 2],t))) λq=>pure (.w (.one (.sl b sh.length (.const 0) (.const 0) (.const len) (.const len)))::q.1,q.2))
    (bind (nN r s bl) λq=>pure (v::q.1,q.2))
   |none=>bind (nN r s bl) λq=>pure (v::q.1,q.2)
  |_=>bind (nN r s bl) λq=>pure (v::q.1,q.2)
noncomputable def cL.AQ (c:cL) (n:Nat) (vs:List V) (bl:List ay) (k:RK):T:=
 cond (c.res.any bN.jP&& !l5 vs) (nN c.args vs bl n λq n1=>c.u6 n1 q.1 q.2 k) (c.u6 n vs bl k)
noncomputable def cL.E (c:cL) (n:Nat) (vs:List V) (bl:List ay) (k:RK):T:=
 c.AQ n (gz (c.res.any bN.jP) c.args vs bl).1 (gz (c.res.any bN.jP) c.args vs bl).2 k
section
variable {S:Nat->List Int->List Int->Prop} {L:V->Env->Prop} {w0:cQ} {P:Program}
theorem Mem.zero {ρ:Env} {m:Nat->Nat} {bl:List ay} {w:World} {b:Nat} {sh:List az} {t:TypeId} (h:Mem w0 ρ m bl w) (hbl:bl[b]?=some ([],(t,false))):Mem w0 ρ m (cF bl b ([.rows sh (.const 0) (.const 0) (.const 0) 1],(t,false))) w:=by
 have jq:b<bl.length:=(List.getElem?_eq_some_iff.1 hbl).1
 obtain⟨q1,q2,r,hr,q3⟩:=h.ec b [] (t,false) hbl rfl
 have hr:=hr rfl
 subst hr
 have c8:∀(i:Nat) (p:ay),(cF bl b ([.rows sh (.const 0) (.const 0) (.const 0) 1],(t,false)))[i]?=some p->(i=b/\p=([.rows sh (.const 0) (.const 0) (.const 0) 1],(t,false)))∨(i≠b/\bl[i]?=some p):=λi p hi=>by
  rw[hV,List.getElem?_set]at hi
  split at hi
  ·rename_i eV
   subst eV
   simp only[jq,if_true,Option.some.injEq]at hi
   exact .inl ⟨rfl,hi.symm⟩
  ·rename_i eV;exact .inr ⟨λe=>eV e.symm,hi⟩
 have hold:a6 ρ ([]:List A)=2:=jR rfl
 refine⟨h.ext,h.gO,h.kk,h.ki,h.fG,h.ke,λi gF t' hi jb=>?_,λi cp cY code' cV dY t' hi=>?_,λi j p q hi hj he=>?_⟩
 ·rcases c8 i _ hi with⟨rfl,ck⟩|⟨hne,hi⟩
  ·cases ck;cases jb
  ·exact h.ec i gF t' hi jb
 ·rcases c8 i _ hi with⟨rfl,ck⟩|⟨hne,hi⟩
  ·cases ck
   intro _
   simp only[J.aS]
   exact⟨λh0=>by omega,λ_=>⟨q2.elim .inl λh=> .inr (.inr h),_,_,_,q3,⟨Int.le_refl _,by rw[dW];intro _ h;simp at h,[],[],[],by simp,rfl,by rw[dW];rfl⟩,λbm=>by omega⟩⟩
  ·exact(h.rws i cp cY _ cV dY t' hi).mono λbA h'=>h'.set hbl λhk=>by simp only[a6,J.aS]at hk;split at hk<;>omega
 ·rcases c8 i _ hi with⟨rfl,ck⟩|⟨hne,jr⟩
  ·rcases c8 j _ hj with⟨rfl,kI⟩|⟨RD,hj⟩
   ·exact .inl rfl
   ·rcases h.inj i j _ q hbl hj he with h1|h1|h1|h1
    ·exact .inl h1
    ·simp only[hold]at h1;omega
    ·simp only[hold]at h1;omega
    ·exact .inr (.inr (.inr h1))
  ·rcases c8 j _ hj with⟨rA,kI⟩|⟨RD,hj⟩
   ·subst rA
    rcases h.inj i j p _ jr hbl he with h1|h1|h1|h1
    ·exact .inl h1
    ·simp only[hold]at h1;omega
    ·exact .inr (.inr (.inl h1))
    ·simp only[hold]at h1;omega
   ·exact h.inj i j p q jr hj he
theorem ZA {n:Nat} {ρ:Env} {m:Nat->Nat} {w:World} {rd:Bool} {sh:List az} {b:Nat} {bl n2:List ay} (h:FK rd sh b bl=some n2) (hm:Mem w0 ρ m bl w) (hb:bQ n bl.length ρ bl):Mem w0 ρ m n2 w/\bQ n n2.length ρ n2/\n2.length=bl.length/\b<bl.length:=by
 unfold FK at h
 split at h
 ·rename_i t hbl
  cases rd with
  |false=>cases h
  |true=>
   simp only[cond_true,Option.some.injEq]at h
   subst h
   refine⟨hm.zero hbl,hb.set (λa ha=>?_),fX _ _ _,(List.getElem?_eq_some_iff.1 hbl).1⟩
   have ha:a= .rows sh (.const 0) (.const 0) (.const 0) 1:=by simpa using ha
   subst ha
   refine⟨⟨J.bS _ _,J.bS _ _,J.bS _ _⟩,?_,?_⟩
   ·simp only[J.aS];exact⟨Int.le_refl _,o6⟩
   ·simp only[J.aS];omega
 ·rename_i cp off code cap kind t hbl
  cases hc:(hW sh cp&&J.beq off (.const 0)&&J.beq cap (.const 0)&&Nat.blt 0 kind)with
  |false=>rw[hc]at h;cases h
  |true=>
   rw[hc]at h
   simp only[cond_true,Option.some.injEq]at h
   subst h
   exact⟨hm,hb,rfl,(List.getElem?_eq_some_iff.1 hbl).1⟩
 ·cases h
theorem FL {n:Nat} {ρ:Env} {m:Nat->Nat} {w:World} {rd:Bool}:∀{ds:List bN} {vs:List V} {bl:List ay} {xs:List Value},Mem w0 ρ m bl w->bQ n bl.length ρ bl->(∀v∈vs,V.ok n bl.length ρ v)->dJ ρ m vs xs->
 Mem w0 ρ m (gz rd ds vs bl).2 w/\bQ n (gz rd ds vs bl).2.length ρ (gz rd ds vs bl).2/\(gz rd ds vs bl).2.length=bl.length/\(∀v∈(gz rd ds vs bl).1,V.ok n bl.length ρ v)/\dJ ρ m (gz rd ds vs bl).1 xs
 |[],vs,bl,xs,hm,hb,hv,hr=>⟨hm,hb,rfl,hv,hr⟩
 |d::r,[],bl,xs,hm,hb,hv,hr=>by
  cases d<;>exact⟨hm,hb,rfl,hv,hr⟩
 |d::r,v::s,bl,xs,hm,hb,hv,hr=>by
  match xs,hr with
  |x::xs,hr=>
  have keep:Mem w0 ρ m (gz rd r s bl).2 w/\bQ n (gz rd r s bl).2.length ρ (gz rd r s bl).2/\(gz rd r s bl).2.length=bl.length/\(∀u∈(v::(gz rd r s bl).1),V.ok n bl.length ρ u)/\dJ ρ m (v::(gz rd r s bl).1) (x::xs):=by
   obtain⟨g1,g2,g3,g4,g5⟩:=FL (rd:=rd) (ds:=r) (vs:=s) hm hb (λu hu=>hv u (List.mem_cons_of_mem _ hu)) hr.2
   exact⟨g1,g2,g3,λu hu=>by
    rcases List.mem_cons.1 hu with rfl|hu
    ·exact hv u (by simp)
    ·exact g4 u hu,hr.1,g5⟩
  cases d with
  |d y=>exact keep
  |iK sh e=>exact keep
  |rd sh=>
   unfold gz
   split
   ·rename_i b _
    split
    ·rename_i n2 hz
     obtain⟨q1,q2,q3,q4⟩:=ZA hz hm hb
     obtain⟨g1,g2,g3,g4,g5⟩:=FL (rd:=rd) (ds:=r) (vs:=s) q1 q2 (λu hu=>by rw[q3];exact hv u (List.mem_cons_of_mem _ hu)) hr.2
     refine⟨g1,g2,by rw[g3,q3],λu hu=>?_,?_,g5⟩
     ·rcases List.mem_cons.1 hu with rfl|hu
      ·refine⟨q4,⟨J.bS _ _,J.bS _ _,J.bS _ _,J.bS _ _⟩,?_⟩
       simp only[J.aS]
       exact⟨⟨by omega,by omega,by omega,by omega⟩,⟨by omega,by omega⟩,λh=>by omega,λ_=>by omega⟩
      ·rw[<-q3];exact g4 u hu
     ·have h0:x= .slice (some ⟨m b,0,none⟩) 0 0:=hr.1
      rw[h0]
      simp[MX,V.rel,W.den,A.den,J.aS]
    ·exact keep
   ·exact keep
theorem yJ {n nb:Nat} {ρ:Env} {m:Nat->Nat} {w:World}:∀{bs:List Nat} {bl:List ay},Mem w0 ρ m bl w->bQ n nb ρ bl->Mem w0 ρ m (po bs bl) w/\bQ n nb ρ (po bs bl)/\(po bs bl).length=bl.length/\
 ∀(i:Nat) (p:ay),(po bs bl)[i]?=some p->∃bU,bl[i]?=some bU/\a6 ρ p.1<=a6 ρ bU.1/\(i∈bs->bO bU.1=false->a6 ρ p.1<=1)
 |[],bl,h,hb=>⟨h,hb,rfl,λi p hi=>⟨p,hi,Nat.le_refl _,λh=>by simp at h⟩⟩
 |b::r,bl,h,hb=>by
  unfold po
  split
  ·rename_i sh off code cap k t hbl
   have jq:b<bl.length:=(List.getElem?_eq_some_iff.1 hbl).1
   have hb':bQ n nb ρ (cF bl b ([.rows sh off code cap 1],t)):=λp hp a ha=>by
    rw[hV]at hp
    rcases List.mem_or_eq_of_mem_set hp with hp|hp
    ·exact hb p hp a ha
    ·subst hp
     simp at ha;subst ha
     have h0:A.ok n nb ρ (.rows sh off code cap (k+1)):=hb _ (List.mem_of_getElem? hbl) _ (by simp)
     exact h0
   obtain⟨g1,g2,g3,g4⟩:=yJ (bs:=r) (h.low hbl) hb'
   refine⟨g1,g2,by rw[g3,fX],λi p hp=>?_⟩
   obtain⟨bU,h1,h2,h3⟩:=g4 i p hp
   by_cases ff:i=b
   ·subst ff
    rw[hV,List.getElem?_set_self jq]at h1
    cases h1
    refine⟨_,hbl,Nat.le_trans h2 (by simp only[a6];split<;>omega),λ_ _=>Nat.le_trans h2 (by simp only[a6];split<;>omega)⟩
   ·rw[hV,List.getElem?_set_ne (λe=>ff e.symm)]at h1
    exact⟨bU,h1,h2,λhi ho=>h3 (by simpa [ff]using hi) ho⟩
  ·rename_i fT
   obtain⟨g1,g2,g3,g4⟩:=yJ (bs:=r) h hb
   refine⟨g1,g2,g3,λi p hp=>?_⟩
   obtain⟨bU,h1,h2,h3⟩:=g4 i p hp
   refine⟨bU,h1,h2,λhi ho=>?_⟩
   rcases List.mem_cons.1 hi with rfl|hi
   ·obtain⟨C,t⟩:=bU
    obtain⟨sh,off,code,cap,k,rfl⟩:=Ld ho
    cases k with
    |zero=>
     have:a6 ρ [A.rows sh off code cap 0]=0:=by simp[a6]
     simp only[this]at h2;omega
    |succ k=>exact absurd h1 (fT _ _ _ _ _ _)
   ·exact h3 hi ho
theorem WZ {n nb:Nat} {ρ:Env} {m:Nat->Nat} {us:List W} {vals:List Value} (h:∀u∈us,W.ok n nb ρ u) (hm:us.map (W.den ρ m)=vals):(uG us).ok n nb ρ/\(uG us).rel ρ m (nO vals):=by
 subst hm
 unfold uG nO
 split
 ·exact⟨h _ (by simp),rfl⟩
 ·rename_i hne
  refine⟨h,?_⟩
  split
  ·rename_i x hx
   match us,hne,hx with
   |[u],hne,_=>exact absurd rfl (hne u)
  ·rfl
theorem KZ:∀{vs:List V},l5 vs=true->vs.flatMap kR=[]
 |[],_=>rfl
 |v::r,h=>by
  unfold l5 at h
  split at h
  ·rename_i heq;cases heq
  ·cases h
  ·rename_i hne heq
   cases heq
   rw[List.flatMap_cons,KZ h,List.append_nil]
   unfold kR
   split
   ·exact(hne _ _ _ _ rfl).elim
   ·rfl
theorem K0:∀{vs:List V} {b:Nat},l5 vs=true->b∈vs.flatMap iP->∃aV o ro len cap,V.w (.one (.sl b aV o ro len cap))∈vs
 |[],b,_,h=>by simp at h
 |v::r,b,h,hb=>by
  simp only[List.flatMap_cons,List.mem_append]at hb
  rcases hb with hb|hb
  ·unfold iP at hb
   split at hb
   ·simp at hb;subst hb;exact⟨_,_,_,_,_,List.mem_cons_self ..⟩
   ·simp[l5]at h
   ·simp at hb
  ·have h':l5 r=true:=by
    unfold l5 at h
    split at h
    ·rename_i heq;cases heq
    ·cases h
    ·rename_i heq;cases heq;exact h
   obtain⟨aV,o,ro,len,cap,h1⟩:=K0 h' hb
   exact⟨aV,o,ro,len,cap,List.mem_cons_of_mem _ h1⟩
theorem cL.M8 {c:cL} {spec:List Int->List Int->Prop} {f:FuncId} {G6:Array Value} (e5:∀zs rs,spec zs rs->S c.id zs rs) (n:Nat) (vs:List V) (bl:List ay) (k:RK) (G:cN) (ρ:Env) (m:Nat->Nat) (w:World) (xs:List Value) (dQ:Ending->World->Prop)
 (hc:∀zs,bI (cK c.args) zs->zT c.pre zs->gD (qt w0 ρ m bl (vs.flatMap iP) (vs.flatMap kR)) (λ_=>False) w c.args zs xs->
   Calls P f G6 w λe w'=>w.Extends w'/\∃rs us,bI (cK c.res) rs/\spec zs rs/\gD (λg=>qt w0 ρ m bl (vs.flatMap iP) (vs.flatMap kR) g∨w.heap.size<=g) (λg=>w.heap.size<=g) w' c.res rs us/\e= .returned (nO us))
 (hb:bQ n bl.length ρ bl) (hw:Mem w0 ρ m bl w) (hv:∀v∈vs,V.ok n bl.length ρ v) (hr:dJ ρ m vs xs) (al:(c.u6 n vs bl k).holds S L G ρ) (hk:sL S L w0 k n bl.length ρ m G dQ):
 Calls P f G6 w dQ:=by
 unfold cL.u6 at al
 obtain⟨aG,n1,ls,c7,cn,⟨g1,g2,g3⟩,al⟩:=Pj (S:=S) (L:=L) hb hw hv hr G _ al
 cases hq:(m6 c.res&&(!(c.res.any bN.jP)||l5 vs))with
 |false=>rw[hq]at al;exact al.elim
 |true=>
  rw[hq]at al
  simp only[cond_true]at al
  obtain⟨fU,al⟩:=preM_holds al
  simp only[T.holds]at al
  simp only[Bool.and_eq_true,Bool.or_eq_true,Bool.not_eq_true']at hq
  refine(hc _ g2 fU (g3 _ λ_ h=>h)).mono ?_
  rintro e w' ⟨he,rs,us,r1,r2,eR,rfl⟩
  have al:=nY al r1 (e5 _ _ r2)
  have hJ:=hb.ext cn c7 (Nat.le_refl bl.length)
  have Sk:=(hw.grow he).dA hb cn
  have cC:agree n1 aG (bP aG n1 rs):=agree.bP rs n1 aG
  have mx:=hJ.ext cC (Nat.le_add_right n1 (cK c.res).length) (Nat.le_refl bl.length)
  have JU:=Sk.dA hJ cC
  have hA:At (bP aG n1 rs) n1 rs:=At.bP aG n1 rs
  have JH:rs.length=(cK c.res).length:=iG r1
  have nf:=cn.trans cC c7
  have PS:cw n bl.length ρ m (n1+(cK c.res).length) bl.length (bP aG n1 rs) m:=⟨by omega,nf,Nat.le_refl _,λ_ _=>rfl⟩
  have fg:∀(i:Nat) (p:ay),bl[i]?=some p->a6 (bP aG n1 rs) p.1=a6 ρ p.1:=λi p hi=>jy (hb p (List.mem_of_getElem? hi)) nf
  have CI:∀(i:Nat) (p:ay),bl[i]?=some p->w.heap.size<=m i->a6 ρ p.1=0:=λi p hi cu=>by
   by_cases h0:a6 ρ p.1=0
   ·exact h0
   ·have:=hw.lt hi h0;omega
  have fin:∀aW:List ay,bQ (n1+(cK c.res).length) aW.length (bP aG n1 rs) aW->Mem w0 (bP aG n1 rs) m aW w'->aW.length=bl.length->
   (∀(i:Nat) (p:ay),aW[i]?=some p->(qt w0 ρ m bl (vs.flatMap iP) (vs.flatMap kR) (m i)∨w.heap.size<=m i)->(c.res.any bN.jP)=true->a6 (bP aG n1 rs) p.1<=1)->
   (∀(i:Nat) (p:ay),aW[i]?=some p->w.heap.size<=m i->a6 (bP aG n1 rs) p.1=0)->(∀g,w.heap.size<=g->mf w0 (bP aG n1 rs) m aW w' g)->
   (pa c.res n1 (n1+(cK c.res).length) [] aW λda us jL=>k da (uG us) jL).holds S L G (bP aG n1 rs)->dQ (.returned (nO us)) w':=λaW hb' mI hlen c3 Qt iW al=>by
   have hF:∀g,(qt w0 ρ m bl (vs.flatMap iP) (vs.flatMap kR) g∨w.heap.size<=g)->w0.ex g∨w0.ro g∨w0.r.heap.size<=g:=λg hg=>by
    rcases hg with(hg|hg)|hg
    ·exact hg.2
    ·exact hg.1
    ·exact .inr (.inr (Nat.le_trans hw.fG hg))
   have hN:∀g,w.heap.size<=g->w0.b.heap.size<=g/\w0.r.heap.size<=g:=λg hg=>⟨Nat.le_trans hw.ext.size hg,Nat.le_trans hw.fG hg⟩
   have h1:(c.res.all λb=> !b.jP)=true∨∀(i:Nat) (p:ay),aW[i]?=some p->(qt w0 ρ m bl (vs.flatMap iP) (vs.flatMap kR) (m i)∨w.heap.size<=m i)->a6 (bP aG n1 rs) p.1<=1:=by
    cases oy:c.res.any bN.jP with
    |true=>exact .inr λi p hi hf=>c3 i p hi hf oy
    |false=>
     left
     rw[List.all_eq_true]
     intro b hb
     cases fo:b.jP with
     |false=>rfl
     |true=>rw[List.any_eq_true.2 ⟨b,hb,fo⟩]at oy;cases oy
   obtain⟨n',ag,m',ji,jL,p1,bz,b5,eg,eK,fJ⟩:=x6 (S:=S) (L:=L) hF hN (l:=c.res) (us:=[]) (vals:=us) hq.1 hb' mI hA r1 (Nat.le_refl _) eR h1 (.inr Qt) (.inr iW) (λu hu=>by simp at hu) al
   have kj:=WZ (m:=m') eK (by simpa using eg)
   exact hk n' (uG ji) jL G ag m' w' (nO us) (PS.trans (hlen▸p1)) (c5.refl _ _) kj.1 kj.2 bz b5 fJ
  cases oy:c.res.any bN.jP with
  |false=>
   rw[oy]at al
   exact fin bl mx JU rfl (λ_ _ _ _ h=>by rw[oy]at h;cases h) (λi p hi cu=>by rw[fg i p hi];exact CI i p hi cu) (λg hg=>(hw.sO he hg).dA hb nf) al
  |true=>
   rw[oy]at al hq
   obtain⟨f1,f2,f3,f4⟩:=yJ (bs:=vs.flatMap iP) JU mx
   have mE:l5 vs=true:=by
    rcases hq.2 with h|h
    ·cases h
    ·exact h
   refine fin _ (by rw[f3];exact f2) f1 f3 (λi p hi hf _=>?_) (λi p hi cu=>?_) (λg hg=>(yJ (bs:=vs.flatMap iP) (hw.dA hb nf) mx).1.sO he hg) al
   ·obtain⟨bU,h1,h2,h3⟩:=f4 i p hi
    rw[fg i bU h1]at h2
    rcases hf with(⟨⟨b,I0,Qw,q,tL,np,RV⟩,_⟩|ox)|cu
    rotate_left
    ·rcases Nat.lt_or_ge (a6 ρ bU.1) 2 with bm|bm
     ·omega
     ·exact absurd rfl (ox.2 i bU h1 bm)
    rotate_left
    ·obtain⟨aV,o,ro,len,cap,iZ⟩:=K0 mE I0
     rcases hw.inj i b bU q h1 tL (by rw[Qw])with h5|h5|h5|h5
     ·subst h5
      rw[h1]at tL;cases tL
      cases ho:bO bU.1 with
      |false=>exact h3 I0 ho
      |true=>
       have:=RV ho
       rw[KZ mE]at this
       simp at this
     ·omega
     ·omega
     ·exact absurd h5 np
    ·have:=CI i bU h1 cu;omega
   ·obtain⟨bU,h1,h2,_⟩:=f4 i p hi
    rw[fg i bU h1]at h2
    have:=CI i bU h1 cu;omega
theorem cL.GA {c:cL} {spec:List Int->List Int->Prop} (hc:c.Ok P w0.b spec) (e5:∀zs rs,spec zs rs->S c.id zs rs) (n:Nat) (vs:List V) (bl:List ay) (k:RK) (G:cN) (ρ:Env) (m:Nat->Nat) (w:World) (xs:List Value) (dQ:Ending->World->Prop)
 (hb:bQ n bl.length ρ bl) (hw:Mem w0 ρ m bl w) (hv:∀v∈vs,V.ok n bl.length ρ v) (hr:dJ ρ m vs xs) (al:(c.u6 n vs bl k).holds S L G ρ) (hk:sL S L w0 k n bl.length ρ m G dQ):
 (callFunc c.f xs.toArray).run P w= .ok (.enter c.f xs.toArray) w/\Calls P c.f xs.toArray w dQ:=by
 exact⟨hc.1 _ _,cL.M8 e5 n vs bl k G ρ m w xs dQ (λzs h1 h2 h3=>hc.2 _ w xs zs hw.ext h1 h2 h3) hb hw hv hr al hk⟩
theorem Fx {m:Nat->Nat} {w:World}:∀{ds:List bN} {vs:List V} {bl:List ay} {xs:List Value} {n:Nat} {ρ:Env},Mem w0 ρ m bl w->bQ n bl.length ρ bl->(∀v∈vs,V.ok n bl.length ρ v)->dJ ρ m vs xs->
 ar S L (nN ds vs bl) n ρ λag n' q=>Mem w0 ag m q.2 w/\bQ n' q.2.length ag q.2/\q.2.length=bl.length/\(∀v∈q.1,V.ok n' bl.length ag v)/\dJ ag m q.1 xs
 |[],vs,bl,xs,n,ρ,hm,hb,hv,hr=>ar.pure ⟨hm,hb,rfl,hv,hr⟩
 | .d _::_,[],bl,xs,n,ρ,hm,hb,hv,hr=>ar.pure ⟨hm,hb,rfl,hv,hr⟩
 | .rd _::_,[],bl,xs,n,ρ,hm,hb,hv,hr=>ar.pure ⟨hm,hb,rfl,hv,hr⟩
 | .iK _ _::_,[],bl,xs,n,ρ,hm,hb,hv,hr=>ar.pure ⟨hm,hb,rfl,hv,hr⟩
 |d::r,v::s,bl,xs,n,ρ,hm,hb,hv,hr=>by
  match xs,hr with
  |x::xs,hr=>
  have keep:ar S L (bind (nN r s bl) λq=>pure (v::q.1,q.2)) n ρ λag n' q=>Mem w0 ag m q.2 w/\bQ n' q.2.length ag q.2/\q.2.length=bl.length/\(∀v∈q.1,V.ok n' bl.length ag v)/\dJ ag m q.1 (x::xs):=
   (Fx (ds:=r) (vs:=s) hm hb (λu hu=>hv u (List.mem_cons_of_mem _ hu)) hr.2).bind λaG n1 q hn ha ⟨g1,g2,g3,g4,g5⟩=>ar.pure ⟨g1,g2,g3,λu hu=>by
     rcases List.mem_cons.1 hu with rfl|hu
     ·exact(hv u (by simp)).ext ha hn (Nat.le_refl _)
     ·exact g4 u hu,V.rel.ext hr.1 (hv v (by simp)) ha (λ_ _=>rfl),g5⟩
  cases d with
  |d y=>exact keep
  |iK sh e=>exact keep
  |rd sh=>
   unfold nN
   split
   ·rename_i b len cap _
    split
    ·rename_i C t hbl
     cases hc:(bO C&& !t.2&&Nat.beq len cap&&Nat.beq C.length (len*sh.length)&&gx sh&&Nat.ble len 1000000&&fK sh&&Nat.blt 0 len)with
     |false=>exact keep
     |true=>
      simp only[cond_true]
      simp only[Bool.and_eq_true]at hc
      obtain⟨⟨⟨⟨⟨⟨⟨ho,c1⟩,bY⟩,aU⟩,bL⟩,b7⟩,dv⟩,e0⟩:=hc
      have c1:t.2=false:=by simpa using c1
      have bY:=Nat.eq_of_beq_eq_true bY
      have aU:=Nat.eq_of_beq_eq_true aU
      have b7:=Nat.le_of_ble_eq_true b7
      subst bY
      have bb:∀x∈C,A.ok n bl.length ρ x:=hb _ (List.mem_of_getElem? hbl)
      have jq:b<bl.length:=(List.getElem?_eq_some_iff.1 hbl).1
      have gK:=qQ (w:=sh.length) (k:=len) aU
      refine(vk (nb:=bl.length) (m:=m) bL (rs:=gE sh.length len C) (c:= .const 0) (λrow hr x hx=>bb x (qR row hr x hx)) (J.bS _ _) (by rw[J.aS];exact⟨Int.le_refl _,o6⟩) (by rw[mP];intro _ h;simp at h) (by rw[mP,gK.1];simp;omega)).bind λaG n1 code c7 cn ⟨p1,bz,b6,b5,eg,eK,fJ⟩=>?_
      rw[mP,List.nil_append]at b5
      have wm:C.map (A.den aG m)=C.map (A.den ρ m):=kL bb cn (λ_ _=>rfl)
      have hE:=(hm.dA hb cn).Ab (n:=n1) (c:=len) (sh:=sh) (code:=code) hbl ho c1 dv (by rw[b5];exact eK) (by rw[b5,fJ,gK.2,wm]) aU
      have hJ:bQ n1 (cF bl b ([.rows sh (.const 0) code (.const len) 2],t)).length aG (cF bl b ([.rows sh (.const 0) code (.const len) 2],t)):=(hb.ext cn c7 (Nat.le_refl _)).set (λy hy=>by
       have hy:y= .rows sh (.const 0) code (.const len) 2:=by simpa using hy
       subst hy
       exact⟨⟨J.bS _ _,p1,J.bS _ _⟩,bz,by rw[J.aS];omega⟩)
      have zb:=fX bl b ([.rows sh (.const 0) code (.const len) 2],t)
      refine(Fx (ds:=r) (vs:=s) hE hJ (λu hu=>by rw[zb];exact(hv u (List.mem_cons_of_mem _ hu)).ext cn c7 (Nat.le_refl _)) (yH.dJ.later (λu hu=>hv u (List.mem_cons_of_mem _ hu)) cn hr.2)).bind λa8 da q cO cC ⟨g1,g2,g3,g4,g5⟩=>ar.pure ⟨g1,g2,by rw[g3,zb],λu hu=>?_,?_,g5⟩
      ·rcases List.mem_cons.1 hu with rfl|hu
       ·refine⟨jq,⟨J.bS _ _,J.bS _ _,J.bS _ _,J.bS _ _⟩,?_⟩
        simp only[J.aS]
        exact⟨⟨by omega,by omega,by omega,by omega⟩,⟨by omega,by omega⟩,λh=>by omega,λ_=>by omega⟩
       ·rw[<-zb];exact g4 u hu
      ·have h0:x= .slice (some ⟨m b,0,none⟩) len len:=hr.1
       have rC:¬((len:Int)<0):=by omega
       rw[h0]
       simp[V.rel,W.den,A.den,J.aS,rC]
    ·exact keep
   ·exact keep
theorem cL.M9 {c:cL} {spec:List Int->List Int->Prop} (hc:c.Ok P w0.b spec) (e5:∀zs rs,spec zs rs->S c.id zs rs) (n:Nat) (vs:List V) (bl:List ay) (k:RK) (G:cN) (ρ:Env) (m:Nat->Nat) (w:World) (xs:List Value) (dQ:Ending->World->Prop)
 (hb:bQ n bl.length ρ bl) (hw:Mem w0 ρ m bl w) (hv:∀v∈vs,V.ok n bl.length ρ v) (hr:dJ ρ m vs xs) (al:(c.AQ n vs bl k).holds S L G ρ) (hk:sL S L w0 k n bl.length ρ m G dQ):
 (callFunc c.f xs.toArray).run P w= .ok (.enter c.f xs.toArray) w/\Calls P c.f xs.toArray w dQ:=by
 unfold cL.AQ at al
 cases hq:(c.res.any bN.jP&& !l5 vs)with
 |false=>rw[hq]at al;exact c.GA hc e5 n _ _ k G ρ m w xs dQ hb hw hv hr al hk
 |true=>
  rw[hq]at al
  simp only[cond_true]at al
  obtain⟨aG,n1,q,hn,ha,⟨g1,g2,g3,g4,g5⟩,al⟩:=Fx (S:=S) (L:=L) (ds:=c.args) hw hb hv hr G _ al
  refine c.GA hc e5 n1 _ _ k G aG m w xs dQ g2 g1 (λv hv=>by rw[g3];exact g4 v hv) g5 al ?_
  rw[g3]
  intro n' v aW cU ag m' w' val h1 h2 h3 h4 h5 h6 h7
  exact hk n' v aW cU ag m' w' val (cw.trans ⟨hn,ha,Nat.le_refl _,λ_ _=>rfl⟩ h1) (λl hl=>h2 l (Nat.lt_of_lt_of_le hl hn)) h3 h4 h5 h6 h7
theorem cL.Na {c:cL} {spec:List Int->List Int->Prop} (hc:c.Ok P w0.b spec) (e5:∀zs rs,spec zs rs->S c.id zs rs) (n:Nat) (vs:List V) (bl:List ay) (k:RK) (G:cN) (ρ:Env) (m:Nat->Nat) (w:World) (xs:List Value) (dQ:Ending->World->Prop)
 (hb:bQ n bl.length ρ bl) (hw:Mem w0 ρ m bl w) (hv:∀v∈vs,V.ok n bl.length ρ v) (hr:dJ ρ m vs xs) (al:(c.E n vs bl k).holds S L G ρ) (hk:sL S L w0 k n bl.length ρ m G dQ):
 (callFunc c.f xs.toArray).run P w= .ok (.enter c.f xs.toArray) w/\Calls P c.f xs.toArray w dQ:=by
 obtain⟨g1,g2,g3,g4,g5⟩:=FL (rd:=c.res.any bN.jP) (ds:=c.args) hw hb hv hr
 exact c.M9 hc e5 n _ _ k G ρ m w xs dQ g2 g1 (λv hv=>by rw[g3];exact g4 v hv) g5 al (by rw[g3];exact hk)
end
end Go.bo
namespace Go.bo
open M
def O.aX (n:Nat):O->Prop
 |l x=>x.aX n
 |b x=>x.aX n
theorem O.bj {n:Nat} {ρ ag:Env} (ha:agree n ρ ag):∀{o:O},o.aX n->o.den ag=o.den ρ
 | .l x,h=>J.bj ha h
 | .b x,h=>by simp only[O.den];rw[aY.bj ha h]
theorem Lf {k:IntKind} {n nb:Nat} {ρ:Env}:∀{l:List A} {os:List O},fC k l=some os->(∀a∈l,A.ok n nb ρ a)->∀o∈os,O.aX n o
 |[],os,h,_=>by simp[fC]at h;subst h;intro x hx;simp at hx
 | .int aZ x::s,os,h,bb=>by
  simp only[fC]at h
  cases hc:decide (k=aZ)with
  |false=>simp[hc]at h
  |true=>
   cases hr:fC k s with
   |none=>simp[hc,hr]at h
   |some fh=>
    simp only[hc,hr,cond_true,Option.some.injEq]at h
    subst h
    intro y hy
    rcases List.mem_cons.1 hy with hy|hy
    ·rw[hy]
     have h0:A.ok n nb ρ (.int aZ x):=bb _ (List.mem_cons_self ..)
     have h0:x.ok n ρ:=h0
     exact h0.1
    ·exact Lf hr (λa ha=>bb a (List.mem_cons_of_mem _ ha)) y hy
 | .bool _::_,_,h,_=>by simp[fC]at h
 | .ptr .. ::_,_,h,_=>by simp[fC]at h
 | .iL .. ::_,_,h,_=>by simp[fC]at h
 | .gptr .. ::_,_,h,_=>by simp[fC]at h
 | .slc .. ::_,_,h,_=>by simp[fC]at h
 | .con _::_,_,h,_=>by simp[fC]at h
 | .str _::_,_,h,_=>by simp[fC]at h
 | .rows .. ::_,_,h,_=>by simp[fC]at h
 | .sl .. ::_,_,h,_=>by simp[fC]at h
 | .ep .. ::_,_,h,_=>by simp[fC]at h
theorem az.VJ {c:az} {a:A} {o:O} {n nb:Nat} {ρ:Env} (h:c.out a=some o) (ha:a.ok n nb ρ):o.aX n:=by
 unfold az.out at h
 split at h
 ·rename_i k _ _ aZ x
  cases hk:decide (k=aZ)with
  |false=>simp[hk]at h
  |true=>
   simp only[hk,cond_true,Option.some.injEq]at h
   subst h
   have ha:x.ok n ρ:=ha
   exact ha.1
 ·simp only[Option.some.injEq]at h;subst h
  exact ha.1
 ·simp only[Option.some.injEq]at h;subst h
  exact ha
 ·cases h
theorem Li {n nb:Nat} {ρ:Env}:∀{d:List az} {l:List A} {os:List O},kN d l=some os->(∀a∈l,A.ok n nb ρ a)->∀o∈os,O.aX n o
 |[],[],os,h,_=>by simp[kN]at h;subst h;intro x hx;simp at hx
 |c::d,a::s,os,h,bb=>by
  simp only[kN]at h
  cases h1:c.out a with
  |none=>simp[h1]at h
  |some o=>
   cases h2:kN d s with
   |none=>simp[h1,h2]at h
   |some xa=>
    simp only[h1,h2,Option.some.injEq]at h
    subst h
    intro y hy
    rcases List.mem_cons.1 hy with hy|hy
    ·rw[hy];exact az.VJ h1 (bb a (List.mem_cons_self ..))
    ·exact Li h2 (λb hb=>bb b (List.mem_cons_of_mem _ hb)) y hy
 |[],_::_,_,h,_=>by simp[kN]at h
 |_::_,[],_,h,_=>by simp[kN]at h
theorem VI {d:D} {u:W} {os:List O} {n nb:Nat} {ρ:Env} (h:oQ d u=some os) (hu:u.ok n nb ρ):∀o∈os,O.aX n o:=by
 unfold oQ at h
 split at h
 ·rename_i k _ _ aZ x
  cases hk:decide (k=aZ)with
  |false=>simp[hk]at h
  |true=>
   simp only[hk,cond_true,Option.some.injEq]at h
   subst h
   have hu:x.ok n ρ:=hu
   intro o ho;simp at ho;subst ho;exact hu.1
 ·simp only[Option.some.injEq]at h;subst h
  intro o ho;simp at ho;subst ho;exact hu
 ·rename_i k n' _ _ l
  cases hk:Nat.beq l.length n' with
  |false=>simp[hk]at h
  |true=>
   simp only[hk,cond_true]at h
   exact Lf h hu
 ·simp only[Option.some.injEq]at h;subst h
  intro o ho;simp at ho;subst ho;exact hu.1
 ·exact Li h hu
 ·cases h
noncomputable def uE (bl:List ay):bN->W->M (List O)
 | .d x,u=>match oQ x u with|some os=>pure os|none=>fail
 | .rd sh,u=>bind (xh true sh bl (.w u)) λl=>pure [.l l]
 | .iK sh e,u=>bind (Ev sh e bl (.w u)) λl=>pure [.l l]
noncomputable def zY (bl:List ay):List bN->List W->M (List O)
 |[],[]=>pure []
 |b::r,u::s=>bind (uE bl b u) λa=>bind (zY bl r s) λc=>pure (a++c)
 |_,_=>fail
noncomputable def EI (bl:List ay) (ds:List bN) (v:V):M (List O):=
 match v with
 | .w u=>match ds with|[d]=>uE bl d u|_=>fail
 | .dZ l=>match ds with|[_]=>fail|_=>zY bl ds l
 |_=>fail
def O.toW:O->W
 |l x=> .one (.int .u8 ⟨x,0,0⟩)
 |b x=> .one (.bool x)
def W.toO:W->O
 | .one (.int _ x)=> .l x.l
 | .one (.bool e)=> .b e
 |_=> .l (.const 0)
theorem O.toW_toO (o:O):o.toW.toO=o:=by cases o<;>rfl
def zO (os:List O):V:= .dZ (os.map O.toW)
def qA (K:List Int->Prop) (v:V) (ρ:Env):Prop:=
 match v with
 | .dZ l=>K (l.map λu=>u.toO.den ρ)
 |_=>False
theorem Nn {K:List Int->Prop} {os:List O} {ρ:Env}:qA K (zO os) ρ=K (os.map (O.den ρ)):=by
 unfold qA zO
 simp only[List.map_map]
 congr 1
 exact List.map_congr_left λo _=>by simp[Function.comp,O.toW_toO]
section
variable {S:Nat->List Int->List Int->Prop} {L:V->Env->Prop} {w0:cQ} {P:Program} {w:World}
theorem qD.mono {N va:Nat->Prop} {sh:List az} {e:TypeId} {rows:List (List Int)} {v:Value} (h:qD N w sh e rows v) (hN:∀g,N g->va g):qD va w sh e rows v:=by
 rcases h with h|⟨g,cap,cells,h1,h2,h3,h4⟩
 ·exact .inl h
 ·exact .inr ⟨g,cap,cells,h1,h2,hN g h3,h4⟩
def F0 (w0:cQ) (g:Nat):Prop:=w0.ex g∨w0.ro g∨w0.r.heap.size<=g
theorem LH {d:bN} {u:W} {n:Nat} {ρ:Env} {m:Nat->Nat} {bl:List ay} (hex:∀g,¬w0.ex g) (hb:bQ n bl.length ρ bl) (hw:Mem w0 ρ m bl w) (hu:u.ok n bl.length ρ):
 ar S L (uE bl d u) n ρ λag n' os=>(∀o∈os,O.aX n' o)/\os.length=d.num/\(d.dT=false->bI d.bds (os.map (O.den ag)))/\∀zs,d.at (F0 w0) (λg=>w0.r.heap.size<=g) w (os.map (O.den ag)++zs) (u.den ρ m):=by
 cases d with
 |d x=>
  unfold uE
  cases ho:oQ x u with
  |none=>simp only[ho];exact ar.fail
  |some os=>
   simp only[ho]
   have:=Eu (ρ:=ρ) (m:=m) ho
   exact ar.pure ⟨VI ho hu,this.1,λh=>(by simp[bN.dT]at h),λzs=>(this.2 zs).symm⟩
 |rd sh=>
  unfold uE
  refine(WM (v:= .w u) hb hw hu rfl).bind λaG n1 l hn ha ⟨g1,g2,g3⟩=>ar.pure ⟨λo ho=>by simp at ho;subst ho;exact g1,rfl,λ_=>⟨g2.1,g2.2,trivial⟩,λzs=>?_⟩
  exact g3.mono λg hg=>hg.elim (λh=>h.2) λh=>h.1
 |iK sh e=>
  unfold uE
  refine(VL (v:= .w u) hex hb hw hu rfl).bind λaG n1 l hn ha ⟨g1,g2,g3⟩=>ar.pure ⟨λo ho=>by simp at ho;subst ho;exact g1,rfl,λ_=>⟨g2.1,g2.2,trivial⟩,λzs=>g3⟩
theorem Um {n:Nat} {ρ ag:Env} {os:List O} (h:∀x∈os,O.aX n x) (ha:agree n ρ ag):os.map (O.den ag)=os.map (O.den ρ):=List.map_congr_left λx hx=>O.bj ha (h x hx)
theorem LI {m:Nat->Nat} {bl:List ay} (hex:∀g,¬w0.ex g):∀{ds:List bN} {us:List W} {n:Nat} {ρ:Env},bQ n bl.length ρ bl->Mem w0 ρ m bl w->(∀u∈us,W.ok n bl.length ρ u)->
 ar S L (zY bl ds us) n ρ λag n' os=>(∀o∈os,O.aX n' o)/\gD (F0 w0) (λg=>w0.r.heap.size<=g) w ds (os.map (O.den ag)) (us.map (W.den ρ m))
 |[],[],n,ρ,_,_,_=>ar.pure ⟨λ_ h=>by simp at h,trivial⟩
 |b::r,u::s,n,ρ,hb,hw,hu=>by
  unfold zY
  refine(LH hex hb hw (hu u (by simp))).bind λaG n1 a hn ha ⟨g1,g2,_,g3⟩=>?_
  refine(LI (ds:=r) (us:=s) hex (hb.ext ha hn (Nat.le_refl _)) (hw.dA hb ha) (λx hx=>(hu x (List.mem_cons_of_mem _ hx)).ext ha hn (Nat.le_refl _))).bind λa8 da c cO cC ⟨k1,k2⟩=>ar.pure ⟨λo ho=>?_,?_⟩
  ·rcases List.mem_append.1 ho with ho|ho
   ·have:=g1 o ho
    cases o with
    |l x=>exact J.aX.mono this cO
    |b x=>exact aY.aX.mono cO this
   ·exact k1 o ho
  ·rw[List.map_append,Um g1 cC]
   refine⟨g3 _,?_⟩
   rw[<-g2,<-List.length_map (f:=O.den aG) (as:=a),List.drop_left]
   have e:s.map (W.den ρ m)=s.map (W.den aG m):=List.map_congr_left λx hx=>(W.hh (hu x (List.mem_cons_of_mem _ hx)) ha (λ_ _=>rfl)).symm
   rw[e];exact k2
 |[],_::_,_,_,_,_,_=>ar.fail
 |_::_,[],_,_,_,_,_=>ar.fail
theorem WX {ds:List bN} {v:V} {val:Value} {n:Nat} {ρ:Env} {m:Nat->Nat} {bl:List ay} (hex:∀g,¬w0.ex g) (hb:bQ n bl.length ρ bl) (hw:Mem w0 ρ m bl w) (hv:v.ok n bl.length ρ) (hr:v.rel ρ m val):
 ar S L (EI bl ds v) n ρ λag n' os=>∃us,val=nO us/\gD (F0 w0) (λg=>w0.r.heap.size<=g) w ds (os.map (O.den ag)) us:=by
 unfold EI
 split
 ·rename_i u
  split
  ·rename_i d
   refine(LH hex hb hw hv).mono λaG n1 os hn ha ⟨g1,g2,_,g3⟩=>⟨[u.den ρ m],hr,?_,trivial⟩
   have:=g3 []
   rwa [List.append_nil]at this
  ·exact ar.fail
 ·rename_i l
  split
  ·exact ar.fail
  ·rename_i hne
   refine(LI (ds:=ds) hex hb hw hv).mono λaG n1 os hn ha ⟨g1,g2⟩=>⟨l.map (W.den ρ m),?_,g2⟩
   have hr:val= .tuple (l.map (W.den ρ m)).toArray:=hr
   rw[hr]
   unfold nO
   split
   ·rename_i x hx
    exfalso
    have hl:l.length=1:=by have:=congrArg List.length hx;simpa using this
    match ds,l,hl,g2,hne with
    |[d],[u],_,_,hne=>exact hne d rfl
    |[],[u],_,g2,_=>simp[gD]at g2
    |_::_::_,[u],_,g2,_=>simp[gD]at g2
   ·rfl
 ·exact ar.fail
def Ea (i:Nat):J:=⟨0,[(1,i)]⟩
theorem Uk (ρ:Env) (zs:List Int):((List.range zs.length).map Ea).map (·.den (bP ρ 0 zs))=zs:=by
 refine Kz (by simp) λj hj=>?_
 have hj:j<zs.length:=by simpa using hj
 have:=At.bP ρ 0 zs j hj
 rw[Nat.zero_add]at this
 simp[Ea,J.den,eO,List.getD,hj]at this⊢
 exact this
noncomputable def cL.tree (gd:kV) (P:Program) (gl:dt) (bf:ew) (li:FuncId->Nat->Option c0) (rounds d:Nat) (c:cL):T:=
 cond (m6 c.args&& !(c.args.any bN.mL)) (Lr c.pre ((List.range (cK c.args).length).map Ea) (pa c.args 0 (cK c.args).length [] [] λn us bl=>BA gd P gl bf li rounds d c.f n (us.map V.w) bl λn' v aW=>EI aW c.res v n' λos _=> .leaf (zO os))) .stuck
theorem GJ {ρ:Env} {m:Nat->Nat}:∀{us:List W} {xs:List Value},us.map (W.den ρ m)=xs->dJ ρ m (us.map V.w) xs
 |[],[],_=>trivial
 |u::us,x::xs,h=>by
  simp only[List.map_cons,List.cons.injEq]at h
  exact⟨h.1.symm,GJ h.2⟩
 |[],_::_,h=>by simp at h
 |_::_,[],h=>by simp at h
noncomputable def gv:List cL->kV
 |[],_=>none
 |c::r,f=>cond (Nat.beq c.f f) (some c.E) (gv r f)
theorem gZ {wb:World} {r:World} {ex ro:Nat->Prop}:∀{l:List cL},(∀c∈l,c.Ok P wb (S c.id))->sF S L ⟨wb,r,ex,ro,[]⟩ P (gv l)
 |[],_=>λf g h=>by cases h
 |c::l,h=>λf g hf=>by
  unfold gv at hf
  cases hb:Nat.beq c.f f with
  |true=>
   rw[hb]at hf
   simp only[cond_true,Option.some.injEq]at hf
   have:=Nat.eq_of_beq_eq_true hb
   subst this;subst hf
   intro n vs bl k G ρ m w xs dQ h1 h2 h3 h4 h5 h6
   exact cL.Na (w0:=⟨wb,r,ex,ro,[]⟩) (h c (by simp)) (λ_ _ h=>h) n vs bl k G ρ m w xs dQ h1 h2 h3 h4 h5 h6
  |false=>
   rw[hb]at hf
   exact gZ (λc hc=>h c (List.mem_cons_of_mem _ hc)) f g hf
theorem cL.UI {wb:World} {gl:dt} {c:cL} {gd:kV} {bf:ew} {li:FuncId->Nat->Option c0} {rounds d:Nat} {spec:List Int->List Int->Prop} (hm:P.follows .mixedOrders=true) (cM:∀r ex ro,gB S P gl ⟨wb,r,ex,ro,[]⟩ bf) (hg:fv gl ⟨wb,wb,λ_=>False,λ_=>False,[]⟩)
 (lS:∀(L:V->Env->Prop) (r:World) (ro:Nat->Prop),sF S L ⟨wb,r,λ_=>False,ro,[]⟩ P gd) (hf:∀args w,(callFunc c.f args).run P w= .ok (.enter c.f args) w)
 (ht:m5 (cK c.args) λzs=>(c.tree gd P gl bf li rounds d).holds S (qA λrs=>bI (cK c.res) rs/\spec zs rs) (λ_ _=>False) (bP (λ_=>0) 0 zs)):c.Ok P wb spec:=by
 refine⟨hf,λF w vs zs hw hz RU hat=>?_⟩
 have al:=nY ht hz
 have km:=iG hz
 unfold cL.tree at al
 cases hq:(m6 c.args&& !(c.args.any bN.mL))with
 |false=>rw[hq]at al;exact al.elim
 |true=>
  rw[hq]at al
  simp only[cond_true]at al
  have al:=preA_holds al (by rw[<-km,Uk];exact RU)
  simp only[Bool.and_eq_true,Bool.not_eq_true']at hq
  have iZ:Mem ⟨wb,w,λ_=>False,F,[]⟩ (bP (λ_=>0) 0 zs) (λ_=>0) [] w:=⟨hw,rfl,rfl,rfl,Nat.le_refl _,λ_ _ _=>rfl,λi cs t h=>by simp at h,λi sh off code cap kind t h=>by simp at h,λi j p q h=>by simp at h⟩
  have hall:(c.args.all λb=> !b.mL)=true:=by
   rw[List.all_eq_true]
   intro b hb
   cases fo:b.mL with
   |false=>rfl
   |true=>rw[List.any_eq_true.2 ⟨b,hb,fo⟩]at hq;cases hq.2
  obtain⟨n',ag,m',us,bl,p1,bz,b5,eg,eK,fJ⟩:=x6 (S:=S) (L:=_) (w0:=⟨wb,w,λ_=>False,F,[]⟩) (F:=F) (N:=λ_=>False) (λg hg=> .inr (.inl hg)) (λg hg=>hg.elim) (l:=c.args) (s:=0) (us:=[]) (bl:=[]) (m:=λ_=>0) hq.1 (λp hp=>by simp at hp) iZ (At.bP _ 0 zs) hz (by omega) hat (.inr λi p h=>by simp at h) (.inl hall) (.inl hall) (λu hu=>by simp at hu) al
  have Q6:fv gl ⟨wb,w,λ_=>False,F,[]⟩:=hg
  refine(Hr (S:=S) (w0:=⟨wb,w,λ_=>False,F,[]⟩) rfl hm (cM w (λ_=>False) F) Q6 (lS _ _ _) d c.f n' (us.map V.w) bl _ _ ag m' w vs _ bz b5 (λv hv=>by
   obtain⟨u,hu,rfl⟩:=List.mem_map.1 hv
   exact eK u hu) (GJ (by simpa using eg)) fJ ?_).2
  intro da v aW cU a8 dU w' val h1 h2 h3 h4 h5 h6 h7
  obtain⟨ei,jU,os,tJ,lQ,⟨xs,oB,hx2⟩,hl⟩:=WX (S:=S) (w0:=⟨wb,w,λ_=>False,F,[]⟩) (λg hg=>hg) h5 h6 h3 h4 cU _ h7
  have hl:qA _ (zO os) ei:=hl
  rw[Nn]at hl
  refine⟨?_,os.map (O.den ei),xs,hl.1,hl.2,?_,by rw[oB]⟩
  ·have lk:∀i:Nat,i<w.heap.size->w'.heap[i]?=w.heap[i]?:=λi hi=>h6.ke i hi λh=>h
   exact⟨h6.gO,h6.kk,h6.ki,h6.fG,λa ha=>by simp only[World.cell?,lk a.block ha],λa ha=>by simp only[World.frozen?,lk a.block ha],lk⟩
  ·exact x9 (λg hg=>by
    rcases hg with hg|hg|hg
    ·exact hg.elim
    ·exact .inl hg
    ·exact .inr hg) (λg hg=>hg) hx2
where
 x9 {F F' N va:Nat->Prop} {w:World} (hF:∀g,F g->F' g) (hN:∀g,N g->va g):∀{ds:List bN} {zs:List Int} {vs:List Value},gD F N w ds zs vs->gD F' va w ds zs vs
 |[],_,[],_=>trivial
 | .d x::r,zs,v::vs,h=>⟨h.1,x9 hF hN h.2⟩
 | .rd sh::r,zs,v::vs,h=>⟨eY.mono h.1 hF,x9 hF hN h.2⟩
 | .iK sh e::r,zs,v::vs,h=>⟨qD.mono h.1 hN,x9 hF hN h.2⟩
 |[],_,_::_,h=>h.elim
 |_::_,_,[],h=>by simp[gD]at h
end
def bN.zH:bN->List Nat
 | .d x=>x.zH
 |_=>[1]
def sd (ds:List bN):List Nat:=ds.flatMap bN.zH
def AY (ds:List bN) (K:List (List Int)->Prop) (v:V) (st:eM) (aP:eL):Prop:=
 match v with
 | .dZ l=>K ((eW (sd ds) (l.map W.toO)).map (uJ st aP))
 |_=>False
theorem Nl {ds:List bN} {K:List (List Int)->Prop} (v:V) (ρ:Env) (st:eM) (aP:eL) (ht:jn ρ st aP) (h:AY ds K v st aP):qA (λrs=>K (eW (sd ds) rs)) v ρ:=by
 unfold AY at h
 unfold qA
 split at h
 ·rename_i l
  have e:l.map (λu=>u.toO.den ρ)=(l.map W.toO).map (O.den ρ):=by simp
  simp only[e]
  rw[Ak]
  rwa [show(eW (sd ds) (l.map W.toO)).map (uJ st aP)=(eW (sd ds) (l.map W.toO)).map (List.map (O.den ρ)) from List.map_congr_left λo _=>Ma ht o]at h
 ·exact h.elim
def gu (sh:Nat->List Nat×List Nat) (dx:Nat->List Nat) (S:Nat->List (List Int)->List (List Int)->Prop) (K:List (List Int)->List (List Int)->Prop) (lens:List Nat) (bds:List (Int×Int)) (ds:List bN) (t:T):Prop:=
 o8 lens 0 bds (λst aP zs=>t.ij sh dx S (AY ds (K zs)) (λ_ _=>False) st aP) [] []
theorem NC {sh:Nat->List Nat×List Nat} {dx:Nat->List Nat} {S:Nat->List (List Int)->List (List Int)->Prop} {K:List (List Int)->List (List Int)->Prop} {lens:List Nat} {bds:List (Int×Int)} {ds:List bN} {t:T}
 (h:gu sh dx S K lens bds ds t):m5 bds λzs=>t.holds (dn sh S) (qA λrs=>K (eW lens zs) (eW (sd ds) rs)) (λ_ _=>False) (bP (λ_=>0) 0 zs):=by
 refine qG λzs hi=>?_
 obtain⟨st,aP,h1,h2⟩:=sN h (show jn (λ_=>0) [] [] from⟨trivial,λ_=>rfl⟩) hi
 exact iD (λv ρ st aP ht hl=>Nl v ρ st aP ht hl) t _ _ _ st aP (λ_ _ hf=>hf.elim) h1 h2
end Go.bo
namespace Go.bo
open M
structure lG where
 c:cD
 pre:Nat
def lG.Ok (P:Program) (wb:World) (q:lG) (spec:List Int->List Int->Prop):Prop:=
 ∀zs,bI (dD q.c.args) zs->ad q.pre zs->∃rs,bI (dD q.c.res) rs/\spec zs rs/\∀w,wb.Extends w->sI P q.c.f (jj q.c.args zs).toArray w (gm q.c.res rs)
noncomputable def lG.M (q:lG):List ay->List V->M V:=λ_ vs n k=>
 match ld q.c.args vs with
 |some l=> .m7 q.pre l (.call q.c.id l n (dD q.c.res) (k (uF q.c.res n) (n+(dD q.c.res).length)))
 |none=> .stuck
noncomputable def dz (zV:List lG) (cons:List cD):ew:=λf=>
 match zV.filter (λq=>Nat.beq f q.c.f)with
 |[]=>yh cons f
 |l=>some λbl vs n k=>match l.find? (λq=>(ld q.c.args vs).isSome)with
  |some q=>q.M bl vs n k
  |none=>match yh cons f with
   |some g=>g bl vs n k
   |none=> .stuck
section
variable {S:Nat->List Int->List Int->Prop} {P:Program} {gl:dt} {w0:cQ}
theorem lG.snd {q:lG} {spec:List Int->List Int->Prop} (hc:q.Ok P w0.b spec) (e5:∀zs rs,spec zs rs->S q.c.id zs rs) (L:V->Env->Prop) (n:Nat) (ρ:Env) (m:Nat->Nat) (bl:List ay) (vs:List V) (xs:List Value)
 (eQ:∀v∈vs,V.ok n bl.length ρ v) (hr:dJ ρ m vs xs):ar S L (q.M bl vs) n ρ λag n' v=>v.ok n' bl.length ag/\∃val,v.rel ag m val/\∀w,Mem w0 ρ m bl w->sI P q.c.f xs.toArray w val:=by
 intro G k hk
 unfold lG.M at hk
 cases hl:ld q.c.args vs with
 |none=>simp[hl,T.holds]at hk
 |some l=>
  simp only[hl]at hk
  obtain⟨fR,hk⟩:=hk
  obtain⟨h1,h2⟩:=B6 hl eQ hr
  obtain⟨rs,r1,r2,eR⟩:=hc _ h1 fR
  have al:=BB hk r1 (e5 _ _ r2)
  have hlen:=iG r1
  have kj:=EJ (m:=m) (nb:=bl.length) (N:=n+(dD q.c.res).length) r1 (At.bP ρ n rs) (Nat.le_refl _)
  refine⟨_,_,_,Nat.le_add_right _ _,agree.bP rs n ρ,⟨kj.1,_,kj.2,λw hw=>?_⟩,al⟩
  rw[h2]at eR
  exact eR w hw.ext
theorem dH {zV:List lG} {cons:List cD} (hq:∀q∈zV,q.Ok P w0.b (S q.c.id)) (hc:∀c∈cons,c.o5 P w0.b (S c.id)):gB S P gl w0 (dz zV cons):=by
 intro f g mB L n ρ m bl vs xs h1 h2 h3 h4
 unfold dz at mB
 split at mB
 ·exact Hq (gl:=gl) hc f g mB L n ρ m bl vs xs h1 h2 h3 h4
 ·rename_i l hl
  simp only[Option.some.injEq]at mB
  subst mB
  intro G k hk
  simp only at hk
  split at hk
  ·rename_i q ng
   have cl:=List.mem_filter.1 (List.mem_of_find?_eq_some ng)
   have vZ:=Nat.eq_of_beq_eq_true cl.2
   subst vZ
   exact lG.snd (hq q cl.1) (λ_ _ h=>h) L n ρ m bl vs xs h3 h4 G k hk
  ·split at hk
   ·rename_i bA gL
    exact Hq (gl:=gl) hc f bA gL L n ρ m bl vs xs h1 h2 h3 h4 G k hk
   ·exact hk.elim
def idx (c:Int):List UInt8->Int
 |[]=>-1
 |b::r=>if(b.toNat:Int)=c then 0 else if idx c r<0 then-1 else idx c r+1
theorem rR (c:Int):∀l:List UInt8,-1<=idx c l/\idx c l<l.length
 |[]=>by simp[idx]
 |b::r=>by
  have:=rR c r
  simp only[idx,List.length_cons]
  split
  ·omega
  ·split<;>omega
theorem find_range (p:Nat->Bool):∀n:Nat,(List.range (n+1)).find? p=if p 0=true then some 0 else((List.range n).find? λi=>p (i+1)).map (·+1):=λn=>by
 rw[List.range_succ_eq_map,List.find?_cons]
 cases h:p 0 with
 |true=>simp
 |false=>
  simp only[Bool.false_eq_true,if_false]
  rw[List.find?_map];rfl
theorem J0 (c:Int):∀l:List UInt8,(match(List.range l.length).find? λi=>decide (((l.getD i 0).toNat:Int)=c)with|some i=>(i:Int)|none=>-1)=idx c l
 |[]=>rfl
 |b::r=>by
  have ih:=J0 c r
  rw[List.length_cons,find_range]
  simp only[List.getD_cons_zero,List.getD_cons_succ,decide_eq_true_eq,idx]
  by_cases h:(b.toNat:Int)=c
  ·simp[h]
  ·simp only[if_neg h]
   have hr:=rR c r
   cases hf:(List.range r.length).find? λi=>decide (((r.getD i 0).toNat:Int)=c)with
   |none=>rw[hf]at ih;simp only[Option.map_none]at ih⊢;rw[<-ih];simp
   |some i=>rw[hf]at ih;simp only[Option.map_some]at ih⊢;rw[<-ih,if_neg (by omega)];rfl
theorem find_congr {α:Type} {p q:α->Bool}:∀{l:List α},(∀x∈l,p x=q x)->l.find? p=l.find? q
 |[],_=>rfl
 |x::r,h=>by
  rw[List.find?_cons,List.find?_cons,h x (by simp),find_congr λy hy=>h y (List.mem_cons_of_mem _ hy)]
theorem Xi (l:List UInt8) (c:Int) (h0:0<=c) (h1:c<=255) (w:World):(Extern.BytealgIndexByte.indexByte #[.string (a7 l),.int .u8 c]).run P w= .ok (.int .i64 (idx c l)) w:=by
 have hsz:(a7 l).size=l.length:=k0 l
 have pE:∀i,i<l.length->(a7 l)[i]! =l.getD i 0:=λi hi=>by
  have:i<(a7 l).size:=by omega
  rw[getElem!_pos (a7 l) i this]
  simp only[List.getD,List.getElem?_eq_getElem hi,Option.getD_some]
  rfl
 have e:((List.range (a7 l).size).find? λi=>(a7 l)[i]! ==c.toNat.toUInt8)=(List.range l.length).find? λi=>decide (((l.getD i 0).toNat:Int)=c):=by
  rw[hsz]
  refine find_congr λi hi=>?_
  have hi:=List.mem_range.1 hi
  rw[pE i hi]
  have hc:c.toNat.toUInt8.toNat=c.toNat:=by simp;omega
  rw[Bool.eq_iff_iff]
  simp only[beq_iff_eq,decide_eq_true_eq]
  rw[<-UInt8.toNat_inj,hc]
  omega
 have hf:=J0 c l
 have hd:Extern.BytealgIndexByte.indexByte #[.string (a7 l),.int .u8 c]=(match(List.range (a7 l).size).find? (λi=>(a7 l)[i]! ==c.toNat.toUInt8)with
  |some i=>Pure.pure (goInt i)
  |none=>Pure.pure (goInt (-1)):Sem Value):=rfl
 rw[hd,e,<-hf]
 cases(List.range l.length).find? λi=>decide (((l.getD i 0).toNat:Int)=c)<;>rfl
theorem Sz {f:FuncId} {fn:Func} {id:Nat} {wb:World} (hf:P.funcs[f]?=some fn) (C4:(fn.name== "runtime.NumGoroutine")=false) (hb:fn.body.isNone=true) (hn:Extern.findNext fn=none) (he:Extern.find fn=some Extern.BytealgIndexByte.indexByte):
 (⟨f,id,[.str,.int .u8 0 255],[.int .i64 (-1) 9223372036854775807]⟩:cD).o5 P wb λzs rs=>rs=[idx (zs.getD 1 0) (ab (zs.getD 0 0))]:=by
 intro zs hz
 match zs,hz with
 |[s,c],hz=>
  obtain⟨s1,s2,c1,aU,_⟩:=hz
  have hr:=rR c (ab s)
  have hl:(ab s).length<=9223372036854775807:=by have:=qw s2;unfold fs at this;omega
  refine⟨[idx c (ab s)],(show bI [((-1:Int),9223372036854775807)] _ from⟨by omega,by omega,trivial⟩),rfl,λw _=> .inl ?_⟩
  rw[run_callFunc_extern hf C4 hb hn he]
  have:=Xi (P:=P) (ab s) c c1 aU w
  show((Extern.BytealgIndexByte.indexByte #[.string (a7 (ab s)),.int .u8 c]).run P w).andThen _=_
  rw[this];rfl
 |[],h=>exact h.elim
 |[_],h=>exact(h.2.2).elim
 |_::_::_::_,h=>exact(h.2.2.2.2).elim
def cmpL:List UInt8->List UInt8->Int
 |[],[]=>0
 |[],_::_=>-1
 |_::_,[]=>1
 |a::l,b::r=>if a=b then cmpL l r else if a<b then-1 else 1
theorem BI:∀l r:List UInt8,-1<=cmpL l r/\cmpL l r<=1
 |[],[]=>by decide
 |[],_::_=>by unfold cmpL;decide
 |_::_,[]=>by unfold cmpL;decide
 |a::l,b::r=>by
  have:=BI l r
  unfold cmpL
  split
  ·exact this
  ·split<;>decide
theorem Hx:∀l r:List UInt8,(cmpL l r=-1↔Op.bytesLess l r=true)/\(cmpL l r=0↔l=r)
 |[],[]=>by simp[cmpL,Op.bytesLess]
 |[],_::_=>by simp[cmpL,Op.bytesLess]
 |_::_,[]=>by simp[cmpL,Op.bytesLess]
 |a::l,b::r=>by
  have ih:=Hx l r
  unfold cmpL Op.bytesLess
  by_cases h:a=b
  ·subst h;simp[ih.1,ih.2]
  ·by_cases h2:a<b
   ·simp[h,h2]
   ·have:b<a:=by
     rcases Nat.lt_trichotomy a.toNat b.toNat with h3|h3|h3
     ·exact absurd (UInt8.lt_iff_toNat_lt.2 h3) h2
     ·exact absurd (UInt8.toNat_inj.1 h3) h
     ·exact UInt8.lt_iff_toNat_lt.2 h3
    simp[h,h2,this]
theorem Pg (p:Nat->Bool) (n:Nat):(List.range (n+1)).find? p=if p 0=true then some 0 else((List.range n).find? λi=>p (i+1)).map (·+1):=by
 rw[List.range_succ_eq_map,List.find?_cons]
 cases h:p 0 with
 |true=>simp
 |false=>simp[List.find?_map];rfl
theorem Hy:∀l r:List UInt8,(match(List.range (min l.length r.length)).find? λi=>l.getD i 0 != r.getD i 0 with
 |some i=>if l.getD i 0<r.getD i 0 then(-1:Int)else 1
 |none=>if l.length<r.length then-1 else if l.length>r.length then 1 else 0)=cmpL l r
 |[],[]=>by simp[cmpL]
 |[],_::_=>by simp[cmpL]
 |_::_,[]=>by simp[cmpL]
 |a::l,b::r=>by
  have ih:=Hy l r
  have e:min (a::l).length (b::r).length=min l.length r.length+1:=by simp only[List.length_cons];omega
  rw[e,Pg]
  unfold cmpL
  by_cases h:a=b
  ·subst h
   simp only[List.getD_cons_zero,bne_self_eq_false,Bool.false_eq_true,if_false,List.getD_cons_succ,if_true]
   rw[<-ih]
   cases(List.range (min l.length r.length)).find? λi=>l.getD i 0 != r.getD i 0 with
   |none=>simp
   |some i=>simp
  ·simp[h]
theorem Xg (l r:List UInt8) (w:World):(Extern.BytealgCompare.compare #[.string (a7 l),.string (a7 r)]).run P w= .ok (.int .i64 (cmpL l r)) w:=by
 have hg:∀(x:List UInt8) (i:Nat),i<x.length->(a7 x)[i]! =x.getD i 0:=λx i hi=>by
  have:i<(a7 x).size:=by rw[k0];exact hi
  rw[getElem!_pos (a7 x) i this]
  simp only[List.getD,List.getElem?_eq_getElem hi,Option.getD_some]
  rfl
 have e:Extern.BytealgCompare.cmp (a7 l) (a7 r)=cmpL l r:=by
  rw[<-Hy]
  unfold Extern.BytealgCompare.cmp
  rw[k0,k0]
  have hf:((List.range (min l.length r.length)).find? λi=>(a7 l)[i]! != (a7 r)[i]!)=(List.range (min l.length r.length)).find? λi=>l.getD i 0 != r.getD i 0:=find_congr λi hi=>by
   have hi:=List.mem_range.1 hi
   rw[hg l i (by omega),hg r i (by omega)]
  rw[hf]
  cases al:(List.range (min l.length r.length)).find? λi=>l.getD i 0 != r.getD i 0 with
  |none=>rfl
  |some i=>
   have hi:=List.mem_range.1 (List.mem_of_find?_eq_some al)
   simp only[hg l i (by omega),hg r i (by omega)]
 have hd:Extern.BytealgCompare.compare #[.string (a7 l),.string (a7 r)]=(Pure.pure (goInt (Extern.BytealgCompare.cmp (a7 l) (a7 r))):Sem Value):=rfl
 rw[hd,e];rfl
theorem Oz {f:FuncId} {fn:Func} {id:Nat} {wb:World} (hf:P.funcs[f]?=some fn) (C4:(fn.name== "runtime.NumGoroutine")=false) (hb:fn.body.isNone=true) (hn:Extern.findNext fn=none) (he:Extern.find fn=some Extern.BytealgCompare.compare):
 (⟨f,id,[.str,.str],[.int .i64 (-1) 1]⟩:cD).o5 P wb λzs rs=>rs=[cmpL (ab (zs.getD 0 0)) (ab (zs.getD 1 0))]:=by
 intro zs hz
 match zs,hz with
 |[s,c],hz=>
  have hr:=BI (ab s) (ab c)
  refine⟨[cmpL (ab s) (ab c)],(show bI [((-1:Int),1)] _ from⟨hr.1,hr.2,trivial⟩),rfl,λw _=> .inl ?_⟩
  rw[run_callFunc_extern hf C4 hb hn he]
  have:=Xg (P:=P) (ab s) (ab c) w
  show((Extern.BytealgCompare.compare #[.string (a7 (ab s)),.string (a7 (ab c))]).run P w).andThen _=_
  rw[this];rfl
 |[],h=>exact h.elim
 |[_],h=>exact(h.2.2).elim
 |_::_::_::_,h=>exact(h.2.2.2.2).elim
end
end Go.bo
namespace Go.bo
section
variable {S:Nat->List Int->List Int->Prop} {P:Program} {gl:dt} {wb:World}
def fw (args res:List D) (spec:List Int->List Int->Prop):Prop:=∀zs rs kq,bI (dD args) zs->bI (dD res) rs->bI (dD res) kq->spec zs rs->spec zs kq->gm res rs=gm res kq
theorem cD.UJ {c:cD} {bf:ew} {li:FuncId->Nat->Option c0} {rounds d:Nat} {spec:List Int->List Int->Prop} (hm:P.follows .mixedOrders=true) (cM:∀r ex ro,gB S P gl ⟨wb,r,ex,ro,[]⟩ bf) (hg:fv gl ⟨wb,wb,λ_=>False,λ_=>False,[]⟩)
 (hf:∀args w,(callFunc c.f args).run P w= .ok (.enter c.f args) w) (hu:fw c.args c.res spec)
 (ht:m5 (dD c.args) λzs=>(c.tree P gl bf li rounds d).holds S (qB c.res λrs=>bI (dD c.res) rs/\spec zs rs) (λ_ _=>False) (bP (λ_=>0) 0 zs)):c.Ok P wb spec:=by
 refine⟨hf,λzs hz=>?_⟩
 have h0:=cD.calls hm cM hg hz (nY ht hz) wb (World.Extends.refl wb)
 obtain⟨e,w',v,ag,m,val,h1,h2,h3,h4⟩:=Calls.some h0
 obtain⟨rs,⟨hb,hs⟩,hv⟩:=GM h3 h2
 refine⟨rs,hb,hs,λw hw=>?_⟩
 refine(cD.calls hm cM hg hz (nY ht hz) w hw).mono λe w' ⟨v,ag,m,val,h1,h2,h3,h4⟩=>?_
 obtain⟨kq,⟨hb',R0⟩,hv'⟩:=GM h3 h2
 rw[hu zs kq rs hz hb' hb R0 hs]at hv'
 exact⟨by rw[h1,hv'],h4⟩
end
theorem Fi {α:Type}:∀(ir:List Nat) (l:List α),(eW ir l).flatten=l
 |[],[]=>rfl
 |[],_::_=>by simp[eW]
 |k::ir,l=>by simp only[eW,List.flatten_cons,Fi ir,List.take_append_drop]
section
variable {P:Program} {gl:dt} {wb:World} {sh:Nat->List Nat×List Nat} {SB:Nat->List (List Int)->List (List Int)->Prop}
def bZ (SB:Nat->List (List Int)->List (List Int)->Prop) (res:List D) (id:Nat):List (List Int)->List (List Int)->Prop:=λzs rs=>bI (dD res) rs.flatten/\SB id zs rs
theorem Zq {dx:Nat->List Nat} {id:Nat} {lens:List Nat} {bds:List (Int×Int)} {ds:List D} {t:T} (hl:lens=(sh id).1) (hd:p6 ds=(sh id).2) (h:vf sh dx SB (bZ SB ds id) lens bds ds t):
 m5 bds λzs=>t.holds (dn sh SB) (qB ds λrs=>bI (dD ds) rs/\dn sh SB id zs rs) (λ_ _=>False) (bP (λ_=>0) 0 zs):=by
 refine qG λzs hz=>?_
 have h:=nY (NB h) hz
 simp only[bZ,Fi]at h
 rw[hl,hd]at h
 exact h
theorem Vx {c:cD} {bf:ew} {li:FuncId->Nat->Option c0} {rounds d:Nat} {dx:Nat->List Nat} {lens:List Nat} (hm:P.follows .mixedOrders=true) (cM:∀r ex ro,gB (dn sh SB) P gl ⟨wb,r,ex,ro,[]⟩ bf) (hg:fv gl ⟨wb,wb,λ_=>False,λ_=>False,[]⟩)
 (hf:ti P c.f=true) (hu:fw c.args c.res (dn sh SB c.id)) (hl:lens=(sh c.id).1) (hd:p6 c.res=(sh c.id).2)
 (hv:vf sh dx SB (bZ SB c.res c.id) lens (dD c.args) c.res (c.tree P gl bf li rounds d)):c.Ok P wb (dn sh SB c.id):=
 cD.UJ hm cM hg (enters hf) hu (Zq hl hd hv)
end
end Go.bo
namespace Go.bo
open Go.ChangeShapes Go.WideShapes Go.RowKit
variable {H:Type} {enc:TypeId×Value->H} {P:Program}
def uK (g:TypeId->Option (List az)) (cells:TypeId->Nat):List Field->Nat->Option (List az)
 |[],_=>some []
 |f::r,o=>match g f.type,uK g cells r (o+cells f.type)with
  |some l,some m=>cond (Nat.beq f.offset o&&Nat.beq (cells f.type) l.length) (some (l++m)) none
  |_,_=>none
def Fs (l:List az):Option (List az):=cond (hW l (fM 0)) (some [.sub 0]) (cond (hW l (fM 1)) (some [.sub 1]) none)
theorem X5 {l sh:List az} (h:Fs l=some sh):∃k,l=fM k/\sh=[.sub k]:=by
 unfold Fs at h
 cases h0:hW l (fM 0)with
 |true=>
  rw[h0]at h
  simp only[cond_true,Option.some.injEq]at h
  exact⟨0,mS h0,h.symm⟩
 |false=>
  cases h1:hW l (fM 1)with
  |true=>
   rw[h0,h1]at h
   simp only[cond_true,cond_false,Option.some.injEq]at h
   exact⟨1,mS h1,h.symm⟩
  |false=>rw[h0,h1]at h;cases h
def mT (P:Program):Nat->TypeId->Option (List az)
 |0,_=>none
 |d+1,t=>match P.underlying t with
  |some (.int k)=>some [.int k k.min k.max]
  |some .string=>some [.str]
  |some .bool=>some [.bool]
  |some (.struct cJ)=>uK (mT P d) P.cellsOf cJ.toList 0
  |some (.array n e)=>match mT P d e with
   |some l=>cond (Nat.beq (P.cellsOf e) l.length) (some (List.replicate n l).flatten) none
   |none=>none
  |some (.slice e)=>match mT P d e with
   |some l=>cond (Nat.beq (P.cellsOf e) l.length&&Nat.blt 0 (P.bytesOf e)) (Fs l) none
   |none=>none
  |_=>none
theorem bn.append:∀{a b:List az} {x y:List Int},bn a x->bn b y->bn (a++b) (x++y)/\cB (a++b) (x++y)=cB a x++cB b y
 |[],_,[],_,_,h=>⟨h,rfl⟩
 |_::_,_,_::_,_,h,h'=>by
  have:=bn.append h.2 h'
  exact⟨⟨h.1,this.1⟩,by simp only[List.cons_append,cB,this.2]⟩
 |[],_,_::_,_,h,_=>h.elim
 |_::_,_,[],_,h,_=>h.elim
theorem ES {F:Nat->Prop} {w:World}:∀{a b:List az} {x y:List Int} {u v:List Value},dB F w a x u->dB F w b y v->dB F w (a++b) (x++y) (u++v)
 |[],_,[],_,[],_,_,h=>h
 |_::_,_,_::_,_,_::_,_,h,h'=>⟨h.1,ES h.2 h'⟩
 |[],_,_::_,_,_,_,h,_=>h.elim
 |[],_,[],_,_::_,_,h,_=>h.elim
 |_::_,_,[],_,_,_,h,_=>h.elim
 |_::_,_,_::_,_,[],_,h,_=>h.elim
def xR (enc:TypeId×Value->H) (P:Program) (w:World) (t:TypeId) (sh:List az):Prop:=
 ∀(n:Nat) (cs:List Value) (x:DataW H×List MemPlace),DataW.trod enc P w 0 (λ_=>true) true n t cs=some x->cs.length=sh.length->(∀m∈x.1.weights P t,m<=reachBytes)->
  ∃zs,bn sh zs/\dB (λg=>g<w.heap.size) w sh zs cs
theorem La {n:Nat} {w:World} {g:TypeId->Option (List az)} (hg:∀t sh,g t=some sh->xR enc P w t sh) {cs:List Value}:∀(cJ:List Field) (o:Nat) (sh:List az) (xs:List (DataW H×List MemPlace)),uK g P.cellsOf cJ o=some sh->cs.length=o+sh.length->xs.length=cJ.length->
 (∀(j:Nat) (f:Field),cJ[j]?=some f->DataW.trod enc P w 0 (λ_=>true) true n f.type ((cs.drop f.offset).take (P.cellsOf f.type))=xs[j]?)->
 (∀m∈DataW.weightsEach P (cJ.map (·.type)) (xs.map (·.1)),m<=reachBytes)->
 ∃zs,bn sh zs/\dB (λg=>g<w.heap.size) w sh zs (cs.drop o)
 |[],o,sh,xs,h,hl,hx,_,_=>by
  simp only[uK,Option.some.injEq]at h
  subst h
  have:xs=[]:=List.length_eq_zero_iff.1 (by simpa using hx)
  subst this
  exact⟨[],trivial,by rw[List.drop_of_length_le (by simp at hl;omega)];trivial⟩
 |f::cJ,o,sh,[],_,_,hx,_,_=>by simp at hx
 |f::cJ,o,sh,x::xs,h,hl,hx,hf,hw=>by
  unfold uK at h
  cases h1:g f.type with
  |none=>simp[h1]at h
  |some l=>
   cases h2:uK g P.cellsOf cJ (o+P.cellsOf f.type)with
   |none=>simp[h1,h2]at h
   |some m=>
    simp only[h1,h2]at h
    cases hc:(Nat.beq f.offset o&&Nat.beq (P.cellsOf f.type) l.length)with
    |false=>simp[hc]at h
    |true=>
     simp only[hc,cond_true,Option.some.injEq]at h
     subst h
     simp only[Bool.and_eq_true]at hc
     have e1:=Nat.eq_of_beq_eq_true hc.1
     have e2:=Nat.eq_of_beq_eq_true hc.2
     have h0:=hf 0 f rfl
     simp only[List.getElem?_cons_zero]at h0
     simp only[List.map_cons,DataW.weightsEach,List.mem_append]at hw
     simp only[List.length_append]at hl
     obtain⟨zs,a1,a2⟩:=hg f.type l h1 n ((cs.drop f.offset).take (P.cellsOf f.type)) x h0 (by rw[List.length_take,List.length_drop,e1,e2];omega) λm' hm=>hw m' (.inl hm)
     obtain⟨et,b1,b2⟩:=La (cs:=cs) hg cJ (o+P.cellsOf f.type) m xs h2 (by omega) (by simpa using hx) (λj lN hj=>by simpa using hf (j+1) lN (by simpa using hj)) λm' hm=>hw m' (.inr hm)
     have iW:=bn.append a1 b1
     refine⟨zs++et,iW.1,?_⟩
     have:=ES a2 b2
     rwa [e1,<-List.drop_drop,List.take_append_drop]at this
theorem K9 {n:Nat} {w:World} {e:TypeId} {l:List az} (hg:xR enc P w e l) (hc:P.cellsOf e=l.length) {cs:List Value}:∀(k i:Nat) (xs:List (DataW H×List MemPlace)),cs.length=(i+k)*l.length->xs.length=k->
 (∀j,j<k->DataW.trod enc P w 0 (λ_=>true) true n e ((cs.drop ((i+j)*P.cellsOf e)).take (P.cellsOf e))=xs[j]?)->
 (∀m∈DataW.weightsAll P e (xs.map (·.1)),m<=reachBytes)->
 ∃zs,bn (List.replicate k l).flatten zs/\dB (λg=>g<w.heap.size) w (List.replicate k l).flatten zs (cs.drop (i*l.length))
 |0,i,xs,hl,hx,_,_=>by
  have:xs=[]:=List.length_eq_zero_iff.1 hx
  subst this
  exact⟨[],trivial,by rw[List.drop_of_length_le (by rw[hl];exact Nat.le_refl _)];trivial⟩
 |k+1,i,[],_,hx,_,_=>by simp at hx
 |k+1,i,x::xs,hl,hx,hf,hw=>by
  have h0:=hf 0 (Nat.succ_pos k)
  simp only[List.getElem?_cons_zero,Nat.add_zero]at h0
  simp only[List.map_cons,DataW.weightsAll,List.mem_append]at hw
  have hl2:cs.length=i*l.length+(l.length+k*l.length):=by rw[hl,Nat.add_mul,Nat.succ_mul];omega
  obtain⟨zs,a1,a2⟩:=hg n _ x h0 (by rw[List.length_take,List.length_drop,hc];omega) λm' hm=>hw m' (.inl hm)
  obtain⟨et,b1,b2⟩:=K9 hg hc k (i+1) xs (by rw[hl];congr 1;omega) (by simpa using hx) (λj hj=>by
   have:=hf (j+1) (by omega)
   rw[show i+(j+1)=i+1+j by omega]at this
   simpa using this) λm' hm=>hw m' (.inr hm)
  have iW:=bn.append a1 b1
  refine⟨zs++et,by rw[List.replicate_succ,List.flatten_cons];exact iW.1,?_⟩
  have:=ES a2 b2
  rw[hc,Nat.succ_mul,<-List.drop_drop,List.take_append_drop]at this
  rw[List.replicate_succ,List.flatten_cons];exact this
theorem Hu {base:Nat} {w:World} {a:Addr} {n:Nat} {cs:List Value} (h:w.cells? base a n=some cs):cs.length=n/\∀j,j<n->w.cell? (a.add j)=cs[j]?:=by
 unfold World.cells? at h
 split at h
 ·have hl:=List.Kv h
  refine⟨by simpa using hl,λj hj=>?_⟩
  have:=List.Iy h j j (by simp[hj])
  exact this
 ·cases h
where
 List.Kv {α β:Type} {f:α->Option β}:∀{l:List α} {r:List β},l.mapM f=some r->r.length=l.length
  |[],r,h=>by simp at h;subst h;rfl
  |x::l,r,h=>by
   rw[List.mapM_cons]at h
   cases hx:f x with
   |none=>simp[hx]at h
   |some y=>
    cases hl:l.mapM f with
    |none=>simp[hx,hl]at h
    |some s=>
     simp[hx,hl]at h
     subst h
     simp[List.Kv hl]
 List.Iy {α β:Type} {f:α->Option β}:∀{l:List α} {r:List β},l.mapM f=some r->∀(j:Nat) (x:α),l[j]?=some x->f x=r[j]?
  |[],r,h,j,x,hx=>by simp at hx
  |y::l,r,h,j,x,hx=>by
   rw[List.mapM_cons]at h
   cases hy:f y with
   |none=>simp[hy]at h
   |some z=>
    cases hl:l.mapM f with
    |none=>simp[hy,hl]at h
    |some s=>
     simp[hy,hl]at h
     subst h
     cases j with
     |zero=>simp at hx;subst hx;simp[hy]
     |succ j=>simpa using List.Iy hl j x (by simpa using hx)
theorem LX {F:Nat->Prop} {w:World} {cells:Array Value} {sh:List az}:∀(len o:Nat),o<=cells.size->(∀i,i<len->∃zs vs,bn sh zs/\dB F w sh zs vs/\∀j,j<sh.length->cells[o+i*sh.length+j]?=vs[j]?)->(0<len->0<sh.length)->
 ∃rows:List (List Int),rows.length=len/\ga F w cells o sh rows
 |0,o,ho,_,_=>⟨[],rfl,λ_ h=>by simp at h,cells.toList.take o,[],cells.toList.drop o,by simp,by simp;omega,rfl⟩
 |len+1,o,ho,h,hp=>by
  obtain⟨zs,us,a1,a0,a2⟩:=h 0 (Nat.succ_pos _)
  have hp:=hp (Nat.succ_pos _)
  have hv:=a0.len
  have Rq:=a2 (sh.length-1) (by omega)
  have hsz:o+sh.length<=cells.size:=by
   have:us[sh.length-1]?≠none:=by rw[List.getElem?_eq_getElem (by omega)];simp
   rw[<-Rq]at this
   have:=Array.Ps.1 this
   omega
  obtain⟨rows,b1,b2,pre,vs,post,b3,b4,qL⟩:=LX len (o+sh.length) hsz (λi hi=>by
   obtain⟨et,vs,c1,bY,aU⟩:=h (i+1) (by omega)
   refine⟨et,vs,c1,bY,λj hj=>?_⟩
   rw[<-aU j hj]
   congr 1
   rw[Nat.succ_mul];omega) λ_=>hp
  refine⟨zs::rows,by simp[b1],λrow hr=>?_,cells.toList.take o,us++vs,post,?_,by simp;omega,us,vs,rfl,a0,qL⟩
  ·rcases List.mem_cons.1 hr with rfl|hr
   ·exact a1
   ·exact b2 row hr
  ·have e1:pre=cells.toList.take (o+sh.length):=by
    rw[b3,List.append_assoc,List.take_left' b4]
   have e2:pre=cells.toList.take o++us:=by
    rw[e1,List.take_add]
    congr 1
    refine List.ext_getElem? λj=>?_
    by_cases hj:j<sh.length
    ·have:=a2 j hj
     rw[List.getElem?_take,if_pos hj,List.getElem?_drop,<-this]
     simp
    ·rw[List.getElem?_eq_none (by simp;omega),List.getElem?_eq_none (by omega)]
   rw[<-List.append_assoc,<-e2];exact b3
where
 Array.Ps {α:Type} {a:Array α} {i:Nat}:a[i]?≠none↔i<a.size:=by simp
theorem KJ {e:TypeId}:∀{l:List (DataW H×List MemPlace)} {i:Nat} {y:DataW H×List MemPlace} {m:Nat},l[i]?=some y->m∈y.1.weights P e->m∈DataW.weightsAll P e (l.map (·.1))
 |x::l,0,y,m,h,hm=>by
  simp only[List.getElem?_cons_zero,Option.some.injEq]at h
  subst h
  simp only[List.map_cons,DataW.weightsAll,List.mem_append]
  exact .inl hm
 |x::l,i+1,y,m,h,hm=>by
  simp only[List.map_cons,DataW.weightsAll,List.mem_append]
  exact .inr (KJ (by simpa using h) hm)
 |[],_,_,_,h,_=>by simp at h
theorem Lb {w:World} {t e:TypeId} {sh:List az} (ho:xR enc P w e sh) (ht:P.underlying t=some (.slice e)) (hc:P.cellsOf e=sh.length) (hp:0<sh.length) {n:Nat} {cs:List Value} {x:DataW H×List MemPlace} (h:DataW.trod enc P w 0 (λ_=>true) true n t cs=some x) (hw:∀m∈x.1.weights P t,m<=reachBytes):
 ∃(v:Value) (rows:List (List Int)),cs=[v]/\(∀row∈rows,bn sh row)/\(rows.length<=maxLen/\(0<P.bytesOf e->rows.length<=140737488351232))/\(((∃p,v= .slice p 0 0)/\rows=[])∨∃(g o cap:Nat) (cells:Array Value) (t:TypeId) (fz:Nat×Nat),v= .slice (some ⟨g,o,none⟩) rows.length cap/\(rows.length<=cap/\(cap:Int)<=9223372036854775807)/\g<w.heap.size/\w.heap[g]?=some (.cells cells t fz)/\ga (λg=>g<w.heap.size) w cells o sh rows):=by
 rcases DataW.trod_slice ht h with⟨rfl,_⟩|⟨xW,len,cap,elems,rest,n,rfl,rfl,hx,_,Rr,ln,y0,Ji,lU,_⟩
 ·exact⟨_,[],rfl,λ_ h=>by simp at h,⟨Nat.zero_le _,λ_=>Nat.zero_le _⟩,.inl ⟨⟨_,rfl⟩,rfl⟩⟩
 ·rcases Nat.eq_zero_or_pos cap with h0|h0
  ·subst h0
   have:len=0:=by omega
   subst this
   exact⟨_,[],rfl,λ_ h=>by simp at h,⟨Nat.zero_le _,λ_=>Nat.zero_le _⟩,.inl ⟨⟨_,rfl⟩,rfl⟩⟩
  ·have lU:=(lU rfl).2
   have CM:∃cs,w.cells? 0 (xW.add 0) (P.cellsOf e)=some cs:=by
    rcases Nat.eq_zero_or_pos len with hl|hl
    ·have h1:=(DataW.trod_slice ht h)
     have h2:=lU 0 (by omega)
     cases hy:rest[0]? with
     |none=>
      exfalso
      rcases h1 with⟨h1,_⟩|⟨ZR,iH,cV,ZX,aaI,n',_,h3,h4,_,_,_,h5,_,h6,_⟩
      ·simp at h1
      ·simp only[List.cons.injEq,Value.slice.injEq,Option.some.injEq,and_true]at h3
       rw[hx]at h4
       simp only[Prod.mk.injEq,DataW.slice.injEq]at h4
       have h7:=congrArg List.length h4.1.2
       simp only[List.length_map]at h7
       have bC:=(h6 rfl).1
       rw[List.getElem?_eq_none_iff]at hy
       omega
     |some y=>
      rw[hy,Option.bind_eq_some_iff,hl]at h2
      obtain⟨cs,g1,_⟩:=h2
      exact⟨cs,by simpa using g1⟩
    ·have h2:=Ji 0 hl
     cases hy:elems[0]? with
     |none=>rw[List.getElem?_eq_none_iff]at hy;omega
     |some y=>
      rw[hy,Option.bind_eq_some_iff]at h2
      obtain⟨cs,g1,_⟩:=h2
      exact⟨cs,by simpa using g1⟩
   obtain⟨OJ,CM⟩:=CM
   obtain⟨l1,l2⟩:=Hu CM
   have hc0:=l2 0 (by omega)
   have hc1:OJ[0]?≠none:=by rw[List.getElem?_eq_getElem (by omega)];simp
   rw[<-hc0]at hc1
   have Qp:(xW.add 0).add 0=xW:=by simp[Addr.add]
   rw[Qp]at hc1
   obtain⟨g,o,sp⟩:=xW
   unfold World.cell? at hc1
   split at hc1
   ·rename_i cells tt fz nj
    simp only at nj
    cases JN:sp with
    |some k=>rw[JN]at hc1;exact absurd rfl hc1
    |none=>
    subst JN
    simp only[Option.isSome_none,Bool.false_eq_true,if_false]at hc1
    have jb:o<cells.size:=by
     rcases Nat.lt_or_ge o cells.size with h|h
     ·exact h
     ·exact absurd (Array.getElem?_eq_none h) hc1
    rw[hx]at hw
    simp only[DataW.weights,ht,List.mem_cons,List.mem_append]at hw
    obtain⟨rows,r1,r2⟩:=LX (F:=λg=>g<w.heap.size) (w:=w) (cells:=cells) (sh:=sh) len o (by omega) (λi hi=>by
     have:=Ji i hi
     cases hy:elems[i]? with
     |none=>rw[List.getElem?_eq_none_iff]at hy;omega
     |some y=>
      rw[hy,Option.bind_eq_some_iff]at this
      obtain⟨cs,g1,g2⟩:=this
      obtain⟨l1,l2⟩:=Hu g1
      obtain⟨zs,af,z2⟩:=ho n cs y g2 (by rw[l1,hc]) λm hm=>by
       refine hw m (.inr (.inl ?_))
       exact KJ hy hm
      refine⟨zs,cs,af,z2,λj hj=>?_⟩
      have:=l2 j (by rw[hc];exact hj)
      rw[eZ,eZ]at this
      simp only[World.cell?,nj,Option.isSome_none,Bool.false_eq_true,if_false]at this
      rw[<-this,hc]) λ_=>hp
    have bW:(cap:Int)<=9223372036854775807:=by unfold maxLen at ln;omega
    have Dq:(elems.length+rest.length)*P.bytesOf e<=reachBytes:=hw _ (.inl (by simp))
    refine⟨_,rows,rfl,r2.1,⟨by omega,λhb=>?_⟩,.inr ⟨g,o,cap,cells,tt,fz,by rw[r1],by rw[r1];exact⟨Rr,bW⟩,(Array.getElem?_eq_some_iff.1 nj).1,nj,r2⟩⟩
    have bC:(elems.length+rest.length)*1<=(elems.length+rest.length)*P.bytesOf e:=Nat.mul_le_mul_left _ hb
    unfold reachBytes at Dq
    omega
   ·exact absurd rfl hc1
theorem zL {w:World}:∀(d:Nat) (t:TypeId) (sh:List az),mT P d t=some sh->xR enc P w t sh
 |0,t,sh,h=>by simp[mT]at h
 |d+1,t,sh,h=>by
  have ih:=zL (w:=w) d
  intro n cs x hx hl hw
  unfold mT at h
  split at h
  ·rename_i k hu
   simp only[Option.some.injEq]at h
   subst h
   obtain⟨z,rfl,rfl,Dp⟩:=DataW.trod_int hu hx
   have:=MQ.1 Dp
   exact⟨[z],⟨this,trivial⟩,rfl,trivial⟩
  ·rename_i hu
   simp only[Option.some.injEq]at h
   subst h
   obtain⟨s,rfl,rfl,hs⟩:=DataW.trod_string hu hx
   have hb:s.data.toList.length<=fs:=hw _ (by simp[DataW.weights])
   refine⟨[eG s.data.toList],⟨⟨lK _,kW hb⟩,trivial⟩,?_,trivial⟩
   show _=az.val .str _
   simp[az.val,gR,a7]
  ·rename_i hu
   simp only[Option.some.injEq]at h
   subst h
   obtain⟨b,rfl,rfl⟩:=DataW.trod_bool hu hx
   refine⟨[cond b 1 0],⟨?_,trivial⟩,?_,trivial⟩
   ·cases b<;>simp[az.c2]
   ·show _=az.val .bool _
    cases b<;>simp[az.val]
  ·rename_i cJ hu
   obtain⟨xs,m,rfl,rfl,hlen,hn,y0⟩:=DataW.trod_struct hu hx
   simp only[DataW.weights,hu]at hw
   obtain⟨zs,a1,a2⟩:=La (n:=m) ih cJ.toList 0 sh xs h (by omega) (by rw[hn];simp) (λj f hj=>y0 j f (by simpa using hj)) hw
   exact⟨zs,a1,by simpa using a2⟩
  ·rename_i k e hu
   cases h1:mT P d e with
   |none=>simp[h1]at h
   |some l=>
    simp only[h1]at h
    cases hc:Nat.beq (P.cellsOf e) l.length with
    |false=>simp[hc]at h
    |true=>
     simp only[hc,cond_true,Option.some.injEq]at h
     subst h
     have hc:=Nat.eq_of_beq_eq_true hc
     obtain⟨xs,m,rfl,rfl,hlen,hn,y0⟩:=DataW.trod_array hu hx
     simp only[DataW.weights,hu]at hw
     have fp:(List.replicate k l).flatten.length=k*l.length:=by simp
     obtain⟨zs,a1,a2⟩:=K9 (n:=m) (ih e l h1) hc k 0 xs (by rw[hl,fp];simp) hn (λj hj=>by
      have:=y0 j hj
      simpa using this) hw
     exact⟨zs,a1,by simpa using a2⟩
  ·rename_i e hu
   cases h1:mT P d e with
   |none=>simp[h1]at h
   |some l=>
    simp only[h1]at h
    cases hc:(Nat.beq (P.cellsOf e) l.length&&Nat.blt 0 (P.bytesOf e))with
    |false=>rw[hc]at h;cases h
    |true=>
     rw[hc]at h
     simp only[cond_true]at h
     simp only[Bool.and_eq_true,Nat.blt_eq]at hc
     obtain⟨k,rfl,rfl⟩:=X5 h
     obtain⟨v,rows,rfl,r1,⟨r2,WK⟩,eR⟩:=Lb (ih e _ h1) hu (Nat.eq_of_beq_eq_true hc.1) (by cases k<;>exact Nat.one_pos) hx hw
     have JH:(rows.length:Int)<=9223372036854775807:=by unfold maxLen at r2;omega
     refine⟨[rc rows],⟨⟨dj _,A3 JH r1⟩,trivial⟩,?_,trivial⟩
     show j4 _ _ _ (ae (rc rows)) v
     rw[dO]
     rcases eR with eR|⟨g,o,cap,cells,t,fz,q1,q2,q3,q4,q5⟩
     ·exact .inl eR
     ·exact .inr ⟨g,o,cap,cells,t,fz,q1,⟨q2.1,q2.2,WK hc.2⟩,q3,q4,(jm (Ft k)).1 q5⟩
  ·cases h
def xJ (P:Program) (t:TypeId):bN->Prop
 | .d (.int k lo hi)=>P.underlying t=some (.int k)/\lo=k.min/\hi=k.max
 | .d .bool=>P.underlying t=some .bool
 | .d .str=>P.underlying t=some .string
 | .d (.agg k n lo hi)=>∃e,P.underlying t=some (.array n e)/\mT P 8 t=some (List.replicate n (.int k lo hi))/\P.cellsOf t=n
 | .d (.mix l)=>((∃cJ,P.underlying t=some (.struct cJ))∨∃n e,P.underlying t=some (.array n e))/\mT P 8 t=some l/\P.cellsOf t=l.length/\fK l=true
 | .d (.jh _)=>False
 | .d (.mK ..)=>False
 | .rd sh=>∃e,P.underlying t=some (.slice e)/\mT P 8 e=some sh/\P.cellsOf e=sh.length/\gx sh=true
 | .iK _ _=>False
theorem bn.bI:∀{sh:List az} {zs:List Int},bn sh zs->bI (sh.map az.c2) zs
 |[],[],_=>trivial
 |_::_,_::_,h=>⟨h.1.1,h.1.2,bn.bI h.2⟩
 |[],_::_,h=>h.elim
 |_::_,[],h=>h.elim
theorem LS:∀(sh:List az) (zs:List Int),cB sh zs=List.zipWith az.val sh zs
 |[],_=>by simp[cB]
 |_::_,[]=>by simp[cB]
 |c::sh,z::zs=>by simp only[cB,List.zipWith_cons_cons,LS sh zs]
theorem LR (k:IntKind) (lo hi:Int):∀(n:Nat) (zs:List Int),zs.length=n->cB (List.replicate n (.int k lo hi)) zs=zs.map (Value.int k)
 |0,[],_=>rfl
 |n+1,z::zs,h=>by
  rw[List.replicate_succ]
  simp only[cB,List.map_cons,LR k lo hi n zs (by simpa using h)]
  rfl
 |0,_::_,h=>by simp at h
 |n+1,[],h=>by simp at h
theorem KH (k:IntKind) (lo hi:Int):∀n:Nat,(List.replicate n (az.int k lo hi)).map az.c2=oT lo hi n
 |0=>rfl
 |n+1=>by rw[List.replicate_succ,List.map_cons,KH k lo hi n];rfl
theorem VF {b0:Nat} {w:World} {t:TypeId} {b:bN} {v:Value} {x:DataW H} {jC:List MemPlace} (ht:xJ P t b) (hval:Value.okWide P w .any b0 t v) (hd:DataW.Trod enc P w 0 (λ_=>true) true t v x jC) (hw:∀m∈x.weights P t,m<=reachBytes):
 ∃zs,bI b.bds zs/\zs.length=b.num/\b.at (λg=>g<w.heap.size) (λ_=>False) w zs v:=by
 obtain⟨fuel,hf⟩:=hd
 have agg:((∃cJ,P.underlying t=some (.struct cJ))∨∃n e,P.underlying t=some (.array n e))->∃cs,v= .agg cs/\cs.size=P.cellsOf t:=λh=>by
  unfold Value.okWide at hval
  rcases h with⟨cJ,h⟩|⟨n,e,h⟩
  ·rw[h]at hval;obtain⟨cs,a,b,_⟩:=hval;exact⟨cs,a,b⟩
  ·rw[h]at hval;obtain⟨cs,a,b,_⟩:=hval;exact⟨cs,a,b⟩
 cases b with
 |iK _ _=>exact ht.elim
 |d y=>
  cases y with
  |jh l=>exact ht.elim
  |mK k c=>exact ht.elim
  |int k lo hi=>
   obtain⟨h1,rfl,rfl⟩:=ht
   obtain⟨n,rfl⟩:=okWide_int h1 hval
   obtain⟨n',h,hx,Dp⟩:=DataW.trod_int h1 hf
   simp[Value.cells]at h
   subst h
   have:=MQ.1 Dp
   exact⟨[n],⟨this.1,this.2,trivial⟩,rfl,rfl⟩
  |bool=>
   obtain⟨c,rfl⟩:=okWide_bool ht hval
   refine⟨[cond c 1 0],?_,rfl,?_⟩
   ·cases c<;>simp[bN.bds,D.bds,bI]
   ·cases c<;>simp[bN.at,D.val]
  |str=>
   obtain⟨s,rfl⟩:=okWide_string ht hval
   obtain⟨Xo,h,hx,hs⟩:=DataW.trod_string ht hf
   simp[Value.cells]at h
   subst h
   simp only[Prod.mk.injEq]at hx
   have hb:s.data.toList.length<=fs:=hw _ (by rw[hx.1];simp[DataW.weights])
   exact⟨[eG s.data.toList],⟨lK _,kW hb,trivial⟩,rfl,by simp[bN.at,D.val,gR,a7]⟩
  |agg k n lo hi=>
   obtain⟨e,h1,h2,h3⟩:=ht
   obtain⟨cs,rfl,hsz⟩:=agg (.inr ⟨n,e,h1⟩)
   obtain⟨zs,a1,a2⟩:=zL 8 t _ h2 fuel _ _ hf (by show cs.toList.length=_;simp[hsz,h3]) hw
   have a2:=(xp (by simp[fK,az.plain]) a1).1 a2
   have hl:zs.length=n:=by have:=a1.len;simpa using this
   have hcs:cs=(cB (List.replicate n (.int k lo hi)) zs).toArray:=by rw[<-a2];simp[Value.cells]
   refine⟨zs,?_,hl,?_⟩
   ·have:=a1.bI;rw[KH]at this;exact this
   ·show Value.agg cs=_
    rw[hcs,LR k lo hi n zs hl]
    simp only[D.val,<-hl,List.take_length]
  |mix l=>
   obtain⟨h1,h2,h3,h4⟩:=ht
   obtain⟨cs,rfl,hsz⟩:=agg h1
   obtain⟨zs,a1,a2⟩:=zL 8 t _ h2 fuel _ _ hf (by show cs.toList.length=_;simp[hsz,h3]) hw
   have a2:=(xp h4 a1).1 a2
   have hl:zs.length=l.length:=a1.len
   have hcs:cs=(cB l zs).toArray:=by rw[<-a2];simp[Value.cells]
   refine⟨zs,a1.bI,hl,?_⟩
   show Value.agg cs=_
   rw[hcs,LS];rfl
 |rd sh=>
  obtain⟨e,h1,h2,h3,rL⟩:=ht
  have h4:0<sh.length:=by
   unfold gx at rL
   simp only[Bool.and_eq_true,Nat.blt_eq]at rL
   exact rL.1.2
  obtain⟨u,rows,hu,r1,⟨r2,_⟩,eR⟩:=Lb (zL 8 e sh h2) h1 h3 h4 hf hw
  obtain⟨a,len,cap,rfl⟩:=okWide_slice h1 hval
  have hu:u= .slice a len cap:=by simpa [Value.cells]using hu.symm
  subst hu
  refine⟨[rc rows],⟨dj _,j3 r2 λr hr=>(r1 r hr).row rL,trivial⟩,rfl,?_⟩
  show eY _ _ _ (ae (rc rows)) _
  rw[dO]
  exact eR
def AO (P:Program):List TypeId->List bN->Prop
 |[],[]=>True
 |t::ts,b::bs=>xJ P t b/\AO P ts bs
 |_,_=>False
theorem bN.N4 {F N:Nat->Prop} {w:World} (b:bN) {zs l:List Int} {v:Value} (h:zs.length=b.num) (ha:b.at F N w zs v):b.at F N w (zs++l) v:=by
 cases b with
 |d x=>
  show v=x.val (zs++l)
  rw[D.MN x (l:=l) h];exact ha
 |rd sh=>match zs,h with|[z],_=>exact ha
 |iK sh e=>match zs,h with|[z],_=>exact ha
theorem K8 {b0:Nat} {w:World}:∀{ts:List TypeId} {bs:List bN} {vs:List Value} {xs:List (DataW H)} {jC:List MemPlace},AO P ts bs->(∀(j:Nat) t v,ts[j]?=some t->vs[j]?=some v->Value.okWide P w .any b0 t v)->DataW.TrodAll enc P w 0 (λ_=>true) true ts vs xs jC->
 (∀m∈DataW.weightsEach P ts xs,m<=reachBytes)->∃zs,bI (cK bs) zs/\gD (λg=>g<w.heap.size) (λ_=>False) w bs zs vs/\xs.length=bs.length
 |[],[],[],[],jC,_,_,h,_=>⟨[],trivial,trivial,rfl⟩
 |[],[],_::_,_,_,_,_,h,_=>h.elim
 |[],[],[],_::_,_,_,_,h,_=>h.elim
 |[],_::_,_,_,_,h,_,_,_=>h.elim
 |_::_,[],_,_,_,h,_,_,_=>h.elim
 |_::_,_::_,[],_,_,_,_,h,_=>by cases h
 |_::_,_::_,_::_,[],_,_,_,h,_=>by cases h
 |t::ts,b::bs,v::vs,x::xs,jC,ht,hv,h,hw=>by
  obtain⟨p,q,h1,h2,rfl⟩:=h
  simp only[DataW.weightsEach,List.mem_append]at hw
  obtain⟨zs,a1,a2,a3⟩:=VF ht.1 (hv 0 t v rfl rfl) h1 λm hm=>hw m (.inl hm)
  obtain⟨et,b1,b2,b3⟩:=K8 ht.2 (λj t v h1 h2=>hv (j+1) t v (by simpa using h1) (by simpa using h2)) h2 λm hm=>hw m (.inr hm)
  refine⟨zs++et,J5 a1 b1,⟨bN.N4 b a2 a3,?_⟩,by simp[b3]⟩
  rw[<-a2,List.drop_left];exact b2
theorem Mz (hl:laidOutB P=true) {W kx:World} (hb:Below W.heap.size W kx):∀{ts:List TypeId} {vs:List Value} {xs:List (DataW H)} {jC:List MemPlace},(∀t∈ts,P.readableRec t=true/\t<P.types.size)->DataW.TrodAll enc P W 0 (λ_=>true) true ts vs xs jC->(∀x∈jC,x.block<W.heap.size)->
 DataW.TrodAll enc P kx 0 (λb=>decide (b<W.heap.size)) true ts vs xs jC
 |[],[],[],_,_,h,_=>h
 |[],_::_,_,_,_,h,_=>h.elim
 |[],[],_::_,_,_,h,_=>h.elim
 |_::_,[],_,_,_,h,_=>by cases h
 |_::_,_::_,[],_,_,h,_=>by cases h
 |t::ts,v::vs,x::xs,jC,hr,h,hlt=>by
  obtain⟨p,q,h1,h2,rfl⟩:=h
  exact⟨p,q,Below.trod hl (hr t (by simp)).1 (hr t (by simp)).2 h1 hb λx hx=>hlt x (List.mem_append.2 (.inl hx)),Mz hl hb (λt ht=>hr t (List.mem_cons_of_mem _ ht)) h2 λx hx=>hlt x (List.mem_append.2 (.inr hx)),rfl⟩
theorem Oq {C:Checked} {os:Os} {f:FuncId} {fn:Func} {s:ChangeSpec} {apart:Bool} {X:World->Array Value->Prop}
 (bt:∀(w w':World) (args:Array Value),w.heap=w'.heap->X w args->X w' args)
 (own:ownKnob C.prog.godebug=none) (started:os.Started) (Ek:C.prog.inits.idxOf? f=none) (rv:C.prog.funcs[f]?=some fn)
 (witness:∃(w:World) (tape:Tape) (i:Input),w.os=os/\(w.forCall tape i).Shaped C.prog/\i.vars=[]/\Input.okWide C.prog (w.forCall tape i) .any w.heap.size f i/\
   ((s.pre enc C.prog fn [] apart (w.forCall tape i).memory i.args/\X (w.forCall tape i).memory i.args)/\sizedMet enc C.prog fn (OpenSpec.ofChange s) apart (w.forCall tape i).memory i.args)/\({}:Assume).holds C.prog (lone (Frame.enter C.prog f i.args .normal) [] (w.forCall tape i)))
 (contract:∀(W:World) (base:Nat) (args:Array Value) (ds gs:List (DataW H)) (before:List MemPlace),
   (∀(j:Nat) t v,fn.params[j]?=some t->args[j]?=some v->Value.okWide C.prog W .any base t v)->
   DataW.Whole enc C.prog fn.params.toList s.vars apart W args.toList ds gs before->(DataW.weightsEach C.prog (fn.params.toList++s.plain.varTypes C.prog) (ds++gs)).all (·<=reachBytes)=true->X W args->W.ShapedOpen C.prog->
   Calls C.prog f args W λe kx=>∃v,e= .returned v/\s.post enc C.prog fn apart true false false W args v kx):
 ReturnsInHanded {} C os f .any (λw args=>(s.pre enc C.prog fn [] apart w args/\X w args)/\sizedMet enc C.prog fn (OpenSpec.ofChange s) apart w args) (s.post enc C.prog fn apart true false false):=by
 refine returnsInHanded_of_calls own started Ek witness ?_
 intro w tape i _ fV _ bb fU aag
 obtain⟨_,_,_,Pq,v7,_,_,_,_,hval⟩:=bb
 have e:Pq=fn:=Option.some.inj (v7.symm.trans rv)
 subst e
 obtain⟨⟨⟨ds,gs,before,hw,hc⟩,hx⟩,hz⟩:=fU
 have mI:=DataW.Whole.of_heap (w':=w.forCall tape i) (by rfl) hw
 refine(contract (w.forCall tape i) w.heap.size i.args ds gs before hval mI (hz.weights hw) (bt _ _ _ (by rfl) hx) fV).mono λe kx ⟨v,he,hp⟩=>?_
 subst he
 exact ChangeSpec.post_blind hp
theorem Td {C:Checked} {os:Os} {f:FuncId} {fn:Func} {s:ChangeSpec} {X:World->Array Value->Prop} {apart:Bool} {ts:List TypeId} {tb:TypeId} {bs:List bN}
 (bt:∀(w w':World) (args:Array Value),w.heap=w'.heap->X w args->X w' args)
 (own:ownKnob C.prog.godebug=none) (started:os.Started) (Ek:C.prog.inits.idxOf? f=none) (rv:C.prog.funcs[f]?=some fn)
 (witness:∃(w:World) (tape:Tape) (i:Input),w.os=os/\(w.forCall tape i).Shaped C.prog/\i.vars=[]/\Input.okWide C.prog (w.forCall tape i) .any w.heap.size f i/\
   ((s.pre enc C.prog fn [] apart (w.forCall tape i).memory i.args/\X (w.forCall tape i).memory i.args)/\sizedMet enc C.prog fn (OpenSpec.ofChange s) apart (w.forCall tape i).memory i.args)/\({}:Assume).holds C.prog (lone (Frame.enter C.prog f i.args .normal) [] (w.forCall tape i)))
 (hp:fn.params.toList=ts) (hr:fn.resultTypes.toList=[tb]) (dK:fn.resultTypes.size=1) (tP:C.prog.underlying tb=some .bool) (wD:AO C.prog ts bs) (js:laidOutB C.prog=true) (oy:(ts.all λt=>C.prog.readableRec t&&decide (t<C.prog.types.size))=true) (Dn:s.vars=[])
 (hs:∀xs:List (DataW H),xs.length=bs.length->s.fn H xs={results:=[.lit (.bool true)],args:=xs,vars:=[]})
 (contract:∀(W:World) (zs:List Int) (vs:List Value),bI (cK bs) zs->gD (λg=>g<W.heap.size) (λ_=>False) W bs zs vs->X W vs.toArray->W.ShapedOpen C.prog->Calls C.prog f vs.toArray W λe kx=>e= .returned (.bool true)/\W.Extends kx):
 ReturnsInHanded {} C os f .any (λw args=>(s.pre enc C.prog fn [] apart w args/\X w args)/\sizedMet enc C.prog fn (OpenSpec.ofChange s) apart w args) (s.post enc C.prog fn apart true false false):=by
 refine Oq bt own started Ek rv witness ?_
 intro W base args xs gs before Sg rk hsz hx fV
 have PZ:=rk
 have hlt:=rk.lt
 obtain⟨p,q,hA,rj,rfl,v8,aap⟩:=rk
 rw[hp]at hA
 rw[Dn]at rj
 obtain⟨rfl,rfl⟩:gs=[]/\q=[]:=by
  cases gs with
  |nil=>exact⟨rfl,rj⟩
  |cons g r=>exact absurd rj (by intro h;cases h)
 have hval:∀(j:Nat) t v,ts[j]?=some t->args.toList[j]?=some v->Value.okWide C.prog W .any base t v:=λj t v h1 h2=>Sg j t v (by rw[<-hp]at h1;simpa using h1) (by simpa using h2)
 have e:(fn.params.toList++s.plain.varTypes C.prog)=ts:=by rw[hp];simp[DataSpec.varTypes,ChangeSpec.plain,Dn]
 rw[e,List.append_nil,List.all_eq_true]at hsz
 obtain⟨zs,hz,hat,hlen⟩:=K8 wD hval hA λn hn=>by simpa using hsz n hn
 have lR:args=args.toList.toArray:=by simp
 rw[lR]at hx
 have CA:Calls C.prog f args W λe kx=>e= .returned (.bool true)/\W.Extends kx:=by
  have:=contract W zs args.toList hz hat hx fV
  rwa [<-lR]at this
 refine CA.mono λe kx ⟨he,hw⟩=>?_
 subst he
 have v7:=hs (xs++[]) (by simp[hlen])
 have Qx:Below W.heap.size W kx:=⟨hw.os,hw.tape,hw.output,hw.size,λi hi=>hw.block i hi⟩
 refine⟨_,rfl,_,_,_,[],p,[],PZ,?_,?_,?_,S1 hw _,λh=>by cases h⟩
 ·rw[v7,hr,dK];exact trodAll_mk1 (shut_bool tP true)
 ·rw[v7,hp,List.append_nil]
  exact Mz js Qx (λt ht=>by
   have:=List.all_eq_true.1 oy t ht
   simpa using this) hA λx hx=>hlt x (by simp[hx])
 ·rw[v7,Dn];rfl
section
variable {gl:dt} {wb:World} {sh:Nat->List Nat×List Nat} {SB:Nat->List (List Int)->List (List Int)->Prop}
def cz (SB:Nat->List (List Int)->List (List Int)->Prop) (res:List bN) (id:Nat):List (List Int)->List (List Int)->Prop:=λzs rs=>bI (cK res) rs.flatten/\SB id zs rs
theorem N9 {c:cL} {gd:kV} {bf:ew} {li:FuncId->Nat->Option c0} {rounds d:Nat} {dx:Nat->List Nat} {lens:List Nat} (hm:P.follows .mixedOrders=true) (cM:∀r ex ro,gB (dn sh SB) P gl ⟨wb,r,ex,ro,[]⟩ bf) (hg:fv gl ⟨wb,wb,λ_=>False,λ_=>False,[]⟩)
 (lS:∀(L:V->Env->Prop) (r:World) (ro:Nat->Prop),sF (dn sh SB) L ⟨wb,r,λ_=>False,ro,[]⟩ P gd) (hf:ti P c.f=true) (hl:lens=(sh c.id).1) (hd:sd c.res=(sh c.id).2)
 (hv:gu sh dx SB (cz SB c.res c.id) lens (cK c.args) c.res (c.tree gd P gl bf li rounds d)):c.Ok P wb (dn sh SB c.id):=by
 refine cL.UI (li:=li) (rounds:=rounds) (d:=d) hm cM hg lS (enters hf) (qG λzs hz=>?_)
 have h:=nY (NC hv) hz
 simp only[cz,Fi]at h
 rw[hl,hd]at h
 exact h
theorem Tc {c:cL} {W:World} {vs:List Value} {zs:List Int} (hc:c.Ok P W (dn sh SB c.id)) (kj:c.res=[.d .bool]) (fU:c.pre=0) (hz:bI (cK c.args) zs) (hat:gD (λg=>g<W.heap.size) (λ_=>False) W c.args zs vs) (h1:∀a z,SB c.id a [[z]]->z=1) (h2:(sh c.id).2=[1]):
 Calls P c.f vs.toArray W λe kx=>e= .returned (.bool true)/\W.Extends kx:=by
 refine(hc.2 _ W vs zs (World.Extends.refl W) hz (by rw[fU];trivial) hat).mono λe kx ⟨hx,rs,us,hb,hs,hr,he⟩=>⟨?_,hx⟩
 rw[kj]at hb hr
 match rs,hb,us,hr,hs,he with
 |[z],hb,[u],hr,hs,he=>
  unfold dn at hs
  rw[h2]at hs
  have e1:z=1:=h1 _ z hs
  subst e1
  have:u= .bool true:=hr.1
  subst this
  rw[he];rfl
 |[z],hb,[],hr,hs,he=>exact hr.elim
 |[z],hb,_::_::_,hr,hs,he=>exact hr.2.elim
 |[],hb,_,_,_,_=>exact hb.elim
 |_::_::_,hb,_,_,_,_=>exact hb.2.2.elim
end
end Go.bo
namespace Go.bo
open M
def gb (w w':World) (own:Option Nat):Prop:=
 w'.os=w.os/\w'.tape=w.tape/\w'.output=w.output/\w.heap.size<=w'.heap.size/\∀k:Nat,k<w.heap.size->own≠some k->w'.heap[k]?=w.heap[k]?
structure ZK where
 f:FuncId
 id:Nat
 sh:List az
 e:TypeId
 args:List bN
 pre:Nat:=0
def se:Value->Option Nat
 | .slice (some a) _ (_+1)=>some a.block
 |_=>none
section
variable {S:Nat->List Int->List Int->Prop} {L:V->Env->Prop} {w0:cQ} {P:Program}
theorem gb.ext {w w':World} (h:gb w w' none):w.Extends w':=by
 obtain⟨n1,da,jU,Uw,w6⟩:=h
 have lk:∀i:Nat,i<w.heap.size->w'.heap[i]?=w.heap[i]?:=λi hi=>w6 i hi (λe=>by cases e)
 exact⟨n1,da,jU,Uw,λa ha=>by simp only[World.cell?,lk a.block ha],λa ha=>by simp only[World.frozen?,lk a.block ha],lk⟩
end
end Go.bo
