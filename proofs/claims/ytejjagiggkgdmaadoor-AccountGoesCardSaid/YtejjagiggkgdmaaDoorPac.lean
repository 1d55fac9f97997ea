/- The evaluator's soundness,whole. -/
import Derived.Test.YtejjagiggkgdmaaDoorPab
import Derived.Laws.Externs
import Derived.ChangeMaps5
import Derived.ChangeSame
import Derived.OpenShut
import Derived.Handed
import Derived.ProofKit
import Derived.LaidMore
import Derived.Stop.Joined
import Derived.HandedShaped
import Derived.SizedLaws
import Derived.Carry

set_option linter.unusedVariables false
set_option linter.unusedSimpArgs false
namespace Go.aZ
open M
section
variable {S:Nat->List Int->List Int->Prop} {L:V->Env->Prop} {w0:b5} {P:Program} {gl:cF} {aL:dp} {rd:Option Nat}
def qI (S:Nat->List Int->List Int->Prop) (L:V->Env->Prop) (w0:b5) (k:km) (n nb:Nat) (ρ:Env) (m:Nat->Nat) (G:bZ) (Q:Exit->Act->World->Prop):Prop:=
 ∀x n' aa m' bd az b8 b6 w',bK n nb ρ m n' (List.length az) aa m'->cl n G b8->R w0 n' aa m' bd az b6 w'->(k x n' bd az).holds S L b8 aa->Q x.to b6 w'
theorem qI.later {k:km} {n nb n1 ow:Nat} {ρ ak:Env} {m kb:Nat->Nat} {G G1:bZ} {Q:Exit->Act->World->Prop} (h:qI S L w0 k n nb ρ m G Q) (hl:bK n nb ρ m n1 ow ak kb) (hA:cl n G G1):qI S L w0 k n1 ow ak kb G1 Q:=
 λx n' aa m' bd az b8 b6 w' h1 h2 h3 h4=>h x n' aa m' bd az b8 b6 w' (hl.trans h1) (hA.trans h2 hl.hn) h3 h4
def x8 (rd:Option Nat) (S:Nat->List Int->List Int->Prop) (L:V->Env->Prop) (w0:b5) (P:Program) (c:Code) (e:Nat->List V->List af->km->T):Prop:=(rd=none∨h8 c=true)->
 ∀n tm bl k G ρ m a w Q,R w0 n ρ m tm bl a w->(e n tm bl k).holds S L G ρ->qI S L w0 k n bl.length ρ m G Q->c.wpIn (jH rd) 0 P Q a w
theorem HX {c:Code} {e:Nat->List V->List af->km->T} (hd:rd=none∨h8 c=true) (he:x8 rd S L w0 P c e) {Q:Exit->Act->World->Prop}:∀(r:Nat) {n:Nat} {ρ:Env} {m:Nat->Nat} {tm:List V} {bl:List af} {a:Act} {w:World} {G:bZ} {k:km},
 R w0 n ρ m tm bl a w->(BJ e r n tm bl k).holds S L G ρ->qI S L w0 k n bl.length ρ m G Q->Code.roundsIn (jH rd) 0 P c Q r a w
 |0,_,_,_,_,_,_,_,_,_,_,ad,_=>ad.elim
 |r+1,n,ρ,m,tm,bl,a,w,G,k,h,ad,hk=>by
  rw[roundsIn_succ]
  refine he hd n tm bl _ G ρ m a w _ h ad λx n' aa m' bd az b8 b6 w' h1 h2 h3 h4=>?_
  cases x with
  |normal=>exact HX hd he r h3 h4 (hk.later h1 h2)
  |exit id=>exact hk (.exit id) n' aa m' bd az b8 b6 w' h1 h2 h3 h4
  |ret=>exact hk .ret n' aa m' bd az b8 b6 w' h1 h2 h3 h4
theorem Jp {n nb:Nat} {ρ:Env} {m:Nat->Nat} {tm:List V} {xs:Array Value} (h:bS n nb ρ m tm xs):oV n nb ρ m tm xs.toList:=C7 (by simpa using h)
def k6 (w0:b5) (ρ:Env) (m:Nat->Nat) (bl:List af) (w:World) (D:Nat->Prop):Prop:=
 ∀(i:Nat) (sh:List ag) (off code cap:I) (kind:Nat) (t:TypeId×Bool),bl[i]?=some ([.rows sh off code cap kind],t)->eD w0 ρ D (m i) sh off code cap kind t.1 w
theorem ME {D:Nat->Prop} {li:dh} {n:Nat} {aY aa:Env} {m0 m':Nat->Nat} {tm bd fF nE:List V} {bl az dr mS:List af} {l1 l2 v1 v2 ext:List I} {b1 b2 qS o8:List (Int×Int)} {n':Nat} {a:Act} {w:World}
 (hlen:bl.length<=az.length)
 (ha:agree n aY aa) (hm:∀b,b<bl.length->m' b=m0 b) (ht:∀v∈tm,V.ok n bl.length aY v) (fA:bm n bl.length aY bl)
 (h:R w0 n' aa m' bd az a w) (e1:hs li.keep li.ints 0 (n+1) tm=some (fF,l1,b1)) (e2:hb li.cells 0 (n+1+l1.length) bl=some (dr,l2,b2))
 (e3:hs li.keep li.ints 0 (n+1) bd=some (nE,v1,qS)) (dG:hb li.cells 0 (n+1+v1.length) (az.take bl.length)=some (mS,v2,o8))
 (f1:gR fF nE=true) (f2:iQ dr mS=true) (m3:∀g,D g->a7 w0 aa m' az g) (hU:k6 w0 aa m' az w D):
 v1.length+v2.length=l1.length+l2.length/\bb (b1++b2) ((v1++v2).map (·.den aa))/\R w0 (n+1+l1.length+l2.length+ext.length) (bk aY (n+1) ((v1++v2++ext).map (·.den aa))) m0 fF dr a w/\dr.length=bl.length/\(∀(i:Nat) (p:af),dr[i]?=some p->i<bl.length/\∃bo:af,az[i]?=some bo/\aE (bk aY (n+1) ((v1++v2++ext).map (·.den aa))) p.1=aE aa bo.1)/\(∀g,D g->a7 w0 (bk aY (n+1) ((v1++v2++ext).map (·.den aa))) m0 dr g)/\k6 w0 (bk aY (n+1) ((v1++v2++ext).map (·.den aa))) m0 dr w D:=by
 have zx:agree n aY (bk aY (n+1) ((v1++v2++ext).map (·.den aa))):=(agree.bk _ (n+1) aY).mono (by omega)
 have ob:∀j,j<(v1++v2).length->bk aY (n+1) ((v1++v2++ext).map (·.den aa)) (n+1+j)=((v1++v2).getD j (.const 0)).den aa:=λj hj=>by
  rw[u9 _ _ _ j (by simp at hj⊢;omega)]
  have jx:j<(v1++v2++ext).length:=by simp at hj⊢;omega
  have e:(v1++v2++ext)[j]=(v1++v2)[j]:=List.getElem_append_left hj
  simp only[List.getD,List.getElem?_map,List.getElem?_eq_getElem hj,List.getElem?_eq_getElem jx,Option.map_some,Option.getD_some,e]
 have wH:v1.length+v2.length=(v1++v2).length:=by simp
 obtain⟨p1,bc,bx⟩:=tZ (N:=n+1+v1.length+v2.length+ext.length) ha zx hm (by omega) ht (Jp h.t) e1 e3 f1 (λj hj=>by
  rw[ob j (by simp;omega),EK hj]) (by omega)
 rw[<-bx]at e2
 have Mn:bm n' az.length aa (az.take bl.length):=λp hp=>h.b p (List.mem_of_mem_take hp)
 obtain⟨q1,q2,q3,q4⟩:=E9 (N:=n+1+v1.length+v2.length+ext.length) ha zx hm (by omega) fA Mn e2 dG f2 (λj hj=>by
  rw[show n+1+v1.length+j=n+1+(v1.length+j) by omega,ob (v1.length+j) (by simp;omega),EL]) (by omega)
 have hbl:dr.length=bl.length:=(wm e2).2
 refine⟨by omega,by rw[List.map_append];exact np bc q2,?_⟩
 rw[<-bx,<-q3]
 have rB:∀(i:Nat) (p:af),dr[i]?=some p->i<bl.length/\∃bo:af,az[i]?=some bo/\bj p.1=bj bo.1/\p.2=bo.2/\(bj p.1=false->∃sh off code code' cap k,p.1=[.rows sh off code cap k]/\bo.1=[.rows sh off code' cap k]/\off.aA n/\cap.aA n):=λi p hi=>by
  have eb:i<bl.length:=by rw[<-hbl];exact(List.getElem?_eq_some_iff.1 hi).1
  obtain⟨bo,h1,h2,px,h3⟩:=zz dG i p (Eu f2 i p hi)
  rw[List.getElem?_take,if_pos eb]at h1
  obtain⟨p0,g1,_,_,g3⟩:=zz e2 i p hi
  refine⟨eb,bo,h1,h2,px,λho=>?_⟩
  obtain⟨sh,off,code,code',cap,k,s1,s2⟩:=h3 ho
  obtain⟨bH,cf,c1,av,b9,aD,my,uX⟩:=g3 ho
  rw[s1]at my
  cases my
  have aK:A.ok n bl.length aY (.rows sh off av cap k):=fA _ (List.mem_of_getElem? g1) _ (by rw[uX];simp)
  exact⟨sh,off,code,code',cap,k,s1,s2,aK.1.1,aK.1.2.2⟩
 have zy:agree n aa (bk aY (n+1) ((v1++v2++ext).map (·.den aa))):=ha.sym.trans zx (Nat.le_refl _)
 have hk2:∀(p bo:af),bj p.1=bj bo.1->(bj p.1=false->∃sh off code code' cap k,p.1=[.rows sh off code cap k]/\bo.1=[.rows sh off code' cap k]/\off.aA n/\cap.aA n)->aE (bk aY (n+1) ((v1++v2++ext).map (·.den aa))) p.1=aE aa bo.1:=λp bo h1 h2=>by
  cases ho:bj p.1 with
  |true=>rw[iC ho,iC (h1▸ho)]
  |false=>
   obtain⟨sh,off,code,code',cap,k,s1,s2,my,uX⟩:=h2 ho
   rw[s1,s2]
   simp only[aE]
   rw[I.aP zy uX]
 have hrel:∀(F:Nat->Prop),k6 w0 aa m' az w F->k6 w0 (bk aY (n+1) ((v1++v2++ext).map (·.den aa))) m0 dr w F:=λF hF i sh off code cap kind t hi=>by
  obtain⟨eb,bo,k1,_,k2,k3⟩:=rB i _ hi
  obtain⟨bH,cf,c1,av,b9,aD,s1,s2,my,uX⟩:=k3 rfl
  cases s1
  obtain⟨C,t'⟩:=bo
  simp only at s2 k2
  subst s2;subst k2
  obtain⟨c',h1,h2⟩:=q4 i _ t hi
  rw[List.getElem?_take,if_pos eb,k1]at h1
  cases h1
  simp only[List.map_cons,List.map_nil,A.den,List.cons.injEq,Value.int.injEq,and_true,true_and]at h2
  rw[<-hm i eb]
  have hR:=hF i sh off av cap kind t k1
  unfold eD at hR⊢
  rw[I.aP zy my,I.aP zy uX,h2]
  exact hR
 have nf:∀g,a7 w0 aa m' az g->a7 w0 (bk aY (n+1) ((v1++v2++ext).map (·.den aa))) m0 dr g:=a7.mono λi p hi hk=>by
  obtain⟨g1,bo,g2,g3,_,g4⟩:=rB i p hi
  exact⟨i,bo,g2,by rw[<-hk2 p bo g3 g4];exact hk,hm i g1⟩
 refine⟨?_,hbl,λi p hi=>by
  obtain⟨g1,bo,g2,g3,_,g4⟩:=rB i p hi
  exact⟨g1,bo,g2,hk2 p bo g3 g4⟩,λg hg=>nf g (m3 g hg),hrel D hU⟩
 refine⟨?_,h.d,by rw[hbl];exact q1,⟨h.aQ.ext,h.aQ.fD,h.aQ.jb,h.aQ.iY,h.aQ.eG,h.aQ.iS,λi cs t hi ho=>?_,λi sh off code cap kind t hi=>?_,λi j p q hi hj he=>?_⟩⟩
 ·rw[hbl]
  have:=ym p1
  simpa using this
 ·obtain⟨c',h1,h2⟩:=q4 i cs t hi
  obtain⟨eb,bo,k1,k2,_⟩:=rB i _ hi
  rw[List.getElem?_take,if_pos eb,k1]at h1
  have h1:=Option.some.inj h1
  subst h1
  obtain⟨g1,fi,r,hr,g2⟩:=h.aQ.c9 i c' t k1 (k2▸ho)
  rw[<-hm i eb]
  exact⟨g1,fi,r,hr,by rw[h2];exact g2⟩
 ·exact(hrel _ h.aQ.rws i sh off code cap kind t hi).mono nf
 ·obtain⟨eb,bo,k1,k2,_,k3⟩:=rB i p hi
  obtain⟨pK,e9,l1,l2,_,qf⟩:=rB j q hj
  rw[hk2 p bo k2 k3,hk2 q e9 l2 qf]
  rw[<-hm i eb,<-hm j pK]at he
  exact h.aQ.inj i j bo e9 k1 l1 he
theorem bS.set {n nb:Nat} {ρ:Env} {m:Nat->Nat} {tm:List V} {xs:Array Value} {s:Nat} {v:V} (h:bS n nb ρ m tm xs) (hv:v.ok n nb ρ) (hr:∀x,xs[s]?=some x->v.rel ρ m x):bS n nb ρ m (lL tm s v) xs:=by
 rw[B1]
 refine⟨by simp[h.1],λi u hu=>?_⟩
 rw[List.getElem?_set]at hu
 split at hu
 ·rename_i NU
  subst NU
  split at hu
  ·rename_i hlt
   cases hu
   rw[h.1]at hlt
   exact⟨hv,_,Array.getElem?_eq_getElem hlt,hr _ (Array.getElem?_eq_getElem hlt)⟩
  ·cases hu
 ·exact h.2 i u hu
def qH (tmps:Array Value):List Nat->List Int->Prop
 |[],[]=>True
 |s::r,z::zs=>(0<=z/\z<=1)/\(∀x,tmps[s]?=some x->x= .bool (decide (z=1)))/\qH tmps r zs
 |_,_=>False
def oN (w0:b5) (w:World) (tmps:Array Value) (D:Nat->Prop) (F:Nat->Prop):List (Nat×List ag×TypeId)->List Int->Prop
 |[],[]=>True
 |(s,sh,e)::r,code::len::cap::zs=>∃g:Nat,(∀x,tmps[s]?=some x->x=if cap<0 then .slice (ig cap g) 0 0 else .slice (some ⟨g,0,none⟩) len.toNat cap.toNat)/\qB 0 0 len cap/\(0<=code/\code<=aW)/\(cap<0->ab code=[])/\
    (0<=cap->∃cells:Array Value,w.heap[g]?=some (.cells cells e (0,0))/\eW D w cells 0 sh (ab code)/\cells.size=cap.toNat*sh.length/\w0.b.heap.size<=g/\(w0.ex g∨w0.r.heap.size<=g)/\∀a6,D a6->a6≠g)/\
    (0<=cap->F g)/\oN w0 w tmps D (λa6=>F a6/\(0<=cap->a6≠g)) r zs
 |_,_=>False
theorem yE {nb:Nat} {tm:List V} {m:Nat->Nat} {tmps:Array Value}:∀{l:List Nat} {n:Nat} {ρ:Env},bS n nb ρ m tm tmps->ae S L (s9 tm l) n ρ λaa n' ls=>(∀x∈ls,I.aA n' x)/\ls.length=l.length/\qH tmps l (ls.map (·.den aa))
 |[],n,ρ,ht=>ae.pure ⟨λ_ h=>by simp at h,rfl,trivial⟩
 |s::r,n,ρ,ht=>by
  unfold s9
  split
  ·rename_i e hs
   obtain⟨h1,x,h2,h3⟩:=ht.2 s _ hs
   have h3:x= .bool (e.den ρ):=h3
   have key:ae S L (match e with| .lit v=>pure (I.const (cond v 1 0))|e=>p7 e) n ρ λaa n' l=>l.aA n'/\(0<=l.den aa/\l.den aa<=1)/\e.den ρ=decide (l.den aa=1):=by
    cases e with
    |lit v=>cases v<;>exact ae.pure ⟨I.br _ _,by simp only[I.ay];decide,by simp only[I.ay,aC.den];rfl⟩
    |_=>exact wW
   refine key.bind λak n1 l hn ha ⟨g1,g2,g3⟩=>(yE (l:=r) (ht.ext ha hn (Nat.le_refl _) (λ_ _=>rfl))).bind λaH cA ls bX bN ⟨k1,k2,k3⟩=>ae.pure ⟨λy hy=>?_,by simp[k2],?_⟩
   ·rcases List.mem_cons.1 hy with rfl|hy
    ·exact g1.mono bX
    ·exact k1 y hy
   ·have e1:=I.aP bN g1
    simp only[List.map_cons,qH,e1]
    refine⟨g2,λy hy=>?_,k3⟩
    rw[h2]at hy
    cases hy
    rw[h3,g3]
  ·exact ae.fail
theorem tl {nb:Nat} {m:Nat->Nat} {tmps:Array Value}:∀{l:List (Nat×Int×Int)} {tm:List V} {n:Nat} {ρ:Env},bS n nb ρ m tm tmps->ae S L (po l tm) n ρ λaa n' bd=>bS n' nb aa m bd tmps
 |[],tm,n,ρ,ht=>ae.pure ht
 |(s,lo,hi)::r,tm,n,ρ,ht=>by
  unfold po
  split
  ·rename_i k x hs
   cases hc:(decide (lo<=x.lo)&&decide (x.hi<=hi))with
   |true=>simp only[cond_true];exact tl ht
   |false=>
    simp only[cond_false]
    refine db λhk=>?_
    simp only[List.map_cons,List.map_nil,aG,I.ay]at hk
    obtain⟨h1,y,h2,h3⟩:=ht.2 s _ hs
    have h1:x.ok n ρ:=h1
    exact tl (ht.set (v:= .w (.one (.int k ⟨x.l,lo,hi⟩))) ⟨h1.1,hk.1,hk.2⟩ λz hz=>by
     rw[h2]at hz;cases hz;exact h3)
  ·exact tl ht
theorem vl {n lo:Nat} {ρ:Env} {m:Nat->Nat} {tm:List V} {bl:List af} {a:Act} {w:World} (h:R w0 n ρ m tm bl a w):∀{l:List (Nat×List ag×TypeId)} {used:List Nat} {ls:List I} {u:List Nat},lV lo l tm bl used=some (ls,u)->
 (∀x∈ls,I.aA n x)/\ls.length=(o0 l).length/\(∀b∈used,b∈u)/\(∀b∈u,b∈used∨lo<=b)/\∀F:Nat->Prop,(∀(b:Nat) (p:af),b∈u->b∉used->bl[b]?=some p->aE ρ p.1=2->bj p.1=false->F (m b))->oN w0 w a.tmps (a7 w0 ρ m bl) F l (ls.map (·.den ρ))
 |[],used,ls,u,he=>by
  simp only[lV,Option.some.injEq,Prod.mk.injEq]at he
  obtain⟨rfl,rfl⟩:=he
  exact⟨λ_ h=>by simp at h,rfl,λ_ h=>h,λ_ h=> .inl h,λ_ _=>trivial⟩
 |(s,sh,e)::r,used,ls,u,he=>by
  unfold lV at he
  split at he
  ·rename_i hs
   split at he
   ·rename_i l1 nF hr
    simp only[Option.some.injEq,Prod.mk.injEq]at he
    obtain⟨rfl,rfl⟩:=he
    obtain⟨g1,g2,g3,g4,g5⟩:=vl h hr
    refine⟨λx hx=>?_,by simp[o0]at g2⊢;omega,g3,g4,λF hF=>⟨0,λx hx=>?_,?_,?_,?_,?_,?_,?_⟩⟩
    ·simp only[List.mem_cons]at hx
     rcases hx with rfl|rfl|rfl|hx
     ·exact I.br _ _
     ·exact I.br _ _
     ·exact I.br _ _
     ·exact g1 x hx
    ·obtain⟨_,y,h2,h3⟩:=h.t.2 s _ hs
     rw[h2]at hx;cases hx
     have nW:(I.const (-1)).den ρ<0:=by rw[I.ay];decide
     simp only[nW,if_true]
     exact h3
    ·simp only[I.ay];exact⟨⟨by omega,by omega,by omega,by omega⟩,⟨by omega,by omega⟩,λ_=>rfl,λh=>by omega⟩
    ·simp only[I.ay];exact⟨Int.le_refl _,Int.le_trans (cE []) (jj (l:=[]) (by simp) (by simp))⟩
    ·intro _;simp only[I.ay];exact kg
    ·simp only[I.ay];intro h;omega
    ·simp only[I.ay];intro h;omega
    ·refine g5 _ λb p hb hu hbl hk ho=>⟨hF b p hb hu hbl hk ho,?_⟩
     simp only[I.ay];intro h;omega
   ·cases he
  ·rename_i b ax o ro len cap hs
   split at he
   ·rename_i bH off code bI kind t hbl
    cases hc:(fX sh bH&&Nat.beq kind 2&&I.beq o (.const 0)&&I.beq off (.const 0)&&I.beq ro (.const 0)&&I.beq cap bI&&Nat.beq t.1 e&&Nat.beq ax sh.length&&Nat.ble lo b&& !(used.any (Nat.beq b)))with
    |false=>rw[hc]at he;cases he
    |true=>
     rw[hc]at he
     simp only[cond_true]at he
     split at he
     ·rename_i l1 nF hr
      simp only[Option.some.injEq,Prod.mk.injEq]at he
      obtain⟨rfl,rfl⟩:=he
      simp only[Bool.and_eq_true]at hc
      obtain⟨⟨⟨⟨⟨⟨⟨⟨⟨c1,av⟩,bg⟩,bw⟩,cG⟩,dT⟩,ks⟩,kt⟩,nT⟩,yI⟩:=hc
      have c1:=lM c1;have av:=Nat.eq_of_beq_eq_true av;have bg:=I.beq_eq bg;have bw:=I.beq_eq bw;have cG:=I.beq_eq cG;have dT:=I.beq_eq dT
      have ks:=Nat.eq_of_beq_eq_true ks;have kt:=Nat.eq_of_beq_eq_true kt;have nT:=Nat.le_of_ble_eq_true nT
      have Nt:b∉used:=λhb=>by
       have:used.any (Nat.beq b)=true:=List.any_eq_true.2 ⟨b,hb,Nat.beq_refl b⟩
       rw[this]at yI;cases yI
      subst c1;subst av;subst bg;subst bw;subst cG;subst dT;subst ks;subst kt
      obtain⟨g1,g2,g3,g4,g5⟩:=vl h hr
      obtain⟨aK,y,h2,h3⟩:=h.t.2 s _ hs
      have aK:(A.sl b sh.length (.const 0) (.const 0) len cap).ok n bl.length ρ:=aK
      obtain⟨x1,⟨ef,fb,fo,fH⟩,ga⟩:=aK
      simp only[I.ay]at ga
      have cH:(A.rows sh (.const 0) code cap 2).ok n bl.length ρ:=h.b _ (List.mem_of_getElem? hbl) _ (by simp)
      obtain⟨⟨r1,r2,dK⟩,nB,sv⟩:=cH
      have er:=h.aQ.rws b sh (.const 0) code cap 2 t hbl (by decide)
      refine⟨λx hx=>?_,by simp[o0]at g2⊢;omega,λbq hb'=>g3 bq (List.mem_cons_of_mem _ hb'),λbq hb'=>?_,λF hF=>⟨m b,λx hx=>?_,ga,nB,er.1,λh0=>?_,λh0=>?_,?_⟩⟩
      ·simp only[List.mem_cons]at hx
       rcases hx with rfl|rfl|rfl|hx
       ·exact r2
       ·exact fo
       ·exact fH
       ·exact g1 x hx
      ·rcases g4 bq hb' with h5|h5
       ·rcases List.mem_cons.1 h5 with rfl|h5
        ·exact .inr nT
        ·exact .inl h5
       ·exact .inr h5
      ·have Az:y=x:=Option.some.inj (h2.symm.trans hx)
       subst Az
       have h3:y=(A.sl b sh.length (.const 0) (.const 0) len cap).den ρ m:=h3
       rw[h3]
       simp only[A.den,I.ay]
       split<;>simp
      ·obtain⟨_,cells,dX,fz,k1,⟨k2,k3⟩,k4⟩:=er.2 h0
       obtain⟨kL,lH,p9,OG,OH,OI⟩:=k4 (by decide)
       subst kL
       have p9:=p9.two
       subst p9
       rw[I.ay]at k3
       exact⟨cells,k1,k3,OG,OH,OI,λa6 gh e=>gh.2 b _ hbl (by rw[e6 (by decide) h0];exact Nat.le_refl 2) e.symm⟩
      ·exact hF b _ (g3 b (by simp)) Nt hbl (e6 (by decide) h0) rfl
      ·refine g5 _ λbq p hb' hu Fe hk ho=>⟨hF bq p hb' (λh=>hu (List.mem_cons_of_mem _ h)) Fe hk ho,λh0=>?_⟩
       have dV:aE ρ [A.rows sh (.const 0) code cap 2]=2:=e6 (by decide) h0
       exact h.aQ.ne Fe hbl (by rw[hk];exact Nat.le_refl 2) (by simp only[dV];decide) λe=>hu (by simp[e])
     ·cases he
   ·cases he
  ·cases he
theorem Hq {c:List A} (h:bj c=false):∃sh off code cap k,c=[.rows sh off code cap k]:=by
 unfold bj at h
 split at h
 ·exact⟨_,_,_,_,_,rfl⟩
 ·cases h
theorem AR {n:Nat} {ρ:Env} {m:Nat->Nat} {tm:List V} {a:Act} {w:World}:∀{us:List Nat} {bl:List af},R w0 n ρ m tm bl a w->R w0 n ρ m tm (gp us bl) a w/\(gp us bl).length=bl.length/\∀(i:Nat) (p:af),(gp us bl)[i]?=some p->(bl[i]?=some p/\(i∈us->bj p.1=true∨aE ρ p.1=0))∨aE ρ p.1=0
 |[],bl,h=>⟨h,rfl,λi p hp=> .inl ⟨hp,λh=>by simp at h⟩⟩
 |b::r,bl,h=>by
  unfold gp
  split
  ·rename_i sh off code cap k t hbl
   obtain⟨g1,g2,g3⟩:=AR (us:=r) (h.kill hbl)
   refine⟨g1,by rw[g2,eS],λi p hp=>?_⟩
   rcases g3 i p hp with⟨g4,g5⟩|g4
   ·by_cases eb:i=b
    ·subst eb
     rw[fW,List.getElem?_set_self (List.getElem?_eq_some_iff.1 hbl).1]at g4
     cases g4
     exact .inr (by simp[aE])
    ·rw[fW,List.getElem?_set_ne (λe=>eb e.symm)]at g4
     exact .inl ⟨g4,λhi=>g5 (by simpa [eb]using hi)⟩
   ·exact .inr g4
  ·rename_i eP
   obtain⟨g1,g2,g3⟩:=AR (us:=r) h
   refine⟨g1,g2,λi p hp=>?_⟩
   rcases g3 i p hp with⟨g4,g5⟩|g4
   ·refine .inl ⟨g4,λhi=>?_⟩
    rcases List.mem_cons.1 hi with rfl|hi
    ·cases ho:bj p.1 with
     |true=>exact .inl rfl
     |false=>
      exfalso
      obtain⟨c,t⟩:=p
      obtain⟨sh,off,code,cap,k,rfl⟩:=Hq ho
      exact eP _ _ _ _ _ _ g4
    ·exact g5 hi
   ·exact .inr g4
theorem Fu {N:Nat} {aH:Env} {m:Nat->Nat} {bl:List af} {a:Act} {w:World}:∀{l:List Nat} {zs:List Int} {v:Nat} {tm:List V},R w0 N aH m tm bl a w->qH a.tmps l zs->(∀j,j<zs.length->aH (v+j)=zs.getD j 0)->v+zs.length<=N->R w0 N aH m (lu l v tm) bl a w
 |[],[],v,tm,h,_,_,_=>h
 |s::r,z::zs,v,tm,h,hb,hv,hN=>by
  unfold lu
  have h0:=hv 0 (by simp)
  simp only[Nat.add_zero,List.getD_cons_zero]at h0
  simp only[List.length_cons]at hN
  refine Fu (l:=r) (zs:=zs) ⟨bS.set h.t ?_ λx hx=>?_,h.d,h.b,h.aQ⟩ hb.2.2 (λj hj=>by
   have:=hv (j+1) (by simpa using hj)
   rw[show v+1+j=v+(j+1) by omega];simpa using this) (by omega)
  ·exact⟨I.cq (by omega),I.br _ _⟩
  ·rw[hb.2.1 x hx]
   simp[V.rel,W.den,A.den,aC.den,I.ba,I.ay,h0]
 |[],_::_,_,_,_,h,_,_=>h.elim
 |_::_,[],_,_,_,h,_,_=>h.elim
theorem Ft {N:Nat} {aH:Env} {a:Act} {w:World}:∀{l:List (Nat×List ag×TypeId)} {zs:List Int} {v:Nat} {tm:List V} {bl:List af} {m:Nat->Nat} {D F:Nat->Prop},R w0 N aH m tm bl a w->(∀g,D g->a7 w0 aH m bl g)->k6 w0 aH m bl w D->oN w0 w a.tmps D F l zs->(∀g,F g->∀(i:Nat) (p:af),bl[i]?=some p->m i=g->aE aH p.1=0)->
 (∀j,j<zs.length->aH (v+j)=zs.getD j 0)->v+zs.length<=N->∃c4,(∀b,b<bl.length->c4 b=m b)/\bl.length<=(j0 l v tm bl).2.length/\R w0 N aH c4 (j0 l v tm bl).1 (j0 l v tm bl).2 a w
 |[],[],v,tm,bl,m,D,F,h,_,_,_,_,_,_=>⟨m,λ_ _=>rfl,Nat.le_refl _,h⟩
 |(s,sh,e)::r,code::len::cap::zs,v,tm,bl,m,D,F,h,m3,hU,hf,hF,hv,hN=>by
  obtain⟨g,f1,f2,f3,f4,f5,f6,f7⟩:=hf
  have v0:=hv 0 (by simp)
  have v1:=hv 1 (by simp)
  have v2:=hv 2 (by simp)
  simp only[List.getD_cons_zero,List.getD_cons_succ,Nat.add_zero]at v0 v1 v2
  simp only[List.length_cons]at hN
  have hc:(-2:Int)<=cap/\cap<=9223372036854775807:=⟨f2.2.1.1,by have:=f2.2.1.2;omega⟩
  have hA:(A.rows sh (.const 0) (.var v) (.var (v+2)) 2).ok N bl.length aH:=⟨⟨I.br _ _,I.cq (by omega),I.cq (by omega)⟩,by rw[I.ba,v0];exact f3,by rw[I.ba,v2];exact hc⟩
  have py:∀a6,D a6->a7 w0 aH (dY m bl.length g) (bl++[([.rows sh (.const 0) (.var v) (.var (v+2)) 2],(e,false))]) a6:=λa6 gh=>(m3 a6 gh).push (by
   rcases Int.lt_or_le cap 0 with h0|h0
   ·refine .inl ?_
    simp only[aE,I.ba,v2]
    rw[if_pos h0];decide
   ·obtain⟨_,_,_,_,_,_,p9⟩:=f5 h0
    exact .inr (p9 a6 gh))
  have fC:eD w0 aH D g sh (.const 0) (.var v) (.var (v+2)) 2 e w:=by
   intro _
   simp only[I.ba,v0,v2,I.ay]
   refine⟨f4,λh0=>?_⟩
   obtain⟨cells,k1,k2,k3,k4,lH,_⟩:=f5 h0
   exact⟨lH.elim .inl λh=> .inr (.inr h),cells,e,(0,0),k1,⟨Int.le_refl _,k2⟩,λ_=>⟨rfl,by trivial,.uA,k3,k4,lH⟩⟩
  have zq:k6 w0 aH (dY m bl.length g) (bl++[([.rows sh (.const 0) (.var v) (.var (v+2)) 2],(e,false))]) w D:=λi bH cf code' b9 c6 t' hi=>by
   rcases uJ hi with⟨bW,h1⟩|⟨rfl,h1⟩
   ·rw[eT bW];exact hU i bH cf code' b9 c6 t' h1
   ·cases h1
    rw[fZ];exact fC
  have gA:=h.aQ.push (x:=([.rows sh (.const 0) (.var v) (.var (v+2)) 2],(e,false))) (g:=g) h.b (λy hy=>by simp at hy;subst hy;exact hA) (λho=>by cases ho) (λbH cf code' b9 c6 he=>by
   cases he
   exact fC.mono py) (λi p hi he=>by
   rcases Int.lt_or_le cap 0 with h0|h0
   ·refine .inr (.inr ?_)
    simp only[aE,I.ba,v2]
    rw[if_pos h0]
   ·exact .inr (.inl (hF g (f6 h0) i p hi he))) (λi bH cf code' b9 c6 t' hi=>(hU i bH cf code' b9 c6 t' hi).mono py)
  have hL:=bK.alloc N aH m bl ([A.rows sh (.const 0) (.var v) (.var (v+2)) 2],(e,false)) g
  have hR:R w0 N aH (dY m bl.length g) (lL tm s (.w (.one (.sl bl.length sh.length (.const 0) (.const 0) (.var (v+1)) (.var (v+2)))))) (bl++[([.rows sh (.const 0) (.var v) (.var (v+2)) 2],(e,false))]) a w:=by
   refine⟨bS.set (h.t.ext hL.ha hL.hn hL.hb hL.hm) ?_ λx hx=>?_,h.d,h.b.alloc (λy hy=>by simp at hy;subst hy;exact hA),gA⟩
   ·refine⟨by simp,⟨I.br _ _,I.br _ _,I.cq (by omega),I.cq (by omega)⟩,?_⟩
    simp only[I.ay,I.ba,v1,v2];exact f2
   ·rw[f1 x hx]
    simp only[V.rel,W.den,A.den,I.ay,I.ba,v1,v2,fZ]
    split<;>simp
  obtain⟨c4,q1,q2,q3⟩:=Ft (l:=r) (zs:=zs) (v:=v+3) hR py zq f7 (λa6 gh i p hi he=>by
   rw[List.getElem?_append]at hi
   split at hi
   ·rename_i bW
    rw[eT bW]at he
    exact hF a6 gh.1 i p hi he
   ·have bW:=(List.getElem?_eq_some_iff.1 hi).1
    have:i=bl.length:=by simp at bW;omega
    subst this
    simp only[Nat.sub_self,List.getElem?_cons_zero,Option.some.injEq]at hi
    subst hi
    rw[fZ]at he
    rcases Int.lt_or_le cap 0 with h0|h0
    ·simp only[aE,I.ba,v2]
     rw[if_pos h0]
    ·exact absurd he.symm (gh.2 h0)) (λj hj=>by
   have:=hv (j+3) (by simp only[List.length_cons];omega)
   rw[show v+3+j=v+(j+3) by omega];simpa using this) (by omega)
  simp only[List.length_append,List.length_cons,List.length_nil]at q1 q2
  exact⟨c4,λb hb=>by rw[q1 b (by omega)];exact eT hb,by unfold j0;omega,by unfold j0;exact q3⟩
 |[],_::_,_,_,_,_,_,_,_,_,_,h,_,_,_=>h.elim
 |_::_,[],_,_,_,_,_,_,_,_,_,h,_,_,_=>h.elim
 |_::_,[_],_,_,_,_,_,_,_,_,_,h,_,_,_=>h.elim
 |_::_,[_,_],_,_,_,_,_,_,_,_,_,h,_,_,_=>h.elim
theorem Gs {tmps:Array Value}:∀{l:List Nat} {zs:List Int},qH tmps l zs->bb (vC l) zs
 |[],[],_=>trivial
 |s::r,z::zs,h=>⟨h.1.1,h.1.2,Gs h.2.2⟩
 |[],_::_,h=>h.elim
 |_::_,[],h=>h.elim
theorem Gq {w:World} {tmps:Array Value}:∀{l:List (Nat×List ag×TypeId)} {zs:List Int} {D F:Nat->Prop},oN w0 w tmps D F l zs->bb (o0 l) zs
 |[],[],_,_,_=>trivial
 |(s,sh,e)::r,code::len::cap::zs,D,F,⟨g,f1,f2,f3,f4,f5,f6,f7⟩=>⟨f3.1,f3.2,f2.1.2.2.1,f2.1.2.2.2,f2.2.1.1,by have:=f2.2.1.2;omega,Gq f7⟩
 |[],_::_,_,_,h=>h.elim
 |_::_,[],_,_,h=>h.elim
 |_::_,[_],_,_,h=>h.elim
 |_::_,[_,_],_,_,h=>h.elim
theorem Mem.xI {n:Nat} {ρ:Env} {m:Nat->Nat} {bl:List af} {w:World} {b c:Nat} {C:List A} {sh:List ag} {code:I} {t:TypeId×Bool} (h:Mem w0 ρ m bl w) (hbl:bl[b]?=some (C,t)) (ho:bj C=true) (ht:t.2=false)
 (hp:eJ sh=true) (cO:∀row∈ab (code.den ρ),aR sh row) (eo:bz sh (ab (code.den ρ))=C.map (A.den ρ m)) (hlen:C.length=c*sh.length):Mem w0 ρ m (bP bl b ([.rows sh (.const 0) code (.const c) 2],t)) w:=by
 have hS:b<bl.length:=(List.getElem?_eq_some_iff.1 hbl).1
 obtain⟨q1,q2,r,hr,q3⟩:=h.c9 b C t hbl ho
 have hr:=hr ht
 subst hr
 rw[List.append_nil]at q3
 have cp:∀(i:Nat) (p:af),(bP bl b ([.rows sh (.const 0) code (.const c) 2],t))[i]?=some p->(i=b/\p=([.rows sh (.const 0) code (.const c) 2],t))∨(i≠b/\bl[i]?=some p):=λi p hi=>by
  rw[fW,List.getElem?_set]at hi
  split at hi
  ·rename_i dN
   subst dN
   simp only[hS,if_true,Option.some.injEq]at hi
   exact .inl ⟨rfl,hi.symm⟩
  ·rename_i dN;exact .inr ⟨λe=>dN e.symm,hi⟩
 have hk2:aE ρ [.rows sh (.const 0) code (.const c) 2]=2:=e6 (by decide) (by rw[I.ay];omega)
 refine⟨h.ext,h.fD,h.jb,h.iY,h.eG,h.iS,λi fw t' hi gW=>?_,λi bH cf code' b9 c6 t' hi=>?_,λi j p q hi hj he=>?_⟩
 ·rcases cp i _ hi with⟨rfl,bE⟩|⟨hne,hi⟩
  ·cases bE;cases gW
  ·exact h.c9 i fw t' hi gW
 ·rcases cp i _ hi with⟨rfl,bE⟩|⟨hne,hi⟩
  ·cases bE
   intro _
   simp only[I.ay]
   refine⟨λh0=>by omega,λ_=>⟨q2.elim .inl λh=> .inr (.inr h),_,_,_,q3,⟨Int.le_refl _,(hM hp).2 ⟨cO,[],[],by simp[eo],rfl⟩⟩,λ_=>⟨rfl,by trivial,.uA,by simp[hlen],q1,q2⟩⟩⟩
  ·exact(h.rws i bH cf _ b9 c6 t' hi).mono λa6 h'=>h'.set hbl λ_=>by rw[iC ho];exact Nat.le_refl 2
 ·have hk:∀(i:Nat) (p:af),(bP bl b ([.rows sh (.const 0) code (.const c) 2],t))[i]?=some p->∃bo,bl[i]?=some bo/\aE ρ bo.1=aE ρ p.1:=λi p hi=>by
   rcases cp i _ hi with⟨rfl,bE⟩|⟨hne,hi⟩
   ·exact⟨_,hbl,by rw[bE];simp only[hk2,iC ho]⟩
   ·exact⟨p,hi,rfl⟩
  obtain⟨bo,hp,ep⟩:=hk i p hi
  obtain⟨e9,hq,eq⟩:=hk j q hj
  rw[<-ep,<-eq]
  exact h.inj i j bo e9 hp hq he
theorem BS {m:Nat->Nat} {tm:List V} {a:Act} {w:World}:∀{l:List (Nat×List ag×Nat)} {bl:List af} {n:Nat} {ρ:Env},R w0 n ρ m tm bl a w->ae S L (uW l bl) n ρ λaa n' az=>R w0 n' aa m tm az a w/\az.length=bl.length
 |[],bl,n,ρ,h=>ae.pure ⟨h,rfl⟩
 |(b,sh,c)::r,bl,n,ρ,h=>by
  unfold uW
  split
  ·rename_i C t hbl
   cases ho:bj C with
   |false=>simp only[cond_false];exact BS h
   |true=>
    simp only[cond_true]
    refine bR λhc=>?_
    simp only[Bool.and_eq_true]at hc
    obtain⟨⟨⟨⟨c1,av⟩,bg⟩,bw⟩,cG⟩:=hc
    have c1:t.2=false:=by simpa using c1
    have av:=Nat.eq_of_beq_eq_true av
    have bw:=Nat.le_of_ble_eq_true bw
    have aK:∀x∈C,A.ok n bl.length ρ x:=h.b _ (List.mem_of_getElem? hbl)
    have fB:=pf (w:=sh.length) (k:=c) av
    have b7:ab ((I.const 0).den ρ)=[]:=by rw[I.ay];exact kg
    have hz:(0:Int)<=aW:=Int.le_trans (cE []) (jj (l:=[]) (by simp) (by simp))
    refine(s0 (nb:=bl.length) (m:=m) bg (rs:=fv sh.length c C) (c:= .const 0) (λrow hr x hx=>aK x (pg row hr x hx)) (I.br _ _) (by rw[I.ay];exact⟨Int.le_refl _,hz⟩) (by rw[b7];intro _ h;simp at h) (by rw[b7,fB.1];simp;omega)).bind λak n1 code cv bG ⟨p1,bc,bu,bx,dw,dO,e8⟩=>?_
    rw[b7,List.nil_append]at bx
    have h1:=h.later cv bG
    have tS:C.map (A.den ak m)=C.map (A.den ρ m):=jA aK bG (λ_ _=>rfl)
    have gA:=h1.aQ.xI (n:=n1) (c:=c) (sh:=sh) (code:=code) hbl ho c1 cG (by rw[bx];exact dO) (by rw[bx,e8,fB.2,tS]) av
    have fP:bm n1 (bP bl b ([.rows sh (.const 0) code (.const c) 2],t)).length ak (bP bl b ([.rows sh (.const 0) code (.const c) 2],t)):=h1.b.set (λy hy=>by
     have hy:y= .rows sh (.const 0) code (.const c) 2:=by simpa using hy
     subst hy
     exact⟨⟨I.br _ _,p1,I.br _ _⟩,bc,by rw[I.ay];omega⟩)
    have hR:R w0 n1 ak m tm (bP bl b ([.rows sh (.const 0) code (.const c) 2],t)) a w:=⟨by rw[eS];exact h1.t,h1.d,fP,gA⟩
    exact(BS (l:=r) hR).mono λaH cA ir _ _ ⟨g1,g2⟩=>⟨g1,by rw[g2,eS]⟩
  ·exact ae.fail
theorem natsM_holds {G:bZ} {va:Unit->Nat->T}:∀{k n:Nat} {ρ:Env} {offs:List Int},(xg k n va).holds S L G ρ->offs.length=k->(∀z∈offs,0<=z)->(va () (n+k)).holds S L G (bk ρ n offs)
 |0,n,ρ,[],h,_,_=>h
 |k+1,n,ρ,z::zs,h,hl,h0=>by
  have h1:(xg k (n+1) va).holds S L G (bF ρ n z):=h z (h0 z (by simp))
  have:=natsM_holds (offs:=zs) h1 (by simpa using hl) λy hy=>h0 y (List.mem_cons_of_mem _ hy)
  rw[show n+(k+1)=n+1+k by omega];exact this
 |0,_,_,_::_,_,hl,_=>by simp at hl
 |_+1,_,_,[],_,hl,_=>by simp at hl
def jK (w0:b5) (w:World) (tmps:Array Value) (D:Nat->Prop) (F:Nat->Prop):List (Nat×List ag)->List Nat->List Int->List Int->Prop
 |[],[],[],[]=>True
 |(s,sh)::r,g::gs,o::os,code::len::cap::zs=>(∀x,tmps[s]?=some x->x=if cap<0 then .slice (ig cap g) 0 0 else .slice (some ⟨g,o.toNat,none⟩) len.toNat cap.toNat)/\qB o 0 len cap/\(0<=code/\code<=aW)/\(cap<0->ab code=[])/\
    (0<=cap->(w0.ex g∨w0.ro g∨w0.r.heap.size<=g)/\∃(cells:Array Value) (t:TypeId) (fz:Nat×Nat),w.heap[g]?=some (.cells cells t fz)/\eW D w cells o.toNat sh (ab code))/\
    (0<=cap->F g)/\jK w0 w tmps D F r gs os zs
 |_,_,_,_=>False
theorem jK.len {w:World} {tmps:Array Value} {D F:Nat->Prop}:∀{l:List (Nat×List ag)} {gs:List Nat} {os zs:List Int},jK w0 w tmps D F l gs os zs->os.length=l.length/\∀z∈os,0<=z
 |[],[],[],[],_=>⟨rfl,λ_ h=>by simp at h⟩
 |(s,sh)::r,g::gs,o::os,code::len::cap::zs,h=>by
  obtain⟨_,h2,_,_,_,_,h7⟩:=h
  obtain⟨i1,i2⟩:=jK.len h7
  exact⟨by simp[i1],λz hz=>by
   rcases List.mem_cons.1 hz with rfl|hz
   ·exact h2.1.1
   ·exact i2 z hz⟩
 |_::_,[],_,_,h=>h.elim
 |_::_,_::_,[],_,h=>h.elim
 |_::_,_::_,_::_,[],h=>h.elim
 |_::_,_::_,_::_,[_],h=>h.elim
 |_::_,_::_,_::_,[_,_],h=>h.elim
 |[],_::_,_,_,h=>h.elim
 |[],[],_::_,_,h=>h.elim
 |[],[],[],_::_,h=>h.elim
theorem Gt {w:World} {tmps:Array Value} {D F:Nat->Prop}:∀{l:List (Nat×List ag)} {gs:List Nat} {os zs:List Int},jK w0 w tmps D F l gs os zs->bb (qt l) zs
 |[],[],[],[],_=>trivial
 |(s,sh)::r,g::gs,o::os,code::len::cap::zs,⟨f1,f2,f3,f4,f5,f6,f7⟩=>⟨f3.1,f3.2,f2.1.2.2.1,f2.1.2.2.2,f2.2.1.1,by have:=f2.2.1.2;omega,Gt f7⟩
 |_::_,[],_,_,h=>h.elim
 |_::_,_::_,[],_,h=>h.elim
 |_::_,_::_,_::_,[],h=>h.elim
 |_::_,_::_,_::_,[_],h=>h.elim
 |_::_,_::_,_::_,[_,_],h=>h.elim
 |[],_::_,_,_,h=>h.elim
 |[],[],_::_,_,h=>h.elim
 |[],[],[],_::_,h=>h.elim
theorem xz {n:Nat} {ρ:Env} {m:Nat->Nat} {tm:List V} {bl:List af} {a:Act} {w:World} (h:R w0 n ρ m tm bl a w):∀{l:List (Nat×List ag)} {ls:List I},qu l tm bl=some ls->
 (∀x∈ls,I.aA n x)/\ls.length=(qt l).length/\∃gs os,jK w0 w a.tmps (a7 w0 ρ m bl) (λg=>∃(i:Nat) (p:af),bl[i]?=some p/\m i=g/\aE ρ p.1=1) l gs os (ls.map (·.den ρ))
 |[],ls,he=>by
  simp only[qu,Option.some.injEq]at he
  subst he
  exact⟨λ_ h=>by simp at h,rfl,[],[],trivial⟩
 |(s,sh)::r,ls,he=>by
  unfold qu at he
  split at he
  ·rename_i hs
   split at he
   ·rename_i l1 hr
    simp only[Option.some.injEq]at he
    subst he
    obtain⟨g1,g2,gs,os,g3⟩:=xz h hr
    refine⟨λx hx=>?_,by simp[qt]at g2⊢;omega,0::gs,0::os,λx hx=>?_,?_,?_,?_,?_,?_,g3⟩
    ·simp only[List.mem_cons]at hx
     rcases hx with rfl|rfl|rfl|hx
     ·exact I.br _ _
     ·exact I.br _ _
     ·exact I.br _ _
     ·exact g1 x hx
    ·obtain⟨_,y,h2,h3⟩:=h.t.2 s _ hs
     rw[h2]at hx;cases hx
     have nW:(I.const (-1)).den ρ<0:=by rw[I.ay];decide
     simp only[nW,if_true]
     exact h3
    ·simp only[I.ay];exact⟨⟨by omega,by omega,by omega,by omega⟩,⟨by omega,by omega⟩,λ_=>rfl,λh=>by omega⟩
    ·simp only[I.ay];exact⟨Int.le_refl _,Int.le_trans (cE []) (jj (l:=[]) (by simp) (by simp))⟩
    ·intro _;simp only[I.ay];exact kg
    ·simp only[I.ay];intro h;omega
    ·simp only[I.ay];intro h;omega
   ·cases he
  ·rename_i b ax o ro len cap hs
   split at he
   ·rename_i bH off code bI kind t hbl
    cases hc:(fX sh bH&&Nat.beq kind 1&&I.beq o off&&I.beq ro (.const 0)&&I.beq cap bI&&Nat.beq ax sh.length)with
    |false=>rw[hc]at he;cases he
    |true=>
     rw[hc]at he
     simp only[cond_true]at he
     split at he
     ·rename_i l1 hr
      simp only[Option.some.injEq]at he
      subst he
      simp only[Bool.and_eq_true]at hc
      obtain⟨⟨⟨⟨⟨c1,av⟩,bg⟩,bw⟩,cG⟩,dT⟩:=hc
      have c1:=lM c1;have av:=Nat.eq_of_beq_eq_true av;have bg:=I.beq_eq bg;have bw:=I.beq_eq bw;have cG:=I.beq_eq cG;have dT:=Nat.eq_of_beq_eq_true dT
      subst c1;subst av;subst bg;subst bw;subst cG;subst dT
      obtain⟨g1,g2,gs,os,g3⟩:=xz h hr
      obtain⟨aK,y,h2,h3⟩:=h.t.2 s _ hs
      have aK:(A.sl b sh.length o (.const 0) len cap).ok n bl.length ρ:=aK
      obtain⟨x1,⟨ef,fb,fo,fH⟩,ga⟩:=aK
      simp only[I.ay]at ga
      have cH:(A.rows sh o code cap 1).ok n bl.length ρ:=h.b _ (List.mem_of_getElem? hbl) _ (by simp)
      obtain⟨⟨r1,r2,dK⟩,nB,sv⟩:=cH
      have er:=h.aQ.rws b sh o code cap 1 t hbl (by decide)
      refine⟨λx hx=>?_,by simp[qt]at g2⊢;omega,m b::gs,o.den ρ::os,λx hx=>?_,ga,nB,er.1,λh0=>?_,λh0=>?_,g3⟩
      ·simp only[List.mem_cons]at hx
       rcases hx with rfl|rfl|rfl|hx
       ·exact r2
       ·exact fo
       ·exact fH
       ·exact g1 x hx
      ·have Az:y=x:=Option.some.inj (h2.symm.trans hx)
       subst Az
       have h3:y=(A.sl b sh.length o (.const 0) len cap).den ρ m:=h3
       rw[h3]
       simp only[A.den,I.ay]
       split<;>simp
      ·obtain⟨q0,cells,dX,fz,k1,⟨k2,k3⟩,k4⟩:=er.2 h0
       exact⟨q0,cells,dX,fz,k1,k3⟩
      ·exact⟨b,_,hbl,rfl,e6 (by decide) h0⟩
     ·cases he
   ·cases he
  ·cases he
theorem jK.mono {w:World} {tmps:Array Value} {D F F':Nat->Prop} (hF:∀g,F g->F' g):∀{l:List (Nat×List ag)} {gs:List Nat} {os zs:List Int},jK w0 w tmps D F l gs os zs->jK w0 w tmps D F' l gs os zs
 |[],[],[],[],_=>trivial
 |(s,sh)::r,g::gs,o::os,code::len::cap::zs,⟨f1,f2,f3,f4,f5,f6,f7⟩=>⟨f1,f2,f3,f4,f5,λh=>hF g (f6 h),jK.mono hF f7⟩
 |_::_,[],_,_,h=>h.elim
 |_::_,_::_,[],_,h=>h.elim
 |_::_,_::_,_::_,[],h=>h.elim
 |_::_,_::_,_::_,[_],h=>h.elim
 |_::_,_::_,_::_,[_,_],h=>h.elim
 |[],_::_,_,_,h=>h.elim
 |[],[],_::_,_,h=>h.elim
 |[],[],[],_::_,h=>h.elim
theorem yr {lo:Nat} {tm:List V} {bl:List af}:∀{l:List (Nat×List ag×TypeId)} {used:List Nat} {ls:List I} {u:List Nat},lV lo l tm bl used=some (ls,u)->∀b∈u,b∈used∨∃sh off code cap t,bl[b]?=some ([.rows sh off code cap 2],t)
 |[],used,ls,u,he=>by
  simp only[lV,Option.some.injEq,Prod.mk.injEq]at he
  obtain⟨rfl,rfl⟩:=he
  exactλb hb=> .inl hb
 |(s,sh,e)::r,used,ls,u,he=>by
  unfold lV at he
  split at he
  ·split at he
   ·rename_i l1 nF hr
    simp only[Option.some.injEq,Prod.mk.injEq]at he
    obtain⟨rfl,rfl⟩:=he
    exact yr hr
   ·cases he
  ·rename_i b ax o ro len cap hs
   split at he
   ·rename_i bH off code bI kind t hbl
    cases hc:(fX sh bH&&Nat.beq kind 2&&I.beq o (.const 0)&&I.beq off (.const 0)&&I.beq ro (.const 0)&&I.beq cap bI&&Nat.beq t.1 e&&Nat.beq ax sh.length&&Nat.ble lo b&& !(used.any (Nat.beq b)))with
    |false=>rw[hc]at he;cases he
    |true=>
     rw[hc]at he
     simp only[cond_true]at he
     split at he
     ·rename_i l1 nF hr
      simp only[Option.some.injEq,Prod.mk.injEq]at he
      obtain⟨rfl,rfl⟩:=he
      simp only[Bool.and_eq_true]at hc
      obtain⟨⟨⟨⟨⟨⟨⟨⟨⟨c1,av⟩,bg⟩,bw⟩,cG⟩,dT⟩,ks⟩,kt⟩,nT⟩,yI⟩:=hc
      have av:=Nat.eq_of_beq_eq_true av
      subst av
      intro bq hb'
      rcases yr hr bq hb' with h5|h5
      ·rcases List.mem_cons.1 h5 with rfl|h5
       ·exact .inr ⟨_,_,_,_,_,hbl⟩
       ·exact .inl h5
      ·exact .inr h5
     ·cases he
   ·cases he
  ·cases he
theorem AQ {i:Nat} {p:af}:∀{us:List Nat} {bl:List af},bl[i]?=some p->i∉us->(gp us bl)[i]?=some p
 |[],bl,h,_=>h
 |b::r,bl,h,hi=>by
  unfold gp
  split
  ·refine AQ ?_ λh=>hi (List.mem_cons_of_mem _ h)
   rw[fW,List.getElem?_set_ne (λe=>hi (by simp[e]))];exact h
  ·exact AQ h λh=>hi (List.mem_cons_of_mem _ h)
theorem Fv {N:Nat} {aH:Env} {a:Act} {w:World} {D F:Nat->Prop}:∀{l:List (Nat×List ag)} {gs:List Nat} {os zs:List Int} {v u:Nat} {tm:List V} {bl:List af} {m:Nat->Nat},R w0 N aH m tm bl a w->(∀g,D g->a7 w0 aH m bl g)->k6 w0 aH m bl w D->jK w0 w a.tmps D F l gs os zs->(∀g,F g->∀(i:Nat) (p:af),bl[i]?=some p->m i=g->aE aH p.1<=1)->
 (∀j,j<zs.length->aH (v+j)=zs.getD j 0)->(∀j,j<os.length->aH (u+j)=os.getD j 0)->v+zs.length<=N->u+os.length<=N->
 ∃c4,(∀b,b<bl.length->c4 b=m b)/\bl.length<=(headD l v u tm bl).2.length/\R w0 N aH c4 (headD l v u tm bl).1 (headD l v u tm bl).2 a w/\(∀(i:Nat) (p:af),(headD l v u tm bl).2[i]?=some p->(i<bl.length/\bl[i]?=some p)∨(aE aH p.1≠0->F (c4 i)))/\(∀g,D g->a7 w0 aH c4 (headD l v u tm bl).2 g)/\k6 w0 aH c4 (headD l v u tm bl).2 w D
 |[],[],[],[],v,u,tm,bl,m,h,m3,hU,_,_,_,_,_,_=>⟨m,λ_ _=>rfl,Nat.le_refl _,h,λi p hp=> .inl ⟨(List.getElem?_eq_some_iff.1 hp).1,hp⟩,m3,hU⟩
 |(s,sh)::r,g::gs,o::os,code::len::cap::zs,v,u,tm,bl,m,h,m3,hU,hf,hF,hv,hu,hN,zo=>by
  obtain⟨f1,f2,f3,f4,f5,f6,f7⟩:=hf
  have v0:=hv 0 (by simp)
  have v1:=hv 1 (by simp)
  have v2:=hv 2 (by simp)
  have u0:=hu 0 (by simp)
  simp only[List.getD_cons_zero,List.getD_cons_succ,Nat.add_zero]at v0 v1 v2 u0
  simp only[List.length_cons]at hN zo
  have hc:(-2:Int)<=cap/\cap<=9223372036854775807:=⟨f2.2.1.1,by have:=f2.2.1.2;omega⟩
  have hA:(A.rows sh (.var u) (.var v) (.var (v+2)) 1).ok N bl.length aH:=⟨⟨I.cq (by omega),I.cq (by omega),I.cq (by omega)⟩,by rw[I.ba,v0];exact f3,by rw[I.ba,v2];exact hc⟩
  have z8:aE aH [A.rows sh (.var u) (.var v) (.var (v+2)) 1]<=1:=by
   simp only[aE]
   split<;>omega
  have py:∀a6,D a6->a7 w0 aH (dY m bl.length g) (bl++[([.rows sh (.var u) (.var v) (.var (v+2)) 1],(0,false))]) a6:=λa6 gh=>(m3 a6 gh).push (.inl z8)
  have fC:eD w0 aH D g sh (.var u) (.var v) (.var (v+2)) 1 0 w:=by
   intro _
   simp only[I.ba,v0,v2,u0]
   refine⟨f4,λh0=>?_⟩
   obtain⟨kL,cells,t,fz,k1,k2⟩:=f5 h0
   exact⟨kL,cells,t,fz,k1,⟨f2.1.1,k2⟩,λbt=>by omega⟩
  have zq:k6 w0 aH (dY m bl.length g) (bl++[([.rows sh (.var u) (.var v) (.var (v+2)) 1],(0,false))]) w D:=λi bH cf code' b9 c6 t' hi=>by
   rcases uJ hi with⟨bW,h1⟩|⟨rfl,h1⟩
   ·rw[eT bW];exact hU i bH cf code' b9 c6 t' h1
   ·cases h1
    rw[fZ];exact fC
  have gA:=h.aQ.push (x:=([.rows sh (.var u) (.var v) (.var (v+2)) 1],(0,false))) (g:=g) h.b (λy hy=>by simp at hy;subst hy;exact hA) (λho=>by cases ho) (λbH cf code' b9 c6 he=>by
   cases he
   exact fC.mono py) (λi p hi he=>by
   rcases Int.lt_or_le cap 0 with h0|h0
   ·refine .inr (.inr ?_)
    simp only[aE,I.ba,v2]
    rw[if_pos h0]
   ·exact .inl ⟨hF g (f6 h0) i p hi he,z8⟩) (λi bH cf code' b9 c6 t' hi=>(hU i bH cf code' b9 c6 t' hi).mono py)
  have hL:=bK.alloc N aH m bl ([A.rows sh (.var u) (.var v) (.var (v+2)) 1],(0,false)) g
  have hR:R w0 N aH (dY m bl.length g) (lL tm s (.w (.one (.sl bl.length sh.length (.var u) (.const 0) (.var (v+1)) (.var (v+2)))))) (bl++[([.rows sh (.var u) (.var v) (.var (v+2)) 1],(0,false))]) a w:=by
   refine⟨bS.set (h.t.ext hL.ha hL.hn hL.hb hL.hm) ?_ λx hx=>?_,h.d,h.b.alloc (λy hy=>by simp at hy;subst hy;exact hA),gA⟩
   ·refine⟨by simp,⟨I.cq (by omega),I.br _ _,I.cq (by omega),I.cq (by omega)⟩,?_⟩
    simp only[I.ay,I.ba,v1,v2,u0];exact f2
   ·rw[f1 x hx]
    simp only[V.rel,W.den,A.den,I.ay,I.ba,v1,v2,u0,fZ]
    split<;>simp
  obtain⟨c4,q1,q2,q3,q4,kf,kR⟩:=Fv (F:=F) (l:=r) (gs:=gs) (os:=os) (zs:=zs) (v:=v+3) (u:=u+1) hR py zq f7 (λa6 gh i p hi he=>by
   rw[List.getElem?_append]at hi
   split at hi
   ·rename_i bW
    rw[eT bW]at he
    exact hF a6 gh i p hi he
   ·have bW:=(List.getElem?_eq_some_iff.1 hi).1
    have:i=bl.length:=by simp at bW;omega
    subst this
    simp only[Nat.sub_self,List.getElem?_cons_zero,Option.some.injEq]at hi
    subst hi
    exact z8) (λj hj=>by
   have:=hv (j+3) (by simp only[List.length_cons];omega)
   rw[show v+3+j=v+(j+3) by omega];simpa using this) (λj hj=>by
   have:=hu (j+1) (by simp only[List.length_cons];omega)
   rw[show u+1+j=u+(j+1) by omega];simpa using this) (by omega) (by omega)
  simp only[List.length_append,List.length_cons,List.length_nil]at q1 q2
  refine⟨c4,λb hb=>by rw[q1 b (by omega)];exact eT hb,by unfold headD;omega,by unfold headD;exact q3,λi p hp=>?_,by unfold headD;exact kf,by unfold headD;exact kR⟩
  unfold headD at hp
  rcases q4 i p hp with⟨q5,q6⟩|q5
  ·simp only[List.length_append,List.length_cons,List.length_nil]at q5
   rw[List.getElem?_append]at q6
   split at q6
   ·rename_i bW;exact .inl ⟨bW,q6⟩
   ·rename_i bW
    have hi:i=bl.length:=by omega
    subst hi
    simp only[Nat.sub_self,List.getElem?_cons_zero,Option.some.injEq]at q6
    subst q6
    refine .inr λh0=>?_
    rw[q1 bl.length (by omega),fZ]
    refine f6 ?_
    rcases Int.lt_or_le cap 0 with h1|h1
    ·refine absurd ?_ h0
     simp only[aE,I.ba,v2]
     rw[if_pos h1]
    ·exact h1
  ·exact .inr q5
 |_::_,[],_,_,_,_,_,_,_,_,_,_,h,_,_,_,_,_=>h.elim
 |_::_,_::_,[],_,_,_,_,_,_,_,_,_,h,_,_,_,_,_=>h.elim
 |_::_,_::_,_::_,[],_,_,_,_,_,_,_,_,h,_,_,_,_,_=>h.elim
 |_::_,_::_,_::_,[_],_,_,_,_,_,_,_,_,h,_,_,_,_,_=>h.elim
 |_::_,_::_,_::_,[_,_],_,_,_,_,_,_,_,_,h,_,_,_,_,_=>h.elim
 |[],_::_,_,_,_,_,_,_,_,_,_,_,h,_,_,_,_,_=>h.elim
 |[],[],_::_,_,_,_,_,_,_,_,_,_,h,_,_,_,_,_=>h.elim
 |[],[],[],_::_,_,_,_,_,_,_,_,_,h,_,_,_,_,_=>h.elim
theorem Fw {D:Nat->Prop} {li:dh} {n:Nat} {aY aa:Env} {m0 m':Nat->Nat} {tm bd fF nE:List V} {bl az dr mS:List af} {l1 l2 v1 v2 lb la eB:List I} {b1 b2 qS o8:List (Int×Int)} {n':Nat} {a:Act} {w:World} {NA ND NN:Nat} {gs:List Nat} {os:List Int}
 (hlen:bl.length<=az.length)
 (ha:agree n aY aa) (hm:∀b,b<bl.length->m' b=m0 b) (ht:∀v∈tm,V.ok n bl.length aY v) (fA:bm n bl.length aY bl)
 (h:R w0 n' aa m' bd az a w) (e1:hs li.keep li.ints 0 (n+1) tm=some (fF,l1,b1)) (e2:hb li.cells 0 (n+1+l1.length) bl=some (dr,l2,b2))
 (e3:hs li.keep li.ints 0 (n+1) bd=some (nE,v1,qS)) (dG:hb li.cells 0 (n+1+v1.length) (az.take bl.length)=some (mS,v2,o8))
 (f1:gR fF nE=true) (f2:iQ dr mS=true) (Fc:qH a.tmps li.jr (lb.map (·.den aa))) (rD:oN w0 w a.tmps D (λg=>(∀(i:Nat) (p:af),i<bl.length->az[i]?=some p->m' i=g->aE aa p.1=0)/\¬∃(i:Nat) (p:af),az[i]?=some p/\m' i=g/\aE aa p.1=1) li.iM (la.map (·.den aa)))
 (m3:∀g,D g->a7 w0 aa m' az g) (hU:k6 w0 aa m' az w D)
 (rV:jK w0 w a.tmps D (λg=>∃(i:Nat) (p:af),az[i]?=some p/\m' i=g/\aE aa p.1=1) li.fU gs os (eB.map (·.den aa)))
 (EX:NA=n+1+l1.length+l2.length+lb.length) (EY:ND=n+1+l1.length+l2.length+(lb++la).length) (EZ:NN=n+1+l1.length+l2.length+(lb++la++eB).length):
 bb (b1++b2++(vC li.jr++o0 li.iM++qt li.fU)) ((v1++v2++(lb++la++eB)).map (·.den aa))/\∃c4,(∀b,b<bl.length->c4 b=m0 b)/\bl.length<=(j0 li.iM NA (headD li.fU ND NN (lu li.jr (n+1+l1.length+l2.length) fF) dr).1 (headD li.fU ND NN (lu li.jr (n+1+l1.length+l2.length) fF) dr).2).2.length/\
  R w0 (NN+li.fU.length) (bk (bk aY (n+1) ((v1++v2++(lb++la++eB)).map (·.den aa))) NN os) c4 (j0 li.iM NA (headD li.fU ND NN (lu li.jr (n+1+l1.length+l2.length) fF) dr).1 (headD li.fU ND NN (lu li.jr (n+1+l1.length+l2.length) fF) dr).2).1 (j0 li.iM NA (headD li.fU ND NN (lu li.jr (n+1+l1.length+l2.length) fF) dr).1 (headD li.fU ND NN (lu li.jr (n+1+l1.length+l2.length) fF) dr).2).2 a w:=by
 obtain⟨N6,i1,i2,i3,i4,i5,i6⟩:=ME (D:=D) (ext:=lb++la++eB) hlen ha hm ht fA h e1 e2 e3 dG f1 f2 m3 hU
 obtain⟨Nv,UA⟩:=rV.len
 subst EX;subst EY;subst EZ
 have ob:∀j,j<(lb++la++eB).length->bk aY (n+1) ((v1++v2++(lb++la++eB)).map (·.den aa)) (n+1+l1.length+l2.length+j)=((lb++la++eB).map (·.den aa)).getD j 0:=λj hj=>by
  rw[show n+1+l1.length+l2.length+j=n+1+(v1.length+v2.length+j) by omega,u9 _ _ _ _ (by simp at hj⊢;omega)]
  rw[List.map_append (l₁:=v1++v2),List.getD_eq_getElem?_getD,List.getElem?_append_right (by simp),List.getD_eq_getElem?_getD]
  congr 2
  simp
 generalize UH:bk aY (n+1) ((v1++v2++(lb++la++eB)).map (·.den aa))=aH at*
 have kC:agree (n+1+l1.length+l2.length+(lb++la++eB).length) aH (bk aH (n+1+l1.length+l2.length+(lb++la++eB).length) os):=agree.bk os _ aH
 have Ol:=i2.later (Nat.le_add_right _ li.fU.length) kC
 have zQ:∀j,j<(lb++la++eB).length->bk aH (n+1+l1.length+l2.length+(lb++la++eB).length) os (n+1+l1.length+l2.length+j)=((lb++la++eB).map (·.den aa)).getD j 0:=λj hj=>by
  rw[<-ob j hj]
  exact(kC _ (by omega))
 have wD:∀(i:Nat) (p:af),dr[i]?=some p->aE (bk aH (n+1+l1.length+l2.length+(lb++la++eB).length) os) p.1=aE aH p.1:=λi p hi=>hY (i2.b p (List.mem_of_getElem? hi)) kC
 have Om:∀g,D g->a7 w0 (bk aH (n+1+l1.length+l2.length+(lb++la++eB).length) os) m0 dr g:=λg hg=>a7.cK i2.b kC (i5 g hg)
 have On:k6 w0 (bk aH (n+1+l1.length+l2.length+(lb++la++eB).length) os) m0 dr w D:=λi sh off code cap kind t hi=>(i6 i sh off code cap kind t hi).cK (i2.b _ (List.mem_of_getElem? hi) _ (by simp)) kC
 generalize Oj:bk aH (n+1+l1.length+l2.length+(lb++la++eB).length) os=dg at*
 have hB:=Fu (v:=n+1+l1.length+l2.length) Ol Fc (λj hj=>by
  simp only[List.length_map]at hj
  rw[zQ j (by simp;omega),List.append_assoc,List.map_append,List.getD_eq_getElem?_getD,List.getElem?_append_left (by simpa using hj),List.getD_eq_getElem?_getD]) (by simp;omega)
 obtain⟨kb,p1,bc,bx,dw,dO,e8⟩:=Fv (D:=D) (v:=n+1+l1.length+l2.length+(lb++la).length) (u:=n+1+l1.length+l2.length+(lb++la++eB).length) hB Om On rV (λg hg i p hi he=>by
  obtain⟨g1,bo,g2,g3⟩:=i4 i p hi
  rw[wD i p hi,g3]
  obtain⟨j,q,q1,q2,q3⟩:=hg
  rcases h.aQ.inj i j bo q g2 q1 (by rw[q2,<-he,hm i g1])with bt|bt|bt|bt
  ·subst bt
   rw[g2]at q1;cases q1
   omega
  ·exact bt.1
  ·omega
  ·omega) (λj hj=>by
  simp only[List.length_map]at hj
  rw[show n+1+l1.length+l2.length+(lb++la).length+j=n+1+l1.length+l2.length+((lb++la).length+j) by omega,zQ _ (by simp at hj⊢;omega),List.map_append (l₁:=lb++la),List.getD_eq_getElem?_getD,List.getElem?_append_right (by simp),List.getD_eq_getElem?_getD]
  congr 2
  simp) (λj hj=>by rw[<-Oj,u9 _ _ _ _ hj]) (by simp only[List.length_map,List.length_append];omega) (by rw[Nv];exact Nat.le_refl _)
 obtain⟨c4,q1,q2,q3⟩:=Ft (v:=n+1+l1.length+l2.length+lb.length) bx dO e8 rD (λg hg i p hi he=>by
  rcases dw i p hi with⟨g0,g1⟩|g1
  ·obtain⟨fi,bo,g2,g3⟩:=i4 i p g1
   rw[wD i p g1,g3]
   exact hg.1 i bo fi g2 (by rw[hm i fi,<-p1 i g0];exact he)
  ·by_cases h0:aE dg p.1=0
   ·exact h0
   ·have:=g1 h0
    rw[he]at this
    exact absurd this hg.2) (λj hj=>by
  simp only[List.length_map]at hj
  rw[show n+1+l1.length+l2.length+lb.length+j=n+1+l1.length+l2.length+(lb.length+j) by omega,zQ _ (by simp;omega),List.append_assoc,List.map_append,List.getD_eq_getElem?_getD,List.getElem?_append_right (by simp),List.map_append,List.getElem?_append_left (by simp;omega),List.getD_eq_getElem?_getD]
  congr 2
  simp) (by simp;omega)
 refine⟨?_,c4,λb hb=>by rw[q1 b (by rw[i3]at bc;omega),p1 b (by rw[i3];exact hb)],by rw[i3]at bc;omega,q3⟩
 rw[List.map_append,List.map_append (l₁:=lb++la),List.map_append (l₁:=lb)]
 exact np i1 (np (np (Gs Fc) (Gq rD)) (Gt rV))
theorem yD {a b c:Nat} (h:a=c) (h':b=c):b=a:=h'.trans h.symm
theorem Pw {li:dh} {c:Code} {e:Nat->List V->List af->km->T} (hd:rd=none∨h8 c=true) (he:x8 rd S L w0 P c e) {Q:Exit->Act->World->Prop} {n:Nat} {ρ:Env} {m:Nat->Nat} {tm:List V} {bl:List af} {a:Act} {w:World} {G:bZ} {k:km}
 (h:R w0 n ρ m tm bl a w) (ad:(A5 li e n tm bl k).holds S L G ρ) (hk:qI S L w0 k n bl.length ρ m G Q):(Code.loop c).wpIn (jH rd) 0 P Q a w:=by
 unfold A5 at ad
 obtain⟨Jc,Hg,DB,FU,E7,⟨hz1,wS⟩,ad⟩:=BS (S:=S) (L:=L) h G _ ad
 have hk:=hk.later (⟨FU,E7,by rw[wS];exact Nat.le_refl _,λ_ _=>rfl⟩:bK n bl.length ρ m Hg DB.length Jc m) (cl.refl _ G)
 clear h
 have h:=hz1
 clear hz1 wS FU E7
 revert h hk ad
 generalize Hg=n
 generalize Jc=ρ
 generalize DB=bl
 intro ad hk h
 obtain⟨aY,n0,tm,iW,ha0,NX,ad⟩:=tl (S:=S) (L:=L) h.t G _ ad
 have tu:=h.later iW ha0
 have h:R w0 n0 aY m tm bl a w:=⟨NX,tu.d,tu.b,tu.aQ⟩
 have hk:=hk.later (⟨iW,ha0,Nat.le_refl _,λ_ _=>rfl⟩:bK n bl.length ρ m n0 bl.length aY m) (cl.refl _ G)
 obtain⟨ak,n1,lb,cv,bG,⟨s1,s2,my⟩,ad⟩:=yE (S:=S) (L:=L) h.t G _ ad
 have h1:=h.later cv bG
 have hk:=hk.later (⟨cv,bG,Nat.le_refl _,λ_ _=>rfl⟩:bK n0 bl.length aY m n1 bl.length ak m) (cl.refl _ G)
 split at ad
 rotate_left
 ·exact ad.elim
 rename_i fF l1 b1 la us eB e1 Eh K3
 obtain⟨a1,a2,_,_,a5⟩:=vl h1 Eh
 obtain⟨k1,k2,k3⟩:=AR (us:=us) h1
 obtain⟨r1,r2,gs,os,dK⟩:=xz h1 K3
 cases e2:hb li.cells 0 (n1+1+l1.length) (gp us bl)with
 |none=>rw[e2]at ad;exact ad.elim
 |some q2=>
  obtain⟨dr,l2,b2⟩:=q2
  rw[e2]at ad
  simp only at ad
  cases hf:(gR fF fF&&iQ dr dr)with
  |false=>rw[hf]at ad;exact ad.elim
  |true=>
   rw[hf]at ad
   simp only[Bool.not_true,cond_false,T.holds]at ad
   simp only[Bool.and_eq_true]at hf
   obtain⟨jJ,jF,LF,hB⟩:=ad
   have Ga:∀v∈tm,V.ok n1 (gp us bl).length ak v:=λv hv=>by
    obtain⟨i,hi⟩:=List.getElem?_of_mem hv
    exact(k1.t.2 i v hi).1
   have KW:hb li.cells 0 (n1+1+l1.length) ((gp us bl).take (gp us bl).length)=some (dr,l2,b2):=by rw[List.take_length];exact e2
   have L9:oN w0 w a.tmps (a7 w0 ak m bl) (λg=>(∀(i:Nat) (p:af),i<(gp us bl).length->(gp us bl)[i]?=some p->m i=g->aE ak p.1=0)/\¬∃(i:Nat) (p:af),(gp us bl)[i]?=some p/\m i=g/\aE ak p.1=1) li.iM (la.map (·.den ak)):=by
    refine a5 _ λb p hb _ hbl dV e4=>?_
    have key:∀(i:Nat) (q:af),(gp us bl)[i]?=some q->m i=m b->aE ak q.1=0:=λi q hi he=>by
     rcases k3 i q hi with⟨g1,g2⟩|g1
     ·by_cases eb:i=b
      ·subst eb
       rw[hbl]at g1;cases g1
       rcases g2 hb with g2|g2
       ·rw[e4]at g2;cases g2
       ·exact g2
      ·rcases h1.aQ.inj i b q p g1 hbl he with g3|g3|g3|g3
       ·exact absurd g3 eb
       ·omega
       ·exact g3
       ·omega
     ·exact g1
    exact⟨λi q _ hi he=>key i q hi he,λ⟨i,q,hi,he,hk⟩=>by have:=key i q hi he;omega⟩
   have rV:jK w0 w a.tmps (a7 w0 ak m bl) (λg=>∃(i:Nat) (p:af),(gp us bl)[i]?=some p/\m i=g/\aE ak p.1=1) li.fU gs os (eB.map (·.den ak)):=by
    refine dK.mono λg ⟨i,p,hi,he,hk⟩=>⟨i,p,AQ hi λhu=>?_,he,hk⟩
    rcases yr Eh i hu with bt|⟨sh,off,code,cap,t,bt⟩
    ·simp at bt
    ·rw[hi]at bt
     cases bt
     simp only[aE]at hk
     split at hk<;>omega
   obtain⟨i1,c4,i2,i3,i4⟩:=Fw (Nat.le_refl _) (agree.refl n1 ak) (λ_ _=>rfl) Ga k1.b k1 e1 e2 e1 KW hf.1 hf.2 my L9 (λg hg=>⟨hg.1,λi p hi hk=>by
    rcases k3 i p hi with⟨g1,_⟩|g1
    ·exact hg.2 i p g1 hk
    ·omega⟩) (λi sh off code cap kind t hi=>by
    rcases k3 i _ hi with⟨g1,_⟩|g1
    ·exact h1.aQ.rws i sh off code cap kind t g1
    ·intro eO
     refine⟨(k1.aQ.rws i sh off code cap kind t hi eO).1,λhc=>?_⟩
     simp only[e6 eO hc]at g1
     exact absurd g1 eO) rV rfl rfl rfl
   generalize EZ:n1+1+l1.length+l2.length+(lb++la++eB).length=NN at*
   generalize EY:n1+1+l1.length+l2.length+(lb++la).length=ND at*
   generalize EX:n1+1+l1.length+l2.length+lb.length=NA at*
   generalize MA:headD li.fU ND NN (lu li.jr (n1+1+l1.length+l2.length) fF) dr=d at*
   refine wpIn_loop_ghost (λN b6 w'=>∃zs os c4,bb (b1++b2++(vC li.jr++o0 li.iM++qt li.fU)) zs/\jJ zs/\jF zs=N/\(os.length=li.fU.length/\∀z∈os,0<=z)/\(∀b,b<(gp us bl).length->c4 b=m b)/\
    R w0 (NN+li.fU.length) (bk (bk ak (n1+1) zs) NN os) c4 (j0 li.iM NA d.1 d.2).1 (j0 li.iM NA d.1 d.2).2 b6 w') (jF ((l1++l2++(lb++la++eB)).map (·.den ak))) ⟨_,os,c4,i1,LF,rfl,rV.len,i2,i4⟩ ?_
   rintro N a1 w1 ⟨zs,Bp,c4,hz1,wS,rfl,⟨rZ,nm⟩,Of,gm⟩
   have rF:=natsM_holds (mP hB hz1 wS) rZ nm
   refine he hd _ _ _ _ _ _ _ a1 w1 _ gm rF λx n' aa m' bd az b8 b6 w' h1 h2 h3 h4=>?_
   have pD:agree n1 ak (bk ak (n1+1) zs):=(agree.bk _ (n1+1) ak).mono (by omega)
   have Mc:agree n1 ak (bk (bk ak (n1+1) zs) NN Bp):=pD.trans (agree.bk Bp NN _) (by omega)
   have LG:bK n1 bl.length ak m (NN+li.fU.length) (j0 li.iM NA d.1 d.2).2.length (bk (bk ak (n1+1) zs) NN Bp) c4:=⟨by omega,Mc,by rw[k2]at i3;exact i3,λb hb=>Of b (by rw[k2];exact hb)⟩
   have n5:cl n1 G (G.set n1 λvs=>jJ vs/\jF vs<jF zs):=λl hl=>by
    unfold bZ.set
    cases hb:Nat.beq l n1 with
    |true=>have:=Nat.eq_of_beq_eq_true hb;omega
    |false=>rfl
   have hL:=LG.trans h1
   have LD:b8 n1=λvs=>jJ vs/\jF vs<jF zs:=by
    rw[h2 n1 (by omega)]
    unfold bZ.set
    have:Nat.beq n1 n1=true:=Nat.beq_refl n1
    rw[this];rfl
   cases x with
   |exit id=>exact hk (.exit id) n' aa m' bd az b8 b6 w' hL (n5.trans h2 (by omega)) h3 h4
   |ret=>exact hk .ret n' aa m' bd az b8 b6 w' hL (n5.trans h2 (by omega)) h3 h4
   |normal=>
    simp only at h4
    obtain⟨CA,uB,bd,FQ,E4,NZ,h4⟩:=tl (S:=S) (L:=L) h3.t b8 _ h4
    have zj:=h3.later FQ E4
    have h3:R w0 uB CA m' bd az b6 w':=⟨NZ,zj.d,zj.b,zj.aQ⟩
    have hL:=hL.trans (⟨FQ,E4,Nat.le_refl _,λ_ _=>rfl⟩:bK n' az.length aa m' uB az.length CA m')
    obtain⟨kl,si,GJ,bX,bN,⟨t1,t2,t3⟩,h4⟩:=yE (S:=S) (L:=L) h3.t b8 _ h4
    have h3:=h3.later bX bN
    split at h4
    rotate_left
    ·exact h4.elim
    rename_i nE v1 qS AV gZ GU e3 K2 K4
    obtain⟨c1,av,_,bw,cG⟩:=vl h3 K2
    obtain⟨d1,d2,Ud,uG,d3⟩:=xz h3 K4
    cases dG:hb li.cells 0 (n1+1+v1.length) (az.take bl.length)with
    |none=>rw[dG]at h4;exact h4.elim
    |some q4=>
     obtain⟨mS,v2,o8⟩:=q4
     rw[dG]at h4
     simp only at h4
     cases ea:(gR fF nE&&iQ dr mS)with
     |false=>rw[ea]at h4;exact h4.elim
     |true=>
      rw[ea]at h4
      simp only[cond_true,T.holds,LD]at h4
      simp only[Bool.and_eq_true]at ea
      have hL2:=hL.trans (⟨bX,bN,Nat.le_refl _,λ_ _=>rfl⟩:bK uB az.length CA m' si az.length kl m')
      have Ma:oN w0 w' b6.tmps (a7 w0 kl m' az) (λg=>(∀(i:Nat) (p:af),i<(gp us bl).length->az[i]?=some p->m' i=g->aE kl p.1=0)/\¬∃(i:Nat) (p:af),az[i]?=some p/\m' i=g/\aE kl p.1=1) li.iM (AV.map (·.den kl)):=by
       refine cG _ λb p hb _ hbl dV e4=>⟨λi q bW hi he=>?_,λ⟨i,q,hi,he,hk⟩=>?_⟩
       ·have Fg:bl.length<=b:=by
         rcases bw b hb with h|h
         ·simp at h
         ·exact h
        rw[k2]at bW
        rcases h3.aQ.inj i b q p hi hbl he with g3|g3|g3|g3
        ·omega
        ·omega
        ·exact g3
        ·omega
       ·rcases h3.aQ.inj i b q p hi hbl he with g3|g3|g3|g3
        ·subst g3
         rw[hi]at hbl;cases hbl
         omega
        ·omega
        ·omega
        ·omega
      obtain⟨iB,qh,OF,UK,GC⟩:=Fw (NA:=NA) (ND:=ND) (NN:=NN) (by rw[k2];exact hL2.hb) hL2.ha (λb hb=>hL2.hm b (by rw[k2]at hb;exact hb)) Ga k1.b h3 e1 e2 e3 (by rw[k2];exact dG) ea.1 ea.2 t3 Ma (λg hg=>hg) h3.aQ.rws d3 (by have:=t2;have:=yD s2 t2;omega) (by have:=yD s2 t2;simp only[List.length_append]at*;omega) (by have:=yD s2 t2;simp only[List.length_append]at*;omega)
      rw[MA]at GC
      exact⟨_,h4.2,_,uG,qh,iB,h4.1,rfl,d3.len,OF,GC⟩
theorem toL {ops:Array Oper}:ops.toList.toArray=ops:=Array.toArray_toList
theorem zf (N:Nat):∀(i:Nat) (bl:List af),(dA N i bl).length=bl.length
 |_,[]=>rfl
 |i,_::r=>by simp[dA,zf N (i+1) r]
theorem rr (N:Nat):∀(i:Nat) (bl:List af) (k:Nat) (p:af),(dA N i bl)[k]?=some p->p=nU∨(i+k<N/\(bj p.1||mi p.1)=true/\bl[k]?=some p)
 |_,[],k,p,h=>by simp[dA]at h
 |i,q::r,0,p,h=>by
  simp only[dA,List.getElem?_cons_zero,Option.some.injEq]at h
  cases hc:(Nat.blt i N&&(bj q.1||mi q.1))with
  |false=>rw[hc]at h;exact .inl h.symm
  |true=>
   rw[hc]at h
   simp only[cond_true]at h
   subst h
   simp only[Bool.and_eq_true]at hc
   exact .inr ⟨by simpa using jP hc.1,hc.2,rfl⟩
 |i,q::r,k+1,p,h=>by
  rcases rr N (i+1) r k p (by simpa [dA]using h)with h1|⟨h1,h2,h3⟩
  ·exact .inl h1
  ·exact .inr ⟨by omega,h2,by simpa using h3⟩
theorem HG:∀{a b:List af},preB a b=true->∀(k:Nat) (p:af),a[k]?=some p->b[k]?=some p
 |[],_,_,_,_,h=>by simp at h
 |(c,t)::r,(c',t')::s,hf,k,p,h=>by
  simp only[preB,Bool.and_eq_true]at hf
  obtain⟨⟨⟨h1,h2⟩,h3⟩,h4⟩:=hf
  cases k with
  |zero=>
   have e1:=s7 h1;have e2:=Nat.eq_of_beq_eq_true h2;have e3:t.2=t'.2:=by simpa using h3
   have:t=t':=Prod.ext e2 e3
   subst e1;subst this
   simpa using h
  |succ k=>have:=HG h4 k p (by simpa using h);simpa using this
 |_::_,[],h,_,_,_=>by simp[preB]at h
theorem OE {c:List A} (h:mi c=true):∃sh off code cap,c=[.rows sh off code cap 1]:=by
 unfold mi at h
 split at h
 ·rename_i sh off code cap k
  have:=Nat.eq_of_beq_eq_true h
  subst this
  exact⟨sh,off,code,cap,rfl⟩
 ·cases h
def xG (ρ aH:Env) (c:List A):Prop:=∀sh off code cap k,c=[.rows sh off code cap k]->off.den aH=off.den ρ/\code.den aH=code.den ρ/\cap.den aH=cap.den ρ
theorem AT {ρ aH:Env} {c:List A} (h:(bj c||mi c)=true) (hr:xG ρ aH c):aE aH c=aE ρ c:=by
 rcases Bool.or_eq_true _ _▸h with h|h
 ·rw[iC h,iC h]
 ·obtain⟨sh,off,code,cap,rfl⟩:=OE h
  simp only[aE,(hr sh off code cap 1 rfl).2.2]
theorem Mem.sub {ρ aH:Env} {m c4:Nat->Nat} {bl ir:List af} {w:World} (h:Mem w0 ρ m bl w) (hs:∀(i:Nat) (p:af),ir[i]?=some p->p=nU∨(bl[i]?=some p/\(bj p.1||mi p.1)=true/\c4 i=m i/\p.1.map (A.den aH c4)=p.1.map (A.den ρ m)/\xG ρ aH p.1)):Mem w0 aH c4 ir w:=by
 have eO:aE aH nU.1=0:=by simp[nU,aE]
 refine⟨h.ext,h.fD,h.jb,h.iY,h.eG,h.iS,λi cs t hi ho=>?_,λi sh off code cap kind t hi=>?_,λi j p q hi hj he=>?_⟩
 ·rcases hs i _ hi with h1|⟨h1,_,h3,h4,_⟩
  ·cases h1;simp[bj]at ho
  ·rw[h3,h4];exact h.c9 i cs t h1 ho
 ·rcases hs i _ hi with h1|⟨h1,h2,h3,_,h5⟩
  ·cases h1;intro hk;exact absurd rfl hk
  ·obtain⟨e1,e2,e3⟩:=h5 sh off code cap kind rfl
   have:=(h.rws i sh off code cap kind t h1).mono (F':=a7 w0 aH c4 ir) (a7.mono λj p hj hk=>by
    rcases hs j p hj with g1|⟨g1,g2,g3,_,g5⟩
    ·subst g1;rw[eO]at hk;omega
    ·exact⟨j,p,g1,by rw[<-AT g2 g5];exact hk,g3.symm⟩)
   unfold eD at this⊢
   rw[e1,e2,e3,h3];exact this
 ·rcases hs i _ hi with h1|⟨h1,h2,h3,_,h5⟩
  ·subst h1;exact .inr (.inr (.inl eO))
  ·rcases hs j _ hj with g1|⟨g1,g2,g3,_,g5⟩
   ·subst g1;exact .inr (.inr (.inr eO))
   ·rw[AT h2 h5,AT g2 g5]
    exact h.inj i j p q h1 g1 (by rw[<-h3,<-g3];exact he)
theorem bm.dA {n nb:Nat} {ρ:Env} {bl:List af} (h:bm n nb ρ bl) (N:Nat):bm n nb ρ (Go.aZ.dA N 0 bl):=λp hp=>by
 obtain⟨i,hi⟩:=List.mem_iff_getElem?.1 hp
 rcases rr N 0 bl i p hi with h1|⟨_,_,h3⟩
 ·subst h1
  intro a ha
  simp only[nU,List.mem_singleton]at ha
  subst ha
  exact⟨⟨I.br _ _,I.br _ _,I.br _ _⟩,⟨by simp[I.ay],by rw[I.ay];exact Int.le_trans (cE []) (jj (by simp) (λ_ h=>by cases h))⟩,by simp[I.ay]⟩
 ·exact h p (List.mem_of_getElem? h3)
theorem H8 {n nb:Nat} {ρ aa:Env} {c:List A} (aK:∀a∈c,A.ok n nb ρ a) (ha:agree n ρ aa) (back:Bool):cond back (xG aa ρ c) (xG ρ aa c):=by
 have key:∀sh off code cap k,c=[.rows sh off code cap k]->off.den aa=off.den ρ/\code.den aa=code.den ρ/\cap.den aa=cap.den ρ:=λsh off code cap k hc=>by
  have:=aK _ (by rw[hc];exact List.mem_singleton.2 rfl)
  obtain⟨⟨h1,h2,h3⟩,_⟩:=this
  exact⟨I.aP ha h1,I.aP ha h2,I.aP ha h3⟩
 cases back with
 |true=>exactλsh off code cap k hc=>by obtain⟨h1,h2,h3⟩:=key sh off code cap k hc;exact⟨h1.symm,h2.symm,h3.symm⟩
 |false=>exact key
theorem MG {N:Nat} {tm:List V} {bl:List af} {o:Oper} {a:Act} {w:World} {v:Value} (ho:wA N tm bl o=true) (h:qL P o a w v):(execOp a.eval o).run P w= .ok (.value v) w:=by
 rcases h with h|⟨f,args,h,_⟩
 ·exact h
 ·exfalso
  have key:∀s:Sem Value,(do pure (Next.value (<-s)):Sem Next).run P w= .ok (.enter f args) w->False:=λs hs=>by
   simp only[Sem.run_bind]at hs
   cases hx:s.run P w with
   |ok u w'=>rw[hx]at hs;simp at hs
   |halt x w'=>rw[hx]at hs;simp at hs
  unfold wA at ho
  split at ho
  ·rename_i op t x y u hop;exact key (eqGuard op t x y (a.eval x) (a.eval y) >>= λ_=>binOp op t (a.eval x) (a.eval y)) (by simpa [execOp,hop]using h)
  ·rename_i t x i hop;exact key (Instr.indexAt t (a.eval x) (a.eval i)) (by simpa [execOp,hop]using h)
  ·rename_i t x lo hi dv hop;exact key (Instr.sliceAt t (a.eval x) (lo.map a.eval) (hi.map a.eval) (dv.map a.eval)) (by simpa [execOp,hop]using h)
  ·rename_i t p hop;exact key (Instr.loadAt t (a.eval p)) (by simpa [execOp,hop]using h)
  ·cases ho
theorem MH {ops:Array Oper} {N:Nat} {tm:List V} {bl:List af} {o:Oper} {a:Act} {w:World} {v:Value} (ho:wz N tm bl o=true) (h:qL P o a w v):(execOp a.eval o).run P w= .ok (.value v) w:=by
 rcases h with h|⟨f,args,h,_⟩
 ·exact h
 ·exfalso
  have key:∀s:Sem Value,(do pure (Next.value (<-s)):Sem Next).run P w= .ok (.enter f args) w->False:=λs hs=>by
   simp only[Sem.run_bind]at hs
   cases hx:s.run P w with
   |ok u w'=>rw[hx]at hs;simp at hs
   |halt x w'=>rw[hx]at hs;simp at hs
  unfold wz at ho
  split at ho
  ·rename_i x hop;simp[execOp,hop]at h
  ·rename_i x hop;simp[execOp,hop]at h
  ·rename_i x i hop;exact key (Instr.extract (a.eval x) i) (by simpa [execOp,hop]using h)
  ·rename_i s x i hop;exact key (Instr.fieldAt s (a.eval x) i) (by simpa [execOp,hop]using h)
  ·rename_i t p hop;exact key (Instr.loadAt t (a.eval p)) (by simpa [execOp,hop]using h)
  ·rename_i t x lo hi dv hop;exact key (Instr.sliceAt t (a.eval x) (lo.map a.eval) (hi.map a.eval) (dv.map a.eval)) (by simpa [execOp,hop]using h)
  ·cases ho
theorem J1 {ops:Array Oper} {Q:Exit->Act->World->Prop} {inl:gL} (bV:fr S P gl w0 aL) (hg:ey gl w0) (jw:k7 S L w0 P inl) (hQ:∀c a w,¬Q (.panic c) a w)
 {N n0:Nat} {gb:List af} {aY:Env} {m0:Nat->Nat} (hN:N<=gb.length) (fA:bm n0 gb.length aY gb):∀(f:Nat) {listed:Array Bool} {n:Nat} {ρ:Env} {m:Nat->Nat} {tm:List V} {bl:List af} {a:Act} {w:World} {G:bZ} {k:di},
 R w0 n ρ m tm bl a w->bK n0 gb.length aY m0 n bl.length ρ m->(∀(k:Nat) (p:af),(dA N 0 gb)[k]?=some p->(dA N 0 bl)[k]?=some p)->(mQ P gl aL inl ops N (dA N 0 gb) f listed n tm bl k).holds S L G ρ->eL S L w0 k n bl.length ρ m G (Q .normal)->wpAnyH P .any ops Q (λw=>Mem w0 aY m0 (dA N 0 gb) w) f listed a w:=by
 have down:∀{n:Nat} {ρ:Env} {m:Nat->Nat} {bl:List af} {w:World},bK n0 gb.length aY m0 n bl.length ρ m->(∀(k:Nat) (p:af),(dA N 0 gb)[k]?=some p->(dA N 0 bl)[k]?=some p)->Mem w0 ρ m bl w->Mem w0 aY m0 (dA N 0 gb) w:=λhl hp hm=>by
  refine hm.sub λi p hi=>?_
  rcases rr N 0 gb i p hi with h1|⟨h1,h2,h3⟩
  ·exact .inl h1
  ·refine .inr ?_
   rcases rr N 0 _ i p (hp i p hi)with g1|⟨_,_,g3⟩
   ·subst g1;simp[nU,bj,mi]at h2
   ·exact⟨g3,h2,(hl.hm i (by omega)).symm,(jA (fA p (List.mem_of_getElem? h3)) hl.ha hl.hm).symm,H8 (fA p (List.mem_of_getElem? h3)) hl.ha true⟩
 have up:∀{n:Nat} {ρ:Env} {m:Nat->Nat} {bl:List af} {w:World},bK n0 gb.length aY m0 n bl.length ρ m->(∀(k:Nat) (p:af),(dA N 0 gb)[k]?=some p->(dA N 0 bl)[k]?=some p)->Mem w0 aY m0 (dA N 0 gb) w->Mem w0 ρ m (dA N 0 bl) w:=λ{n ρ m bl w} hl hp hm=>by
  refine hm.sub λi p hi=>?_
  rcases rr N 0 bl i p hi with h1|⟨h1,h2,h3⟩
  ·exact .inl h1
  ·refine .inr ?_
   have hlt:i<(dA N 0 gb).length:=by rw[zf];omega
   have hq:=hp i _ (List.getElem?_eq_getElem hlt)
   rw[hi]at hq
   have hq:p=(dA N 0 gb)[i]:=Option.some.inj hq
   have h0:(dA N 0 gb)[i]?=some p:=by rw[List.getElem?_eq_getElem hlt,hq]
   rcases rr N 0 gb i p h0 with g1|⟨_,_,g3⟩
   ·subst g1;simp[nU,bj,mi]at h2
   ·exact⟨h0,h2,hl.hm i (by omega),jA (fA p (List.mem_of_getElem? g3)) hl.ha hl.hm,H8 (fA p (List.mem_of_getElem? g3)) hl.ha false⟩
 intro f
 induction f with
 |zero=>
  intro listed n ρ m tm bl a w G k h hl hp ad hk
  unfold mQ at ad
  unfold wpAnyH
  split at ad
  ·rename_i hr
   exact⟨hr,hk n ρ m tm bl G a w (bK.refl _ _ _ _) (cl.refl _ _) h ad⟩
  ·exact ad.elim
 |succ f ih=>
  intro listed n ρ m tm bl a w G k h hl hp ad hk
  unfold mQ at ad
  split at ad
  ·rename_i hr
   exact⟨λ_=>hk n ρ m tm bl G a w (bK.refl _ _ _ _) (cl.refl _ _) h ad,λi hi=>by rw[hr]at hi;cases hi⟩
  ·rename_i l hl0
   split at ad
   ·rename_i i hi
    unfold Fx at hi
    cases lz:Region.noSelect ops with
    |false=>rw[lz]at hi;cases hi
    |true=>
    rw[lz,cond_true]at hi
    have bE:=List.find?_some hi
    have j4:=List.mem_of_find?_eq_some hi
    simp only[Bool.and_eq_true]at bE
    cases ho:ops[i]? with
    |none=>simp only[ho]at ad;exact ad.elim
    |some o=>
     simp only[ho]at ad
     have eo:wz N tm bl o=true∨wA N tm bl o=true:=by
      have:=bE.1;simp only[ho,Bool.or_eq_true,Bool.and_eq_true]at this;exact this.imp id And.right
     obtain⟨bd,kI,hgd⟩:=tp h.t ad
     have h:R w0 n ρ m bd bl a w:=⟨kI,h.d,h.b,h.aQ⟩
     have fj:=down hl hp h.aQ
     rcases hgd with⟨hw,ad⟩|⟨hw,ad⟩
     ·have hlen:(dA N 0 bl).length=bl.length:=zf N 0 bl
      obtain⟨aa,n',v,ly,fy,⟨hv,val,hr,hq⟩,rL⟩:=BB (L:=L) (bl:=dA N 0 bl) bV (by rw[hlen];exact h.b.dA N) hg ⟨w,up hl hp fj⟩ (by rw[hlen];exact kI) o G _ ad
      rw[hlen]at hv
      have hy:YieldsIf P ops (λw=>Mem w0 aY m0 (dA N 0 gb) w) o val a:= .inl ⟨hw,λw' lD=>eo.elim (λhf=>MH (ops:=ops) hf (hq w' (up hl hp lD))) (λhf=>MG hf (hq w' (up hl hp lD)))⟩
      refine wpAnyH_take ho lz bE.2 (by simpa using j4) (λc a w hp=>absurd hp (hQ _ _ _)) hy fj ?_
      have hlt:bK n bl.length ρ m n' bl.length aa m:=⟨ly,fy,Nat.le_refl _,λ_ _=>rfl⟩
      exact ih ⟨bS.put (kI.ext fy ly (Nat.le_refl _) (λ_ _=>rfl)) o.dst hv hr,by rw[put_defers];exact h.d,h.b.ext fy ly (Nat.le_refl _),h.aQ.cK h.b fy⟩ (hl.trans hlt) hp rL (hk.later hlt (cl.refl _ _))
     ·refine wpAnyH_take ho lz bE.2 (by simpa using j4) (λc a w hp=>absurd hp (hQ _ _ _)) (.inr ⟨hw,rfl⟩) fj ?_
      exact ih (h.skip o.dst) hl hp ad hk
   split at ad
   ·rename_i i hi
    unfold Hi at hi
    cases lz:Region.noSelect ops with
    |false=>rw[lz]at hi;cases hi
    |true=>
    rw[lz,cond_true]at hi
    have bE:=List.find?_some hi
    have j4:=List.mem_of_find?_eq_some hi
    simp only[Bool.and_eq_true]at bE
    cases ho:ops[i]? with
    |none=>simp only[ho]at ad;exact ad.elim
    |some o=>
     simp only[ho]at ad
     obtain⟨bd,kI,hgd⟩:=tp h.t ad
     have h:R w0 n ρ m bd bl a w:=⟨kI,h.d,h.b,h.aQ⟩
     have fj:=down hl hp h.aQ
     rcases hgd with⟨_,ad⟩|⟨hw,ad⟩
     ·exact ad.elim
     ·refine wpAnyH_take ho lz bE.2 (by simpa using j4) (λc a w hp=>absurd hp (hQ _ _ _)) (.inr ⟨hw,rfl⟩) fj ?_
      exact ih (h.skip o.dst) hl hp ad hk
   unfold wpAnyH
   refine⟨λhr=>absurd hr hl0,λi hi=>?_⟩
   have bE:=allT_holds ad i hi
   unfold wpOp
   cases ho:ops[i]? with
   |none=>simp only[ho]at bE;exact bE.elim
   |some o=>
    simp only[ho]at bE⊢
    obtain⟨bd,kI,hgd⟩:=tp h.t bE
    have h:R w0 n ρ m bd bl a w:=⟨kI,h.d,h.b,h.aQ⟩
    rcases hgd with⟨hw,zT⟩|⟨hw,zT⟩
    ·rw[if_pos hw]
     refine .inl (Iy bV hg jw h zT λn' aa m' bd az b8 b6 w' h1 h2 h3 h4=>?_)
     cases hf:preB (dA N 0 gb) (dA N 0 az)with
     |false=>rw[hf]at h4;exact h4.elim
     |true=>
      rw[hf,cond_true]at h4
      have nc:=hl.trans h1
      have hf:=HG hf
      exact⟨down nc hf h3.aQ,ih h3 nc hf h4 (hk.later h1 h2)⟩
    ·rw[if_neg (by simp[hw])]
     exact⟨down hl hp h.aQ,ih (h.skip o.dst) hl hp zT hk⟩
theorem Ky {inl:gL} {li:Nat->Option dh} {rounds:Nat} (hm:P.follows .mixedOrders=true) (bV:fr S P gl w0 aL) (hg:ey gl w0) (jw:k7 S L w0 P inl):∀(c:Code),x8 rd S L w0 P c (iP P gl aL inl li rounds c):=by
 intro c
 induction c with
 |skip=>intro hd n tm bl k G ρ m a w Q h ad hk;exact wpIn_skip (hk .normal n ρ m tm bl G a w (bK.refl _ _ _ _) (cl.refl _ _) h ad)
 |exit id=>intro hd n tm bl k G ρ m a w Q h ad hk;exact wpIn_exit (hk (.exit id) n ρ m tm bl G a w (bK.refl _ _ _ _) (cl.refl _ _) h ad)
 |ret=>intro hd n tm bl k G ρ m a w Q h ad hk;exact wpIn_ret (hk .ret n ρ m tm bl G a w (bK.refl _ _ _ _) (cl.refl _ _) h ad)
 |region id ops draw=>
  intro hd n tm bl k G ρ m a w Q h ad hk
  have zp:eL S L w0 (k .normal) n bl.length ρ m G (jh Q .normal):=λn' aa m' bd az b8 b6 w' h1 h2 h3 h4=>hk .normal n' aa m' bd az b8 b6 w' h1 h2 h3 h4
  cases draw with
  |false=>
   simp only[iP,cond_false]at ad
   refine RA hd ?_
   exact xo bV hg jw ops.toList h ad zp
  |true=>
   simp only[iP,cond_true]at ad
   cases ht:(sH ops (tG P aL ops)&&x5 P (ops.toList.take (tG P aL ops)))with
   |false=>
    simp only[ht,cond_false]at ad
    cases hsz:Nat.ble (ops.toList.filter λo=> !A6 o).length 12 with
    |false=>simp only[hsz,cond_false]at ad;exact ad.elim
    |true=>
     simp only[hsz,cond_true]at ad
     have ju:R w0 n ρ m tm bl a w.drew:=⟨h.t,h.d,h.b,h.aQ.grow (World.Extends.drew (World.Extends.refl w))⟩
     refine HN hm hd (wpAny_of_held (S:=λw=>Mem w0 ρ m (dA (tH ops tm bl) 0 bl) w) _ _ _ _ ?_)
     exact J1 bV hg jw (λc a w h=>h) (N:=tH ops tm bl) (by unfold tH;cases A9 ops<;>cases ops.toList.any AO<;>simp<;>exact Nat.min_le_left _ _) h.b ops.size ju (bK.refl _ _ _ _) (λ_ _ h=>h) ad zp
   |true=>
    simp only[ht,cond_true]at ad
    simp only[Bool.and_eq_true]at ht
    have hle:tG P aL ops<=ops.toList.length:=by
     have h1:=ht.1
     simp only[sH,Bool.and_eq_true]at h1
     simpa using Nat.le_of_ble_eq_true h1.1.1.2
    generalize tG P aL ops=hl0 at*
    have ju:R w0 n ρ m tm bl a w.drew:=⟨h.t,h.d,h.b,h.aQ.grow (World.Extends.drew (World.Extends.refl w))⟩
    have key:=TI (P:=P) (Q:=jh Q) (a:=a) (w:=w) (l:=ops.toList) (C:=λw'=>Mem w0 ρ m bl w') hl0 (sP P ops) hm (by rw[toL];exact ht.1) (λw' lD=>ju.aQ.grow lD) (λj o hj ho ck b w'=>by
     have:=TU (l:=ops.toList) (P:=P) ht.2 hj ho ck b w'
     rw[toL]at this;exact this) (by
     rw[toL]
     refine wx bV hg h.b ⟨_,h.aQ⟩ _ (Nat.le_refl _) (agree.refl _ _) h.t h.d ad λn' aa bd an h1 h2 h3 h4 h5 cQ b w' j2 jW tT=>?_
     have hl:bK n bl.length ρ m n' bl.length aa m:=⟨h1,h2,Nat.le_refl _,λ_ _=>rfl⟩
     have LI:=(ju.aQ.grow jW).cK h.b h2
     refine yv (S:=S) (L:=L) (w0:=w0) (P:=P) (K:=λb w'=>wpList P ops (calm (jh Q)) (ops.toList.drop hl0) b w') j2 tT ju.aQ.ext.size ju.aQ.eG (ops.toList.take hl0) 0 (λj hj=>?_) (by simp;exact Nat.min_eq_left (by simpa using hle)) ⟨h3,h4,h.b.ext h2 h1 (Nat.le_refl _),LI⟩ ((ju.aQ.cK h.b h2).under jW) (λbB p gB hp=> .inl ?_) rfl (λt=>⟨λ⟨j,o,hj,_⟩=>by omega,λ_=>rfl⟩) h5 (λsi kl UO II T5 yb Dg gw k1 k2 k3 k4=>xo bV hg jw _ k3 k4 ((zp.later hl (cl.refl _ _)).later k1 k2)) h4
     ·have hj':j<hl0:=by simp at hj;omega
      rw[List.getElem?_take,if_pos hj'];simp
     ·rw[hY (h.b _ (List.mem_of_getElem? gB)) h2]at hp
      exact ju.aQ.lt gB hp)
    rw[toL]at key
    exact HN hm hd key
 |seq x y Ou wT=>
  intro hd n tm bl k G ρ m a w Q h ad hk
  have wq:rd=none∨h8 x=true:=hd.imp id λh=>by simp only[h8,Bool.and_eq_true]at h;exact h.1
  have wu:rd=none∨h8 y=true:=hd.imp id λh=>by simp only[h8,Bool.and_eq_true]at h;exact h.2
  refine wpIn_seq (Ou wq n tm bl _ G ρ m a w _ h ad λx n' aa m' bd az b8 b6 w' h1 h2 h3 h4=>?_)
  cases x with
  |normal=>exact wT wu n' bd az k b8 aa m' b6 w' Q h3 h4 (hk.later h1 h2)
  |exit id=>exact hk (.exit id) n' aa m' bd az b8 b6 w' h1 h2 h3 h4
  |ret=>exact hk .ret n' aa m' bd az b8 b6 w' h1 h2 h3 h4
 |cond x y z wT Gp=>
  intro hd n tm bl k G ρ m a w Q h ad hk
  simp only[iP]at ad
  have hx:=bf h.t x
  split at ad
  ·rename_i b hb
   rw[hb]at hx
   have bA:a.eval x= .bool (b.den ρ):=hx.2
   have wq:rd=none∨h8 y=true:=hd.imp id λh=>by simp only[h8,Bool.and_eq_true]at h;exact h.1
   have wu:rd=none∨h8 z=true:=hd.imp id λh=>by simp only[h8,Bool.and_eq_true]at h;exact h.2
   refine wpIn_cond bA ?_
   split at ad
   ·rename_i v
    cases v with
    |true=>simp only[cond_true]at ad;exact wT wq n tm bl k G ρ m a w Q h ad hk
    |false=>simp only[cond_false]at ad;exact Gp wu n tm bl k G ρ m a w Q h ad hk
   ·simp only[T.holds]at ad
    cases hd:aC.den ρ b with
    |true=>exact wT wq n _ bl k G ρ m a w Q ⟨sG hd h.t,h.d,h.b,h.aQ⟩ (ad.1 (by simpa using hd)) hk
    |false=>exact Gp wu n _ bl k G ρ m a w Q ⟨sG hd h.t,h.d,h.b,h.aQ⟩ (ad.2 (by simpa using hd)) hk
  ·exact ad.elim
 |block id x ih=>
  intro hd n tm bl k G ρ m a w Q h ad hk
  refine wpIn_block (ih hd n tm bl _ G ρ m a w _ h ad λx n' aa m' bd az b8 b6 w' h1 h2 h3 h4=>?_)
  cases x with
  |normal=>exact hk .normal n' aa m' bd az b8 b6 w' h1 h2 h3 h4
  |ret=>exact hk .ret n' aa m' bd az b8 b6 w' h1 h2 h3 h4
  |exit oi=>
   simp only at h4
   simp only[X.to,Exit.inBlock]
   cases hb:Nat.beq oi id with
   |true=>
    simp only[hb,cond_true]at h4
    rw[if_pos (Nat.eq_of_beq_eq_true hb)]
    exact hk .normal n' aa m' bd az b8 b6 w' h1 h2 h3 h4
   |false=>
    simp only[hb,cond_false]at h4
    rw[if_neg (λe=>by subst e;rw[show Nat.beq oi oi=true from Nat.beq_refl oi]at hb;cases hb)]
    exact hk (.exit oi) n' aa m' bd az b8 b6 w' h1 h2 h3 h4
 |loop x ih=>
  intro hd n tm bl k G ρ m a w Q h ad hk
  simp only[iP]at ad
  split at ad
  ·exact Pw (c:=x) hd ih h ad hk
  ·exact wpIn_loop_rounds rounds (HX (c:=x) hd ih rounds h ad hk)
 |_=>intro hd n tm bl k G ρ m a w Q h ad hk;exact ad.elim
def qv (a:Act):ResultVar->Sem Value
 | .tmp t=>Pure.pure (a.tmps.getD t undef)
 | .cell x t=>do loadVar t (<-asAddr (a.tmps.getD x undef))
theorem RF {n:Nat} {ρ:Env} {m:Nat->Nat} {bl:List af} {tm:List V} {a:Act} {w:World} {r:ResultVar} {u:W} (hg:ey gl w0) (h:R w0 n ρ m tm bl a w) (hr:uN P gl bl tm r=some u):
 u.ok n bl.length ρ/\(qv a r).run P w= .ok (u.den ρ m) w:=by
 cases r with
 |tmp t=>
  simp only[uN]at hr
  cases ht:tm[t]? with
  |none=>simp[ht]at hr
  |some v=>
   obtain⟨h1,x,h2,h3⟩:=h.t.2 t v ht
   simp only[ht]at hr
   cases v with
   |w SX=>
    simp only[Option.some.injEq]at hr
    subst hr
    refine⟨h1,?_⟩
    have:a.tmps.getD t undef=SX.den ρ m:=by simp[h2];exact h3
    simp only[qv,this];rfl
   |_=>simp at hr
 |cell x t=>
  simp only[uN]at hr
  cases ht:tm[x]? with
  |none=>simp[ht]at hr
  |some v=>
   obtain⟨h1,y,h2,h3⟩:=h.t.2 x v ht
   simp only[ht]at hr
   cases v with
   |c7 l=>simp at hr
   |any=>simp at hr
   |h9 _ _ _=>simp at hr
   |iO _ _=>simp at hr
   |w q=>
    cases q with
    |agg l=>simp at hr
    |one p=>
     simp only at hr
     have hy:a.tmps.getD x undef=p.den ρ m:=by simp[h2];exact h3
     cases hc:q9 bl gl p with
     |none=>simp[hc]at hr
     |some cs=>
      obtain⟨g,o,hp,aK,hcell⟩:=yP h.aQ h.b hg hc
      simp only[qv,hy,hp]
      cases gS:dW P t with
      |none=>simp[hc,gS]at hr
      |some b=>
       cases b with
       |true=>
        cases hs:ct P t with
        |none=>simp[hc,gS,hs]at hr
        |some k=>
         simp only[hc,gS,hs]at hr
         cases hk:Nat.ble k cs.length with
         |false=>simp[hk]at hr
         |true=>
          simp only[hk,cond_true,Option.some.injEq]at hr
          subst hr
          have hk:=Nat.le_of_ble_eq_true hk
          refine⟨λa h=>aK a (List.mem_of_mem_take h),?_⟩
          have hl:=run_loadCells_list (P:=P) w ⟨g,o,none⟩ ((cs.take k).map (A.den ρ m)) λj v hj=>by
           rw[dS]
           rw[List.getElem?_map]at hj
           cases hq:(cs.take k)[j]? with
           |none=>simp[hq]at hj
           |some a=>
            simp only[hq,Option.map_some,Option.some.injEq]at hj
            subst hj
            refine hcell j a ?_
            rw[List.getElem?_take]at hq
            split at hq
            ·exact hq
            ·cases hq
          simp only[List.length_map,List.length_take,Nat.min_eq_left hk]at hl
          simp[asAddr,loadVar,ic gS,dL hs,hl,W.den]
       |false=>
        cases cs with
        |nil=>simp[hc,gS]at hr
        |cons z r=>
         simp only[hc,gS,Option.some.injEq]at hr
         subst hr
         refine⟨aK z (by simp),?_⟩
         have:=hcell 0 z rfl
         simp only[Nat.add_zero]at this
         simp[asAddr,loadVar,ic gS,this,W.den]
theorem HS {n:Nat} {ρ:Env} {m:Nat->Nat} {bl:List af} {tm:List V} {a:Act} {w:World} (hg:ey gl w0) (h:R w0 n ρ m tm bl a w):∀{rs:List ResultVar} {l:List W},qw P gl bl tm rs=some l->
 (∀u∈l,W.ok n bl.length ρ u)/\(rs.mapM (m:=Sem) (qv a)).run P w= .ok (l.map (W.den ρ m)) w
 |[],l,hr=>by simp[qw]at hr;subst hr;exact⟨by simp,by simp⟩
 |r::s,l,hr=>by
  simp only[qw]at hr
  cases h1:uN P gl bl tm r with
  |none=>simp[h1]at hr
  |some u=>
   cases h2:qw P gl bl tm s with
   |none=>simp[h1,h2]at hr
   |some aT=>
    simp only[h1,h2,Option.some.injEq]at hr
    subst hr
    have e1:=RF hg h h1
    have e2:=HS hg h h2
    refine⟨λx hx=>by rcases List.mem_cons.1 hx with rfl|hx;exact e1.1;exact e2.1 x hx,?_⟩
    rw[List.mapM_cons,Sem.run_bind]
    simp only[e1.2,e2.2,Result.andThen_ok,Sem.run_bind,Sem.run_pure,List.map_cons]
theorem HR {fn:Func} {n:Nat} {ρ:Env} {m:Nat->Nat} {bl:List af} {tm:List V} {a:Act} {w:World} {k:RK} {G:bZ} (hg:ey gl w0) (h:R w0 n ρ m tm bl a w) (ad:(BE P gl fn n tm bl k).holds S L G ρ):
 ∃v val,V.ok n bl.length ρ v/\v.rel ρ m val/\(results fn a.tmps).run P w= .ok val w/\(k n v bl).holds S L G ρ:=by
 unfold BE at ad
 cases hr:qw P gl bl tm fn.results.toList with
 |none=>
  simp only[hr]at ad
  cases ho:Bm tm fn.results.toList with
  |none=>simp[ho,T.holds]at ad
  |some v=>
   simp only[ho]at ad
   obtain⟨t,e,hv⟩:∃t,fn.results.toList=[.tmp t]/\tm[t]?=some v:=by
    unfold Bm at ho
    split at ho
    ·rename_i t he
     refine⟨t,he,?_⟩
     split at ho<;>first|(cases ho;assumption)|cases ho
    ·cases ho
   obtain⟨h1,x,h2,h3⟩:=h.t.2 t v hv
   refine⟨v,x,h1,h3,?_,ad⟩
   have rj:fn.results=#[.tmp t]:=by rw[<-Array.toArray_toList (xs:=fn.results),e]
   have ex:a.tmps.getD t undef=x:=by simp[h2]
   have e:results fn a.tmps=(do let vs<-fn.results.mapM (qv a);Pure.pure (if h:vs.size=1 then vs[0]else .tuple vs)):=by
    unfold results
    congr 1
   rw[e,rj,Array.mapM_eq_mapM_toList]
   simp[Sem.run_bind,Sem.run_map,Result.andThen_ok,qv,h2]
 |some l=>
  obtain⟨h1,h2⟩:=HS hg h hr
  have du:(results fn a.tmps).run P w= .ok (if h:(l.map (W.den ρ m)).toArray.size=1 then(l.map (W.den ρ m)).toArray[0]else .tuple (l.map (W.den ρ m)).toArray) w:=by
   have e:results fn a.tmps=(do let vs<-fn.results.mapM (qv a);Pure.pure (if h:vs.size=1 then vs[0]else .tuple vs)):=by
    unfold results
    congr 1
   rw[e,Array.mapM_eq_mapM_toList]
   simp only[Sem.run_bind,Sem.run_map,Result.andThen_ok,h2,Sem.run_pure]
  simp only[hr]at ad
  split at ad
  ·rename_i u heq
   have heq:=Option.some.inj heq
   subst heq
   exact⟨.w u,_,h1 u (by simp),rfl,by rw[du];simp,ad⟩
  ·rename_i aT hne heq
   have heq:=Option.some.inj heq
   subst heq
   refine⟨.c7 l,_,h1,rfl,?_,ad⟩
   rw[du,dif_neg]
   intro hs
   simp at hs
   match l,hs,hne with
   |[u],_,hne=>exact hne u rfl
  ·rename_i heq;cases heq
theorem C9 {ρ:Env} {m:Nat->Nat}:∀{vs:List V} {xs:List Value},cU ρ m vs xs->vs.length=xs.length
 |[],[],_=>rfl
 |_::_,_::_,h=>by simp[C9 h.2]
 |[],_::_,h=>h.elim
 |_::_,[],h=>h.elim
theorem C6 {n nb:Nat} {ρ:Env} {m:Nat->Nat} (k:Nat):∀{vs:List V} {xs:List Value},(∀v∈vs,V.ok n nb ρ v)->cU ρ m vs xs->oV n nb ρ m (vs++xA k) (xs++List.replicate k undef)
 |[],[],_,_=>by
  simp only[List.nil_append]
  induction k with
  |zero=>trivial
  |succ k ih=>exact⟨by intro x hx;simp at hx,rfl,ih⟩
 |v::r,x::s,h,hr=>⟨h v (by simp),hr.1,C6 k (λu hu=>h u (List.mem_cons_of_mem _ hu)) hr.2⟩
 |[],_::_,_,h=>h.elim
 |_::_,[],_,h=>h.elim
theorem DD (m7:w0.ds=[]) {li:FuncId->Nat->Option dh} {rounds:Nat} {inl:gL} (hm:P.follows .mixedOrders=true) (bV:fr S P gl w0 aL) (hg:ey gl w0) (ih:k7 S L w0 P inl):k7 S L w0 P (vB P gl aL inl li rounds):=by
 intro f n vs bl k G ρ m w xs c0 hb gj dJ hrel ad hk
 unfold vB at ad
 cases hf:P.funcs[f]? with
 |none=>simp[hf,T.holds]at ad
 |some fn=>
  cases rF:fn.body with
  |none=>simp[hf,rF,T.holds]at ad
  |some c=>
   simp only[hf,rF]at ad
   cases hc:(!(fn.name== "runtime.NumGoroutine")&&Nat.ble vs.length fn.ntmps)with
   |false=>simp[hc,T.holds]at ad
   |true=>
    simp only[hc,cond_true]at ad
    simp only[Bool.and_eq_true,Bool.not_eq_true']at hc
    have hlen:=C9 hrel
    refine⟨?_,calls_of_wp hf rF ?_⟩
    ·have h1:¬fn.name= "runtime.NumGoroutine" :=by have:=hc.1;simpa using this
     simp[callFunc,hf,rF,h1]
    ·have hR:R w0 n ρ m (vs++xA (fn.ntmps-vs.length)) bl {tmps:=xs.toArray++Array.replicate (fn.ntmps-xs.toArray.size) undef,defers:=[]} w:=by
      refine⟨?_,m7.symm,hb,gj⟩
      have:=ym (C6 (fn.ntmps-vs.length) dJ hrel)
      have e:(xs++List.replicate (fn.ntmps-vs.length) undef).toArray=xs.toArray++Array.replicate (fn.ntmps-xs.toArray.size) undef:=by
       simp[hlen]
      rw[e]at this
      exact this
     refine wpIn_wide.1 (Ky (rd:=none) hm bV hg ih c (.inl rfl) n _ bl _ G ρ m _ w _ hR ad λx n' aa m' bd az b8 b6 w' h1 h2 h3 h4=>?_)
     cases x with
     |exit id=>exact h4.elim
     |normal=>
      obtain⟨v,val,p1,bc,bx,dw⟩:=HR hg h3 h4
      exact⟨h3.d.trans m7,val,bx,hk n' v az b8 aa m' w' val h1 h2 p1 bc h3.b h3.aQ dw⟩
     |ret=>
      obtain⟨v,val,p1,bc,bx,dw⟩:=HR hg h3 h4
      exact⟨h3.d.trans m7,val,bx,hk n' v az b8 aa m' w' val h1 h2 p1 bc h3.b h3.aQ dw⟩
theorem DO (m7:w0.ds=[]) {li:FuncId->Nat->Option dh} {rounds:Nat} (hm:P.follows .mixedOrders=true) (bV:fr S P gl w0 aL) (hg:ey gl w0):∀d,k7 S L w0 P (vG P gl aL li rounds d)
 |0=>λf n vs bl k G ρ m w xs c0 _ _ _ _ ad _=>ad.elim
 |d+1=>DD m7 hm bV hg (DO m7 hm bV hg d)
def qG (S:Nat->List Int->List Int->Prop) (L:V->Env->Prop) (w0:b5) (P:Program) (eY:lS):Prop:=
 ∀f g,eY f=some g->∀n vs bl k G ρ m w xs c0,bm n (List.length bl) ρ bl->Mem w0 ρ m bl w->(∀v∈vs,V.ok n bl.length ρ v)->cU ρ m vs xs->(g n vs bl k).holds S L G ρ->qN S L w0 k n bl.length ρ m G c0->
  (callFunc f xs.toArray).run P w= .ok (.enter f xs.toArray) w/\Calls P f xs.toArray w c0
theorem QK {eY:lS} {inl:gL} (kE:qG S L w0 P eY) (h:k7 S L w0 P inl):k7 S L w0 P (Bn eY inl):=by
 intro f n vs bl k G ρ m w xs c0 h1 h2 h3 h4 h5 h6
 unfold Bn at h5
 cases hf:eY f with
 |none=>rw[hf]at h5;exact h f n vs bl k G ρ m w xs c0 h1 h2 h3 h4 h5 h6
 |some g=>rw[hf]at h5;exact kE f g hf n vs bl k G ρ m w xs c0 h1 h2 h3 h4 h5 h6
theorem DN (m7:w0.ds=[]) {eY:lS} {li:FuncId->Nat->Option dh} {rounds:Nat} (hm:P.follows .mixedOrders=true) (bV:fr S P gl w0 aL) (hg:ey gl w0) (kE:qG S L w0 P eY):∀d,k7 S L w0 P (yM eY P gl aL li rounds d)
 |0=>λf n vs bl k G ρ m w xs c0 _ _ _ _ ad _=>ad.elim
 |d+1=>DD m7 hm bV hg (QK kE (DN m7 hm bV hg kE d))
theorem Mem.extends {b w w':World} {ρ:Env} {m:Nat->Nat} {bl:List af} (h:Mem ⟨b,w,λ_=>False,λ_=>False,[]⟩ ρ m bl w'):w.Extends w':=by
 have jY:∀i:Nat,i<w.heap.size->w'.heap[i]?=w.heap[i]?:=λi hi=>h.iS i hi id
 exact⟨h.fD,h.jb,h.iY,h.eG,λa ha=>by simp only[World.cell?,jY a.block ha],λa ha=>by simp only[World.frozen?,jY a.block ha],jY⟩
theorem Ki {b w:World} {li:FuncId->Nat->Option dh} {rounds d:Nat} (hm:P.follows .mixedOrders=true) (bV:fr S P gl ⟨b,w,λ_=>False,λ_=>False,[]⟩ aL) (hg:ey gl ⟨b,w,λ_=>False,λ_=>False,[]⟩) (f:FuncId) (n:Nat) (vs:List V) (ρ:Env) (xs:List Value) (he:b.Extends w)
 (dJ:∀v∈vs,V.ok n 0 ρ v) (hrel:cU ρ (λ_=>0) vs xs) (ad:(vG P gl aL li rounds d f n vs [] λn' v _=> .leaf v).holds S (λv aa=>L v aa) (λ_ _=>False) ρ):
 Calls P f xs.toArray w λe w'=>∃v aa m val nb,e= .returned val/\v.rel aa m val/\(∃n',V.ok n' nb aa v)/\L v aa/\w.Extends w':=by
 have gj:Mem ⟨b,w,λ_=>False,λ_=>False,[]⟩ ρ (λ_=>0) [] w:=⟨he,rfl,rfl,rfl,Nat.le_refl _,λ_ _ _=>rfl,λi cs t h=>by simp at h,λi sh off code cap kind t h=>by simp at h,λi j p q h=>by simp at h⟩
 refine(DO rfl (L:=L) (li:=li) (rounds:=rounds) hm bV hg d f n vs [] (λn' v _=> .leaf v) (λ_ _=>False) ρ (λ_=>0) w xs _ (λp hp=>by simp at hp) gj dJ hrel ad ?_).2
 intro n' v az b8 aa m' w' val h1 h2 h3 h4 h5 h6 h7
 exact⟨v,aa,m',val,_,rfl,h4,⟨n',h3⟩,h7,h6.extends⟩
end
end Go.aZ
namespace Go.aZ
open M
def ag.sym (s:Nat):ag->A
 |int k lo hi=> .int k ⟨.var s,lo,hi⟩
 |str=> .str (.var s)
 |bool=> .bool (.eq (.var s) (.const 1))
 |sub _=> .con (.slice none 0 0)
inductive D where
 |str
 |int (k:IntKind) (lo hi:Int)
 |bool
 |agg (k:IntKind) (n:Nat) (lo hi:Int)
 |mix (l:List ag)
 |gY (l:List UInt8)
 |lF (k:IntKind) (c:Int)
def nC (lo hi:Int):Nat->List (Int×Int)
 |0=>[]
 |n+1=>(lo,hi)::nC lo hi n
noncomputable def D.bds:D->List (Int×Int)
 |str=>[(0,aO)]
 |int _ lo hi=>[(lo,hi)]
 |bool=>[(0,1)]
 |agg _ n lo hi=>nC lo hi n
 |mix l=>l.map ag.cn
 |gY _=>[]
 |lF .. =>[]
def D.num:D->Nat
 |str=>1
 |int .. =>1
 |bool=>1
 |agg _ n _ _=>n
 |mix l=>l.length
 |gY _=>0
 |lF .. =>0
def D.val:D->List Int->Value
 |str,zs=> .string (aF (J (zs.getD 0 0)))
 |int k _ _,zs=> .int k (zs.getD 0 0)
 |bool,zs=> .bool (decide (zs.getD 0 0=1))
 |agg k n _ _,zs=> .agg ((zs.take n).map (.int k)).toArray
 |mix l,zs=> .agg (List.zipWith ag.val l zs).toArray
 |gY l,_=> .string (aF (kM l))
 |lF k c,_=> .int k c
def sw (k:IntKind) (lo hi:Int):Nat->Nat->List A
 |_,0=>[]
 |s,n+1=> .int k ⟨.var s,lo,hi⟩::sw k lo hi (s+1) n
def sg:Nat->List ag->List A
 |_,[]=>[]
 |s,c::r=>c.sym s::sg (s+1) r
def D.sym (s:Nat):D->W
 |str=> .one (.str (.var s))
 |int k lo hi=> .one (.int k ⟨.var s,lo,hi⟩)
 |bool=> .one (.bool (.eq (.var s) (.const 1)))
 |agg k n lo hi=> .agg (sw k lo hi s n)
 |mix l=> .agg (sg s l)
 |gY l=> .one (.str (.const (dz (kM l))))
 |lF k c=> .one (.int k (aM.const c))
noncomputable def cN:List D->List (Int×Int)
 |[]=>[]
 |d::r=>d.bds++cN r
def hh:List D->List Int->List Value
 |[],_=>[]
 |d::r,zs=>d.val zs::hh r (zs.drop d.num)
def mC:Nat->List D->List W
 |_,[]=>[]
 |s,d::r=>d.sym s::mC (s+d.num) r
theorem gD:∀{b:List (Int×Int)} {l:List Int},bb b l->l.length=b.length
 |[],[],_=>rfl
 |_::_,_::_,h=>by simp[gD h.2.2]
 |[],_::_,h=>h.elim
 |_::_,[],h=>h.elim
theorem HP (lo hi:Int):∀n,(nC lo hi n).length=n
 |0=>rfl
 |n+1=>by simp[nC,HP lo hi n]
theorem D.s6 (d:D):d.bds.length=d.num:=by cases d<;>simp[D.bds,D.num,HP]
theorem wU:∀{b bq:List (Int×Int)} {l:List Int},bb (b++bq) l->bb b (l.take b.length)/\bb bq (l.drop b.length)
 |[],_,_,h=>⟨trivial,h⟩
 |_::_,_,_::_,h=>by
  have ih:=wU h.2.2
  exact⟨⟨h.1,h.2.1,ih.1⟩,ih.2⟩
 |_::_,_,[],h=>h.elim
def At (ρ:Env) (s:Nat) (zs:List Int):Prop:=∀j,j<zs.length->ρ (s+j)=zs.getD j 0
theorem At.bk (ρ:Env) (s:Nat) (zs:List Int):At (bk ρ s zs) s zs:=λj hj=>u9 zs s ρ j hj
theorem At.tail {ρ:Env} {s:Nat} {z:Int} {zs:List Int} (h:At ρ s (z::zs)):ρ s=z/\At ρ (s+1) zs:=by
 refine⟨by simpa using h 0 (by simp),λj hj=>?_⟩
 have:=h (j+1) (by simpa using hj)
 rw[show s+1+j=s+(j+1) by omega,this];simp
theorem At.drop {ρ:Env} {s:Nat} {zs:List Int} (h:At ρ s zs) (k:Nat):At ρ (s+k) (zs.drop k):=λj hj=>by
 have:=h (k+j) (by simp at hj;omega)
 rw[show s+k+j=s+(k+j) by omega,this]
 simp[List.getD]
theorem HO {ρ:Env} {m:Nat->Nat} {N nb:Nat} {k:IntKind} {lo hi:Int}:∀(n s:Nat) (zs:List Int),bb (nC lo hi n) (zs.take n)->At ρ s zs->s+n<=N->
 (∀a∈sw k lo hi s n,A.ok N nb ρ a)/\(sw k lo hi s n).map (A.den ρ m)=(zs.take n).map (.int k)
 |0,s,zs,_,_,_=>by simp[sw]
 |n+1,s,[],h,_,_=>by simp[nC,bb]at h
 |n+1,s,z::zs,h,ha,hN=>by
  have ht:=ha.tail
  simp only[nC,List.take_succ_cons,bb]at h
  obtain⟨h1,h2⟩:=HO (m:=m) (nb:=nb) (k:=k) (N:=N) n (s+1) zs h.2.2 ht.2 (by omega)
  refine⟨λa hm=>?_,by simp only[sw,List.map_cons,A.den,I.ba,ht.1,h2,List.take_succ_cons]⟩
  rcases List.mem_cons.1 hm with rfl|hm
  ·exact⟨I.cq (by omega),by simp only[I.ba,ht.1];exact h.1,by simp only[I.ba,ht.1];exact h.2.1⟩
  ·exact h1 a hm
theorem ag.u1 {ρ:Env} {m:Nat->Nat} {N nb:Nat} (c:ag) {s:Nat} {z:Int} (h0:c.cn.1<=z) (h1:z<=c.cn.2) (hz:ρ s=z) (hN:s<N):(c.sym s).ok N nb ρ/\(c.sym s).den ρ m=c.val z:=by
 cases c with
 |int k lo hi=>exact⟨⟨I.cq hN,by simp only[I.ba,hz];exact h0,by simp only[I.ba,hz];exact h1⟩,by simp[ag.sym,ag.val,A.den,I.ba,hz]⟩
 |str=>exact⟨⟨I.cq hN,by rw[I.ba,hz];exact h0,by rw[I.ba,hz];exact h1⟩,by simp[ag.sym,ag.val,A.den,I.ba,hz]⟩
 |bool=>exact⟨⟨I.cq hN,I.br _ _⟩,by simp[ag.sym,ag.val,A.den,aC.den,I.ba,I.ay,hz]⟩
 |sub k=>exact⟨(rfl:(Value.slice none 0 0).oneCell'=true),rfl⟩
theorem G7 {ρ:Env} {m:Nat->Nat} {N nb:Nat}:∀(l:List ag) (s:Nat) (zs:List Int),bb (l.map ag.cn) (zs.take l.length)->At ρ s zs->s+l.length<=N->
 (∀a∈sg s l,A.ok N nb ρ a)/\(sg s l).map (A.den ρ m)=List.zipWith ag.val l zs
 |[],s,zs,_,_,_=>by simp[sg]
 |_::_,s,[],h,_,_=>by simp[bb]at h
 |c::r,s,z::zs,h,ha,hN=>by
  have ht:=ha.tail
  simp only[List.map_cons,List.length_cons,List.take_succ_cons,bb]at h
  obtain⟨h1,h2⟩:=G7 (m:=m) (nb:=nb) (N:=N) r (s+1) zs h.2.2 ht.2 (by simp at hN;omega)
  have hc:=c.u1 (m:=m) (nb:=nb) (N:=N) h.1 h.2.1 ht.1 (by simp at hN;omega)
  refine⟨λa hm=>?_,by simp only[sg,List.map_cons,hc.2,h2,List.zipWith_cons_cons]⟩
  rcases List.mem_cons.1 hm with rfl|hm
  ·exact hc.1
  ·exact h1 a hm
theorem D.u1 {ρ:Env} {m:Nat->Nat} {N nb:Nat} (d:D) {s:Nat} {zs:List Int} (h:bb d.bds (zs.take d.num)) (ha:At ρ s zs) (hN:s+d.num<=N):(d.sym s).ok N nb ρ/\(d.sym s).den ρ m=d.val zs:=by
 cases d with
 |str=>
  cases zs with
  |nil=>simp[D.bds,bb]at h
  |cons z r=>
   have ht:=ha.tail
   simp only[D.bds,D.num,List.take_succ_cons,bb]at h
   simp only[D.num]at hN
   exact⟨⟨I.cq (by omega),by rw[I.ba,ht.1];exact h.1,by rw[I.ba,ht.1];exact h.2.1⟩,by simp[D.sym,W.den,A.den,D.val,I.ba,ht.1]⟩
 |int k lo hi=>
  cases zs with
  |nil=>simp[D.bds,bb]at h
  |cons z r=>
   have ht:=ha.tail
   simp only[D.bds,D.num,List.take_succ_cons,bb]at h
   simp only[D.num]at hN
   exact⟨⟨I.cq (by omega),by simp only[I.ba,ht.1];exact h.1,by simp only[I.ba,ht.1];exact h.2.1⟩,by simp[D.sym,W.den,A.den,D.val,I.ba,ht.1]⟩
 |bool=>
  cases zs with
  |nil=>simp[D.bds,bb]at h
  |cons z r=>
   have ht:=ha.tail
   simp only[D.num]at hN
   exact⟨⟨I.cq (by omega),I.br _ _⟩,by simp[D.sym,W.den,A.den,D.val,aC.den,I.ba,I.ay,ht.1]⟩
 |agg k n lo hi=>
  have:=HO (m:=m) (nb:=nb) (k:=k) n s zs h ha hN
  exact⟨this.1,by simp only[D.sym,W.den,D.val,this.2]⟩
 |mix l=>
  have:=G7 (m:=m) (nb:=nb) l s zs h ha hN
  exact⟨this.1,by simp only[D.sym,W.den,D.val,this.2]⟩
 |gY l=>exact⟨⟨I.br _ _,by rw[I.ay];exact OK l⟩,by simp[D.sym,W.den,A.den,D.val,I.ay,gu]⟩
 |lF k c=>exact⟨aM.hP _ _ c,by simp[D.sym,W.den,A.den,D.val,aM.const,I.ay]⟩
theorem Ck {ρ:Env} {m:Nat->Nat} {N nb:Nat}:∀(ds:List D) {s:Nat} {zs:List Int},bb (cN ds) zs->At ρ s zs->s+(cN ds).length<=N->(∀u∈mC s ds,W.ok N nb ρ u)/\(mC s ds).map (W.den ρ m)=hh ds zs
 |[],s,zs,_,_,_=>by simp[mC,hh]
 |d::r,s,zs,h,ha,hN=>by
  have hs:=wU h
  rw[D.s6]at hs
  simp only[cN,List.length_append,D.s6]at hN
  have h1:=d.u1 (m:=m) (nb:=nb) hs.1 ha (N:=N) (by omega)
  have h2:=Ck (m:=m) (nb:=nb) (N:=N) r hs.2 (ha.drop d.num) (by omega)
  exact⟨λu hu=>by rcases List.mem_cons.1 hu with rfl|hu;exact h1.1;exact h2.1 u hu,by simp[mC,hh,h1.2,h2.2]⟩
def sy (ds:List D) (s:Nat):V:=match mC s ds with|[u]=> .w u|l=> .c7 l
def fE (ds:List D) (zs:List Int):Value:=match hh ds zs with|[x]=>x|l=> .tuple l.toArray
def iR (lo hi:Int) (x:aM):Bool:=decide (lo<=x.lo)&&decide (x.hi<=hi)
def gd (k:IntKind) (lo hi:Int):List A->Option (List I)
 |[]=>some []
 | .int aD x::r=>cond (decide (k=aD)&&iR lo hi x) (match gd k lo hi r with|some l=>some (x.l::l)|none=>none) none
 |_::_=>none
def ag.fit:ag->A->Option I
 |int k lo hi,.int aD x=>cond (decide (k=aD)&&iR lo hi x) (some x.l) none
 |str,.str l=>some l
 |bool,.bool (.lit b)=>some (.const (cond b 1 0))
 |_,_=>none
def js:List ag->List A->Option (List I)
 |[],[]=>some []
 |c::r,a::s=>match c.fit a,js r s with|some x,some l=>some (x::l)|_,_=>none
 |_,_=>none
def pr:D->V->Option (List I)
 | .int k lo hi,.w (.one (.int aD x))=>cond (decide (k=aD)&&iR lo hi x) (some [x.l]) none
 | .agg k n lo hi,.w (.agg l)=>cond (Nat.beq l.length n) (gd k lo hi l) none
 | .mix l,.w (.agg s)=>js l s
 | .str,.w (.one (.str l))=>some [l]
 | .bool,.w (.one (.bool (.lit b)))=>some [.const (cond b 1 0)]
 | .gY l,.w (.one (.str x))=>match x.bQ with|some c=>cond (decide (c=dz (kM l))) (some []) none|none=>none
 | .lF k c,.w (.one (.int aD x))=>match x.l.bQ with|some d=>cond (decide (k=aD)&&decide (d=c)) (some []) none|none=>none
 |_,_=>none
def jT:List D->List V->Option (List I)
 |[],[]=>some []
 |d::r,v::s=>match pr d v,jT r s with|some a,some b=>some (a++b)|_,_=>none
 |_,_=>none
theorem tk {n:Nat} {ρ:Env} {lo hi:Int} {x:aM} (h:iR lo hi x=true) (hx:x.ok n ρ):lo<=x.l.den ρ/\x.l.den ρ<=hi:=by
 simp only[iR,Bool.and_eq_true,decide_eq_true_eq]at h
 have:=hx.2;omega
theorem za {n nb:Nat} {ρ:Env} {m:Nat->Nat} {k:IntKind} {lo hi:Int}:∀{l:List A} {r:List I},gd k lo hi l=some r->(∀a∈l,A.ok n nb ρ a)->r.length=l.length/\bb (nC lo hi l.length) (r.map (·.den ρ))/\l.map (A.den ρ m)=(r.map (·.den ρ)).map (.int k)
 |[],r,h,_=>by simp[gd]at h;subst h;exact⟨rfl,trivial,rfl⟩
 | .int aD x::s,r,h,aK=>by
  simp only[gd]at h
  cases hc:(decide (k=aD)&&iR lo hi x)with
  |false=>simp[hc]at h
  |true=>
   simp only[hc,cond_true]at h
   simp only[Bool.and_eq_true,decide_eq_true_eq]at hc
   cases hr:gd k lo hi s with
   |none=>simp[hr]at h
   |some ed=>
    simp only[hr,Option.some.injEq]at h
    subst h
    obtain⟨h1,h2,h3⟩:=za (m:=m) hr λa ha=>aK a (List.mem_cons_of_mem _ ha)
    have hx:x.ok n ρ:=aK (.int aD x) (by simp)
    have hf:=tk hc.2 hx
    exact⟨by simp[h1],⟨hf.1,hf.2,h2⟩,by simp only[List.map_cons,h3,A.den,hc.1]⟩
 | .bool _::_,_,h,_=>by simp[gd]at h
 | .ptr .. ::_,_,h,_=>by simp[gd]at h
 | .gJ .. ::_,_,h,_=>by simp[gd]at h
 | .gptr .. ::_,_,h,_=>by simp[gd]at h
 | .slc .. ::_,_,h,_=>by simp[gd]at h
 | .con _::_,_,h,_=>by simp[gd]at h
 | .str _::_,_,h,_=>by simp[gd]at h
theorem ag.Li {n nb:Nat} {ρ:Env} {m:Nat->Nat} {c:ag} {a:A} {l:I} (h:c.fit a=some l) (aK:a.ok n nb ρ):(c.cn.1<=l.den ρ/\l.den ρ<=c.cn.2)/\a.den ρ m=c.val (l.den ρ):=by
 unfold ag.fit at h
 split at h
 ·rename_i k lo hi aD x
  cases hc:(decide (k=aD)&&iR lo hi x)with
  |false=>simp[hc]at h
  |true=>
   simp only[hc,cond_true,Option.some.injEq]at h
   subst h
   simp only[Bool.and_eq_true,decide_eq_true_eq]at hc
   exact⟨tk hc.2 aK,by simp only[A.den,ag.val,hc.1]⟩
 ·simp only[Option.some.injEq]at h;subst h
  exact⟨aK.2,rfl⟩
 ·rename_i b
  simp only[Option.some.injEq]at h;subst h
  cases b<;>simp[ag.cn,ag.val,A.den,aC.den,I.ay]
 ·cases h
theorem EB {n nb:Nat} {ρ:Env} {m:Nat->Nat}:∀{d:List ag} {l:List A} {r:List I},js d l=some r->(∀a∈l,A.ok n nb ρ a)->r.length=d.length/\bb (d.map ag.cn) (r.map (·.den ρ))/\l.map (A.den ρ m)=List.zipWith ag.val d (r.map (·.den ρ))
 |[],[],r,h,_=>by simp[js]at h;subst h;exact⟨rfl,trivial,rfl⟩
 |c::d,a::s,r,h,aK=>by
  simp only[js]at h
  cases hx:c.fit a with
  |none=>simp[hx]at h
  |some x=>
   cases hr:js d s with
   |none=>simp[hx,hr]at h
   |some ed=>
    simp only[hx,hr,Option.some.injEq]at h
    subst h
    obtain⟨h1,h2,h3⟩:=EB (m:=m) hr λa ha=>aK a (List.mem_cons_of_mem _ ha)
    have hf:=ag.Li (m:=m) hx (aK a (by simp))
    exact⟨by simp[h1],⟨hf.1.1,hf.1.2,h2⟩,by simp only[List.map_cons,h3,hf.2,List.zipWith_cons_cons]⟩
 |[],_::_,_,h,_=>by simp[js]at h
 |_::_,[],_,h,_=>by simp[js]at h
theorem ID {n:Nat} {ρ:Env} {l:List UInt8} {x:I} {c:Int} (hc:x.bQ=some c) (h:c=dz (kM l)):J (x.den ρ)=kM l:=by rw[I.ej hc,h,gu]
theorem Ey {n nb:Nat} {ρ:Env} {m:Nat->Nat} {d:D} {v:V} {r:List I} {x:Value} (h:pr d v=some r) (aK:v.ok n nb ρ) (hx:v.rel ρ m x):r.length=d.num/\bb d.bds (r.map (·.den ρ))/\∀zs,d.val ((r.map (·.den ρ))++zs)=x:=by
 unfold pr at h
 split at h
 ·rename_i k lo hi aD y
  cases hc:(decide (k=aD)&&iR lo hi y)with
  |false=>simp[hc]at h
  |true=>
   simp only[hc,cond_true,Option.some.injEq]at h
   subst h
   simp only[Bool.and_eq_true,decide_eq_true_eq]at hc
   have hf:=tk hc.2 aK
   simp only[V.rel,W.den,A.den]at hx
   exact⟨rfl,⟨hf.1,hf.2,trivial⟩,λzs=>by simp[D.val,hx,hc.1]⟩
 ·rename_i k n' lo hi l
  cases hc:Nat.beq l.length n' with
  |false=>simp[hc]at h
  |true=>
   simp only[hc,cond_true]at h
   have hl:=Nat.eq_of_beq_eq_true hc
   subst hl
   obtain⟨h1,h2,h3⟩:=za (m:=m) h aK
   simp only[V.rel,W.den]at hx
   exact⟨h1,h2,λzs=>by rw[hx,h3];simp only[D.val];rw[List.take_append_of_le_length (by simp[h1]),List.take_of_length_le (by simp[h1])]⟩
 ·rename_i l s
  obtain⟨h1,h2,h3⟩:=EB (m:=m) h aK
  simp only[V.rel,W.den]at hx
  refine⟨h1,h2,λzs=>?_⟩
  rw[hx,h3]
  simp only[D.val]
  congr 2
  have key:∀(a:List ag) (b c:List Int),b.length=a.length->List.zipWith ag.val a (b++c)=List.zipWith ag.val a b:=by
   intro a
   induction a with
   |nil=>intro b c _;simp
   |cons p a ih=>
    intro b c hb
    cases b with
    |nil=>simp at hb
    |cons z b=>simp[ih b c (by simpa using hb)]
  exact key _ _ _ (by simp[h1])
 ·rename_i l
  simp only[Option.some.injEq]at h;subst h
  simp only[V.rel,W.den,A.den]at hx
  exact⟨rfl,⟨aK.2.1,aK.2.2,trivial⟩,λzs=>by rw[hx];rfl⟩
 ·rename_i b
  simp only[Option.some.injEq]at h;subst h
  simp only[V.rel,W.den,A.den,aC.den]at hx
  cases b<;>exact⟨rfl,by simp[D.bds,bb,I.ay],λzs=>by rw[hx];simp[D.val,I.ay]⟩
 ·rename_i l y
  cases hc:y.bQ with
  |none=>simp[hc]at h
  |some c=>
   simp only[hc]at h
   cases hd:decide (c=dz (kM l))with
   |false=>simp[hd]at h
   |true=>
    simp only[hd,cond_true,Option.some.injEq]at h
    subst h
    have hd:c=dz (kM l):=by simpa using hd
    refine⟨rfl,trivial,λzs=>?_⟩
    have hx:x= .string (aF (J (y.den ρ))):=hx
    rw[hx,ID (n:=n) hc hd];rfl
 ·rename_i k c aD y
  cases hc:y.l.bQ with
  |none=>simp[hc]at h
  |some d=>
   simp only[hc]at h
   cases hd:(decide (k=aD)&&decide (d=c))with
   |false=>simp[hd]at h
   |true=>
    simp only[hd,cond_true,Option.some.injEq]at h
    subst h
    simp only[Bool.and_eq_true,decide_eq_true_eq]at hd
    refine⟨rfl,trivial,λzs=>?_⟩
    have hx:x= .int aD (y.l.den ρ):=hx
    rw[hx,I.ej hc,<-hd.1,hd.2];rfl
 ·cases h
theorem zd {n nb:Nat} {ρ:Env} {m:Nat->Nat}:∀{ds:List D} {vs:List V} {r:List I} {xs:List Value},jT ds vs=some r->(∀v∈vs,V.ok n nb ρ v)->cU ρ m vs xs->bb (cN ds) (r.map (·.den ρ))/\hh ds (r.map (·.den ρ))=xs
 |[],[],r,[],h,_,_=>by simp[jT]at h;subst h;exact⟨trivial,rfl⟩
 |d::ds,v::vs,r,x::xs,h,aK,hr=>by
  simp only[jT]at h
  cases h1:pr d v with
  |none=>simp[h1]at h
  |some a=>
   cases h2:jT ds vs with
   |none=>simp[h1,h2]at h
   |some b=>
    simp only[h1,h2,Option.some.injEq]at h
    subst h
    obtain⟨p1,bc,bx⟩:=Ey (m:=m) h1 (aK v (by simp)) hr.1
    obtain⟨q1,q2⟩:=zd h2 (λu hu=>aK u (List.mem_cons_of_mem _ hu)) hr.2
    refine⟨by rw[List.map_append];exact np bc q1,?_⟩
    rw[List.map_append]
    simp only[hh,bx]
    rw[show d.num=(a.map (·.den ρ)).length by simp[p1],List.drop_left,q2]
 |[],_::_,_,_,h,_,_=>by simp[jT]at h
 |_::_,[],_,_,h,_,_=>by simp[jT]at h
 |[],[],_,_::_,_,_,hr=>hr.elim
 |_::_,_::_,_,[],_,_,hr=>hr.elim
structure cj where
 f:FuncId
 id:Nat
 args:List D
 res:List D
def cj.Ok (P:Program) (wb:World) (c:cj) (spec:List Int->List Int->Prop):Prop:=
 (∀args w,(callFunc c.f args).run P w= .ok (.enter c.f args) w)/\
 ∀zs,bb (cN c.args) zs->∃rs,bb (cN c.res) rs/\spec zs rs/\∀w,wb.Extends w->Calls P c.f (hh c.args zs).toArray w λe w'=>e= .returned (fE c.res rs)/\w.Extends w'
noncomputable def zb (d:D) (v:V):M (List I):=
 match d,v with
 | .bool,.w (.one (.bool e))=>bind (p7 e) λl=>pure [l]
 | .mix l,.w (.agg s)=>qy l s
 | .int k lo hi,.w (.one (.int aD x))=>cond (decide (k=aD)) (cond (iR lo hi x) (pure [x.l]) (bind (cx 39 [x.l,.const lo,.const hi]) λ_=>pure [x.l])) fail
 |d,v=>match pr d v with|some r=>pure r|none=>fail
noncomputable def wc:List D->List V->M (List I)
 |[],[]=>pure []
 |d::r,v::s=>bind (zb d v) λa=>bind (wc r s) λb=>pure (a++b)
 |_,_=>fail
noncomputable def cj.M (c:cj):List af->List V->M V:=λ_ vs n k=>
 match jT c.args vs with
 |some l=> .call c.id l n (cN c.res) (k (sy c.res n) (n+(cN c.res).length))
 |none=>wc c.args vs n λl n=> .call c.id l n (cN c.res) (k (sy c.res n) (n+(cN c.res).length))
section
variable {S:Nat->List Int->List Int->Prop} {L:V->Env->Prop}
theorem y9 {k:IntKind} {lo hi:Int} {n nb:Nat} {ρ:Env}:∀{l:List A} {r:List I},gd k lo hi l=some r->(∀a∈l,A.ok n nb ρ a)->∀x∈r,I.aA n x
 |[],r,h,_=>by simp[gd]at h;subst h;intro x hx;simp at hx
 |a::s,r,h,aK=>by
  cases a with
  |int aD x=>
   simp only[gd]at h
   cases hc:(decide (k=aD)&&iR lo hi x)with
   |false=>simp[hc]at h
   |true=>
    cases hr:gd k lo hi s with
    |none=>simp[hc,hr]at h
    |some ed=>
     simp only[hc,hr,cond_true,Option.some.injEq]at h
     subst h
     intro y hy
     rcases List.mem_cons.1 hy with hy|hy
     ·rw[hy]
      have h0:A.ok n nb ρ (.int aD x):=aK _ (List.mem_cons_self ..)
      have h0:x.ok n ρ:=h0
      exact h0.1
     ·exact y9 hr (λa ha=>aK a (List.mem_cons_of_mem _ ha)) y hy
  |_=>simp[gd]at h
theorem EA {n nb:Nat} {ρ:Env}:∀{d:List ag} {l:List A} {r:List I},js d l=some r->(∀a∈l,A.ok n nb ρ a)->∀x∈r,I.aA n x
 |[],[],r,h,_=>by simp[js]at h;subst h;intro x hx;simp at hx
 |c::d,a::s,r,h,aK=>by
  simp only[js]at h
  cases hx:c.fit a with
  |none=>simp[hx]at h
  |some x=>
   cases hr:js d s with
   |none=>simp[hx,hr]at h
   |some ed=>
    simp only[hx,hr,Option.some.injEq]at h
    subst h
    intro y hy
    rcases List.mem_cons.1 hy with hy|hy
    ·subst hy
     have h0:=aK a (by simp)
     unfold ag.fit at hx
     split at hx
     ·rename_i k lo hi aD z
      cases hc:(decide (k=aD)&&iR lo hi z)with
      |false=>simp[hc]at hx
      |true=>
       simp only[hc,cond_true,Option.some.injEq]at hx
       subst hx
       have h0:z.ok n ρ:=h0
       exact h0.1
     ·simp only[Option.some.injEq]at hx;subst hx
      exact h0.1
     ·simp only[Option.some.injEq]at hx;subst hx
      exact I.br _ _
     ·cases hx
    ·exact EA hr (λa ha=>aK a (List.mem_cons_of_mem _ ha)) y hy
 |[],_::_,_,h,_=>by simp[js]at h
 |_::_,[],_,h,_=>by simp[js]at h
theorem Lm {n nb:Nat} {ρ:Env} {d:D} {v:V} {r:List I} (h:pr d v=some r) (aK:v.ok n nb ρ):∀x∈r,I.aA n x:=by
 unfold pr at h
 split at h
 ·rename_i k lo hi aD y
  cases hc:(decide (k=aD)&&iR lo hi y)with
  |false=>simp[hc]at h
  |true=>
   simp only[hc,cond_true,Option.some.injEq]at h
   subst h
   have h0:y.ok n ρ:=aK
   intro x hx
   simp at hx;subst hx
   exact h0.1
 ·rename_i k n' lo hi l
  cases hc:Nat.beq l.length n' with
  |false=>simp[hc]at h
  |true=>
   simp only[hc,cond_true]at h
   exact y9 h aK
 ·exact EA h aK
 ·simp only[Option.some.injEq]at h;subst h
  intro x hx
  simp at hx;subst hx
  exact aK.1
 ·simp only[Option.some.injEq]at h;subst h
  intro x hx
  simp at hx;subst hx
  exact I.br _ _
 ·rename_i l y
  cases hc:y.bQ with
  |none=>simp[hc]at h
  |some c=>
   simp only[hc]at h
   cases hd:decide (c=dz (kM l))with
   |false=>simp[hd]at h
   |true=>
    simp only[hd,cond_true,Option.some.injEq]at h
    subst h
    intro x hx;simp at hx
 ·rename_i k c aD y
  cases hc:y.l.bQ with
  |none=>simp[hc]at h
  |some d=>
   simp only[hc]at h
   cases hd:(decide (k=aD)&&decide (d=c))with
   |false=>simp[hd]at h
   |true=>
    simp only[hd,cond_true,Option.some.injEq]at h
    subst h
    intro x hx;simp at hx
 ·cases h
theorem aR.AK:∀{sh:List ag} {zs:List Int},aR sh zs->bb (sh.map ag.cn) zs/\List.zipWith ag.val sh zs=bM sh zs
 |[],[],_=>⟨trivial,rfl⟩
 |c::sh,z::zs,h=>⟨⟨h.1.1,h.1.2,(aR.AK h.2).1⟩,by simp[bM,(aR.AK h.2).2]⟩
 |[],_::_,h=>h.elim
 |_::_,[],h=>h.elim
theorem I9 {f:ag->Int->Value}:∀(a:List ag) (b c:List Int),b.length=a.length->List.zipWith f a (b++c)=List.zipWith f a b
 |[],b,c,_=>by simp
 |_::a,[],c,h=>by simp at h
 |_::a,z::b,c,h=>by simp[I9 a b c (by simpa using h)]
theorem Lk {d:D} {v:V} {X:Value} {n nb:Nat} {ρ:Env} {m:Nat->Nat} (hv:v.ok n nb ρ) (aX:v.rel ρ m X):ae S L (zb d v) n ρ λaa n' ls=>(∀x∈ls,I.aA n' x)/\ls.length=d.num/\bb d.bds (ls.map (·.den aa))/\∀zs,d.val ((ls.map (·.den aa))++zs)=X:=by
 unfold zb
 split
 ·rename_i e
  have aX:X= .bool (e.den ρ):=aX
  exact wW.bind λak n1 l hn ha ⟨g1,g2,g3⟩=>ae.pure ⟨λx hx=>by simp at hx;subst hx;exact g1,rfl,⟨g2.1,g2.2,trivial⟩,λzs=>by rw[aX,g3];rfl⟩
 ·rename_i l s
  have aX:X= .agg (s.map (A.den ρ m)).toArray:=aX
  refine(uQ (nb:=nb) (m:=m) hv).mono λak n1 ls hn ha ⟨g1,g2,g3⟩=>?_
  have h1:=aR.AK g2
  have h2:=g2.len
  refine⟨g1,by simpa [D.num]using h2,h1.1,λzs=>?_⟩
  rw[aX,<-g3,<-h1.2]
  simp only[D.val]
  rw[I9 _ _ _ (by simpa using h2)]
 ·rename_i k lo hi aD x
  have aX:X= .int aD (x.l.den ρ):=aX
  have hv:x.ok n ρ:=hv
  refine bR λhk=>?_
  have hk:=of_decide_eq_true hk
  subst hk
  cases hf:iR lo hi x with
  |true=>
   have:=tk hf hv
   exact ae.pure ⟨λy hy=>by simp at hy;subst hy;exact hv.1,rfl,⟨this.1,this.2,trivial⟩,λzs=>by rw[aX];rfl⟩
  |false=>
   refine db λhc=>ae.pure ?_
   simp only[List.map_cons,List.map_nil,aG,I.ay]at hc
   exact⟨λy hy=>by simp at hy;subst hy;exact hv.1,rfl,⟨hc.1,hc.2,trivial⟩,λzs=>by rw[aX];rfl⟩
 ·split
  ·rename_i hf
   obtain⟨p1,bc,bx⟩:=Ey (m:=m) hf hv aX
   exact ae.pure ⟨Lm hf hv,p1,bc,bx⟩
  ·exact ae.fail
theorem cU.ext {n nb:Nat} {ρ aa:Env} {m m':Nat->Nat}:∀{vs:List V} {xs:List Value},cU ρ m vs xs->(∀v∈vs,V.ok n nb ρ v)->agree n ρ aa->(∀b,b<nb->m' b=m b)->cU aa m' vs xs
 |[],[],_,_,_,_=>trivial
 |v::vs,x::xs,h,aK,ha,hm=>⟨V.rel.ext h.1 (aK v (by simp)) ha hm,cU.ext h.2 (λu hu=>aK u (List.mem_cons_of_mem _ hu)) ha hm⟩
 |[],_::_,h,_,_,_=>h.elim
 |_::_,[],h,_,_,_=>h.elim
theorem Ez {nb:Nat} {m:Nat->Nat}:∀{ds:List D} {vs:List V} {xs:List Value} {n:Nat} {ρ:Env},(∀v∈vs,V.ok n nb ρ v)->cU ρ m vs xs->ae S L (wc ds vs) n ρ λaa n' ls=>(∀x∈ls,I.aA n' x)/\bb (cN ds) (ls.map (·.den aa))/\hh ds (ls.map (·.den aa))=xs
 |[],[],[],n,ρ,_,_=>ae.pure ⟨λ_ h=>by simp at h,trivial,rfl⟩
 |d::ds,v::vs,x::xs,n,ρ,aK,hr=>by
  unfold wc
  refine(Lk (nb:=nb) (aK v (by simp)) hr.1).bind λak n1 a cv bG ⟨p0,p1,bc,bx⟩=>(Ez (ds:=ds) (vs:=vs) (λu hu=>(aK u (List.mem_cons_of_mem _ hu)).ext bG cv (Nat.le_refl _)) (cU.ext hr.2 (λu hu=>aK u (List.mem_cons_of_mem _ hu)) bG (λ_ _=>rfl))).bind λaH cA b bX bN ⟨q0,q1,q2⟩=>ae.pure ⟨λy hy=>?_,?_,?_⟩
  ·rcases List.mem_append.1 hy with hy|hy
   ·exact(p0 y hy).mono bX
   ·exact q0 y hy
  ·have e:a.map (·.den aH)=a.map (·.den ak):=List.map_congr_left λy hy=>I.aP bN (p0 y hy)
   rw[List.map_append,e];exact np bc q1
  ·have e:a.map (·.den aH)=a.map (·.den ak):=List.map_congr_left λy hy=>I.aP bN (p0 y hy)
   rw[List.map_append,e]
   simp only[hh,bx]
   rw[show d.num=(a.map (·.den ak)).length by simp[p1],List.drop_left,q2]
 |[],_::_,_,_,_,_,_=>ae.fail
 |_::_,[],_,_,_,_,_=>ae.fail
 |[],[],_::_,_,_,_,hr=>hr.elim
 |_::_,_::_,[],_,_,_,hr=>hr.elim
end
section
variable {S:Nat->List Int->List Int->Prop} {P:Program} {gl:cF} {w0:b5}
theorem yN {L:V->Env->Prop} {id:Nat} {l:List I} {n:Nat} {bds:List (Int×Int)} {r:T} {G:bZ} {ρ:Env} (h:(T.call id l n bds r).holds S L G ρ) {rs:List Int} (hi:bb bds rs) (hs:S id (l.map (·.den ρ)) rs):r.holds S L G (bk ρ n rs):=
 mP h hi hs
theorem BG {ρ:Env} {m:Nat->Nat} {N nb:Nat} {ds:List D} {s:Nat} {zs:List Int} (h:bb (cN ds) zs) (ha:At ρ s zs) (hN:s+(cN ds).length<=N):(sy ds s).ok N nb ρ/\(sy ds s).rel ρ m (fE ds zs):=by
 have hs:=Ck (m:=m) (nb:=nb) ds h ha hN
 unfold sy fE
 rw[<-hs.2]
 split
 ·rename_i u heq
  rw[heq]at hs
  rw[heq]
  exact⟨hs.1 u (by simp),rfl⟩
 ·rename_i l hne
  refine⟨hs.1,?_⟩
  split
  ·rename_i x heq
   have:∃u,mC s ds=[u]:=by
    cases hl:mC s ds with
    |nil=>rw[hl]at heq;simp at heq
    |cons u r=>
     cases r with
     |nil=>exact⟨u,rfl⟩
     |cons _ _=>rw[hl]at heq;simp at heq
   obtain⟨u,hu⟩:=this
   exact absurd hu (hne u)
  ·rfl
def cj.nL (P:Program) (wb:World) (c:cj) (spec:List Int->List Int->Prop):Prop:=
 ∀zs,bb (cN c.args) zs->∃rs,bb (cN c.res) rs/\spec zs rs/\∀w,wb.Extends w->qJ P c.f (hh c.args zs).toArray w (fE c.res rs)
theorem cj.Ok.f {wb:World} {c:cj} {spec:List Int->List Int->Prop} (h:c.Ok P wb spec):c.nL P wb spec:=λzs hz=>by
 obtain⟨rs,h1,h2,h3⟩:=h.2 zs hz
 exact⟨rs,h1,h2,λw hw=> .inr ⟨h.1 _ _,h3 w hw⟩⟩
theorem cj.snd {c:cj} {spec:List Int->List Int->Prop} (hc:c.nL P w0.b spec) (fj:∀zs rs,spec zs rs->S c.id zs rs) (L:V->Env->Prop) (n:Nat) (ρ:Env) (m:Nat->Nat) (bl:List af) (vs:List V) (xs:List Value)
 (dJ:∀v∈vs,V.ok n bl.length ρ v) (hr:cU ρ m vs xs):ae S L (c.M bl vs) n ρ λaa n' v=>v.ok n' bl.length aa/\∃val,v.rel aa m val/\∀w,Mem w0 ρ m bl w->qJ P c.f xs.toArray w val:=by
 intro G k hk
 unfold cj.M at hk
 cases hl:jT c.args vs with
 |none=>
  simp only[hl]at hk
  obtain⟨ak,n1,l,cv,bG,⟨_,h1,h2⟩,hk⟩:=Ez (S:=S) (L:=L) (nb:=bl.length) dJ hr G _ hk
  obtain⟨rs,r1,r2,dK⟩:=hc _ h1
  have ad:=yN hk r1 (fj _ _ r2)
  have hlen:=gD r1
  have ja:=BG (m:=m) (nb:=bl.length) (N:=n1+(cN c.res).length) r1 (At.bk ak n1 rs) (Nat.le_refl _)
  refine⟨_,_,_,Nat.le_trans cv (Nat.le_add_right _ _),bG.trans (agree.bk rs n1 ak) cv,⟨ja.1,_,ja.2,λw hw=>?_⟩,ad⟩
  rw[h2]at dK
  exact dK w hw.ext
 |some l=>
  simp only[hl]at hk
  obtain⟨h1,h2⟩:=zd hl dJ hr
  obtain⟨rs,r1,r2,dK⟩:=hc _ h1
  have ad:=yN hk r1 (fj _ _ r2)
  have hlen:=gD r1
  have ja:=BG (m:=m) (nb:=bl.length) (N:=n+(cN c.res).length) r1 (At.bk ρ n rs) (Nat.le_refl _)
  refine⟨_,_,_,Nat.le_add_right _ _,agree.bk rs n ρ,⟨ja.1,_,ja.2,λw hw=>?_⟩,ad⟩
  rw[h2]at dK
  exact dK w hw.ext
def PY:List af->List V->M V:=λ_ vs=>
 match vs with
 |[.w (.one (.int .u64 x)),.w (.one (.int .u64 y))]=>
  cond (decide (0<=x.lo)&&decide (x.hi<18446744073709551616)&&decide (0<=y.lo)&&decide (y.hi<18446744073709551616)) (bind (mulM x y) λp=>bind (l5 p 18446744073709551616) λq=>
   pure (.c7 [.one (.int .u64 q),.one (.int .u64 ⟨p.l.sub (q.l.smul 18446744073709551616),0,18446744073709551615⟩)])) fail
 |_=>fail
def JM:List af->List V->M V:=λ_ vs=>
 match vs with
 |[.w (.one (.int .u64 x)),.w (.one (.int .u64 y)),.w (.one (.int .u64 c))]=>
  cond (decide (0<=x.lo)&&decide (0<=y.lo)&&decide (0<=c.lo)&&decide (c.hi<=1)) (bind (l5 ⟨(x.l.add y.l).add c.l,x.lo+y.lo+c.lo,x.hi+y.hi+c.hi⟩ 18446744073709551616) λq=>
   pure (.c7 [.one (.int .u64 ⟨((x.l.add y.l).add c.l).sub (q.l.smul 18446744073709551616),0,18446744073709551615⟩),.one (.int .u64 q)])) fail
 |_=>fail
def SD:List af->List V->M V:=λ_ vs=>
 match vs with
 |[.w (.one (.int .u64 x)),.w (.one (.int .u64 y)),.w (.one (.int .u64 c))]=>
  cond (decide (0<=x.lo)&&decide (x.hi<18446744073709551616)&&decide (0<=y.lo)&&decide (y.hi<18446744073709551616)&&decide (0<=c.lo)&&decide (c.hi<=1)) (bind (l5 ⟨(x.l.sub y.l).sub c.l,x.lo-y.hi-c.hi,x.hi-y.lo-c.lo⟩ 18446744073709551616) λq=>
   pure (.c7 [.one (.int .u64 ⟨((x.l.sub y.l).sub c.l).sub (q.l.smul 18446744073709551616),0,18446744073709551615⟩),.one (.int .u64 ⟨q.l.smul (-1),0,1⟩)])) fail
 |_=>fail
variable {L:V->Env->Prop} {n:Nat} {ρ:Env} {m:Nat->Nat} {bl:List af} {vs:List V} {xs:List Value}
end
end Go.aZ
namespace Go.aZ
open M
theorem o4:∀{b:List (Int×Int)} {P:List Int->Prop},(∀rs,bb b rs->P rs)->lW b P
 |[],_,h=>h [] trivial
 |(l,u)::b,P,h=>λr h1 h2=>o4 (b:=b) (P:=λrs=>P (r::rs)) λrs hi=>h (r::rs) ⟨h1,h2,hi⟩
inductive O where
 |l (x:I)
 |b (x:aC)
def O.den (ρ:Env):O->Int
 |l x=>x.den ρ
 |b x=>cond (x.den ρ) 1 0
def eC (k:IntKind):List A->Option (List O)
 |[]=>some []
 | .int aD x::r=>cond (decide (k=aD)) (match eC k r with|some l=>some (.l x.l::l)|none=>none) none
 |_::_=>none
def ag.out:ag->A->Option O
 | .int k _ _,.int aD x=>cond (decide (k=aD)) (some (.l x.l)) none
 | .str,.str l=>some (.l l)
 | .bool,.bool e=>some (.b e)
 |_,_=>none
def jB:List ag->List A->Option (List O)
 |[],[]=>some []
 |c::d,a::r=>match c.out a,jB d r with|some o,some l=>some (o::l)|_,_=>none
 |_,_=>none
def ny:D->W->Option (List O)
 | .int k _ _,.one (.int aD x)=>cond (decide (k=aD)) (some [.l x.l]) none
 | .bool,.one (.bool x)=>some [.b x]
 | .agg k n _ _,.agg l=>cond (Nat.beq l.length n) (eC k l) none
 | .str,.one (.str l)=>some [.l l]
 | .mix d,.agg l=>jB d l
 |_,_=>none
def oz:List D->List W->Option (List O)
 |[],[]=>some []
 |d::r,w::s=>match ny d w,oz r s with|some a,some b=>some (a++b)|_,_=>none
 |_,_=>none
def outs (ds:List D):V->Option (List O)
 | .w u=>match ds with|[d]=>ny d u|_=>none
 | .c7 l=>match ds with|[_]=>none|_=>oz ds l
 |_=>none
def oX (ds:List D) (K:List Int->Prop) (v:V) (ρ:Env):Prop:=
 match outs ds v with
 |some os=>K (os.map (O.den ρ))
 |none=>False
theorem Ht {ρ:Env} {m:Nat->Nat} {k:IntKind}:∀{l:List A} {os:List O},eC k l=some os->os.length=l.length/\l.map (A.den ρ m)=(os.map (O.den ρ)).map (.int k)
 |[],os,h=>by simp[eC]at h;subst h;exact⟨rfl,rfl⟩
 | .int aD x::r,os,h=>by
  simp only[eC]at h
  by_cases hk:k=aD
  ·simp only[hk,decide_true,cond_true]at h
   cases hr:eC aD r with
   |none=>simp[hr]at h
   |some o=>
    simp only[hr,Option.some.injEq]at h
    subst h
    subst hk
    obtain⟨h1,h2⟩:=Ht (ρ:=ρ) (m:=m) hr
    exact⟨by simp[h1],by simp only[List.map_cons,h2,A.den,O.den]⟩
  ·simp[hk]at h
 | .bool _::_,_,h=>by simp[eC]at h
 | .ptr .. ::_,_,h=>by simp[eC]at h
 | .gJ .. ::_,_,h=>by simp[eC]at h
 | .gptr .. ::_,_,h=>by simp[eC]at h
 | .slc .. ::_,_,h=>by simp[eC]at h
 | .con _::_,_,h=>by simp[eC]at h
 | .str _::_,_,h=>by simp[eC]at h
theorem ag.QO {ρ:Env} {m:Nat->Nat} {c:ag} {a:A} {o:O} (h:c.out a=some o):a.den ρ m=c.val (o.den ρ):=by
 unfold ag.out at h
 split at h
 ·rename_i k lo hi aD x
  by_cases hk:k=aD
  ·subst hk
   simp only[decide_true,cond_true,Option.some.injEq]at h
   subst h;rfl
  ·simp[hk]at h
 ·simp only[Option.some.injEq]at h;subst h;rfl
 ·rename_i e
  simp only[Option.some.injEq]at h;subst h
  have hb:∀b:Bool,Value.bool b=Value.bool (decide ((cond b 1 0:Int)=1)):=by intro b;cases b<;>rfl
  exact hb (e.den ρ)
 ·cases h
theorem Hw {ρ:Env} {m:Nat->Nat}:∀{d:List ag} {l:List A} {os:List O},jB d l=some os->os.length=d.length/\l.map (A.den ρ m)=List.zipWith ag.val d (os.map (O.den ρ))
 |[],[],os,h=>by simp[jB]at h;subst h;exact⟨rfl,rfl⟩
 |c::d,a::r,os,h=>by
  simp only[jB]at h
  cases h1:c.out a with
  |none=>simp[h1]at h
  |some o=>
   cases hr:jB d r with
   |none=>simp[h1,hr]at h
   |some l=>
    simp only[h1,hr,Option.some.injEq]at h
    subst h
    obtain⟨p1,bc⟩:=Hw (ρ:=ρ) (m:=m) hr
    exact⟨by simp[p1],by simp only[List.map_cons,bc,ag.QO h1,List.zipWith_cons_cons]⟩
 |[],_::_,_,h=>by simp[jB]at h
 |_::_,[],_,h=>by simp[jB]at h
theorem Bq {ρ:Env} {m:Nat->Nat} {d:D} {u:W} {os:List O} (h:ny d u=some os):os.length=d.num/\∀zs,d.val (os.map (O.den ρ)++zs)=u.den ρ m:=by
 unfold ny at h
 split at h
 ·rename_i k _ _ aD x
  by_cases hk:k=aD
  ·subst hk
   simp only[decide_true,cond_true,Option.some.injEq]at h
   subst h
   exact⟨rfl,λzs=>by simp[D.val,W.den,A.den,O.den]⟩
  ·simp[hk]at h
 ·rename_i x
  simp only[Option.some.injEq]at h
  subst h
  exact⟨rfl,λzs=>by cases hx:x.den ρ<;>simp[D.val,W.den,A.den,O.den,hx]⟩
 ·rename_i k n' _ _ l
  cases hc:Nat.beq l.length n' with
  |false=>simp[hc]at h
  |true=>
   simp only[hc,cond_true]at h
   have hl:=Nat.eq_of_beq_eq_true hc
   subst hl
   obtain⟨h1,h2⟩:=Ht (ρ:=ρ) (m:=m) h
   exact⟨h1,λzs=>by simp only[D.val,W.den,h2];rw[List.take_append_of_le_length (by simp[h1]),List.take_of_length_le (by simp[h1])]⟩
 ·simp only[Option.some.injEq]at h;subst h
  exact⟨rfl,λzs=>rfl⟩
 ·rename_i d l
  obtain⟨h1,h2⟩:=Hw (ρ:=ρ) (m:=m) h
  refine⟨h1,λzs=>?_⟩
  simp only[D.val,W.den,h2]
  congr 2
  have key:∀(a:List ag) (b c:List Int),b.length=a.length->List.zipWith ag.val a (b++c)=List.zipWith ag.val a b:=by
   intro a
   induction a with
   |nil=>intro b c _;simp
   |cons p a ih=>
    intro b c hb
    cases b with
    |nil=>simp at hb
    |cons z b=>simp[ih b c (by simpa using hb)]
  exact key _ _ _ (by simp[h1])
 ·cases h
theorem Hu {ρ:Env} {m:Nat->Nat}:∀{ds:List D} {l:List W} {os:List O},oz ds l=some os->hh ds (os.map (O.den ρ))=l.map (W.den ρ m)
 |[],[],os,h=>by simp[oz]at h;subst h;rfl
 |d::ds,u::l,os,h=>by
  simp only[oz]at h
  cases h1:ny d u with
  |none=>simp[h1]at h
  |some a=>
   cases h2:oz ds l with
   |none=>simp[h1,h2]at h
   |some b=>
    simp only[h1,h2,Option.some.injEq]at h
    subst h
    obtain⟨p1,bc⟩:=Bq (ρ:=ρ) (m:=m) h1
    rw[List.map_append]
    simp only[hh,bc,List.map_cons]
    rw[show d.num=(a.map (O.den ρ)).length by simp[p1],List.drop_left,Hu h2]
 |[],_::_,_,h=>by simp[oz]at h
 |_::_,[],_,h=>by simp[oz]at h
theorem TC (ds:List D):∀zs,(hh ds zs).length=ds.length:=by
 induction ds with
 |nil=>intro zs;rfl
 |cons d r ih=>intro zs;simp[hh,ih]
theorem Db {ds:List D} {K:List Int->Prop} {v:V} {ρ:Env} {m:Nat->Nat} {val:Value} (h:oX ds K v ρ) (hr:v.rel ρ m val):∃rs,K rs/\val=fE ds rs:=by
 unfold oX at h
 cases ho:outs ds v with
 |none=>simp[ho]at h
 |some os=>
  simp only[ho]at h
  refine⟨_,h,?_⟩
  unfold outs at ho
  cases v with
  |any=>cases ho
  |h9 _ _ _=>cases ho
  |iO _ _=>cases ho
  |w u=>
   simp only at ho
   split at ho
   ·rename_i d
    obtain⟨p1,bc⟩:=Bq (ρ:=ρ) (m:=m) ho
    simp only[V.rel]at hr
    have:=bc []
    rw[List.append_nil]at this
    simp[fE,hh,this,hr]
   ·cases ho
  |c7 l=>
   simp only at ho
   split at ho
   ·cases ho
   ·rename_i hne
    have:=Hu (ρ:=ρ) (m:=m) ho
    simp only[V.rel]at hr
    unfold fE
    split
    ·rename_i x heq
     exfalso
     have hl:=TC ds (os.map (O.den ρ))
     rw[heq]at hl
     match ds,hl with
     |[d],_=>exact hne d rfl
    ·rw[hr,this]
noncomputable def T6 (cons:List cj) (PZ JN SE:FuncId):dp:=λf=>
 cond (Nat.beq f PZ) (some PY) <| cond (Nat.beq f JN) (some JM) <| cond (Nat.beq f SE) (some SD) <|
 match cons.find? (λc=>Nat.beq f c.f)with
 |some c=>some c.M
 |none=>none
section
variable {S:Nat->List Int->List Int->Prop} {P:Program} {gl:cF} {wb:World}
noncomputable def vF (cons:List cj):dp:=λf=>
 match cons.filter (λc=>Nat.beq f c.f)with
 |[]=>none
 |l=>some λbl vs n k=>match l.find? (λc=>(jT c.args vs).isSome)with
  |some c=>c.M bl vs n k
  |none=>match l with
   |c::_=>c.M bl vs n k
   |[]=> .stuck
theorem DM {w0:b5} {cons:List cj} (hc:∀c∈cons,c.nL P w0.b (S c.id)):fr S P gl w0 (vF cons):=by
 intro f g lv L n ρ m bl vs xs h1 h2 h3 h4
 unfold vF at lv
 split at lv
 ·cases lv
 ·rename_i l hl
  simp only[Option.some.injEq]at lv
  subst lv
  intro G k hk
  simp only at hk
  split at hk
  ·rename_i c l9
   have bU:=List.mem_filter.1 (List.mem_of_find?_eq_some l9)
   have tJ:=Nat.eq_of_beq_eq_true bU.2
   subst tJ
   exact cj.snd (hc c bU.1) (λ_ _ h=>h) L n ρ m bl vs xs h3 h4 G k hk
  ·split at hk
   ·rename_i c r hl2
    have bU:=List.mem_filter.1 (show c∈cons.filter (λc=>Nat.beq f c.f) from by rw[hl2];exact List.mem_cons_self (a:=c) (l:=r))
    have tJ:=Nat.eq_of_beq_eq_true bU.2
    subst tJ
    exact cj.snd (hc c bU.1) (λ_ _ h=>h) L n ρ m bl vs xs h3 h4 G k hk
   ·exact hk.elim
theorem Calls.some {f:FuncId} {args:Array Value} {w:World} {R:Ending->World->Prop} (h:Calls P f args w R):∃e w',R e w':=by
 obtain⟨e,w',mZ,h1,_⟩:=h []
 exact⟨e,w',h1⟩
noncomputable def cj.tree (P:Program) (gl:cF) (aL:dp) (li:FuncId->Nat->Option dh) (rounds d:Nat) (c:cj):T:=
 vG P gl aL li rounds d c.f (cN c.args).length ((mC 0 c.args).map V.w) [] λ_ v _=> .leaf v
theorem Da {ρ:Env} {m:Nat->Nat}:∀(l:List W),cU ρ m (l.map V.w) (l.map (W.den ρ m))
 |[]=>trivial
 |_::r=>⟨rfl,Da r⟩
theorem cj.calls {c:cj} {aL:dp} {li:FuncId->Nat->Option dh} {rounds d:Nat} {L:V->Env->Prop} (hm:P.follows .mixedOrders=true) (bV:∀r ex ro,fr S P gl ⟨wb,r,ex,ro,[]⟩ aL) (hg:ey gl ⟨wb,wb,λ_=>False,λ_=>False,[]⟩) {zs:List Int} (hz:bb (cN c.args) zs)
 (ht:(c.tree P gl aL li rounds d).holds S L (λ_ _=>False) (bk (λ_=>0) 0 zs)) (w:World) (hw:wb.Extends w):
 Calls P c.f (hh c.args zs).toArray w λe w'=>∃v aa m val,e= .returned val/\v.rel aa m val/\L v aa/\w.Extends w':=by
 have hs:=Ck (m:=λ_=>0) (nb:=0) (N:=(cN c.args).length) c.args hz (At.bk (λ_=>0) 0 zs) (by omega)
 have:=Ki (L:=L) (b:=wb) (w:=w) hm (bV w _ _) hg c.f _ _ _ ((mC 0 c.args).map (W.den (bk (λ_=>0) 0 zs) λ_=>0)) hw (λv hv=>by
  obtain⟨u,hu,rfl⟩:=List.mem_map.1 hv
  exact hs.1 u hu) (Da _) ht
 rw[hs.2]at this
 refine this.mono λe w' ⟨v,aa,m,val,nb,h1,h2,_,h3,h4⟩=>⟨v,aa,m,val,h1,h2,h3,h4⟩
end
end Go.aZ
namespace Go.aZ
open M
structure TZ where
 f:FuncId
 id:Nat
 k:IntKind
 N:Nat
 lo:Int
 hi:Int
 ty:TypeId
 off:Nat
 len:Nat
 cap:Nat
 args:List D
 res:List D
section
variable {S:Nat->List Int->List Int->Prop} {P:Program} {gl:cF} {w0:b5}
end
end Go.aZ
namespace Go.aZ
def ru (P:Program) (f:FuncId):Bool:=match P.funcs[f]? with
 |some fn=> !(fn.name== "runtime.NumGoroutine")&&fn.body.isSome
 |none=>false
theorem enters {P:Program} {f:FuncId} (h:ru P f=true) (args:Array Value) (w:World):(callFunc f args).run P w= .ok (.enter f args) w:=by
 unfold ru at h
 cases hf:P.funcs[f]? with
 |none=>simp[hf]at h
 |some fn=>
  simp only[hf,Bool.and_eq_true,Bool.not_eq_true']at h
  have h1:fn.name≠ "runtime.NumGoroutine" :=by simpa using h.1
  obtain⟨c,hc⟩:=Option.isSome_iff_exists.1 h.2
  simp[callFunc,hf,h1,hc,Sem.run]
section
variable {S:Nat->List Int->List Int->Prop} {P:Program} {gl:cF} {wb:World}
end
end Go.aZ
namespace Go.aZ
abbrev dE:=List (Nat×Nat)
abbrev dD:=List (List Int)
def kO:dE->dD->Nat->Int
 |(s,k)::st,l::aq,i=>cond (Nat.ble s i&&Nat.blt i (s+k)) (l.getD (i-s) 0) (kO st aq i)
 |_,_,_=>0
def A0:dE->dD->Prop
 |(_,k)::st,l::aq=>l.length=k/\A0 st aq
 |[],[]=>True
 |_,_=>False
def hO (ρ:Env) (st:dE) (aq:dD):Prop:=A0 st aq/\∀i,ρ i=kO st aq i
def re (st:dE) (aq:dD):List (Int×Nat)->Int
 |[]=>0
 |(k,i)::r=>match r with
  |[]=>cond (k==1) (kO st aq i) (k*kO st aq i)
  |_=>cond (k==1) (kO st aq i) (k*kO st aq i)+re st aq r
def I.cy (st:dE) (aq:dD) (l:I):Int:=
 match l.ts with
 |[]=>l.c
 |ts=>cond (l.c==0) (re st aq ts) (re st aq ts+l.c)
theorem D4 {ρ:Env} {st:dE} {aq:dD} (h:∀i,ρ i=kO st aq i):∀ts,re st aq ts=dF ρ ts
 |[]=>rfl
 |(k,i)::[]=>by
  simp only[re,dF,<-h i]
  cases hk:(k==1)with
  |true=>have:k=1:=by simpa using hk
         subst this;simp
  |false=>simp
 |(k,i)::t::r=>by
  have ih:=D4 h (t::r)
  rw[re,dF,ih,<-h i]
  ·cases hk:(k==1)with
   |true=>have:k=1:=by simpa using hk
          subst this;simp
   |false=>simp
  ·intro hc;cases hc
theorem I.ez {ρ:Env} {st:dE} {aq:dD} (h:∀i,ρ i=kO st aq i) (l:I):l.cy st aq=l.den ρ:=by
 unfold I.cy I.den
 cases hl:l.ts with
 |nil=>simp[dF]
 |cons t r=>
  simp only[D4 h]
  cases hc:(l.c==0)with
  |true=>have:l.c=0:=by simpa using hc
         rw[this];simp
  |false=>simp
def pn:dE->dD->Nat->Nat->Option (List Int)
 |(s,k)::st,l::aq,i,len=>cond (Nat.beq s i&&Nat.beq k len) (some l) (cond (Nat.ble (i+len) s||Nat.ble (s+k) i) (pn st aq i len) none)
 |_,_,_,_=>none
theorem Ep:∀{st:dE} {aq:dD} {i len:Nat} {l:List Int},pn st aq i len=some l->A0 st aq->l.length=len/\∀j,j<len->kO st aq (i+j)=l.getD j 0
 |[],_,_,_,_,h,_=>by simp[pn]at h
 |_::_,[],_,_,_,h,_=>by simp[pn]at h
 |(s,k)::st,aT::aq,i,len,l,h,hl=>by
  unfold pn at h
  cases h1:(Nat.beq s i&&Nat.beq k len)with
  |true=>
   simp only[h1,cond_true,Option.some.injEq]at h
   subst h
   simp only[Bool.and_eq_true]at h1
   have e1:=Nat.eq_of_beq_eq_true h1.1
   have e2:=Nat.eq_of_beq_eq_true h1.2
   subst e1;subst e2
   refine⟨hl.1,λj hj=>?_⟩
   unfold kO
   have:(Nat.ble s (s+j)&&Nat.blt (s+j) (s+k))=true:=by simp[Nat.blt];omega
   rw[this,cond_true,Nat.add_sub_cancel_left]
  |false=>
   simp only[h1,cond_false]at h
   cases h2:(Nat.ble (i+len) s||Nat.ble (s+k) i)with
   |false=>simp[h2]at h
   |true=>
    simp only[h2,cond_true]at h
    obtain⟨g1,g2⟩:=Ep h hl.2
    refine⟨g1,λj hj=>?_⟩
    rw[<-g2 j hj]
    conv=>lhs;unfold kO
    have:(Nat.ble s (i+j)&&Nat.blt (i+j) (s+k))=false:=by
     simp only[Bool.or_eq_true,Nat.ble_eq]at h2
     cases h3:(Nat.ble s (i+j)&&Nat.blt (i+j) (s+k))with
     |false=>rfl
     |true=>simp[Nat.blt]at h3;omega
    rw[this,cond_false]
def ur:Nat->List I->Bool
 |_,[]=>true
 |i,l::r=>(l.c==0&&(match l.ts with|[(k,j)]=>k==1&&Nat.beq i j|_=>false))&&ur (i+1) r
def firstVar:List I->Nat
 |[]=>0
 |l::_=>match l.ts with|[(_,j)]=>j|_=>0
theorem GA {ρ:Env}:∀{ls:List I} {i:Nat},ur i ls=true->∀j,j<ls.length->(ls.map (·.den ρ)).getD j 0=ρ (i+j)
 |[],_,_,j,hj=>by simp at hj
 |l::r,i,h,j,hj=>by
  simp only[ur,Bool.and_eq_true]at h
  cases j with
  |zero=>
   obtain⟨⟨h1,h2⟩,_⟩:=h
   have hc:l.c=0:=by simpa using h1
   cases hl:l.ts with
   |nil=>simp[hl]at h2
   |cons t s=>
    cases s with
    |cons t' R0=>simp[hl]at h2
    |nil=>
     obtain⟨k,q⟩:=t
     simp only[hl,Bool.and_eq_true]at h2
     have e1:k=1:=by simpa using h2.1
     have e2:=Nat.eq_of_beq_eq_true h2.2
     subst e1;subst e2
     simp[I.den,hl,dF,hc]
  |succ j=>
   have:=GA (ρ:=ρ) h.2 j (by simpa using hj)
   simp only[List.map_cons,List.getD_cons_succ]
   rw[this]
   congr 1;omega
def mA (st:dE) (aq:dD) (ls:List I):List Int:=
 cond (Nat.blt 1 ls.length&&ur (firstVar ls) ls) (match pn st aq (firstVar ls) ls.length with|some l=>l|none=>ls.map (I.cy st aq)) (ls.map (I.cy st aq))
theorem GR {l aT:List Int} (hl:l.length=aT.length) (h:∀j,j<l.length->l.getD j 0=aT.getD j 0):l=aT:=by
 apply List.ext_getElem hl
 intro j h1 h2
 have:=h j h1
 simpa [List.getD_eq_getElem?_getD,List.getElem?_eq_getElem h1,List.getElem?_eq_getElem h2]using this
theorem xR {ρ:Env} {st:dE} {aq:dD} (h:hO ρ st aq) (ls:List I):mA st aq ls=ls.map (·.den ρ):=by
 have b7:ls.map (I.cy st aq)=ls.map (·.den ρ):=List.map_congr_left λl _=>I.ez h.2 l
 unfold mA
 cases h1:(Nat.blt 1 ls.length&&ur (firstVar ls) ls)with
 |false=>simpa using b7
 |true=>
  simp only[cond_true]
  simp only[Bool.and_eq_true]at h1
  cases h2:pn st aq (firstVar ls) ls.length with
  |none=>exact b7
  |some l=>
   obtain⟨g1,g2⟩:=Ep h2 h.1
   show l=_
   refine GR (by simp[g1]) λj hj=>?_
   rw[GA h1.2 j (by omega),h.2,g2 j (by omega)]
def gQ:aC->Option (List I×List I)
 | .eq a b=>some ([a],[b])
 | .and (.eq a b) r=>match gQ r with|some (x,y)=>some (a::x,b::y)|none=>none
 |_=>none
def aC.cy (st:dE) (aq:dD):aC->Bool
 |lit b=>b
 |eq a b=>decide (a.cy st aq=b.cy st aq)
 |lt a b=>decide (a.cy st aq<b.cy st aq)
 |le a b=>decide (a.cy st aq<=b.cy st aq)
 |not a=> !a.cy st aq
 |and a b=>match gQ (.and a b)with
  |some (x,y)=>decide (mA st aq x=mA st aq y)
  |none=>a.cy st aq&&b.cy st aq
 |iff a b=>a.cy st aq==b.cy st aq
theorem Em {ρ:Env}:∀{b:aC} {x y:List I},gQ b=some (x,y)->b.den ρ=decide (x.map (·.den ρ)=y.map (·.den ρ))
 | .eq a b,x,y,h=>by
  simp only[gQ,Option.some.injEq,Prod.mk.injEq]at h
  obtain⟨rfl,rfl⟩:=h
  simp[aC.den]
 | .and (.eq a b) r,x,y,h=>by
  simp only[gQ]at h
  cases hr:gQ r with
  |none=>simp[hr]at h
  |some p=>
   obtain⟨dk,fc⟩:=p
   simp only[hr,Option.some.injEq,Prod.mk.injEq]at h
   obtain⟨rfl,rfl⟩:=h
   have ih:=Em (ρ:=ρ) hr
   simp only[aC.den,ih,List.map_cons,List.cons.injEq]
   simp
 | .lit _,_,_,h=>by simp[gQ]at h
 | .lt _ _,_,_,h=>by simp[gQ]at h
 | .le _ _,_,_,h=>by simp[gQ]at h
 | .not _,_,_,h=>by simp[gQ]at h
 | .iff _ _,_,_,h=>by simp[gQ]at h
 | .and (.lit _) _,_,_,h=>by simp[gQ]at h
 | .and (.lt _ _) _,_,_,h=>by simp[gQ]at h
 | .and (.le _ _) _,_,_,h=>by simp[gQ]at h
 | .and (.not _) _,_,_,h=>by simp[gQ]at h
 | .and (.and _ _) _,_,_,h=>by simp[gQ]at h
 | .and (.iff _ _) _,_,_,h=>by simp[gQ]at h
theorem aC.ez {ρ:Env} {st:dE} {aq:dD} (h:hO ρ st aq):∀b:aC,b.cy st aq=b.den ρ
 |lit _=>rfl
 |eq a b=>by simp only[cy,den,I.ez h.2]
 |lt a b=>by simp only[cy,den,I.ez h.2]
 |le a b=>by simp only[cy,den,I.ez h.2]
 |not a=>by simp only[cy,den,aC.ez h a]
 |and a b=>by
  have e1:=aC.ez h a
  have e2:=aC.ez h b
  unfold cy
  cases hq:gQ (.and a b)with
  |none=>simp only[den,e1,e2]
  |some p=>
   obtain⟨x,y⟩:=p
   simp only[Em (ρ:=ρ) hq,xR h]
 |iff a b=>by simp only[cy,den,aC.ez h a,aC.ez h b]
def dQ {α:Type}:List Nat->List α->List (List α)
 |[],[]=>[]
 |[],x::l=>[x::l]
 |k::gq,l=>l.take k::dQ gq (l.drop k)
theorem xS {α β:Type} (f:α->β):∀(gq:List Nat) (l:List α),dQ gq (l.map f)=(dQ gq l).map (List.map f)
 |[],[]=>rfl
 |[],_::_=>rfl
 |k::gq,l=>by simp only[dQ,List.map_cons,<-List.map_take,<-List.map_drop,xS f gq]
def nO:List Nat->Nat->List (Int×Int)->(dE->dD->List (List Int)->Prop)->dE->dD->Prop
 |[],_,[],P,st,aq=>P st aq []
 |[],_,_::_,_,_,_=>False
 |k::gq,n,bds,P,st,aq=>cond (Nat.beq k 1)
  (match bds with
  |(lo,hi)::Du=>∀z:Int,lo<=z->z<=hi->nO gq (n+1) Du (λiH iu ls=>P iH iu ([z]::ls)) ((n,1)::st) ([z]::aq)
  |[]=>False)
  (cond (Nat.ble k bds.length) (∀r:List Int,bb (bds.take k) r->nO gq (n+k) (bds.drop k) (λiH iu ls=>P iH iu (r::ls)) ((n,k)::st) (r::aq)) False)
theorem IW:∀(a b:List Int) (n:Nat) (ρ:Env),bk ρ n (a++b)=bk (bk ρ n a) (n+a.length) b
 |[],b,n,ρ=>rfl
 |z::a,b,n,ρ=>by
  simp only[List.cons_append,bk,List.length_cons]
  rw[IW a b]
  congr 1;omega
theorem IX:∀(l:List Int) (n:Nat) (ρ:Env) (i:Nat),bk ρ n l i=cond (Nat.ble n i&&Nat.blt i (n+l.length)) (l.getD (i-n) 0) (ρ i)
 |[],n,ρ,i=>by
  have:(Nat.ble n i&&Nat.blt i (n+0))=false:=by
   cases h:(Nat.ble n i&&Nat.blt i (n+0))with
   |false=>rfl
   |true=>simp[Nat.blt]at h;omega
  simp only[bk,List.length_nil,this,cond_false]
 |z::l,n,ρ,i=>by
  simp only[bk]
  rw[IX l (n+1)]
  by_cases h1:i=n
  ·subst h1
   have e1:(Nat.ble (i+1) i&&Nat.blt i (i+1+l.length))=false:=by
    have:Nat.ble (i+1) i=false:=by
     cases h:Nat.ble (i+1) i with
     |false=>rfl
     |true=>exact absurd (Nat.le_of_ble_eq_true h) (by omega)
    simp[this]
   have e2:(Nat.ble i i&&Nat.blt i (i+(z::l).length))=true:=by simp[Nat.blt]
   rw[e1,e2]
   simp[bF]
  ·have hu:bF ρ n z i=ρ i:=xW ρ z h1
   by_cases h2:n<=i/\i<n+1+l.length
   ·have e1:(Nat.ble (n+1) i&&Nat.blt i (n+1+l.length))=true:=by simp[Nat.blt];omega
    have e2:(Nat.ble n i&&Nat.blt i (n+(z::l).length))=true:=by simp[Nat.blt];omega
    rw[e1,e2]
    simp only[cond_true]
    rw[show i-n=(i-(n+1))+1 by omega,List.getD_cons_succ]
   ·have e1:(Nat.ble (n+1) i&&Nat.blt i (n+1+l.length))=false:=by
     cases h:(Nat.ble (n+1) i&&Nat.blt i (n+1+l.length))with
     |false=>rfl
     |true=>simp[Nat.blt]at h;omega
    have e2:(Nat.ble n i&&Nat.blt i (n+(z::l).length))=false:=by
     cases h:(Nat.ble n i&&Nat.blt i (n+(z::l).length))with
     |false=>rfl
     |true=>simp[Nat.blt]at h;omega
    rw[e1,e2]
    simp[hu]
theorem hO.push {ρ:Env} {st:dE} {aq:dD} (h:hO ρ st aq) (n:Nat) (l:List Int):hO (bk ρ n l) ((n,l.length)::st) (l::aq):=
 ⟨⟨rfl,h.1⟩,λi=>by rw[IX,kO,<-h.2 i]⟩
theorem Gu:∀{bds:List (Int×Int)} {zs:List Int} (k:Nat),bb bds zs->bb (bds.take k) (zs.take k)/\bb (bds.drop k) (zs.drop k)
 |[],[],k,_=>by simp[bb]
 |[],_::_,_,h=>h.elim
 |(_,_)::_,[],_,h=>h.elim
 |(l,u)::b,z::zs,0,h=>by simpa [bb]using h
 |(l,u)::b,z::zs,k+1,h=>by
  obtain⟨h1,h2,h3⟩:=h
  obtain⟨g1,g2⟩:=Gu (bds:=b) (zs:=zs) k h3
  exact⟨⟨h1,h2,g1⟩,g2⟩
theorem qP:∀{gq:List Nat} {n:Nat} {bds:List (Int×Int)} {P:dE->dD->List (List Int)->Prop} {st:dE} {aq:dD} {ρ:Env} {zs:List Int},nO gq n bds P st aq->hO ρ st aq->bb bds zs->∃iH iu,hO (bk ρ n zs) iH iu/\P iH iu (dQ gq zs)
 |[],n,[],P,st,aq,ρ,[],h,ht,_=>⟨st,aq,ht,h⟩
 |[],_,[],_,_,_,_,_::_,_,_,hi=>hi.elim
 |[],_,_::_,_,_,_,_,_,h,_,_=>h.elim
 |k::gq,n,bds,P,st,aq,ρ,zs,h,ht,hi=>by
  unfold nO at h
  cases hk:Nat.beq k 1 with
  |true=>
   have e:=Nat.eq_of_beq_eq_true hk
   subst e
   simp only[hk,cond_true]at h
   cases bds with
   |nil=>exact h.elim
   |cons b Du=>
    obtain⟨lo,hT⟩:=b
    cases zs with
    |nil=>exact hi.elim
    |cons z zs=>
     obtain⟨h1,h2,h3⟩:=hi
     have:=qP (h z h1 h2) (ht.push n [z]) h3
     obtain⟨iH,iu,g1,g2⟩:=this
     refine⟨iH,iu,g1,?_⟩
     simpa [dQ]using g2
  |false=>
   simp only[hk,cond_false]at h
   cases hb:Nat.ble k bds.length with
   |false=>simp only[hb,cond_false]at h
   |true=>
    simp only[hb,cond_true]at h
    have hb':k<=bds.length:=by simpa using hb
    have hlen:=gD hi
    obtain⟨i1,i2⟩:=Gu k hi
    have e:(zs.take k).length=k:=by simp;omega
    have kI:=ht.push n (zs.take k)
    rw[e]at kI
    obtain⟨iH,iu,g1,g2⟩:=qP (h _ i1) kI i2
    refine⟨iH,iu,?_,g2⟩
    have e2:=IW (zs.take k) (zs.drop k) n ρ
    rw[List.take_append_drop,e]at e2
    rw[e2];exact g1
abbrev qF:=Nat->List (List Int)->Prop
def qF.set (A:qF) (eI:Nat) (p:List (List Int)->Prop):qF:=λi=>cond (Nat.beq i eI) p (A i)
def T.gk (sh:Nat->List Nat×List Nat) (cJ:Nat->List Nat) (S:Nat->List (List Int)->List (List Int)->Prop) (L:V->dE->dD->Prop):T->qF->dE->dD->Prop
 |stuck,_,_,_=>False
 |leaf v,_,st,aq=>L v st aq
 |div n x d lo hi r,A,st,aq=>∀q:Int,lo<=q->q<=hi->0<=x.cy st aq-d*q->x.cy st aq-d*q<d->r.gk sh cJ S L A ((n,1)::st) ([q]::aq)
 |mul n x y lo hi r,A,st,aq=>∀p:Int,lo<=p->p<=hi->p=x.cy st aq*y.cy st aq->r.gk sh cJ S L A ((n,1)::st) ([p]::aq)
 |bit n op k x y r,A,st,aq=>∀z:Int,0<=z->z<=k.max->z=eM op k (x.cy st aq) (y.cy st aq)->r.gk sh cJ S L A ((n,1)::st) ([z]::aq)
 |shr n x y lo hi r,A,st,aq=>∀z:Int,lo<=z->z<=hi->z=x.cy st aq/2^(y.cy st aq).toNat->r.gk sh cJ S L A ((n,1)::st) ([z]::aq)
 |sel n cs au lo hi r,A,st,aq=>∀z:Int,lo<=z->z<=hi->z=(mA st aq cs).getD (au.cy st aq).toNat 0->r.gk sh cJ S L A ((n,1)::st) ([z]::aq)
 |nS b t e,A,st,aq=>(b.cy st aq=true->t.gk sh cJ S L A st aq)/\(b.cy st aq=false->e.gk sh cJ S L A st aq)
 |call id args n bds r,A,st,aq=>nO (sh id).2 n bds (λiH iu rs=>S id ((dQ (sh id).1 args).map (mA st aq)) rs->r.gk sh cJ S L A iH iu) st aq
 |loop eI init n bds r,A,st,aq=>∃(jJ:List (List Int)->Prop) (jF:List (List Int)->Nat),jJ ((dQ (cJ eI) init).map (mA st aq))/\
  nO (cJ eI) n bds (λiH iu zs=>jJ zs->r.gk sh cJ S L (A.set eI λvs=>jJ vs/\jF vs<jF zs) iH iu) st aq
 |again eI vals,A,st,aq=>A eI ((dQ (cJ eI) vals).map (mA st aq))
 |both a b,A,st,aq=>a.gk sh cJ S L A st aq/\b.gk sh cJ S L A st aq
 |fn n op args lo hi r,A,st,aq=>∀z:Int,lo<=z->z<=hi->z=ah op (args.map (I.cy st aq))->r.gk sh cJ S L A ((n,1)::st) ([z]::aq)
 |ind n b r,A,st,aq=>∀z:Int,0<=z->z<=1->b.cy st aq=decide (z=1)->r.gk sh cJ S L A ((n,1)::st) ([z]::aq)
 |lQ n lo hi r,A,st,aq=>∀z:Int,lo<=z->z<=hi->r.gk sh cJ S L A ((n,1)::st) ([z]::aq)
 |nat n r,A,st,aq=>∀z:Int,0<=z->r.gk sh cJ S L A ((n,1)::st) ([z]::aq)
 |o6 op args r,A,st,aq=>aG op (args.map (I.cy st aq))->r.gk sh cJ S L A st aq
 |lZ op args r,A,st,aq=>aG op (args.map (I.cy st aq))/\r.gk sh cJ S L A st aq
theorem BX {ρ:Env} {st:dE} {aq:dD} (h:hO ρ st aq) (gq:List Nat) (l:List I):(dQ gq l).map (mA st aq)=dQ gq (l.map (·.den ρ)):=by
 rw[xS];exact List.map_congr_left λx _=>xR h x
def dc (sh:Nat->List Nat×List Nat) (S:Nat->List (List Int)->List (List Int)->Prop):Nat->List Int->List Int->Prop:=λid zs rs=>S id (dQ (sh id).1 zs) (dQ (sh id).2 rs)
theorem Ba {ρ:Env} {st:dE} {aq:dD} (h:hO ρ st aq) (l:List I):l.map (I.cy st aq)=l.map (·.den ρ):=List.map_congr_left λx _=>I.ez h.2 x
theorem gC {sh:Nat->List Nat×List Nat} {cJ:Nat->List Nat} {S:Nat->List (List Int)->List (List Int)->Prop} {C5:V->dE->dD->Prop} {L:V->Env->Prop} (hL:∀v ρ st aq,hO ρ st aq->C5 v st aq->L v ρ):
 ∀(t:T) (dn:qF) (A:bZ) (ρ:Env) (st:dE) (aq:dD),(∀eI vs,dn eI (dQ (cJ eI) vs)->A eI vs)->hO ρ st aq->t.gk sh cJ S C5 dn st aq->t.holds (dc sh S) L A ρ
 | .stuck,_,_,_,_,_,_,_,h=>h
 | .leaf v,_,_,ρ,st,aq,_,ht,h=>hL v ρ st aq ht h
 | .div n x d lo hi r,dn,A,ρ,st,aq,hA,ht,h=>λq h1 h2 h3 h4=>gC hL r dn A _ _ _ hA (ht.push n [q]) (h q h1 h2 (by rw[I.ez ht.2];exact h3) (by rw[I.ez ht.2];exact h4))
 | .mul n x y lo hi r,dn,A,ρ,st,aq,hA,ht,h=>λq h1 h2 h3=>gC hL r dn A _ _ _ hA (ht.push n [q]) (h q h1 h2 (by rw[I.ez ht.2,I.ez ht.2];exact h3))
 | .bit n op k x y r,dn,A,ρ,st,aq,hA,ht,h=>λq h1 h2 h3=>gC hL r dn A _ _ _ hA (ht.push n [q]) (h q h1 h2 (by rw[I.ez ht.2,I.ez ht.2];exact h3))
 | .shr n x y lo hi r,dn,A,ρ,st,aq,hA,ht,h=>λq h1 h2 h3=>gC hL r dn A _ _ _ hA (ht.push n [q]) (h q h1 h2 (by rw[I.ez ht.2,I.ez ht.2];exact h3))
 | .sel n cs au lo hi r,dn,A,ρ,st,aq,hA,ht,h=>λq h1 h2 h3=>gC hL r dn A _ _ _ hA (ht.push n [q]) (h q h1 h2 (by rw[xR ht,I.ez ht.2];exact h3))
 | .nS b t e,dn,A,ρ,st,aq,hA,ht,h=>⟨λhb=>gC hL t dn A _ _ _ hA ht (h.1 (by rw[aC.ez ht];exact hb)),λhb=>gC hL e dn A _ _ _ hA ht (h.2 (by rw[aC.ez ht];exact hb))⟩
 | .call id args n bds r,dn,A,ρ,st,aq,hA,ht,h=>by
  refine o4 λrs hi hs=>?_
  obtain⟨iH,iu,h1,h2⟩:=qP h ht hi
  exact gC hL r dn A _ _ _ hA h1 (h2 (by rw[BX ht];exact hs))
 | .loop eI init n bds r,dn,A,ρ,st,aq,hA,ht,h=>by
  obtain⟨jJ,jF,h1,h2⟩:=h
  refine⟨λzs=>jJ (dQ (cJ eI) zs),λzs=>jF (dQ (cJ eI) zs),?_,?_⟩
  ·rw[BX ht]at h1;exact h1
  ·refine o4 λzs hi hI=>?_
   obtain⟨iH,iu,g1,g2⟩:=qP h2 ht hi
   refine gC hL r _ _ _ _ _ (λPp vs hv=>?_) g1 (g2 hI)
   unfold qF.set at hv
   unfold bZ.set
   cases hq:Nat.beq Pp eI with
   |true=>
    rw[hq]at hv
    have e:=Nat.eq_of_beq_eq_true hq
    subst e
    exact hv
   |false=>rw[hq]at hv;exact hA _ _ hv
 | .again eI vals,dn,A,ρ,st,aq,hA,ht,h=>hA eI _ (by rw[<-BX ht];exact h)
 | .both x y,dn,A,ρ,st,aq,hA,ht,h=>⟨gC hL x dn A ρ st aq hA ht h.1,gC hL y dn A ρ st aq hA ht h.2⟩
 | .fn n op args lo hi r,dn,A,ρ,st,aq,hA,ht,h=>λq h1 h2 h3=>gC hL r dn A _ _ _ hA (ht.push n [q]) (h q h1 h2 (by rw[Ba ht];exact h3))
 | .ind n b r,dn,A,ρ,st,aq,hA,ht,h=>λq h1 h2 h3=>gC hL r dn A _ _ _ hA (ht.push n [q]) (h q h1 h2 (by rw[aC.ez ht];exact h3))
 | .lQ n lo hi r,dn,A,ρ,st,aq,hA,ht,h=>λq h1 h2=>gC hL r dn A _ _ _ hA (ht.push n [q]) (h q h1 h2)
 | .nat n r,dn,A,ρ,st,aq,hA,ht,h=>λq h1=>gC hL r dn A _ _ _ hA (ht.push n [q]) (h q h1)
 | .o6 op args r,dn,A,ρ,st,aq,hA,ht,h=>λh1=>gC hL r dn A ρ st aq hA ht (h (by rw[Ba ht];exact h1))
 | .lZ op args r,dn,A,ρ,st,aq,hA,ht,h=>⟨by rw[<-Ba ht];exact h.1,gC hL r dn A _ _ _ hA ht h.2⟩
def ot:List O->Option (List I)
 |[]=>some []
 | .l x::r=>match ot r with|some l=>some (x::l)|none=>none
 | .b _::_=>none
def O.cy (st:dE) (aq:dD):O->Int
 |l x=>x.cy st aq
 |b x=>cond (x.cy st aq) 1 0
def sD (st:dE) (aq:dD) (os:List O):List Int:=
 match ot os with
 |some ls=>mA st aq ls
 |none=>os.map (O.cy st aq)
theorem GQ {ρ:Env}:∀{os:List O} {ls:List I},ot os=some ls->ls.map (·.den ρ)=os.map (O.den ρ)
 |[],ls,h=>by simp[ot]at h;subst h;rfl
 | .l x::r,ls,h=>by
  simp only[ot]at h
  cases hr:ot r with
  |none=>simp[hr]at h
  |some l=>
   simp only[hr,Option.some.injEq]at h
   subst h
   simp only[List.map_cons,GQ hr,O.den]
 | .b _::_,_,h=>by simp[ot]at h
theorem O.ez {ρ:Env} {st:dE} {aq:dD} (h:hO ρ st aq):∀o:O,o.cy st aq=o.den ρ
 | .l x=>I.ez h.2 x
 | .b x=>by simp only[cy,den,aC.ez h]
theorem Ik {ρ:Env} {st:dE} {aq:dD} (h:hO ρ st aq) (os:List O):sD st aq os=os.map (O.den ρ):=by
 unfold sD
 cases hl:ot os with
 |some ls=>exact(xR h ls).trans (GQ hl)
 |none=>exact List.map_congr_left λo _=>O.ez h o
def PW (k:Nat):List Nat:=match k with
 |12=>[4,4,4]
 |15=>[5,5,5]
 |20=>[5,5,5,5]
 |k=>[k]
def D.xj:D->List Nat
 | .mix l=>PW l.length
 | .gY _=>[]
 | .lF .. =>[]
 |d=>[d.num]
def ox (ds:List D):List Nat:=ds.flatMap D.xj
def yg (ds:List D) (K:List (List Int)->Prop) (v:V) (st:dE) (aq:dD):Prop:=
 match outs ds v with
 |some os=>K ((dQ (ox ds) os).map (sD st aq))
 |none=>False
theorem Jq {ds:List D} {K:List (List Int)->Prop} (v:V) (ρ:Env) (st:dE) (aq:dD) (ht:hO ρ st aq) (h:yg ds K v st aq):oX ds (λrs=>K (dQ (ox ds) rs)) v ρ:=by
 unfold yg at h
 unfold oX
 cases ho:outs ds v with
 |none=>simp[ho]at h
 |some os=>
  simp only[ho]at h⊢
  rw[xS]
  rwa [show(dQ (ox ds) os).map (sD st aq)=(dQ (ox ds) os).map (List.map (O.den ρ)) from List.map_congr_left λo _=>Ik ht o]at h
def sX (sh:Nat->List Nat×List Nat) (cJ:Nat->List Nat) (S:Nat->List (List Int)->List (List Int)->Prop) (K:List (List Int)->List (List Int)->Prop) (lens:List Nat) (bds:List (Int×Int)) (ds:List D) (t:T):Prop:=
 nO lens 0 bds (λst aq zs=>t.gk sh cJ S (yg ds (K zs)) (λ_ _=>False) st aq) [] []
theorem JH {sh:Nat->List Nat×List Nat} {cJ:Nat->List Nat} {S:Nat->List (List Int)->List (List Int)->Prop} {K:List (List Int)->List (List Int)->Prop} {lens:List Nat} {bds:List (Int×Int)} {ds:List D} {t:T}
 (h:sX sh cJ S K lens bds ds t):lW bds λzs=>t.holds (dc sh S) (oX ds λrs=>K (dQ lens zs) (dQ (ox ds) rs)) (λ_ _=>False) (bk (λ_=>0) 0 zs):=by
 refine o4 λzs hi=>?_
 obtain⟨st,aq,h1,h2⟩:=qP h (show hO (λ_=>0) [] [] from⟨trivial,λ_=>rfl⟩) hi
 exact gC (λv ρ st aq ht hl=>Jq v ρ st aq ht hl) t _ _ _ st aq (λ_ _ hf=>hf.elim) h1 h2
end Go.aZ
namespace Go.aZ
open Go.ChangeShapes Go.WideShapes Go.RowKit
variable {H:Type} {enc:TypeId×Value->H} {P:Program}
theorem I2 {k:IntKind} {z:Int}:(Lit.int k z).wf=true↔k.min<=z/\z<=k.max:=by simp[Lit.wf]
theorem Gr:∀{b bq:List (Int×Int)} {l aT:List Int},bb b l->bb bq aT->bb (b++bq) (l++aT)
 |[],_,[],_,_,h=>h
 |_::_,_,_::_,_,h,h'=>⟨h.1,h.2.1,Gr h.2.2 h'⟩
 |[],_,_::_,_,h,_=>h.elim
 |_::_,_,[],_,h,_=>h.elim
theorem D.IZ (d:D) {zs l:List Int} (h:zs.length=d.num):d.val (zs++l)=d.val zs:=by
 cases d with
 |str=>match zs,h with|[z],_=>rfl
 |int k lo hi=>match zs,h with|[z],_=>rfl
 |bool=>match zs,h with|[z],_=>rfl
 |agg k n lo hi=>simp only[D.num]at h;simp only[D.val,<-h];simp
 |gY p=>rfl
 |lF k c=>rfl
 |mix p=>
  simp only[D.num]at h
  simp only[D.val]
  congr 2
  revert zs
  induction p with
  |nil=>intro zs h;simp
  |cons a p ih=>
   intro zs h
   match zs,h with
   |z::zs,h=>simp only[List.cons_append,List.zipWith_cons_cons,ih (zs:=zs) (by simpa using h)]
theorem OQ {w w':World} (h:w.Extends w') (may:MemPlace->Prop):w.keptBut w' may:=
 Below.frame (W:=w) ⟨h.os,h.tape,h.output,h.size,λi hi=>h.block i hi⟩ may
end Go.aZ
namespace Go.aZ
open M
inductive bh where
 |d (x:D)
 |rd (sh:List ag)
 |gI (sh:List ag) (e:TypeId)
def bh.num:bh->Nat
 |d x=>x.num
 |_=>1
noncomputable def bh.bds:bh->List (Int×Int)
 |d x=>x.bds
 |_=>[(0,aW)]
noncomputable def cw:List bh->List (Int×Int)
 |[]=>[]
 |x::r=>x.bds++cw r
def bh.fT:bh->Bool
 |d _=>true
 |_=>false
def bh.lG:bh->Bool
 |gI _ _=>true
 |_=>false
def bh.iA:bh->Bool
 |rd _=>true
 |_=>false
def lX:List bh->Bool
 |[]=>true
 | .d _::r=>lX r
 | .rd _::r=>r.all (λb=> !b.lG)&&lX r
 | .gI sh _::r=>r.all bh.fT&&eJ sh&&lX r
def dR (F:Nat->Prop) (w:World) (sh:List ag) (rows:List (List Int)) (v:Value):Prop:=
 ((∃p,v= .slice p 0 0)/\rows=[])∨∃(g o cap:Nat) (cells:Array Value) (t:TypeId) (fz:Nat×Nat),v= .slice (some ⟨g,o,none⟩) rows.length cap/\(rows.length<=cap/\(cap:Int)<=9223372036854775807)/\F g/\w.heap[g]?=some (.cells cells t fz)/\eW F w cells o sh rows
def oZ (N:Nat->Prop) (w:World) (sh:List ag) (e:TypeId) (rows:List (List Int)) (v:Value):Prop:=
 ((∃p,v= .slice p 0 0)/\rows=[])∨∃(g cap:Nat) (cells:Array Value),v= .slice (some ⟨g,0,none⟩) rows.length cap/\(rows.length<=cap/\(cap:Int)<=9223372036854775807)/\N g/\w.heap[g]?=some (.cells cells e (0,0))/\jk cells 0 sh rows/\cells.size=cap*sh.length
def bh.at (F N:Nat->Prop) (w:World):bh->List Int->Value->Prop
 |d x,zs,v=>v=x.val zs
 |rd sh,zs,v=>dR F w sh (ab (zs.getD 0 0)) v
 |gI sh e,zs,v=>oZ N w sh e (ab (zs.getD 0 0)) v
def ft (F N:Nat->Prop) (w:World):List bh->List Int->List Value->Prop
 |[],_,[]=>True
 |b::r,zs,v::vs=>b.at F N w zs v/\ft F N w r (zs.drop b.num) vs
 |_,_,_=>False
def mE (us:List Value):Value:=match us with|[x]=>x|l=> .tuple l.toArray
structure cB where
 f:FuncId
 id:Nat
 args:List bh
 res:List bh
 pre:Nat:=0
def xv:Nat->List Int->Prop
 |0,_=>True
 |p+1,l=>aG (p+1) l
def HH:Nat->List I->T->T
 |0,_,r=>r
 |p+1,ls,r=> .lZ (p+1) ls r
def HF:Nat->List I->T->T
 |0,_,r=>r
 |p+1,ls,r=> .o6 (p+1) ls r
theorem preM_holds {S:Nat->List Int->List Int->Prop} {L:V->Env->Prop} {A:bZ} {ρ:Env} {p:Nat} {ls:List I} {r:T} (h:(HH p ls r).holds S L A ρ):xv p (ls.map (·.den ρ))/\r.holds S L A ρ:=by
 cases p with
 |zero=>exact⟨trivial,h⟩
 |succ p=>exact h
theorem preA_holds {S:Nat->List Int->List Int->Prop} {L:V->Env->Prop} {A:bZ} {ρ:Env} {p:Nat} {ls:List I} {r:T} (h:(HF p ls r).holds S L A ρ) (hp:xv p (ls.map (·.den ρ))):r.holds S L A ρ:=by
 cases p with
 |zero=>exact h
 |succ p=>exact h hp
def cB.Ok (P:Program) (wb:World) (c:cB) (spec:List Int->List Int->Prop):Prop:=
 (∀args w,(callFunc c.f args).run P w= .ok (.enter c.f args) w)/\
 ∀(F:Nat->Prop) (w:World) (vs:List Value) (zs:List Int),wb.Extends w->bb (cw c.args) zs->xv c.pre zs->ft F (λ_=>False) w c.args zs vs->
  Calls P c.f vs.toArray w λe w'=>w.Extends w'/\∃rs us,bb (cw c.res) rs/\spec zs rs/\ft (λg=>F g∨w.heap.size<=g) (λg=>w.heap.size<=g) w' c.res rs us/\e= .returned (mE us)
noncomputable def nQ:List bh->Nat->Nat->List W->List af->(Nat->List W->List af->T)->T
 |[],_,n,us,bl,k=>k n us bl
 | .d x::r,s,n,us,bl,k=>nQ r (s+x.num) n (us++[x.sym s]) bl k
 | .rd sh::r,s,n,us,bl,k=> .nat n (.lQ (n+1) (-2) 9223372036854775807 (.fn (n+2) 20 [.var s] 0 9223372036854775807
  (nQ r (s+1) (n+3) (us++[.one (.sl bl.length sh.length (.var n) (.const 0) (.var (n+2)) (.var (n+1)))]) (bl++[([.rows sh (.var n) (.var s) (.var (n+1)) 1],(0,false))]) k)))
 | .gI sh e::r,s,n,us,bl,k=> .lQ n (-2) 9223372036854775807 (.fn (n+1) 20 [.var s] 0 9223372036854775807
  (nQ r (s+1) (n+2) (us++[.one (.sl bl.length sh.length (.const 0) (.const 0) (.var (n+1)) (.var n))]) (bl++[([.rows sh (.const 0) (.var s) (.var n) 2],(e,false))]) k))
section
variable {S:Nat->List Int->List Int->Prop} {L:V->Env->Prop} {w0:b5} {P:Program} {gl:cF} {aL:dp}
theorem At.agree {ρ aa:Env} {s n:Nat} {zs:List Int} (h:At ρ s zs) (ha:agree n ρ aa) (hn:s+zs.length<=n):At aa s zs:=λj hj=>by rw[ha (s+j) (by omega)];exact h j hj
theorem kT {ρ:Env} {n i:Nat} {z:Int} (h:i<n):bF ρ n z i=ρ i:=xW ρ z (by omega)
theorem vv {F N:Nat->Prop} (hF:∀g,F g->w0.ex g∨w0.ro g∨w0.r.heap.size<=g) (hN:∀g,N g->w0.b.heap.size<=g/\w0.r.heap.size<=g):∀{l:List bh} {s n:Nat} {us:List W} {bl:List af} {k:Nat->List W->List af->T} {G:bZ} {ρ:Env} {m:Nat->Nat} {w:World} {zs:List Int} {vals:List Value},
 lX l=true->bm n bl.length ρ bl->Mem w0 ρ m bl w->At ρ s zs->bb (cw l) zs->s+(cw l).length<=n->ft F N w l zs vals->
 ((l.all λb=> !b.iA)=true∨∀(i:Nat) (p:af),bl[i]?=some p->F (m i)->aE ρ p.1<=1)->((l.all λb=> !b.lG)=true∨∀(i:Nat) (p:af),bl[i]?=some p->N (m i)->aE ρ p.1=0)->
 ((l.all λb=> !b.lG)=true∨∀g,N g->k0 w0 ρ m bl w g)->
 (∀u∈us,W.ok n bl.length ρ u)->
 (nQ l s n us bl k).holds S L G ρ->∃n' aa m' gZ az,bK n bl.length ρ m n' (List.length az) aa m'/\bm n' az.length aa az/\Mem w0 aa m' az w/\gZ.map (W.den aa m')=us.map (W.den ρ m)++vals/\(∀u∈gZ,W.ok n' az.length aa u)/\(k n' gZ az).holds S L G aa
 |[],s,n,us,bl,k,G,ρ,m,w,zs,vals,_,hb,hm,_,_,_,hat,_,_,_,j9,ad=>by
  match vals,hat with
  |[],_=>exact⟨n,ρ,m,us,bl,bK.refl _ _ _ _,hb,hm,by simp,j9,ad⟩
 | .d x::r,s,n,us,bl,k,G,ρ,m,w,zs,vals,aK,hb,hm,hA,hz,hn,hat,h1,h2,e0,j9,ad=>by
  match vals,hat with
  |v::vs,hat=>
   obtain⟨hv,hat⟩:=hat
   have hv:v=x.val zs:=hv
   simp only[cw,bh.bds]at hz hn
   simp only[List.length_append]at hn
   obtain⟨i1,i2⟩:=wU hz
   rw[D.s6]at i1 i2 hn
   have hs:=D.u1 (ρ:=ρ) (m:=m) (N:=n) (nb:=bl.length) x i1 hA (by omega)
   obtain⟨n',aa,m',gZ,az,g1,g2,g3,g4,g5,g6⟩:=vv hF hN (l:=r) (s:=s+x.num) (us:=us++[x.sym s]) (zs:=zs.drop x.num) aK hb hm (hA.drop x.num) i2 (by omega) hat (by
    rcases h1 with h1|h1
    ·left;simpa [bh.iA]using h1
    ·exact .inr h1) (by
    rcases h2 with h2|h2
    ·left;simpa [bh.lG]using h2
    ·exact .inr h2) (by
    rcases e0 with h2|h2
    ·left;simpa [bh.lG]using h2
    ·exact .inr h2) (λu hu=>by
    rcases List.mem_append.1 hu with hu|hu
    ·exact j9 u hu
    ·simp at hu;subst hu;exact hs.1) ad
   exact⟨n',aa,m',gZ,az,g1,g2,g3,by rw[g4,List.map_append,hv];simp[hs.2],g5,g6⟩
 | .rd sh::r,s,n,us,bl,k,G,ρ,m,w,zs,vals,aK,hb,hm,hA,hz,hn,hat,h1,h2,e0,j9,ad=>by
  match vals,hat with
  |v::vs,hat=>
   obtain⟨hv,hat⟩:=hat
   match zs,hz with
   |z::zs,hz=>
    obtain⟨aj,z2,hz⟩:=hz
    have hv:dR F w sh (ab z) v:=hv
    obtain⟨n5,zk⟩:=hA.tail
    have h1:∀(i:Nat) (p:af),bl[i]?=some p->F (m i)->aE ρ p.1<=1:=by
     rcases h1 with h1|h1
     ·simp[bh.iA]at h1
     ·exact h1
    simp only[cw,bh.bds,List.length_append,List.length_cons,List.length_nil]at hn
    simp only[lX,Bool.and_eq_true]at aK
    have hlen:(ab z).length<=9223372036854775807:=by
     rcases hv with⟨_,h⟩|⟨_,_,cap,_,_,_,_,⟨h3,h4⟩,_⟩
     ·simp[h]
     ·omega
    have jd:zs.length=(cw r).length:=gD hz
    obtain⟨g,o,cap,hg1,hg2,tM,tN,m9⟩:∃(g:Nat) (o:Nat) (cap:Int),(-2<=cap/\cap<=9223372036854775807)/\(cap<0->ab z=[])/\(0<=cap->((ab z).length:Int)<=cap)/\
     (v=if cap<0 then Value.slice (ig cap g) 0 0 else .slice (some ⟨g,o,none⟩) (ab z).length cap.toNat)/\
     (0<=cap->F g/\∃cells t fz,w.heap[g]?=some (.cells cells t fz)/\eW F w cells o sh (ab z)):=by
     rcases hv with⟨⟨p,h3⟩,h4⟩|⟨g,o,cap,cells,t,fz,h3,⟨h4,h5⟩,h6,h7,cz⟩
     ·obtain⟨c,g,hc,hp⟩:=Cw p
      exact⟨g,0,c,by omega,λ_=>h4,λh=>by omega,by rw[if_pos hc.2,hp,h3],λh=>by omega⟩
     ·exact⟨g,o,cap,by omega,λh=>by omega,λ_=>by omega,by rw[if_neg (by omega)];simpa using h3,λ_=>⟨h6,cells,t,fz,h7,cz⟩⟩
    have pI:=ad (o:Int) (by omega) cap hg1.1 hg1.2 (ab z).length (by omega) (by omega) (by
     simp only[List.map_cons,List.map_nil,ah,I.ba]
     rw[kT (by omega),kT (by omega),n5])
    generalize gn:bF (bF (bF ρ n (o:Int)) (n+1) cap) (n+2) ((ab z).length:Int)=dg at pI
    have ha:agree n ρ dg:=by
     rw[<-gn]
     intro i hi
     rw[kT (by omega),kT (by omega),kT hi]
    have b7:dg n=o:=by rw[<-gn,kT (by omega),kT (by omega),ew]
    have e1:dg (n+1)=cap:=by rw[<-gn,kT (by omega),ew]
    have e2:dg (n+2)=(ab z).length:=by rw[<-gn,ew]
    have e3:dg s=z:=by rw[ha s (by omega)];exact n5
    have oe:=hm.cK hb ha
    have n9:=hb.ext ha (show n<=n+3 by omega) (Nat.le_refl bl.length)
    have n6:(A.rows sh (.var n) (.var s) (.var (n+1)) 1).ok (n+3) bl.length dg:=⟨⟨I.cq (by omega),I.cq (by omega),I.cq (by omega)⟩,by rw[I.ba,e3];exact⟨aj,z2⟩,by rw[I.ba,e1];exact hg1⟩
    have c3:aE dg [A.rows sh (.var n) (.var s) (.var (n+1)) 1]<=1:=by
     simp only[aE];split<;>omega
    have pz:∀a6,F a6->a7 w0 dg (dY m bl.length g) (bl++[([.rows sh (.var n) (.var s) (.var (n+1)) 1],(0,false))]) a6:=λa6 gh=>a7.push ⟨hF a6 gh,λi p hi hk he=>by
     have bt:=h1 i p hi (by rw[he];exact gh)
     rw[hY (hb _ (List.mem_of_getElem? hi)) ha]at hk
     omega⟩ (.inl c3)
    have gA:=oe.push (x:=([.rows sh (.var n) (.var s) (.var (n+1)) 1],(0,false))) (g:=g) n9 (λy hy=>by simp at hy;subst hy;exact n6) (λho=>by cases ho) (λbH cf code' b9 c6 he=>by
     cases he
     intro _
     refine⟨λh=>by rw[I.ba,e1]at h;rw[I.ba,e3];exact hg2 h,λh=>?_⟩
     rw[I.ba,e1]at h
     obtain⟨zm,cells,t,fz,k1,k2⟩:=m9 h
     exact⟨hF g zm,cells,t,fz,k1,⟨by rw[I.ba,b7];omega,by rw[I.ba,I.ba,b7,e3];exact k2.mono (Fr.of w pz)⟩,λh2=>by omega⟩) (λi p hi he=>by
      by_cases hc:0<=cap
      ·refine .inl ⟨?_,?_⟩
       ·rw[hY (hb _ (List.mem_of_getElem? hi)) ha]
        exact h1 i p hi (by rw[he];exact(m9 hc).1)
       ·rw[e6 (by decide) (by rw[I.ba,e1];exact hc)];exact Nat.le_refl 1
      ·refine .inr (.inr ?_)
       simp only[aE,I.ba,e1]
       rw[if_pos (by omega)]) (oe.xN c3)
    have Aa:bK n bl.length ρ m (n+3) (bl++[([A.rows sh (.var n) (.var s) (.var (n+1)) 1],((0:TypeId),false))]).length dg (dY m bl.length g):=⟨by omega,ha,by simp,λb hb=>eT hb⟩
    have zA:bm (n+3) (bl++[([A.rows sh (.var n) (.var s) (.var (n+1)) 1],((0:TypeId),false))]).length dg (bl++[([.rows sh (.var n) (.var s) (.var (n+1)) 1],(0,false))]):=λp hp a fy=>by
     rcases List.mem_append.1 hp with hp|hp
     ·exact(n9 p hp a fy).ext (agree.refl _ _) (Nat.le_refl _) (by simp)
     ·simp at hp;subst hp;simp at fy;subst fy
      exact n6.ext (agree.refl _ _) (Nat.le_refl _) (by simp)
    have Au:W.ok (n+3) (bl++[([A.rows sh (.var n) (.var s) (.var (n+1)) 1],((0:TypeId),false))]).length dg (.one (.sl bl.length sh.length (.var n) (.const 0) (.var (n+2)) (.var (n+1)))):=by
     refine⟨by simp,⟨I.cq (by omega),I.br _ _,I.cq (by omega),I.cq (by omega)⟩,?_⟩
     simp only[I.ba,I.ay,b7,e1,e2]
     exact⟨by omega,by omega,λh=>by rw[hg2 h];rfl,tM⟩
    obtain⟨n',aa,m',gZ,az,g1,g2,g3,g4,g5,g6⟩:=vv hF hN (l:=r) (s:=s+1) (us:=us++[.one (.sl bl.length sh.length (.var n) (.const 0) (.var (n+2)) (.var (n+1)))]) (zs:=zs) (vals:=vs) aK.2 zA gA (zk.agree ha (by omega)) hz (by omega) hat (.inr λi p hi hf=>by
     rw[List.getElem?_append]at hi
     split at hi
     ·rename_i bW
      rw[eT bW]at hf
      rw[hY (hb _ (List.mem_of_getElem? hi)) ha]
      exact h1 i p hi hf
     ·have:i=bl.length:=by
       have:=(List.getElem?_eq_some_iff.1 hi).1
       simp at this;omega
      subst this
      simp at hi
      subst hi
      simp only[aE];split<;>omega) (.inl aK.1) (.inl aK.1) (λu hu=>by
     rcases List.mem_append.1 hu with hu|hu
     ·exact(j9 u hu).ext ha (by omega) (by simp)
     ·simp at hu;subst hu;exact Au) pI
    refine⟨n',aa,m',gZ,az,Aa.trans g1,g2,g3,?_,g5,g6⟩
    rw[g4,List.map_append,List.append_assoc]
    congr 1
    ·exact List.map_congr_left λu hu=>W.fL (j9 u hu) ha (λb hb=>eT hb)
    ·simp only[List.map_cons,List.map_nil,List.cons_append,List.nil_append,W.den,A.den,I.ba,I.ay,b7,e1,e2,fZ]
     rw[tN]
     simp
 | .gI sh e::r,s,n,us,bl,k,G,ρ,m,w,zs,vals,aK,hb,hm,hA,hz,hn,hat,h1,h2,e0,j9,ad=>by
  match vals,hat with
  |v::vs,hat=>
   obtain⟨hv,hat⟩:=hat
   match zs,hz with
   |z::zs,hz=>
    obtain⟨aj,z2,hz⟩:=hz
    have hv:oZ N w sh e (ab z) v:=hv
    obtain⟨n5,zk⟩:=hA.tail
    simp only[cw,bh.bds,List.length_append,List.length_cons,List.length_nil]at hn
    simp only[lX,Bool.and_eq_true]at aK
    have h2:∀(i:Nat) (p:af),bl[i]?=some p->N (m i)->aE ρ p.1=0:=by
     rcases h2 with h2|h2
     ·simp[bh.lG]at h2
     ·exact h2
    have e0:∀g,N g->k0 w0 ρ m bl w g:=by
     rcases e0 with h2|h2
     ·simp[bh.lG]at h2
     ·exact h2
    have hlen:(ab z).length<=9223372036854775807:=by
     rcases hv with⟨_,h⟩|⟨_,cap,_,_,⟨h3,h4⟩,_⟩
     ·simp[h]
     ·omega
    have jd:zs.length=(cw r).length:=gD hz
    obtain⟨g,cap,hg1,hg2,tM,tN,m9⟩:∃(g:Nat) (cap:Int),(-2<=cap/\cap<=9223372036854775807)/\(cap<0->ab z=[])/\(0<=cap->((ab z).length:Int)<=cap)/\
     (v=if cap<0 then Value.slice (ig cap g) 0 0 else .slice (some ⟨g,0,none⟩) (ab z).length cap.toNat)/\
     (0<=cap->N g/\∃cells,w.heap[g]?=some (.cells cells e (0,0))/\jk cells 0 sh (ab z)/\cells.size=cap.toNat*sh.length):=by
     rcases hv with⟨⟨p,h3⟩,h4⟩|⟨g,cap,cells,h3,⟨h4,h5⟩,h6,h7,cz,bt⟩
     ·obtain⟨c,g,hc,hp⟩:=Cw p
      exact⟨g,c,by omega,λ_=>h4,λh=>by omega,by rw[if_pos hc.2,hp,h3],λh=>by omega⟩
     ·exact⟨g,cap,by omega,λh=>by omega,λ_=>by omega,by rw[if_neg (by omega)];simpa using h3,λ_=>⟨h6,cells,h7,cz,by simpa using bt⟩⟩
    have pI:=ad cap hg1.1 hg1.2 (ab z).length (by omega) (by omega) (by
     simp only[List.map_cons,List.map_nil,ah,I.ba]
     rw[kT (by omega),n5])
    generalize gn:bF (bF ρ n cap) (n+1) ((ab z).length:Int)=dg at pI
    have ha:agree n ρ dg:=by
     rw[<-gn]
     intro i hi
     rw[kT (by omega),kT hi]
    have e1:dg n=cap:=by rw[<-gn,kT (by omega),ew]
    have e2:dg (n+1)=(ab z).length:=by rw[<-gn,ew]
    have e3:dg s=z:=by rw[ha s (by omega)];exact n5
    have oe:=hm.cK hb ha
    have n9:=hb.ext ha (show n<=n+2 by omega) (Nat.le_refl bl.length)
    have n6:(A.rows sh (.const 0) (.var s) (.var n) 2).ok (n+2) bl.length dg:=⟨⟨I.br _ _,I.cq (by omega),I.cq (by omega)⟩,by rw[I.ba,e3];exact⟨aj,z2⟩,by rw[I.ba,e1];exact hg1⟩
    have Mg:∀(i:Nat) (bH:List ag) (cf code' b9:I) (c6:Nat) (t':TypeId×Bool),bl[i]?=some ([.rows bH cf code' b9 c6],t')->eD w0 dg (a7 w0 dg (dY m bl.length g) (bl++[([.rows sh (.const 0) (.var s) (.var n) 2],(e,false))])) (m i) bH cf code' b9 c6 t'.1 w:=λi bH cf code' b9 c6 t' hi=>by
     rcases Int.lt_or_le cap 0 with hc|hc
     ·exact oe.xN (by simp only[aE,I.ba,e1];rw[if_pos hc];decide) i bH cf code' b9 c6 t' hi
     ·exact(((e0 g (m9 hc).1) i bH cf code' b9 c6 t' hi).cK (hb _ (List.mem_of_getElem? hi) _ (by simp)) ha).mono λa6 h'=>(a7.cK hb ha h'.1).push (.inr h'.2)
    have gA:=oe.push (x:=([.rows sh (.const 0) (.var s) (.var n) 2],(e,false))) (g:=g) n9 (λy hy=>by simp at hy;subst hy;exact n6) (λho=>by cases ho) (λbH cf code' b9 c6 he=>by
     cases he
     intro _
     refine⟨λh=>by rw[I.ba,e1]at h;rw[I.ba,e3];exact hg2 h,λh=>?_⟩
     rw[I.ba,e1]at h
     obtain⟨LK,cells,k1,k2,k3⟩:=m9 h
     have bX:=hN g LK
     exact⟨.inr (.inr bX.2),cells,e,(0,0),k1,⟨by rw[I.ay];exact Int.le_refl _,by rw[I.ay,I.ba,e3];exact(hM aK.1.2).2 k2⟩,λ_=>⟨rfl,I.ay _ _,.uA,by rw[I.ba,e1];exact k3,bX.1,.inr bX.2⟩⟩) (λi p hi he=>by
      by_cases hc:0<=cap
      ·refine .inr (.inl ?_)
       rw[hY (hb _ (List.mem_of_getElem? hi)) ha]
       exact h2 i p hi (by rw[he];exact(m9 hc).1)
      ·refine .inr (.inr ?_)
       simp only[aE,I.ba,e1]
       rw[if_pos (by omega)]) Mg
    have Aa:bK n bl.length ρ m (n+2) (bl++[([A.rows sh (.const 0) (.var s) (.var n) 2],(e,false))]).length dg (dY m bl.length g):=⟨by omega,ha,by simp,λb hb=>eT hb⟩
    have zA:bm (n+2) (bl++[([A.rows sh (.const 0) (.var s) (.var n) 2],(e,false))]).length dg (bl++[([.rows sh (.const 0) (.var s) (.var n) 2],(e,false))]):=λp hp a fy=>by
     rcases List.mem_append.1 hp with hp|hp
     ·exact(n9 p hp a fy).ext (agree.refl _ _) (Nat.le_refl _) (by simp)
     ·simp at hp;subst hp;simp at fy;subst fy
      exact n6.ext (agree.refl _ _) (Nat.le_refl _) (by simp)
    have Au:W.ok (n+2) (bl++[([A.rows sh (.const 0) (.var s) (.var n) 2],(e,false))]).length dg (.one (.sl bl.length sh.length (.const 0) (.const 0) (.var (n+1)) (.var n))):=by
     refine⟨by simp,⟨I.br _ _,I.br _ _,I.cq (by omega),I.cq (by omega)⟩,?_⟩
     simp only[I.ba,I.ay,e1,e2]
     exact⟨by omega,by omega,λh=>by rw[hg2 h];rfl,tM⟩
    obtain⟨n',aa,m',gZ,az,g1,g2,g3,g4,g5,g6⟩:=Dr (w0:=w0) (l:=r) (s:=s+1) (us:=us++[.one (.sl bl.length sh.length (.const 0) (.const 0) (.var (n+1)) (.var n))]) (zs:=zs) (vals:=vs) aK.1.1 zA gA (zk.agree ha (by omega)) hz (by omega) hat (λu hu=>by
     rcases List.mem_append.1 hu with hu|hu
     ·exact(j9 u hu).ext ha (by omega) (by simp)
     ·simp at hu;subst hu;exact Au) pI
    refine⟨n',aa,m',gZ,az,Aa.trans g1,g2,g3,?_,g5,g6⟩
    rw[g4,List.map_append,List.append_assoc]
    congr 1
    ·exact List.map_congr_left λu hu=>W.fL (j9 u hu) ha (λb hb=>eT hb)
    ·simp only[List.map_cons,List.map_nil,List.cons_append,List.nil_append,W.den,A.den,I.ba,I.ay,e1,e2,fZ]
     rw[tN]
     simp
where
 Dr {w0:b5} {F N:Nat->Prop}:∀{l:List bh} {s n:Nat} {us:List W} {bl:List af} {k:Nat->List W->List af->T} {G:bZ} {ρ:Env} {m:Nat->Nat} {w:World} {zs:List Int} {vals:List Value},
  (l.all bh.fT)=true->bm n bl.length ρ bl->Mem w0 ρ m bl w->At ρ s zs->bb (cw l) zs->s+(cw l).length<=n->ft F N w l zs vals->
  (∀u∈us,W.ok n bl.length ρ u)->
  (nQ l s n us bl k).holds S L G ρ->∃n' aa m' gZ az,bK n bl.length ρ m n' (List.length az) aa m'/\bm n' az.length aa az/\Mem w0 aa m' az w/\gZ.map (W.den aa m')=us.map (W.den ρ m)++vals/\(∀u∈gZ,W.ok n' az.length aa u)/\(k n' gZ az).holds S L G aa
 |[],s,n,us,bl,k,G,ρ,m,w,zs,vals,_,hb,hm,_,_,_,hat,j9,ad=>by
  match vals,hat with
  |[],_=>exact⟨n,ρ,m,us,bl,bK.refl _ _ _ _,hb,hm,by simp,j9,ad⟩
 | .d x::r,s,n,us,bl,k,G,ρ,m,w,zs,vals,aK,hb,hm,hA,hz,hn,hat,j9,ad=>by
  match vals,hat with
  |v::vs,hat=>
   obtain⟨hv,hat⟩:=hat
   have hv:v=x.val zs:=hv
   simp only[cw,bh.bds]at hz hn
   simp only[List.length_append]at hn
   obtain⟨i1,i2⟩:=wU hz
   rw[D.s6]at i1 i2 hn
   have hs:=D.u1 (ρ:=ρ) (m:=m) (N:=n) (nb:=bl.length) x i1 hA (by omega)
   obtain⟨n',aa,m',gZ,az,g1,g2,g3,g4,g5,g6⟩:=Dr (l:=r) (s:=s+x.num) (us:=us++[x.sym s]) (zs:=zs.drop x.num) (by simpa [bh.fT]using aK) hb hm (hA.drop x.num) i2 (by omega) hat (λu hu=>by
    rcases List.mem_append.1 hu with hu|hu
    ·exact j9 u hu
    ·simp at hu;subst hu;exact hs.1) ad
   exact⟨n',aa,m',gZ,az,g1,g2,g3,by rw[g4,List.map_append,hv];simp[hs.2],g5,g6⟩
 | .rd _::_,_,_,_,_,_,_,_,_,_,_,_,aK,_,_,_,_,_,_,_,_=>by simp[bh.fT]at aK
 | .gI _ _::_,_,_,_,_,_,_,_,_,_,_,_,aK,_,_,_,_,_,_,_,_=>by simp[bh.fT]at aK
end
end Go.aZ
namespace Go.aZ
open M
theorem wZ (x:Nat) (r:List Nat):lc (x::r)=2^x*(2*lc r+1):=rfl
theorem O7 (x:Nat) (r:List Nat):lc r<=lc (x::r):=by
 rw[wZ]
 have h1:1<=2^x:=Nat.one_le_two_pow
 have h2:2*lc r+1<=2^x*(2*lc r+1):=Nat.le_mul_of_pos_left _ h1
 omega
theorem GK:∀(a:Nat) (l:List Nat),lc (l.drop a)<=lc l
 |0,l=>by simp
 |a+1,[]=>by simp
 |a+1,x::r=>by rw[List.drop_succ_cons];exact Nat.le_trans (GK a r) (O7 x r)
theorem GL:∀(k:Nat) (l:List Nat),lc (l.take k)<=lc l
 |0,l=>by simp[lc]
 |k+1,[]=>by simp
 |k+1,x::r=>by
  rw[List.take_succ_cons,wZ,wZ]
  exact Nat.mul_le_mul_left _ (by have:=GL k r;omega)
theorem HL (l:List (List Int)) (a k:Nat):rc ((l.drop a).take k)<=rc l:=by
 unfold rc
 rw[List.map_take,List.map_drop]
 exact_mod_cast Nat.le_trans (GL k _) (GK a _)
theorem TV (n:Nat):mI (oK n)=n:=by
 unfold mI oK
 by_cases h:n% 2=0
 ·rw[if_pos h,if_pos (by omega)];omega
 ·rw[if_neg h,if_neg (by omega)];omega
theorem IS:∀(f n:Nat),0<n->n<=f->n=2^iI f n*(2*(n/2^iI f n/2)+1)
 |0,n,h,h'=>by omega
 |f+1,n,h,h'=>by
  unfold iI
  by_cases hn:n% 2=0
  ·rw[if_pos hn]
   have ih:=IS f (n/2) (by omega) (by omega)
   have e:n/2^(iI f (n/2)+1)=n/2/2^iI f (n/2):=by rw[Nat.pow_succ,Nat.mul_comm,Nat.div_div_eq_div_mul]
   rw[e,Nat.pow_succ,Nat.mul_comm (2^_) 2,Nat.mul_assoc,<-ih];omega
  ·rw[if_neg hn];simp;omega
theorem AY:∀(f n:Nat),n<=f->lc (nu f n)=n
 |0,n,h=>by
  have:n=0:=by omega
  subst this;rfl
 |f+1,n,h=>by
  unfold nu
  by_cases hn:n=0
  ·rw[if_pos hn,hn];rfl
  ·rw[if_neg hn,wZ]
   have hp:0<2^iI n n:=Nat.two_pow_pos _
   have hd:n/2^iI n n/2<=f:=by
    have h1:n/2^iI n n<=n:=Nat.div_le_self _ _
    omega
   rw[AY f _ hd]
   exact(IS n n (by omega) (Nat.le_refl _)).symm
theorem HK {z:Int} (h:0<=z):rc (ab z)=z:=by
 unfold rc ab
 rw[List.map_map]
 have e:((λrow:List Int=>lc (row.map mI))∘λn=>(nu n n).map oK)=id:=by
  funext n
  simp only[Function.comp,List.map_map,id]
  have:(mI∘oK)=id:=by funext k;exact TV k
  rw[this,List.map_id,AY n n (Nat.le_refl _)]
 rw[e,List.map_id,AY _ _ (Nat.le_refl _)]
 omega
def gN:V->List Nat
 | .w (.one (.sl b _ _ _ _ _))=>[b]
 | .w (.one (.slc b _ _ _))=>[b]
 |_=>[]
noncomputable def uL (iE:Bool) (sh:List ag) (bl:List af) (v:V):M I:=
 match v with
 | .w (.one (.con (.slice none 0 0)))=>pure (.const 0)
 | .w (.one (.sl b ax o ro len cap))=>match bl[b]? with
  |some ([.rows bH off code bI kind],_)=>cond (Nat.blt 0 kind&&fX sh bH&&I.beq o off&&Nat.beq ax sh.length) (bind (cx 22 [code,ro,ro.add len]) λ_=>bind (q7 cap bI) λ_=>cd 22 [code,ro,ro.add len] 0 aW) fail
  |_=>fail
 | .w (.one (.slc b off len cap))=>match jv bl b off (len*sh.length)with
  |some cs=>cond (fl sh&&Nat.ble len 1073741824&&Nat.ble len cap&&Nat.ble cap 9223372036854775807&&(eJ sh||iE)) (cond (eJ sh) (nP sh (fv sh.length len cs) (.const 0)) (vu bl sh (fv sh.length len cs) (.const 0))) fail
  |none=>fail
 |_=>fail
noncomputable def Br (sh:List ag) (e:TypeId) (bl:List af) (v:V):M I:=
 match v with
 | .w (.one (.con (.slice none 0 0)))=>pure (.const 0)
 | .w (.one (.sl b ax o ro len cap))=>match bl[b]? with
  |some ([.rows bH off code bI kind],t)=>cond (Nat.beq kind 2&&fX sh bH&&I.beq o (.const 0)&&I.beq off (.const 0)&&I.beq ro (.const 0)&&I.beq cap bI&&Nat.beq ax sh.length&&Nat.beq t.1 e&&eJ sh) (bind (cx 22 [code,.const 0,len]) λ_=>cd 22 [code,.const 0,len] 0 aW) fail
  |_=>fail
 | .w (.one (.slc b off len cap))=>match bl[b]? with
  |some (C,t)=>match jv bl b off (len*sh.length)with
   |some cs=>cond (fl sh&&Nat.ble len 1073741824&&Nat.ble len cap&&Nat.ble cap 9223372036854775807&&Nat.beq off 0&&Nat.beq C.length (cap*sh.length)&& !t.2&&Nat.beq t.1 e&&eJ sh) (nP sh (fv sh.length len cs) (.const 0)) fail
   |none=>fail
  |none=>fail
 |_=>fail
def jE:V->List Nat
 | .w (.one (.slc b _ _ _))=>[b]
 |_=>[]
def CC (w0:b5) (ρ:Env) (m:Nat->Nat) (bl:List af) (bs os:List Nat) (g:Nat):Prop:=
 (∃b∈bs,m b=g/\∃p,bl[b]?=some p/\aE ρ p.1≠0/\(bj p.1=true->b∈os))/\(w0.ex g∨w0.ro g∨w0.r.heap.size<=g)
def k5 (F:Nat->Prop) (w0:b5) (ρ:Env) (m:Nat->Nat) (bl:List af) (bs os:List Nat) (g:Nat):Prop:=CC w0 ρ m bl bs os g∨F g
def sS (F:Nat->Prop) (w0:b5) (ρ:Env) (m:Nat->Nat) (bl:List af) (w:World):Prop:=
 ∀(i:Nat) (sh:List ag) (off code cap:I) (kind:Nat) (t:TypeId×Bool),bl[i]?=some ([.rows sh off code cap kind],t)->eD w0 ρ F (m i) sh off code cap kind t.1 w
def oQ (w0:b5) (ρ:Env) (m:Nat->Nat) (bl:List af) (bs os:List Nat) (g:Nat):Prop:=CC w0 ρ m bl bs os g∨a7 w0 ρ m bl g
section
variable {S:Nat->List Int->List Int->Prop} {L:V->Env->Prop} {n:Nat} {ρ:Env} {m:Nat->Nat} {bl:List af} {gl:cF} {w0:b5} {P:Program} {w:World}
theorem dR.mono {F F':Nat->Prop} {sh:List ag} {rows:List (List Int)} {v:Value} (h:dR F w sh rows v) (hF:∀g,F g->F' g):dR F' w sh rows v:=by
 rcases h with h|⟨g,o,cap,cells,t,fz,h1,h2,h3,h4⟩
 ·exact .inl h
 ·exact .inr ⟨g,o,cap,cells,t,fz,h1,h2,hF g h3,h4.1,h4.2.mono (Fr.of w hF)⟩
theorem Iu {b off len:Nat} {C:List A} {t:TypeId×Bool} {cs:List A} {sh:List ag} {rows:List (List Int)} (hb:bm n bl.length ρ bl) (hw:Mem w0 ρ m bl w) (hbl:bl[b]?=some (C,t)) (hcs:jv bl b off (len*sh.length)=some cs)
 (cO:∀row∈rows,aR sh row) (eo:bz sh rows=cs.map (A.den ρ m)):w0.b.heap.size<=m b/\(w0.ex (m b)∨w0.r.heap.size<=m b)/\∃cells:Array Value,w.heap[m b]?=some (.cells cells t.1 (0,0))/\jk cells off sh rows/\(t.2=false->cells.size=C.length):=by
 unfold jv at hcs
 rw[hbl]at hcs
 simp only at hcs
 cases hc:(Nat.ble (off+len*sh.length) C.length&&bj C)with
 |false=>rw[hc]at hcs;cases hcs
 |true=>
  rw[hc]at hcs
  simp only[cond_true,Option.some.injEq]at hcs
  simp only[Bool.and_eq_true]at hc
  have hle:=Nat.le_of_ble_eq_true hc.1
  obtain⟨g1,g2,r,hr,g3⟩:=hw.c9 b C t hbl hc.2
  refine⟨g1,g2,_,g3,⟨cO,(C.take off).map (A.den ρ m),((C.drop off).drop (len*sh.length)).map (A.den ρ m)++r,?_,by simp;omega⟩,λht=>by rw[hr ht];simp⟩
  rw[eo,<-hcs]
  show C.map (A.den ρ m)++r=_
  have e:C=C.take off++((C.drop off).take (len*sh.length)++(C.drop off).drop (len*sh.length)):=by rw[List.take_append_drop,List.take_append_drop]
  conv=>lhs;rw[e]
  simp only[List.map_append,List.append_assoc]
theorem lJ:ab ((I.const 0).den ρ)=[]:=by rw[I.ay];exact kg
theorem qM:(0:Int)<=aW:=Int.le_trans (cE []) (jj (l:=[]) (by simp) (by simp))
theorem It {sh:List ag} {len:Nat} {cs:List A} (eQ:fl sh=true) (hl:len<=1073741824) (aK:∀a∈cs,A.ok n bl.length ρ a) (cI:cs.length=len*sh.length):
 ae S L (nP sh (fv sh.length len cs) (.const 0)) n ρ λaa n' l=>l.aA n'/\(0<=l.den aa/\l.den aa<=aW)/\(ab (l.den aa)).length=len/\(∀row∈ab (l.den aa),aR sh row)/\bz sh (ab (l.den aa))=cs.map (A.den ρ m):=by
 have fB:=pf (w:=sh.length) (k:=len) cI
 refine(s0 (nb:=bl.length) (m:=m) eQ (rs:=fv sh.length len cs) (c:= .const 0) (λrow hr a ha=>aK a (pg row hr a ha)) (I.br _ _) (by rw[I.ay];exact⟨Int.le_refl _,qM⟩) (by rw[lJ];intro _ h;simp at h) (by rw[lJ,fB.1];simpa using hl)).mono λak n1 l hn ha ⟨p1,bc,bu,bx,dw,dO,e8⟩=>?_
 rw[lJ,List.nil_append]at bx
 rw[bx]
 exact⟨p1,bc,by rw[dw,fB.1],dO,by rw[e8,fB.2]⟩
theorem Kj {cap bI:I} {α:Type} {x:M α} {R:Env->Nat->α->Prop} (h:(0<=cap.den ρ->0<=bI.den ρ)->ae S L x n ρ R):ae S L (bind (q7 cap bI) λ_=>x) n ρ R:=by
 unfold q7
 cases hc:I.beq cap bI with
 |true=>exact h (by rw[I.beq_eq hc];exact id)
 |false=>exact db h
theorem Sm {F:Nat->Prop} {b off len:Nat} {C:List A} {t:TypeId×Bool} {cs:List A} {sh:List ag} {rows:List (List Int)} (hw:Mem w0 ρ m bl w) (hbl:bl[b]?=some (C,t)) (hcs:jv bl b off (len*sh.length)=some cs)
 (cO:∀row∈rows,aR sh row) (eo:cZ F w sh rows (cs.map (A.den ρ m))):w0.b.heap.size<=m b/\(w0.ex (m b)∨w0.r.heap.size<=m b)/\∃cells:Array Value,w.heap[m b]?=some (.cells cells t.1 (0,0))/\eW F w cells off sh rows:=by
 unfold jv at hcs
 rw[hbl]at hcs
 simp only at hcs
 cases hc:(Nat.ble (off+len*sh.length) C.length&&bj C)with
 |false=>rw[hc]at hcs;cases hcs
 |true=>
  rw[hc]at hcs
  simp only[cond_true,Option.some.injEq]at hcs
  simp only[Bool.and_eq_true]at hc
  have hle:=Nat.le_of_ble_eq_true hc.1
  obtain⟨g1,g2,r,hr,g3⟩:=hw.c9 b C t hbl hc.2
  refine⟨g1,g2,_,g3,cO,(C.take off).map (A.den ρ m),cs.map (A.den ρ m),((C.drop off).drop (len*sh.length)).map (A.den ρ m)++r,?_,by simp;omega,eo⟩
  rw[<-hcs]
  show C.map (A.den ρ m)++r=_
  have e:C=C.take off++((C.drop off).take (len*sh.length)++(C.drop off).drop (len*sh.length)):=by rw[List.take_append_drop,List.take_append_drop]
  conv=>lhs;rw[e]
  simp only[List.map_append,List.append_assoc]
theorem HM {F:Nat->Prop} {iE:Bool} (hF:sS F w0 ρ m bl w) (hN:iE=true->∀g,a7 w0 ρ m bl g->F g) {sh:List ag} {v:V} {X:Value} (hb:bm n bl.length ρ bl) (hw:Mem w0 ρ m bl w) (hv:v.ok n bl.length ρ) (aX:v.rel ρ m X):
 ae S L (uL iE sh bl v) n ρ λaa n' l=>l.aA n'/\(0<=l.den aa/\l.den aa<=aW)/\dR (k5 F w0 ρ m bl (gN v) (jE v)) w sh (ab (l.den aa)) X:=by
 unfold uL
 split
 ·refine ae.pure ⟨I.br _ _,by rw[I.ay];exact⟨Int.le_refl _,qM⟩,.inl ⟨⟨_,aX⟩,lJ⟩⟩
 ·rename_i b ax o ro len cap
  split
  ·rename_i bH off code bI kind t hbl
   refine bR λhc=>db λhk=>?_
   simp only[Bool.and_eq_true]at hc
   obtain⟨⟨⟨c1,av⟩,bg⟩,bw⟩:=hc
   have c1:0<kind:=Nat.le_of_ble_eq_true c1
   have av:=lM av;have bg:=I.beq_eq bg;have bw:=Nat.eq_of_beq_eq_true bw
   subst av;subst bg;subst bw
   simp only[List.map_cons,List.map_nil,aG,I.den_add]at hk
   have ud:(A.sl b sh.length o ro len cap).ok n bl.length ρ:=hv
   obtain⟨ptr,e1,e2,e3⟩:=jD (m:=m) ud
   have aX:X=(A.sl b sh.length o ro len cap).den ρ m:=aX
   obtain⟨x1,⟨ef,fb,fo,fH⟩,⟨ga,kX,kY,kZ⟩,⟨lR,kW⟩,ee,fG⟩:=ud
   have cH:(A.rows sh o code bI kind).ok n bl.length ρ:=hb _ (List.mem_of_getElem? hbl) _ (by simp)
   have hf:ah 22 ([code,ro,ro.add len].map (·.den ρ))=rc (((ab (code.den ρ)).drop (ro.den ρ).toNat).take (len.den ρ).toNat):=by
    simp only[List.map_cons,List.map_nil,ah,I.den_add]
    congr 2;omega
   have en:rc (((ab (code.den ρ)).drop (ro.den ρ).toNat).take (len.den ρ).toNat)<=aW:=by
    have h1:=HL (ab (code.den ρ)) (ro.den ρ).toNat (len.den ρ).toNat
    rw[HK cH.2.1.1]at h1
    exact Int.le_trans h1 cH.2.1.2
   refine Kj λrH=>?_
   refine(cS (by rw[hf];exact cE _) (by rw[hf];exact en)).mono λak n1 l hn ha ⟨k1,k2⟩=>?_
   rw[hf]at k2
   refine⟨k1,by rw[k2];exact⟨cE _,en⟩,?_⟩
   rw[k2,dx]
   have hlen:(((ab (code.den ρ)).drop (ro.den ρ).toNat).take (len.den ρ).toNat).length=(len.den ρ).toNat:=by simp;omega
   rcases Int.lt_or_le (cap.den ρ) 0 with bp|bp
   ·left
    have:=ee bp
    refine⟨⟨_,by rw[aX,e1,e2 bp,if_pos bp,this];rfl⟩,by rw[this];simp⟩
   ·right
    clear en
    rcases Int.lt_or_le (bI.den ρ) 0 with iU|iU
    ·have:=rH bp;omega
    ·obtain⟨q0,cells,dX,fz,q1,⟨q2,q3⟩,_⟩:=(hF b sh o code bI kind t hbl (by omega)).2 iU
     refine⟨m b,(o.den ρ).toNat+(ro.den ρ).toNat*sh.length,(cap.den ρ).toNat,cells,dX,fz,?_,⟨by rw[hlen];have:=fG bp;omega,by omega⟩,(.inl ⟨⟨b,by simp[gN],rfl,_,hbl,by rw[e6 (by omega) iU];omega,λh=>by cases h⟩,q0⟩),q1,?_⟩
     ·rw[aX,e1,e3 bp,hlen,if_neg (by omega)]
     ·exact(q3.sub (ro.den ρ).toNat (len.den ρ).toNat (by omega)).mono (Fr.of w λg hg=> .inr hg)
  ·exact ae.fail
 ·rename_i b off len cap
  split
  ·rename_i cs hcs
   refine bR λhc=>?_
   simp only[Bool.and_eq_true]at hc
   obtain⟨⟨⟨⟨c1,av⟩,bg⟩,bw⟩,dU⟩:=hc
   have av:=Nat.le_of_ble_eq_true av;have bg:=Nat.le_of_ble_eq_true bg;have bw:=Nat.le_of_ble_eq_true bw
   obtain⟨d1,d2,d3⟩:=tF hw hb hcs
   have aX:X= .slice (some ⟨m b,off,none⟩) len cap:=aX
   have e4:∀C t,bl[b]?=some (C,t)->bj C=true:=λC t hbl=>by
    unfold jv at hcs
    rw[hbl]at hcs
    simp only at hcs
    cases hc:(Nat.ble (off+len*sh.length) C.length&&bj C)with
    |false=>rw[hc]at hcs;cases hcs
    |true=>simp only[Bool.and_eq_true]at hc;exact hc.2
   cases D0:eJ sh with
   |false=>
    have Ns:iE=true:=by rw[D0,Bool.false_or]at dU;exact dU
    have fB:=pf (w:=sh.length) (k:=len) d1
    refine(yz c1 (rs:=fv sh.length len cs) (c:= .const 0) hb hw (λrow hr a ha=>d2 a (pg row hr a ha)) (I.br _ _) (by rw[I.ay];exact⟨Int.le_refl _,qM⟩) (by rw[lJ];intro _ h;simp at h) (by rw[lJ,fB.1];simpa using av)).mono λak n1 l hn ha ⟨p1,bc,bu,bx,dw,dO,e8⟩=>⟨p1,bc,.inr ?_⟩
    rw[lJ,List.nil_append]at bx
    rw[bx]
    rw[fB.2]at e8
    rw[fB.1]at dw
    cases hbl:bl[b]? with
    |none=>unfold jv at hcs;rw[hbl]at hcs;cases hcs
    |some q=>
     obtain⟨C,t⟩:=q
     obtain⟨g1,g2,cells,g3,g4⟩:=Sm hw hbl hcs dO (e8.mono (Fr.of w λg hg=>(.inr (hN Ns g hg):k5 F w0 ρ m bl (gN (.w (.one (.slc b off len cap)))) (jE (.w (.one (.slc b off len cap)))) g)))
     exact⟨m b,off,cap,cells,t.1,(0,0),by rw[aX,dw],⟨by omega,by omega⟩,(.inl ⟨⟨b,by simp[gN],rfl,_,hbl,by rw[iC (e4 C t hbl)];decide,λ_=>by simp[jE]⟩,g2.elim .inl λh=> .inr (.inr h)⟩),g3,g4⟩
   |true=>
   refine(It (m:=m) c1 av d2 d1).mono λak n1 l hn ha ⟨k1,k2,k3,k4,lH⟩=>⟨k1,k2,.inr ?_⟩
   cases hbl:bl[b]? with
   |none=>unfold jv at hcs;rw[hbl]at hcs;cases hcs
   |some q=>
    obtain⟨C,t⟩:=q
    obtain⟨g1,g2,cells,g3,g4,_⟩:=Iu hb hw hbl hcs k4 lH
    exact⟨m b,off,cap,cells,t.1,(0,0),by rw[aX,k3],⟨by omega,by omega⟩,(.inl ⟨⟨b,by simp[gN],rfl,_,hbl,by rw[iC (e4 C t hbl)];decide,λ_=>by simp[jE]⟩,g2.elim .inl λh=> .inr (.inr h)⟩),g3,(hM D0).2 g4⟩
  ·exact ae.fail
 ·exact ae.fail
theorem Ru {iE:Bool} {sh:List ag} {v:V} {X:Value} (hb:bm n bl.length ρ bl) (hw:Mem w0 ρ m bl w) (hv:v.ok n bl.length ρ) (aX:v.rel ρ m X):
 ae S L (uL iE sh bl v) n ρ λaa n' l=>l.aA n'/\(0<=l.den aa/\l.den aa<=aW)/\dR (oQ w0 ρ m bl (gN v) (jE v)) w sh (ab (l.den aa)) X:=HM (F:=a7 w0 ρ m bl) hw.rws (λ_ _ h=>h) hb hw hv aX
theorem QP {sh:List ag} {e:TypeId} {v:V} {X:Value} (hex:∀g,¬w0.ex g) (hb:bm n bl.length ρ bl) (hw:Mem w0 ρ m bl w) (hv:v.ok n bl.length ρ) (aX:v.rel ρ m X):
 ae S L (Br sh e bl v) n ρ λaa n' l=>l.aA n'/\(0<=l.den aa/\l.den aa<=aW)/\oZ (λg=>w0.r.heap.size<=g) w sh e (ab (l.den aa)) X:=by
 unfold Br
 split
 ·refine ae.pure ⟨I.br _ _,by rw[I.ay];exact⟨Int.le_refl _,qM⟩,.inl ⟨⟨_,aX⟩,lJ⟩⟩
 ·rename_i b ax o ro len cap
  split
  ·rename_i bH off code bI kind t hbl
   refine bR λhc=>db λhk=>?_
   simp only[Bool.and_eq_true]at hc
   obtain⟨⟨⟨⟨⟨⟨⟨⟨c1,av⟩,bg⟩,yJ⟩,yK⟩,dT⟩,bw⟩,cG⟩,dU⟩:=hc
   have c1:=Nat.eq_of_beq_eq_true c1
   have av:=lM av;have bg:=I.beq_eq bg;have yJ:=I.beq_eq yJ;have yK:=I.beq_eq yK;have dT:=I.beq_eq dT;have bw:=Nat.eq_of_beq_eq_true bw;have cG:=Nat.eq_of_beq_eq_true cG
   subst av;subst bg;subst bw;subst yJ;subst yK;subst dT;subst cG;subst c1
   simp only[List.map_cons,List.map_nil,aG,I.ay]at hk
   have ud:(A.sl b sh.length (.const 0) (.const 0) len cap).ok n bl.length ρ:=hv
   obtain⟨ptr,e1,e2,e3⟩:=jD (m:=m) ud
   have aX:X=(A.sl b sh.length (.const 0) (.const 0) len cap).den ρ m:=aX
   obtain⟨x1,⟨ef,fb,fo,fH⟩,⟨ga,kX,kY,kZ⟩,⟨lR,kW⟩,ee,fG⟩:=ud
   rw[I.ay]at kW
   have cH:(A.rows sh (.const 0) code cap 2).ok n bl.length ρ:=hb _ (List.mem_of_getElem? hbl) _ (by simp)
   have hf:ah 22 ([code,.const 0,len].map (·.den ρ))=rc (((ab (code.den ρ)).drop 0).take (len.den ρ).toNat):=by
    simp only[List.map_cons,List.map_nil,ah,I.ay]
    congr 2
   have en:rc (((ab (code.den ρ)).drop 0).take (len.den ρ).toNat)<=aW:=by
    have h1:=HL (ab (code.den ρ)) 0 (len.den ρ).toNat
    rw[HK cH.2.1.1]at h1
    exact Int.le_trans h1 cH.2.1.2
   refine(cS (by rw[hf];exact cE _) (by rw[hf];exact en)).mono λak n1 l hn ha ⟨k1,k2⟩=>?_
   rw[hf]at k2
   refine⟨k1,by rw[k2];exact⟨cE _,en⟩,?_⟩
   rw[k2,dx]
   have hlen:(((ab (code.den ρ)).drop 0).take (len.den ρ).toNat).length=(len.den ρ).toNat:=by simp;omega
   rcases Int.lt_or_le (cap.den ρ) 0 with bp|bp
   ·left
    have:=ee bp
    refine⟨⟨_,by rw[aX,e1,e2 bp,if_pos bp,this];rfl⟩,by rw[this];simp⟩
   ·right
    clear en
    obtain⟨q0,cells,dX,fz,q1,⟨q2,q3⟩,q4⟩:=(hw.rws b sh (.const 0) code cap 2 t hbl (by omega)).2 bp
    obtain⟨p0,p1,bc,bx,dw,dO⟩:=q4 (by omega)
    have bc:=bc.two
    subst p0;subst bc
    rw[I.ay]at q3
    refine⟨m b,(cap.den ρ).toNat,cells,?_,⟨by rw[hlen];have:=fG bp;omega,by omega⟩,dO.elim (λh=>absurd h (hex _)) id,q1,?_,bx⟩
    ·rw[aX,e1,e3 bp,hlen,if_neg (by omega)];simp[I.ay]
    ·have:=((hM dU).1 q3).sub 0 (len.den ρ).toNat (by omega)
     simpa using this
  ·exact ae.fail
 ·rename_i b off len cap
  split
  ·rename_i C t hbl
   split
   ·rename_i cs hcs
    refine bR λhc=>?_
    simp only[Bool.and_eq_true]at hc
    obtain⟨⟨⟨⟨⟨⟨⟨⟨c1,av⟩,bg⟩,bw⟩,cG⟩,dT⟩,ks⟩,kt⟩,dU⟩:=hc
    have av:=Nat.le_of_ble_eq_true av;have bg:=Nat.le_of_ble_eq_true bg;have bw:=Nat.le_of_ble_eq_true bw
    have cG:=Nat.eq_of_beq_eq_true cG;have dT:=Nat.eq_of_beq_eq_true dT;have kt:=Nat.eq_of_beq_eq_true kt
    subst cG;subst kt
    obtain⟨d1,d2,d3⟩:=tF hw hb hcs
    refine(It (m:=m) c1 av d2 d1).mono λak n1 l hn ha ⟨k1,k2,k3,k4,lH⟩=>⟨k1,k2,.inr ?_⟩
    have aX:X= .slice (some ⟨m b,0,none⟩) len cap:=aX
    obtain⟨g1,g2,cells,g3,g4,g5⟩:=Iu hb hw hbl hcs k4 lH
    exact⟨m b,cap,cells,by rw[aX,k3],⟨by omega,by omega⟩,g2.elim (λh=>absurd h (hex _)) id,g3,g4,by rw[g5 (by simpa using ks),dT]⟩
   ·exact ae.fail
  ·exact ae.fail
 ·exact ae.fail
end
def zc (d:D) (v:V):M (List I):=
 match d,v with
 | .bool,.w (.one (.bool e))=>match e with
  | .lit v=>pure [.const (cond v 1 0)]
  |e=>bind (p7 e) λl=>pure [l]
 | .int k lo hi,.w (.one (.int aD x))=>cond (decide (k=aD)) (cond (iR lo hi x) (pure [x.l]) (bind (cx 39 [x.l,.const lo,.const hi]) λ_=>pure [x.l])) fail
 | .mix l,.w (.agg s)=>qy l s
 | .str,.w (.one (.str l))=>pure [l]
 | .gY l,.w (.one (.str x))=>match x.bQ with|some c=>cond (decide (c=dz (kM l))) (pure []) fail|none=>fail
 | .lF k c,.w (.one (.int aD x))=>match x.l.bQ with|some d=>cond (decide (k=aD)&&decide (d=c)) (pure []) fail|none=>fail
 | .agg k n lo hi,.w (.agg l)=>cond (Nat.beq l.length n) (match gd k lo hi l with|some r=>pure r|none=>fail) fail
 |_,_=>fail
noncomputable def pq (iE:Bool) (bl:List af):List bh->List V->M (List I)
 |[],[]=>pure []
 | .d x::r,v::s=>bind (zc x v) λa=>bind (pq iE bl r s) λb=>pure (a++b)
 | .rd sh::r,v::s=>bind (uL iE sh bl v) λa=>bind (pq iE bl r s) λb=>pure (a::b)
 |_,_=>fail
section
variable {S:Nat->List Int->List Int->Prop} {L:V->Env->Prop} {w0:b5} {P:Program} {w:World}
theorem BN:∀{sh:List ag} {zs:List Int},aR sh zs->bb (sh.map ag.cn) zs/\List.zipWith ag.val sh zs=bM sh zs
 |[],[],_=>⟨trivial,rfl⟩
 |c::sh,z::zs,h=>⟨⟨h.1.1,h.1.2,(BN h.2).1⟩,by simp[bM,(BN h.2).2]⟩
 |[],_::_,h=>h.elim
 |_::_,[],h=>h.elim
theorem Ll {d:D} {v:V} {X:Value} {n nb:Nat} {ρ:Env} {m:Nat->Nat} (hv:v.ok n nb ρ) (aX:v.rel ρ m X):ae S L (zc d v) n ρ λaa n' ls=>(∀x∈ls,I.aA n' x)/\bb d.bds (ls.map (·.den aa))/\X=d.val (ls.map (·.den aa)):=by
 unfold zc
 split
 ·rename_i e
  have aX:X= .bool (e.den ρ):=aX
  have key:ae S L (bind (p7 e) λl=>pure [l]) n ρ λaa n' ls=>(∀x∈ls,I.aA n' x)/\bb D.bool.bds (ls.map (·.den aa))/\X=D.bool.val (ls.map (·.den aa)):=
   wW.bind λak n1 l hn ha ⟨g1,g2,g3⟩=>ae.pure ⟨λx hx=>by simp at hx;subst hx;exact g1,⟨g2.1,g2.2,trivial⟩,by rw[aX,g3];rfl⟩
  cases e with
  |lit b=>
   refine ae.pure ⟨λx hx=>by simp at hx;subst hx;exact I.br _ _,?_,?_⟩
   ·simp only[List.map_cons,List.map_nil,I.ay,D.bds];cases b<;>exact⟨by decide,by decide,trivial⟩
   ·rw[aX];simp only[List.map_cons,List.map_nil,I.ay];cases b<;>rfl
  |_=>exact key
 ·rename_i k lo hi aD x
  refine bR λhk=>?_
  have hk:k=aD:=by simpa using hk
  subst hk
  have hv:x.ok n ρ:=hv
  have aX:X= .int k (x.l.den ρ):=aX
  cases hf:iR lo hi x with
  |true=>
   have:=tk hf hv
   exact ae.pure ⟨λy hy=>by simp at hy;subst hy;exact hv.1,⟨this.1,this.2,trivial⟩,aX⟩
  |false=>
   refine db λhk=>ae.pure ?_
   simp only[List.map_cons,List.map_nil,aG,I.ay]at hk
   exact⟨λy hy=>by simp at hy;subst hy;exact hv.1,⟨hk.1,hk.2,trivial⟩,aX⟩
 ·rename_i l s
  have aX:X= .agg (s.map (A.den ρ m)).toArray:=aX
  refine(uQ (nb:=nb) (m:=m) hv).mono λak n1 ls hn ha ⟨g1,g2,g3⟩=>?_
  have:=BN g2
  refine⟨g1,this.1,?_⟩
  rw[aX,<-g3]
  simp only[D.val,this.2]
 ·rename_i l
  have aX:X= .string (aF (J (l.den ρ))):=aX
  have hv:l.aA n/\0<=l.den ρ/\l.den ρ<=aO:=hv
  exact ae.pure ⟨λy hy=>by simp at hy;subst hy;exact hv.1,⟨hv.2.1,hv.2.2,trivial⟩,aX⟩
 ·rename_i l x
  have aX:X= .string (aF (J (x.den ρ))):=aX
  cases hc:x.bQ with
  |none=>exact ae.fail
  |some c=>
   refine bR λhd=>ae.pure ⟨λy hy=>by simp at hy,trivial,?_⟩
   rw[aX,ID (n:=n) hc (by simpa using hd)];rfl
 ·rename_i k c aD x
  have aX:X= .int aD (x.l.den ρ):=aX
  cases hc:x.l.bQ with
  |none=>exact ae.fail
  |some d=>
   refine bR λhd=>ae.pure ⟨λy hy=>by simp at hy,trivial,?_⟩
   simp only[Bool.and_eq_true,decide_eq_true_eq]at hd
   rw[aX,I.ej hc,<-hd.1,hd.2];rfl
 ·rename_i k n' lo hi l
  refine bR λhk=>?_
  have hk:=Nat.eq_of_beq_eq_true hk
  have aX:X= .agg (l.map (A.den ρ m)).toArray:=aX
  cases hf:gd k lo hi l with
  |none=>exact ae.fail
  |some r=>
   obtain⟨g1,g2,g3⟩:=za (m:=m) hf hv
   rw[hk]at g2
   refine ae.pure ⟨y9 hf hv,g2,?_⟩
   rw[aX,g3]
   simp only[D.val]
   rw[List.take_of_length_le (by simp[g1,hk])]
 ·exact ae.fail
theorem GY {n:Nat} {ρ aa:Env} {ls:List I} (h:∀x∈ls,I.aA n x) (ha:agree n ρ aa):ls.map (·.den aa)=ls.map (·.den ρ):=List.map_congr_left λx hx=>I.aP ha (h x hx)
theorem k5.later {F:Nat->Prop} {n nb:Nat} {ρ aa:Env} {m:Nat->Nat} {bl:List af} {bs os:List Nat} {g:Nat} (hb:bm n nb ρ bl) (ha:agree n ρ aa) (h:k5 F w0 aa m bl bs os g):k5 F w0 ρ m bl bs os g:=by
 rcases h with⟨⟨b,h1,h2,p,h3,h4,h6⟩,h5⟩|h
 ·exact .inl ⟨⟨b,h1,h2,p,h3,by rw[<-hY (hb p (List.mem_of_getElem? h3)) ha];exact h4,h6⟩,h5⟩
 ·exact .inr h
theorem k5.more {F:Nat->Prop} {ρ:Env} {m:Nat->Nat} {bl:List af} {bs os DG uG:List Nat} {g:Nat} (h:k5 F w0 ρ m bl bs os g) (h1:∀b∈bs,b∈DG) (h2:∀b∈os,b∈uG):k5 F w0 ρ m bl DG uG g:=by
 rcases h with⟨⟨b,k1,k2,p,k3,k4,p9⟩,lH⟩|h
 ·exact .inl ⟨⟨b,h1 b k1,k2,p,k3,k4,λh=>h2 b (p9 h)⟩,lH⟩
 ·exact .inr h
theorem sS.cK {F:Nat->Prop} {n nb:Nat} {ρ aa:Env} {m:Nat->Nat} {bl:List af} {w:World} (h:sS F w0 ρ m bl w) (hb:bm n nb ρ bl) (ha:agree n ρ aa):sS F w0 aa m bl w:=λi sh off code cap kind t hi=>
 (h i sh off code cap kind t hi).cK (hb _ (List.mem_of_getElem? hi) _ (by simp)) ha
theorem wa {iE:Bool} {F0:Nat->Prop} {bl:List af} {m:Nat->Nat}:∀{ds:List bh} {vs:List V} {xs:List Value} {n:Nat} {ρ:Env},sS F0 w0 ρ m bl w->(iE=true->∀g,a7 w0 ρ m bl g->F0 g)->bm n bl.length ρ bl->Mem w0 ρ m bl w->(∀v∈vs,V.ok n bl.length ρ v)->cU ρ m vs xs->
 ae S L (pq iE bl ds vs) n ρ λaa n' ls=>(∀x∈ls,I.aA n' x)/\bb (cw ds) (ls.map (·.den aa))/\∀F:Nat->Prop,(∀g,k5 F0 w0 ρ m bl (vs.flatMap gN) (vs.flatMap jE) g->F g)->ft F (λ_=>False) w ds (ls.map (·.den aa)) xs
 |[],[],[],n,ρ,_,_,_,_,_,_=>ae.pure ⟨λ_ h=>by simp at h,trivial,λ_ _=>trivial⟩
 | .d x::r,v::s,X::xs,n,ρ,h0,hN,hb,hw,hv,hr=>by
  unfold pq
  refine(Ll (hv v (by simp)) hr.1).bind λak n1 a hn ha ⟨g1,g2,g3⟩=>?_
  refine(wa (ds:=r) (vs:=s) (xs:=xs) (h0.cK hb ha) (λh g hg=>hN h g (a7.xC hb ha hg)) (hb.ext ha hn (Nat.le_refl _)) (hw.cK hb ha) (λu hu=>(hv u (List.mem_cons_of_mem _ hu)).ext ha hn (Nat.le_refl _)) (cU.later (λu hu=>hv u (List.mem_cons_of_mem _ hu)) ha hr.2)).bind λaH cA b bX bN ⟨k1,k2,k3⟩=>ae.pure ⟨λy hy=>?_,?_,λF hF=>?_⟩
  ·rcases List.mem_append.1 hy with hy|hy
   ·exact(g1 y hy).mono bX
   ·exact k1 y hy
  ·rw[List.map_append,GY g1 bN]
   exact np g2 k2
  ·have hl:(a.map (·.den ak)).length=x.num:=by rw[gD g2,D.s6]
   rw[List.map_append,GY g1 bN]
   refine⟨?_,?_⟩
   ·show X=x.val _
    rw[D.IZ x hl];exact g3
   ·show ft F _ w r (List.drop x.num _) xs
    rw[<-hl,List.drop_left]
    exact k3 F λg hg=>hF g (by
     exact(k5.later hb ha hg).more (λbq h1=>by simp only[List.flatMap_cons,List.mem_append];exact .inr h1) (λbq h1=>by simp only[List.flatMap_cons,List.mem_append];exact .inr h1))
 | .rd sh::r,v::s,X::xs,n,ρ,h0,hN,hb,hw,hv,hr=>by
  unfold pq
  refine(HM h0 hN hb hw (hv v (by simp)) hr.1).bind λak n1 a hn ha ⟨g1,g2,g3⟩=>?_
  refine(wa (ds:=r) (vs:=s) (xs:=xs) (h0.cK hb ha) (λh g hg=>hN h g (a7.xC hb ha hg)) (hb.ext ha hn (Nat.le_refl _)) (hw.cK hb ha) (λu hu=>(hv u (List.mem_cons_of_mem _ hu)).ext ha hn (Nat.le_refl _)) (cU.later (λu hu=>hv u (List.mem_cons_of_mem _ hu)) ha hr.2)).bind λaH cA b bX bN ⟨k1,k2,k3⟩=>ae.pure ⟨λy hy=>?_,?_,λF hF=>?_⟩
  ·rcases List.mem_cons.1 hy with rfl|hy
   ·exact g1.mono bX
   ·exact k1 y hy
  ·simp only[List.map_cons,I.aP bN g1]
   exact⟨g2.1,g2.2,k2⟩
  ·simp only[List.map_cons,I.aP bN g1]
   refine⟨?_,?_⟩
   ·show dR F w sh (ab _) X
    exact g3.mono λg hg=>hF g (by
     exact hg.more (λbq h1=>by simp only[List.flatMap_cons,List.mem_append];exact .inl h1) (λbq h1=>by simp only[List.flatMap_cons,List.mem_append];exact .inl h1))
   ·exact k3 F λg hg=>hF g (by
     exact(k5.later hb ha hg).more (λbq h1=>by simp only[List.flatMap_cons,List.mem_append];exact .inr h1) (λbq h1=>by simp only[List.flatMap_cons,List.mem_append];exact .inr h1))
 |[],_::_,_,_,_,_,_,_,_,_,_=>ae.fail
 | .d _::_,[],_,_,_,_,_,_,_,_,_=>ae.fail
 | .rd _::_,[],_,_,_,_,_,_,_,_,_=>ae.fail
 | .gI _ _::_,[],_,_,_,_,_,_,_,_,_=>ae.fail
 | .gI _ _::_,_::_,_,_,_,_,_,_,_,_,_=>ae.fail
 |_,[],_::_,_,_,_,_,_,_,_,hr=>hr.elim
 |_,_::_,[],_,_,_,_,_,_,_,hr=>hr.elim
where
 cU.later {n nb:Nat} {ρ aa:Env} {m:Nat->Nat}:∀{vs:List V} {xs:List Value},(∀v∈vs,V.ok n nb ρ v)->agree n ρ aa->cU ρ m vs xs->cU aa m vs xs
 |[],[],_,_,_=>trivial
 |v::vs,x::xs,hv,ha,hr=>⟨V.rel.ext hr.1 (hv v (by simp)) ha (λ_ _=>rfl),cU.later (λu hu=>hv u (List.mem_cons_of_mem _ hu)) ha hr.2⟩
 |[],_::_,_,_,hr=>hr.elim
 |_::_,[],_,_,hr=>hr.elim
theorem Lj {iE:Bool} {bl:List af} {m:Nat->Nat} {ds:List bh} {vs:List V} {xs:List Value} {n:Nat} {ρ:Env} (hb:bm n bl.length ρ bl) (hw:Mem w0 ρ m bl w) (hv:∀v∈vs,V.ok n bl.length ρ v) (hr:cU ρ m vs xs):
 ae S L (pq iE bl ds vs) n ρ λaa n' ls=>(∀x∈ls,I.aA n' x)/\bb (cw ds) (ls.map (·.den aa))/\∀F:Nat->Prop,(∀g,oQ w0 ρ m bl (vs.flatMap gN) (vs.flatMap jE) g->F g)->ft F (λ_=>False) w ds (ls.map (·.den aa)) xs:=wa (F0:=a7 w0 ρ m bl) hw.rws (λ_ _ h=>h) hb hw hv hr
end
end Go.aZ
namespace Go.aZ
open M
def n3:List Nat->List af->List af
 |[],bl=>bl
 |b::r,bl=>match bl[b]? with
  |some ([.rows sh off code cap (k+1)],t)=>n3 r (bP bl b ([.rows sh off code cap 1],t))
  |_=>n3 r bl
def sz (us:List W):V:=match us with|[u]=> .w u|l=> .c7 l
def kQ:List V->Bool
 |[]=>true
 | .w (.one (.slc ..))::_=>false
 |_::r=>kQ r
noncomputable def cB.sR (c:cB) (n:Nat) (vs:List V) (bl:List af) (k:RK):T:=
 pq true bl c.args vs n λls n1=>cond (lX c.res&&(!(c.res.any bh.iA)||kQ vs)) (HH c.pre ls (.call c.id ls n1 (cw c.res) (nQ c.res n1 (n1+(cw c.res).length) [] (cond (c.res.any bh.iA) (n3 (vs.flatMap gN) bl) bl) λcA us ir=>k cA (sz us) ir))) .stuck
def Ja (sh:List ag) (b:Nat):V:= .w (.one (.sl b sh.length (.const 0) (.const 0) (.const 0) (.const 0)))
def Cy (rd:Bool) (sh:List ag) (b:Nat) (bl:List af):Option (List af):=
 match bl[b]? with
 |some ([],(t,false))=>cond rd (some (bP bl b ([.rows sh (.const 0) (.const 0) (.const 0) 1],(t,false)))) none
 |some ([.rows bH off code cap kind],t)=>cond (fX sh bH&&I.beq off (.const 0)&&I.beq cap (.const 0)&&Nat.blt 0 kind) (some bl) none
 |_=>none
def fp (rd:Bool):List bh->List V->List af->List V×List af
 | .rd sh::r,v::s,bl=>match v with
  | .w (.one (.slc b 0 0 0))=>match Cy rd sh b bl with
   |some mR=>(Ja sh b::(fp rd r s mR).1,(fp rd r s mR).2)
   |none=>(v::(fp rd r s bl).1,(fp rd r s bl).2)
  |_=>(v::(fp rd r s bl).1,(fp rd r s bl).2)
 |_::r,v::s,bl=>(v::(fp rd r s bl).1,(fp rd r s bl).2)
 |_,vs,bl=>(vs,bl)
noncomputable def mD:List bh->List V->List af->M (List V×List af)
 |[],vs,bl=>pure (vs,bl)
 | .d _::_,[],bl=>pure ([],bl)
 | .rd _::_,[],bl=>pure ([],bl)
 | .gI _ _::_,[],bl=>pure ([],bl)
 | .d _::r,v::s,bl=>bind (mD r s bl) λq=>pure (v::q.1,q.2)
 | .gI _ _::r,v::s,bl=>bind (mD r s bl) λq=>pure (v::q.1,q.2)
 | .rd sh::r,v::s,bl=>match v with
  | .w (.one (.slc b 0 len cap))=>match bl[b]? with
   |some (C,t)=>cond (bj C&& !t.2&&Nat.beq len cap&&Nat.beq C.length (len*sh.length)&&fl sh&&Nat.ble len 1000000&&eJ sh&&Nat.blt 0 len)
    (bind (nP sh (fv sh.length len C) (.const 0)) λcode=>bind (mD r s (bP bl b ([.rows sh (.const 0) code (.const len) 2],t))) λq=>pure (.w (.one (.sl b sh.length (.const 0) (.const 0) (.const len) (.const len)))::q.1,q.2))
    (bind (mD r s bl) λq=>pure (v::q.1,q.2))
   |none=>bind (mD r s bl) λq=>pure (v::q.1,q.2)
  |_=>bind (mD r s bl) λq=>pure (v::q.1,q.2)
noncomputable def cB.ya (c:cB) (n:Nat) (vs:List V) (bl:List af) (k:RK):T:=
 cond (c.res.any bh.iA&& !kQ vs) (mD c.args vs bl n λq n1=>c.sR n1 q.1 q.2 k) (c.sR n vs bl k)
noncomputable def cB.E (c:cB) (n:Nat) (vs:List V) (bl:List af) (k:RK):T:=
 c.ya n (fp (c.res.any bh.iA) c.args vs bl).1 (fp (c.res.any bh.iA) c.args vs bl).2 k
section
variable {S:Nat->List Int->List Int->Prop} {L:V->Env->Prop} {w0:b5} {P:Program}
theorem Mem.zero {ρ:Env} {m:Nat->Nat} {bl:List af} {w:World} {b:Nat} {sh:List ag} {t:TypeId} (h:Mem w0 ρ m bl w) (hbl:bl[b]?=some ([],(t,false))):Mem w0 ρ m (bP bl b ([.rows sh (.const 0) (.const 0) (.const 0) 1],(t,false))) w:=by
 have hS:b<bl.length:=(List.getElem?_eq_some_iff.1 hbl).1
 obtain⟨q1,q2,r,hr,q3⟩:=h.c9 b [] (t,false) hbl rfl
 have hr:=hr rfl
 subst hr
 have cp:∀(i:Nat) (p:af),(bP bl b ([.rows sh (.const 0) (.const 0) (.const 0) 1],(t,false)))[i]?=some p->(i=b/\p=([.rows sh (.const 0) (.const 0) (.const 0) 1],(t,false)))∨(i≠b/\bl[i]?=some p):=λi p hi=>by
  rw[fW,List.getElem?_set]at hi
  split at hi
  ·rename_i dN
   subst dN
   simp only[hS,if_true,Option.some.injEq]at hi
   exact .inl ⟨rfl,hi.symm⟩
  ·rename_i dN;exact .inr ⟨λe=>dN e.symm,hi⟩
 have hold:aE ρ ([]:List A)=2:=iC rfl
 refine⟨h.ext,h.fD,h.jb,h.iY,h.eG,h.iS,λi fw t' hi gW=>?_,λi bH cf code' b9 c6 t' hi=>?_,λi j p q hi hj he=>?_⟩
 ·rcases cp i _ hi with⟨rfl,bE⟩|⟨hne,hi⟩
  ·cases bE;cases gW
  ·exact h.c9 i fw t' hi gW
 ·rcases cp i _ hi with⟨rfl,bE⟩|⟨hne,hi⟩
  ·cases bE
   intro _
   simp only[I.ay]
   exact⟨λh0=>by omega,λ_=>⟨q2.elim .inl λh=> .inr (.inr h),_,_,_,q3,⟨Int.le_refl _,by rw[kg];intro _ h;simp at h,[],[],[],by simp,rfl,by rw[kg];rfl⟩,λbt=>by omega⟩⟩
  ·exact(h.rws i bH cf _ b9 c6 t' hi).mono λa6 h'=>h'.set hbl λhk=>by simp only[aE,I.ay]at hk;split at hk<;>omega
 ·rcases cp i _ hi with⟨rfl,bE⟩|⟨hne,hT⟩
  ·rcases cp j _ hj with⟨rfl,jx⟩|⟨Np,hj⟩
   ·exact .inl rfl
   ·rcases h.inj i j _ q hbl hj he with h1|h1|h1|h1
    ·exact .inl h1
    ·simp only[hold]at h1;omega
    ·simp only[hold]at h1;omega
    ·exact .inr (.inr (.inr h1))
  ·rcases cp j _ hj with⟨pK,jx⟩|⟨Np,hj⟩
   ·subst pK
    rcases h.inj i j p _ hT hbl he with h1|h1|h1|h1
    ·exact .inl h1
    ·simp only[hold]at h1;omega
    ·exact .inr (.inr (.inl h1))
    ·simp only[hold]at h1;omega
   ·exact h.inj i j p q hT hj he
theorem TS {n:Nat} {ρ:Env} {m:Nat->Nat} {w:World} {rd:Bool} {sh:List ag} {b:Nat} {bl mR:List af} (h:Cy rd sh b bl=some mR) (hm:Mem w0 ρ m bl w) (hb:bm n bl.length ρ bl):Mem w0 ρ m mR w/\bm n mR.length ρ mR/\mR.length=bl.length/\b<bl.length:=by
 unfold Cy at h
 split at h
 ·rename_i t hbl
  cases rd with
  |false=>cases h
  |true=>
   simp only[cond_true,Option.some.injEq]at h
   subst h
   refine⟨hm.zero hbl,hb.set (λa ha=>?_),eS _ _ _,(List.getElem?_eq_some_iff.1 hbl).1⟩
   have ha:a= .rows sh (.const 0) (.const 0) (.const 0) 1:=by simpa using ha
   subst ha
   refine⟨⟨I.br _ _,I.br _ _,I.br _ _⟩,?_,?_⟩
   ·simp only[I.ay];exact⟨Int.le_refl _,qM⟩
   ·simp only[I.ay];omega
 ·rename_i bH off code cap kind t hbl
  cases hc:(fX sh bH&&I.beq off (.const 0)&&I.beq cap (.const 0)&&Nat.blt 0 kind)with
  |false=>rw[hc]at h;cases h
  |true=>
   rw[hc]at h
   simp only[cond_true,Option.some.injEq]at h
   subst h
   exact⟨hm,hb,rfl,(List.getElem?_eq_some_iff.1 hbl).1⟩
 ·cases h
theorem Cz {n:Nat} {ρ:Env} {m:Nat->Nat} {w:World} {rd:Bool}:∀{ds:List bh} {vs:List V} {bl:List af} {xs:List Value},Mem w0 ρ m bl w->bm n bl.length ρ bl->(∀v∈vs,V.ok n bl.length ρ v)->cU ρ m vs xs->
 Mem w0 ρ m (fp rd ds vs bl).2 w/\bm n (fp rd ds vs bl).2.length ρ (fp rd ds vs bl).2/\(fp rd ds vs bl).2.length=bl.length/\(∀v∈(fp rd ds vs bl).1,V.ok n bl.length ρ v)/\cU ρ m (fp rd ds vs bl).1 xs
 |[],vs,bl,xs,hm,hb,hv,hr=>⟨hm,hb,rfl,hv,hr⟩
 |d::r,[],bl,xs,hm,hb,hv,hr=>by
  cases d<;>exact⟨hm,hb,rfl,hv,hr⟩
 |d::r,v::s,bl,xs,hm,hb,hv,hr=>by
  match xs,hr with
  |x::xs,hr=>
  have keep:Mem w0 ρ m (fp rd r s bl).2 w/\bm n (fp rd r s bl).2.length ρ (fp rd r s bl).2/\(fp rd r s bl).2.length=bl.length/\(∀u∈(v::(fp rd r s bl).1),V.ok n bl.length ρ u)/\cU ρ m (v::(fp rd r s bl).1) (x::xs):=by
   obtain⟨g1,g2,g3,g4,g5⟩:=Cz (rd:=rd) (ds:=r) (vs:=s) hm hb (λu hu=>hv u (List.mem_cons_of_mem _ hu)) hr.2
   exact⟨g1,g2,g3,λu hu=>by
    rcases List.mem_cons.1 hu with rfl|hu
    ·exact hv u (by simp)
    ·exact g4 u hu,hr.1,g5⟩
  cases d with
  |d y=>exact keep
  |gI sh e=>exact keep
  |rd sh=>
   unfold fp
   split
   ·rename_i b _
    split
    ·rename_i mR hz
     obtain⟨q1,q2,q3,q4⟩:=TS hz hm hb
     obtain⟨g1,g2,g3,g4,g5⟩:=Cz (rd:=rd) (ds:=r) (vs:=s) q1 q2 (λu hu=>by rw[q3];exact hv u (List.mem_cons_of_mem _ hu)) hr.2
     refine⟨g1,g2,by rw[g3,q3],λu hu=>?_,?_,g5⟩
     ·rcases List.mem_cons.1 hu with rfl|hu
      ·refine⟨q4,⟨I.br _ _,I.br _ _,I.br _ _,I.br _ _⟩,?_⟩
       simp only[I.ay]
       exact⟨⟨by omega,by omega,by omega,by omega⟩,⟨by omega,by omega⟩,λh=>by omega,λ_=>by omega⟩
      ·rw[<-q3];exact g4 u hu
     ·have h0:x= .slice (some ⟨m b,0,none⟩) 0 0:=hr.1
      rw[h0]
      simp[Ja,V.rel,W.den,A.den,I.ay]
    ·exact keep
   ·exact keep
theorem we {n nb:Nat} {ρ:Env} {m:Nat->Nat} {w:World}:∀{bs:List Nat} {bl:List af},Mem w0 ρ m bl w->bm n nb ρ bl->Mem w0 ρ m (n3 bs bl) w/\bm n nb ρ (n3 bs bl)/\(n3 bs bl).length=bl.length/\
 ∀(i:Nat) (p:af),(n3 bs bl)[i]?=some p->∃bo,bl[i]?=some bo/\aE ρ p.1<=aE ρ bo.1/\(i∈bs->bj bo.1=false->aE ρ p.1<=1)
 |[],bl,h,hb=>⟨h,hb,rfl,λi p hi=>⟨p,hi,Nat.le_refl _,λh=>by simp at h⟩⟩
 |b::r,bl,h,hb=>by
  unfold n3
  split
  ·rename_i sh off code cap k t hbl
   have hS:b<bl.length:=(List.getElem?_eq_some_iff.1 hbl).1
   have hb':bm n nb ρ (bP bl b ([.rows sh off code cap 1],t)):=λp hp a ha=>by
    rw[fW]at hp
    rcases List.mem_or_eq_of_mem_set hp with hp|hp
    ·exact hb p hp a ha
    ·subst hp
     simp at ha;subst ha
     have h0:A.ok n nb ρ (.rows sh off code cap (k+1)):=hb _ (List.mem_of_getElem? hbl) _ (by simp)
     exact h0
   obtain⟨g1,g2,g3,g4⟩:=we (bs:=r) (h.low hbl) hb'
   refine⟨g1,g2,by rw[g3,eS],λi p hp=>?_⟩
   obtain⟨bo,h1,h2,h3⟩:=g4 i p hp
   by_cases eb:i=b
   ·subst eb
    rw[fW,List.getElem?_set_self hS]at h1
    cases h1
    refine⟨_,hbl,Nat.le_trans h2 (by simp only[aE];split<;>omega),λ_ _=>Nat.le_trans h2 (by simp only[aE];split<;>omega)⟩
   ·rw[fW,List.getElem?_set_ne (λe=>eb e.symm)]at h1
    exact⟨bo,h1,h2,λhi ho=>h3 (by simpa [eb]using hi) ho⟩
  ·rename_i eP
   obtain⟨g1,g2,g3,g4⟩:=we (bs:=r) h hb
   refine⟨g1,g2,g3,λi p hp=>?_⟩
   obtain⟨bo,h1,h2,h3⟩:=g4 i p hp
   refine⟨bo,h1,h2,λhi ho=>?_⟩
   rcases List.mem_cons.1 hi with rfl|hi
   ·obtain⟨C,t⟩:=bo
    obtain⟨sh,off,code,cap,k,rfl⟩:=Hq ho
    cases k with
    |zero=>
     have:aE ρ [A.rows sh off code cap 0]=0:=by simp[aE]
     simp only[this]at h2;omega
    |succ k=>exact absurd h1 (eP _ _ _ _ _ _)
   ·exact h3 hi ho
theorem RG {n nb:Nat} {ρ:Env} {m:Nat->Nat} {us:List W} {vals:List Value} (h:∀u∈us,W.ok n nb ρ u) (hm:us.map (W.den ρ m)=vals):(sz us).ok n nb ρ/\(sz us).rel ρ m (mE vals):=by
 subst hm
 unfold sz mE
 split
 ·exact⟨h _ (by simp),rfl⟩
 ·rename_i hne
  refine⟨h,?_⟩
  split
  ·rename_i x hx
   match us,hne,hx with
   |[u],hne,_=>exact absurd rfl (hne u)
  ·rfl
theorem He:∀{vs:List V},kQ vs=true->vs.flatMap jE=[]
 |[],_=>rfl
 |v::r,h=>by
  unfold kQ at h
  split at h
  ·rename_i heq;cases heq
  ·cases h
  ·rename_i hne heq
   cases heq
   rw[List.flatMap_cons,He h,List.append_nil]
   unfold jE
   split
   ·exact(hne _ _ _ _ rfl).elim
   ·rfl
theorem Hf:∀{vs:List V} {b:Nat},kQ vs=true->b∈vs.flatMap gN->∃ax o ro len cap,V.w (.one (.sl b ax o ro len cap))∈vs
 |[],b,_,h=>by simp at h
 |v::r,b,h,hb=>by
  simp only[List.flatMap_cons,List.mem_append]at hb
  rcases hb with hb|hb
  ·unfold gN at hb
   split at hb
   ·simp at hb;subst hb;exact⟨_,_,_,_,_,List.mem_cons_self ..⟩
   ·simp[kQ]at h
   ·simp at hb
  ·have h':kQ r=true:=by
    unfold kQ at h
    split at h
    ·rename_i heq;cases heq
    ·cases h
    ·rename_i heq;cases heq;exact h
   obtain⟨ax,o,ro,len,cap,h1⟩:=Hf h' hb
   exact⟨ax,o,ro,len,cap,List.mem_cons_of_mem _ h1⟩
theorem cB.Jj {c:cB} {spec:List Int->List Int->Prop} {f:FuncId} {Ds:Array Value} (fj:∀zs rs,spec zs rs->S c.id zs rs) (n:Nat) (vs:List V) (bl:List af) (k:RK) (G:bZ) (ρ:Env) (m:Nat->Nat) (w:World) (xs:List Value) (c0:Ending->World->Prop)
 (hc:∀zs,bb (cw c.args) zs->xv c.pre zs->ft (oQ w0 ρ m bl (vs.flatMap gN) (vs.flatMap jE)) (λ_=>False) w c.args zs xs->
   Calls P f Ds w λe w'=>w.Extends w'/\∃rs us,bb (cw c.res) rs/\spec zs rs/\ft (λg=>oQ w0 ρ m bl (vs.flatMap gN) (vs.flatMap jE) g∨w.heap.size<=g) (λg=>w.heap.size<=g) w' c.res rs us/\e= .returned (mE us))
 (hb:bm n bl.length ρ bl) (hw:Mem w0 ρ m bl w) (hv:∀v∈vs,V.ok n bl.length ρ v) (hr:cU ρ m vs xs) (ad:(c.sR n vs bl k).holds S L G ρ) (hk:qN S L w0 k n bl.length ρ m G c0):
 Calls P f Ds w c0:=by
 unfold cB.sR at ad
 obtain⟨ak,n1,ls,cv,bG,⟨g1,g2,g3⟩,ad⟩:=Lj (S:=S) (L:=L) hb hw hv hr G _ ad
 cases hq:(lX c.res&&(!(c.res.any bh.iA)||kQ vs))with
 |false=>rw[hq]at ad;exact ad.elim
 |true=>
  rw[hq]at ad
  simp only[cond_true]at ad
  obtain⟨hV,ad⟩:=preM_holds ad
  simp only[T.holds]at ad
  simp only[Bool.and_eq_true,Bool.or_eq_true,Bool.not_eq_true']at hq
  refine(hc _ g2 hV (g3 _ λ_ h=>h)).mono ?_
  rintro e w' ⟨he,rs,us,r1,r2,dK,rfl⟩
  have ad:=mP ad r1 (fj _ _ r2)
  have fP:=hb.ext bG cv (Nat.le_refl bl.length)
  have N8:=(hw.grow he).cK hb bG
  have bN:agree n1 ak (bk ak n1 rs):=agree.bk rs n1 ak
  have ln:=fP.ext bN (Nat.le_add_right n1 (cw c.res).length) (Nat.le_refl bl.length)
  have Ge:=N8.cK fP bN
  have hA:At (bk ak n1 rs) n1 rs:=At.bk ak n1 rs
  have FZ:rs.length=(cw c.res).length:=gD r1
  have l8:=bG.trans bN cv
  have LH:bK n bl.length ρ m (n1+(cw c.res).length) bl.length (bk ak n1 rs) m:=⟨by omega,l8,Nat.le_refl _,λ_ _=>rfl⟩
  have ec:∀(i:Nat) (p:af),bl[i]?=some p->aE (bk ak n1 rs) p.1=aE ρ p.1:=λi p hi=>hY (hb p (List.mem_of_getElem? hi)) l8
  have zK:∀(i:Nat) (p:af),bl[i]?=some p->w.heap.size<=m i->aE ρ p.1=0:=λi p hi dI=>by
   by_cases h0:aE ρ p.1=0
   ·exact h0
   ·have:=hw.lt hi h0;omega
  have fin:∀az:List af,bm (n1+(cw c.res).length) az.length (bk ak n1 rs) az->Mem w0 (bk ak n1 rs) m az w'->az.length=bl.length->
   (∀(i:Nat) (p:af),az[i]?=some p->(oQ w0 ρ m bl (vs.flatMap gN) (vs.flatMap jE) (m i)∨w.heap.size<=m i)->(c.res.any bh.iA)=true->aE (bk ak n1 rs) p.1<=1)->
   (∀(i:Nat) (p:af),az[i]?=some p->w.heap.size<=m i->aE (bk ak n1 rs) p.1=0)->(∀g,w.heap.size<=g->k0 w0 (bk ak n1 rs) m az w' g)->
   (nQ c.res n1 (n1+(cw c.res).length) [] az λcA us ir=>k cA (sz us) ir).holds S L G (bk ak n1 rs)->c0 (.returned (mE us)) w':=λaz hb' lD hlen ck Mf e0 ad=>by
   have hF:∀g,(oQ w0 ρ m bl (vs.flatMap gN) (vs.flatMap jE) g∨w.heap.size<=g)->w0.ex g∨w0.ro g∨w0.r.heap.size<=g:=λg hg=>by
    rcases hg with(hg|hg)|hg
    ·exact hg.2
    ·exact hg.1
    ·exact .inr (.inr (Nat.le_trans hw.eG hg))
   have hN:∀g,w.heap.size<=g->w0.b.heap.size<=g/\w0.r.heap.size<=g:=λg hg=>⟨Nat.le_trans hw.ext.size hg,Nat.le_trans hw.eG hg⟩
   have h1:(c.res.all λb=> !b.iA)=true∨∀(i:Nat) (p:af),az[i]?=some p->(oQ w0 ρ m bl (vs.flatMap gN) (vs.flatMap jE) (m i)∨w.heap.size<=m i)->aE (bk ak n1 rs) p.1<=1:=by
    cases ng:c.res.any bh.iA with
    |true=>exact .inr λi p hi hf=>ck i p hi hf ng
    |false=>
     left
     rw[List.all_eq_true]
     intro b hb
     cases en:b.iA with
     |false=>rfl
     |true=>rw[List.any_eq_true.2 ⟨b,hb,en⟩]at ng;cases ng
   obtain⟨n',aa,m',gZ,ir,p1,bc,bx,dw,dO,e8⟩:=vv (S:=S) (L:=L) hF hN (l:=c.res) (us:=[]) (vals:=us) hq.1 hb' lD hA r1 (Nat.le_refl _) dK h1 (.inr Mf) (.inr e0) (λu hu=>by simp at hu) ad
   have ja:=RG (m:=m') dO (by simpa using dw)
   exact hk n' (sz gZ) ir G aa m' w' (mE us) (LH.trans (hlen▸p1)) (cl.refl _ _) ja.1 ja.2 bc bx e8
  cases ng:c.res.any bh.iA with
  |false=>
   rw[ng]at ad
   exact fin bl ln Ge rfl (λ_ _ _ _ h=>by rw[ng]at h;cases h) (λi p hi dI=>by rw[ec i p hi];exact zK i p hi dI) (λg hg=>(hw.qQ he hg).cK hb l8) ad
  |true=>
   rw[ng]at ad hq
   obtain⟨f1,f2,f3,f4⟩:=we (bs:=vs.flatMap gN) Ge ln
   have lz:kQ vs=true:=by
    rcases hq.2 with h|h
    ·cases h
    ·exact h
   refine fin _ (by rw[f3];exact f2) f1 f3 (λi p hi hf _=>?_) (λi p hi dI=>?_) (λg hg=>(we (bs:=vs.flatMap gN) (hw.cK hb l8) ln).1.qQ he hg) ad
   ·obtain⟨bo,h1,h2,h3⟩:=f4 i p hi
    rw[ec i bo h1]at h2
    rcases hf with(⟨⟨b,Ff,Mi,q,rU,mf,NH⟩,_⟩|nf)|dI
    rotate_left
    ·rcases Nat.lt_or_ge (aE ρ bo.1) 2 with bt|bt
     ·omega
     ·exact absurd rfl (nf.2 i bo h1 bt)
    rotate_left
    ·obtain⟨ax,o,ro,len,cap,gj⟩:=Hf lz Ff
     rcases hw.inj i b bo q h1 rU (by rw[Mi])with h5|h5|h5|h5
     ·subst h5
      rw[h1]at rU;cases rU
      cases ho:bj bo.1 with
      |false=>exact h3 Ff ho
      |true=>
       have:=NH ho
       rw[He lz]at this
       simp at this
     ·omega
     ·omega
     ·exact absurd h5 mf
    ·have:=zK i bo h1 dI;omega
   ·obtain⟨bo,h1,h2,_⟩:=f4 i p hi
    rw[ec i bo h1]at h2
    have:=zK i bo h1 dI;omega
theorem cB.C1 {c:cB} {spec:List Int->List Int->Prop} (hc:c.Ok P w0.b spec) (fj:∀zs rs,spec zs rs->S c.id zs rs) (n:Nat) (vs:List V) (bl:List af) (k:RK) (G:bZ) (ρ:Env) (m:Nat->Nat) (w:World) (xs:List Value) (c0:Ending->World->Prop)
 (hb:bm n bl.length ρ bl) (hw:Mem w0 ρ m bl w) (hv:∀v∈vs,V.ok n bl.length ρ v) (hr:cU ρ m vs xs) (ad:(c.sR n vs bl k).holds S L G ρ) (hk:qN S L w0 k n bl.length ρ m G c0):
 (callFunc c.f xs.toArray).run P w= .ok (.enter c.f xs.toArray) w/\Calls P c.f xs.toArray w c0:=by
 exact⟨hc.1 _ _,cB.Jj fj n vs bl k G ρ m w xs c0 (λzs h1 h2 h3=>hc.2 _ w xs zs hw.ext h1 h2 h3) hb hw hv hr ad hk⟩
theorem Cm {m:Nat->Nat} {w:World}:∀{ds:List bh} {vs:List V} {bl:List af} {xs:List Value} {n:Nat} {ρ:Env},Mem w0 ρ m bl w->bm n bl.length ρ bl->(∀v∈vs,V.ok n bl.length ρ v)->cU ρ m vs xs->
 ae S L (mD ds vs bl) n ρ λaa n' q=>Mem w0 aa m q.2 w/\bm n' q.2.length aa q.2/\q.2.length=bl.length/\(∀v∈q.1,V.ok n' bl.length aa v)/\cU aa m q.1 xs
 |[],vs,bl,xs,n,ρ,hm,hb,hv,hr=>ae.pure ⟨hm,hb,rfl,hv,hr⟩
 | .d _::_,[],bl,xs,n,ρ,hm,hb,hv,hr=>ae.pure ⟨hm,hb,rfl,hv,hr⟩
 | .rd _::_,[],bl,xs,n,ρ,hm,hb,hv,hr=>ae.pure ⟨hm,hb,rfl,hv,hr⟩
 | .gI _ _::_,[],bl,xs,n,ρ,hm,hb,hv,hr=>ae.pure ⟨hm,hb,rfl,hv,hr⟩
 |d::r,v::s,bl,xs,n,ρ,hm,hb,hv,hr=>by
  match xs,hr with
  |x::xs,hr=>
  have keep:ae S L (bind (mD r s bl) λq=>pure (v::q.1,q.2)) n ρ λaa n' q=>Mem w0 aa m q.2 w/\bm n' q.2.length aa q.2/\q.2.length=bl.length/\(∀v∈q.1,V.ok n' bl.length aa v)/\cU aa m q.1 (x::xs):=
   (Cm (ds:=r) (vs:=s) hm hb (λu hu=>hv u (List.mem_cons_of_mem _ hu)) hr.2).bind λak n1 q hn ha ⟨g1,g2,g3,g4,g5⟩=>ae.pure ⟨g1,g2,g3,λu hu=>by
     rcases List.mem_cons.1 hu with rfl|hu
     ·exact(hv u (by simp)).ext ha hn (Nat.le_refl _)
     ·exact g4 u hu,V.rel.ext hr.1 (hv v (by simp)) ha (λ_ _=>rfl),g5⟩
  cases d with
  |d y=>exact keep
  |gI sh e=>exact keep
  |rd sh=>
   unfold mD
   split
   ·rename_i b len cap _
    split
    ·rename_i C t hbl
     cases hc:(bj C&& !t.2&&Nat.beq len cap&&Nat.beq C.length (len*sh.length)&&fl sh&&Nat.ble len 1000000&&eJ sh&&Nat.blt 0 len)with
     |false=>exact keep
     |true=>
      simp only[cond_true]
      simp only[Bool.and_eq_true]at hc
      obtain⟨⟨⟨⟨⟨⟨⟨ho,c1⟩,bL⟩,av⟩,bg⟩,bw⟩,cG⟩,dT⟩:=hc
      have c1:t.2=false:=by simpa using c1
      have bL:=Nat.eq_of_beq_eq_true bL
      have av:=Nat.eq_of_beq_eq_true av
      have bw:=Nat.le_of_ble_eq_true bw
      subst bL
      have aK:∀x∈C,A.ok n bl.length ρ x:=hb _ (List.mem_of_getElem? hbl)
      have hS:b<bl.length:=(List.getElem?_eq_some_iff.1 hbl).1
      have fB:=pf (w:=sh.length) (k:=len) av
      refine(s0 (nb:=bl.length) (m:=m) bg (rs:=fv sh.length len C) (c:= .const 0) (λrow hr x hx=>aK x (pg row hr x hx)) (I.br _ _) (by rw[I.ay];exact⟨Int.le_refl _,qM⟩) (by rw[lJ];intro _ h;simp at h) (by rw[lJ,fB.1];simp;omega)).bind λak n1 code cv bG ⟨p1,bc,bu,bx,dw,dO,e8⟩=>?_
      rw[lJ,List.nil_append]at bx
      have tS:C.map (A.den ak m)=C.map (A.den ρ m):=jA aK bG (λ_ _=>rfl)
      have gA:=(hm.cK hb bG).xI (n:=n1) (c:=len) (sh:=sh) (code:=code) hbl ho c1 cG (by rw[bx];exact dO) (by rw[bx,e8,fB.2,tS]) av
      have fP:bm n1 (bP bl b ([.rows sh (.const 0) code (.const len) 2],t)).length ak (bP bl b ([.rows sh (.const 0) code (.const len) 2],t)):=(hb.ext bG cv (Nat.le_refl _)).set (λy hy=>by
       have hy:y= .rows sh (.const 0) code (.const len) 2:=by simpa using hy
       subst hy
       exact⟨⟨I.br _ _,p1,I.br _ _⟩,bc,by rw[I.ay];omega⟩)
      have wH:=eS bl b ([.rows sh (.const 0) code (.const len) 2],t)
      refine(Cm (ds:=r) (vs:=s) gA fP (λu hu=>by rw[wH];exact(hv u (List.mem_cons_of_mem _ hu)).ext bG cv (Nat.le_refl _)) (wa.cU.later (λu hu=>hv u (List.mem_cons_of_mem _ hu)) bG hr.2)).bind λaH cA q bX bN ⟨g1,g2,g3,g4,g5⟩=>ae.pure ⟨g1,g2,by rw[g3,wH],λu hu=>?_,?_,g5⟩
      ·rcases List.mem_cons.1 hu with rfl|hu
       ·refine⟨hS,⟨I.br _ _,I.br _ _,I.br _ _,I.br _ _⟩,?_⟩
        simp only[I.ay]
        exact⟨⟨by omega,by omega,by omega,by omega⟩,⟨by omega,by omega⟩,λh=>by omega,λ_=>by omega⟩
       ·rw[<-wH];exact g4 u hu
      ·have h0:x= .slice (some ⟨m b,0,none⟩) len len:=hr.1
       have pN:¬((len:Int)<0):=by omega
       rw[h0]
       simp[V.rel,W.den,A.den,I.ay,pN]
    ·exact keep
   ·exact keep
theorem cB.Jk {c:cB} {spec:List Int->List Int->Prop} (hc:c.Ok P w0.b spec) (fj:∀zs rs,spec zs rs->S c.id zs rs) (n:Nat) (vs:List V) (bl:List af) (k:RK) (G:bZ) (ρ:Env) (m:Nat->Nat) (w:World) (xs:List Value) (c0:Ending->World->Prop)
 (hb:bm n bl.length ρ bl) (hw:Mem w0 ρ m bl w) (hv:∀v∈vs,V.ok n bl.length ρ v) (hr:cU ρ m vs xs) (ad:(c.ya n vs bl k).holds S L G ρ) (hk:qN S L w0 k n bl.length ρ m G c0):
 (callFunc c.f xs.toArray).run P w= .ok (.enter c.f xs.toArray) w/\Calls P c.f xs.toArray w c0:=by
 unfold cB.ya at ad
 cases hq:(c.res.any bh.iA&& !kQ vs)with
 |false=>rw[hq]at ad;exact c.C1 hc fj n _ _ k G ρ m w xs c0 hb hw hv hr ad hk
 |true=>
  rw[hq]at ad
  simp only[cond_true]at ad
  obtain⟨ak,n1,q,hn,ha,⟨g1,g2,g3,g4,g5⟩,ad⟩:=Cm (S:=S) (L:=L) (ds:=c.args) hw hb hv hr G _ ad
  refine c.C1 hc fj n1 _ _ k G ak m w xs c0 g2 g1 (λv hv=>by rw[g3];exact g4 v hv) g5 ad ?_
  rw[g3]
  intro n' v az b8 aa m' w' val h1 h2 h3 h4 h5 h6 h7
  exact hk n' v az b8 aa m' w' val (bK.trans ⟨hn,ha,Nat.le_refl _,λ_ _=>rfl⟩ h1) (λl hl=>h2 l (Nat.lt_of_lt_of_le hl hn)) h3 h4 h5 h6 h7
theorem cB.Jl {c:cB} {spec:List Int->List Int->Prop} (hc:c.Ok P w0.b spec) (fj:∀zs rs,spec zs rs->S c.id zs rs) (n:Nat) (vs:List V) (bl:List af) (k:RK) (G:bZ) (ρ:Env) (m:Nat->Nat) (w:World) (xs:List Value) (c0:Ending->World->Prop)
 (hb:bm n bl.length ρ bl) (hw:Mem w0 ρ m bl w) (hv:∀v∈vs,V.ok n bl.length ρ v) (hr:cU ρ m vs xs) (ad:(c.E n vs bl k).holds S L G ρ) (hk:qN S L w0 k n bl.length ρ m G c0):
 (callFunc c.f xs.toArray).run P w= .ok (.enter c.f xs.toArray) w/\Calls P c.f xs.toArray w c0:=by
 obtain⟨g1,g2,g3,g4,g5⟩:=Cz (rd:=c.res.any bh.iA) (ds:=c.args) hw hb hv hr
 exact c.Jk hc fj n _ _ k G ρ m w xs c0 g2 g1 (λv hv=>by rw[g3];exact g4 v hv) g5 ad (by rw[g3];exact hk)
end
end Go.aZ
namespace Go.aZ
open M
def O.aA (n:Nat):O->Prop
 |l x=>x.aA n
 |b x=>x.aA n
theorem O.aP {n:Nat} {ρ aa:Env} (ha:agree n ρ aa):∀{o:O},o.aA n->o.den aa=o.den ρ
 | .l x,h=>I.aP ha h
 | .b x,h=>by simp only[O.den];rw[aC.aP ha h]
theorem Hs {k:IntKind} {n nb:Nat} {ρ:Env}:∀{l:List A} {os:List O},eC k l=some os->(∀a∈l,A.ok n nb ρ a)->∀o∈os,O.aA n o
 |[],os,h,_=>by simp[eC]at h;subst h;intro x hx;simp at hx
 | .int aD x::s,os,h,aK=>by
  simp only[eC]at h
  cases hc:decide (k=aD)with
  |false=>simp[hc]at h
  |true=>
   cases hr:eC k s with
   |none=>simp[hc,hr]at h
   |some ed=>
    simp only[hc,hr,cond_true,Option.some.injEq]at h
    subst h
    intro y hy
    rcases List.mem_cons.1 hy with hy|hy
    ·rw[hy]
     have h0:A.ok n nb ρ (.int aD x):=aK _ (List.mem_cons_self ..)
     have h0:x.ok n ρ:=h0
     exact h0.1
    ·exact Hs hr (λa ha=>aK a (List.mem_cons_of_mem _ ha)) y hy
 | .bool _::_,_,h,_=>by simp[eC]at h
 | .ptr .. ::_,_,h,_=>by simp[eC]at h
 | .gJ .. ::_,_,h,_=>by simp[eC]at h
 | .gptr .. ::_,_,h,_=>by simp[eC]at h
 | .slc .. ::_,_,h,_=>by simp[eC]at h
 | .con _::_,_,h,_=>by simp[eC]at h
 | .str _::_,_,h,_=>by simp[eC]at h
 | .rows .. ::_,_,h,_=>by simp[eC]at h
 | .sl .. ::_,_,h,_=>by simp[eC]at h
 | .ep .. ::_,_,h,_=>by simp[eC]at h
theorem ag.QN {c:ag} {a:A} {o:O} {n nb:Nat} {ρ:Env} (h:c.out a=some o) (ha:a.ok n nb ρ):o.aA n:=by
 unfold ag.out at h
 split at h
 ·rename_i k _ _ aD x
  cases hk:decide (k=aD)with
  |false=>simp[hk]at h
  |true=>
   simp only[hk,cond_true,Option.some.injEq]at h
   subst h
   have ha:x.ok n ρ:=ha
   exact ha.1
 ·simp only[Option.some.injEq]at h;subst h
  exact ha.1
 ·simp only[Option.some.injEq]at h;subst h
  exact ha
 ·cases h
theorem Hv {n nb:Nat} {ρ:Env}:∀{d:List ag} {l:List A} {os:List O},jB d l=some os->(∀a∈l,A.ok n nb ρ a)->∀o∈os,O.aA n o
 |[],[],os,h,_=>by simp[jB]at h;subst h;intro x hx;simp at hx
 |c::d,a::s,os,h,aK=>by
  simp only[jB]at h
  cases h1:c.out a with
  |none=>simp[h1]at h
  |some o=>
   cases h2:jB d s with
   |none=>simp[h1,h2]at h
   |some uG=>
    simp only[h1,h2,Option.some.injEq]at h
    subst h
    intro y hy
    rcases List.mem_cons.1 hy with hy|hy
    ·rw[hy];exact ag.QN h1 (aK a (List.mem_cons_self ..))
    ·exact Hv h2 (λb hb=>aK b (List.mem_cons_of_mem _ hb)) y hy
 |[],_::_,_,h,_=>by simp[jB]at h
 |_::_,[],_,h,_=>by simp[jB]at h
theorem QM {d:D} {u:W} {os:List O} {n nb:Nat} {ρ:Env} (h:ny d u=some os) (hu:u.ok n nb ρ):∀o∈os,O.aA n o:=by
 unfold ny at h
 split at h
 ·rename_i k _ _ aD x
  cases hk:decide (k=aD)with
  |false=>simp[hk]at h
  |true=>
   simp only[hk,cond_true,Option.some.injEq]at h
   subst h
   have hu:x.ok n ρ:=hu
   intro o ho;simp at ho;subst ho;exact hu.1
 ·simp only[Option.some.injEq]at h;subst h
  intro o ho;simp at ho;subst ho;exact hu
 ·rename_i k n' _ _ l
  cases hk:Nat.beq l.length n' with
  |false=>simp[hk]at h
  |true=>
   simp only[hk,cond_true]at h
   exact Hs h hu
 ·simp only[Option.some.injEq]at h;subst h
  intro o ho;simp at ho;subst ho;exact hu.1
 ·exact Hv h hu
 ·cases h
noncomputable def sx (bl:List af):bh->W->M (List O)
 | .d x,u=>match ny x u with|some os=>pure os|none=>fail
 | .rd sh,u=>bind (uL true sh bl (.w u)) λl=>pure [.l l]
 | .gI sh e,u=>bind (Br sh e bl (.w u)) λl=>pure [.l l]
noncomputable def xB (bl:List af):List bh->List W->M (List O)
 |[],[]=>pure []
 |b::r,u::s=>bind (sx bl b u) λa=>bind (xB bl r s) λc=>pure (a++c)
 |_,_=>fail
noncomputable def BF (bl:List af) (ds:List bh) (v:V):M (List O):=
 match v with
 | .w u=>match ds with|[d]=>sx bl d u|_=>fail
 | .c7 l=>match ds with|[_]=>fail|_=>xB bl ds l
 |_=>fail
def O.toW:O->W
 |l x=> .one (.int .u8 ⟨x,0,0⟩)
 |b x=> .one (.bool x)
def W.toO:W->O
 | .one (.int _ x)=> .l x.l
 | .one (.bool e)=> .b e
 |_=> .l (.const 0)
theorem O.toW_toO (o:O):o.toW.toO=o:=by cases o<;>rfl
def xq (os:List O):V:= .c7 (os.map O.toW)
def oW (K:List Int->Prop) (v:V) (ρ:Env):Prop:=
 match v with
 | .c7 l=>K (l.map λu=>u.toO.den ρ)
 |_=>False
theorem Js {K:List Int->Prop} {os:List O} {ρ:Env}:oW K (xq os) ρ=K (os.map (O.den ρ)):=by
 unfold oW xq
 simp only[List.map_map]
 congr 1
 exact List.map_congr_left λo _=>by simp[Function.comp,O.toW_toO]
section
variable {S:Nat->List Int->List Int->Prop} {L:V->Env->Prop} {w0:b5} {P:Program} {w:World}
theorem oZ.mono {N sU:Nat->Prop} {sh:List ag} {e:TypeId} {rows:List (List Int)} {v:Value} (h:oZ N w sh e rows v) (hN:∀g,N g->sU g):oZ sU w sh e rows v:=by
 rcases h with h|⟨g,cap,cells,h1,h2,h3,h4⟩
 ·exact .inl h
 ·exact .inr ⟨g,cap,cells,h1,h2,hN g h3,h4⟩
def F0 (w0:b5) (g:Nat):Prop:=w0.ex g∨w0.ro g∨w0.r.heap.size<=g
theorem HT {d:bh} {u:W} {n:Nat} {ρ:Env} {m:Nat->Nat} {bl:List af} (hex:∀g,¬w0.ex g) (hb:bm n bl.length ρ bl) (hw:Mem w0 ρ m bl w) (hu:u.ok n bl.length ρ):
 ae S L (sx bl d u) n ρ λaa n' os=>(∀o∈os,O.aA n' o)/\os.length=d.num/\(d.fT=false->bb d.bds (os.map (O.den aa)))/\∀zs,d.at (F0 w0) (λg=>w0.r.heap.size<=g) w (os.map (O.den aa)++zs) (u.den ρ m):=by
 cases d with
 |d x=>
  unfold sx
  cases ho:ny x u with
  |none=>simp only[ho];exact ae.fail
  |some os=>
   simp only[ho]
   have:=Bq (ρ:=ρ) (m:=m) ho
   exact ae.pure ⟨QM ho hu,this.1,λh=>(by simp[bh.fT]at h),λzs=>(this.2 zs).symm⟩
 |rd sh=>
  unfold sx
  refine(Ru (v:= .w u) hb hw hu rfl).bind λak n1 l hn ha ⟨g1,g2,g3⟩=>ae.pure ⟨λo ho=>by simp at ho;subst ho;exact g1,rfl,λ_=>⟨g2.1,g2.2,trivial⟩,λzs=>?_⟩
  exact g3.mono λg hg=>hg.elim (λh=>h.2) λh=>h.1
 |gI sh e=>
  unfold sx
  refine(QP (v:= .w u) hex hb hw hu rfl).bind λak n1 l hn ha ⟨g1,g2,g3⟩=>ae.pure ⟨λo ho=>by simp at ho;subst ho;exact g1,rfl,λ_=>⟨g2.1,g2.2,trivial⟩,λzs=>g3⟩
theorem PR {n:Nat} {ρ aa:Env} {os:List O} (h:∀x∈os,O.aA n x) (ha:agree n ρ aa):os.map (O.den aa)=os.map (O.den ρ):=List.map_congr_left λx hx=>O.aP ha (h x hx)
theorem HU {m:Nat->Nat} {bl:List af} (hex:∀g,¬w0.ex g):∀{ds:List bh} {us:List W} {n:Nat} {ρ:Env},bm n bl.length ρ bl->Mem w0 ρ m bl w->(∀u∈us,W.ok n bl.length ρ u)->
 ae S L (xB bl ds us) n ρ λaa n' os=>(∀o∈os,O.aA n' o)/\ft (F0 w0) (λg=>w0.r.heap.size<=g) w ds (os.map (O.den aa)) (us.map (W.den ρ m))
 |[],[],n,ρ,_,_,_=>ae.pure ⟨λ_ h=>by simp at h,trivial⟩
 |b::r,u::s,n,ρ,hb,hw,hu=>by
  unfold xB
  refine(HT hex hb hw (hu u (by simp))).bind λak n1 a hn ha ⟨g1,g2,_,g3⟩=>?_
  refine(HU (ds:=r) (us:=s) hex (hb.ext ha hn (Nat.le_refl _)) (hw.cK hb ha) (λx hx=>(hu x (List.mem_cons_of_mem _ hx)).ext ha hn (Nat.le_refl _))).bind λaH cA c bX bN ⟨k1,k2⟩=>ae.pure ⟨λo ho=>?_,?_⟩
  ·rcases List.mem_append.1 ho with ho|ho
   ·have:=g1 o ho
    cases o with
    |l x=>exact I.aA.mono this bX
    |b x=>exact aC.aA.mono bX this
   ·exact k1 o ho
  ·rw[List.map_append,PR g1 bN]
   refine⟨g3 _,?_⟩
   rw[<-g2,<-List.length_map (f:=O.den ak) (as:=a),List.drop_left]
   have e:s.map (W.den ρ m)=s.map (W.den ak m):=List.map_congr_left λx hx=>(W.fL (hu x (List.mem_cons_of_mem _ hx)) ha (λ_ _=>rfl)).symm
   rw[e];exact k2
 |[],_::_,_,_,_,_,_=>ae.fail
 |_::_,[],_,_,_,_,_=>ae.fail
theorem RE {ds:List bh} {v:V} {val:Value} {n:Nat} {ρ:Env} {m:Nat->Nat} {bl:List af} (hex:∀g,¬w0.ex g) (hb:bm n bl.length ρ bl) (hw:Mem w0 ρ m bl w) (hv:v.ok n bl.length ρ) (hr:v.rel ρ m val):
 ae S L (BF bl ds v) n ρ λaa n' os=>∃us,val=mE us/\ft (F0 w0) (λg=>w0.r.heap.size<=g) w ds (os.map (O.den aa)) us:=by
 unfold BF
 split
 ·rename_i u
  split
  ·rename_i d
   refine(HT hex hb hw hv).mono λak n1 os hn ha ⟨g1,g2,_,g3⟩=>⟨[u.den ρ m],hr,?_,trivial⟩
   have:=g3 []
   rwa [List.append_nil]at this
  ·exact ae.fail
 ·rename_i l
  split
  ·exact ae.fail
  ·rename_i hne
   refine(HU (ds:=ds) hex hb hw hv).mono λak n1 os hn ha ⟨g1,g2⟩=>⟨l.map (W.den ρ m),?_,g2⟩
   have hr:val= .tuple (l.map (W.den ρ m)).toArray:=hr
   rw[hr]
   unfold mE
   split
   ·rename_i x hx
    exfalso
    have hl:l.length=1:=by have:=congrArg List.length hx;simpa using this
    match ds,l,hl,g2,hne with
    |[d],[u],_,_,hne=>exact hne d rfl
    |[],[u],_,g2,_=>simp[ft]at g2
    |_::_::_,[u],_,g2,_=>simp[ft]at g2
   ·rfl
 ·exact ae.fail
def A8 (i:Nat):I:=⟨0,[(1,i)]⟩
theorem PO (ρ:Env) (zs:List Int):((List.range zs.length).map A8).map (·.den (bk ρ 0 zs))=zs:=by
 refine GR (by simp) λj hj=>?_
 have hj:j<zs.length:=by simpa using hj
 have:=At.bk ρ 0 zs j hj
 rw[Nat.zero_add]at this
 simp[A8,I.den,dF,List.getD,hj]at this⊢
 exact this
noncomputable def cB.tree (eY:lS) (P:Program) (gl:cF) (aL:dp) (li:FuncId->Nat->Option dh) (rounds d:Nat) (c:cB):T:=
 cond (lX c.args&& !(c.args.any bh.lG)) (HF c.pre ((List.range (cw c.args).length).map A8) (nQ c.args 0 (cw c.args).length [] [] λn us bl=>yM eY P gl aL li rounds d c.f n (us.map V.w) bl λn' v az=>BF az c.res v n' λos _=> .leaf (xq os))) .stuck
theorem C8 {ρ:Env} {m:Nat->Nat}:∀{us:List W} {xs:List Value},us.map (W.den ρ m)=xs->cU ρ m (us.map V.w) xs
 |[],[],_=>trivial
 |u::us,x::xs,h=>by
  simp only[List.map_cons,List.cons.injEq]at h
  exact⟨h.1.symm,C8 h.2⟩
 |[],_::_,h=>by simp at h
 |_::_,[],h=>by simp at h
noncomputable def jO:List cB->lS
 |[],_=>none
 |c::r,f=>cond (Nat.beq c.f f) (some c.E) (jO r f)
theorem ld {wb:World} {r:World} {ex ro:Nat->Prop}:∀{l:List cB},(∀c∈l,c.Ok P wb (S c.id))->qG S L ⟨wb,r,ex,ro,[]⟩ P (jO l)
 |[],_=>λf g h=>by cases h
 |c::l,h=>λf g hf=>by
  unfold jO at hf
  cases hb:Nat.beq c.f f with
  |true=>
   rw[hb]at hf
   simp only[cond_true,Option.some.injEq]at hf
   have:=Nat.eq_of_beq_eq_true hb
   subst this;subst hf
   intro n vs bl k G ρ m w xs c0 h1 h2 h3 h4 h5 h6
   exact cB.Jl (w0:=⟨wb,r,ex,ro,[]⟩) (h c (by simp)) (λ_ _ h=>h) n vs bl k G ρ m w xs c0 h1 h2 h3 h4 h5 h6
  |false=>
   rw[hb]at hf
   exact ld (λc hc=>h c (List.mem_cons_of_mem _ hc)) f g hf
theorem cB.P7 {wb:World} {gl:cF} {c:cB} {eY:lS} {aL:dp} {li:FuncId->Nat->Option dh} {rounds d:Nat} {spec:List Int->List Int->Prop} (hm:P.follows .mixedOrders=true) (bV:∀r ex ro,fr S P gl ⟨wb,r,ex,ro,[]⟩ aL) (hg:ey gl ⟨wb,wb,λ_=>False,λ_=>False,[]⟩)
 (kE:∀(L:V->Env->Prop) (r:World) (ro:Nat->Prop),qG S L ⟨wb,r,λ_=>False,ro,[]⟩ P eY) (hf:∀args w,(callFunc c.f args).run P w= .ok (.enter c.f args) w)
 (ht:lW (cw c.args) λzs=>(c.tree eY P gl aL li rounds d).holds S (oW λrs=>bb (cw c.res) rs/\spec zs rs) (λ_ _=>False) (bk (λ_=>0) 0 zs)):c.Ok P wb spec:=by
 refine⟨hf,λF w vs zs hw hz NG hat=>?_⟩
 have ad:=mP ht hz
 have jd:=gD hz
 unfold cB.tree at ad
 cases hq:(lX c.args&& !(c.args.any bh.lG))with
 |false=>rw[hq]at ad;exact ad.elim
 |true=>
  rw[hq]at ad
  simp only[cond_true]at ad
  have ad:=preA_holds ad (by rw[<-jd,PO];exact NG)
  simp only[Bool.and_eq_true,Bool.not_eq_true']at hq
  have gj:Mem ⟨wb,w,λ_=>False,F,[]⟩ (bk (λ_=>0) 0 zs) (λ_=>0) [] w:=⟨hw,rfl,rfl,rfl,Nat.le_refl _,λ_ _ _=>rfl,λi cs t h=>by simp at h,λi sh off code cap kind t h=>by simp at h,λi j p q h=>by simp at h⟩
  have hall:(c.args.all λb=> !b.lG)=true:=by
   rw[List.all_eq_true]
   intro b hb
   cases en:b.lG with
   |false=>rfl
   |true=>rw[List.any_eq_true.2 ⟨b,hb,en⟩]at hq;cases hq.2
  obtain⟨n',aa,m',us,bl,p1,bc,bx,dw,dO,e8⟩:=vv (S:=S) (L:=_) (w0:=⟨wb,w,λ_=>False,F,[]⟩) (F:=F) (N:=λ_=>False) (λg hg=> .inr (.inl hg)) (λg hg=>hg.elim) (l:=c.args) (s:=0) (us:=[]) (bl:=[]) (m:=λ_=>0) hq.1 (λp hp=>by simp at hp) gj (At.bk _ 0 zs) hz (by omega) hat (.inr λi p h=>by simp at h) (.inl hall) (.inl hall) (λu hu=>by simp at hu) ad
  have MR:ey gl ⟨wb,w,λ_=>False,F,[]⟩:=hg
  refine(DN (S:=S) (w0:=⟨wb,w,λ_=>False,F,[]⟩) rfl hm (bV w (λ_=>False) F) MR (kE _ _ _) d c.f n' (us.map V.w) bl _ _ aa m' w vs _ bc bx (λv hv=>by
   obtain⟨u,hu,rfl⟩:=List.mem_map.1 hv
   exact dO u hu) (C8 (by simpa using dw)) e8 ?_).2
  intro cA v az b8 aH c4 w' val h1 h2 h3 h4 h5 h6 h7
  obtain⟨dg,jg,os,rR,kC,⟨xs,ni,hx2⟩,hl⟩:=RE (S:=S) (w0:=⟨wb,w,λ_=>False,F,[]⟩) (λg hg=>hg) h5 h6 h3 h4 b8 _ h7
  have hl:oW _ (xq os) dg:=hl
  rw[Js]at hl
  refine⟨?_,os.map (O.den dg),xs,hl.1,hl.2,?_,by rw[ni]⟩
  ·have jY:∀i:Nat,i<w.heap.size->w'.heap[i]?=w.heap[i]?:=λi hi=>h6.iS i hi λh=>h
   exact⟨h6.fD,h6.jb,h6.iY,h6.eG,λa ha=>by simp only[World.cell?,jY a.block ha],λa ha=>by simp only[World.frozen?,jY a.block ha],jY⟩
  ·exact vy (λg hg=>by
    rcases hg with hg|hg|hg
    ·exact hg.elim
    ·exact .inl hg
    ·exact .inr hg) (λg hg=>hg) hx2
where
 vy {F F' N sU:Nat->Prop} {w:World} (hF:∀g,F g->F' g) (hN:∀g,N g->sU g):∀{ds:List bh} {zs:List Int} {vs:List Value},ft F N w ds zs vs->ft F' sU w ds zs vs
 |[],_,[],_=>trivial
 | .d x::r,zs,v::vs,h=>⟨h.1,vy hF hN h.2⟩
 | .rd sh::r,zs,v::vs,h=>⟨dR.mono h.1 hF,vy hF hN h.2⟩
 | .gI sh e::r,zs,v::vs,h=>⟨oZ.mono h.1 hN,vy hF hN h.2⟩
 |[],_,_::_,h=>h.elim
 |_::_,_,[],h=>by simp[ft]at h
end
def bh.xj:bh->List Nat
 | .d x=>x.xj
 |_=>[1]
def qk (ds:List bh):List Nat:=ds.flatMap bh.xj
def yh (ds:List bh) (K:List (List Int)->Prop) (v:V) (st:dE) (aq:dD):Prop:=
 match v with
 | .c7 l=>K ((dQ (qk ds) (l.map W.toO)).map (sD st aq))
 |_=>False
theorem Jr {ds:List bh} {K:List (List Int)->Prop} (v:V) (ρ:Env) (st:dE) (aq:dD) (ht:hO ρ st aq) (h:yh ds K v st aq):oW (λrs=>K (dQ (qk ds) rs)) v ρ:=by
 unfold yh at h
 unfold oW
 split at h
 ·rename_i l
  have e:l.map (λu=>u.toO.den ρ)=(l.map W.toO).map (O.den ρ):=by simp
  simp only[e]
  rw[xS]
  rwa [show(dQ (qk ds) (l.map W.toO)).map (sD st aq)=(dQ (qk ds) (l.map W.toO)).map (List.map (O.den ρ)) from List.map_congr_left λo _=>Ik ht o]at h
 ·exact h.elim
def jL (sh:Nat->List Nat×List Nat) (cJ:Nat->List Nat) (S:Nat->List (List Int)->List (List Int)->Prop) (K:List (List Int)->List (List Int)->Prop) (lens:List Nat) (bds:List (Int×Int)) (ds:List bh) (t:T):Prop:=
 nO lens 0 bds (λst aq zs=>t.gk sh cJ S (yh ds (K zs)) (λ_ _=>False) st aq) [] []
theorem JI {sh:Nat->List Nat×List Nat} {cJ:Nat->List Nat} {S:Nat->List (List Int)->List (List Int)->Prop} {K:List (List Int)->List (List Int)->Prop} {lens:List Nat} {bds:List (Int×Int)} {ds:List bh} {t:T}
 (h:jL sh cJ S K lens bds ds t):lW bds λzs=>t.holds (dc sh S) (oW λrs=>K (dQ lens zs) (dQ (qk ds) rs)) (λ_ _=>False) (bk (λ_=>0) 0 zs):=by
 refine o4 λzs hi=>?_
 obtain⟨st,aq,h1,h2⟩:=qP h (show hO (λ_=>0) [] [] from⟨trivial,λ_=>rfl⟩) hi
 exact gC (λv ρ st aq ht hl=>Jr v ρ st aq ht hl) t _ _ _ st aq (λ_ _ hf=>hf.elim) h1 h2
end Go.aZ
namespace Go.aZ
open M
structure kp where
 c:cj
 pre:Nat
def kp.Ok (P:Program) (wb:World) (q:kp) (spec:List Int->List Int->Prop):Prop:=
 ∀zs,bb (cN q.c.args) zs->aG q.pre zs->∃rs,bb (cN q.c.res) rs/\spec zs rs/\∀w,wb.Extends w->qJ P q.c.f (hh q.c.args zs).toArray w (fE q.c.res rs)
noncomputable def kp.M (q:kp):List af->List V->M V:=λ_ vs n k=>
 match jT q.c.args vs with
 |some l=> .lZ q.pre l (.call q.c.id l n (cN q.c.res) (k (sy q.c.res n) (n+(cN q.c.res).length)))
 |none=> .stuck
noncomputable def eZ (xx:List kp) (cons:List cj):dp:=λf=>
 match xx.filter (λq=>Nat.beq f q.c.f)with
 |[]=>vF cons f
 |l=>some λbl vs n k=>match l.find? (λq=>(jT q.c.args vs).isSome)with
  |some q=>q.M bl vs n k
  |none=>match vF cons f with
   |some g=>g bl vs n k
   |none=> .stuck
section
variable {S:Nat->List Int->List Int->Prop} {P:Program} {gl:cF} {w0:b5}
theorem kp.snd {q:kp} {spec:List Int->List Int->Prop} (hc:q.Ok P w0.b spec) (fj:∀zs rs,spec zs rs->S q.c.id zs rs) (L:V->Env->Prop) (n:Nat) (ρ:Env) (m:Nat->Nat) (bl:List af) (vs:List V) (xs:List Value)
 (dJ:∀v∈vs,V.ok n bl.length ρ v) (hr:cU ρ m vs xs):ae S L (q.M bl vs) n ρ λaa n' v=>v.ok n' bl.length aa/\∃val,v.rel aa m val/\∀w,Mem w0 ρ m bl w->qJ P q.c.f xs.toArray w val:=by
 intro G k hk
 unfold kp.M at hk
 cases hl:jT q.c.args vs with
 |none=>simp[hl,T.holds]at hk
 |some l=>
  simp only[hl]at hk
  obtain⟨eO,hk⟩:=hk
  obtain⟨h1,h2⟩:=zd hl dJ hr
  obtain⟨rs,r1,r2,dK⟩:=hc _ h1 eO
  have ad:=yN hk r1 (fj _ _ r2)
  have hlen:=gD r1
  have ja:=BG (m:=m) (nb:=bl.length) (N:=n+(cN q.c.res).length) r1 (At.bk ρ n rs) (Nat.le_refl _)
  refine⟨_,_,_,Nat.le_add_right _ _,agree.bk rs n ρ,⟨ja.1,_,ja.2,λw hw=>?_⟩,ad⟩
  rw[h2]at dK
  exact dK w hw.ext
theorem fu {xx:List kp} {cons:List cj} (hq:∀q∈xx,q.Ok P w0.b (S q.c.id)) (hc:∀c∈cons,c.nL P w0.b (S c.id)):fr S P gl w0 (eZ xx cons):=by
 intro f g lv L n ρ m bl vs xs h1 h2 h3 h4
 unfold eZ at lv
 split at lv
 ·exact DM (gl:=gl) hc f g lv L n ρ m bl vs xs h1 h2 h3 h4
 ·rename_i l hl
  simp only[Option.some.injEq]at lv
  subst lv
  intro G k hk
  simp only at hk
  split at hk
  ·rename_i q l9
   have bU:=List.mem_filter.1 (List.mem_of_find?_eq_some l9)
   have tJ:=Nat.eq_of_beq_eq_true bU.2
   subst tJ
   exact kp.snd (hq q bU.1) (λ_ _ h=>h) L n ρ m bl vs xs h3 h4 G k hk
  ·split at hk
   ·rename_i a6 gh
    exact DM (gl:=gl) hc f a6 gh L n ρ m bl vs xs h1 h2 h3 h4 G k hk
   ·exact hk.elim
def idx (c:Int):List UInt8->Int
 |[]=>-1
 |b::r=>if(b.toNat:Int)=c then 0 else if idx c r<0 then-1 else idx c r+1
theorem um (c:Int):∀l:List UInt8,-1<=idx c l/\idx c l<l.length
 |[]=>by simp[idx]
 |b::r=>by
  have:=um c r
  simp only[idx,List.length_cons]
  split
  ·omega
  ·split<;>omega
theorem find_range (p:Nat->Bool):∀n:Nat,(List.range (n+1)).find? p=if p 0=true then some 0 else((List.range n).find? λi=>p (i+1)).map (·+1):=λn=>by
 rw[List.range_succ_eq_map,List.find?_cons]
 cases h:p 0 with
 |true=>simp
 |false=>
  simp only[Bool.false_eq_true,if_false]
  rw[List.find?_map];rfl
theorem Gl (c:Int):∀l:List UInt8,(match(List.range l.length).find? λi=>decide (((l.getD i 0).toNat:Int)=c)with|some i=>(i:Int)|none=>-1)=idx c l
 |[]=>rfl
 |b::r=>by
  have ih:=Gl c r
  rw[List.length_cons,find_range]
  simp only[List.getD_cons_zero,List.getD_cons_succ,decide_eq_true_eq,idx]
  by_cases h:(b.toNat:Int)=c
  ·simp[h]
  ·simp only[if_neg h]
   have hr:=um c r
   cases hf:(List.range r.length).find? λi=>decide (((r.getD i 0).toNat:Int)=c)with
   |none=>rw[hf]at ih;simp only[Option.map_none]at ih⊢;rw[<-ih];simp
   |some i=>rw[hf]at ih;simp only[Option.map_some]at ih⊢;rw[<-ih,if_neg (by omega)];rfl
theorem find_congr {α:Type} {p q:α->Bool}:∀{l:List α},(∀x∈l,p x=q x)->l.find? p=l.find? q
 |[],_=>rfl
 |x::r,h=>by
  rw[List.find?_cons,List.find?_cons,h x (by simp),find_congr λy hy=>h y (List.mem_cons_of_mem _ hy)]
theorem RU (l:List UInt8) (c:Int) (h0:0<=c) (h1:c<=255) (w:World):(Extern.BytealgIndexByte.indexByte #[.string (aF l),.int .u8 c]).run P w= .ok (.int .i64 (idx c l)) w:=by
 have hsz:(aF l).size=l.length:=jN l
 have ob:∀i,i<l.length->(aF l)[i]! =l.getD i 0:=λi hi=>by
  have:i<(aF l).size:=by omega
  rw[getElem!_pos (aF l) i this]
  simp only[List.getD,List.getElem?_eq_getElem hi,Option.getD_some]
  rfl
 have e:((List.range (aF l).size).find? λi=>(aF l)[i]! ==c.toNat.toUInt8)=(List.range l.length).find? λi=>decide (((l.getD i 0).toNat:Int)=c):=by
  rw[hsz]
  refine find_congr λi hi=>?_
  have hi:=List.mem_range.1 hi
  rw[ob i hi]
  have hc:c.toNat.toUInt8.toNat=c.toNat:=by simp;omega
  rw[Bool.eq_iff_iff]
  simp only[beq_iff_eq,decide_eq_true_eq]
  rw[<-UInt8.toNat_inj,hc]
  omega
 have hf:=Gl c l
 have hd:Extern.BytealgIndexByte.indexByte #[.string (aF l),.int .u8 c]=(match(List.range (aF l).size).find? (λi=>(aF l)[i]! ==c.toNat.toUInt8)with
  |some i=>Pure.pure (goInt i)
  |none=>Pure.pure (goInt (-1)):Sem Value):=rfl
 rw[hd,e,<-hf]
 cases(List.range l.length).find? λi=>decide (((l.getD i 0).toNat:Int)=c)<;>rfl
theorem Oo {f:FuncId} {fn:Func} {id:Nat} {wb:World} (hf:P.funcs[f]?=some fn) (Ac:(fn.name== "runtime.NumGoroutine")=false) (hb:fn.body.isNone=true) (hn:Extern.findNext fn=none) (he:Extern.find fn=some Extern.BytealgIndexByte.indexByte):
 (⟨f,id,[.str,.int .u8 0 255],[.int .i64 (-1) 9223372036854775807]⟩:cj).nL P wb λzs rs=>rs=[idx (zs.getD 1 0) (J (zs.getD 0 0))]:=by
 intro zs hz
 match zs,hz with
 |[s,c],hz=>
  obtain⟨s1,s2,c1,av,_⟩:=hz
  have hr:=um c (J s)
  have hl:(J s).length<=9223372036854775807:=by have:=oT s2;unfold eu at this;omega
  refine⟨[idx c (J s)],(show bb [((-1:Int),9223372036854775807)] _ from⟨by omega,by omega,trivial⟩),rfl,λw _=> .inl ?_⟩
  rw[run_callFunc_extern hf Ac hb hn he]
  have:=RU (P:=P) (J s) c c1 av w
  show((Extern.BytealgIndexByte.indexByte #[.string (aF (J s)),.int .u8 c]).run P w).andThen _=_
  rw[this];rfl
 |[],h=>exact h.elim
 |[_],h=>exact(h.2.2).elim
 |_::_::_::_,h=>exact(h.2.2.2.2).elim
def cmpL:List UInt8->List UInt8->Int
 |[],[]=>0
 |[],_::_=>-1
 |_::_,[]=>1
 |a::l,b::r=>if a=b then cmpL l r else if a<b then-1 else 1
theorem yU:∀l r:List UInt8,-1<=cmpL l r/\cmpL l r<=1
 |[],[]=>by decide
 |[],_::_=>by unfold cmpL;decide
 |_::_,[]=>by unfold cmpL;decide
 |a::l,b::r=>by
  have:=yU l r
  unfold cmpL
  split
  ·exact this
  ·split<;>decide
theorem DT:∀l r:List UInt8,(cmpL l r=-1↔Op.bytesLess l r=true)/\(cmpL l r=0↔l=r)
 |[],[]=>by simp[cmpL,Op.bytesLess]
 |[],_::_=>by simp[cmpL,Op.bytesLess]
 |_::_,[]=>by simp[cmpL,Op.bytesLess]
 |a::l,b::r=>by
  have ih:=DT l r
  unfold cmpL Op.bytesLess
  by_cases h:a=b
  ·subst h;simp[ih.1,ih.2]
  ·by_cases h2:a<b
   ·simp[h,h2]
   ·have:b<a:=by
     rcases Nat.lt_trichotomy a.toNat b.toNat with h3|h3|h3
     ·exact absurd (UInt8.lt_iff_toNat_lt.2 h3) h2
     ·exact absurd (UInt8.toNat_inj.1 h3) h
     ·exact UInt8.lt_iff_toNat_lt.2 h3
    simp[h,h2,this]
theorem Lh (p:Nat->Bool) (n:Nat):(List.range (n+1)).find? p=if p 0=true then some 0 else((List.range n).find? λi=>p (i+1)).map (·+1):=by
 rw[List.range_succ_eq_map,List.find?_cons]
 cases h:p 0 with
 |true=>simp
 |false=>simp[List.find?_map];rfl
theorem DU:∀l r:List UInt8,(match(List.range (min l.length r.length)).find? λi=>l.getD i 0 != r.getD i 0 with
 |some i=>if l.getD i 0<r.getD i 0 then(-1:Int)else 1
 |none=>if l.length<r.length then-1 else if l.length>r.length then 1 else 0)=cmpL l r
 |[],[]=>by simp[cmpL]
 |[],_::_=>by simp[cmpL]
 |_::_,[]=>by simp[cmpL]
 |a::l,b::r=>by
  have ih:=DU l r
  have e:min (a::l).length (b::r).length=min l.length r.length+1:=by simp only[List.length_cons];omega
  rw[e,Lh]
  unfold cmpL
  by_cases h:a=b
  ·subst h
   simp only[List.getD_cons_zero,bne_self_eq_false,Bool.false_eq_true,if_false,List.getD_cons_succ,if_true]
   rw[<-ih]
   cases(List.range (min l.length r.length)).find? λi=>l.getD i 0 != r.getD i 0 with
   |none=>simp
   |some i=>simp
  ·simp[h]
theorem RS (l r:List UInt8) (w:World):(Extern.BytealgCompare.compare #[.string (aF l),.string (aF r)]).run P w= .ok (.int .i64 (cmpL l r)) w:=by
 have hg:∀(x:List UInt8) (i:Nat),i<x.length->(aF x)[i]! =x.getD i 0:=λx i hi=>by
  have:i<(aF x).size:=by rw[jN];exact hi
  rw[getElem!_pos (aF x) i this]
  simp only[List.getD,List.getElem?_eq_getElem hi,Option.getD_some]
  rfl
 have e:Extern.BytealgCompare.cmp (aF l) (aF r)=cmpL l r:=by
  rw[<-DU]
  unfold Extern.BytealgCompare.cmp
  rw[jN,jN]
  have hf:((List.range (min l.length r.length)).find? λi=>(aF l)[i]! != (aF r)[i]!)=(List.range (min l.length r.length)).find? λi=>l.getD i 0 != r.getD i 0:=find_congr λi hi=>by
   have hi:=List.mem_range.1 hi
   rw[hg l i (by omega),hg r i (by omega)]
  rw[hf]
  cases ad:(List.range (min l.length r.length)).find? λi=>l.getD i 0 != r.getD i 0 with
  |none=>rfl
  |some i=>
   have hi:=List.mem_range.1 (List.mem_of_find?_eq_some ad)
   simp only[hg l i (by omega),hg r i (by omega)]
 have hd:Extern.BytealgCompare.compare #[.string (aF l),.string (aF r)]=(Pure.pure (goInt (Extern.BytealgCompare.cmp (aF l) (aF r))):Sem Value):=rfl
 rw[hd,e];rfl
theorem Kx {f:FuncId} {fn:Func} {id:Nat} {wb:World} (hf:P.funcs[f]?=some fn) (Ac:(fn.name== "runtime.NumGoroutine")=false) (hb:fn.body.isNone=true) (hn:Extern.findNext fn=none) (he:Extern.find fn=some Extern.BytealgCompare.compare):
 (⟨f,id,[.str,.str],[.int .i64 (-1) 1]⟩:cj).nL P wb λzs rs=>rs=[cmpL (J (zs.getD 0 0)) (J (zs.getD 1 0))]:=by
 intro zs hz
 match zs,hz with
 |[s,c],hz=>
  have hr:=yU (J s) (J c)
  refine⟨[cmpL (J s) (J c)],(show bb [((-1:Int),1)] _ from⟨hr.1,hr.2,trivial⟩),rfl,λw _=> .inl ?_⟩
  rw[run_callFunc_extern hf Ac hb hn he]
  have:=RS (P:=P) (J s) (J c) w
  show((Extern.BytealgCompare.compare #[.string (aF (J s)),.string (aF (J c))]).run P w).andThen _=_
  rw[this];rfl
 |[],h=>exact h.elim
 |[_],h=>exact(h.2.2).elim
 |_::_::_::_,h=>exact(h.2.2.2.2).elim
end
end Go.aZ
namespace Go.aZ
section
variable {S:Nat->List Int->List Int->Prop} {P:Program} {gl:cF} {wb:World}
def gM (args res:List D) (spec:List Int->List Int->Prop):Prop:=∀zs rs kh,bb (cN args) zs->bb (cN res) rs->bb (cN res) kh->spec zs rs->spec zs kh->fE res rs=fE res kh
theorem cj.P8 {c:cj} {aL:dp} {li:FuncId->Nat->Option dh} {rounds d:Nat} {spec:List Int->List Int->Prop} (hm:P.follows .mixedOrders=true) (bV:∀r ex ro,fr S P gl ⟨wb,r,ex,ro,[]⟩ aL) (hg:ey gl ⟨wb,wb,λ_=>False,λ_=>False,[]⟩)
 (hf:∀args w,(callFunc c.f args).run P w= .ok (.enter c.f args) w) (hu:gM c.args c.res spec)
 (ht:lW (cN c.args) λzs=>(c.tree P gl aL li rounds d).holds S (oX c.res λrs=>bb (cN c.res) rs/\spec zs rs) (λ_ _=>False) (bk (λ_=>0) 0 zs)):c.Ok P wb spec:=by
 refine⟨hf,λzs hz=>?_⟩
 have h0:=cj.calls hm bV hg hz (mP ht hz) wb (World.Extends.refl wb)
 obtain⟨e,w',v,aa,m,val,h1,h2,h3,h4⟩:=Calls.some h0
 obtain⟨rs,⟨hb,hs⟩,hv⟩:=Db h3 h2
 refine⟨rs,hb,hs,λw hw=>?_⟩
 refine(cj.calls hm bV hg hz (mP ht hz) w hw).mono λe w' ⟨v,aa,m,val,h1,h2,h3,h4⟩=>?_
 obtain⟨kh,⟨hb',NO⟩,hv'⟩:=Db h3 h2
 rw[hu zs kh rs hz hb' hb NO hs]at hv'
 exact⟨by rw[h1,hv'],h4⟩
end
theorem Ca {α:Type}:∀(gq:List Nat) (l:List α),(dQ gq l).flatten=l
 |[],[]=>rfl
 |[],_::_=>by simp[dQ]
 |k::gq,l=>by simp only[dQ,List.flatten_cons,Ca gq,List.take_append_drop]
section
variable {P:Program} {gl:cF} {wb:World} {sh:Nat->List Nat×List Nat} {SB:Nat->List (List Int)->List (List Int)->Prop}
def cC (SB:Nat->List (List Int)->List (List Int)->Prop) (res:List D) (id:Nat):List (List Int)->List (List Int)->Prop:=λzs rs=>bb (cN res) rs.flatten/\SB id zs rs
theorem TD {cJ:Nat->List Nat} {id:Nat} {lens:List Nat} {bds:List (Int×Int)} {ds:List D} {t:T} (hl:lens=(sh id).1) (hd:ox ds=(sh id).2) (h:sX sh cJ SB (cC SB ds id) lens bds ds t):
 lW bds λzs=>t.holds (dc sh SB) (oX ds λrs=>bb (cN ds) rs/\dc sh SB id zs rs) (λ_ _=>False) (bk (λ_=>0) 0 zs):=by
 refine o4 λzs hz=>?_
 have h:=mP (JH h) hz
 simp only[cC,Ca]at h
 rw[hl,hd]at h
 exact h
theorem QD {c:cj} {aL:dp} {li:FuncId->Nat->Option dh} {rounds d:Nat} {cJ:Nat->List Nat} {lens:List Nat} (hm:P.follows .mixedOrders=true) (bV:∀r ex ro,fr (dc sh SB) P gl ⟨wb,r,ex,ro,[]⟩ aL) (hg:ey gl ⟨wb,wb,λ_=>False,λ_=>False,[]⟩)
 (hf:ru P c.f=true) (hu:gM c.args c.res (dc sh SB c.id)) (hl:lens=(sh c.id).1) (hd:ox c.res=(sh c.id).2)
 (hv:sX sh cJ SB (cC SB c.res c.id) lens (cN c.args) c.res (c.tree P gl aL li rounds d)):c.Ok P wb (dc sh SB c.id):=
 cj.P8 hm bV hg (enters hf) hu (TD hl hd hv)
end
end Go.aZ
namespace Go.aZ
open Go.ChangeShapes Go.WideShapes Go.RowKit
variable {H:Type} {enc:TypeId×Value->H} {P:Program}
def sE (g:TypeId->Option (List ag)) (cells:TypeId->Nat):List Field->Nat->Option (List ag)
 |[],_=>some []
 |f::r,o=>match g f.type,sE g cells r (o+cells f.type)with
  |some l,some m=>cond (Nat.beq f.offset o&&Nat.beq (cells f.type) l.length) (some (l++m)) none
  |_,_=>none
def Ci (l:List ag):Option (List ag):=cond (fX l (eK 0)) (some [.sub 0]) (cond (fX l (eK 1)) (some [.sub 1]) none)
theorem SF {l sh:List ag} (h:Ci l=some sh):∃k,l=eK k/\sh=[.sub k]:=by
 unfold Ci at h
 cases h0:fX l (eK 0)with
 |true=>
  rw[h0]at h
  simp only[cond_true,Option.some.injEq]at h
  exact⟨0,lM h0,h.symm⟩
 |false=>
  cases h1:fX l (eK 1)with
  |true=>
   rw[h0,h1]at h
   simp only[cond_true,cond_false,Option.some.injEq]at h
   exact⟨1,lM h1,h.symm⟩
  |false=>rw[h0,h1]at h;cases h
def lN (P:Program):Nat->TypeId->Option (List ag)
 |0,_=>none
 |d+1,t=>match P.underlying t with
  |some (.int k)=>some [.int k k.min k.max]
  |some .string=>some [.str]
  |some .bool=>some [.bool]
  |some (.struct bT)=>sE (lN P d) P.cellsOf bT.toList 0
  |some (.array n e)=>match lN P d e with
   |some l=>cond (Nat.beq (P.cellsOf e) l.length) (some (List.replicate n l).flatten) none
   |none=>none
  |some (.slice e)=>match lN P d e with
   |some l=>cond (Nat.beq (P.cellsOf e) l.length&&Nat.blt 0 (P.bytesOf e)) (Ci l) none
   |none=>none
  |_=>none
theorem aR.append:∀{a b:List ag} {x y:List Int},aR a x->aR b y->aR (a++b) (x++y)/\bM (a++b) (x++y)=bM a x++bM b y
 |[],_,[],_,_,h=>⟨h,rfl⟩
 |_::_,_,_::_,_,h,h'=>by
  have:=aR.append h.2 h'
  exact⟨⟨h.1,this.1⟩,by simp only[List.cons_append,bM,this.2]⟩
 |[],_,_::_,_,h,_=>h.elim
 |_::_,_,[],_,h,_=>h.elim
theorem BO {F:Nat->Prop} {w:World}:∀{a b:List ag} {x y:List Int} {u v:List Value},cL F w a x u->cL F w b y v->cL F w (a++b) (x++y) (u++v)
 |[],_,[],_,[],_,_,h=>h
 |_::_,_,_::_,_,_::_,_,h,h'=>⟨h.1,BO h.2 h'⟩
 |[],_,_::_,_,_,_,h,_=>h.elim
 |[],_,[],_,_::_,_,h,_=>h.elim
 |_::_,_,[],_,_,_,h,_=>h.elim
 |_::_,_,_::_,_,[],_,h,_=>h.elim
def vf (enc:TypeId×Value->H) (P:Program) (w:World) (t:TypeId) (sh:List ag):Prop:=
 ∀(n:Nat) (cs:List Value) (x:DataW H×List MemPlace),DataW.trod enc P w 0 (λ_=>true) true n t cs=some x->cs.length=sh.length->(∀m∈x.1.weights P t,m<=reachBytes)->
  ∃zs,aR sh zs/\cL (λg=>g<w.heap.size) w sh zs cs
theorem Hn {n:Nat} {w:World} {g:TypeId->Option (List ag)} (hg:∀t sh,g t=some sh->vf enc P w t sh) {cs:List Value}:∀(bT:List Field) (o:Nat) (sh:List ag) (xs:List (DataW H×List MemPlace)),sE g P.cellsOf bT o=some sh->cs.length=o+sh.length->xs.length=bT.length->
 (∀(j:Nat) (f:Field),bT[j]?=some f->DataW.trod enc P w 0 (λ_=>true) true n f.type ((cs.drop f.offset).take (P.cellsOf f.type))=xs[j]?)->
 (∀m∈DataW.weightsEach P (bT.map (·.type)) (xs.map (·.1)),m<=reachBytes)->
 ∃zs,aR sh zs/\cL (λg=>g<w.heap.size) w sh zs (cs.drop o)
 |[],o,sh,xs,h,hl,hx,_,_=>by
  simp only[sE,Option.some.injEq]at h
  subst h
  have:xs=[]:=List.length_eq_zero_iff.1 (by simpa using hx)
  subst this
  exact⟨[],trivial,by rw[List.drop_of_length_le (by simp at hl;omega)];trivial⟩
 |f::bT,o,sh,[],_,_,hx,_,_=>by simp at hx
 |f::bT,o,sh,x::xs,h,hl,hx,hf,hw=>by
  unfold sE at h
  cases h1:g f.type with
  |none=>simp[h1]at h
  |some l=>
   cases h2:sE g P.cellsOf bT (o+P.cellsOf f.type)with
   |none=>simp[h1,h2]at h
   |some m=>
    simp only[h1,h2]at h
    cases hc:(Nat.beq f.offset o&&Nat.beq (P.cellsOf f.type) l.length)with
    |false=>simp[hc]at h
    |true=>
     simp only[hc,cond_true,Option.some.injEq]at h
     subst h
     simp only[Bool.and_eq_true]at hc
     have e1:=Nat.eq_of_beq_eq_true hc.1
     have e2:=Nat.eq_of_beq_eq_true hc.2
     have h0:=hf 0 f rfl
     simp only[List.getElem?_cons_zero]at h0
     simp only[List.map_cons,DataW.weightsEach,List.mem_append]at hw
     simp only[List.length_append]at hl
     obtain⟨zs,a1,a2⟩:=hg f.type l h1 n ((cs.drop f.offset).take (P.cellsOf f.type)) x h0 (by rw[List.length_take,List.length_drop,e1,e2];omega) λm' hm=>hw m' (.inl hm)
     obtain⟨dm,b1,b2⟩:=Hn (cs:=cs) hg bT (o+P.cellsOf f.type) m xs h2 (by omega) (by simpa using hx) (λj kz hj=>by simpa using hf (j+1) kz (by simpa using hj)) λm' hm=>hw m' (.inr hm)
     have e0:=aR.append a1 b1
     refine⟨zs++dm,e0.1,?_⟩
     have:=BO a2 b2
     rwa [e1,<-List.drop_drop,List.take_append_drop]at this
theorem Hm {n:Nat} {w:World} {e:TypeId} {l:List ag} (hg:vf enc P w e l) (hc:P.cellsOf e=l.length) {cs:List Value}:∀(k i:Nat) (xs:List (DataW H×List MemPlace)),cs.length=(i+k)*l.length->xs.length=k->
 (∀j,j<k->DataW.trod enc P w 0 (λ_=>true) true n e ((cs.drop ((i+j)*P.cellsOf e)).take (P.cellsOf e))=xs[j]?)->
 (∀m∈DataW.weightsAll P e (xs.map (·.1)),m<=reachBytes)->
 ∃zs,aR (List.replicate k l).flatten zs/\cL (λg=>g<w.heap.size) w (List.replicate k l).flatten zs (cs.drop (i*l.length))
 |0,i,xs,hl,hx,_,_=>by
  have:xs=[]:=List.length_eq_zero_iff.1 hx
  subst this
  exact⟨[],trivial,by rw[List.drop_of_length_le (by rw[hl];exact Nat.le_refl _)];trivial⟩
 |k+1,i,[],_,hx,_,_=>by simp at hx
 |k+1,i,x::xs,hl,hx,hf,hw=>by
  have h0:=hf 0 (Nat.succ_pos k)
  simp only[List.getElem?_cons_zero,Nat.add_zero]at h0
  simp only[List.map_cons,DataW.weightsAll,List.mem_append]at hw
  have hl2:cs.length=i*l.length+(l.length+k*l.length):=by rw[hl,Nat.add_mul,Nat.succ_mul];omega
  obtain⟨zs,a1,a2⟩:=hg n _ x h0 (by rw[List.length_take,List.length_drop,hc];omega) λm' hm=>hw m' (.inl hm)
  obtain⟨dm,b1,b2⟩:=Hm hg hc k (i+1) xs (by rw[hl];congr 1;omega) (by simpa using hx) (λj hj=>by
   have:=hf (j+1) (by omega)
   rw[show i+(j+1)=i+1+j by omega]at this
   simpa using this) λm' hm=>hw m' (.inr hm)
  have e0:=aR.append a1 b1
  refine⟨zs++dm,by rw[List.replicate_succ,List.flatten_cons];exact e0.1,?_⟩
  have:=BO a2 b2
  rw[hc,Nat.succ_mul,<-List.drop_drop,List.take_append_drop]at this
  rw[List.replicate_succ,List.flatten_cons];exact this
theorem DQ {base:Nat} {w:World} {a:Addr} {n:Nat} {cs:List Value} (h:w.cells? base a n=some cs):cs.length=n/\∀j,j<n->w.cell? (a.add j)=cs[j]?:=by
 unfold World.cells? at h
 split at h
 ·have hl:=List.GN h
  refine⟨by simpa using hl,λj hj=>?_⟩
  have:=List.EN h j j (by simp[hj])
  exact this
 ·cases h
where
 List.GN {α β:Type} {f:α->Option β}:∀{l:List α} {r:List β},l.mapM f=some r->r.length=l.length
  |[],r,h=>by simp at h;subst h;rfl
  |x::l,r,h=>by
   rw[List.mapM_cons]at h
   cases hx:f x with
   |none=>simp[hx]at h
   |some y=>
    cases hl:l.mapM f with
    |none=>simp[hx,hl]at h
    |some s=>
     simp[hx,hl]at h
     subst h
     simp[List.GN hl]
 List.EN {α β:Type} {f:α->Option β}:∀{l:List α} {r:List β},l.mapM f=some r->∀(j:Nat) (x:α),l[j]?=some x->f x=r[j]?
  |[],r,h,j,x,hx=>by simp at hx
  |y::l,r,h,j,x,hx=>by
   rw[List.mapM_cons]at h
   cases hy:f y with
   |none=>simp[hy]at h
   |some z=>
    cases hl:l.mapM f with
    |none=>simp[hy,hl]at h
    |some s=>
     simp[hy,hl]at h
     subst h
     cases j with
     |zero=>simp at hx;subst hx;simp[hy]
     |succ j=>simpa using List.EN hl j x (by simpa using hx)
theorem H9 {F:Nat->Prop} {w:World} {cells:Array Value} {sh:List ag}:∀(len o:Nat),o<=cells.size->(∀i,i<len->∃zs vs,aR sh zs/\cL F w sh zs vs/\∀j,j<sh.length->cells[o+i*sh.length+j]?=vs[j]?)->(0<len->0<sh.length)->
 ∃rows:List (List Int),rows.length=len/\eW F w cells o sh rows
 |0,o,ho,_,_=>⟨[],rfl,λ_ h=>by simp at h,cells.toList.take o,[],cells.toList.drop o,by simp,by simp;omega,rfl⟩
 |len+1,o,ho,h,hp=>by
  obtain⟨zs,us,a1,a0,a2⟩:=h 0 (Nat.succ_pos _)
  have hp:=hp (Nat.succ_pos _)
  have hv:=a0.len
  have Na:=a2 (sh.length-1) (by omega)
  have hsz:o+sh.length<=cells.size:=by
   have:us[sh.length-1]?≠none:=by rw[List.getElem?_eq_getElem (by omega)];simp
   rw[<-Na]at this
   have:=Array.Ls.1 this
   omega
  obtain⟨rows,b1,b2,pre,vs,post,b3,b4,o9⟩:=H9 len (o+sh.length) hsz (λi hi=>by
   obtain⟨dm,vs,c1,bL,av⟩:=h (i+1) (by omega)
   refine⟨dm,vs,c1,bL,λj hj=>?_⟩
   rw[<-av j hj]
   congr 1
   rw[Nat.succ_mul];omega) λ_=>hp
  refine⟨zs::rows,by simp[b1],λrow hr=>?_,cells.toList.take o,us++vs,post,?_,by simp;omega,us,vs,rfl,a0,o9⟩
  ·rcases List.mem_cons.1 hr with rfl|hr
   ·exact a1
   ·exact b2 row hr
  ·have e1:pre=cells.toList.take (o+sh.length):=by
    rw[b3,List.append_assoc,List.take_left' b4]
   have e2:pre=cells.toList.take o++us:=by
    rw[e1,List.take_add]
    congr 1
    refine List.ext_getElem? λj=>?_
    by_cases hj:j<sh.length
    ·have:=a2 j hj
     rw[List.getElem?_take,if_pos hj,List.getElem?_drop,<-this]
     simp
    ·rw[List.getElem?_eq_none (by simp;omega),List.getElem?_eq_none (by omega)]
   rw[<-List.append_assoc,<-e2];exact b3
where
 Array.Ls {α:Type} {a:Array α} {i:Nat}:a[i]?≠none↔i<a.size:=by simp
theorem G2 {e:TypeId}:∀{l:List (DataW H×List MemPlace)} {i:Nat} {y:DataW H×List MemPlace} {m:Nat},l[i]?=some y->m∈y.1.weights P e->m∈DataW.weightsAll P e (l.map (·.1))
 |x::l,0,y,m,h,hm=>by
  simp only[List.getElem?_cons_zero,Option.some.injEq]at h
  subst h
  simp only[List.map_cons,DataW.weightsAll,List.mem_append]
  exact .inl hm
 |x::l,i+1,y,m,h,hm=>by
  simp only[List.map_cons,DataW.weightsAll,List.mem_append]
  exact .inr (G2 (by simpa using h) hm)
 |[],_,_,_,h,_=>by simp at h
theorem Ho {w:World} {t e:TypeId} {sh:List ag} (ho:vf enc P w e sh) (ht:P.underlying t=some (.slice e)) (hc:P.cellsOf e=sh.length) (hp:0<sh.length) {n:Nat} {cs:List Value} {x:DataW H×List MemPlace} (h:DataW.trod enc P w 0 (λ_=>true) true n t cs=some x) (hw:∀m∈x.1.weights P t,m<=reachBytes):
 ∃(v:Value) (rows:List (List Int)),cs=[v]/\(∀row∈rows,aR sh row)/\(rows.length<=maxLen/\(0<P.bytesOf e->rows.length<=140737488351232))/\(((∃p,v= .slice p 0 0)/\rows=[])∨∃(g o cap:Nat) (cells:Array Value) (t:TypeId) (fz:Nat×Nat),v= .slice (some ⟨g,o,none⟩) rows.length cap/\(rows.length<=cap/\(cap:Int)<=9223372036854775807)/\g<w.heap.size/\w.heap[g]?=some (.cells cells t fz)/\eW (λg=>g<w.heap.size) w cells o sh rows):=by
 rcases DataW.trod_slice ht h with⟨rfl,_⟩|⟨vm,len,cap,elems,rest,n,rfl,rfl,hx,_,Nb,lp,wy,Fy,kG,_⟩
 ·exact⟨_,[],rfl,λ_ h=>by simp at h,⟨Nat.zero_le _,λ_=>Nat.zero_le _⟩,.inl ⟨⟨_,rfl⟩,rfl⟩⟩
 ·rcases Nat.eq_zero_or_pos cap with h0|h0
  ·subst h0
   have:len=0:=by omega
   subst this
   exact⟨_,[],rfl,λ_ h=>by simp at h,⟨Nat.zero_le _,λ_=>Nat.zero_le _⟩,.inl ⟨⟨_,rfl⟩,rfl⟩⟩
  ·have kG:=(kG rfl).2
   have zO:∃cs,w.cells? 0 (vm.add 0) (P.cellsOf e)=some cs:=by
    rcases Nat.eq_zero_or_pos len with hl|hl
    ·have h1:=(DataW.trod_slice ht h)
     have h2:=kG 0 (by omega)
     cases hy:rest[0]? with
     |none=>
      exfalso
      rcases h1 with⟨h1,_⟩|⟨T2,gF,b9,Ua,US,n',_,h3,h4,_,_,_,h5,_,h6,_⟩
      ·simp at h1
      ·simp only[List.cons.injEq,Value.slice.injEq,Option.some.injEq,and_true]at h3
       rw[hx]at h4
       simp only[Prod.mk.injEq,DataW.slice.injEq]at h4
       have h7:=congrArg List.length h4.1.2
       simp only[List.length_map]at h7
       have cz:=(h6 rfl).1
       rw[List.getElem?_eq_none_iff]at hy
       omega
     |some y=>
      rw[hy,Option.bind_eq_some_iff,hl]at h2
      obtain⟨cs,g1,_⟩:=h2
      exact⟨cs,by simpa using g1⟩
    ·have h2:=Fy 0 hl
     cases hy:elems[0]? with
     |none=>rw[List.getElem?_eq_none_iff]at hy;omega
     |some y=>
      rw[hy,Option.bind_eq_some_iff]at h2
      obtain⟨cs,g1,_⟩:=h2
      exact⟨cs,by simpa using g1⟩
   obtain⟨KH,zO⟩:=zO
   obtain⟨l1,l2⟩:=DQ zO
   have hc0:=l2 0 (by omega)
   have hc1:KH[0]?≠none:=by rw[List.getElem?_eq_getElem (by omega)];simp
   rw[<-hc0]at hc1
   have Mb:(vm.add 0).add 0=vm:=by simp[Addr.add]
   rw[Mb]at hc1
   obtain⟨g,o,sp⟩:=vm
   unfold World.cell? at hc1
   split at hc1
   ·rename_i cells tt fz mc
    simp only at mc
    cases F7:sp with
    |some k=>rw[F7]at hc1;exact absurd rfl hc1
    |none=>
    subst F7
    simp only[Option.isSome_none,Bool.false_eq_true,if_false]at hc1
    have gW:o<cells.size:=by
     rcases Nat.lt_or_ge o cells.size with h|h
     ·exact h
     ·exact absurd (Array.getElem?_eq_none h) hc1
    rw[hx]at hw
    simp only[DataW.weights,ht,List.mem_cons,List.mem_append]at hw
    obtain⟨rows,r1,r2⟩:=H9 (F:=λg=>g<w.heap.size) (w:=w) (cells:=cells) (sh:=sh) len o (by omega) (λi hi=>by
     have:=Fy i hi
     cases hy:elems[i]? with
     |none=>rw[List.getElem?_eq_none_iff]at hy;omega
     |some y=>
      rw[hy,Option.bind_eq_some_iff]at this
      obtain⟨cs,g1,g2⟩:=this
      obtain⟨l1,l2⟩:=DQ g1
      obtain⟨zs,aj,z2⟩:=ho n cs y g2 (by rw[l1,hc]) λm hm=>by
       refine hw m (.inr (.inl ?_))
       exact G2 hy hm
      refine⟨zs,cs,aj,z2,λj hj=>?_⟩
      have:=l2 j (by rw[hc];exact hj)
      rw[dS,dS]at this
      simp only[World.cell?,mc,Option.isSome_none,Bool.false_eq_true,if_false]at this
      rw[<-this,hc]) λ_=>hp
    have bp:(cap:Int)<=9223372036854775807:=by unfold maxLen at lp;omega
    have Ay:(elems.length+rest.length)*P.bytesOf e<=reachBytes:=hw _ (.inl (by simp))
    refine⟨_,rows,rfl,r2.1,⟨by omega,λhb=>?_⟩,.inr ⟨g,o,cap,cells,tt,fz,by rw[r1],by rw[r1];exact⟨Nb,bp⟩,(Array.getElem?_eq_some_iff.1 mc).1,mc,r2⟩⟩
    have cz:(elems.length+rest.length)*1<=(elems.length+rest.length)*P.bytesOf e:=Nat.mul_le_mul_left _ hb
    unfold reachBytes at Ay
    omega
   ·exact absurd rfl hc1
theorem xn {w:World}:∀(d:Nat) (t:TypeId) (sh:List ag),lN P d t=some sh->vf enc P w t sh
 |0,t,sh,h=>by simp[lN]at h
 |d+1,t,sh,h=>by
  have ih:=xn (w:=w) d
  intro n cs x hx hl hw
  unfold lN at h
  split at h
  ·rename_i k hu
   simp only[Option.some.injEq]at h
   subst h
   obtain⟨z,rfl,rfl,Ax⟩:=DataW.trod_int hu hx
   have:=I2.1 Ax
   exact⟨[z],⟨this,trivial⟩,rfl,trivial⟩
  ·rename_i hu
   simp only[Option.some.injEq]at h
   subst h
   obtain⟨s,rfl,rfl,hs⟩:=DataW.trod_string hu hx
   have hb:s.data.toList.length<=eu:=hw _ (by simp[DataW.weights])
   refine⟨[dz s.data.toList],⟨⟨ku _,jI hb⟩,trivial⟩,?_,trivial⟩
   show _=ag.val .str _
   simp[ag.val,gu,aF]
  ·rename_i hu
   simp only[Option.some.injEq]at h
   subst h
   obtain⟨b,rfl,rfl⟩:=DataW.trod_bool hu hx
   refine⟨[cond b 1 0],⟨?_,trivial⟩,?_,trivial⟩
   ·cases b<;>simp[ag.cn]
   ·show _=ag.val .bool _
    cases b<;>simp[ag.val]
  ·rename_i bT hu
   obtain⟨xs,m,rfl,rfl,hlen,hn,wy⟩:=DataW.trod_struct hu hx
   simp only[DataW.weights,hu]at hw
   obtain⟨zs,a1,a2⟩:=Hn (n:=m) ih bT.toList 0 sh xs h (by omega) (by rw[hn];simp) (λj f hj=>wy j f (by simpa using hj)) hw
   exact⟨zs,a1,by simpa using a2⟩
  ·rename_i k e hu
   cases h1:lN P d e with
   |none=>simp[h1]at h
   |some l=>
    simp only[h1]at h
    cases hc:Nat.beq (P.cellsOf e) l.length with
    |false=>simp[hc]at h
    |true=>
     simp only[hc,cond_true,Option.some.injEq]at h
     subst h
     have hc:=Nat.eq_of_beq_eq_true hc
     obtain⟨xs,m,rfl,rfl,hlen,hn,wy⟩:=DataW.trod_array hu hx
     simp only[DataW.weights,hu]at hw
     have eo:(List.replicate k l).flatten.length=k*l.length:=by simp
     obtain⟨zs,a1,a2⟩:=Hm (n:=m) (ih e l h1) hc k 0 xs (by rw[hl,eo];simp) hn (λj hj=>by
      have:=wy j hj
      simpa using this) hw
     exact⟨zs,a1,by simpa using a2⟩
  ·rename_i e hu
   cases h1:lN P d e with
   |none=>simp[h1]at h
   |some l=>
    simp only[h1]at h
    cases hc:(Nat.beq (P.cellsOf e) l.length&&Nat.blt 0 (P.bytesOf e))with
    |false=>rw[hc]at h;cases h
    |true=>
     rw[hc]at h
     simp only[cond_true]at h
     simp only[Bool.and_eq_true,Nat.blt_eq]at hc
     obtain⟨k,rfl,rfl⟩:=SF h
     obtain⟨v,rows,rfl,r1,⟨r2,Rs⟩,dK⟩:=Ho (ih e _ h1) hu (Nat.eq_of_beq_eq_true hc.1) (by cases k<;>exact Nat.one_pos) hx hw
     have FZ:(rows.length:Int)<=9223372036854775807:=by unfold maxLen at r2;omega
     refine⟨[rc rows],⟨⟨cE _,yk FZ r1⟩,trivial⟩,?_,trivial⟩
     show iL _ _ _ (ab (rc rows)) v
     rw[dx]
     rcases dK with dK|⟨g,o,cap,cells,t,fz,q1,q2,q3,q4,q5⟩
     ·exact .inl dK
     ·exact .inr ⟨g,o,cap,cells,t,fz,q1,⟨q2.1,q2.2,Rs hc.2⟩,q3,q4,(hM (Cj k)).1 q5⟩
  ·cases h
def vd (P:Program) (t:TypeId):bh->Prop
 | .d (.int k lo hi)=>P.underlying t=some (.int k)/\lo=k.min/\hi=k.max
 | .d .bool=>P.underlying t=some .bool
 | .d .str=>P.underlying t=some .string
 | .d (.agg k n lo hi)=>∃e,P.underlying t=some (.array n e)/\lN P 8 t=some (List.replicate n (.int k lo hi))/\P.cellsOf t=n
 | .d (.mix l)=>((∃bT,P.underlying t=some (.struct bT))∨∃n e,P.underlying t=some (.array n e))/\lN P 8 t=some l/\P.cellsOf t=l.length/\eJ l=true
 | .d (.gY _)=>False
 | .d (.lF ..)=>False
 | .rd sh=>∃e,P.underlying t=some (.slice e)/\lN P 8 e=some sh/\P.cellsOf e=sh.length/\fl sh=true
 | .gI _ _=>False
theorem aR.bb:∀{sh:List ag} {zs:List Int},aR sh zs->bb (sh.map ag.cn) zs
 |[],[],_=>trivial
 |_::_,_::_,h=>⟨h.1.1,h.1.2,aR.bb h.2⟩
 |[],_::_,h=>h.elim
 |_::_,[],h=>h.elim
theorem H5:∀(sh:List ag) (zs:List Int),bM sh zs=List.zipWith ag.val sh zs
 |[],_=>by simp[bM]
 |_::_,[]=>by simp[bM]
 |c::sh,z::zs=>by simp only[bM,List.zipWith_cons_cons,H5 sh zs]
theorem H4 (k:IntKind) (lo hi:Int):∀(n:Nat) (zs:List Int),zs.length=n->bM (List.replicate n (.int k lo hi)) zs=zs.map (Value.int k)
 |0,[],_=>rfl
 |n+1,z::zs,h=>by
  rw[List.replicate_succ]
  simp only[bM,List.map_cons,H4 k lo hi n zs (by simpa using h)]
  rfl
 |0,_::_,h=>by simp at h
 |n+1,[],h=>by simp at h
theorem GZ (k:IntKind) (lo hi:Int):∀n:Nat,(List.replicate n (ag.int k lo hi)).map ag.cn=nC lo hi n
 |0=>rfl
 |n+1=>by rw[List.replicate_succ,List.map_cons,GZ k lo hi n];rfl
theorem QJ {b0:Nat} {w:World} {t:TypeId} {b:bh} {v:Value} {x:DataW H} {ib:List MemPlace} (ht:vd P t b) (hval:Value.okWide P w .any b0 t v) (hd:DataW.Trod enc P w 0 (λ_=>true) true t v x ib) (hw:∀m∈x.weights P t,m<=reachBytes):
 ∃zs,bb b.bds zs/\zs.length=b.num/\b.at (λg=>g<w.heap.size) (λ_=>False) w zs v:=by
 obtain⟨fuel,hf⟩:=hd
 have agg:((∃bT,P.underlying t=some (.struct bT))∨∃n e,P.underlying t=some (.array n e))->∃cs,v= .agg cs/\cs.size=P.cellsOf t:=λh=>by
  unfold Value.okWide at hval
  rcases h with⟨bT,h⟩|⟨n,e,h⟩
  ·rw[h]at hval;obtain⟨cs,a,b,_⟩:=hval;exact⟨cs,a,b⟩
  ·rw[h]at hval;obtain⟨cs,a,b,_⟩:=hval;exact⟨cs,a,b⟩
 cases b with
 |gI _ _=>exact ht.elim
 |d y=>
  cases y with
  |gY l=>exact ht.elim
  |lF k c=>exact ht.elim
  |int k lo hi=>
   obtain⟨h1,rfl,rfl⟩:=ht
   obtain⟨n,rfl⟩:=okWide_int h1 hval
   obtain⟨n',h,hx,Ax⟩:=DataW.trod_int h1 hf
   simp[Value.cells]at h
   subst h
   have:=I2.1 Ax
   exact⟨[n],⟨this.1,this.2,trivial⟩,rfl,rfl⟩
  |bool=>
   obtain⟨c,rfl⟩:=okWide_bool ht hval
   refine⟨[cond c 1 0],?_,rfl,?_⟩
   ·cases c<;>simp[bh.bds,D.bds,bb]
   ·cases c<;>simp[bh.at,D.val]
  |str=>
   obtain⟨s,rfl⟩:=okWide_string ht hval
   obtain⟨R0,h,hx,hs⟩:=DataW.trod_string ht hf
   simp[Value.cells]at h
   subst h
   simp only[Prod.mk.injEq]at hx
   have hb:s.data.toList.length<=eu:=hw _ (by rw[hx.1];simp[DataW.weights])
   exact⟨[dz s.data.toList],⟨ku _,jI hb,trivial⟩,rfl,by simp[bh.at,D.val,gu,aF]⟩
  |agg k n lo hi=>
   obtain⟨e,h1,h2,h3⟩:=ht
   obtain⟨cs,rfl,hsz⟩:=agg (.inr ⟨n,e,h1⟩)
   obtain⟨zs,a1,a2⟩:=xn 8 t _ h2 fuel _ _ hf (by show cs.toList.length=_;simp[hsz,h3]) hw
   have a2:=(uS (by simp[eJ,ag.plain]) a1).1 a2
   have hl:zs.length=n:=by have:=a1.len;simpa using this
   have hcs:cs=(bM (List.replicate n (.int k lo hi)) zs).toArray:=by rw[<-a2];simp[Value.cells]
   refine⟨zs,?_,hl,?_⟩
   ·have:=a1.bb;rw[GZ]at this;exact this
   ·show Value.agg cs=_
    rw[hcs,H4 k lo hi n zs hl]
    simp only[D.val,<-hl,List.take_length]
  |mix l=>
   obtain⟨h1,h2,h3,h4⟩:=ht
   obtain⟨cs,rfl,hsz⟩:=agg h1
   obtain⟨zs,a1,a2⟩:=xn 8 t _ h2 fuel _ _ hf (by show cs.toList.length=_;simp[hsz,h3]) hw
   have a2:=(uS h4 a1).1 a2
   have hl:zs.length=l.length:=a1.len
   have hcs:cs=(bM l zs).toArray:=by rw[<-a2];simp[Value.cells]
   refine⟨zs,a1.bb,hl,?_⟩
   show Value.agg cs=_
   rw[hcs,H5];rfl
 |rd sh=>
  obtain⟨e,h1,h2,h3,pX⟩:=ht
  have h4:0<sh.length:=by
   unfold fl at pX
   simp only[Bool.and_eq_true,Nat.blt_eq]at pX
   exact pX.1.2
  obtain⟨u,rows,hu,r1,⟨r2,_⟩,dK⟩:=Ho (xn 8 e sh h2) h1 h3 h4 hf hw
  obtain⟨a,len,cap,rfl⟩:=okWide_slice h1 hval
  have hu:u= .slice a len cap:=by simpa [Value.cells]using hu.symm
  subst hu
  refine⟨[rc rows],⟨cE _,jj r2 λr hr=>(r1 r hr).row pX,trivial⟩,rfl,?_⟩
  show dR _ _ _ (ab (rc rows)) _
  rw[dx]
  exact dK
def x7 (P:Program):List TypeId->List bh->Prop
 |[],[]=>True
 |t::ts,b::bs=>vd P t b/\x7 P ts bs
 |_,_=>False
theorem bh.J7 {F N:Nat->Prop} {w:World} (b:bh) {zs l:List Int} {v:Value} (h:zs.length=b.num) (ha:b.at F N w zs v):b.at F N w (zs++l) v:=by
 cases b with
 |d x=>
  show v=x.val (zs++l)
  rw[D.IZ x (l:=l) h];exact ha
 |rd sh=>match zs,h with|[z],_=>exact ha
 |gI sh e=>match zs,h with|[z],_=>exact ha
theorem Hl {b0:Nat} {w:World}:∀{ts:List TypeId} {bs:List bh} {vs:List Value} {xs:List (DataW H)} {ib:List MemPlace},x7 P ts bs->(∀(j:Nat) t v,ts[j]?=some t->vs[j]?=some v->Value.okWide P w .any b0 t v)->DataW.TrodAll enc P w 0 (λ_=>true) true ts vs xs ib->
 (∀m∈DataW.weightsEach P ts xs,m<=reachBytes)->∃zs,bb (cw bs) zs/\ft (λg=>g<w.heap.size) (λ_=>False) w bs zs vs/\xs.length=bs.length
 |[],[],[],[],ib,_,_,h,_=>⟨[],trivial,trivial,rfl⟩
 |[],[],_::_,_,_,_,_,h,_=>h.elim
 |[],[],[],_::_,_,_,_,h,_=>h.elim
 |[],_::_,_,_,_,h,_,_,_=>h.elim
 |_::_,[],_,_,_,h,_,_,_=>h.elim
 |_::_,_::_,[],_,_,_,_,h,_=>by cases h
 |_::_,_::_,_::_,[],_,_,_,h,_=>by cases h
 |t::ts,b::bs,v::vs,x::xs,ib,ht,hv,h,hw=>by
  obtain⟨p,q,h1,h2,rfl⟩:=h
  simp only[DataW.weightsEach,List.mem_append]at hw
  obtain⟨zs,a1,a2,a3⟩:=QJ ht.1 (hv 0 t v rfl rfl) h1 λm hm=>hw m (.inl hm)
  obtain⟨dm,b1,b2,b3⟩:=Hl ht.2 (λj t v h1 h2=>hv (j+1) t v (by simpa using h1) (by simpa using h2)) h2 λm hm=>hw m (.inr hm)
  refine⟨zs++dm,Gr a1 b1,⟨bh.J7 b a2 a3,?_⟩,by simp[b3]⟩
  rw[<-a2,List.drop_left];exact b2
theorem IK (hl:laidOutB P=true) {W jm:World} (hb:Below W.heap.size W jm):∀{ts:List TypeId} {vs:List Value} {xs:List (DataW H)} {ib:List MemPlace},(∀t∈ts,P.readableRec t=true/\t<P.types.size)->DataW.TrodAll enc P W 0 (λ_=>true) true ts vs xs ib->(∀x∈ib,x.block<W.heap.size)->
 DataW.TrodAll enc P jm 0 (λb=>decide (b<W.heap.size)) true ts vs xs ib
 |[],[],[],_,_,h,_=>h
 |[],_::_,_,_,_,h,_=>h.elim
 |[],[],_::_,_,_,h,_=>h.elim
 |_::_,[],_,_,_,h,_=>by cases h
 |_::_,_::_,[],_,_,h,_=>by cases h
 |t::ts,v::vs,x::xs,ib,hr,h,hlt=>by
  obtain⟨p,q,h1,h2,rfl⟩:=h
  exact⟨p,q,Below.trod hl (hr t (by simp)).1 (hr t (by simp)).2 h1 hb λx hx=>hlt x (List.mem_append.2 (.inl hx)),IK hl hb (λt ht=>hr t (List.mem_cons_of_mem _ ht)) h2 λx hx=>hlt x (List.mem_append.2 (.inr hx)),rfl⟩
theorem Kq {C:Checked} {os:Os} {f:FuncId} {fn:Func} {s:ChangeSpec} {apart:Bool} {X:World->Array Value->Prop}
 (aX:∀(w w':World) (args:Array Value),w.heap=w'.heap->X w args->X w' args)
 (own:ownKnob C.prog.godebug=none) (started:os.Started) (Bh:C.prog.inits.idxOf? f=none) (pH:C.prog.funcs[f]?=some fn)
 (witness:∃(w:World) (tape:Tape) (i:Input),w.os=os/\(w.forCall tape i).Shaped C.prog/\i.vars=[]/\Input.okWide C.prog (w.forCall tape i) .any w.heap.size f i/\
   ((s.pre enc C.prog fn [] apart (w.forCall tape i).memory i.args/\X (w.forCall tape i).memory i.args)/\sizedMet enc C.prog fn (OpenSpec.ofChange s) apart (w.forCall tape i).memory i.args)/\({}:Assume).holds C.prog (lone (Frame.enter C.prog f i.args .normal) [] (w.forCall tape i)))
 (contract:∀(W:World) (base:Nat) (args:Array Value) (ds gs:List (DataW H)) (before:List MemPlace),
   (∀(j:Nat) t v,fn.params[j]?=some t->args[j]?=some v->Value.okWide C.prog W .any base t v)->
   DataW.Whole enc C.prog fn.params.toList s.vars apart W args.toList ds gs before->(DataW.weightsEach C.prog (fn.params.toList++s.plain.varTypes C.prog) (ds++gs)).all (·<=reachBytes)=true->X W args->W.ShapedOpen C.prog->
   Calls C.prog f args W λe jm=>∃v,e= .returned v/\s.post enc C.prog fn apart true false false W args v jm):
 ReturnsInHanded {} C os f .any (λw args=>(s.pre enc C.prog fn [] apart w args/\X w args)/\sizedMet enc C.prog fn (OpenSpec.ofChange s) apart w args) (s.post enc C.prog fn apart true false false):=by
 refine returnsInHanded_of_calls own started Bh witness ?_
 intro w tape i _ eQ _ aK hV Us
 obtain⟨_,_,_,Lq,tK,_,_,_,_,hval⟩:=aK
 have e:Lq=fn:=Option.some.inj (tK.symm.trans pH)
 subst e
 obtain⟨⟨⟨ds,gs,before,hw,hc⟩,hx⟩,hz⟩:=hV
 have lD:=DataW.Whole.of_heap (w':=w.forCall tape i) (by rfl) hw
 refine(contract (w.forCall tape i) w.heap.size i.args ds gs before hval lD (hz.weights hw) (aX _ _ _ (by rfl) hx) eQ).mono λe jm ⟨v,he,hp⟩=>?_
 subst he
 exact ChangeSpec.post_blind hp
theorem O4 {C:Checked} {os:Os} {f:FuncId} {fn:Func} {s:ChangeSpec} {X:World->Array Value->Prop} {apart:Bool} {ts:List TypeId} {tb:TypeId} {bs:List bh}
 (aX:∀(w w':World) (args:Array Value),w.heap=w'.heap->X w args->X w' args)
 (own:ownKnob C.prog.godebug=none) (started:os.Started) (Bh:C.prog.inits.idxOf? f=none) (pH:C.prog.funcs[f]?=some fn)
 (witness:∃(w:World) (tape:Tape) (i:Input),w.os=os/\(w.forCall tape i).Shaped C.prog/\i.vars=[]/\Input.okWide C.prog (w.forCall tape i) .any w.heap.size f i/\
   ((s.pre enc C.prog fn [] apart (w.forCall tape i).memory i.args/\X (w.forCall tape i).memory i.args)/\sizedMet enc C.prog fn (OpenSpec.ofChange s) apart (w.forCall tape i).memory i.args)/\({}:Assume).holds C.prog (lone (Frame.enter C.prog f i.args .normal) [] (w.forCall tape i)))
 (hp:fn.params.toList=ts) (hr:fn.resultTypes.toList=[tb]) (cW:fn.resultTypes.size=1) (rX:C.prog.underlying tb=some .bool) (ub:x7 C.prog ts bs) (ix:laidOutB C.prog=true) (ng:(ts.all λt=>C.prog.readableRec t&&decide (t<C.prog.types.size))=true) (Aw:s.vars=[])
 (hs:∀xs:List (DataW H),xs.length=bs.length->s.fn H xs={results:=[.lit (.bool true)],args:=xs,vars:=[]})
 (contract:∀(W:World) (zs:List Int) (vs:List Value),bb (cw bs) zs->ft (λg=>g<W.heap.size) (λ_=>False) W bs zs vs->X W vs.toArray->W.ShapedOpen C.prog->Calls C.prog f vs.toArray W λe jm=>e= .returned (.bool true)/\W.Extends jm):
 ReturnsInHanded {} C os f .any (λw args=>(s.pre enc C.prog fn [] apart w args/\X w args)/\sizedMet enc C.prog fn (OpenSpec.ofChange s) apart w args) (s.post enc C.prog fn apart true false false):=by
 refine Kq aX own started Bh pH witness ?_
 intro W base args xs gs before N4 pA hsz hx eQ
 have LN:=pA
 have hlt:=pA.lt
 obtain⟨p,q,hA,zr,rfl,tL,Uz⟩:=pA
 rw[hp]at hA
 rw[Aw]at zr
 obtain⟨rfl,rfl⟩:gs=[]/\q=[]:=by
  cases gs with
  |nil=>exact⟨rfl,zr⟩
  |cons g r=>exact absurd zr (by intro h;cases h)
 have hval:∀(j:Nat) t v,ts[j]?=some t->args.toList[j]?=some v->Value.okWide C.prog W .any base t v:=λj t v h1 h2=>N4 j t v (by rw[<-hp]at h1;simpa using h1) (by simpa using h2)
 have e:(fn.params.toList++s.plain.varTypes C.prog)=ts:=by rw[hp];simp[DataSpec.varTypes,ChangeSpec.plain,Aw]
 rw[e,List.append_nil,List.all_eq_true]at hsz
 obtain⟨zs,hz,hat,hlen⟩:=Hl ub hval hA λn hn=>by simpa using hsz n hn
 have kD:args=args.toList.toArray:=by simp
 rw[kD]at hx
 have zD:Calls C.prog f args W λe jm=>e= .returned (.bool true)/\W.Extends jm:=by
  have:=contract W zs args.toList hz hat hx eQ
  rwa [<-kD]at this
 refine zD.mono λe jm ⟨he,hw⟩=>?_
 subst he
 have tK:=hs (xs++[]) (by simp[hlen])
 have Mj:Below W.heap.size W jm:=⟨hw.os,hw.tape,hw.output,hw.size,λi hi=>hw.block i hi⟩
 refine⟨_,rfl,_,_,_,[],p,[],LN,?_,?_,?_,OQ hw _,λh=>by cases h⟩
 ·rw[tK,hr,cW];exact trodAll_mk1 (shut_bool rX true)
 ·rw[tK,hp,List.append_nil]
  exact IK ix Mj (λt ht=>by
   have:=List.all_eq_true.1 ng t ht
   simpa using this) hA λx hx=>hlt x (by simp[hx])
 ·rw[tK,Aw];rfl
section
variable {gl:cF} {wb:World} {sh:Nat->List Nat×List Nat} {SB:Nat->List (List Int)->List (List Int)->Prop}
def fg (SB:Nat->List (List Int)->List (List Int)->Prop) (res:List bh) (id:Nat):List (List Int)->List (List Int)->Prop:=λzs rs=>bb (cw res) rs.flatten/\SB id zs rs
theorem Kc {c:cB} {eY:lS} {aL:dp} {li:FuncId->Nat->Option dh} {rounds d:Nat} {cJ:Nat->List Nat} {lens:List Nat} (hm:P.follows .mixedOrders=true) (bV:∀r ex ro,fr (dc sh SB) P gl ⟨wb,r,ex,ro,[]⟩ aL) (hg:ey gl ⟨wb,wb,λ_=>False,λ_=>False,[]⟩)
 (kE:∀(L:V->Env->Prop) (r:World) (ro:Nat->Prop),qG (dc sh SB) L ⟨wb,r,λ_=>False,ro,[]⟩ P eY) (hf:ru P c.f=true) (hl:lens=(sh c.id).1) (hd:qk c.res=(sh c.id).2)
 (hv:jL sh cJ SB (fg SB c.res c.id) lens (cw c.args) c.res (c.tree eY P gl aL li rounds d)):c.Ok P wb (dc sh SB c.id):=by
 refine cB.P7 (li:=li) (rounds:=rounds) (d:=d) hm bV hg kE (enters hf) (o4 λzs hz=>?_)
 have h:=mP (JI hv) hz
 simp only[fg,Ca]at h
 rw[hl,hd]at h
 exact h
theorem O3 {c:cB} {W:World} {vs:List Value} {zs:List Int} (hc:c.Ok P W (dc sh SB c.id)) (ja:c.res=[.d .bool]) (hV:c.pre=0) (hz:bb (cw c.args) zs) (hat:ft (λg=>g<W.heap.size) (λ_=>False) W c.args zs vs) (h1:∀a z,SB c.id a [[z]]->z=1) (h2:(sh c.id).2=[1]):
 Calls P c.f vs.toArray W λe jm=>e= .returned (.bool true)/\W.Extends jm:=by
 refine(hc.2 _ W vs zs (World.Extends.refl W) hz (by rw[hV];trivial) hat).mono λe jm ⟨hx,rs,us,hb,hs,hr,he⟩=>⟨?_,hx⟩
 rw[ja]at hb hr
 match rs,hb,us,hr,hs,he with
 |[z],hb,[u],hr,hs,he=>
  unfold dc at hs
  rw[h2]at hs
  have e1:z=1:=h1 _ z hs
  subst e1
  have:u= .bool true:=hr.1
  subst this
  rw[he];rfl
 |[z],hb,[],hr,hs,he=>exact hr.elim
 |[z],hb,_::_::_,hr,hs,he=>exact hr.2.elim
 |[],hb,_,_,_,_=>exact hb.elim
 |_::_::_,hb,_,_,_,_=>exact hb.2.2.elim
end
end Go.aZ
namespace Go.aZ
open M
def eX (w w':World) (own:Option Nat):Prop:=
 w'.os=w.os/\w'.tape=w.tape/\w'.output=w.output/\w.heap.size<=w'.heap.size/\∀k:Nat,k<w.heap.size->own≠some k->w'.heap[k]?=w.heap[k]?
structure TY where
 f:FuncId
 id:Nat
 sh:List ag
 e:TypeId
 args:List bh
 pre:Nat:=0
def ql:Value->Option Nat
 | .slice (some a) _ (_+1)=>some a.block
 |_=>none
section
variable {S:Nat->List Int->List Int->Prop} {L:V->Env->Prop} {w0:b5} {P:Program}
theorem eX.ext {w w':World} (h:eX w w' none):w.Extends w':=by
 obtain⟨n1,cA,jg,P2,uB⟩:=h
 have jY:∀i:Nat,i<w.heap.size->w'.heap[i]?=w.heap[i]?:=λi hi=>uB i hi (λe=>by cases e)
 exact⟨n1,cA,jg,P2,λa ha=>by simp only[World.cell?,jY a.block ha],λa ha=>by simp only[World.frozen?,jY a.block ha],jY⟩
end
end Go.aZ
