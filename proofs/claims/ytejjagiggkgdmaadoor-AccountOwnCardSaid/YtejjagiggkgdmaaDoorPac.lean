/- The evaluator's soundness,whole. -/
import Derived.Test.YtejjagiggkgdmaaDoorPab
import Derived.Laws.Externs
import Derived.ChangeMaps5
import Derived.ChangeSame
import Derived.OpenShut
import Derived.Handed
import Derived.ProofKit
import Derived.LaidMore
import Derived.Stop.Joined
import Derived.HandedShaped
import Derived.SizedLaws
import Derived.Carry

set_option linter.unusedVariables false
set_option linter.unusedSimpArgs false
namespace Go.aZ
open M
section
variable {S:Nat->List Int->List Int->Prop} {L:V->Env->Prop} {w0:b7} {P:Program} {gl:cN} {aN:dx} {rd:Option Nat}
def q7 (S:Nat->List Int->List Int->Prop) (L:V->Env->Prop) (w0:b7) (k:kJ) (n nb:Nat) (ρ:Env) (m:Nat->Nat) (G:b6) (Q:Exit->Act->World->Prop):Prop:=
 ∀x n' aa m' bf aB ch cf w',bJ n nb ρ m n' (List.length aB) aa m'->cw n G ch->R w0 n' aa m' bf aB cf w'->(k x n' bf aB).holds S L ch aa->Q x.to cf w'
theorem q7.later {k:kJ} {n nb n1 oR:Nat} {ρ aj:Env} {m kz:Nat->Nat} {G G1:b6} {Q:Exit->Act->World->Prop} (h:q7 S L w0 k n nb ρ m G Q) (hl:bJ n nb ρ m n1 oR aj kz) (hA:cw n G G1):q7 S L w0 k n1 oR aj kz G1 Q:=
 λx n' aa m' bf aB ch cf w' h1 h2 h3 h4=>h x n' aa m' bf aB ch cf w' (hl.trans h1) (hA.trans h2 hl.hn) h3 h4
def yD (rd:Option Nat) (S:Nat->List Int->List Int->Prop) (L:V->Env->Prop) (w0:b7) (P:Program) (c:Code) (e:Nat->List V->List ag->kJ->T):Prop:=(rd=none∨iC c=true)->
 ∀n tm bl k G ρ m a w Q,R w0 n ρ m tm bl a w->(e n tm bl k).holds S L G ρ->q7 S L w0 k n bl.length ρ m G Q->c.wpIn (j5 rd) 0 P Q a w
theorem IC {c:Code} {e:Nat->List V->List ag->kJ->T} (hd:rd=none∨iC c=true) (he:yD rd S L w0 P c e) {Q:Exit->Act->World->Prop}:∀(r:Nat) {n:Nat} {ρ:Env} {m:Nat->Nat} {tm:List V} {bl:List ag} {a:Act} {w:World} {G:b6} {k:kJ},
 R w0 n ρ m tm bl a w->(Cc e r n tm bl k).holds S L G ρ->q7 S L w0 k n bl.length ρ m G Q->Code.roundsIn (j5 rd) 0 P c Q r a w
 |0,_,_,_,_,_,_,_,_,_,_,ad,_=>ad.elim
 |r+1,n,ρ,m,tm,bl,a,w,G,k,h,ad,hk=>by
  rw[roundsIn_succ]
  refine he hd n tm bl _ G ρ m a w _ h ad λx n' aa m' bf aB ch cf w' h1 h2 h3 h4=>?_
  cases x with
  |normal=>exact IC hd he r h3 h4 (hk.later h1 h2)
  |exit id=>exact hk (.exit id) n' aa m' bf aB ch cf w' h1 h2 h3 h4
  |ret=>exact hk .ret n' aa m' bf aB ch cf w' h1 h2 h3 h4
theorem JX {n nb:Nat} {ρ:Env} {m:Nat->Nat} {tm:List V} {xs:Array Value} (h:bU n nb ρ m tm xs):pj n nb ρ m tm xs.toList:=DF (by simpa using h)
def ly (w0:b7) (ρ:Env) (m:Nat->Nat) (bl:List ag) (w:World) (D:Nat->Prop):Prop:=
 ∀(i:Nat) (sh:List ah) (off code cap:I) (kind:Nat) (t:TypeId×Bool),bl[i]?=some ([.rows sh off code cap kind],t)->eI w0 ρ D (m i) sh off code cap kind t.1 w
theorem M6 {D:Nat->Prop} {li:di} {n:Nat} {aY aa:Env} {m0 m':Nat->Nat} {tm bf fP n4:List V} {bl aB dz nf:List ag} {l1 l2 v1 v2 ext:List I} {b1 b2 rk py:List (Int×Int)} {n':Nat} {a:Act} {w:World}
 (hlen:bl.length<=aB.length)
 (ha:agree n aY aa) (hm:∀b,b<bl.length->m' b=m0 b) (ht:∀v∈tm,V.ok n bl.length aY v) (fK:bn n bl.length aY bl)
 (h:R w0 n' aa m' bf aB a w) (e1:hs li.keep li.ints 0 (n+1) tm=some (fP,l1,b1)) (e2:hb li.cells 0 (n+1+l1.length) bl=some (dz,l2,b2))
 (e3:hs li.keep li.ints 0 (n+1) bf=some (n4,v1,rk)) (dL:hb li.cells 0 (n+1+v1.length) (aB.take bl.length)=some (nf,v2,py))
 (f1:hT fP n4=true) (f2:ji dz nf=true) (ns:∀g,D g->a7 w0 aa m' aB g) (hU:ly w0 aa m' aB w D):
 v1.length+v2.length=l1.length+l2.length/\bb (b1++b2) ((v1++v2).map (·.den aa))/\R w0 (n+1+l1.length+l2.length+ext.length) (bm aY (n+1) ((v1++v2++ext).map (·.den aa))) m0 fP dz a w/\dz.length=bl.length/\(∀(i:Nat) (p:ag),dz[i]?=some p->i<bl.length/\∃bo:ag,aB[i]?=some bo/\aG (bm aY (n+1) ((v1++v2++ext).map (·.den aa))) p.1=aG aa bo.1)/\(∀g,D g->a7 w0 (bm aY (n+1) ((v1++v2++ext).map (·.den aa))) m0 dz g)/\ly w0 (bm aY (n+1) ((v1++v2++ext).map (·.den aa))) m0 dz w D:=by
 have z1:agree n aY (bm aY (n+1) ((v1++v2++ext).map (·.den aa))):=(agree.bm _ (n+1) aY).mono (by omega)
 have oE:∀j,j<(v1++v2).length->bm aY (n+1) ((v1++v2++ext).map (·.den aa)) (n+1+j)=((v1++v2).getD j (.const 0)).den aa:=λj hj=>by
  rw[vF _ _ _ j (by simp at hj⊢;omega)]
  have jU:j<(v1++v2++ext).length:=by simp at hj⊢;omega
  have e:(v1++v2++ext)[j]=(v1++v2)[j]:=List.getElem_append_left hj
  simp only[List.getD,List.getElem?_map,List.getElem?_eq_getElem hj,List.getElem?_eq_getElem jU,Option.map_some,Option.getD_some,e]
 have xf:v1.length+v2.length=(v1++v2).length:=by simp
 obtain⟨p1,bd,bx⟩:=uG (N:=n+1+v1.length+v2.length+ext.length) ha z1 hm (by omega) ht (JX h.t) e1 e3 f1 (λj hj=>by
  rw[oE j (by simp;omega),Fl hj]) (by omega)
 rw[<-bx]at e2
 have MO:bn n' aB.length aa (aB.take bl.length):=λp hp=>h.b p (List.mem_of_mem_take hp)
 obtain⟨q1,q2,q3,q4⟩:=FL (N:=n+1+v1.length+v2.length+ext.length) ha z1 hm (by omega) fK MO e2 dL f2 (λj hj=>by
  rw[show n+1+v1.length+j=n+1+(v1.length+j) by omega,oE (v1.length+j) (by simp;omega),Fm]) (by omega)
 have hbl:dz.length=bl.length:=(wV e2).2
 refine⟨by omega,by rw[List.map_append];exact nL bd q2,?_⟩
 rw[<-bx,<-q3]
 have rV:∀(i:Nat) (p:ag),dz[i]?=some p->i<bl.length/\∃bo:ag,aB[i]?=some bo/\bk p.1=bk bo.1/\p.2=bo.2/\(bk p.1=false->∃sh off code code' cap k,p.1=[.rows sh off code cap k]/\bo.1=[.rows sh off code' cap k]/\off.aC n/\cap.aC n):=λi p hi=>by
  have eg:i<bl.length:=by rw[<-hbl];exact(List.getElem?_eq_some_iff.1 hi).1
  obtain⟨bo,h1,h2,pR,h3⟩:=z7 dL i p (E4 f2 i p hi)
  rw[List.getElem?_take,if_pos eg]at h1
  obtain⟨p0,g1,_,_,g3⟩:=z7 e2 i p hi
  refine⟨eg,bo,h1,h2,pR,λho=>?_⟩
  obtain⟨sh,off,code,code',cap,k,s1,s2⟩:=h3 ho
  obtain⟨bH,cl,c1,ax,cj,aE,mS,vv⟩:=g3 ho
  rw[s1]at mS
  cases mS
  have aJ:A.ok n bl.length aY (.rows sh off ax cap k):=fK _ (List.mem_of_getElem? g1) _ (by rw[vv];simp)
  exact⟨sh,off,code,code',cap,k,s1,s2,aJ.1.1,aJ.1.2.2⟩
 have z6:agree n aa (bm aY (n+1) ((v1++v2++ext).map (·.den aa))):=ha.sym.trans z1 (Nat.le_refl _)
 have hk2:∀(p bo:ag),bk p.1=bk bo.1->(bk p.1=false->∃sh off code code' cap k,p.1=[.rows sh off code cap k]/\bo.1=[.rows sh off code' cap k]/\off.aC n/\cap.aC n)->aG (bm aY (n+1) ((v1++v2++ext).map (·.den aa))) p.1=aG aa bo.1:=λp bo h1 h2=>by
  cases ho:bk p.1 with
  |true=>rw[iW ho,iW (h1▸ho)]
  |false=>
   obtain⟨sh,off,code,code',cap,k,s1,s2,mS,vv⟩:=h2 ho
   rw[s1,s2]
   simp only[aG]
   rw[I.aQ z6 vv]
 have hrel:∀(F:Nat->Prop),ly w0 aa m' aB w F->ly w0 (bm aY (n+1) ((v1++v2++ext).map (·.den aa))) m0 dz w F:=λF hF i sh off code cap kind t hi=>by
  obtain⟨eg,bo,k1,_,k2,k3⟩:=rV i _ hi
  obtain⟨bH,cl,c1,ax,cj,aE,s1,s2,mS,vv⟩:=k3 rfl
  cases s1
  obtain⟨C,t'⟩:=bo
  simp only at s2 k2
  subst s2;subst k2
  obtain⟨c',h1,h2⟩:=q4 i _ t hi
  rw[List.getElem?_take,if_pos eg,k1]at h1
  cases h1
  simp only[List.map_cons,List.map_nil,A.den,List.cons.injEq,Value.int.injEq,and_true,true_and]at h2
  rw[<-hm i eg]
  have hR:=hF i sh off ax cap kind t k1
  unfold eI at hR⊢
  rw[I.aQ z6 mS,I.aQ z6 vv,h2]
  exact hR
 have nD:∀g,a7 w0 aa m' aB g->a7 w0 (bm aY (n+1) ((v1++v2++ext).map (·.den aa))) m0 dz g:=a7.mono λi p hi hk=>by
  obtain⟨g1,bo,g2,g3,_,g4⟩:=rV i p hi
  exact⟨i,bo,g2,by rw[<-hk2 p bo g3 g4];exact hk,hm i g1⟩
 refine⟨?_,hbl,λi p hi=>by
  obtain⟨g1,bo,g2,g3,_,g4⟩:=rV i p hi
  exact⟨g1,bo,g2,hk2 p bo g3 g4⟩,λg hg=>nD g (ns g hg),hrel D hU⟩
 refine⟨?_,h.d,by rw[hbl];exact q1,⟨h.aR.ext,h.aR.fN,h.aR.jv,h.aR.js,h.aR.eL,h.aR.jk,λi cs t hi ho=>?_,λi sh off code cap kind t hi=>?_,λi j p q hi hj he=>?_⟩⟩
 ·rw[hbl]
  have:=yR p1
  simpa using this
 ·obtain⟨c',h1,h2⟩:=q4 i cs t hi
  obtain⟨eg,bo,k1,k2,_⟩:=rV i _ hi
  rw[List.getElem?_take,if_pos eg,k1]at h1
  have h1:=Option.some.inj h1
  subst h1
  obtain⟨g1,fr,r,hr,g2⟩:=h.aR.dj i c' t k1 (k2▸ho)
  rw[<-hm i eg]
  exact⟨g1,fr,r,hr,by rw[h2];exact g2⟩
 ·exact(hrel _ h.aR.rws i sh off code cap kind t hi).mono nD
 ·obtain⟨eg,bo,k1,k2,_,k3⟩:=rV i p hi
  obtain⟨p7,fj,l1,l2,_,qz⟩:=rV j q hj
  rw[hk2 p bo k2 k3,hk2 q fj l2 qz]
  rw[<-hm i eg,<-hm j p7]at he
  exact h.aR.inj i j bo fj k1 l1 he
theorem bU.set {n nb:Nat} {ρ:Env} {m:Nat->Nat} {tm:List V} {xs:Array Value} {s:Nat} {v:V} (h:bU n nb ρ m tm xs) (hv:v.ok n nb ρ) (hr:∀x,xs[s]?=some x->v.rel ρ m x):bU n nb ρ m (l8 tm s v) xs:=by
 rw[Cv]
 refine⟨by simp[h.1],λi u hu=>?_⟩
 rw[List.getElem?_set]at hu
 split at hu
 ·rename_i Ol
  subst Ol
  split at hu
  ·rename_i hlt
   cases hu
   rw[h.1]at hlt
   exact⟨hv,_,Array.getElem?_eq_getElem hlt,hr _ (Array.getElem?_eq_getElem hlt)⟩
  ·cases hu
 ·exact h.2 i u hu
def qZ (tmps:Array Value):List Nat->List Int->Prop
 |[],[]=>True
 |s::r,z::zs=>(0<=z/\z<=1)/\(∀x,tmps[s]?=some x->x= .bool (decide (z=1)))/\qZ tmps r zs
 |_,_=>False
def pa (w0:b7) (w:World) (tmps:Array Value) (D:Nat->Prop) (F:Nat->Prop):List (Nat×List ah×TypeId)->List Int->Prop
 |[],[]=>True
 |(s,sh,e)::r,code::len::cap::zs=>∃g:Nat,(∀x,tmps[s]?=some x->x=if cap<0 then .slice (iI cap g) 0 0 else .slice (some ⟨g,0,none⟩) len.toNat cap.toNat)/\qU 0 0 len cap/\(0<=code/\code<=aF)/\(cap<0->ab code=[])/\
    (0<=cap->∃cells:Array Value,w.heap[g]?=some (.cells cells e (0,0))/\e7 D w cells 0 sh (ab code)/\cells.size=cap.toNat*sh.length/\w0.b.heap.size<=g/\(w0.ex g∨w0.r.heap.size<=g)/\∀a6,D a6->a6≠g)/\
    (0<=cap->F g)/\pa w0 w tmps D (λa6=>F a6/\(0<=cap->a6≠g)) r zs
 |_,_=>False
theorem y7 {nb:Nat} {tm:List V} {m:Nat->Nat} {tmps:Array Value}:∀{l:List Nat} {n:Nat} {ρ:Env},bU n nb ρ m tm tmps->ae S L (tA tm l) n ρ λaa n' ls=>(∀x∈ls,I.aC n' x)/\ls.length=l.length/\qZ tmps l (ls.map (·.den aa))
 |[],n,ρ,ht=>ae.pure ⟨λ_ h=>by simp at h,rfl,trivial⟩
 |s::r,n,ρ,ht=>by
  unfold tA
  split
  ·rename_i e hs
   obtain⟨h1,x,h2,h3⟩:=ht.2 s _ hs
   have h3:x= .bool (e.den ρ):=h3
   have key:ae S L (match e with| .lit v=>pure (I.const (cond v 1 0))|e=>qs e) n ρ λaa n' l=>l.aC n'/\(0<=l.den aa/\l.den aa<=1)/\e.den ρ=decide (l.den aa=1):=by
    cases e with
    |lit v=>cases v<;>exact ae.pure ⟨I.bt _ _,by simp only[I.aA];decide,by simp only[I.aA,aD.den];rfl⟩
    |_=>exact xu
   refine key.bind λaj n1 l hn ha ⟨g1,g2,g3⟩=>(y7 (l:=r) (ht.ext ha hn (Nat.le_refl _) (λ_ _=>rfl))).bind λaL cq ls bZ bM ⟨k1,k2,k3⟩=>ae.pure ⟨λy hy=>?_,by simp[k2],?_⟩
   ·rcases List.mem_cons.1 hy with rfl|hy
    ·exact g1.mono bZ
    ·exact k1 y hy
   ·have e1:=I.aQ bM g1
    simp only[List.map_cons,qZ,e1]
    refine⟨g2,λy hy=>?_,k3⟩
    rw[h2]at hy
    cases hy
    rw[h3,g3]
  ·exact ae.fail
theorem tL {nb:Nat} {m:Nat->Nat} {tmps:Array Value}:∀{l:List (Nat×Int×Int)} {tm:List V} {n:Nat} {ρ:Env},bU n nb ρ m tm tmps->ae S L (pL l tm) n ρ λaa n' bf=>bU n' nb aa m bf tmps
 |[],tm,n,ρ,ht=>ae.pure ht
 |(s,lo,hi)::r,tm,n,ρ,ht=>by
  unfold pL
  split
  ·rename_i k x hs
   cases hc:(decide (lo<=x.lo)&&decide (x.hi<=hi))with
   |true=>simp only[cond_true];exact tL ht
   |false=>
    simp only[cond_false]
    refine dm λhk=>?_
    simp only[List.map_cons,List.map_nil,az,I.aA]at hk
    obtain⟨h1,y,h2,h3⟩:=ht.2 s _ hs
    have h1:x.ok n ρ:=h1
    exact tL (ht.set (v:= .w (.one (.int k ⟨x.l,lo,hi⟩))) ⟨h1.1,hk.1,hk.2⟩ λz hz=>by
     rw[h2]at hz;cases hz;exact h3)
  ·exact tL ht
theorem vR {n lo:Nat} {ρ:Env} {m:Nat->Nat} {tm:List V} {bl:List ag} {a:Act} {w:World} (h:R w0 n ρ m tm bl a w):∀{l:List (Nat×List ah×TypeId)} {used:List Nat} {ls:List I} {u:List Nat},mj lo l tm bl used=some (ls,u)->
 (∀x∈ls,I.aC n x)/\ls.length=(pr l).length/\(∀b∈used,b∈u)/\(∀b∈u,b∈used∨lo<=b)/\∀F:Nat->Prop,(∀(b:Nat) (p:ag),b∈u->b∉used->bl[b]?=some p->aG ρ p.1=2->bk p.1=false->F (m b))->pa w0 w a.tmps (a7 w0 ρ m bl) F l (ls.map (·.den ρ))
 |[],used,ls,u,he=>by
  simp only[mj,Option.some.injEq,Prod.mk.injEq]at he
  obtain⟨rfl,rfl⟩:=he
  exact⟨λ_ h=>by simp at h,rfl,λ_ h=>h,λ_ h=> .inl h,λ_ _=>trivial⟩
 |(s,sh,e)::r,used,ls,u,he=>by
  unfold mj at he
  split at he
  ·rename_i hs
   split at he
   ·rename_i l1 n5 hr
    simp only[Option.some.injEq,Prod.mk.injEq]at he
    obtain⟨rfl,rfl⟩:=he
    obtain⟨g1,g2,g3,g4,g5⟩:=vR h hr
    refine⟨λx hx=>?_,by simp[pr]at g2⊢;omega,g3,g4,λF hF=>⟨0,λx hx=>?_,?_,?_,?_,?_,?_,?_⟩⟩
    ·simp only[List.mem_cons]at hx
     rcases hx with rfl|rfl|rfl|hx
     ·exact I.bt _ _
     ·exact I.bt _ _
     ·exact I.bt _ _
     ·exact g1 x hx
    ·obtain⟨_,y,h2,h3⟩:=h.t.2 s _ hs
     rw[h2]at hx;cases hx
     have tG:(I.const (-1)).den ρ<0:=by rw[I.aA];decide
     simp only[tG,if_true]
     exact h3
    ·simp only[I.aA];exact⟨⟨by omega,by omega,by omega,by omega⟩,⟨by omega,by omega⟩,λ_=>rfl,λh=>by omega⟩
    ·simp only[I.aA];exact⟨Int.le_refl _,Int.le_trans (cL []) (jD (l:=[]) (by simp) (by simp))⟩
    ·intro _;simp only[I.aA];exact kD
    ·simp only[I.aA];intro h;omega
    ·simp only[I.aA];intro h;omega
    ·refine g5 _ λb p hb hu hbl hk ho=>⟨hF b p hb hu hbl hk ho,?_⟩
     simp only[I.aA];intro h;omega
   ·cases he
  ·rename_i b ay o ro len cap hs
   split at he
   ·rename_i bH off code bI kind t hbl
    cases hc:(gj sh bH&&Nat.beq kind 2&&I.beq o (.const 0)&&I.beq off (.const 0)&&I.beq ro (.const 0)&&I.beq cap bI&&Nat.beq t.1 e&&Nat.beq ay sh.length&&Nat.ble lo b&& !(used.any (Nat.beq b)))with
    |false=>rw[hc]at he;cases he
    |true=>
     rw[hc]at he
     simp only[cond_true]at he
     split at he
     ·rename_i l1 n5 hr
      simp only[Option.some.injEq,Prod.mk.injEq]at he
      obtain⟨rfl,rfl⟩:=he
      simp only[Bool.and_eq_true]at hc
      obtain⟨⟨⟨⟨⟨⟨⟨⟨⟨c1,ax⟩,bh⟩,bu⟩,cP⟩,dY⟩,kO⟩,kP⟩,oj⟩,zb⟩:=hc
      have c1:=l9 c1;have ax:=Nat.eq_of_beq_eq_true ax;have bh:=I.beq_eq bh;have bu:=I.beq_eq bu;have cP:=I.beq_eq cP;have dY:=I.beq_eq dY
      have kO:=Nat.eq_of_beq_eq_true kO;have kP:=Nat.eq_of_beq_eq_true kP;have oj:=Nat.le_of_ble_eq_true oj
      have NY:b∉used:=λhb=>by
       have:used.any (Nat.beq b)=true:=List.any_eq_true.2 ⟨b,hb,Nat.beq_refl b⟩
       rw[this]at zb;cases zb
      subst c1;subst ax;subst bh;subst bu;subst cP;subst dY;subst kO;subst kP
      obtain⟨g1,g2,g3,g4,g5⟩:=vR h hr
      obtain⟨aJ,y,h2,h3⟩:=h.t.2 s _ hs
      have aJ:(A.sl b sh.length (.const 0) (.const 0) len cap).ok n bl.length ρ:=aJ
      obtain⟨x1,⟨dV,e0,fv,fR⟩,gn⟩:=aJ
      simp only[I.aA]at gn
      have cQ:(A.rows sh (.const 0) code cap 2).ok n bl.length ρ:=h.b _ (List.mem_of_getElem? hbl) _ (by simp)
      obtain⟨⟨r1,r2,dP⟩,n2,sR⟩:=cQ
      have ew:=h.aR.rws b sh (.const 0) code cap 2 t hbl (by decide)
      refine⟨λx hx=>?_,by simp[pr]at g2⊢;omega,λbq hb'=>g3 bq (List.mem_cons_of_mem _ hb'),λbq hb'=>?_,λF hF=>⟨m b,λx hx=>?_,gn,n2,ew.1,λh0=>?_,λh0=>?_,?_⟩⟩
      ·simp only[List.mem_cons]at hx
       rcases hx with rfl|rfl|rfl|hx
       ·exact r2
       ·exact fv
       ·exact fR
       ·exact g1 x hx
      ·rcases g4 bq hb' with h5|h5
       ·rcases List.mem_cons.1 h5 with rfl|h5
        ·exact .inr oj
        ·exact .inl h5
       ·exact .inr h5
      ·have A3:y=x:=Option.some.inj (h2.symm.trans hx)
       subst A3
       have h3:y=(A.sl b sh.length (.const 0) (.const 0) len cap).den ρ m:=h3
       rw[h3]
       simp only[A.den,I.aA]
       split<;>simp
      ·obtain⟨_,cells,ec,fz,k1,⟨k2,k3⟩,k4⟩:=ew.2 h0
       obtain⟨gT,l4,qu,O6,O7,O8⟩:=k4 (by decide)
       subst gT
       have qu:=qu.two
       subst qu
       rw[I.aA]at k3
       exact⟨cells,k1,k3,O6,O7,O8,λa6 gv e=>gv.2 b _ hbl (by rw[ff (by decide) h0];exact Nat.le_refl 2) e.symm⟩
      ·exact hF b _ (g3 b (by simp)) NY hbl (ff (by decide) h0) rfl
      ·refine g5 _ λbq p hb' hu FP hk ho=>⟨hF bq p hb' (λh=>hu (List.mem_cons_of_mem _ h)) FP hk ho,λh0=>?_⟩
       have ea:aG ρ [A.rows sh (.const 0) code cap 2]=2:=ff (by decide) h0
       exact h.aR.ne FP hbl (by rw[hk];exact Nat.le_refl 2) (by simp only[ea];decide) λe=>hu (by simp[e])
     ·cases he
   ·cases he
  ·cases he
theorem H2 {c:List A} (h:bk c=false):∃sh off code cap k,c=[.rows sh off code cap k]:=by
 unfold bk at h
 split at h
 ·exact⟨_,_,_,_,_,rfl⟩
 ·cases h
theorem Bk {n:Nat} {ρ:Env} {m:Nat->Nat} {tm:List V} {a:Act} {w:World}:∀{us:List Nat} {bl:List ag},R w0 n ρ m tm bl a w->R w0 n ρ m tm (gA us bl) a w/\(gA us bl).length=bl.length/\∀(i:Nat) (p:ag),(gA us bl)[i]?=some p->(bl[i]?=some p/\(i∈us->bk p.1=true∨aG ρ p.1=0))∨aG ρ p.1=0
 |[],bl,h=>⟨h,rfl,λi p hp=> .inl ⟨hp,λh=>by simp at h⟩⟩
 |b::r,bl,h=>by
  unfold gA
  split
  ·rename_i sh off code cap k t hbl
   obtain⟨g1,g2,g3⟩:=Bk (us:=r) (h.kill hbl)
   refine⟨g1,by rw[g2,eY],λi p hp=>?_⟩
   rcases g3 i p hp with⟨g4,g5⟩|g4
   ·by_cases eg:i=b
    ·subst eg
     rw[gi,List.getElem?_set_self (List.getElem?_eq_some_iff.1 hbl).1]at g4
     cases g4
     exact .inr (by simp[aG])
    ·rw[gi,List.getElem?_set_ne (λe=>eg e.symm)]at g4
     exact .inl ⟨g4,λhi=>g5 (by simpa [eg]using hi)⟩
   ·exact .inr g4
  ·rename_i eV
   obtain⟨g1,g2,g3⟩:=Bk (us:=r) h
   refine⟨g1,g2,λi p hp=>?_⟩
   rcases g3 i p hp with⟨g4,g5⟩|g4
   ·refine .inl ⟨g4,λhi=>?_⟩
    rcases List.mem_cons.1 hi with rfl|hi
    ·cases ho:bk p.1 with
     |true=>exact .inl rfl
     |false=>
      exfalso
      obtain⟨c,t⟩:=p
      obtain⟨sh,off,code,cap,k,rfl⟩:=H2 ho
      exact eV _ _ _ _ _ _ g4
    ·exact g5 hi
   ·exact .inr g4
theorem F5 {N:Nat} {aL:Env} {m:Nat->Nat} {bl:List ag} {a:Act} {w:World}:∀{l:List Nat} {zs:List Int} {v:Nat} {tm:List V},R w0 N aL m tm bl a w->qZ a.tmps l zs->(∀j,j<zs.length->aL (v+j)=zs.getD j 0)->v+zs.length<=N->R w0 N aL m (lO l v tm) bl a w
 |[],[],v,tm,h,_,_,_=>h
 |s::r,z::zs,v,tm,h,hb,hv,hN=>by
  unfold lO
  have h0:=hv 0 (by simp)
  simp only[Nat.add_zero,List.getD_cons_zero]at h0
  simp only[List.length_cons]at hN
  refine F5 (l:=r) (zs:=zs) ⟨bU.set h.t ?_ λx hx=>?_,h.d,h.b,h.aR⟩ hb.2.2 (λj hj=>by
   have:=hv (j+1) (by simpa using hj)
   rw[show v+1+j=v+(j+1) by omega];simpa using this) (by omega)
  ·exact⟨I.cA (by omega),I.bt _ _⟩
  ·rw[hb.2.1 x hx]
   simp[V.rel,W.den,A.den,aD.den,I.bc,I.aA,h0]
 |[],_::_,_,_,_,h,_,_=>h.elim
 |_::_,[],_,_,_,h,_,_=>h.elim
theorem F4 {N:Nat} {aL:Env} {a:Act} {w:World}:∀{l:List (Nat×List ah×TypeId)} {zs:List Int} {v:Nat} {tm:List V} {bl:List ag} {m:Nat->Nat} {D F:Nat->Prop},R w0 N aL m tm bl a w->(∀g,D g->a7 w0 aL m bl g)->ly w0 aL m bl w D->pa w0 w a.tmps D F l zs->(∀g,F g->∀(i:Nat) (p:ag),bl[i]?=some p->m i=g->aG aL p.1=0)->
 (∀j,j<zs.length->aL (v+j)=zs.getD j 0)->v+zs.length<=N->∃db,(∀b,b<bl.length->db b=m b)/\bl.length<=(kn l v tm bl).2.length/\R w0 N aL db (kn l v tm bl).1 (kn l v tm bl).2 a w
 |[],[],v,tm,bl,m,D,F,h,_,_,_,_,_,_=>⟨m,λ_ _=>rfl,Nat.le_refl _,h⟩
 |(s,sh,e)::r,code::len::cap::zs,v,tm,bl,m,D,F,h,ns,hU,hf,hF,hv,hN=>by
  obtain⟨g,f1,f2,f3,f4,f5,f6,f7⟩:=hf
  have v0:=hv 0 (by simp)
  have v1:=hv 1 (by simp)
  have v2:=hv 2 (by simp)
  simp only[List.getD_cons_zero,List.getD_cons_succ,Nat.add_zero]at v0 v1 v2
  simp only[List.length_cons]at hN
  have hc:(-2:Int)<=cap/\cap<=9223372036854775807:=⟨f2.2.1.1,by have:=f2.2.1.2;omega⟩
  have hA:(A.rows sh (.const 0) (.var v) (.var (v+2)) 2).ok N bl.length aL:=⟨⟨I.bt _ _,I.cA (by omega),I.cA (by omega)⟩,by rw[I.bc,v0];exact f3,by rw[I.bc,v2];exact hc⟩
  have pT:∀a6,D a6->a7 w0 aL (ed m bl.length g) (bl++[([.rows sh (.const 0) (.var v) (.var (v+2)) 2],(e,false))]) a6:=λa6 gv=>(ns a6 gv).push (by
   rcases Int.lt_or_le cap 0 with h0|h0
   ·refine .inl ?_
    simp only[aG,I.bc,v2]
    rw[if_pos h0];decide
   ·obtain⟨_,_,_,_,_,_,qu⟩:=f5 h0
    exact .inr (qu a6 gv))
  have fM:eI w0 aL D g sh (.const 0) (.var v) (.var (v+2)) 2 e w:=by
   intro _
   simp only[I.bc,v0,v2,I.aA]
   refine⟨f4,λh0=>?_⟩
   obtain⟨cells,k1,k2,k3,k4,l4,_⟩:=f5 h0
   exact⟨l4.elim .inl λh=> .inr (.inr h),cells,e,(0,0),k1,⟨Int.le_refl _,k2⟩,λ_=>⟨rfl,by trivial,.u4,k3,k4,l4⟩⟩
  have zU:ly w0 aL (ed m bl.length g) (bl++[([.rows sh (.const 0) (.var v) (.var (v+2)) 2],(e,false))]) w D:=λi bH cl code' cj df t' hi=>by
   rcases vf hi with⟨bY,h1⟩|⟨rfl,h1⟩
   ·rw[eZ bY];exact hU i bH cl code' cj df t' h1
   ·cases h1
    rw[gm];exact fM
  have gO:=h.aR.push (x:=([.rows sh (.const 0) (.var v) (.var (v+2)) 2],(e,false))) (g:=g) h.b (λy hy=>by simp at hy;subst hy;exact hA) (λho=>by cases ho) (λbH cl code' cj df he=>by
   cases he
   exact fM.mono pT) (λi p hi he=>by
   rcases Int.lt_or_le cap 0 with h0|h0
   ·refine .inr (.inr ?_)
    simp only[aG,I.bc,v2]
    rw[if_pos h0]
   ·exact .inr (.inl (hF g (f6 h0) i p hi he))) (λi bH cl code' cj df t' hi=>(hU i bH cl code' cj df t' hi).mono pT)
  have hL:=bJ.alloc N aL m bl ([A.rows sh (.const 0) (.var v) (.var (v+2)) 2],(e,false)) g
  have hR:R w0 N aL (ed m bl.length g) (l8 tm s (.w (.one (.sl bl.length sh.length (.const 0) (.const 0) (.var (v+1)) (.var (v+2)))))) (bl++[([.rows sh (.const 0) (.var v) (.var (v+2)) 2],(e,false))]) a w:=by
   refine⟨bU.set (h.t.ext hL.ha hL.hn hL.hb hL.hm) ?_ λx hx=>?_,h.d,h.b.alloc (λy hy=>by simp at hy;subst hy;exact hA),gO⟩
   ·refine⟨by simp,⟨I.bt _ _,I.bt _ _,I.cA (by omega),I.cA (by omega)⟩,?_⟩
    simp only[I.aA,I.bc,v1,v2];exact f2
   ·rw[f1 x hx]
    simp only[V.rel,W.den,A.den,I.aA,I.bc,v1,v2,gm]
    split<;>simp
  obtain⟨db,q1,q2,q3⟩:=F4 (l:=r) (zs:=zs) (v:=v+3) hR pT zU f7 (λa6 gv i p hi he=>by
   rw[List.getElem?_append]at hi
   split at hi
   ·rename_i bY
    rw[eZ bY]at he
    exact hF a6 gv.1 i p hi he
   ·have bY:=(List.getElem?_eq_some_iff.1 hi).1
    have:i=bl.length:=by simp at bY;omega
    subst this
    simp only[Nat.sub_self,List.getElem?_cons_zero,Option.some.injEq]at hi
    subst hi
    rw[gm]at he
    rcases Int.lt_or_le cap 0 with h0|h0
    ·simp only[aG,I.bc,v2]
     rw[if_pos h0]
    ·exact absurd he.symm (gv.2 h0)) (λj hj=>by
   have:=hv (j+3) (by simp only[List.length_cons];omega)
   rw[show v+3+j=v+(j+3) by omega];simpa using this) (by omega)
  simp only[List.length_append,List.length_cons,List.length_nil]at q1 q2
  exact⟨db,λb hb=>by rw[q1 b (by omega)];exact eZ hb,by unfold kn;omega,by unfold kn;exact q3⟩
 |[],_::_,_,_,_,_,_,_,_,_,_,h,_,_,_=>h.elim
 |_::_,[],_,_,_,_,_,_,_,_,_,h,_,_,_=>h.elim
 |_::_,[_],_,_,_,_,_,_,_,_,_,h,_,_,_=>h.elim
 |_::_,[_,_],_,_,_,_,_,_,_,_,_,h,_,_,_=>h.elim
theorem G3 {tmps:Array Value}:∀{l:List Nat} {zs:List Int},qZ tmps l zs->bb (wi l) zs
 |[],[],_=>trivial
 |s::r,z::zs,h=>⟨h.1.1,h.1.2,G3 h.2.2⟩
 |[],_::_,h=>h.elim
 |_::_,[],h=>h.elim
theorem G0 {w:World} {tmps:Array Value}:∀{l:List (Nat×List ah×TypeId)} {zs:List Int} {D F:Nat->Prop},pa w0 w tmps D F l zs->bb (pr l) zs
 |[],[],_,_,_=>trivial
 |(s,sh,e)::r,code::len::cap::zs,D,F,⟨g,f1,f2,f3,f4,f5,f6,f7⟩=>⟨f3.1,f3.2,f2.1.2.2.1,f2.1.2.2.2,f2.2.1.1,by have:=f2.2.1.2;omega,G0 f7⟩
 |[],_::_,_,_,h=>h.elim
 |_::_,[],_,_,h=>h.elim
 |_::_,[_],_,_,h=>h.elim
 |_::_,[_,_],_,_,h=>h.elim
theorem Mem.yg {n:Nat} {ρ:Env} {m:Nat->Nat} {bl:List ag} {w:World} {b c:Nat} {C:List A} {sh:List ah} {code:I} {t:TypeId×Bool} (h:Mem w0 ρ m bl w) (hbl:bl[b]?=some (C,t)) (ho:bk C=true) (ht:t.2=false)
 (hp:eP sh=true) (cX:∀row∈ab (code.den ρ),aS sh row) (ev:bz sh (ab (code.den ρ))=C.map (A.den ρ m)) (hlen:C.length=c*sh.length):Mem w0 ρ m (bP bl b ([.rows sh (.const 0) code (.const c) 2],t)) w:=by
 have iv:b<bl.length:=(List.getElem?_eq_some_iff.1 hbl).1
 obtain⟨q1,q2,r,hr,q3⟩:=h.dj b C t hbl ho
 have hr:=hr ht
 subst hr
 rw[List.append_nil]at q3
 have cy:∀(i:Nat) (p:ag),(bP bl b ([.rows sh (.const 0) code (.const c) 2],t))[i]?=some p->(i=b/\p=([.rows sh (.const 0) code (.const c) 2],t))∨(i≠b/\bl[i]?=some p):=λi p hi=>by
  rw[gi,List.getElem?_set]at hi
  split at hi
  ·rename_i dR
   subst dR
   simp only[iv,if_true,Option.some.injEq]at hi
   exact .inl ⟨rfl,hi.symm⟩
  ·rename_i dR;exact .inr ⟨λe=>dR e.symm,hi⟩
 have hk2:aG ρ [.rows sh (.const 0) code (.const c) 2]=2:=ff (by decide) (by rw[I.aA];omega)
 refine⟨h.ext,h.fN,h.jv,h.js,h.eL,h.jk,λi fG t' hi ia=>?_,λi bH cl code' cj df t' hi=>?_,λi j p q hi hj he=>?_⟩
 ·rcases cy i _ hi with⟨rfl,bE⟩|⟨hne,hi⟩
  ·cases bE;cases ia
  ·exact h.dj i fG t' hi ia
 ·rcases cy i _ hi with⟨rfl,bE⟩|⟨hne,hi⟩
  ·cases bE
   intro _
   simp only[I.aA]
   refine⟨λh0=>by omega,λ_=>⟨q2.elim .inl λh=> .inr (.inr h),_,_,_,q3,⟨Int.le_refl _,(iq hp).2 ⟨cX,[],[],by simp[ev],rfl⟩⟩,λ_=>⟨rfl,by trivial,.u4,by simp[hlen],q1,q2⟩⟩⟩
  ·exact(h.rws i bH cl _ cj df t' hi).mono λa6 h'=>h'.set hbl λ_=>by rw[iW ho];exact Nat.le_refl 2
 ·have hk:∀(i:Nat) (p:ag),(bP bl b ([.rows sh (.const 0) code (.const c) 2],t))[i]?=some p->∃bo,bl[i]?=some bo/\aG ρ bo.1=aG ρ p.1:=λi p hi=>by
   rcases cy i _ hi with⟨rfl,bE⟩|⟨hne,hi⟩
   ·exact⟨_,hbl,by rw[bE];simp only[hk2,iW ho]⟩
   ·exact⟨p,hi,rfl⟩
  obtain⟨bo,hp,ep⟩:=hk i p hi
  obtain⟨fj,hq,eq⟩:=hk j q hj
  rw[<-ep,<-eq]
  exact h.inj i j bo fj hp hq he
theorem Cl {m:Nat->Nat} {tm:List V} {a:Act} {w:World}:∀{l:List (Nat×List ah×Nat)} {bl:List ag} {n:Nat} {ρ:Env},R w0 n ρ m tm bl a w->ae S L (vu l bl) n ρ λaa n' aB=>R w0 n' aa m tm aB a w/\aB.length=bl.length
 |[],bl,n,ρ,h=>ae.pure ⟨h,rfl⟩
 |(b,sh,c)::r,bl,n,ρ,h=>by
  unfold vu
  split
  ·rename_i C t hbl
   cases ho:bk C with
   |false=>simp only[cond_false];exact Cl h
   |true=>
    simp only[cond_true]
    refine bT λhc=>?_
    simp only[Bool.and_eq_true]at hc
    obtain⟨⟨⟨⟨c1,ax⟩,bh⟩,bu⟩,cP⟩:=hc
    have c1:t.2=false:=by simpa using c1
    have ax:=Nat.eq_of_beq_eq_true ax
    have bu:=Nat.le_of_ble_eq_true bu
    have aJ:∀x∈C,A.ok n bl.length ρ x:=h.b _ (List.mem_of_getElem? hbl)
    have fL:=pF (w:=sh.length) (k:=c) ax
    have cg:ab ((I.const 0).den ρ)=[]:=by rw[I.aA];exact kD
    have hz:(0:Int)<=aF:=Int.le_trans (cL []) (jD (l:=[]) (by simp) (by simp))
    refine(tq (nb:=bl.length) (m:=m) bh (rs:=fF sh.length c C) (c:= .const 0) (λrow hr x hx=>aJ x (pG row hr x hx)) (I.bt _ _) (by rw[I.aA];exact⟨Int.le_refl _,hz⟩) (by rw[cg];intro _ h;simp at h) (by rw[cg,fL.1];simp;omega)).bind λaj n1 code cD bG ⟨p1,bd,bw,bx,dC,dS,fi⟩=>?_
    rw[cg,List.nil_append]at bx
    have h1:=h.later cD bG
    have uz:C.map (A.den aj m)=C.map (A.den ρ m):=jX aJ bG (λ_ _=>rfl)
    have gO:=h1.aR.yg (n:=n1) (c:=c) (sh:=sh) (code:=code) hbl ho c1 cP (by rw[bx];exact dS) (by rw[bx,fi,fL.2,uz]) ax
    have fY:bn n1 (bP bl b ([.rows sh (.const 0) code (.const c) 2],t)).length aj (bP bl b ([.rows sh (.const 0) code (.const c) 2],t)):=h1.b.set (λy hy=>by
     have hy:y= .rows sh (.const 0) code (.const c) 2:=by simpa using hy
     subst hy
     exact⟨⟨I.bt _ _,p1,I.bt _ _⟩,bd,by rw[I.aA];omega⟩)
    have hR:R w0 n1 aj m tm (bP bl b ([.rows sh (.const 0) code (.const c) 2],t)) a w:=⟨by rw[eY];exact h1.t,h1.d,fY,gO⟩
    exact(Cl (l:=r) hR).mono λaL cq iO _ _ ⟨g1,g2⟩=>⟨g1,by rw[g2,eY]⟩
  ·exact ae.fail
theorem natsM_holds {G:b6} {vH:Unit->Nat->T}:∀{k n:Nat} {ρ:Env} {offs:List Int},(xM k n vH).holds S L G ρ->offs.length=k->(∀z∈offs,0<=z)->(vH () (n+k)).holds S L G (bm ρ n offs)
 |0,n,ρ,[],h,_,_=>h
 |k+1,n,ρ,z::zs,h,hl,h0=>by
  have h1:(xM k (n+1) vH).holds S L G (bF ρ n z):=h z (h0 z (by simp))
  have:=natsM_holds (offs:=zs) h1 (by simpa using hl) λy hy=>h0 y (List.mem_cons_of_mem _ hy)
  rw[show n+(k+1)=n+1+k by omega];exact this
 |0,_,_,_::_,_,hl,_=>by simp at hl
 |_+1,_,_,[],_,hl,_=>by simp at hl
def j8 (w0:b7) (w:World) (tmps:Array Value) (D:Nat->Prop) (F:Nat->Prop):List (Nat×List ah)->List Nat->List Int->List Int->Prop
 |[],[],[],[]=>True
 |(s,sh)::r,g::gs,o::os,code::len::cap::zs=>(∀x,tmps[s]?=some x->x=if cap<0 then .slice (iI cap g) 0 0 else .slice (some ⟨g,o.toNat,none⟩) len.toNat cap.toNat)/\qU o 0 len cap/\(0<=code/\code<=aF)/\(cap<0->ab code=[])/\
    (0<=cap->(w0.ex g∨w0.ro g∨w0.r.heap.size<=g)/\∃(cells:Array Value) (t:TypeId) (fz:Nat×Nat),w.heap[g]?=some (.cells cells t fz)/\e7 D w cells o.toNat sh (ab code))/\
    (0<=cap->F g)/\j8 w0 w tmps D F r gs os zs
 |_,_,_,_=>False
theorem j8.len {w:World} {tmps:Array Value} {D F:Nat->Prop}:∀{l:List (Nat×List ah)} {gs:List Nat} {os zs:List Int},j8 w0 w tmps D F l gs os zs->os.length=l.length/\∀z∈os,0<=z
 |[],[],[],[],_=>⟨rfl,λ_ h=>by simp at h⟩
 |(s,sh)::r,g::gs,o::os,code::len::cap::zs,h=>by
  obtain⟨_,h2,_,_,_,_,h7⟩:=h
  obtain⟨i1,i2⟩:=j8.len h7
  exact⟨by simp[i1],λz hz=>by
   rcases List.mem_cons.1 hz with rfl|hz
   ·exact h2.1.1
   ·exact i2 z hz⟩
 |_::_,[],_,_,h=>h.elim
 |_::_,_::_,[],_,h=>h.elim
 |_::_,_::_,_::_,[],h=>h.elim
 |_::_,_::_,_::_,[_],h=>h.elim
 |_::_,_::_,_::_,[_,_],h=>h.elim
 |[],_::_,_,_,h=>h.elim
 |[],[],_::_,_,h=>h.elim
 |[],[],[],_::_,h=>h.elim
theorem G4 {w:World} {tmps:Array Value} {D F:Nat->Prop}:∀{l:List (Nat×List ah)} {gs:List Nat} {os zs:List Int},j8 w0 w tmps D F l gs os zs->bb (qM l) zs
 |[],[],[],[],_=>trivial
 |(s,sh)::r,g::gs,o::os,code::len::cap::zs,⟨f1,f2,f3,f4,f5,f6,f7⟩=>⟨f3.1,f3.2,f2.1.2.2.1,f2.1.2.2.2,f2.2.1.1,by have:=f2.2.1.2;omega,G4 f7⟩
 |_::_,[],_,_,h=>h.elim
 |_::_,_::_,[],_,h=>h.elim
 |_::_,_::_,_::_,[],h=>h.elim
 |_::_,_::_,_::_,[_],h=>h.elim
 |_::_,_::_,_::_,[_,_],h=>h.elim
 |[],_::_,_,_,h=>h.elim
 |[],[],_::_,_,h=>h.elim
 |[],[],[],_::_,h=>h.elim
theorem x7 {n:Nat} {ρ:Env} {m:Nat->Nat} {tm:List V} {bl:List ag} {a:Act} {w:World} (h:R w0 n ρ m tm bl a w):∀{l:List (Nat×List ah)} {ls:List I},qN l tm bl=some ls->
 (∀x∈ls,I.aC n x)/\ls.length=(qM l).length/\∃gs os,j8 w0 w a.tmps (a7 w0 ρ m bl) (λg=>∃(i:Nat) (p:ag),bl[i]?=some p/\m i=g/\aG ρ p.1=1) l gs os (ls.map (·.den ρ))
 |[],ls,he=>by
  simp only[qN,Option.some.injEq]at he
  subst he
  exact⟨λ_ h=>by simp at h,rfl,[],[],trivial⟩
 |(s,sh)::r,ls,he=>by
  unfold qN at he
  split at he
  ·rename_i hs
   split at he
   ·rename_i l1 hr
    simp only[Option.some.injEq]at he
    subst he
    obtain⟨g1,g2,gs,os,g3⟩:=x7 h hr
    refine⟨λx hx=>?_,by simp[qM]at g2⊢;omega,0::gs,0::os,λx hx=>?_,?_,?_,?_,?_,?_,g3⟩
    ·simp only[List.mem_cons]at hx
     rcases hx with rfl|rfl|rfl|hx
     ·exact I.bt _ _
     ·exact I.bt _ _
     ·exact I.bt _ _
     ·exact g1 x hx
    ·obtain⟨_,y,h2,h3⟩:=h.t.2 s _ hs
     rw[h2]at hx;cases hx
     have tG:(I.const (-1)).den ρ<0:=by rw[I.aA];decide
     simp only[tG,if_true]
     exact h3
    ·simp only[I.aA];exact⟨⟨by omega,by omega,by omega,by omega⟩,⟨by omega,by omega⟩,λ_=>rfl,λh=>by omega⟩
    ·simp only[I.aA];exact⟨Int.le_refl _,Int.le_trans (cL []) (jD (l:=[]) (by simp) (by simp))⟩
    ·intro _;simp only[I.aA];exact kD
    ·simp only[I.aA];intro h;omega
    ·simp only[I.aA];intro h;omega
   ·cases he
  ·rename_i b ay o ro len cap hs
   split at he
   ·rename_i bH off code bI kind t hbl
    cases hc:(gj sh bH&&Nat.beq kind 1&&I.beq o off&&I.beq ro (.const 0)&&I.beq cap bI&&Nat.beq ay sh.length)with
    |false=>rw[hc]at he;cases he
    |true=>
     rw[hc]at he
     simp only[cond_true]at he
     split at he
     ·rename_i l1 hr
      simp only[Option.some.injEq]at he
      subst he
      simp only[Bool.and_eq_true]at hc
      obtain⟨⟨⟨⟨⟨c1,ax⟩,bh⟩,bu⟩,cP⟩,dY⟩:=hc
      have c1:=l9 c1;have ax:=Nat.eq_of_beq_eq_true ax;have bh:=I.beq_eq bh;have bu:=I.beq_eq bu;have cP:=I.beq_eq cP;have dY:=Nat.eq_of_beq_eq_true dY
      subst c1;subst ax;subst bh;subst bu;subst cP;subst dY
      obtain⟨g1,g2,gs,os,g3⟩:=x7 h hr
      obtain⟨aJ,y,h2,h3⟩:=h.t.2 s _ hs
      have aJ:(A.sl b sh.length o (.const 0) len cap).ok n bl.length ρ:=aJ
      obtain⟨x1,⟨dV,e0,fv,fR⟩,gn⟩:=aJ
      simp only[I.aA]at gn
      have cQ:(A.rows sh o code cap 1).ok n bl.length ρ:=h.b _ (List.mem_of_getElem? hbl) _ (by simp)
      obtain⟨⟨r1,r2,dP⟩,n2,sR⟩:=cQ
      have ew:=h.aR.rws b sh o code cap 1 t hbl (by decide)
      refine⟨λx hx=>?_,by simp[qM]at g2⊢;omega,m b::gs,o.den ρ::os,λx hx=>?_,gn,n2,ew.1,λh0=>?_,λh0=>?_,g3⟩
      ·simp only[List.mem_cons]at hx
       rcases hx with rfl|rfl|rfl|hx
       ·exact r2
       ·exact fv
       ·exact fR
       ·exact g1 x hx
      ·have A3:y=x:=Option.some.inj (h2.symm.trans hx)
       subst A3
       have h3:y=(A.sl b sh.length o (.const 0) len cap).den ρ m:=h3
       rw[h3]
       simp only[A.den,I.aA]
       split<;>simp
      ·obtain⟨q0,cells,ec,fz,k1,⟨k2,k3⟩,k4⟩:=ew.2 h0
       exact⟨q0,cells,ec,fz,k1,k3⟩
      ·exact⟨b,_,hbl,rfl,ff (by decide) h0⟩
     ·cases he
   ·cases he
  ·cases he
theorem j8.mono {w:World} {tmps:Array Value} {D F F':Nat->Prop} (hF:∀g,F g->F' g):∀{l:List (Nat×List ah)} {gs:List Nat} {os zs:List Int},j8 w0 w tmps D F l gs os zs->j8 w0 w tmps D F' l gs os zs
 |[],[],[],[],_=>trivial
 |(s,sh)::r,g::gs,o::os,code::len::cap::zs,⟨f1,f2,f3,f4,f5,f6,f7⟩=>⟨f1,f2,f3,f4,f5,λh=>hF g (f6 h),j8.mono hF f7⟩
 |_::_,[],_,_,h=>h.elim
 |_::_,_::_,[],_,h=>h.elim
 |_::_,_::_,_::_,[],h=>h.elim
 |_::_,_::_,_::_,[_],h=>h.elim
 |_::_,_::_,_::_,[_,_],h=>h.elim
 |[],_::_,_,_,h=>h.elim
 |[],[],_::_,_,h=>h.elim
 |[],[],[],_::_,h=>h.elim
theorem yU {lo:Nat} {tm:List V} {bl:List ag}:∀{l:List (Nat×List ah×TypeId)} {used:List Nat} {ls:List I} {u:List Nat},mj lo l tm bl used=some (ls,u)->∀b∈u,b∈used∨∃sh off code cap t,bl[b]?=some ([.rows sh off code cap 2],t)
 |[],used,ls,u,he=>by
  simp only[mj,Option.some.injEq,Prod.mk.injEq]at he
  obtain⟨rfl,rfl⟩:=he
  exactλb hb=> .inl hb
 |(s,sh,e)::r,used,ls,u,he=>by
  unfold mj at he
  split at he
  ·split at he
   ·rename_i l1 n5 hr
    simp only[Option.some.injEq,Prod.mk.injEq]at he
    obtain⟨rfl,rfl⟩:=he
    exact yU hr
   ·cases he
  ·rename_i b ay o ro len cap hs
   split at he
   ·rename_i bH off code bI kind t hbl
    cases hc:(gj sh bH&&Nat.beq kind 2&&I.beq o (.const 0)&&I.beq off (.const 0)&&I.beq ro (.const 0)&&I.beq cap bI&&Nat.beq t.1 e&&Nat.beq ay sh.length&&Nat.ble lo b&& !(used.any (Nat.beq b)))with
    |false=>rw[hc]at he;cases he
    |true=>
     rw[hc]at he
     simp only[cond_true]at he
     split at he
     ·rename_i l1 n5 hr
      simp only[Option.some.injEq,Prod.mk.injEq]at he
      obtain⟨rfl,rfl⟩:=he
      simp only[Bool.and_eq_true]at hc
      obtain⟨⟨⟨⟨⟨⟨⟨⟨⟨c1,ax⟩,bh⟩,bu⟩,cP⟩,dY⟩,kO⟩,kP⟩,oj⟩,zb⟩:=hc
      have ax:=Nat.eq_of_beq_eq_true ax
      subst ax
      intro bq hb'
      rcases yU hr bq hb' with h5|h5
      ·rcases List.mem_cons.1 h5 with rfl|h5
       ·exact .inr ⟨_,_,_,_,_,hbl⟩
       ·exact .inl h5
      ·exact .inr h5
     ·cases he
   ·cases he
  ·cases he
theorem Bj {i:Nat} {p:ag}:∀{us:List Nat} {bl:List ag},bl[i]?=some p->i∉us->(gA us bl)[i]?=some p
 |[],bl,h,_=>h
 |b::r,bl,h,hi=>by
  unfold gA
  split
  ·refine Bj ?_ λh=>hi (List.mem_cons_of_mem _ h)
   rw[gi,List.getElem?_set_ne (λe=>hi (by simp[e]))];exact h
  ·exact Bj h λh=>hi (List.mem_cons_of_mem _ h)
theorem F6 {N:Nat} {aL:Env} {a:Act} {w:World} {D F:Nat->Prop}:∀{l:List (Nat×List ah)} {gs:List Nat} {os zs:List Int} {v u:Nat} {tm:List V} {bl:List ag} {m:Nat->Nat},R w0 N aL m tm bl a w->(∀g,D g->a7 w0 aL m bl g)->ly w0 aL m bl w D->j8 w0 w a.tmps D F l gs os zs->(∀g,F g->∀(i:Nat) (p:ag),bl[i]?=some p->m i=g->aG aL p.1<=1)->
 (∀j,j<zs.length->aL (v+j)=zs.getD j 0)->(∀j,j<os.length->aL (u+j)=os.getD j 0)->v+zs.length<=N->u+os.length<=N->
 ∃db,(∀b,b<bl.length->db b=m b)/\bl.length<=(headD l v u tm bl).2.length/\R w0 N aL db (headD l v u tm bl).1 (headD l v u tm bl).2 a w/\(∀(i:Nat) (p:ag),(headD l v u tm bl).2[i]?=some p->(i<bl.length/\bl[i]?=some p)∨(aG aL p.1≠0->F (db i)))/\(∀g,D g->a7 w0 aL db (headD l v u tm bl).2 g)/\ly w0 aL db (headD l v u tm bl).2 w D
 |[],[],[],[],v,u,tm,bl,m,h,ns,hU,_,_,_,_,_,_=>⟨m,λ_ _=>rfl,Nat.le_refl _,h,λi p hp=> .inl ⟨(List.getElem?_eq_some_iff.1 hp).1,hp⟩,ns,hU⟩
 |(s,sh)::r,g::gs,o::os,code::len::cap::zs,v,u,tm,bl,m,h,ns,hU,hf,hF,hv,hu,hN,zS=>by
  obtain⟨f1,f2,f3,f4,f5,f6,f7⟩:=hf
  have v0:=hv 0 (by simp)
  have v1:=hv 1 (by simp)
  have v2:=hv 2 (by simp)
  have u0:=hu 0 (by simp)
  simp only[List.getD_cons_zero,List.getD_cons_succ,Nat.add_zero]at v0 v1 v2 u0
  simp only[List.length_cons]at hN zS
  have hc:(-2:Int)<=cap/\cap<=9223372036854775807:=⟨f2.2.1.1,by have:=f2.2.1.2;omega⟩
  have hA:(A.rows sh (.var u) (.var v) (.var (v+2)) 1).ok N bl.length aL:=⟨⟨I.cA (by omega),I.cA (by omega),I.cA (by omega)⟩,by rw[I.bc,v0];exact f3,by rw[I.bc,v2];exact hc⟩
  have AE:aG aL [A.rows sh (.var u) (.var v) (.var (v+2)) 1]<=1:=by
   simp only[aG]
   split<;>omega
  have pT:∀a6,D a6->a7 w0 aL (ed m bl.length g) (bl++[([.rows sh (.var u) (.var v) (.var (v+2)) 1],(0,false))]) a6:=λa6 gv=>(ns a6 gv).push (.inl AE)
  have fM:eI w0 aL D g sh (.var u) (.var v) (.var (v+2)) 1 0 w:=by
   intro _
   simp only[I.bc,v0,v2,u0]
   refine⟨f4,λh0=>?_⟩
   obtain⟨gT,cells,t,fz,k1,k2⟩:=f5 h0
   exact⟨gT,cells,t,fz,k1,⟨f2.1.1,k2⟩,λbr=>by omega⟩
  have zU:ly w0 aL (ed m bl.length g) (bl++[([.rows sh (.var u) (.var v) (.var (v+2)) 1],(0,false))]) w D:=λi bH cl code' cj df t' hi=>by
   rcases vf hi with⟨bY,h1⟩|⟨rfl,h1⟩
   ·rw[eZ bY];exact hU i bH cl code' cj df t' h1
   ·cases h1
    rw[gm];exact fM
  have gO:=h.aR.push (x:=([.rows sh (.var u) (.var v) (.var (v+2)) 1],(0,false))) (g:=g) h.b (λy hy=>by simp at hy;subst hy;exact hA) (λho=>by cases ho) (λbH cl code' cj df he=>by
   cases he
   exact fM.mono pT) (λi p hi he=>by
   rcases Int.lt_or_le cap 0 with h0|h0
   ·refine .inr (.inr ?_)
    simp only[aG,I.bc,v2]
    rw[if_pos h0]
   ·exact .inl ⟨hF g (f6 h0) i p hi he,AE⟩) (λi bH cl code' cj df t' hi=>(hU i bH cl code' cj df t' hi).mono pT)
  have hL:=bJ.alloc N aL m bl ([A.rows sh (.var u) (.var v) (.var (v+2)) 1],(0,false)) g
  have hR:R w0 N aL (ed m bl.length g) (l8 tm s (.w (.one (.sl bl.length sh.length (.var u) (.const 0) (.var (v+1)) (.var (v+2)))))) (bl++[([.rows sh (.var u) (.var v) (.var (v+2)) 1],(0,false))]) a w:=by
   refine⟨bU.set (h.t.ext hL.ha hL.hn hL.hb hL.hm) ?_ λx hx=>?_,h.d,h.b.alloc (λy hy=>by simp at hy;subst hy;exact hA),gO⟩
   ·refine⟨by simp,⟨I.cA (by omega),I.bt _ _,I.cA (by omega),I.cA (by omega)⟩,?_⟩
    simp only[I.aA,I.bc,v1,v2,u0];exact f2
   ·rw[f1 x hx]
    simp only[V.rel,W.den,A.den,I.aA,I.bc,v1,v2,u0,gm]
    split<;>simp
  obtain⟨db,q1,q2,q3,q4,kC,lh⟩:=F6 (F:=F) (l:=r) (gs:=gs) (os:=os) (zs:=zs) (v:=v+3) (u:=u+1) hR pT zU f7 (λa6 gv i p hi he=>by
   rw[List.getElem?_append]at hi
   split at hi
   ·rename_i bY
    rw[eZ bY]at he
    exact hF a6 gv i p hi he
   ·have bY:=(List.getElem?_eq_some_iff.1 hi).1
    have:i=bl.length:=by simp at bY;omega
    subst this
    simp only[Nat.sub_self,List.getElem?_cons_zero,Option.some.injEq]at hi
    subst hi
    exact AE) (λj hj=>by
   have:=hv (j+3) (by simp only[List.length_cons];omega)
   rw[show v+3+j=v+(j+3) by omega];simpa using this) (λj hj=>by
   have:=hu (j+1) (by simp only[List.length_cons];omega)
   rw[show u+1+j=u+(j+1) by omega];simpa using this) (by omega) (by omega)
  simp only[List.length_append,List.length_cons,List.length_nil]at q1 q2
  refine⟨db,λb hb=>by rw[q1 b (by omega)];exact eZ hb,by unfold headD;omega,by unfold headD;exact q3,λi p hp=>?_,by unfold headD;exact kC,by unfold headD;exact lh⟩
  unfold headD at hp
  rcases q4 i p hp with⟨q5,q6⟩|q5
  ·simp only[List.length_append,List.length_cons,List.length_nil]at q5
   rw[List.getElem?_append]at q6
   split at q6
   ·rename_i bY;exact .inl ⟨bY,q6⟩
   ·rename_i bY
    have hi:i=bl.length:=by omega
    subst hi
    simp only[Nat.sub_self,List.getElem?_cons_zero,Option.some.injEq]at q6
    subst q6
    refine .inr λh0=>?_
    rw[q1 bl.length (by omega),gm]
    refine f6 ?_
    rcases Int.lt_or_le cap 0 with h1|h1
    ·refine absurd ?_ h0
     simp only[aG,I.bc,v2]
     rw[if_pos h1]
    ·exact h1
  ·exact .inr q5
 |_::_,[],_,_,_,_,_,_,_,_,_,_,h,_,_,_,_,_=>h.elim
 |_::_,_::_,[],_,_,_,_,_,_,_,_,_,h,_,_,_,_,_=>h.elim
 |_::_,_::_,_::_,[],_,_,_,_,_,_,_,_,h,_,_,_,_,_=>h.elim
 |_::_,_::_,_::_,[_],_,_,_,_,_,_,_,_,h,_,_,_,_,_=>h.elim
 |_::_,_::_,_::_,[_,_],_,_,_,_,_,_,_,_,h,_,_,_,_,_=>h.elim
 |[],_::_,_,_,_,_,_,_,_,_,_,_,h,_,_,_,_,_=>h.elim
 |[],[],_::_,_,_,_,_,_,_,_,_,_,h,_,_,_,_,_=>h.elim
 |[],[],[],_::_,_,_,_,_,_,_,_,_,h,_,_,_,_,_=>h.elim
theorem F7 {D:Nat->Prop} {li:di} {n:Nat} {aY aa:Env} {m0 m':Nat->Nat} {tm bf fP n4:List V} {bl aB dz nf:List ag} {l1 l2 v1 v2 lb la eF:List I} {b1 b2 rk py:List (Int×Int)} {n':Nat} {a:Act} {w:World} {NA ND NN:Nat} {gs:List Nat} {os:List Int}
 (hlen:bl.length<=aB.length)
 (ha:agree n aY aa) (hm:∀b,b<bl.length->m' b=m0 b) (ht:∀v∈tm,V.ok n bl.length aY v) (fK:bn n bl.length aY bl)
 (h:R w0 n' aa m' bf aB a w) (e1:hs li.keep li.ints 0 (n+1) tm=some (fP,l1,b1)) (e2:hb li.cells 0 (n+1+l1.length) bl=some (dz,l2,b2))
 (e3:hs li.keep li.ints 0 (n+1) bf=some (n4,v1,rk)) (dL:hb li.cells 0 (n+1+v1.length) (aB.take bl.length)=some (nf,v2,py))
 (f1:hT fP n4=true) (f2:ji dz nf=true) (FO:qZ a.tmps li.jK (lb.map (·.den aa))) (rX:pa w0 w a.tmps D (λg=>(∀(i:Nat) (p:ag),i<bl.length->aB[i]?=some p->m' i=g->aG aa p.1=0)/\¬∃(i:Nat) (p:ag),aB[i]?=some p/\m' i=g/\aG aa p.1=1) li.jd (la.map (·.den aa)))
 (ns:∀g,D g->a7 w0 aa m' aB g) (hU:ly w0 aa m' aB w D)
 (si:j8 w0 w a.tmps D (λg=>∃(i:Nat) (p:ag),aB[i]?=some p/\m' i=g/\aG aa p.1=1) li.gg gs os (eF.map (·.den aa)))
 (Fz:NA=n+1+l1.length+l2.length+lb.length) (FA:ND=n+1+l1.length+l2.length+(lb++la).length) (FB:NN=n+1+l1.length+l2.length+(lb++la++eF).length):
 bb (b1++b2++(wi li.jK++pr li.jd++qM li.gg)) ((v1++v2++(lb++la++eF)).map (·.den aa))/\∃db,(∀b,b<bl.length->db b=m0 b)/\bl.length<=(kn li.jd NA (headD li.gg ND NN (lO li.jK (n+1+l1.length+l2.length) fP) dz).1 (headD li.gg ND NN (lO li.jK (n+1+l1.length+l2.length) fP) dz).2).2.length/\
  R w0 (NN+li.gg.length) (bm (bm aY (n+1) ((v1++v2++(lb++la++eF)).map (·.den aa))) NN os) db (kn li.jd NA (headD li.gg ND NN (lO li.jK (n+1+l1.length+l2.length) fP) dz).1 (headD li.gg ND NN (lO li.jK (n+1+l1.length+l2.length) fP) dz).2).1 (kn li.jd NA (headD li.gg ND NN (lO li.jK (n+1+l1.length+l2.length) fP) dz).1 (headD li.gg ND NN (lO li.jK (n+1+l1.length+l2.length) fP) dz).2).2 a w:=by
 obtain⟨OB,i1,i2,i3,i4,i5,i6⟩:=M6 (D:=D) (ext:=lb++la++eF) hlen ha hm ht fK h e1 e2 e3 dL f1 f2 ns hU
 obtain⟨N0,U2⟩:=si.len
 subst Fz;subst FA;subst FB
 have oE:∀j,j<(lb++la++eF).length->bm aY (n+1) ((v1++v2++(lb++la++eF)).map (·.den aa)) (n+1+l1.length+l2.length+j)=((lb++la++eF).map (·.den aa)).getD j 0:=λj hj=>by
  rw[show n+1+l1.length+l2.length+j=n+1+(v1.length+v2.length+j) by omega,vF _ _ _ _ (by simp at hj⊢;omega)]
  rw[List.map_append (l₁:=v1++v2),List.getD_eq_getElem?_getD,List.getElem?_append_right (by simp),List.getD_eq_getElem?_getD]
  congr 2
  simp
 generalize U9:bm aY (n+1) ((v1++v2++(lb++la++eF)).map (·.den aa))=aL at*
 have kW:agree (n+1+l1.length+l2.length+(lb++la++eF).length) aL (bm aL (n+1+l1.length+l2.length+(lb++la++eF).length) os):=agree.bm os _ aL
 have OO:=i2.later (Nat.le_add_right _ li.gg.length) kW
 have Ap:∀j,j<(lb++la++eF).length->bm aL (n+1+l1.length+l2.length+(lb++la++eF).length) os (n+1+l1.length+l2.length+j)=((lb++la++eF).map (·.den aa)).getD j 0:=λj hj=>by
  rw[<-oE j hj]
  exact(kW _ (by omega))
 have xb:∀(i:Nat) (p:ag),dz[i]?=some p->aG (bm aL (n+1+l1.length+l2.length+(lb++la++eF).length) os) p.1=aG aL p.1:=λi p hi=>iA (i2.b p (List.mem_of_getElem? hi)) kW
 have OP:∀g,D g->a7 w0 (bm aL (n+1+l1.length+l2.length+(lb++la++eF).length) os) m0 dz g:=λg hg=>a7.cT i2.b kW (i5 g hg)
 have OQ:ly w0 (bm aL (n+1+l1.length+l2.length+(lb++la++eF).length) os) m0 dz w D:=λi sh off code cap kind t hi=>(i6 i sh off code cap kind t hi).cT (i2.b _ (List.mem_of_getElem? hi) _ (by simp)) kW
 generalize ON:bm aL (n+1+l1.length+l2.length+(lb++la++eF).length) os=dq at*
 have hB:=F5 (v:=n+1+l1.length+l2.length) OO FO (λj hj=>by
  simp only[List.length_map]at hj
  rw[Ap j (by simp;omega),List.append_assoc,List.map_append,List.getD_eq_getElem?_getD,List.getElem?_append_left (by simpa using hj),List.getD_eq_getElem?_getD]) (by simp;omega)
 obtain⟨kz,p1,bd,bx,dC,dS,fi⟩:=F6 (D:=D) (v:=n+1+l1.length+l2.length+(lb++la).length) (u:=n+1+l1.length+l2.length+(lb++la++eF).length) hB OP OQ si (λg hg i p hi he=>by
  obtain⟨g1,bo,g2,g3⟩:=i4 i p hi
  rw[xb i p hi,g3]
  obtain⟨j,q,q1,q2,q3⟩:=hg
  rcases h.aR.inj i j bo q g2 q1 (by rw[q2,<-he,hm i g1])with br|br|br|br
  ·subst br
   rw[g2]at q1;cases q1
   omega
  ·exact br.1
  ·omega
  ·omega) (λj hj=>by
  simp only[List.length_map]at hj
  rw[show n+1+l1.length+l2.length+(lb++la).length+j=n+1+l1.length+l2.length+((lb++la).length+j) by omega,Ap _ (by simp at hj⊢;omega),List.map_append (l₁:=lb++la),List.getD_eq_getElem?_getD,List.getElem?_append_right (by simp),List.getD_eq_getElem?_getD]
  congr 2
  simp) (λj hj=>by rw[<-ON,vF _ _ _ _ hj]) (by simp only[List.length_map,List.length_append];omega) (by rw[N0];exact Nat.le_refl _)
 obtain⟨db,q1,q2,q3⟩:=F4 (v:=n+1+l1.length+l2.length+lb.length) bx dS fi rX (λg hg i p hi he=>by
  rcases dC i p hi with⟨g0,g1⟩|g1
  ·obtain⟨fr,bo,g2,g3⟩:=i4 i p g1
   rw[xb i p g1,g3]
   exact hg.1 i bo fr g2 (by rw[hm i fr,<-p1 i g0];exact he)
  ·by_cases h0:aG dq p.1=0
   ·exact h0
   ·have:=g1 h0
    rw[he]at this
    exact absurd this hg.2) (λj hj=>by
  simp only[List.length_map]at hj
  rw[show n+1+l1.length+l2.length+lb.length+j=n+1+l1.length+l2.length+(lb.length+j) by omega,Ap _ (by simp;omega),List.append_assoc,List.map_append,List.getD_eq_getElem?_getD,List.getElem?_append_right (by simp),List.map_append,List.getElem?_append_left (by simp;omega),List.getD_eq_getElem?_getD]
  congr 2
  simp) (by simp;omega)
 refine⟨?_,db,λb hb=>by rw[q1 b (by rw[i3]at bd;omega),p1 b (by rw[i3];exact hb)],by rw[i3]at bd;omega,q3⟩
 rw[List.map_append,List.map_append (l₁:=lb++la),List.map_append (l₁:=lb)]
 exact nL i1 (nL (nL (G3 FO) (G0 rX)) (G4 si))
theorem y6 {a b c:Nat} (h:a=c) (h':b=c):b=a:=h'.trans h.symm
theorem PU {li:di} {c:Code} {e:Nat->List V->List ag->kJ->T} (hd:rd=none∨iC c=true) (he:yD rd S L w0 P c e) {Q:Exit->Act->World->Prop} {n:Nat} {ρ:Env} {m:Nat->Nat} {tm:List V} {bl:List ag} {a:Act} {w:World} {G:b6} {k:kJ}
 (h:R w0 n ρ m tm bl a w) (ad:(By li e n tm bl k).holds S L G ρ) (hk:q7 S L w0 k n bl.length ρ m G Q):(Code.loop c).wpIn (j5 rd) 0 P Q a w:=by
 unfold By at ad
 obtain⟨JK,HR,D8,Gv,FJ,⟨hz1,xp⟩,ad⟩:=Cl (S:=S) (L:=L) h G _ ad
 have hk:=hk.later (⟨Gv,FJ,by rw[xp];exact Nat.le_refl _,λ_ _=>rfl⟩:bJ n bl.length ρ m HR D8.length JK m) (cw.refl _ G)
 clear h
 have h:=hz1
 clear hz1 xp Gv FJ
 revert h hk ad
 generalize HR=n
 generalize JK=ρ
 generalize D8=bl
 intro ad hk h
 obtain⟨aY,n0,tm,jq,ha0,Oo,ad⟩:=tL (S:=S) (L:=L) h.t G _ ad
 have tQ:=h.later jq ha0
 have h:R w0 n0 aY m tm bl a w:=⟨Oo,tQ.d,tQ.b,tQ.aR⟩
 have hk:=hk.later (⟨jq,ha0,Nat.le_refl _,λ_ _=>rfl⟩:bJ n bl.length ρ m n0 bl.length aY m) (cw.refl _ G)
 obtain⟨aj,n1,lb,cD,bG,⟨s1,s2,mS⟩,ad⟩:=y7 (S:=S) (L:=L) h.t G _ ad
 have h1:=h.later cD bG
 have hk:=hk.later (⟨cD,bG,Nat.le_refl _,λ_ _=>rfl⟩:bJ n0 bl.length aY m n1 bl.length aj m) (cw.refl _ G)
 split at ad
 rotate_left
 ·exact ad.elim
 rename_i fP l1 b1 la us eF e1 ES Ly
 obtain⟨a1,a2,_,_,a5⟩:=vR h1 ES
 obtain⟨k1,k2,k3⟩:=Bk (us:=us) h1
 obtain⟨r1,r2,gs,os,dP⟩:=x7 h1 Ly
 cases e2:hb li.cells 0 (n1+1+l1.length) (gA us bl)with
 |none=>rw[e2]at ad;exact ad.elim
 |some q2=>
  obtain⟨dz,l2,b2⟩:=q2
  rw[e2]at ad
  simp only at ad
  cases hf:(hT fP fP&&ji dz dz)with
  |false=>rw[hf]at ad;exact ad.elim
  |true=>
   rw[hf]at ad
   simp only[Bool.not_true,cond_false,T.holds]at ad
   simp only[Bool.and_eq_true]at hf
   obtain⟨j7,j3,Ma,hB⟩:=ad
   have GK:∀v∈tm,V.ok n1 (gA us bl).length aj v:=λv hv=>by
    obtain⟨i,hi⟩:=List.getElem?_of_mem hv
    exact(k1.t.2 i v hi).1
   have Lu:hb li.cells 0 (n1+1+l1.length) ((gA us bl).take (gA us bl).length)=some (dz,l2,b2):=by rw[List.take_length];exact e2
   have MA:pa w0 w a.tmps (a7 w0 aj m bl) (λg=>(∀(i:Nat) (p:ag),i<(gA us bl).length->(gA us bl)[i]?=some p->m i=g->aG aj p.1=0)/\¬∃(i:Nat) (p:ag),(gA us bl)[i]?=some p/\m i=g/\aG aj p.1=1) li.jd (la.map (·.den aj)):=by
    refine a5 _ λb p hb _ hbl ea fc=>?_
    have key:∀(i:Nat) (q:ag),(gA us bl)[i]?=some q->m i=m b->aG aj q.1=0:=λi q hi he=>by
     rcases k3 i q hi with⟨g1,g2⟩|g1
     ·by_cases eg:i=b
      ·subst eg
       rw[hbl]at g1;cases g1
       rcases g2 hb with g2|g2
       ·rw[fc]at g2;cases g2
       ·exact g2
      ·rcases h1.aR.inj i b q p g1 hbl he with g3|g3|g3|g3
       ·exact absurd g3 eg
       ·omega
       ·exact g3
       ·omega
     ·exact g1
    exact⟨λi q _ hi he=>key i q hi he,λ⟨i,q,hi,he,hk⟩=>by have:=key i q hi he;omega⟩
   have si:j8 w0 w a.tmps (a7 w0 aj m bl) (λg=>∃(i:Nat) (p:ag),(gA us bl)[i]?=some p/\m i=g/\aG aj p.1=1) li.gg gs os (eF.map (·.den aj)):=by
    refine dP.mono λg ⟨i,p,hi,he,hk⟩=>⟨i,p,Bj hi λhu=>?_,he,hk⟩
    rcases yU ES i hu with br|⟨sh,off,code,cap,t,br⟩
    ·simp at br
    ·rw[hi]at br
     cases br
     simp only[aG]at hk
     split at hk<;>omega
   obtain⟨i1,db,i2,i3,i4⟩:=F7 (Nat.le_refl _) (agree.refl n1 aj) (λ_ _=>rfl) GK k1.b k1 e1 e2 e1 Lu hf.1 hf.2 mS MA (λg hg=>⟨hg.1,λi p hi hk=>by
    rcases k3 i p hi with⟨g1,_⟩|g1
    ·exact hg.2 i p g1 hk
    ·omega⟩) (λi sh off code cap kind t hi=>by
    rcases k3 i _ hi with⟨g1,_⟩|g1
    ·exact h1.aR.rws i sh off code cap kind t g1
    ·intro eU
     refine⟨(k1.aR.rws i sh off code cap kind t hi eU).1,λhc=>?_⟩
     simp only[ff eU hc]at g1
     exact absurd g1 eU) si rfl rfl rfl
   generalize FB:n1+1+l1.length+l2.length+(lb++la++eF).length=NN at*
   generalize FA:n1+1+l1.length+l2.length+(lb++la).length=ND at*
   generalize Fz:n1+1+l1.length+l2.length+lb.length=NA at*
   generalize M1:headD li.gg ND NN (lO li.jK (n1+1+l1.length+l2.length) fP) dz=d at*
   refine wpIn_loop_ghost (λN cf w'=>∃zs os db,bb (b1++b2++(wi li.jK++pr li.jd++qM li.gg)) zs/\j7 zs/\j3 zs=N/\(os.length=li.gg.length/\∀z∈os,0<=z)/\(∀b,b<(gA us bl).length->db b=m b)/\
    R w0 (NN+li.gg.length) (bm (bm aj (n1+1) zs) NN os) db (kn li.jd NA d.1 d.2).1 (kn li.jd NA d.1 d.2).2 cf w') (j3 ((l1++l2++(lb++la++eF)).map (·.den aj))) ⟨_,os,db,i1,Ma,rfl,si.len,i2,i4⟩ ?_
   rintro N a1 w1 ⟨zs,BR,db,hz1,xp,rfl,⟨sn,nJ⟩,OJ,gy⟩
   have rZ:=natsM_holds (na hB hz1 xp) sn nJ
   refine he hd _ _ _ _ _ _ _ a1 w1 _ gy rZ λx n' aa m' bf aB ch cf w' h1 h2 h3 h4=>?_
   have pY:agree n1 aj (bm aj (n1+1) zs):=(agree.bm _ (n1+1) aj).mono (by omega)
   have MD:agree n1 aj (bm (bm aj (n1+1) zs) NN BR):=pY.trans (agree.bm BR NN _) (by omega)
   have Mb:bJ n1 bl.length aj m (NN+li.gg.length) (kn li.jd NA d.1 d.2).2.length (bm (bm aj (n1+1) zs) NN BR) db:=⟨by omega,MD,by rw[k2]at i3;exact i3,λb hb=>OJ b (by rw[k2];exact hb)⟩
   have oy:cw n1 G (G.set n1 λvs=>j7 vs/\j3 vs<j3 zs):=λl hl=>by
    unfold b6.set
    cases hb:Nat.beq l n1 with
    |true=>have:=Nat.eq_of_beq_eq_true hb;omega
    |false=>rfl
   have hL:=Mb.trans h1
   have L9:ch n1=λvs=>j7 vs/\j3 vs<j3 zs:=by
    rw[h2 n1 (by omega)]
    unfold b6.set
    have:Nat.beq n1 n1=true:=Nat.beq_refl n1
    rw[this];rfl
   cases x with
   |exit id=>exact hk (.exit id) n' aa m' bf aB ch cf w' hL (oy.trans h2 (by omega)) h3 h4
   |ret=>exact hk .ret n' aa m' bf aB ch cf w' hL (oy.trans h2 (by omega)) h3 h4
   |normal=>
    simp only at h4
    obtain⟨C7,u5,bf,Gs,FG,Ot,h4⟩:=tL (S:=S) (L:=L) h3.t ch _ h4
    have hW:=h3.later Gs FG
    have h3:R w0 u5 C7 m' bf aB cf w':=⟨Ot,hW.d,hW.b,hW.aR⟩
    have hL:=hL.trans (⟨Gs,FG,Nat.le_refl _,λ_ _=>rfl⟩:bJ n' aB.length aa m' u5 aB.length C7 m')
    obtain⟨kI,sH,Hm,bZ,bM,⟨t1,t2,t3⟩,h4⟩:=y7 (S:=S) (L:=L) h3.t ch _ h4
    have h3:=h3.later bZ bM
    split at h4
    rotate_left
    ·exact h4.elim
    rename_i n4 v1 rk Bo ie Hw e3 Lx Lz
    obtain⟨c1,ax,_,bu,cP⟩:=vR h3 Lx
    obtain⟨d1,d2,UE,vb,d3⟩:=x7 h3 Lz
    cases dL:hb li.cells 0 (n1+1+v1.length) (aB.take bl.length)with
    |none=>rw[dL]at h4;exact h4.elim
    |some q4=>
     obtain⟨nf,v2,py⟩:=q4
     rw[dL]at h4
     simp only at h4
     cases ef:(hT fP n4&&ji dz nf)with
     |false=>rw[ef]at h4;exact h4.elim
     |true=>
      rw[ef]at h4
      simp only[cond_true,T.holds,L9]at h4
      simp only[Bool.and_eq_true]at ef
      have hL2:=hL.trans (⟨bZ,bM,Nat.le_refl _,λ_ _=>rfl⟩:bJ u5 aB.length C7 m' sH aB.length kI m')
      have MB:pa w0 w' cf.tmps (a7 w0 kI m' aB) (λg=>(∀(i:Nat) (p:ag),i<(gA us bl).length->aB[i]?=some p->m' i=g->aG kI p.1=0)/\¬∃(i:Nat) (p:ag),aB[i]?=some p/\m' i=g/\aG kI p.1=1) li.jd (Bo.map (·.den kI)):=by
       refine cP _ λb p hb _ hbl ea fc=>⟨λi q bY hi he=>?_,λ⟨i,q,hi,he,hk⟩=>?_⟩
       ·have FR:bl.length<=b:=by
         rcases bu b hb with h|h
         ·simp at h
         ·exact h
        rw[k2]at bY
        rcases h3.aR.inj i b q p hi hbl he with g3|g3|g3|g3
        ·omega
        ·omega
        ·exact g3
        ·omega
       ·rcases h3.aR.inj i b q p hi hbl he with g3|g3|g3|g3
        ·subst g3
         rw[hi]at hbl;cases hbl
         omega
        ·omega
        ·omega
        ·omega
      obtain⟨iV,qB,O5,Vc,Hd⟩:=F7 (NA:=NA) (ND:=ND) (NN:=NN) (by rw[k2];exact hL2.hb) hL2.ha (λb hb=>hL2.hm b (by rw[k2]at hb;exact hb)) GK k1.b h3 e1 e2 e3 (by rw[k2];exact dL) ef.1 ef.2 t3 MB (λg hg=>hg) h3.aR.rws d3 (by have:=t2;have:=y6 s2 t2;omega) (by have:=y6 s2 t2;simp only[List.length_append]at*;omega) (by have:=y6 s2 t2;simp only[List.length_append]at*;omega)
      rw[M1]at Hd
      exact⟨_,h4.2,_,vb,qB,iV,h4.1,rfl,d3.len,O5,Hd⟩
theorem toL {ops:Array Oper}:ops.toList.toArray=ops:=Array.toArray_toList
theorem zJ (N:Nat):∀(i:Nat) (bl:List ag),(dG N i bl).length=bl.length
 |_,[]=>rfl
 |i,_::r=>by simp[dG,zJ N (i+1) r]
theorem rM (N:Nat):∀(i:Nat) (bl:List ag) (k:Nat) (p:ag),(dG N i bl)[k]?=some p->p=om∨(i+k<N/\(bk p.1||mG p.1)=true/\bl[k]?=some p)
 |_,[],k,p,h=>by simp[dG]at h
 |i,q::r,0,p,h=>by
  simp only[dG,List.getElem?_cons_zero,Option.some.injEq]at h
  cases hc:(Nat.blt i N&&(bk q.1||mG q.1))with
  |false=>rw[hc]at h;exact .inl h.symm
  |true=>
   rw[hc]at h
   simp only[cond_true]at h
   subst h
   simp only[Bool.and_eq_true]at hc
   exact .inr ⟨by simpa using ke hc.1,hc.2,rfl⟩
 |i,q::r,k+1,p,h=>by
  rcases rM N (i+1) r k p (by simpa [dG]using h)with h1|⟨h1,h2,h3⟩
  ·exact .inl h1
  ·exact .inr ⟨by omega,h2,by simpa using h3⟩
theorem Ik:∀{a b:List ag},preB a b=true->∀(k:Nat) (p:ag),a[k]?=some p->b[k]?=some p
 |[],_,_,_,_,h=>by simp at h
 |(c,t)::r,(c',t')::s,hf,k,p,h=>by
  simp only[preB,Bool.and_eq_true]at hf
  obtain⟨⟨⟨h1,h2⟩,h3⟩,h4⟩:=hf
  cases k with
  |zero=>
   have e1:=tx h1;have e2:=Nat.eq_of_beq_eq_true h2;have e3:t.2=t'.2:=by simpa using h3
   have:t=t':=Prod.ext e2 e3
   subst e1;subst this
   simpa using h
  |succ k=>have:=Ik h4 k p (by simpa using h);simpa using this
 |_::_,[],h,_,_,_=>by simp[preB]at h
theorem O4 {c:List A} (h:mG c=true):∃sh off code cap,c=[.rows sh off code cap 1]:=by
 unfold mG at h
 split at h
 ·rename_i sh off code cap k
  have:=Nat.eq_of_beq_eq_true h
  subst this
  exact⟨sh,off,code,cap,rfl⟩
 ·cases h
def ye (ρ aL:Env) (c:List A):Prop:=∀sh off code cap k,c=[.rows sh off code cap k]->off.den aL=off.den ρ/\code.den aL=code.den ρ/\cap.den aL=cap.den ρ
theorem Bm {ρ aL:Env} {c:List A} (h:(bk c||mG c)=true) (hr:ye ρ aL c):aG aL c=aG ρ c:=by
 rcases Bool.or_eq_true _ _▸h with h|h
 ·rw[iW h,iW h]
 ·obtain⟨sh,off,code,cap,rfl⟩:=O4 h
  simp only[aG,(hr sh off code cap 1 rfl).2.2]
theorem Mem.sub {ρ aL:Env} {m db:Nat->Nat} {bl iO:List ag} {w:World} (h:Mem w0 ρ m bl w) (hs:∀(i:Nat) (p:ag),iO[i]?=some p->p=om∨(bl[i]?=some p/\(bk p.1||mG p.1)=true/\db i=m i/\p.1.map (A.den aL db)=p.1.map (A.den ρ m)/\ye ρ aL p.1)):Mem w0 aL db iO w:=by
 have eU:aG aL om.1=0:=by simp[om,aG]
 refine⟨h.ext,h.fN,h.jv,h.js,h.eL,h.jk,λi cs t hi ho=>?_,λi sh off code cap kind t hi=>?_,λi j p q hi hj he=>?_⟩
 ·rcases hs i _ hi with h1|⟨h1,_,h3,h4,_⟩
  ·cases h1;simp[bk]at ho
  ·rw[h3,h4];exact h.dj i cs t h1 ho
 ·rcases hs i _ hi with h1|⟨h1,h2,h3,_,h5⟩
  ·cases h1;intro hk;exact absurd rfl hk
  ·obtain⟨e1,e2,e3⟩:=h5 sh off code cap kind rfl
   have:=(h.rws i sh off code cap kind t h1).mono (F':=a7 w0 aL db iO) (a7.mono λj p hj hk=>by
    rcases hs j p hj with g1|⟨g1,g2,g3,_,g5⟩
    ·subst g1;rw[eU]at hk;omega
    ·exact⟨j,p,g1,by rw[<-Bm g2 g5];exact hk,g3.symm⟩)
   unfold eI at this⊢
   rw[e1,e2,e3,h3];exact this
 ·rcases hs i _ hi with h1|⟨h1,h2,h3,_,h5⟩
  ·subst h1;exact .inr (.inr (.inl eU))
  ·rcases hs j _ hj with g1|⟨g1,g2,g3,_,g5⟩
   ·subst g1;exact .inr (.inr (.inr eU))
   ·rw[Bm h2 h5,Bm g2 g5]
    exact h.inj i j p q h1 g1 (by rw[<-h3,<-g3];exact he)
theorem bn.dG {n nb:Nat} {ρ:Env} {bl:List ag} (h:bn n nb ρ bl) (N:Nat):bn n nb ρ (Go.aZ.dG N 0 bl):=λp hp=>by
 obtain⟨i,hi⟩:=List.mem_iff_getElem?.1 hp
 rcases rM N 0 bl i p hi with h1|⟨_,_,h3⟩
 ·subst h1
  intro a ha
  simp only[om,List.mem_singleton]at ha
  subst ha
  exact⟨⟨I.bt _ _,I.bt _ _,I.bt _ _⟩,⟨by simp[I.aA],by rw[I.aA];exact Int.le_trans (cL []) (jD (by simp) (λ_ h=>by cases h))⟩,by simp[I.aA]⟩
 ·exact h p (List.mem_of_getElem? h3)
theorem IL {n nb:Nat} {ρ aa:Env} {c:List A} (aJ:∀a∈c,A.ok n nb ρ a) (ha:agree n ρ aa) (back:Bool):cond back (ye aa ρ c) (ye ρ aa c):=by
 have key:∀sh off code cap k,c=[.rows sh off code cap k]->off.den aa=off.den ρ/\code.den aa=code.den ρ/\cap.den aa=cap.den ρ:=λsh off code cap k hc=>by
  have:=aJ _ (by rw[hc];exact List.mem_singleton.2 rfl)
  obtain⟨⟨h1,h2,h3⟩,_⟩:=this
  exact⟨I.aQ ha h1,I.aQ ha h2,I.aQ ha h3⟩
 cases back with
 |true=>exactλsh off code cap k hc=>by obtain⟨h1,h2,h3⟩:=key sh off code cap k hc;exact⟨h1.symm,h2.symm,h3.symm⟩
 |false=>exact key
theorem M8 {N:Nat} {tm:List V} {bl:List ag} {o:Oper} {a:Act} {w:World} {v:Value} (ho:w8 N tm bl o=true) (h:ra P o a w v):(execOp a.eval o).run P w= .ok (.value v) w:=by
 rcases h with h|⟨f,args,h,_⟩
 ·exact h
 ·exfalso
  have key:∀s:Sem Value,(do pure (Next.value (<-s)):Sem Next).run P w= .ok (.enter f args) w->False:=λs hs=>by
   simp only[Sem.run_bind]at hs
   cases hx:s.run P w with
   |ok u w'=>rw[hx]at hs;simp at hs
   |halt x w'=>rw[hx]at hs;simp at hs
  unfold w8 at ho
  split at ho
  ·rename_i op t x y u hop;exact key (eqGuard op t x y (a.eval x) (a.eval y) >>= λ_=>binOp op t (a.eval x) (a.eval y)) (by simpa [execOp,hop]using h)
  ·rename_i t x i hop;exact key (Instr.indexAt t (a.eval x) (a.eval i)) (by simpa [execOp,hop]using h)
  ·rename_i t x lo hi dt hop;exact key (Instr.sliceAt t (a.eval x) (lo.map a.eval) (hi.map a.eval) (dt.map a.eval)) (by simpa [execOp,hop]using h)
  ·rename_i t p hop;exact key (Instr.loadAt t (a.eval p)) (by simpa [execOp,hop]using h)
  ·cases ho
theorem M9 {ops:Array Oper} {N:Nat} {tm:List V} {bl:List ag} {o:Oper} {a:Act} {w:World} {v:Value} (ho:w7 N tm bl o=true) (h:ra P o a w v):(execOp a.eval o).run P w= .ok (.value v) w:=by
 rcases h with h|⟨f,args,h,_⟩
 ·exact h
 ·exfalso
  have key:∀s:Sem Value,(do pure (Next.value (<-s)):Sem Next).run P w= .ok (.enter f args) w->False:=λs hs=>by
   simp only[Sem.run_bind]at hs
   cases hx:s.run P w with
   |ok u w'=>rw[hx]at hs;simp at hs
   |halt x w'=>rw[hx]at hs;simp at hs
  unfold w7 at ho
  split at ho
  ·rename_i x hop;simp[execOp,hop]at h
  ·rename_i x hop;simp[execOp,hop]at h
  ·rename_i x i hop;exact key (Instr.extract (a.eval x) i) (by simpa [execOp,hop]using h)
  ·rename_i s x i hop;exact key (Instr.fieldAt s (a.eval x) i) (by simpa [execOp,hop]using h)
  ·rename_i t p hop;exact key (Instr.loadAt t (a.eval p)) (by simpa [execOp,hop]using h)
  ·rename_i t x lo hi dt hop;exact key (Instr.sliceAt t (a.eval x) (lo.map a.eval) (hi.map a.eval) (dt.map a.eval)) (by simpa [execOp,hop]using h)
  ·cases ho
theorem KA {ops:Array Oper} {Q:Exit->Act->World->Prop} {inl:hE} (bX:fB S P gl w0 aN) (hg:eC gl w0) (jT:lA S L w0 P inl) (hQ:∀c a w,¬Q (.panic c) a w)
 {N n0:Nat} {gq:List ag} {aY:Env} {m0:Nat->Nat} (hN:N<=gq.length) (fK:bn n0 gq.length aY gq):∀(f:Nat) {listed:Array Bool} {n:Nat} {ρ:Env} {m:Nat->Nat} {tm:List V} {bl:List ag} {a:Act} {w:World} {G:b6} {k:dr},
 R w0 n ρ m tm bl a w->bJ n0 gq.length aY m0 n bl.length ρ m->(∀(k:Nat) (p:ag),(dG N 0 gq)[k]?=some p->(dG N 0 bl)[k]?=some p)->(nc P gl aN inl ops N (dG N 0 gq) f listed n tm bl k).holds S L G ρ->eR S L w0 k n bl.length ρ m G (Q .normal)->wpAnyH P .any ops Q (λw=>Mem w0 aY m0 (dG N 0 gq) w) f listed a w:=by
 have down:∀{n:Nat} {ρ:Env} {m:Nat->Nat} {bl:List ag} {w:World},bJ n0 gq.length aY m0 n bl.length ρ m->(∀(k:Nat) (p:ag),(dG N 0 gq)[k]?=some p->(dG N 0 bl)[k]?=some p)->Mem w0 ρ m bl w->Mem w0 aY m0 (dG N 0 gq) w:=λhl hp hm=>by
  refine hm.sub λi p hi=>?_
  rcases rM N 0 gq i p hi with h1|⟨h1,h2,h3⟩
  ·exact .inl h1
  ·refine .inr ?_
   rcases rM N 0 _ i p (hp i p hi)with g1|⟨_,_,g3⟩
   ·subst g1;simp[om,bk,mG]at h2
   ·exact⟨g3,h2,(hl.hm i (by omega)).symm,(jX (fK p (List.mem_of_getElem? h3)) hl.ha hl.hm).symm,IL (fK p (List.mem_of_getElem? h3)) hl.ha true⟩
 have up:∀{n:Nat} {ρ:Env} {m:Nat->Nat} {bl:List ag} {w:World},bJ n0 gq.length aY m0 n bl.length ρ m->(∀(k:Nat) (p:ag),(dG N 0 gq)[k]?=some p->(dG N 0 bl)[k]?=some p)->Mem w0 aY m0 (dG N 0 gq) w->Mem w0 ρ m (dG N 0 bl) w:=λ{n ρ m bl w} hl hp hm=>by
  refine hm.sub λi p hi=>?_
  rcases rM N 0 bl i p hi with h1|⟨h1,h2,h3⟩
  ·exact .inl h1
  ·refine .inr ?_
   have hlt:i<(dG N 0 gq).length:=by rw[zJ];omega
   have hq:=hp i _ (List.getElem?_eq_getElem hlt)
   rw[hi]at hq
   have hq:p=(dG N 0 gq)[i]:=Option.some.inj hq
   have h0:(dG N 0 gq)[i]?=some p:=by rw[List.getElem?_eq_getElem hlt,hq]
   rcases rM N 0 gq i p h0 with g1|⟨_,_,g3⟩
   ·subst g1;simp[om,bk,mG]at h2
   ·exact⟨h0,h2,hl.hm i (by omega),jX (fK p (List.mem_of_getElem? g3)) hl.ha hl.hm,IL (fK p (List.mem_of_getElem? g3)) hl.ha false⟩
 intro f
 induction f with
 |zero=>
  intro listed n ρ m tm bl a w G k h hl hp ad hk
  unfold nc at ad
  unfold wpAnyH
  split at ad
  ·rename_i hr
   exact⟨hr,hk n ρ m tm bl G a w (bJ.refl _ _ _ _) (cw.refl _ _) h ad⟩
  ·exact ad.elim
 |succ f ih=>
  intro listed n ρ m tm bl a w G k h hl hp ad hk
  unfold nc at ad
  split at ad
  ·rename_i hr
   exact⟨λ_=>hk n ρ m tm bl G a w (bJ.refl _ _ _ _) (cw.refl _ _) h ad,λi hi=>by rw[hr]at hi;cases hi⟩
  ·rename_i l hl0
   split at ad
   ·rename_i i hi
    unfold F8 at hi
    cases lT:Region.noSelect ops with
    |false=>rw[lT]at hi;cases hi
    |true=>
    rw[lT,cond_true]at hi
    have bE:=List.find?_some hi
    have kr:=List.mem_of_find?_eq_some hi
    simp only[Bool.and_eq_true]at bE
    cases ho:ops[i]? with
    |none=>simp only[ho]at ad;exact ad.elim
    |some o=>
     simp only[ho]at ad
     have ev:w7 N tm bl o=true∨w8 N tm bl o=true:=by
      have:=bE.1;simp only[ho,Bool.or_eq_true,Bool.and_eq_true]at this;exact this.imp id And.right
     obtain⟨bf,eM,hgd⟩:=tN h.t ad
     have h:R w0 n ρ m bf bl a w:=⟨eM,h.d,h.b,h.aR⟩
     have fs:=down hl hp h.aR
     rcases hgd with⟨hw,ad⟩|⟨hw,ad⟩
     ·have hlen:(dG N 0 bl).length=bl.length:=zJ N 0 bl
      obtain⟨aa,n',v,lS,fJ,⟨hv,val,hr,hq⟩,r7⟩:=B4 (L:=L) (bl:=dG N 0 bl) bX (by rw[hlen];exact h.b.dG N) hg ⟨w,up hl hp fs⟩ (by rw[hlen];exact eM) o G _ ad
      rw[hlen]at hv
      have hy:YieldsIf P ops (λw=>Mem w0 aY m0 (dG N 0 gq) w) o val a:= .inl ⟨hw,λw' lX=>ev.elim (λhf=>M9 (ops:=ops) hf (hq w' (up hl hp lX))) (λhf=>M8 hf (hq w' (up hl hp lX)))⟩
      refine wpAnyH_take ho lT bE.2 (by simpa using kr) (λc a w hp=>absurd hp (hQ _ _ _)) hy fs ?_
      have hlt:bJ n bl.length ρ m n' bl.length aa m:=⟨lS,fJ,Nat.le_refl _,λ_ _=>rfl⟩
      exact ih ⟨bU.put (eM.ext fJ lS (Nat.le_refl _) (λ_ _=>rfl)) o.dst hv hr,by rw[put_defers];exact h.d,h.b.ext fJ lS (Nat.le_refl _),h.aR.cT h.b fJ⟩ (hl.trans hlt) hp r7 (hk.later hlt (cw.refl _ _))
     ·refine wpAnyH_take ho lT bE.2 (by simpa using kr) (λc a w hp=>absurd hp (hQ _ _ _)) (.inr ⟨hw,rfl⟩) fs ?_
      exact ih (h.skip o.dst) hl hp ad hk
   split at ad
   ·rename_i i hi
    unfold HT at hi
    cases lT:Region.noSelect ops with
    |false=>rw[lT]at hi;cases hi
    |true=>
    rw[lT,cond_true]at hi
    have bE:=List.find?_some hi
    have kr:=List.mem_of_find?_eq_some hi
    simp only[Bool.and_eq_true]at bE
    cases ho:ops[i]? with
    |none=>simp only[ho]at ad;exact ad.elim
    |some o=>
     simp only[ho]at ad
     obtain⟨bf,eM,hgd⟩:=tN h.t ad
     have h:R w0 n ρ m bf bl a w:=⟨eM,h.d,h.b,h.aR⟩
     have fs:=down hl hp h.aR
     rcases hgd with⟨_,ad⟩|⟨hw,ad⟩
     ·exact ad.elim
     ·refine wpAnyH_take ho lT bE.2 (by simpa using kr) (λc a w hp=>absurd hp (hQ _ _ _)) (.inr ⟨hw,rfl⟩) fs ?_
      exact ih (h.skip o.dst) hl hp ad hk
   unfold wpAnyH
   refine⟨λhr=>absurd hr hl0,λi hi=>?_⟩
   have bE:=allT_holds ad i hi
   unfold wpOp
   cases ho:ops[i]? with
   |none=>simp only[ho]at bE;exact bE.elim
   |some o=>
    simp only[ho]at bE⊢
    obtain⟨bf,eM,hgd⟩:=tN h.t bE
    have h:R w0 n ρ m bf bl a w:=⟨eM,h.d,h.b,h.aR⟩
    rcases hgd with⟨hw,As⟩|⟨hw,As⟩
    ·rw[if_pos hw]
     refine .inl (Ja bX hg jT h As λn' aa m' bf aB ch cf w' h1 h2 h3 h4=>?_)
     cases hf:preB (dG N 0 gq) (dG N 0 aB)with
     |false=>rw[hf]at h4;exact h4.elim
     |true=>
      rw[hf,cond_true]at h4
      have nB:=hl.trans h1
      have hf:=Ik hf
      exact⟨down nB hf h3.aR,ih h3 nB hf h4 (hk.later h1 h2)⟩
    ·rw[if_neg (by simp[hw])]
     exact⟨down hl hp h.aR,ih (h.skip o.dst) hl hp As hk⟩
theorem K7 {inl:hE} {li:Nat->Option di} {rounds:Nat} (hm:P.follows .mixedOrders=true) (bX:fB S P gl w0 aN) (hg:eC gl w0) (jT:lA S L w0 P inl):∀(c:Code),yD rd S L w0 P c (jh P gl aN inl li rounds c):=by
 intro c
 induction c with
 |skip=>intro hd n tm bl k G ρ m a w Q h ad hk;exact wpIn_skip (hk .normal n ρ m tm bl G a w (bJ.refl _ _ _ _) (cw.refl _ _) h ad)
 |exit id=>intro hd n tm bl k G ρ m a w Q h ad hk;exact wpIn_exit (hk (.exit id) n ρ m tm bl G a w (bJ.refl _ _ _ _) (cw.refl _ _) h ad)
 |ret=>intro hd n tm bl k G ρ m a w Q h ad hk;exact wpIn_ret (hk .ret n ρ m tm bl G a w (bJ.refl _ _ _ _) (cw.refl _ _) h ad)
 |region id ops draw=>
  intro hd n tm bl k G ρ m a w Q h ad hk
  have zT:eR S L w0 (k .normal) n bl.length ρ m G (jC Q .normal):=λn' aa m' bf aB ch cf w' h1 h2 h3 h4=>hk .normal n' aa m' bf aB ch cf w' h1 h2 h3 h4
  cases draw with
  |false=>
   simp only[jh,cond_false]at ad
   refine R1 hd ?_
   exact xV bX hg jT ops.toList h ad zT
  |true=>
   simp only[jh,cond_true]at ad
   cases ht:(s4 ops (ui P aN ops)&&yA P (ops.toList.take (ui P aN ops)))with
   |false=>
    simp only[ht,cond_false]at ad
    cases hsz:Nat.ble (ops.toList.filter λo=> !Bz o).length 12 with
    |false=>simp only[hsz,cond_false]at ad;exact ad.elim
    |true=>
     simp only[hsz,cond_true]at ad
     have jR:R w0 n ρ m tm bl a w.drew:=⟨h.t,h.d,h.b,h.aR.grow (World.Extends.drew (World.Extends.refl w))⟩
     refine Is hm hd (wpAny_of_held (S:=λw=>Mem w0 ρ m (dG (uj ops tm bl) 0 bl) w) _ _ _ _ ?_)
     exact KA bX hg jT (λc a w h=>h) (N:=uj ops tm bl) (by unfold uj;cases BC ops<;>cases ops.toList.any Bh<;>simp<;>exact Nat.min_le_left _ _) h.b ops.size jR (bJ.refl _ _ _ _) (λ_ _ h=>h) ad zT
   |true=>
    simp only[ht,cond_true]at ad
    simp only[Bool.and_eq_true]at ht
    have hle:ui P aN ops<=ops.toList.length:=by
     have h1:=ht.1
     simp only[s4,Bool.and_eq_true]at h1
     simpa using Nat.le_of_ble_eq_true h1.1.1.2
    generalize ui P aN ops=hl0 at*
    have jR:R w0 n ρ m tm bl a w.drew:=⟨h.t,h.d,h.b,h.aR.grow (World.Extends.drew (World.Extends.refl w))⟩
    have key:=T9 (P:=P) (Q:=jC Q) (a:=a) (w:=w) (l:=ops.toList) (C:=λw'=>Mem w0 ρ m bl w') hl0 (tc P ops) hm (by rw[toL];exact ht.1) (λw' lX=>jR.aR.grow lX) (λj o hj ho cp b w'=>by
     have:=Ul (l:=ops.toList) (P:=P) ht.2 hj ho cp b w'
     rw[toL]at this;exact this) (by
     rw[toL]
     refine w5 bX hg h.b ⟨_,h.aR⟩ _ (Nat.le_refl _) (agree.refl _ _) h.t h.d ad λn' aa bf an h1 h2 h3 h4 h5 cY b w' kp kj uA=>?_
     have hl:bJ n bl.length ρ m n' bl.length aa m:=⟨h1,h2,Nat.le_refl _,λ_ _=>rfl⟩
     have Md:=(jR.aR.grow kj).cT h.b h2
     refine yY (S:=S) (L:=L) (w0:=w0) (P:=P) (K:=λb w'=>wpList P ops (calm (jC Q)) (ops.toList.drop hl0) b w') kp uA jR.aR.ext.size jR.aR.eL (ops.toList.take hl0) 0 (λj hj=>?_) (by simp;exact Nat.min_eq_left (by simpa using hle)) ⟨h3,h4,h.b.ext h2 h1 (Nat.le_refl _),Md⟩ ((jR.aR.cT h.b h2).under kj) (λbB p gP hp=> .inl ?_) rfl (λt=>⟨λ⟨j,o,hj,_⟩=>by omega,λ_=>rfl⟩) h5 (λsH kI Vh Jl Uw yG DO gF k1 k2 k3 k4=>xV bX hg jT _ k3 k4 ((zT.later hl (cw.refl _ _)).later k1 k2)) h4
     ·have hj':j<hl0:=by simp at hj;omega
      rw[List.getElem?_take,if_pos hj'];simp
     ·rw[iA (h.b _ (List.mem_of_getElem? gP)) h2]at hp
      exact jR.aR.lt gP hp)
    rw[toL]at key
    exact Is hm hd key
 |seq x y OU xq=>
  intro hd n tm bl k G ρ m a w Q h ad hk
  have wX:rd=none∨iC x=true:=hd.imp id λh=>by simp only[iC,Bool.and_eq_true]at h;exact h.1
  have wY:rd=none∨iC y=true:=hd.imp id λh=>by simp only[iC,Bool.and_eq_true]at h;exact h.2
  refine wpIn_seq (OU wX n tm bl _ G ρ m a w _ h ad λx n' aa m' bf aB ch cf w' h1 h2 h3 h4=>?_)
  cases x with
  |normal=>exact xq wY n' bf aB k ch aa m' cf w' Q h3 h4 (hk.later h1 h2)
  |exit id=>exact hk (.exit id) n' aa m' bf aB ch cf w' h1 h2 h3 h4
  |ret=>exact hk .ret n' aa m' bf aB ch cf w' h1 h2 h3 h4
 |cond x y z xq GZ=>
  intro hd n tm bl k G ρ m a w Q h ad hk
  simp only[jh]at ad
  have hx:=bg h.t x
  split at ad
  ·rename_i b hb
   rw[hb]at hx
   have bA:a.eval x= .bool (b.den ρ):=hx.2
   have wX:rd=none∨iC y=true:=hd.imp id λh=>by simp only[iC,Bool.and_eq_true]at h;exact h.1
   have wY:rd=none∨iC z=true:=hd.imp id λh=>by simp only[iC,Bool.and_eq_true]at h;exact h.2
   refine wpIn_cond bA ?_
   split at ad
   ·rename_i v
    cases v with
    |true=>simp only[cond_true]at ad;exact xq wX n tm bl k G ρ m a w Q h ad hk
    |false=>simp only[cond_false]at ad;exact GZ wY n tm bl k G ρ m a w Q h ad hk
   ·simp only[T.holds]at ad
    cases hd:aD.den ρ b with
    |true=>exact xq wX n _ bl k G ρ m a w Q ⟨s3 hd h.t,h.d,h.b,h.aR⟩ (ad.1 (by simpa using hd)) hk
    |false=>exact GZ wY n _ bl k G ρ m a w Q ⟨s3 hd h.t,h.d,h.b,h.aR⟩ (ad.2 (by simpa using hd)) hk
  ·exact ad.elim
 |block id x ih=>
  intro hd n tm bl k G ρ m a w Q h ad hk
  refine wpIn_block (ih hd n tm bl _ G ρ m a w _ h ad λx n' aa m' bf aB ch cf w' h1 h2 h3 h4=>?_)
  cases x with
  |normal=>exact hk .normal n' aa m' bf aB ch cf w' h1 h2 h3 h4
  |ret=>exact hk .ret n' aa m' bf aB ch cf w' h1 h2 h3 h4
  |exit oK=>
   simp only at h4
   simp only[X.to,Exit.inBlock]
   cases hb:Nat.beq oK id with
   |true=>
    simp only[hb,cond_true]at h4
    rw[if_pos (Nat.eq_of_beq_eq_true hb)]
    exact hk .normal n' aa m' bf aB ch cf w' h1 h2 h3 h4
   |false=>
    simp only[hb,cond_false]at h4
    rw[if_neg (λe=>by subst e;rw[show Nat.beq oK oK=true from Nat.beq_refl oK]at hb;cases hb)]
    exact hk (.exit oK) n' aa m' bf aB ch cf w' h1 h2 h3 h4
 |loop x ih=>
  intro hd n tm bl k G ρ m a w Q h ad hk
  simp only[jh]at ad
  split at ad
  ·exact PU (c:=x) hd ih h ad hk
  ·exact wpIn_loop_rounds rounds (IC (c:=x) hd ih rounds h ad hk)
 |_=>intro hd n tm bl k G ρ m a w Q h ad hk;exact ad.elim
def qO (a:Act):ResultVar->Sem Value
 | .tmp t=>Pure.pure (a.tmps.getD t undef)
 | .cell x t=>do loadVar t (<-asAddr (a.tmps.getD x undef))
theorem R6 {n:Nat} {ρ:Env} {m:Nat->Nat} {bl:List ag} {tm:List V} {a:Act} {w:World} {r:ResultVar} {u:W} (hg:eC gl w0) (h:R w0 n ρ m tm bl a w) (hr:vk P gl bl tm r=some u):
 u.ok n bl.length ρ/\(qO a r).run P w= .ok (u.den ρ m) w:=by
 cases r with
 |tmp t=>
  simp only[vk]at hr
  cases ht:tm[t]? with
  |none=>simp[ht]at hr
  |some v=>
   obtain⟨h1,x,h2,h3⟩:=h.t.2 t v ht
   simp only[ht]at hr
   cases v with
   |w To=>
    simp only[Option.some.injEq]at hr
    subst hr
    refine⟨h1,?_⟩
    have:a.tmps.getD t undef=To.den ρ m:=by simp[h2];exact h3
    simp only[qO,this];rfl
   |_=>simp at hr
 |cell x t=>
  simp only[vk]at hr
  cases ht:tm[x]? with
  |none=>simp[ht]at hr
  |some v=>
   obtain⟨h1,y,h2,h3⟩:=h.t.2 x v ht
   simp only[ht]at hr
   cases v with
   |dg l=>simp at hr
   |any=>simp at hr
   |iD _ _ _=>simp at hr
   |jg _ _=>simp at hr
   |w q=>
    cases q with
    |agg l=>simp at hr
    |one p=>
     simp only at hr
     have hy:a.tmps.getD x undef=p.den ρ m:=by simp[h2];exact h3
     cases hc:rz bl gl p with
     |none=>simp[hc]at hr
     |some cs=>
      obtain⟨g,o,hp,aJ,hcell⟩:=zi h.aR h.b hg hc
      simp only[qO,hy,hp]
      cases hX:eb P t with
      |none=>simp[hc,hX]at hr
      |some b=>
       cases b with
       |true=>
        cases hs:cC P t with
        |none=>simp[hc,hX,hs]at hr
        |some k=>
         simp only[hc,hX,hs]at hr
         cases hk:Nat.ble k cs.length with
         |false=>simp[hk]at hr
         |true=>
          simp only[hk,cond_true,Option.some.injEq]at hr
          subst hr
          have hk:=Nat.le_of_ble_eq_true hk
          refine⟨λa h=>aJ a (List.mem_of_mem_take h),?_⟩
          have hl:=run_loadCells_list (P:=P) w ⟨g,o,none⟩ ((cs.take k).map (A.den ρ m)) λj v hj=>by
           rw[dX]
           rw[List.getElem?_map]at hj
           cases hq:(cs.take k)[j]? with
           |none=>simp[hq]at hj
           |some a=>
            simp only[hq,Option.map_some,Option.some.injEq]at hj
            subst hj
            refine hcell j a ?_
            rw[List.getElem?_take]at hq
            split at hq
            ·exact hq
            ·cases hq
          simp only[List.length_map,List.length_take,Nat.min_eq_left hk]at hl
          simp[asAddr,loadVar,iG hX,dQ hs,hl,W.den]
       |false=>
        cases cs with
        |nil=>simp[hc,hX]at hr
        |cons z r=>
         simp only[hc,hX,Option.some.injEq]at hr
         subst hr
         refine⟨aJ z (by simp),?_⟩
         have:=hcell 0 z rfl
         simp only[Nat.add_zero]at this
         simp[asAddr,loadVar,iG hX,this,W.den]
theorem Ix {n:Nat} {ρ:Env} {m:Nat->Nat} {bl:List ag} {tm:List V} {a:Act} {w:World} (hg:eC gl w0) (h:R w0 n ρ m tm bl a w):∀{rs:List ResultVar} {l:List W},qP P gl bl tm rs=some l->
 (∀u∈l,W.ok n bl.length ρ u)/\(rs.mapM (m:=Sem) (qO a)).run P w= .ok (l.map (W.den ρ m)) w
 |[],l,hr=>by simp[qP]at hr;subst hr;exact⟨by simp,by simp⟩
 |r::s,l,hr=>by
  simp only[qP]at hr
  cases h1:vk P gl bl tm r with
  |none=>simp[h1]at hr
  |some u=>
   cases h2:qP P gl bl tm s with
   |none=>simp[h1,h2]at hr
   |some aU=>
    simp only[h1,h2,Option.some.injEq]at hr
    subst hr
    have e1:=R6 hg h h1
    have e2:=Ix hg h h2
    refine⟨λx hx=>by rcases List.mem_cons.1 hx with rfl|hx;exact e1.1;exact e2.1 x hx,?_⟩
    rw[List.mapM_cons,Sem.run_bind]
    simp only[e1.2,e2.2,Result.andThen_ok,Sem.run_bind,Sem.run_pure,List.map_cons]
theorem Iw {fn:Func} {n:Nat} {ρ:Env} {m:Nat->Nat} {bl:List ag} {tm:List V} {a:Act} {w:World} {k:RK} {G:b6} (hg:eC gl w0) (h:R w0 n ρ m tm bl a w) (ad:(B7 P gl fn n tm bl k).holds S L G ρ):
 ∃v val,V.ok n bl.length ρ v/\v.rel ρ m val/\(results fn a.tmps).run P w= .ok val w/\(k n v bl).holds S L G ρ:=by
 unfold B7 at ad
 cases hr:qP P gl bl tm fn.results.toList with
 |none=>
  simp only[hr]at ad
  cases ho:BO tm fn.results.toList with
  |none=>simp[ho,T.holds]at ad
  |some v=>
   simp only[ho]at ad
   obtain⟨t,e,hv⟩:∃t,fn.results.toList=[.tmp t]/\tm[t]?=some v:=by
    unfold BO at ho
    split at ho
    ·rename_i t he
     refine⟨t,he,?_⟩
     split at ho<;>first|(cases ho;assumption)|cases ho
    ·cases ho
   obtain⟨h1,x,h2,h3⟩:=h.t.2 t v hv
   refine⟨v,x,h1,h3,?_,ad⟩
   have rF:fn.results=#[.tmp t]:=by rw[<-Array.toArray_toList (xs:=fn.results),e]
   have ex:a.tmps.getD t undef=x:=by simp[h2]
   have e:results fn a.tmps=(do let vs<-fn.results.mapM (qO a);Pure.pure (if h:vs.size=1 then vs[0]else .tuple vs)):=by
    unfold results
    congr 1
   rw[e,rF,Array.mapM_eq_mapM_toList]
   simp[Sem.run_bind,Sem.run_map,Result.andThen_ok,qO,h2]
 |some l=>
  obtain⟨h1,h2⟩:=Ix hg h hr
  have dB:(results fn a.tmps).run P w= .ok (if h:(l.map (W.den ρ m)).toArray.size=1 then(l.map (W.den ρ m)).toArray[0]else .tuple (l.map (W.den ρ m)).toArray) w:=by
   have e:results fn a.tmps=(do let vs<-fn.results.mapM (qO a);Pure.pure (if h:vs.size=1 then vs[0]else .tuple vs)):=by
    unfold results
    congr 1
   rw[e,Array.mapM_eq_mapM_toList]
   simp only[Sem.run_bind,Sem.run_map,Result.andThen_ok,h2,Sem.run_pure]
  simp only[hr]at ad
  split at ad
  ·rename_i u heq
   have heq:=Option.some.inj heq
   subst heq
   exact⟨.w u,_,h1 u (by simp),rfl,by rw[dB];simp,ad⟩
  ·rename_i aU hne heq
   have heq:=Option.some.inj heq
   subst heq
   refine⟨.dg l,_,h1,rfl,?_,ad⟩
   rw[dB,dif_neg]
   intro hs
   simp at hs
   match l,hs,hne with
   |[u],_,hne=>exact hne u rfl
  ·rename_i heq;cases heq
theorem DH {ρ:Env} {m:Nat->Nat}:∀{vs:List V} {xs:List Value},c2 ρ m vs xs->vs.length=xs.length
 |[],[],_=>rfl
 |_::_,_::_,h=>by simp[DH h.2]
 |[],_::_,h=>h.elim
 |_::_,[],h=>h.elim
theorem DE {n nb:Nat} {ρ:Env} {m:Nat->Nat} (k:Nat):∀{vs:List V} {xs:List Value},(∀v∈vs,V.ok n nb ρ v)->c2 ρ m vs xs->pj n nb ρ m (vs++x8 k) (xs++List.replicate k undef)
 |[],[],_,_=>by
  simp only[List.nil_append]
  induction k with
  |zero=>trivial
  |succ k ih=>exact⟨by intro x hx;simp at hx,rfl,ih⟩
 |v::r,x::s,h,hr=>⟨h v (by simp),hr.1,DE k (λu hu=>h u (List.mem_cons_of_mem _ hu)) hr.2⟩
 |[],_::_,_,h=>h.elim
 |_::_,[],_,h=>h.elim
theorem Ea (nw:w0.ds=[]) {li:FuncId->Nat->Option di} {rounds:Nat} {inl:hE} (hm:P.follows .mixedOrders=true) (bX:fB S P gl w0 aN) (hg:eC gl w0) (ih:lA S L w0 P inl):lA S L w0 P (wh P gl aN inl li rounds):=by
 intro f n vs bl k G ρ m w xs c8 hb gb dO hrel ad hk
 unfold wh at ad
 cases hf:P.funcs[f]? with
 |none=>simp[hf,T.holds]at ad
 |some fn=>
  cases rZ:fn.body with
  |none=>simp[hf,rZ,T.holds]at ad
  |some c=>
   simp only[hf,rZ]at ad
   cases hc:(!(fn.name== "runtime.NumGoroutine")&&Nat.ble vs.length fn.ntmps)with
   |false=>simp[hc,T.holds]at ad
   |true=>
    simp only[hc,cond_true]at ad
    simp only[Bool.and_eq_true,Bool.not_eq_true']at hc
    have hlen:=DH hrel
    refine⟨?_,calls_of_wp hf rZ ?_⟩
    ·have h1:¬fn.name= "runtime.NumGoroutine" :=by have:=hc.1;simpa using this
     simp[callFunc,hf,rZ,h1]
    ·have hR:R w0 n ρ m (vs++x8 (fn.ntmps-vs.length)) bl {tmps:=xs.toArray++Array.replicate (fn.ntmps-xs.toArray.size) undef,defers:=[]} w:=by
      refine⟨?_,nw.symm,hb,gb⟩
      have:=yR (DE (fn.ntmps-vs.length) dO hrel)
      have e:(xs++List.replicate (fn.ntmps-vs.length) undef).toArray=xs.toArray++Array.replicate (fn.ntmps-xs.toArray.size) undef:=by
       simp[hlen]
      rw[e]at this
      exact this
     refine wpIn_wide.1 (K7 (rd:=none) hm bX hg ih c (.inl rfl) n _ bl _ G ρ m _ w _ hR ad λx n' aa m' bf aB ch cf w' h1 h2 h3 h4=>?_)
     cases x with
     |exit id=>exact h4.elim
     |normal=>
      obtain⟨v,val,p1,bd,bx,dC⟩:=Iw hg h3 h4
      exact⟨h3.d.trans nw,val,bx,hk n' v aB ch aa m' w' val h1 h2 p1 bd h3.b h3.aR dC⟩
     |ret=>
      obtain⟨v,val,p1,bd,bx,dC⟩:=Iw hg h3 h4
      exact⟨h3.d.trans nw,val,bx,hk n' v aB ch aa m' w' val h1 h2 p1 bd h3.b h3.aR dC⟩
theorem El (nw:w0.ds=[]) {li:FuncId->Nat->Option di} {rounds:Nat} (hm:P.follows .mixedOrders=true) (bX:fB S P gl w0 aN) (hg:eC gl w0):∀d,lA S L w0 P (wo P gl aN li rounds d)
 |0=>λf n vs bl k G ρ m w xs c8 _ _ _ _ ad _=>ad.elim
 |d+1=>Ea nw hm bX hg (El nw hm bX hg d)
def qY (S:Nat->List Int->List Int->Prop) (L:V->Env->Prop) (w0:b7) (P:Program) (e9:mg):Prop:=
 ∀f g,e9 f=some g->∀n vs bl k G ρ m w xs c8,bn n (List.length bl) ρ bl->Mem w0 ρ m bl w->(∀v∈vs,V.ok n bl.length ρ v)->c2 ρ m vs xs->(g n vs bl k).holds S L G ρ->re S L w0 k n bl.length ρ m G c8->
  (callFunc f xs.toArray).run P w= .ok (.enter f xs.toArray) w/\Calls P f xs.toArray w c8
theorem Q8 {e9:mg} {inl:hE} (kY:qY S L w0 P e9) (h:lA S L w0 P inl):lA S L w0 P (BP e9 inl):=by
 intro f n vs bl k G ρ m w xs c8 h1 h2 h3 h4 h5 h6
 unfold BP at h5
 cases hf:e9 f with
 |none=>rw[hf]at h5;exact h f n vs bl k G ρ m w xs c8 h1 h2 h3 h4 h5 h6
 |some g=>rw[hf]at h5;exact kY f g hf n vs bl k G ρ m w xs c8 h1 h2 h3 h4 h5 h6
theorem Ek (nw:w0.ds=[]) {e9:mg} {li:FuncId->Nat->Option di} {rounds:Nat} (hm:P.follows .mixedOrders=true) (bX:fB S P gl w0 aN) (hg:eC gl w0) (kY:qY S L w0 P e9):∀d,lA S L w0 P (zf e9 P gl aN li rounds d)
 |0=>λf n vs bl k G ρ m w xs c8 _ _ _ _ ad _=>ad.elim
 |d+1=>Ea nw hm bX hg (Q8 kY (Ek nw hm bX hg kY d))
theorem Mem.extends {b w w':World} {ρ:Env} {m:Nat->Nat} {bl:List ag} (h:Mem ⟨b,w,λ_=>False,λ_=>False,[]⟩ ρ m bl w'):w.Extends w':=by
 have kl:∀i:Nat,i<w.heap.size->w'.heap[i]?=w.heap[i]?:=λi hi=>h.jk i hi id
 exact⟨h.fN,h.jv,h.js,h.eL,λa ha=>by simp only[World.cell?,kl a.block ha],λa ha=>by simp only[World.frozen?,kl a.block ha],kl⟩
theorem KR {b w:World} {li:FuncId->Nat->Option di} {rounds d:Nat} (hm:P.follows .mixedOrders=true) (bX:fB S P gl ⟨b,w,λ_=>False,λ_=>False,[]⟩ aN) (hg:eC gl ⟨b,w,λ_=>False,λ_=>False,[]⟩) (f:FuncId) (n:Nat) (vs:List V) (ρ:Env) (xs:List Value) (he:b.Extends w)
 (dO:∀v∈vs,V.ok n 0 ρ v) (hrel:c2 ρ (λ_=>0) vs xs) (ad:(wo P gl aN li rounds d f n vs [] λn' v _=> .leaf v).holds S (λv aa=>L v aa) (λ_ _=>False) ρ):
 Calls P f xs.toArray w λe w'=>∃v aa m val nb,e= .returned val/\v.rel aa m val/\(∃n',V.ok n' nb aa v)/\L v aa/\w.Extends w':=by
 have gb:Mem ⟨b,w,λ_=>False,λ_=>False,[]⟩ ρ (λ_=>0) [] w:=⟨he,rfl,rfl,rfl,Nat.le_refl _,λ_ _ _=>rfl,λi cs t h=>by simp at h,λi sh off code cap kind t h=>by simp at h,λi j p q h=>by simp at h⟩
 refine(El rfl (L:=L) (li:=li) (rounds:=rounds) hm bX hg d f n vs [] (λn' v _=> .leaf v) (λ_ _=>False) ρ (λ_=>0) w xs _ (λp hp=>by simp at hp) gb dO hrel ad ?_).2
 intro n' v aB ch aa m' w' val h1 h2 h3 h4 h5 h6 h7
 exact⟨v,aa,m',val,_,rfl,h4,⟨n',h3⟩,h7,h6.extends⟩
end
end Go.aZ
namespace Go.aZ
open M
def ah.sym (s:Nat):ah->A
 |int k lo hi=> .int k ⟨.var s,lo,hi⟩
 |str=> .str (.var s)
 |bool=> .bool (.eq (.var s) (.const 1))
 |sub _=> .con (.slice none 0 0)
inductive D where
 |str
 |int (k:IntKind) (lo hi:Int)
 |bool
 |agg (k:IntKind) (n:Nat) (lo hi:Int)
 |mix (l:List ah)
 |ic (l:List UInt8)
 |lZ (k:IntKind) (c:Int)
def mR (lo hi:Int):Nat->List (Int×Int)
 |0=>[]
 |n+1=>(lo,hi)::mR lo hi n
noncomputable def D.bds:D->List (Int×Int)
 |str=>[(0,aO)]
 |int _ lo hi=>[(lo,hi)]
 |bool=>[(0,1)]
 |agg _ n lo hi=>mR lo hi n
 |mix l=>l.map ah.cx
 |ic _=>[]
 |lZ .. =>[]
def D.num:D->Nat
 |str=>1
 |int .. =>1
 |bool=>1
 |agg _ n _ _=>n
 |mix l=>l.length
 |ic _=>0
 |lZ .. =>0
def D.val:D->List Int->Value
 |str,zs=> .string (aH (J (zs.getD 0 0)))
 |int k _ _,zs=> .int k (zs.getD 0 0)
 |bool,zs=> .bool (decide (zs.getD 0 0=1))
 |agg k n _ _,zs=> .agg ((zs.take n).map (.int k)).toArray
 |mix l,zs=> .agg (List.zipWith ah.val l zs).toArray
 |ic l,_=> .string (aH (k8 l))
 |lZ k c,_=> .int k c
def sS (k:IntKind) (lo hi:Int):Nat->Nat->List A
 |_,0=>[]
 |s,n+1=> .int k ⟨.var s,lo,hi⟩::sS k lo hi (s+1) n
def sG:Nat->List ah->List A
 |_,[]=>[]
 |s,c::r=>c.sym s::sG (s+1) r
def D.sym (s:Nat):D->W
 |str=> .one (.str (.var s))
 |int k lo hi=> .one (.int k ⟨.var s,lo,hi⟩)
 |bool=> .one (.bool (.eq (.var s) (.const 1)))
 |agg k n lo hi=> .agg (sS k lo hi s n)
 |mix l=> .agg (sG s l)
 |ic l=> .one (.str (.const (dF (k8 l))))
 |lZ k c=> .one (.int k (aP.const c))
noncomputable def cW:List D->List (Int×Int)
 |[]=>[]
 |d::r=>d.bds++cW r
def ij:List D->List Int->List Value
 |[],_=>[]
 |d::r,zs=>d.val zs::ij r (zs.drop d.num)
def mW:Nat->List D->List W
 |_,[]=>[]
 |s,d::r=>d.sym s::mW (s+d.num) r
theorem gR:∀{b:List (Int×Int)} {l:List Int},bb b l->l.length=b.length
 |[],[],_=>rfl
 |_::_,_::_,h=>by simp[gR h.2.2]
 |[],_::_,h=>h.elim
 |_::_,[],h=>h.elim
theorem Iu (lo hi:Int):∀n,(mR lo hi n).length=n
 |0=>rfl
 |n+1=>by simp[mR,Iu lo hi n]
theorem D.tw (d:D):d.bds.length=d.num:=by cases d<;>simp[D.bds,D.num,Iu]
theorem xr:∀{b bq:List (Int×Int)} {l:List Int},bb (b++bq) l->bb b (l.take b.length)/\bb bq (l.drop b.length)
 |[],_,_,h=>⟨trivial,h⟩
 |_::_,_,_::_,h=>by
  have ih:=xr h.2.2
  exact⟨⟨h.1,h.2.1,ih.1⟩,ih.2⟩
 |_::_,_,[],h=>h.elim
def At (ρ:Env) (s:Nat) (zs:List Int):Prop:=∀j,j<zs.length->ρ (s+j)=zs.getD j 0
theorem At.bm (ρ:Env) (s:Nat) (zs:List Int):At (bm ρ s zs) s zs:=λj hj=>vF zs s ρ j hj
theorem At.tail {ρ:Env} {s:Nat} {z:Int} {zs:List Int} (h:At ρ s (z::zs)):ρ s=z/\At ρ (s+1) zs:=by
 refine⟨by simpa using h 0 (by simp),λj hj=>?_⟩
 have:=h (j+1) (by simpa using hj)
 rw[show s+1+j=s+(j+1) by omega,this];simp
theorem At.drop {ρ:Env} {s:Nat} {zs:List Int} (h:At ρ s zs) (k:Nat):At ρ (s+k) (zs.drop k):=λj hj=>by
 have:=h (k+j) (by simp at hj;omega)
 rw[show s+k+j=s+(k+j) by omega,this]
 simp[List.getD]
theorem It {ρ:Env} {m:Nat->Nat} {N nb:Nat} {k:IntKind} {lo hi:Int}:∀(n s:Nat) (zs:List Int),bb (mR lo hi n) (zs.take n)->At ρ s zs->s+n<=N->
 (∀a∈sS k lo hi s n,A.ok N nb ρ a)/\(sS k lo hi s n).map (A.den ρ m)=(zs.take n).map (.int k)
 |0,s,zs,_,_,_=>by simp[sS]
 |n+1,s,[],h,_,_=>by simp[mR,bb]at h
 |n+1,s,z::zs,h,ha,hN=>by
  have ht:=ha.tail
  simp only[mR,List.take_succ_cons,bb]at h
  obtain⟨h1,h2⟩:=It (m:=m) (nb:=nb) (k:=k) (N:=N) n (s+1) zs h.2.2 ht.2 (by omega)
  refine⟨λa hm=>?_,by simp only[sS,List.map_cons,A.den,I.bc,ht.1,h2,List.take_succ_cons]⟩
  rcases List.mem_cons.1 hm with rfl|hm
  ·exact⟨I.cA (by omega),by simp only[I.bc,ht.1];exact h.1,by simp only[I.bc,ht.1];exact h.2.1⟩
  ·exact h1 a hm
theorem ah.vy {ρ:Env} {m:Nat->Nat} {N nb:Nat} (c:ah) {s:Nat} {z:Int} (h0:c.cx.1<=z) (h1:z<=c.cx.2) (hz:ρ s=z) (hN:s<N):(c.sym s).ok N nb ρ/\(c.sym s).den ρ m=c.val z:=by
 cases c with
 |int k lo hi=>exact⟨⟨I.cA hN,by simp only[I.bc,hz];exact h0,by simp only[I.bc,hz];exact h1⟩,by simp[ah.sym,ah.val,A.den,I.bc,hz]⟩
 |str=>exact⟨⟨I.cA hN,by rw[I.bc,hz];exact h0,by rw[I.bc,hz];exact h1⟩,by simp[ah.sym,ah.val,A.den,I.bc,hz]⟩
 |bool=>exact⟨⟨I.cA hN,I.bt _ _⟩,by simp[ah.sym,ah.val,A.den,aD.den,I.bc,I.aA,hz]⟩
 |sub k=>exact⟨(rfl:(Value.slice none 0 0).oneCell'=true),rfl⟩
theorem HI {ρ:Env} {m:Nat->Nat} {N nb:Nat}:∀(l:List ah) (s:Nat) (zs:List Int),bb (l.map ah.cx) (zs.take l.length)->At ρ s zs->s+l.length<=N->
 (∀a∈sG s l,A.ok N nb ρ a)/\(sG s l).map (A.den ρ m)=List.zipWith ah.val l zs
 |[],s,zs,_,_,_=>by simp[sG]
 |_::_,s,[],h,_,_=>by simp[bb]at h
 |c::r,s,z::zs,h,ha,hN=>by
  have ht:=ha.tail
  simp only[List.map_cons,List.length_cons,List.take_succ_cons,bb]at h
  obtain⟨h1,h2⟩:=HI (m:=m) (nb:=nb) (N:=N) r (s+1) zs h.2.2 ht.2 (by simp at hN;omega)
  have hc:=c.vy (m:=m) (nb:=nb) (N:=N) h.1 h.2.1 ht.1 (by simp at hN;omega)
  refine⟨λa hm=>?_,by simp only[sG,List.map_cons,hc.2,h2,List.zipWith_cons_cons]⟩
  rcases List.mem_cons.1 hm with rfl|hm
  ·exact hc.1
  ·exact h1 a hm
theorem D.vy {ρ:Env} {m:Nat->Nat} {N nb:Nat} (d:D) {s:Nat} {zs:List Int} (h:bb d.bds (zs.take d.num)) (ha:At ρ s zs) (hN:s+d.num<=N):(d.sym s).ok N nb ρ/\(d.sym s).den ρ m=d.val zs:=by
 cases d with
 |str=>
  cases zs with
  |nil=>simp[D.bds,bb]at h
  |cons z r=>
   have ht:=ha.tail
   simp only[D.bds,D.num,List.take_succ_cons,bb]at h
   simp only[D.num]at hN
   exact⟨⟨I.cA (by omega),by rw[I.bc,ht.1];exact h.1,by rw[I.bc,ht.1];exact h.2.1⟩,by simp[D.sym,W.den,A.den,D.val,I.bc,ht.1]⟩
 |int k lo hi=>
  cases zs with
  |nil=>simp[D.bds,bb]at h
  |cons z r=>
   have ht:=ha.tail
   simp only[D.bds,D.num,List.take_succ_cons,bb]at h
   simp only[D.num]at hN
   exact⟨⟨I.cA (by omega),by simp only[I.bc,ht.1];exact h.1,by simp only[I.bc,ht.1];exact h.2.1⟩,by simp[D.sym,W.den,A.den,D.val,I.bc,ht.1]⟩
 |bool=>
  cases zs with
  |nil=>simp[D.bds,bb]at h
  |cons z r=>
   have ht:=ha.tail
   simp only[D.num]at hN
   exact⟨⟨I.cA (by omega),I.bt _ _⟩,by simp[D.sym,W.den,A.den,D.val,aD.den,I.bc,I.aA,ht.1]⟩
 |agg k n lo hi=>
  have:=It (m:=m) (nb:=nb) (k:=k) n s zs h ha hN
  exact⟨this.1,by simp only[D.sym,W.den,D.val,this.2]⟩
 |mix l=>
  have:=HI (m:=m) (nb:=nb) l s zs h ha hN
  exact⟨this.1,by simp only[D.sym,W.den,D.val,this.2]⟩
 |ic l=>exact⟨⟨I.bt _ _,by rw[I.aA];exact O9 l⟩,by simp[D.sym,W.den,A.den,D.val,I.aA,gD]⟩
 |lZ k c=>exact⟨aP.iu _ _ c,by simp[D.sym,W.den,A.den,D.val,aP.const,I.aA]⟩
theorem CO {ρ:Env} {m:Nat->Nat} {N nb:Nat}:∀(ds:List D) {s:Nat} {zs:List Int},bb (cW ds) zs->At ρ s zs->s+(cW ds).length<=N->(∀u∈mW s ds,W.ok N nb ρ u)/\(mW s ds).map (W.den ρ m)=ij ds zs
 |[],s,zs,_,_,_=>by simp[mW,ij]
 |d::r,s,zs,h,ha,hN=>by
  have hs:=xr h
  rw[D.tw]at hs
  simp only[cW,List.length_append,D.tw]at hN
  have h1:=d.vy (m:=m) (nb:=nb) hs.1 ha (N:=N) (by omega)
  have h2:=CO (m:=m) (nb:=nb) (N:=N) r hs.2 (ha.drop d.num) (by omega)
  exact⟨λu hu=>by rcases List.mem_cons.1 hu with rfl|hu;exact h1.1;exact h2.1 u hu,by simp[mW,ij,h1.2,h2.2]⟩
def sU (ds:List D) (s:Nat):V:=match mW s ds with|[u]=> .w u|l=> .dg l
def fO (ds:List D) (zs:List Int):Value:=match ij ds zs with|[x]=>x|l=> .tuple l.toArray
def jj (lo hi:Int) (x:aP):Bool:=decide (lo<=x.lo)&&decide (x.hi<=hi)
def gr (k:IntKind) (lo hi:Int):List A->Option (List I)
 |[]=>some []
 | .int aE x::r=>cond (decide (k=aE)&&jj lo hi x) (match gr k lo hi r with|some l=>some (x.l::l)|none=>none) none
 |_::_=>none
def ah.fit:ah->A->Option I
 |int k lo hi,.int aE x=>cond (decide (k=aE)&&jj lo hi x) (some x.l) none
 |str,.str l=>some l
 |bool,.bool (.lit b)=>some (.const (cond b 1 0))
 |_,_=>none
def jL:List ah->List A->Option (List I)
 |[],[]=>some []
 |c::r,a::s=>match c.fit a,jL r s with|some x,some l=>some (x::l)|_,_=>none
 |_,_=>none
def pN:D->V->Option (List I)
 | .int k lo hi,.w (.one (.int aE x))=>cond (decide (k=aE)&&jj lo hi x) (some [x.l]) none
 | .agg k n lo hi,.w (.agg l)=>cond (Nat.beq l.length n) (gr k lo hi l) none
 | .mix l,.w (.agg s)=>jL l s
 | .str,.w (.one (.str l))=>some [l]
 | .bool,.w (.one (.bool (.lit b)))=>some [.const (cond b 1 0)]
 | .ic l,.w (.one (.str x))=>match x.bS with|some c=>cond (decide (c=dF (k8 l))) (some []) none|none=>none
 | .lZ k c,.w (.one (.int aE x))=>match x.l.bS with|some d=>cond (decide (k=aE)&&decide (d=c)) (some []) none|none=>none
 |_,_=>none
def ki:List D->List V->Option (List I)
 |[],[]=>some []
 |d::r,v::s=>match pN d v,ki r s with|some a,some b=>some (a++b)|_,_=>none
 |_,_=>none
theorem tK {n:Nat} {ρ:Env} {lo hi:Int} {x:aP} (h:jj lo hi x=true) (hx:x.ok n ρ):lo<=x.l.den ρ/\x.l.den ρ<=hi:=by
 simp only[jj,Bool.and_eq_true,decide_eq_true_eq]at h
 have:=hx.2;omega
theorem zE {n nb:Nat} {ρ:Env} {m:Nat->Nat} {k:IntKind} {lo hi:Int}:∀{l:List A} {r:List I},gr k lo hi l=some r->(∀a∈l,A.ok n nb ρ a)->r.length=l.length/\bb (mR lo hi l.length) (r.map (·.den ρ))/\l.map (A.den ρ m)=(r.map (·.den ρ)).map (.int k)
 |[],r,h,_=>by simp[gr]at h;subst h;exact⟨rfl,trivial,rfl⟩
 | .int aE x::s,r,h,aJ=>by
  simp only[gr]at h
  cases hc:(decide (k=aE)&&jj lo hi x)with
  |false=>simp[hc]at h
  |true=>
   simp only[hc,cond_true]at h
   simp only[Bool.and_eq_true,decide_eq_true_eq]at hc
   cases hr:gr k lo hi s with
   |none=>simp[hr]at h
   |some ei=>
    simp only[hr,Option.some.injEq]at h
    subst h
    obtain⟨h1,h2,h3⟩:=zE (m:=m) hr λa ha=>aJ a (List.mem_cons_of_mem _ ha)
    have hx:x.ok n ρ:=aJ (.int aE x) (by simp)
    have hf:=tK hc.2 hx
    exact⟨by simp[h1],⟨hf.1,hf.2,h2⟩,by simp only[List.map_cons,h3,A.den,hc.1]⟩
 | .bool _::_,_,h,_=>by simp[gr]at h
 | .ptr .. ::_,_,h,_=>by simp[gr]at h
 | .gY .. ::_,_,h,_=>by simp[gr]at h
 | .gptr .. ::_,_,h,_=>by simp[gr]at h
 | .slc .. ::_,_,h,_=>by simp[gr]at h
 | .con _::_,_,h,_=>by simp[gr]at h
 | .str _::_,_,h,_=>by simp[gr]at h
theorem ah.LO {n nb:Nat} {ρ:Env} {m:Nat->Nat} {c:ah} {a:A} {l:I} (h:c.fit a=some l) (aJ:a.ok n nb ρ):(c.cx.1<=l.den ρ/\l.den ρ<=c.cx.2)/\a.den ρ m=c.val (l.den ρ):=by
 unfold ah.fit at h
 split at h
 ·rename_i k lo hi aE x
  cases hc:(decide (k=aE)&&jj lo hi x)with
  |false=>simp[hc]at h
  |true=>
   simp only[hc,cond_true,Option.some.injEq]at h
   subst h
   simp only[Bool.and_eq_true,decide_eq_true_eq]at hc
   exact⟨tK hc.2 aJ,by simp only[A.den,ah.val,hc.1]⟩
 ·simp only[Option.some.injEq]at h;subst h
  exact⟨aJ.2,rfl⟩
 ·rename_i b
  simp only[Option.some.injEq]at h;subst h
  cases b<;>simp[ah.cx,ah.val,A.den,aD.den,I.aA]
 ·cases h
theorem Fb {n nb:Nat} {ρ:Env} {m:Nat->Nat}:∀{d:List ah} {l:List A} {r:List I},jL d l=some r->(∀a∈l,A.ok n nb ρ a)->r.length=d.length/\bb (d.map ah.cx) (r.map (·.den ρ))/\l.map (A.den ρ m)=List.zipWith ah.val d (r.map (·.den ρ))
 |[],[],r,h,_=>by simp[jL]at h;subst h;exact⟨rfl,trivial,rfl⟩
 |c::d,a::s,r,h,aJ=>by
  simp only[jL]at h
  cases hx:c.fit a with
  |none=>simp[hx]at h
  |some x=>
   cases hr:jL d s with
   |none=>simp[hx,hr]at h
   |some ei=>
    simp only[hx,hr,Option.some.injEq]at h
    subst h
    obtain⟨h1,h2,h3⟩:=Fb (m:=m) hr λa ha=>aJ a (List.mem_cons_of_mem _ ha)
    have hf:=ah.LO (m:=m) hx (aJ a (by simp))
    exact⟨by simp[h1],⟨hf.1.1,hf.1.2,h2⟩,by simp only[List.map_cons,h3,hf.2,List.zipWith_cons_cons]⟩
 |[],_::_,_,h,_=>by simp[jL]at h
 |_::_,[],_,h,_=>by simp[jL]at h
theorem Jf {n:Nat} {ρ:Env} {l:List UInt8} {x:I} {c:Int} (hc:x.bS=some c) (h:c=dF (k8 l)):J (x.den ρ)=k8 l:=by rw[I.er hc,h,gD]
theorem E8 {n nb:Nat} {ρ:Env} {m:Nat->Nat} {d:D} {v:V} {r:List I} {x:Value} (h:pN d v=some r) (aJ:v.ok n nb ρ) (hx:v.rel ρ m x):r.length=d.num/\bb d.bds (r.map (·.den ρ))/\∀zs,d.val ((r.map (·.den ρ))++zs)=x:=by
 unfold pN at h
 split at h
 ·rename_i k lo hi aE y
  cases hc:(decide (k=aE)&&jj lo hi y)with
  |false=>simp[hc]at h
  |true=>
   simp only[hc,cond_true,Option.some.injEq]at h
   subst h
   simp only[Bool.and_eq_true,decide_eq_true_eq]at hc
   have hf:=tK hc.2 aJ
   simp only[V.rel,W.den,A.den]at hx
   exact⟨rfl,⟨hf.1,hf.2,trivial⟩,λzs=>by simp[D.val,hx,hc.1]⟩
 ·rename_i k n' lo hi l
  cases hc:Nat.beq l.length n' with
  |false=>simp[hc]at h
  |true=>
   simp only[hc,cond_true]at h
   have hl:=Nat.eq_of_beq_eq_true hc
   subst hl
   obtain⟨h1,h2,h3⟩:=zE (m:=m) h aJ
   simp only[V.rel,W.den]at hx
   exact⟨h1,h2,λzs=>by rw[hx,h3];simp only[D.val];rw[List.take_append_of_le_length (by simp[h1]),List.take_of_length_le (by simp[h1])]⟩
 ·rename_i l s
  obtain⟨h1,h2,h3⟩:=Fb (m:=m) h aJ
  simp only[V.rel,W.den]at hx
  refine⟨h1,h2,λzs=>?_⟩
  rw[hx,h3]
  simp only[D.val]
  congr 2
  have key:∀(a:List ah) (b c:List Int),b.length=a.length->List.zipWith ah.val a (b++c)=List.zipWith ah.val a b:=by
   intro a
   induction a with
   |nil=>intro b c _;simp
   |cons p a ih=>
    intro b c hb
    cases b with
    |nil=>simp at hb
    |cons z b=>simp[ih b c (by simpa using hb)]
  exact key _ _ _ (by simp[h1])
 ·rename_i l
  simp only[Option.some.injEq]at h;subst h
  simp only[V.rel,W.den,A.den]at hx
  exact⟨rfl,⟨aJ.2.1,aJ.2.2,trivial⟩,λzs=>by rw[hx];rfl⟩
 ·rename_i b
  simp only[Option.some.injEq]at h;subst h
  simp only[V.rel,W.den,A.den,aD.den]at hx
  cases b<;>exact⟨rfl,by simp[D.bds,bb,I.aA],λzs=>by rw[hx];simp[D.val,I.aA]⟩
 ·rename_i l y
  cases hc:y.bS with
  |none=>simp[hc]at h
  |some c=>
   simp only[hc]at h
   cases hd:decide (c=dF (k8 l))with
   |false=>simp[hd]at h
   |true=>
    simp only[hd,cond_true,Option.some.injEq]at h
    subst h
    have hd:c=dF (k8 l):=by simpa using hd
    refine⟨rfl,trivial,λzs=>?_⟩
    have hx:x= .string (aH (J (y.den ρ))):=hx
    rw[hx,Jf (n:=n) hc hd];rfl
 ·rename_i k c aE y
  cases hc:y.l.bS with
  |none=>simp[hc]at h
  |some d=>
   simp only[hc]at h
   cases hd:(decide (k=aE)&&decide (d=c))with
   |false=>simp[hd]at h
   |true=>
    simp only[hd,cond_true,Option.some.injEq]at h
    subst h
    simp only[Bool.and_eq_true,decide_eq_true_eq]at hd
    refine⟨rfl,trivial,λzs=>?_⟩
    have hx:x= .int aE (y.l.den ρ):=hx
    rw[hx,I.er hc,<-hd.1,hd.2];rfl
 ·cases h
theorem zH {n nb:Nat} {ρ:Env} {m:Nat->Nat}:∀{ds:List D} {vs:List V} {r:List I} {xs:List Value},ki ds vs=some r->(∀v∈vs,V.ok n nb ρ v)->c2 ρ m vs xs->bb (cW ds) (r.map (·.den ρ))/\ij ds (r.map (·.den ρ))=xs
 |[],[],r,[],h,_,_=>by simp[ki]at h;subst h;exact⟨trivial,rfl⟩
 |d::ds,v::vs,r,x::xs,h,aJ,hr=>by
  simp only[ki]at h
  cases h1:pN d v with
  |none=>simp[h1]at h
  |some a=>
   cases h2:ki ds vs with
   |none=>simp[h1,h2]at h
   |some b=>
    simp only[h1,h2,Option.some.injEq]at h
    subst h
    obtain⟨p1,bd,bx⟩:=E8 (m:=m) h1 (aJ v (by simp)) hr.1
    obtain⟨q1,q2⟩:=zH h2 (λu hu=>aJ u (List.mem_cons_of_mem _ hu)) hr.2
    refine⟨by rw[List.map_append];exact nL bd q1,?_⟩
    rw[List.map_append]
    simp only[ij,bx]
    rw[show d.num=(a.map (·.den ρ)).length by simp[p1],List.drop_left,q2]
 |[],_::_,_,_,h,_,_=>by simp[ki]at h
 |_::_,[],_,_,h,_,_=>by simp[ki]at h
 |[],[],_,_::_,_,_,hr=>hr.elim
 |_::_,_::_,_,[],_,_,hr=>hr.elim
structure cn where
 f:FuncId
 id:Nat
 args:List D
 res:List D
def cn.Ok (P:Program) (wb:World) (c:cn) (spec:List Int->List Int->Prop):Prop:=
 (∀args w,(callFunc c.f args).run P w= .ok (.enter c.f args) w)/\
 ∀zs,bb (cW c.args) zs->∃rs,bb (cW c.res) rs/\spec zs rs/\∀w,wb.Extends w->Calls P c.f (ij c.args zs).toArray w λe w'=>e= .returned (fO c.res rs)/\w.Extends w'
noncomputable def zF (d:D) (v:V):M (List I):=
 match d,v with
 | .bool,.w (.one (.bool e))=>bind (qs e) λl=>pure [l]
 | .mix l,.w (.agg s)=>qR l s
 | .int k lo hi,.w (.one (.int aE x))=>cond (decide (k=aE)) (cond (jj lo hi x) (pure [x.l]) (bind (cF 39 [x.l,.const lo,.const hi]) λ_=>pure [x.l])) fail
 |d,v=>match pN d v with|some r=>pure r|none=>fail
noncomputable def wQ:List D->List V->M (List I)
 |[],[]=>pure []
 |d::r,v::s=>bind (zF d v) λa=>bind (wQ r s) λb=>pure (a++b)
 |_,_=>fail
noncomputable def cn.M (c:cn):List ag->List V->M V:=λ_ vs n k=>
 match ki c.args vs with
 |some l=> .call c.id l n (cW c.res) (k (sU c.res n) (n+(cW c.res).length))
 |none=>wQ c.args vs n λl n=> .call c.id l n (cW c.res) (k (sU c.res n) (n+(cW c.res).length))
section
variable {S:Nat->List Int->List Int->Prop} {L:V->Env->Prop}
theorem zD {k:IntKind} {lo hi:Int} {n nb:Nat} {ρ:Env}:∀{l:List A} {r:List I},gr k lo hi l=some r->(∀a∈l,A.ok n nb ρ a)->∀x∈r,I.aC n x
 |[],r,h,_=>by simp[gr]at h;subst h;intro x hx;simp at hx
 |a::s,r,h,aJ=>by
  cases a with
  |int aE x=>
   simp only[gr]at h
   cases hc:(decide (k=aE)&&jj lo hi x)with
   |false=>simp[hc]at h
   |true=>
    cases hr:gr k lo hi s with
    |none=>simp[hc,hr]at h
    |some ei=>
     simp only[hc,hr,cond_true,Option.some.injEq]at h
     subst h
     intro y hy
     rcases List.mem_cons.1 hy with hy|hy
     ·rw[hy]
      have h0:A.ok n nb ρ (.int aE x):=aJ _ (List.mem_cons_self ..)
      have h0:x.ok n ρ:=h0
      exact h0.1
     ·exact zD hr (λa ha=>aJ a (List.mem_cons_of_mem _ ha)) y hy
  |_=>simp[gr]at h
theorem Fa {n nb:Nat} {ρ:Env}:∀{d:List ah} {l:List A} {r:List I},jL d l=some r->(∀a∈l,A.ok n nb ρ a)->∀x∈r,I.aC n x
 |[],[],r,h,_=>by simp[jL]at h;subst h;intro x hx;simp at hx
 |c::d,a::s,r,h,aJ=>by
  simp only[jL]at h
  cases hx:c.fit a with
  |none=>simp[hx]at h
  |some x=>
   cases hr:jL d s with
   |none=>simp[hx,hr]at h
   |some ei=>
    simp only[hx,hr,Option.some.injEq]at h
    subst h
    intro y hy
    rcases List.mem_cons.1 hy with hy|hy
    ·subst hy
     have h0:=aJ a (by simp)
     unfold ah.fit at hx
     split at hx
     ·rename_i k lo hi aE z
      cases hc:(decide (k=aE)&&jj lo hi z)with
      |false=>simp[hc]at hx
      |true=>
       simp only[hc,cond_true,Option.some.injEq]at hx
       subst hx
       have h0:z.ok n ρ:=h0
       exact h0.1
     ·simp only[Option.some.injEq]at hx;subst hx
      exact h0.1
     ·simp only[Option.some.injEq]at hx;subst hx
      exact I.bt _ _
     ·cases hx
    ·exact Fa hr (λa ha=>aJ a (List.mem_cons_of_mem _ ha)) y hy
 |[],_::_,_,h,_=>by simp[jL]at h
 |_::_,[],_,h,_=>by simp[jL]at h
theorem LS {n nb:Nat} {ρ:Env} {d:D} {v:V} {r:List I} (h:pN d v=some r) (aJ:v.ok n nb ρ):∀x∈r,I.aC n x:=by
 unfold pN at h
 split at h
 ·rename_i k lo hi aE y
  cases hc:(decide (k=aE)&&jj lo hi y)with
  |false=>simp[hc]at h
  |true=>
   simp only[hc,cond_true,Option.some.injEq]at h
   subst h
   have h0:y.ok n ρ:=aJ
   intro x hx
   simp at hx;subst hx
   exact h0.1
 ·rename_i k n' lo hi l
  cases hc:Nat.beq l.length n' with
  |false=>simp[hc]at h
  |true=>
   simp only[hc,cond_true]at h
   exact zD h aJ
 ·exact Fa h aJ
 ·simp only[Option.some.injEq]at h;subst h
  intro x hx
  simp at hx;subst hx
  exact aJ.1
 ·simp only[Option.some.injEq]at h;subst h
  intro x hx
  simp at hx;subst hx
  exact I.bt _ _
 ·rename_i l y
  cases hc:y.bS with
  |none=>simp[hc]at h
  |some c=>
   simp only[hc]at h
   cases hd:decide (c=dF (k8 l))with
   |false=>simp[hd]at h
   |true=>
    simp only[hd,cond_true,Option.some.injEq]at h
    subst h
    intro x hx;simp at hx
 ·rename_i k c aE y
  cases hc:y.l.bS with
  |none=>simp[hc]at h
  |some d=>
   simp only[hc]at h
   cases hd:(decide (k=aE)&&decide (d=c))with
   |false=>simp[hd]at h
   |true=>
    simp only[hd,cond_true,Option.some.injEq]at h
    subst h
    intro x hx;simp at hx
 ·cases h
theorem aS.Bd:∀{sh:List ah} {zs:List Int},aS sh zs->bb (sh.map ah.cx) zs/\List.zipWith ah.val sh zs=bL sh zs
 |[],[],_=>⟨trivial,rfl⟩
 |c::sh,z::zs,h=>⟨⟨h.1.1,h.1.2,(aS.Bd h.2).1⟩,by simp[bL,(aS.Bd h.2).2]⟩
 |[],_::_,h=>h.elim
 |_::_,[],h=>h.elim
theorem JH {f:ah->Int->Value}:∀(a:List ah) (b c:List Int),b.length=a.length->List.zipWith f a (b++c)=List.zipWith f a b
 |[],b,c,_=>by simp
 |_::a,[],c,h=>by simp at h
 |_::a,z::b,c,h=>by simp[JH a b c (by simpa using h)]
theorem LQ {d:D} {v:V} {X:Value} {n nb:Nat} {ρ:Env} {m:Nat->Nat} (hv:v.ok n nb ρ) (aX:v.rel ρ m X):ae S L (zF d v) n ρ λaa n' ls=>(∀x∈ls,I.aC n' x)/\ls.length=d.num/\bb d.bds (ls.map (·.den aa))/\∀zs,d.val ((ls.map (·.den aa))++zs)=X:=by
 unfold zF
 split
 ·rename_i e
  have aX:X= .bool (e.den ρ):=aX
  exact xu.bind λaj n1 l hn ha ⟨g1,g2,g3⟩=>ae.pure ⟨λx hx=>by simp at hx;subst hx;exact g1,rfl,⟨g2.1,g2.2,trivial⟩,λzs=>by rw[aX,g3];rfl⟩
 ·rename_i l s
  have aX:X= .agg (s.map (A.den ρ m)).toArray:=aX
  refine(vn (nb:=nb) (m:=m) hv).mono λaj n1 ls hn ha ⟨g1,g2,g3⟩=>?_
  have h1:=aS.Bd g2
  have h2:=g2.len
  refine⟨g1,by simpa [D.num]using h2,h1.1,λzs=>?_⟩
  rw[aX,<-g3,<-h1.2]
  simp only[D.val]
  rw[JH _ _ _ (by simpa using h2)]
 ·rename_i k lo hi aE x
  have aX:X= .int aE (x.l.den ρ):=aX
  have hv:x.ok n ρ:=hv
  refine bT λhk=>?_
  have hk:=of_decide_eq_true hk
  subst hk
  cases hf:jj lo hi x with
  |true=>
   have:=tK hf hv
   exact ae.pure ⟨λy hy=>by simp at hy;subst hy;exact hv.1,rfl,⟨this.1,this.2,trivial⟩,λzs=>by rw[aX];rfl⟩
  |false=>
   refine dm λhc=>ae.pure ?_
   simp only[List.map_cons,List.map_nil,az,I.aA]at hc
   exact⟨λy hy=>by simp at hy;subst hy;exact hv.1,rfl,⟨hc.1,hc.2,trivial⟩,λzs=>by rw[aX];rfl⟩
 ·split
  ·rename_i hf
   obtain⟨p1,bd,bx⟩:=E8 (m:=m) hf hv aX
   exact ae.pure ⟨LS hf hv,p1,bd,bx⟩
  ·exact ae.fail
theorem c2.ext {n nb:Nat} {ρ aa:Env} {m m':Nat->Nat}:∀{vs:List V} {xs:List Value},c2 ρ m vs xs->(∀v∈vs,V.ok n nb ρ v)->agree n ρ aa->(∀b,b<nb->m' b=m b)->c2 aa m' vs xs
 |[],[],_,_,_,_=>trivial
 |v::vs,x::xs,h,aJ,ha,hm=>⟨V.rel.ext h.1 (aJ v (by simp)) ha hm,c2.ext h.2 (λu hu=>aJ u (List.mem_cons_of_mem _ hu)) ha hm⟩
 |[],_::_,h,_,_,_=>h.elim
 |_::_,[],h,_,_,_=>h.elim
theorem E9 {nb:Nat} {m:Nat->Nat}:∀{ds:List D} {vs:List V} {xs:List Value} {n:Nat} {ρ:Env},(∀v∈vs,V.ok n nb ρ v)->c2 ρ m vs xs->ae S L (wQ ds vs) n ρ λaa n' ls=>(∀x∈ls,I.aC n' x)/\bb (cW ds) (ls.map (·.den aa))/\ij ds (ls.map (·.den aa))=xs
 |[],[],[],n,ρ,_,_=>ae.pure ⟨λ_ h=>by simp at h,trivial,rfl⟩
 |d::ds,v::vs,x::xs,n,ρ,aJ,hr=>by
  unfold wQ
  refine(LQ (nb:=nb) (aJ v (by simp)) hr.1).bind λaj n1 a cD bG ⟨p0,p1,bd,bx⟩=>(E9 (ds:=ds) (vs:=vs) (λu hu=>(aJ u (List.mem_cons_of_mem _ hu)).ext bG cD (Nat.le_refl _)) (c2.ext hr.2 (λu hu=>aJ u (List.mem_cons_of_mem _ hu)) bG (λ_ _=>rfl))).bind λaL cq b bZ bM ⟨q0,q1,q2⟩=>ae.pure ⟨λy hy=>?_,?_,?_⟩
  ·rcases List.mem_append.1 hy with hy|hy
   ·exact(p0 y hy).mono bZ
   ·exact q0 y hy
  ·have e:a.map (·.den aL)=a.map (·.den aj):=List.map_congr_left λy hy=>I.aQ bM (p0 y hy)
   rw[List.map_append,e];exact nL bd q1
  ·have e:a.map (·.den aL)=a.map (·.den aj):=List.map_congr_left λy hy=>I.aQ bM (p0 y hy)
   rw[List.map_append,e]
   simp only[ij,bx]
   rw[show d.num=(a.map (·.den aj)).length by simp[p1],List.drop_left,q2]
 |[],_::_,_,_,_,_,_=>ae.fail
 |_::_,[],_,_,_,_,_=>ae.fail
 |[],[],_::_,_,_,_,hr=>hr.elim
 |_::_,_::_,[],_,_,_,hr=>hr.elim
end
section
variable {S:Nat->List Int->List Int->Prop} {P:Program} {gl:cN} {w0:b7}
theorem zg {L:V->Env->Prop} {id:Nat} {l:List I} {n:Nat} {bds:List (Int×Int)} {r:T} {G:b6} {ρ:Env} (h:(T.call id l n bds r).holds S L G ρ) {rs:List Int} (hi:bb bds rs) (hs:S id (l.map (·.den ρ)) rs):r.holds S L G (bm ρ n rs):=
 na h hi hs
theorem B9 {ρ:Env} {m:Nat->Nat} {N nb:Nat} {ds:List D} {s:Nat} {zs:List Int} (h:bb (cW ds) zs) (ha:At ρ s zs) (hN:s+(cW ds).length<=N):(sU ds s).ok N nb ρ/\(sU ds s).rel ρ m (fO ds zs):=by
 have hs:=CO (m:=m) (nb:=nb) ds h ha hN
 unfold sU fO
 rw[<-hs.2]
 split
 ·rename_i u heq
  rw[heq]at hs
  rw[heq]
  exact⟨hs.1 u (by simp),rfl⟩
 ·rename_i l hne
  refine⟨hs.1,?_⟩
  split
  ·rename_i x heq
   have:∃u,mW s ds=[u]:=by
    cases hl:mW s ds with
    |nil=>rw[hl]at heq;simp at heq
    |cons u r=>
     cases r with
     |nil=>exact⟨u,rfl⟩
     |cons _ _=>rw[hl]at heq;simp at heq
   obtain⟨u,hu⟩:=this
   exact absurd hu (hne u)
  ·rfl
def cn.ob (P:Program) (wb:World) (c:cn) (spec:List Int->List Int->Prop):Prop:=
 ∀zs,bb (cW c.args) zs->∃rs,bb (cW c.res) rs/\spec zs rs/\∀w,wb.Extends w->q8 P c.f (ij c.args zs).toArray w (fO c.res rs)
theorem cn.Ok.f {wb:World} {c:cn} {spec:List Int->List Int->Prop} (h:c.Ok P wb spec):c.ob P wb spec:=λzs hz=>by
 obtain⟨rs,h1,h2,h3⟩:=h.2 zs hz
 exact⟨rs,h1,h2,λw hw=> .inr ⟨h.1 _ _,h3 w hw⟩⟩
theorem cn.snd {c:cn} {spec:List Int->List Int->Prop} (hc:c.ob P w0.b spec) (fs:∀zs rs,spec zs rs->S c.id zs rs) (L:V->Env->Prop) (n:Nat) (ρ:Env) (m:Nat->Nat) (bl:List ag) (vs:List V) (xs:List Value)
 (dO:∀v∈vs,V.ok n bl.length ρ v) (hr:c2 ρ m vs xs):ae S L (c.M bl vs) n ρ λaa n' v=>v.ok n' bl.length aa/\∃val,v.rel aa m val/\∀w,Mem w0 ρ m bl w->q8 P c.f xs.toArray w val:=by
 intro G k hk
 unfold cn.M at hk
 cases hl:ki c.args vs with
 |none=>
  simp only[hl]at hk
  obtain⟨aj,n1,l,cD,bG,⟨_,h1,h2⟩,hk⟩:=E9 (S:=S) (L:=L) (nb:=bl.length) dO hr G _ hk
  obtain⟨rs,r1,r2,dP⟩:=hc _ h1
  have ad:=zg hk r1 (fs _ _ r2)
  have hlen:=gR r1
  have ju:=B9 (m:=m) (nb:=bl.length) (N:=n1+(cW c.res).length) r1 (At.bm aj n1 rs) (Nat.le_refl _)
  refine⟨_,_,_,Nat.le_trans cD (Nat.le_add_right _ _),bG.trans (agree.bm rs n1 aj) cD,⟨ju.1,_,ju.2,λw hw=>?_⟩,ad⟩
  rw[h2]at dP
  exact dP w hw.ext
 |some l=>
  simp only[hl]at hk
  obtain⟨h1,h2⟩:=zH hl dO hr
  obtain⟨rs,r1,r2,dP⟩:=hc _ h1
  have ad:=zg hk r1 (fs _ _ r2)
  have hlen:=gR r1
  have ju:=B9 (m:=m) (nb:=bl.length) (N:=n+(cW c.res).length) r1 (At.bm ρ n rs) (Nat.le_refl _)
  refine⟨_,_,_,Nat.le_add_right _ _,agree.bm rs n ρ,⟨ju.1,_,ju.2,λw hw=>?_⟩,ad⟩
  rw[h2]at dP
  exact dP w hw.ext
def Qm:List ag->List V->M V:=λ_ vs=>
 match vs with
 |[.w (.one (.int .u64 x)),.w (.one (.int .u64 y))]=>
  cond (decide (0<=x.lo)&&decide (x.hi<18446744073709551616)&&decide (0<=y.lo)&&decide (y.hi<18446744073709551616)) (bind (mulM x y) λp=>bind (mu p 18446744073709551616) λq=>
   pure (.dg [.one (.int .u64 q),.one (.int .u64 ⟨p.l.sub (q.l.smul 18446744073709551616),0,18446744073709551615⟩)])) fail
 |_=>fail
def Kk:List ag->List V->M V:=λ_ vs=>
 match vs with
 |[.w (.one (.int .u64 x)),.w (.one (.int .u64 y)),.w (.one (.int .u64 c))]=>
  cond (decide (0<=x.lo)&&decide (0<=y.lo)&&decide (0<=c.lo)&&decide (c.hi<=1)) (bind (mu ⟨(x.l.add y.l).add c.l,x.lo+y.lo+c.lo,x.hi+y.hi+c.hi⟩ 18446744073709551616) λq=>
   pure (.dg [.one (.int .u64 ⟨((x.l.add y.l).add c.l).sub (q.l.smul 18446744073709551616),0,18446744073709551615⟩),.one (.int .u64 q)])) fail
 |_=>fail
def S5:List ag->List V->M V:=λ_ vs=>
 match vs with
 |[.w (.one (.int .u64 x)),.w (.one (.int .u64 y)),.w (.one (.int .u64 c))]=>
  cond (decide (0<=x.lo)&&decide (x.hi<18446744073709551616)&&decide (0<=y.lo)&&decide (y.hi<18446744073709551616)&&decide (0<=c.lo)&&decide (c.hi<=1)) (bind (mu ⟨(x.l.sub y.l).sub c.l,x.lo-y.hi-c.hi,x.hi-y.lo-c.lo⟩ 18446744073709551616) λq=>
   pure (.dg [.one (.int .u64 ⟨((x.l.sub y.l).sub c.l).sub (q.l.smul 18446744073709551616),0,18446744073709551615⟩),.one (.int .u64 ⟨q.l.smul (-1),0,1⟩)])) fail
 |_=>fail
variable {L:V->Env->Prop} {n:Nat} {ρ:Env} {m:Nat->Nat} {bl:List ag} {vs:List V} {xs:List Value}
end
end Go.aZ
namespace Go.aZ
open M
theorem pt:∀{b:List (Int×Int)} {P:List Int->Prop},(∀rs,bb b rs->P rs)->ml b P
 |[],_,h=>h [] trivial
 |(l,u)::b,P,h=>λr h1 h2=>pt (b:=b) (P:=λrs=>P (r::rs)) λrs hi=>h (r::rs) ⟨h1,h2,hi⟩
inductive O where
 |l (x:I)
 |b (x:aD)
def O.den (ρ:Env):O->Int
 |l x=>x.den ρ
 |b x=>cond (x.den ρ) 1 0
def eG (k:IntKind):List A->Option (List O)
 |[]=>some []
 | .int aE x::r=>cond (decide (k=aE)) (match eG k r with|some l=>some (.l x.l::l)|none=>none) none
 |_::_=>none
def ah.out:ah->A->Option O
 | .int k _ _,.int aE x=>cond (decide (k=aE)) (some (.l x.l)) none
 | .str,.str l=>some (.l l)
 | .bool,.bool e=>some (.b e)
 |_,_=>none
def jY:List ah->List A->Option (List O)
 |[],[]=>some []
 |c::d,a::r=>match c.out a,jY d r with|some o,some l=>some (o::l)|_,_=>none
 |_,_=>none
def nX:D->W->Option (List O)
 | .int k _ _,.one (.int aE x)=>cond (decide (k=aE)) (some [.l x.l]) none
 | .bool,.one (.bool x)=>some [.b x]
 | .agg k n _ _,.agg l=>cond (Nat.beq l.length n) (eG k l) none
 | .str,.one (.str l)=>some [.l l]
 | .mix d,.agg l=>jY d l
 |_,_=>none
def oU:List D->List W->Option (List O)
 |[],[]=>some []
 |d::r,w::s=>match nX d w,oU r s with|some a,some b=>some (a++b)|_,_=>none
 |_,_=>none
def outs (ds:List D):V->Option (List O)
 | .w u=>match ds with|[d]=>nX d u|_=>none
 | .dg l=>match ds with|[_]=>none|_=>oU ds l
 |_=>none
def pn (ds:List D) (K:List Int->Prop) (v:V) (ρ:Env):Prop:=
 match outs ds v with
 |some os=>K (os.map (O.den ρ))
 |none=>False
theorem H5 {ρ:Env} {m:Nat->Nat} {k:IntKind}:∀{l:List A} {os:List O},eG k l=some os->os.length=l.length/\l.map (A.den ρ m)=(os.map (O.den ρ)).map (.int k)
 |[],os,h=>by simp[eG]at h;subst h;exact⟨rfl,rfl⟩
 | .int aE x::r,os,h=>by
  simp only[eG]at h
  by_cases hk:k=aE
  ·simp only[hk,decide_true,cond_true]at h
   cases hr:eG aE r with
   |none=>simp[hr]at h
   |some o=>
    simp only[hr,Option.some.injEq]at h
    subst h
    subst hk
    obtain⟨h1,h2⟩:=H5 (ρ:=ρ) (m:=m) hr
    exact⟨by simp[h1],by simp only[List.map_cons,h2,A.den,O.den]⟩
  ·simp[hk]at h
 | .bool _::_,_,h=>by simp[eG]at h
 | .ptr .. ::_,_,h=>by simp[eG]at h
 | .gY .. ::_,_,h=>by simp[eG]at h
 | .gptr .. ::_,_,h=>by simp[eG]at h
 | .slc .. ::_,_,h=>by simp[eG]at h
 | .con _::_,_,h=>by simp[eG]at h
 | .str _::_,_,h=>by simp[eG]at h
theorem ah.Rc {ρ:Env} {m:Nat->Nat} {c:ah} {a:A} {o:O} (h:c.out a=some o):a.den ρ m=c.val (o.den ρ):=by
 unfold ah.out at h
 split at h
 ·rename_i k lo hi aE x
  by_cases hk:k=aE
  ·subst hk
   simp only[decide_true,cond_true,Option.some.injEq]at h
   subst h;rfl
  ·simp[hk]at h
 ·simp only[Option.some.injEq]at h;subst h;rfl
 ·rename_i e
  simp only[Option.some.injEq]at h;subst h
  have hb:∀b:Bool,Value.bool b=Value.bool (decide ((cond b 1 0:Int)=1)):=by intro b;cases b<;>rfl
  exact hb (e.den ρ)
 ·cases h
theorem H8 {ρ:Env} {m:Nat->Nat}:∀{d:List ah} {l:List A} {os:List O},jY d l=some os->os.length=d.length/\l.map (A.den ρ m)=List.zipWith ah.val d (os.map (O.den ρ))
 |[],[],os,h=>by simp[jY]at h;subst h;exact⟨rfl,rfl⟩
 |c::d,a::r,os,h=>by
  simp only[jY]at h
  cases h1:c.out a with
  |none=>simp[h1]at h
  |some o=>
   cases hr:jY d r with
   |none=>simp[h1,hr]at h
   |some l=>
    simp only[h1,hr,Option.some.injEq]at h
    subst h
    obtain⟨p1,bd⟩:=H8 (ρ:=ρ) (m:=m) hr
    exact⟨by simp[p1],by simp only[List.map_cons,bd,ah.Rc h1,List.zipWith_cons_cons]⟩
 |[],_::_,_,h=>by simp[jY]at h
 |_::_,[],_,h=>by simp[jY]at h
theorem BS {ρ:Env} {m:Nat->Nat} {d:D} {u:W} {os:List O} (h:nX d u=some os):os.length=d.num/\∀zs,d.val (os.map (O.den ρ)++zs)=u.den ρ m:=by
 unfold nX at h
 split at h
 ·rename_i k _ _ aE x
  by_cases hk:k=aE
  ·subst hk
   simp only[decide_true,cond_true,Option.some.injEq]at h
   subst h
   exact⟨rfl,λzs=>by simp[D.val,W.den,A.den,O.den]⟩
  ·simp[hk]at h
 ·rename_i x
  simp only[Option.some.injEq]at h
  subst h
  exact⟨rfl,λzs=>by cases hx:x.den ρ<;>simp[D.val,W.den,A.den,O.den,hx]⟩
 ·rename_i k n' _ _ l
  cases hc:Nat.beq l.length n' with
  |false=>simp[hc]at h
  |true=>
   simp only[hc,cond_true]at h
   have hl:=Nat.eq_of_beq_eq_true hc
   subst hl
   obtain⟨h1,h2⟩:=H5 (ρ:=ρ) (m:=m) h
   exact⟨h1,λzs=>by simp only[D.val,W.den,h2];rw[List.take_append_of_le_length (by simp[h1]),List.take_of_length_le (by simp[h1])]⟩
 ·simp only[Option.some.injEq]at h;subst h
  exact⟨rfl,λzs=>rfl⟩
 ·rename_i d l
  obtain⟨h1,h2⟩:=H8 (ρ:=ρ) (m:=m) h
  refine⟨h1,λzs=>?_⟩
  simp only[D.val,W.den,h2]
  congr 2
  have key:∀(a:List ah) (b c:List Int),b.length=a.length->List.zipWith ah.val a (b++c)=List.zipWith ah.val a b:=by
   intro a
   induction a with
   |nil=>intro b c _;simp
   |cons p a ih=>
    intro b c hb
    cases b with
    |nil=>simp at hb
    |cons z b=>simp[ih b c (by simpa using hb)]
  exact key _ _ _ (by simp[h1])
 ·cases h
theorem H6 {ρ:Env} {m:Nat->Nat}:∀{ds:List D} {l:List W} {os:List O},oU ds l=some os->ij ds (os.map (O.den ρ))=l.map (W.den ρ m)
 |[],[],os,h=>by simp[oU]at h;subst h;rfl
 |d::ds,u::l,os,h=>by
  simp only[oU]at h
  cases h1:nX d u with
  |none=>simp[h1]at h
  |some a=>
   cases h2:oU ds l with
   |none=>simp[h1,h2]at h
   |some b=>
    simp only[h1,h2,Option.some.injEq]at h
    subst h
    obtain⟨p1,bd⟩:=BS (ρ:=ρ) (m:=m) h1
    rw[List.map_append]
    simp only[ij,bd,List.map_cons]
    rw[show d.num=(a.map (O.den ρ)).length by simp[p1],List.drop_left,H6 h2]
 |[],_::_,_,h=>by simp[oU]at h
 |_::_,[],_,h=>by simp[oU]at h
theorem T3 (ds:List D):∀zs,(ij ds zs).length=ds.length:=by
 induction ds with
 |nil=>intro zs;rfl
 |cons d r ih=>intro zs;simp[ij,ih]
theorem DJ {ds:List D} {K:List Int->Prop} {v:V} {ρ:Env} {m:Nat->Nat} {val:Value} (h:pn ds K v ρ) (hr:v.rel ρ m val):∃rs,K rs/\val=fO ds rs:=by
 unfold pn at h
 cases ho:outs ds v with
 |none=>simp[ho]at h
 |some os=>
  simp only[ho]at h
  refine⟨_,h,?_⟩
  unfold outs at ho
  cases v with
  |any=>cases ho
  |iD _ _ _=>cases ho
  |jg _ _=>cases ho
  |w u=>
   simp only at ho
   split at ho
   ·rename_i d
    obtain⟨p1,bd⟩:=BS (ρ:=ρ) (m:=m) ho
    simp only[V.rel]at hr
    have:=bd []
    rw[List.append_nil]at this
    simp[fO,ij,this,hr]
   ·cases ho
  |dg l=>
   simp only at ho
   split at ho
   ·cases ho
   ·rename_i hne
    have:=H6 (ρ:=ρ) (m:=m) ho
    simp only[V.rel]at hr
    unfold fO
    split
    ·rename_i x heq
     exfalso
     have hl:=T3 ds (os.map (O.den ρ))
     rw[heq]at hl
     match ds,hl with
     |[d],_=>exact hne d rfl
    ·rw[hr,this]
noncomputable def Ux (cons:List cn) (Qn Kl S6:FuncId):dx:=λf=>
 cond (Nat.beq f Qn) (some Qm) <| cond (Nat.beq f Kl) (some Kk) <| cond (Nat.beq f S6) (some S5) <|
 match cons.find? (λc=>Nat.beq f c.f)with
 |some c=>some c.M
 |none=>none
section
variable {S:Nat->List Int->List Int->Prop} {P:Program} {gl:cN} {wb:World}
noncomputable def wm (cons:List cn):dx:=λf=>
 match cons.filter (λc=>Nat.beq f c.f)with
 |[]=>none
 |l=>some λbl vs n k=>match l.find? (λc=>(ki c.args vs).isSome)with
  |some c=>c.M bl vs n k
  |none=>match l with
   |c::_=>c.M bl vs n k
   |[]=> .stuck
theorem Ej {w0:b7} {cons:List cn} (hc:∀c∈cons,c.ob P w0.b (S c.id)):fB S P gl w0 (wm cons):=by
 intro f g lP L n ρ m bl vs xs h1 h2 h3 h4
 unfold wm at lP
 split at lP
 ·cases lP
 ·rename_i l hl
  simp only[Option.some.injEq]at lP
  subst lP
  intro G k hk
  simp only at hk
  split at hk
  ·rename_i c my
   have bW:=List.mem_filter.1 (List.mem_of_find?_eq_some my)
   have um:=Nat.eq_of_beq_eq_true bW.2
   subst um
   exact cn.snd (hc c bW.1) (λ_ _ h=>h) L n ρ m bl vs xs h3 h4 G k hk
  ·split at hk
   ·rename_i c r hl2
    have bW:=List.mem_filter.1 (show c∈cons.filter (λc=>Nat.beq f c.f) from by rw[hl2];exact List.mem_cons_self (a:=c) (l:=r))
    have um:=Nat.eq_of_beq_eq_true bW.2
    subst um
    exact cn.snd (hc c bW.1) (λ_ _ h=>h) L n ρ m bl vs xs h3 h4 G k hk
   ·exact hk.elim
theorem Calls.some {f:FuncId} {args:Array Value} {w:World} {R:Ending->World->Prop} (h:Calls P f args w R):∃e w',R e w':=by
 obtain⟨e,w',np,h1,_⟩:=h []
 exact⟨e,w',h1⟩
noncomputable def cn.tree (P:Program) (gl:cN) (aN:dx) (li:FuncId->Nat->Option di) (rounds d:Nat) (c:cn):T:=
 wo P gl aN li rounds d c.f (cW c.args).length ((mW 0 c.args).map V.w) [] λ_ v _=> .leaf v
theorem DI {ρ:Env} {m:Nat->Nat}:∀(l:List W),c2 ρ m (l.map V.w) (l.map (W.den ρ m))
 |[]=>trivial
 |_::r=>⟨rfl,DI r⟩
theorem cn.calls {c:cn} {aN:dx} {li:FuncId->Nat->Option di} {rounds d:Nat} {L:V->Env->Prop} (hm:P.follows .mixedOrders=true) (bX:∀r ex ro,fB S P gl ⟨wb,r,ex,ro,[]⟩ aN) (hg:eC gl ⟨wb,wb,λ_=>False,λ_=>False,[]⟩) {zs:List Int} (hz:bb (cW c.args) zs)
 (ht:(c.tree P gl aN li rounds d).holds S L (λ_ _=>False) (bm (λ_=>0) 0 zs)) (w:World) (hw:wb.Extends w):
 Calls P c.f (ij c.args zs).toArray w λe w'=>∃v aa m val,e= .returned val/\v.rel aa m val/\L v aa/\w.Extends w':=by
 have hs:=CO (m:=λ_=>0) (nb:=0) (N:=(cW c.args).length) c.args hz (At.bm (λ_=>0) 0 zs) (by omega)
 have:=KR (L:=L) (b:=wb) (w:=w) hm (bX w _ _) hg c.f _ _ _ ((mW 0 c.args).map (W.den (bm (λ_=>0) 0 zs) λ_=>0)) hw (λv hv=>by
  obtain⟨u,hu,rfl⟩:=List.mem_map.1 hv
  exact hs.1 u hu) (DI _) ht
 rw[hs.2]at this
 refine this.mono λe w' ⟨v,aa,m,val,nb,h1,h2,_,h3,h4⟩=>⟨v,aa,m,val,h1,h2,h3,h4⟩
end
end Go.aZ
namespace Go.aZ
open M
structure Uq where
 f:FuncId
 id:Nat
 k:IntKind
 N:Nat
 lo:Int
 hi:Int
 ty:TypeId
 off:Nat
 len:Nat
 cap:Nat
 args:List D
 res:List D
section
variable {S:Nat->List Int->List Int->Prop} {P:Program} {gl:cN} {w0:b7}
end
end Go.aZ
namespace Go.aZ
def rN (P:Program) (f:FuncId):Bool:=match P.funcs[f]? with
 |some fn=> !(fn.name== "runtime.NumGoroutine")&&fn.body.isSome
 |none=>false
theorem enters {P:Program} {f:FuncId} (h:rN P f=true) (args:Array Value) (w:World):(callFunc f args).run P w= .ok (.enter f args) w:=by
 unfold rN at h
 cases hf:P.funcs[f]? with
 |none=>simp[hf]at h
 |some fn=>
  simp only[hf,Bool.and_eq_true,Bool.not_eq_true']at h
  have h1:fn.name≠ "runtime.NumGoroutine" :=by simpa using h.1
  obtain⟨c,hc⟩:=Option.isSome_iff_exists.1 h.2
  simp[callFunc,hf,h1,hc,Sem.run]
section
variable {S:Nat->List Int->List Int->Prop} {P:Program} {gl:cN} {wb:World}
end
end Go.aZ
namespace Go.aZ
abbrev dJ:=List (Nat×Nat)
abbrev dI:=List (List Int)
def ld:dJ->dI->Nat->Int
 |(s,k)::st,l::aq,i=>cond (Nat.ble s i&&Nat.blt i (s+k)) (l.getD (i-s) 0) (ld st aq i)
 |_,_,_=>0
def Bt:dJ->dI->Prop
 |(_,k)::st,l::aq=>l.length=k/\Bt st aq
 |[],[]=>True
 |_,_=>False
def ir (ρ:Env) (st:dJ) (aq:dI):Prop:=Bt st aq/\∀i,ρ i=ld st aq i
def rC (st:dJ) (aq:dI):List (Int×Nat)->Int
 |[]=>0
 |(k,i)::r=>match r with
  |[]=>cond (k==1) (ld st aq i) (k*ld st aq i)
  |_=>cond (k==1) (ld st aq i) (k*ld st aq i)+rC st aq r
def I.cG (st:dJ) (aq:dI) (l:I):Int:=
 match l.ts with
 |[]=>l.c
 |ts=>cond (l.c==0) (rC st aq ts) (rC st aq ts+l.c)
theorem EC {ρ:Env} {st:dJ} {aq:dI} (h:∀i,ρ i=ld st aq i):∀ts,rC st aq ts=dK ρ ts
 |[]=>rfl
 |(k,i)::[]=>by
  simp only[rC,dK,<-h i]
  cases hk:(k==1)with
  |true=>have:k=1:=by simpa using hk
         subst this;simp
  |false=>simp
 |(k,i)::t::r=>by
  have ih:=EC h (t::r)
  rw[rC,dK,ih,<-h i]
  ·cases hk:(k==1)with
   |true=>have:k=1:=by simpa using hk
          subst this;simp
   |false=>simp
  ·intro hc;cases hc
theorem I.eD {ρ:Env} {st:dJ} {aq:dI} (h:∀i,ρ i=ld st aq i) (l:I):l.cG st aq=l.den ρ:=by
 unfold I.cG I.den
 cases hl:l.ts with
 |nil=>simp[dK]
 |cons t r=>
  simp only[EC h]
  cases hc:(l.c==0)with
  |true=>have:l.c=0:=by simpa using hc
         rw[this];simp
  |false=>simp
def pK:dJ->dI->Nat->Nat->Option (List Int)
 |(s,k)::st,l::aq,i,len=>cond (Nat.beq s i&&Nat.beq k len) (some l) (cond (Nat.ble (i+len) s||Nat.ble (s+k) i) (pK st aq i len) none)
 |_,_,_,_=>none
theorem E0:∀{st:dJ} {aq:dI} {i len:Nat} {l:List Int},pK st aq i len=some l->Bt st aq->l.length=len/\∀j,j<len->ld st aq (i+j)=l.getD j 0
 |[],_,_,_,_,h,_=>by simp[pK]at h
 |_::_,[],_,_,_,h,_=>by simp[pK]at h
 |(s,k)::st,aU::aq,i,len,l,h,hl=>by
  unfold pK at h
  cases h1:(Nat.beq s i&&Nat.beq k len)with
  |true=>
   simp only[h1,cond_true,Option.some.injEq]at h
   subst h
   simp only[Bool.and_eq_true]at h1
   have e1:=Nat.eq_of_beq_eq_true h1.1
   have e2:=Nat.eq_of_beq_eq_true h1.2
   subst e1;subst e2
   refine⟨hl.1,λj hj=>?_⟩
   unfold ld
   have:(Nat.ble s (s+j)&&Nat.blt (s+j) (s+k))=true:=by simp[Nat.blt];omega
   rw[this,cond_true,Nat.add_sub_cancel_left]
  |false=>
   simp only[h1,cond_false]at h
   cases h2:(Nat.ble (i+len) s||Nat.ble (s+k) i)with
   |false=>simp[h2]at h
   |true=>
    simp only[h2,cond_true]at h
    obtain⟨g1,g2⟩:=E0 h hl.2
    refine⟨g1,λj hj=>?_⟩
    rw[<-g2 j hj]
    conv=>lhs;unfold ld
    have:(Nat.ble s (i+j)&&Nat.blt (i+j) (s+k))=false:=by
     simp only[Bool.or_eq_true,Nat.ble_eq]at h2
     cases h3:(Nat.ble s (i+j)&&Nat.blt (i+j) (s+k))with
     |false=>rfl
     |true=>simp[Nat.blt]at h3;omega
    rw[this,cond_false]
def uW:Nat->List I->Bool
 |_,[]=>true
 |i,l::r=>(l.c==0&&(match l.ts with|[(k,j)]=>k==1&&Nat.beq i j|_=>false))&&uW (i+1) r
def firstVar:List I->Nat
 |[]=>0
 |l::_=>match l.ts with|[(_,j)]=>j|_=>0
theorem Hb {ρ:Env}:∀{ls:List I} {i:Nat},uW i ls=true->∀j,j<ls.length->(ls.map (·.den ρ)).getD j 0=ρ (i+j)
 |[],_,_,j,hj=>by simp at hj
 |l::r,i,h,j,hj=>by
  simp only[uW,Bool.and_eq_true]at h
  cases j with
  |zero=>
   obtain⟨⟨h1,h2⟩,_⟩:=h
   have hc:l.c=0:=by simpa using h1
   cases hl:l.ts with
   |nil=>simp[hl]at h2
   |cons t s=>
    cases s with
    |cons t' Sr=>simp[hl]at h2
    |nil=>
     obtain⟨k,q⟩:=t
     simp only[hl,Bool.and_eq_true]at h2
     have e1:k=1:=by simpa using h2.1
     have e2:=Nat.eq_of_beq_eq_true h2.2
     subst e1;subst e2
     simp[I.den,hl,dK,hc]
  |succ j=>
   have:=Hb (ρ:=ρ) h.2 j (by simpa using hj)
   simp only[List.map_cons,List.getD_cons_succ]
   rw[this]
   congr 1;omega
def mU (st:dJ) (aq:dI) (ls:List I):List Int:=
 cond (Nat.blt 1 ls.length&&uW (firstVar ls) ls) (match pK st aq (firstVar ls) ls.length with|some l=>l|none=>ls.map (I.cG st aq)) (ls.map (I.cG st aq))
theorem Hu {l aU:List Int} (hl:l.length=aU.length) (h:∀j,j<l.length->l.getD j 0=aU.getD j 0):l=aU:=by
 apply List.ext_getElem hl
 intro j h1 h2
 have:=h j h1
 simpa [List.getD_eq_getElem?_getD,List.getElem?_eq_getElem h1,List.getElem?_eq_getElem h2]using this
theorem yo {ρ:Env} {st:dJ} {aq:dI} (h:ir ρ st aq) (ls:List I):mU st aq ls=ls.map (·.den ρ):=by
 have cg:ls.map (I.cG st aq)=ls.map (·.den ρ):=List.map_congr_left λl _=>I.eD h.2 l
 unfold mU
 cases h1:(Nat.blt 1 ls.length&&uW (firstVar ls) ls)with
 |false=>simpa using cg
 |true=>
  simp only[cond_true]
  simp only[Bool.and_eq_true]at h1
  cases h2:pK st aq (firstVar ls) ls.length with
  |none=>exact cg
  |some l=>
   obtain⟨g1,g2⟩:=E0 h2 h.1
   show l=_
   refine Hu (by simp[g1]) λj hj=>?_
   rw[Hb h1.2 j (by omega),h.2,g2 j (by omega)]
def hS:aD->Option (List I×List I)
 | .eq a b=>some ([a],[b])
 | .and (.eq a b) r=>match hS r with|some (x,y)=>some (a::x,b::y)|none=>none
 |_=>none
def aD.cG (st:dJ) (aq:dI):aD->Bool
 |lit b=>b
 |eq a b=>decide (a.cG st aq=b.cG st aq)
 |lt a b=>decide (a.cG st aq<b.cG st aq)
 |le a b=>decide (a.cG st aq<=b.cG st aq)
 |not a=> !a.cG st aq
 |and a b=>match hS (.and a b)with
  |some (x,y)=>decide (mU st aq x=mU st aq y)
  |none=>a.cG st aq&&b.cG st aq
 |iff a b=>a.cG st aq==b.cG st aq
theorem EX {ρ:Env}:∀{b:aD} {x y:List I},hS b=some (x,y)->b.den ρ=decide (x.map (·.den ρ)=y.map (·.den ρ))
 | .eq a b,x,y,h=>by
  simp only[hS,Option.some.injEq,Prod.mk.injEq]at h
  obtain⟨rfl,rfl⟩:=h
  simp[aD.den]
 | .and (.eq a b) r,x,y,h=>by
  simp only[hS]at h
  cases hr:hS r with
  |none=>simp[hr]at h
  |some p=>
   obtain⟨du,fl⟩:=p
   simp only[hr,Option.some.injEq,Prod.mk.injEq]at h
   obtain⟨rfl,rfl⟩:=h
   have ih:=EX (ρ:=ρ) hr
   simp only[aD.den,ih,List.map_cons,List.cons.injEq]
   simp
 | .lit _,_,_,h=>by simp[hS]at h
 | .lt _ _,_,_,h=>by simp[hS]at h
 | .le _ _,_,_,h=>by simp[hS]at h
 | .not _,_,_,h=>by simp[hS]at h
 | .iff _ _,_,_,h=>by simp[hS]at h
 | .and (.lit _) _,_,_,h=>by simp[hS]at h
 | .and (.lt _ _) _,_,_,h=>by simp[hS]at h
 | .and (.le _ _) _,_,_,h=>by simp[hS]at h
 | .and (.not _) _,_,_,h=>by simp[hS]at h
 | .and (.and _ _) _,_,_,h=>by simp[hS]at h
 | .and (.iff _ _) _,_,_,h=>by simp[hS]at h
theorem aD.eD {ρ:Env} {st:dJ} {aq:dI} (h:ir ρ st aq):∀b:aD,b.cG st aq=b.den ρ
 |lit _=>rfl
 |eq a b=>by simp only[cG,den,I.eD h.2]
 |lt a b=>by simp only[cG,den,I.eD h.2]
 |le a b=>by simp only[cG,den,I.eD h.2]
 |not a=>by simp only[cG,den,aD.eD h a]
 |and a b=>by
  have e1:=aD.eD h a
  have e2:=aD.eD h b
  unfold cG
  cases hq:hS (.and a b)with
  |none=>simp only[den,e1,e2]
  |some p=>
   obtain⟨x,y⟩:=p
   simp only[EX (ρ:=ρ) hq,yo h]
 |iff a b=>by simp only[cG,den,aD.eD h a,aD.eD h b]
def dU {α:Type}:List Nat->List α->List (List α)
 |[],[]=>[]
 |[],x::l=>[x::l]
 |k::gB,l=>l.take k::dU gB (l.drop k)
theorem yp {α β:Type} (f:α->β):∀(gB:List Nat) (l:List α),dU gB (l.map f)=(dU gB l).map (List.map f)
 |[],[]=>rfl
 |[],_::_=>rfl
 |k::gB,l=>by simp only[dU,List.map_cons,<-List.map_take,<-List.map_drop,yp f gB]
def od:List Nat->Nat->List (Int×Int)->(dJ->dI->List (List Int)->Prop)->dJ->dI->Prop
 |[],_,[],P,st,aq=>P st aq []
 |[],_,_::_,_,_,_=>False
 |k::gB,n,bds,P,st,aq=>cond (Nat.beq k 1)
  (match bds with
  |(lo,hi)::D1=>∀z:Int,lo<=z->z<=hi->od gB (n+1) D1 (λiZ iP ls=>P iZ iP ([z]::ls)) ((n,1)::st) ([z]::aq)
  |[]=>False)
  (cond (Nat.ble k bds.length) (∀r:List Int,bb (bds.take k) r->od gB (n+k) (bds.drop k) (λiZ iP ls=>P iZ iP (r::ls)) ((n,k)::st) (r::aq)) False)
theorem Jw:∀(a b:List Int) (n:Nat) (ρ:Env),bm ρ n (a++b)=bm (bm ρ n a) (n+a.length) b
 |[],b,n,ρ=>rfl
 |z::a,b,n,ρ=>by
  simp only[List.cons_append,bm,List.length_cons]
  rw[Jw a b]
  congr 1;omega
theorem Jx:∀(l:List Int) (n:Nat) (ρ:Env) (i:Nat),bm ρ n l i=cond (Nat.ble n i&&Nat.blt i (n+l.length)) (l.getD (i-n) 0) (ρ i)
 |[],n,ρ,i=>by
  have:(Nat.ble n i&&Nat.blt i (n+0))=false:=by
   cases h:(Nat.ble n i&&Nat.blt i (n+0))with
   |false=>rfl
   |true=>simp[Nat.blt]at h;omega
  simp only[bm,List.length_nil,this,cond_false]
 |z::l,n,ρ,i=>by
  simp only[bm]
  rw[Jx l (n+1)]
  by_cases h1:i=n
  ·subst h1
   have e1:(Nat.ble (i+1) i&&Nat.blt i (i+1+l.length))=false:=by
    have:Nat.ble (i+1) i=false:=by
     cases h:Nat.ble (i+1) i with
     |false=>rfl
     |true=>exact absurd (Nat.le_of_ble_eq_true h) (by omega)
    simp[this]
   have e2:(Nat.ble i i&&Nat.blt i (i+(z::l).length))=true:=by simp[Nat.blt]
   rw[e1,e2]
   simp[bF]
  ·have hu:bF ρ n z i=ρ i:=yt ρ z h1
   by_cases h2:n<=i/\i<n+1+l.length
   ·have e1:(Nat.ble (n+1) i&&Nat.blt i (n+1+l.length))=true:=by simp[Nat.blt];omega
    have e2:(Nat.ble n i&&Nat.blt i (n+(z::l).length))=true:=by simp[Nat.blt];omega
    rw[e1,e2]
    simp only[cond_true]
    rw[show i-n=(i-(n+1))+1 by omega,List.getD_cons_succ]
   ·have e1:(Nat.ble (n+1) i&&Nat.blt i (n+1+l.length))=false:=by
     cases h:(Nat.ble (n+1) i&&Nat.blt i (n+1+l.length))with
     |false=>rfl
     |true=>simp[Nat.blt]at h;omega
    have e2:(Nat.ble n i&&Nat.blt i (n+(z::l).length))=false:=by
     cases h:(Nat.ble n i&&Nat.blt i (n+(z::l).length))with
     |false=>rfl
     |true=>simp[Nat.blt]at h;omega
    rw[e1,e2]
    simp[hu]
theorem ir.push {ρ:Env} {st:dJ} {aq:dI} (h:ir ρ st aq) (n:Nat) (l:List Int):ir (bm ρ n l) ((n,l.length)::st) (l::aq):=
 ⟨⟨rfl,h.1⟩,λi=>by rw[Jx,ld,<-h.2 i]⟩
theorem G5:∀{bds:List (Int×Int)} {zs:List Int} (k:Nat),bb bds zs->bb (bds.take k) (zs.take k)/\bb (bds.drop k) (zs.drop k)
 |[],[],k,_=>by simp[bb]
 |[],_::_,_,h=>h.elim
 |(_,_)::_,[],_,h=>h.elim
 |(l,u)::b,z::zs,0,h=>by simpa [bb]using h
 |(l,u)::b,z::zs,k+1,h=>by
  obtain⟨h1,h2,h3⟩:=h
  obtain⟨g1,g2⟩:=G5 (bds:=b) (zs:=zs) k h3
  exact⟨⟨h1,h2,g1⟩,g2⟩
theorem rh:∀{gB:List Nat} {n:Nat} {bds:List (Int×Int)} {P:dJ->dI->List (List Int)->Prop} {st:dJ} {aq:dI} {ρ:Env} {zs:List Int},od gB n bds P st aq->ir ρ st aq->bb bds zs->∃iZ iP,ir (bm ρ n zs) iZ iP/\P iZ iP (dU gB zs)
 |[],n,[],P,st,aq,ρ,[],h,ht,_=>⟨st,aq,ht,h⟩
 |[],_,[],_,_,_,_,_::_,_,_,hi=>hi.elim
 |[],_,_::_,_,_,_,_,_,h,_,_=>h.elim
 |k::gB,n,bds,P,st,aq,ρ,zs,h,ht,hi=>by
  unfold od at h
  cases hk:Nat.beq k 1 with
  |true=>
   have e:=Nat.eq_of_beq_eq_true hk
   subst e
   simp only[hk,cond_true]at h
   cases bds with
   |nil=>exact h.elim
   |cons b D1=>
    obtain⟨lo,iw⟩:=b
    cases zs with
    |nil=>exact hi.elim
    |cons z zs=>
     obtain⟨h1,h2,h3⟩:=hi
     have:=rh (h z h1 h2) (ht.push n [z]) h3
     obtain⟨iZ,iP,g1,g2⟩:=this
     refine⟨iZ,iP,g1,?_⟩
     simpa [dU]using g2
  |false=>
   simp only[hk,cond_false]at h
   cases hb:Nat.ble k bds.length with
   |false=>simp only[hb,cond_false]at h
   |true=>
    simp only[hb,cond_true]at h
    have hb':k<=bds.length:=by simpa using hb
    have hlen:=gR hi
    obtain⟨i1,i2⟩:=G5 k hi
    have e:(zs.take k).length=k:=by simp;omega
    have eM:=ht.push n (zs.take k)
    rw[e]at eM
    obtain⟨iZ,iP,g1,g2⟩:=rh (h _ i1) eM i2
    refine⟨iZ,iP,?_,g2⟩
    have e2:=Jw (zs.take k) (zs.drop k) n ρ
    rw[List.take_append_drop,e]at e2
    rw[e2];exact g1
abbrev qX:=Nat->List (List Int)->Prop
def qX.set (A:qX) (eO:Nat) (p:List (List Int)->Prop):qX:=λi=>cond (Nat.beq i eO) p (A i)
def T.gx (sh:Nat->List Nat×List Nat) (cS:Nat->List Nat) (S:Nat->List (List Int)->List (List Int)->Prop) (L:V->dJ->dI->Prop):T->qX->dJ->dI->Prop
 |stuck,_,_,_=>False
 |leaf v,_,st,aq=>L v st aq
 |div n x d lo hi r,A,st,aq=>∀q:Int,lo<=q->q<=hi->0<=x.cG st aq-d*q->x.cG st aq-d*q<d->r.gx sh cS S L A ((n,1)::st) ([q]::aq)
 |mul n x y lo hi r,A,st,aq=>∀p:Int,lo<=p->p<=hi->p=x.cG st aq*y.cG st aq->r.gx sh cS S L A ((n,1)::st) ([p]::aq)
 |bit n op k x y r,A,st,aq=>∀z:Int,0<=z->z<=k.max->z=eS op k (x.cG st aq) (y.cG st aq)->r.gx sh cS S L A ((n,1)::st) ([z]::aq)
 |shr n x y lo hi r,A,st,aq=>∀z:Int,lo<=z->z<=hi->z=x.cG st aq/2^(y.cG st aq).toNat->r.gx sh cS S L A ((n,1)::st) ([z]::aq)
 |sel n cs ar lo hi r,A,st,aq=>∀z:Int,lo<=z->z<=hi->z=(mU st aq cs).getD (ar.cG st aq).toNat 0->r.gx sh cS S L A ((n,1)::st) ([z]::aq)
 |oi b t e,A,st,aq=>(b.cG st aq=true->t.gx sh cS S L A st aq)/\(b.cG st aq=false->e.gx sh cS S L A st aq)
 |call id args n bds r,A,st,aq=>od (sh id).2 n bds (λiZ iP rs=>S id ((dU (sh id).1 args).map (mU st aq)) rs->r.gx sh cS S L A iZ iP) st aq
 |loop eO init n bds r,A,st,aq=>∃(j7:List (List Int)->Prop) (j3:List (List Int)->Nat),j7 ((dU (cS eO) init).map (mU st aq))/\
  od (cS eO) n bds (λiZ iP zs=>j7 zs->r.gx sh cS S L (A.set eO λvs=>j7 vs/\j3 vs<j3 zs) iZ iP) st aq
 |again eO vals,A,st,aq=>A eO ((dU (cS eO) vals).map (mU st aq))
 |both a b,A,st,aq=>a.gx sh cS S L A st aq/\b.gx sh cS S L A st aq
 |fn n op args lo hi r,A,st,aq=>∀z:Int,lo<=z->z<=hi->z=af op (args.map (I.cG st aq))->r.gx sh cS S L A ((n,1)::st) ([z]::aq)
 |ind n b r,A,st,aq=>∀z:Int,0<=z->z<=1->b.cG st aq=decide (z=1)->r.gx sh cS S L A ((n,1)::st) ([z]::aq)
 |me n lo hi r,A,st,aq=>∀z:Int,lo<=z->z<=hi->r.gx sh cS S L A ((n,1)::st) ([z]::aq)
 |nat n r,A,st,aq=>∀z:Int,0<=z->r.gx sh cS S L A ((n,1)::st) ([z]::aq)
 |pw op args r,A,st,aq=>az op (args.map (I.cG st aq))->r.gx sh cS S L A st aq
 |mo op args r,A,st,aq=>az op (args.map (I.cG st aq))/\r.gx sh cS S L A st aq
theorem Cr {ρ:Env} {st:dJ} {aq:dI} (h:ir ρ st aq) (gB:List Nat) (l:List I):(dU gB l).map (mU st aq)=dU gB (l.map (·.den ρ)):=by
 rw[yp];exact List.map_congr_left λx _=>yo h x
def dn (sh:Nat->List Nat×List Nat) (S:Nat->List (List Int)->List (List Int)->Prop):Nat->List Int->List Int->Prop:=λid zs rs=>S id (dU (sh id).1 zs) (dU (sh id).2 rs)
theorem BD {ρ:Env} {st:dJ} {aq:dI} (h:ir ρ st aq) (l:List I):l.map (I.cG st aq)=l.map (·.den ρ):=List.map_congr_left λx _=>I.eD h.2 x
theorem gQ {sh:Nat->List Nat×List Nat} {cS:Nat->List Nat} {S:Nat->List (List Int)->List (List Int)->Prop} {DD:V->dJ->dI->Prop} {L:V->Env->Prop} (hL:∀v ρ st aq,ir ρ st aq->DD v st aq->L v ρ):
 ∀(t:T) (dw:qX) (A:b6) (ρ:Env) (st:dJ) (aq:dI),(∀eO vs,dw eO (dU (cS eO) vs)->A eO vs)->ir ρ st aq->t.gx sh cS S DD dw st aq->t.holds (dn sh S) L A ρ
 | .stuck,_,_,_,_,_,_,_,h=>h
 | .leaf v,_,_,ρ,st,aq,_,ht,h=>hL v ρ st aq ht h
 | .div n x d lo hi r,dw,A,ρ,st,aq,hA,ht,h=>λq h1 h2 h3 h4=>gQ hL r dw A _ _ _ hA (ht.push n [q]) (h q h1 h2 (by rw[I.eD ht.2];exact h3) (by rw[I.eD ht.2];exact h4))
 | .mul n x y lo hi r,dw,A,ρ,st,aq,hA,ht,h=>λq h1 h2 h3=>gQ hL r dw A _ _ _ hA (ht.push n [q]) (h q h1 h2 (by rw[I.eD ht.2,I.eD ht.2];exact h3))
 | .bit n op k x y r,dw,A,ρ,st,aq,hA,ht,h=>λq h1 h2 h3=>gQ hL r dw A _ _ _ hA (ht.push n [q]) (h q h1 h2 (by rw[I.eD ht.2,I.eD ht.2];exact h3))
 | .shr n x y lo hi r,dw,A,ρ,st,aq,hA,ht,h=>λq h1 h2 h3=>gQ hL r dw A _ _ _ hA (ht.push n [q]) (h q h1 h2 (by rw[I.eD ht.2,I.eD ht.2];exact h3))
 | .sel n cs ar lo hi r,dw,A,ρ,st,aq,hA,ht,h=>λq h1 h2 h3=>gQ hL r dw A _ _ _ hA (ht.push n [q]) (h q h1 h2 (by rw[yo ht,I.eD ht.2];exact h3))
 | .oi b t e,dw,A,ρ,st,aq,hA,ht,h=>⟨λhb=>gQ hL t dw A _ _ _ hA ht (h.1 (by rw[aD.eD ht];exact hb)),λhb=>gQ hL e dw A _ _ _ hA ht (h.2 (by rw[aD.eD ht];exact hb))⟩
 | .call id args n bds r,dw,A,ρ,st,aq,hA,ht,h=>by
  refine pt λrs hi hs=>?_
  obtain⟨iZ,iP,h1,h2⟩:=rh h ht hi
  exact gQ hL r dw A _ _ _ hA h1 (h2 (by rw[Cr ht];exact hs))
 | .loop eO init n bds r,dw,A,ρ,st,aq,hA,ht,h=>by
  obtain⟨j7,j3,h1,h2⟩:=h
  refine⟨λzs=>j7 (dU (cS eO) zs),λzs=>j3 (dU (cS eO) zs),?_,?_⟩
  ·rw[Cr ht]at h1;exact h1
  ·refine pt λzs hi hI=>?_
   obtain⟨iZ,iP,g1,g2⟩:=rh h2 ht hi
   refine gQ hL r _ _ _ _ _ (λPM vs hv=>?_) g1 (g2 hI)
   unfold qX.set at hv
   unfold b6.set
   cases hq:Nat.beq PM eO with
   |true=>
    rw[hq]at hv
    have e:=Nat.eq_of_beq_eq_true hq
    subst e
    exact hv
   |false=>rw[hq]at hv;exact hA _ _ hv
 | .again eO vals,dw,A,ρ,st,aq,hA,ht,h=>hA eO _ (by rw[<-Cr ht];exact h)
 | .both x y,dw,A,ρ,st,aq,hA,ht,h=>⟨gQ hL x dw A ρ st aq hA ht h.1,gQ hL y dw A ρ st aq hA ht h.2⟩
 | .fn n op args lo hi r,dw,A,ρ,st,aq,hA,ht,h=>λq h1 h2 h3=>gQ hL r dw A _ _ _ hA (ht.push n [q]) (h q h1 h2 (by rw[BD ht];exact h3))
 | .ind n b r,dw,A,ρ,st,aq,hA,ht,h=>λq h1 h2 h3=>gQ hL r dw A _ _ _ hA (ht.push n [q]) (h q h1 h2 (by rw[aD.eD ht];exact h3))
 | .me n lo hi r,dw,A,ρ,st,aq,hA,ht,h=>λq h1 h2=>gQ hL r dw A _ _ _ hA (ht.push n [q]) (h q h1 h2)
 | .nat n r,dw,A,ρ,st,aq,hA,ht,h=>λq h1=>gQ hL r dw A _ _ _ hA (ht.push n [q]) (h q h1)
 | .pw op args r,dw,A,ρ,st,aq,hA,ht,h=>λh1=>gQ hL r dw A ρ st aq hA ht (h (by rw[BD ht];exact h1))
 | .mo op args r,dw,A,ρ,st,aq,hA,ht,h=>⟨by rw[<-BD ht];exact h.1,gQ hL r dw A _ _ _ hA ht h.2⟩
def oO:List O->Option (List I)
 |[]=>some []
 | .l x::r=>match oO r with|some l=>some (x::l)|none=>none
 | .b _::_=>none
def O.cG (st:dJ) (aq:dI):O->Int
 |l x=>x.cG st aq
 |b x=>cond (x.cG st aq) 1 0
def sY (st:dJ) (aq:dI) (os:List O):List Int:=
 match oO os with
 |some ls=>mU st aq ls
 |none=>os.map (O.cG st aq)
theorem Ht {ρ:Env}:∀{os:List O} {ls:List I},oO os=some ls->ls.map (·.den ρ)=os.map (O.den ρ)
 |[],ls,h=>by simp[oO]at h;subst h;rfl
 | .l x::r,ls,h=>by
  simp only[oO]at h
  cases hr:oO r with
  |none=>simp[hr]at h
  |some l=>
   simp only[hr,Option.some.injEq]at h
   subst h
   simp only[List.map_cons,Ht hr,O.den]
 | .b _::_,_,h=>by simp[oO]at h
theorem O.eD {ρ:Env} {st:dJ} {aq:dI} (h:ir ρ st aq):∀o:O,o.cG st aq=o.den ρ
 | .l x=>I.eD h.2 x
 | .b x=>by simp only[cG,den,aD.eD h]
theorem IX {ρ:Env} {st:dJ} {aq:dI} (h:ir ρ st aq) (os:List O):sY st aq os=os.map (O.den ρ):=by
 unfold sY
 cases hl:oO os with
 |some ls=>exact(yo h ls).trans (Ht hl)
 |none=>exact List.map_congr_left λo _=>O.eD h o
def Qk (k:Nat):List Nat:=match k with
 |12=>[4,4,4]
 |15=>[5,5,5]
 |20=>[5,5,5,5]
 |k=>[k]
def D.xP:D->List Nat
 | .mix l=>Qk l.length
 | .ic _=>[]
 | .lZ .. =>[]
 |d=>[d.num]
def oS (ds:List D):List Nat:=ds.flatMap D.xP
def yL (ds:List D) (K:List (List Int)->Prop) (v:V) (st:dJ) (aq:dI):Prop:=
 match outs ds v with
 |some os=>K ((dU (oS ds) os).map (sY st aq))
 |none=>False
theorem JY {ds:List D} {K:List (List Int)->Prop} (v:V) (ρ:Env) (st:dJ) (aq:dI) (ht:ir ρ st aq) (h:yL ds K v st aq):pn ds (λrs=>K (dU (oS ds) rs)) v ρ:=by
 unfold yL at h
 unfold pn
 cases ho:outs ds v with
 |none=>simp[ho]at h
 |some os=>
  simp only[ho]at h⊢
  rw[yp]
  rwa [show(dU (oS ds) os).map (sY st aq)=(dU (oS ds) os).map (List.map (O.den ρ)) from List.map_congr_left λo _=>IX ht o]at h
def tl (sh:Nat->List Nat×List Nat) (cS:Nat->List Nat) (S:Nat->List (List Int)->List (List Int)->Prop) (K:List (List Int)->List (List Int)->Prop) (lens:List Nat) (bds:List (Int×Int)) (ds:List D) (t:T):Prop:=
 od lens 0 bds (λst aq zs=>t.gx sh cS S (yL ds (K zs)) (λ_ _=>False) st aq) [] []
theorem Kf {sh:Nat->List Nat×List Nat} {cS:Nat->List Nat} {S:Nat->List (List Int)->List (List Int)->Prop} {K:List (List Int)->List (List Int)->Prop} {lens:List Nat} {bds:List (Int×Int)} {ds:List D} {t:T}
 (h:tl sh cS S K lens bds ds t):ml bds λzs=>t.holds (dn sh S) (pn ds λrs=>K (dU lens zs) (dU (oS ds) rs)) (λ_ _=>False) (bm (λ_=>0) 0 zs):=by
 refine pt λzs hi=>?_
 obtain⟨st,aq,h1,h2⟩:=rh h (show ir (λ_=>0) [] [] from⟨trivial,λ_=>rfl⟩) hi
 exact gQ (λv ρ st aq ht hl=>JY v ρ st aq ht hl) t _ _ _ st aq (λ_ _ hf=>hf.elim) h1 h2
end Go.aZ
namespace Go.aZ
open Go.ChangeShapes Go.WideShapes Go.RowKit
variable {H:Type} {enc:TypeId×Value->H} {P:Program}
theorem JC {k:IntKind} {z:Int}:(Lit.int k z).wf=true↔k.min<=z/\z<=k.max:=by simp[Lit.wf]
theorem G2:∀{b bq:List (Int×Int)} {l aU:List Int},bb b l->bb bq aU->bb (b++bq) (l++aU)
 |[],_,[],_,_,h=>h
 |_::_,_,_::_,_,h,h'=>⟨h.1,h.2.1,G2 h.2.2 h'⟩
 |[],_,_::_,_,h,_=>h.elim
 |_::_,_,[],_,h,_=>h.elim
theorem D.Jz (d:D) {zs l:List Int} (h:zs.length=d.num):d.val (zs++l)=d.val zs:=by
 cases d with
 |str=>match zs,h with|[z],_=>rfl
 |int k lo hi=>match zs,h with|[z],_=>rfl
 |bool=>match zs,h with|[z],_=>rfl
 |agg k n lo hi=>simp only[D.num]at h;simp only[D.val,<-h];simp
 |ic p=>rfl
 |lZ k c=>rfl
 |mix p=>
  simp only[D.num]at h
  simp only[D.val]
  congr 2
  revert zs
  induction p with
  |nil=>intro zs h;simp
  |cons a p ih=>
   intro zs h
   match zs,h with
   |z::zs,h=>simp only[List.cons_append,List.zipWith_cons_cons,ih (zs:=zs) (by simpa using h)]
theorem Pf {w w':World} (h:w.Extends w') (may:MemPlace->Prop):w.keptBut w' may:=
 Below.frame (W:=w) ⟨h.os,h.tape,h.output,h.size,λi hi=>h.block i hi⟩ may
end Go.aZ
namespace Go.aZ
open M
inductive bj where
 |d (x:D)
 |rd (sh:List ah)
 |gX (sh:List ah) (e:TypeId)
def bj.num:bj->Nat
 |d x=>x.num
 |_=>1
noncomputable def bj.bds:bj->List (Int×Int)
 |d x=>x.bds
 |_=>[(0,aF)]
noncomputable def cE:List bj->List (Int×Int)
 |[]=>[]
 |x::r=>x.bds++cE r
def bj.gf:bj->Bool
 |d _=>true
 |_=>false
def bj.l3:bj->Bool
 |gX _ _=>true
 |_=>false
def bj.iU:bj->Bool
 |rd _=>true
 |_=>false
def mm:List bj->Bool
 |[]=>true
 | .d _::r=>mm r
 | .rd _::r=>r.all (λb=> !b.l3)&&mm r
 | .gX sh _::r=>r.all bj.gf&&eP sh&&mm r
def dW (F:Nat->Prop) (w:World) (sh:List ah) (rows:List (List Int)) (v:Value):Prop:=
 ((∃p,v= .slice p 0 0)/\rows=[])∨∃(g o cap:Nat) (cells:Array Value) (t:TypeId) (fz:Nat×Nat),v= .slice (some ⟨g,o,none⟩) rows.length cap/\(rows.length<=cap/\(cap:Int)<=9223372036854775807)/\F g/\w.heap[g]?=some (.cells cells t fz)/\e7 F w cells o sh rows
def pq (N:Nat->Prop) (w:World) (sh:List ah) (e:TypeId) (rows:List (List Int)) (v:Value):Prop:=
 ((∃p,v= .slice p 0 0)/\rows=[])∨∃(g cap:Nat) (cells:Array Value),v= .slice (some ⟨g,0,none⟩) rows.length cap/\(rows.length<=cap/\(cap:Int)<=9223372036854775807)/\N g/\w.heap[g]?=some (.cells cells e (0,0))/\jE cells 0 sh rows/\cells.size=cap*sh.length
def bj.at (F N:Nat->Prop) (w:World):bj->List Int->Value->Prop
 |d x,zs,v=>v=x.val zs
 |rd sh,zs,v=>dW F w sh (ab (zs.getD 0 0)) v
 |gX sh e,zs,v=>pq N w sh e (ab (zs.getD 0 0)) v
def fD (F N:Nat->Prop) (w:World):List bj->List Int->List Value->Prop
 |[],_,[]=>True
 |b::r,zs,v::vs=>b.at F N w zs v/\fD F N w r (zs.drop b.num) vs
 |_,_,_=>False
def mY (us:List Value):Value:=match us with|[x]=>x|l=> .tuple l.toArray
structure cH where
 f:FuncId
 id:Nat
 args:List bj
 res:List bj
 pre:Nat:=0
def x3:Nat->List Int->Prop
 |0,_=>True
 |p+1,l=>az (p+1) l
def Il:Nat->List I->T->T
 |0,_,r=>r
 |p+1,ls,r=> .mo (p+1) ls r
def Ij:Nat->List I->T->T
 |0,_,r=>r
 |p+1,ls,r=> .pw (p+1) ls r
theorem preM_holds {S:Nat->List Int->List Int->Prop} {L:V->Env->Prop} {A:b6} {ρ:Env} {p:Nat} {ls:List I} {r:T} (h:(Il p ls r).holds S L A ρ):x3 p (ls.map (·.den ρ))/\r.holds S L A ρ:=by
 cases p with
 |zero=>exact⟨trivial,h⟩
 |succ p=>exact h
theorem preA_holds {S:Nat->List Int->List Int->Prop} {L:V->Env->Prop} {A:b6} {ρ:Env} {p:Nat} {ls:List I} {r:T} (h:(Ij p ls r).holds S L A ρ) (hp:x3 p (ls.map (·.den ρ))):r.holds S L A ρ:=by
 cases p with
 |zero=>exact h
 |succ p=>exact h hp
def cH.Ok (P:Program) (wb:World) (c:cH) (spec:List Int->List Int->Prop):Prop:=
 (∀args w,(callFunc c.f args).run P w= .ok (.enter c.f args) w)/\
 ∀(F:Nat->Prop) (w:World) (vs:List Value) (zs:List Int),wb.Extends w->bb (cE c.args) zs->x3 c.pre zs->fD F (λ_=>False) w c.args zs vs->
  Calls P c.f vs.toArray w λe w'=>w.Extends w'/\∃rs us,bb (cE c.res) rs/\spec zs rs/\fD (λg=>F g∨w.heap.size<=g) (λg=>w.heap.size<=g) w' c.res rs us/\e= .returned (mY us)
noncomputable def og:List bj->Nat->Nat->List W->List ag->(Nat->List W->List ag->T)->T
 |[],_,n,us,bl,k=>k n us bl
 | .d x::r,s,n,us,bl,k=>og r (s+x.num) n (us++[x.sym s]) bl k
 | .rd sh::r,s,n,us,bl,k=> .nat n (.me (n+1) (-2) 9223372036854775807 (.fn (n+2) 20 [.var s] 0 9223372036854775807
  (og r (s+1) (n+3) (us++[.one (.sl bl.length sh.length (.var n) (.const 0) (.var (n+2)) (.var (n+1)))]) (bl++[([.rows sh (.var n) (.var s) (.var (n+1)) 1],(0,false))]) k)))
 | .gX sh e::r,s,n,us,bl,k=> .me n (-2) 9223372036854775807 (.fn (n+1) 20 [.var s] 0 9223372036854775807
  (og r (s+1) (n+2) (us++[.one (.sl bl.length sh.length (.const 0) (.const 0) (.var (n+1)) (.var n))]) (bl++[([.rows sh (.const 0) (.var s) (.var n) 2],(e,false))]) k))
section
variable {S:Nat->List Int->List Int->Prop} {L:V->Env->Prop} {w0:b7} {P:Program} {gl:cN} {aN:dx}
theorem At.agree {ρ aa:Env} {s n:Nat} {zs:List Int} (h:At ρ s zs) (ha:agree n ρ aa) (hn:s+zs.length<=n):At aa s zs:=λj hj=>by rw[ha (s+j) (by omega)];exact h j hj
theorem lk {ρ:Env} {n i:Nat} {z:Int} (h:i<n):bF ρ n z i=ρ i:=yt ρ z (by omega)
theorem v7 {F N:Nat->Prop} (hF:∀g,F g->w0.ex g∨w0.ro g∨w0.r.heap.size<=g) (hN:∀g,N g->w0.b.heap.size<=g/\w0.r.heap.size<=g):∀{l:List bj} {s n:Nat} {us:List W} {bl:List ag} {k:Nat->List W->List ag->T} {G:b6} {ρ:Env} {m:Nat->Nat} {w:World} {zs:List Int} {vals:List Value},
 mm l=true->bn n bl.length ρ bl->Mem w0 ρ m bl w->At ρ s zs->bb (cE l) zs->s+(cE l).length<=n->fD F N w l zs vals->
 ((l.all λb=> !b.iU)=true∨∀(i:Nat) (p:ag),bl[i]?=some p->F (m i)->aG ρ p.1<=1)->((l.all λb=> !b.l3)=true∨∀(i:Nat) (p:ag),bl[i]?=some p->N (m i)->aG ρ p.1=0)->
 ((l.all λb=> !b.l3)=true∨∀g,N g->lv w0 ρ m bl w g)->
 (∀u∈us,W.ok n bl.length ρ u)->
 (og l s n us bl k).holds S L G ρ->∃n' aa m' ie aB,bJ n bl.length ρ m n' (List.length aB) aa m'/\bn n' aB.length aa aB/\Mem w0 aa m' aB w/\ie.map (W.den aa m')=us.map (W.den ρ m)++vals/\(∀u∈ie,W.ok n' aB.length aa u)/\(k n' ie aB).holds S L G aa
 |[],s,n,us,bl,k,G,ρ,m,w,zs,vals,_,hb,hm,_,_,_,hat,_,_,_,kv,ad=>by
  match vals,hat with
  |[],_=>exact⟨n,ρ,m,us,bl,bJ.refl _ _ _ _,hb,hm,by simp,kv,ad⟩
 | .d x::r,s,n,us,bl,k,G,ρ,m,w,zs,vals,aJ,hb,hm,hA,hz,hn,hat,h1,h2,fb,kv,ad=>by
  match vals,hat with
  |v::vs,hat=>
   obtain⟨hv,hat⟩:=hat
   have hv:v=x.val zs:=hv
   simp only[cE,bj.bds]at hz hn
   simp only[List.length_append]at hn
   obtain⟨i1,i2⟩:=xr hz
   rw[D.tw]at i1 i2 hn
   have hs:=D.vy (ρ:=ρ) (m:=m) (N:=n) (nb:=bl.length) x i1 hA (by omega)
   obtain⟨n',aa,m',ie,aB,g1,g2,g3,g4,g5,g6⟩:=v7 hF hN (l:=r) (s:=s+x.num) (us:=us++[x.sym s]) (zs:=zs.drop x.num) aJ hb hm (hA.drop x.num) i2 (by omega) hat (by
    rcases h1 with h1|h1
    ·left;simpa [bj.iU]using h1
    ·exact .inr h1) (by
    rcases h2 with h2|h2
    ·left;simpa [bj.l3]using h2
    ·exact .inr h2) (by
    rcases fb with h2|h2
    ·left;simpa [bj.l3]using h2
    ·exact .inr h2) (λu hu=>by
    rcases List.mem_append.1 hu with hu|hu
    ·exact kv u hu
    ·simp at hu;subst hu;exact hs.1) ad
   exact⟨n',aa,m',ie,aB,g1,g2,g3,by rw[g4,List.map_append,hv];simp[hs.2],g5,g6⟩
 | .rd sh::r,s,n,us,bl,k,G,ρ,m,w,zs,vals,aJ,hb,hm,hA,hz,hn,hat,h1,h2,fb,kv,ad=>by
  match vals,hat with
  |v::vs,hat=>
   obtain⟨hv,hat⟩:=hat
   match zs,hz with
   |z::zs,hz=>
    obtain⟨ao,z2,hz⟩:=hz
    have hv:dW F w sh (ab z) v:=hv
    obtain⟨oy,zO⟩:=hA.tail
    have h1:∀(i:Nat) (p:ag),bl[i]?=some p->F (m i)->aG ρ p.1<=1:=by
     rcases h1 with h1|h1
     ·simp[bj.iU]at h1
     ·exact h1
    simp only[cE,bj.bds,List.length_append,List.length_cons,List.length_nil]at hn
    simp only[mm,Bool.and_eq_true]at aJ
    have hlen:(ab z).length<=9223372036854775807:=by
     rcases hv with⟨_,h⟩|⟨_,_,cap,_,_,_,_,⟨h3,h4⟩,_⟩
     ·simp[h]
     ·omega
    have jx:zs.length=(cE r).length:=gR hz
    obtain⟨g,o,cap,hg1,hg2,ur,uu,ny⟩:∃(g:Nat) (o:Nat) (cap:Int),(-2<=cap/\cap<=9223372036854775807)/\(cap<0->ab z=[])/\(0<=cap->((ab z).length:Int)<=cap)/\
     (v=if cap<0 then Value.slice (iI cap g) 0 0 else .slice (some ⟨g,o,none⟩) (ab z).length cap.toNat)/\
     (0<=cap->F g/\∃cells t fz,w.heap[g]?=some (.cells cells t fz)/\e7 F w cells o sh (ab z)):=by
     rcases hv with⟨⟨p,h3⟩,h4⟩|⟨g,o,cap,cells,t,fz,h3,⟨h4,h5⟩,h6,h7,cJ⟩
     ·obtain⟨c,g,hc,hp⟩:=C3 p
      exact⟨g,0,c,by omega,λ_=>h4,λh=>by omega,by rw[if_pos hc.2,hp,h3],λh=>by omega⟩
     ·exact⟨g,o,cap,by omega,λh=>by omega,λ_=>by omega,by rw[if_neg (by omega)];simpa using h3,λ_=>⟨h6,cells,t,fz,h7,cJ⟩⟩
    have p5:=ad (o:Int) (by omega) cap hg1.1 hg1.2 (ab z).length (by omega) (by omega) (by
     simp only[List.map_cons,List.map_nil,af,I.bc]
     rw[lk (by omega),lk (by omega),oy])
    generalize gz:bF (bF (bF ρ n (o:Int)) (n+1) cap) (n+2) ((ab z).length:Int)=dq at p5
    have ha:agree n ρ dq:=by
     rw[<-gz]
     intro i hi
     rw[lk (by omega),lk (by omega),lk hi]
    have cg:dq n=o:=by rw[<-gz,lk (by omega),lk (by omega),eB]
    have e1:dq (n+1)=cap:=by rw[<-gz,lk (by omega),eB]
    have e2:dq (n+2)=(ab z).length:=by rw[<-gz,eB]
    have e3:dq s=z:=by rw[ha s (by omega)];exact oy
    have oH:=hm.cT hb ha
    have oC:=hb.ext ha (show n<=n+3 by omega) (Nat.le_refl bl.length)
    have oz:(A.rows sh (.var n) (.var s) (.var (n+1)) 1).ok (n+3) bl.length dq:=⟨⟨I.cA (by omega),I.cA (by omega),I.cA (by omega)⟩,by rw[I.bc,e3];exact⟨ao,z2⟩,by rw[I.bc,e1];exact hg1⟩
    have da:aG dq [A.rows sh (.var n) (.var s) (.var (n+1)) 1]<=1:=by
     simp only[aG];split<;>omega
    have pU:∀a6,F a6->a7 w0 dq (ed m bl.length g) (bl++[([.rows sh (.var n) (.var s) (.var (n+1)) 1],(0,false))]) a6:=λa6 gv=>a7.push ⟨hF a6 gv,λi p hi hk he=>by
     have br:=h1 i p hi (by rw[he];exact gv)
     rw[iA (hb _ (List.mem_of_getElem? hi)) ha]at hk
     omega⟩ (.inl da)
    have gO:=oH.push (x:=([.rows sh (.var n) (.var s) (.var (n+1)) 1],(0,false))) (g:=g) oC (λy hy=>by simp at hy;subst hy;exact oz) (λho=>by cases ho) (λbH cl code' cj df he=>by
     cases he
     intro _
     refine⟨λh=>by rw[I.bc,e1]at h;rw[I.bc,e3];exact hg2 h,λh=>?_⟩
     rw[I.bc,e1]at h
     obtain⟨zQ,cells,t,fz,k1,k2⟩:=ny h
     exact⟨hF g zQ,cells,t,fz,k1,⟨by rw[I.bc,cg];omega,by rw[I.bc,I.bc,cg,e3];exact k2.mono (Fr.of w pU)⟩,λh2=>by omega⟩) (λi p hi he=>by
      by_cases hc:0<=cap
      ·refine .inl ⟨?_,?_⟩
       ·rw[iA (hb _ (List.mem_of_getElem? hi)) ha]
        exact h1 i p hi (by rw[he];exact(ny hc).1)
       ·rw[ff (by decide) (by rw[I.bc,e1];exact hc)];exact Nat.le_refl 1
      ·refine .inr (.inr ?_)
       simp only[aG,I.bc,e1]
       rw[if_pos (by omega)]) (oH.yl da)
    have AF:bJ n bl.length ρ m (n+3) (bl++[([A.rows sh (.var n) (.var s) (.var (n+1)) 1],((0:TypeId),false))]).length dq (ed m bl.length g):=⟨by omega,ha,by simp,λb hb=>eZ hb⟩
    have z8:bn (n+3) (bl++[([A.rows sh (.var n) (.var s) (.var (n+1)) 1],((0:TypeId),false))]).length dq (bl++[([.rows sh (.var n) (.var s) (.var (n+1)) 1],(0,false))]):=λp hp a fJ=>by
     rcases List.mem_append.1 hp with hp|hp
     ·exact(oC p hp a fJ).ext (agree.refl _ _) (Nat.le_refl _) (by simp)
     ·simp at hp;subst hp;simp at fJ;subst fJ
      exact oz.ext (agree.refl _ _) (Nat.le_refl _) (by simp)
    have AY:W.ok (n+3) (bl++[([A.rows sh (.var n) (.var s) (.var (n+1)) 1],((0:TypeId),false))]).length dq (.one (.sl bl.length sh.length (.var n) (.const 0) (.var (n+2)) (.var (n+1)))):=by
     refine⟨by simp,⟨I.cA (by omega),I.bt _ _,I.cA (by omega),I.cA (by omega)⟩,?_⟩
     simp only[I.bc,I.aA,cg,e1,e2]
     exact⟨by omega,by omega,λh=>by rw[hg2 h];rfl,ur⟩
    obtain⟨n',aa,m',ie,aB,g1,g2,g3,g4,g5,g6⟩:=v7 hF hN (l:=r) (s:=s+1) (us:=us++[.one (.sl bl.length sh.length (.var n) (.const 0) (.var (n+2)) (.var (n+1)))]) (zs:=zs) (vals:=vs) aJ.2 z8 gO (zO.agree ha (by omega)) hz (by omega) hat (.inr λi p hi hf=>by
     rw[List.getElem?_append]at hi
     split at hi
     ·rename_i bY
      rw[eZ bY]at hf
      rw[iA (hb _ (List.mem_of_getElem? hi)) ha]
      exact h1 i p hi hf
     ·have:i=bl.length:=by
       have:=(List.getElem?_eq_some_iff.1 hi).1
       simp at this;omega
      subst this
      simp at hi
      subst hi
      simp only[aG];split<;>omega) (.inl aJ.1) (.inl aJ.1) (λu hu=>by
     rcases List.mem_append.1 hu with hu|hu
     ·exact(kv u hu).ext ha (by omega) (by simp)
     ·simp at hu;subst hu;exact AY) p5
    refine⟨n',aa,m',ie,aB,AF.trans g1,g2,g3,?_,g5,g6⟩
    rw[g4,List.map_append,List.append_assoc]
    congr 1
    ·exact List.map_congr_left λu hu=>W.fV (kv u hu) ha (λb hb=>eZ hb)
    ·simp only[List.map_cons,List.map_nil,List.cons_append,List.nil_append,W.den,A.den,I.bc,I.aA,cg,e1,e2,gm]
     rw[uu]
     simp
 | .gX sh e::r,s,n,us,bl,k,G,ρ,m,w,zs,vals,aJ,hb,hm,hA,hz,hn,hat,h1,h2,fb,kv,ad=>by
  match vals,hat with
  |v::vs,hat=>
   obtain⟨hv,hat⟩:=hat
   match zs,hz with
   |z::zs,hz=>
    obtain⟨ao,z2,hz⟩:=hz
    have hv:pq N w sh e (ab z) v:=hv
    obtain⟨oy,zO⟩:=hA.tail
    simp only[cE,bj.bds,List.length_append,List.length_cons,List.length_nil]at hn
    simp only[mm,Bool.and_eq_true]at aJ
    have h2:∀(i:Nat) (p:ag),bl[i]?=some p->N (m i)->aG ρ p.1=0:=by
     rcases h2 with h2|h2
     ·simp[bj.l3]at h2
     ·exact h2
    have fb:∀g,N g->lv w0 ρ m bl w g:=by
     rcases fb with h2|h2
     ·simp[bj.l3]at h2
     ·exact h2
    have hlen:(ab z).length<=9223372036854775807:=by
     rcases hv with⟨_,h⟩|⟨_,cap,_,_,⟨h3,h4⟩,_⟩
     ·simp[h]
     ·omega
    have jx:zs.length=(cE r).length:=gR hz
    obtain⟨g,cap,hg1,hg2,ur,uu,ny⟩:∃(g:Nat) (cap:Int),(-2<=cap/\cap<=9223372036854775807)/\(cap<0->ab z=[])/\(0<=cap->((ab z).length:Int)<=cap)/\
     (v=if cap<0 then Value.slice (iI cap g) 0 0 else .slice (some ⟨g,0,none⟩) (ab z).length cap.toNat)/\
     (0<=cap->N g/\∃cells,w.heap[g]?=some (.cells cells e (0,0))/\jE cells 0 sh (ab z)/\cells.size=cap.toNat*sh.length):=by
     rcases hv with⟨⟨p,h3⟩,h4⟩|⟨g,cap,cells,h3,⟨h4,h5⟩,h6,h7,cJ,br⟩
     ·obtain⟨c,g,hc,hp⟩:=C3 p
      exact⟨g,c,by omega,λ_=>h4,λh=>by omega,by rw[if_pos hc.2,hp,h3],λh=>by omega⟩
     ·exact⟨g,cap,by omega,λh=>by omega,λ_=>by omega,by rw[if_neg (by omega)];simpa using h3,λ_=>⟨h6,cells,h7,cJ,by simpa using br⟩⟩
    have p5:=ad cap hg1.1 hg1.2 (ab z).length (by omega) (by omega) (by
     simp only[List.map_cons,List.map_nil,af,I.bc]
     rw[lk (by omega),oy])
    generalize gz:bF (bF ρ n cap) (n+1) ((ab z).length:Int)=dq at p5
    have ha:agree n ρ dq:=by
     rw[<-gz]
     intro i hi
     rw[lk (by omega),lk hi]
    have e1:dq n=cap:=by rw[<-gz,lk (by omega),eB]
    have e2:dq (n+1)=(ab z).length:=by rw[<-gz,eB]
    have e3:dq s=z:=by rw[ha s (by omega)];exact oy
    have oH:=hm.cT hb ha
    have oC:=hb.ext ha (show n<=n+2 by omega) (Nat.le_refl bl.length)
    have oz:(A.rows sh (.const 0) (.var s) (.var n) 2).ok (n+2) bl.length dq:=⟨⟨I.bt _ _,I.cA (by omega),I.cA (by omega)⟩,by rw[I.bc,e3];exact⟨ao,z2⟩,by rw[I.bc,e1];exact hg1⟩
    have MH:∀(i:Nat) (bH:List ah) (cl code' cj:I) (df:Nat) (t':TypeId×Bool),bl[i]?=some ([.rows bH cl code' cj df],t')->eI w0 dq (a7 w0 dq (ed m bl.length g) (bl++[([.rows sh (.const 0) (.var s) (.var n) 2],(e,false))])) (m i) bH cl code' cj df t'.1 w:=λi bH cl code' cj df t' hi=>by
     rcases Int.lt_or_le cap 0 with hc|hc
     ·exact oH.yl (by simp only[aG,I.bc,e1];rw[if_pos hc];decide) i bH cl code' cj df t' hi
     ·exact(((fb g (ny hc).1) i bH cl code' cj df t' hi).cT (hb _ (List.mem_of_getElem? hi) _ (by simp)) ha).mono λa6 h'=>(a7.cT hb ha h'.1).push (.inr h'.2)
    have gO:=oH.push (x:=([.rows sh (.const 0) (.var s) (.var n) 2],(e,false))) (g:=g) oC (λy hy=>by simp at hy;subst hy;exact oz) (λho=>by cases ho) (λbH cl code' cj df he=>by
     cases he
     intro _
     refine⟨λh=>by rw[I.bc,e1]at h;rw[I.bc,e3];exact hg2 h,λh=>?_⟩
     rw[I.bc,e1]at h
     obtain⟨Mf,cells,k1,k2,k3⟩:=ny h
     have bZ:=hN g Mf
     exact⟨.inr (.inr bZ.2),cells,e,(0,0),k1,⟨by rw[I.aA];exact Int.le_refl _,by rw[I.aA,I.bc,e3];exact(iq aJ.1.2).2 k2⟩,λ_=>⟨rfl,I.aA _ _,.u4,by rw[I.bc,e1];exact k3,bZ.1,.inr bZ.2⟩⟩) (λi p hi he=>by
      by_cases hc:0<=cap
      ·refine .inr (.inl ?_)
       rw[iA (hb _ (List.mem_of_getElem? hi)) ha]
       exact h2 i p hi (by rw[he];exact(ny hc).1)
      ·refine .inr (.inr ?_)
       simp only[aG,I.bc,e1]
       rw[if_pos (by omega)]) MH
    have AF:bJ n bl.length ρ m (n+2) (bl++[([A.rows sh (.const 0) (.var s) (.var n) 2],(e,false))]).length dq (ed m bl.length g):=⟨by omega,ha,by simp,λb hb=>eZ hb⟩
    have z8:bn (n+2) (bl++[([A.rows sh (.const 0) (.var s) (.var n) 2],(e,false))]).length dq (bl++[([.rows sh (.const 0) (.var s) (.var n) 2],(e,false))]):=λp hp a fJ=>by
     rcases List.mem_append.1 hp with hp|hp
     ·exact(oC p hp a fJ).ext (agree.refl _ _) (Nat.le_refl _) (by simp)
     ·simp at hp;subst hp;simp at fJ;subst fJ
      exact oz.ext (agree.refl _ _) (Nat.le_refl _) (by simp)
    have AY:W.ok (n+2) (bl++[([A.rows sh (.const 0) (.var s) (.var n) 2],(e,false))]).length dq (.one (.sl bl.length sh.length (.const 0) (.const 0) (.var (n+1)) (.var n))):=by
     refine⟨by simp,⟨I.bt _ _,I.bt _ _,I.cA (by omega),I.cA (by omega)⟩,?_⟩
     simp only[I.bc,I.aA,e1,e2]
     exact⟨by omega,by omega,λh=>by rw[hg2 h];rfl,ur⟩
    obtain⟨n',aa,m',ie,aB,g1,g2,g3,g4,g5,g6⟩:=DY (w0:=w0) (l:=r) (s:=s+1) (us:=us++[.one (.sl bl.length sh.length (.const 0) (.const 0) (.var (n+1)) (.var n))]) (zs:=zs) (vals:=vs) aJ.1.1 z8 gO (zO.agree ha (by omega)) hz (by omega) hat (λu hu=>by
     rcases List.mem_append.1 hu with hu|hu
     ·exact(kv u hu).ext ha (by omega) (by simp)
     ·simp at hu;subst hu;exact AY) p5
    refine⟨n',aa,m',ie,aB,AF.trans g1,g2,g3,?_,g5,g6⟩
    rw[g4,List.map_append,List.append_assoc]
    congr 1
    ·exact List.map_congr_left λu hu=>W.fV (kv u hu) ha (λb hb=>eZ hb)
    ·simp only[List.map_cons,List.map_nil,List.cons_append,List.nil_append,W.den,A.den,I.bc,I.aA,e1,e2,gm]
     rw[uu]
     simp
where
 DY {w0:b7} {F N:Nat->Prop}:∀{l:List bj} {s n:Nat} {us:List W} {bl:List ag} {k:Nat->List W->List ag->T} {G:b6} {ρ:Env} {m:Nat->Nat} {w:World} {zs:List Int} {vals:List Value},
  (l.all bj.gf)=true->bn n bl.length ρ bl->Mem w0 ρ m bl w->At ρ s zs->bb (cE l) zs->s+(cE l).length<=n->fD F N w l zs vals->
  (∀u∈us,W.ok n bl.length ρ u)->
  (og l s n us bl k).holds S L G ρ->∃n' aa m' ie aB,bJ n bl.length ρ m n' (List.length aB) aa m'/\bn n' aB.length aa aB/\Mem w0 aa m' aB w/\ie.map (W.den aa m')=us.map (W.den ρ m)++vals/\(∀u∈ie,W.ok n' aB.length aa u)/\(k n' ie aB).holds S L G aa
 |[],s,n,us,bl,k,G,ρ,m,w,zs,vals,_,hb,hm,_,_,_,hat,kv,ad=>by
  match vals,hat with
  |[],_=>exact⟨n,ρ,m,us,bl,bJ.refl _ _ _ _,hb,hm,by simp,kv,ad⟩
 | .d x::r,s,n,us,bl,k,G,ρ,m,w,zs,vals,aJ,hb,hm,hA,hz,hn,hat,kv,ad=>by
  match vals,hat with
  |v::vs,hat=>
   obtain⟨hv,hat⟩:=hat
   have hv:v=x.val zs:=hv
   simp only[cE,bj.bds]at hz hn
   simp only[List.length_append]at hn
   obtain⟨i1,i2⟩:=xr hz
   rw[D.tw]at i1 i2 hn
   have hs:=D.vy (ρ:=ρ) (m:=m) (N:=n) (nb:=bl.length) x i1 hA (by omega)
   obtain⟨n',aa,m',ie,aB,g1,g2,g3,g4,g5,g6⟩:=DY (l:=r) (s:=s+x.num) (us:=us++[x.sym s]) (zs:=zs.drop x.num) (by simpa [bj.gf]using aJ) hb hm (hA.drop x.num) i2 (by omega) hat (λu hu=>by
    rcases List.mem_append.1 hu with hu|hu
    ·exact kv u hu
    ·simp at hu;subst hu;exact hs.1) ad
   exact⟨n',aa,m',ie,aB,g1,g2,g3,by rw[g4,List.map_append,hv];simp[hs.2],g5,g6⟩
 | .rd _::_,_,_,_,_,_,_,_,_,_,_,_,aJ,_,_,_,_,_,_,_,_=>by simp[bj.gf]at aJ
 | .gX _ _::_,_,_,_,_,_,_,_,_,_,_,_,aJ,_,_,_,_,_,_,_,_=>by simp[bj.gf]at aJ
end
end Go.aZ
namespace Go.aZ
open M
theorem xz (x:Nat) (r:List Nat):lc (x::r)=2^x*(2*lc r+1):=rfl
theorem Pu (x:Nat) (r:List Nat):lc r<=lc (x::r):=by
 rw[xz]
 have h1:1<=2^x:=Nat.one_le_two_pow
 have h2:2*lc r+1<=2^x*(2*lc r+1):=Nat.le_mul_of_pos_left _ h1
 omega
theorem Hn:∀(a:Nat) (l:List Nat),lc (l.drop a)<=lc l
 |0,l=>by simp
 |a+1,[]=>by simp
 |a+1,x::r=>by rw[List.drop_succ_cons];exact Nat.le_trans (Hn a r) (Pu x r)
theorem Ho:∀(k:Nat) (l:List Nat),lc (l.take k)<=lc l
 |0,l=>by simp[lc]
 |k+1,[]=>by simp
 |k+1,x::r=>by
  rw[List.take_succ_cons,xz,xz]
  exact Nat.mul_le_mul_left _ (by have:=Ho k r;omega)
theorem Iq (l:List (List Int)) (a k:Nat):rc ((l.drop a).take k)<=rc l:=by
 unfold rc
 rw[List.map_take,List.map_drop]
 exact_mod_cast Nat.le_trans (Ho k _) (Hn a _)
theorem Um (n:Nat):m4 (o7 n)=n:=by
 unfold m4 o7
 by_cases h:n% 2=0
 ·rw[if_pos h,if_pos (by omega)];omega
 ·rw[if_neg h,if_neg (by omega)];omega
theorem Jt:∀(f n:Nat),0<n->n<=f->n=2^ja f n*(2*(n/2^ja f n/2)+1)
 |0,n,h,h'=>by omega
 |f+1,n,h,h'=>by
  unfold ja
  by_cases hn:n% 2=0
  ·rw[if_pos hn]
   have ih:=Jt f (n/2) (by omega) (by omega)
   have e:n/2^(ja f (n/2)+1)=n/2/2^ja f (n/2):=by rw[Nat.pow_succ,Nat.mul_comm,Nat.div_div_eq_div_mul]
   rw[e,Nat.pow_succ,Nat.mul_comm (2^_) 2,Nat.mul_assoc,<-ih];omega
  ·rw[if_neg hn];simp;omega
theorem Br:∀(f n:Nat),n<=f->lc (nR f n)=n
 |0,n,h=>by
  have:n=0:=by omega
  subst this;rfl
 |f+1,n,h=>by
  unfold nR
  by_cases hn:n=0
  ·rw[if_pos hn,hn];rfl
  ·rw[if_neg hn,xz]
   have hp:0<2^ja n n:=Nat.two_pow_pos _
   have hd:n/2^ja n n/2<=f:=by
    have h1:n/2^ja n n<=n:=Nat.div_le_self _ _
    omega
   rw[Br f _ hd]
   exact(Jt n n (by omega) (Nat.le_refl _)).symm
theorem Ip {z:Int} (h:0<=z):rc (ab z)=z:=by
 unfold rc ab
 rw[List.map_map]
 have e:((λrow:List Int=>lc (row.map m4))∘λn=>(nR n n).map o7)=id:=by
  funext n
  simp only[Function.comp,List.map_map,id]
  have:(m4∘o7)=id:=by funext k;exact Um k
  rw[this,List.map_id,Br n n (Nat.le_refl _)]
 rw[e,List.map_id,Br _ _ (Nat.le_refl _)]
 omega
def hM:V->List Nat
 | .w (.one (.sl b _ _ _ _ _))=>[b]
 | .w (.one (.slc b _ _ _))=>[b]
 |_=>[]
noncomputable def vh (iX:Bool) (sh:List ah) (bl:List ag) (v:V):M I:=
 match v with
 | .w (.one (.con (.slice none 0 0)))=>pure (.const 0)
 | .w (.one (.sl b ay o ro len cap))=>match bl[b]? with
  |some ([.rows bH off code bI kind],_)=>cond (Nat.blt 0 kind&&gj sh bH&&I.beq o off&&Nat.beq ay sh.length) (bind (cF 22 [code,ro,ro.add len]) λ_=>bind (rv cap bI) λ_=>ck 22 [code,ro,ro.add len] 0 aF) fail
  |_=>fail
 | .w (.one (.slc b off len cap))=>match jS bl b off (len*sh.length)with
  |some cs=>cond (ft sh&&Nat.ble len 1073741824&&Nat.ble len cap&&Nat.ble cap 9223372036854775807&&(eP sh||iX)) (cond (eP sh) (oe sh (fF sh.length len cs) (.const 0)) (vZ bl sh (fF sh.length len cs) (.const 0))) fail
  |none=>fail
 |_=>fail
noncomputable def BT (sh:List ah) (e:TypeId) (bl:List ag) (v:V):M I:=
 match v with
 | .w (.one (.con (.slice none 0 0)))=>pure (.const 0)
 | .w (.one (.sl b ay o ro len cap))=>match bl[b]? with
  |some ([.rows bH off code bI kind],t)=>cond (Nat.beq kind 2&&gj sh bH&&I.beq o (.const 0)&&I.beq off (.const 0)&&I.beq ro (.const 0)&&I.beq cap bI&&Nat.beq ay sh.length&&Nat.beq t.1 e&&eP sh) (bind (cF 22 [code,.const 0,len]) λ_=>ck 22 [code,.const 0,len] 0 aF) fail
  |_=>fail
 | .w (.one (.slc b off len cap))=>match bl[b]? with
  |some (C,t)=>match jS bl b off (len*sh.length)with
   |some cs=>cond (ft sh&&Nat.ble len 1073741824&&Nat.ble len cap&&Nat.ble cap 9223372036854775807&&Nat.beq off 0&&Nat.beq C.length (cap*sh.length)&& !t.2&&Nat.beq t.1 e&&eP sh) (oe sh (fF sh.length len cs) (.const 0)) fail
   |none=>fail
  |none=>fail
 |_=>fail
def j1:V->List Nat
 | .w (.one (.slc b _ _ _))=>[b]
 |_=>[]
def C9 (w0:b7) (ρ:Env) (m:Nat->Nat) (bl:List ag) (bs os:List Nat) (g:Nat):Prop:=
 (∃b∈bs,m b=g/\∃p,bl[b]?=some p/\aG ρ p.1≠0/\(bk p.1=true->b∈os))/\(w0.ex g∨w0.ro g∨w0.r.heap.size<=g)
def lx (F:Nat->Prop) (w0:b7) (ρ:Env) (m:Nat->Nat) (bl:List ag) (bs os:List Nat) (g:Nat):Prop:=C9 w0 ρ m bl bs os g∨F g
def tg (F:Nat->Prop) (w0:b7) (ρ:Env) (m:Nat->Nat) (bl:List ag) (w:World):Prop:=
 ∀(i:Nat) (sh:List ah) (off code cap:I) (kind:Nat) (t:TypeId×Bool),bl[i]?=some ([.rows sh off code cap kind],t)->eI w0 ρ F (m i) sh off code cap kind t.1 w
def pd (w0:b7) (ρ:Env) (m:Nat->Nat) (bl:List ag) (bs os:List Nat) (g:Nat):Prop:=C9 w0 ρ m bl bs os g∨a7 w0 ρ m bl g
section
variable {S:Nat->List Int->List Int->Prop} {L:V->Env->Prop} {n:Nat} {ρ:Env} {m:Nat->Nat} {bl:List ag} {gl:cN} {w0:b7} {P:Program} {w:World}
theorem dW.mono {F F':Nat->Prop} {sh:List ah} {rows:List (List Int)} {v:Value} (h:dW F w sh rows v) (hF:∀g,F g->F' g):dW F' w sh rows v:=by
 rcases h with h|⟨g,o,cap,cells,t,fz,h1,h2,h3,h4⟩
 ·exact .inl h
 ·exact .inr ⟨g,o,cap,cells,t,fz,h1,h2,hF g h3,h4.1,h4.2.mono (Fr.of w hF)⟩
theorem I6 {b off len:Nat} {C:List A} {t:TypeId×Bool} {cs:List A} {sh:List ah} {rows:List (List Int)} (hb:bn n bl.length ρ bl) (hw:Mem w0 ρ m bl w) (hbl:bl[b]?=some (C,t)) (hcs:jS bl b off (len*sh.length)=some cs)
 (cX:∀row∈rows,aS sh row) (ev:bz sh rows=cs.map (A.den ρ m)):w0.b.heap.size<=m b/\(w0.ex (m b)∨w0.r.heap.size<=m b)/\∃cells:Array Value,w.heap[m b]?=some (.cells cells t.1 (0,0))/\jE cells off sh rows/\(t.2=false->cells.size=C.length):=by
 unfold jS at hcs
 rw[hbl]at hcs
 simp only at hcs
 cases hc:(Nat.ble (off+len*sh.length) C.length&&bk C)with
 |false=>rw[hc]at hcs;cases hcs
 |true=>
  rw[hc]at hcs
  simp only[cond_true,Option.some.injEq]at hcs
  simp only[Bool.and_eq_true]at hc
  have hle:=Nat.le_of_ble_eq_true hc.1
  obtain⟨g1,g2,r,hr,g3⟩:=hw.dj b C t hbl hc.2
  refine⟨g1,g2,_,g3,⟨cX,(C.take off).map (A.den ρ m),((C.drop off).drop (len*sh.length)).map (A.den ρ m)++r,?_,by simp;omega⟩,λht=>by rw[hr ht];simp⟩
  rw[ev,<-hcs]
  show C.map (A.den ρ m)++r=_
  have e:C=C.take off++((C.drop off).take (len*sh.length)++(C.drop off).drop (len*sh.length)):=by rw[List.take_append_drop,List.take_append_drop]
  conv=>lhs;rw[e]
  simp only[List.map_append,List.append_assoc]
theorem l6:ab ((I.const 0).den ρ)=[]:=by rw[I.aA];exact kD
theorem rb:(0:Int)<=aF:=Int.le_trans (cL []) (jD (l:=[]) (by simp) (by simp))
theorem I5 {sh:List ah} {len:Nat} {cs:List A} (eW:ft sh=true) (hl:len<=1073741824) (aJ:∀a∈cs,A.ok n bl.length ρ a) (cR:cs.length=len*sh.length):
 ae S L (oe sh (fF sh.length len cs) (.const 0)) n ρ λaa n' l=>l.aC n'/\(0<=l.den aa/\l.den aa<=aF)/\(ab (l.den aa)).length=len/\(∀row∈ab (l.den aa),aS sh row)/\bz sh (ab (l.den aa))=cs.map (A.den ρ m):=by
 have fL:=pF (w:=sh.length) (k:=len) cR
 refine(tq (nb:=bl.length) (m:=m) eW (rs:=fF sh.length len cs) (c:= .const 0) (λrow hr a ha=>aJ a (pG row hr a ha)) (I.bt _ _) (by rw[I.aA];exact⟨Int.le_refl _,rb⟩) (by rw[l6];intro _ h;simp at h) (by rw[l6,fL.1];simpa using hl)).mono λaj n1 l hn ha ⟨p1,bd,bw,bx,dC,dS,fi⟩=>?_
 rw[l6,List.nil_append]at bx
 rw[bx]
 exact⟨p1,bd,by rw[dC,fL.1],dS,by rw[fi,fL.2]⟩
theorem KS {cap bI:I} {α:Type} {x:M α} {R:Env->Nat->α->Prop} (h:(0<=cap.den ρ->0<=bI.den ρ)->ae S L x n ρ R):ae S L (bind (rv cap bI) λ_=>x) n ρ R:=by
 unfold rv
 cases hc:I.beq cap bI with
 |true=>exact h (by rw[I.beq_eq hc];exact id)
 |false=>exact dm h
theorem SP {F:Nat->Prop} {b off len:Nat} {C:List A} {t:TypeId×Bool} {cs:List A} {sh:List ah} {rows:List (List Int)} (hw:Mem w0 ρ m bl w) (hbl:bl[b]?=some (C,t)) (hcs:jS bl b off (len*sh.length)=some cs)
 (cX:∀row∈rows,aS sh row) (ev:c7 F w sh rows (cs.map (A.den ρ m))):w0.b.heap.size<=m b/\(w0.ex (m b)∨w0.r.heap.size<=m b)/\∃cells:Array Value,w.heap[m b]?=some (.cells cells t.1 (0,0))/\e7 F w cells off sh rows:=by
 unfold jS at hcs
 rw[hbl]at hcs
 simp only at hcs
 cases hc:(Nat.ble (off+len*sh.length) C.length&&bk C)with
 |false=>rw[hc]at hcs;cases hcs
 |true=>
  rw[hc]at hcs
  simp only[cond_true,Option.some.injEq]at hcs
  simp only[Bool.and_eq_true]at hc
  have hle:=Nat.le_of_ble_eq_true hc.1
  obtain⟨g1,g2,r,hr,g3⟩:=hw.dj b C t hbl hc.2
  refine⟨g1,g2,_,g3,cX,(C.take off).map (A.den ρ m),cs.map (A.den ρ m),((C.drop off).drop (len*sh.length)).map (A.den ρ m)++r,?_,by simp;omega,ev⟩
  rw[<-hcs]
  show C.map (A.den ρ m)++r=_
  have e:C=C.take off++((C.drop off).take (len*sh.length)++(C.drop off).drop (len*sh.length)):=by rw[List.take_append_drop,List.take_append_drop]
  conv=>lhs;rw[e]
  simp only[List.map_append,List.append_assoc]
theorem Ir {F:Nat->Prop} {iX:Bool} (hF:tg F w0 ρ m bl w) (hN:iX=true->∀g,a7 w0 ρ m bl g->F g) {sh:List ah} {v:V} {X:Value} (hb:bn n bl.length ρ bl) (hw:Mem w0 ρ m bl w) (hv:v.ok n bl.length ρ) (aX:v.rel ρ m X):
 ae S L (vh iX sh bl v) n ρ λaa n' l=>l.aC n'/\(0<=l.den aa/\l.den aa<=aF)/\dW (lx F w0 ρ m bl (hM v) (j1 v)) w sh (ab (l.den aa)) X:=by
 unfold vh
 split
 ·refine ae.pure ⟨I.bt _ _,by rw[I.aA];exact⟨Int.le_refl _,rb⟩,.inl ⟨⟨_,aX⟩,l6⟩⟩
 ·rename_i b ay o ro len cap
  split
  ·rename_i bH off code bI kind t hbl
   refine bT λhc=>dm λhk=>?_
   simp only[Bool.and_eq_true]at hc
   obtain⟨⟨⟨c1,ax⟩,bh⟩,bu⟩:=hc
   have c1:0<kind:=Nat.le_of_ble_eq_true c1
   have ax:=l9 ax;have bh:=I.beq_eq bh;have bu:=Nat.eq_of_beq_eq_true bu
   subst ax;subst bh;subst bu
   simp only[List.map_cons,List.map_nil,az,I.den_add]at hk
   have uL:(A.sl b sh.length o ro len cap).ok n bl.length ρ:=hv
   obtain⟨ptr,e1,e2,e3⟩:=j0 (m:=m) uL
   have aX:X=(A.sl b sh.length o ro len cap).den ρ m:=aX
   obtain⟨x1,⟨dV,e0,fv,fR⟩,⟨gn,lq,lr,lu⟩,⟨mf,lp⟩,ej,fQ⟩:=uL
   have cQ:(A.rows sh o code bI kind).ok n bl.length ρ:=hb _ (List.mem_of_getElem? hbl) _ (by simp)
   have hf:af 22 ([code,ro,ro.add len].map (·.den ρ))=rc (((ab (code.den ρ)).drop (ro.den ρ).toNat).take (len.den ρ).toNat):=by
    simp only[List.map_cons,List.map_nil,af,I.den_add]
    congr 2;omega
   have eu:rc (((ab (code.den ρ)).drop (ro.den ρ).toNat).take (len.den ρ).toNat)<=aF:=by
    have h1:=Iq (ab (code.den ρ)) (ro.den ρ).toNat (len.den ρ).toNat
    rw[Ip cQ.2.1.1]at h1
    exact Int.le_trans h1 cQ.2.1.2
   refine KS λr3=>?_
   refine(cZ (by rw[hf];exact cL _) (by rw[hf];exact eu)).mono λaj n1 l hn ha ⟨k1,k2⟩=>?_
   rw[hf]at k2
   refine⟨k1,by rw[k2];exact⟨cL _,eu⟩,?_⟩
   rw[k2,dD]
   have hlen:(((ab (code.den ρ)).drop (ro.den ρ).toNat).take (len.den ρ).toNat).length=(len.den ρ).toNat:=by simp;omega
   rcases Int.lt_or_le (cap.den ρ) 0 with bp|bp
   ·left
    have:=ej bp
    refine⟨⟨_,by rw[aX,e1,e2 bp,if_pos bp,this];rfl⟩,by rw[this];simp⟩
   ·right
    clear eu
    rcases Int.lt_or_le (bI.den ρ) 0 with jn|jn
    ·have:=r3 bp;omega
    ·obtain⟨q0,cells,ec,fz,q1,⟨q2,q3⟩,_⟩:=(hF b sh o code bI kind t hbl (by omega)).2 jn
     refine⟨m b,(o.den ρ).toNat+(ro.den ρ).toNat*sh.length,(cap.den ρ).toNat,cells,ec,fz,?_,⟨by rw[hlen];have:=fQ bp;omega,by omega⟩,(.inl ⟨⟨b,by simp[hM],rfl,_,hbl,by rw[ff (by omega) jn];omega,λh=>by cases h⟩,q0⟩),q1,?_⟩
     ·rw[aX,e1,e3 bp,hlen,if_neg (by omega)]
     ·exact(q3.sub (ro.den ρ).toNat (len.den ρ).toNat (by omega)).mono (Fr.of w λg hg=> .inr hg)
  ·exact ae.fail
 ·rename_i b off len cap
  split
  ·rename_i cs hcs
   refine bT λhc=>?_
   simp only[Bool.and_eq_true]at hc
   obtain⟨⟨⟨⟨c1,ax⟩,bh⟩,bu⟩,dZ⟩:=hc
   have ax:=Nat.le_of_ble_eq_true ax;have bh:=Nat.le_of_ble_eq_true bh;have bu:=Nat.le_of_ble_eq_true bu
   obtain⟨d1,d2,d3⟩:=uh hw hb hcs
   have aX:X= .slice (some ⟨m b,off,none⟩) len cap:=aX
   have fc:∀C t,bl[b]?=some (C,t)->bk C=true:=λC t hbl=>by
    unfold jS at hcs
    rw[hbl]at hcs
    simp only at hcs
    cases hc:(Nat.ble (off+len*sh.length) C.length&&bk C)with
    |false=>rw[hc]at hcs;cases hcs
    |true=>simp only[Bool.and_eq_true]at hc;exact hc.2
   cases Ey:eP sh with
   |false=>
    have NX:iX=true:=by rw[Ey,Bool.false_or]at dZ;exact dZ
    have fL:=pF (w:=sh.length) (k:=len) d1
    refine(y2 c1 (rs:=fF sh.length len cs) (c:= .const 0) hb hw (λrow hr a ha=>d2 a (pG row hr a ha)) (I.bt _ _) (by rw[I.aA];exact⟨Int.le_refl _,rb⟩) (by rw[l6];intro _ h;simp at h) (by rw[l6,fL.1];simpa using ax)).mono λaj n1 l hn ha ⟨p1,bd,bw,bx,dC,dS,fi⟩=>⟨p1,bd,.inr ?_⟩
    rw[l6,List.nil_append]at bx
    rw[bx]
    rw[fL.2]at fi
    rw[fL.1]at dC
    cases hbl:bl[b]? with
    |none=>unfold jS at hcs;rw[hbl]at hcs;cases hcs
    |some q=>
     obtain⟨C,t⟩:=q
     obtain⟨g1,g2,cells,g3,g4⟩:=SP hw hbl hcs dS (fi.mono (Fr.of w λg hg=>(.inr (hN NX g hg):lx F w0 ρ m bl (hM (.w (.one (.slc b off len cap)))) (j1 (.w (.one (.slc b off len cap)))) g)))
     exact⟨m b,off,cap,cells,t.1,(0,0),by rw[aX,dC],⟨by omega,by omega⟩,(.inl ⟨⟨b,by simp[hM],rfl,_,hbl,by rw[iW (fc C t hbl)];decide,λ_=>by simp[j1]⟩,g2.elim .inl λh=> .inr (.inr h)⟩),g3,g4⟩
   |true=>
   refine(I5 (m:=m) c1 ax d2 d1).mono λaj n1 l hn ha ⟨k1,k2,k3,k4,l4⟩=>⟨k1,k2,.inr ?_⟩
   cases hbl:bl[b]? with
   |none=>unfold jS at hcs;rw[hbl]at hcs;cases hcs
   |some q=>
    obtain⟨C,t⟩:=q
    obtain⟨g1,g2,cells,g3,g4,_⟩:=I6 hb hw hbl hcs k4 l4
    exact⟨m b,off,cap,cells,t.1,(0,0),by rw[aX,k3],⟨by omega,by omega⟩,(.inl ⟨⟨b,by simp[hM],rfl,_,hbl,by rw[iW (fc C t hbl)];decide,λ_=>by simp[j1]⟩,g2.elim .inl λh=> .inr (.inr h)⟩),g3,(iq Ey).2 g4⟩
  ·exact ae.fail
 ·exact ae.fail
theorem RU {iX:Bool} {sh:List ah} {v:V} {X:Value} (hb:bn n bl.length ρ bl) (hw:Mem w0 ρ m bl w) (hv:v.ok n bl.length ρ) (aX:v.rel ρ m X):
 ae S L (vh iX sh bl v) n ρ λaa n' l=>l.aC n'/\(0<=l.den aa/\l.den aa<=aF)/\dW (pd w0 ρ m bl (hM v) (j1 v)) w sh (ab (l.den aa)) X:=Ir (F:=a7 w0 ρ m bl) hw.rws (λ_ _ h=>h) hb hw hv aX
theorem Re {sh:List ah} {e:TypeId} {v:V} {X:Value} (hex:∀g,¬w0.ex g) (hb:bn n bl.length ρ bl) (hw:Mem w0 ρ m bl w) (hv:v.ok n bl.length ρ) (aX:v.rel ρ m X):
 ae S L (BT sh e bl v) n ρ λaa n' l=>l.aC n'/\(0<=l.den aa/\l.den aa<=aF)/\pq (λg=>w0.r.heap.size<=g) w sh e (ab (l.den aa)) X:=by
 unfold BT
 split
 ·refine ae.pure ⟨I.bt _ _,by rw[I.aA];exact⟨Int.le_refl _,rb⟩,.inl ⟨⟨_,aX⟩,l6⟩⟩
 ·rename_i b ay o ro len cap
  split
  ·rename_i bH off code bI kind t hbl
   refine bT λhc=>dm λhk=>?_
   simp only[Bool.and_eq_true]at hc
   obtain⟨⟨⟨⟨⟨⟨⟨⟨c1,ax⟩,bh⟩,zc⟩,zd⟩,dY⟩,bu⟩,cP⟩,dZ⟩:=hc
   have c1:=Nat.eq_of_beq_eq_true c1
   have ax:=l9 ax;have bh:=I.beq_eq bh;have zc:=I.beq_eq zc;have zd:=I.beq_eq zd;have dY:=I.beq_eq dY;have bu:=Nat.eq_of_beq_eq_true bu;have cP:=Nat.eq_of_beq_eq_true cP
   subst ax;subst bh;subst bu;subst zc;subst zd;subst dY;subst cP;subst c1
   simp only[List.map_cons,List.map_nil,az,I.aA]at hk
   have uL:(A.sl b sh.length (.const 0) (.const 0) len cap).ok n bl.length ρ:=hv
   obtain⟨ptr,e1,e2,e3⟩:=j0 (m:=m) uL
   have aX:X=(A.sl b sh.length (.const 0) (.const 0) len cap).den ρ m:=aX
   obtain⟨x1,⟨dV,e0,fv,fR⟩,⟨gn,lq,lr,lu⟩,⟨mf,lp⟩,ej,fQ⟩:=uL
   rw[I.aA]at lp
   have cQ:(A.rows sh (.const 0) code cap 2).ok n bl.length ρ:=hb _ (List.mem_of_getElem? hbl) _ (by simp)
   have hf:af 22 ([code,.const 0,len].map (·.den ρ))=rc (((ab (code.den ρ)).drop 0).take (len.den ρ).toNat):=by
    simp only[List.map_cons,List.map_nil,af,I.aA]
    congr 2
   have eu:rc (((ab (code.den ρ)).drop 0).take (len.den ρ).toNat)<=aF:=by
    have h1:=Iq (ab (code.den ρ)) 0 (len.den ρ).toNat
    rw[Ip cQ.2.1.1]at h1
    exact Int.le_trans h1 cQ.2.1.2
   refine(cZ (by rw[hf];exact cL _) (by rw[hf];exact eu)).mono λaj n1 l hn ha ⟨k1,k2⟩=>?_
   rw[hf]at k2
   refine⟨k1,by rw[k2];exact⟨cL _,eu⟩,?_⟩
   rw[k2,dD]
   have hlen:(((ab (code.den ρ)).drop 0).take (len.den ρ).toNat).length=(len.den ρ).toNat:=by simp;omega
   rcases Int.lt_or_le (cap.den ρ) 0 with bp|bp
   ·left
    have:=ej bp
    refine⟨⟨_,by rw[aX,e1,e2 bp,if_pos bp,this];rfl⟩,by rw[this];simp⟩
   ·right
    clear eu
    obtain⟨q0,cells,ec,fz,q1,⟨q2,q3⟩,q4⟩:=(hw.rws b sh (.const 0) code cap 2 t hbl (by omega)).2 bp
    obtain⟨p0,p1,bd,bx,dC,dS⟩:=q4 (by omega)
    have bd:=bd.two
    subst p0;subst bd
    rw[I.aA]at q3
    refine⟨m b,(cap.den ρ).toNat,cells,?_,⟨by rw[hlen];have:=fQ bp;omega,by omega⟩,dS.elim (λh=>absurd h (hex _)) id,q1,?_,bx⟩
    ·rw[aX,e1,e3 bp,hlen,if_neg (by omega)];simp[I.aA]
    ·have:=((iq dZ).1 q3).sub 0 (len.den ρ).toNat (by omega)
     simpa using this
  ·exact ae.fail
 ·rename_i b off len cap
  split
  ·rename_i C t hbl
   split
   ·rename_i cs hcs
    refine bT λhc=>?_
    simp only[Bool.and_eq_true]at hc
    obtain⟨⟨⟨⟨⟨⟨⟨⟨c1,ax⟩,bh⟩,bu⟩,cP⟩,dY⟩,kO⟩,kP⟩,dZ⟩:=hc
    have ax:=Nat.le_of_ble_eq_true ax;have bh:=Nat.le_of_ble_eq_true bh;have bu:=Nat.le_of_ble_eq_true bu
    have cP:=Nat.eq_of_beq_eq_true cP;have dY:=Nat.eq_of_beq_eq_true dY;have kP:=Nat.eq_of_beq_eq_true kP
    subst cP;subst kP
    obtain⟨d1,d2,d3⟩:=uh hw hb hcs
    refine(I5 (m:=m) c1 ax d2 d1).mono λaj n1 l hn ha ⟨k1,k2,k3,k4,l4⟩=>⟨k1,k2,.inr ?_⟩
    have aX:X= .slice (some ⟨m b,0,none⟩) len cap:=aX
    obtain⟨g1,g2,cells,g3,g4,g5⟩:=I6 hb hw hbl hcs k4 l4
    exact⟨m b,cap,cells,by rw[aX,k3],⟨by omega,by omega⟩,g2.elim (λh=>absurd h (hex _)) id,g3,g4,by rw[g5 (by simpa using kO),dY]⟩
   ·exact ae.fail
  ·exact ae.fail
 ·exact ae.fail
end
def zG (d:D) (v:V):M (List I):=
 match d,v with
 | .bool,.w (.one (.bool e))=>match e with
  | .lit v=>pure [.const (cond v 1 0)]
  |e=>bind (qs e) λl=>pure [l]
 | .int k lo hi,.w (.one (.int aE x))=>cond (decide (k=aE)) (cond (jj lo hi x) (pure [x.l]) (bind (cF 39 [x.l,.const lo,.const hi]) λ_=>pure [x.l])) fail
 | .mix l,.w (.agg s)=>qR l s
 | .str,.w (.one (.str l))=>pure [l]
 | .ic l,.w (.one (.str x))=>match x.bS with|some c=>cond (decide (c=dF (k8 l))) (pure []) fail|none=>fail
 | .lZ k c,.w (.one (.int aE x))=>match x.l.bS with|some d=>cond (decide (k=aE)&&decide (d=c)) (pure []) fail|none=>fail
 | .agg k n lo hi,.w (.agg l)=>cond (Nat.beq l.length n) (match gr k lo hi l with|some r=>pure r|none=>fail) fail
 |_,_=>fail
noncomputable def pM (iX:Bool) (bl:List ag):List bj->List V->M (List I)
 |[],[]=>pure []
 | .d x::r,v::s=>bind (zG x v) λa=>bind (pM iX bl r s) λb=>pure (a++b)
 | .rd sh::r,v::s=>bind (vh iX sh bl v) λa=>bind (pM iX bl r s) λb=>pure (a::b)
 |_,_=>fail
section
variable {S:Nat->List Int->List Int->Prop} {L:V->Env->Prop} {w0:b7} {P:Program} {w:World}
theorem Cg:∀{sh:List ah} {zs:List Int},aS sh zs->bb (sh.map ah.cx) zs/\List.zipWith ah.val sh zs=bL sh zs
 |[],[],_=>⟨trivial,rfl⟩
 |c::sh,z::zs,h=>⟨⟨h.1.1,h.1.2,(Cg h.2).1⟩,by simp[bL,(Cg h.2).2]⟩
 |[],_::_,h=>h.elim
 |_::_,[],h=>h.elim
theorem LR {d:D} {v:V} {X:Value} {n nb:Nat} {ρ:Env} {m:Nat->Nat} (hv:v.ok n nb ρ) (aX:v.rel ρ m X):ae S L (zG d v) n ρ λaa n' ls=>(∀x∈ls,I.aC n' x)/\bb d.bds (ls.map (·.den aa))/\X=d.val (ls.map (·.den aa)):=by
 unfold zG
 split
 ·rename_i e
  have aX:X= .bool (e.den ρ):=aX
  have key:ae S L (bind (qs e) λl=>pure [l]) n ρ λaa n' ls=>(∀x∈ls,I.aC n' x)/\bb D.bool.bds (ls.map (·.den aa))/\X=D.bool.val (ls.map (·.den aa)):=
   xu.bind λaj n1 l hn ha ⟨g1,g2,g3⟩=>ae.pure ⟨λx hx=>by simp at hx;subst hx;exact g1,⟨g2.1,g2.2,trivial⟩,by rw[aX,g3];rfl⟩
  cases e with
  |lit b=>
   refine ae.pure ⟨λx hx=>by simp at hx;subst hx;exact I.bt _ _,?_,?_⟩
   ·simp only[List.map_cons,List.map_nil,I.aA,D.bds];cases b<;>exact⟨by decide,by decide,trivial⟩
   ·rw[aX];simp only[List.map_cons,List.map_nil,I.aA];cases b<;>rfl
  |_=>exact key
 ·rename_i k lo hi aE x
  refine bT λhk=>?_
  have hk:k=aE:=by simpa using hk
  subst hk
  have hv:x.ok n ρ:=hv
  have aX:X= .int k (x.l.den ρ):=aX
  cases hf:jj lo hi x with
  |true=>
   have:=tK hf hv
   exact ae.pure ⟨λy hy=>by simp at hy;subst hy;exact hv.1,⟨this.1,this.2,trivial⟩,aX⟩
  |false=>
   refine dm λhk=>ae.pure ?_
   simp only[List.map_cons,List.map_nil,az,I.aA]at hk
   exact⟨λy hy=>by simp at hy;subst hy;exact hv.1,⟨hk.1,hk.2,trivial⟩,aX⟩
 ·rename_i l s
  have aX:X= .agg (s.map (A.den ρ m)).toArray:=aX
  refine(vn (nb:=nb) (m:=m) hv).mono λaj n1 ls hn ha ⟨g1,g2,g3⟩=>?_
  have:=Cg g2
  refine⟨g1,this.1,?_⟩
  rw[aX,<-g3]
  simp only[D.val,this.2]
 ·rename_i l
  have aX:X= .string (aH (J (l.den ρ))):=aX
  have hv:l.aC n/\0<=l.den ρ/\l.den ρ<=aO:=hv
  exact ae.pure ⟨λy hy=>by simp at hy;subst hy;exact hv.1,⟨hv.2.1,hv.2.2,trivial⟩,aX⟩
 ·rename_i l x
  have aX:X= .string (aH (J (x.den ρ))):=aX
  cases hc:x.bS with
  |none=>exact ae.fail
  |some c=>
   refine bT λhd=>ae.pure ⟨λy hy=>by simp at hy,trivial,?_⟩
   rw[aX,Jf (n:=n) hc (by simpa using hd)];rfl
 ·rename_i k c aE x
  have aX:X= .int aE (x.l.den ρ):=aX
  cases hc:x.l.bS with
  |none=>exact ae.fail
  |some d=>
   refine bT λhd=>ae.pure ⟨λy hy=>by simp at hy,trivial,?_⟩
   simp only[Bool.and_eq_true,decide_eq_true_eq]at hd
   rw[aX,I.er hc,<-hd.1,hd.2];rfl
 ·rename_i k n' lo hi l
  refine bT λhk=>?_
  have hk:=Nat.eq_of_beq_eq_true hk
  have aX:X= .agg (l.map (A.den ρ m)).toArray:=aX
  cases hf:gr k lo hi l with
  |none=>exact ae.fail
  |some r=>
   obtain⟨g1,g2,g3⟩:=zE (m:=m) hf hv
   rw[hk]at g2
   refine ae.pure ⟨zD hf hv,g2,?_⟩
   rw[aX,g3]
   simp only[D.val]
   rw[List.take_of_length_le (by simp[g1,hk])]
 ·exact ae.fail
theorem HA {n:Nat} {ρ aa:Env} {ls:List I} (h:∀x∈ls,I.aC n x) (ha:agree n ρ aa):ls.map (·.den aa)=ls.map (·.den ρ):=List.map_congr_left λx hx=>I.aQ ha (h x hx)
theorem lx.later {F:Nat->Prop} {n nb:Nat} {ρ aa:Env} {m:Nat->Nat} {bl:List ag} {bs os:List Nat} {g:Nat} (hb:bn n nb ρ bl) (ha:agree n ρ aa) (h:lx F w0 aa m bl bs os g):lx F w0 ρ m bl bs os g:=by
 rcases h with⟨⟨b,h1,h2,p,h3,h4,h6⟩,h5⟩|h
 ·exact .inl ⟨⟨b,h1,h2,p,h3,by rw[<-iA (hb p (List.mem_of_getElem? h3)) ha];exact h4,h6⟩,h5⟩
 ·exact .inr h
theorem lx.more {F:Nat->Prop} {ρ:Env} {m:Nat->Nat} {bl:List ag} {bs os Ed vb:List Nat} {g:Nat} (h:lx F w0 ρ m bl bs os g) (h1:∀b∈bs,b∈Ed) (h2:∀b∈os,b∈vb):lx F w0 ρ m bl Ed vb g:=by
 rcases h with⟨⟨b,k1,k2,p,k3,k4,qu⟩,l4⟩|h
 ·exact .inl ⟨⟨b,h1 b k1,k2,p,k3,k4,λh=>h2 b (qu h)⟩,l4⟩
 ·exact .inr h
theorem tg.cT {F:Nat->Prop} {n nb:Nat} {ρ aa:Env} {m:Nat->Nat} {bl:List ag} {w:World} (h:tg F w0 ρ m bl w) (hb:bn n nb ρ bl) (ha:agree n ρ aa):tg F w0 aa m bl w:=λi sh off code cap kind t hi=>
 (h i sh off code cap kind t hi).cT (hb _ (List.mem_of_getElem? hi) _ (by simp)) ha
theorem wP {iX:Bool} {F0:Nat->Prop} {bl:List ag} {m:Nat->Nat}:∀{ds:List bj} {vs:List V} {xs:List Value} {n:Nat} {ρ:Env},tg F0 w0 ρ m bl w->(iX=true->∀g,a7 w0 ρ m bl g->F0 g)->bn n bl.length ρ bl->Mem w0 ρ m bl w->(∀v∈vs,V.ok n bl.length ρ v)->c2 ρ m vs xs->
 ae S L (pM iX bl ds vs) n ρ λaa n' ls=>(∀x∈ls,I.aC n' x)/\bb (cE ds) (ls.map (·.den aa))/\∀F:Nat->Prop,(∀g,lx F0 w0 ρ m bl (vs.flatMap hM) (vs.flatMap j1) g->F g)->fD F (λ_=>False) w ds (ls.map (·.den aa)) xs
 |[],[],[],n,ρ,_,_,_,_,_,_=>ae.pure ⟨λ_ h=>by simp at h,trivial,λ_ _=>trivial⟩
 | .d x::r,v::s,X::xs,n,ρ,h0,hN,hb,hw,hv,hr=>by
  unfold pM
  refine(LR (hv v (by simp)) hr.1).bind λaj n1 a hn ha ⟨g1,g2,g3⟩=>?_
  refine(wP (ds:=r) (vs:=s) (xs:=xs) (h0.cT hb ha) (λh g hg=>hN h g (a7.ya hb ha hg)) (hb.ext ha hn (Nat.le_refl _)) (hw.cT hb ha) (λu hu=>(hv u (List.mem_cons_of_mem _ hu)).ext ha hn (Nat.le_refl _)) (c2.later (λu hu=>hv u (List.mem_cons_of_mem _ hu)) ha hr.2)).bind λaL cq b bZ bM ⟨k1,k2,k3⟩=>ae.pure ⟨λy hy=>?_,?_,λF hF=>?_⟩
  ·rcases List.mem_append.1 hy with hy|hy
   ·exact(g1 y hy).mono bZ
   ·exact k1 y hy
  ·rw[List.map_append,HA g1 bM]
   exact nL g2 k2
  ·have hl:(a.map (·.den aj)).length=x.num:=by rw[gR g2,D.tw]
   rw[List.map_append,HA g1 bM]
   refine⟨?_,?_⟩
   ·show X=x.val _
    rw[D.Jz x hl];exact g3
   ·show fD F _ w r (List.drop x.num _) xs
    rw[<-hl,List.drop_left]
    exact k3 F λg hg=>hF g (by
     exact(lx.later hb ha hg).more (λbq h1=>by simp only[List.flatMap_cons,List.mem_append];exact .inr h1) (λbq h1=>by simp only[List.flatMap_cons,List.mem_append];exact .inr h1))
 | .rd sh::r,v::s,X::xs,n,ρ,h0,hN,hb,hw,hv,hr=>by
  unfold pM
  refine(Ir h0 hN hb hw (hv v (by simp)) hr.1).bind λaj n1 a hn ha ⟨g1,g2,g3⟩=>?_
  refine(wP (ds:=r) (vs:=s) (xs:=xs) (h0.cT hb ha) (λh g hg=>hN h g (a7.ya hb ha hg)) (hb.ext ha hn (Nat.le_refl _)) (hw.cT hb ha) (λu hu=>(hv u (List.mem_cons_of_mem _ hu)).ext ha hn (Nat.le_refl _)) (c2.later (λu hu=>hv u (List.mem_cons_of_mem _ hu)) ha hr.2)).bind λaL cq b bZ bM ⟨k1,k2,k3⟩=>ae.pure ⟨λy hy=>?_,?_,λF hF=>?_⟩
  ·rcases List.mem_cons.1 hy with rfl|hy
   ·exact g1.mono bZ
   ·exact k1 y hy
  ·simp only[List.map_cons,I.aQ bM g1]
   exact⟨g2.1,g2.2,k2⟩
  ·simp only[List.map_cons,I.aQ bM g1]
   refine⟨?_,?_⟩
   ·show dW F w sh (ab _) X
    exact g3.mono λg hg=>hF g (by
     exact hg.more (λbq h1=>by simp only[List.flatMap_cons,List.mem_append];exact .inl h1) (λbq h1=>by simp only[List.flatMap_cons,List.mem_append];exact .inl h1))
   ·exact k3 F λg hg=>hF g (by
     exact(lx.later hb ha hg).more (λbq h1=>by simp only[List.flatMap_cons,List.mem_append];exact .inr h1) (λbq h1=>by simp only[List.flatMap_cons,List.mem_append];exact .inr h1))
 |[],_::_,_,_,_,_,_,_,_,_,_=>ae.fail
 | .d _::_,[],_,_,_,_,_,_,_,_,_=>ae.fail
 | .rd _::_,[],_,_,_,_,_,_,_,_,_=>ae.fail
 | .gX _ _::_,[],_,_,_,_,_,_,_,_,_=>ae.fail
 | .gX _ _::_,_::_,_,_,_,_,_,_,_,_,_=>ae.fail
 |_,[],_::_,_,_,_,_,_,_,_,hr=>hr.elim
 |_,_::_,[],_,_,_,_,_,_,_,hr=>hr.elim
where
 c2.later {n nb:Nat} {ρ aa:Env} {m:Nat->Nat}:∀{vs:List V} {xs:List Value},(∀v∈vs,V.ok n nb ρ v)->agree n ρ aa->c2 ρ m vs xs->c2 aa m vs xs
 |[],[],_,_,_=>trivial
 |v::vs,x::xs,hv,ha,hr=>⟨V.rel.ext hr.1 (hv v (by simp)) ha (λ_ _=>rfl),c2.later (λu hu=>hv u (List.mem_cons_of_mem _ hu)) ha hr.2⟩
 |[],_::_,_,_,hr=>hr.elim
 |_::_,[],_,_,hr=>hr.elim
theorem LP {iX:Bool} {bl:List ag} {m:Nat->Nat} {ds:List bj} {vs:List V} {xs:List Value} {n:Nat} {ρ:Env} (hb:bn n bl.length ρ bl) (hw:Mem w0 ρ m bl w) (hv:∀v∈vs,V.ok n bl.length ρ v) (hr:c2 ρ m vs xs):
 ae S L (pM iX bl ds vs) n ρ λaa n' ls=>(∀x∈ls,I.aC n' x)/\bb (cE ds) (ls.map (·.den aa))/\∀F:Nat->Prop,(∀g,pd w0 ρ m bl (vs.flatMap hM) (vs.flatMap j1) g->F g)->fD F (λ_=>False) w ds (ls.map (·.den aa)) xs:=wP (F0:=a7 w0 ρ m bl) hw.rws (λ_ _ h=>h) hb hw hv hr
end
end Go.aZ
namespace Go.aZ
open M
def ow:List Nat->List ag->List ag
 |[],bl=>bl
 |b::r,bl=>match bl[b]? with
  |some ([.rows sh off code cap (k+1)],t)=>ow r (bP bl b ([.rows sh off code cap 1],t))
  |_=>ow r bl
def sV (us:List W):V:=match us with|[u]=> .w u|l=> .dg l
def lg:List V->Bool
 |[]=>true
 | .w (.one (.slc ..))::_=>false
 |_::r=>lg r
noncomputable def cH.tf (c:cH) (n:Nat) (vs:List V) (bl:List ag) (k:RK):T:=
 pM true bl c.args vs n λls n1=>cond (mm c.res&&(!(c.res.any bj.iU)||lg vs)) (Il c.pre ls (.call c.id ls n1 (cE c.res) (og c.res n1 (n1+(cE c.res).length) [] (cond (c.res.any bj.iU) (ow (vs.flatMap hM) bl) bl) λcq us iO=>k cq (sV us) iO))) .stuck
def JI (sh:List ah) (b:Nat):V:= .w (.one (.sl b sh.length (.const 0) (.const 0) (.const 0) (.const 0)))
def C5 (rd:Bool) (sh:List ah) (b:Nat) (bl:List ag):Option (List ag):=
 match bl[b]? with
 |some ([],(t,false))=>cond rd (some (bP bl b ([.rows sh (.const 0) (.const 0) (.const 0) 1],(t,false)))) none
 |some ([.rows bH off code cap kind],t)=>cond (gj sh bH&&I.beq off (.const 0)&&I.beq cap (.const 0)&&Nat.blt 0 kind) (some bl) none
 |_=>none
def fy (rd:Bool):List bj->List V->List ag->List V×List ag
 | .rd sh::r,v::s,bl=>match v with
  | .w (.one (.slc b 0 0 0))=>match C5 rd sh b bl with
   |some nd=>(JI sh b::(fy rd r s nd).1,(fy rd r s nd).2)
   |none=>(v::(fy rd r s bl).1,(fy rd r s bl).2)
  |_=>(v::(fy rd r s bl).1,(fy rd r s bl).2)
 |_::r,v::s,bl=>(v::(fy rd r s bl).1,(fy rd r s bl).2)
 |_,vs,bl=>(vs,bl)
noncomputable def mX:List bj->List V->List ag->M (List V×List ag)
 |[],vs,bl=>pure (vs,bl)
 | .d _::_,[],bl=>pure ([],bl)
 | .rd _::_,[],bl=>pure ([],bl)
 | .gX _ _::_,[],bl=>pure ([],bl)
 | .d _::r,v::s,bl=>bind (mX r s bl) λq=>pure (v::q.1,q.2)
 | .gX _ _::r,v::s,bl=>bind (mX r s bl) λq=>pure (v::q.1,q.2)
 | .rd sh::r,v::s,bl=>match v with
  | .w (.one (.slc b 0 len cap))=>match bl[b]? with
   |some (C,t)=>cond (bk C&& !t.2&&Nat.beq len cap&&Nat.beq C.length (len*sh.length)&&ft sh&&Nat.ble len 1000000&&eP sh&&Nat.blt 0 len)
    (bind (oe sh (fF sh.length len C) (.const 0)) λcode=>bind (mX r s (bP bl b ([.rows sh (.const 0) code (.const len) 2],t))) λq=>pure (.w (.one (.sl b sh.length (.const 0) (.const 0) (.const len) (.const len)))::q.1,q.2))
    (bind (mX r s bl) λq=>pure (v::q.1,q.2))
   |none=>bind (mX r s bl) λq=>pure (v::q.1,q.2)
  |_=>bind (mX r s bl) λq=>pure (v::q.1,q.2)
noncomputable def cH.yF (c:cH) (n:Nat) (vs:List V) (bl:List ag) (k:RK):T:=
 cond (c.res.any bj.iU&& !lg vs) (mX c.args vs bl n λq n1=>c.tf n1 q.1 q.2 k) (c.tf n vs bl k)
noncomputable def cH.E (c:cH) (n:Nat) (vs:List V) (bl:List ag) (k:RK):T:=
 c.yF n (fy (c.res.any bj.iU) c.args vs bl).1 (fy (c.res.any bj.iU) c.args vs bl).2 k
section
variable {S:Nat->List Int->List Int->Prop} {L:V->Env->Prop} {w0:b7} {P:Program}
theorem Mem.zero {ρ:Env} {m:Nat->Nat} {bl:List ag} {w:World} {b:Nat} {sh:List ah} {t:TypeId} (h:Mem w0 ρ m bl w) (hbl:bl[b]?=some ([],(t,false))):Mem w0 ρ m (bP bl b ([.rows sh (.const 0) (.const 0) (.const 0) 1],(t,false))) w:=by
 have iv:b<bl.length:=(List.getElem?_eq_some_iff.1 hbl).1
 obtain⟨q1,q2,r,hr,q3⟩:=h.dj b [] (t,false) hbl rfl
 have hr:=hr rfl
 subst hr
 have cy:∀(i:Nat) (p:ag),(bP bl b ([.rows sh (.const 0) (.const 0) (.const 0) 1],(t,false)))[i]?=some p->(i=b/\p=([.rows sh (.const 0) (.const 0) (.const 0) 1],(t,false)))∨(i≠b/\bl[i]?=some p):=λi p hi=>by
  rw[gi,List.getElem?_set]at hi
  split at hi
  ·rename_i dR
   subst dR
   simp only[iv,if_true,Option.some.injEq]at hi
   exact .inl ⟨rfl,hi.symm⟩
  ·rename_i dR;exact .inr ⟨λe=>dR e.symm,hi⟩
 have hold:aG ρ ([]:List A)=2:=iW rfl
 refine⟨h.ext,h.fN,h.jv,h.js,h.eL,h.jk,λi fG t' hi ia=>?_,λi bH cl code' cj df t' hi=>?_,λi j p q hi hj he=>?_⟩
 ·rcases cy i _ hi with⟨rfl,bE⟩|⟨hne,hi⟩
  ·cases bE;cases ia
  ·exact h.dj i fG t' hi ia
 ·rcases cy i _ hi with⟨rfl,bE⟩|⟨hne,hi⟩
  ·cases bE
   intro _
   simp only[I.aA]
   exact⟨λh0=>by omega,λ_=>⟨q2.elim .inl λh=> .inr (.inr h),_,_,_,q3,⟨Int.le_refl _,by rw[kD];intro _ h;simp at h,[],[],[],by simp,rfl,by rw[kD];rfl⟩,λbr=>by omega⟩⟩
  ·exact(h.rws i bH cl _ cj df t' hi).mono λa6 h'=>h'.set hbl λhk=>by simp only[aG,I.aA]at hk;split at hk<;>omega
 ·rcases cy i _ hi with⟨rfl,bE⟩|⟨hne,iw⟩
  ·rcases cy j _ hj with⟨rfl,jU⟩|⟨NU,hj⟩
   ·exact .inl rfl
   ·rcases h.inj i j _ q hbl hj he with h1|h1|h1|h1
    ·exact .inl h1
    ·simp only[hold]at h1;omega
    ·simp only[hold]at h1;omega
    ·exact .inr (.inr (.inr h1))
  ·rcases cy j _ hj with⟨p7,jU⟩|⟨NU,hj⟩
   ·subst p7
    rcases h.inj i j p _ iw hbl he with h1|h1|h1|h1
    ·exact .inl h1
    ·simp only[hold]at h1;omega
    ·exact .inr (.inr (.inl h1))
    ·simp only[hold]at h1;omega
   ·exact h.inj i j p q iw hj he
theorem Uj {n:Nat} {ρ:Env} {m:Nat->Nat} {w:World} {rd:Bool} {sh:List ah} {b:Nat} {bl nd:List ag} (h:C5 rd sh b bl=some nd) (hm:Mem w0 ρ m bl w) (hb:bn n bl.length ρ bl):Mem w0 ρ m nd w/\bn n nd.length ρ nd/\nd.length=bl.length/\b<bl.length:=by
 unfold C5 at h
 split at h
 ·rename_i t hbl
  cases rd with
  |false=>cases h
  |true=>
   simp only[cond_true,Option.some.injEq]at h
   subst h
   refine⟨hm.zero hbl,hb.set (λa ha=>?_),eY _ _ _,(List.getElem?_eq_some_iff.1 hbl).1⟩
   have ha:a= .rows sh (.const 0) (.const 0) (.const 0) 1:=by simpa using ha
   subst ha
   refine⟨⟨I.bt _ _,I.bt _ _,I.bt _ _⟩,?_,?_⟩
   ·simp only[I.aA];exact⟨Int.le_refl _,rb⟩
   ·simp only[I.aA];omega
 ·rename_i bH off code cap kind t hbl
  cases hc:(gj sh bH&&I.beq off (.const 0)&&I.beq cap (.const 0)&&Nat.blt 0 kind)with
  |false=>rw[hc]at h;cases h
  |true=>
   rw[hc]at h
   simp only[cond_true,Option.some.injEq]at h
   subst h
   exact⟨hm,hb,rfl,(List.getElem?_eq_some_iff.1 hbl).1⟩
 ·cases h
theorem C6 {n:Nat} {ρ:Env} {m:Nat->Nat} {w:World} {rd:Bool}:∀{ds:List bj} {vs:List V} {bl:List ag} {xs:List Value},Mem w0 ρ m bl w->bn n bl.length ρ bl->(∀v∈vs,V.ok n bl.length ρ v)->c2 ρ m vs xs->
 Mem w0 ρ m (fy rd ds vs bl).2 w/\bn n (fy rd ds vs bl).2.length ρ (fy rd ds vs bl).2/\(fy rd ds vs bl).2.length=bl.length/\(∀v∈(fy rd ds vs bl).1,V.ok n bl.length ρ v)/\c2 ρ m (fy rd ds vs bl).1 xs
 |[],vs,bl,xs,hm,hb,hv,hr=>⟨hm,hb,rfl,hv,hr⟩
 |d::r,[],bl,xs,hm,hb,hv,hr=>by
  cases d<;>exact⟨hm,hb,rfl,hv,hr⟩
 |d::r,v::s,bl,xs,hm,hb,hv,hr=>by
  match xs,hr with
  |x::xs,hr=>
  have keep:Mem w0 ρ m (fy rd r s bl).2 w/\bn n (fy rd r s bl).2.length ρ (fy rd r s bl).2/\(fy rd r s bl).2.length=bl.length/\(∀u∈(v::(fy rd r s bl).1),V.ok n bl.length ρ u)/\c2 ρ m (v::(fy rd r s bl).1) (x::xs):=by
   obtain⟨g1,g2,g3,g4,g5⟩:=C6 (rd:=rd) (ds:=r) (vs:=s) hm hb (λu hu=>hv u (List.mem_cons_of_mem _ hu)) hr.2
   exact⟨g1,g2,g3,λu hu=>by
    rcases List.mem_cons.1 hu with rfl|hu
    ·exact hv u (by simp)
    ·exact g4 u hu,hr.1,g5⟩
  cases d with
  |d y=>exact keep
  |gX sh e=>exact keep
  |rd sh=>
   unfold fy
   split
   ·rename_i b _
    split
    ·rename_i nd hz
     obtain⟨q1,q2,q3,q4⟩:=Uj hz hm hb
     obtain⟨g1,g2,g3,g4,g5⟩:=C6 (rd:=rd) (ds:=r) (vs:=s) q1 q2 (λu hu=>by rw[q3];exact hv u (List.mem_cons_of_mem _ hu)) hr.2
     refine⟨g1,g2,by rw[g3,q3],λu hu=>?_,?_,g5⟩
     ·rcases List.mem_cons.1 hu with rfl|hu
      ·refine⟨q4,⟨I.bt _ _,I.bt _ _,I.bt _ _,I.bt _ _⟩,?_⟩
       simp only[I.aA]
       exact⟨⟨by omega,by omega,by omega,by omega⟩,⟨by omega,by omega⟩,λh=>by omega,λ_=>by omega⟩
      ·rw[<-q3];exact g4 u hu
     ·have h0:x= .slice (some ⟨m b,0,none⟩) 0 0:=hr.1
      rw[h0]
      simp[JI,V.rel,W.den,A.den,I.aA]
    ·exact keep
   ·exact keep
theorem wR {n nb:Nat} {ρ:Env} {m:Nat->Nat} {w:World}:∀{bs:List Nat} {bl:List ag},Mem w0 ρ m bl w->bn n nb ρ bl->Mem w0 ρ m (ow bs bl) w/\bn n nb ρ (ow bs bl)/\(ow bs bl).length=bl.length/\
 ∀(i:Nat) (p:ag),(ow bs bl)[i]?=some p->∃bo,bl[i]?=some bo/\aG ρ p.1<=aG ρ bo.1/\(i∈bs->bk bo.1=false->aG ρ p.1<=1)
 |[],bl,h,hb=>⟨h,hb,rfl,λi p hi=>⟨p,hi,Nat.le_refl _,λh=>by simp at h⟩⟩
 |b::r,bl,h,hb=>by
  unfold ow
  split
  ·rename_i sh off code cap k t hbl
   have iv:b<bl.length:=(List.getElem?_eq_some_iff.1 hbl).1
   have hb':bn n nb ρ (bP bl b ([.rows sh off code cap 1],t)):=λp hp a ha=>by
    rw[gi]at hp
    rcases List.mem_or_eq_of_mem_set hp with hp|hp
    ·exact hb p hp a ha
    ·subst hp
     simp at ha;subst ha
     have h0:A.ok n nb ρ (.rows sh off code cap (k+1)):=hb _ (List.mem_of_getElem? hbl) _ (by simp)
     exact h0
   obtain⟨g1,g2,g3,g4⟩:=wR (bs:=r) (h.low hbl) hb'
   refine⟨g1,g2,by rw[g3,eY],λi p hp=>?_⟩
   obtain⟨bo,h1,h2,h3⟩:=g4 i p hp
   by_cases eg:i=b
   ·subst eg
    rw[gi,List.getElem?_set_self iv]at h1
    cases h1
    refine⟨_,hbl,Nat.le_trans h2 (by simp only[aG];split<;>omega),λ_ _=>Nat.le_trans h2 (by simp only[aG];split<;>omega)⟩
   ·rw[gi,List.getElem?_set_ne (λe=>eg e.symm)]at h1
    exact⟨bo,h1,h2,λhi ho=>h3 (by simpa [eg]using hi) ho⟩
  ·rename_i eV
   obtain⟨g1,g2,g3,g4⟩:=wR (bs:=r) h hb
   refine⟨g1,g2,g3,λi p hp=>?_⟩
   obtain⟨bo,h1,h2,h3⟩:=g4 i p hp
   refine⟨bo,h1,h2,λhi ho=>?_⟩
   rcases List.mem_cons.1 hi with rfl|hi
   ·obtain⟨C,t⟩:=bo
    obtain⟨sh,off,code,cap,k,rfl⟩:=H2 ho
    cases k with
    |zero=>
     have:aG ρ [A.rows sh off code cap 0]=0:=by simp[aG]
     simp only[this]at h2;omega
    |succ k=>exact absurd h1 (eV _ _ _ _ _ _)
   ·exact h3 hi ho
theorem R7 {n nb:Nat} {ρ:Env} {m:Nat->Nat} {us:List W} {vals:List Value} (h:∀u∈us,W.ok n nb ρ u) (hm:us.map (W.den ρ m)=vals):(sV us).ok n nb ρ/\(sV us).rel ρ m (mY vals):=by
 subst hm
 unfold sV mY
 split
 ·exact⟨h _ (by simp),rfl⟩
 ·rename_i hne
  refine⟨h,?_⟩
  split
  ·rename_i x hx
   match us,hne,hx with
   |[u],hne,_=>exact absurd rfl (hne u)
  ·rfl
theorem HP:∀{vs:List V},lg vs=true->vs.flatMap j1=[]
 |[],_=>rfl
 |v::r,h=>by
  unfold lg at h
  split at h
  ·rename_i heq;cases heq
  ·cases h
  ·rename_i hne heq
   cases heq
   rw[List.flatMap_cons,HP h,List.append_nil]
   unfold j1
   split
   ·exact(hne _ _ _ _ rfl).elim
   ·rfl
theorem HQ:∀{vs:List V} {b:Nat},lg vs=true->b∈vs.flatMap hM->∃ay o ro len cap,V.w (.one (.sl b ay o ro len cap))∈vs
 |[],b,_,h=>by simp at h
 |v::r,b,h,hb=>by
  simp only[List.flatMap_cons,List.mem_append]at hb
  rcases hb with hb|hb
  ·unfold hM at hb
   split at hb
   ·simp at hb;subst hb;exact⟨_,_,_,_,_,List.mem_cons_self ..⟩
   ·simp[lg]at h
   ·simp at hb
  ·have h':lg r=true:=by
    unfold lg at h
    split at h
    ·rename_i heq;cases heq
    ·cases h
    ·rename_i heq;cases heq;exact h
   obtain⟨ay,o,ro,len,cap,h1⟩:=HQ h' hb
   exact⟨ay,o,ro,len,cap,List.mem_cons_of_mem _ h1⟩
theorem cH.JR {c:cH} {spec:List Int->List Int->Prop} {f:FuncId} {DZ:Array Value} (fs:∀zs rs,spec zs rs->S c.id zs rs) (n:Nat) (vs:List V) (bl:List ag) (k:RK) (G:b6) (ρ:Env) (m:Nat->Nat) (w:World) (xs:List Value) (c8:Ending->World->Prop)
 (hc:∀zs,bb (cE c.args) zs->x3 c.pre zs->fD (pd w0 ρ m bl (vs.flatMap hM) (vs.flatMap j1)) (λ_=>False) w c.args zs xs->
   Calls P f DZ w λe w'=>w.Extends w'/\∃rs us,bb (cE c.res) rs/\spec zs rs/\fD (λg=>pd w0 ρ m bl (vs.flatMap hM) (vs.flatMap j1) g∨w.heap.size<=g) (λg=>w.heap.size<=g) w' c.res rs us/\e= .returned (mY us))
 (hb:bn n bl.length ρ bl) (hw:Mem w0 ρ m bl w) (hv:∀v∈vs,V.ok n bl.length ρ v) (hr:c2 ρ m vs xs) (ad:(c.tf n vs bl k).holds S L G ρ) (hk:re S L w0 k n bl.length ρ m G c8):
 Calls P f DZ w c8:=by
 unfold cH.tf at ad
 obtain⟨aj,n1,ls,cD,bG,⟨g1,g2,g3⟩,ad⟩:=LP (S:=S) (L:=L) hb hw hv hr G _ ad
 cases hq:(mm c.res&&(!(c.res.any bj.iU)||lg vs))with
 |false=>rw[hq]at ad;exact ad.elim
 |true=>
  rw[hq]at ad
  simp only[cond_true]at ad
  obtain⟨ix,ad⟩:=preM_holds ad
  simp only[T.holds]at ad
  simp only[Bool.and_eq_true,Bool.or_eq_true,Bool.not_eq_true']at hq
  refine(hc _ g2 ix (g3 _ λ_ h=>h)).mono ?_
  rintro e w' ⟨he,rs,us,r1,r2,dP,rfl⟩
  have ad:=na ad r1 (fs _ _ r2)
  have fY:=hb.ext bG cD (Nat.le_refl bl.length)
  have OD:=(hw.grow he).cT hb bG
  have bM:agree n1 aj (bm aj n1 rs):=agree.bm rs n1 aj
  have lK:=fY.ext bM (Nat.le_add_right n1 (cE c.res).length) (Nat.le_refl bl.length)
  have GO:=OD.cT fY bM
  have hA:At (bm aj n1 rs) n1 rs:=At.bm aj n1 rs
  have GA:rs.length=(cE c.res).length:=gR r1
  have mx:=bG.trans bM cD
  have Mc:bJ n bl.length ρ m (n1+(cE c.res).length) bl.length (bm aj n1 rs) m:=⟨by omega,mx,Nat.le_refl _,λ_ _=>rfl⟩
  have eh:∀(i:Nat) (p:ag),bl[i]?=some p->aG (bm aj n1 rs) p.1=aG ρ p.1:=λi p hi=>iA (hb p (List.mem_of_getElem? hi)) mx
  have Aj:∀(i:Nat) (p:ag),bl[i]?=some p->w.heap.size<=m i->aG ρ p.1=0:=λi p hi dN=>by
   by_cases h0:aG ρ p.1=0
   ·exact h0
   ·have:=hw.lt hi h0;omega
  have fin:∀aB:List ag,bn (n1+(cE c.res).length) aB.length (bm aj n1 rs) aB->Mem w0 (bm aj n1 rs) m aB w'->aB.length=bl.length->
   (∀(i:Nat) (p:ag),aB[i]?=some p->(pd w0 ρ m bl (vs.flatMap hM) (vs.flatMap j1) (m i)∨w.heap.size<=m i)->(c.res.any bj.iU)=true->aG (bm aj n1 rs) p.1<=1)->
   (∀(i:Nat) (p:ag),aB[i]?=some p->w.heap.size<=m i->aG (bm aj n1 rs) p.1=0)->(∀g,w.heap.size<=g->lv w0 (bm aj n1 rs) m aB w' g)->
   (og c.res n1 (n1+(cE c.res).length) [] aB λcq us iO=>k cq (sV us) iO).holds S L G (bm aj n1 rs)->c8 (.returned (mY us)) w':=λaB hb' lX hlen cp MG fb ad=>by
   have hF:∀g,(pd w0 ρ m bl (vs.flatMap hM) (vs.flatMap j1) g∨w.heap.size<=g)->w0.ex g∨w0.ro g∨w0.r.heap.size<=g:=λg hg=>by
    rcases hg with(hg|hg)|hg
    ·exact hg.2
    ·exact hg.1
    ·exact .inr (.inr (Nat.le_trans hw.eL hg))
   have hN:∀g,w.heap.size<=g->w0.b.heap.size<=g/\w0.r.heap.size<=g:=λg hg=>⟨Nat.le_trans hw.ext.size hg,Nat.le_trans hw.eL hg⟩
   have h1:(c.res.all λb=> !b.iU)=true∨∀(i:Nat) (p:ag),aB[i]?=some p->(pd w0 ρ m bl (vs.flatMap hM) (vs.flatMap j1) (m i)∨w.heap.size<=m i)->aG (bm aj n1 rs) p.1<=1:=by
    cases nE:c.res.any bj.iU with
    |true=>exact .inr λi p hi hf=>cp i p hi hf nE
    |false=>
     left
     rw[List.all_eq_true]
     intro b hb
     cases eu:b.iU with
     |false=>rfl
     |true=>rw[List.any_eq_true.2 ⟨b,hb,eu⟩]at nE;cases nE
   obtain⟨n',aa,m',ie,iO,p1,bd,bx,dC,dS,fi⟩:=v7 (S:=S) (L:=L) hF hN (l:=c.res) (us:=[]) (vals:=us) hq.1 hb' lX hA r1 (Nat.le_refl _) dP h1 (.inr MG) (.inr fb) (λu hu=>by simp at hu) ad
   have ju:=R7 (m:=m') dS (by simpa using dC)
   exact hk n' (sV ie) iO G aa m' w' (mY us) (Mc.trans (hlen▸p1)) (cw.refl _ _) ju.1 ju.2 bd bx fi
  cases nE:c.res.any bj.iU with
  |false=>
   rw[nE]at ad
   exact fin bl lK GO rfl (λ_ _ _ _ h=>by rw[nE]at h;cases h) (λi p hi dN=>by rw[eh i p hi];exact Aj i p hi dN) (λg hg=>(hw.ri he hg).cT hb mx) ad
  |true=>
   rw[nE]at ad hq
   obtain⟨f1,f2,f3,f4⟩:=wR (bs:=vs.flatMap hM) GO lK
   have lT:lg vs=true:=by
    rcases hq.2 with h|h
    ·cases h
    ·exact h
   refine fin _ (by rw[f3];exact f2) f1 f3 (λi p hi hf _=>?_) (λi p hi dN=>?_) (λg hg=>(wR (bs:=vs.flatMap hM) (hw.cT hb mx) lK).1.ri he hg) ad
   ·obtain⟨bo,h1,h2,h3⟩:=f4 i p hi
    rw[eh i bo h1]at h2
    rcases hf with(⟨⟨b,FQ,MJ,q,sg,mD,N9⟩,_⟩|nD)|dN
    rotate_left
    ·rcases Nat.lt_or_ge (aG ρ bo.1) 2 with br|br
     ·omega
     ·exact absurd rfl (nD.2 i bo h1 br)
    rotate_left
    ·obtain⟨ay,o,ro,len,cap,gb⟩:=HQ lT FQ
     rcases hw.inj i b bo q h1 sg (by rw[MJ])with h5|h5|h5|h5
     ·subst h5
      rw[h1]at sg;cases sg
      cases ho:bk bo.1 with
      |false=>exact h3 FQ ho
      |true=>
       have:=N9 ho
       rw[HP lT]at this
       simp at this
     ·omega
     ·omega
     ·exact absurd h5 mD
    ·have:=Aj i bo h1 dN;omega
   ·obtain⟨bo,h1,h2,_⟩:=f4 i p hi
    rw[eh i bo h1]at h2
    have:=Aj i bo h1 dN;omega
theorem cH.Dz {c:cH} {spec:List Int->List Int->Prop} (hc:c.Ok P w0.b spec) (fs:∀zs rs,spec zs rs->S c.id zs rs) (n:Nat) (vs:List V) (bl:List ag) (k:RK) (G:b6) (ρ:Env) (m:Nat->Nat) (w:World) (xs:List Value) (c8:Ending->World->Prop)
 (hb:bn n bl.length ρ bl) (hw:Mem w0 ρ m bl w) (hv:∀v∈vs,V.ok n bl.length ρ v) (hr:c2 ρ m vs xs) (ad:(c.tf n vs bl k).holds S L G ρ) (hk:re S L w0 k n bl.length ρ m G c8):
 (callFunc c.f xs.toArray).run P w= .ok (.enter c.f xs.toArray) w/\Calls P c.f xs.toArray w c8:=by
 exact⟨hc.1 _ _,cH.JR fs n vs bl k G ρ m w xs c8 (λzs h1 h2 h3=>hc.2 _ w xs zs hw.ext h1 h2 h3) hb hw hv hr ad hk⟩
theorem CQ {m:Nat->Nat} {w:World}:∀{ds:List bj} {vs:List V} {bl:List ag} {xs:List Value} {n:Nat} {ρ:Env},Mem w0 ρ m bl w->bn n bl.length ρ bl->(∀v∈vs,V.ok n bl.length ρ v)->c2 ρ m vs xs->
 ae S L (mX ds vs bl) n ρ λaa n' q=>Mem w0 aa m q.2 w/\bn n' q.2.length aa q.2/\q.2.length=bl.length/\(∀v∈q.1,V.ok n' bl.length aa v)/\c2 aa m q.1 xs
 |[],vs,bl,xs,n,ρ,hm,hb,hv,hr=>ae.pure ⟨hm,hb,rfl,hv,hr⟩
 | .d _::_,[],bl,xs,n,ρ,hm,hb,hv,hr=>ae.pure ⟨hm,hb,rfl,hv,hr⟩
 | .rd _::_,[],bl,xs,n,ρ,hm,hb,hv,hr=>ae.pure ⟨hm,hb,rfl,hv,hr⟩
 | .gX _ _::_,[],bl,xs,n,ρ,hm,hb,hv,hr=>ae.pure ⟨hm,hb,rfl,hv,hr⟩
 |d::r,v::s,bl,xs,n,ρ,hm,hb,hv,hr=>by
  match xs,hr with
  |x::xs,hr=>
  have keep:ae S L (bind (mX r s bl) λq=>pure (v::q.1,q.2)) n ρ λaa n' q=>Mem w0 aa m q.2 w/\bn n' q.2.length aa q.2/\q.2.length=bl.length/\(∀v∈q.1,V.ok n' bl.length aa v)/\c2 aa m q.1 (x::xs):=
   (CQ (ds:=r) (vs:=s) hm hb (λu hu=>hv u (List.mem_cons_of_mem _ hu)) hr.2).bind λaj n1 q hn ha ⟨g1,g2,g3,g4,g5⟩=>ae.pure ⟨g1,g2,g3,λu hu=>by
     rcases List.mem_cons.1 hu with rfl|hu
     ·exact(hv u (by simp)).ext ha hn (Nat.le_refl _)
     ·exact g4 u hu,V.rel.ext hr.1 (hv v (by simp)) ha (λ_ _=>rfl),g5⟩
  cases d with
  |d y=>exact keep
  |gX sh e=>exact keep
  |rd sh=>
   unfold mX
   split
   ·rename_i b len cap _
    split
    ·rename_i C t hbl
     cases hc:(bk C&& !t.2&&Nat.beq len cap&&Nat.beq C.length (len*sh.length)&&ft sh&&Nat.ble len 1000000&&eP sh&&Nat.blt 0 len)with
     |false=>exact keep
     |true=>
      simp only[cond_true]
      simp only[Bool.and_eq_true]at hc
      obtain⟨⟨⟨⟨⟨⟨⟨ho,c1⟩,bK⟩,ax⟩,bh⟩,bu⟩,cP⟩,dY⟩:=hc
      have c1:t.2=false:=by simpa using c1
      have bK:=Nat.eq_of_beq_eq_true bK
      have ax:=Nat.eq_of_beq_eq_true ax
      have bu:=Nat.le_of_ble_eq_true bu
      subst bK
      have aJ:∀x∈C,A.ok n bl.length ρ x:=hb _ (List.mem_of_getElem? hbl)
      have iv:b<bl.length:=(List.getElem?_eq_some_iff.1 hbl).1
      have fL:=pF (w:=sh.length) (k:=len) ax
      refine(tq (nb:=bl.length) (m:=m) bh (rs:=fF sh.length len C) (c:= .const 0) (λrow hr x hx=>aJ x (pG row hr x hx)) (I.bt _ _) (by rw[I.aA];exact⟨Int.le_refl _,rb⟩) (by rw[l6];intro _ h;simp at h) (by rw[l6,fL.1];simp;omega)).bind λaj n1 code cD bG ⟨p1,bd,bw,bx,dC,dS,fi⟩=>?_
      rw[l6,List.nil_append]at bx
      have uz:C.map (A.den aj m)=C.map (A.den ρ m):=jX aJ bG (λ_ _=>rfl)
      have gO:=(hm.cT hb bG).yg (n:=n1) (c:=len) (sh:=sh) (code:=code) hbl ho c1 cP (by rw[bx];exact dS) (by rw[bx,fi,fL.2,uz]) ax
      have fY:bn n1 (bP bl b ([.rows sh (.const 0) code (.const len) 2],t)).length aj (bP bl b ([.rows sh (.const 0) code (.const len) 2],t)):=(hb.ext bG cD (Nat.le_refl _)).set (λy hy=>by
       have hy:y= .rows sh (.const 0) code (.const len) 2:=by simpa using hy
       subst hy
       exact⟨⟨I.bt _ _,p1,I.bt _ _⟩,bd,by rw[I.aA];omega⟩)
      have xf:=eY bl b ([.rows sh (.const 0) code (.const len) 2],t)
      refine(CQ (ds:=r) (vs:=s) gO fY (λu hu=>by rw[xf];exact(hv u (List.mem_cons_of_mem _ hu)).ext bG cD (Nat.le_refl _)) (wP.c2.later (λu hu=>hv u (List.mem_cons_of_mem _ hu)) bG hr.2)).bind λaL cq q bZ bM ⟨g1,g2,g3,g4,g5⟩=>ae.pure ⟨g1,g2,by rw[g3,xf],λu hu=>?_,?_,g5⟩
      ·rcases List.mem_cons.1 hu with rfl|hu
       ·refine⟨iv,⟨I.bt _ _,I.bt _ _,I.bt _ _,I.bt _ _⟩,?_⟩
        simp only[I.aA]
        exact⟨⟨by omega,by omega,by omega,by omega⟩,⟨by omega,by omega⟩,λh=>by omega,λ_=>by omega⟩
       ·rw[<-xf];exact g4 u hu
      ·have h0:x= .slice (some ⟨m b,0,none⟩) len len:=hr.1
       have p9:¬((len:Int)<0):=by omega
       rw[h0]
       simp[V.rel,W.den,A.den,I.aA,p9]
    ·exact keep
   ·exact keep
theorem cH.JS {c:cH} {spec:List Int->List Int->Prop} (hc:c.Ok P w0.b spec) (fs:∀zs rs,spec zs rs->S c.id zs rs) (n:Nat) (vs:List V) (bl:List ag) (k:RK) (G:b6) (ρ:Env) (m:Nat->Nat) (w:World) (xs:List Value) (c8:Ending->World->Prop)
 (hb:bn n bl.length ρ bl) (hw:Mem w0 ρ m bl w) (hv:∀v∈vs,V.ok n bl.length ρ v) (hr:c2 ρ m vs xs) (ad:(c.yF n vs bl k).holds S L G ρ) (hk:re S L w0 k n bl.length ρ m G c8):
 (callFunc c.f xs.toArray).run P w= .ok (.enter c.f xs.toArray) w/\Calls P c.f xs.toArray w c8:=by
 unfold cH.yF at ad
 cases hq:(c.res.any bj.iU&& !lg vs)with
 |false=>rw[hq]at ad;exact c.Dz hc fs n _ _ k G ρ m w xs c8 hb hw hv hr ad hk
 |true=>
  rw[hq]at ad
  simp only[cond_true]at ad
  obtain⟨aj,n1,q,hn,ha,⟨g1,g2,g3,g4,g5⟩,ad⟩:=CQ (S:=S) (L:=L) (ds:=c.args) hw hb hv hr G _ ad
  refine c.Dz hc fs n1 _ _ k G aj m w xs c8 g2 g1 (λv hv=>by rw[g3];exact g4 v hv) g5 ad ?_
  rw[g3]
  intro n' v aB ch aa m' w' val h1 h2 h3 h4 h5 h6 h7
  exact hk n' v aB ch aa m' w' val (bJ.trans ⟨hn,ha,Nat.le_refl _,λ_ _=>rfl⟩ h1) (λl hl=>h2 l (Nat.lt_of_lt_of_le hl hn)) h3 h4 h5 h6 h7
theorem cH.JT {c:cH} {spec:List Int->List Int->Prop} (hc:c.Ok P w0.b spec) (fs:∀zs rs,spec zs rs->S c.id zs rs) (n:Nat) (vs:List V) (bl:List ag) (k:RK) (G:b6) (ρ:Env) (m:Nat->Nat) (w:World) (xs:List Value) (c8:Ending->World->Prop)
 (hb:bn n bl.length ρ bl) (hw:Mem w0 ρ m bl w) (hv:∀v∈vs,V.ok n bl.length ρ v) (hr:c2 ρ m vs xs) (ad:(c.E n vs bl k).holds S L G ρ) (hk:re S L w0 k n bl.length ρ m G c8):
 (callFunc c.f xs.toArray).run P w= .ok (.enter c.f xs.toArray) w/\Calls P c.f xs.toArray w c8:=by
 obtain⟨g1,g2,g3,g4,g5⟩:=C6 (rd:=c.res.any bj.iU) (ds:=c.args) hw hb hv hr
 exact c.JS hc fs n _ _ k G ρ m w xs c8 g2 g1 (λv hv=>by rw[g3];exact g4 v hv) g5 ad (by rw[g3];exact hk)
end
end Go.aZ
namespace Go.aZ
open M
def O.aC (n:Nat):O->Prop
 |l x=>x.aC n
 |b x=>x.aC n
theorem O.aQ {n:Nat} {ρ aa:Env} (ha:agree n ρ aa):∀{o:O},o.aC n->o.den aa=o.den ρ
 | .l x,h=>I.aQ ha h
 | .b x,h=>by simp only[O.den];rw[aD.aQ ha h]
theorem H4 {k:IntKind} {n nb:Nat} {ρ:Env}:∀{l:List A} {os:List O},eG k l=some os->(∀a∈l,A.ok n nb ρ a)->∀o∈os,O.aC n o
 |[],os,h,_=>by simp[eG]at h;subst h;intro x hx;simp at hx
 | .int aE x::s,os,h,aJ=>by
  simp only[eG]at h
  cases hc:decide (k=aE)with
  |false=>simp[hc]at h
  |true=>
   cases hr:eG k s with
   |none=>simp[hc,hr]at h
   |some ei=>
    simp only[hc,hr,cond_true,Option.some.injEq]at h
    subst h
    intro y hy
    rcases List.mem_cons.1 hy with hy|hy
    ·rw[hy]
     have h0:A.ok n nb ρ (.int aE x):=aJ _ (List.mem_cons_self ..)
     have h0:x.ok n ρ:=h0
     exact h0.1
    ·exact H4 hr (λa ha=>aJ a (List.mem_cons_of_mem _ ha)) y hy
 | .bool _::_,_,h,_=>by simp[eG]at h
 | .ptr .. ::_,_,h,_=>by simp[eG]at h
 | .gY .. ::_,_,h,_=>by simp[eG]at h
 | .gptr .. ::_,_,h,_=>by simp[eG]at h
 | .slc .. ::_,_,h,_=>by simp[eG]at h
 | .con _::_,_,h,_=>by simp[eG]at h
 | .str _::_,_,h,_=>by simp[eG]at h
 | .rows .. ::_,_,h,_=>by simp[eG]at h
 | .sl .. ::_,_,h,_=>by simp[eG]at h
 | .ep .. ::_,_,h,_=>by simp[eG]at h
theorem ah.Rb {c:ah} {a:A} {o:O} {n nb:Nat} {ρ:Env} (h:c.out a=some o) (ha:a.ok n nb ρ):o.aC n:=by
 unfold ah.out at h
 split at h
 ·rename_i k _ _ aE x
  cases hk:decide (k=aE)with
  |false=>simp[hk]at h
  |true=>
   simp only[hk,cond_true,Option.some.injEq]at h
   subst h
   have ha:x.ok n ρ:=ha
   exact ha.1
 ·simp only[Option.some.injEq]at h;subst h
  exact ha.1
 ·simp only[Option.some.injEq]at h;subst h
  exact ha
 ·cases h
theorem H7 {n nb:Nat} {ρ:Env}:∀{d:List ah} {l:List A} {os:List O},jY d l=some os->(∀a∈l,A.ok n nb ρ a)->∀o∈os,O.aC n o
 |[],[],os,h,_=>by simp[jY]at h;subst h;intro x hx;simp at hx
 |c::d,a::s,os,h,aJ=>by
  simp only[jY]at h
  cases h1:c.out a with
  |none=>simp[h1]at h
  |some o=>
   cases h2:jY d s with
   |none=>simp[h1,h2]at h
   |some vb=>
    simp only[h1,h2,Option.some.injEq]at h
    subst h
    intro y hy
    rcases List.mem_cons.1 hy with hy|hy
    ·rw[hy];exact ah.Rb h1 (aJ a (List.mem_cons_self ..))
    ·exact H7 h2 (λb hb=>aJ b (List.mem_cons_of_mem _ hb)) y hy
 |[],_::_,_,h,_=>by simp[jY]at h
 |_::_,[],_,h,_=>by simp[jY]at h
theorem Ra {d:D} {u:W} {os:List O} {n nb:Nat} {ρ:Env} (h:nX d u=some os) (hu:u.ok n nb ρ):∀o∈os,O.aC n o:=by
 unfold nX at h
 split at h
 ·rename_i k _ _ aE x
  cases hk:decide (k=aE)with
  |false=>simp[hk]at h
  |true=>
   simp only[hk,cond_true,Option.some.injEq]at h
   subst h
   have hu:x.ok n ρ:=hu
   intro o ho;simp at ho;subst ho;exact hu.1
 ·simp only[Option.some.injEq]at h;subst h
  intro o ho;simp at ho;subst ho;exact hu
 ·rename_i k n' _ _ l
  cases hk:Nat.beq l.length n' with
  |false=>simp[hk]at h
  |true=>
   simp only[hk,cond_true]at h
   exact H4 h hu
 ·simp only[Option.some.injEq]at h;subst h
  intro o ho;simp at ho;subst ho;exact hu.1
 ·exact H7 h hu
 ·cases h
noncomputable def sT (bl:List ag):bj->W->M (List O)
 | .d x,u=>match nX x u with|some os=>pure os|none=>fail
 | .rd sh,u=>bind (vh true sh bl (.w u)) λl=>pure [.l l]
 | .gX sh e,u=>bind (BT sh e bl (.w u)) λl=>pure [.l l]
noncomputable def x9 (bl:List ag):List bj->List W->M (List O)
 |[],[]=>pure []
 |b::r,u::s=>bind (sT bl b u) λa=>bind (x9 bl r s) λc=>pure (a++c)
 |_,_=>fail
noncomputable def B8 (bl:List ag) (ds:List bj) (v:V):M (List O):=
 match v with
 | .w u=>match ds with|[d]=>sT bl d u|_=>fail
 | .dg l=>match ds with|[_]=>fail|_=>x9 bl ds l
 |_=>fail
def O.toW:O->W
 |l x=> .one (.int .u8 ⟨x,0,0⟩)
 |b x=> .one (.bool x)
def W.toO:W->O
 | .one (.int _ x)=> .l x.l
 | .one (.bool e)=> .b e
 |_=> .l (.const 0)
theorem O.toW_toO (o:O):o.toW.toO=o:=by cases o<;>rfl
def xX (os:List O):V:= .dg (os.map O.toW)
def pk (K:List Int->Prop) (v:V) (ρ:Env):Prop:=
 match v with
 | .dg l=>K (l.map λu=>u.toO.den ρ)
 |_=>False
theorem J0 {K:List Int->Prop} {os:List O} {ρ:Env}:pk K (xX os) ρ=K (os.map (O.den ρ)):=by
 unfold pk xX
 simp only[List.map_map]
 congr 1
 exact List.map_congr_left λo _=>by simp[Function.comp,O.toW_toO]
section
variable {S:Nat->List Int->List Int->Prop} {L:V->Env->Prop} {w0:b7} {P:Program} {w:World}
theorem pq.mono {N ti:Nat->Prop} {sh:List ah} {e:TypeId} {rows:List (List Int)} {v:Value} (h:pq N w sh e rows v) (hN:∀g,N g->ti g):pq ti w sh e rows v:=by
 rcases h with h|⟨g,cap,cells,h1,h2,h3,h4⟩
 ·exact .inl h
 ·exact .inr ⟨g,cap,cells,h1,h2,hN g h3,h4⟩
def F0 (w0:b7) (g:Nat):Prop:=w0.ex g∨w0.ro g∨w0.r.heap.size<=g
theorem Iy {d:bj} {u:W} {n:Nat} {ρ:Env} {m:Nat->Nat} {bl:List ag} (hex:∀g,¬w0.ex g) (hb:bn n bl.length ρ bl) (hw:Mem w0 ρ m bl w) (hu:u.ok n bl.length ρ):
 ae S L (sT bl d u) n ρ λaa n' os=>(∀o∈os,O.aC n' o)/\os.length=d.num/\(d.gf=false->bb d.bds (os.map (O.den aa)))/\∀zs,d.at (F0 w0) (λg=>w0.r.heap.size<=g) w (os.map (O.den aa)++zs) (u.den ρ m):=by
 cases d with
 |d x=>
  unfold sT
  cases ho:nX x u with
  |none=>simp only[ho];exact ae.fail
  |some os=>
   simp only[ho]
   have:=BS (ρ:=ρ) (m:=m) ho
   exact ae.pure ⟨Ra ho hu,this.1,λh=>(by simp[bj.gf]at h),λzs=>(this.2 zs).symm⟩
 |rd sh=>
  unfold sT
  refine(RU (v:= .w u) hb hw hu rfl).bind λaj n1 l hn ha ⟨g1,g2,g3⟩=>ae.pure ⟨λo ho=>by simp at ho;subst ho;exact g1,rfl,λ_=>⟨g2.1,g2.2,trivial⟩,λzs=>?_⟩
  exact g3.mono λg hg=>hg.elim (λh=>h.2) λh=>h.1
 |gX sh e=>
  unfold sT
  refine(Re (v:= .w u) hex hb hw hu rfl).bind λaj n1 l hn ha ⟨g1,g2,g3⟩=>ae.pure ⟨λo ho=>by simp at ho;subst ho;exact g1,rfl,λ_=>⟨g2.1,g2.2,trivial⟩,λzs=>g3⟩
theorem Qf {n:Nat} {ρ aa:Env} {os:List O} (h:∀x∈os,O.aC n x) (ha:agree n ρ aa):os.map (O.den aa)=os.map (O.den ρ):=List.map_congr_left λx hx=>O.aQ ha (h x hx)
theorem Iz {m:Nat->Nat} {bl:List ag} (hex:∀g,¬w0.ex g):∀{ds:List bj} {us:List W} {n:Nat} {ρ:Env},bn n bl.length ρ bl->Mem w0 ρ m bl w->(∀u∈us,W.ok n bl.length ρ u)->
 ae S L (x9 bl ds us) n ρ λaa n' os=>(∀o∈os,O.aC n' o)/\fD (F0 w0) (λg=>w0.r.heap.size<=g) w ds (os.map (O.den aa)) (us.map (W.den ρ m))
 |[],[],n,ρ,_,_,_=>ae.pure ⟨λ_ h=>by simp at h,trivial⟩
 |b::r,u::s,n,ρ,hb,hw,hu=>by
  unfold x9
  refine(Iy hex hb hw (hu u (by simp))).bind λaj n1 a hn ha ⟨g1,g2,_,g3⟩=>?_
  refine(Iz (ds:=r) (us:=s) hex (hb.ext ha hn (Nat.le_refl _)) (hw.cT hb ha) (λx hx=>(hu x (List.mem_cons_of_mem _ hx)).ext ha hn (Nat.le_refl _))).bind λaL cq c bZ bM ⟨k1,k2⟩=>ae.pure ⟨λo ho=>?_,?_⟩
  ·rcases List.mem_append.1 ho with ho|ho
   ·have:=g1 o ho
    cases o with
    |l x=>exact I.aC.mono this bZ
    |b x=>exact aD.aC.mono bZ this
   ·exact k1 o ho
  ·rw[List.map_append,Qf g1 bM]
   refine⟨g3 _,?_⟩
   rw[<-g2,<-List.length_map (f:=O.den aj) (as:=a),List.drop_left]
   have e:s.map (W.den ρ m)=s.map (W.den aj m):=List.map_congr_left λx hx=>(W.fV (hu x (List.mem_cons_of_mem _ hx)) ha (λ_ _=>rfl)).symm
   rw[e];exact k2
 |[],_::_,_,_,_,_,_=>ae.fail
 |_::_,[],_,_,_,_,_=>ae.fail
theorem R5 {ds:List bj} {v:V} {val:Value} {n:Nat} {ρ:Env} {m:Nat->Nat} {bl:List ag} (hex:∀g,¬w0.ex g) (hb:bn n bl.length ρ bl) (hw:Mem w0 ρ m bl w) (hv:v.ok n bl.length ρ) (hr:v.rel ρ m val):
 ae S L (B8 bl ds v) n ρ λaa n' os=>∃us,val=mY us/\fD (F0 w0) (λg=>w0.r.heap.size<=g) w ds (os.map (O.den aa)) us:=by
 unfold B8
 split
 ·rename_i u
  split
  ·rename_i d
   refine(Iy hex hb hw hv).mono λaj n1 os hn ha ⟨g1,g2,_,g3⟩=>⟨[u.den ρ m],hr,?_,trivial⟩
   have:=g3 []
   rwa [List.append_nil]at this
  ·exact ae.fail
 ·rename_i l
  split
  ·exact ae.fail
  ·rename_i hne
   refine(Iz (ds:=ds) hex hb hw hv).mono λaj n1 os hn ha ⟨g1,g2⟩=>⟨l.map (W.den ρ m),?_,g2⟩
   have hr:val= .tuple (l.map (W.den ρ m)).toArray:=hr
   rw[hr]
   unfold mY
   split
   ·rename_i x hx
    exfalso
    have hl:l.length=1:=by have:=congrArg List.length hx;simpa using this
    match ds,l,hl,g2,hne with
    |[d],[u],_,_,hne=>exact hne d rfl
    |[],[u],_,g2,_=>simp[fD]at g2
    |_::_::_,[u],_,g2,_=>simp[fD]at g2
   ·rfl
 ·exact ae.fail
def BB (i:Nat):I:=⟨0,[(1,i)]⟩
theorem Qd (ρ:Env) (zs:List Int):((List.range zs.length).map BB).map (·.den (bm ρ 0 zs))=zs:=by
 refine Hu (by simp) λj hj=>?_
 have hj:j<zs.length:=by simpa using hj
 have:=At.bm ρ 0 zs j hj
 rw[Nat.zero_add]at this
 simp[BB,I.den,dK,List.getD,hj]at this⊢
 exact this
noncomputable def cH.tree (e9:mg) (P:Program) (gl:cN) (aN:dx) (li:FuncId->Nat->Option di) (rounds d:Nat) (c:cH):T:=
 cond (mm c.args&& !(c.args.any bj.l3)) (Ij c.pre ((List.range (cE c.args).length).map BB) (og c.args 0 (cE c.args).length [] [] λn us bl=>zf e9 P gl aN li rounds d c.f n (us.map V.w) bl λn' v aB=>B8 aB c.res v n' λos _=> .leaf (xX os))) .stuck
theorem DG {ρ:Env} {m:Nat->Nat}:∀{us:List W} {xs:List Value},us.map (W.den ρ m)=xs->c2 ρ m (us.map V.w) xs
 |[],[],_=>trivial
 |u::us,x::xs,h=>by
  simp only[List.map_cons,List.cons.injEq]at h
  exact⟨h.1.symm,DG h.2⟩
 |[],_::_,h=>by simp at h
 |_::_,[],h=>by simp at h
noncomputable def kc:List cH->mg
 |[],_=>none
 |c::r,f=>cond (Nat.beq c.f f) (some c.E) (kc r f)
theorem lD {wb:World} {r:World} {ex ro:Nat->Prop}:∀{l:List cH},(∀c∈l,c.Ok P wb (S c.id))->qY S L ⟨wb,r,ex,ro,[]⟩ P (kc l)
 |[],_=>λf g h=>by cases h
 |c::l,h=>λf g hf=>by
  unfold kc at hf
  cases hb:Nat.beq c.f f with
  |true=>
   rw[hb]at hf
   simp only[cond_true,Option.some.injEq]at hf
   have:=Nat.eq_of_beq_eq_true hb
   subst this;subst hf
   intro n vs bl k G ρ m w xs c8 h1 h2 h3 h4 h5 h6
   exact cH.JT (w0:=⟨wb,r,ex,ro,[]⟩) (h c (by simp)) (λ_ _ h=>h) n vs bl k G ρ m w xs c8 h1 h2 h3 h4 h5 h6
  |false=>
   rw[hb]at hf
   exact lD (λc hc=>h c (List.mem_cons_of_mem _ hc)) f g hf
theorem cH.Qv {wb:World} {gl:cN} {c:cH} {e9:mg} {aN:dx} {li:FuncId->Nat->Option di} {rounds d:Nat} {spec:List Int->List Int->Prop} (hm:P.follows .mixedOrders=true) (bX:∀r ex ro,fB S P gl ⟨wb,r,ex,ro,[]⟩ aN) (hg:eC gl ⟨wb,wb,λ_=>False,λ_=>False,[]⟩)
 (kY:∀(L:V->Env->Prop) (r:World) (ro:Nat->Prop),qY S L ⟨wb,r,λ_=>False,ro,[]⟩ P e9) (hf:∀args w,(callFunc c.f args).run P w= .ok (.enter c.f args) w)
 (ht:ml (cE c.args) λzs=>(c.tree e9 P gl aN li rounds d).holds S (pk λrs=>bb (cE c.res) rs/\spec zs rs) (λ_ _=>False) (bm (λ_=>0) 0 zs)):c.Ok P wb spec:=by
 refine⟨hf,λF w vs zs hw hz N8 hat=>?_⟩
 have ad:=na ht hz
 have jx:=gR hz
 unfold cH.tree at ad
 cases hq:(mm c.args&& !(c.args.any bj.l3))with
 |false=>rw[hq]at ad;exact ad.elim
 |true=>
  rw[hq]at ad
  simp only[cond_true]at ad
  have ad:=preA_holds ad (by rw[<-jx,Qd];exact N8)
  simp only[Bool.and_eq_true,Bool.not_eq_true']at hq
  have gb:Mem ⟨wb,w,λ_=>False,F,[]⟩ (bm (λ_=>0) 0 zs) (λ_=>0) [] w:=⟨hw,rfl,rfl,rfl,Nat.le_refl _,λ_ _ _=>rfl,λi cs t h=>by simp at h,λi sh off code cap kind t h=>by simp at h,λi j p q h=>by simp at h⟩
  have hall:(c.args.all λb=> !b.l3)=true:=by
   rw[List.all_eq_true]
   intro b hb
   cases eu:b.l3 with
   |false=>rfl
   |true=>rw[List.any_eq_true.2 ⟨b,hb,eu⟩]at hq;cases hq.2
  obtain⟨n',aa,m',us,bl,p1,bd,bx,dC,dS,fi⟩:=v7 (S:=S) (L:=_) (w0:=⟨wb,w,λ_=>False,F,[]⟩) (F:=F) (N:=λ_=>False) (λg hg=> .inr (.inl hg)) (λg hg=>hg.elim) (l:=c.args) (s:=0) (us:=[]) (bl:=[]) (m:=λ_=>0) hq.1 (λp hp=>by simp at hp) gb (At.bm _ 0 zs) hz (by omega) hat (.inr λi p h=>by simp at h) (.inl hall) (.inl hall) (λu hu=>by simp at hu) ad
  have Nk:eC gl ⟨wb,w,λ_=>False,F,[]⟩:=hg
  refine(Ek (S:=S) (w0:=⟨wb,w,λ_=>False,F,[]⟩) rfl hm (bX w (λ_=>False) F) Nk (kY _ _ _) d c.f n' (us.map V.w) bl _ _ aa m' w vs _ bd bx (λv hv=>by
   obtain⟨u,hu,rfl⟩:=List.mem_map.1 hv
   exact dS u hu) (DG (by simpa using dC)) fi ?_).2
  intro cq v aB ch aL db w' val h1 h2 h3 h4 h5 h6 h7
  obtain⟨dq,jA,os,sd,kW,⟨xs,nG,hx2⟩,hl⟩:=R5 (S:=S) (w0:=⟨wb,w,λ_=>False,F,[]⟩) (λg hg=>hg) h5 h6 h3 h4 ch _ h7
  have hl:pk _ (xX os) dq:=hl
  rw[J0]at hl
  refine⟨?_,os.map (O.den dq),xs,hl.1,hl.2,?_,by rw[nG]⟩
  ·have kl:∀i:Nat,i<w.heap.size->w'.heap[i]?=w.heap[i]?:=λi hi=>h6.jk i hi λh=>h
   exact⟨h6.fN,h6.jv,h6.js,h6.eL,λa ha=>by simp only[World.cell?,kl a.block ha],λa ha=>by simp only[World.frozen?,kl a.block ha],kl⟩
  ·exact wc (λg hg=>by
    rcases hg with hg|hg|hg
    ·exact hg.elim
    ·exact .inl hg
    ·exact .inr hg) (λg hg=>hg) hx2
where
 wc {F F' N ti:Nat->Prop} {w:World} (hF:∀g,F g->F' g) (hN:∀g,N g->ti g):∀{ds:List bj} {zs:List Int} {vs:List Value},fD F N w ds zs vs->fD F' ti w ds zs vs
 |[],_,[],_=>trivial
 | .d x::r,zs,v::vs,h=>⟨h.1,wc hF hN h.2⟩
 | .rd sh::r,zs,v::vs,h=>⟨dW.mono h.1 hF,wc hF hN h.2⟩
 | .gX sh e::r,zs,v::vs,h=>⟨pq.mono h.1 hN,wc hF hN h.2⟩
 |[],_,_::_,h=>h.elim
 |_::_,_,[],h=>by simp[fD]at h
end
def bj.xP:bj->List Nat
 | .d x=>x.xP
 |_=>[1]
def qE (ds:List bj):List Nat:=ds.flatMap bj.xP
def yM (ds:List bj) (K:List (List Int)->Prop) (v:V) (st:dJ) (aq:dI):Prop:=
 match v with
 | .dg l=>K ((dU (qE ds) (l.map W.toO)).map (sY st aq))
 |_=>False
theorem JZ {ds:List bj} {K:List (List Int)->Prop} (v:V) (ρ:Env) (st:dJ) (aq:dI) (ht:ir ρ st aq) (h:yM ds K v st aq):pk (λrs=>K (dU (qE ds) rs)) v ρ:=by
 unfold yM at h
 unfold pk
 split at h
 ·rename_i l
  have e:l.map (λu=>u.toO.den ρ)=(l.map W.toO).map (O.den ρ):=by simp
  simp only[e]
  rw[yp]
  rwa [show(dU (qE ds) (l.map W.toO)).map (sY st aq)=(dU (qE ds) (l.map W.toO)).map (List.map (O.den ρ)) from List.map_congr_left λo _=>IX ht o]at h
 ·exact h.elim
def j9 (sh:Nat->List Nat×List Nat) (cS:Nat->List Nat) (S:Nat->List (List Int)->List (List Int)->Prop) (K:List (List Int)->List (List Int)->Prop) (lens:List Nat) (bds:List (Int×Int)) (ds:List bj) (t:T):Prop:=
 od lens 0 bds (λst aq zs=>t.gx sh cS S (yM ds (K zs)) (λ_ _=>False) st aq) [] []
theorem Kg {sh:Nat->List Nat×List Nat} {cS:Nat->List Nat} {S:Nat->List (List Int)->List (List Int)->Prop} {K:List (List Int)->List (List Int)->Prop} {lens:List Nat} {bds:List (Int×Int)} {ds:List bj} {t:T}
 (h:j9 sh cS S K lens bds ds t):ml bds λzs=>t.holds (dn sh S) (pk λrs=>K (dU lens zs) (dU (qE ds) rs)) (λ_ _=>False) (bm (λ_=>0) 0 zs):=by
 refine pt λzs hi=>?_
 obtain⟨st,aq,h1,h2⟩:=rh h (show ir (λ_=>0) [] [] from⟨trivial,λ_=>rfl⟩) hi
 exact gQ (λv ρ st aq ht hl=>JZ v ρ st aq ht hl) t _ _ _ st aq (λ_ _ hf=>hf.elim) h1 h2
end Go.aZ
namespace Go.aZ
open M
structure kM where
 c:cn
 pre:Nat
def kM.Ok (P:Program) (wb:World) (q:kM) (spec:List Int->List Int->Prop):Prop:=
 ∀zs,bb (cW q.c.args) zs->az q.pre zs->∃rs,bb (cW q.c.res) rs/\spec zs rs/\∀w,wb.Extends w->q8 P q.c.f (ij q.c.args zs).toArray w (fO q.c.res rs)
noncomputable def kM.M (q:kM):List ag->List V->M V:=λ_ vs n k=>
 match ki q.c.args vs with
 |some l=> .mo q.pre l (.call q.c.id l n (cW q.c.res) (k (sU q.c.res n) (n+(cW q.c.res).length)))
 |none=> .stuck
noncomputable def fa (x5:List kM) (cons:List cn):dx:=λf=>
 match x5.filter (λq=>Nat.beq f q.c.f)with
 |[]=>wm cons f
 |l=>some λbl vs n k=>match l.find? (λq=>(ki q.c.args vs).isSome)with
  |some q=>q.M bl vs n k
  |none=>match wm cons f with
   |some g=>g bl vs n k
   |none=> .stuck
section
variable {S:Nat->List Int->List Int->Prop} {P:Program} {gl:cN} {w0:b7}
theorem kM.snd {q:kM} {spec:List Int->List Int->Prop} (hc:q.Ok P w0.b spec) (fs:∀zs rs,spec zs rs->S q.c.id zs rs) (L:V->Env->Prop) (n:Nat) (ρ:Env) (m:Nat->Nat) (bl:List ag) (vs:List V) (xs:List Value)
 (dO:∀v∈vs,V.ok n bl.length ρ v) (hr:c2 ρ m vs xs):ae S L (q.M bl vs) n ρ λaa n' v=>v.ok n' bl.length aa/\∃val,v.rel aa m val/\∀w,Mem w0 ρ m bl w->q8 P q.c.f xs.toArray w val:=by
 intro G k hk
 unfold kM.M at hk
 cases hl:ki q.c.args vs with
 |none=>simp[hl,T.holds]at hk
 |some l=>
  simp only[hl]at hk
  obtain⟨eU,hk⟩:=hk
  obtain⟨h1,h2⟩:=zH hl dO hr
  obtain⟨rs,r1,r2,dP⟩:=hc _ h1 eU
  have ad:=zg hk r1 (fs _ _ r2)
  have hlen:=gR r1
  have ju:=B9 (m:=m) (nb:=bl.length) (N:=n+(cW q.c.res).length) r1 (At.bm ρ n rs) (Nat.le_refl _)
  refine⟨_,_,_,Nat.le_add_right _ _,agree.bm rs n ρ,⟨ju.1,_,ju.2,λw hw=>?_⟩,ad⟩
  rw[h2]at dP
  exact dP w hw.ext
theorem fE {x5:List kM} {cons:List cn} (hq:∀q∈x5,q.Ok P w0.b (S q.c.id)) (hc:∀c∈cons,c.ob P w0.b (S c.id)):fB S P gl w0 (fa x5 cons):=by
 intro f g lP L n ρ m bl vs xs h1 h2 h3 h4
 unfold fa at lP
 split at lP
 ·exact Ej (gl:=gl) hc f g lP L n ρ m bl vs xs h1 h2 h3 h4
 ·rename_i l hl
  simp only[Option.some.injEq]at lP
  subst lP
  intro G k hk
  simp only at hk
  split at hk
  ·rename_i q my
   have bW:=List.mem_filter.1 (List.mem_of_find?_eq_some my)
   have um:=Nat.eq_of_beq_eq_true bW.2
   subst um
   exact kM.snd (hq q bW.1) (λ_ _ h=>h) L n ρ m bl vs xs h3 h4 G k hk
  ·split at hk
   ·rename_i a6 gv
    exact Ej (gl:=gl) hc f a6 gv L n ρ m bl vs xs h1 h2 h3 h4 G k hk
   ·exact hk.elim
def idx (c:Int):List UInt8->Int
 |[]=>-1
 |b::r=>if(b.toNat:Int)=c then 0 else if idx c r<0 then-1 else idx c r+1
theorem uT (c:Int):∀l:List UInt8,-1<=idx c l/\idx c l<l.length
 |[]=>by simp[idx]
 |b::r=>by
  have:=uT c r
  simp only[idx,List.length_cons]
  split
  ·omega
  ·split<;>omega
theorem find_range (p:Nat->Bool):∀n:Nat,(List.range (n+1)).find? p=if p 0=true then some 0 else((List.range n).find? λi=>p (i+1)).map (·+1):=λn=>by
 rw[List.range_succ_eq_map,List.find?_cons]
 cases h:p 0 with
 |true=>simp
 |false=>
  simp only[Bool.false_eq_true,if_false]
  rw[List.find?_map];rfl
theorem GW (c:Int):∀l:List UInt8,(match(List.range l.length).find? λi=>decide (((l.getD i 0).toNat:Int)=c)with|some i=>(i:Int)|none=>-1)=idx c l
 |[]=>rfl
 |b::r=>by
  have ih:=GW c r
  rw[List.length_cons,find_range]
  simp only[List.getD_cons_zero,List.getD_cons_succ,decide_eq_true_eq,idx]
  by_cases h:(b.toNat:Int)=c
  ·simp[h]
  ·simp only[if_neg h]
   have hr:=uT c r
   cases hf:(List.range r.length).find? λi=>decide (((r.getD i 0).toNat:Int)=c)with
   |none=>rw[hf]at ih;simp only[Option.map_none]at ih⊢;rw[<-ih];simp
   |some i=>rw[hf]at ih;simp only[Option.map_some]at ih⊢;rw[<-ih,if_neg (by omega)];rfl
theorem find_congr {α:Type} {p q:α->Bool}:∀{l:List α},(∀x∈l,p x=q x)->l.find? p=l.find? q
 |[],_=>rfl
 |x::r,h=>by
  rw[List.find?_cons,List.find?_cons,h x (by simp),find_congr λy hy=>h y (List.mem_cons_of_mem _ hy)]
theorem Sk (l:List UInt8) (c:Int) (h0:0<=c) (h1:c<=255) (w:World):(Extern.BytealgIndexByte.indexByte #[.string (aH l),.int .u8 c]).run P w= .ok (.int .i64 (idx c l)) w:=by
 have hsz:(aH l).size=l.length:=kb l
 have oE:∀i,i<l.length->(aH l)[i]! =l.getD i 0:=λi hi=>by
  have:i<(aH l).size:=by omega
  rw[getElem!_pos (aH l) i this]
  simp only[List.getD,List.getElem?_eq_getElem hi,Option.getD_some]
  rfl
 have e:((List.range (aH l).size).find? λi=>(aH l)[i]! ==c.toNat.toUInt8)=(List.range l.length).find? λi=>decide (((l.getD i 0).toNat:Int)=c):=by
  rw[hsz]
  refine find_congr λi hi=>?_
  have hi:=List.mem_range.1 hi
  rw[oE i hi]
  have hc:c.toNat.toUInt8.toNat=c.toNat:=by simp;omega
  rw[Bool.eq_iff_iff]
  simp only[beq_iff_eq,decide_eq_true_eq]
  rw[<-UInt8.toNat_inj,hc]
  omega
 have hf:=GW c l
 have hd:Extern.BytealgIndexByte.indexByte #[.string (aH l),.int .u8 c]=(match(List.range (aH l).size).find? (λi=>(aH l)[i]! ==c.toNat.toUInt8)with
  |some i=>Pure.pure (goInt i)
  |none=>Pure.pure (goInt (-1)):Sem Value):=rfl
 rw[hd,e,<-hf]
 cases(List.range l.length).find? λi=>decide (((l.getD i 0).toNat:Int)=c)<;>rfl
theorem OR {f:FuncId} {fn:Func} {id:Nat} {wb:World} (hf:P.funcs[f]?=some fn) (AH:(fn.name== "runtime.NumGoroutine")=false) (hb:fn.body.isNone=true) (hn:Extern.findNext fn=none) (he:Extern.find fn=some Extern.BytealgIndexByte.indexByte):
 (⟨f,id,[.str,.int .u8 0 255],[.int .i64 (-1) 9223372036854775807]⟩:cn).ob P wb λzs rs=>rs=[idx (zs.getD 1 0) (J (zs.getD 0 0))]:=by
 intro zs hz
 match zs,hz with
 |[s,c],hz=>
  obtain⟨s1,s2,c1,ax,_⟩:=hz
  have hr:=uT c (J s)
  have hl:(J s).length<=9223372036854775807:=by have:=pg s2;unfold ez at this;omega
  refine⟨[idx c (J s)],(show bb [((-1:Int),9223372036854775807)] _ from⟨by omega,by omega,trivial⟩),rfl,λw _=> .inl ?_⟩
  rw[run_callFunc_extern hf AH hb hn he]
  have:=Sk (P:=P) (J s) c c1 ax w
  show((Extern.BytealgIndexByte.indexByte #[.string (aH (J s)),.int .u8 c]).run P w).andThen _=_
  rw[this];rfl
 |[],h=>exact h.elim
 |[_],h=>exact(h.2.2).elim
 |_::_::_::_,h=>exact(h.2.2.2.2).elim
def cmpL:List UInt8->List UInt8->Int
 |[],[]=>0
 |[],_::_=>-1
 |_::_,[]=>1
 |a::l,b::r=>if a=b then cmpL l r else if a<b then-1 else 1
theorem zn:∀l r:List UInt8,-1<=cmpL l r/\cmpL l r<=1
 |[],[]=>by decide
 |[],_::_=>by unfold cmpL;decide
 |_::_,[]=>by unfold cmpL;decide
 |a::l,b::r=>by
  have:=zn l r
  unfold cmpL
  split
  ·exact this
  ·split<;>decide
theorem Er:∀l r:List UInt8,(cmpL l r=-1↔Op.bytesLess l r=true)/\(cmpL l r=0↔l=r)
 |[],[]=>by simp[cmpL,Op.bytesLess]
 |[],_::_=>by simp[cmpL,Op.bytesLess]
 |_::_,[]=>by simp[cmpL,Op.bytesLess]
 |a::l,b::r=>by
  have ih:=Er l r
  unfold cmpL Op.bytesLess
  by_cases h:a=b
  ·subst h;simp[ih.1,ih.2]
  ·by_cases h2:a<b
   ·simp[h,h2]
   ·have:b<a:=by
     rcases Nat.lt_trichotomy a.toNat b.toNat with h3|h3|h3
     ·exact absurd (UInt8.lt_iff_toNat_lt.2 h3) h2
     ·exact absurd (UInt8.toNat_inj.1 h3) h
     ·exact UInt8.lt_iff_toNat_lt.2 h3
    simp[h,h2,this]
theorem LN (p:Nat->Bool) (n:Nat):(List.range (n+1)).find? p=if p 0=true then some 0 else((List.range n).find? λi=>p (i+1)).map (·+1):=by
 rw[List.range_succ_eq_map,List.find?_cons]
 cases h:p 0 with
 |true=>simp
 |false=>simp[List.find?_map];rfl
theorem Es:∀l r:List UInt8,(match(List.range (min l.length r.length)).find? λi=>l.getD i 0 != r.getD i 0 with
 |some i=>if l.getD i 0<r.getD i 0 then(-1:Int)else 1
 |none=>if l.length<r.length then-1 else if l.length>r.length then 1 else 0)=cmpL l r
 |[],[]=>by simp[cmpL]
 |[],_::_=>by simp[cmpL]
 |_::_,[]=>by simp[cmpL]
 |a::l,b::r=>by
  have ih:=Es l r
  have e:min (a::l).length (b::r).length=min l.length r.length+1:=by simp only[List.length_cons];omega
  rw[e,LN]
  unfold cmpL
  by_cases h:a=b
  ·subst h
   simp only[List.getD_cons_zero,bne_self_eq_false,Bool.false_eq_true,if_false,List.getD_cons_succ,if_true]
   rw[<-ih]
   cases(List.range (min l.length r.length)).find? λi=>l.getD i 0 != r.getD i 0 with
   |none=>simp
   |some i=>simp
  ·simp[h]
theorem Si (l r:List UInt8) (w:World):(Extern.BytealgCompare.compare #[.string (aH l),.string (aH r)]).run P w= .ok (.int .i64 (cmpL l r)) w:=by
 have hg:∀(x:List UInt8) (i:Nat),i<x.length->(aH x)[i]! =x.getD i 0:=λx i hi=>by
  have:i<(aH x).size:=by rw[kb];exact hi
  rw[getElem!_pos (aH x) i this]
  simp only[List.getD,List.getElem?_eq_getElem hi,Option.getD_some]
  rfl
 have e:Extern.BytealgCompare.cmp (aH l) (aH r)=cmpL l r:=by
  rw[<-Es]
  unfold Extern.BytealgCompare.cmp
  rw[kb,kb]
  have hf:((List.range (min l.length r.length)).find? λi=>(aH l)[i]! != (aH r)[i]!)=(List.range (min l.length r.length)).find? λi=>l.getD i 0 != r.getD i 0:=find_congr λi hi=>by
   have hi:=List.mem_range.1 hi
   rw[hg l i (by omega),hg r i (by omega)]
  rw[hf]
  cases ad:(List.range (min l.length r.length)).find? λi=>l.getD i 0 != r.getD i 0 with
  |none=>rfl
  |some i=>
   have hi:=List.mem_range.1 (List.mem_of_find?_eq_some ad)
   simp only[hg l i (by omega),hg r i (by omega)]
 have hd:Extern.BytealgCompare.compare #[.string (aH l),.string (aH r)]=(Pure.pure (goInt (Extern.BytealgCompare.cmp (aH l) (aH r))):Sem Value):=rfl
 rw[hd,e];rfl
theorem K6 {f:FuncId} {fn:Func} {id:Nat} {wb:World} (hf:P.funcs[f]?=some fn) (AH:(fn.name== "runtime.NumGoroutine")=false) (hb:fn.body.isNone=true) (hn:Extern.findNext fn=none) (he:Extern.find fn=some Extern.BytealgCompare.compare):
 (⟨f,id,[.str,.str],[.int .i64 (-1) 1]⟩:cn).ob P wb λzs rs=>rs=[cmpL (J (zs.getD 0 0)) (J (zs.getD 1 0))]:=by
 intro zs hz
 match zs,hz with
 |[s,c],hz=>
  have hr:=zn (J s) (J c)
  refine⟨[cmpL (J s) (J c)],(show bb [((-1:Int),1)] _ from⟨hr.1,hr.2,trivial⟩),rfl,λw _=> .inl ?_⟩
  rw[run_callFunc_extern hf AH hb hn he]
  have:=Si (P:=P) (J s) (J c) w
  show((Extern.BytealgCompare.compare #[.string (aH (J s)),.string (aH (J c))]).run P w).andThen _=_
  rw[this];rfl
 |[],h=>exact h.elim
 |[_],h=>exact(h.2.2).elim
 |_::_::_::_,h=>exact(h.2.2.2.2).elim
end
end Go.aZ
namespace Go.aZ
section
variable {S:Nat->List Int->List Int->Prop} {P:Program} {gl:cN} {wb:World}
def hJ (args res:List D) (spec:List Int->List Int->Prop):Prop:=∀zs rs kE,bb (cW args) zs->bb (cW res) rs->bb (cW res) kE->spec zs rs->spec zs kE->fO res rs=fO res kE
theorem cn.Qw {c:cn} {aN:dx} {li:FuncId->Nat->Option di} {rounds d:Nat} {spec:List Int->List Int->Prop} (hm:P.follows .mixedOrders=true) (bX:∀r ex ro,fB S P gl ⟨wb,r,ex,ro,[]⟩ aN) (hg:eC gl ⟨wb,wb,λ_=>False,λ_=>False,[]⟩)
 (hf:∀args w,(callFunc c.f args).run P w= .ok (.enter c.f args) w) (hu:hJ c.args c.res spec)
 (ht:ml (cW c.args) λzs=>(c.tree P gl aN li rounds d).holds S (pn c.res λrs=>bb (cW c.res) rs/\spec zs rs) (λ_ _=>False) (bm (λ_=>0) 0 zs)):c.Ok P wb spec:=by
 refine⟨hf,λzs hz=>?_⟩
 have h0:=cn.calls hm bX hg hz (na ht hz) wb (World.Extends.refl wb)
 obtain⟨e,w',v,aa,m,val,h1,h2,h3,h4⟩:=Calls.some h0
 obtain⟨rs,⟨hb,hs⟩,hv⟩:=DJ h3 h2
 refine⟨rs,hb,hs,λw hw=>?_⟩
 refine(cn.calls hm bX hg hz (na ht hz) w hw).mono λe w' ⟨v,aa,m,val,h1,h2,h3,h4⟩=>?_
 obtain⟨kE,⟨hb',Oe⟩,hv'⟩:=DJ h3 h2
 rw[hu zs kE rs hz hb' hb Oe hs]at hv'
 exact⟨by rw[h1,hv'],h4⟩
end
theorem CE {α:Type}:∀(gB:List Nat) (l:List α),(dU gB l).flatten=l
 |[],[]=>rfl
 |[],_::_=>by simp[dU]
 |k::gB,l=>by simp only[dU,List.flatten_cons,CE gB,List.take_append_drop]
section
variable {P:Program} {gl:cN} {wb:World} {sh:Nat->List Nat×List Nat} {SB:Nat->List (List Int)->List (List Int)->Prop}
def cI (SB:Nat->List (List Int)->List (List Int)->Prop) (res:List D) (id:Nat):List (List Int)->List (List Int)->Prop:=λzs rs=>bb (cW res) rs.flatten/\SB id zs rs
theorem T4 {cS:Nat->List Nat} {id:Nat} {lens:List Nat} {bds:List (Int×Int)} {ds:List D} {t:T} (hl:lens=(sh id).1) (hd:oS ds=(sh id).2) (h:tl sh cS SB (cI SB ds id) lens bds ds t):
 ml bds λzs=>t.holds (dn sh SB) (pn ds λrs=>bb (cW ds) rs/\dn sh SB id zs rs) (λ_ _=>False) (bm (λ_=>0) 0 zs):=by
 refine pt λzs hz=>?_
 have h:=na (Kf h) hz
 simp only[cI,CE]at h
 rw[hl,hd]at h
 exact h
theorem Q1 {c:cn} {aN:dx} {li:FuncId->Nat->Option di} {rounds d:Nat} {cS:Nat->List Nat} {lens:List Nat} (hm:P.follows .mixedOrders=true) (bX:∀r ex ro,fB (dn sh SB) P gl ⟨wb,r,ex,ro,[]⟩ aN) (hg:eC gl ⟨wb,wb,λ_=>False,λ_=>False,[]⟩)
 (hf:rN P c.f=true) (hu:hJ c.args c.res (dn sh SB c.id)) (hl:lens=(sh c.id).1) (hd:oS c.res=(sh c.id).2)
 (hv:tl sh cS SB (cI SB c.res c.id) lens (cW c.args) c.res (c.tree P gl aN li rounds d)):c.Ok P wb (dn sh SB c.id):=
 cn.Qw hm bX hg (enters hf) hu (T4 hl hd hv)
end
end Go.aZ
namespace Go.aZ
open Go.ChangeShapes Go.WideShapes Go.RowKit
variable {H:Type} {enc:TypeId×Value->H} {P:Program}
def sZ (g:TypeId->Option (List ah)) (cells:TypeId->Nat):List Field->Nat->Option (List ah)
 |[],_=>some []
 |f::r,o=>match g f.type,sZ g cells r (o+cells f.type)with
  |some l,some m=>cond (Nat.beq f.offset o&&Nat.beq (cells f.type) l.length) (some (l++m)) none
  |_,_=>none
def CM (l:List ah):Option (List ah):=cond (gj l (eQ 0)) (some [.sub 0]) (cond (gj l (eQ 1)) (some [.sub 1]) none)
theorem S7 {l sh:List ah} (h:CM l=some sh):∃k,l=eQ k/\sh=[.sub k]:=by
 unfold CM at h
 cases h0:gj l (eQ 0)with
 |true=>
  rw[h0]at h
  simp only[cond_true,Option.some.injEq]at h
  exact⟨0,l9 h0,h.symm⟩
 |false=>
  cases h1:gj l (eQ 1)with
  |true=>
   rw[h0,h1]at h
   simp only[cond_true,cond_false,Option.some.injEq]at h
   exact⟨1,l9 h1,h.symm⟩
  |false=>rw[h0,h1]at h;cases h
def ma (P:Program):Nat->TypeId->Option (List ah)
 |0,_=>none
 |d+1,t=>match P.underlying t with
  |some (.int k)=>some [.int k k.min k.max]
  |some .string=>some [.str]
  |some .bool=>some [.bool]
  |some (.struct bV)=>sZ (ma P d) P.cellsOf bV.toList 0
  |some (.array n e)=>match ma P d e with
   |some l=>cond (Nat.beq (P.cellsOf e) l.length) (some (List.replicate n l).flatten) none
   |none=>none
  |some (.slice e)=>match ma P d e with
   |some l=>cond (Nat.beq (P.cellsOf e) l.length&&Nat.blt 0 (P.bytesOf e)) (CM l) none
   |none=>none
  |_=>none
theorem aS.append:∀{a b:List ah} {x y:List Int},aS a x->aS b y->aS (a++b) (x++y)/\bL (a++b) (x++y)=bL a x++bL b y
 |[],_,[],_,_,h=>⟨h,rfl⟩
 |_::_,_,_::_,_,h,h'=>by
  have:=aS.append h.2 h'
  exact⟨⟨h.1,this.1⟩,by simp only[List.cons_append,bL,this.2]⟩
 |[],_,_::_,_,h,_=>h.elim
 |_::_,_,[],_,h,_=>h.elim
theorem Ch {F:Nat->Prop} {w:World}:∀{a b:List ah} {x y:List Int} {u v:List Value},cU F w a x u->cU F w b y v->cU F w (a++b) (x++y) (u++v)
 |[],_,[],_,[],_,_,h=>h
 |_::_,_,_::_,_,_::_,_,h,h'=>⟨h.1,Ch h.2 h'⟩
 |[],_,_::_,_,_,_,h,_=>h.elim
 |[],_,[],_,_::_,_,h,_=>h.elim
 |_::_,_,[],_,_,_,h,_=>h.elim
 |_::_,_,_::_,_,[],_,h,_=>h.elim
def vK (enc:TypeId×Value->H) (P:Program) (w:World) (t:TypeId) (sh:List ah):Prop:=
 ∀(n:Nat) (cs:List Value) (x:DataW H×List MemPlace),DataW.trod enc P w 0 (λ_=>true) true n t cs=some x->cs.length=sh.length->(∀m∈x.1.weights P t,m<=reachBytes)->
  ∃zs,aS sh zs/\cU (λg=>g<w.heap.size) w sh zs cs
theorem HX {n:Nat} {w:World} {g:TypeId->Option (List ah)} (hg:∀t sh,g t=some sh->vK enc P w t sh) {cs:List Value}:∀(bV:List Field) (o:Nat) (sh:List ah) (xs:List (DataW H×List MemPlace)),sZ g P.cellsOf bV o=some sh->cs.length=o+sh.length->xs.length=bV.length->
 (∀(j:Nat) (f:Field),bV[j]?=some f->DataW.trod enc P w 0 (λ_=>true) true n f.type ((cs.drop f.offset).take (P.cellsOf f.type))=xs[j]?)->
 (∀m∈DataW.weightsEach P (bV.map (·.type)) (xs.map (·.1)),m<=reachBytes)->
 ∃zs,aS sh zs/\cU (λg=>g<w.heap.size) w sh zs (cs.drop o)
 |[],o,sh,xs,h,hl,hx,_,_=>by
  simp only[sZ,Option.some.injEq]at h
  subst h
  have:xs=[]:=List.length_eq_zero_iff.1 (by simpa using hx)
  subst this
  exact⟨[],trivial,by rw[List.drop_of_length_le (by simp at hl;omega)];trivial⟩
 |f::bV,o,sh,[],_,_,hx,_,_=>by simp at hx
 |f::bV,o,sh,x::xs,h,hl,hx,hf,hw=>by
  unfold sZ at h
  cases h1:g f.type with
  |none=>simp[h1]at h
  |some l=>
   cases h2:sZ g P.cellsOf bV (o+P.cellsOf f.type)with
   |none=>simp[h1,h2]at h
   |some m=>
    simp only[h1,h2]at h
    cases hc:(Nat.beq f.offset o&&Nat.beq (P.cellsOf f.type) l.length)with
    |false=>simp[hc]at h
    |true=>
     simp only[hc,cond_true,Option.some.injEq]at h
     subst h
     simp only[Bool.and_eq_true]at hc
     have e1:=Nat.eq_of_beq_eq_true hc.1
     have e2:=Nat.eq_of_beq_eq_true hc.2
     have h0:=hf 0 f rfl
     simp only[List.getElem?_cons_zero]at h0
     simp only[List.map_cons,DataW.weightsEach,List.mem_append]at hw
     simp only[List.length_append]at hl
     obtain⟨zs,a1,a2⟩:=hg f.type l h1 n ((cs.drop f.offset).take (P.cellsOf f.type)) x h0 (by rw[List.length_take,List.length_drop,e1,e2];omega) λm' hm=>hw m' (.inl hm)
     obtain⟨dv,b1,b2⟩:=HX (cs:=cs) hg bV (o+P.cellsOf f.type) m xs h2 (by omega) (by simpa using hx) (λj kU hj=>by simpa using hf (j+1) kU (by simpa using hj)) λm' hm=>hw m' (.inr hm)
     have fb:=aS.append a1 b1
     refine⟨zs++dv,fb.1,?_⟩
     have:=Ch a2 b2
     rwa [e1,<-List.drop_drop,List.take_append_drop]at this
theorem HW {n:Nat} {w:World} {e:TypeId} {l:List ah} (hg:vK enc P w e l) (hc:P.cellsOf e=l.length) {cs:List Value}:∀(k i:Nat) (xs:List (DataW H×List MemPlace)),cs.length=(i+k)*l.length->xs.length=k->
 (∀j,j<k->DataW.trod enc P w 0 (λ_=>true) true n e ((cs.drop ((i+j)*P.cellsOf e)).take (P.cellsOf e))=xs[j]?)->
 (∀m∈DataW.weightsAll P e (xs.map (·.1)),m<=reachBytes)->
 ∃zs,aS (List.replicate k l).flatten zs/\cU (λg=>g<w.heap.size) w (List.replicate k l).flatten zs (cs.drop (i*l.length))
 |0,i,xs,hl,hx,_,_=>by
  have:xs=[]:=List.length_eq_zero_iff.1 hx
  subst this
  exact⟨[],trivial,by rw[List.drop_of_length_le (by rw[hl];exact Nat.le_refl _)];trivial⟩
 |k+1,i,[],_,hx,_,_=>by simp at hx
 |k+1,i,x::xs,hl,hx,hf,hw=>by
  have h0:=hf 0 (Nat.succ_pos k)
  simp only[List.getElem?_cons_zero,Nat.add_zero]at h0
  simp only[List.map_cons,DataW.weightsAll,List.mem_append]at hw
  have hl2:cs.length=i*l.length+(l.length+k*l.length):=by rw[hl,Nat.add_mul,Nat.succ_mul];omega
  obtain⟨zs,a1,a2⟩:=hg n _ x h0 (by rw[List.length_take,List.length_drop,hc];omega) λm' hm=>hw m' (.inl hm)
  obtain⟨dv,b1,b2⟩:=HW hg hc k (i+1) xs (by rw[hl];congr 1;omega) (by simpa using hx) (λj hj=>by
   have:=hf (j+1) (by omega)
   rw[show i+(j+1)=i+1+j by omega]at this
   simpa using this) λm' hm=>hw m' (.inr hm)
  have fb:=aS.append a1 b1
  refine⟨zs++dv,by rw[List.replicate_succ,List.flatten_cons];exact fb.1,?_⟩
  have:=Ch a2 b2
  rw[hc,Nat.succ_mul,<-List.drop_drop,List.take_append_drop]at this
  rw[List.replicate_succ,List.flatten_cons];exact this
theorem En {base:Nat} {w:World} {a:Addr} {n:Nat} {cs:List Value} (h:w.cells? base a n=some cs):cs.length=n/\∀j,j<n->w.cell? (a.add j)=cs[j]?:=by
 unfold World.cells? at h
 split at h
 ·have hl:=List.Hq h
  refine⟨by simpa using hl,λj hj=>?_⟩
  have:=List.Fp h j j (by simp[hj])
  exact this
 ·cases h
where
 List.Hq {α β:Type} {f:α->Option β}:∀{l:List α} {r:List β},l.mapM f=some r->r.length=l.length
  |[],r,h=>by simp at h;subst h;rfl
  |x::l,r,h=>by
   rw[List.mapM_cons]at h
   cases hx:f x with
   |none=>simp[hx]at h
   |some y=>
    cases hl:l.mapM f with
    |none=>simp[hx,hl]at h
    |some s=>
     simp[hx,hl]at h
     subst h
     simp[List.Hq hl]
 List.Fp {α β:Type} {f:α->Option β}:∀{l:List α} {r:List β},l.mapM f=some r->∀(j:Nat) (x:α),l[j]?=some x->f x=r[j]?
  |[],r,h,j,x,hx=>by simp at hx
  |y::l,r,h,j,x,hx=>by
   rw[List.mapM_cons]at h
   cases hy:f y with
   |none=>simp[hy]at h
   |some z=>
    cases hl:l.mapM f with
    |none=>simp[hy,hl]at h
    |some s=>
     simp[hy,hl]at h
     subst h
     cases j with
     |zero=>simp at hx;subst hx;simp[hy]
     |succ j=>simpa using List.Fp hl j x (by simpa using hx)
theorem IM {F:Nat->Prop} {w:World} {cells:Array Value} {sh:List ah}:∀(len o:Nat),o<=cells.size->(∀i,i<len->∃zs vs,aS sh zs/\cU F w sh zs vs/\∀j,j<sh.length->cells[o+i*sh.length+j]?=vs[j]?)->(0<len->0<sh.length)->
 ∃rows:List (List Int),rows.length=len/\e7 F w cells o sh rows
 |0,o,ho,_,_=>⟨[],rfl,λ_ h=>by simp at h,cells.toList.take o,[],cells.toList.drop o,by simp,by simp;omega,rfl⟩
 |len+1,o,ho,h,hp=>by
  obtain⟨zs,us,a1,a0,a2⟩:=h 0 (Nat.succ_pos _)
  have hp:=hp (Nat.succ_pos _)
  have hv:=a0.len
  have NG:=a2 (sh.length-1) (by omega)
  have hsz:o+sh.length<=cells.size:=by
   have:us[sh.length-1]?≠none:=by rw[List.getElem?_eq_getElem (by omega)];simp
   rw[<-NG]at this
   have:=Array.LZ.1 this
   omega
  obtain⟨rows,b1,b2,pre,vs,post,b3,b4,pz⟩:=IM len (o+sh.length) hsz (λi hi=>by
   obtain⟨dv,vs,c1,bK,ax⟩:=h (i+1) (by omega)
   refine⟨dv,vs,c1,bK,λj hj=>?_⟩
   rw[<-ax j hj]
   congr 1
   rw[Nat.succ_mul];omega) λ_=>hp
  refine⟨zs::rows,by simp[b1],λrow hr=>?_,cells.toList.take o,us++vs,post,?_,by simp;omega,us,vs,rfl,a0,pz⟩
  ·rcases List.mem_cons.1 hr with rfl|hr
   ·exact a1
   ·exact b2 row hr
  ·have e1:pre=cells.toList.take (o+sh.length):=by
    rw[b3,List.append_assoc,List.take_left' b4]
   have e2:pre=cells.toList.take o++us:=by
    rw[e1,List.take_add]
    congr 1
    refine List.ext_getElem? λj=>?_
    by_cases hj:j<sh.length
    ·have:=a2 j hj
     rw[List.getElem?_take,if_pos hj,List.getElem?_drop,<-this]
     simp
    ·rw[List.getElem?_eq_none (by simp;omega),List.getElem?_eq_none (by omega)]
   rw[<-List.append_assoc,<-e2];exact b3
where
 Array.LZ {α:Type} {a:Array α} {i:Nat}:a[i]?≠none↔i<a.size:=by simp
theorem HD {e:TypeId}:∀{l:List (DataW H×List MemPlace)} {i:Nat} {y:DataW H×List MemPlace} {m:Nat},l[i]?=some y->m∈y.1.weights P e->m∈DataW.weightsAll P e (l.map (·.1))
 |x::l,0,y,m,h,hm=>by
  simp only[List.getElem?_cons_zero,Option.some.injEq]at h
  subst h
  simp only[List.map_cons,DataW.weightsAll,List.mem_append]
  exact .inl hm
 |x::l,i+1,y,m,h,hm=>by
  simp only[List.map_cons,DataW.weightsAll,List.mem_append]
  exact .inr (HD (by simpa using h) hm)
 |[],_,_,_,h,_=>by simp at h
theorem HY {w:World} {t e:TypeId} {sh:List ah} (ho:vK enc P w e sh) (ht:P.underlying t=some (.slice e)) (hc:P.cellsOf e=sh.length) (hp:0<sh.length) {n:Nat} {cs:List Value} {x:DataW H×List MemPlace} (h:DataW.trod enc P w 0 (λ_=>true) true n t cs=some x) (hw:∀m∈x.1.weights P t,m<=reachBytes):
 ∃(v:Value) (rows:List (List Int)),cs=[v]/\(∀row∈rows,aS sh row)/\(rows.length<=maxLen/\(0<P.bytesOf e->rows.length<=140737488351232))/\(((∃p,v= .slice p 0 0)/\rows=[])∨∃(g o cap:Nat) (cells:Array Value) (t:TypeId) (fz:Nat×Nat),v= .slice (some ⟨g,o,none⟩) rows.length cap/\(rows.length<=cap/\(cap:Int)<=9223372036854775807)/\g<w.heap.size/\w.heap[g]?=some (.cells cells t fz)/\e7 (λg=>g<w.heap.size) w cells o sh rows):=by
 rcases DataW.trod_slice ht h with⟨rfl,_⟩|⟨vS,len,cap,elems,rest,n,rfl,rfl,hx,_,NH,lL,w6,F9,k0,_⟩
 ·exact⟨_,[],rfl,λ_ h=>by simp at h,⟨Nat.zero_le _,λ_=>Nat.zero_le _⟩,.inl ⟨⟨_,rfl⟩,rfl⟩⟩
 ·rcases Nat.eq_zero_or_pos cap with h0|h0
  ·subst h0
   have:len=0:=by omega
   subst this
   exact⟨_,[],rfl,λ_ h=>by simp at h,⟨Nat.zero_le _,λ_=>Nat.zero_le _⟩,.inl ⟨⟨_,rfl⟩,rfl⟩⟩
  ·have k0:=(k0 rfl).2
   have An:∃cs,w.cells? 0 (vS.add 0) (P.cellsOf e)=some cs:=by
    rcases Nat.eq_zero_or_pos len with hl|hl
    ·have h1:=(DataW.trod_slice ht h)
     have h2:=k0 0 (by omega)
     cases hy:rest[0]? with
     |none=>
      exfalso
      rcases h1 with⟨h1,_⟩|⟨Ut,gU,cj,UB,Vl,n',_,h3,h4,_,_,_,h5,_,h6,_⟩
      ·simp at h1
      ·simp only[List.cons.injEq,Value.slice.injEq,Option.some.injEq,and_true]at h3
       rw[hx]at h4
       simp only[Prod.mk.injEq,DataW.slice.injEq]at h4
       have h7:=congrArg List.length h4.1.2
       simp only[List.length_map]at h7
       have cJ:=(h6 rfl).1
       rw[List.getElem?_eq_none_iff]at hy
       omega
     |some y=>
      rw[hy,Option.bind_eq_some_iff,hl]at h2
      obtain⟨cs,g1,_⟩:=h2
      exact⟨cs,by simpa using g1⟩
    ·have h2:=F9 0 hl
     cases hy:elems[0]? with
     |none=>rw[List.getElem?_eq_none_iff]at hy;omega
     |some y=>
      rw[hy,Option.bind_eq_some_iff]at h2
      obtain⟨cs,g1,_⟩:=h2
      exact⟨cs,by simpa using g1⟩
   obtain⟨Lg,An⟩:=An
   obtain⟨l1,l2⟩:=En An
   have hc0:=l2 0 (by omega)
   have hc1:Lg[0]?≠none:=by rw[List.getElem?_eq_getElem (by omega)];simp
   rw[<-hc0]at hc1
   have MC:(vS.add 0).add 0=vS:=by simp[Addr.add]
   rw[MC]at hc1
   obtain⟨g,o,sp⟩:=vS
   unfold World.cell? at hc1
   split at hc1
   ·rename_i cells tt fz mB
    simp only at mB
    cases GH:sp with
    |some k=>rw[GH]at hc1;exact absurd rfl hc1
    |none=>
    subst GH
    simp only[Option.isSome_none,Bool.false_eq_true,if_false]at hc1
    have ia:o<cells.size:=by
     rcases Nat.lt_or_ge o cells.size with h|h
     ·exact h
     ·exact absurd (Array.getElem?_eq_none h) hc1
    rw[hx]at hw
    simp only[DataW.weights,ht,List.mem_cons,List.mem_append]at hw
    obtain⟨rows,r1,r2⟩:=IM (F:=λg=>g<w.heap.size) (w:=w) (cells:=cells) (sh:=sh) len o (by omega) (λi hi=>by
     have:=F9 i hi
     cases hy:elems[i]? with
     |none=>rw[List.getElem?_eq_none_iff]at hy;omega
     |some y=>
      rw[hy,Option.bind_eq_some_iff]at this
      obtain⟨cs,g1,g2⟩:=this
      obtain⟨l1,l2⟩:=En g1
      obtain⟨zs,ao,z2⟩:=ho n cs y g2 (by rw[l1,hc]) λm hm=>by
       refine hw m (.inr (.inl ?_))
       exact HD hy hm
      refine⟨zs,cs,ao,z2,λj hj=>?_⟩
      have:=l2 j (by rw[hc];exact hj)
      rw[dX,dX]at this
      simp only[World.cell?,mB,Option.isSome_none,Bool.false_eq_true,if_false]at this
      rw[<-this,hc]) λ_=>hp
    have bp:(cap:Int)<=9223372036854775807:=by unfold maxLen at lL;omega
    have A2:(elems.length+rest.length)*P.bytesOf e<=reachBytes:=hw _ (.inl (by simp))
    refine⟨_,rows,rfl,r2.1,⟨by omega,λhb=>?_⟩,.inr ⟨g,o,cap,cells,tt,fz,by rw[r1],by rw[r1];exact⟨NH,bp⟩,(Array.getElem?_eq_some_iff.1 mB).1,mB,r2⟩⟩
    have cJ:(elems.length+rest.length)*1<=(elems.length+rest.length)*P.bytesOf e:=Nat.mul_le_mul_left _ hb
    unfold reachBytes at A2
    omega
   ·exact absurd rfl hc1
theorem xU {w:World}:∀(d:Nat) (t:TypeId) (sh:List ah),ma P d t=some sh->vK enc P w t sh
 |0,t,sh,h=>by simp[ma]at h
 |d+1,t,sh,h=>by
  have ih:=xU (w:=w) d
  intro n cs x hx hl hw
  unfold ma at h
  split at h
  ·rename_i k hu
   simp only[Option.some.injEq]at h
   subst h
   obtain⟨z,rfl,rfl,A1⟩:=DataW.trod_int hu hx
   have:=JC.1 A1
   exact⟨[z],⟨this,trivial⟩,rfl,trivial⟩
  ·rename_i hu
   simp only[Option.some.injEq]at h
   subst h
   obtain⟨s,rfl,rfl,hs⟩:=DataW.trod_string hu hx
   have hb:s.data.toList.length<=ez:=hw _ (by simp[DataW.weights])
   refine⟨[dF s.data.toList],⟨⟨kQ _,j6 hb⟩,trivial⟩,?_,trivial⟩
   show _=ah.val .str _
   simp[ah.val,gD,aH]
  ·rename_i hu
   simp only[Option.some.injEq]at h
   subst h
   obtain⟨b,rfl,rfl⟩:=DataW.trod_bool hu hx
   refine⟨[cond b 1 0],⟨?_,trivial⟩,?_,trivial⟩
   ·cases b<;>simp[ah.cx]
   ·show _=ah.val .bool _
    cases b<;>simp[ah.val]
  ·rename_i bV hu
   obtain⟨xs,m,rfl,rfl,hlen,hn,w6⟩:=DataW.trod_struct hu hx
   simp only[DataW.weights,hu]at hw
   obtain⟨zs,a1,a2⟩:=HX (n:=m) ih bV.toList 0 sh xs h (by omega) (by rw[hn];simp) (λj f hj=>w6 j f (by simpa using hj)) hw
   exact⟨zs,a1,by simpa using a2⟩
  ·rename_i k e hu
   cases h1:ma P d e with
   |none=>simp[h1]at h
   |some l=>
    simp only[h1]at h
    cases hc:Nat.beq (P.cellsOf e) l.length with
    |false=>simp[hc]at h
    |true=>
     simp only[hc,cond_true,Option.some.injEq]at h
     subst h
     have hc:=Nat.eq_of_beq_eq_true hc
     obtain⟨xs,m,rfl,rfl,hlen,hn,w6⟩:=DataW.trod_array hu hx
     simp only[DataW.weights,hu]at hw
     have ev:(List.replicate k l).flatten.length=k*l.length:=by simp
     obtain⟨zs,a1,a2⟩:=HW (n:=m) (ih e l h1) hc k 0 xs (by rw[hl,ev];simp) hn (λj hj=>by
      have:=w6 j hj
      simpa using this) hw
     exact⟨zs,a1,by simpa using a2⟩
  ·rename_i e hu
   cases h1:ma P d e with
   |none=>simp[h1]at h
   |some l=>
    simp only[h1]at h
    cases hc:(Nat.beq (P.cellsOf e) l.length&&Nat.blt 0 (P.bytesOf e))with
    |false=>rw[hc]at h;cases h
    |true=>
     rw[hc]at h
     simp only[cond_true]at h
     simp only[Bool.and_eq_true,Nat.blt_eq]at hc
     obtain⟨k,rfl,rfl⟩:=S7 h
     obtain⟨v,rows,rfl,r1,⟨r2,RS⟩,dP⟩:=HY (ih e _ h1) hu (Nat.eq_of_beq_eq_true hc.1) (by cases k<;>exact Nat.one_pos) hx hw
     have GA:(rows.length:Int)<=9223372036854775807:=by unfold maxLen at r2;omega
     refine⟨[rc rows],⟨⟨cL _,yP GA r1⟩,trivial⟩,?_,trivial⟩
     show jc _ _ _ (ab (rc rows)) v
     rw[dD]
     rcases dP with dP|⟨g,o,cap,cells,t,fz,q1,q2,q3,q4,q5⟩
     ·exact .inl dP
     ·exact .inr ⟨g,o,cap,cells,t,fz,q1,⟨q2.1,q2.2,RS hc.2⟩,q3,q4,(iq (CN k)).1 q5⟩
  ·cases h
def td (P:Program) (t:TypeId):bj->Prop
 | .d (.int k lo hi)=>P.underlying t=some (.int k)/\lo=k.min/\hi=k.max
 | .d .bool=>P.underlying t=some .bool
 | .d .str=>P.underlying t=some .string
 | .d (.agg k n lo hi)=>∃e,P.underlying t=some (.array n e)/\ma P 8 t=some (List.replicate n (.int k lo hi))/\P.cellsOf t=n
 | .d (.mix l)=>((∃bV,P.underlying t=some (.struct bV))∨∃n e,P.underlying t=some (.array n e))/\ma P 8 t=some l/\P.cellsOf t=l.length/\eP l=true
 | .d (.ic _)=>False
 | .d (.lZ ..)=>False
 | .rd sh=>∃e,P.underlying t=some (.slice e)/\ma P 8 e=some sh/\P.cellsOf e=sh.length/\ft sh=true
 | .gX _ _=>False
theorem aS.bb:∀{sh:List ah} {zs:List Int},aS sh zs->bb (sh.map ah.cx) zs
 |[],[],_=>trivial
 |_::_,_::_,h=>⟨h.1.1,h.1.2,aS.bb h.2⟩
 |[],_::_,h=>h.elim
 |_::_,[],h=>h.elim
theorem II:∀(sh:List ah) (zs:List Int),bL sh zs=List.zipWith ah.val sh zs
 |[],_=>by simp[bL]
 |_::_,[]=>by simp[bL]
 |c::sh,z::zs=>by simp only[bL,List.zipWith_cons_cons,II sh zs]
theorem IH (k:IntKind) (lo hi:Int):∀(n:Nat) (zs:List Int),zs.length=n->bL (List.replicate n (.int k lo hi)) zs=zs.map (Value.int k)
 |0,[],_=>rfl
 |n+1,z::zs,h=>by
  rw[List.replicate_succ]
  simp only[bL,List.map_cons,IH k lo hi n zs (by simpa using h)]
  rfl
 |0,_::_,h=>by simp at h
 |n+1,[],h=>by simp at h
theorem HB (k:IntKind) (lo hi:Int):∀n:Nat,(List.replicate n (ah.int k lo hi)).map ah.cx=mR lo hi n
 |0=>rfl
 |n+1=>by rw[List.replicate_succ,List.map_cons,HB k lo hi n];rfl
theorem Q7 {b0:Nat} {w:World} {t:TypeId} {b:bj} {v:Value} {x:DataW H} {iF:List MemPlace} (ht:td P t b) (hval:Value.okWide P w .any b0 t v) (hd:DataW.Trod enc P w 0 (λ_=>true) true t v x iF) (hw:∀m∈x.weights P t,m<=reachBytes):
 ∃zs,bb b.bds zs/\zs.length=b.num/\b.at (λg=>g<w.heap.size) (λ_=>False) w zs v:=by
 obtain⟨fuel,hf⟩:=hd
 have agg:((∃bV,P.underlying t=some (.struct bV))∨∃n e,P.underlying t=some (.array n e))->∃cs,v= .agg cs/\cs.size=P.cellsOf t:=λh=>by
  unfold Value.okWide at hval
  rcases h with⟨bV,h⟩|⟨n,e,h⟩
  ·rw[h]at hval;obtain⟨cs,a,b,_⟩:=hval;exact⟨cs,a,b⟩
  ·rw[h]at hval;obtain⟨cs,a,b,_⟩:=hval;exact⟨cs,a,b⟩
 cases b with
 |gX _ _=>exact ht.elim
 |d y=>
  cases y with
  |ic l=>exact ht.elim
  |lZ k c=>exact ht.elim
  |int k lo hi=>
   obtain⟨h1,rfl,rfl⟩:=ht
   obtain⟨n,rfl⟩:=okWide_int h1 hval
   obtain⟨n',h,hx,A1⟩:=DataW.trod_int h1 hf
   simp[Value.cells]at h
   subst h
   have:=JC.1 A1
   exact⟨[n],⟨this.1,this.2,trivial⟩,rfl,rfl⟩
  |bool=>
   obtain⟨c,rfl⟩:=okWide_bool ht hval
   refine⟨[cond c 1 0],?_,rfl,?_⟩
   ·cases c<;>simp[bj.bds,D.bds,bb]
   ·cases c<;>simp[bj.at,D.val]
  |str=>
   obtain⟨s,rfl⟩:=okWide_string ht hval
   obtain⟨Sr,h,hx,hs⟩:=DataW.trod_string ht hf
   simp[Value.cells]at h
   subst h
   simp only[Prod.mk.injEq]at hx
   have hb:s.data.toList.length<=ez:=hw _ (by rw[hx.1];simp[DataW.weights])
   exact⟨[dF s.data.toList],⟨kQ _,j6 hb,trivial⟩,rfl,by simp[bj.at,D.val,gD,aH]⟩
  |agg k n lo hi=>
   obtain⟨e,h1,h2,h3⟩:=ht
   obtain⟨cs,rfl,hsz⟩:=agg (.inr ⟨n,e,h1⟩)
   obtain⟨zs,a1,a2⟩:=xU 8 t _ h2 fuel _ _ hf (by show cs.toList.length=_;simp[hsz,h3]) hw
   have a2:=(vp (by simp[eP,ah.plain]) a1).1 a2
   have hl:zs.length=n:=by have:=a1.len;simpa using this
   have hcs:cs=(bL (List.replicate n (.int k lo hi)) zs).toArray:=by rw[<-a2];simp[Value.cells]
   refine⟨zs,?_,hl,?_⟩
   ·have:=a1.bb;rw[HB]at this;exact this
   ·show Value.agg cs=_
    rw[hcs,IH k lo hi n zs hl]
    simp only[D.val,<-hl,List.take_length]
  |mix l=>
   obtain⟨h1,h2,h3,h4⟩:=ht
   obtain⟨cs,rfl,hsz⟩:=agg h1
   obtain⟨zs,a1,a2⟩:=xU 8 t _ h2 fuel _ _ hf (by show cs.toList.length=_;simp[hsz,h3]) hw
   have a2:=(vp h4 a1).1 a2
   have hl:zs.length=l.length:=a1.len
   have hcs:cs=(bL l zs).toArray:=by rw[<-a2];simp[Value.cells]
   refine⟨zs,a1.bb,hl,?_⟩
   show Value.agg cs=_
   rw[hcs,II];rfl
 |rd sh=>
  obtain⟨e,h1,h2,h3,qj⟩:=ht
  have h4:0<sh.length:=by
   unfold ft at qj
   simp only[Bool.and_eq_true,Nat.blt_eq]at qj
   exact qj.1.2
  obtain⟨u,rows,hu,r1,⟨r2,_⟩,dP⟩:=HY (xU 8 e sh h2) h1 h3 h4 hf hw
  obtain⟨a,len,cap,rfl⟩:=okWide_slice h1 hval
  have hu:u= .slice a len cap:=by simpa [Value.cells]using hu.symm
  subst hu
  refine⟨[rc rows],⟨cL _,jD r2 λr hr=>(r1 r hr).row qj,trivial⟩,rfl,?_⟩
  show dW _ _ _ (ab (rc rows)) _
  rw[dD]
  exact dP
def yC (P:Program):List TypeId->List bj->Prop
 |[],[]=>True
 |t::ts,b::bs=>td P t b/\yC P ts bs
 |_,_=>False
theorem bj.KG {F N:Nat->Prop} {w:World} (b:bj) {zs l:List Int} {v:Value} (h:zs.length=b.num) (ha:b.at F N w zs v):b.at F N w (zs++l) v:=by
 cases b with
 |d x=>
  show v=x.val (zs++l)
  rw[D.Jz x (l:=l) h];exact ha
 |rd sh=>match zs,h with|[z],_=>exact ha
 |gX sh e=>match zs,h with|[z],_=>exact ha
theorem HV {b0:Nat} {w:World}:∀{ts:List TypeId} {bs:List bj} {vs:List Value} {xs:List (DataW H)} {iF:List MemPlace},yC P ts bs->(∀(j:Nat) t v,ts[j]?=some t->vs[j]?=some v->Value.okWide P w .any b0 t v)->DataW.TrodAll enc P w 0 (λ_=>true) true ts vs xs iF->
 (∀m∈DataW.weightsEach P ts xs,m<=reachBytes)->∃zs,bb (cE bs) zs/\fD (λg=>g<w.heap.size) (λ_=>False) w bs zs vs/\xs.length=bs.length
 |[],[],[],[],iF,_,_,h,_=>⟨[],trivial,trivial,rfl⟩
 |[],[],_::_,_,_,_,_,h,_=>h.elim
 |[],[],[],_::_,_,_,_,h,_=>h.elim
 |[],_::_,_,_,_,h,_,_,_=>h.elim
 |_::_,[],_,_,_,h,_,_,_=>h.elim
 |_::_,_::_,[],_,_,_,_,h,_=>by cases h
 |_::_,_::_,_::_,[],_,_,_,h,_=>by cases h
 |t::ts,b::bs,v::vs,x::xs,iF,ht,hv,h,hw=>by
  obtain⟨p,q,h1,h2,rfl⟩:=h
  simp only[DataW.weightsEach,List.mem_append]at hw
  obtain⟨zs,a1,a2,a3⟩:=Q7 ht.1 (hv 0 t v rfl rfl) h1 λm hm=>hw m (.inl hm)
  obtain⟨dv,b1,b2,b3⟩:=HV ht.2 (λj t v h1 h2=>hv (j+1) t v (by simpa using h1) (by simpa using h2)) h2 λm hm=>hw m (.inr hm)
  refine⟨zs++dv,G2 a1 b1,⟨bj.KG b a2 a3,?_⟩,by simp[b3]⟩
  rw[<-a2,List.drop_left];exact b2
theorem Jn (hl:laidOutB P=true) {W jG:World} (hb:Below W.heap.size W jG):∀{ts:List TypeId} {vs:List Value} {xs:List (DataW H)} {iF:List MemPlace},(∀t∈ts,P.readableRec t=true/\t<P.types.size)->DataW.TrodAll enc P W 0 (λ_=>true) true ts vs xs iF->(∀x∈iF,x.block<W.heap.size)->
 DataW.TrodAll enc P jG 0 (λb=>decide (b<W.heap.size)) true ts vs xs iF
 |[],[],[],_,_,h,_=>h
 |[],_::_,_,_,_,h,_=>h.elim
 |[],[],_::_,_,_,h,_=>h.elim
 |_::_,[],_,_,_,h,_=>by cases h
 |_::_,_::_,[],_,_,h,_=>by cases h
 |t::ts,v::vs,x::xs,iF,hr,h,hlt=>by
  obtain⟨p,q,h1,h2,rfl⟩:=h
  exact⟨p,q,Below.trod hl (hr t (by simp)).1 (hr t (by simp)).2 h1 hb λx hx=>hlt x (List.mem_append.2 (.inl hx)),Jn hl hb (λt ht=>hr t (List.mem_cons_of_mem _ ht)) h2 λx hx=>hlt x (List.mem_append.2 (.inr hx)),rfl⟩
theorem KZ {C:Checked} {os:Os} {f:FuncId} {fn:Func} {s:ChangeSpec} {apart:Bool} {X:World->Array Value->Prop}
 (aX:∀(w w':World) (args:Array Value),w.heap=w'.heap->X w args->X w' args)
 (own:ownKnob C.prog.godebug=none) (started:os.Started) (BJ:C.prog.inits.idxOf? f=none) (p4:C.prog.funcs[f]?=some fn)
 (witness:∃(w:World) (tape:Tape) (i:Input),w.os=os/\(w.forCall tape i).Shaped C.prog/\i.vars=[]/\Input.okWide C.prog (w.forCall tape i) .any w.heap.size f i/\
   ((s.pre enc C.prog fn [] apart (w.forCall tape i).memory i.args/\X (w.forCall tape i).memory i.args)/\sizedMet enc C.prog fn (OpenSpec.ofChange s) apart (w.forCall tape i).memory i.args)/\({}:Assume).holds C.prog (lone (Frame.enter C.prog f i.args .normal) [] (w.forCall tape i)))
 (contract:∀(W:World) (base:Nat) (args:Array Value) (ds gs:List (DataW H)) (before:List MemPlace),
   (∀(j:Nat) t v,fn.params[j]?=some t->args[j]?=some v->Value.okWide C.prog W .any base t v)->
   DataW.Whole enc C.prog fn.params.toList s.vars apart W args.toList ds gs before->(DataW.weightsEach C.prog (fn.params.toList++s.plain.varTypes C.prog) (ds++gs)).all (·<=reachBytes)=true->X W args->W.ShapedOpen C.prog->
   Calls C.prog f args W λe jG=>∃v,e= .returned v/\s.post enc C.prog fn apart true false false W args v jG):
 ReturnsInHanded {} C os f .any (λw args=>(s.pre enc C.prog fn [] apart w args/\X w args)/\sizedMet enc C.prog fn (OpenSpec.ofChange s) apart w args) (s.post enc C.prog fn apart true false false):=by
 refine returnsInHanded_of_calls own started BJ witness ?_
 intro w tape i _ eW _ aJ ix UT
 obtain⟨_,_,_,LX,uo,_,_,_,_,hval⟩:=aJ
 have e:LX=fn:=Option.some.inj (uo.symm.trans p4)
 subst e
 obtain⟨⟨⟨ds,gs,before,hw,hc⟩,hx⟩,hz⟩:=ix
 have lX:=DataW.Whole.of_heap (w':=w.forCall tape i) (by rfl) hw
 refine(contract (w.forCall tape i) w.heap.size i.args ds gs before hval lX (hz.weights hw) (aX _ _ _ (by rfl) hx) eW).mono λe jG ⟨v,he,hp⟩=>?_
 subst he
 exact ChangeSpec.post_blind hp
theorem Pr {C:Checked} {os:Os} {f:FuncId} {fn:Func} {s:ChangeSpec} {X:World->Array Value->Prop} {apart:Bool} {ts:List TypeId} {tb:TypeId} {bs:List bj}
 (aX:∀(w w':World) (args:Array Value),w.heap=w'.heap->X w args->X w' args)
 (own:ownKnob C.prog.godebug=none) (started:os.Started) (BJ:C.prog.inits.idxOf? f=none) (p4:C.prog.funcs[f]?=some fn)
 (witness:∃(w:World) (tape:Tape) (i:Input),w.os=os/\(w.forCall tape i).Shaped C.prog/\i.vars=[]/\Input.okWide C.prog (w.forCall tape i) .any w.heap.size f i/\
   ((s.pre enc C.prog fn [] apart (w.forCall tape i).memory i.args/\X (w.forCall tape i).memory i.args)/\sizedMet enc C.prog fn (OpenSpec.ofChange s) apart (w.forCall tape i).memory i.args)/\({}:Assume).holds C.prog (lone (Frame.enter C.prog f i.args .normal) [] (w.forCall tape i)))
 (hp:fn.params.toList=ts) (hr:fn.resultTypes.toList=[tb]) (c4:fn.resultTypes.size=1) (sk:C.prog.underlying tb=some .bool) (uJ:yC C.prog ts bs) (iR:laidOutB C.prog=true) (nE:(ts.all λt=>C.prog.readableRec t&&decide (t<C.prog.types.size))=true) (A0:s.vars=[])
 (hs:∀xs:List (DataW H),xs.length=bs.length->s.fn H xs={results:=[.lit (.bool true)],args:=xs,vars:=[]})
 (contract:∀(W:World) (zs:List Int) (vs:List Value),bb (cE bs) zs->fD (λg=>g<W.heap.size) (λ_=>False) W bs zs vs->X W vs.toArray->W.ShapedOpen C.prog->Calls C.prog f vs.toArray W λe jG=>e= .returned (.bool true)/\W.Extends jG):
 ReturnsInHanded {} C os f .any (λw args=>(s.pre enc C.prog fn [] apart w args/\X w args)/\sizedMet enc C.prog fn (OpenSpec.ofChange s) apart w args) (s.post enc C.prog fn apart true false false):=by
 refine KZ aX own started BJ p4 witness ?_
 intro W base args xs gs before Oz pV hsz hx eW
 have Mi:=pV
 have hlt:=pV.lt
 obtain⟨p,q,hA,zV,rfl,uq,U1⟩:=pV
 rw[hp]at hA
 rw[A0]at zV
 obtain⟨rfl,rfl⟩:gs=[]/\q=[]:=by
  cases gs with
  |nil=>exact⟨rfl,zV⟩
  |cons g r=>exact absurd zV (by intro h;cases h)
 have hval:∀(j:Nat) t v,ts[j]?=some t->args.toList[j]?=some v->Value.okWide C.prog W .any base t v:=λj t v h1 h2=>Oz j t v (by rw[<-hp]at h1;simpa using h1) (by simpa using h2)
 have e:(fn.params.toList++s.plain.varTypes C.prog)=ts:=by rw[hp];simp[DataSpec.varTypes,ChangeSpec.plain,A0]
 rw[e,List.append_nil,List.all_eq_true]at hsz
 obtain⟨zs,hz,hat,hlen⟩:=HV uJ hval hA λn hn=>by simpa using hsz n hn
 have kX:args=args.toList.toArray:=by simp
 rw[kX]at hx
 have Ac:Calls C.prog f args W λe jG=>e= .returned (.bool true)/\W.Extends jG:=by
  have:=contract W zs args.toList hz hat hx eW
  rwa [<-kX]at this
 refine Ac.mono λe jG ⟨he,hw⟩=>?_
 subst he
 have uo:=hs (xs++[]) (by simp[hlen])
 have MK:Below W.heap.size W jG:=⟨hw.os,hw.tape,hw.output,hw.size,λi hi=>hw.block i hi⟩
 refine⟨_,rfl,_,_,_,[],p,[],Mi,?_,?_,?_,Pf hw _,λh=>by cases h⟩
 ·rw[uo,hr,c4];exact trodAll_mk1 (shut_bool sk true)
 ·rw[uo,hp,List.append_nil]
  exact Jn iR MK (λt ht=>by
   have:=List.all_eq_true.1 nE t ht
   simpa using this) hA λx hx=>hlt x (by simp[hx])
 ·rw[uo,A0];rfl
section
variable {gl:cN} {wb:World} {sh:Nat->List Nat×List Nat} {SB:Nat->List (List Int)->List (List Int)->Prop}
def fp (SB:Nat->List (List Int)->List (List Int)->Prop) (res:List bj) (id:Nat):List (List Int)->List (List Int)->Prop:=λzs rs=>bb (cE res) rs.flatten/\SB id zs rs
theorem KL {c:cH} {e9:mg} {aN:dx} {li:FuncId->Nat->Option di} {rounds d:Nat} {cS:Nat->List Nat} {lens:List Nat} (hm:P.follows .mixedOrders=true) (bX:∀r ex ro,fB (dn sh SB) P gl ⟨wb,r,ex,ro,[]⟩ aN) (hg:eC gl ⟨wb,wb,λ_=>False,λ_=>False,[]⟩)
 (kY:∀(L:V->Env->Prop) (r:World) (ro:Nat->Prop),qY (dn sh SB) L ⟨wb,r,λ_=>False,ro,[]⟩ P e9) (hf:rN P c.f=true) (hl:lens=(sh c.id).1) (hd:qE c.res=(sh c.id).2)
 (hv:j9 sh cS SB (fp SB c.res c.id) lens (cE c.args) c.res (c.tree e9 P gl aN li rounds d)):c.Ok P wb (dn sh SB c.id):=by
 refine cH.Qv (li:=li) (rounds:=rounds) (d:=d) hm bX hg kY (enters hf) (pt λzs hz=>?_)
 have h:=na (Kg hv) hz
 simp only[fp,CE]at h
 rw[hl,hd]at h
 exact h
theorem Pq {c:cH} {W:World} {vs:List Value} {zs:List Int} (hc:c.Ok P W (dn sh SB c.id)) (ju:c.res=[.d .bool]) (ix:c.pre=0) (hz:bb (cE c.args) zs) (hat:fD (λg=>g<W.heap.size) (λ_=>False) W c.args zs vs) (h1:∀a z,SB c.id a [[z]]->z=1) (h2:(sh c.id).2=[1]):
 Calls P c.f vs.toArray W λe jG=>e= .returned (.bool true)/\W.Extends jG:=by
 refine(hc.2 _ W vs zs (World.Extends.refl W) hz (by rw[ix];trivial) hat).mono λe jG ⟨hx,rs,us,hb,hs,hr,he⟩=>⟨?_,hx⟩
 rw[ju]at hb hr
 match rs,hb,us,hr,hs,he with
 |[z],hb,[u],hr,hs,he=>
  unfold dn at hs
  rw[h2]at hs
  have e1:z=1:=h1 _ z hs
  subst e1
  have:u= .bool true:=hr.1
  subst this
  rw[he];rfl
 |[z],hb,[],hr,hs,he=>exact hr.elim
 |[z],hb,_::_::_,hr,hs,he=>exact hr.2.elim
 |[],hb,_,_,_,_=>exact hb.elim
 |_::_::_,hb,_,_,_,_=>exact hb.2.2.elim
end
end Go.aZ
namespace Go.aZ
open M
def e8 (w w':World) (own:Option Nat):Prop:=
 w'.os=w.os/\w'.tape=w.tape/\w'.output=w.output/\w.heap.size<=w'.heap.size/\∀k:Nat,k<w.heap.size->own≠some k->w'.heap[k]?=w.heap[k]?
structure Up where
 f:FuncId
 id:Nat
 sh:List ah
 e:TypeId
 args:List bj
 pre:Nat:=0
def qF:Value->Option Nat
 | .slice (some a) _ (_+1)=>some a.block
 |_=>none
section
variable {S:Nat->List Int->List Int->Prop} {L:V->Env->Prop} {w0:b7} {P:Program}
theorem e8.ext {w w':World} (h:e8 w w' none):w.Extends w':=by
 obtain⟨n1,cq,jA,Qq,u5⟩:=h
 have kl:∀i:Nat,i<w.heap.size->w'.heap[i]?=w.heap[i]?:=λi hi=>u5 i hi (λe=>by cases e)
 exact⟨n1,cq,jA,Qq,λa ha=>by simp only[World.cell?,kl a.block ha],λa ha=>by simp only[World.frozen?,kl a.block ha],kl⟩
end
end Go.aZ
