/- The evaluator's soundness,whole. -/
import Derived.Test.YtkedgkbkibncgaaDoorPab
import Derived.Laws.Externs
import Derived.ChangeMaps5
import Derived.ChangeSame
import Derived.OpenShut
import Derived.Handed
import Derived.ProofKit
import Derived.LaidMore
import Derived.Stop.Joined
import Derived.HandedShaped
import Derived.SizedLaws
import Derived.Carry
import Derived.RangeFuncOwn
import Derived.RangeFuncLeaves
import Derived.KernelRfl

set_option linter.unusedVariables false
set_option linter.unusedSimpArgs false
namespace Go.bx
open M
section
variable {S:Nat->List Int->List Int->Prop} {L:V->Env->Prop} {w0:cP} {P:Program} {gl:c6} {cal:dm} {rd:Option Nat}
def we (S:Nat->List Int->List Int->Prop) (L:V->Env->Prop) (w0:cP) (k:nM) (n nb:Nat) (ρ:Env) (m:Nat->Nat) (G:c5) (Q:Exit->Act->World->Prop):Prop:=
 ∀x n' ae m' bH aK c2 da w',cV n nb ρ m n' (List.length aK) ae m'->dg n G c2->R w0 n' ae m' bH aK da w'->(k x n' bH aK).holds S L c2 ae->Q x.to da w'
theorem we.later {k:nM} {n nb aG sq:Nat} {ρ ax:Env} {m fE:Nat->Nat} {G G1:c5} {Q:Exit->Act->World->Prop} (h:we S L w0 k n nb ρ m G Q) (hl:cV n nb ρ m aG sq ax fE) (hA:dg n G G1):we S L w0 k aG sq ax fE G1 Q:=
 λx n' ae m' bH aK c2 da w' h1 h2 h3 h4=>h x n' ae m' bH aK c2 da w' (hl.trans h1) (hA.trans h2 hl.hn) h3 h4
def DH (rd:Option Nat) (S:Nat->List Int->List Int->Prop) (L:V->Env->Prop) (w0:cP) (P:Program) (c:Code) (e:Nat->List V->List ar->nM->T):Prop:=(rd=none∨jm c=true)->
 ∀n tm bl k G ρ m a w Q,R w0 n ρ m tm bl a w->(e n tm bl k).holds S L G ρ->we S L w0 k n bl.length ρ m G Q->c.wpIn (m6 rd) 0 P Q a w
theorem PY {c:Code} {e:Nat->List V->List ar->nM->T} (hd:rd=none∨jm c=true) (he:DH rd S L w0 P c e) {Q:Exit->Act->World->Prop}:∀(r:Nat) {n:Nat} {ρ:Env} {m:Nat->Nat} {tm:List V} {bl:List ar} {a:Act} {w:World} {G:c5} {k:nM},
 R w0 n ρ m tm bl a w->(H9 e r n tm bl k).holds S L G ρ->we S L w0 k n bl.length ρ m G Q->Code.roundsIn (m6 rd) 0 P c Q r a w
 |0,_,_,_,_,_,_,_,_,_,_,ah,_=>ah.elim
 |r+1,n,ρ,m,tm,bl,a,w,G,k,h,ah,hk=>by
  rw[roundsIn_succ]
  refine he hd n tm bl _ G ρ m a w _ h ah λx n' ae m' bH aK c2 da w' h1 h2 h3 h4=>?_
  cases x with
  |normal=>exact PY hd he r h3 h4 (hk.later h1 h2)
  |exit id=>exact hk (.exit id) n' ae m' bH aK c2 da w' h1 h2 h3 h4
  |ret=>exact hk .ret n' ae m' bH aK c2 da w' h1 h2 h3 h4
theorem Rh {n nb:Nat} {ρ:Env} {m:Nat->Nat} {tm:List V} {xs:Array Value} (h:cW n nb ρ m tm xs):sZ n nb ρ m tm xs.toList:=Ly (by simpa using h)
theorem NT {li:dI} {n:Nat} {bC ae:Env} {m0 m':Nat->Nat} {tm bH iZ rm:List V} {bl aK di kQ:List ar} {l1 l2 v1 v2 ext:List I} {bo cj wo om:List (Int×Int)} {n':Nat} {a:Act} {w:World}
 (hlen:bl.length<=aK.length)
 (ha:agree n bC ae) (hm:∀b,b<bl.length->m' b=m0 b) (ht:∀v∈tm,V.ok n bl.length bC v) (lu:b4 n bl.length bC bl)
 (h:R w0 n' ae m' bH aK a w) (e1:hs li.dZ li.ints 0 (n+1) tm=some (iZ,l1,bo)) (e2:hb li.cells 0 (n+1+l1.length) bl=some (di,l2,cj))
 (e3:hs li.dZ li.ints 0 (n+1) bH=some (rm,v1,wo)) (eC:hb li.cells 0 (n+1+v1.length) (aK.take bl.length)=some (kQ,v2,om))
 (f1:jD iZ rm=true) (f2:jC di kQ=true):
 v1.length+v2.length=l1.length+l2.length/\bd (bo++cj) ((v1++v2).map (·.den ae))/\R w0 (n+1+l1.length+l2.length+ext.length) (bn bC (n+1) ((v1++v2++ext).map (·.den ae))) m0 iZ di a w/\di.length=bl.length/\∀(i:Nat) (p:ar),di[i]?=some p->i<bl.length/\∃cn:ar,aK[i]?=some cn/\a1 (bn bC (n+1) ((v1++v2++ext).map (·.den ae))) p.1=a1 ae cn.1:=by
 have FL:agree n bC (bn bC (n+1) ((v1++v2++ext).map (·.den ae))):=(agree.bn _ (n+1) bC).mono (by omega)
 have xa:∀j,j<(v1++v2).length->bn bC (n+1) ((v1++v2++ext).map (·.den ae)) (n+1+j)=((v1++v2).getD j (.const 0)).den ae:=λj hj=>by
  rw[yo _ _ _ j (by simp at hj⊢;omega)]
  have n0:j<(v1++v2++ext).length:=by simp at hj⊢;omega
  have e:(v1++v2++ext)[j]=(v1++v2)[j]:=List.getElem_append_left hj
  simp only[List.getD,List.getElem?_map,List.getElem?_eq_getElem hj,List.getElem?_eq_getElem n0,Option.map_some,Option.getD_some,e]
 have ahQ:v1.length+v2.length=(v1++v2).length:=by simp
 obtain⟨p1,aS,bR⟩:=zX (N:=n+1+v1.length+v2.length+ext.length) ha FL hm (by omega) ht (Rh h.t) e1 e3 f1 (λj hj=>by
  rw[xa j (by simp;omega),M3 hj]) (by omega)
 rw[<-bR]at e2
 have VF:b4 n' aK.length ae (aK.take bl.length):=λp hp=>h.b p (List.mem_of_mem_take hp)
 obtain⟨q1,aP,bA,cM⟩:=Ny (N:=n+1+v1.length+v2.length+ext.length) ha FL hm (by omega) lu VF e2 eC f2 (λj hj=>by
  rw[show n+1+v1.length+j=n+1+(v1.length+j) by omega,xa (v1.length+j) (by simp;omega),M4]) (by omega)
 have aA:di.length=bl.length:=(zm e2).2
 refine⟨by omega,by rw[List.map_append];exact oO aS aP,?_⟩
 rw[<-bR,<-bA]
 have zg:∀(i:Nat) (p:ar),di[i]?=some p->i<bl.length/\∃cn:ar,aK[i]?=some cn/\bu p.1=bu cn.1/\p.2=cn.2/\(bu p.1=false->∃sh off code code' cap k,p.1=[.rows sh off code cap k]/\cn.1=[.rows sh off code' cap k]/\off.aV n/\cap.aV n):=λi p hi=>by
  have gr:i<bl.length:=by rw[<-aA];exact(List.getElem?_eq_some_iff.1 hi).1
  obtain⟨cn,h1,h2,zc,h3⟩:=FN eC i p (MI f2 i p hi)
  rw[List.getElem?_take,if_pos gr]at h1
  obtain⟨p0,g1,_,_,g3⟩:=FN e2 i p hi
  refine⟨gr,cn,h1,h2,zc,λho=>?_⟩
  obtain⟨sh,off,code,code',cap,k,s1,s2⟩:=h3 ho
  obtain⟨dx,fP,c1,bb,cap',aM,kG,p3⟩:=g3 ho
  rw[s1]at kG
  cases kG
  have bf:A.ok n bl.length bC (.rows sh off bb cap k):=lu _ (List.mem_of_getElem? g1) _ (by rw[p3];simp)
  exact⟨sh,off,code,code',cap,k,s1,s2,bf.1.1,bf.1.2.2⟩
 have FM:agree n ae (bn bC (n+1) ((v1++v2++ext).map (·.den ae))):=ha.sym.trans FL (Nat.le_refl _)
 have kA:∀(p cn:ar),bu p.1=bu cn.1->(bu p.1=false->∃sh off code code' cap k,p.1=[.rows sh off code cap k]/\cn.1=[.rows sh off code' cap k]/\off.aV n/\cap.aV n)->a1 (bn bC (n+1) ((v1++v2++ext).map (·.den ae))) p.1=a1 ae cn.1:=λp cn h1 h2=>by
  cases ho:bu p.1 with
  |true=>rw[ik ho,ik (h1▸ho)]
  |false=>
   obtain⟨sh,off,code,code',cap,k,s1,s2,kG,p3⟩:=h2 ho
   rw[s1,s2]
   simp only[a1]
   rw[I.bj FM p3]
 refine⟨?_,aA,λi p hi=>by
  obtain⟨g1,cn,g2,g3,_,g4⟩:=zg i p hi
  exact⟨g1,cn,g2,kA p cn g3 g4⟩⟩
 refine⟨?_,h.d,by rw[aA];exact q1,⟨h.aY.ext,h.aY.fs,h.aY.gU,h.aY.fX,h.aY.dW,h.aY.fg,λi cs t hi ho=>?_,λi sh off code cap kind t hi=>?_,λi j p q hi hj he=>?_⟩⟩
 ·rw[aA]
  have:=Bi p1
  simpa using this
 ·obtain⟨c',h1,h2⟩:=cM i cs t hi
  obtain⟨gr,cn,k1,k2,_⟩:=zg i _ hi
  rw[List.getElem?_take,if_pos gr,k1]at h1
  have h1:=Option.some.inj h1
  subst h1
  obtain⟨g1,iz,r,hr,g2⟩:=h.aY.dV i c' t k1 (k2▸ho)
  rw[<-hm i gr]
  exact⟨g1,iz,r,hr,by rw[h2];exact g2⟩
 ·obtain⟨gr,cn,k1,_,k2,k3⟩:=zg i _ hi
  obtain⟨dx,fP,c1,bb,cap',aM,s1,s2,kG,p3⟩:=k3 rfl
  cases s1
  obtain⟨C,t'⟩:=cn
  simp only at s2 k2
  subst s2;subst k2
  obtain⟨c',h1,h2⟩:=cM i _ t hi
  rw[List.getElem?_take,if_pos gr,k1]at h1
  cases h1
  simp only[List.map_cons,List.map_nil,A.den,List.cons.injEq,Value.int.injEq,and_true,true_and]at h2
  rw[<-hm i gr]
  have hR:=h.aY.rws i sh off bb cap kind t k1
  unfold m8 at hR⊢
  rw[I.bj FM kG,I.bj FM p3,h2]
  exact hR
 ·obtain⟨gr,cn,k1,k2,_,k3⟩:=zg i p hi
  obtain⟨tL,iq,l1,l2,_,nA⟩:=zg j q hj
  rw[kA p cn k2 k3,kA q iq l2 nA]
  rw[<-hm i gr,<-hm j tL]at he
  exact h.aY.inj i j cn iq k1 l1 he
theorem cW.set {n nb:Nat} {ρ:Env} {m:Nat->Nat} {tm:List V} {xs:Array Value} {s:Nat} {v:V} (h:cW n nb ρ m tm xs) (hv:v.ok n nb ρ) (hr:∀x,xs[s]?=some x->v.rel ρ m x):cW n nb ρ m (nE tm s v) xs:=by
 rw[It]
 refine⟨by simp[h.1],λi u hu=>?_⟩
 rw[List.getElem?_set]at hu
 split at hu
 ·rename_i WW
  subst WW
  split at hu
  ·rename_i hlt
   cases hu
   rw[h.1]at hlt
   exact⟨hv,_,Array.getElem?_eq_getElem hlt,hr _ (Array.getElem?_eq_getElem hlt)⟩
  ·cases hu
 ·exact h.2 i u hu
def wc (tmps:Array Value):List Nat->List Int->Prop
 |[],[]=>True
 |s::r,z::zs=>(0<=z/\z<=1)/\(∀x,tmps[s]?=some x->x= .bool (decide (z=1)))/\wc tmps r zs
 |_,_=>False
def sK (w0:cP) (w:World) (tmps:Array Value) (F:Nat->Prop):List (Nat×List az×TypeId)->List Int->Prop
 |[],[]=>True
 |(s,sh,e)::r,code::len::cap::zs=>∃g:Nat,(∀x,tmps[s]?=some x->x=if cap<0 then .slice none 0 0 else .slice (some ⟨g,0,none⟩) len.toNat cap.toNat)/\vr 0 0 len cap/\(0<=code/\code<=aw)/\(cap<0->ab code=[])/\
    (0<=cap->∃cells:Array Value,w.heap[g]?=some (.cells cells e (0,0))/\jy cells 0 sh (ab code)/\cells.size=cap.toNat*sh.length/\w0.b.heap.size<=g/\(w0.ex g∨w0.r.heap.size<=g))/\
    (0<=cap->F g)/\sK w0 w tmps (λgA=>F gA/\(0<=cap->gA≠g)) r zs
 |_,_=>False
theorem Ej {nb:Nat} {tm:List V} {m:Nat->Nat} {tmps:Array Value}:∀{l:List Nat} {n:Nat} {ρ:Env},cW n nb ρ m tm tmps->ak S L (yO tm l) n ρ λae n' ls=>(∀x∈ls,I.aV n' x)/\ls.length=l.length/\wc tmps l (ls.map (·.den ae))
 |[],n,ρ,ht=>ak.pure ⟨λ_ h=>by simp at h,rfl,trivial⟩
 |s::r,n,ρ,ht=>by
  unfold yO
  split
  ·rename_i e hs
   obtain⟨h1,x,h2,h3⟩:=ht.2 s _ hs
   have h3:x= .bool (e.den ρ):=h3
   have key:ak S L (match e with| .lit v=>pure (I.const (cond v 1 0))|e=>uh e) n ρ λae n' l=>l.aV n'/\(0<=l.den ae/\l.den ae<=1)/\e.den ρ=decide (l.den ae=1):=by
    cases e with
    |lit v=>cases v<;>exact ak.pure ⟨I.ch _ _,by simp only[I.aH];decide,by simp only[I.aH,aR.den];rfl⟩
    |_=>exact CF
   refine key.bind λax aG l hn ha ⟨g1,g2,g3⟩=>(Ej (l:=r) (ht.ext ha hn (Nat.le_refl _) (λ_ _=>rfl))).bind λbg dC ls dF cK ⟨k1,k2,k3⟩=>ak.pure ⟨λy hy=>?_,by simp[k2],?_⟩
   ·rcases List.mem_cons.1 hy with rfl|hy
    ·exact g1.mono dF
    ·exact k1 y hy
   ·have e1:=I.bj cK g1
    simp only[List.map_cons,wc,e1]
    refine⟨g2,λy hy=>?_,k3⟩
    rw[h2]at hy
    cases hy
    rw[h3,g3]
  ·exact ak.fail
theorem y4 {nb:Nat} {m:Nat->Nat} {tmps:Array Value}:∀{l:List (Nat×Int×Int)} {tm:List V} {n:Nat} {ρ:Env},cW n nb ρ m tm tmps->ak S L (tn l tm) n ρ λae n' bH=>cW n' nb ae m bH tmps
 |[],tm,n,ρ,ht=>ak.pure ht
 |(s,lo,hi)::r,tm,n,ρ,ht=>by
  unfold tn
  split
  ·rename_i k x hs
   cases hc:(decide (lo<=x.lo)&&decide (x.hi<=hi))with
   |true=>simp only[cond_true];exact y4 ht
   |false=>
    simp only[cond_false]
    refine eQ λhk=>?_
    simp only[List.map_cons,List.map_nil,U,I.aH]at hk
    obtain⟨h1,y,h2,h3⟩:=ht.2 s _ hs
    have h1:x.ok n ρ:=h1
    exact y4 (ht.set (v:= .w (.one (.int k ⟨x.l,lo,hi⟩))) ⟨h1.1,hk.1,hk.2⟩ λz hz=>by
     rw[h2]at hz;cases hz;exact h3)
  ·exact y4 ht
theorem Bj {n lo:Nat} {ρ:Env} {m:Nat->Nat} {tm:List V} {bl:List ar} {a:Act} {w:World} (h:R w0 n ρ m tm bl a w):∀{l:List (Nat×List az×TypeId)} {used:List Nat} {ls:List I} {u:List Nat},pd lo l tm bl used=some (ls,u)->
 (∀x∈ls,I.aV n x)/\ls.length=(s5 l).length/\(∀b∈used,b∈u)/\(∀b∈u,b∈used∨lo<=b)/\∀F:Nat->Prop,(∀(b:Nat) (p:ar),b∈u->b∉used->bl[b]?=some p->a1 ρ p.1=2->bu p.1=false->F (m b))->sK w0 w a.tmps F l (ls.map (·.den ρ))
 |[],used,ls,u,he=>by
  simp only[pd,Option.some.injEq,Prod.mk.injEq]at he
  obtain⟨rfl,rfl⟩:=he
  exact⟨λ_ h=>by simp at h,rfl,λ_ h=>h,λ_ h=> .inl h,λ_ _=>trivial⟩
 |(s,sh,e)::r,used,ls,u,he=>by
  unfold pd at he
  split at he
  ·rename_i hs
   split at he
   ·rename_i l1 gF hr
    simp only[Option.some.injEq,Prod.mk.injEq]at he
    obtain⟨rfl,rfl⟩:=he
    obtain⟨g1,g2,g3,g4,g5⟩:=Bj h hr
    refine⟨λx hx=>?_,by simp[s5]at g2⊢;omega,g3,g4,λF hF=>⟨0,λx hx=>?_,?_,?_,?_,?_,?_,?_⟩⟩
    ·simp only[List.mem_cons]at hx
     rcases hx with rfl|rfl|rfl|hx
     ·exact I.ch _ _
     ·exact I.ch _ _
     ·exact I.ch _ _
     ·exact g1 x hx
    ·obtain⟨_,y,h2,h3⟩:=h.t.2 s _ hs
     rw[h2]at hx;cases hx
     have gJ:(I.const (-1)).den ρ<0:=by rw[I.aH];decide
     simp only[gJ,if_true]
     exact h3
    ·simp only[I.aH];exact⟨⟨by omega,by omega,by omega,by omega⟩,⟨by omega,by omega⟩,λ_=>rfl,λh=>by omega⟩
    ·simp only[I.aH];exact⟨Int.le_refl _,Int.le_trans (eR []) (m7 (l:=[]) (by simp) (by simp))⟩
    ·intro _;simp only[I.aH];exact fQ
    ·simp only[I.aH];intro h;omega
    ·simp only[I.aH];intro h;omega
    ·refine g5 _ λb p hb hu aA hk ho=>⟨hF b p hb hu aA hk ho,?_⟩
     simp only[I.aH];intro h;omega
   ·cases he
  ·rename_i b aN o ro len cap hs
   split at he
   ·rename_i dx off code cQ kind t aA
    cases hc:(lf sh dx&&Nat.beq kind 2&&I.beq o (.const 0)&&I.beq off (.const 0)&&I.beq ro (.const 0)&&I.beq cap cQ&&Nat.beq t.1 e&&Nat.beq aN sh.length&&Nat.ble lo b&& !(used.any (Nat.beq b)))with
    |false=>rw[hc]at he;cases he
    |true=>
     rw[hc]at he
     simp only[cond_true]at he
     split at he
     ·rename_i l1 gF hr
      simp only[Option.some.injEq,Prod.mk.injEq]at he
      obtain⟨rfl,rfl⟩:=he
      simp only[Bool.and_eq_true]at hc
      obtain⟨⟨⟨⟨⟨⟨⟨⟨⟨c1,bb⟩,bJ⟩,cg⟩,dK⟩,fe⟩,kv⟩,kS⟩,nR⟩,td⟩:=hc
      have c1:=rk c1;have bb:=Nat.eq_of_beq_eq_true bb;have bJ:=I.beq_eq bJ;have cg:=I.beq_eq cg;have dK:=I.beq_eq dK;have fe:=I.beq_eq fe
      have kv:=Nat.eq_of_beq_eq_true kv;have kS:=Nat.eq_of_beq_eq_true kS;have nR:=Nat.le_of_ble_eq_true nR
      have Wu:b∉used:=λhb=>by
       have:used.any (Nat.beq b)=true:=List.any_eq_true.2 ⟨b,hb,Nat.beq_refl b⟩
       rw[this]at td;cases td
      subst c1;subst bb;subst bJ;subst cg;subst dK;subst fe;subst kv;subst kS
      obtain⟨g1,g2,g3,g4,g5⟩:=Bj h hr
      obtain⟨bf,y,h2,h3⟩:=h.t.2 s _ hs
      have bf:(A.sl b sh.length (.const 0) (.const 0) len cap).ok n bl.length ρ:=bf
      obtain⟨b8,⟨cO,ev,eO,fR⟩,gh⟩:=bf
      simp only[I.aH]at gh
      have dA:(A.rows sh (.const 0) code cap 2).ok n bl.length ρ:=h.b _ (List.mem_of_getElem? aA) _ (by simp)
      obtain⟨⟨ay,dM,gE⟩,eu,aZ⟩:=dA
      have jl:=h.aY.rws b sh (.const 0) code cap 2 t aA (by decide)
      refine⟨λx hx=>?_,by simp[s5]at g2⊢;omega,λb6 lr=>g3 b6 (List.mem_cons_of_mem _ lr),λb6 lr=>?_,λF hF=>⟨m b,λx hx=>?_,gh,eu,jl.1,λh0=>?_,λh0=>?_,?_⟩⟩
      ·simp only[List.mem_cons]at hx
       rcases hx with rfl|rfl|rfl|hx
       ·exact dM
       ·exact eO
       ·exact fR
       ·exact g1 x hx
      ·rcases g4 b6 lr with h5|h5
       ·rcases List.mem_cons.1 h5 with rfl|h5
        ·exact .inr nR
        ·exact .inl h5
       ·exact .inr h5
      ·have GO:y=x:=Option.some.inj (h2.symm.trans hx)
       subst GO
       have h3:y=(A.sl b sh.length (.const 0) (.const 0) len cap).den ρ m:=h3
       rw[h3]
       simp only[A.den,I.aH]
       split<;>simp
      ·obtain⟨_,cells,gv,fz,k1,⟨k2,k3⟩,k4⟩:=jl.2 h0
       obtain⟨k0,mb,n4,uu,XU,XV⟩:=k4 (by decide)
       subst k0
       have n4:=n4.two
       subst n4
       rw[I.aH]at k3
       exact⟨cells,k1,k3,uu,XU,XV⟩
      ·exact hF b _ (g3 b (by simp)) Wu aA (mS (by decide) h0) rfl
      ·refine g5 _ λb6 p lr hu NF hk ho=>⟨hF b6 p lr (λh=>hu (List.mem_cons_of_mem _ h)) NF hk ho,λh0=>?_⟩
       have hQ:a1 ρ [A.rows sh (.const 0) code cap 2]=2:=mS (by decide) h0
       exact h.aY.ne NF aA (by rw[hk];exact Nat.le_refl 2) (by simp only[hQ];decide) λe=>hu (by simp[e])
     ·cases he
   ·cases he
  ·cases he
theorem C5 {c:List A} (h:bu c=false):∃sh off code cap k,c=[.rows sh off code cap k]:=by
 unfold bu at h
 split at h
 ·exact⟨_,_,_,_,_,rfl⟩
 ·cases h
theorem G8 {n:Nat} {ρ:Env} {m:Nat->Nat} {tm:List V} {a:Act} {w:World}:∀{us:List Nat} {bl:List ar},R w0 n ρ m tm bl a w->R w0 n ρ m tm (jL us bl) a w/\(jL us bl).length=bl.length/\∀(i:Nat) (p:ar),(jL us bl)[i]?=some p->(bl[i]?=some p/\(i∈us->bu p.1=true∨a1 ρ p.1=0))∨a1 ρ p.1=0
 |[],bl,h=>⟨h,rfl,λi p hp=> .inl ⟨hp,λh=>by simp at h⟩⟩
 |b::r,bl,h=>by
  unfold jL
  split
  ·rename_i sh off code cap k t aA
   obtain⟨g1,g2,g3⟩:=G8 (us:=r) (h.kill aA)
   refine⟨g1,by rw[g2,gu],λi p hp=>?_⟩
   rcases g3 i p hp with⟨g4,g5⟩|g4
   ·by_cases gr:i=b
    ·subst gr
     rw[gZ,List.getElem?_set_self (List.getElem?_eq_some_iff.1 aA).1]at g4
     cases g4
     exact .inr (by simp[a1])
    ·rw[gZ,List.getElem?_set_ne (λe=>gr e.symm)]at g4
     exact .inl ⟨g4,λhi=>g5 (by simpa [gr]using hi)⟩
   ·exact .inr g4
  ·rename_i ij
   obtain⟨g1,g2,g3⟩:=G8 (us:=r) h
   refine⟨g1,g2,λi p hp=>?_⟩
   rcases g3 i p hp with⟨g4,g5⟩|g4
   ·refine .inl ⟨g4,λhi=>?_⟩
    rcases List.mem_cons.1 hi with rfl|hi
    ·cases ho:bu p.1 with
     |true=>exact .inl rfl
     |false=>
      exfalso
      obtain⟨c,t⟩:=p
      obtain⟨sh,off,code,cap,k,rfl⟩:=C5 ho
      exact ij _ _ _ _ _ _ g4
    ·exact g5 hi
   ·exact .inr g4
theorem NR {N:Nat} {bg:Env} {m:Nat->Nat} {bl:List ar} {a:Act} {w:World}:∀{l:List Nat} {zs:List Int} {v:Nat} {tm:List V},R w0 N bg m tm bl a w->wc a.tmps l zs->(∀j,j<zs.length->bg (v+j)=zs.getD j 0)->v+zs.length<=N->R w0 N bg m (oE l v tm) bl a w
 |[],[],v,tm,h,_,_,_=>h
 |s::r,z::zs,v,tm,h,hb,hv,cc=>by
  unfold oE
  have h0:=hv 0 (by simp)
  simp only[Nat.add_zero,List.getD_cons_zero]at h0
  simp only[List.length_cons]at cc
  refine NR (l:=r) (zs:=zs) ⟨cW.set h.t ?_ λx hx=>?_,h.d,h.b,h.aY⟩ hb.2.2 (λj hj=>by
   have:=hv (j+1) (by simpa using hj)
   rw[show v+1+j=v+(j+1) by omega];simpa using this) (by omega)
  ·exact⟨I.dN (by omega),I.ch _ _⟩
  ·rw[hb.2.1 x hx]
   simp[V.rel,W.den,A.den,aR.den,I.bV,I.aH,h0]
 |[],_::_,_,_,_,h,_,_=>h.elim
 |_::_,[],_,_,_,h,_,_=>h.elim
theorem NQ {N:Nat} {bg:Env} {a:Act} {w:World}:∀{l:List (Nat×List az×TypeId)} {zs:List Int} {v:Nat} {tm:List V} {bl:List ar} {m:Nat->Nat} {F:Nat->Prop},R w0 N bg m tm bl a w->sK w0 w a.tmps F l zs->(∀g,F g->∀(i:Nat) (p:ar),bl[i]?=some p->m i=g->a1 bg p.1=0)->
 (∀j,j<zs.length->bg (v+j)=zs.getD j 0)->v+zs.length<=N->∃dc,(∀b,b<bl.length->dc b=m b)/\bl.length<=(nv l v tm bl).2.length/\R w0 N bg dc (nv l v tm bl).1 (nv l v tm bl).2 a w
 |[],[],v,tm,bl,m,F,h,_,_,_,_=>⟨m,λ_ _=>rfl,Nat.le_refl _,h⟩
 |(s,sh,e)::r,code::len::cap::zs,v,tm,bl,m,F,h,hf,hF,hv,cc=>by
  obtain⟨g,f1,f2,f3,f4,f5,f6,f7⟩:=hf
  have v0:=hv 0 (by simp)
  have v1:=hv 1 (by simp)
  have v2:=hv 2 (by simp)
  simp only[List.getD_cons_zero,List.getD_cons_succ,Nat.add_zero]at v0 v1 v2
  simp only[List.length_cons]at cc
  have hc:(-1:Int)<=cap/\cap<=9223372036854775807:=⟨f2.2.1.1,by have:=f2.2.1.2;omega⟩
  have hA:(A.rows sh (.const 0) (.var v) (.var (v+2)) 2).ok N bl.length bg:=⟨⟨I.ch _ _,I.dN (by omega),I.dN (by omega)⟩,by rw[I.bV,v0];exact f3,by rw[I.bV,v2];exact hc⟩
  have gL:=h.aY.push (x:=([.rows sh (.const 0) (.var v) (.var (v+2)) 2],(e,false))) (g:=g) h.b (λy hy=>by simp at hy;subst hy;exact hA) (λho=>by cases ho) (λdx fP code' cap' k5 he=>by
   cases he
   intro _
   simp only[I.bV,v0,v2,I.aH]
   refine⟨f4,λh0=>?_⟩
   obtain⟨cells,k1,k2,k3,k4,mb⟩:=f5 h0
   exact⟨mb.elim .inl λh=> .inr (.inr h),cells,e,(0,0),k1,⟨Int.le_refl _,k2⟩,λ_=>⟨rfl,by trivial,.Ak,k3,k4,mb⟩⟩) (λi p hi he=>by
   rcases Int.lt_or_le cap 0 with h0|h0
   ·refine .inr (.inr ?_)
    simp only[a1,I.bV,v2]
    rw[if_pos h0]
   ·exact .inr (.inl (hF g (f6 h0) i p hi he)))
  have hL:=cV.alloc N bg m bl ([A.rows sh (.const 0) (.var v) (.var (v+2)) 2],(e,false)) g
  have hR:R w0 N bg (iu m bl.length g) (nE tm s (.w (.one (.sl bl.length sh.length (.const 0) (.const 0) (.var (v+1)) (.var (v+2)))))) (bl++[([.rows sh (.const 0) (.var v) (.var (v+2)) 2],(e,false))]) a w:=by
   refine⟨cW.set (h.t.ext hL.ha hL.hn hL.hb hL.hm) ?_ λx hx=>?_,h.d,h.b.alloc (λy hy=>by simp at hy;subst hy;exact hA),gL⟩
   ·refine⟨by simp,⟨I.ch _ _,I.ch _ _,I.dN (by omega),I.dN (by omega)⟩,?_⟩
    simp only[I.aH,I.bV,v1,v2];exact f2
   ·rw[f1 x hx]
    simp only[V.rel,W.den,A.den,I.aH,I.bV,v1,v2,jq]
    split<;>simp
  obtain⟨dc,q1,aP,bA⟩:=NQ (l:=r) (zs:=zs) (v:=v+3) hR f7 (λgA pz i p hi he=>by
   rw[List.getElem?_append]at hi
   split at hi
   ·rename_i fi
    rw[ja fi]at he
    exact hF gA pz.1 i p hi he
   ·have fi:=(List.getElem?_eq_some_iff.1 hi).1
    have:i=bl.length:=by simp at fi;omega
    subst this
    simp only[Nat.sub_self,List.getElem?_cons_zero,Option.some.injEq]at hi
    subst hi
    rw[jq]at he
    rcases Int.lt_or_le cap 0 with h0|h0
    ·simp only[a1,I.bV,v2]
     rw[if_pos h0]
    ·exact absurd he.symm (pz.2 h0)) (λj hj=>by
   have:=hv (j+3) (by simp only[List.length_cons];omega)
   rw[show v+3+j=v+(j+3) by omega];simpa using this) (by omega)
  simp only[List.length_append,List.length_cons,List.length_nil]at q1 aP
  exact⟨dc,λb hb=>by rw[q1 b (by omega)];exact ja hb,by unfold nv;omega,by unfold nv;exact bA⟩
 |[],_::_,_,_,_,_,_,_,h,_,_,_=>h.elim
 |_::_,[],_,_,_,_,_,_,h,_,_,_=>h.elim
 |_::_,[_],_,_,_,_,_,_,h,_,_,_=>h.elim
 |_::_,[_,_],_,_,_,_,_,_,h,_,_,_=>h.elim
theorem OG {tmps:Array Value}:∀{l:List Nat} {zs:List Int},wc tmps l zs->bd (Bv l) zs
 |[],[],_=>trivial
 |s::r,z::zs,h=>⟨h.1.1,h.1.2,OG h.2.2⟩
 |[],_::_,h=>h.elim
 |_::_,[],h=>h.elim
theorem OF {w:World} {tmps:Array Value}:∀{l:List (Nat×List az×TypeId)} {zs:List Int} {F:Nat->Prop},sK w0 w tmps F l zs->bd (s5 l) zs
 |[],[],_,_=>trivial
 |(s,sh,e)::r,code::len::cap::zs,F,⟨g,f1,f2,f3,f4,f5,f6,f7⟩=>⟨f3.1,f3.2,f2.1.2.2.1,f2.1.2.2.2,f2.2.1.1,by have:=f2.2.1.2;omega,OF f7⟩
 |[],_::_,_,h=>h.elim
 |_::_,[],_,h=>h.elim
 |_::_,[_],_,h=>h.elim
 |_::_,[_,_],_,h=>h.elim
theorem Mem.AB {n:Nat} {ρ:Env} {m:Nat->Nat} {bl:List ar} {w:World} {b c:Nat} {C:List A} {sh:List az} {code:I} {t:TypeId×Bool} (h:Mem w0 ρ m bl w) (aA:bl[b]?=some (C,t)) (ho:bu C=true) (ht:t.2=false)
 (gB:∀row∈ab (code.den ρ),b5 sh row) (fW:bk sh (ab (code.den ρ))=C.map (A.den ρ m)) (hlen:C.length=c*sh.length):Mem w0 ρ m (cB bl b ([.rows sh (.const 0) code (.const c) 2],t)) w:=by
 have lU:b<bl.length:=(List.getElem?_eq_some_iff.1 aA).1
 obtain⟨q1,aP,r,hr,bA⟩:=h.dV b C t aA ho
 have hr:=hr ht
 subst hr
 rw[List.append_nil]at bA
 have cL:∀(i:Nat) (p:ar),(cB bl b ([.rows sh (.const 0) code (.const c) 2],t))[i]?=some p->(i=b/\p=([.rows sh (.const 0) code (.const c) 2],t))∨(i≠b/\bl[i]?=some p):=λi p hi=>by
  rw[gZ,List.getElem?_set]at hi
  split at hi
  ·rename_i et
   subst et
   simp only[lU,if_true,Option.some.injEq]at hi
   exact .inl ⟨rfl,hi.symm⟩
  ·rename_i et;exact .inr ⟨λe=>et e.symm,hi⟩
 have kA:a1 ρ [.rows sh (.const 0) code (.const c) 2]=2:=mS (by decide) (by rw[I.aH];omega)
 refine⟨h.ext,h.fs,h.gU,h.fX,h.dW,h.fg,λi gq t' hi fD=>?_,λi dx fP code' cap' k5 t' hi=>?_,λi j p q hi hj he=>?_⟩
 ·rcases cL i _ hi with⟨rfl,cE⟩|⟨hne,hi⟩
  ·cases cE;cases fD
  ·exact h.dV i gq t' hi fD
 ·rcases cL i _ hi with⟨rfl,cE⟩|⟨hne,hi⟩
  ·cases cE
   intro _
   simp only[I.aH]
   refine⟨λh0=>by omega,λ_=>⟨aP.elim .inl λh=> .inr (.inr h),_,_,_,bA,⟨Int.le_refl _,gB,[],[],by simp[fW],rfl⟩,λ_=>⟨rfl,by trivial,.Ak,by simp[hlen],q1,aP⟩⟩⟩
  ·exact h.rws i dx fP _ cap' k5 t' hi
 ·have hk:∀(i:Nat) (p:ar),(cB bl b ([.rows sh (.const 0) code (.const c) 2],t))[i]?=some p->∃cn,bl[i]?=some cn/\a1 ρ cn.1=a1 ρ p.1:=λi p hi=>by
   rcases cL i _ hi with⟨rfl,cE⟩|⟨hne,hi⟩
   ·exact⟨_,aA,by rw[cE];simp only[kA,ik ho]⟩
   ·exact⟨p,hi,rfl⟩
  obtain⟨cn,hp,ep⟩:=hk i p hi
  obtain⟨iq,hq,eq⟩:=hk j q hj
  rw[<-ep,<-eq]
  exact h.inj i j cn iq hp hq he
theorem Ih {m:Nat->Nat} {tm:List V} {a:Act} {w:World}:∀{l:List (Nat×List az×Nat)} {bl:List ar} {n:Nat} {ρ:Env},R w0 n ρ m tm bl a w->ak S L (AD l bl) n ρ λae n' aK=>R w0 n' ae m tm aK a w/\aK.length=bl.length
 |[],bl,n,ρ,h=>ak.pure ⟨h,rfl⟩
 |(b,sh,c)::r,bl,n,ρ,h=>by
  unfold AD
  split
  ·rename_i C t aA
   cases ho:bu C with
   |false=>simp only[cond_false];exact Ih h
   |true=>
    simp only[cond_true]
    refine cZ λhc=>?_
    simp only[Bool.and_eq_true]at hc
    obtain⟨⟨⟨c1,bb⟩,bJ⟩,cg⟩:=hc
    have c1:t.2=false:=by simpa using c1
    have bb:=Nat.eq_of_beq_eq_true bb
    have cg:=Nat.le_of_ble_eq_true cg
    have bf:∀x∈C,A.ok n bl.length ρ x:=h.b _ (List.mem_of_getElem? aA)
    have ic:=yT (w:=sh.length) (k:=c) bb
    have e0:ab ((I.const 0).den ρ)=[]:=by rw[I.aH];exact fQ
    have hz:(0:Int)<=aw:=Int.le_trans (eR []) (m7 (l:=[]) (by simp) (by simp))
    refine(yI (nb:=bl.length) (m:=m) bJ (rs:=kx sh.length c C) (c:= .const 0) (λrow hr x hx=>bf x (yU row hr x hx)) (I.ch _ _) (by rw[I.aH];exact⟨Int.le_refl _,hz⟩) (by rw[e0];intro _ h;simp at h) (by rw[e0,ic.1];simp;omega)).bind λax aG code eD dj ⟨p1,aS,cN,bR,cY,c8,eN⟩=>?_
    rw[e0,List.nil_append]at bR
    have h1:=h.later eD dj
    have Gm:C.map (A.den ax m)=C.map (A.den ρ m):=oT bf dj (λ_ _=>rfl)
    have gL:=h1.aY.AB (n:=aG) (c:=c) (sh:=sh) (code:=code) aA ho c1 (by rw[bR];exact c8) (by rw[bR,eN,ic.2,Gm]) bb
    have jF:b4 aG (cB bl b ([.rows sh (.const 0) code (.const c) 2],t)).length ax (cB bl b ([.rows sh (.const 0) code (.const c) 2],t)):=h1.b.set (λy hy=>by
     have hy:y= .rows sh (.const 0) code (.const c) 2:=by simpa using hy
     subst hy
     exact⟨⟨I.ch _ _,p1,I.ch _ _⟩,aS,by rw[I.aH];omega⟩)
    have hR:R w0 aG ax m tm (cB bl b ([.rows sh (.const 0) code (.const c) 2],t)) a w:=⟨by rw[gu];exact h1.t,h1.d,jF,gL⟩
    exact(Ih (l:=r) hR).mono λbg dC jg _ _ ⟨g1,g2⟩=>⟨g1,by rw[g2,gu]⟩
  ·exact ak.fail
theorem natsM_holds {G:c5} {wa:Unit->Nat->T}:∀{k n:Nat} {ρ:Env} {offs:List Int},(C0 k n wa).holds S L G ρ->offs.length=k->(∀z∈offs,0<=z)->(wa () (n+k)).holds S L G (bn ρ n offs)
 |0,n,ρ,[],h,_,_=>h
 |k+1,n,ρ,z::zs,h,hl,h0=>by
  have h1:(C0 k (n+1) wa).holds S L G (cF ρ n z):=h z (h0 z (by simp))
  have:=natsM_holds (offs:=zs) h1 (by simpa using hl) λy hy=>h0 y (List.mem_cons_of_mem _ hy)
  rw[show n+(k+1)=n+1+k by omega];exact this
 |0,_,_,_::_,_,hl,_=>by simp at hl
 |_+1,_,_,[],_,hl,_=>by simp at hl
def m9 (w0:cP) (w:World) (tmps:Array Value) (F:Nat->Prop):List (Nat×List az)->List Nat->List Int->List Int->Prop
 |[],[],[],[]=>True
 |(s,sh)::r,g::gs,o::os,code::len::cap::zs=>(∀x,tmps[s]?=some x->x=if cap<0 then .slice none 0 0 else .slice (some ⟨g,o.toNat,none⟩) len.toNat cap.toNat)/\vr o 0 len cap/\(0<=code/\code<=aw)/\(cap<0->ab code=[])/\
    (0<=cap->(w0.ex g∨w0.ro g∨w0.r.heap.size<=g)/\∃(cells:Array Value) (t:TypeId) (fz:Nat×Nat),w.heap[g]?=some (.cells cells t fz)/\jy cells o.toNat sh (ab code))/\
    (0<=cap->F g)/\m9 w0 w tmps F r gs os zs
 |_,_,_,_=>False
theorem m9.len {w:World} {tmps:Array Value} {F:Nat->Prop}:∀{l:List (Nat×List az)} {gs:List Nat} {os zs:List Int},m9 w0 w tmps F l gs os zs->os.length=l.length/\∀z∈os,0<=z
 |[],[],[],[],_=>⟨rfl,λ_ h=>by simp at h⟩
 |(s,sh)::r,g::gs,o::os,code::len::cap::zs,h=>by
  obtain⟨_,h2,_,_,_,_,h7⟩:=h
  obtain⟨i1,i2⟩:=m9.len h7
  exact⟨by simp[i1],λz hz=>by
   rcases List.mem_cons.1 hz with rfl|hz
   ·exact h2.1.1
   ·exact i2 z hz⟩
 |_::_,[],_,_,h=>h.elim
 |_::_,_::_,[],_,h=>h.elim
 |_::_,_::_,_::_,[],h=>h.elim
 |_::_,_::_,_::_,[_],h=>h.elim
 |_::_,_::_,_::_,[_,_],h=>h.elim
 |[],_::_,_,_,h=>h.elim
 |[],[],_::_,_,h=>h.elim
 |[],[],[],_::_,h=>h.elim
theorem OH {w:World} {tmps:Array Value} {F:Nat->Prop}:∀{l:List (Nat×List az)} {gs:List Nat} {os zs:List Int},m9 w0 w tmps F l gs os zs->bd (vj l) zs
 |[],[],[],[],_=>trivial
 |(s,sh)::r,g::gs,o::os,code::len::cap::zs,⟨f1,f2,f3,f4,f5,f6,f7⟩=>⟨f3.1,f3.2,f2.1.2.2.1,f2.1.2.2.2,f2.2.1.1,by have:=f2.2.1.2;omega,OH f7⟩
 |_::_,[],_,_,h=>h.elim
 |_::_,_::_,[],_,h=>h.elim
 |_::_,_::_,_::_,[],h=>h.elim
 |_::_,_::_,_::_,[_],h=>h.elim
 |_::_,_::_,_::_,[_,_],h=>h.elim
 |[],_::_,_,_,h=>h.elim
 |[],[],_::_,_,h=>h.elim
 |[],[],[],_::_,h=>h.elim
theorem De {n:Nat} {ρ:Env} {m:Nat->Nat} {tm:List V} {bl:List ar} {a:Act} {w:World} (h:R w0 n ρ m tm bl a w):∀{l:List (Nat×List az)} {ls:List I},vk l tm bl=some ls->
 (∀x∈ls,I.aV n x)/\ls.length=(vj l).length/\∃gs os,m9 w0 w a.tmps (λg=>∃(i:Nat) (p:ar),bl[i]?=some p/\m i=g/\a1 ρ p.1=1) l gs os (ls.map (·.den ρ))
 |[],ls,he=>by
  simp only[vk,Option.some.injEq]at he
  subst he
  exact⟨λ_ h=>by simp at h,rfl,[],[],trivial⟩
 |(s,sh)::r,ls,he=>by
  unfold vk at he
  split at he
  ·rename_i hs
   split at he
   ·rename_i l1 hr
    simp only[Option.some.injEq]at he
    subst he
    obtain⟨g1,g2,gs,os,g3⟩:=De h hr
    refine⟨λx hx=>?_,by simp[vj]at g2⊢;omega,0::gs,0::os,λx hx=>?_,?_,?_,?_,?_,?_,g3⟩
    ·simp only[List.mem_cons]at hx
     rcases hx with rfl|rfl|rfl|hx
     ·exact I.ch _ _
     ·exact I.ch _ _
     ·exact I.ch _ _
     ·exact g1 x hx
    ·obtain⟨_,y,h2,h3⟩:=h.t.2 s _ hs
     rw[h2]at hx;cases hx
     have gJ:(I.const (-1)).den ρ<0:=by rw[I.aH];decide
     simp only[gJ,if_true]
     exact h3
    ·simp only[I.aH];exact⟨⟨by omega,by omega,by omega,by omega⟩,⟨by omega,by omega⟩,λ_=>rfl,λh=>by omega⟩
    ·simp only[I.aH];exact⟨Int.le_refl _,Int.le_trans (eR []) (m7 (l:=[]) (by simp) (by simp))⟩
    ·intro _;simp only[I.aH];exact fQ
    ·simp only[I.aH];intro h;omega
    ·simp only[I.aH];intro h;omega
   ·cases he
  ·rename_i b aN o ro len cap hs
   split at he
   ·rename_i dx off code cQ kind t aA
    cases hc:(lf sh dx&&Nat.beq kind 1&&I.beq o off&&I.beq ro (.const 0)&&I.beq cap cQ&&Nat.beq aN sh.length)with
    |false=>rw[hc]at he;cases he
    |true=>
     rw[hc]at he
     simp only[cond_true]at he
     split at he
     ·rename_i l1 hr
      simp only[Option.some.injEq]at he
      subst he
      simp only[Bool.and_eq_true]at hc
      obtain⟨⟨⟨⟨⟨c1,bb⟩,bJ⟩,cg⟩,dK⟩,fe⟩:=hc
      have c1:=rk c1;have bb:=Nat.eq_of_beq_eq_true bb;have bJ:=I.beq_eq bJ;have cg:=I.beq_eq cg;have dK:=I.beq_eq dK;have fe:=Nat.eq_of_beq_eq_true fe
      subst c1;subst bb;subst bJ;subst cg;subst dK;subst fe
      obtain⟨g1,g2,gs,os,g3⟩:=De h hr
      obtain⟨bf,y,h2,h3⟩:=h.t.2 s _ hs
      have bf:(A.sl b sh.length o (.const 0) len cap).ok n bl.length ρ:=bf
      obtain⟨b8,⟨cO,ev,eO,fR⟩,gh⟩:=bf
      simp only[I.aH]at gh
      have dA:(A.rows sh o code cap 1).ok n bl.length ρ:=h.b _ (List.mem_of_getElem? aA) _ (by simp)
      obtain⟨⟨ay,dM,gE⟩,eu,aZ⟩:=dA
      have jl:=h.aY.rws b sh o code cap 1 t aA (by decide)
      refine⟨λx hx=>?_,by simp[vj]at g2⊢;omega,m b::gs,o.den ρ::os,λx hx=>?_,gh,eu,jl.1,λh0=>?_,λh0=>?_,g3⟩
      ·simp only[List.mem_cons]at hx
       rcases hx with rfl|rfl|rfl|hx
       ·exact dM
       ·exact eO
       ·exact fR
       ·exact g1 x hx
      ·have GO:y=x:=Option.some.inj (h2.symm.trans hx)
       subst GO
       have h3:y=(A.sl b sh.length o (.const 0) len cap).den ρ m:=h3
       rw[h3]
       simp only[A.den,I.aH]
       split<;>simp
      ·obtain⟨gD,cells,gv,fz,k1,⟨k2,k3⟩,k4⟩:=jl.2 h0
       exact⟨gD,cells,gv,fz,k1,k3⟩
      ·exact⟨b,_,aA,rfl,mS (by decide) h0⟩
     ·cases he
   ·cases he
  ·cases he
theorem m9.mono {w:World} {tmps:Array Value} {F rH:Nat->Prop} (hF:∀g,F g->rH g):∀{l:List (Nat×List az)} {gs:List Nat} {os zs:List Int},m9 w0 w tmps F l gs os zs->m9 w0 w tmps rH l gs os zs
 |[],[],[],[],_=>trivial
 |(s,sh)::r,g::gs,o::os,code::len::cap::zs,⟨f1,f2,f3,f4,f5,f6,f7⟩=>⟨f1,f2,f3,f4,f5,λh=>hF g (f6 h),m9.mono hF f7⟩
 |_::_,[],_,_,h=>h.elim
 |_::_,_::_,[],_,h=>h.elim
 |_::_,_::_,_::_,[],h=>h.elim
 |_::_,_::_,_::_,[_],h=>h.elim
 |_::_,_::_,_::_,[_,_],h=>h.elim
 |[],_::_,_,_,h=>h.elim
 |[],[],_::_,_,h=>h.elim
 |[],[],[],_::_,h=>h.elim
theorem D3 {lo:Nat} {tm:List V} {bl:List ar}:∀{l:List (Nat×List az×TypeId)} {used:List Nat} {ls:List I} {u:List Nat},pd lo l tm bl used=some (ls,u)->∀b∈u,b∈used∨∃sh off code cap t,bl[b]?=some ([.rows sh off code cap 2],t)
 |[],used,ls,u,he=>by
  simp only[pd,Option.some.injEq,Prod.mk.injEq]at he
  obtain⟨rfl,rfl⟩:=he
  exactλb hb=> .inl hb
 |(s,sh,e)::r,used,ls,u,he=>by
  unfold pd at he
  split at he
  ·split at he
   ·rename_i l1 gF hr
    simp only[Option.some.injEq,Prod.mk.injEq]at he
    obtain⟨rfl,rfl⟩:=he
    exact D3 hr
   ·cases he
  ·rename_i b aN o ro len cap hs
   split at he
   ·rename_i dx off code cQ kind t aA
    cases hc:(lf sh dx&&Nat.beq kind 2&&I.beq o (.const 0)&&I.beq off (.const 0)&&I.beq ro (.const 0)&&I.beq cap cQ&&Nat.beq t.1 e&&Nat.beq aN sh.length&&Nat.ble lo b&& !(used.any (Nat.beq b)))with
    |false=>rw[hc]at he;cases he
    |true=>
     rw[hc]at he
     simp only[cond_true]at he
     split at he
     ·rename_i l1 gF hr
      simp only[Option.some.injEq,Prod.mk.injEq]at he
      obtain⟨rfl,rfl⟩:=he
      simp only[Bool.and_eq_true]at hc
      obtain⟨⟨⟨⟨⟨⟨⟨⟨⟨c1,bb⟩,bJ⟩,cg⟩,dK⟩,fe⟩,kv⟩,kS⟩,nR⟩,td⟩:=hc
      have bb:=Nat.eq_of_beq_eq_true bb
      subst bb
      intro b6 lr
      rcases D3 hr b6 lr with h5|h5
      ·rcases List.mem_cons.1 h5 with rfl|h5
       ·exact .inr ⟨_,_,_,_,_,aA⟩
       ·exact .inl h5
      ·exact .inr h5
     ·cases he
   ·cases he
  ·cases he
theorem G7 {i:Nat} {p:ar}:∀{us:List Nat} {bl:List ar},bl[i]?=some p->i∉us->(jL us bl)[i]?=some p
 |[],bl,h,_=>h
 |b::r,bl,h,hi=>by
  unfold jL
  split
  ·refine G7 ?_ λh=>hi (List.mem_cons_of_mem _ h)
   rw[gZ,List.getElem?_set_ne (λe=>hi (by simp[e]))];exact h
  ·exact G7 h λh=>hi (List.mem_cons_of_mem _ h)
theorem NS {N:Nat} {bg:Env} {a:Act} {w:World} {F:Nat->Prop}:∀{l:List (Nat×List az)} {gs:List Nat} {os zs:List Int} {v u:Nat} {tm:List V} {bl:List ar} {m:Nat->Nat},R w0 N bg m tm bl a w->m9 w0 w a.tmps F l gs os zs->(∀g,F g->∀(i:Nat) (p:ar),bl[i]?=some p->m i=g->a1 bg p.1<=1)->
 (∀j,j<zs.length->bg (v+j)=zs.getD j 0)->(∀j,j<os.length->bg (u+j)=os.getD j 0)->v+zs.length<=N->u+os.length<=N->
 ∃dc,(∀b,b<bl.length->dc b=m b)/\bl.length<=(headD l v u tm bl).2.length/\R w0 N bg dc (headD l v u tm bl).1 (headD l v u tm bl).2 a w/\∀(i:Nat) (p:ar),(headD l v u tm bl).2[i]?=some p->(i<bl.length/\bl[i]?=some p)∨(a1 bg p.1≠0->F (dc i))
 |[],[],[],[],v,u,tm,bl,m,h,_,_,_,_,_,_=>⟨m,λ_ _=>rfl,Nat.le_refl _,h,λi p hp=> .inl ⟨(List.getElem?_eq_some_iff.1 hp).1,hp⟩⟩
 |(s,sh)::r,g::gs,o::os,code::len::cap::zs,v,u,tm,bl,m,h,hf,hF,hv,hu,cc,FF=>by
  obtain⟨f1,f2,f3,f4,f5,f6,f7⟩:=hf
  have v0:=hv 0 (by simp)
  have v1:=hv 1 (by simp)
  have v2:=hv 2 (by simp)
  have jS:=hu 0 (by simp)
  simp only[List.getD_cons_zero,List.getD_cons_succ,Nat.add_zero]at v0 v1 v2 jS
  simp only[List.length_cons]at cc FF
  have hc:(-1:Int)<=cap/\cap<=9223372036854775807:=⟨f2.2.1.1,by have:=f2.2.1.2;omega⟩
  have hA:(A.rows sh (.var u) (.var v) (.var (v+2)) 1).ok N bl.length bg:=⟨⟨I.dN (by omega),I.dN (by omega),I.dN (by omega)⟩,by rw[I.bV,v0];exact f3,by rw[I.bV,v2];exact hc⟩
  have N6:a1 bg [A.rows sh (.var u) (.var v) (.var (v+2)) 1]<=1:=by
   simp only[a1]
   split<;>omega
  have gL:=h.aY.push (x:=([.rows sh (.var u) (.var v) (.var (v+2)) 1],(0,false))) (g:=g) h.b (λy hy=>by simp at hy;subst hy;exact hA) (λho=>by cases ho) (λdx fP code' cap' k5 he=>by
   cases he
   intro _
   simp only[I.bV,v0,v2,jS]
   refine⟨f4,λh0=>?_⟩
   obtain⟨k0,cells,t,fz,k1,k2⟩:=f5 h0
   exact⟨k0,cells,t,fz,k1,⟨f2.1.1,k2⟩,λbz=>by omega⟩) (λi p hi he=>by
   rcases Int.lt_or_le cap 0 with h0|h0
   ·refine .inr (.inr ?_)
    simp only[a1,I.bV,v2]
    rw[if_pos h0]
   ·exact .inl ⟨hF g (f6 h0) i p hi he,N6⟩)
  have hL:=cV.alloc N bg m bl ([A.rows sh (.var u) (.var v) (.var (v+2)) 1],(0,false)) g
  have hR:R w0 N bg (iu m bl.length g) (nE tm s (.w (.one (.sl bl.length sh.length (.var u) (.const 0) (.var (v+1)) (.var (v+2)))))) (bl++[([.rows sh (.var u) (.var v) (.var (v+2)) 1],(0,false))]) a w:=by
   refine⟨cW.set (h.t.ext hL.ha hL.hn hL.hb hL.hm) ?_ λx hx=>?_,h.d,h.b.alloc (λy hy=>by simp at hy;subst hy;exact hA),gL⟩
   ·refine⟨by simp,⟨I.dN (by omega),I.ch _ _,I.dN (by omega),I.dN (by omega)⟩,?_⟩
    simp only[I.aH,I.bV,v1,v2,jS];exact f2
   ·rw[f1 x hx]
    simp only[V.rel,W.den,A.den,I.aH,I.bV,v1,v2,jS,jq]
    split<;>simp
  obtain⟨dc,q1,aP,bA,cM⟩:=NS (F:=F) (l:=r) (gs:=gs) (os:=os) (zs:=zs) (v:=v+3) (u:=u+1) hR f7 (λgA pz i p hi he=>by
   rw[List.getElem?_append]at hi
   split at hi
   ·rename_i fi
    rw[ja fi]at he
    exact hF gA pz i p hi he
   ·have fi:=(List.getElem?_eq_some_iff.1 hi).1
    have:i=bl.length:=by simp at fi;omega
    subst this
    simp only[Nat.sub_self,List.getElem?_cons_zero,Option.some.injEq]at hi
    subst hi
    exact N6) (λj hj=>by
   have:=hv (j+3) (by simp only[List.length_cons];omega)
   rw[show v+3+j=v+(j+3) by omega];simpa using this) (λj hj=>by
   have:=hu (j+1) (by simp only[List.length_cons];omega)
   rw[show u+1+j=u+(j+1) by omega];simpa using this) (by omega) (by omega)
  simp only[List.length_append,List.length_cons,List.length_nil]at q1 aP
  refine⟨dc,λb hb=>by rw[q1 b (by omega)];exact ja hb,by unfold headD;omega,by unfold headD;exact bA,λi p hp=>?_⟩
  unfold headD at hp
  rcases cM i p hp with⟨iX,la⟩|iX
  ·simp only[List.length_append,List.length_cons,List.length_nil]at iX
   rw[List.getElem?_append]at la
   split at la
   ·rename_i fi;exact .inl ⟨fi,la⟩
   ·rename_i fi
    have hi:i=bl.length:=by omega
    subst hi
    simp only[Nat.sub_self,List.getElem?_cons_zero,Option.some.injEq]at la
    subst la
    refine .inr λh0=>?_
    rw[q1 bl.length (by omega),jq]
    refine f6 ?_
    rcases Int.lt_or_le cap 0 with h1|h1
    ·refine absurd ?_ h0
     simp only[a1,I.bV,v2]
     rw[if_pos h1]
    ·exact h1
  ·exact .inr iX
 |_::_,[],_,_,_,_,_,_,_,_,h,_,_,_,_,_=>h.elim
 |_::_,_::_,[],_,_,_,_,_,_,_,h,_,_,_,_,_=>h.elim
 |_::_,_::_,_::_,[],_,_,_,_,_,_,h,_,_,_,_,_=>h.elim
 |_::_,_::_,_::_,[_],_,_,_,_,_,_,h,_,_,_,_,_=>h.elim
 |_::_,_::_,_::_,[_,_],_,_,_,_,_,_,h,_,_,_,_,_=>h.elim
 |[],_::_,_,_,_,_,_,_,_,_,h,_,_,_,_,_=>h.elim
 |[],[],_::_,_,_,_,_,_,_,_,h,_,_,_,_,_=>h.elim
 |[],[],[],_::_,_,_,_,_,_,_,h,_,_,_,_,_=>h.elim
theorem NU {li:dI} {n:Nat} {bC ae:Env} {m0 m':Nat->Nat} {tm bH iZ rm:List V} {bl aK di kQ:List ar} {l1 l2 v1 v2 dw ea hZ:List I} {bo cj wo om:List (Int×Int)} {n':Nat} {a:Act} {w:World} {NA ND NN:Nat} {gs:List Nat} {os:List Int}
 (hlen:bl.length<=aK.length)
 (ha:agree n bC ae) (hm:∀b,b<bl.length->m' b=m0 b) (ht:∀v∈tm,V.ok n bl.length bC v) (lu:b4 n bl.length bC bl)
 (h:R w0 n' ae m' bH aK a w) (e1:hs li.dZ li.ints 0 (n+1) tm=some (iZ,l1,bo)) (e2:hb li.cells 0 (n+1+l1.length) bl=some (di,l2,cj))
 (e3:hs li.dZ li.ints 0 (n+1) bH=some (rm,v1,wo)) (eC:hb li.cells 0 (n+1+v1.length) (aK.take bl.length)=some (kQ,v2,om))
 (f1:jD iZ rm=true) (f2:jC di kQ=true) (NC:wc a.tmps li.mH (dw.map (·.den ae))) (Cc:sK w0 w a.tmps (λg=>(∀(i:Nat) (p:ar),i<bl.length->aK[i]?=some p->m' i=g->a1 ae p.1=0)/\¬∃(i:Nat) (p:ar),aK[i]?=some p/\m' i=g/\a1 ae p.1=1) li.lQ (ea.map (·.den ae)))
 (xh:m9 w0 w a.tmps (λg=>∃(i:Nat) (p:ar),aK[i]?=some p/\m' i=g/\a1 ae p.1=1) li.jo gs os (hZ.map (·.den ae)))
 (Nb:NA=n+1+l1.length+l2.length+dw.length) (Nc:ND=n+1+l1.length+l2.length+(dw++ea).length) (Nd:NN=n+1+l1.length+l2.length+(dw++ea++hZ).length):
 bd (bo++cj++(Bv li.mH++s5 li.lQ++vj li.jo)) ((v1++v2++(dw++ea++hZ)).map (·.den ae))/\∃dc,(∀b,b<bl.length->dc b=m0 b)/\bl.length<=(nv li.lQ NA (headD li.jo ND NN (oE li.mH (n+1+l1.length+l2.length) iZ) di).1 (headD li.jo ND NN (oE li.mH (n+1+l1.length+l2.length) iZ) di).2).2.length/\
  R w0 (NN+li.jo.length) (bn (bn bC (n+1) ((v1++v2++(dw++ea++hZ)).map (·.den ae))) NN os) dc (nv li.lQ NA (headD li.jo ND NN (oE li.mH (n+1+l1.length+l2.length) iZ) di).1 (headD li.jo ND NN (oE li.mH (n+1+l1.length+l2.length) iZ) di).2).1 (nv li.lQ NA (headD li.jo ND NN (oE li.mH (n+1+l1.length+l2.length) iZ) di).1 (headD li.jo ND NN (oE li.mH (n+1+l1.length+l2.length) iZ) di).2).2 a w:=by
 obtain⟨Xb,i1,i2,i3,i4⟩:=NT (ext:=dw++ea++hZ) hlen ha hm ht lu h e1 e2 e3 eC f1 f2
 obtain⟨WA,ahT⟩:=xh.len
 subst Nb;subst Nc;subst Nd
 have xa:∀j,j<(dw++ea++hZ).length->bn bC (n+1) ((v1++v2++(dw++ea++hZ)).map (·.den ae)) (n+1+l1.length+l2.length+j)=((dw++ea++hZ).map (·.den ae)).getD j 0:=λj hj=>by
  rw[show n+1+l1.length+l2.length+j=n+1+(v1.length+v2.length+j) by omega,yo _ _ _ _ (by simp at hj⊢;omega)]
  rw[List.map_append (l₁:=v1++v2),List.getD_eq_getElem?_getD,List.getElem?_append_right (by simp),List.getD_eq_getElem?_getD]
  congr 2
  simp
 generalize OB:bn bC (n+1) ((v1++v2++(dw++ea++hZ)).map (·.den ae))=bg at*
 have mM:agree (n+1+l1.length+l2.length+(dw++ea++hZ).length) bg (bn bg (n+1+l1.length+l2.length+(dw++ea++hZ).length) os):=agree.bn os _ bg
 have Xu:=i2.later (Nat.le_add_right _ li.jo.length) mM
 have F5:∀j,j<(dw++ea++hZ).length->bn bg (n+1+l1.length+l2.length+(dw++ea++hZ).length) os (n+1+l1.length+l2.length+j)=((dw++ea++hZ).map (·.den ae)).getD j 0:=λj hj=>by
  rw[<-xa j hj]
  exact(mM _ (by omega))
 have Ck:∀(i:Nat) (p:ar),di[i]?=some p->a1 (bn bg (n+1+l1.length+l2.length+(dw++ea++hZ).length) os) p.1=a1 bg p.1:=λi p hi=>nz (i2.b p (List.mem_of_getElem? hi)) mM
 generalize Xt:bn bg (n+1+l1.length+l2.length+(dw++ea++hZ).length) os=ee at*
 have hB:=NR (v:=n+1+l1.length+l2.length) Xu NC (λj hj=>by
  simp only[List.length_map]at hj
  rw[F5 j (by simp;omega),List.append_assoc,List.map_append,List.getD_eq_getElem?_getD,List.getElem?_append_left (by simpa using hj),List.getD_eq_getElem?_getD]) (by simp;omega)
 obtain⟨fE,p1,aS,bR,cY⟩:=NS (v:=n+1+l1.length+l2.length+(dw++ea).length) (u:=n+1+l1.length+l2.length+(dw++ea++hZ).length) hB xh (λg hg i p hi he=>by
  obtain⟨g1,cn,g2,g3⟩:=i4 i p hi
  rw[Ck i p hi,g3]
  obtain⟨j,q,q1,aP,bA⟩:=hg
  rcases h.aY.inj i j cn q g2 q1 (by rw[aP,<-he,hm i g1])with bz|bz|bz|bz
  ·subst bz
   rw[g2]at q1;cases q1
   omega
  ·exact bz.1
  ·omega
  ·omega) (λj hj=>by
  simp only[List.length_map]at hj
  rw[show n+1+l1.length+l2.length+(dw++ea).length+j=n+1+l1.length+l2.length+((dw++ea).length+j) by omega,F5 _ (by simp at hj⊢;omega),List.map_append (l₁:=dw++ea),List.getD_eq_getElem?_getD,List.getElem?_append_right (by simp),List.getD_eq_getElem?_getD]
  congr 2
  simp) (λj hj=>by rw[<-Xt,yo _ _ _ _ hj]) (by simp only[List.length_map,List.length_append];omega) (by rw[WA];exact Nat.le_refl _)
 obtain⟨dc,q1,aP,bA⟩:=NQ (v:=n+1+l1.length+l2.length+dw.length) bR Cc (λg hg i p hi he=>by
  rcases cY i p hi with⟨g0,g1⟩|g1
  ·obtain⟨iz,cn,g2,g3⟩:=i4 i p g1
   rw[Ck i p g1,g3]
   exact hg.1 i cn iz g2 (by rw[hm i iz,<-p1 i g0];exact he)
  ·by_cases h0:a1 ee p.1=0
   ·exact h0
   ·have:=g1 h0
    rw[he]at this
    exact absurd this hg.2) (λj hj=>by
  simp only[List.length_map]at hj
  rw[show n+1+l1.length+l2.length+dw.length+j=n+1+l1.length+l2.length+(dw.length+j) by omega,F5 _ (by simp;omega),List.append_assoc,List.map_append,List.getD_eq_getElem?_getD,List.getElem?_append_right (by simp),List.map_append,List.getElem?_append_left (by simp;omega),List.getD_eq_getElem?_getD]
  congr 2
  simp) (by simp;omega)
 refine⟨?_,dc,λb hb=>by rw[q1 b (by rw[i3]at aS;omega),p1 b (by rw[i3];exact hb)],by rw[i3]at aS;omega,bA⟩
 rw[List.map_append,List.map_append (l₁:=dw++ea),List.map_append (l₁:=dw)]
 exact oO i1 (oO (oO (OG NC) (OF Cc)) (OH xh))
theorem Ei {a b c:Nat} (h:a=c) (h':b=c):b=a:=h'.trans h.symm
theorem YJ {li:dI} {c:Code} {e:Nat->List V->List ar->nM->T} (hd:rd=none∨jm c=true) (he:DH rd S L w0 P c e) {Q:Exit->Act->World->Prop} {n:Nat} {ρ:Env} {m:Nat->Nat} {tm:List V} {bl:List ar} {a:Act} {w:World} {G:c5} {k:nM}
 (h:R w0 n ρ m tm bl a w) (ah:(Hn li e n tm bl k).holds S L G ρ) (hk:we S L w0 k n bl.length ρ m G Q):(Code.loop c).wpIn (m6 rd) 0 P Q a w:=by
 unfold Hn at ah
 obtain⟨Q7,Px,LX,Oe,Nx,⟨hz1,CB⟩,ah⟩:=Ih (S:=S) (L:=L) h G _ ah
 have hk:=hk.later (⟨Oe,Nx,by rw[CB];exact Nat.le_refl _,λ_ _=>rfl⟩:cV n bl.length ρ m Px LX.length Q7 m) (dg.refl _ G)
 clear h
 have h:=hz1
 clear hz1 CB Oe Nx
 revert h hk ah
 generalize Px=n
 generalize Q7=ρ
 generalize LX=bl
 intro ah hk h
 obtain⟨bC,ey,tm,lZ,qJ,GD,ah⟩:=y4 (S:=S) (L:=L) h.t G _ ah
 have zb:=h.later lZ qJ
 have h:R w0 ey bC m tm bl a w:=⟨GD,zb.d,zb.b,zb.aY⟩
 have hk:=hk.later (⟨lZ,qJ,Nat.le_refl _,λ_ _=>rfl⟩:cV n bl.length ρ m ey bl.length bC m) (dg.refl _ G)
 obtain⟨ax,aG,dw,eD,dj,⟨s1,s2,kG⟩,ah⟩:=Ej (S:=S) (L:=L) h.t G _ ah
 have h1:=h.later eD dj
 have hk:=hk.later (⟨eD,dj,Nat.le_refl _,λ_ _=>rfl⟩:cV ey bl.length bC m aG bl.length ax m) (dg.refl _ G)
 split at ah
 rotate_left
 ·exact ah.elim
 rename_i iZ l1 bo ea us hZ e1 My S7
 obtain⟨bh,a2,_,_,a5⟩:=Bj h1 My
 obtain⟨k1,k2,k3⟩:=G8 (us:=us) h1
 obtain⟨ay,dM,gs,os,gE⟩:=De h1 S7
 cases e2:hb li.cells 0 (aG+1+l1.length) (jL us bl)with
 |none=>rw[e2]at ah;exact ah.elim
 |some aP=>
  obtain⟨di,l2,cj⟩:=aP
  rw[e2]at ah
  simp only at ah
  cases hf:(jD iZ iZ&&jC di di)with
  |false=>rw[hf]at ah;exact ah.elim
  |true=>
   rw[hf]at ah
   simp only[Bool.not_true,cond_false,T.holds]at ah
   simp only[Bool.and_eq_true]at hf
   obtain⟨cz,dh,FA,hB⟩:=ah
   have Cy:∀v∈tm,V.ok aG (jL us bl).length ax v:=λv hv=>by
    obtain⟨i,hi⟩:=List.getElem?_of_mem hv
    exact(k1.t.2 i v hi).1
   have yX:hb li.cells 0 (aG+1+l1.length) ((jL us bl).take (jL us bl).length)=some (di,l2,cj):=by rw[List.take_length];exact e2
   have Cb:sK w0 w a.tmps (λg=>(∀(i:Nat) (p:ar),i<(jL us bl).length->(jL us bl)[i]?=some p->m i=g->a1 ax p.1=0)/\¬∃(i:Nat) (p:ar),(jL us bl)[i]?=some p/\m i=g/\a1 ax p.1=1) li.lQ (ea.map (·.den ax)):=by
    refine a5 _ λb p hb _ aA hQ iQ=>?_
    have key:∀(i:Nat) (q:ar),(jL us bl)[i]?=some q->m i=m b->a1 ax q.1=0:=λi q hi he=>by
     rcases k3 i q hi with⟨g1,g2⟩|g1
     ·by_cases gr:i=b
      ·subst gr
       rw[aA]at g1;cases g1
       rcases g2 hb with g2|g2
       ·rw[iQ]at g2;cases g2
       ·exact g2
      ·rcases h1.aY.inj i b q p g1 aA he with g3|g3|g3|g3
       ·exact absurd g3 gr
       ·omega
       ·exact g3
       ·omega
     ·exact g1
    exact⟨λi q _ hi he=>key i q hi he,λ⟨i,q,hi,he,hk⟩=>by have:=key i q hi he;omega⟩
   have xh:m9 w0 w a.tmps (λg=>∃(i:Nat) (p:ar),(jL us bl)[i]?=some p/\m i=g/\a1 ax p.1=1) li.jo gs os (hZ.map (·.den ax)):=by
    refine gE.mono λg ⟨i,p,hi,he,hk⟩=>⟨i,p,G7 hi λhu=>?_,he,hk⟩
    rcases D3 My i hu with bz|⟨sh,off,code,cap,t,bz⟩
    ·simp at bz
    ·rw[hi]at bz
     cases bz
     simp only[a1]at hk
     split at hk<;>omega
   obtain⟨i1,dc,i2,i3,i4⟩:=NU (Nat.le_refl _) (agree.refl aG ax) (λ_ _=>rfl) Cy k1.b k1 e1 e2 e1 yX hf.1 hf.2 kG Cb xh rfl rfl rfl
   generalize Nd:aG+1+l1.length+l2.length+(dw++ea++hZ).length=NN at*
   generalize Nc:aG+1+l1.length+l2.length+(dw++ea).length=ND at*
   generalize Nb:aG+1+l1.length+l2.length+dw.length=NA at*
   generalize VO:headD li.jo ND NN (oE li.mH (aG+1+l1.length+l2.length) iZ) di=d at*
   refine wpIn_loop_ghost (λN da w'=>∃zs os dc,bd (bo++cj++(Bv li.mH++s5 li.lQ++vj li.jo)) zs/\cz zs/\dh zs=N/\(os.length=li.jo.length/\∀z∈os,0<=z)/\(∀b,b<(jL us bl).length->dc b=m b)/\
    R w0 (NN+li.jo.length) (bn (bn ax (aG+1) zs) NN os) dc (nv li.lQ NA d.1 d.2).1 (nv li.lQ NA d.1 d.2).2 da w') (dh ((l1++l2++(dw++ea++hZ)).map (·.den ax))) ⟨_,os,dc,i1,FA,rfl,xh.len,i2,i4⟩ ?_
   rintro N bh cC ⟨zs,HJ,dc,hz1,CB,rfl,⟨Xo,Xp⟩,Xm,Xn⟩
   have qL:=natsM_holds (jX hB hz1 CB) Xo Xp
   refine he hd _ _ _ _ _ _ _ bh cC _ Xn qL λx n' ae m' bH aK c2 da w' h1 h2 h3 h4=>?_
   have tD:agree aG ax (bn ax (aG+1) zs):=(agree.bn _ (aG+1) ax).mono (by omega)
   have Vz:agree aG ax (bn (bn ax (aG+1) zs) NN HJ):=tD.trans (agree.bn HJ NN _) (by omega)
   have FC:cV aG bl.length ax m (NN+li.jo.length) (nv li.lQ NA d.1 d.2).2.length (bn (bn ax (aG+1) zs) NN HJ) dc:=⟨by omega,Vz,by rw[k2]at i3;exact i3,λb hb=>Xm b (by rw[k2];exact hb)⟩
   have pt:dg aG G (G.set aG λvs=>cz vs/\dh vs<dh zs):=λl hl=>by
    unfold c5.set
    cases hb:Nat.beq l aG with
    |true=>have:=Nat.eq_of_beq_eq_true hb;omega
    |false=>rfl
   have hL:=FC.trans h1
   have Fz:c2 aG=λvs=>cz vs/\dh vs<dh zs:=by
    rw[h2 aG (by omega)]
    unfold c5.set
    have:Nat.beq aG aG=true:=Nat.beq_refl aG
    rw[this];rfl
   cases x with
   |exit id=>exact hk (.exit id) n' ae m' bH aK c2 da w' hL (pt.trans h2 (by omega)) h3 h4
   |ret=>exact hk .ret n' ae m' bH aK c2 da w' hL (pt.trans h2 (by omega)) h3 h4
   |normal=>
    simp only at h4
    obtain⟨Kk,Hx,bH,Oa,Nu,W1,h4⟩:=y4 (S:=S) (L:=L) h3.t c2 _ h4
    have Ft:=h3.later Oa Nu
    have h3:R w0 Hx Kk m' bH aK da w':=⟨W1,Ft.d,Ft.b,Ft.aY⟩
    have hL:=hL.trans (⟨Oa,Nu,Nat.le_refl _,λ_ _=>rfl⟩:cV n' aK.length ae m' Hx aK.length Kk m')
    obtain⟨oi,x1,OU,dF,cK,⟨t1,t2,t3⟩,h4⟩:=Ej (S:=S) (L:=L) h3.t c2 _ h4
    have h3:=h3.later dF cK
    split at h4
    rotate_left
    ·exact h4.elim
    rename_i rm v1 wo He iG O9 e3 S6 S8
    obtain⟨c1,bb,_,cg,dK⟩:=Bj h3 S6
    obtain⟨d1,d2,ahB,PA,d3⟩:=De h3 S8
    cases eC:hb li.cells 0 (aG+1+v1.length) (aK.take bl.length)with
    |none=>rw[eC]at h4;exact h4.elim
    |some cM=>
     obtain⟨kQ,v2,om⟩:=cM
     rw[eC]at h4
     simp only at h4
     cases gM:(jD iZ rm&&jC di kQ)with
     |false=>rw[gM]at h4;exact h4.elim
     |true=>
      rw[gM]at h4
      simp only[cond_true,T.holds,Fz]at h4
      simp only[Bool.and_eq_true]at gM
      have FD:=hL.trans (⟨dF,cK,Nat.le_refl _,λ_ _=>rfl⟩:cV Hx aK.length Kk m' x1 aK.length oi m')
      have Vy:sK w0 w' da.tmps (λg=>(∀(i:Nat) (p:ar),i<(jL us bl).length->aK[i]?=some p->m' i=g->a1 oi p.1=0)/\¬∃(i:Nat) (p:ar),aK[i]?=some p/\m' i=g/\a1 oi p.1=1) li.lQ (He.map (·.den oi)):=by
       refine dK _ λb p hb _ aA hQ iQ=>⟨λi q fi hi he=>?_,λ⟨i,q,hi,he,hk⟩=>?_⟩
       ·have qK:bl.length<=b:=by
         rcases cg b hb with h|h
         ·simp at h
         ·exact h
        rw[k2]at fi
        rcases h3.aY.inj i b q p hi aA he with g3|g3|g3|g3
        ·omega
        ·omega
        ·exact g3
        ·omega
       ·rcases h3.aY.inj i b q p hi aA he with g3|g3|g3|g3
        ·subst g3
         rw[hi]at aA;cases aA
         omega
        ·omega
        ·omega
        ·omega
      obtain⟨cf,uw,jK,kb,mR⟩:=NU (NA:=NA) (ND:=ND) (NN:=NN) (by rw[k2];exact FD.hb) FD.ha (λb hb=>FD.hm b (by rw[k2]at hb;exact hb)) Cy k1.b h3 e1 e2 e3 (by rw[k2];exact eC) gM.1 gM.2 t3 Vy d3 (by have:=t2;have:=Ei s2 t2;omega) (by have:=Ei s2 t2;simp only[List.length_append]at*;omega) (by have:=Ei s2 t2;simp only[List.length_append]at*;omega)
      rw[VO]at mR
      exact⟨_,h4.2,_,PA,uw,cf,h4.1,rfl,d3.len,jK,mR⟩
theorem toL {ops:Array Oper}:ops.toList.toArray=ops:=Array.toArray_toList
theorem Fh (N:Nat):∀(i:Nat) (bl:List ar),(fp N i bl).length=bl.length
 |_,[]=>rfl
 |i,_::r=>by simp[fp,Fh N (i+1) r]
theorem wR (N:Nat):∀(i:Nat) (bl:List ar) (k:Nat) (p:ar),(fp N i bl)[k]?=some p->p=dO∨(i+k<N/\(bu p.1||pG p.1)=true/\bl[k]?=some p)
 |_,[],k,p,h=>by simp[fp]at h
 |i,q::r,0,p,h=>by
  simp only[fp,List.getElem?_cons_zero,Option.some.injEq]at h
  cases hc:(Nat.blt i N&&(bu q.1||pG q.1))with
  |false=>rw[hc]at h;exact .inl h.symm
  |true=>
   rw[hc]at h
   simp only[cond_true]at h
   subst h
   simp only[Bool.and_eq_true]at hc
   exact .inr ⟨by simpa using mF hc.1,hc.2,rfl⟩
 |i,q::r,k+1,p,h=>by
  rcases wR N (i+1) r k p (by simpa [fp]using h)with h1|⟨h1,h2,h3⟩
  ·exact .inl h1
  ·exact .inr ⟨by omega,h2,by simpa using h3⟩
theorem PK:∀{a b:List ar},preB a b=true->∀(k:Nat) (p:ar),a[k]?=some p->b[k]?=some p
 |[],_,_,_,_,h=>by simp at h
 |(c,t)::r,(c',t')::s,hf,k,p,h=>by
  simp only[preB,Bool.and_eq_true]at hf
  obtain⟨⟨⟨h1,h2⟩,h3⟩,h4⟩:=hf
  cases k with
  |zero=>
   have e1:=wu h1;have e2:=Nat.eq_of_beq_eq_true h2;have e3:t.2=t'.2:=by simpa using h3
   have:t=t':=Prod.ext e2 e3
   subst e1;subst this
   simpa using h
  |succ k=>have:=PK h4 k p (by simpa using h);simpa using this
 |_::_,[],h,_,_,_=>by simp[preB]at h
theorem XC {c:List A} (h:pG c=true):∃sh off code cap,c=[.rows sh off code cap 1]:=by
 unfold pG at h
 split at h
 ·rename_i sh off code cap k
  have:=Nat.eq_of_beq_eq_true h
  subst this
  exact⟨sh,off,code,cap,rfl⟩
 ·cases h
def Dk (ρ bg:Env) (c:List A):Prop:=∀sh off code cap k,c=[.rows sh off code cap k]->off.den bg=off.den ρ/\code.den bg=code.den ρ/\cap.den bg=cap.den ρ
theorem OP {ρ bg:Env} {c:List A} (h:(bu c||pG c)=true) (hr:Dk ρ bg c):a1 bg c=a1 ρ c:=by
 rcases Bool.or_eq_true _ _▸h with h|h
 ·rw[ik h,ik h]
 ·obtain⟨sh,off,code,cap,rfl⟩:=XC h
  simp only[a1,(hr sh off code cap 1 rfl).2.2]
theorem Mem.sub {ρ bg:Env} {m dc:Nat->Nat} {bl jg:List ar} {w:World} (h:Mem w0 ρ m bl w) (hs:∀(i:Nat) (p:ar),jg[i]?=some p->p=dO∨(bl[i]?=some p/\(bu p.1||pG p.1)=true/\dc i=m i/\p.1.map (A.den bg dc)=p.1.map (A.den ρ m)/\Dk ρ bg p.1)):Mem w0 bg dc jg w:=by
 have iP:a1 bg dO.1=0:=by simp[dO,a1]
 refine⟨h.ext,h.fs,h.gU,h.fX,h.dW,h.fg,λi cs t hi ho=>?_,λi sh off code cap kind t hi=>?_,λi j p q hi hj he=>?_⟩
 ·rcases hs i _ hi with h1|⟨h1,_,h3,h4,_⟩
  ·cases h1;simp[bu]at ho
  ·rw[h3,h4];exact h.dV i cs t h1 ho
 ·rcases hs i _ hi with h1|⟨h1,h2,h3,_,h5⟩
  ·cases h1;intro hk;exact absurd rfl hk
  ·obtain⟨e1,e2,e3⟩:=h5 sh off code cap kind rfl
   have:=h.rws i sh off code cap kind t h1
   unfold m8 at this⊢
   rw[e1,e2,e3,h3];exact this
 ·rcases hs i _ hi with h1|⟨h1,h2,h3,_,h5⟩
  ·subst h1;exact .inr (.inr (.inl iP))
  ·rcases hs j _ hj with g1|⟨g1,g2,g3,_,g5⟩
   ·subst g1;exact .inr (.inr (.inr iP))
   ·rw[OP h2 h5,OP g2 g5]
    exact h.inj i j p q h1 g1 (by rw[<-h3,<-g3];exact he)
theorem b4.fp {n nb:Nat} {ρ:Env} {bl:List ar} (h:b4 n nb ρ bl) (N:Nat):b4 n nb ρ (Go.bx.fp N 0 bl):=λp hp=>by
 obtain⟨i,hi⟩:=List.mem_iff_getElem?.1 hp
 rcases wR N 0 bl i p hi with h1|⟨_,_,h3⟩
 ·subst h1
  intro a ha
  simp only[dO,List.mem_singleton]at ha
  subst ha
  exact⟨⟨I.ch _ _,I.ch _ _,I.ch _ _⟩,⟨by simp[I.aH],by rw[I.aH];exact Int.le_trans (eR []) (m7 (by simp) (λ_ h=>by cases h))⟩,by simp[I.aH]⟩
 ·exact h p (List.mem_of_getElem? h3)
theorem P2 {n nb:Nat} {ρ ae:Env} {c:List A} (bf:∀a∈c,A.ok n nb ρ a) (ha:agree n ρ ae) (back:Bool):cond back (Dk ae ρ c) (Dk ρ ae c):=by
 have key:∀sh off code cap k,c=[.rows sh off code cap k]->off.den ae=off.den ρ/\code.den ae=code.den ρ/\cap.den ae=cap.den ρ:=λsh off code cap k hc=>by
  have:=bf _ (by rw[hc];exact List.mem_singleton.2 rfl)
  obtain⟨⟨h1,h2,h3⟩,_⟩:=this
  exact⟨I.bj ha h1,I.bj ha h2,I.bj ha h3⟩
 cases back with
 |true=>exactλsh off code cap k hc=>by obtain⟨h1,h2,h3⟩:=key sh off code cap k hc;exact⟨h1.symm,h2.symm,h3.symm⟩
 |false=>exact key
theorem VT {N:Nat} {tm:List V} {bl:List ar} {o:Oper} {a:Act} {w:World} {v:Value} (ho:Ci N tm bl o=true) (h:s3 P o a w v):(execOp a.eval o).run P w= .ok (.value v) w:=by
 rcases h with h|⟨f,args,h,_⟩
 ·exact h
 ·exfalso
  have key:∀s:Sem Value,(do pure (Next.value (<-s)):Sem Next).run P w= .ok (.enter f args) w->False:=λs hs=>by
   simp only[Sem.run_bind]at hs
   cases hx:s.run P w with
   |ok u w'=>rw[hx]at hs;simp at hs
   |halt x w'=>rw[hx]at hs;simp at hs
  unfold Ci at ho
  split at ho
  ·rename_i op t x y u dB;exact key (eqGuard op t x y (a.eval x) (a.eval y) >>= λ_=>binOp op t (a.eval x) (a.eval y)) (by simpa [execOp,dB]using h)
  ·rename_i t x i dB;exact key (Instr.indexAt t (a.eval x) (a.eval i)) (by simpa [execOp,dB]using h)
  ·rename_i t x lo hi b7 dB;exact key (Instr.sliceAt t (a.eval x) (lo.map a.eval) (hi.map a.eval) (b7.map a.eval)) (by simpa [execOp,dB]using h)
  ·rename_i t p dB;exact key (Instr.loadAt t (a.eval p)) (by simpa [execOp,dB]using h)
  ·cases ho
theorem VS {tm:List V} {o:Oper} {a:Act} {w:World} {v:Value} (ho:zu tm o=true) (h:s3 P o a w v):(execOp a.eval o).run P w= .ok (.value v) w:=by
 rcases h with h|⟨f,args,h,_⟩
 ·exact h
 ·exfalso
  have key:∀s:Sem Value,(do pure (Next.value (<-s)):Sem Next).run P w= .ok (.enter f args) w->False:=λs hs=>by
   simp only[Sem.run_bind]at hs
   cases hx:s.run P w with
   |ok u w'=>rw[hx]at hs;simp at hs
   |halt x w'=>rw[hx]at hs;simp at hs
  unfold zu at ho
  split at ho
  ·rename_i t x lo hi b7 dB;exact key (Instr.sliceAt t (a.eval x) (lo.map a.eval) (hi.map a.eval) (b7.map a.eval)) (by simpa [execOp,dB]using h)
  ·cases ho
theorem VU {ops:Array Oper} {N:Nat} {tm:List V} {bl:List ar} {o:Oper} {a:Act} {w:World} {v:Value} (ho:Ch N tm bl o=true) (h:s3 P o a w v):(execOp a.eval o).run P w= .ok (.value v) w:=by
 rcases h with h|⟨f,args,h,_⟩
 ·exact h
 ·exfalso
  have key:∀s:Sem Value,(do pure (Next.value (<-s)):Sem Next).run P w= .ok (.enter f args) w->False:=λs hs=>by
   simp only[Sem.run_bind]at hs
   cases hx:s.run P w with
   |ok u w'=>rw[hx]at hs;simp at hs
   |halt x w'=>rw[hx]at hs;simp at hs
  unfold Ch at ho
  split at ho
  ·rename_i x dB;simp[execOp,dB]at h
  ·rename_i x dB;simp[execOp,dB]at h
  ·rename_i x i dB;exact key (Instr.extract (a.eval x) i) (by simpa [execOp,dB]using h)
  ·rename_i s x i dB;exact key (Instr.fieldAt s (a.eval x) i) (by simpa [execOp,dB]using h)
  ·rename_i t p dB;exact key (Instr.loadAt t (a.eval p)) (by simpa [execOp,dB]using h)
  ·rename_i t x lo hi b7 dB;exact key (Instr.sliceAt t (a.eval x) (lo.map a.eval) (hi.map a.eval) (b7.map a.eval)) (by simpa [execOp,dB]using h)
  ·cases ho
theorem R7 {ops:Array Oper} {Q:Exit->Act->World->Prop} {inl:gP} (ck:eP S P gl w0 cal) (hg:bB gl w0) (ie:kq S L w0 P inl) (tz:∀c a w,¬Q (.panic c) a w)
 {N ey:Nat} {jA:List ar} {bC:Env} {m0:Nat->Nat} (cc:N<=jA.length) (lu:b4 ey jA.length bC jA):∀(f:Nat) {listed:Array Bool} {n:Nat} {ρ:Env} {m:Nat->Nat} {tm:List V} {bl:List ar} {a:Act} {w:World} {G:c5} {k:ej},
 R w0 n ρ m tm bl a w->cV ey jA.length bC m0 n bl.length ρ m->(∀(k:Nat) (p:ar),(fp N 0 jA)[k]?=some p->(fp N 0 bl)[k]?=some p)->(qu P gl cal inl ops N (fp N 0 jA) f listed n tm bl k).holds S L G ρ->gR S L w0 k n bl.length ρ m G (Q .normal)->wpAnyH P .any ops Q (λw=>Mem w0 bC m0 (fp N 0 jA) w) f listed a w:=by
 have down:∀{n:Nat} {ρ:Env} {m:Nat->Nat} {bl:List ar} {w:World},cV ey jA.length bC m0 n bl.length ρ m->(∀(k:Nat) (p:ar),(fp N 0 jA)[k]?=some p->(fp N 0 bl)[k]?=some p)->Mem w0 ρ m bl w->Mem w0 bC m0 (fp N 0 jA) w:=λhl hp hm=>by
  refine hm.sub λi p hi=>?_
  rcases wR N 0 jA i p hi with h1|⟨h1,h2,h3⟩
  ·exact .inl h1
  ·refine .inr ?_
   rcases wR N 0 _ i p (hp i p hi)with g1|⟨_,_,g3⟩
   ·subst g1;simp[dO,bu,pG]at h2
   ·exact⟨g3,h2,(hl.hm i (by omega)).symm,(oT (lu p (List.mem_of_getElem? h3)) hl.ha hl.hm).symm,P2 (lu p (List.mem_of_getElem? h3)) hl.ha true⟩
 have up:∀{n:Nat} {ρ:Env} {m:Nat->Nat} {bl:List ar} {w:World},cV ey jA.length bC m0 n bl.length ρ m->(∀(k:Nat) (p:ar),(fp N 0 jA)[k]?=some p->(fp N 0 bl)[k]?=some p)->Mem w0 bC m0 (fp N 0 jA) w->Mem w0 ρ m (fp N 0 bl) w:=λ{n ρ m bl w} hl hp hm=>by
  refine hm.sub λi p hi=>?_
  rcases wR N 0 bl i p hi with h1|⟨h1,h2,h3⟩
  ·exact .inl h1
  ·refine .inr ?_
   have hlt:i<(fp N 0 jA).length:=by rw[Fh];omega
   have hq:=hp i _ (List.getElem?_eq_getElem hlt)
   rw[hi]at hq
   have hq:p=(fp N 0 jA)[i]:=Option.some.inj hq
   have h0:(fp N 0 jA)[i]?=some p:=by rw[List.getElem?_eq_getElem hlt,hq]
   rcases wR N 0 jA i p h0 with g1|⟨_,_,g3⟩
   ·subst g1;simp[dO,bu,pG]at h2
   ·exact⟨h0,h2,hl.hm i (by omega),oT (lu p (List.mem_of_getElem? g3)) hl.ha hl.hm,P2 (lu p (List.mem_of_getElem? g3)) hl.ha false⟩
 intro f
 induction f with
 |zero=>
  intro listed n ρ m tm bl a w G k h hl hp ah hk
  unfold qu at ah
  unfold wpAnyH
  split at ah
  ·rename_i hr
   exact⟨hr,hk n ρ m tm bl G a w (cV.refl _ _ _ _) (dg.refl _ _) h ah⟩
  ·exact ah.elim
 |succ f ih=>
  intro listed n ρ m tm bl a w G k h hl hp ah hk
  unfold qu at ah
  split at ah
  ·rename_i hr
   exact⟨λ_=>hk n ρ m tm bl G a w (cV.refl _ _ _ _) (dg.refl _ _) h ah,λi hi=>by rw[hr]at hi;cases hi⟩
  ·rename_i l hl0
   split at ah
   ·rename_i i hi
    unfold NV at hi
    cases n1:Region.noSelect ops with
    |false=>rw[n1]at hi;cases hi
    |true=>
    rw[n1,cond_true]at hi
    have cE:=List.find?_some hi
    have qP:=List.mem_of_find?_eq_some hi
    simp only[Bool.and_eq_true]at cE
    cases ho:ops[i]? with
    |none=>simp only[ho]at ah;exact ah.elim
    |some o=>
     simp only[ho]at ah
     have fW:Ch N tm bl o=true∨Ci N tm bl o=true∨zu tm o=true:=by
      have:=cE.1;simp only[ho,Bool.or_eq_true,Bool.and_eq_true]at this
      rcases this with(h|h)|h
      ·exact .inl h
      ·exact .inr h.2
      ·exact .inr (.inr h.2)
     obtain⟨bH,iR,eL⟩:=y8 h.t ah
     have h:R w0 n ρ m bH bl a w:=⟨iR,h.d,h.b,h.aY⟩
     have iN:=down hl hp h.aY
     rcases eL with⟨hw,ah⟩|⟨hw,ah⟩
     ·have hlen:(fp N 0 bl).length=bl.length:=Fh N 0 bl
      obtain⟨ae,n',v,pC,ib,⟨hv,val,hr,hq⟩,xb⟩:=HW (L:=L) (bl:=fp N 0 bl) ck (by rw[hlen];exact h.b.fp N) hg ⟨w,up hl hp iN⟩ (by rw[hlen];exact iR) o G _ ah
      rw[hlen]at hv
      have hy:YieldsIf P ops (λw=>Mem w0 bC m0 (fp N 0 jA) w) o val a:= .inl ⟨hw,λw' hw'=>fW.elim (λhf=>VU (ops:=ops) hf (hq w' (up hl hp hw'))) (λhf=>hf.elim (λhf=>VT hf (hq w' (up hl hp hw'))) (λhf=>VS hf (hq w' (up hl hp hw'))))⟩
      refine wpAnyH_take ho n1 cE.2 (by simpa using qP) (λc a w hp=>absurd hp (tz _ _ _)) hy iN ?_
      have hlt:cV n bl.length ρ m n' bl.length ae m:=⟨pC,ib,Nat.le_refl _,λ_ _=>rfl⟩
      exact ih ⟨cW.put (iR.ext ib pC (Nat.le_refl _) (λ_ _=>rfl)) o.dst hv hr,by rw[put_defers];exact h.d,h.b.ext ib pC (Nat.le_refl _),h.aY.kE h.b ib⟩ (hl.trans hlt) hp xb (hk.later hlt (dg.refl _ _))
     ·refine wpAnyH_take ho n1 cE.2 (by simpa using qP) (λc a w hp=>absurd hp (tz _ _ _)) (.inr ⟨hw,rfl⟩) iN ?_
      exact ih (h.skip o.dst) hl hp ah hk
   split at ah
   ·rename_i i hi
    unfold Py at hi
    cases n1:Region.noSelect ops with
    |false=>rw[n1]at hi;cases hi
    |true=>
    rw[n1,cond_true]at hi
    have cE:=List.find?_some hi
    have qP:=List.mem_of_find?_eq_some hi
    simp only[Bool.and_eq_true]at cE
    cases ho:ops[i]? with
    |none=>simp only[ho]at ah;exact ah.elim
    |some o=>
     simp only[ho]at ah
     obtain⟨bH,iR,eL⟩:=y8 h.t ah
     have h:R w0 n ρ m bH bl a w:=⟨iR,h.d,h.b,h.aY⟩
     have iN:=down hl hp h.aY
     rcases eL with⟨_,ah⟩|⟨hw,ah⟩
     ·exact ah.elim
     ·refine wpAnyH_take ho n1 cE.2 (by simpa using qP) (λc a w hp=>absurd hp (tz _ _ _)) (.inr ⟨hw,rfl⟩) iN ?_
      exact ih (h.skip o.dst) hl hp ah hk
   unfold wpAnyH
   refine⟨λhr=>absurd hr hl0,λi hi=>?_⟩
   have cE:=allT_holds ah i hi
   unfold wpOp
   cases ho:ops[i]? with
   |none=>simp only[ho]at cE;exact cE.elim
   |some o=>
    simp only[ho]at cE⊢
    obtain⟨bH,iR,eL⟩:=y8 h.t cE
    have h:R w0 n ρ m bH bl a w:=⟨iR,h.d,h.b,h.aY⟩
    rcases eL with⟨hw,F7⟩|⟨hw,F7⟩
    ·rw[if_pos hw]
     refine .inl (Qu ck hg ie h F7 λn' ae m' bH aK c2 da w' h1 h2 h3 h4=>?_)
     cases hf:preB (fp N 0 jA) (fp N 0 aK)with
     |false=>rw[hf]at h4;exact h4.elim
     |true=>
      rw[hf,cond_true]at h4
      have r5:=hl.trans h1
      have hf:=PK hf
      exact⟨down r5 hf h3.aY,ih h3 r5 hf h4 (hk.later h1 h2)⟩
    ·rw[if_neg (by simp[hw])]
     exact⟨down hl hp h.aY,ih (h.skip o.dst) hl hp F7 hk⟩
theorem wG {inl:gP} {li:Nat->Option dI} {rounds:Nat} (hm:P.follows .mixedOrders=true) (ck:eP S P gl w0 cal) (hg:bB gl w0) (ie:kq S L w0 P inl):∀(c:Code),DH rd S L w0 P c (jB P gl cal inl li rounds c):=by
 intro c
 induction c with
 |skip=>intro hd n tm bl k G ρ m a w Q h ah hk;exact wpIn_skip (hk .normal n ρ m tm bl G a w (cV.refl _ _ _ _) (dg.refl _ _) h ah)
 |exit id=>intro hd n tm bl k G ρ m a w Q h ah hk;exact wpIn_exit (hk (.exit id) n ρ m tm bl G a w (cV.refl _ _ _ _) (dg.refl _ _) h ah)
 |ret=>intro hd n tm bl k G ρ m a w Q h ah hk;exact wpIn_ret (hk .ret n ρ m tm bl G a w (cV.refl _ _ _ _) (dg.refl _ _) h ah)
 |region id ops draw=>
  intro hd n tm bl k G ρ m a w Q h ah hk
  have FG:gR S L w0 (k .normal) n bl.length ρ m G (mj Q .normal):=λn' ae m' bH aK c2 da w' h1 h2 h3 h4=>hk .normal n' ae m' bH aK c2 da w' h1 h2 h3 h4
  cases draw with
  |false=>
   simp only[jB,cond_false]at ah
   refine ab1 hd ?_
   exact C3 ck hg ie ops.toList h ah FG
  |true=>
   simp only[jB,cond_true]at ah
   cases ht:(yn ops (zr P cal ops)&&DE P (ops.toList.take (zr P cal ops)))with
   |false=>
    simp only[ht,cond_false]at ah
    cases hsz:Nat.ble (ops.toList.filter λo=> !Ho o).length 12 with
    |false=>simp only[hsz,cond_false]at ah;exact ah.elim
    |true=>
     simp only[hsz,cond_true]at ah
     have nu:R w0 n ρ m tm bl a w.drew:=⟨h.t,h.d,h.b,h.aY.grow (World.Extends.drew (World.Extends.refl w))⟩
     refine PQ hm hd (wpAny_of_held (S:=λw=>Mem w0 ρ m (fp (zt ops tm bl) 0 bl) w) _ _ _ _ ?_)
     exact R7 ck hg ie (λc a w h=>h) (N:=zt ops tm bl) (by unfold zt;cases Hp ops<;>cases ops.toList.any CH<;>simp<;>exact Nat.min_le_left _ _) h.b ops.size nu (cV.refl _ _ _ _) (λ_ _ h=>h) ah FG
   |true=>
    simp only[ht,cond_true]at ah
    simp only[Bool.and_eq_true]at ht
    have hle:zr P cal ops<=ops.toList.length:=by
     have h1:=ht.1
     simp only[yn,Bool.and_eq_true]at h1
     simpa using Nat.le_of_ble_eq_true h1.1.1.2
    generalize zr P cal ops=hl0 at*
    have nu:R w0 n ρ m tm bl a w.drew:=⟨h.t,h.d,h.b,h.aY.grow (World.Extends.drew (World.Extends.refl w))⟩
    have key:=af2 (P:=P) (Q:=mj Q) (a:=a) (w:=w) (l:=ops.toList) (C:=λw'=>Mem w0 ρ m bl w') hl0 (ys P ops) hm (by rw[toL];exact ht.1) (λw' hw'=>nu.aY.grow hw') (λj o hj ho dt b w'=>by
     have:=agd (l:=ops.toList) (P:=P) ht.2 hj ho dt b w'
     rw[toL]at this;exact this) (by
     rw[toL]
     refine Cg ck hg h.b ⟨_,h.aY⟩ _ (Nat.le_refl _) (agree.refl _ _) h.t h.d ah λn' ae bH nd h1 h2 h3 h4 h5 ed b w' oG nW zL=>?_
     have hl:cV n bl.length ρ m n' bl.length ae m:=⟨h1,h2,Nat.le_refl _,λ_ _=>rfl⟩
     have UN:=(nu.aY.grow nW).kE h.b h2
     refine D7 (S:=S) (L:=L) (w0:=w0) (P:=P) (K:=λb w'=>wpList P ops (calm (mj Q)) (ops.toList.drop hl0) b w') oG zL nu.aY.ext.size nu.aY.dW (ops.toList.take hl0) 0 (λj hj=>?_) (by simp;exact Nat.min_eq_left (by simpa using hle)) ⟨h3,h4,h.b.ext h2 h1 (Nat.le_refl _),UN⟩ (λef p j7 hp=> .inl ?_) rfl (λt=>⟨λ⟨j,o,hj,_⟩=>by omega,λ_=>rfl⟩) h5 (λx1 oi ah0 QA agj DM LF lh k1 k2 k3 k4=>C3 ck hg ie _ k3 k4 ((FG.later hl (dg.refl _ _)).later k1 k2)) h4
     ·have Wa:j<hl0:=by simp at hj;omega
      rw[List.getElem?_take,if_pos Wa];simp
     ·rw[nz (h.b _ (List.mem_of_getElem? j7)) h2]at hp
      exact nu.aY.lt j7 hp)
    rw[toL]at key
    exact PQ hm hd key
 |seq x y Xw CD=>
  intro hd n tm bl k G ρ m a w Q h ah hk
  have tG:rd=none∨jm x=true:=hd.imp id λh=>by simp only[jm,Bool.and_eq_true]at h;exact h.1
  have oA:rd=none∨jm y=true:=hd.imp id λh=>by simp only[jm,Bool.and_eq_true]at h;exact h.2
  refine wpIn_seq (Xw tG n tm bl _ G ρ m a w _ h ah λx n' ae m' bH aK c2 da w' h1 h2 h3 h4=>?_)
  cases x with
  |normal=>exact CD oA n' bH aK k c2 ae m' da w' Q h3 h4 (hk.later h1 h2)
  |exit id=>exact hk (.exit id) n' ae m' bH aK c2 da w' h1 h2 h3 h4
  |ret=>exact hk .ret n' ae m' bH aK c2 da w' h1 h2 h3 h4
 |cond x y z CD OE=>
  intro hd n tm bl k G ρ m a w Q h ah hk
  simp only[jB]at ah
  have hx:=bO h.t x
  split at ah
  ·rename_i b hb
   rw[hb]at hx
   have cu:a.eval x= .bool (b.den ρ):=hx.2
   have tG:rd=none∨jm y=true:=hd.imp id λh=>by simp only[jm,Bool.and_eq_true]at h;exact h.1
   have oA:rd=none∨jm z=true:=hd.imp id λh=>by simp only[jm,Bool.and_eq_true]at h;exact h.2
   refine wpIn_cond cu ?_
   split at ah
   ·rename_i v
    cases v with
    |true=>simp only[cond_true]at ah;exact CD tG n tm bl k G ρ m a w Q h ah hk
    |false=>simp only[cond_false]at ah;exact OE oA n tm bl k G ρ m a w Q h ah hk
   ·simp only[T.holds]at ah
    cases hd:aR.den ρ b with
    |true=>exact CD tG n _ bl k G ρ m a w Q ⟨ym hd h.t,h.d,h.b,h.aY⟩ (ah.1 (by simpa using hd)) hk
    |false=>exact OE oA n _ bl k G ρ m a w Q ⟨ym hd h.t,h.d,h.b,h.aY⟩ (ah.2 (by simpa using hd)) hk
  ·exact ah.elim
 |block id x ih=>
  intro hd n tm bl k G ρ m a w Q h ah hk
  refine wpIn_block (ih hd n tm bl _ G ρ m a w _ h ah λx n' ae m' bH aK c2 da w' h1 h2 h3 h4=>?_)
  cases x with
  |normal=>exact hk .normal n' ae m' bH aK c2 da w' h1 h2 h3 h4
  |ret=>exact hk .ret n' ae m' bH aK c2 da w' h1 h2 h3 h4
  |exit se=>
   simp only at h4
   simp only[X.to,Exit.inBlock]
   cases hb:Nat.beq se id with
   |true=>
    simp only[hb,cond_true]at h4
    rw[if_pos (Nat.eq_of_beq_eq_true hb)]
    exact hk .normal n' ae m' bH aK c2 da w' h1 h2 h3 h4
   |false=>
    simp only[hb,cond_false]at h4
    rw[if_neg (λe=>by subst e;rw[show Nat.beq se se=true from Nat.beq_refl se]at hb;cases hb)]
    exact hk (.exit se) n' ae m' bH aK c2 da w' h1 h2 h3 h4
 |loop x ih=>
  intro hd n tm bl k G ρ m a w Q h ah hk
  simp only[jB]at ah
  split at ah
  ·exact YJ (c:=x) hd ih h ah hk
  ·exact wpIn_loop_rounds rounds (PY (c:=x) hd ih rounds h ah hk)
 |_=>intro hd n tm bl k G ρ m a w Q h ah hk;exact ah.elim
def vl (a:Act):ResultVar->Sem Value
 | .tmp t=>Pure.pure (a.tmps.getD t undef)
 | .cell x t=>do loadVar t (<-asAddr (a.tmps.getD x undef))
theorem ab3 {n:Nat} {ρ:Env} {m:Nat->Nat} {bl:List ar} {tm:List V} {a:Act} {w:World} {r:ResultVar} {u:W} (hg:bB gl w0) (h:R w0 n ρ m tm bl a w) (hr:Az P gl bl tm r=some u):
 u.ok n bl.length ρ/\(vl a r).run P w= .ok (u.den ρ m) w:=by
 cases r with
 |tmp t=>
  simp only[Az]at hr
  cases ht:tm[t]? with
  |none=>simp[ht]at hr
  |some v=>
   obtain⟨h1,x,h2,h3⟩:=h.t.2 t v ht
   simp only[ht]at hr
   cases v with
   |w adX=>
    simp only[Option.some.injEq]at hr
    subst hr
    refine⟨h1,?_⟩
    have:a.tmps.getD t undef=adX.den ρ m:=by simp[h2];exact h3
    simp only[vl,this];rfl
   |_=>simp at hr
 |cell x t=>
  simp only[Az]at hr
  cases ht:tm[x]? with
  |none=>simp[ht]at hr
  |some v=>
   obtain⟨h1,y,h2,h3⟩:=h.t.2 x v ht
   simp only[ht]at hr
   cases v with
   |eF l=>simp at hr
   |any=>simp at hr
   |k7 _ _ _=>simp at hr
   |ll _ _=>simp at hr
   |w q=>
    cases q with
    |agg l=>simp at hr
    |one p=>
     simp only at hr
     have hy:a.tmps.getD x undef=p.den ρ m:=by simp[h2];exact h3
     cases hc:wD bl gl p with
     |none=>simp[hc]at hr
     |some cs=>
      obtain⟨g,o,hp,bf,hcell⟩:=Ez h.aY h.b hg hc
      simp only[vl,hy,hp]
      cases kz:fY P t with
      |none=>simp[hc,kz]at hr
      |some b=>
       cases b with
       |true=>
        cases hs:dE P t with
        |none=>simp[hc,kz,hs]at hr
        |some k=>
         simp only[hc,kz,hs]at hr
         cases hk:Nat.ble k cs.length with
         |false=>simp[hk]at hr
         |true=>
          simp only[hk,cond_true,Option.some.injEq]at hr
          subst hr
          have hk:=Nat.le_of_ble_eq_true hk
          refine⟨λa h=>bf a (List.mem_of_mem_take h),?_⟩
          have hl:=run_loadCells_list (P:=P) w ⟨g,o,none⟩ ((cs.take k).map (A.den ρ m)) λj v hj=>by
           rw[gz]
           rw[List.getElem?_map]at hj
           cases hq:(cs.take k)[j]? with
           |none=>simp[hq]at hj
           |some a=>
            simp only[hq,Option.map_some,Option.some.injEq]at hj
            subst hj
            refine hcell j a ?_
            rw[List.getElem?_take]at hq
            split at hq
            ·exact hq
            ·cases hq
          simp only[List.length_map,List.length_take,Nat.min_eq_left hk]at hl
          simp[asAddr,loadVar,lF kz,fH hs,hl,W.den]
       |false=>
        cases cs with
        |nil=>simp[hc,kz]at hr
        |cons z r=>
         simp only[hc,kz,Option.some.injEq]at hr
         subst hr
         refine⟨bf z (by simp),?_⟩
         have:=hcell 0 z rfl
         simp only[Nat.add_zero]at this
         simp[asAddr,loadVar,lF kz,this,W.den]
theorem PU {n:Nat} {ρ:Env} {m:Nat->Nat} {bl:List ar} {tm:List V} {a:Act} {w:World} (hg:bB gl w0) (h:R w0 n ρ m tm bl a w):∀{rs:List ResultVar} {l:List W},vm P gl bl tm rs=some l->
 (∀u∈l,W.ok n bl.length ρ u)/\(rs.mapM (m:=Sem) (vl a)).run P w= .ok (l.map (W.den ρ m)) w
 |[],l,hr=>by simp[vm]at hr;subst hr;exact⟨by simp,by simp⟩
 |r::s,l,hr=>by
  simp only[vm]at hr
  cases h1:Az P gl bl tm r with
  |none=>simp[h1]at hr
  |some u=>
   cases h2:vm P gl bl tm s with
   |none=>simp[h1,h2]at hr
   |some l'=>
    simp only[h1,h2,Option.some.injEq]at hr
    subst hr
    have e1:=ab3 hg h h1
    have e2:=PU hg h h2
    refine⟨λx hx=>by rcases List.mem_cons.1 hx with rfl|hx;exact e1.1;exact e2.1 x hx,?_⟩
    rw[List.mapM_cons,Sem.run_bind]
    simp only[e1.2,e2.2,Result.andThen_ok,Sem.run_bind,Sem.run_pure,List.map_cons]
theorem H5 {fn:Func} {n:Nat} {ρ:Env} {m:Nat->Nat} {bl:List ar} {tm:List V} {a:Act} {w:World} {k:RK} {G:c5} (hg:bB gl w0) (h:R w0 n ρ m tm bl a w) (ah:(Ay P gl fn n tm bl k).holds S L G ρ):
 ∃v val,V.ok n bl.length ρ v/\v.rel ρ m val/\(results fn a.tmps).run P w= .ok val w/\(k n v bl).holds S L G ρ:=by
 unfold Ay at ah
 cases hr:vm P gl bl tm fn.results.toList with
 |none=>
  simp only[hr]at ah
  cases ho:HE tm fn.results.toList with
  |none=>simp[ho,T.holds]at ah
  |some v=>
   simp only[ho]at ah
   obtain⟨t,e,hv⟩:∃t,fn.results.toList=[.tmp t]/\tm[t]?=some v:=by
    unfold HE at ho
    split at ho
    ·rename_i t he
     refine⟨t,he,?_⟩
     split at ho<;>first|(cases ho;assumption)|cases ho
    ·cases ho
   obtain⟨h1,x,h2,h3⟩:=h.t.2 t v hv
   refine⟨v,x,h1,h3,?_,ah⟩
   have qF:fn.results=#[.tmp t]:=by rw[<-Array.toArray_toList (xs:=fn.results),e]
   have ex:a.tmps.getD t undef=x:=by simp[h2]
   have e:results fn a.tmps=(do let vs<-fn.results.mapM (vl a);Pure.pure (if h:vs.size=1 then vs[0]else .tuple vs)):=by
    unfold results
    congr 1
   rw[e,qF,Array.mapM_eq_mapM_toList]
   simp[Sem.run_bind,Sem.run_map,Result.andThen_ok,vl,h2]
 |some l=>
  obtain⟨h1,h2⟩:=PU hg h hr
  have hrun:(results fn a.tmps).run P w= .ok (if h:(l.map (W.den ρ m)).toArray.size=1 then(l.map (W.den ρ m)).toArray[0]else .tuple (l.map (W.den ρ m)).toArray) w:=by
   have e:results fn a.tmps=(do let vs<-fn.results.mapM (vl a);Pure.pure (if h:vs.size=1 then vs[0]else .tuple vs)):=by
    unfold results
    congr 1
   rw[e,Array.mapM_eq_mapM_toList]
   simp only[Sem.run_bind,Sem.run_map,Result.andThen_ok,h2,Sem.run_pure]
  simp only[hr]at ah
  split at ah
  ·rename_i u heq
   have heq:=Option.some.inj heq
   subst heq
   exact⟨.w u,_,h1 u (by simp),rfl,by rw[hrun];simp,ah⟩
  ·rename_i l' hne heq
   have heq:=Option.some.inj heq
   subst heq
   refine⟨.eF l,_,h1,rfl,?_,ah⟩
   rw[hrun,dif_neg]
   intro hs
   simp at hs
   match l,hs,hne with
   |[u],_,hne=>exact hne u rfl
  ·rename_i heq;cases heq
theorem DX {ρ:Env} {m:Nat->Nat}:∀{vs:List V} {xs:List Value},dn ρ m vs xs->vs.length=xs.length
 |[],[],_=>rfl
 |_::_,_::_,h=>by simp[DX h.2]
 |[],_::_,h=>h.elim
 |_::_,[],h=>h.elim
theorem DV {n nb:Nat} {ρ:Env} {m:Nat->Nat} (k:Nat):∀{vs:List V} {xs:List Value},(∀v∈vs,V.ok n nb ρ v)->dn ρ m vs xs->sZ n nb ρ m (vs++x9 k) (xs++List.replicate k undef)
 |[],[],_,_=>by
  simp only[List.nil_append]
  induction k with
  |zero=>trivial
  |succ k ih=>exact⟨by intro x hx;simp at hx,rfl,ih⟩
 |v::r,x::s,h,hr=>⟨h v (by simp),hr.1,DV k (λu hu=>h u (List.mem_cons_of_mem _ hu)) hr.2⟩
 |[],_::_,_,h=>h.elim
 |_::_,[],_,h=>h.elim
theorem LZ (kV:w0.ds=[]) {li:FuncId->Nat->Option dI} {rounds:Nat} {inl:gP} (hm:P.follows .mixedOrders=true) (ck:eP S P gl w0 cal) (hg:bB gl w0) (ih:kq S L w0 P inl):kq S L w0 P (Bu P gl cal inl li rounds):=by
 intro f n vs bl k G ρ m w xs R' hb iB mQ hrel ah hk
 unfold Bu at ah
 cases hf:P.funcs[f]? with
 |none=>simp[hf,T.holds]at ah
 |some fn=>
  cases qL:fn.body with
  |none=>simp[hf,qL,T.holds]at ah
  |some c=>
   simp only[hf,qL]at ah
   cases hc:(!(fn.name== "runtime.NumGoroutine")&&Nat.ble vs.length fn.ntmps)with
   |false=>simp[hc,T.holds]at ah
   |true=>
    simp only[hc,cond_true]at ah
    simp only[Bool.and_eq_true,Bool.not_eq_true']at hc
    have hlen:=DX hrel
    refine⟨?_,calls_of_wp hf qL ?_⟩
    ·have h1:¬fn.name= "runtime.NumGoroutine" :=by have:=hc.1;simpa using this
     simp[callFunc,hf,qL,h1]
    ·have hR:R w0 n ρ m (vs++x9 (fn.ntmps-vs.length)) bl {tmps:=xs.toArray++Array.replicate (fn.ntmps-xs.toArray.size) undef,defers:=[]} w:=by
      refine⟨?_,kV.symm,hb,iB⟩
      have:=Bi (DV (fn.ntmps-vs.length) mQ hrel)
      have e:(xs++List.replicate (fn.ntmps-vs.length) undef).toArray=xs.toArray++Array.replicate (fn.ntmps-xs.toArray.size) undef:=by
       simp[hlen]
      rw[e]at this
      exact this
     refine wpIn_wide.1 (wG (rd:=none) hm ck hg ih c (.inl rfl) n _ bl _ G ρ m _ w _ hR ah λx n' ae m' bH aK c2 da w' h1 h2 h3 h4=>?_)
     cases x with
     |exit id=>exact h4.elim
     |normal=>
      obtain⟨v,val,p1,aS,bR,cY⟩:=H5 hg h3 h4
      exact⟨h3.d.trans kV,val,bR,hk n' v aK c2 ae m' w' val h1 h2 p1 aS h3.b h3.aY cY⟩
     |ret=>
      obtain⟨v,val,p1,aS,bR,cY⟩:=H5 hg h3 h4
      exact⟨h3.d.trans kV,val,bR,hk n' v aK c2 ae m' w' val h1 h2 p1 aS h3.b h3.aY cY⟩
theorem Mc (kV:w0.ds=[]) {li:FuncId->Nat->Option dI} {rounds:Nat} (hm:P.follows .mixedOrders=true) (ck:eP S P gl w0 cal) (hg:bB gl w0):∀d,kq S L w0 P (BC P gl cal li rounds d)
 |0=>λf n vs bl k G ρ m w xs R' _ _ _ _ ah _=>ah.elim
 |d+1=>LZ kV hm ck hg (Mc kV hm ck hg d)
def lN (S:Nat->List Int->List Int->Prop) (L:V->Env->Prop) (w0:cP) (P:Program) (bc:ia):Prop:=
 ∀f g,bc f=some g->∀n vs bl k G ρ m w xs R',b4 n (List.length bl) ρ bl->Mem w0 ρ m bl w->(∀v∈vs,V.ok n bl.length ρ v)->dn ρ m vs xs->(g n vs bl k).holds S L G ρ->rO S L w0 k n bl.length ρ m G R'->
  (callFunc f xs.toArray).run P w= .ok (.enter f xs.toArray) w/\Calls P f xs.toArray w R'
theorem aar {bc:ia} {inl:gP} (fB:lN S L w0 P bc) (h:kq S L w0 P inl):kq S L w0 P (HH bc inl):=by
 intro f n vs bl k G ρ m w xs R' h1 h2 h3 h4 h5 h6
 unfold HH at h5
 cases hf:bc f with
 |none=>rw[hf]at h5;exact h f n vs bl k G ρ m w xs R' h1 h2 h3 h4 h5 h6
 |some g=>rw[hf]at h5;exact fB f g hf n vs bl k G ρ m w xs R' h1 h2 h3 h4 h5 h6
theorem wC (kV:w0.ds=[]) {bc:ia} {li:FuncId->Nat->Option dI} {rounds:Nat} (hm:P.follows .mixedOrders=true) (ck:eP S P gl w0 cal) (hg:bB gl w0) (fB:lN S L w0 P bc):∀d,kq S L w0 P (qA bc P gl cal li rounds d)
 |0=>λf n vs bl k G ρ m w xs R' _ _ _ _ ah _=>ah.elim
 |d+1=>LZ kV hm ck hg (aar fB (wC kV hm ck hg fB d))
theorem Mem.extends {b w w':World} {ρ:Env} {m:Nat->Nat} {bl:List ar} (h:Mem ⟨b,w,λ_=>False,λ_=>False,[]⟩ ρ m bl w'):w.Extends w':=by
 have lV:∀i:Nat,i<w.heap.size->w'.heap[i]?=w.heap[i]?:=λi hi=>h.fg i hi id
 exact⟨h.fs,h.gU,h.fX,h.dW,λa ha=>by simp only[World.cell?,lV a.block ha],λa ha=>by simp only[World.frozen?,lV a.block ha],lV⟩
theorem SG {b w:World} {li:FuncId->Nat->Option dI} {rounds d:Nat} (hm:P.follows .mixedOrders=true) (ck:eP S P gl ⟨b,w,λ_=>False,λ_=>False,[]⟩ cal) (hg:bB gl ⟨b,w,λ_=>False,λ_=>False,[]⟩) (f:FuncId) (n:Nat) (vs:List V) (ρ:Env) (xs:List Value) (he:b.Extends w)
 (mQ:∀v∈vs,V.ok n 0 ρ v) (hrel:dn ρ (λ_=>0) vs xs) (ah:(BC P gl cal li rounds d f n vs [] λn' v _=> .leaf v).holds S (λv ae=>L v ae) (λ_ _=>False) ρ):
 Calls P f xs.toArray w λe w'=>∃v ae m val nb,e= .returned val/\v.rel ae m val/\(∃n',V.ok n' nb ae v)/\L v ae/\w.Extends w':=by
 have iB:Mem ⟨b,w,λ_=>False,λ_=>False,[]⟩ ρ (λ_=>0) [] w:=⟨he,rfl,rfl,rfl,Nat.le_refl _,λ_ _ _=>rfl,λi cs t h=>by simp at h,λi sh off code cap kind t h=>by simp at h,λi j p q h=>by simp at h⟩
 refine(Mc rfl (L:=L) (li:=li) (rounds:=rounds) hm ck hg d f n vs [] (λn' v _=> .leaf v) (λ_ _=>False) ρ (λ_=>0) w xs _ (λp hp=>by simp at hp) iB mQ hrel ah ?_).2
 intro n' v aK c2 ae m' w' val h1 h2 h3 h4 h5 h6 h7
 exact⟨v,ae,m',val,_,rfl,h4,⟨n',h3⟩,h7,h6.extends⟩
end
end Go.bx
namespace Go.bx
open M
def az.sym (s:Nat):az->A
 |int k lo hi=> .int k ⟨.var s,lo,hi⟩
 |str=> .str (.var s)
 |bool=> .bool (.eq (.var s) (.const 1))
inductive D where
 |str
 |int (k:IntKind) (lo hi:Int)
 |bool
 |agg (k:IntKind) (n:Nat) (lo hi:Int)
 |mix (l:List az)
 |rl (l:List UInt8)
 |oN (k:IntKind) (c:Int)
def fj (lo hi:Int):Nat->List (Int×Int)
 |0=>[]
 |n+1=>(lo,hi)::fj lo hi n
noncomputable def D.bds:D->List (Int×Int)
 |str=>[(0,gn)]
 |int _ lo hi=>[(lo,hi)]
 |bool=>[(0,1)]
 |agg _ n lo hi=>fj lo hi n
 |mix l=>l.map az.dJ
 |rl _=>[]
 |oN .. =>[]
def D.num:D->Nat
 |str=>1
 |int .. =>1
 |bool=>1
 |agg _ n _ _=>n
 |mix l=>l.length
 |rl _=>0
 |oN .. =>0
def D.val:D->List Int->Value
 |str,zs=> .string (cJ (aI (zs.getD 0 0)))
 |int k _ _,zs=> .int k (zs.getD 0 0)
 |bool,zs=> .bool (decide (zs.getD 0 0=1))
 |agg k n _ _,zs=> .agg ((zs.take n).map (.int k)).toArray
 |mix l,zs=> .agg (List.zipWith az.val l zs).toArray
 |rl l,_=> .string (cJ (n5 l))
 |oN k c,_=> .int k c
def x8 (k:IntKind) (lo hi:Int):Nat->Nat->List A
 |_,0=>[]
 |s,n+1=> .int k ⟨.var s,lo,hi⟩::x8 k lo hi (s+1) n
def x0:Nat->List az->List A
 |_,[]=>[]
 |s,c::r=>c.sym s::x0 (s+1) r
def D.sym (s:Nat):D->W
 |str=> .one (.str (.var s))
 |int k lo hi=> .one (.int k ⟨.var s,lo,hi⟩)
 |bool=> .one (.bool (.eq (.var s) (.const 1)))
 |agg k n lo hi=> .agg (x8 k lo hi s n)
 |mix l=> .agg (x0 s l)
 |rl l=> .one (.str (.const (fT (n5 l))))
 |oN k c=> .one (.int k (a6.const c))
noncomputable def cr:List D->List (Int×Int)
 |[]=>[]
 |d::r=>d.bds++cr r
def kI:List D->List Int->List Value
 |[],_=>[]
 |d::r,zs=>d.val zs::kI r (zs.drop d.num)
def qa:Nat->List D->List W
 |_,[]=>[]
 |s,d::r=>d.sym s::qa (s+d.num) r
theorem ny:∀{b:List (Int×Int)} {l:List Int},bd b l->l.length=b.length
 |[],[],_=>rfl
 |_::_,_::_,h=>by simp[ny h.2.2]
 |[],_::_,h=>h.elim
 |_::_,[],h=>h.elim
theorem PS (lo hi:Int):∀n,(fj lo hi n).length=n
 |0=>rfl
 |n+1=>by simp[fj,PS lo hi n]
theorem D.yL (d:D):d.bds.length=d.num:=by cases d<;>simp[D.bds,D.num,PS]
theorem CE:∀{b b6:List (Int×Int)} {l:List Int},bd (b++b6) l->bd b (l.take b.length)/\bd b6 (l.drop b.length)
 |[],_,_,h=>⟨trivial,h⟩
 |_::_,_,_::_,h=>by
  have ih:=CE h.2.2
  exact⟨⟨h.1,h.2.1,ih.1⟩,ih.2⟩
 |_::_,_,[],h=>h.elim
def fw (ρ:Env) (s:Nat) (zs:List Int):Prop:=∀j,j<zs.length->ρ (s+j)=zs.getD j 0
theorem fw.bn (ρ:Env) (s:Nat) (zs:List Int):fw (bn ρ s zs) s zs:=λj hj=>yo zs s ρ j hj
theorem fw.tail {ρ:Env} {s:Nat} {z:Int} {zs:List Int} (h:fw ρ s (z::zs)):ρ s=z/\fw ρ (s+1) zs:=by
 refine⟨by simpa using h 0 (by simp),λj hj=>?_⟩
 have:=h (j+1) (by simpa using hj)
 rw[show s+1+j=s+(j+1) by omega,this];simp
theorem fw.drop {ρ:Env} {s:Nat} {zs:List Int} (h:fw ρ s zs) (k:Nat):fw ρ (s+k) (zs.drop k):=λj hj=>by
 have:=h (k+j) (by simp at hj;omega)
 rw[show s+k+j=s+(k+j) by omega,this]
 simp[List.getD]
theorem PR {ρ:Env} {m:Nat->Nat} {N nb:Nat} {k:IntKind} {lo hi:Int}:∀(n s:Nat) (zs:List Int),bd (fj lo hi n) (zs.take n)->fw ρ s zs->s+n<=N->
 (∀a∈x8 k lo hi s n,A.ok N nb ρ a)/\(x8 k lo hi s n).map (A.den ρ m)=(zs.take n).map (.int k)
 |0,s,zs,_,_,_=>by simp[x8]
 |n+1,s,[],h,_,_=>by simp[fj,bd]at h
 |n+1,s,z::zs,h,ha,cc=>by
  have ht:=ha.tail
  simp only[fj,List.take_succ_cons,bd]at h
  obtain⟨h1,h2⟩:=PR (m:=m) (nb:=nb) (k:=k) (N:=N) n (s+1) zs h.2.2 ht.2 (by omega)
  refine⟨λa hm=>?_,by simp only[x8,List.map_cons,A.den,I.bV,ht.1,h2,List.take_succ_cons]⟩
  rcases List.mem_cons.1 hm with rfl|hm
  ·exact⟨I.dN (by omega),by simp only[I.bV,ht.1];exact h.1,by simp only[I.bV,ht.1];exact h.2.1⟩
  ·exact h1 a hm
theorem az.AI {ρ:Env} {m:Nat->Nat} {N nb:Nat} (c:az) {s:Nat} {z:Int} (h0:c.dJ.1<=z) (h1:z<=c.dJ.2) (hz:ρ s=z) (cc:s<N):(c.sym s).ok N nb ρ/\(c.sym s).den ρ m=c.val z:=by
 cases c with
 |int k lo hi=>exact⟨⟨I.dN cc,by simp only[I.bV,hz];exact h0,by simp only[I.bV,hz];exact h1⟩,by simp[az.sym,az.val,A.den,I.bV,hz]⟩
 |str=>exact⟨⟨I.dN cc,by rw[I.bV,hz];exact h0,by rw[I.bV,hz];exact h1⟩,by simp[az.sym,az.val,A.den,I.bV,hz]⟩
 |bool=>exact⟨⟨I.dN cc,I.ch _ _⟩,by simp[az.sym,az.val,A.den,aR.den,I.bV,I.aH,hz]⟩
theorem Po {ρ:Env} {m:Nat->Nat} {N nb:Nat}:∀(l:List az) (s:Nat) (zs:List Int),bd (l.map az.dJ) (zs.take l.length)->fw ρ s zs->s+l.length<=N->
 (∀a∈x0 s l,A.ok N nb ρ a)/\(x0 s l).map (A.den ρ m)=List.zipWith az.val l zs
 |[],s,zs,_,_,_=>by simp[x0]
 |_::_,s,[],h,_,_=>by simp[bd]at h
 |c::r,s,z::zs,h,ha,cc=>by
  have ht:=ha.tail
  simp only[List.map_cons,List.length_cons,List.take_succ_cons,bd]at h
  obtain⟨h1,h2⟩:=Po (m:=m) (nb:=nb) (N:=N) r (s+1) zs h.2.2 ht.2 (by simp at cc;omega)
  have hc:=c.AI (m:=m) (nb:=nb) (N:=N) h.1 h.2.1 ht.1 (by simp at cc;omega)
  refine⟨λa hm=>?_,by simp only[x0,List.map_cons,hc.2,h2,List.zipWith_cons_cons]⟩
  rcases List.mem_cons.1 hm with rfl|hm
  ·exact hc.1
  ·exact h1 a hm
theorem D.AI {ρ:Env} {m:Nat->Nat} {N nb:Nat} (d:D) {s:Nat} {zs:List Int} (h:bd d.bds (zs.take d.num)) (ha:fw ρ s zs) (cc:s+d.num<=N):(d.sym s).ok N nb ρ/\(d.sym s).den ρ m=d.val zs:=by
 cases d with
 |str=>
  cases zs with
  |nil=>simp[D.bds,bd]at h
  |cons z r=>
   have ht:=ha.tail
   simp only[D.bds,D.num,List.take_succ_cons,bd]at h
   simp only[D.num]at cc
   exact⟨⟨I.dN (by omega),by rw[I.bV,ht.1];exact h.1,by rw[I.bV,ht.1];exact h.2.1⟩,by simp[D.sym,W.den,A.den,D.val,I.bV,ht.1]⟩
 |int k lo hi=>
  cases zs with
  |nil=>simp[D.bds,bd]at h
  |cons z r=>
   have ht:=ha.tail
   simp only[D.bds,D.num,List.take_succ_cons,bd]at h
   simp only[D.num]at cc
   exact⟨⟨I.dN (by omega),by simp only[I.bV,ht.1];exact h.1,by simp only[I.bV,ht.1];exact h.2.1⟩,by simp[D.sym,W.den,A.den,D.val,I.bV,ht.1]⟩
 |bool=>
  cases zs with
  |nil=>simp[D.bds,bd]at h
  |cons z r=>
   have ht:=ha.tail
   simp only[D.num]at cc
   exact⟨⟨I.dN (by omega),I.ch _ _⟩,by simp[D.sym,W.den,A.den,D.val,aR.den,I.bV,I.aH,ht.1]⟩
 |agg k n lo hi=>
  have:=PR (m:=m) (nb:=nb) (k:=k) n s zs h ha cc
  exact⟨this.1,by simp only[D.sym,W.den,D.val,this.2]⟩
 |mix l=>
  have:=Po (m:=m) (nb:=nb) l s zs h ha cc
  exact⟨this.1,by simp only[D.sym,W.den,D.val,this.2]⟩
 |rl l=>exact⟨⟨I.ch _ _,by rw[I.aH];exact XW l⟩,by simp[D.sym,W.den,A.den,D.val,I.aH,ri]⟩
 |oN k c=>exact⟨a6.j1 _ _ c,by simp[D.sym,W.den,A.den,D.val,a6.const,I.aH]⟩
theorem IK {ρ:Env} {m:Nat->Nat} {N nb:Nat}:∀(ds:List D) {s:Nat} {zs:List Int},bd (cr ds) zs->fw ρ s zs->s+(cr ds).length<=N->(∀u∈qa s ds,W.ok N nb ρ u)/\(qa s ds).map (W.den ρ m)=kI ds zs
 |[],s,zs,_,_,_=>by simp[qa,kI]
 |d::r,s,zs,h,ha,cc=>by
  have hs:=CE h
  rw[D.yL]at hs
  simp only[cr,List.length_append,D.yL]at cc
  have h1:=d.AI (m:=m) (nb:=nb) hs.1 ha (N:=N) (by omega)
  have h2:=IK (m:=m) (nb:=nb) (N:=N) r hs.2 (ha.drop d.num) (by omega)
  exact⟨λu hu=>by rcases List.mem_cons.1 hu with rfl|hu;exact h1.1;exact h2.1 u hu,by simp[qa,kI,h1.2,h2.2]⟩
def yc (ds:List D) (s:Nat):V:=match qa s ds with|[u]=> .w u|l=> .eF l
def lE (ds:List D) (zs:List Int):Value:=match kI ds zs with|[x]=>x|l=> .tuple l.toArray
def lS (lo hi:Int) (x:a6):Bool:=decide (lo<=x.lo)&&decide (x.hi<=hi)
def jE (k:IntKind) (lo hi:Int):List A->Option (List I)
 |[]=>some []
 | .int aM x::r=>cond (decide (k=aM)&&lS lo hi x) (match jE k lo hi r with|some l=>some (x.l::l)|none=>none) none
 |_::_=>none
def az.fit:az->A->Option I
 |int k lo hi,.int aM x=>cond (decide (k=aM)&&lS lo hi x) (some x.l) none
 |str,.str l=>some l
 |bool,.bool (.lit b)=>some (.const (cond b 1 0))
 |_,_=>none
def mL:List az->List A->Option (List I)
 |[],[]=>some []
 |c::r,a::s=>match c.fit a,mL r s with|some x,some l=>some (x::l)|_,_=>none
 |_,_=>none
def tq:D->V->Option (List I)
 | .int k lo hi,.w (.one (.int aM x))=>cond (decide (k=aM)&&lS lo hi x) (some [x.l]) none
 | .agg k n lo hi,.w (.agg l)=>cond (Nat.beq l.length n) (jE k lo hi l) none
 | .mix l,.w (.agg s)=>mL l s
 | .str,.w (.one (.str l))=>some [l]
 | .bool,.w (.one (.bool (.lit b)))=>some [.const (cond b 1 0)]
 | .rl l,.w (.one (.str x))=>match x.cT with|some c=>cond (decide (c=fT (n5 l))) (some []) none|none=>none
 | .oN k c,.w (.one (.int aM x))=>match x.l.cT with|some d=>cond (decide (k=aM)&&decide (d=c)) (some []) none|none=>none
 |_,_=>none
def nj:List D->List V->Option (List I)
 |[],[]=>some []
 |d::r,v::s=>match tq d v,nj r s with|some a,some b=>some (a++b)|_,_=>none
 |_,_=>none
theorem y3 {n:Nat} {ρ:Env} {lo hi:Int} {x:a6} (h:lS lo hi x=true) (hx:x.ok n ρ):lo<=x.l.den ρ/\x.l.den ρ<=hi:=by
 simp only[lS,Bool.and_eq_true,decide_eq_true_eq]at h
 have:=hx.2;omega
theorem E9 {n nb:Nat} {ρ:Env} {m:Nat->Nat} {k:IntKind} {lo hi:Int}:∀{l:List A} {r:List I},jE k lo hi l=some r->(∀a∈l,A.ok n nb ρ a)->r.length=l.length/\bd (fj lo hi l.length) (r.map (·.den ρ))/\l.map (A.den ρ m)=(r.map (·.den ρ)).map (.int k)
 |[],r,h,_=>by simp[jE]at h;subst h;exact⟨rfl,trivial,rfl⟩
 | .int aM x::s,r,h,bf=>by
  simp only[jE]at h
  cases hc:(decide (k=aM)&&lS lo hi x)with
  |false=>simp[hc]at h
  |true=>
   simp only[hc,cond_true]at h
   simp only[Bool.and_eq_true,decide_eq_true_eq]at hc
   cases hr:jE k lo hi s with
   |none=>simp[hr]at h
   |some r'=>
    simp only[hr,Option.some.injEq]at h
    subst h
    obtain⟨h1,h2,h3⟩:=E9 (m:=m) hr λa ha=>bf a (List.mem_cons_of_mem _ ha)
    have hx:x.ok n ρ:=bf (.int aM x) (by simp)
    have hf:=y3 hc.2 hx
    exact⟨by simp[h1],⟨hf.1,hf.2,h2⟩,by simp only[List.map_cons,h3,A.den,hc.1]⟩
 | .bool _::_,_,h,_=>by simp[jE]at h
 | .ptr .. ::_,_,h,_=>by simp[jE]at h
 | .kj .. ::_,_,h,_=>by simp[jE]at h
 | .gptr .. ::_,_,h,_=>by simp[jE]at h
 | .slc .. ::_,_,h,_=>by simp[jE]at h
 | .con _::_,_,h,_=>by simp[jE]at h
 | .str _::_,_,h,_=>by simp[jE]at h
theorem az.Tp {n nb:Nat} {ρ:Env} {m:Nat->Nat} {c:az} {a:A} {l:I} (h:c.fit a=some l) (bf:a.ok n nb ρ):(c.dJ.1<=l.den ρ/\l.den ρ<=c.dJ.2)/\a.den ρ m=c.val (l.den ρ):=by
 unfold az.fit at h
 split at h
 ·rename_i k lo hi aM x
  cases hc:(decide (k=aM)&&lS lo hi x)with
  |false=>simp[hc]at h
  |true=>
   simp only[hc,cond_true,Option.some.injEq]at h
   subst h
   simp only[Bool.and_eq_true,decide_eq_true_eq]at hc
   exact⟨y3 hc.2 bf,by simp only[A.den,az.val,hc.1]⟩
 ·simp only[Option.some.injEq]at h;subst h
  exact⟨bf.2,rfl⟩
 ·rename_i b
  simp only[Option.some.injEq]at h;subst h
  cases b<;>simp[az.dJ,az.val,A.den,aR.den,I.aH]
 ·cases h
theorem MS {n nb:Nat} {ρ:Env} {m:Nat->Nat}:∀{d:List az} {l:List A} {r:List I},mL d l=some r->(∀a∈l,A.ok n nb ρ a)->r.length=d.length/\bd (d.map az.dJ) (r.map (·.den ρ))/\l.map (A.den ρ m)=List.zipWith az.val d (r.map (·.den ρ))
 |[],[],r,h,_=>by simp[mL]at h;subst h;exact⟨rfl,trivial,rfl⟩
 |c::d,a::s,r,h,bf=>by
  simp only[mL]at h
  cases hx:c.fit a with
  |none=>simp[hx]at h
  |some x=>
   cases hr:mL d s with
   |none=>simp[hx,hr]at h
   |some r'=>
    simp only[hx,hr,Option.some.injEq]at h
    subst h
    obtain⟨h1,h2,h3⟩:=MS (m:=m) hr λa ha=>bf a (List.mem_cons_of_mem _ ha)
    have hf:=az.Tp (m:=m) hx (bf a (by simp))
    exact⟨by simp[h1],⟨hf.1.1,hf.1.2,h2⟩,by simp only[List.map_cons,h3,hf.2,List.zipWith_cons_cons]⟩
 |[],_::_,_,h,_=>by simp[mL]at h
 |_::_,[],_,h,_=>by simp[mL]at h
theorem Qx {n:Nat} {ρ:Env} {l:List UInt8} {x:I} {c:Int} (hc:x.cT=some c) (h:c=fT (n5 l)):aI (x.den ρ)=n5 l:=by rw[I.fU hc,h,ri]
theorem MP {n nb:Nat} {ρ:Env} {m:Nat->Nat} {d:D} {v:V} {r:List I} {x:Value} (h:tq d v=some r) (bf:v.ok n nb ρ) (hx:v.rel ρ m x):r.length=d.num/\bd d.bds (r.map (·.den ρ))/\∀zs,d.val ((r.map (·.den ρ))++zs)=x:=by
 unfold tq at h
 split at h
 ·rename_i k lo hi aM y
  cases hc:(decide (k=aM)&&lS lo hi y)with
  |false=>simp[hc]at h
  |true=>
   simp only[hc,cond_true,Option.some.injEq]at h
   subst h
   simp only[Bool.and_eq_true,decide_eq_true_eq]at hc
   have hf:=y3 hc.2 bf
   simp only[V.rel,W.den,A.den]at hx
   exact⟨rfl,⟨hf.1,hf.2,trivial⟩,λzs=>by simp[D.val,hx,hc.1]⟩
 ·rename_i k n' lo hi l
  cases hc:Nat.beq l.length n' with
  |false=>simp[hc]at h
  |true=>
   simp only[hc,cond_true]at h
   have hl:=Nat.eq_of_beq_eq_true hc
   subst hl
   obtain⟨h1,h2,h3⟩:=E9 (m:=m) h bf
   simp only[V.rel,W.den]at hx
   exact⟨h1,h2,λzs=>by rw[hx,h3];simp only[D.val];rw[List.take_append_of_le_length (by simp[h1]),List.take_of_length_le (by simp[h1])]⟩
 ·rename_i l s
  obtain⟨h1,h2,h3⟩:=MS (m:=m) h bf
  simp only[V.rel,W.den]at hx
  refine⟨h1,h2,λzs=>?_⟩
  rw[hx,h3]
  simp only[D.val]
  congr 2
  have key:∀(a:List az) (b c:List Int),b.length=a.length->List.zipWith az.val a (b++c)=List.zipWith az.val a b:=by
   intro a
   induction a with
   |nil=>intro b c _;simp
   |cons p a ih=>
    intro b c hb
    cases b with
    |nil=>simp at hb
    |cons z b=>simp[ih b c (by simpa using hb)]
  exact key _ _ _ (by simp[h1])
 ·rename_i l
  simp only[Option.some.injEq]at h;subst h
  simp only[V.rel,W.den,A.den]at hx
  exact⟨rfl,⟨bf.2.1,bf.2.2,trivial⟩,λzs=>by rw[hx];rfl⟩
 ·rename_i b
  simp only[Option.some.injEq]at h;subst h
  simp only[V.rel,W.den,A.den,aR.den]at hx
  cases b<;>exact⟨rfl,by simp[D.bds,bd,I.aH],λzs=>by rw[hx];simp[D.val,I.aH]⟩
 ·rename_i l y
  cases hc:y.cT with
  |none=>simp[hc]at h
  |some c=>
   simp only[hc]at h
   cases hd:decide (c=fT (n5 l))with
   |false=>simp[hd]at h
   |true=>
    simp only[hd,cond_true,Option.some.injEq]at h
    subst h
    have hd:c=fT (n5 l):=by simpa using hd
    refine⟨rfl,trivial,λzs=>?_⟩
    have hx:x= .string (cJ (aI (y.den ρ))):=hx
    rw[hx,Qx (n:=n) hc hd];rfl
 ·rename_i k c aM y
  cases hc:y.l.cT with
  |none=>simp[hc]at h
  |some d=>
   simp only[hc]at h
   cases hd:(decide (k=aM)&&decide (d=c))with
   |false=>simp[hd]at h
   |true=>
    simp only[hd,cond_true,Option.some.injEq]at h
    subst h
    simp only[Bool.and_eq_true,decide_eq_true_eq]at hd
    refine⟨rfl,trivial,λzs=>?_⟩
    have hx:x= .int aM (y.l.den ρ):=hx
    rw[hx,I.fU hc,<-hd.1,hd.2];rfl
 ·cases h
theorem Fc {n nb:Nat} {ρ:Env} {m:Nat->Nat}:∀{ds:List D} {vs:List V} {r:List I} {xs:List Value},nj ds vs=some r->(∀v∈vs,V.ok n nb ρ v)->dn ρ m vs xs->bd (cr ds) (r.map (·.den ρ))/\kI ds (r.map (·.den ρ))=xs
 |[],[],r,[],h,_,_=>by simp[nj]at h;subst h;exact⟨trivial,rfl⟩
 |d::ds,v::vs,r,x::xs,h,bf,hr=>by
  simp only[nj]at h
  cases h1:tq d v with
  |none=>simp[h1]at h
  |some a=>
   cases h2:nj ds vs with
   |none=>simp[h1,h2]at h
   |some b=>
    simp only[h1,h2,Option.some.injEq]at h
    subst h
    obtain⟨p1,aS,bR⟩:=MP (m:=m) h1 (bf v (by simp)) hr.1
    obtain⟨q1,aP⟩:=Fc h2 (λu hu=>bf u (List.mem_cons_of_mem _ hu)) hr.2
    refine⟨by rw[List.map_append];exact oO aS q1,?_⟩
    rw[List.map_append]
    simp only[kI,bR]
    rw[show d.num=(a.map (·.den ρ)).length by simp[p1],List.drop_left,aP]
 |[],_::_,_,_,h,_,_=>by simp[nj]at h
 |_::_,[],_,_,h,_,_=>by simp[nj]at h
 |[],[],_,_::_,_,_,hr=>hr.elim
 |_::_,_::_,_,[],_,_,hr=>hr.elim
structure bL where
 f:FuncId
 id:Nat
 args:List D
 res:List D
def bL.c9 (P:Program) (ag:World) (c:bL) (spec:List Int->List Int->Prop):Prop:=
 (∀args w,(callFunc c.f args).run P w= .ok (.enter c.f args) w)/\
 ∀zs,bd (cr c.args) zs->∃rs,bd (cr c.res) rs/\spec zs rs/\∀w,ag.Extends w->Calls P c.f (kI c.args zs).toArray w λe w'=>e= .returned (lE c.res rs)/\w.Extends w'
noncomputable def Fa (d:D) (v:V):M (List I):=
 match d,v with
 | .bool,.w (.one (.bool e))=>bind (uh e) λl=>pure [l]
 | .mix l,.w (.agg s)=>rh l s
 | .int k lo hi,.w (.one (.int aM x))=>cond (decide (k=aM)) (cond (lS lo hi x) (pure [x.l]) (bind (dY 39 [x.l,.const lo,.const hi]) λ_=>pure [x.l])) fail
 |d,v=>match tq d v with|some r=>pure r|none=>fail
noncomputable def BZ:List D->List V->M (List I)
 |[],[]=>pure []
 |d::r,v::s=>bind (Fa d v) λa=>bind (BZ r s) λb=>pure (a++b)
 |_,_=>fail
noncomputable def bL.M (c:bL):List ar->List V->M V:=λ_ vs n k=>
 match nj c.args vs with
 |some l=> .call c.id l n (cr c.res) (k (yc c.res n) (n+(cr c.res).length))
 |none=>BZ c.args vs n λl n=> .call c.id l n (cr c.res) (k (yc c.res n) (n+(cr c.res).length))
section
variable {S:Nat->List Int->List Int->Prop} {L:V->Env->Prop}
theorem E8 {k:IntKind} {lo hi:Int} {n nb:Nat} {ρ:Env}:∀{l:List A} {r:List I},jE k lo hi l=some r->(∀a∈l,A.ok n nb ρ a)->∀x∈r,I.aV n x
 |[],r,h,_=>by simp[jE]at h;subst h;intro x hx;simp at hx
 |a::s,r,h,bf=>by
  cases a with
  |int aM x=>
   simp only[jE]at h
   cases hc:(decide (k=aM)&&lS lo hi x)with
   |false=>simp[hc]at h
   |true=>
    cases hr:jE k lo hi s with
    |none=>simp[hc,hr]at h
    |some r'=>
     simp only[hc,hr,cond_true,Option.some.injEq]at h
     subst h
     intro y hy
     rcases List.mem_cons.1 hy with hy|hy
     ·rw[hy]
      have h0:A.ok n nb ρ (.int aM x):=bf _ (List.mem_cons_self ..)
      have h0:x.ok n ρ:=h0
      exact h0.1
     ·exact E8 hr (λa ha=>bf a (List.mem_cons_of_mem _ ha)) y hy
  |_=>simp[jE]at h
theorem MR {n nb:Nat} {ρ:Env}:∀{d:List az} {l:List A} {r:List I},mL d l=some r->(∀a∈l,A.ok n nb ρ a)->∀x∈r,I.aV n x
 |[],[],r,h,_=>by simp[mL]at h;subst h;intro x hx;simp at hx
 |c::d,a::s,r,h,bf=>by
  simp only[mL]at h
  cases hx:c.fit a with
  |none=>simp[hx]at h
  |some x=>
   cases hr:mL d s with
   |none=>simp[hx,hr]at h
   |some r'=>
    simp only[hx,hr,Option.some.injEq]at h
    subst h
    intro y hy
    rcases List.mem_cons.1 hy with hy|hy
    ·subst hy
     have h0:=bf a (by simp)
     unfold az.fit at hx
     split at hx
     ·rename_i k lo hi aM z
      cases hc:(decide (k=aM)&&lS lo hi z)with
      |false=>simp[hc]at hx
      |true=>
       simp only[hc,cond_true,Option.some.injEq]at hx
       subst hx
       have h0:z.ok n ρ:=h0
       exact h0.1
     ·simp only[Option.some.injEq]at hx;subst hx
      exact h0.1
     ·simp only[Option.some.injEq]at hx;subst hx
      exact I.ch _ _
     ·cases hx
    ·exact MR hr (λa ha=>bf a (List.mem_cons_of_mem _ ha)) y hy
 |[],_::_,_,h,_=>by simp[mL]at h
 |_::_,[],_,h,_=>by simp[mL]at h
theorem Ts {n nb:Nat} {ρ:Env} {d:D} {v:V} {r:List I} (h:tq d v=some r) (bf:v.ok n nb ρ):∀x∈r,I.aV n x:=by
 unfold tq at h
 split at h
 ·rename_i k lo hi aM y
  cases hc:(decide (k=aM)&&lS lo hi y)with
  |false=>simp[hc]at h
  |true=>
   simp only[hc,cond_true,Option.some.injEq]at h
   subst h
   have h0:y.ok n ρ:=bf
   intro x hx
   simp at hx;subst hx
   exact h0.1
 ·rename_i k n' lo hi l
  cases hc:Nat.beq l.length n' with
  |false=>simp[hc]at h
  |true=>
   simp only[hc,cond_true]at h
   exact E8 h bf
 ·exact MR h bf
 ·simp only[Option.some.injEq]at h;subst h
  intro x hx
  simp at hx;subst hx
  exact bf.1
 ·simp only[Option.some.injEq]at h;subst h
  intro x hx
  simp at hx;subst hx
  exact I.ch _ _
 ·rename_i l y
  cases hc:y.cT with
  |none=>simp[hc]at h
  |some c=>
   simp only[hc]at h
   cases hd:decide (c=fT (n5 l))with
   |false=>simp[hd]at h
   |true=>
    simp only[hd,cond_true,Option.some.injEq]at h
    subst h
    intro x hx;simp at hx
 ·rename_i k c aM y
  cases hc:y.l.cT with
  |none=>simp[hc]at h
  |some d=>
   simp only[hc]at h
   cases hd:(decide (k=aM)&&decide (d=c))with
   |false=>simp[hd]at h
   |true=>
    simp only[hd,cond_true,Option.some.injEq]at h
    subst h
    intro x hx;simp at hx
 ·cases h
theorem b5.GY:∀{sh:List az} {zs:List Int},b5 sh zs->bd (sh.map az.dJ) zs/\List.zipWith az.val sh zs=dD sh zs
 |[],[],_=>⟨trivial,rfl⟩
 |c::sh,z::zs,h=>⟨⟨h.1.1,h.1.2,(b5.GY h.2).1⟩,by simp[dD,(b5.GY h.2).2]⟩
 |[],_::_,h=>h.elim
 |_::_,[],h=>h.elim
theorem QZ {f:az->Int->Value}:∀(a:List az) (b c:List Int),b.length=a.length->List.zipWith f a (b++c)=List.zipWith f a b
 |[],b,c,_=>by simp
 |_::a,[],c,h=>by simp at h
 |_::a,z::b,c,h=>by simp[QZ a b c (by simpa using h)]
theorem Tq {d:D} {v:V} {X:Value} {n nb:Nat} {ρ:Env} {m:Nat->Nat} (hv:v.ok n nb ρ) (hX:v.rel ρ m X):ak S L (Fa d v) n ρ λae n' ls=>(∀x∈ls,I.aV n' x)/\ls.length=d.num/\bd d.bds (ls.map (·.den ae))/\∀zs,d.val ((ls.map (·.den ae))++zs)=X:=by
 unfold Fa
 split
 ·rename_i e
  have hX:X= .bool (e.den ρ):=hX
  exact CF.bind λax aG l hn ha ⟨g1,g2,g3⟩=>ak.pure ⟨λx hx=>by simp at hx;subst hx;exact g1,rfl,⟨g2.1,g2.2,trivial⟩,λzs=>by rw[hX,g3];rfl⟩
 ·rename_i l s
  have hX:X= .agg (s.map (A.den ρ m)).toArray:=hX
  refine(yd (nb:=nb) (m:=m) hv).mono λax aG ls hn ha ⟨g1,g2,g3⟩=>?_
  have h1:=b5.GY g2
  have h2:=g2.len
  refine⟨g1,by simpa [D.num]using h2,h1.1,λzs=>?_⟩
  rw[hX,<-g3,<-h1.2]
  simp only[D.val]
  rw[QZ _ _ _ (by simpa using h2)]
 ·rename_i k lo hi aM x
  have hX:X= .int aM (x.l.den ρ):=hX
  have hv:x.ok n ρ:=hv
  refine cZ λhk=>?_
  have hk:=of_decide_eq_true hk
  subst hk
  cases hf:lS lo hi x with
  |true=>
   have:=y3 hf hv
   exact ak.pure ⟨λy hy=>by simp at hy;subst hy;exact hv.1,rfl,⟨this.1,this.2,trivial⟩,λzs=>by rw[hX];rfl⟩
  |false=>
   refine eQ λhc=>ak.pure ?_
   simp only[List.map_cons,List.map_nil,U,I.aH]at hc
   exact⟨λy hy=>by simp at hy;subst hy;exact hv.1,rfl,⟨hc.1,hc.2,trivial⟩,λzs=>by rw[hX];rfl⟩
 ·split
  ·rename_i hf
   obtain⟨p1,aS,bR⟩:=MP (m:=m) hf hv hX
   exact ak.pure ⟨Ts hf hv,p1,aS,bR⟩
  ·exact ak.fail
theorem dn.ext {n nb:Nat} {ρ ae:Env} {m m':Nat->Nat}:∀{vs:List V} {xs:List Value},dn ρ m vs xs->(∀v∈vs,V.ok n nb ρ v)->agree n ρ ae->(∀b,b<nb->m' b=m b)->dn ae m' vs xs
 |[],[],_,_,_,_=>trivial
 |v::vs,x::xs,h,bf,ha,hm=>⟨V.rel.ext h.1 (bf v (by simp)) ha hm,dn.ext h.2 (λu hu=>bf u (List.mem_cons_of_mem _ hu)) ha hm⟩
 |[],_::_,h,_,_,_=>h.elim
 |_::_,[],h,_,_,_=>h.elim
theorem MQ {nb:Nat} {m:Nat->Nat}:∀{ds:List D} {vs:List V} {xs:List Value} {n:Nat} {ρ:Env},(∀v∈vs,V.ok n nb ρ v)->dn ρ m vs xs->ak S L (BZ ds vs) n ρ λae n' ls=>(∀x∈ls,I.aV n' x)/\bd (cr ds) (ls.map (·.den ae))/\kI ds (ls.map (·.den ae))=xs
 |[],[],[],n,ρ,_,_=>ak.pure ⟨λ_ h=>by simp at h,trivial,rfl⟩
 |d::ds,v::vs,x::xs,n,ρ,bf,hr=>by
  unfold BZ
  refine(Tq (nb:=nb) (bf v (by simp)) hr.1).bind λax aG a eD dj ⟨p0,p1,aS,bR⟩=>(MQ (ds:=ds) (vs:=vs) (λu hu=>(bf u (List.mem_cons_of_mem _ hu)).ext dj eD (Nat.le_refl _)) (dn.ext hr.2 (λu hu=>bf u (List.mem_cons_of_mem _ hu)) dj (λ_ _=>rfl))).bind λbg dC b dF cK ⟨gD,q1,aP⟩=>ak.pure ⟨λy hy=>?_,?_,?_⟩
  ·rcases List.mem_append.1 hy with hy|hy
   ·exact(p0 y hy).mono dF
   ·exact gD y hy
  ·have e:a.map (·.den bg)=a.map (·.den ax):=List.map_congr_left λy hy=>I.bj cK (p0 y hy)
   rw[List.map_append,e];exact oO aS q1
  ·have e:a.map (·.den bg)=a.map (·.den ax):=List.map_congr_left λy hy=>I.bj cK (p0 y hy)
   rw[List.map_append,e]
   simp only[kI,bR]
   rw[show d.num=(a.map (·.den ax)).length by simp[p1],List.drop_left,aP]
 |[],_::_,_,_,_,_,_=>ak.fail
 |_::_,[],_,_,_,_,_=>ak.fail
 |[],[],_::_,_,_,_,hr=>hr.elim
 |_::_,_::_,[],_,_,_,hr=>hr.elim
end
section
variable {S:Nat->List Int->List Int->Prop} {P:Program} {gl:c6} {w0:cP}
theorem Es {L:V->Env->Prop} {id:Nat} {l:List I} {n:Nat} {bds:List (Int×Int)} {r:T} {G:c5} {ρ:Env} (h:(T.call id l n bds r).holds S L G ρ) {rs:List Int} (hi:bd bds rs) (hs:S id (l.map (·.den ρ)) rs):r.holds S L G (bn ρ n rs):=
 jX h hi hs
theorem H6 {ρ:Env} {m:Nat->Nat} {N nb:Nat} {ds:List D} {s:Nat} {zs:List Int} (h:bd (cr ds) zs) (ha:fw ρ s zs) (cc:s+(cr ds).length<=N):(yc ds s).ok N nb ρ/\(yc ds s).rel ρ m (lE ds zs):=by
 have hs:=IK (m:=m) (nb:=nb) ds h ha cc
 unfold yc lE
 rw[<-hs.2]
 split
 ·rename_i u heq
  rw[heq]at hs
  rw[heq]
  exact⟨hs.1 u (by simp),rfl⟩
 ·rename_i l hne
  refine⟨hs.1,?_⟩
  split
  ·rename_i x heq
   have:∃u,qa s ds=[u]:=by
    cases hl:qa s ds with
    |nil=>rw[hl]at heq;simp at heq
    |cons u r=>
     cases r with
     |nil=>exact⟨u,rfl⟩
     |cons _ _=>rw[hl]at heq;simp at heq
   obtain⟨u,hu⟩:=this
   exact absurd hu (hne u)
  ·rfl
def bL.yA (P:Program) (ag:World) (c:bL) (spec:List Int->List Int->Prop):Prop:=
 ∀zs,bd (cr c.args) zs->∃rs,bd (cr c.res) rs/\spec zs rs/\∀w,ag.Extends w->yv P c.f (kI c.args zs).toArray w (lE c.res rs)
theorem bL.c9.f {ag:World} {c:bL} {spec:List Int->List Int->Prop} (h:c.c9 P ag spec):c.yA P ag spec:=λzs hz=>by
 obtain⟨rs,h1,h2,h3⟩:=h.2 zs hz
 exact⟨rs,h1,h2,λw hw=> .inr ⟨h.1 _ _,h3 w hw⟩⟩
theorem bL.snd {c:bL} {spec:List Int->List Int->Prop} (hc:c.yA P w0.b spec) (iN:∀zs rs,spec zs rs->S c.id zs rs) (L:V->Env->Prop) (n:Nat) (ρ:Env) (m:Nat->Nat) (bl:List ar) (vs:List V) (xs:List Value)
 (mQ:∀v∈vs,V.ok n bl.length ρ v) (hr:dn ρ m vs xs):ak S L (c.M bl vs) n ρ λae n' v=>v.ok n' bl.length ae/\∃val,v.rel ae m val/\∀w,Mem w0 ρ m bl w->yv P c.f xs.toArray w val:=by
 intro G k hk
 unfold bL.M at hk
 cases hl:nj c.args vs with
 |none=>
  simp only[hl]at hk
  obtain⟨ax,aG,l,eD,dj,⟨_,h1,h2⟩,hk⟩:=MQ (S:=S) (L:=L) (nb:=bl.length) mQ hr G _ hk
  obtain⟨rs,ay,dM,gE⟩:=hc _ h1
  have ah:=Es hk ay (iN _ _ dM)
  have hlen:=ny ay
  have jk:=H6 (m:=m) (nb:=bl.length) (N:=aG+(cr c.res).length) ay (fw.bn ax aG rs) (Nat.le_refl _)
  refine⟨_,_,_,Nat.le_trans eD (Nat.le_add_right _ _),dj.trans (agree.bn rs aG ax) eD,⟨jk.1,_,jk.2,λw hw=>?_⟩,ah⟩
  rw[h2]at gE
  exact gE w hw.ext
 |some l=>
  simp only[hl]at hk
  obtain⟨h1,h2⟩:=Fc hl mQ hr
  obtain⟨rs,ay,dM,gE⟩:=hc _ h1
  have ah:=Es hk ay (iN _ _ dM)
  have hlen:=ny ay
  have jk:=H6 (m:=m) (nb:=bl.length) (N:=n+(cr c.res).length) ay (fw.bn ρ n rs) (Nat.le_refl _)
  refine⟨_,_,_,Nat.le_add_right _ _,agree.bn rs n ρ,⟨jk.1,_,jk.2,λw hw=>?_⟩,ah⟩
  rw[h2]at gE
  exact gE w hw.ext
def YW:List ar->List V->M V:=λ_ vs=>
 match vs with
 |[.w (.one (.int .u64 x)),.w (.one (.int .u64 y))]=>
  cond (decide (0<=x.lo)&&decide (x.hi<18446744073709551616)&&decide (0<=y.lo)&&decide (y.hi<18446744073709551616)) (bind (mulM x y) λp=>bind (pn p 18446744073709551616) λq=>
   pure (.eF [.one (.int .u64 q),.one (.int .u64 ⟨p.l.sub (q.l.smul 18446744073709551616),0,18446744073709551615⟩)])) fail
 |_=>fail
def RZ:List ar->List V->M V:=λ_ vs=>
 match vs with
 |[.w (.one (.int .u64 x)),.w (.one (.int .u64 y)),.w (.one (.int .u64 c))]=>
  cond (decide (0<=x.lo)&&decide (0<=y.lo)&&decide (0<=c.lo)&&decide (c.hi<=1)) (bind (pn ⟨(x.l.add y.l).add c.l,x.lo+y.lo+c.lo,x.hi+y.hi+c.hi⟩ 18446744073709551616) λq=>
   pure (.eF [.one (.int .u64 ⟨((x.l.add y.l).add c.l).sub (q.l.smul 18446744073709551616),0,18446744073709551615⟩),.one (.int .u64 q)])) fail
 |_=>fail
def ady:List ar->List V->M V:=λ_ vs=>
 match vs with
 |[.w (.one (.int .u64 x)),.w (.one (.int .u64 y)),.w (.one (.int .u64 c))]=>
  cond (decide (0<=x.lo)&&decide (x.hi<18446744073709551616)&&decide (0<=y.lo)&&decide (y.hi<18446744073709551616)&&decide (0<=c.lo)&&decide (c.hi<=1)) (bind (pn ⟨(x.l.sub y.l).sub c.l,x.lo-y.hi-c.hi,x.hi-y.lo-c.lo⟩ 18446744073709551616) λq=>
   pure (.eF [.one (.int .u64 ⟨((x.l.sub y.l).sub c.l).sub (q.l.smul 18446744073709551616),0,18446744073709551615⟩),.one (.int .u64 ⟨q.l.smul (-1),0,1⟩)])) fail
 |_=>fail
variable {L:V->Env->Prop} {n:Nat} {ρ:Env} {m:Nat->Nat} {bl:List ar} {vs:List V} {xs:List Value}
end
end Go.bx
namespace Go.bx
open M
theorem pe:∀{b:List (Int×Int)} {P:List Int->Prop},(∀rs,bd b rs->P rs)->mE b P
 |[],_,h=>h [] trivial
 |(l,u)::b,P,h=>λr h1 h2=>pe (b:=b) (P:=λrs=>P (r::rs)) λrs hi=>h (r::rs) ⟨h1,h2,hi⟩
inductive O where
 |l (x:I)
 |b (x:aR)
def O.den (ρ:Env):O->Int
 |l x=>x.den ρ
 |b x=>cond (x.den ρ) 1 0
def gN (k:IntKind):List A->Option (List O)
 |[]=>some []
 | .int aM x::r=>cond (decide (k=aM)) (match gN k r with|some l=>some (.l x.l::l)|none=>none) none
 |_::_=>none
def az.out:az->A->Option O
 | .int k _ _,.int aM x=>cond (decide (k=aM)) (some (.l x.l)) none
 | .str,.str l=>some (.l l)
 | .bool,.bool e=>some (.b e)
 |_,_=>none
def mX:List az->List A->Option (List O)
 |[],[]=>some []
 |c::d,a::r=>match c.out a,mX d r with|some o,some l=>some (o::l)|_,_=>none
 |_,_=>none
def q9:D->W->Option (List O)
 | .int k _ _,.one (.int aM x)=>cond (decide (k=aM)) (some [.l x.l]) none
 | .bool,.one (.bool x)=>some [.b x]
 | .agg k n _ _,.agg l=>cond (Nat.beq l.length n) (gN k l) none
 | .str,.one (.str l)=>some [.l l]
 | .mix d,.agg l=>mX d l
 |_,_=>none
def ss:List D->List W->Option (List O)
 |[],[]=>some []
 |d::r,w::s=>match q9 d w,ss r s with|some a,some b=>some (a++b)|_,_=>none
 |_,_=>none
def outs (ds:List D):V->Option (List O)
 | .w u=>match ds with|[d]=>q9 d u|_=>none
 | .eF l=>match ds with|[_]=>none|_=>ss ds l
 |_=>none
def rJ (ds:List D) (K:List Int->Prop) (v:V) (ρ:Env):Prop:=
 match outs ds v with
 |some os=>K (os.map (O.den ρ))
 |none=>False
theorem PD {ρ:Env} {m:Nat->Nat} {k:IntKind}:∀{l:List A} {os:List O},gN k l=some os->os.length=l.length/\l.map (A.den ρ m)=(os.map (O.den ρ)).map (.int k)
 |[],os,h=>by simp[gN]at h;subst h;exact⟨rfl,rfl⟩
 | .int aM x::r,os,h=>by
  simp only[gN]at h
  by_cases hk:k=aM
  ·simp only[hk,decide_true,cond_true]at h
   cases hr:gN aM r with
   |none=>simp[hr]at h
   |some o=>
    simp only[hr,Option.some.injEq]at h
    subst h
    subst hk
    obtain⟨h1,h2⟩:=PD (ρ:=ρ) (m:=m) hr
    exact⟨by simp[h1],by simp only[List.map_cons,h2,A.den,O.den]⟩
  ·simp[hk]at h
 | .bool _::_,_,h=>by simp[gN]at h
 | .ptr .. ::_,_,h=>by simp[gN]at h
 | .kj .. ::_,_,h=>by simp[gN]at h
 | .gptr .. ::_,_,h=>by simp[gN]at h
 | .slc .. ::_,_,h=>by simp[gN]at h
 | .con _::_,_,h=>by simp[gN]at h
 | .str _::_,_,h=>by simp[gN]at h
theorem az.aav {ρ:Env} {m:Nat->Nat} {c:az} {a:A} {o:O} (h:c.out a=some o):a.den ρ m=c.val (o.den ρ):=by
 unfold az.out at h
 split at h
 ·rename_i k lo hi aM x
  by_cases hk:k=aM
  ·subst hk
   simp only[decide_true,cond_true,Option.some.injEq]at h
   subst h;rfl
  ·simp[hk]at h
 ·simp only[Option.some.injEq]at h;subst h;rfl
 ·rename_i e
  simp only[Option.some.injEq]at h;subst h
  have hb:∀b:Bool,Value.bool b=Value.bool (decide ((cond b 1 0:Int)=1)):=by intro b;cases b<;>rfl
  exact hb (e.den ρ)
 ·cases h
theorem PG {ρ:Env} {m:Nat->Nat}:∀{d:List az} {l:List A} {os:List O},mX d l=some os->os.length=d.length/\l.map (A.den ρ m)=List.zipWith az.val d (os.map (O.den ρ))
 |[],[],os,h=>by simp[mX]at h;subst h;exact⟨rfl,rfl⟩
 |c::d,a::r,os,h=>by
  simp only[mX]at h
  cases h1:c.out a with
  |none=>simp[h1]at h
  |some o=>
   cases hr:mX d r with
   |none=>simp[h1,hr]at h
   |some l=>
    simp only[h1,hr,Option.some.injEq]at h
    subst h
    obtain⟨p1,aS⟩:=PG (ρ:=ρ) (m:=m) hr
    exact⟨by simp[p1],by simp only[List.map_cons,aS,az.aav h1,List.zipWith_cons_cons]⟩
 |[],_::_,_,h=>by simp[mX]at h
 |_::_,[],_,h=>by simp[mX]at h
theorem HK {ρ:Env} {m:Nat->Nat} {d:D} {u:W} {os:List O} (h:q9 d u=some os):os.length=d.num/\∀zs,d.val (os.map (O.den ρ)++zs)=u.den ρ m:=by
 unfold q9 at h
 split at h
 ·rename_i k _ _ aM x
  by_cases hk:k=aM
  ·subst hk
   simp only[decide_true,cond_true,Option.some.injEq]at h
   subst h
   exact⟨rfl,λzs=>by simp[D.val,W.den,A.den,O.den]⟩
  ·simp[hk]at h
 ·rename_i x
  simp only[Option.some.injEq]at h
  subst h
  exact⟨rfl,λzs=>by cases hx:x.den ρ<;>simp[D.val,W.den,A.den,O.den,hx]⟩
 ·rename_i k n' _ _ l
  cases hc:Nat.beq l.length n' with
  |false=>simp[hc]at h
  |true=>
   simp only[hc,cond_true]at h
   have hl:=Nat.eq_of_beq_eq_true hc
   subst hl
   obtain⟨h1,h2⟩:=PD (ρ:=ρ) (m:=m) h
   exact⟨h1,λzs=>by simp only[D.val,W.den,h2];rw[List.take_append_of_le_length (by simp[h1]),List.take_of_length_le (by simp[h1])]⟩
 ·simp only[Option.some.injEq]at h;subst h
  exact⟨rfl,λzs=>rfl⟩
 ·rename_i d l
  obtain⟨h1,h2⟩:=PG (ρ:=ρ) (m:=m) h
  refine⟨h1,λzs=>?_⟩
  simp only[D.val,W.den,h2]
  congr 2
  have key:∀(a:List az) (b c:List Int),b.length=a.length->List.zipWith az.val a (b++c)=List.zipWith az.val a b:=by
   intro a
   induction a with
   |nil=>intro b c _;simp
   |cons p a ih=>
    intro b c hb
    cases b with
    |nil=>simp at hb
    |cons z b=>simp[ih b c (by simpa using hb)]
  exact key _ _ _ (by simp[h1])
 ·cases h
theorem PE {ρ:Env} {m:Nat->Nat}:∀{ds:List D} {l:List W} {os:List O},ss ds l=some os->kI ds (os.map (O.den ρ))=l.map (W.den ρ m)
 |[],[],os,h=>by simp[ss]at h;subst h;rfl
 |d::ds,u::l,os,h=>by
  simp only[ss]at h
  cases h1:q9 d u with
  |none=>simp[h1]at h
  |some a=>
   cases h2:ss ds l with
   |none=>simp[h1,h2]at h
   |some b=>
    simp only[h1,h2,Option.some.injEq]at h
    subst h
    obtain⟨p1,aS⟩:=HK (ρ:=ρ) (m:=m) h1
    rw[List.map_append]
    simp only[kI,aS,List.map_cons]
    rw[show d.num=(a.map (O.den ρ)).length by simp[p1],List.drop_left,PE h2]
 |[],_::_,_,h=>by simp[ss]at h
 |_::_,[],_,h=>by simp[ss]at h
theorem afW (ds:List D):∀zs,(kI ds zs).length=ds.length:=by
 induction ds with
 |nil=>intro zs;rfl
 |cons d r ih=>intro zs;simp[kI,ih]
theorem Bg {ds:List D} {K:List Int->Prop} {v:V} {ρ:Env} {m:Nat->Nat} {val:Value} (h:rJ ds K v ρ) (hr:v.rel ρ m val):∃rs,K rs/\val=lE ds rs:=by
 unfold rJ at h
 cases ho:outs ds v with
 |none=>simp[ho]at h
 |some os=>
  simp only[ho]at h
  refine⟨_,h,?_⟩
  unfold outs at ho
  cases v with
  |any=>cases ho
  |k7 _ _ _=>cases ho
  |ll _ _=>cases ho
  |w u=>
   simp only at ho
   split at ho
   ·rename_i d
    obtain⟨p1,aS⟩:=HK (ρ:=ρ) (m:=m) ho
    simp only[V.rel]at hr
    have:=aS []
    rw[List.append_nil]at this
    simp[lE,kI,this,hr]
   ·cases ho
  |eF l=>
   simp only at ho
   split at ho
   ·cases ho
   ·rename_i hne
    have:=PE (ρ:=ρ) (m:=m) ho
    simp only[V.rel]at hr
    unfold lE
    split
    ·rename_i x heq
     exfalso
     have hl:=afW ds (os.map (O.den ρ))
     rw[heq]at hl
     match ds,hl with
     |[d],_=>exact hne d rfl
    ·rw[hr,this]
noncomputable def agk (cons:List bL) (YX R0 adz:FuncId):dm:=λf=>
 cond (Nat.beq f YX) (some YW) <| cond (Nat.beq f R0) (some RZ) <| cond (Nat.beq f adz) (some ady) <|
 match cons.find? (λc=>Nat.beq f c.f)with
 |some c=>some c.M
 |none=>none
section
variable {S:Nat->List Int->List Int->Prop} {P:Program} {gl:c6} {ag:World}
noncomputable def BB (cons:List bL):dm:=λf=>
 match cons.filter (λc=>Nat.beq f c.f)with
 |[]=>none
 |l=>some λbl vs n k=>match l.find? (λc=>(nj c.args vs).isSome)with
  |some c=>c.M bl vs n k
  |none=>match l with
   |c::_=>c.M bl vs n k
   |[]=> .stuck
theorem Mb {w0:cP} {cons:List bL} (hc:∀c∈cons,c.yA P w0.b (S c.id)):eP S P gl w0 (BB cons):=by
 intro f g oF L n ρ m bl vs xs h1 h2 h3 h4
 unfold BB at oF
 split at oF
 ·cases oF
 ·rename_i l hl
  simp only[Option.some.injEq]at oF
  subst oF
  intro G k hk
  simp only at hk
  split at hk
  ·rename_i c FR
   have db:=List.mem_filter.1 (List.mem_of_find?_eq_some FR)
   have zw:=Nat.eq_of_beq_eq_true db.2
   subst zw
   exact bL.snd (hc c db.1) (λ_ _ h=>h) L n ρ m bl vs xs h3 h4 G k hk
  ·split at hk
   ·rename_i c r r6
    have db:=List.mem_filter.1 (show c∈cons.filter (λc=>Nat.beq f c.f) from by rw[r6];exact List.mem_cons_self (a:=c) (l:=r))
    have zw:=Nat.eq_of_beq_eq_true db.2
    subst zw
    exact bL.snd (hc c db.1) (λ_ _ h=>h) L n ρ m bl vs xs h3 h4 G k hk
   ·exact hk.elim
theorem Calls.some {f:FuncId} {args:Array Value} {w:World} {R:Ending->World->Prop} (h:Calls P f args w R):∃e w',R e w':=by
 obtain⟨e,w',rY,h1,_⟩:=h []
 exact⟨e,w',h1⟩
noncomputable def bL.tree (P:Program) (gl:c6) (cal:dm) (li:FuncId->Nat->Option dI) (rounds d:Nat) (c:bL):T:=
 BC P gl cal li rounds d c.f (cr c.args).length ((qa 0 c.args).map V.w) [] λ_ v _=> .leaf v
theorem LA {ρ:Env} {m:Nat->Nat}:∀(l:List W),dn ρ m (l.map V.w) (l.map (W.den ρ m))
 |[]=>trivial
 |_::r=>⟨rfl,LA r⟩
theorem bL.calls {c:bL} {cal:dm} {li:FuncId->Nat->Option dI} {rounds d:Nat} {L:V->Env->Prop} (hm:P.follows .mixedOrders=true) (ck:∀r ex ro,eP S P gl ⟨ag,r,ex,ro,[]⟩ cal) (hg:bB gl ⟨ag,ag,λ_=>False,λ_=>False,[]⟩) {zs:List Int} (hz:bd (cr c.args) zs)
 (ht:(c.tree P gl cal li rounds d).holds S L (λ_ _=>False) (bn (λ_=>0) 0 zs)) (w:World) (hw:ag.Extends w):
 Calls P c.f (kI c.args zs).toArray w λe w'=>∃v ae m val,e= .returned val/\v.rel ae m val/\L v ae/\w.Extends w':=by
 have hs:=IK (m:=λ_=>0) (nb:=0) (N:=(cr c.args).length) c.args hz (fw.bn (λ_=>0) 0 zs) (by omega)
 have:=SG (L:=L) (b:=ag) (w:=w) hm (ck w _ _) hg c.f _ _ _ ((qa 0 c.args).map (W.den (bn (λ_=>0) 0 zs) λ_=>0)) hw (λv hv=>by
  obtain⟨u,hu,rfl⟩:=List.mem_map.1 hv
  exact hs.1 u hu) (LA _) ht
 rw[hs.2]at this
 refine this.mono λe w' ⟨v,ae,m,val,nb,h1,h2,_,h3,h4⟩=>⟨v,ae,m,val,h1,h2,h3,h4⟩
end
end Go.bx
namespace Go.bx
open M
structure agi where
 f:FuncId
 id:Nat
 k:IntKind
 N:Nat
 lo:Int
 hi:Int
 ty:TypeId
 off:Nat
 len:Nat
 cap:Nat
 args:List D
 res:List D
section
variable {S:Nat->List Int->List Int->Prop} {P:Program} {gl:c6} {w0:cP}
end
end Go.bx
namespace Go.bx
def qG (P:Program) (f:FuncId):Bool:=match P.funcs[f]? with
 |some fn=> !(fn.name== "runtime.NumGoroutine")&&fn.body.isSome
 |none=>false
theorem enters {P:Program} {f:FuncId} (h:qG P f=true) (args:Array Value) (w:World):(callFunc f args).run P w= .ok (.enter f args) w:=by
 unfold qG at h
 cases hf:P.funcs[f]? with
 |none=>simp[hf]at h
 |some fn=>
  simp only[hf,Bool.and_eq_true,Bool.not_eq_true']at h
  have h1:fn.name≠ "runtime.NumGoroutine" :=by simpa using h.1
  obtain⟨c,hc⟩:=Option.isSome_iff_exists.1 h.2
  simp[callFunc,hf,h1,hc,Sem.run]
section
variable {S:Nat->List Int->List Int->Prop} {P:Program} {gl:c6} {ag:World}
end
end Go.bx
namespace Go.bx
abbrev fy:=List (Nat×Nat)
abbrev fx:=List (List Int)
def n8:fy->fx->Nat->Int
 |(s,k)::st,l::aE,i=>cond (Nat.ble s i&&Nat.blt i (s+k)) (l.getD (i-s) 0) (n8 st aE i)
 |_,_,_=>0
def Hj:fy->fx->Prop
 |(_,k)::st,l::aE=>l.length=k/\Hj st aE
 |[],[]=>True
 |_,_=>False
def kP (ρ:Env) (st:fy) (aE:fx):Prop:=Hj st aE/\∀i,ρ i=n8 st aE i
def wJ (st:fy) (aE:fx):List (Int×Nat)->Int
 |[]=>0
 |(k,i)::r=>match r with
  |[]=>cond (k==1) (n8 st aE i) (k*n8 st aE i)
  |_=>cond (k==1) (n8 st aE i) (k*n8 st aE i)+wJ st aE r
def I.dL (st:fy) (aE:fx) (l:I):Int:=
 match l.fu with
 |[]=>l.c
 |fu=>cond (l.c==0) (wJ st aE fu) (wJ st aE fu+l.c)
theorem Ml {ρ:Env} {st:fy} {aE:fx} (h:∀i,ρ i=n8 st aE i):∀fu,wJ st aE fu=fA ρ fu
 |[]=>rfl
 |(k,i)::[]=>by
  simp only[wJ,fA,<-h i]
  cases hk:(k==1)with
  |true=>have:k=1:=by simpa using hk
         subst this;simp
  |false=>simp
 |(k,i)::t::r=>by
  have ih:=Ml h (t::r)
  rw[wJ,fA,ih,<-h i]
  ·cases hk:(k==1)with
   |true=>have:k=1:=by simpa using hk
          subst this;simp
   |false=>simp
  ·intro hc;cases hc
theorem I.gI {ρ:Env} {st:fy} {aE:fx} (h:∀i,ρ i=n8 st aE i) (l:I):l.dL st aE=l.den ρ:=by
 unfold I.dL I.den
 cases hl:l.fu with
 |nil=>simp[fA]
 |cons t r=>
  simp only[Ml h]
  cases hc:(l.c==0)with
  |true=>have:l.c=0:=by simpa using hc
         rw[this];simp
  |false=>simp
def tl:fy->fx->Nat->Nat->Option (List Int)
 |(s,k)::st,l::aE,i,len=>cond (Nat.beq s i&&Nat.beq k len) (some l) (cond (Nat.ble (i+len) s||Nat.ble (s+k) i) (tl st aE i len) none)
 |_,_,_,_=>none
theorem MG:∀{st:fy} {aE:fx} {i len:Nat} {l:List Int},tl st aE i len=some l->Hj st aE->l.length=len/\∀j,j<len->n8 st aE (i+j)=l.getD j 0
 |[],_,_,_,_,h,_=>by simp[tl]at h
 |_::_,[],_,_,_,h,_=>by simp[tl]at h
 |(s,k)::st,l'::aE,i,len,l,h,hl=>by
  unfold tl at h
  cases h1:(Nat.beq s i&&Nat.beq k len)with
  |true=>
   simp only[h1,cond_true,Option.some.injEq]at h
   subst h
   simp only[Bool.and_eq_true]at h1
   have e1:=Nat.eq_of_beq_eq_true h1.1
   have e2:=Nat.eq_of_beq_eq_true h1.2
   subst e1;subst e2
   refine⟨hl.1,λj hj=>?_⟩
   unfold n8
   have:(Nat.ble s (s+j)&&Nat.blt (s+j) (s+k))=true:=by simp[Nat.blt];omega
   rw[this,cond_true,Nat.add_sub_cancel_left]
  |false=>
   simp only[h1,cond_false]at h
   cases h2:(Nat.ble (i+len) s||Nat.ble (s+k) i)with
   |false=>simp[h2]at h
   |true=>
    simp only[h2,cond_true]at h
    obtain⟨g1,g2⟩:=MG h hl.2
    refine⟨g1,λj hj=>?_⟩
    rw[<-g2 j hj]
    conv=>lhs;unfold n8
    have:(Nat.ble s (i+j)&&Nat.blt (i+j) (s+k))=false:=by
     simp only[Bool.or_eq_true,Nat.ble_eq]at h2
     cases h3:(Nat.ble s (i+j)&&Nat.blt (i+j) (s+k))with
     |false=>rfl
     |true=>simp[Nat.blt]at h3;omega
    rw[this,cond_false]
def Af:Nat->List I->Bool
 |_,[]=>true
 |i,l::r=>(l.c==0&&(match l.fu with|[(k,j)]=>k==1&&Nat.beq i j|_=>false))&&Af (i+1) r
def firstVar:List I->Nat
 |[]=>0
 |l::_=>match l.fu with|[(_,j)]=>j|_=>0
theorem OM {ρ:Env}:∀{ls:List I} {i:Nat},Af i ls=true->∀j,j<ls.length->(ls.map (·.den ρ)).getD j 0=ρ (i+j)
 |[],_,_,j,hj=>by simp at hj
 |l::r,i,h,j,hj=>by
  simp only[Af,Bool.and_eq_true]at h
  cases j with
  |zero=>
   obtain⟨⟨h1,h2⟩,_⟩:=h
   have hc:l.c=0:=by simpa using h1
   cases hl:l.fu with
   |nil=>simp[hl]at h2
   |cons t s=>
    cases s with
    |cons t' ah1=>simp[hl]at h2
    |nil=>
     obtain⟨k,q⟩:=t
     simp only[hl,Bool.and_eq_true]at h2
     have e1:k=1:=by simpa using h2.1
     have e2:=Nat.eq_of_beq_eq_true h2.2
     subst e1;subst e2
     simp[I.den,hl,fA,hc]
  |succ j=>
   have:=OM (ρ:=ρ) h.2 j (by simpa using hj)
   simp only[List.map_cons,List.getD_cons_succ]
   rw[this]
   congr 1;omega
def p6 (st:fy) (aE:fx) (ls:List I):List Int:=
 cond (Nat.blt 1 ls.length&&Af (firstVar ls) ls) (match tl st aE (firstVar ls) ls.length with|some l=>l|none=>ls.map (I.dL st aE)) (ls.map (I.dL st aE))
theorem O7 {l l':List Int} (hl:l.length=l'.length) (h:∀j,j<l.length->l.getD j 0=l'.getD j 0):l=l':=by
 apply List.ext_getElem hl
 intro j h1 h2
 have:=h j h1
 simpa [List.getD_eq_getElem?_getD,List.getElem?_eq_getElem h1,List.getElem?_eq_getElem h2]using this
theorem Dr {ρ:Env} {st:fy} {aE:fx} (h:kP ρ st aE) (ls:List I):p6 st aE ls=ls.map (·.den ρ):=by
 have e0:ls.map (I.dL st aE)=ls.map (·.den ρ):=List.map_congr_left λl _=>I.gI h.2 l
 unfold p6
 cases h1:(Nat.blt 1 ls.length&&Af (firstVar ls) ls)with
 |false=>simpa using e0
 |true=>
  simp only[cond_true]
  simp only[Bool.and_eq_true]at h1
  cases h2:tl st aE (firstVar ls) ls.length with
  |none=>exact e0
  |some l=>
   obtain⟨g1,g2⟩:=MG h2 h.1
   show l=_
   refine O7 (by simp[g1]) λj hj=>?_
   rw[OM h1.2 j (by omega),h.2,g2 j (by omega)]
def ky:aR->Option (List I×List I)
 | .eq a b=>some ([a],[b])
 | .and (.eq a b) r=>match ky r with|some (x,y)=>some (a::x,b::y)|none=>none
 |_=>none
def aR.dL (st:fy) (aE:fx):aR->Bool
 |lit b=>b
 |eq a b=>decide (a.dL st aE=b.dL st aE)
 |lt a b=>decide (a.dL st aE<b.dL st aE)
 |le a b=>decide (a.dL st aE<=b.dL st aE)
 |not a=> !a.dL st aE
 |and a b=>match ky (.and a b)with
  |some (x,y)=>decide (p6 st aE x=p6 st aE y)
  |none=>a.dL st aE&&b.dL st aE
 |iff a b=>a.dL st aE==b.dL st aE
theorem ME {ρ:Env}:∀{b:aR} {x y:List I},ky b=some (x,y)->b.den ρ=decide (x.map (·.den ρ)=y.map (·.den ρ))
 | .eq a b,x,y,h=>by
  simp only[ky,Option.some.injEq,Prod.mk.injEq]at h
  obtain⟨rfl,rfl⟩:=h
  simp[aR.den]
 | .and (.eq a b) r,x,y,h=>by
  simp only[ky]at h
  cases hr:ky r with
  |none=>simp[hr]at h
  |some p=>
   obtain⟨eS,iv⟩:=p
   simp only[hr,Option.some.injEq,Prod.mk.injEq]at h
   obtain⟨rfl,rfl⟩:=h
   have ih:=ME (ρ:=ρ) hr
   simp only[aR.den,ih,List.map_cons,List.cons.injEq]
   simp
 | .lit _,_,_,h=>by simp[ky]at h
 | .lt _ _,_,_,h=>by simp[ky]at h
 | .le _ _,_,_,h=>by simp[ky]at h
 | .not _,_,_,h=>by simp[ky]at h
 | .iff _ _,_,_,h=>by simp[ky]at h
 | .and (.lit _) _,_,_,h=>by simp[ky]at h
 | .and (.lt _ _) _,_,_,h=>by simp[ky]at h
 | .and (.le _ _) _,_,_,h=>by simp[ky]at h
 | .and (.not _) _,_,_,h=>by simp[ky]at h
 | .and (.and _ _) _,_,_,h=>by simp[ky]at h
 | .and (.iff _ _) _,_,_,h=>by simp[ky]at h
theorem aR.gI {ρ:Env} {st:fy} {aE:fx} (h:kP ρ st aE):∀b:aR,b.dL st aE=b.den ρ
 |lit _=>rfl
 |eq a b=>by simp only[dL,den,I.gI h.2]
 |lt a b=>by simp only[dL,den,I.gI h.2]
 |le a b=>by simp only[dL,den,I.gI h.2]
 |not a=>by simp only[dL,den,aR.gI h a]
 |and a b=>by
  have e1:=aR.gI h a
  have e2:=aR.gI h b
  unfold dL
  cases hq:ky (.and a b)with
  |none=>simp only[den,e1,e2]
  |some p=>
   obtain⟨x,y⟩:=p
   simp only[ME (ρ:=ρ) hq,Dr h]
 |iff a b=>by simp only[dL,den,aR.gI h a,aR.gI h b]
def ft {α:Type}:List Nat->List α->List (List α)
 |[],[]=>[]
 |[],x::l=>[x::l]
 |k::jM,l=>l.take k::ft jM (l.drop k)
theorem Dw {α β:Type} (f:α->β):∀(jM:List Nat) (l:List α),ft jM (l.map f)=(ft jM l).map (List.map f)
 |[],[]=>rfl
 |[],_::_=>rfl
 |k::jM,l=>by simp only[ft,List.map_cons,<-List.map_take,<-List.map_drop,Dw f jM]
def rQ:List Nat->Nat->List (Int×Int)->(fy->fx->List (List Int)->Prop)->fy->fx->Prop
 |[],_,[],P,st,aE=>P st aE []
 |[],_,_::_,_,_,_=>False
 |k::jM,n,bds,P,st,aE=>cond (Nat.beq k 1)
  (match bds with
  |(lo,hi)::LQ=>∀z:Int,lo<=z->z<=hi->rQ jM (n+1) LQ (λlH ln ls=>P lH ln ([z]::ls)) ((n,1)::st) ([z]::aE)
  |[]=>False)
  (cond (Nat.ble k bds.length) (∀r:List Int,bd (bds.take k) r->rQ jM (n+k) (bds.drop k) (λlH ln ls=>P lH ln (r::ls)) ((n,k)::st) (r::aE)) False)
theorem QO:∀(a b:List Int) (n:Nat) (ρ:Env),bn ρ n (a++b)=bn (bn ρ n a) (n+a.length) b
 |[],b,n,ρ=>rfl
 |z::a,b,n,ρ=>by
  simp only[List.cons_append,bn,List.length_cons]
  rw[QO a b]
  congr 1;omega
theorem QP:∀(l:List Int) (n:Nat) (ρ:Env) (i:Nat),bn ρ n l i=cond (Nat.ble n i&&Nat.blt i (n+l.length)) (l.getD (i-n) 0) (ρ i)
 |[],n,ρ,i=>by
  have:(Nat.ble n i&&Nat.blt i (n+0))=false:=by
   cases h:(Nat.ble n i&&Nat.blt i (n+0))with
   |false=>rfl
   |true=>simp[Nat.blt]at h;omega
  simp only[bn,List.length_nil,this,cond_false]
 |z::l,n,ρ,i=>by
  simp only[bn]
  rw[QP l (n+1)]
  by_cases h1:i=n
  ·subst h1
   have e1:(Nat.ble (i+1) i&&Nat.blt i (i+1+l.length))=false:=by
    have:Nat.ble (i+1) i=false:=by
     cases h:Nat.ble (i+1) i with
     |false=>rfl
     |true=>exact absurd (Nat.le_of_ble_eq_true h) (by omega)
    simp[this]
   have e2:(Nat.ble i i&&Nat.blt i (i+(z::l).length))=true:=by simp[Nat.blt]
   rw[e1,e2]
   simp[cF]
  ·have hu:cF ρ n z i=ρ i:=I3 ρ z h1
   by_cases h2:n<=i/\i<n+1+l.length
   ·have e1:(Nat.ble (n+1) i&&Nat.blt i (n+1+l.length))=true:=by simp[Nat.blt];omega
    have e2:(Nat.ble n i&&Nat.blt i (n+(z::l).length))=true:=by simp[Nat.blt];omega
    rw[e1,e2]
    simp only[cond_true]
    rw[show i-n=(i-(n+1))+1 by omega,List.getD_cons_succ]
   ·have e1:(Nat.ble (n+1) i&&Nat.blt i (n+1+l.length))=false:=by
     cases h:(Nat.ble (n+1) i&&Nat.blt i (n+1+l.length))with
     |false=>rfl
     |true=>simp[Nat.blt]at h;omega
    have e2:(Nat.ble n i&&Nat.blt i (n+(z::l).length))=false:=by
     cases h:(Nat.ble n i&&Nat.blt i (n+(z::l).length))with
     |false=>rfl
     |true=>simp[Nat.blt]at h;omega
    rw[e1,e2]
    simp[hu]
theorem kP.push {ρ:Env} {st:fy} {aE:fx} (h:kP ρ st aE) (n:Nat) (l:List Int):kP (bn ρ n l) ((n,l.length)::st) (l::aE):=
 ⟨⟨rfl,h.1⟩,λi=>by rw[QP,n8,<-h.2 i]⟩
theorem OI:∀{bds:List (Int×Int)} {zs:List Int} (k:Nat),bd bds zs->bd (bds.take k) (zs.take k)/\bd (bds.drop k) (zs.drop k)
 |[],[],k,_=>by simp[bd]
 |[],_::_,_,h=>h.elim
 |(_,_)::_,[],_,h=>h.elim
 |(l,u)::b,z::zs,0,h=>by simpa [bd]using h
 |(l,u)::b,z::zs,k+1,h=>by
  obtain⟨h1,h2,h3⟩:=h
  obtain⟨g1,g2⟩:=OI (bds:=b) (zs:=zs) k h3
  exact⟨⟨h1,h2,g1⟩,g2⟩
theorem wj:∀{jM:List Nat} {n:Nat} {bds:List (Int×Int)} {P:fy->fx->List (List Int)->Prop} {st:fy} {aE:fx} {ρ:Env} {zs:List Int},rQ jM n bds P st aE->kP ρ st aE->bd bds zs->∃lH ln,kP (bn ρ n zs) lH ln/\P lH ln (ft jM zs)
 |[],n,[],P,st,aE,ρ,[],h,ht,_=>⟨st,aE,ht,h⟩
 |[],_,[],_,_,_,_,_::_,_,_,hi=>hi.elim
 |[],_,_::_,_,_,_,_,_,h,_,_=>h.elim
 |k::jM,n,bds,P,st,aE,ρ,zs,h,ht,hi=>by
  unfold rQ at h
  cases hk:Nat.beq k 1 with
  |true=>
   have e:=Nat.eq_of_beq_eq_true hk
   subst e
   simp only[hk,cond_true]at h
   cases bds with
   |nil=>exact h.elim
   |cons b LQ=>
    obtain⟨lo,kW⟩:=b
    cases zs with
    |nil=>exact hi.elim
    |cons z zs=>
     obtain⟨h1,h2,h3⟩:=hi
     have:=wj (h z h1 h2) (ht.push n [z]) h3
     obtain⟨lH,ln,g1,g2⟩:=this
     refine⟨lH,ln,g1,?_⟩
     simpa [ft]using g2
  |false=>
   simp only[hk,cond_false]at h
   cases hb:Nat.ble k bds.length with
   |false=>simp only[hb,cond_false]at h
   |true=>
    simp only[hb,cond_true]at h
    have lr:k<=bds.length:=by simpa using hb
    have hlen:=ny hi
    obtain⟨i1,i2⟩:=OI k hi
    have e:(zs.take k).length=k:=by simp;omega
    have iR:=ht.push n (zs.take k)
    rw[e]at iR
    obtain⟨lH,ln,g1,g2⟩:=wj (h _ i1) iR i2
    refine⟨lH,ln,?_,g2⟩
    have e2:=QO (zs.take k) (zs.drop k) n ρ
    rw[List.take_append_drop,e]at e2
    rw[e2];exact g1
abbrev wb:=Nat->List (List Int)->Prop
def wb.set (A:wb) (gV:Nat) (p:List (List Int)->Prop):wb:=λi=>cond (Nat.beq i gV) p (A i)
def T.jI (sh:Nat->List Nat×List Nat) (lsh:Nat->List Nat) (S:Nat->List (List Int)->List (List Int)->Prop) (L:V->fy->fx->Prop):T->wb->fy->fx->Prop
 |stuck,_,_,_=>False
 |leaf v,_,st,aE=>L v st aE
 |div n x d lo hi r,A,st,aE=>∀q:Int,lo<=q->q<=hi->0<=x.dL st aE-d*q->x.dL st aE-d*q<d->r.jI sh lsh S L A ((n,1)::st) ([q]::aE)
 |mul n x y lo hi r,A,st,aE=>∀p:Int,lo<=p->p<=hi->p=x.dL st aE*y.dL st aE->r.jI sh lsh S L A ((n,1)::st) ([p]::aE)
 |bit n op k x y r,A,st,aE=>∀z:Int,0<=z->z<=k.max->z=av op k (x.dL st aE) (y.dL st aE)->r.jI sh lsh S L A ((n,1)::st) ([z]::aE)
 |shr n x y lo hi r,A,st,aE=>∀z:Int,lo<=z->z<=hi->z=x.dL st aE/2^(y.dL st aE).toNat->r.jI sh lsh S L A ((n,1)::st) ([z]::aE)
 |AH n cs aJ lo hi r,A,st,aE=>∀z:Int,lo<=z->z<=hi->z=(p6 st aE cs).getD (aJ.dL st aE).toNat 0->r.jI sh lsh S L A ((n,1)::st) ([z]::aE)
 |qy b t e,A,st,aE=>(b.dL st aE=true->t.jI sh lsh S L A st aE)/\(b.dL st aE=false->e.jI sh lsh S L A st aE)
 |call id args n bds r,A,st,aE=>rQ (sh id).2 n bds (λlH ln rs=>S id ((ft (sh id).1 args).map (p6 st aE)) rs->r.jI sh lsh S L A lH ln) st aE
 |loop gV init n bds r,A,st,aE=>∃(cz:List (List Int)->Prop) (dh:List (List Int)->Nat),cz ((ft (lsh gV) init).map (p6 st aE))/\
  rQ (lsh gV) n bds (λlH ln zs=>cz zs->r.jI sh lsh S L (A.set gV λvs=>cz vs/\dh vs<dh zs) lH ln) st aE
 |again gV vals,A,st,aE=>A gV ((ft (lsh gV) vals).map (p6 st aE))
 |both a b,A,st,aE=>a.jI sh lsh S L A st aE/\b.jI sh lsh S L A st aE
 |fn n op args lo hi r,A,st,aE=>∀z:Int,lo<=z->z<=hi->z=aa op (args.map (I.dL st aE))->r.jI sh lsh S L A ((n,1)::st) ([z]::aE)
 |ind n b r,A,st,aE=>∀z:Int,0<=z->z<=1->b.dL st aE=decide (z=1)->r.jI sh lsh S L A ((n,1)::st) ([z]::aE)
 |rp n lo hi r,A,st,aE=>∀z:Int,lo<=z->z<=hi->r.jI sh lsh S L A ((n,1)::st) ([z]::aE)
 |nat n r,A,st,aE=>∀z:Int,0<=z->r.jI sh lsh S L A ((n,1)::st) ([z]::aE)
 |qv op args r,A,st,aE=>U op (args.map (I.dL st aE))->r.jI sh lsh S L A st aE
 |nS op args r,A,st,aE=>U op (args.map (I.dL st aE))/\r.jI sh lsh S L A st aE
theorem Ip {ρ:Env} {st:fy} {aE:fx} (h:kP ρ st aE) (jM:List Nat) (l:List I):(ft jM l).map (p6 st aE)=ft jM (l.map (·.den ρ)):=by
 rw[Dw];exact List.map_congr_left λx _=>Dr h x
def bY (sh:Nat->List Nat×List Nat) (S:Nat->List (List Int)->List (List Int)->Prop):Nat->List Int->List Int->Prop:=λid zs rs=>S id (ft (sh id).1 zs) (ft (sh id).2 rs)
theorem Hq {ρ:Env} {st:fy} {aE:fx} (h:kP ρ st aE) (l:List I):l.map (I.dL st aE)=l.map (·.den ρ):=List.map_congr_left λx _=>I.gI h.2 x
theorem j8 {sh:Nat->List Nat×List Nat} {lsh:Nat->List Nat} {S:Nat->List (List Int)->List (List Int)->Prop} {Lx:V->fy->fx->Prop} {L:V->Env->Prop} (hL:∀v ρ st aE,kP ρ st aE->Lx v st aE->L v ρ):
 ∀(t:T) (fb:wb) (A:c5) (ρ:Env) (st:fy) (aE:fx),(∀gV vs,fb gV (ft (lsh gV) vs)->A gV vs)->kP ρ st aE->t.jI sh lsh S Lx fb st aE->t.holds (bY sh S) L A ρ
 | .stuck,_,_,_,_,_,_,_,h=>h
 | .leaf v,_,_,ρ,st,aE,_,ht,h=>hL v ρ st aE ht h
 | .div n x d lo hi r,fb,A,ρ,st,aE,hA,ht,h=>λq h1 h2 h3 h4=>j8 hL r fb A _ _ _ hA (ht.push n [q]) (h q h1 h2 (by rw[I.gI ht.2];exact h3) (by rw[I.gI ht.2];exact h4))
 | .mul n x y lo hi r,fb,A,ρ,st,aE,hA,ht,h=>λq h1 h2 h3=>j8 hL r fb A _ _ _ hA (ht.push n [q]) (h q h1 h2 (by rw[I.gI ht.2,I.gI ht.2];exact h3))
 | .bit n op k x y r,fb,A,ρ,st,aE,hA,ht,h=>λq h1 h2 h3=>j8 hL r fb A _ _ _ hA (ht.push n [q]) (h q h1 h2 (by rw[I.gI ht.2,I.gI ht.2];exact h3))
 | .shr n x y lo hi r,fb,A,ρ,st,aE,hA,ht,h=>λq h1 h2 h3=>j8 hL r fb A _ _ _ hA (ht.push n [q]) (h q h1 h2 (by rw[I.gI ht.2,I.gI ht.2];exact h3))
 | .AH n cs aJ lo hi r,fb,A,ρ,st,aE,hA,ht,h=>λq h1 h2 h3=>j8 hL r fb A _ _ _ hA (ht.push n [q]) (h q h1 h2 (by rw[Dr ht,I.gI ht.2];exact h3))
 | .qy b t e,fb,A,ρ,st,aE,hA,ht,h=>⟨λhb=>j8 hL t fb A _ _ _ hA ht (h.1 (by rw[aR.gI ht];exact hb)),λhb=>j8 hL e fb A _ _ _ hA ht (h.2 (by rw[aR.gI ht];exact hb))⟩
 | .call id args n bds r,fb,A,ρ,st,aE,hA,ht,h=>by
  refine pe λrs hi hs=>?_
  obtain⟨lH,ln,h1,h2⟩:=wj h ht hi
  exact j8 hL r fb A _ _ _ hA h1 (h2 (by rw[Ip ht];exact hs))
 | .loop gV init n bds r,fb,A,ρ,st,aE,hA,ht,h=>by
  obtain⟨cz,dh,h1,h2⟩:=h
  refine⟨λzs=>cz (ft (lsh gV) zs),λzs=>dh (ft (lsh gV) zs),?_,?_⟩
  ·rw[Ip ht]at h1;exact h1
  ·refine pe λzs hi nr=>?_
   obtain⟨lH,ln,g1,g2⟩:=wj h2 ht hi
   refine j8 hL r _ _ _ _ _ (λYE vs hv=>?_) g1 (g2 nr)
   unfold wb.set at hv
   unfold c5.set
   cases hq:Nat.beq YE gV with
   |true=>
    rw[hq]at hv
    have e:=Nat.eq_of_beq_eq_true hq
    subst e
    exact hv
   |false=>rw[hq]at hv;exact hA _ _ hv
 | .again gV vals,fb,A,ρ,st,aE,hA,ht,h=>hA gV _ (by rw[<-Ip ht];exact h)
 | .both x y,fb,A,ρ,st,aE,hA,ht,h=>⟨j8 hL x fb A ρ st aE hA ht h.1,j8 hL y fb A ρ st aE hA ht h.2⟩
 | .fn n op args lo hi r,fb,A,ρ,st,aE,hA,ht,h=>λq h1 h2 h3=>j8 hL r fb A _ _ _ hA (ht.push n [q]) (h q h1 h2 (by rw[Hq ht];exact h3))
 | .ind n b r,fb,A,ρ,st,aE,hA,ht,h=>λq h1 h2 h3=>j8 hL r fb A _ _ _ hA (ht.push n [q]) (h q h1 h2 (by rw[aR.gI ht];exact h3))
 | .rp n lo hi r,fb,A,ρ,st,aE,hA,ht,h=>λq h1 h2=>j8 hL r fb A _ _ _ hA (ht.push n [q]) (h q h1 h2)
 | .nat n r,fb,A,ρ,st,aE,hA,ht,h=>λq h1=>j8 hL r fb A _ _ _ hA (ht.push n [q]) (h q h1)
 | .qv op args r,fb,A,ρ,st,aE,hA,ht,h=>λh1=>j8 hL r fb A ρ st aE hA ht (h (by rw[Hq ht];exact h1))
 | .nS op args r,fb,A,ρ,st,aE,hA,ht,h=>⟨by rw[<-Hq ht];exact h.1,j8 hL r fb A _ _ _ hA ht h.2⟩
def sn:List O->Option (List I)
 |[]=>some []
 | .l x::r=>match sn r with|some l=>some (x::l)|none=>none
 | .b _::_=>none
def O.dL (st:fy) (aE:fx):O->Int
 |l x=>x.dL st aE
 |b x=>cond (x.dL st aE) 1 0
def yj (st:fy) (aE:fx) (os:List O):List Int:=
 match sn os with
 |some ls=>p6 st aE ls
 |none=>os.map (O.dL st aE)
theorem O5 {ρ:Env}:∀{os:List O} {ls:List I},sn os=some ls->ls.map (·.den ρ)=os.map (O.den ρ)
 |[],ls,h=>by simp[sn]at h;subst h;rfl
 | .l x::r,ls,h=>by
  simp only[sn]at h
  cases hr:sn r with
  |none=>simp[hr]at h
  |some l=>
   simp only[hr,Option.some.injEq]at h
   subst h
   simp only[List.map_cons,O5 hr,O.den]
 | .b _::_,_,h=>by simp[sn]at h
theorem O.gI {ρ:Env} {st:fy} {aE:fx} (h:kP ρ st aE):∀o:O,o.dL st aE=o.den ρ
 | .l x=>I.gI h.2 x
 | .b x=>by simp only[dL,den,aR.gI h]
theorem Qk {ρ:Env} {st:fy} {aE:fx} (h:kP ρ st aE) (os:List O):yj st aE os=os.map (O.den ρ):=by
 unfold yj
 cases hl:sn os with
 |some ls=>exact(Dr h ls).trans (O5 hl)
 |none=>exact List.map_congr_left λo _=>O.gI h o
def YT (k:Nat):List Nat:=match k with
 |12=>[4,4,4]
 |15=>[5,5,5]
 |20=>[5,5,5,5]
 |k=>[k]
def D.nums:D->List Nat
 | .mix l=>YT l.length
 | .rl _=>[]
 | .oN .. =>[]
 |d=>[d.num]
def sr (ds:List D):List Nat:=ds.flatMap D.nums
def D0 (ds:List D) (K:List (List Int)->Prop) (v:V) (st:fy) (aE:fx):Prop:=
 match outs ds v with
 |some os=>K ((ft (sr ds) os).map (yj st aE))
 |none=>False
theorem Ri {ds:List D} {K:List (List Int)->Prop} (v:V) (ρ:Env) (st:fy) (aE:fx) (ht:kP ρ st aE) (h:D0 ds K v st aE):rJ ds (λrs=>K (ft (sr ds) rs)) v ρ:=by
 unfold D0 at h
 unfold rJ
 cases ho:outs ds v with
 |none=>simp[ho]at h
 |some os=>
  simp only[ho]at h⊢
  rw[Dw]
  rwa [show(ft (sr ds) os).map (yj st aE)=(ft (sr ds) os).map (List.map (O.den ρ)) from List.map_congr_left λo _=>Qk ht o]at h
def eB (sh:Nat->List Nat×List Nat) (lsh:Nat->List Nat) (S:Nat->List (List Int)->List (List Int)->Prop) (K:List (List Int)->List (List Int)->Prop) (lens:List Nat) (bds:List (Int×Int)) (ds:List D) (t:T):Prop:=
 rQ lens 0 bds (λst aE zs=>t.jI sh lsh S (D0 ds (K zs)) (λ_ _=>False) st aE) [] []
theorem Rs {sh:Nat->List Nat×List Nat} {lsh:Nat->List Nat} {S:Nat->List (List Int)->List (List Int)->Prop} {K:List (List Int)->List (List Int)->Prop} {lens:List Nat} {bds:List (Int×Int)} {ds:List D} {t:T}
 (h:eB sh lsh S K lens bds ds t):mE bds λzs=>t.holds (bY sh S) (rJ ds λrs=>K (ft lens zs) (ft (sr ds) rs)) (λ_ _=>False) (bn (λ_=>0) 0 zs):=by
 refine pe λzs hi=>?_
 obtain⟨st,aE,h1,h2⟩:=wj h (show kP (λ_=>0) [] [] from⟨trivial,λ_=>rfl⟩) hi
 exact j8 (λv ρ st aE ht hl=>Ri v ρ st aE ht hl) t _ _ _ st aE (λ_ _ hf=>hf.elim) h1 h2
end Go.bx
namespace Go.bx
open Go.ChangeShapes Go.WideShapes Go.RowKit
variable {H:Type} {enc:TypeId×Value->H} {P:Program}
theorem afZ {k:IntKind} {z:Int}:(Lit.int k z).wf=true↔k.min<=z/\z<=k.max:=by simp[Lit.wf]
theorem Mh {k:IntKind}:∀(cs:List Value) (xs:List (DataW H×List MemPlace)),cs.length=xs.length->
 (∀i,i<xs.length->∃z,(cs.drop i).take 1=[.int k z]/\xs[i]?=some (.lit (.int k z),[])/\(Lit.int k z).wf=true)->
 ∃zs:List Int,cs=zs.map (.int k)/\xs=zs.map (λz=>(.lit (.int k z),[]))/\∀z∈zs,(Lit.int k z).wf=true
 |[],[],_,_=>⟨[],rfl,rfl,λ_ h=>by cases h⟩
 |[],_::_,h,_=>by simp at h
 |_::_,[],h,_=>by simp at h
 |c::cs,x::xs,hl,h=>by
  obtain⟨z,h1,h2,h3⟩:=h 0 (by simp)
  simp at h1 h2
  obtain⟨zs,e1,e2,e3⟩:=Mh cs xs (by simpa using hl) λi hi=>by
   obtain⟨y,g1,g2,g3⟩:=h (i+1) (by simpa using hi)
   exact⟨y,by simpa using g1,by simpa using g2,g3⟩
  refine⟨z::zs,by rw[h1,e1];rfl,by rw[h2,e2];rfl,λy hy=>?_⟩
  rcases List.mem_cons.1 hy with rfl|hy
  ·exact h3
  ·exact e3 y hy
theorem D.afX (d:D) {zs l:List Int} (h:zs.length=d.num):d.val (zs++l)=d.val zs:=by
 cases d with
 |str=>match zs,h with|[z],_=>rfl
 |int k lo hi=>match zs,h with|[z],_=>rfl
 |bool=>match zs,h with|[z],_=>rfl
 |agg k n lo hi=>simp only[D.num]at h;simp only[D.val,<-h];simp
 |rl p=>rfl
 |oN k c=>rfl
 |mix p=>
  simp only[D.num]at h
  simp only[D.val]
  congr 2
  revert zs
  induction p with
  |nil=>intro zs h;simp
  |cons a p ih=>
   intro zs h
   match zs,h with
   |z::zs,h=>simp only[List.cons_append,List.zipWith_cons_cons,ih (zs:=zs) (by simpa using h)]
theorem X1 {w w':World} (h:w.Extends w') (may:MemPlace->Prop):w.keptBut w' may:=
 Below.frame (W:=w) ⟨h.os,h.tape,h.output,h.size,λi hi=>h.block i hi⟩ may
theorem B1 {w:World} {name:String} {g:Nat} {t e:TypeId} {k:IntKind} {n:Nat} {cs:Array Value} {fuel:Nat} {p:List MemPlace} {zs:List Int} {spare:Nat->Bool} {held:Bool} {base:Nat} {enc:TypeId×Value->Unit}
 (hg:P.globalNamed name=some g) (ht:P.underlying t=some (.array n e)) (he:P.underlying e=some (.int k)) (Ce:P.cellsOf e=1) (VM:P.cellsOf t=n)
 (hv:w.var? P name=some cs) (hd:DataW.trod enc P w base spare held fuel t cs.toList=some (.agg (zs.map λz=> .lit (.int k z)),p)):
 g<w.heap.size/\∃t' rY,w.heap[g]?=some (Obj.cells (zs.map (Value.int k)).toArray t' rY):=by
 obtain⟨xs,m,rfl,hx,hlen,hn,FZ⟩:=DataW.trod_array ht hd
 obtain⟨fJ,e1,e2,e3⟩:=Mh (k:=k) cs.toList xs (by rw[hlen,VM,hn]) λi hi=>by
  have:=FZ i (by omega)
  rw[Ce,Nat.mul_one]at this
  cases Ox:xs[i]? with
  |none=>simp at Ox;omega
  |some y=>
   rw[Ox]at this
   obtain⟨z,g1,g2,g3⟩:=DataW.trod_int he this
   exact⟨z,g1,by rw[g2],g3⟩
 simp only[Prod.mk.injEq,DataW.agg.injEq]at hx
 have hy:fJ=zs:=by
  have h1:=hx.1
  rw[e2,List.map_map]at h1
  have tK:∀a b:Int,(DataW.lit (.int k a):DataW Unit)= .lit (.int k b)->a=b:=λa b h=>by cases h;rfl
  exact((List.map_inj_right (f:=λz:Int=>(DataW.lit (.int k z):DataW Unit)) tK).1 h1).symm
 subst hy
 simp only[World.var?,hg,Option.bind_some]at hv
 split at hv
 ·rename_i gq t' rY hb
  simp only[Option.some.injEq]at hv
  subst hv
  refine⟨?_,t',rY,?_⟩
  ·exact(Array.getElem?_eq_some_iff.1 hb).1
  ·rw[hb,<-e1]
 ·cases hv
end Go.bx
namespace Go.bx
open M
inductive b2 where
 |d (x:D)
 |rd (sh:List az)
 |mc (sh:List az) (e:TypeId)
def b2.num:b2->Nat
 |d x=>x.num
 |_=>1
noncomputable def b2.bds:b2->List (Int×Int)
 |d x=>x.bds
 |_=>[(0,aw)]
noncomputable def cb:List b2->List (Int×Int)
 |[]=>[]
 |x::r=>x.bds++cb r
def b2.uk:b2->Bool
 |d _=>true
 |_=>false
def b2.lA:b2->Bool
 |mc _ _=>true
 |_=>false
def b2.kD:b2->Bool
 |rd _=>true
 |_=>false
def kr:List b2->Bool
 |[]=>true
 | .d _::r=>kr r
 | .rd _::r=>r.all (λb=> !b.lA)&&kr r
 | .mc _ _::r=>r.all b2.uk&&kr r
def na (F:Nat->Prop) (w:World) (sh:List az) (rows:List (List Int)) (v:Value):Prop:=
 (v= .slice none 0 0/\rows=[])∨∃(g o cap:Nat) (cells:Array Value) (t:TypeId) (fz:Nat×Nat),v= .slice (some ⟨g,o,none⟩) rows.length cap/\(rows.length<=cap/\(cap:Int)<=9223372036854775807)/\F g/\w.heap[g]?=some (.cells cells t fz)/\jy cells o sh rows
def s4 (N:Nat->Prop) (w:World) (sh:List az) (e:TypeId) (rows:List (List Int)) (v:Value):Prop:=
 (v= .slice none 0 0/\rows=[])∨∃(g cap:Nat) (cells:Array Value),v= .slice (some ⟨g,0,none⟩) rows.length cap/\(rows.length<=cap/\(cap:Int)<=9223372036854775807)/\N g/\w.heap[g]?=some (.cells cells e (0,0))/\jy cells 0 sh rows/\cells.size=cap*sh.length
def b2.at (F N:Nat->Prop) (w:World):b2->List Int->Value->Prop
 |d x,zs,v=>v=x.val zs
 |rd sh,zs,v=>na F w sh (ab (zs.getD 0 0)) v
 |mc sh e,zs,v=>s4 N w sh e (ab (zs.getD 0 0)) v
def hI (F N:Nat->Prop) (w:World):List b2->List Int->List Value->Prop
 |[],_,[]=>True
 |b::r,zs,v::vs=>b.at F N w zs v/\hI F N w r (zs.drop b.num) vs
 |_,_,_=>False
def lg (us:List Value):Value:=match us with|[x]=>x|l=> .tuple l.toArray
structure dd where
 f:FuncId
 id:Nat
 args:List b2
 res:List b2
 pre:Nat:=0
def ra:Nat->List Int->Prop
 |0,_=>True
 |p+1,l=>U (p+1) l
def Db:Nat->List I->T->T
 |0,_,r=>r
 |p+1,ls,r=> .nS (p+1) ls r
def As:Nat->List I->T->T
 |0,_,r=>r
 |p+1,ls,r=> .qv (p+1) ls r
theorem preM_holds {S:Nat->List Int->List Int->Prop} {L:V->Env->Prop} {A:c5} {ρ:Env} {p:Nat} {ls:List I} {r:T} (h:(Db p ls r).holds S L A ρ):ra p (ls.map (·.den ρ))/\r.holds S L A ρ:=by
 cases p with
 |zero=>exact⟨trivial,h⟩
 |succ p=>exact h
theorem preA_holds {S:Nat->List Int->List Int->Prop} {L:V->Env->Prop} {A:c5} {ρ:Env} {p:Nat} {ls:List I} {r:T} (h:(As p ls r).holds S L A ρ) (hp:ra p (ls.map (·.den ρ))):r.holds S L A ρ:=by
 cases p with
 |zero=>exact h
 |succ p=>exact h hp
def dd.c9 (P:Program) (ag:World) (c:dd) (spec:List Int->List Int->Prop):Prop:=
 (∀args w,(callFunc c.f args).run P w= .ok (.enter c.f args) w)/\
 ∀(F:Nat->Prop) (w:World) (vs:List Value) (zs:List Int),ag.Extends w->bd (cb c.args) zs->ra c.pre zs->hI F (λ_=>False) w c.args zs vs->
  Calls P c.f vs.toArray w λe w'=>w.Extends w'/\∃rs us,bd (cb c.res) rs/\spec zs rs/\hI (λg=>F g∨w.heap.size<=g) (λg=>w.heap.size<=g) w' c.res rs us/\e= .returned (lg us)
noncomputable def nO:List b2->Nat->Nat->List W->List ar->(Nat->List W->List ar->T)->T
 |[],_,n,us,bl,k=>k n us bl
 | .d x::r,s,n,us,bl,k=>nO r (s+x.num) n (us++[x.sym s]) bl k
 | .rd sh::r,s,n,us,bl,k=> .nat n (.rp (n+1) (-1) 9223372036854775807 (.fn (n+2) 20 [.var s] 0 9223372036854775807
  (nO r (s+1) (n+3) (us++[.one (.sl bl.length sh.length (.var n) (.const 0) (.var (n+2)) (.var (n+1)))]) (bl++[([.rows sh (.var n) (.var s) (.var (n+1)) 1],(0,false))]) k)))
 | .mc sh e::r,s,n,us,bl,k=> .rp n (-1) 9223372036854775807 (.fn (n+1) 20 [.var s] 0 9223372036854775807
  (nO r (s+1) (n+2) (us++[.one (.sl bl.length sh.length (.const 0) (.const 0) (.var (n+1)) (.var n))]) (bl++[([.rows sh (.const 0) (.var s) (.var n) 2],(e,false))]) k))
section
variable {S:Nat->List Int->List Int->Prop} {L:V->Env->Prop} {w0:cP} {P:Program} {gl:c6} {cal:dm}
theorem fw.agree {ρ ae:Env} {s n:Nat} {zs:List Int} (h:fw ρ s zs) (ha:agree n ρ ae) (hn:s+zs.length<=n):fw ae s zs:=λj hj=>by rw[ha (s+j) (by omega)];exact h j hj
theorem og {ρ:Env} {n i:Nat} {z:Int} (h:i<n):cF ρ n z i=ρ i:=I3 ρ z (by omega)
theorem rS {F N:Nat->Prop} (hF:∀g,F g->w0.ex g∨w0.ro g∨w0.r.heap.size<=g) (cc:∀g,N g->w0.b.heap.size<=g/\w0.r.heap.size<=g):∀{l:List b2} {s n:Nat} {us:List W} {bl:List ar} {k:Nat->List W->List ar->T} {G:c5} {ρ:Env} {m:Nat->Nat} {w:World} {zs:List Int} {vals:List Value},
 kr l=true->b4 n bl.length ρ bl->Mem w0 ρ m bl w->fw ρ s zs->bd (cb l) zs->s+(cb l).length<=n->hI F N w l zs vals->
 ((l.all λb=> !b.kD)=true∨∀(i:Nat) (p:ar),bl[i]?=some p->F (m i)->a1 ρ p.1<=1)->((l.all λb=> !b.lA)=true∨∀(i:Nat) (p:ar),bl[i]?=some p->N (m i)->a1 ρ p.1=0)->
 (∀u∈us,W.ok n bl.length ρ u)->
 (nO l s n us bl k).holds S L G ρ->∃n' ae m' iG aK,cV n bl.length ρ m n' (List.length aK) ae m'/\b4 n' aK.length ae aK/\Mem w0 ae m' aK w/\iG.map (W.den ae m')=us.map (W.den ρ m)++vals/\(∀u∈iG,W.ok n' aK.length ae u)/\(k n' iG aK).holds S L G ae
 |[],s,n,us,bl,k,G,ρ,m,w,zs,vals,_,hb,hm,_,_,_,hat,_,_,nx,ah=>by
  match vals,hat with
  |[],_=>exact⟨n,ρ,m,us,bl,cV.refl _ _ _ _,hb,hm,by simp,nx,ah⟩
 | .d x::r,s,n,us,bl,k,G,ρ,m,w,zs,vals,bf,hb,hm,hA,hz,hn,hat,h1,h2,nx,ah=>by
  match vals,hat with
  |v::vs,hat=>
   obtain⟨hv,hat⟩:=hat
   have hv:v=x.val zs:=hv
   simp only[cb,b2.bds]at hz hn
   simp only[List.length_append]at hn
   obtain⟨i1,i2⟩:=CE hz
   rw[D.yL]at i1 i2 hn
   have hs:=D.AI (ρ:=ρ) (m:=m) (N:=n) (nb:=bl.length) x i1 hA (by omega)
   obtain⟨n',ae,m',iG,aK,g1,g2,g3,g4,g5,g6⟩:=rS hF cc (l:=r) (s:=s+x.num) (us:=us++[x.sym s]) (zs:=zs.drop x.num) bf hb hm (hA.drop x.num) i2 (by omega) hat (by
    rcases h1 with h1|h1
    ·left;simpa [b2.kD]using h1
    ·exact .inr h1) (by
    rcases h2 with h2|h2
    ·left;simpa [b2.lA]using h2
    ·exact .inr h2) (λu hu=>by
    rcases List.mem_append.1 hu with hu|hu
    ·exact nx u hu
    ·simp at hu;subst hu;exact hs.1) ah
   exact⟨n',ae,m',iG,aK,g1,g2,g3,by rw[g4,List.map_append,hv];simp[hs.2],g5,g6⟩
 | .rd sh::r,s,n,us,bl,k,G,ρ,m,w,zs,vals,bf,hb,hm,hA,hz,hn,hat,h1,h2,nx,ah=>by
  match vals,hat with
  |v::vs,hat=>
   obtain⟨hv,hat⟩:=hat
   match zs,hz with
   |z::zs,hz=>
    obtain⟨ai,z2,hz⟩:=hz
    have hv:na F w sh (ab z) v:=hv
    obtain⟨pt,Fw⟩:=hA.tail
    have h1:∀(i:Nat) (p:ar),bl[i]?=some p->F (m i)->a1 ρ p.1<=1:=by
     rcases h1 with h1|h1
     ·simp[b2.kD]at h1
     ·exact h1
    simp only[cb,b2.bds,List.length_append,List.length_cons,List.length_nil]at hn
    simp only[kr,Bool.and_eq_true]at bf
    have hlen:(ab z).length<=9223372036854775807:=by
     rcases hv with⟨_,h⟩|⟨_,_,cap,_,_,_,_,⟨h3,h4⟩,_⟩
     ·simp[h]
     ·omega
    have ka:zs.length=(cb r).length:=ny hz
    obtain⟨g,o,cap,qO,hg2,tJ,F4,zz⟩:∃(g:Nat) (o:Nat) (cap:Int),(-1<=cap/\cap<=9223372036854775807)/\(cap<0->ab z=[])/\(0<=cap->((ab z).length:Int)<=cap)/\
     (v=if cap<0 then Value.slice none 0 0 else .slice (some ⟨g,o,none⟩) (ab z).length cap.toNat)/\
     (0<=cap->F g/\∃cells t fz,w.heap[g]?=some (.cells cells t fz)/\jy cells o sh (ab z)):=by
     rcases hv with⟨h3,h4⟩|⟨g,o,cap,cells,t,fz,h3,⟨h4,h5⟩,h6,h7,h8⟩
     ·exact⟨0,0,-1,by omega,λ_=>h4,λh=>by omega,by simp[h3],λh=>by omega⟩
     ·exact⟨g,o,cap,by omega,λh=>by omega,λ_=>by omega,by rw[if_neg (by omega)];simpa using h3,λ_=>⟨h6,cells,t,fz,h7,h8⟩⟩
    have zC:=ah (o:Int) (by omega) cap qO.1 qO.2 (ab z).length (by omega) (by omega) (by
     simp only[List.map_cons,List.map_nil,aa,I.bV]
     rw[og (by omega),og (by omega),pt])
    generalize lz:cF (cF (cF ρ n (o:Int)) (n+1) cap) (n+2) ((ab z).length:Int)=ee at zC
    have ha:agree n ρ ee:=by
     rw[<-lz]
     intro i hi
     rw[og (by omega),og (by omega),og hi]
    have e0:ee n=o:=by rw[<-lz,og (by omega),og (by omega),hh]
    have e1:ee (n+1)=cap:=by rw[<-lz,og (by omega),hh]
    have e2:ee (n+2)=(ab z).length:=by rw[<-lz,hh]
    have e3:ee s=z:=by rw[ha s (by omega)];exact pt
    have tP:=hm.kE hb ha
    have zl:=hb.ext ha (show n<=n+3 by omega) (Nat.le_refl bl.length)
    have zf:(A.rows sh (.var n) (.var s) (.var (n+1)) 1).ok (n+3) bl.length ee:=⟨⟨I.dN (by omega),I.dN (by omega),I.dN (by omega)⟩,by rw[I.bV,e3];exact⟨ai,z2⟩,by rw[I.bV,e1];exact qO⟩
    have gL:=tP.push (x:=([.rows sh (.var n) (.var s) (.var (n+1)) 1],(0,false))) (g:=g) zl (λy hy=>by simp at hy;subst hy;exact zf) (λho=>by cases ho) (λdx fP code' cap' k5 he=>by
     cases he
     intro _
     refine⟨λh=>by rw[I.bV,e1]at h;rw[I.bV,e3];exact hg2 h,λh=>?_⟩
     rw[I.bV,e1]at h
     obtain⟨zh,cells,t,fz,k1,k2⟩:=zz h
     exact⟨hF g zh,cells,t,fz,k1,⟨by rw[I.bV,e0];omega,by rw[I.bV,I.bV,e0,e3];exact k2⟩,λh2=>by omega⟩) (λi p hi he=>by
      by_cases hc:0<=cap
      ·refine .inl ⟨?_,?_⟩
       ·rw[nz (hb _ (List.mem_of_getElem? hi)) ha]
        exact h1 i p hi (by rw[he];exact(zz hc).1)
       ·rw[mS (by decide) (by rw[I.bV,e1];exact hc)];exact Nat.le_refl 1
      ·refine .inr (.inr ?_)
       simp only[a1,I.bV,e1]
       rw[if_pos (by omega)])
    have Gj:cV n bl.length ρ m (n+3) (bl++[([A.rows sh (.var n) (.var s) (.var (n+1)) 1],((0:TypeId),false))]).length ee (iu m bl.length g):=⟨by omega,ha,by simp,λb hb=>ja hb⟩
    have tF:b4 (n+3) (bl++[([A.rows sh (.var n) (.var s) (.var (n+1)) 1],((0:TypeId),false))]).length ee (bl++[([.rows sh (.var n) (.var s) (.var (n+1)) 1],(0,false))]):=λp hp a ib=>by
     rcases List.mem_append.1 hp with hp|hp
     ·exact(zl p hp a ib).ext (agree.refl _ _) (Nat.le_refl _) (by simp)
     ·simp at hp;subst hp;simp at ib;subst ib
      exact zf.ext (agree.refl _ _) (Nat.le_refl _) (by simp)
    have GI:W.ok (n+3) (bl++[([A.rows sh (.var n) (.var s) (.var (n+1)) 1],((0:TypeId),false))]).length ee (.one (.sl bl.length sh.length (.var n) (.const 0) (.var (n+2)) (.var (n+1)))):=by
     refine⟨by simp,⟨I.dN (by omega),I.ch _ _,I.dN (by omega),I.dN (by omega)⟩,?_⟩
     simp only[I.bV,I.aH,e0,e1,e2]
     exact⟨by omega,by omega,λh=>by rw[hg2 h];rfl,tJ⟩
    obtain⟨n',ae,m',iG,aK,g1,g2,g3,g4,g5,g6⟩:=rS hF cc (l:=r) (s:=s+1) (us:=us++[.one (.sl bl.length sh.length (.var n) (.const 0) (.var (n+2)) (.var (n+1)))]) (zs:=zs) (vals:=vs) bf.2 tF gL (Fw.agree ha (by omega)) hz (by omega) hat (.inr λi p hi hf=>by
     rw[List.getElem?_append]at hi
     split at hi
     ·rename_i fi
      rw[ja fi]at hf
      rw[nz (hb _ (List.mem_of_getElem? hi)) ha]
      exact h1 i p hi hf
     ·have:i=bl.length:=by
       have:=(List.getElem?_eq_some_iff.1 hi).1
       simp at this;omega
      subst this
      simp at hi
      subst hi
      simp only[a1];split<;>omega) (.inl bf.1) (λu hu=>by
     rcases List.mem_append.1 hu with hu|hu
     ·exact(nx u hu).ext ha (by omega) (by simp)
     ·simp at hu;subst hu;exact GI) zC
    refine⟨n',ae,m',iG,aK,Gj.trans g1,g2,g3,?_,g5,g6⟩
    rw[g4,List.map_append,List.append_assoc]
    congr 1
    ·exact List.map_congr_left λu hu=>W.iy (nx u hu) ha (λb hb=>ja hb)
    ·simp only[List.map_cons,List.map_nil,List.cons_append,List.nil_append,W.den,A.den,I.bV,I.aH,e0,e1,e2,jq]
     rw[F4]
     simp
 | .mc sh e::r,s,n,us,bl,k,G,ρ,m,w,zs,vals,bf,hb,hm,hA,hz,hn,hat,h1,h2,nx,ah=>by
  match vals,hat with
  |v::vs,hat=>
   obtain⟨hv,hat⟩:=hat
   match zs,hz with
   |z::zs,hz=>
    obtain⟨ai,z2,hz⟩:=hz
    have hv:s4 N w sh e (ab z) v:=hv
    obtain⟨pt,Fw⟩:=hA.tail
    simp only[cb,b2.bds,List.length_append,List.length_cons,List.length_nil]at hn
    simp only[kr,Bool.and_eq_true]at bf
    have h2:∀(i:Nat) (p:ar),bl[i]?=some p->N (m i)->a1 ρ p.1=0:=by
     rcases h2 with h2|h2
     ·simp[b2.lA]at h2
     ·exact h2
    have hlen:(ab z).length<=9223372036854775807:=by
     rcases hv with⟨_,h⟩|⟨_,cap,_,_,⟨h3,h4⟩,_⟩
     ·simp[h]
     ·omega
    have ka:zs.length=(cb r).length:=ny hz
    obtain⟨g,cap,qO,hg2,tJ,F4,zz⟩:∃(g:Nat) (cap:Int),(-1<=cap/\cap<=9223372036854775807)/\(cap<0->ab z=[])/\(0<=cap->((ab z).length:Int)<=cap)/\
     (v=if cap<0 then Value.slice none 0 0 else .slice (some ⟨g,0,none⟩) (ab z).length cap.toNat)/\
     (0<=cap->N g/\∃cells,w.heap[g]?=some (.cells cells e (0,0))/\jy cells 0 sh (ab z)/\cells.size=cap.toNat*sh.length):=by
     rcases hv with⟨h3,h4⟩|⟨g,cap,cells,h3,⟨h4,h5⟩,h6,h7,h8,bz⟩
     ·exact⟨0,-1,by omega,λ_=>h4,λh=>by omega,by simp[h3],λh=>by omega⟩
     ·exact⟨g,cap,by omega,λh=>by omega,λ_=>by omega,by rw[if_neg (by omega)];simpa using h3,λ_=>⟨h6,cells,h7,h8,by simpa using bz⟩⟩
    have zC:=ah cap qO.1 qO.2 (ab z).length (by omega) (by omega) (by
     simp only[List.map_cons,List.map_nil,aa,I.bV]
     rw[og (by omega),pt])
    generalize lz:cF (cF ρ n cap) (n+1) ((ab z).length:Int)=ee at zC
    have ha:agree n ρ ee:=by
     rw[<-lz]
     intro i hi
     rw[og (by omega),og hi]
    have e1:ee n=cap:=by rw[<-lz,og (by omega),hh]
    have e2:ee (n+1)=(ab z).length:=by rw[<-lz,hh]
    have e3:ee s=z:=by rw[ha s (by omega)];exact pt
    have tP:=hm.kE hb ha
    have zl:=hb.ext ha (show n<=n+2 by omega) (Nat.le_refl bl.length)
    have zf:(A.rows sh (.const 0) (.var s) (.var n) 2).ok (n+2) bl.length ee:=⟨⟨I.ch _ _,I.dN (by omega),I.dN (by omega)⟩,by rw[I.bV,e3];exact⟨ai,z2⟩,by rw[I.bV,e1];exact qO⟩
    have gL:=tP.push (x:=([.rows sh (.const 0) (.var s) (.var n) 2],(e,false))) (g:=g) zl (λy hy=>by simp at hy;subst hy;exact zf) (λho=>by cases ho) (λdx fP code' cap' k5 he=>by
     cases he
     intro _
     refine⟨λh=>by rw[I.bV,e1]at h;rw[I.bV,e3];exact hg2 h,λh=>?_⟩
     rw[I.bV,e1]at h
     obtain⟨UO,cells,k1,k2,k3⟩:=zz h
     have dF:=cc g UO
     exact⟨.inr (.inr dF.2),cells,e,(0,0),k1,⟨by rw[I.aH];exact Int.le_refl _,by rw[I.aH,I.bV,e3];exact k2⟩,λ_=>⟨rfl,I.aH _ _,.Ak,by rw[I.bV,e1];exact k3,dF.1,.inr dF.2⟩⟩) (λi p hi he=>by
      by_cases hc:0<=cap
      ·refine .inr (.inl ?_)
       rw[nz (hb _ (List.mem_of_getElem? hi)) ha]
       exact h2 i p hi (by rw[he];exact(zz hc).1)
      ·refine .inr (.inr ?_)
       simp only[a1,I.bV,e1]
       rw[if_pos (by omega)])
    have Gj:cV n bl.length ρ m (n+2) (bl++[([A.rows sh (.const 0) (.var s) (.var n) 2],(e,false))]).length ee (iu m bl.length g):=⟨by omega,ha,by simp,λb hb=>ja hb⟩
    have tF:b4 (n+2) (bl++[([A.rows sh (.const 0) (.var s) (.var n) 2],(e,false))]).length ee (bl++[([.rows sh (.const 0) (.var s) (.var n) 2],(e,false))]):=λp hp a ib=>by
     rcases List.mem_append.1 hp with hp|hp
     ·exact(zl p hp a ib).ext (agree.refl _ _) (Nat.le_refl _) (by simp)
     ·simp at hp;subst hp;simp at ib;subst ib
      exact zf.ext (agree.refl _ _) (Nat.le_refl _) (by simp)
    have GI:W.ok (n+2) (bl++[([A.rows sh (.const 0) (.var s) (.var n) 2],(e,false))]).length ee (.one (.sl bl.length sh.length (.const 0) (.const 0) (.var (n+1)) (.var n))):=by
     refine⟨by simp,⟨I.ch _ _,I.ch _ _,I.dN (by omega),I.dN (by omega)⟩,?_⟩
     simp only[I.bV,I.aH,e1,e2]
     exact⟨by omega,by omega,λh=>by rw[hg2 h];rfl,tJ⟩
    obtain⟨n',ae,m',iG,aK,g1,g2,g3,g4,g5,g6⟩:=LM (w0:=w0) (l:=r) (s:=s+1) (us:=us++[.one (.sl bl.length sh.length (.const 0) (.const 0) (.var (n+1)) (.var n))]) (zs:=zs) (vals:=vs) bf.1 tF gL (Fw.agree ha (by omega)) hz (by omega) hat (λu hu=>by
     rcases List.mem_append.1 hu with hu|hu
     ·exact(nx u hu).ext ha (by omega) (by simp)
     ·simp at hu;subst hu;exact GI) zC
    refine⟨n',ae,m',iG,aK,Gj.trans g1,g2,g3,?_,g5,g6⟩
    rw[g4,List.map_append,List.append_assoc]
    congr 1
    ·exact List.map_congr_left λu hu=>W.iy (nx u hu) ha (λb hb=>ja hb)
    ·simp only[List.map_cons,List.map_nil,List.cons_append,List.nil_append,W.den,A.den,I.bV,I.aH,e1,e2,jq]
     rw[F4]
     simp
where
 LM {w0:cP} {F N:Nat->Prop}:∀{l:List b2} {s n:Nat} {us:List W} {bl:List ar} {k:Nat->List W->List ar->T} {G:c5} {ρ:Env} {m:Nat->Nat} {w:World} {zs:List Int} {vals:List Value},
  (l.all b2.uk)=true->b4 n bl.length ρ bl->Mem w0 ρ m bl w->fw ρ s zs->bd (cb l) zs->s+(cb l).length<=n->hI F N w l zs vals->
  (∀u∈us,W.ok n bl.length ρ u)->
  (nO l s n us bl k).holds S L G ρ->∃n' ae m' iG aK,cV n bl.length ρ m n' (List.length aK) ae m'/\b4 n' aK.length ae aK/\Mem w0 ae m' aK w/\iG.map (W.den ae m')=us.map (W.den ρ m)++vals/\(∀u∈iG,W.ok n' aK.length ae u)/\(k n' iG aK).holds S L G ae
 |[],s,n,us,bl,k,G,ρ,m,w,zs,vals,_,hb,hm,_,_,_,hat,nx,ah=>by
  match vals,hat with
  |[],_=>exact⟨n,ρ,m,us,bl,cV.refl _ _ _ _,hb,hm,by simp,nx,ah⟩
 | .d x::r,s,n,us,bl,k,G,ρ,m,w,zs,vals,bf,hb,hm,hA,hz,hn,hat,nx,ah=>by
  match vals,hat with
  |v::vs,hat=>
   obtain⟨hv,hat⟩:=hat
   have hv:v=x.val zs:=hv
   simp only[cb,b2.bds]at hz hn
   simp only[List.length_append]at hn
   obtain⟨i1,i2⟩:=CE hz
   rw[D.yL]at i1 i2 hn
   have hs:=D.AI (ρ:=ρ) (m:=m) (N:=n) (nb:=bl.length) x i1 hA (by omega)
   obtain⟨n',ae,m',iG,aK,g1,g2,g3,g4,g5,g6⟩:=LM (l:=r) (s:=s+x.num) (us:=us++[x.sym s]) (zs:=zs.drop x.num) (by simpa [b2.uk]using bf) hb hm (hA.drop x.num) i2 (by omega) hat (λu hu=>by
    rcases List.mem_append.1 hu with hu|hu
    ·exact nx u hu
    ·simp at hu;subst hu;exact hs.1) ah
   exact⟨n',ae,m',iG,aK,g1,g2,g3,by rw[g4,List.map_append,hv];simp[hs.2],g5,g6⟩
 | .rd _::_,_,_,_,_,_,_,_,_,_,_,_,bf,_,_,_,_,_,_,_,_=>by simp[b2.uk]at bf
 | .mc _ _::_,_,_,_,_,_,_,_,_,_,_,_,bf,_,_,_,_,_,_,_,_=>by simp[b2.uk]at bf
end
end Go.bx
namespace Go.bx
open M
theorem CP (x:Nat) (r:List Nat):lc (x::r)=2^x*(2*lc r+1):=rfl
theorem YA (x:Nat) (r:List Nat):lc r<=lc (x::r):=by
 rw[CP]
 have h1:1<=2^x:=Nat.one_le_two_pow
 have h2:2*lc r+1<=2^x*(2*lc r+1):=Nat.le_mul_of_pos_left _ h1
 omega
theorem OV:∀(a:Nat) (l:List Nat),lc (l.drop a)<=lc l
 |0,l=>by simp
 |a+1,[]=>by simp
 |a+1,x::r=>by rw[List.drop_succ_cons];exact Nat.le_trans (OV a r) (YA x r)
theorem OW:∀(k:Nat) (l:List Nat),lc (l.take k)<=lc l
 |0,l=>by simp[lc]
 |k+1,[]=>by simp
 |k+1,x::r=>by
  rw[List.take_succ_cons,CP,CP]
  exact Nat.mul_le_mul_left _ (by have:=OW k r;omega)
theorem H4 (l:List (List Int)) (a k:Nat):rc ((l.drop a).take k)<=rc l:=by
 unfold rc
 rw[List.map_take,List.map_drop]
 exact_mod_cast Nat.le_trans (OW k _) (OV a _)
theorem agf (n:Nat):qq (sG n)=n:=by
 unfold qq sG
 by_cases h:n% 2=0
 ·rw[if_pos h,if_pos (by omega)];omega
 ·rw[if_neg h,if_neg (by omega)];omega
theorem QL:∀(f n:Nat),0<n->n<=f->n=2^lJ f n*(2*(n/2^lJ f n/2)+1)
 |0,n,h,h'=>by omega
 |f+1,n,h,h'=>by
  unfold lJ
  by_cases hn:n% 2=0
  ·rw[if_pos hn]
   have ih:=QL f (n/2) (by omega) (by omega)
   have e:n/2^(lJ f (n/2)+1)=n/2/2^lJ f (n/2):=by rw[Nat.pow_succ,Nat.mul_comm,Nat.div_div_eq_div_mul]
   rw[e,Nat.pow_succ,Nat.mul_comm (2^_) 2,Nat.mul_assoc,<-ih];omega
  ·rw[if_neg hn];simp;omega
theorem Hh:∀(f n:Nat),n<=f->lc (aF f n)=n
 |0,n,h=>by
  have:n=0:=by omega
  subst this;rfl
 |f+1,n,h=>by
  unfold aF
  by_cases hn:n=0
  ·rw[if_pos hn,hn];rfl
  ·rw[if_neg hn,CP]
   have hp:0<2^lJ n n:=Nat.two_pow_pos _
   have hd:n/2^lJ n n/2<=f:=by
    have h1:n/2^lJ n n<=n:=Nat.div_le_self _ _
    omega
   rw[Hh f _ hd]
   exact(QL n n (by omega) (Nat.le_refl _)).symm
theorem H3 {z:Int} (h:0<=z):rc (ab z)=z:=by
 unfold rc ab
 rw[List.map_map]
 have e:((λrow:List Int=>lc (row.map qq))∘λn=>(aF n n).map sG)=id:=by
  funext n
  simp only[Function.comp,List.map_map,id]
  have:(qq∘sG)=id:=by funext k;exact agf k
  rw[this,List.map_id,Hh n n (Nat.le_refl _)]
 rw[e,List.map_id,Hh _ _ (Nat.le_refl _)]
 omega
def jz:V->List Nat
 | .w (.one (.sl b _ _ _ _ _))=>[b]
 | .w (.one (.slc b _ _ _))=>[b]
 |_=>[]
def Et (cap cQ:I):M Unit:=cond (I.beq cap cQ) (pure ()) (dY 40 [cap,cQ])
noncomputable def Df (sh:List az) (bl:List ar) (v:V):M I:=
 match v with
 | .w (.one (.con (.slice none 0 0)))=>pure (.const 0)
 | .w (.one (.sl b aN o ro len cap))=>match bl[b]? with
  |some ([.rows dx off code cQ kind],_)=>cond (Nat.blt 0 kind&&lf sh dx&&I.beq o off&&Nat.beq aN sh.length) (bind (dY 22 [code,ro,ro.add len]) λ_=>bind (Et cap cQ) λ_=>dz 22 [code,ro,ro.add len] 0 aw) fail
  |_=>fail
 | .w (.one (.slc b off len cap))=>match nZ bl b off (len*sh.length)with
  |some cs=>cond (kH sh&&Nat.ble len 1073741824&&Nat.ble len cap&&Nat.ble cap 9223372036854775807) (rR sh (kx sh.length len cs) (.const 0)) fail
  |none=>match bl[b]? with
   |some ([.rows dx o code cQ kind],_)=>match cQ.cT with
    |some BD=>cond (Nat.blt 0 kind&&lf sh dx&&I.beq o (.const 0)&&Nat.beq off 0&&Nat.ble len cap&&Nat.ble cap 9223372036854775807&&decide (0<=BD)) (bind (dY 22 [code,.const 0,.const len]) λ_=>dz 22 [code,.const 0,.const len] 0 aw) fail
    |none=>fail
   |_=>fail
 |_=>fail
noncomputable def HL (sh:List az) (e:TypeId) (bl:List ar) (v:V):M I:=
 match v with
 | .w (.one (.con (.slice none 0 0)))=>pure (.const 0)
 | .w (.one (.sl b aN o ro len cap))=>match bl[b]? with
  |some ([.rows dx off code cQ kind],t)=>cond (Nat.beq kind 2&&lf sh dx&&I.beq o (.const 0)&&I.beq off (.const 0)&&I.beq ro (.const 0)&&I.beq cap cQ&&Nat.beq aN sh.length&&Nat.beq t.1 e) (bind (dY 22 [code,.const 0,len]) λ_=>dz 22 [code,.const 0,len] 0 aw) fail
  |_=>fail
 | .w (.one (.slc b off len cap))=>match bl[b]? with
  |some (C,t)=>match nZ bl b off (len*sh.length)with
   |some cs=>cond (kH sh&&Nat.ble len 1073741824&&Nat.ble len cap&&Nat.ble cap 9223372036854775807&&Nat.beq off 0&&Nat.beq C.length (cap*sh.length)&& !t.2&&Nat.beq t.1 e) (rR sh (kx sh.length len cs) (.const 0)) fail
   |none=>fail
  |none=>fail
 |_=>fail
def od:V->List Nat
 | .w (.one (.slc b _ _ _))=>[b]
 |_=>[]
def mC (w0:cP) (ρ:Env) (m:Nat->Nat) (bl:List ar) (bs os:List Nat) (g:Nat):Prop:=
 (∃b∈bs,m b=g/\∃p,bl[b]?=some p/\a1 ρ p.1≠0/\(bu p.1=true->b∈os))/\(w0.ex g∨w0.ro g∨w0.r.heap.size<=g)
section
variable {S:Nat->List Int->List Int->Prop} {L:V->Env->Prop} {n:Nat} {ρ:Env} {m:Nat->Nat} {bl:List ar} {gl:c6} {w0:cP} {P:Program} {w:World}
theorem na.mono {F rH:Nat->Prop} {sh:List az} {rows:List (List Int)} {v:Value} (h:na F w sh rows v) (hF:∀g,F g->rH g):na rH w sh rows v:=by
 rcases h with h|⟨g,o,cap,cells,t,fz,h1,h2,h3,h4⟩
 ·exact .inl h
 ·exact .inr ⟨g,o,cap,cells,t,fz,h1,h2,hF g h3,h4⟩
theorem Qq {b off len:Nat} {C:List A} {t:TypeId×Bool} {cs:List A} {sh:List az} {rows:List (List Int)} (hb:b4 n bl.length ρ bl) (hw:Mem w0 ρ m bl w) (aA:bl[b]?=some (C,t)) (cx:nZ bl b off (len*sh.length)=some cs)
 (gB:∀row∈rows,b5 sh row) (fW:bk sh rows=cs.map (A.den ρ m)):w0.b.heap.size<=m b/\(w0.ex (m b)∨w0.r.heap.size<=m b)/\∃cells:Array Value,w.heap[m b]?=some (.cells cells t.1 (0,0))/\jy cells off sh rows/\(t.2=false->cells.size=C.length):=by
 unfold nZ at cx
 rw[aA]at cx
 simp only at cx
 cases hc:(Nat.ble (off+len*sh.length) C.length&&bu C)with
 |false=>rw[hc]at cx;cases cx
 |true=>
  rw[hc]at cx
  simp only[cond_true,Option.some.injEq]at cx
  simp only[Bool.and_eq_true]at hc
  have hle:=Nat.le_of_ble_eq_true hc.1
  obtain⟨g1,g2,r,hr,g3⟩:=hw.dV b C t aA hc.2
  refine⟨g1,g2,_,g3,⟨gB,(C.take off).map (A.den ρ m),((C.drop off).drop (len*sh.length)).map (A.den ρ m)++r,?_,by simp;omega⟩,λht=>by rw[hr ht];simp⟩
  rw[fW,<-cx]
  show C.map (A.den ρ m)++r=_
  have e:C=C.take off++((C.drop off).take (len*sh.length)++(C.drop off).drop (len*sh.length)):=by rw[List.take_append_drop,List.take_append_drop]
  conv=>lhs;rw[e]
  simp only[List.map_append,List.append_assoc]
theorem Av:ab ((I.const 0).den ρ)=[]:=by rw[I.aH];exact fQ
theorem pb:(0:Int)<=aw:=Int.le_trans (eR []) (m7 (l:=[]) (by simp) (by simp))
theorem Qp {sh:List az} {len:Nat} {cs:List A} (jJ:kH sh=true) (hl:len<=1073741824) (bf:∀a∈cs,A.ok n bl.length ρ a) (fC:cs.length=len*sh.length):
 ak S L (rR sh (kx sh.length len cs) (.const 0)) n ρ λae n' l=>l.aV n'/\(0<=l.den ae/\l.den ae<=aw)/\(ab (l.den ae)).length=len/\(∀row∈ab (l.den ae),b5 sh row)/\bk sh (ab (l.den ae))=cs.map (A.den ρ m):=by
 have ic:=yT (w:=sh.length) (k:=len) fC
 refine(yI (nb:=bl.length) (m:=m) jJ (rs:=kx sh.length len cs) (c:= .const 0) (λrow hr a ha=>bf a (yU row hr a ha)) (I.ch _ _) (by rw[I.aH];exact⟨Int.le_refl _,pb⟩) (by rw[Av];intro _ h;simp at h) (by rw[Av,ic.1];simpa using hl)).mono λax aG l hn ha ⟨p1,aS,cN,bR,cY,c8,eN⟩=>?_
 rw[Av,List.nil_append]at bR
 rw[bR]
 exact⟨p1,aS,by rw[cY,ic.1],c8,by rw[eN,ic.2]⟩
theorem SH {cap cQ:I} {α:Type} {x:M α} {R:Env->Nat->α->Prop} (h:(0<=cap.den ρ->0<=cQ.den ρ)->ak S L x n ρ R):ak S L (bind (Et cap cQ) λ_=>x) n ρ R:=by
 unfold Et
 cases hc:I.beq cap cQ with
 |true=>exact h (by rw[I.beq_eq hc];exact id)
 |false=>exact eQ h
theorem PN {sh:List az} {v:V} {X:Value} (hb:b4 n bl.length ρ bl) (hw:Mem w0 ρ m bl w) (hv:v.ok n bl.length ρ) (hX:v.rel ρ m X):
 ak S L (Df sh bl v) n ρ λae n' l=>l.aV n'/\(0<=l.den ae/\l.den ae<=aw)/\na (mC w0 ρ m bl (jz v) (od v)) w sh (ab (l.den ae)) X:=by
 unfold Df
 split
 ·refine ak.pure ⟨I.ch _ _,by rw[I.aH];exact⟨Int.le_refl _,pb⟩,.inl ⟨hX,Av⟩⟩
 ·rename_i b aN o ro len cap
  split
  ·rename_i dx off code cQ kind t aA
   refine cZ λhc=>eQ λhk=>?_
   simp only[Bool.and_eq_true]at hc
   obtain⟨⟨⟨c1,bb⟩,bJ⟩,cg⟩:=hc
   have c1:0<kind:=Nat.le_of_ble_eq_true c1
   have bb:=rk bb;have bJ:=I.beq_eq bJ;have cg:=Nat.eq_of_beq_eq_true cg
   subst bb;subst bJ;subst cg
   simp only[List.map_cons,List.map_nil,U,I.den_add]at hk
   have z1:(A.sl b sh.length o ro len cap).ok n bl.length ρ:=hv
   obtain⟨ptr,e1,e2,e3⟩:=nF (m:=m) z1
   have hX:X=(A.sl b sh.length o ro len cap).den ρ m:=hX
   obtain⟨b8,⟨cO,ev,eO,fR⟩,⟨gh,js,jt,ju⟩,⟨jT,jr⟩,eG,gg⟩:=z1
   have dA:(A.rows sh o code cQ kind).ok n bl.length ρ:=hb _ (List.mem_of_getElem? aA) _ (by simp)
   have hf:aa 22 ([code,ro,ro.add len].map (·.den ρ))=rc (((ab (code.den ρ)).drop (ro.den ρ).toNat).take (len.den ρ).toNat):=by
    simp only[List.map_cons,List.map_nil,aa,I.den_add]
    congr 2;omega
   have df:rc (((ab (code.den ρ)).drop (ro.den ρ).toNat).take (len.den ρ).toNat)<=aw:=by
    have h1:=H4 (ab (code.den ρ)) (ro.den ρ).toNat (len.den ρ).toNat
    rw[H3 dA.2.1.1]at h1
    exact Int.le_trans h1 dA.2.1.2
   refine SH λFQ=>?_
   refine(en (by rw[hf];exact eR _) (by rw[hf];exact df)).mono λax aG l hn ha ⟨k1,k2⟩=>?_
   rw[hf]at k2
   refine⟨k1,by rw[k2];exact⟨eR _,df⟩,?_⟩
   rw[k2,eh]
   have hlen:(((ab (code.den ρ)).drop (ro.den ρ).toNat).take (len.den ρ).toNat).length=(len.den ρ).toNat:=by simp;omega
   rcases Int.lt_or_le (cap.den ρ) 0 with cd|cd
   ·left
    have:=eG cd
    refine⟨by rw[hX,e1,e2 cd,if_pos cd,this];rfl,by rw[this];simp⟩
   ·right
    clear df
    rcases Int.lt_or_le (cQ.den ρ) 0 with nY|nY
    ·have:=FQ cd;omega
    ·obtain⟨gD,cells,gv,fz,q1,⟨aP,bA⟩,_⟩:=(hw.rws b sh o code cQ kind t aA (by omega)).2 nY
     refine⟨m b,(o.den ρ).toNat+(ro.den ρ).toNat*sh.length,(cap.den ρ).toNat,cells,gv,fz,?_,⟨by rw[hlen];have:=gg cd;omega,by omega⟩,⟨⟨b,by simp[jz],rfl,_,aA,by rw[mS (by omega) nY];omega,λh=>by cases h⟩,gD⟩,q1,?_⟩
     ·rw[hX,e1,e3 cd,hlen,if_neg (by omega)]
     ·exact bA.sub _ _ (by omega)
  ·exact ak.fail
 ·rename_i b off len cap
  split
  ·rename_i cs cx
   refine cZ λhc=>?_
   simp only[Bool.and_eq_true]at hc
   obtain⟨⟨⟨c1,bb⟩,bJ⟩,cg⟩:=hc
   have bb:=Nat.le_of_ble_eq_true bb;have bJ:=Nat.le_of_ble_eq_true bJ;have cg:=Nat.le_of_ble_eq_true cg
   obtain⟨d1,d2,d3⟩:=w5 hw hb cx
   refine(Qp (m:=m) c1 bb d2 d1).mono λax aG l hn ha ⟨k1,k2,k3,k4,mb⟩=>⟨k1,k2,.inr ?_⟩
   have hX:X= .slice (some ⟨m b,off,none⟩) len cap:=hX
   cases aA:bl[b]? with
   |none=>unfold nZ at cx;rw[aA]at cx;cases cx
   |some q=>
    obtain⟨C,t⟩:=q
    obtain⟨g1,g2,cells,g3,g4,_⟩:=Qq hb hw aA cx k4 mb
    have iQ:bu C=true:=by
     unfold nZ at cx
     rw[aA]at cx
     simp only at cx
     cases hc:(Nat.ble (off+len*sh.length) C.length&&bu C)with
     |false=>rw[hc]at cx;cases cx
     |true=>simp only[Bool.and_eq_true]at hc;exact hc.2
    exact⟨m b,off,cap,cells,t.1,(0,0),by rw[hX,k3],⟨by omega,by omega⟩,⟨⟨b,by simp[jz],rfl,_,aA,by rw[ik iQ];decide,λ_=>by simp[od]⟩,g2.elim .inl λh=> .inr (.inr h)⟩,g3,g4⟩
  ·split
   ·rename_i dx o code cQ kind t aA
    cases FQ:cQ.cT with
    |none=>exact ak.fail
    |some BD=>
     refine cZ λhc=>eQ λhk=>?_
     simp only[Bool.and_eq_true,decide_eq_true_eq]at hc
     obtain⟨⟨⟨⟨⟨⟨c1,bb⟩,bJ⟩,cg⟩,dK⟩,fe⟩,kv⟩:=hc
     have c1:0<kind:=Nat.le_of_ble_eq_true c1
     have bb:=rk bb;have bJ:=I.beq_eq bJ;have cg:=Nat.eq_of_beq_eq_true cg
     have dK:=Nat.le_of_ble_eq_true dK;have fe:=Nat.le_of_ble_eq_true fe
     subst bb;subst bJ;subst cg
     simp only[List.map_cons,List.map_nil,U,I.aH]at hk
     have hX:X= .slice (some ⟨m b,0,none⟩) len cap:=hX
     have dA:(A.rows sh (.const 0) code cQ kind).ok n bl.length ρ:=hb _ (List.mem_of_getElem? aA) _ (by simp)
     have hf:aa 22 ([code,.const 0,.const (len:Int)].map (·.den ρ))=rc ((ab (code.den ρ)).take len):=by
      simp only[List.map_cons,List.map_nil,aa,I.aH]
      simp
     have df:rc ((ab (code.den ρ)).take len)<=aw:=by
      have h1:=H4 (ab (code.den ρ)) 0 len
      rw[H3 dA.2.1.1,List.drop_zero]at h1
      exact Int.le_trans h1 dA.2.1.2
     refine(en (by rw[hf];exact eR _) (by rw[hf];exact df)).mono λax aG l hn ha ⟨k1,k2⟩=>?_
     rw[hf]at k2
     refine⟨k1,by rw[k2];exact⟨eR _,df⟩,?_⟩
     rw[k2,eh]
     have hlen:((ab (code.den ρ)).take len).length=len:=by simp;omega
     have nY:0<=cQ.den ρ:=by rw[I.fU FQ];exact kv
     obtain⟨gD,cells,gv,fz,q1,⟨aP,bA⟩,_⟩:=(hw.rws b sh (.const 0) code cQ kind t aA (by omega)).2 nY
     have cM:=bA.sub 0 len (by omega)
     rw[List.drop_zero]at cM
     refine .inr ⟨m b,0,cap,cells,gv,fz,by rw[hX,hlen],⟨by omega,by omega⟩,⟨⟨b,by simp[jz],rfl,_,aA,by rw[mS (by omega) nY];omega,λh=>by cases h⟩,gD⟩,q1,?_⟩
     simpa [I.aH]using cM
   ·exact ak.fail
 ·exact ak.fail
theorem aaw {sh:List az} {e:TypeId} {v:V} {X:Value} (hex:∀g,¬w0.ex g) (hb:b4 n bl.length ρ bl) (hw:Mem w0 ρ m bl w) (hv:v.ok n bl.length ρ) (hX:v.rel ρ m X):
 ak S L (HL sh e bl v) n ρ λae n' l=>l.aV n'/\(0<=l.den ae/\l.den ae<=aw)/\s4 (λg=>w0.r.heap.size<=g) w sh e (ab (l.den ae)) X:=by
 unfold HL
 split
 ·refine ak.pure ⟨I.ch _ _,by rw[I.aH];exact⟨Int.le_refl _,pb⟩,.inl ⟨hX,Av⟩⟩
 ·rename_i b aN o ro len cap
  split
  ·rename_i dx off code cQ kind t aA
   refine cZ λhc=>eQ λhk=>?_
   simp only[Bool.and_eq_true]at hc
   obtain⟨⟨⟨⟨⟨⟨⟨c1,bb⟩,bJ⟩,yP⟩,Eo⟩,fe⟩,cg⟩,dK⟩:=hc
   have c1:=Nat.eq_of_beq_eq_true c1
   have bb:=rk bb;have bJ:=I.beq_eq bJ;have yP:=I.beq_eq yP;have Eo:=I.beq_eq Eo;have fe:=I.beq_eq fe;have cg:=Nat.eq_of_beq_eq_true cg;have dK:=Nat.eq_of_beq_eq_true dK
   subst bb;subst bJ;subst cg;subst yP;subst Eo;subst fe;subst dK;subst c1
   simp only[List.map_cons,List.map_nil,U,I.aH]at hk
   have z1:(A.sl b sh.length (.const 0) (.const 0) len cap).ok n bl.length ρ:=hv
   obtain⟨ptr,e1,e2,e3⟩:=nF (m:=m) z1
   have hX:X=(A.sl b sh.length (.const 0) (.const 0) len cap).den ρ m:=hX
   obtain⟨b8,⟨cO,ev,eO,fR⟩,⟨gh,js,jt,ju⟩,⟨jT,jr⟩,eG,gg⟩:=z1
   rw[I.aH]at jr
   have dA:(A.rows sh (.const 0) code cap 2).ok n bl.length ρ:=hb _ (List.mem_of_getElem? aA) _ (by simp)
   have hf:aa 22 ([code,.const 0,len].map (·.den ρ))=rc (((ab (code.den ρ)).drop 0).take (len.den ρ).toNat):=by
    simp only[List.map_cons,List.map_nil,aa,I.aH]
    congr 2
   have df:rc (((ab (code.den ρ)).drop 0).take (len.den ρ).toNat)<=aw:=by
    have h1:=H4 (ab (code.den ρ)) 0 (len.den ρ).toNat
    rw[H3 dA.2.1.1]at h1
    exact Int.le_trans h1 dA.2.1.2
   refine(en (by rw[hf];exact eR _) (by rw[hf];exact df)).mono λax aG l hn ha ⟨k1,k2⟩=>?_
   rw[hf]at k2
   refine⟨k1,by rw[k2];exact⟨eR _,df⟩,?_⟩
   rw[k2,eh]
   have hlen:(((ab (code.den ρ)).drop 0).take (len.den ρ).toNat).length=(len.den ρ).toNat:=by simp;omega
   rcases Int.lt_or_le (cap.den ρ) 0 with cd|cd
   ·left
    have:=eG cd
    refine⟨by rw[hX,e1,e2 cd,if_pos cd,this];rfl,by rw[this];simp⟩
   ·right
    clear df
    obtain⟨gD,cells,gv,fz,q1,⟨aP,bA⟩,cM⟩:=(hw.rws b sh (.const 0) code cap 2 t aA (by omega)).2 cd
    obtain⟨p0,p1,aS,bR,cY,c8⟩:=cM (by omega)
    have aS:=aS.two
    subst p0;subst aS
    rw[I.aH]at bA
    refine⟨m b,(cap.den ρ).toNat,cells,?_,⟨by rw[hlen];have:=gg cd;omega,by omega⟩,c8.elim (λh=>absurd h (hex _)) id,q1,?_,bR⟩
    ·rw[hX,e1,e3 cd,hlen,if_neg (by omega)];simp[I.aH]
    ·have:=bA.sub 0 (len.den ρ).toNat (by omega)
     simpa using this
  ·exact ak.fail
 ·rename_i b off len cap
  split
  ·rename_i C t aA
   split
   ·rename_i cs cx
    refine cZ λhc=>?_
    simp only[Bool.and_eq_true]at hc
    obtain⟨⟨⟨⟨⟨⟨⟨c1,bb⟩,bJ⟩,cg⟩,dK⟩,fe⟩,kv⟩,kS⟩:=hc
    have bb:=Nat.le_of_ble_eq_true bb;have bJ:=Nat.le_of_ble_eq_true bJ;have cg:=Nat.le_of_ble_eq_true cg
    have dK:=Nat.eq_of_beq_eq_true dK;have fe:=Nat.eq_of_beq_eq_true fe;have kS:=Nat.eq_of_beq_eq_true kS
    subst dK;subst kS
    obtain⟨d1,d2,d3⟩:=w5 hw hb cx
    refine(Qp (m:=m) c1 bb d2 d1).mono λax aG l hn ha ⟨k1,k2,k3,k4,mb⟩=>⟨k1,k2,.inr ?_⟩
    have hX:X= .slice (some ⟨m b,0,none⟩) len cap:=hX
    obtain⟨g1,g2,cells,g3,g4,g5⟩:=Qq hb hw aA cx k4 mb
    exact⟨m b,cap,cells,by rw[hX,k3],⟨by omega,by omega⟩,g2.elim (λh=>absurd h (hex _)) id,g3,g4,by rw[g5 (by simpa using kv),fe]⟩
   ·exact ak.fail
  ·exact ak.fail
 ·exact ak.fail
end
def Fb (d:D) (v:V):M (List I):=
 match d,v with
 | .bool,.w (.one (.bool e))=>match e with
  | .lit v=>pure [.const (cond v 1 0)]
  |e=>bind (uh e) λl=>pure [l]
 | .int k lo hi,.w (.one (.int aM x))=>cond (decide (k=aM)) (cond (lS lo hi x) (pure [x.l]) (bind (dY 39 [x.l,.const lo,.const hi]) λ_=>pure [x.l])) fail
 | .mix l,.w (.agg s)=>rh l s
 | .str,.w (.one (.str l))=>pure [l]
 | .rl l,.w (.one (.str x))=>match x.cT with|some c=>cond (decide (c=fT (n5 l))) (pure []) fail|none=>fail
 | .oN k c,.w (.one (.int aM x))=>match x.l.cT with|some d=>cond (decide (k=aM)&&decide (d=c)) (pure []) fail|none=>fail
 | .agg k n lo hi,.w (.agg l)=>cond (Nat.beq l.length n) (match jE k lo hi l with|some r=>pure r|none=>fail) fail
 |_,_=>fail
noncomputable def tp (bl:List ar):List b2->List V->M (List I)
 |[],[]=>pure []
 | .d x::r,v::s=>bind (Fb x v) λa=>bind (tp bl r s) λb=>pure (a++b)
 | .rd sh::r,v::s=>bind (Df sh bl v) λa=>bind (tp bl r s) λb=>pure (a::b)
 |_,_=>fail
section
variable {S:Nat->List Int->List Int->Prop} {L:V->Env->Prop} {w0:cP} {P:Program} {w:World}
theorem Ib:∀{sh:List az} {zs:List Int},b5 sh zs->bd (sh.map az.dJ) zs/\List.zipWith az.val sh zs=dD sh zs
 |[],[],_=>⟨trivial,rfl⟩
 |c::sh,z::zs,h=>⟨⟨h.1.1,h.1.2,(Ib h.2).1⟩,by simp[dD,(Ib h.2).2]⟩
 |[],_::_,h=>h.elim
 |_::_,[],h=>h.elim
theorem Tr {d:D} {v:V} {X:Value} {n nb:Nat} {ρ:Env} {m:Nat->Nat} (hv:v.ok n nb ρ) (hX:v.rel ρ m X):ak S L (Fb d v) n ρ λae n' ls=>(∀x∈ls,I.aV n' x)/\bd d.bds (ls.map (·.den ae))/\X=d.val (ls.map (·.den ae)):=by
 unfold Fb
 split
 ·rename_i e
  have hX:X= .bool (e.den ρ):=hX
  have key:ak S L (bind (uh e) λl=>pure [l]) n ρ λae n' ls=>(∀x∈ls,I.aV n' x)/\bd D.bool.bds (ls.map (·.den ae))/\X=D.bool.val (ls.map (·.den ae)):=
   CF.bind λax aG l hn ha ⟨g1,g2,g3⟩=>ak.pure ⟨λx hx=>by simp at hx;subst hx;exact g1,⟨g2.1,g2.2,trivial⟩,by rw[hX,g3];rfl⟩
  cases e with
  |lit b=>
   refine ak.pure ⟨λx hx=>by simp at hx;subst hx;exact I.ch _ _,?_,?_⟩
   ·simp only[List.map_cons,List.map_nil,I.aH,D.bds];cases b<;>exact⟨by decide,by decide,trivial⟩
   ·rw[hX];simp only[List.map_cons,List.map_nil,I.aH];cases b<;>rfl
  |_=>exact key
 ·rename_i k lo hi aM x
  refine cZ λhk=>?_
  have hk:k=aM:=by simpa using hk
  subst hk
  have hv:x.ok n ρ:=hv
  have hX:X= .int k (x.l.den ρ):=hX
  cases hf:lS lo hi x with
  |true=>
   have:=y3 hf hv
   exact ak.pure ⟨λy hy=>by simp at hy;subst hy;exact hv.1,⟨this.1,this.2,trivial⟩,hX⟩
  |false=>
   refine eQ λhk=>ak.pure ?_
   simp only[List.map_cons,List.map_nil,U,I.aH]at hk
   exact⟨λy hy=>by simp at hy;subst hy;exact hv.1,⟨hk.1,hk.2,trivial⟩,hX⟩
 ·rename_i l s
  have hX:X= .agg (s.map (A.den ρ m)).toArray:=hX
  refine(yd (nb:=nb) (m:=m) hv).mono λax aG ls hn ha ⟨g1,g2,g3⟩=>?_
  have:=Ib g2
  refine⟨g1,this.1,?_⟩
  rw[hX,<-g3]
  simp only[D.val,this.2]
 ·rename_i l
  have hX:X= .string (cJ (aI (l.den ρ))):=hX
  have hv:l.aV n/\0<=l.den ρ/\l.den ρ<=gn:=hv
  exact ak.pure ⟨λy hy=>by simp at hy;subst hy;exact hv.1,⟨hv.2.1,hv.2.2,trivial⟩,hX⟩
 ·rename_i l x
  have hX:X= .string (cJ (aI (x.den ρ))):=hX
  cases hc:x.cT with
  |none=>exact ak.fail
  |some c=>
   refine cZ λhd=>ak.pure ⟨λy hy=>by simp at hy,trivial,?_⟩
   rw[hX,Qx (n:=n) hc (by simpa using hd)];rfl
 ·rename_i k c aM x
  have hX:X= .int aM (x.l.den ρ):=hX
  cases hc:x.l.cT with
  |none=>exact ak.fail
  |some d=>
   refine cZ λhd=>ak.pure ⟨λy hy=>by simp at hy,trivial,?_⟩
   simp only[Bool.and_eq_true,decide_eq_true_eq]at hd
   rw[hX,I.fU hc,<-hd.1,hd.2];rfl
 ·rename_i k n' lo hi l
  refine cZ λhk=>?_
  have hk:=Nat.eq_of_beq_eq_true hk
  have hX:X= .agg (l.map (A.den ρ m)).toArray:=hX
  cases hf:jE k lo hi l with
  |none=>exact ak.fail
  |some r=>
   obtain⟨g1,g2,g3⟩:=E9 (m:=m) hf hv
   rw[hk]at g2
   refine ak.pure ⟨E8 hf hv,g2,?_⟩
   rw[hX,g3]
   simp only[D.val]
   rw[List.take_of_length_le (by simp[g1,hk])]
 ·exact ak.fail
theorem Ph {n:Nat} {ρ ae:Env} {ls:List I} (h:∀x∈ls,I.aV n x) (ha:agree n ρ ae):ls.map (·.den ae)=ls.map (·.den ρ):=List.map_congr_left λx hx=>I.bj ha (h x hx)
theorem mC.later {n nb:Nat} {ρ ae:Env} {m:Nat->Nat} {bl:List ar} {bs os:List Nat} {g:Nat} (hb:b4 n nb ρ bl) (ha:agree n ρ ae) (h:mC w0 ae m bl bs os g):mC w0 ρ m bl bs os g:=by
 obtain⟨⟨b,h1,h2,p,h3,h4,h6⟩,h5⟩:=h
 exact⟨⟨b,h1,h2,p,h3,by rw[<-nz (hb p (List.mem_of_getElem? h3)) ha];exact h4,h6⟩,h5⟩
theorem BY {bl:List ar} {m:Nat->Nat}:∀{ds:List b2} {vs:List V} {xs:List Value} {n:Nat} {ρ:Env},b4 n bl.length ρ bl->Mem w0 ρ m bl w->(∀v∈vs,V.ok n bl.length ρ v)->dn ρ m vs xs->
 ak S L (tp bl ds vs) n ρ λae n' ls=>(∀x∈ls,I.aV n' x)/\bd (cb ds) (ls.map (·.den ae))/\∀F:Nat->Prop,(∀g,mC w0 ρ m bl (vs.flatMap jz) (vs.flatMap od) g->F g)->hI F (λ_=>False) w ds (ls.map (·.den ae)) xs
 |[],[],[],n,ρ,_,_,_,_=>ak.pure ⟨λ_ h=>by simp at h,trivial,λ_ _=>trivial⟩
 | .d x::r,v::s,X::xs,n,ρ,hb,hw,hv,hr=>by
  unfold tp
  refine(Tr (hv v (by simp)) hr.1).bind λax aG a hn ha ⟨g1,g2,g3⟩=>?_
  refine(BY (ds:=r) (vs:=s) (xs:=xs) (hb.ext ha hn (Nat.le_refl _)) (hw.kE hb ha) (λu hu=>(hv u (List.mem_cons_of_mem _ hu)).ext ha hn (Nat.le_refl _)) (dn.later (λu hu=>hv u (List.mem_cons_of_mem _ hu)) ha hr.2)).bind λbg dC b dF cK ⟨k1,k2,k3⟩=>ak.pure ⟨λy hy=>?_,?_,λF hF=>?_⟩
  ·rcases List.mem_append.1 hy with hy|hy
   ·exact(g1 y hy).mono dF
   ·exact k1 y hy
  ·rw[List.map_append,Ph g1 cK]
   exact oO g2 k2
  ·have hl:(a.map (·.den ax)).length=x.num:=by rw[ny g2,D.yL]
   rw[List.map_append,Ph g1 cK]
   refine⟨?_,?_⟩
   ·show X=x.val _
    rw[D.afX x hl];exact g3
   ·show hI F _ w r (List.drop x.num _) xs
    rw[<-hl,List.drop_left]
    exact k3 F λg hg=>hF g (by
     have:=mC.later hb ha hg
     obtain⟨⟨b6,h1,h2,p,h4,h5,h6⟩,h3⟩:=this
     exact⟨⟨b6,by simp only[List.flatMap_cons,List.mem_append];exact .inr h1,h2,p,h4,h5,λh=>by simp only[List.flatMap_cons,List.mem_append];exact .inr (h6 h)⟩,h3⟩)
 | .rd sh::r,v::s,X::xs,n,ρ,hb,hw,hv,hr=>by
  unfold tp
  refine(PN hb hw (hv v (by simp)) hr.1).bind λax aG a hn ha ⟨g1,g2,g3⟩=>?_
  refine(BY (ds:=r) (vs:=s) (xs:=xs) (hb.ext ha hn (Nat.le_refl _)) (hw.kE hb ha) (λu hu=>(hv u (List.mem_cons_of_mem _ hu)).ext ha hn (Nat.le_refl _)) (dn.later (λu hu=>hv u (List.mem_cons_of_mem _ hu)) ha hr.2)).bind λbg dC b dF cK ⟨k1,k2,k3⟩=>ak.pure ⟨λy hy=>?_,?_,λF hF=>?_⟩
  ·rcases List.mem_cons.1 hy with rfl|hy
   ·exact g1.mono dF
   ·exact k1 y hy
  ·simp only[List.map_cons,I.bj cK g1]
   exact⟨g2.1,g2.2,k2⟩
  ·simp only[List.map_cons,I.bj cK g1]
   refine⟨?_,?_⟩
   ·show na F w sh (ab _) X
    exact g3.mono λg hg=>hF g (by
     obtain⟨⟨b6,h1,h2,p,h4,h5,h6⟩,h3⟩:=hg
     exact⟨⟨b6,by simp only[List.flatMap_cons,List.mem_append];exact .inl h1,h2,p,h4,h5,λh=>by simp only[List.flatMap_cons,List.mem_append];exact .inl (h6 h)⟩,h3⟩)
   ·exact k3 F λg hg=>hF g (by
     have:=mC.later hb ha hg
     obtain⟨⟨b6,h1,h2,p,h4,h5,h6⟩,h3⟩:=this
     exact⟨⟨b6,by simp only[List.flatMap_cons,List.mem_append];exact .inr h1,h2,p,h4,h5,λh=>by simp only[List.flatMap_cons,List.mem_append];exact .inr (h6 h)⟩,h3⟩)
 |[],_::_,_,_,_,_,_,_,_=>ak.fail
 | .d _::_,[],_,_,_,_,_,_,_=>ak.fail
 | .rd _::_,[],_,_,_,_,_,_,_=>ak.fail
 | .mc _ _::_,[],_,_,_,_,_,_,_=>ak.fail
 | .mc _ _::_,_::_,_,_,_,_,_,_,_=>ak.fail
 |_,[],_::_,_,_,_,_,_,hr=>hr.elim
 |_,_::_,[],_,_,_,_,_,hr=>hr.elim
where
 dn.later {n nb:Nat} {ρ ae:Env} {m:Nat->Nat}:∀{vs:List V} {xs:List Value},(∀v∈vs,V.ok n nb ρ v)->agree n ρ ae->dn ρ m vs xs->dn ae m vs xs
 |[],[],_,_,_=>trivial
 |v::vs,x::xs,hv,ha,hr=>⟨V.rel.ext hr.1 (hv v (by simp)) ha (λ_ _=>rfl),dn.later (λu hu=>hv u (List.mem_cons_of_mem _ hu)) ha hr.2⟩
 |[],_::_,_,_,hr=>hr.elim
 |_::_,[],_,_,hr=>hr.elim
end
end Go.bx
namespace Go.bx
open M
def rZ:List Nat->List ar->List ar
 |[],bl=>bl
 |b::r,bl=>match bl[b]? with
  |some ([.rows sh off code cap (k+1)],t)=>rZ r (cB bl b ([.rows sh off code cap 1],t))
  |_=>rZ r bl
def pZ (us:List W):V:=match us with|[u]=> .w u|l=> .eF l
def pT:List V->Bool
 |[]=>true
 | .w (.one (.slc ..))::_=>false
 |_::r=>pT r
noncomputable def dd.yu (c:dd) (n:Nat) (vs:List V) (bl:List ar) (k:RK):T:=
 tp bl c.args vs n λls aG=>cond (kr c.res&&(!(c.res.any b2.kD)||pT vs)) (Db c.pre ls (.call c.id ls aG (cb c.res) (nO c.res aG (aG+(cb c.res).length) [] (cond (c.res.any b2.kD) (rZ (vs.flatMap jz) bl) bl) λdC us jg=>k dC (pZ us) jg))) .stuck
def Q1 (sh:List az) (b:Nat):V:= .w (.one (.sl b sh.length (.const 0) (.const 0) (.const 0) (.const 0)))
def Kg (rd:Bool) (sh:List az) (b:Nat) (bl:List ar):Option (List ar):=
 match bl[b]? with
 |some ([],(t,false))=>cond rd (some (cB bl b ([.rows sh (.const 0) (.const 0) (.const 0) 1],(t,false)))) none
 |some ([.rows dx off code cap kind],t)=>cond (lf sh dx&&I.beq off (.const 0)&&I.beq cap (.const 0)&&Nat.blt 0 kind) (some bl) none
 |_=>none
def iJ (rd:Bool):List b2->List V->List ar->List V×List ar
 | .rd sh::r,v::s,bl=>match v with
  | .w (.one (.slc b 0 0 0))=>match Kg rd sh b bl with
   |some lR=>(Q1 sh b::(iJ rd r s lR).1,(iJ rd r s lR).2)
   |none=>(v::(iJ rd r s bl).1,(iJ rd r s bl).2)
  |_=>(v::(iJ rd r s bl).1,(iJ rd r s bl).2)
 |_::r,v::s,bl=>(v::(iJ rd r s bl).1,(iJ rd r s bl).2)
 |_,vs,bl=>(vs,bl)
noncomputable def dd.E (c:dd) (n:Nat) (vs:List V) (bl:List ar) (k:RK):T:=
 c.yu n (iJ (c.res.any b2.kD) c.args vs bl).1 (iJ (c.res.any b2.kD) c.args vs bl).2 k
section
variable {S:Nat->List Int->List Int->Prop} {L:V->Env->Prop} {w0:cP} {P:Program}
theorem Mem.zero {ρ:Env} {m:Nat->Nat} {bl:List ar} {w:World} {b:Nat} {sh:List az} {t:TypeId} (h:Mem w0 ρ m bl w) (aA:bl[b]?=some ([],(t,false))):Mem w0 ρ m (cB bl b ([.rows sh (.const 0) (.const 0) (.const 0) 1],(t,false))) w:=by
 have lU:b<bl.length:=(List.getElem?_eq_some_iff.1 aA).1
 obtain⟨q1,aP,r,hr,bA⟩:=h.dV b [] (t,false) aA rfl
 have hr:=hr rfl
 subst hr
 have cL:∀(i:Nat) (p:ar),(cB bl b ([.rows sh (.const 0) (.const 0) (.const 0) 1],(t,false)))[i]?=some p->(i=b/\p=([.rows sh (.const 0) (.const 0) (.const 0) 1],(t,false)))∨(i≠b/\bl[i]?=some p):=λi p hi=>by
  rw[gZ,List.getElem?_set]at hi
  split at hi
  ·rename_i et
   subst et
   simp only[lU,if_true,Option.some.injEq]at hi
   exact .inl ⟨rfl,hi.symm⟩
  ·rename_i et;exact .inr ⟨λe=>et e.symm,hi⟩
 have hold:a1 ρ ([]:List A)=2:=ik rfl
 refine⟨h.ext,h.fs,h.gU,h.fX,h.dW,h.fg,λi gq t' hi fD=>?_,λi dx fP code' cap' k5 t' hi=>?_,λi j p q hi hj he=>?_⟩
 ·rcases cL i _ hi with⟨rfl,cE⟩|⟨hne,hi⟩
  ·cases cE;cases fD
  ·exact h.dV i gq t' hi fD
 ·rcases cL i _ hi with⟨rfl,cE⟩|⟨hne,hi⟩
  ·cases cE
   intro _
   simp only[I.aH]
   exact⟨λh0=>by omega,λ_=>⟨aP.elim .inl λh=> .inr (.inr h),_,_,_,bA,⟨Int.le_refl _,by rw[fQ];intro _ h;simp at h,[],[],by simp[fQ,bk],rfl⟩,λbz=>by omega⟩⟩
  ·exact h.rws i dx fP _ cap' k5 t' hi
 ·rcases cL i _ hi with⟨rfl,cE⟩|⟨hne,kW⟩
  ·rcases cL j _ hj with⟨rfl,n0⟩|⟨Wq,hj⟩
   ·exact .inl rfl
   ·rcases h.inj i j _ q aA hj he with h1|h1|h1|h1
    ·exact .inl h1
    ·simp only[hold]at h1;omega
    ·simp only[hold]at h1;omega
    ·exact .inr (.inr (.inr h1))
  ·rcases cL j _ hj with⟨tL,n0⟩|⟨Wq,hj⟩
   ·subst tL
    rcases h.inj i j p _ kW aA he with h1|h1|h1|h1
    ·exact .inl h1
    ·simp only[hold]at h1;omega
    ·exact .inr (.inr (.inl h1))
    ·simp only[hold]at h1;omega
   ·exact h.inj i j p q kW hj he
theorem agb {n:Nat} {ρ:Env} {m:Nat->Nat} {w:World} {rd:Bool} {sh:List az} {b:Nat} {bl lR:List ar} (h:Kg rd sh b bl=some lR) (hm:Mem w0 ρ m bl w) (hb:b4 n bl.length ρ bl):Mem w0 ρ m lR w/\b4 n lR.length ρ lR/\lR.length=bl.length/\b<bl.length:=by
 unfold Kg at h
 split at h
 ·rename_i t aA
  cases rd with
  |false=>cases h
  |true=>
   simp only[cond_true,Option.some.injEq]at h
   subst h
   refine⟨hm.zero aA,hb.set (λa ha=>?_),gu _ _ _,(List.getElem?_eq_some_iff.1 aA).1⟩
   have ha:a= .rows sh (.const 0) (.const 0) (.const 0) 1:=by simpa using ha
   subst ha
   refine⟨⟨I.ch _ _,I.ch _ _,I.ch _ _⟩,?_,?_⟩
   ·simp only[I.aH];exact⟨Int.le_refl _,pb⟩
   ·simp only[I.aH];omega
 ·rename_i dx off code cap kind t aA
  cases hc:(lf sh dx&&I.beq off (.const 0)&&I.beq cap (.const 0)&&Nat.blt 0 kind)with
  |false=>rw[hc]at h;cases h
  |true=>
   rw[hc]at h
   simp only[cond_true,Option.some.injEq]at h
   subst h
   exact⟨hm,hb,rfl,(List.getElem?_eq_some_iff.1 aA).1⟩
 ·cases h
theorem Kh {n:Nat} {ρ:Env} {m:Nat->Nat} {w:World} {rd:Bool}:∀{ds:List b2} {vs:List V} {bl:List ar} {xs:List Value},Mem w0 ρ m bl w->b4 n bl.length ρ bl->(∀v∈vs,V.ok n bl.length ρ v)->dn ρ m vs xs->
 Mem w0 ρ m (iJ rd ds vs bl).2 w/\b4 n (iJ rd ds vs bl).2.length ρ (iJ rd ds vs bl).2/\(iJ rd ds vs bl).2.length=bl.length/\(∀v∈(iJ rd ds vs bl).1,V.ok n bl.length ρ v)/\dn ρ m (iJ rd ds vs bl).1 xs
 |[],vs,bl,xs,hm,hb,hv,hr=>⟨hm,hb,rfl,hv,hr⟩
 |d::r,[],bl,xs,hm,hb,hv,hr=>by
  cases d<;>exact⟨hm,hb,rfl,hv,hr⟩
 |d::r,v::s,bl,xs,hm,hb,hv,hr=>by
  match xs,hr with
  |x::xs,hr=>
  have dZ:Mem w0 ρ m (iJ rd r s bl).2 w/\b4 n (iJ rd r s bl).2.length ρ (iJ rd r s bl).2/\(iJ rd r s bl).2.length=bl.length/\(∀u∈(v::(iJ rd r s bl).1),V.ok n bl.length ρ u)/\dn ρ m (v::(iJ rd r s bl).1) (x::xs):=by
   obtain⟨g1,g2,g3,g4,g5⟩:=Kh (rd:=rd) (ds:=r) (vs:=s) hm hb (λu hu=>hv u (List.mem_cons_of_mem _ hu)) hr.2
   exact⟨g1,g2,g3,λu hu=>by
    rcases List.mem_cons.1 hu with rfl|hu
    ·exact hv u (by simp)
    ·exact g4 u hu,hr.1,g5⟩
  cases d with
  |d y=>exact dZ
  |mc sh e=>exact dZ
  |rd sh=>
   unfold iJ
   split
   ·rename_i b _
    split
    ·rename_i lR hz
     obtain⟨q1,aP,bA,cM⟩:=agb hz hm hb
     obtain⟨g1,g2,g3,g4,g5⟩:=Kh (rd:=rd) (ds:=r) (vs:=s) q1 aP (λu hu=>by rw[bA];exact hv u (List.mem_cons_of_mem _ hu)) hr.2
     refine⟨g1,g2,by rw[g3,bA],λu hu=>?_,?_,g5⟩
     ·rcases List.mem_cons.1 hu with rfl|hu
      ·refine⟨cM,⟨I.ch _ _,I.ch _ _,I.ch _ _,I.ch _ _⟩,?_⟩
       simp only[I.aH]
       exact⟨⟨by omega,by omega,by omega,by omega⟩,⟨by omega,by omega⟩,λh=>by omega,λ_=>by omega⟩
      ·rw[<-bA];exact g4 u hu
     ·have h0:x= .slice (some ⟨m b,0,none⟩) 0 0:=hr.1
      rw[h0]
      simp[Q1,V.rel,W.den,A.den,I.aH]
    ·exact dZ
   ·exact dZ
theorem Mem.low {ρ:Env} {m:Nat->Nat} {bl:List ar} {w:World} {b k:Nat} {sh:List az} {off code cap:I} {t:TypeId×Bool} (h:Mem w0 ρ m bl w) (aA:bl[b]?=some ([.rows sh off code cap (k+1)],t)):Mem w0 ρ m (cB bl b ([.rows sh off code cap 1],t)) w:=by
 have lU:b<bl.length:=(List.getElem?_eq_some_iff.1 aA).1
 have cL:∀(i:Nat) (p:ar),(cB bl b ([.rows sh off code cap 1],t))[i]?=some p->(i=b/\p=([.rows sh off code cap 1],t))∨(i≠b/\bl[i]?=some p):=λi p hi=>by
  rw[gZ,List.getElem?_set]at hi
  split at hi
  ·rename_i et
   subst et
   simp only[lU,if_true,Option.some.injEq]at hi
   exact .inl ⟨rfl,hi.symm⟩
  ·rename_i et;exact .inr ⟨λe=>et e.symm,hi⟩
 have hk:∀(i:Nat) (p:ar),(cB bl b ([.rows sh off code cap 1],t))[i]?=some p->∃cn,bl[i]?=some cn/\a1 ρ p.1<=a1 ρ cn.1/\(a1 ρ cn.1≠0->True):=λi p hi=>by
  rcases cL i p hi with⟨rfl,rfl⟩|⟨hne,hi⟩
  ·refine⟨_,aA,?_,λ_=>trivial⟩
   simp only[a1];split<;>omega
  ·exact⟨p,hi,Nat.le_refl _,λ_=>trivial⟩
 refine⟨h.ext,h.fs,h.gU,h.fX,h.dW,h.fg,λi gq t' hi ho=>?_,λi dx fP code' cap' k5 t' hi=>?_,λi j p q hi hj he=>?_⟩
 ·rcases cL i _ hi with⟨rfl,cE⟩|⟨hne,hi⟩
  ·cases cE;cases ho
  ·exact h.dV i gq t' hi ho
 ·rcases cL i _ hi with⟨rfl,cE⟩|⟨hne,hi⟩
  ·cases cE
   intro _
   obtain⟨g1,g2⟩:=h.rws i _ _ _ _ (k+1) _ aA (by omega)
   refine⟨g1,λhc=>?_⟩
   obtain⟨g3,cells,gv,fz,g4,g5,_⟩:=g2 hc
   exact⟨g3,cells,gv,fz,g4,g5,λh2=>by omega⟩
  ·exact h.rws i dx fP _ cap' k5 t' hi
 ·obtain⟨cn,h1,h2,_⟩:=hk i p hi
  obtain⟨iq,h3,h4,_⟩:=hk j q hj
  rcases h.inj i j cn iq h1 h3 he with h5|h5|h5|h5
  ·exact .inl h5
  ·exact .inr (.inl ⟨by omega,by omega⟩)
  ·exact .inr (.inr (.inl (by omega)))
  ·exact .inr (.inr (.inr (by omega)))
theorem Fi {n nb:Nat} {ρ:Env} {m:Nat->Nat} {w:World}:∀{bs:List Nat} {bl:List ar},Mem w0 ρ m bl w->b4 n nb ρ bl->Mem w0 ρ m (rZ bs bl) w/\b4 n nb ρ (rZ bs bl)/\(rZ bs bl).length=bl.length/\
 ∀(i:Nat) (p:ar),(rZ bs bl)[i]?=some p->∃cn,bl[i]?=some cn/\a1 ρ p.1<=a1 ρ cn.1/\(i∈bs->bu cn.1=false->a1 ρ p.1<=1)
 |[],bl,h,hb=>⟨h,hb,rfl,λi p hi=>⟨p,hi,Nat.le_refl _,λh=>by simp at h⟩⟩
 |b::r,bl,h,hb=>by
  unfold rZ
  split
  ·rename_i sh off code cap k t aA
   have lU:b<bl.length:=(List.getElem?_eq_some_iff.1 aA).1
   have lr:b4 n nb ρ (cB bl b ([.rows sh off code cap 1],t)):=λp hp a ha=>by
    rw[gZ]at hp
    rcases List.mem_or_eq_of_mem_set hp with hp|hp
    ·exact hb p hp a ha
    ·subst hp
     simp at ha;subst ha
     have h0:A.ok n nb ρ (.rows sh off code cap (k+1)):=hb _ (List.mem_of_getElem? aA) _ (by simp)
     exact h0
   obtain⟨g1,g2,g3,g4⟩:=Fi (bs:=r) (h.low aA) lr
   refine⟨g1,g2,by rw[g3,gu],λi p hp=>?_⟩
   obtain⟨cn,h1,h2,h3⟩:=g4 i p hp
   by_cases gr:i=b
   ·subst gr
    rw[gZ,List.getElem?_set_self lU]at h1
    cases h1
    refine⟨_,aA,Nat.le_trans h2 (by simp only[a1];split<;>omega),λ_ _=>Nat.le_trans h2 (by simp only[a1];split<;>omega)⟩
   ·rw[gZ,List.getElem?_set_ne (λe=>gr e.symm)]at h1
    exact⟨cn,h1,h2,λhi ho=>h3 (by simpa [gr]using hi) ho⟩
  ·rename_i ij
   obtain⟨g1,g2,g3,g4⟩:=Fi (bs:=r) h hb
   refine⟨g1,g2,g3,λi p hp=>?_⟩
   obtain⟨cn,h1,h2,h3⟩:=g4 i p hp
   refine⟨cn,h1,h2,λhi ho=>?_⟩
   rcases List.mem_cons.1 hi with rfl|hi
   ·obtain⟨C,t⟩:=cn
    obtain⟨sh,off,code,cap,k,rfl⟩:=C5 ho
    cases k with
    |zero=>
     have:a1 ρ [A.rows sh off code cap 0]=0:=by simp[a1]
     simp only[this]at h2;omega
    |succ k=>exact absurd h1 (ij _ _ _ _ _ _)
   ·exact h3 hi ho
theorem H7 {n nb:Nat} {ρ:Env} {m:Nat->Nat} {us:List W} {vals:List Value} (h:∀u∈us,W.ok n nb ρ u) (hm:us.map (W.den ρ m)=vals):(pZ us).ok n nb ρ/\(pZ us).rel ρ m (lg vals):=by
 subst hm
 unfold pZ lg
 split
 ·exact⟨h _ (by simp),rfl⟩
 ·rename_i hne
  refine⟨h,?_⟩
  split
  ·rename_i x hx
   match us,hne,hx with
   |[u],hne,_=>exact absurd rfl (hne u)
  ·rfl
theorem Pv:∀{vs:List V},pT vs=true->vs.flatMap od=[]
 |[],_=>rfl
 |v::r,h=>by
  unfold pT at h
  split at h
  ·rename_i heq;cases heq
  ·cases h
  ·rename_i hne heq
   cases heq
   rw[List.flatMap_cons,Pv h,List.append_nil]
   unfold od
   split
   ·exact(hne _ _ _ _ rfl).elim
   ·rfl
theorem Pw:∀{vs:List V} {b:Nat},pT vs=true->b∈vs.flatMap jz->∃aN o ro len cap,V.w (.one (.sl b aN o ro len cap))∈vs
 |[],b,_,h=>by simp at h
 |v::r,b,h,hb=>by
  simp only[List.flatMap_cons,List.mem_append]at hb
  rcases hb with hb|hb
  ·unfold jz at hb
   split at hb
   ·simp at hb;subst hb;exact⟨_,_,_,_,_,List.mem_cons_self ..⟩
   ·simp[pT]at h
   ·simp at hb
  ·have h':pT r=true:=by
    unfold pT at h
    split at h
    ·rename_i heq;cases heq
    ·cases h
    ·rename_i heq;cases heq;exact h
   obtain⟨aN,o,ro,len,cap,h1⟩:=Pw h' hb
   exact⟨aN,o,ro,len,cap,List.mem_cons_of_mem _ h1⟩
theorem dd.Lr {c:dd} {spec:List Int->List Int->Prop} {f:FuncId} {LN:Array Value} (iN:∀zs rs,spec zs rs->S c.id zs rs) (n:Nat) (vs:List V) (bl:List ar) (k:RK) (G:c5) (ρ:Env) (m:Nat->Nat) (w:World) (xs:List Value) (R':Ending->World->Prop)
 (hc:∀zs,bd (cb c.args) zs->ra c.pre zs->hI (mC w0 ρ m bl (vs.flatMap jz) (vs.flatMap od)) (λ_=>False) w c.args zs xs->
   Calls P f LN w λe w'=>w.Extends w'/\∃rs us,bd (cb c.res) rs/\spec zs rs/\hI (λg=>mC w0 ρ m bl (vs.flatMap jz) (vs.flatMap od) g∨w.heap.size<=g) (λg=>w.heap.size<=g) w' c.res rs us/\e= .returned (lg us))
 (hb:b4 n bl.length ρ bl) (hw:Mem w0 ρ m bl w) (hv:∀v∈vs,V.ok n bl.length ρ v) (hr:dn ρ m vs xs) (ah:(c.yu n vs bl k).holds S L G ρ) (hk:rO S L w0 k n bl.length ρ m G R'):
 Calls P f LN w R':=by
 unfold dd.yu at ah
 obtain⟨ax,aG,ls,eD,dj,⟨g1,g2,g3⟩,ah⟩:=BY (S:=S) (L:=L) hb hw hv hr G _ ah
 cases hq:(kr c.res&&(!(c.res.any b2.kD)||pT vs))with
 |false=>rw[hq]at ah;exact ah.elim
 |true=>
  rw[hq]at ah
  simp only[cond_true]at ah
  obtain⟨iC,ah⟩:=preM_holds ah
  simp only[T.holds]at ah
  simp only[Bool.and_eq_true,Bool.or_eq_true,Bool.not_eq_true']at hq
  refine(hc _ g2 iC (g3 _ λ_ h=>h)).mono ?_
  rintro e w' ⟨he,rs,us,ay,dM,gE,rfl⟩
  have ah:=jX ah ay (iN _ _ dM)
  have jF:=hb.ext dj eD (Nat.le_refl bl.length)
  have GM:=(hw.grow he).kE hb dj
  have cK:agree aG ax (bn ax aG rs):=agree.bn rs aG ax
  have ji:=jF.ext cK (Nat.le_add_right aG (cb c.res).length) (Nat.le_refl bl.length)
  have sb:=GM.kE jF cK
  have hA:fw (bn ax aG rs) aG rs:=fw.bn ax aG rs
  have Oh:rs.length=(cb c.res).length:=ny ay
  have tC:=dj.trans cK eD
  have zj:cV n bl.length ρ m (aG+(cb c.res).length) bl.length (bn ax aG rs) m:=⟨by omega,tC,Nat.le_refl _,λ_ _=>rfl⟩
  have eM:∀(i:Nat) (p:ar),bl[i]?=some p->a1 (bn ax aG rs) p.1=a1 ρ p.1:=λi p hi=>nz (hb p (List.mem_of_getElem? hi)) tC
  have w3:∀(i:Nat) (p:ar),bl[i]?=some p->w.heap.size<=m i->a1 ρ p.1=0:=λi p hi gT=>by
   by_cases h0:a1 ρ p.1=0
   ·exact h0
   ·have:=hw.lt hi h0;omega
  have fin:∀aK:List ar,b4 (aG+(cb c.res).length) aK.length (bn ax aG rs) aK->Mem w0 (bn ax aG rs) m aK w'->aK.length=bl.length->
   (∀(i:Nat) (p:ar),aK[i]?=some p->(mC w0 ρ m bl (vs.flatMap jz) (vs.flatMap od) (m i)∨w.heap.size<=m i)->(c.res.any b2.kD)=true->a1 (bn ax aG rs) p.1<=1)->
   (∀(i:Nat) (p:ar),aK[i]?=some p->w.heap.size<=m i->a1 (bn ax aG rs) p.1=0)->
   (nO c.res aG (aG+(cb c.res).length) [] aK λdC us jg=>k dC (pZ us) jg).holds S L G (bn ax aG rs)->R' (.returned (lg us)) w':=λaK lr hw' hlen dt VA ah=>by
   have hF:∀g,(mC w0 ρ m bl (vs.flatMap jz) (vs.flatMap od) g∨w.heap.size<=g)->w0.ex g∨w0.ro g∨w0.r.heap.size<=g:=λg hg=>by
    rcases hg with hg|hg
    ·exact hg.2
    ·exact .inr (.inr (Nat.le_trans hw.dW hg))
   have cc:∀g,w.heap.size<=g->w0.b.heap.size<=g/\w0.r.heap.size<=g:=λg hg=>⟨Nat.le_trans hw.ext.size hg,Nat.le_trans hw.dW hg⟩
   have h1:(c.res.all λb=> !b.kD)=true∨∀(i:Nat) (p:ar),aK[i]?=some p->(mC w0 ρ m bl (vs.flatMap jz) (vs.flatMap od) (m i)∨w.heap.size<=m i)->a1 (bn ax aG rs) p.1<=1:=by
    cases oL:c.res.any b2.kD with
    |true=>exact .inr λi p hi hf=>dt i p hi hf oL
    |false=>
     left
     rw[List.all_eq_true]
     intro b hb
     cases df:b.kD with
     |false=>rfl
     |true=>rw[List.any_eq_true.2 ⟨b,hb,df⟩]at oL;cases oL
   obtain⟨n',ae,m',iG,jg,p1,aS,bR,cY,c8,eN⟩:=rS (S:=S) (L:=L) hF cc (l:=c.res) (us:=[]) (vals:=us) hq.1 lr hw' hA ay (Nat.le_refl _) gE h1 (.inr VA) (λu hu=>by simp at hu) ah
   have jk:=H7 (m:=m') c8 (by simpa using cY)
   exact hk n' (pZ iG) jg G ae m' w' (lg us) (zj.trans (hlen▸p1)) (dg.refl _ _) jk.1 jk.2 aS bR eN
  cases oL:c.res.any b2.kD with
  |false=>
   rw[oL]at ah
   exact fin bl ji sb rfl (λ_ _ _ _ h=>by rw[oL]at h;cases h) (λi p hi gT=>by rw[eM i p hi];exact w3 i p hi gT) ah
  |true=>
   rw[oL]at ah hq
   obtain⟨f1,f2,f3,f4⟩:=Fi (bs:=vs.flatMap jz) sb ji
   have n1:pT vs=true:=by
    rcases hq.2 with h|h
    ·cases h
    ·exact h
   refine fin _ (by rw[f3];exact f2) f1 f3 (λi p hi hf _=>?_) (λi p hi gT=>?_) ah
   ·obtain⟨cn,h1,h2,h3⟩:=f4 i p hi
    rw[eM i cn h1]at h2
    rcases hf with⟨⟨b,NG,r2,q,Cv,pE,WL⟩,_⟩|gT
    ·obtain⟨aN,o,ro,len,cap,iB⟩:=Pw n1 NG
     rcases hw.inj i b cn q h1 Cv (by rw[r2])with h5|h5|h5|h5
     ·subst h5
      rw[h1]at Cv;cases Cv
      cases ho:bu cn.1 with
      |false=>exact h3 NG ho
      |true=>
       have:=WL ho
       rw[Pv n1]at this
       simp at this
     ·omega
     ·omega
     ·exact absurd h5 pE
    ·have:=w3 i cn h1 gT;omega
   ·obtain⟨cn,h1,h2,_⟩:=f4 i p hi
    rw[eM i cn h1]at h2
    have:=w3 i cn h1 gT;omega
theorem dd.Ra {c:dd} {spec:List Int->List Int->Prop} (hc:c.c9 P w0.b spec) (iN:∀zs rs,spec zs rs->S c.id zs rs) (n:Nat) (vs:List V) (bl:List ar) (k:RK) (G:c5) (ρ:Env) (m:Nat->Nat) (w:World) (xs:List Value) (R':Ending->World->Prop)
 (hb:b4 n bl.length ρ bl) (hw:Mem w0 ρ m bl w) (hv:∀v∈vs,V.ok n bl.length ρ v) (hr:dn ρ m vs xs) (ah:(c.yu n vs bl k).holds S L G ρ) (hk:rO S L w0 k n bl.length ρ m G R'):
 (callFunc c.f xs.toArray).run P w= .ok (.enter c.f xs.toArray) w/\Calls P c.f xs.toArray w R':=by
 exact⟨hc.1 _ _,dd.Lr iN n vs bl k G ρ m w xs R' (λzs h1 h2 h3=>hc.2 _ w xs zs hw.ext h1 h2 h3) hb hw hv hr ah hk⟩
theorem dd.sN {c:dd} {spec:List Int->List Int->Prop} (hc:c.c9 P w0.b spec) (iN:∀zs rs,spec zs rs->S c.id zs rs) (n:Nat) (vs:List V) (bl:List ar) (k:RK) (G:c5) (ρ:Env) (m:Nat->Nat) (w:World) (xs:List Value) (R':Ending->World->Prop)
 (hb:b4 n bl.length ρ bl) (hw:Mem w0 ρ m bl w) (hv:∀v∈vs,V.ok n bl.length ρ v) (hr:dn ρ m vs xs) (ah:(c.E n vs bl k).holds S L G ρ) (hk:rO S L w0 k n bl.length ρ m G R'):
 (callFunc c.f xs.toArray).run P w= .ok (.enter c.f xs.toArray) w/\Calls P c.f xs.toArray w R':=by
 obtain⟨g1,g2,g3,g4,g5⟩:=Kh (rd:=c.res.any b2.kD) (ds:=c.args) hw hb hv hr
 exact c.Ra hc iN n _ _ k G ρ m w xs R' g2 g1 (λv hv=>by rw[g3];exact g4 v hv) g5 ah (by rw[g3];exact hk)
end
end Go.bx
namespace Go.bx
open M
def O.aV (n:Nat):O->Prop
 |l x=>x.aV n
 |b x=>x.aV n
theorem O.bj {n:Nat} {ρ ae:Env} (ha:agree n ρ ae):∀{o:O},o.aV n->o.den ae=o.den ρ
 | .l x,h=>I.bj ha h
 | .b x,h=>by simp only[O.den];rw[aR.bj ha h]
theorem PC {k:IntKind} {n nb:Nat} {ρ:Env}:∀{l:List A} {os:List O},gN k l=some os->(∀a∈l,A.ok n nb ρ a)->∀o∈os,O.aV n o
 |[],os,h,_=>by simp[gN]at h;subst h;intro x hx;simp at hx
 | .int aM x::s,os,h,bf=>by
  simp only[gN]at h
  cases hc:decide (k=aM)with
  |false=>simp[hc]at h
  |true=>
   cases hr:gN k s with
   |none=>simp[hc,hr]at h
   |some r'=>
    simp only[hc,hr,cond_true,Option.some.injEq]at h
    subst h
    intro y hy
    rcases List.mem_cons.1 hy with hy|hy
    ·rw[hy]
     have h0:A.ok n nb ρ (.int aM x):=bf _ (List.mem_cons_self ..)
     have h0:x.ok n ρ:=h0
     exact h0.1
    ·exact PC hr (λa ha=>bf a (List.mem_cons_of_mem _ ha)) y hy
 | .bool _::_,_,h,_=>by simp[gN]at h
 | .ptr .. ::_,_,h,_=>by simp[gN]at h
 | .kj .. ::_,_,h,_=>by simp[gN]at h
 | .gptr .. ::_,_,h,_=>by simp[gN]at h
 | .slc .. ::_,_,h,_=>by simp[gN]at h
 | .con _::_,_,h,_=>by simp[gN]at h
 | .str _::_,_,h,_=>by simp[gN]at h
 | .rows .. ::_,_,h,_=>by simp[gN]at h
 | .sl .. ::_,_,h,_=>by simp[gN]at h
 | .ep .. ::_,_,h,_=>by simp[gN]at h
theorem az.aau {c:az} {a:A} {o:O} {n nb:Nat} {ρ:Env} (h:c.out a=some o) (ha:a.ok n nb ρ):o.aV n:=by
 unfold az.out at h
 split at h
 ·rename_i k _ _ aM x
  cases hk:decide (k=aM)with
  |false=>simp[hk]at h
  |true=>
   simp only[hk,cond_true,Option.some.injEq]at h
   subst h
   have ha:x.ok n ρ:=ha
   exact ha.1
 ·simp only[Option.some.injEq]at h;subst h
  exact ha.1
 ·simp only[Option.some.injEq]at h;subst h
  exact ha
 ·cases h
theorem PF {n nb:Nat} {ρ:Env}:∀{d:List az} {l:List A} {os:List O},mX d l=some os->(∀a∈l,A.ok n nb ρ a)->∀o∈os,O.aV n o
 |[],[],os,h,_=>by simp[mX]at h;subst h;intro x hx;simp at hx
 |c::d,a::s,os,h,bf=>by
  simp only[mX]at h
  cases h1:c.out a with
  |none=>simp[h1]at h
  |some o=>
   cases h2:mX d s with
   |none=>simp[h1,h2]at h
   |some PA=>
    simp only[h1,h2,Option.some.injEq]at h
    subst h
    intro y hy
    rcases List.mem_cons.1 hy with hy|hy
    ·rw[hy];exact az.aau h1 (bf a (List.mem_cons_self ..))
    ·exact PF h2 (λb hb=>bf b (List.mem_cons_of_mem _ hb)) y hy
 |[],_::_,_,h,_=>by simp[mX]at h
 |_::_,[],_,h,_=>by simp[mX]at h
theorem aat {d:D} {u:W} {os:List O} {n nb:Nat} {ρ:Env} (h:q9 d u=some os) (hu:u.ok n nb ρ):∀o∈os,O.aV n o:=by
 unfold q9 at h
 split at h
 ·rename_i k _ _ aM x
  cases hk:decide (k=aM)with
  |false=>simp[hk]at h
  |true=>
   simp only[hk,cond_true,Option.some.injEq]at h
   subst h
   have hu:x.ok n ρ:=hu
   intro o ho;simp at ho;subst ho;exact hu.1
 ·simp only[Option.some.injEq]at h;subst h
  intro o ho;simp at ho;subst ho;exact hu
 ·rename_i k n' _ _ l
  cases hk:Nat.beq l.length n' with
  |false=>simp[hk]at h
  |true=>
   simp only[hk,cond_true]at h
   exact PC h hu
 ·simp only[Option.some.injEq]at h;subst h
  intro o ho;simp at ho;subst ho;exact hu.1
 ·exact PF h hu
 ·cases h
noncomputable def yb (bl:List ar):b2->W->M (List O)
 | .d x,u=>match q9 x u with|some os=>pure os|none=>fail
 | .rd sh,u=>bind (Df sh bl (.w u)) λl=>pure [.l l]
 | .mc sh e,u=>bind (HL sh e bl (.w u)) λl=>pure [.l l]
noncomputable def Di (bl:List ar):List b2->List W->M (List O)
 |[],[]=>pure []
 |b::r,u::s=>bind (yb bl b u) λa=>bind (Di bl r s) λc=>pure (a++c)
 |_,_=>fail
noncomputable def ya (bl:List ar) (ds:List b2) (v:V):M (List O):=
 match v with
 | .w u=>match ds with|[d]=>yb bl d u|_=>fail
 | .eF l=>match ds with|[_]=>fail|_=>Di bl ds l
 |_=>fail
def O.toW:O->W
 |l x=> .one (.int .u8 ⟨x,0,0⟩)
 |b x=> .one (.bool x)
def W.toO:W->O
 | .one (.int _ x)=> .l x.l
 | .one (.bool e)=> .b e
 |_=> .l (.const 0)
theorem O.toW_toO (o:O):o.toW.toO=o:=by cases o<;>rfl
def pU (os:List O):V:= .eF (os.map O.toW)
def lO (K:List Int->Prop) (v:V) (ρ:Env):Prop:=
 match v with
 | .eF l=>K (l.map λu=>u.toO.den ρ)
 |_=>False
theorem Bf {K:List Int->Prop} {os:List O} {ρ:Env}:lO K (pU os) ρ=K (os.map (O.den ρ)):=by
 unfold lO pU
 simp only[List.map_map]
 congr 1
 exact List.map_congr_left λo _=>by simp[Function.comp,O.toW_toO]
section
variable {S:Nat->List Int->List Int->Prop} {L:V->Env->Prop} {w0:cP} {P:Program} {w:World}
theorem s4.mono {N yz:Nat->Prop} {sh:List az} {e:TypeId} {rows:List (List Int)} {v:Value} (h:s4 N w sh e rows v) (cc:∀g,N g->yz g):s4 yz w sh e rows v:=by
 rcases h with h|⟨g,cap,cells,h1,h2,h3,h4⟩
 ·exact .inl h
 ·exact .inr ⟨g,cap,cells,h1,h2,cc g h3,h4⟩
def DL (w0:cP) (g:Nat):Prop:=w0.ex g∨w0.ro g∨w0.r.heap.size<=g
theorem PV {d:b2} {u:W} {n:Nat} {ρ:Env} {m:Nat->Nat} {bl:List ar} (hex:∀g,¬w0.ex g) (hb:b4 n bl.length ρ bl) (hw:Mem w0 ρ m bl w) (hu:u.ok n bl.length ρ):
 ak S L (yb bl d u) n ρ λae n' os=>(∀o∈os,O.aV n' o)/\os.length=d.num/\(d.uk=false->bd d.bds (os.map (O.den ae)))/\∀zs,d.at (DL w0) (λg=>w0.r.heap.size<=g) w (os.map (O.den ae)++zs) (u.den ρ m):=by
 cases d with
 |d x=>
  unfold yb
  cases ho:q9 x u with
  |none=>simp only[ho];exact ak.fail
  |some os=>
   simp only[ho]
   have:=HK (ρ:=ρ) (m:=m) ho
   exact ak.pure ⟨aat ho hu,this.1,λh=>(by simp[b2.uk]at h),λzs=>(this.2 zs).symm⟩
 |rd sh=>
  unfold yb
  refine(PN (v:= .w u) hb hw hu rfl).bind λax aG l hn ha ⟨g1,g2,g3⟩=>ak.pure ⟨λo ho=>by simp at ho;subst ho;exact g1,rfl,λ_=>⟨g2.1,g2.2,trivial⟩,λzs=>?_⟩
  exact g3.mono λg hg=>hg.2
 |mc sh e=>
  unfold yb
  refine(aaw (v:= .w u) hex hb hw hu rfl).bind λax aG l hn ha ⟨g1,g2,g3⟩=>ak.pure ⟨λo ho=>by simp at ho;subst ho;exact g1,rfl,λ_=>⟨g2.1,g2.2,trivial⟩,λzs=>g3⟩
theorem YO {n:Nat} {ρ ae:Env} {os:List O} (h:∀x∈os,O.aV n x) (ha:agree n ρ ae):os.map (O.den ae)=os.map (O.den ρ):=List.map_congr_left λx hx=>O.bj ha (h x hx)
theorem PW {m:Nat->Nat} {bl:List ar} (hex:∀g,¬w0.ex g):∀{ds:List b2} {us:List W} {n:Nat} {ρ:Env},b4 n bl.length ρ bl->Mem w0 ρ m bl w->(∀u∈us,W.ok n bl.length ρ u)->
 ak S L (Di bl ds us) n ρ λae n' os=>(∀o∈os,O.aV n' o)/\hI (DL w0) (λg=>w0.r.heap.size<=g) w ds (os.map (O.den ae)) (us.map (W.den ρ m))
 |[],[],n,ρ,_,_,_=>ak.pure ⟨λ_ h=>by simp at h,trivial⟩
 |b::r,u::s,n,ρ,hb,hw,hu=>by
  unfold Di
  refine(PV hex hb hw (hu u (by simp))).bind λax aG a hn ha ⟨g1,g2,_,g3⟩=>?_
  refine(PW (ds:=r) (us:=s) hex (hb.ext ha hn (Nat.le_refl _)) (hw.kE hb ha) (λx hx=>(hu x (List.mem_cons_of_mem _ hx)).ext ha hn (Nat.le_refl _))).bind λbg dC c dF cK ⟨k1,k2⟩=>ak.pure ⟨λo ho=>?_,?_⟩
  ·rcases List.mem_append.1 ho with ho|ho
   ·have:=g1 o ho
    cases o with
    |l x=>exact I.aV.mono this dF
    |b x=>exact aR.aV.mono dF this
   ·exact k1 o ho
  ·rw[List.map_append,YO g1 cK]
   refine⟨g3 _,?_⟩
   rw[<-g2,<-List.length_map (f:=O.den ax) (as:=a),List.drop_left]
   have e:s.map (W.den ρ m)=s.map (W.den ax m):=List.map_congr_left λx hx=>(W.iy (hu x (List.mem_cons_of_mem _ hx)) ha (λ_ _=>rfl)).symm
   rw[e];exact k2
 |[],_::_,_,_,_,_,_=>ak.fail
 |_::_,[],_,_,_,_,_=>ak.fail
theorem Dh {ds:List b2} {v:V} {val:Value} {n:Nat} {ρ:Env} {m:Nat->Nat} {bl:List ar} (hex:∀g,¬w0.ex g) (hb:b4 n bl.length ρ bl) (hw:Mem w0 ρ m bl w) (hv:v.ok n bl.length ρ) (hr:v.rel ρ m val):
 ak S L (ya bl ds v) n ρ λae n' os=>∃us,val=lg us/\hI (DL w0) (λg=>w0.r.heap.size<=g) w ds (os.map (O.den ae)) us:=by
 unfold ya
 split
 ·rename_i u
  split
  ·rename_i d
   refine(PV hex hb hw hv).mono λax aG os hn ha ⟨g1,g2,_,g3⟩=>⟨[u.den ρ m],hr,?_,trivial⟩
   have:=g3 []
   rwa [List.append_nil]at this
  ·exact ak.fail
 ·rename_i l
  split
  ·exact ak.fail
  ·rename_i hne
   refine(PW (ds:=ds) hex hb hw hv).mono λax aG os hn ha ⟨g1,g2⟩=>⟨l.map (W.den ρ m),?_,g2⟩
   have hr:val= .tuple (l.map (W.den ρ m)).toArray:=hr
   rw[hr]
   unfold lg
   split
   ·rename_i x hx
    exfalso
    have hl:l.length=1:=by have:=congrArg List.length hx;simpa using this
    match ds,l,hl,g2,hne with
    |[d],[u],_,_,hne=>exact hne d rfl
    |[],[u],_,g2,_=>simp[hI]at g2
    |_::_::_,[u],_,g2,_=>simp[hI]at g2
   ·rfl
 ·exact ak.fail
def xV (i:Nat):I:=⟨0,[(1,i)]⟩
theorem CU (ρ:Env) (zs:List Int):((List.range zs.length).map xV).map (·.den (bn ρ 0 zs))=zs:=by
 refine O7 (by simp) λj hj=>?_
 have hj:j<zs.length:=by simpa using hj
 have:=fw.bn ρ 0 zs j hj
 rw[Nat.zero_add]at this
 simp[xV,I.den,fA,List.getD,hj]at this⊢
 exact this
noncomputable def dd.tree (bc:ia) (P:Program) (gl:c6) (cal:dm) (li:FuncId->Nat->Option dI) (rounds d:Nat) (c:dd):T:=
 cond (kr c.args&& !(c.args.any b2.lA)) (As c.pre ((List.range (cb c.args).length).map xV) (nO c.args 0 (cb c.args).length [] [] λn us bl=>qA bc P gl cal li rounds d c.f n (us.map V.w) bl λn' v aK=>ya aK c.res v n' λos _=> .leaf (pU os))) .stuck
theorem DW {ρ:Env} {m:Nat->Nat}:∀{us:List W} {xs:List Value},us.map (W.den ρ m)=xs->dn ρ m (us.map V.w) xs
 |[],[],_=>trivial
 |u::us,x::xs,h=>by
  simp only[List.map_cons,List.cons.injEq]at h
  exact⟨h.1.symm,DW h.2⟩
 |[],_::_,h=>by simp at h
 |_::_,[],h=>by simp at h
noncomputable def fM:List dd->ia
 |[],_=>none
 |c::r,f=>cond (Nat.beq c.f f) (some c.E) (fM r f)
theorem pf {ag:World} {r:World} {ex ro:Nat->Prop}:∀{l:List dd},(∀c∈l,c.c9 P ag (S c.id))->lN S L ⟨ag,r,ex,ro,[]⟩ P (fM l)
 |[],_=>λf g h=>by cases h
 |c::l,h=>λf g hf=>by
  unfold fM at hf
  cases hb:Nat.beq c.f f with
  |true=>
   rw[hb]at hf
   simp only[cond_true,Option.some.injEq]at hf
   have:=Nat.eq_of_beq_eq_true hb
   subst this;subst hf
   intro n vs bl k G ρ m w xs R' h1 h2 h3 h4 h5 h6
   exact dd.sN (w0:=⟨ag,r,ex,ro,[]⟩) (h c (by simp)) (λ_ _ h=>h) n vs bl k G ρ m w xs R' h1 h2 h3 h4 h5 h6
  |false=>
   rw[hb]at hf
   exact pf (λc hc=>h c (List.mem_cons_of_mem _ hc)) f g hf
theorem dd.q6 {ag:World} {gl:c6} {c:dd} {bc:ia} {cal:dm} {li:FuncId->Nat->Option dI} {rounds d:Nat} {spec:List Int->List Int->Prop} (hm:P.follows .mixedOrders=true) (ck:∀r ex ro,eP S P gl ⟨ag,r,ex,ro,[]⟩ cal) (hg:bB gl ⟨ag,ag,λ_=>False,λ_=>False,[]⟩)
 (fB:∀(L:V->Env->Prop) (r:World) (ro:Nat->Prop),lN S L ⟨ag,r,λ_=>False,ro,[]⟩ P bc) (hf:∀args w,(callFunc c.f args).run P w= .ok (.enter c.f args) w)
 (ht:mE (cb c.args) λzs=>(c.tree bc P gl cal li rounds d).holds S (lO λrs=>bd (cb c.res) rs/\spec zs rs) (λ_ _=>False) (bn (λ_=>0) 0 zs)):c.c9 P ag spec:=by
 refine⟨hf,λF w vs zs hw hz tU hat=>?_⟩
 have ah:=jX ht hz
 have ka:=ny hz
 unfold dd.tree at ah
 cases hq:(kr c.args&& !(c.args.any b2.lA))with
 |false=>rw[hq]at ah;exact ah.elim
 |true=>
  rw[hq]at ah
  simp only[cond_true]at ah
  have ah:=preA_holds ah (by rw[<-ka,CU];exact tU)
  simp only[Bool.and_eq_true,Bool.not_eq_true']at hq
  have iB:Mem ⟨ag,w,λ_=>False,F,[]⟩ (bn (λ_=>0) 0 zs) (λ_=>0) [] w:=⟨hw,rfl,rfl,rfl,Nat.le_refl _,λ_ _ _=>rfl,λi cs t h=>by simp at h,λi sh off code cap kind t h=>by simp at h,λi j p q h=>by simp at h⟩
  have hall:(c.args.all λb=> !b.lA)=true:=by
   rw[List.all_eq_true]
   intro b hb
   cases df:b.lA with
   |false=>rfl
   |true=>rw[List.any_eq_true.2 ⟨b,hb,df⟩]at hq;cases hq.2
  obtain⟨n',ae,m',us,bl,p1,aS,bR,cY,c8,eN⟩:=rS (S:=S) (L:=_) (w0:=⟨ag,w,λ_=>False,F,[]⟩) (F:=F) (N:=λ_=>False) (λg hg=> .inr (.inl hg)) (λg hg=>hg.elim) (l:=c.args) (s:=0) (us:=[]) (bl:=[]) (m:=λ_=>0) hq.1 (λp hp=>by simp at hp) iB (fw.bn _ 0 zs) hz (by omega) hat (.inr λi p h=>by simp at h) (.inl hall) (λu hu=>by simp at hu) ah
  have pA:bB gl ⟨ag,w,λ_=>False,F,[]⟩:=hg
  refine(wC (S:=S) (w0:=⟨ag,w,λ_=>False,F,[]⟩) rfl hm (ck w (λ_=>False) F) pA (fB _ _ _) d c.f n' (us.map V.w) bl _ _ ae m' w vs _ aS bR (λv hv=>by
   obtain⟨u,hu,rfl⟩:=List.mem_map.1 hv
   exact c8 u hu) (DW (by simpa using cY)) eN ?_).2
  intro dC v aK c2 bg dc w' val h1 h2 h3 h4 h5 h6 h7
  obtain⟨ee,lB,os,pD,mM,⟨xs,hx1,hx2⟩,hl⟩:=Dh (S:=S) (w0:=⟨ag,w,λ_=>False,F,[]⟩) (λg hg=>hg) h5 h6 h3 h4 c2 _ h7
  have hl:lO _ (pU os) ee:=hl
  rw[Bf]at hl
  refine⟨?_,os.map (O.den ee),xs,hl.1,hl.2,?_,by rw[hx1]⟩
  ·have lV:∀i:Nat,i<w.heap.size->w'.heap[i]?=w.heap[i]?:=λi hi=>h6.fg i hi λh=>h
   exact⟨h6.fs,h6.gU,h6.fX,h6.dW,λa ha=>by simp only[World.cell?,lV a.block ha],λa ha=>by simp only[World.frozen?,lV a.block ha],lV⟩
  ·exact s7 (λg hg=>by
    rcases hg with hg|hg|hg
    ·exact hg.elim
    ·exact .inl hg
    ·exact .inr hg) (λg hg=>hg) hx2
where
 s7 {F rH N yz:Nat->Prop} {w:World} (hF:∀g,F g->rH g) (cc:∀g,N g->yz g):∀{ds:List b2} {zs:List Int} {vs:List Value},hI F N w ds zs vs->hI rH yz w ds zs vs
 |[],_,[],_=>trivial
 | .d x::r,zs,v::vs,h=>⟨h.1,s7 hF cc h.2⟩
 | .rd sh::r,zs,v::vs,h=>⟨na.mono h.1 hF,s7 hF cc h.2⟩
 | .mc sh e::r,zs,v::vs,h=>⟨s4.mono h.1 cc,s7 hF cc h.2⟩
 |[],_,_::_,h=>h.elim
 |_::_,_,[],h=>by simp[hI]at h
theorem dd.Zf {ag:World} {gl:c6} {c:dd} {bcs:List dd} {cal:dm} {li:FuncId->Nat->Option dI} {rounds d:Nat} {spec:List Int->List Int->Prop} (hm:P.follows .mixedOrders=true) (ck:∀r ex ro,eP S P gl ⟨ag,r,ex,ro,[]⟩ cal) (hg:bB gl ⟨ag,ag,λ_=>False,λ_=>False,[]⟩)
 (fB:∀b∈bcs,b.c9 P ag (S b.id)) (hf:∀args w,(callFunc c.f args).run P w= .ok (.enter c.f args) w)
 (ht:mE (cb c.args) λzs=>(c.tree (fM bcs) P gl cal li rounds d).holds S (lO λrs=>bd (cb c.res) rs/\spec zs rs) (λ_ _=>False) (bn (λ_=>0) 0 zs)):c.c9 P ag spec:=
 dd.q6 (bc:=fM bcs) hm ck hg (λ_ _ _=>pf fB) hf ht
end
def b2.nums:b2->List Nat
 | .d x=>x.nums
 |_=>[1]
def oX (ds:List b2):List Nat:=ds.flatMap b2.nums
def D1 (ds:List b2) (K:List (List Int)->Prop) (v:V) (st:fy) (aE:fx):Prop:=
 match v with
 | .eF l=>K ((ft (oX ds) (l.map W.toO)).map (yj st aE))
 |_=>False
theorem Rj {ds:List b2} {K:List (List Int)->Prop} (v:V) (ρ:Env) (st:fy) (aE:fx) (ht:kP ρ st aE) (h:D1 ds K v st aE):lO (λrs=>K (ft (oX ds) rs)) v ρ:=by
 unfold D1 at h
 unfold lO
 split at h
 ·rename_i l
  have e:l.map (λu=>u.toO.den ρ)=(l.map W.toO).map (O.den ρ):=by simp
  simp only[e]
  rw[Dw]
  rwa [show(ft (oX ds) (l.map W.toO)).map (yj st aE)=(ft (oX ds) (l.map W.toO)).map (List.map (O.den ρ)) from List.map_congr_left λo _=>Qk ht o]at h
 ·exact h.elim
def iw (sh:Nat->List Nat×List Nat) (lsh:Nat->List Nat) (S:Nat->List (List Int)->List (List Int)->Prop) (K:List (List Int)->List (List Int)->Prop) (lens:List Nat) (bds:List (Int×Int)) (ds:List b2) (t:T):Prop:=
 rQ lens 0 bds (λst aE zs=>t.jI sh lsh S (D1 ds (K zs)) (λ_ _=>False) st aE) [] []
theorem yD {sh:Nat->List Nat×List Nat} {lsh:Nat->List Nat} {S:Nat->List (List Int)->List (List Int)->Prop} {K:List (List Int)->List (List Int)->Prop} {lens:List Nat} {bds:List (Int×Int)} {ds:List b2} {t:T}
 (h:iw sh lsh S K lens bds ds t):mE bds λzs=>t.holds (bY sh S) (lO λrs=>K (ft lens zs) (ft (oX ds) rs)) (λ_ _=>False) (bn (λ_=>0) 0 zs):=by
 refine pe λzs hi=>?_
 obtain⟨st,aE,h1,h2⟩:=wj h (show kP (λ_=>0) [] [] from⟨trivial,λ_=>rfl⟩) hi
 exact j8 (λv ρ st aE ht hl=>Rj v ρ st aE ht hl) t _ _ _ st aE (λ_ _ hf=>hf.elim) h1 h2
end Go.bx
namespace Go.bx
open M
structure dq where
 c:bL
 pre:Nat
def dq.c9 (P:Program) (ag:World) (q:dq) (spec:List Int->List Int->Prop):Prop:=
 ∀zs,bd (cr q.c.args) zs->U q.pre zs->∃rs,bd (cr q.c.res) rs/\spec zs rs/\∀w,ag.Extends w->yv P q.c.f (kI q.c.args zs).toArray w (lE q.c.res rs)
noncomputable def dq.M (q:dq):List ar->List V->M V:=λ_ vs n k=>
 match nj q.c.args vs with
 |some l=> .nS q.pre l (.call q.c.id l n (cr q.c.res) (k (yc q.c.res n) (n+(cr q.c.res).length)))
 |none=> .stuck
noncomputable def a8 (Dc:List dq) (cons:List bL):dm:=λf=>
 match Dc.filter (λq=>Nat.beq f q.c.f)with
 |[]=>BB cons f
 |l=>some λbl vs n k=>match l.find? (λq=>(nj q.c.args vs).isSome)with
  |some q=>q.M bl vs n k
  |none=>match BB cons f with
   |some g=>g bl vs n k
   |none=> .stuck
section
variable {S:Nat->List Int->List Int->Prop} {P:Program} {gl:c6} {w0:cP}
theorem dq.snd {q:dq} {spec:List Int->List Int->Prop} (hc:q.c9 P w0.b spec) (iN:∀zs rs,spec zs rs->S q.c.id zs rs) (L:V->Env->Prop) (n:Nat) (ρ:Env) (m:Nat->Nat) (bl:List ar) (vs:List V) (xs:List Value)
 (mQ:∀v∈vs,V.ok n bl.length ρ v) (hr:dn ρ m vs xs):ak S L (q.M bl vs) n ρ λae n' v=>v.ok n' bl.length ae/\∃val,v.rel ae m val/\∀w,Mem w0 ρ m bl w->yv P q.c.f xs.toArray w val:=by
 intro G k hk
 unfold dq.M at hk
 cases hl:nj q.c.args vs with
 |none=>simp[hl,T.holds]at hk
 |some l=>
  simp only[hl]at hk
  obtain⟨iP,hk⟩:=hk
  obtain⟨h1,h2⟩:=Fc hl mQ hr
  obtain⟨rs,ay,dM,gE⟩:=hc _ h1 iP
  have ah:=Es hk ay (iN _ _ dM)
  have hlen:=ny ay
  have jk:=H6 (m:=m) (nb:=bl.length) (N:=n+(cr q.c.res).length) ay (fw.bn ρ n rs) (Nat.le_refl _)
  refine⟨_,_,_,Nat.le_add_right _ _,agree.bn rs n ρ,⟨jk.1,_,jk.2,λw hw=>?_⟩,ah⟩
  rw[h2]at gE
  exact gE w hw.ext
theorem cG {Dc:List dq} {cons:List bL} (hq:∀q∈Dc,q.c9 P w0.b (S q.c.id)) (hc:∀c∈cons,c.yA P w0.b (S c.id)):eP S P gl w0 (a8 Dc cons):=by
 intro f g oF L n ρ m bl vs xs h1 h2 h3 h4
 unfold a8 at oF
 split at oF
 ·exact Mb (gl:=gl) hc f g oF L n ρ m bl vs xs h1 h2 h3 h4
 ·rename_i l hl
  simp only[Option.some.injEq]at oF
  subst oF
  intro G k hk
  simp only at hk
  split at hk
  ·rename_i q FR
   have db:=List.mem_filter.1 (List.mem_of_find?_eq_some FR)
   have zw:=Nat.eq_of_beq_eq_true db.2
   subst zw
   exact dq.snd (hq q db.1) (λ_ _ h=>h) L n ρ m bl vs xs h3 h4 G k hk
  ·split at hk
   ·rename_i gA pz
    exact Mb (gl:=gl) hc f gA pz L n ρ m bl vs xs h1 h2 h3 h4 G k hk
   ·exact hk.elim
end
end Go.bx
namespace Go.bx
section
variable {S:Nat->List Int->List Int->Prop} {P:Program} {gl:c6} {ag:World}
def dp (args res:List D) (spec:List Int->List Int->Prop):Prop:=∀zs rs bE,bd (cr args) zs->bd (cr res) rs->bd (cr res) bE->spec zs rs->spec zs bE->lE res rs=lE res bE
theorem bL.HB {c:bL} {cal:dm} {li:FuncId->Nat->Option dI} {rounds d:Nat} {spec:List Int->List Int->Prop} (hm:P.follows .mixedOrders=true) (ck:∀r ex ro,eP S P gl ⟨ag,r,ex,ro,[]⟩ cal) (hg:bB gl ⟨ag,ag,λ_=>False,λ_=>False,[]⟩)
 (hf:∀args w,(callFunc c.f args).run P w= .ok (.enter c.f args) w) (hu:dp c.args c.res spec)
 (ht:mE (cr c.args) λzs=>(c.tree P gl cal li rounds d).holds S (rJ c.res λrs=>bd (cr c.res) rs/\spec zs rs) (λ_ _=>False) (bn (λ_=>0) 0 zs)):c.c9 P ag spec:=by
 refine⟨hf,λzs hz=>?_⟩
 have h0:=bL.calls hm ck hg hz (jX ht hz) ag (World.Extends.refl ag)
 obtain⟨e,w',v,ae,m,val,h1,h2,h3,h4⟩:=Calls.some h0
 obtain⟨rs,⟨hb,hs⟩,hv⟩:=Bg h3 h2
 refine⟨rs,hb,hs,λw hw=>?_⟩
 refine(bL.calls hm ck hg hz (jX ht hz) w hw).mono λe w' ⟨v,ae,m,val,h1,h2,h3,h4⟩=>?_
 obtain⟨bE,⟨lr,GB⟩,ub⟩:=Bg h3 h2
 rw[hu zs bE rs hz lr hb GB hs]at ub
 exact⟨by rw[h1,ub],h4⟩
noncomputable def dq.tree (P:Program) (gl:c6) (cal:dm) (li:FuncId->Nat->Option dI) (rounds d:Nat) (q:dq):T:=
 .qv q.pre ((List.range (cr q.c.args).length).map xV) (q.c.tree P gl cal li rounds d)
theorem dq.HB {q:dq} {cal:dm} {li:FuncId->Nat->Option dI} {rounds d:Nat} {spec:List Int->List Int->Prop} (hm:P.follows .mixedOrders=true) (ck:∀r ex ro,eP S P gl ⟨ag,r,ex,ro,[]⟩ cal) (hg:bB gl ⟨ag,ag,λ_=>False,λ_=>False,[]⟩)
 (hf:∀args w,(callFunc q.c.f args).run P w= .ok (.enter q.c.f args) w) (hu:dp q.c.args q.c.res spec)
 (ht:mE (cr q.c.args) λzs=>(q.tree P gl cal li rounds d).holds S (rJ q.c.res λrs=>bd (cr q.c.res) rs/\spec zs rs) (λ_ _=>False) (bn (λ_=>0) 0 zs)):q.c9 P ag spec:=by
 intro zs hz hp
 have iR:=jX ht hz
 have hl:=ny hz
 unfold dq.tree at iR
 rw[<-hl]at iR
 have iR:=iR (by rw[CU];exact hp)
 have h0:=bL.calls hm ck hg hz iR ag (World.Extends.refl ag)
 obtain⟨e,w',v,ae,m,val,h1,h2,h3,h4⟩:=Calls.some h0
 obtain⟨rs,⟨hb,hs⟩,hv⟩:=Bg h3 h2
 refine⟨rs,hb,hs,λw hw=> .inr ⟨hf _ _,?_⟩⟩
 refine(bL.calls hm ck hg hz iR w hw).mono λe w' ⟨v,ae,m,val,h1,h2,h3,h4⟩=>?_
 obtain⟨bE,⟨lr,GB⟩,ub⟩:=Bg h3 h2
 rw[hu zs bE rs hz lr hb GB hs]at ub
 exact⟨by rw[h1,ub],h4⟩
end
theorem vt {α:Type}:∀(jM:List Nat) (l:List α),(ft jM l).flatten=l
 |[],[]=>rfl
 |[],_::_=>by simp[ft]
 |k::jM,l=>by simp only[ft,List.flatten_cons,vt jM,List.take_append_drop]
section
variable {P:Program} {gl:c6} {ag:World} {sh:Nat->List Nat×List Nat} {SB:Nat->List (List Int)->List (List Int)->Prop}
def de (SB:Nat->List (List Int)->List (List Int)->Prop) (res:List D) (id:Nat):List (List Int)->List (List Int)->Prop:=λzs rs=>bd (cr res) rs.flatten/\SB id zs rs
theorem QQ {lsh:Nat->List Nat} {id:Nat} {lens:List Nat} {bds:List (Int×Int)} {ds:List D} {t:T} (hl:lens=(sh id).1) (hd:sr ds=(sh id).2) (h:eB sh lsh SB (de SB ds id) lens bds ds t):
 mE bds λzs=>t.holds (bY sh SB) (rJ ds λrs=>bd (cr ds) rs/\bY sh SB id zs rs) (λ_ _=>False) (bn (λ_=>0) 0 zs):=by
 refine pe λzs hz=>?_
 have h:=jX (Rs h) hz
 simp only[de,vt]at h
 rw[hl,hd]at h
 exact h
theorem mV {c:bL} {cal:dm} {li:FuncId->Nat->Option dI} {rounds d:Nat} {lsh:Nat->List Nat} {lens:List Nat} (hm:P.follows .mixedOrders=true) (ck:∀r ex ro,eP (bY sh SB) P gl ⟨ag,r,ex,ro,[]⟩ cal) (hg:bB gl ⟨ag,ag,λ_=>False,λ_=>False,[]⟩)
 (hf:qG P c.f=true) (hu:dp c.args c.res (bY sh SB c.id)) (hl:lens=(sh c.id).1) (hd:sr c.res=(sh c.id).2)
 (hv:eB sh lsh SB (de SB c.res c.id) lens (cr c.args) c.res (c.tree P gl cal li rounds d)):c.c9 P ag (bY sh SB c.id):=
 bL.HB hm ck hg (enters hf) hu (QQ hl hd hv)
theorem fF {q:dq} {cal:dm} {li:FuncId->Nat->Option dI} {rounds d:Nat} {lsh:Nat->List Nat} {lens:List Nat} (hm:P.follows .mixedOrders=true) (ck:∀r ex ro,eP (bY sh SB) P gl ⟨ag,r,ex,ro,[]⟩ cal) (hg:bB gl ⟨ag,ag,λ_=>False,λ_=>False,[]⟩)
 (hf:qG P q.c.f=true) (hu:dp q.c.args q.c.res (bY sh SB q.c.id)) (hl:lens=(sh q.c.id).1) (hd:sr q.c.res=(sh q.c.id).2)
 (hv:eB sh lsh SB (de SB q.c.res q.c.id) lens (cr q.c.args) q.c.res (q.tree P gl cal li rounds d)):q.c9 P ag (bY sh SB q.c.id):=
 dq.HB hm ck hg (enters hf) hu (QQ hl hd hv)
end
end Go.bx
namespace Go.bx
open Go.ChangeShapes Go.WideShapes Go.RowKit
variable {H:Type} {enc:TypeId×Value->H} {P:Program}
theorem Mg {base:Nat} {w:World} {a:Addr} {n:Nat} {cs:List Value} (h:w.cells? base a n=some cs):cs.length=n/\∀j,j<n->w.cell? (a.add j)=cs[j]?:=by
 unfold World.cells? at h
 split at h
 ·have hl:=List.OX h
  refine⟨by simpa using hl,λj hj=>?_⟩
  have:=List.M5 h j j (by simp[hj])
  exact this
 ·cases h
where
 List.OX {α β:Type} {f:α->Option β}:∀{l:List α} {r:List β},l.mapM f=some r->r.length=l.length
  |[],r,h=>by simp at h;subst h;rfl
  |x::l,r,h=>by
   rw[List.mapM_cons]at h
   cases hx:f x with
   |none=>simp[hx]at h
   |some y=>
    cases hl:l.mapM f with
    |none=>simp[hx,hl]at h
    |some s=>
     simp[hx,hl]at h
     subst h
     simp[List.OX hl]
 List.M5 {α β:Type} {f:α->Option β}:∀{l:List α} {r:List β},l.mapM f=some r->∀(j:Nat) (x:α),l[j]?=some x->f x=r[j]?
  |[],r,h,j,x,hx=>by simp at hx
  |y::l,r,h,j,x,hx=>by
   rw[List.mapM_cons]at h
   cases hy:f y with
   |none=>simp[hy]at h
   |some z=>
    cases hl:l.mapM f with
    |none=>simp[hy,hl]at h
    |some s=>
     simp[hy,hl]at h
     subst h
     cases j with
     |zero=>simp at hx;subst hx;simp[hy]
     |succ j=>simpa using List.M5 hl j x (by simpa using hx)
theorem QC (hl:laidOutB P=true) {W W':World} (hb:Below W.heap.size W W'):∀{fu:List TypeId} {vs:List Value} {xs:List (DataW H)} {ps:List MemPlace},(∀t∈fu,P.readableRec t=true/\t<P.types.size)->DataW.TrodAll enc P W 0 (λ_=>true) true fu vs xs ps->(∀x∈ps,x.block<W.heap.size)->
 DataW.TrodAll enc P W' 0 (λb=>decide (b<W.heap.size)) true fu vs xs ps
 |[],[],[],_,_,h,_=>h
 |[],_::_,_,_,_,h,_=>h.elim
 |[],[],_::_,_,_,h,_=>h.elim
 |_::_,[],_,_,_,h,_=>by cases h
 |_::_,_::_,[],_,_,h,_=>by cases h
 |t::fu,v::vs,x::xs,ps,hr,h,hlt=>by
  obtain⟨p,q,h1,h2,rfl⟩:=h
  exact⟨p,q,Below.trod hl (hr t (by simp)).1 (hr t (by simp)).2 h1 hb λx hx=>hlt x (List.mem_append.2 (.inl hx)),QC hl hb (λt ht=>hr t (List.mem_cons_of_mem _ ht)) h2 λx hx=>hlt x (List.mem_append.2 (.inr hx)),rfl⟩
theorem SQ {C:Checked} {os:Os} {f:FuncId} {fn:Func} {s:ChangeSpec} {apart:Bool} {X:World->Array Value->Prop}
 (hX:∀(w w':World) (args:Array Value),w.heap=w'.heap->X w args->X w' args)
 (own:ownKnob C.prog.godebug=none) (started:os.Started) (Hz:C.prog.inits.idxOf? f=none) (hfn:C.prog.funcs[f]?=some fn)
 (witness:∃(w:World) (tape:Tape) (i:Input),w.os=os/\(w.forCall tape i).Shaped C.prog/\i.vars=[]/\Input.okWide C.prog (w.forCall tape i) .any w.heap.size f i/\
   ((s.pre enc C.prog fn [] apart (w.forCall tape i).memory i.args/\X (w.forCall tape i).memory i.args)/\sizedMet enc C.prog fn (OpenSpec.ofChange s) apart (w.forCall tape i).memory i.args)/\({}:Assume).holds C.prog (lone (Frame.enter C.prog f i.args .normal) [] (w.forCall tape i)))
 (contract:∀(W:World) (base:Nat) (args:Array Value) (ds gs:List (DataW H)) (before:List MemPlace),
   (∀(j:Nat) t v,fn.params[j]?=some t->args[j]?=some v->Value.okWide C.prog W .any base t v)->
   DataW.Whole enc C.prog fn.params.toList s.vars apart W args.toList ds gs before->(DataW.weightsEach C.prog (fn.params.toList++s.plain.varTypes C.prog) (ds++gs)).all (·<=reachBytes)=true->X W args->W.ShapedOpen C.prog->
   Calls C.prog f args W λe W'=>∃v,e= .returned v/\s.post enc C.prog fn apart true false false W args v W'):
 ReturnsInHanded {} C os f .any (λw args=>(s.pre enc C.prog fn [] apart w args/\X w args)/\sizedMet enc C.prog fn (OpenSpec.ofChange s) apart w args) (s.post enc C.prog fn apart true false false):=by
 refine returnsInHanded_of_calls own started Hz witness ?_
 intro w tape i _ jJ _ bf iC ahK
 obtain⟨_,_,_,Tw,zx,_,_,_,_,hval⟩:=bf
 have e:Tw=fn:=Option.some.inj (zx.symm.trans hfn)
 subst e
 obtain⟨⟨⟨ds,gs,before,hw,hc⟩,hx⟩,hz⟩:=iC
 have hw':=DataW.Whole.of_heap (w':=w.forCall tape i) (by rfl) hw
 refine(contract (w.forCall tape i) w.heap.size i.args ds gs before hval hw' (hz.weights hw) (hX _ _ _ (by rfl) hx) jJ).mono λe W' ⟨v,he,hp⟩=>?_
 subst he
 exact ChangeSpec.post_blind hp
section
variable {gl:c6} {ag:World} {sh:Nat->List Nat×List Nat} {SB:Nat->List (List Int)->List (List Int)->Prop}
def gy (SB:Nat->List (List Int)->List (List Int)->Prop) (res:List b2) (id:Nat):List (List Int)->List (List Int)->Prop:=λzs rs=>bd (cb res) rs.flatten/\SB id zs rs
theorem qx {c:dd} {bcs:List dd} {cal:dm} {li:FuncId->Nat->Option dI} {rounds d:Nat} {lsh:Nat->List Nat} {lens:List Nat} (hm:P.follows .mixedOrders=true) (ck:∀r ex ro,eP (bY sh SB) P gl ⟨ag,r,ex,ro,[]⟩ cal) (hg:bB gl ⟨ag,ag,λ_=>False,λ_=>False,[]⟩)
 (fB:∀b∈bcs,b.c9 P ag (bY sh SB b.id)) (hf:qG P c.f=true) (hl:lens=(sh c.id).1) (hd:oX c.res=(sh c.id).2)
 (hv:iw sh lsh SB (gy SB c.res c.id) lens (cb c.args) c.res (c.tree (fM bcs) P gl cal li rounds d)):c.c9 P ag (bY sh SB c.id):=by
 refine dd.Zf (li:=li) (rounds:=rounds) (d:=d) hm ck hg fB (enters hf) (pe λzs hz=>?_)
 have h:=jX (yD hv) hz
 simp only[gy,vt]at h
 rw[hl,hd]at h
 exact h
theorem Sl {c:dd} {bc:ia} {cal:dm} {li:FuncId->Nat->Option dI} {rounds d:Nat} {lsh:Nat->List Nat} {lens:List Nat} (hm:P.follows .mixedOrders=true) (ck:∀r ex ro,eP (bY sh SB) P gl ⟨ag,r,ex,ro,[]⟩ cal) (hg:bB gl ⟨ag,ag,λ_=>False,λ_=>False,[]⟩)
 (fB:∀(L:V->Env->Prop) (r:World) (ro:Nat->Prop),lN (bY sh SB) L ⟨ag,r,λ_=>False,ro,[]⟩ P bc) (hf:qG P c.f=true) (hl:lens=(sh c.id).1) (hd:oX c.res=(sh c.id).2)
 (hv:iw sh lsh SB (gy SB c.res c.id) lens (cb c.args) c.res (c.tree bc P gl cal li rounds d)):c.c9 P ag (bY sh SB c.id):=by
 refine dd.q6 (li:=li) (rounds:=rounds) (d:=d) hm ck hg fB (enters hf) (pe λzs hz=>?_)
 have h:=jX (yD hv) hz
 simp only[gy,vt]at h
 rw[hl,hd]at h
 exact h
end
end Go.bx
namespace Go.bx
open M
structure agh where
 f:FuncId
 id:Nat
 sh:List az
 e:TypeId
 args:List b2
 pre:Nat:=0
section
variable {S:Nat->List Int->List Int->Prop} {L:V->Env->Prop} {w0:cP} {P:Program}
end
end Go.bx
namespace Go.bx
open M Go.RowKit
variable {S:Nat->List Int->List Int->Prop} {L:V->Env->Prop} {P:Program} {gl:c6} {cal:dm}
def DJ (P:Program) (f:FuncId):Prop:=
 (∀args w,(callFunc f args).run P w= .ok (.enter f args) w)/\
 ∀(l bs mG:Nat) (sv:Value) (g off len cap c:Nat) (J:Nat->World->Prop) (W:World),
  0<c->len<=9223372036854775807->c∣len->len<=cap->c<=9223372036854775807->
  (sv= .slice (some ⟨g,off,none⟩) len cap∨(sv= .slice none 0 0/\len=0))->
  (∀i W,J i W->W.cell? ⟨bs,0,none⟩=some sv/\W.cell? ⟨mG,0,none⟩=some (.int .i64 c))->
  (∀i W,J i W->J i W.drew)->
  (∀i W,J i W->c*i<len->YieldAt Fence.wide 0 P l #[.slice (some ⟨g,off+c*i,none⟩) c c] W λe W'=>e= .returned (.bool true)/\J (i+1) W')->
  J 0 W->CallsIn Fence.wide 0 P f #[.func (.yield l) #[] #[],.pointer (some ⟨bs,0,none⟩),.pointer (some ⟨mG,0,none⟩)] W λe W'=>(∃v,e= .returned v)/\J (len/c) W'
theorem BS {b w w':World} (h:b.Extends w) (h1:w'.os=w.os) (h2:w'.tape=w.tape) (h3:w'.output=w.output) (h4:w.heap.size<=w'.heap.size) (h5:∀k,k<b.heap.size->w'.heap[k]?=w.heap[k]?):b.Extends w':=
 ⟨h1.trans h.os,h2.trans h.tape,h3.trans h.output,Nat.le_trans h.size h4,λa ha=>(World.cell?_of_block (h5 _ ha)).trans (h.cell a ha),λa ha=>(World.frozen?_of_block (h5 _ ha)).trans (h.frozen a ha),λi hi=>(h5 i hi).trans (h.block i hi)⟩
theorem Mem.vu {b r r':World} {ex ro:Nat->Prop} {ds tg:List Deferred} {ρ:Env} {m:Nat->Nat} {bl:List ar} {w w':World} (h:Mem ⟨b,r,ex,ro,ds⟩ ρ m bl w) (l:Nat) (hl:b.heap.size<=l) (hex:¬ex l) (hlt:l<r.heap.size)
 (hr:r'.os=r.os/\r'.tape=r.tape/\r'.output=r.output/\r'.heap.size=r.heap.size) (hw:w'.os=w.os/\w'.tape=w.tape/\w'.output=w.output/\w'.heap.size=w.heap.size)
 (h1:∀k,k≠l->r'.heap[k]?=r.heap[k]?) (h2:∀k,k≠l->w'.heap[k]?=w.heap[k]?) (h3:w'.heap[l]?=r'.heap[l]?) (hc:∀o:Obj,r.heap[l]?=some o->o.isCells=false):Mem ⟨b,r',ex,ro,tg⟩ ρ m bl w':=by
 have Xg:w.heap[l]?=r.heap[l]?:=h.fg l hlt hex
 have ne:∀{g:Nat} {cs:Array Value} {t:TypeId} {fz:Nat×Nat},w.heap[g]?=some (.cells cs t fz)->g≠l:=λ{g cs t fz} hg e=>by
  subst e
  rw[Xg]at hg
  have:=hc _ hg
  simp[Obj.isCells]at this
 refine⟨BS h.ext hw.1 hw.2.1 hw.2.2.1 (by omega) (λk hk=>h2 k (by simp only at hl hk;omega)),by rw[hw.1,h.fs];exact hr.1.symm,by rw[hw.2.1,h.gU];exact hr.2.1.symm,by rw[hw.2.2.1,h.fX];exact hr.2.2.1.symm,by have:=h.dW;simp only at this⊢;omega,λi hi hx=>?_,λi cs t hi ho=>?_,λi sh off code cap kind t hi=>?_,h.inj⟩
 ·by_cases e:i=l
  ·subst e;exact h3
  ·rw[h2 i e,h1 i e]
   exact h.fg i (by simp only at hi⊢;omega) hx
 ·obtain⟨g1,g2,yf,bG,g3⟩:=h.dV i cs t hi ho
  refine⟨g1,g2.imp id λh=>?_,yf,bG,by rw[h2 _ (ne g3)];exact g3⟩
  simp only at h⊢;omega
 ·intro hk
  obtain⟨g1,g2⟩:=h.rws i sh off code cap kind t hi hk
  refine⟨g1,λcd=>?_⟩
  obtain⟨k1,cells,t',fz,k2,k3,k4⟩:=g2 cd
  refine⟨k1.imp id (·.imp id λh=>by simp only at h⊢;omega),cells,t',fz,by rw[h2 _ (ne k2)];exact k2,k3,λzd=>?_⟩
  obtain⟨cf,jK,kb,mR,oP,kc⟩:=k4 zd
  exact⟨cf,jK,kb,mR,oP,kc.imp id λh=>by simp only at h⊢;omega⟩
structure Sub (cC w0:cP):Prop where
 b:cC.b=w0.b
 os:cC.r.os=w0.r.os
 tape:cC.r.tape=w0.r.tape
 out:cC.r.output=w0.r.output
 size:w0.r.heap.size<=cC.r.heap.size
 ex:∀g,cC.ex g∨cC.r.heap.size<=g->w0.ex g∨w0.r.heap.size<=g
 ro:∀g,cC.ro g->w0.ro g
 fg:∀i,i<w0.r.heap.size->¬w0.ex i->cC.r.heap[i]?=w0.r.heap[i]?
theorem Mem.less {cC w0:cP} {ρ:Env} {m:Nat->Nat} {bl:List ar} {w:World} (h:Mem cC ρ m bl w) (s:Sub cC w0):Mem w0 ρ m bl w:=by
 refine⟨s.b▸h.ext,h.fs.trans s.os,h.gU.trans s.tape,h.fX.trans s.out,Nat.le_trans s.size h.dW,λi hi hx=>?_,λi cs t hi ho=>?_,λi sh off code cap kind t hi=>?_,h.inj⟩
 ·have hne:¬cC.ex i:=λe=>by
   rcases s.ex i (.inl e)with e|e
   ·exact hx e
   ·omega
  exact(h.fg i (Nat.lt_of_lt_of_le hi s.size) hne).trans (s.fg i hi hx)
 ·obtain⟨g1,g2,g3⟩:=h.dV i cs t hi ho
  exact⟨s.b▸g1,s.ex _ g2,g3⟩
 ·intro hk
  obtain⟨g1,g2⟩:=h.rws i sh off code cap kind t hi hk
  refine⟨g1,λcd=>?_⟩
  obtain⟨k1,cells,t',fz,k2,k3,k4⟩:=g2 cd
  refine⟨?_,cells,t',fz,k2,k3,λzd=>?_⟩
  ·rcases k1 with k1|k1|k1
   ·exact(s.ex _ (.inl k1)).imp id .inr
   ·exact .inr (.inl (s.ro _ k1))
   ·exact(s.ex _ (.inr k1)).imp id .inr
  ·obtain⟨cf,jK,kb,mR,oP,kc⟩:=k4 zd
   exact⟨cf,jK,kb,mR,s.b▸oP,s.ex _ kc⟩
def narrow (w0:cP) (W:World) (ds:List Deferred):cP:=⟨w0.b,W,λg=>(w0.ex g∨w0.r.heap.size<=g)/\∃o:Obj,W.heap[g]?=some o/\o.isCells=true,w0.ro,ds⟩
theorem Mem.narrow {w0:cP} {ρ:Env} {m:Nat->Nat} {bl:List ar} {w:World} (h:Mem w0 ρ m bl w) (ds:List Deferred):Mem (narrow w0 w ds) ρ m bl w:=by
 refine⟨h.ext,rfl,rfl,rfl,Nat.le_refl _,λ_ _ _=>rfl,λi cs t hi ho=>?_,λi sh off code cap kind t hi=>?_,h.inj⟩
 ·obtain⟨g1,g2,yf,bG,g3⟩:=h.dV i cs t hi ho
  exact⟨g1,.inl ⟨g2,_,g3,rfl⟩,yf,bG,g3⟩
 ·intro hk
  obtain⟨g1,g2⟩:=h.rws i sh off code cap kind t hi hk
  refine⟨g1,λcd=>?_⟩
  obtain⟨k1,cells,t',fz,k2,k3,k4⟩:=g2 cd
  refine⟨?_,cells,t',fz,k2,k3,λzd=>?_⟩
  ·rcases k1 with k1|k1|k1
   ·exact .inl ⟨.inl k1,_,k2,rfl⟩
   ·exact .inr (.inl k1)
   ·exact .inl ⟨.inr k1,_,k2,rfl⟩
  ·obtain⟨cf,jK,kb,mR,oP,kc⟩:=k4 zd
   exact⟨cf,jK,kb,mR,oP,.inl ⟨kc,_,k2,rfl⟩⟩
theorem Sub.narrow {w0:cP} {ρ:Env} {m:Nat->Nat} {bl:List ar} {w:World} (h:Mem w0 ρ m bl w) (ds:List Deferred):Sub (narrow w0 w ds) w0:=
 ⟨rfl,h.fs,h.gU,h.fX,h.dW,λg hg=>by
  rcases hg with hg|hg
  ·exact hg.1
  ·exact .inr (Nat.le_trans h.dW hg),λ_ h=>h,λi hi hx=>h.fg i hi hx⟩
theorem Sub.vu {w0:cP} {b r r':World} {ex ro:Nat->Prop} {ds tg:List Deferred} (s:Sub ⟨b,r,ex,ro,ds⟩ w0) (l:Nat) (hl:w0.r.heap.size<=l) (hr:r'.os=r.os/\r'.tape=r.tape/\r'.output=r.output/\r'.heap.size=r.heap.size)
 (h1:∀k,k≠l->r'.heap[k]?=r.heap[k]?):Sub ⟨b,r',ex,ro,tg⟩ w0:=
 ⟨s.b,hr.1.trans s.os,hr.2.1.trans s.tape,hr.2.2.1.trans s.out,by have:=s.size;simp only at this⊢;omega,λg hg=>s.ex g (hg.imp id λh=>by simp only at h⊢;omega),s.ro,λi hi hx=>by
  rw[h1 i (by omega)];exact s.fg i hi hx⟩
theorem Mem.ds {b r:World} {ex ro:Nat->Prop} {ds tg:List Deferred} {ρ:Env} {m:Nat->Nat} {bl:List ar} {w:World} (h:Mem ⟨b,r,ex,ro,ds⟩ ρ m bl w):Mem ⟨b,r,ex,ro,tg⟩ ρ m bl w:=
 ⟨h.ext,h.fs,h.gU,h.fX,h.dW,h.fg,h.dV,h.rws,h.inj⟩
theorem eP.ds {b r:World} {ex ro:Nat->Prop} {ds tg:List Deferred} (h:eP S P gl ⟨b,r,ex,ro,ds⟩ cal):eP S P gl ⟨b,r,ex,ro,tg⟩ cal:=λf g hf L n ρ m bl vs xs h1 h2 h3 h4=>by
 obtain⟨w,hw⟩:=h2
 exactλG wa ah=>by
  obtain⟨ae,n',v,k1,k2,⟨k3,val,k4,mb⟩,n4⟩:=h f g hf L n ρ m bl vs xs h1 ⟨w,hw.ds⟩ h3 h4 G wa ah
  exact⟨ae,n',v,k1,k2,⟨k3,val,k4,λw hw=>mb w hw.ds⟩,n4⟩
noncomputable def H2 (P:Program) (gl:c6) (cal:dm) (inl:gP) (li:Nat->Option dI) (rounds:Nat) (cells:List (Nat×Nat×Int×Int)) (po:FuncId) (g:Operand) (ps:Array Tmp) (assign body:Code) (n:Nat) (tm:List V) (bl:List ar) (k:ej):T:=
 match bw tm g,ps.toList,hb cells 0 (n+1) bl with
 | .ll f [.ptr bs 0,.ptr mG 0],[p],some (di,l2,cj)=>match bl[bs]?,bl[mG]?,di[bs]?,di[mG]? with
  |some ([.sl b aN o ro len cap],_),some ([.int .i64 N],_),some ([xs],_),some ([AN],_)=>match N.l.cT with
   |some c=>cond (Nat.beq f po&&decide (0<c)&&decide (c<=9223372036854775807)&&Nat.beq aN 1&&jm assign&&jm body&&jD tm tm&&jC di di&&A.beq xs (.sl b aN o ro len cap)&&A.beq AN (.int .i64 N)&&bu [xs]&&bu [AN])
    (.nS 70 [len,.const c] (.loop n (l2++[.const 0]) (n+1) (cj++[(0,9223372036854775807)])
      (.qy (.lt ((I.var (n+1+l2.length)).smul c) len)
        (jB P gl cal inl li rounds assign (n+1+l2.length+1) (nE tm p (.w (.one (.sl b 1 o (ro.add ((I.var (n+1+l2.length)).smul c)) (.const c) (.const c))))) di λx n' bH aK=>match x with
          | .normal=>jB P gl cal inl li rounds body n' bH aK λx n' bH aK=>match x with
           | .normal=>match hb cells 0 (n+1) (aK.take bl.length)with
            |some (kQ,v2,_)=>cond (jC di kQ) (.again n (v2++[(I.var (n+1+l2.length)).add (.const 1)])) .stuck
            |none=> .stuck
           |_=> .stuck
          |_=> .stuck)
        (k (n+1+l2.length+1) tm di)))) .stuck
   |none=> .stuck
  |_,_,_,_=> .stuck
 |_,_,_=> .stuck
theorem Om {dZ:List Nat}:∀(tm:List V) (i s:Nat),(∀j,i<=j->j<i+tm.length->dZ.any (Nat.beq j)=true)->hs dZ [] i s tm=some (tm,[],[])
 |[],_,_,_=>rfl
 |v::r,i,s,h=>by
  unfold hs
  rw[h i (Nat.le_refl _) (by simp),Om r (i+1) s λj h1 h2=>h j (by omega) (by simp only[List.length_cons];omega)]
  rfl
theorem OO (tm:List V) (s:Nat):hs (List.range tm.length) [] 0 s tm=some (tm,[],[]):=
 Om tm 0 s λj _ h=>List.any_eq_true.2 ⟨j,List.mem_range.2 (by omega),Nat.beq_refl j⟩
theorem pV (w:World) (l:Nat) (o:Obj):(w.putObj l o).os=w.os/\(w.putObj l o).tape=w.tape/\(w.putObj l o).output=w.output/\(w.putObj l o).heap.size=w.heap.size:=⟨rfl,rfl,rfl,World.putObj_size⟩
theorem Mem.Me {w0:cP} {ρ:Env} {m:Nat->Nat} {bl:List ar} {w:World} (h:Mem w0 ρ m bl w) {i:Nat} {x:A} {t:TypeId×Bool} (hi:bl[i]?=some ([x],t)) (ho:bu [x]=true):w.cell? ⟨m i,0,none⟩=some (x.den ρ m):=by
 obtain⟨_,_,r,_,h3⟩:=h.dV i _ t hi ho
 simp[World.cell?,h3]
def DG (cz:List Int->Prop) (w0:cP) (fc:World) (n:Nat) (ρ:Env) (m:Nat->Nat) (tm:List V) (di:List ar) (cj:List (Int×Int)) (k2:Nat) (tmps:Array Value) (i:Nat) (W:World):Prop:=
 ∃zs,zs.length=k2/\bd (cj++[(0,9223372036854775807)]) (zs++[(i:Int)])/\cz (zs++[(i:Int)])/\R (narrow w0 fc []) (n+1+k2+1) (bn ρ (n+1) (zs++[(i:Int)])) m tm di {tmps:=tmps,defers:=[]} W
theorem abZ {w0:cP} {inl:gP} {li:Nat->Option dI} {rounds:Nat} {cells:List (Nat×Nat×Int×Int)} {po:FuncId} {g:Operand} {ps:Array Tmp} {assign body:Code} (ic:DJ P po) (hm:P.follows .mixedOrders=true)
 (ck:∀r ex ro,eP S P gl ⟨w0.b,r,ex,ro,[]⟩ cal) (hg:bB gl w0) (ie:∀r ex ro,kq S L ⟨w0.b,r,ex,ro,[]⟩ P inl)
 {n:Nat} {ρ:Env} {m:Nat->Nat} {tm:List V} {bl:List ar} {a:Act} {w:World} {G:c5} {k:ej} {Q:Exit->Act->World->Prop} (h:R w0 n ρ m tm bl a w) (kV:w0.ds=[])
 (ah:(H2 P gl cal inl li rounds cells po g ps assign body n tm bl k).holds S L G ρ)
 (hk:∀n' ae bH aK c2 cC D da w',cV n bl.length ρ m n' (List.length aK) ae m->dg n G c2->Sub cC w0->¬cC.ex D->cC.r.heap[D]?=some (.deferred (some []))->w0.r.heap.size<=D->w0.b.heap.size<=D->cC.ds=[{target:= .collected D,args:=#[]}]->
   R cC n' ae m bH aK da w'->(k n' bH aK).holds S L c2 ae->Q .normal da w'):(Code.rangeFunc g ps assign body).wpIn Fence.wide 0 P Q a w:=by
 unfold H2 at ah
 split at ah
 rotate_left
 ·exact ah.elim
 rename_i f bs mG p di l2 cj e1 e2 e3
 split at ah
 rotate_left
 ·exact ah.elim
 rename_i b aN o ro len cap fu N ah3 xs lI AN ah4 q1 aP bA cM
 split at ah
 rotate_left
 ·exact ah.elim
 rename_i c hc
 generalize fr:(Nat.beq f po&&decide (0<c)&&decide (c<=9223372036854775807)&&Nat.beq aN 1&&jm assign&&jm body&&jD tm tm&&jC di di&&A.beq xs (.sl b aN o ro len cap)&&A.beq AN (.int .i64 N)&&bu [xs]&&bu [AN])=fo at ah
 cases fo with
 |false=>exact ah.elim
 |true=>
 simp only[Bool.and_eq_true,decide_eq_true_eq]at fr
 obtain⟨⟨⟨⟨⟨⟨⟨⟨⟨⟨⟨c1,bb⟩,bJ⟩,cg⟩,dK⟩,fe⟩,kv⟩,kS⟩,nR⟩,td⟩,Sr⟩,Ss⟩:=fr
 have c1:=Nat.eq_of_beq_eq_true c1
 have cg:=Nat.eq_of_beq_eq_true cg
 subst c1;subst cg
 have nR:=A.beq_eq nR
 have td:=A.beq_eq td
 subst nR;subst td
 simp only[cond_true,T.holds]at ah
 obtain⟨w4,cz,dh,FA,hB⟩:=ah
 have w4:c∣len.den ρ:=by simpa [U,yS,I.aH]using w4
 have Gu:A.ok n bl.length ρ (.sl b 1 o ro len cap):=h.b _ (List.mem_of_getElem? q1) _ (by simp)
 obtain⟨qK,⟨l3,ly,Of,ahU⟩,l5⟩:=Gu
 obtain⟨⟨s1,s2,kG,p3⟩,⟨Qc,ah2⟩,Im,Qd⟩:=l5
 have V5:a.eval g= .func (.func f) #[] #[.pointer (some ⟨m bs,0,none⟩),.pointer (some ⟨m mG,0,none⟩)]:=by
  have:=(bO h.t g).2
  rw[e1]at this
  exact this
 have WJ:ps=#[p]:=by rw[<-Array.toArray_toList (xs:=ps),e2]
 subst WJ
 refine wpIn_rangeFunc ?_
 intro fn hfn
 obtain⟨rec,tW⟩:∃rec:LoopState->Option Code->Loop,rec=λst abI=>{state:=st,pending:=abI,fn,tmps:=a.tmps,params:=#[p],assign,body,defers:=w.heap.size}:=⟨_,rfl⟩
 obtain⟨fc,Ca⟩:∃fc,(w.alloc (.deferred (some []))).alloc (.loop (rec .ready none))=fc:=⟨_,rfl⟩
 have nX:fc.heap[w.heap.size+1]?=some (.loop (rec .ready none)):=by
  rw[<-Ca];have:=World.alloc_heap_new (w.alloc (.deferred (some []))) (.loop (rec .ready none));rwa [World.size_alloc]at this
 have FB:fc.heap[w.heap.size]?=some (.deferred (some [])):=by
  rw[<-Ca];exact(Below.heap_alloc _ _ _ (by simp)).trans (World.alloc_heap_new w _)
 have qQ:w.heap.size+1<fc.heap.size:=(Array.getElem?_eq_some_iff.1 nX).1
 have Na:Mem w0 ρ m bl fc:=by rw[<-Ca];exact h.aY.grow (((World.Extends.refl w).alloc _).alloc _)
 have aA:w0.b.heap.size<=w.heap.size:=h.aY.ext.size
 have Oh:w0.r.heap.size<=w.heap.size:=h.aY.dW
 generalize hl:w.heap.size+1=l at*
 generalize iM:w.heap.size=D at*
 have tH:∀(k:Nat) (o:Obj),fc.heap[k]?=some o->o.isCells=false->¬(narrow w0 fc []).ex k:=λk o hk ho ⟨_,bI,h1,h2⟩=>by
  rw[hk]at h1;cases h1;rw[ho]at h2;cases h2
 have Rn:R (narrow w0 fc []) n ρ m tm bl {tmps:=a.tmps,defers:=[]} fc:=⟨h.t,rfl,h.b,Na.narrow []⟩
 have Cy:∀v∈tm,V.ok n bl.length ρ v:=λv hv=>by
  obtain⟨i,hi⟩:=List.getElem?_of_mem hv
  exact(h.t.2 i v hi).1
 have yY:hb cells 0 (n+1+([]:List I).length) bl=some (di,l2,cj):=e3
 obtain⟨Gk,ahP⟩:=zm e3
 have head:∀{n':Nat} {ae:Env} {m':Nat->Nat} {aK kQ:List ar} {v2:List I} {om:List (Int×Int)} {W:World} {x:I},bl.length<=aK.length->agree n ρ ae->(∀b,b<bl.length->m' b=m b)->
  R (narrow w0 fc []) n' ae m' tm aK {tmps:=a.tmps,defers:=[]} W->hb cells 0 (n+1) (aK.take bl.length)=some (kQ,v2,om)->jC di kQ=true->
  v2.length=l2.length/\bd cj (v2.map (·.den ae))/\R (narrow w0 fc []) (n+1+l2.length+1) (bn ρ (n+1) (v2.map (·.den ae)++[x.den ae])) m tm di {tmps:=a.tmps,defers:=[]} W:=λ{n' ae m' aK kQ v2 om W x} k1 k2 k3 k4 mb n4=>by
  obtain⟨cf,jK,kb,_⟩:=NT (li:={dZ:=List.range tm.length,ints:=[],cells:=cells}) (ext:=[x]) k1 k2 k3 Cy h.b k4 (OO tm (n+1)) yY (OO tm (n+1)) (v2:=v2) mb kv n4
  simp only[List.length_nil,Nat.zero_add,Nat.add_zero,List.nil_append,List.length_cons,List.map_append,List.map_cons,List.map_nil]at cf jK kb
  exact⟨cf,jK,kb⟩
 obtain⟨i0,i1,i2⟩:=head (x:= .const 0) (Nat.le_refl _) (agree.refl n ρ) (λ_ _=>rfl) Rn (by rw[List.take_length];exact e3) kS
 have UK:DG cz w0 fc n ρ m tm di cj l2.length a.tmps 0 fc:=by
  refine⟨l2.map (·.den ρ),by simp,oO i1 ⟨by simp,by simp,trivial⟩,?_,by simpa [I.aH]using i2⟩
  simpa [I.aH]using FA
 have still:∀{i:Nat} {W:World} {k:Nat} {o:Obj},DG cz w0 fc n ρ m tm di cj l2.length a.tmps i W->fc.heap[k]?=some o->o.isCells=false->W.heap[k]?=some o:=λ{i W k o} hJ hk ho=>by
  obtain⟨zs,ai,z2,z3,z4⟩:=hJ
  exact(z4.aY.fg k (Array.getElem?_eq_some_iff.1 hk).1 (tH k o hk ho)).trans hk
 obtain⟨C,lq⟩:∃C:Nat,(C:Int)=c:=⟨c.toNat,Int.toNat_of_nonneg (by omega)⟩
 obtain⟨kN,FE⟩:∃kN:Nat,(kN:Int)=len.den ρ:=⟨(len.den ρ).toNat,Int.toNat_of_nonneg (by omega)⟩
 have FX:C∣kN:=by rw[<-lq,<-FE]at w4;exact Int.natCast_dvd_natCast.1 w4
 have VI:kN<=(cap.den ρ).toNat:=by
  by_cases h0:cap.den ρ<0
  ·have:=Im h0;omega
  ·have:=Qd (by omega);omega
 have CC:∀{i:Nat} {zs:List Int},zs.length=l2.length->bn ρ (n+1) (zs++[(i:Int)]) (n+1+l2.length)=i:=λ{i zs} hz=>by
  rw[yo _ _ _ _ (by simp[hz]),<-hz];simp
 have er:∀{i:Nat} {zs:List Int},agree n ρ (bn ρ (n+1) (zs++[(i:Int)])):=λ{i zs}=>(agree.bn _ (n+1) ρ).mono (by omega)
 have main:=ic.2 l (m bs) (m mG) ((A.sl b 1 o ro len cap).den ρ m) (m b) ((o.den ρ).toNat+(ro.den ρ).toNat) kN (cap.den ρ).toNat C (DG cz w0 fc n ρ m tm di cj l2.length a.tmps) fc (by omega) (by omega) FX VI (by omega)
  (by
    simp only[A.den]
    by_cases h0:cap.den ρ<0
    ·rw[if_pos h0];have:=Im h0;exact .inr ⟨rfl,by omega⟩
    ·rw[if_neg h0];refine .inl ?_;rw[show(len.den ρ).toNat=kN by omega,Nat.mul_one])
  (λi W hJ=>by
    obtain⟨zs,ai,z2,z3,z4⟩:=hJ
    have iH:=z4.aY.Me bA Sr
    have ml:=z4.aY.Me cM Ss
    have Gu:A.ok n bl.length ρ (.sl b 1 o ro len cap):=h.b _ (List.mem_of_getElem? q1) _ (by simp)
    have Wz:A.ok n bl.length ρ (.int .i64 N):=h.b _ (List.mem_of_getElem? aP) _ (by simp)
    rw[A.iy Gu er (λ_ _=>rfl)]at iH
    rw[A.iy Wz er (λ_ _=>rfl)]at ml
    refine⟨iH,ml.trans ?_⟩
    simp only[A.den,I.fU hc,lq])
  (λi W hJ=>by
    obtain⟨zs,ai,z2,z3,z4⟩:=hJ
    exact⟨zs,ai,z2,z3,z4.t,z4.d,z4.b,z4.aY.grow (World.Extends.drew (World.Extends.refl W))⟩)
  ?_ UK
 ·refine⟨l,[{target:= .collected D,args:=#[]}],fc,{target:= .fn (.func f) #[.pointer (some ⟨m bs,0,none⟩),.pointer (some ⟨m mG,0,none⟩)],args:=#[.func (.yield l) #[] #[]]},fc,f,
   #[.func (.yield l) #[] #[],.pointer (some ⟨m bs,0,none⟩),.pointer (some ⟨m mG,0,none⟩)],fc,?_,?_,λiL NW=>trivial,?_,λhs=>by simp[Fence.wide]at hs,?_⟩
  ·rw[<-Ca,tW,<-hl,<-iM];exact run_enterLoop_outer _ _ _ _ _
  ·simp only[resolve,V5]
   simp[go_sem]
  ·simp[invoke,go_sem,ic.1]
  ·refine main.mono ?_
   rintro e Rt ⟨⟨v,rfl⟩,hJ⟩
   have Cp:=still hJ nX rfl
   have ahO:=still hJ FB rfl
   obtain⟨zs,ai,z2,z3,z4⟩:=hJ
   have oz:=(jX hB z2 z3).2
   have zJ:len.den (bn ρ (n+1) (zs++[((kN/C:Nat):Int)]))=kN:=by rw[I.bj er Of,FE]
   have hq:C*(kN/C)=kN:=Nat.mul_div_cancel' FX
   have oB:aR.den (bn ρ (n+1) (zs++[((kN/C:Nat):Int)])) (.lt ((I.var (n+1+l2.length)).smul c) len)=false:=by
    simp only[aR.den,I.jh,I.bV,CC ai,zJ,decide_eq_false_iff_not]
    rw[<-lq]
    have:(C:Int)*((kN/C:Nat):Int)=(kN:Int):=by exact_mod_cast hq
    omega
   have oz:=oz oB
   refine⟨none,_,by have:=run_endLoop (P:=P) Cp (by rw[tW];simp);rw[tW]at this;exact this,?_⟩
   simp only
   obtain⟨DK,UI⟩:∃o,o=Obj.loop {({state:= .ready,pending:=none,fn,tmps:=a.tmps,params:=#[p],assign,body,defers:=D}:Loop)with state:= .exhausted}:=⟨_,rfl⟩
   rw[<-UI]
   have Rl:Mem ⟨w0.b,fc.putObj l DK,(narrow w0 fc []).ex,w0.ro,[{target:= .collected D,args:=#[]}]⟩ (bn ρ (n+1) (zs++[((kN/C:Nat):Int)])) m di (Rt.putObj l DK):=
    Mem.vu z4.aY l (by omega) (tH l _ nX rfl) qQ (pV _ _ _) (pV _ _ _) (λk hk=>World.putObj_heap_other hk) (λk hk=>World.putObj_heap_other hk) (by rw[World.putObj_heap_same (Array.getElem?_eq_some_iff.1 Cp).1,World.putObj_heap_same qQ]) (λo ho=>by rw[nX]at ho;cases ho;rfl)
   refine hk _ _ _ _ _ ⟨w0.b,fc.putObj l DK,(narrow w0 fc []).ex,w0.ro,[{target:= .collected D,args:=#[]}]⟩ D _ _ ⟨by omega,er,by omega,λ_ _=>rfl⟩ (λl' r5=>?_) (Sub.vu (Sub.narrow Na []) l (by omega) (pV _ _ _) (λk hk=>World.putObj_heap_other hk)) (tH D _ FB rfl) ((World.putObj_heap_other (by omega)).trans FB) Oh aA rfl ⟨z4.t,?_,z4.b,Rl⟩ oz
   ·unfold c5.set
    cases hb:Nat.beq l' n with
    |true=>have:=Nat.eq_of_beq_eq_true hb;omega
    |false=>rfl
   ·show _++a.defers=_
    rw[h.d,kV];rfl
 ·
  intro i W hJ hlt
  have Cp:=still hJ nX rfl
  obtain⟨zs,ai,z2,z3,z4⟩:=hJ
  have oz:=(jX hB z2 z3).1
  have zJ:len.den (bn ρ (n+1) (zs++[(i:Int)]))=kN:=by rw[I.bj er Of,FE]
  have oB:aR.den (bn ρ (n+1) (zs++[(i:Int)])) (.lt ((I.var (n+1+l2.length)).smul c) len)=true:=by
   simp only[aR.den,I.jh,I.bV,CC ai,zJ,decide_eq_true_eq]
   rw[<-lq];exact_mod_cast hlt
  have oz:=oz oB
  have fC:C*i+C<=kN:=by
   obtain⟨q,rfl⟩:=FX
   have:i<q:=Nat.lt_of_mul_lt_mul_left hlt
   have:C*(i+1)<=C*q:=Nat.mul_le_mul_left C this
   rw[Nat.mul_succ]at this
   omega
  have ahG:¬cap.den ρ<0:=λh0=>by have:=Im h0;omega
  have zp:=Qd (by omega)
  have hid:(ro.add ((I.var (n+1+l2.length)).smul c)).den (bn ρ (n+1) (zs++[(i:Int)]))=ro.den ρ+(C*i:Nat):=by
   rw[I.den_add,I.jh,I.bV,CC ai,I.bj er ly,<-lq];simp
  have Og:o.den (bn ρ (n+1) (zs++[(i:Int)]))=o.den ρ:=I.bj er l3
  have sa:(V.w (.one (.sl b 1 o (ro.add ((I.var (n+1+l2.length)).smul c)) (.const c) (.const c)))).ok (n+1+l2.length+1) di.length (bn ρ (n+1) (zs++[(i:Int)])):=by
   refine⟨by omega,⟨l3.mono (by omega),I.p4 (ly.mono (by omega)) (I.rj (I.dN (by omega))),I.ch _ _,I.ch _ _⟩,?_⟩
   rw[hid,Og,I.aH]
   exact⟨⟨s1,by omega,by omega,by omega⟩,⟨by omega,by omega⟩,λh=>by omega,λ_=>Int.le_refl _⟩
  have Xc:(V.w (.one (.sl b 1 o (ro.add ((I.var (n+1+l2.length)).smul c)) (.const c) (.const c)))).rel (bn ρ (n+1) (zs++[(i:Int)])) m (.slice (some ⟨m b,(o.den ρ).toNat+(ro.den ρ).toNat+C*i,none⟩) C C):=by
   simp only[V.rel,bx.W.den,A.den,hid,Og,I.aH,Nat.mul_one]
   rw[if_neg (by omega),show c.toNat=C by omega,show(ro.den ρ+(C*i:Nat)).toNat=(ro.den ρ).toNat+C*i by omega,Nat.add_assoc]
  have Nf:R (narrow w0 fc []) (n+1+l2.length+1) (bn ρ (n+1) (zs++[(i:Int)])) m (nE tm p (.w (.one (.sl b 1 o (ro.add ((I.var (n+1+l2.length)).smul c)) (.const c) (.const c))))) di
   (({tmps:=a.tmps,defers:=[]}:Act).put (some p) (.slice (some ⟨m b,(o.den ρ).toNat+(ro.den ρ).toNat+C*i,none⟩) C C)) W:=
   ⟨cW.put z4.t (some p) sa Xc,z4.d,z4.b,z4.aY⟩
  have hy:=run_yield (P:=P) (args:=#[.slice (some ⟨m b,(o.den ρ).toNat+(ro.den ρ).toNat+C*i,none⟩) C C]) Cp (by rw[tW];rfl)
  rw[tW]at hy
  have Tk:(({tmps:=a.tmps,defers:=[]}:Act).put (some p) (.slice (some ⟨m b,(o.den ρ).toNat+(ro.den ρ).toNat+C*i,none⟩) C C))={tmps:=((#[p]:Array Tmp).zip #[Value.slice (some ⟨m b,(o.den ρ).toNat+(ro.den ρ).toNat+C*i,none⟩) C C]).foldl (λtmps (t,a)=>tmps.setIfInBounds t a) a.tmps,defers:=[]}:=by
   simp[Act.put]
  rw[Tk]at Nf
  refine⟨fn,_,assign,body,hy,roundIn_of_wpIn trivial ?_⟩
  refine wG (rd:=some l) hm (ck _ _ _) (λg cs h=>hg g cs h) (ie _ _ _) assign (.inr dK) _ _ _ _ _ _ _ _ W _ Nf oz λx aG ax fE DA lR G1 bh cC g1 g2 g3 g4=>?_
  cases x with
  |exit id=>exact g4.elim
  |ret=>exact g4.elim
  |normal=>
   simp only at g4
   have N7:cC.heap[l]?=some (.loop (rec .ready none)):=(g3.aY.fg l qQ (tH l _ nX rfl)).trans nX
   obtain⟨sL,Fy⟩:∃o,o=Obj.loop {rec .ready none with state:= .busy}:=⟨_,rfl⟩
   have UG:sL.isCells=false:=by rw[Fy];rfl
   have M2:Mem ⟨w0.b,fc.putObj l sL,(narrow w0 fc []).ex,w0.ro,[]⟩ ax fE lR (cC.putObj l sL):=
    Mem.vu g3.aY l (by omega) (tH l _ nX rfl) qQ (pV _ _ _) (pV _ _ _) (λk hk=>World.putObj_heap_other hk) (λk hk=>World.putObj_heap_other hk) (by rw[World.putObj_heap_same (Array.getElem?_eq_some_iff.1 N7).1,World.putObj_heap_same qQ]) (λo ho=>by rw[nX]at ho;cases ho;rfl)
   refine⟨cC.putObj l sL,by rw[Fy];exact run_beginRound N7 (by rw[tW]),?_⟩
   refine wG (rd:=some l) hm (ck _ _ _) (λg cs h=>hg g cs h) (ie _ _ _) body (.inr fe) aG DA lR _ G1 ax fE bh _ _ (⟨g3.t,g3.d,g3.b,M2⟩:R ⟨w0.b,fc.putObj l sL,(narrow w0 fc []).ex,w0.ro,[]⟩ aG ax fE DA lR bh (cC.putObj l sL)) g4 λx dC bg dc adH jg Lt a2 sH k1 k2 k3 k4=>?_
   cases x with
   |exit id=>exact k4.elim
   |ret=>exact k4.elim
   |normal=>
    simp only at k4
    split at k4
    rotate_left
    ·exact k4.elim
    rename_i kQ v2 om eC
    cases hf:jC di kQ with
    |false=>rw[hf]at k4;exact k4.elim
    |true=>
    rw[hf]at k4
    simp only[cond_true,T.holds]at k4
    have zI:sH.heap[l]?=some sL:=(k3.aY.fg l (by rw[World.putObj_size];exact qQ) (tH l _ nX rfl)).trans (World.putObj_heap_same qQ)
    have Wl:=(Array.getElem?_eq_some_iff.1 zI).1
    rw[Fy]at zI
    refine⟨_,_,run_endRound none zI,rfl,?_⟩
    have WQ:({{rec .ready none with state:= .busy}with state:=if(none:Option Code).isNone then .ready else .done,pending:=none}:Loop)=rec .ready none:=by rw[tW];rfl
    rw[WQ]
    have Rk:Mem (narrow w0 fc []) bg dc jg (sH.putObj l (.loop (rec .ready none))):=
     Mem.vu k3.aY l (by omega) (tH l _ nX rfl) (by rw[World.putObj_size];exact qQ) ⟨rfl,rfl,rfl,World.putObj_size.symm⟩ (pV _ _ _) (λk hk=>(World.putObj_heap_other hk).symm) (λk hk=>World.putObj_heap_other hk) (by rw[World.putObj_heap_same Wl,nX]) (λo ho=>by rw[World.putObj_heap_same qQ]at ho;cases ho;exact UG)
    have FC:cV n bl.length ρ m (n+1+l2.length+1) di.length (bn ρ (n+1) (zs++[(i:Int)])) m:=⟨by omega,er,by omega,λ_ _=>rfl⟩
    have tx:=(FC.trans g1).trans k1
    have Ro:R (narrow w0 fc []) dC bg dc tm jg {tmps:=a.tmps,defers:=[]} (sH.putObj l (.loop (rec .ready none))):=⟨h.t.ext tx.ha tx.hn tx.hb tx.hm,rfl,k3.b,Rk⟩
    obtain⟨gF,nI,m2⟩:=head (x:=(I.var (n+1+l2.length)).add (.const 1)) tx.hb tx.ha tx.hm Ro eC hf
    have OB:bg (n+1+l2.length)=i:=by rw[(g1.trans k1).ha _ (by omega),CC ai]
    have hx:((I.var (n+1+l2.length)).add (.const 1)).den bg=((i+1:Nat):Int):=by rw[I.den_add,I.bV,I.aH,OB];simp
    rw[hx]at m2
    have Fz:Lt n=λvs=>cz vs/\dh vs<dh (zs++[(i:Int)]):=by
     rw[k2 n (by have:=g1.hn;omega),g2 n (by omega)]
     unfold c5.set
     rw[show Nat.beq n n=true from Nat.beq_refl n];rfl
    rw[Fz,List.map_append,List.map_cons,List.map_nil,hx]at k4
    have:i+1<=kN:=by
     have:=Nat.mul_le_mul_right i (show 1<=C by omega)
     omega
    exact⟨v2.map (·.den bg),by simp[gF],oO nI ⟨by omega,by omega,trivial⟩,k4.1,m2⟩
noncomputable def wA (P:Program) (gl:c6) (cal:dm) (inl:gP) (li:FuncId->Nat->Option dI) (rounds:Nat) (cells:List (Nat×Nat×Int×Int)) (po:FuncId):gP:=
 λf n vs bl k=>match P.funcs[f]? with
  |none=> .stuck
  |some fn=>match fn.body with
   |some (.seq ct (.seq (.seq c1 (.block _ (.rangeFunc g ps assign body))) bJ))=>cond (!(fn.name== "runtime.NumGoroutine")&&Nat.ble vs.length fn.ntmps)
    (jB P gl cal inl (li f) rounds ct n (vs++x9 (fn.ntmps-vs.length)) bl λx n tm bl=>match x with
      | .normal=>jB P gl cal inl (li f) rounds c1 n tm bl λx n tm bl=>match x with
       | .normal=>H2 P gl cal inl (li f) rounds cells po g ps assign body n tm bl λn tm bl=>
        jB P gl cal (λ_ _ _ _ _=> .stuck) (li f) rounds bJ n tm bl λx n tm bl=>match x with
         | .exit _=> .stuck
         |_=>Ay P gl fn n tm bl k
       |_=> .stuck
      |_=> .stuck) .stuck
   |_=> .stuck
theorem Xz {w0:cP}:kq S L w0 P (λ_ _ _ _ _=> .stuck):=λf n vs bl k G ρ m w xs R' _ _ _ _ ah _=>ah.elim
theorem L0 {w0:cP} {inl:gP} {li:FuncId->Nat->Option dI} {rounds:Nat} {cells:List (Nat×Nat×Int×Int)} {po:FuncId} (ic:DJ P po) (hm:P.follows .mixedOrders=true)
 (ck:∀r ex ro,eP S P gl ⟨w0.b,r,ex,ro,[]⟩ cal) (hg:bB gl w0) (ie:∀r ex ro,kq S L ⟨w0.b,r,ex,ro,[]⟩ P inl) (kV:w0.ds=[]):kq S L w0 P (wA P gl cal inl li rounds cells po):=by
 have Ow:w0=⟨w0.b,w0.r,w0.ex,w0.ro,[]⟩:=by cases w0;simp at kV;subst kV;rfl
 have NH:eP S P gl w0 cal:=by rw[Ow];exact ck _ _ _
 have N1:kq S L w0 P inl:=by rw[Ow];exact ie _ _ _
 intro f n vs bl k G ρ m w xs R' hb iB mQ hrel ah hk
 unfold wA at ah
 cases hf:P.funcs[f]? with
 |none=>simp[hf,T.holds]at ah
 |some fn=>
  simp only[hf]at ah
  split at ah
  rotate_left
  ·exact ah.elim
  rename_i ct c1 id g ps assign body bJ qL
  cases hc:(!(fn.name== "runtime.NumGoroutine")&&Nat.ble vs.length fn.ntmps)with
  |false=>simp[hc,T.holds]at ah
  |true=>
   simp only[hc,cond_true]at ah
   simp only[Bool.and_eq_true,Bool.not_eq_true']at hc
   have hlen:=DX hrel
   refine⟨?_,?_⟩
   ·have h1:¬fn.name= "runtime.NumGoroutine" :=by have:=hc.1;simpa using this
    simp[callFunc,hf,qL,h1]
   ·refine(callsIn_wide (n:=0)).1 (callsIn_of_wp_marks hf qL trivial ?_ rfl)
    have hR:R w0 n ρ m (vs++x9 (fn.ntmps-vs.length)) bl {tmps:=xs.toArray++Array.replicate (fn.ntmps-xs.toArray.size) undef,defers:=[]} w:=by
     refine⟨?_,kV.symm,hb,iB⟩
     have:=Bi (DV (fn.ntmps-vs.length) mQ hrel)
     have e:(xs++List.replicate (fn.ntmps-vs.length) undef).toArray=xs.toArray++Array.replicate (fn.ntmps-xs.toArray.size) undef:=by
      simp[hlen]
     rw[e]at this
     exact this
    refine wpIn_seq (wG (rd:=none) hm NH hg N1 ct (.inl rfl) n _ bl _ G ρ m _ w _ hR ah λx aG ax fE DA lR G1 bh cC h1 h2 h3 h4=>?_)
    cases x with
    |exit id=>exact h4.elim
    |ret=>exact h4.elim
    |normal=>
    refine wpIn_seq (wpIn_seq (wG (rd:=none) hm NH hg N1 c1 (.inl rfl) aG DA lR _ G1 ax fE bh cC _ h3 h4 λx dC bg dc adH jg Lt a2 sH k1 k2 k3 k4=>?_))
    cases x with
    |exit id=>exact k4.elim
    |ret=>exact k4.elim
    |normal=>
    refine wpIn_block (abZ ic hm ck hg ie k3 kV k4 λlB ee adI Sk Rb dU D a3 afY p1 aS bR cY c8 eN ki oZ HN HM=>?_)
    have VH:eP S P gl dU cal:=by
     have e:dU=⟨w0.b,dU.r,dU.ex,dU.ro,dU.ds⟩:=by have:=bR.b;cases dU;simp at this;subst this;rfl
     rw[e];exact(ck _ _ _).ds
    have tJ:bB gl dU:=λg cs h=>by rw[bR.b];exact hg g cs h
    refine wG (rd:=none) hm VH tJ Xz bJ (.inl rfl) lB adI Sk _ Rb ee dc a3 afY _ HN HM λx Hw Bd xW QB yN Lu a4 AL q1 aP bA cM=>?_
    have iM:AL.heap[D]?=some (.deferred (some [])):=(bA.aY.fg D (Array.getElem?_eq_some_iff.1 c8).1 cY).trans c8
    have Wm:=(Array.getElem?_eq_some_iff.1 iM).1
    have Rm:Mem ⟨dU.b,dU.r.putObj D (.deferred none),dU.ex,dU.ro,[]⟩ Bd xW yN (AL.putObj D (.deferred none)):=by
     have e:dU=⟨dU.b,dU.r,dU.ex,dU.ro,dU.ds⟩:=rfl
     refine Mem.vu (e▸bA.aY) D (by rw[bR.b];exact ki) cY (Array.getElem?_eq_some_iff.1 c8).1 (pV _ _ _) (pV _ _ _) (λk hk=>World.putObj_heap_other hk) (λk hk=>World.putObj_heap_other hk) (by rw[World.putObj_heap_same Wm,World.putObj_heap_same (Array.getElem?_eq_some_iff.1 c8).1]) (λo ho=>by rw[c8]at ho;cases ho;rfl)
    have Rq:Sub ⟨dU.b,dU.r.putObj D (.deferred none),dU.ex,dU.ro,[]⟩ w0:=Sub.vu (ds:=dU.ds) bR D eN (pV _ _ _) (λk hk=>World.putObj_heap_other hk)
    have LB:Mem w0 Bd xW yN (AL.putObj D (.deferred none)):=Rm.less Rq
    have Rp:R w0 Hw Bd xW QB yN {a4 with defers:=[]} (AL.putObj D (.deferred none)):=⟨bA.t,kV.symm,bA.b,LB⟩
    have fin:(Ay P gl fn Hw QB yN k).holds S L Lu Bd->LeavesInM Fence.wide 0 P fn a4.tmps R' a4.defers .returning AL:=λhr=>by
     obtain⟨v,val,gF,nI,m2,AK⟩:=H5 hg Rp hr
     have hL:=(((h1.trans k1).trans p1).trans q1)
     have hA:=(((h2.trans k2 h1.hn).trans aS (h1.trans k1).hn).trans aP ((h1.trans k1).trans p1).hn)
     rw[bA.d,oZ]
     exact⟨by simp,.inl ⟨D,_,rfl,run_takeDeferred iM,val,m2,hk Hw v yN Lu Bd xW _ val hL hA gF nI bA.b LB AK⟩⟩
    cases x with
    |exit id=>exact cM.elim
    |normal=>exact fin cM
    |ret=>exact fin cM
end Go.bx
namespace Go.bx
open M
variable {S:Nat->List Int->List Int->Prop} {L:V->Env->Prop} {P:Program} {gl:c6} {cal:dm}
structure gQ where
 c:dd
 ty:TypeId
 nil:Bool
def su (p:gQ) (g k:Nat):Array Value:=cond p.nil #[.slice (some ⟨g,0,none⟩) k k,.slice none 0 0] #[.slice (some ⟨g,0,none⟩) k k]
def gQ.c9 (P:Program) (ag:World) (p:gQ) (spec:List Int->List Int->Prop):Prop:=
 (∀args w,(callFunc p.c.f args).run P w= .ok (.enter p.c.f args) w)/\
 ∀(F:Nat->Prop) (w:World) (vs:List Value) (zs:List Int) (g:Nat),ag.Extends w->bd (cb p.c.args) zs->ra p.c.pre zs->hI F (λ_=>False) w p.c.args zs vs->ag.heap.size<=g->¬F g->w.heap[g]?=some (.cells vs.toArray p.ty (0,0))->
  Calls P p.c.f (su p g vs.length) w λe w'=>w.Extends w'/\∃rs us,bd (cb p.c.res) rs/\spec zs rs/\hI (λg=>F g∨w.heap.size<=g) (λg=>w.heap.size<=g) w' p.c.res rs us/\e= .returned (lg us)
def C9 (nil:Bool) (vs:List V):Option (Nat×Nat×Nat):=
 match vs with
 |[.w (.one (.slc b 0 len cap))]=>cond nil none (some (b,len,cap))
 |[.w (.one (.slc b 0 len cap)),.w (.one (.con (.slice none 0 0)))]=>cond nil (some (b,len,cap)) none
 |_=>none
def fZ (a:A):V:= .w (.one a)
noncomputable def gQ.E (p:gQ) (n:Nat) (vs:List V) (bl:List ar) (k:RK):T:=
 match C9 p.nil vs with
 |some (b,len,cap)=>match bl[b]? with
  |some (cs,(t,false))=>cond (bu cs&&Nat.beq len cs.length&&Nat.beq cap cs.length&&Nat.beq t p.ty&& !(((cs.map fZ).flatMap jz).any (Nat.beq b))) (p.c.yu n (cs.map fZ) bl k) .stuck
  |_=> .stuck
 |none=> .stuck
theorem DY {ρ:Env} {m:Nat->Nat}:∀(cs:List A),dn ρ m (cs.map fZ) (cs.map (A.den ρ m))
 |[]=>trivial
 |a::r=>⟨rfl,DY r⟩
theorem abH {p:gQ} {vs:List V} {b len cap:Nat} {ρ:Env} {m:Nat->Nat} {xs:List Value} (h:C9 p.nil vs=some (b,len,cap)) (hr:dn ρ m vs xs) (hlc:cap=len):xs.toArray=su p (m b) len:=by
 subst hlc
 unfold C9 at h
 split at h
 ·cases hn:p.nil with
  |true=>rw[hn]at h;cases h
  |false=>
   rw[hn]at h;cases h
   match xs,hr with
   |[x],hr=>have hx:x=_:=hr.1;rw[hx];simp[su,hn,W.den,A.den]
 ·cases hn:p.nil with
  |false=>rw[hn]at h;cases h
  |true=>
   rw[hn]at h;cases h
   match xs,hr with
   |[x,y],hr=>have hx:x=_:=hr.1;have hy:y=_:=hr.2.1;rw[hx,hy];simp[su,hn,W.den,A.den]
 ·cases h
theorem gQ.sN {w0:cP} {p:gQ} {spec:List Int->List Int->Prop} (hc:p.c9 P w0.b spec) (iN:∀zs rs,spec zs rs->S p.c.id zs rs) (n:Nat) (vs:List V) (bl:List ar) (k:RK) (G:c5) (ρ:Env) (m:Nat->Nat) (w:World) (xs:List Value) (R':Ending->World->Prop)
 (hb:b4 n bl.length ρ bl) (hw:Mem w0 ρ m bl w) (hv:∀v∈vs,V.ok n bl.length ρ v) (hr:dn ρ m vs xs) (ah:(p.E n vs bl k).holds S L G ρ) (hk:rO S L w0 k n bl.length ρ m G R'):
 (callFunc p.c.f xs.toArray).run P w= .ok (.enter p.c.f xs.toArray) w/\Calls P p.c.f xs.toArray w R':=by
 refine⟨hc.1 _ _,?_⟩
 unfold gQ.E at ah
 split at ah
 rotate_left
 ·exact ah.elim
 rename_i b len cap hp
 split at ah
 rotate_left
 ·exact ah.elim
 rename_i cs t aA
 cases fr:(bu cs&&Nat.beq len cs.length&&Nat.beq cap cs.length&&Nat.beq t p.ty&& !(((cs.map fZ).flatMap jz).any (Nat.beq b)))with
 |false=>rw[fr]at ah;exact ah.elim
 |true=>
 rw[fr]at ah
 simp only[Bool.and_eq_true,Bool.not_eq_true']at fr
 obtain⟨⟨⟨⟨c1,bb⟩,bJ⟩,cg⟩,dK⟩:=fr
 have bb:=Nat.eq_of_beq_eq_true bb
 have bJ:=Nat.eq_of_beq_eq_true bJ
 have cg:=Nat.eq_of_beq_eq_true cg
 subst cg
 rw[abH hp hr (by omega),bb]
 obtain⟨bo,cj,r,kX,dU⟩:=hw.dV b cs _ aA c1
 have kX:=kX rfl
 subst kX
 rw[List.append_nil]at dU
 refine dd.Lr (f:=p.c.f) iN n (cs.map fZ) bl k G ρ m w (cs.map (A.den ρ m)) R' (λzs h1 h2 h3=>?_) hb hw (λv hv=>?_) (DY cs) ah hk
 ·have:=hc.2 _ w _ zs (m b) hw.ext h1 h2 h3 bo (λhF=>?_) dU
  ·rwa [List.length_map]at this
  ·obtain⟨⟨b6,k1,k2,q,k3,k4,_⟩,_⟩:=hF
   have hne:b≠b6:=λe=>by
    subst e
    rw[List.any_eq_true.2 ⟨b,k1,Nat.beq_refl b⟩]at dK;cases dK
   rcases hw.inj b b6 _ q aA k3 k2.symm with h|h|h|h
   ·exact hne h
   ·have:=ik (ρ:=ρ) c1;simp only at h;omega
   ·have:=ik (ρ:=ρ) c1;simp only at h;omega
   ·exact k4 h
 ·obtain⟨a,ha,rfl⟩:=List.mem_map.1 hv
  exact hb _ (List.mem_of_getElem? aA) a ha
def E7 (p:gQ) (vs:List V):Bool:=match C9 p.nil vs with
 |some (_,len,_)=>Nat.beq len p.c.args.length
 |none=>false
noncomputable def oa:List gQ->ia->ia
 |[],bc=>bc
 |p::r,bc=>λf=>cond (Nat.beq p.c.f f) (some λn vs bl k=>cond (E7 p vs) (p.E n vs bl k) (match oa r bc f with
  |some g=>g n vs bl k
  |none=> .stuck)) (oa r bc f)
theorem Ap {w0:cP} {bc:ia} (fB:lN S L w0 P bc):∀{l:List gQ},(∀p∈l,p.c9 P w0.b (S p.c.id))->lN S L w0 P (oa l bc)
 |[],_=>fB
 |p::l,h=>λf g hf=>by
  unfold oa at hf
  cases hb:Nat.beq p.c.f f with
  |true=>
   rw[hb]at hf
   simp only[cond_true,Option.some.injEq]at hf
   have:=Nat.eq_of_beq_eq_true hb
   subst this;subst hf
   intro n vs bl k G ρ m w xs R' h1 h2 h3 h4 h5 h6
   have h5:(cond (E7 p vs) (p.E n vs bl k) (match oa l bc p.c.f with
    |some g=>g n vs bl k
    |none=> .stuck)).holds S L G ρ:=h5
   cases hq:E7 p vs with
   |true=>
    rw[hq]at h5
    exact gQ.sN (h p (by simp)) (λ_ _ h=>h) n vs bl k G ρ m w xs R' h1 h2 h3 h4 h5 h6
   |false=>
    rw[hq]at h5
    simp only[cond_false]at h5
    cases hr:oa l bc p.c.f with
    |none=>rw[hr]at h5;exact h5.elim
    |some gA=>
     rw[hr]at h5
     exact Ap fB (λp hp=>h p (List.mem_cons_of_mem _ hp)) p.c.f gA hr n vs bl k G ρ m w xs R' h1 h2 h3 h4 h5 h6
  |false=>
   rw[hb]at hf
   exact Ap fB (λp hp=>h p (List.mem_cons_of_mem _ hp)) f g hf
def lD:W->A
 | .one a=>a
 |_=> .con undef
noncomputable def gQ.tree (bc:ia) (P:Program) (gl:c6) (cal:dm) (li:FuncId->Nat->Option dI) (rounds d:Nat) (p:gQ):T:=
 cond (kr p.c.args&& !(p.c.args.any b2.lA)) (As p.c.pre ((List.range (cb p.c.args).length).map xV) (nO p.c.args 0 (cb p.c.args).length [] [] λn us bl=>
  cond (us.all (λu=>match u with| .one _=>true|_=>false)&&bu (us.map lD)) (qA bc P gl cal li rounds d p.c.f n (cond p.nil [fZ (.slc bl.length 0 us.length us.length),fZ (.con (.slice none 0 0))] [fZ (.slc bl.length 0 us.length us.length)]) (bl++[(us.map lD,(p.ty,false))]) λn' v aK=>match aK[bl.length]? with
   |some (cs,(t,false))=>cond (lj cs (us.map lD)&&Nat.beq t p.ty) (ya (cB aK bl.length dO) p.c.res v n' λos _=> .leaf (pU os)) .stuck
   |_=> .stuck) .stuck)) .stuck
theorem Mem.more {b r:World} {ex ex' ro:Nat->Prop} {ds:List Deferred} {ρ:Env} {m:Nat->Nat} {bl:List ar} {w:World} (h:Mem ⟨b,r,ex,ro,ds⟩ ρ m bl w) (he:∀g,ex g->ex' g):Mem ⟨b,r,ex',ro,ds⟩ ρ m bl w:=
 ⟨h.ext,h.fs,h.gU,h.fX,h.dW,λi hi hx=>h.fg i hi λiT=>hx (he i iT),λi cs t hi ho=>by
  obtain⟨h1,h2,h3⟩:=h.dV i cs t hi ho
  exact⟨h1,h2.imp (he _) id,h3⟩,λi sh off code cap kind t hi hk=>by
  obtain⟨g1,g2⟩:=h.rws i sh off code cap kind t hi hk
  refine⟨g1,λhc=>?_⟩
  obtain⟨k1,cells,t',fz,k2,k3,k4⟩:=g2 hc
  refine⟨k1.imp (he _) id,cells,t',fz,k2,k3,λh2=>?_⟩
  obtain⟨cf,jK,kb,mR,oP,kc⟩:=k4 h2
  exact⟨cf,jK,kb,mR,oP,kc.imp (he _) id⟩,h.inj⟩
theorem Mem.drop {b r:World} {ro:Nat->Prop} {ρ:Env} {m:Nat->Nat} {bl:List ar} {w:World} {g i0:Nat} {cs:List A} {t:TypeId} (h:Mem ⟨b,r,λi=>i=g,ro,[]⟩ ρ m bl w) (hi:bl[i0]?=some (cs,(t,false))) (ho:bu cs=true) (hg:m i0=g) (hr:r.heap[g]?=some (.cells (cs.map (A.den ρ m)).toArray t (0,0))):
 Mem ⟨b,r,λ_=>False,ro,[]⟩ ρ m (cB bl i0 dO) w:=by
 have hlen:i0<bl.length:=(List.getElem?_eq_some_iff.1 hi).1
 have cL:∀(i:Nat) (q:ar),(cB bl i0 dO)[i]?=some q->(i=i0/\q=dO)∨(i≠i0/\bl[i]?=some q):=λi q hq=>by
  rw[gZ,List.getElem?_set]at hq
  split at hq
  ·rename_i et
   subst et
   simp only[hlen,if_true,Option.some.injEq]at hq
   exact .inl ⟨rfl,hq.symm⟩
  ·rename_i et;exact .inr ⟨λe=>et e.symm,hq⟩
 have eM:a1 ρ dO.1=0:=by simp[dO,a1,I.aH]
 have iP:a1 ρ cs=2:=ik ho
 have hne:∀(i:Nat) (q:ar),i≠i0->bl[i]?=some q->a1 ρ q.1≠0->m i≠g:=λi q jG hq hk e=>by
  rcases h.inj i i0 q _ hq hi (by rw[e,hg])with h1|h1|h1|h1
  ·exact jG h1
  ·simp only at h1;omega
  ·exact hk h1
  ·simp only at h1;omega
 refine⟨h.ext,h.fs,h.gU,h.fX,h.dW,λi fi _=>?_,λi gq t' hq fD=>?_,λi sh off code cap kind t' hq=>?_,λi j p q hp hq he=>?_⟩
 ·by_cases e:i=g
  ·subst e
   obtain⟨_,_,yf,jl,h3⟩:=h.dV i0 cs _ hi ho
   have jl:=jl rfl
   subst jl
   rw[List.append_nil,hg]at h3
   rw[h3];exact hr.symm
  ·exact h.fg i fi e
 ·rcases cL i _ hq with⟨_,e⟩|⟨jG,hq⟩
  ·simp only[dO,Prod.mk.injEq]at e
   rw[e.1]at fD;simp[bu]at fD
  ·obtain⟨h1,h2,h3⟩:=h.dV i gq t' hq fD
   refine⟨h1,?_,h3⟩
   rcases h2 with h2|h2
   ·exact absurd h2 (hne i _ jG hq (by rw[ik fD];decide))
   ·exact .inr h2
 ·rcases cL i _ hq with⟨_,e⟩|⟨jG,hq⟩
  ·simp only[dO,Prod.mk.injEq,List.cons.injEq,A.rows.injEq,and_true]at e
   intro hk
   exact absurd e.1.2.2.2.2 hk
  ·intro hk
   obtain⟨g1,g2⟩:=h.rws i sh off code cap kind t' hq hk
   refine⟨g1,λhc=>?_⟩
   have tS:m i≠g:=hne i _ jG hq (by simp only[a1];rw[if_neg (by omega)];exact hk)
   obtain⟨k1,cells,AJ,fz,k2,k3,k4⟩:=g2 hc
   refine⟨?_,cells,AJ,fz,k2,k3,λh2=>?_⟩
   ·rcases k1 with k1|k1
    ·exact absurd k1 tS
    ·exact .inr k1
   ·obtain⟨cf,jK,kb,mR,oP,kc⟩:=k4 h2
    refine⟨cf,jK,kb,mR,oP,?_⟩
    rcases kc with kc|kc
    ·exact absurd kc tS
    ·exact .inr kc
 ·rcases cL i _ hp with⟨_,e⟩|⟨jG,hp⟩
  ·subst e;exact .inr (.inr (.inl eM))
  ·rcases cL j _ hq with⟨_,e⟩|⟨N3,hq⟩
   ·subst e;exact .inr (.inr (.inr eM))
   ·exact h.inj i j p q hp hq he
theorem gQ.q6 {ag:World} {gl:c6} {p:gQ} {bc:ia} {cal:dm} {li:FuncId->Nat->Option dI} {rounds d:Nat} {spec:List Int->List Int->Prop} (hm:P.follows .mixedOrders=true) (ck:∀r ex ro,eP S P gl ⟨ag,r,ex,ro,[]⟩ cal) (hg:bB gl ⟨ag,ag,λ_=>False,λ_=>False,[]⟩)
 (fB:∀(L:V->Env->Prop) (r:World) (ex ro:Nat->Prop),lN S L ⟨ag,r,ex,ro,[]⟩ P bc) (hf:∀args w,(callFunc p.c.f args).run P w= .ok (.enter p.c.f args) w)
 (ht:mE (cb p.c.args) λzs=>(p.tree bc P gl cal li rounds d).holds S (lO λrs=>bd (cb p.c.res) rs/\spec zs rs) (λ_ _=>False) (bn (λ_=>0) 0 zs)):p.c9 P ag spec:=by
 refine⟨hf,λF w vs zs g hw hz tU hat FO zh hcell=>?_⟩
 have ah:=jX ht hz
 have ka:=ny hz
 unfold gQ.tree at ah
 cases hq:(kr p.c.args&& !(p.c.args.any b2.lA))with
 |false=>rw[hq]at ah;exact ah.elim
 |true=>
  rw[hq]at ah
  simp only[cond_true]at ah
  have ah:=preA_holds ah (by rw[<-ka,CU];exact tU)
  simp only[Bool.and_eq_true,Bool.not_eq_true']at hq
  have iB:Mem ⟨ag,w,λ_=>False,F,[]⟩ (bn (λ_=>0) 0 zs) (λ_=>0) [] w:=⟨hw,rfl,rfl,rfl,Nat.le_refl _,λ_ _ _=>rfl,λi cs t h=>by simp at h,λi sh off code cap kind t h=>by simp at h,λi j p q h=>by simp at h⟩
  have hall:(p.c.args.all λb=> !b.lA)=true:=by
   rw[List.all_eq_true]
   intro b hb
   cases df:b.lA with
   |false=>rfl
   |true=>rw[List.any_eq_true.2 ⟨b,hb,df⟩]at hq;cases hq.2
  obtain⟨n',ae,m',us,bl,p1,aS,bR,cY,c8,eN⟩:=rS (S:=S) (L:=_) (w0:=⟨ag,w,λ_=>False,F,[]⟩) (F:=F) (N:=λ_=>False) (λg hg=> .inr (.inl hg)) (λg hg=>hg.elim) (l:=p.c.args) (s:=0) (us:=[]) (bl:=[]) (m:=λ_=>0) hq.1 (λp hp=>by simp at hp) iB (fw.bn _ 0 zs) hz (by omega) hat (.inr λi p h=>by simp at h) (.inl hall) (λu hu=>by simp at hu) ah
  cases kB:(us.all (λu=>match u with| .one _=>true|_=>false)&&bu (us.map lD))with
  |false=>rw[kB]at eN;exact eN.elim
  |true=>
  rw[kB]at eN
  simp only[cond_true]at eN
  simp only[Bool.and_eq_true]at kB
  have Ov:∀u∈us,u= .one (lD u):=λu hu=>by
   have:=List.all_eq_true.1 kB.1 u hu
   cases u with
   |one a=>rfl
   |_=>simp at this
  have mQ:(us.map lD).map (A.den ae m')=vs:=by
   have e:us.map (W.den ae m')=vs:=by simpa using cY
   rw[<-e,List.map_map]
   refine List.map_congr_left λu hu=>?_
   rw[Ov u hu];rfl
  have GJ:∀a∈us.map lD,A.ok n' bl.length ae a:=λa ha=>by
   obtain⟨u,hu,rfl⟩:=List.mem_map.1 ha
   have h1:=c8 u hu
   rw[Ov u hu]at h1
   exact h1
  have Cj:g<w.heap.size:=(Array.getElem?_eq_some_iff.1 hcell).1
  have gL:=(bR.more (ex':=λi=>i=g) λ_ h=>h.elim).push (x:=(us.map lD,(p.ty,false))) (g:=g) aS GJ (λ_=>⟨FO,.inl rfl,[],λ_=>rfl,by rw[List.append_nil,mQ];exact hcell⟩) (λsh off code cap kind he=>by
   simp only at he;rw[he]at kB;simp[bu]at kB) (λi q hi he=>by
    refine .inr (.inl ?_)
    by_cases h0:a1 ae q.1=0
    ·exact h0
    ·exfalso
     obtain⟨cs,t⟩:=q
     cases ho:bu cs with
     |true=>
      obtain⟨_,h2,_⟩:=bR.dV i cs t hi ho
      rcases h2 with h2|h2
      ·exact h2
      ·simp only at h2;omega
     |false=>
      obtain⟨sh,off,code,cap,k,e⟩:=C5 ho
      subst e
      simp only[a1]at h0
      split at h0
      ·exact h0 rfl
      ·rename_i hc
       obtain⟨h1,_⟩:=(bR.rws i sh off code cap k t hi h0).2 (by omega)
       rcases h1 with h1|h1|h1
       ·exact h1
       ·rw[he]at h1;exact zh h1
       ·simp only at h1;omega)
  have tF:b4 n' (bl++[(us.map lD,(p.ty,false))]).length ae (bl++[(us.map lD,(p.ty,false))]):=λq hq a ib=>by
   rcases List.mem_append.1 hq with hq|hq
   ·exact(aS q hq a ib).ext (agree.refl _ _) (Nat.le_refl _) (by simp)
   ·simp at hq;subst hq
    exact(GJ a ib).ext (agree.refl _ _) (Nat.le_refl _) (by simp)
  have W7:us.length=vs.length:=by rw[<-mQ];simp
  have pA:bB gl ⟨ag,w,λi=>i=g,F,[]⟩:=hg
  have Oo:V.ok n' (bl++[(us.map lD,(p.ty,false))]).length ae (fZ (.slc bl.length 0 us.length us.length)):=by
   show bl.length<_
   simp
  have l5:(fZ (.slc bl.length 0 us.length us.length)).rel ae (iu m' bl.length g) (.slice (some ⟨g,0,none⟩) vs.length vs.length):=by
   simp[V.rel,fZ,W.den,A.den,jq,W7]
  have kU:∀v∈(cond p.nil [fZ (.slc bl.length 0 us.length us.length),fZ (.con (.slice none 0 0))] [fZ (.slc bl.length 0 us.length us.length)]),V.ok n' (bl++[(us.map lD,(p.ty,false))]).length ae v:=λv hv=>by
   have FU:V.ok n' (bl++[(us.map lD,(p.ty,false))]).length ae (fZ (.con (.slice none 0 0))):=rfl
   cases hn:p.nil with
   |true=>
    rw[hn]at hv
    simp only[cond_true,List.mem_cons,List.not_mem_nil,or_false]at hv
    rcases hv with rfl|rfl
    ·exact Oo
    ·exact FU
   |false=>
    rw[hn]at hv
    simp only[cond_false,List.mem_cons,List.not_mem_nil,or_false]at hv
    subst hv
    exact Oo
  have hrel:dn ae (iu m' bl.length g) (cond p.nil [fZ (.slc bl.length 0 us.length us.length),fZ (.con (.slice none 0 0))] [fZ (.slc bl.length 0 us.length us.length)]) (su p g vs.length).toList:=by
   unfold su
   cases hn:p.nil with
   |true=>simp only[cond_true];exact⟨l5,rfl,trivial⟩
   |false=>simp only[cond_false];exact⟨l5,trivial⟩
  have FP:=(wC (S:=S) (w0:=⟨ag,w,λi=>i=g,F,[]⟩) (R':=λe w'=>w.Extends w'/\∃rs us,bd (cb p.c.res) rs/\spec zs rs/\hI (λg=>F g∨w.heap.size<=g) (λg=>w.heap.size<=g) w' p.c.res rs us/\e= .returned (lg us)) rfl hm (ck w _ F) pA (fB _ _ _ _) d p.c.f n' _ _ _ _ ae (iu m' bl.length g) w _ tF gL kU hrel eN ?_).2
  ·simpa using FP
  intro dC v aK c2 bg dc w' val h1 h2 h3 h4 h5 h6 h7
  simp only at h7
  split at h7
  rotate_left
  ·exact h7.elim
  rename_i cs t ji
  cases fr:(lj cs (us.map lD)&&Nat.beq t p.ty)with
  |false=>rw[fr]at h7;exact h7.elim
  |true=>
  rw[fr]at h7
  simp only[cond_true]at h7
  simp only[Bool.and_eq_true]at fr
  have Te:=wu fr.1
  have rW:=Nat.eq_of_beq_eq_true fr.2
  subst Te;subst rW
  have zn:bl.length<(bl++[(us.map lD,(p.ty,false))]).length:=by simp
  have lv:dc bl.length=g:=by rw[h1.hm _ zn,jq]
  have oB:(us.map lD).map (A.den bg dc)=vs:=by
   rw[<-mQ]
   refine List.map_congr_left λa ha=>?_
   rw[A.iy (GJ a ha) h1.ha (λb hb=>?_)]
   rw[h1.hm b (by simp;omega),ja hb]
  have iM:=h6.drop ji kB.2 lv (by rw[oB];exact hcell)
  have df:b4 dC (cB aK bl.length dO).length bg (cB aK bl.length dO):=by
   rw[gu]
   intro q hq a ha
   rw[gZ]at hq
   rcases List.mem_or_eq_of_mem_set hq with hq|hq
   ·exact h5 q hq a ha
   ·subst hq
    simp only[dO,List.mem_cons,List.not_mem_nil,or_false]at ha
    subst ha
    exact⟨⟨I.ch _ _,I.ch _ _,I.ch _ _⟩,by rw[I.aH];exact⟨Int.le_refl _,pb⟩,by rw[I.aH];omega⟩
  obtain⟨ee,lB,os,pD,mM,⟨xs,hx1,hx2⟩,hl⟩:=Dh (S:=S) (w0:=⟨ag,w,λ_=>False,F,[]⟩) (λg hg=>hg) df iM (by rw[gu];exact h3) h4 c2 _ h7
  have hl:lO _ (pU os) ee:=hl
  rw[Bf]at hl
  refine⟨?_,os.map (O.den ee),xs,hl.1,hl.2,?_,by rw[hx1]⟩
  ·have lV:∀i:Nat,i<w.heap.size->w'.heap[i]?=w.heap[i]?:=λi hi=>iM.fg i hi λh=>h
   exact⟨iM.fs,iM.gU,iM.fX,iM.dW,λa ha=>by simp only[World.cell?,lV a.block ha],λa ha=>by simp only[World.frozen?,lV a.block ha],lV⟩
  ·exact dd.q6.s7 (λg hg=>by
    rcases hg with hg|hg|hg
    ·exact hg.elim
    ·exact .inl hg
    ·exact .inr hg) (λg hg=>hg) hx2
section
variable {ag:World} {sh:Nat->List Nat×List Nat} {SB:Nat->List (List Int)->List (List Int)->Prop}
theorem PJ {p:gQ} {bc:ia} {cal:dm} {li:FuncId->Nat->Option dI} {rounds d:Nat} {lsh:Nat->List Nat} {lens:List Nat} (hm:P.follows .mixedOrders=true) (ck:∀r ex ro,eP (bY sh SB) P gl ⟨ag,r,ex,ro,[]⟩ cal) (hg:bB gl ⟨ag,ag,λ_=>False,λ_=>False,[]⟩)
 (fB:∀(L:V->Env->Prop) (r:World) (ex ro:Nat->Prop),lN (bY sh SB) L ⟨ag,r,ex,ro,[]⟩ P bc) (hf:qG P p.c.f=true) (hl:lens=(sh p.c.id).1) (hd:oX p.c.res=(sh p.c.id).2)
 (hv:iw sh lsh SB (gy SB p.c.res p.c.id) lens (cb p.c.args) p.c.res (p.tree bc P gl cal li rounds d)):p.c9 P ag (bY sh SB p.c.id):=by
 refine gQ.q6 (li:=li) (rounds:=rounds) (d:=d) hm ck hg fB (enters hf) (pe λzs hz=>?_)
 have h:=jX (yD hv) hz
 simp only[gy,vt]at h
 rw[hl,hd]at h
 exact h
end
end Go.bx
