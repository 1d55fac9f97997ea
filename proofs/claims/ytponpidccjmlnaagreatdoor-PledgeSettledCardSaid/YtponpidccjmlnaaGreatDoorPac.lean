/- The evaluator's soundness,whole. -/
import Derived.Test.YtponpidccjmlnaaGreatDoorPab
import Derived.Laws.Externs
import Derived.ChangeMaps5
import Derived.ChangeSame
import Derived.OpenShut
import Derived.Handed
import Derived.ProofKit
import Derived.LaidMore
import Derived.Stop.Joined
import Derived.HandedShaped
import Derived.SizedLaws
import Derived.Carry

set_option linter.unusedVariables false
set_option linter.unusedSimpArgs false
namespace Go.bj
open M
section
variable {S:Nat->List Int->List Int->Prop} {L:V->Env->Prop} {w0:de} {P:Program} {gl:dz} {cal:dQ} {rd:Option Nat}
def yw (S:Nat->List Int->List Int->Prop) (L:V->Env->Prop) (w0:de) (k:po) (n nb:Nat) (ρ:Env) (m:Nat->Nat) (G:dt) (Q:Exit->Act->World->Prop):Prop:=
 ∀x n' ad m' bS aN dp c7 w',di n nb ρ m n' (List.length aN) ad m'->dG n G dp->R w0 n' ad m' bS aN c7 w'->(k x n' bS aN).holds S L dp ad->Q x.to c7 w'
theorem yw.later {k:po} {n nb n1 vu:Nat} {ρ ax:Env} {m iw:Nat->Nat} {G G1:dt} {Q:Exit->Act->World->Prop} (h:yw S L w0 k n nb ρ m G Q) (hl:di n nb ρ m n1 vu ax iw) (hA:dG n G G1):yw S L w0 k n1 vu ax iw G1 Q:=
 fun x n' ad m' bS aN dp c7 w' h1 h2 h3 h4=>h x n' ad m' bS aN dp c7 w' (hl.trans h1) (hA.trans h2 hl.hn) h3 h4
def Hu (rd:Option Nat) (S:Nat->List Int->List Int->Prop) (L:V->Env->Prop) (w0:de) (P:Program) (c:Code) (e:Nat->List V->List aq->po->T):Prop:=(rd=none∨kf c=true)->
 ∀n tm bl k G ρ m a w Q,R w0 n ρ m tm bl a w->(e n tm bl k).holds S L G ρ->yw S L w0 k n bl.length ρ m G Q->c.wpIn (ot rd) 0 P Q a w
theorem V2 {c:Code} {e:Nat->List V->List aq->po->T} (hd:rd=none∨kf c=true) (he:Hu rd S L w0 P c e) {Q:Exit->Act->World->Prop}:∀(r:Nat) {n:Nat} {ρ:Env} {m:Nat->Nat} {tm:List V} {bl:List aq} {a:Act} {w:World} {G:dt} {k:po},
 R w0 n ρ m tm bl a w->(MB e r n tm bl k).holds S L G ρ->yw S L w0 k n bl.length ρ m G Q->Code.roundsIn (ot rd) 0 P c Q r a w
 |0,_,_,_,_,_,_,_,_,_,_,hh,_=>hh.elim
 |r+1,n,ρ,m,tm,bl,a,w,G,k,h,hh,hk=>by
  rw[roundsIn_succ]
  refine he hd n tm bl _ G ρ m a w _ h hh fun x n' ad m' bS aN dp c7 w' h1 h2 h3 h4=>?_
  cases x with
  |normal=>exact V2 hd he r h3 h4 (hk.later h1 h2)
  |exit id=>exact hk (.exit id) n' ad m' bS aN dp c7 w' h1 h2 h3 h4
  |ret=>exact hk .ret n' ad m' bS aN dp c7 w' h1 h2 h3 h4
theorem XD {n nb:Nat} {ρ:Env} {m:Nat->Nat} {tm:List V} {xs:Array Value} (h:du n nb ρ m tm xs):wo n nb ρ m tm xs.toList:=PH (by simpa using h)
theorem SS {li:dj} {n:Nat} {bK ad:Env} {m0 m':Nat->Nat} {tm bS jR uq:List V} {bl aN dB l5:List aq} {l1 l2 v1 v2 ext:List I} {b1 b2 yF qo:List (Int×Int)} {n':Nat} {a:Act} {w:World}
 (hlen:bl.length<=aN.length)
 (ha:agree n bK ad) (hm:∀b,b<bl.length->m' b=m0 b) (ht:∀v∈tm,V.ok n bl.length bK v) (nQ:cn n bl.length bK bl)
 (h:R w0 n' ad m' bS aN a w) (e1:hs li.ev li.ints 0 (n+1) tm=some (jR,l1,b1)) (e2:hb li.cells 0 (n+1+l1.length) bl=some (dB,l2,b2))
 (bu:hs li.ev li.ints 0 (n+1) bS=some (uq,v1,yF)) (eK:hb li.cells 0 (n+1+v1.length) (aN.take bl.length)=some (l5,v2,qo))
 (f1:kr jR uq=true) (f2:kq dB l5=true):
 v1.length+v2.length=l1.length+l2.length/\av (b1++b2) ((v1++v2).map (·.den ad))/\R w0 (n+1+l1.length+l2.length+ext.length) (bq bK (n+1) ((v1++v2++ext).map (·.den ad))) m0 jR dB a w/\dB.length=bl.length/\∀(i:Nat) (p:aq),dB[i]?=some p->i<bl.length/\∃p':aq,aN[i]?=some p'/\aY (bq bK (n+1) ((v1++v2++ext).map (·.den ad))) p.1=aY ad p'.1:=by
 have J1:agree n bK (bq bK (n+1) ((v1++v2++ext).map (·.den ad))):=(agree.bq _ (n+1) bK).mono (by omega)
 have vd:∀j,j<(v1++v2).length->bq bK (n+1) ((v1++v2++ext).map (·.den ad)) (n+1+j)=((v1++v2).getD j (.const 0)).den ad:=fun j hj=>by
  rw[Au _ _ _ j (by simp at hj⊢;omega)]
  have nR:j<(v1++v2++ext).length:=by simp at hj⊢;omega
  have e:(v1++v2++ext)[j]=(v1++v2)[j]:=List.getElem_append_left hj
  simp only[List.getD,List.getElem?_map,List.getElem?_eq_getElem hj,List.getElem?_eq_getElem nR,Option.map_some,Option.getD_some,e]
 have ayW:v1.length+v2.length=(v1++v2).length:=by simp
 obtain⟨p1,p2,p3⟩:=CE (N:=n+1+v1.length+v2.length+ext.length) ha J1 hm (by omega) ht (XD h.t) e1 bu f1 (fun j hj=>by
  rw[vd j (by simp;omega),R3 hj]) (by omega)
 rw[<-p3]at e2
 have B4:cn n' aN.length ad (aN.take bl.length):=fun p hp=>h.b p (List.mem_of_mem_take hp)
 obtain⟨bo,bQ,cq,dq⟩:=SA (N:=n+1+v1.length+v2.length+ext.length) ha J1 hm (by omega) nQ B4 e2 eK f2 (fun j hj=>by
  rw[show n+1+v1.length+j=n+1+(v1.length+j) by omega,vd (v1.length+j) (by simp;omega),R4]) (by omega)
 have aB:dB.length=bl.length:=(B2 e2).2
 refine⟨by omega,by rw[List.map_append];exact nV p2 bQ,?_⟩
 rw[<-p3,<-cq]
 have tn:∀(i:Nat) (p:aq),dB[i]?=some p->i<bl.length/\∃p':aq,aN[i]?=some p'/\bI p.1=bI p'.1/\p.2=p'.2/\(bI p.1=false->∃sh off code code' cap k,p.1=[.rows sh off code cap k]/\p'.1=[.rows sh off code' cap k]/\off.aX n/\cap.aX n):=fun i p hi=>by
  have gJ:i<bl.length:=by rw[<-aB];exact(List.getElem?_eq_some_iff.1 hi).1
  obtain⟨p',h1,h2,BQ,h3⟩:=J3 eK i p (RH f2 i p hi)
  rw[List.getElem?_take,if_pos gJ]at h1
  obtain⟨p0,g1,_,_,g3⟩:=J3 e2 i p hi
  refine⟨gJ,p',h1,h2,BQ,fun ho=>?_⟩
  obtain⟨sh,off,code,code',cap,k,s1,s2⟩:=h3 ho
  obtain⟨dR,fK,c1,c2,fE,aQ,ew,kK⟩:=g3 ho
  rw[s1]at ew
  cases ew
  have hok:A.ok n bl.length bK (.rows sh off c2 cap k):=nQ _ (List.mem_of_getElem? g1) _ (by rw[kK];simp)
  exact⟨sh,off,code,code',cap,k,s1,s2,hok.1.1,hok.1.2.2⟩
 have J2:agree n ad (bq bK (n+1) ((v1++v2++ext).map (·.den ad))):=ha.sym.trans J1 (Nat.le_refl _)
 have j9:∀(p p':aq),bI p.1=bI p'.1->(bI p.1=false->∃sh off code code' cap k,p.1=[.rows sh off code cap k]/\p'.1=[.rows sh off code' cap k]/\off.aX n/\cap.aX n)->aY (bq bK (n+1) ((v1++v2++ext).map (·.den ad))) p.1=aY ad p'.1:=fun p p' h1 h2=>by
  cases ho:bI p.1 with
  |true=>rw[iv ho,iv (h1▸ho)]
  |false=>
   obtain⟨sh,off,code,code',cap,k,s1,s2,ew,kK⟩:=h2 ho
   rw[s1,s2]
   simp only[aY]
   rw[I.bA J2 kK]
 refine⟨?_,aB,fun i p hi=>by
  obtain⟨g1,p',g2,g3,_,g4⟩:=tn i p hi
  exact⟨g1,p',g2,j9 p p' g3 g4⟩⟩
 refine⟨?_,h.d,by rw[aB];exact bo,⟨h.ba.ext,h.ba.fI,h.ba.iu,h.ba.gr,h.ba.ek,h.ba.fv,fun i cs t hi ho=>?_,fun i sh off code cap kind t hi=>?_,fun i j p q hi hj he=>?_⟩⟩
 ·rw[aB]
  have:=D7 p1
  simpa using this
 ·obtain⟨c',h1,h2⟩:=dq i cs t hi
  obtain⟨gJ,p',k1,k2,_⟩:=tn i _ hi
  rw[List.getElem?_take,if_pos gJ,k1]at h1
  have h1:=Option.some.inj h1
  subst h1
  obtain⟨g1,jn,r,hr,g2⟩:=h.ba.dX i c' t k1 (k2▸ho)
  rw[<-hm i gJ]
  exact⟨g1,jn,r,hr,by rw[h2];exact g2⟩
 ·obtain⟨gJ,p',k1,_,k2,k3⟩:=tn i _ hi
  obtain⟨dR,fK,c1,c2,fE,aQ,s1,s2,ew,kK⟩:=k3 rfl
  cases s1
  obtain⟨C,t'⟩:=p'
  simp only at s2 k2
  subst s2;subst k2
  obtain⟨c',h1,h2⟩:=dq i _ t hi
  rw[List.getElem?_take,if_pos gJ,k1]at h1
  cases h1
  simp only[List.map_cons,List.map_nil,A.den,List.cons.injEq,Value.int.injEq,and_true,true_and]at h2
  rw[<-hm i gJ]
  have hR:=h.ba.rws i sh off c2 cap kind t k1
  unfold pr at hR⊢
  rw[I.bA J2 ew,I.bA J2 kK,h2]
  exact hR
 ·obtain⟨gJ,p',k1,k2,_,k3⟩:=tn i p hi
  obtain⟨xa,q',l1,l2,_,nq⟩:=tn j q hj
  rw[j9 p p' k2 k3,j9 q q' l2 nq]
  rw[<-hm i gJ,<-hm j xa]at he
  exact h.ba.inj i j p' q' k1 l1 he
theorem du.set {n nb:Nat} {ρ:Env} {m:Nat->Nat} {tm:List V} {xs:Array Value} {s:Nat} {v:V} (h:du n nb ρ m tm xs) (hv:v.ok n nb ρ) (hr:∀x,xs[s]?=some x->v.rel ρ m x):du n nb ρ m (pe tm s v) xs:=by
 rw[MU]
 refine⟨by simp[h.1],fun i u hu=>?_⟩
 rw[List.getElem?_set]at hu
 split at hu
 ·rename_i ahb
  subst ahb
  split at hu
  ·rename_i hlt
   cases hu
   rw[h.1]at hlt
   exact⟨hv,_,Array.getElem?_eq_getElem hlt,hr _ (Array.getElem?_eq_getElem hlt)⟩
  ·cases hu
 ·exact h.2 i u hu
def yv (tmps:Array Value):List Nat->List Int->Prop
 |[],[]=>True
 |s::r,z::zs=>(0<=z/\z<=1)/\(∀x,tmps[s]?=some x->x= .bool (decide (z=1)))/\yv tmps r zs
 |_,_=>False
def vY (w0:de) (w:World) (tmps:Array Value) (F:Nat->Prop):List (Nat×List aw×TypeId)->List Int->Prop
 |[],[]=>True
 |(s,sh,e)::r,code::len::cap::zs=>∃g:Nat,(∀x,tmps[s]?=some x->x=if cap<0 then .slice none 0 0 else .slice (some ⟨g,0,none⟩) len.toNat cap.toNat)/\yb 0 0 len cap/\(0<=code/\code<=b8)/\(cap<0->aa code=[])/\
    (0<=cap->∃cells:Array Value,w.heap[g]?=some (.cells cells e (0,0))/\j1 cells 0 sh (aa code)/\cells.size=cap.toNat*sh.length/\w0.b.heap.size<=g/\(w0.ex g∨w0.r.heap.size<=g))/\
    (0<=cap->F g)/\vY w0 w tmps (fun hV=>F hV/\(0<=cap->hV≠g)) r zs
 |_,_=>False
theorem Iy {nb:Nat} {tm:List V} {m:Nat->Nat} {tmps:Array Value}:∀{l:List Nat} {n:Nat} {ρ:Env},du n nb ρ m tm tmps->ai S L (Bd tm l) n ρ fun ad n' ls=>(∀x∈ls,I.aX n' x)/\ls.length=l.length/\yv tmps l (ls.map (·.den ad))
 |[],n,ρ,ht=>ai.pure ⟨fun _ h=>by simp at h,rfl,trivial⟩
 |s::r,n,ρ,ht=>by
  unfold Bd
  split
  ·rename_i e hs
   obtain⟨h1,x,h2,h3⟩:=ht.2 s _ hs
   have h3:x= .bool (e.den ρ):=h3
   have key:ai S L (match e with| .lit v=>pure (I.const (cond v 1 0))|e=>xv e) n ρ fun ad n' l=>l.aX n'/\(0<=l.den ad/\l.den ad<=1)/\e.den ρ=decide (l.den ad=1):=by
    cases e with
    |lit v=>cases v<;>exact ai.pure ⟨I.cA _ _,by simp only[I.aK];decide,by simp only[I.aK,aT.den];rfl⟩
    |_=>exact FR
   refine key.bind fun ax n1 l hn ha ⟨g1,g2,g3⟩=>(Iy (l:=r) (ht.ext ha hn (Nat.le_refl _) (fun _ _=>rfl))).bind fun bC dM ls dU dd ⟨k1,k2,k3⟩=>ai.pure ⟨fun y hy=>?_,by simp[k2],?_⟩
   ·rcases List.mem_cons.1 hy with rfl|hy
    ·exact g1.mono dU
    ·exact k1 y hy
   ·have e1:=I.bA dd g1
    simp only[List.map_cons,yv,e1]
    refine⟨g2,fun y hy=>?_,k3⟩
    rw[h2]at hy
    cases hy
    rw[h3,g3]
  ·exact ai.fail
theorem BF {nb:Nat} {m:Nat->Nat} {tmps:Array Value}:∀{l:List (Nat×Int×Int)} {tm:List V} {n:Nat} {ρ:Env},du n nb ρ m tm tmps->ai S L (wJ l tm) n ρ fun ad n' bS=>du n' nb ad m bS tmps
 |[],tm,n,ρ,ht=>ai.pure ht
 |(s,lo,hi)::r,tm,n,ρ,ht=>by
  unfold wJ
  split
  ·rename_i k x hs
   cases hc:(decide (lo<=x.lo)&&decide (x.hi<=hi))with
   |true=>simp only[cond_true];exact BF ht
   |false=>
    simp only[cond_false]
    refine fF fun hk=>?_
    simp only[List.map_cons,List.map_nil,ab,I.aK]at hk
    obtain⟨h1,y,h2,h3⟩:=ht.2 s _ hs
    have h1:x.ok n ρ:=h1
    exact BF (ht.set (v:= .w (.one (.int k ⟨x.l,lo,hi⟩))) ⟨h1.1,hk.1,hk.2⟩ fun z hz=>by
     rw[h2]at hz;cases hz;exact h3)
  ·exact BF ht
theorem Ee {n lo:Nat} {ρ:Env} {m:Nat->Nat} {tm:List V} {bl:List aq} {a:Act} {w:World} (h:R w0 n ρ m tm bl a w):∀{l:List (Nat×List aw×TypeId)} {used:List Nat} {ls:List I} {u:List Nat},rN lo l tm bl used=some (ls,u)->
 (∀x∈ls,I.aX n x)/\ls.length=(wv l).length/\(∀b∈used,b∈u)/\(∀b∈u,b∈used∨lo<=b)/\∀F:Nat->Prop,(∀(b:Nat) (p:aq),b∈u->b∉used->bl[b]?=some p->aY ρ p.1=2->bI p.1=false->F (m b))->vY w0 w a.tmps F l (ls.map (·.den ρ))
 |[],used,ls,u,he=>by
  simp only[rN,Option.some.injEq,Prod.mk.injEq]at he
  obtain⟨rfl,rfl⟩:=he
  exact⟨fun _ h=>by simp at h,rfl,fun _ h=>h,fun _ h=> .inl h,fun _ _=>trivial⟩
 |(s,sh,e)::r,used,ls,u,he=>by
  unfold rN at he
  split at he
  ·rename_i hs
   split at he
   ·rename_i l1 nz hr
    simp only[Option.some.injEq,Prod.mk.injEq]at he
    obtain⟨rfl,rfl⟩:=he
    obtain⟨g1,g2,g3,g4,g5⟩:=Ee h hr
    refine⟨fun x hx=>?_,by simp[wv]at g2⊢;omega,g3,g4,fun F hF=>⟨0,fun x hx=>?_,?_,?_,?_,?_,?_,?_⟩⟩
    ·simp only[List.mem_cons]at hx
     rcases hx with rfl|rfl|rfl|hx
     ·exact I.cA _ _
     ·exact I.cA _ _
     ·exact I.cA _ _
     ·exact g1 x hx
    ·obtain⟨_,y,h2,h3⟩:=h.t.2 s _ hs
     rw[h2]at hx;cases hx
     have kT:(I.const (-1)).den ρ<0:=by rw[I.aK];decide
     simp only[kT,if_true]
     exact h3
    ·simp only[I.aK];exact⟨⟨by omega,by omega,by omega,by omega⟩,⟨by omega,by omega⟩,fun _=>rfl,fun h=>by omega⟩
    ·simp only[I.aK];exact⟨Int.le_refl _,Int.le_trans (fp []) (mX (l:=[]) (by simp) (by simp))⟩
    ·intro _;simp only[I.aK];exact fL
    ·simp only[I.aK];intro h;omega
    ·simp only[I.aK];intro h;omega
    ·refine g5 _ fun b p hb hu aB hk ho=>⟨hF b p hb hu aB hk ho,?_⟩
     simp only[I.aK];intro h;omega
   ·cases he
  ·rename_i b aL o ro len cap hs
   split at he
   ·rename_i dR off code df kind t aB
    cases hc:(lV sh dR&&Nat.beq kind 2&&I.beq o (.const 0)&&I.beq off (.const 0)&&I.beq ro (.const 0)&&I.beq cap df&&Nat.beq t.1 e&&Nat.beq aL sh.length&&Nat.ble lo b&& !(used.any (Nat.beq b)))with
    |false=>rw[hc]at he;cases he
    |true=>
     rw[hc]at he
     simp only[cond_true]at he
     split at he
     ·rename_i l1 nz hr
      simp only[Option.some.injEq,Prod.mk.injEq]at he
      obtain⟨rfl,rfl⟩:=he
      simp only[Bool.and_eq_true]at hc
      obtain⟨⟨⟨⟨⟨⟨⟨⟨⟨c1,c2⟩,c3⟩,c4⟩,c5⟩,fU⟩,l6⟩,lG⟩,oE⟩,qs⟩:=hc
      have c1:=uk c1;have c2:=Nat.eq_of_beq_eq_true c2;have c3:=I.beq_eq c3;have c4:=I.beq_eq c4;have c5:=I.beq_eq c5;have fU:=I.beq_eq fU
      have l6:=Nat.eq_of_beq_eq_true l6;have lG:=Nat.eq_of_beq_eq_true lG;have oE:=Nat.le_of_ble_eq_true oE
      have agJ:b∉used:=fun hb=>by
       have:used.any (Nat.beq b)=true:=List.any_eq_true.2 ⟨b,hb,Nat.beq_refl b⟩
       rw[this]at qs;cases qs
      subst c1;subst c2;subst c3;subst c4;subst c5;subst fU;subst l6;subst lG
      obtain⟨g1,g2,g3,g4,g5⟩:=Ee h hr
      obtain⟨hok,y,h2,h3⟩:=h.t.2 s _ hs
      have hok:(A.sl b sh.length (.const 0) (.const 0) len cap).ok n bl.length ρ:=hok
      obtain⟨x1,⟨x2,fg,eX,e5⟩,fh⟩:=hok
      simp only[I.aK]at fh
      have ej:(A.rows sh (.const 0) code cap 2).ok n bl.length ρ:=h.b _ (List.mem_of_getElem? aB) _ (by simp)
      obtain⟨⟨r1,r2,cX⟩,gM,aj⟩:=ej
      have ir:=h.ba.rws b sh (.const 0) code cap 2 t aB (by decide)
      refine⟨fun x hx=>?_,by simp[wv]at g2⊢;omega,fun b6 gS=>g3 b6 (List.mem_cons_of_mem _ gS),fun b6 gS=>?_,fun F hF=>⟨m b,fun x hx=>?_,fh,gM,ir.1,fun h0=>?_,fun h0=>?_,?_⟩⟩
      ·simp only[List.mem_cons]at hx
       rcases hx with rfl|rfl|rfl|hx
       ·exact r2
       ·exact eX
       ·exact e5
       ·exact g1 x hx
      ·rcases g4 b6 gS with h5|h5
       ·rcases List.mem_cons.1 h5 with rfl|h5
        ·exact .inr oE
        ·exact .inl h5
       ·exact .inr h5
      ·have Lc:y=x:=Option.some.inj (h2.symm.trans hx)
       subst Lc
       have h3:y=(A.sl b sh.length (.const 0) (.const 0) len cap).den ρ m:=h3
       rw[h3]
       simp only[A.den,I.aK]
       split<;>simp
      ·obtain⟨_,cells,hH,fz,k1,⟨k2,k3⟩,k4⟩:=ir.2 h0
       obtain⟨kc,k5,k6,k7,ah4,ah5⟩:=k4 (by decide)
       subst kc
       have k6:=k6.two
       subst k6
       rw[I.aK]at k3
       exact⟨cells,k1,k3,k7,ah4,ah5⟩
      ·exact hF b _ (g3 b (by simp)) agJ aB (mM (by decide) h0) rfl
      ·refine g5 _ fun b6 p gS hu SE hk ho=>⟨hF b6 p gS (fun h=>hu (List.mem_cons_of_mem _ h)) SE hk ho,fun h0=>?_⟩
       have iH:aY ρ [A.rows sh (.const 0) code cap 2]=2:=mM (by decide) h0
       exact h.ba.ne SE aB (by rw[hk];exact Nat.le_refl 2) (by simp only[iH];decide) fun e=>hu (by simp[e])
     ·cases he
   ·cases he
  ·cases he
theorem Gn {c:List A} (h:bI c=false):∃sh off code cap k,c=[.rows sh off code cap k]:=by
 unfold bI at h
 split at h
 ·exact⟨_,_,_,_,_,rfl⟩
 ·cases h
theorem Lx {n:Nat} {ρ:Env} {m:Nat->Nat} {tm:List V} {a:Act} {w:World}:∀{us:List Nat} {bl:List aq},R w0 n ρ m tm bl a w->R w0 n ρ m tm (kD us bl) a w/\(kD us bl).length=bl.length/\∀(i:Nat) (p:aq),(kD us bl)[i]?=some p->(bl[i]?=some p/\(i∈us->bI p.1=true∨aY ρ p.1=0))∨aY ρ p.1=0
 |[],bl,h=>⟨h,rfl,fun i p hp=> .inl ⟨hp,fun h=>by simp at h⟩⟩
 |b::r,bl,h=>by
  unfold kD
  split
  ·rename_i sh off code cap k t aB
   obtain⟨g1,g2,g3⟩:=Lx (us:=r) (h.kill aB)
   refine⟨g1,by rw[g2,hE],fun i p hp=>?_⟩
   rcases g3 i p hp with⟨g4,g5⟩|g4
   ·by_cases gJ:i=b
    ·subst gJ
     rw[gZ,List.getElem?_set_self (List.getElem?_eq_some_iff.1 aB).1]at g4
     cases g4
     exact .inr (by simp[aY])
    ·rw[gZ,List.getElem?_set_ne (fun e=>gJ e.symm)]at g4
     exact .inl ⟨g4,fun hi=>g5 (by simpa [gJ]using hi)⟩
   ·exact .inr g4
  ·rename_i hno
   obtain⟨g1,g2,g3⟩:=Lx (us:=r) h
   refine⟨g1,g2,fun i p hp=>?_⟩
   rcases g3 i p hp with⟨g4,g5⟩|g4
   ·refine .inl ⟨g4,fun hi=>?_⟩
    rcases List.mem_cons.1 hi with rfl|hi
    ·cases ho:bI p.1 with
     |true=>exact .inl rfl
     |false=>
      exfalso
      obtain⟨c,t⟩:=p
      obtain⟨sh,off,code,cap,k,rfl⟩:=Gn ho
      exact hno _ _ _ _ _ _ g4
    ·exact g5 hi
   ·exact .inr g4
theorem SQ {N:Nat} {bC:Env} {m:Nat->Nat} {bl:List aq} {a:Act} {w:World}:∀{l:List Nat} {zs:List Int} {v:Nat} {tm:List V},R w0 N bC m tm bl a w->yv a.tmps l zs->(∀j,j<zs.length->bC (v+j)=zs.getD j 0)->v+zs.length<=N->R w0 N bC m (qK l v tm) bl a w
 |[],[],v,tm,h,_,_,_=>h
 |s::r,z::zs,v,tm,h,hb,hv,hN=>by
  unfold qK
  have h0:=hv 0 (by simp)
  simp only[Nat.add_zero,List.getD_cons_zero]at h0
  simp only[List.length_cons]at hN
  refine SQ (l:=r) (zs:=zs) ⟨du.set h.t ?_ fun x hx=>?_,h.d,h.b,h.ba⟩ hb.2.2 (fun j hj=>by
   have:=hv (j+1) (by simpa using hj)
   rw[show v+1+j=v+(j+1) by omega];simpa using this) (by omega)
  ·exact⟨I.ec (by omega),I.cA _ _⟩
  ·rw[hb.2.1 x hx]
   simp[V.rel,W.den,A.den,aT.den,I.cg,I.aK,h0]
 |[],_::_,_,_,_,h,_,_=>h.elim
 |_::_,[],_,_,_,h,_,_=>h.elim
theorem SP {N:Nat} {bC:Env} {a:Act} {w:World}:∀{l:List (Nat×List aw×TypeId)} {zs:List Int} {v:Nat} {tm:List V} {bl:List aq} {m:Nat->Nat} {F:Nat->Prop},R w0 N bC m tm bl a w->vY w0 w a.tmps F l zs->(∀g,F g->∀(i:Nat) (p:aq),bl[i]?=some p->m i=g->aY bC p.1=0)->
 (∀j,j<zs.length->bC (v+j)=zs.getD j 0)->v+zs.length<=N->∃ea,(∀b,b<bl.length->ea b=m b)/\bl.length<=(oO l v tm bl).2.length/\R w0 N bC ea (oO l v tm bl).1 (oO l v tm bl).2 a w
 |[],[],v,tm,bl,m,F,h,_,_,_,_=>⟨m,fun _ _=>rfl,Nat.le_refl _,h⟩
 |(s,sh,e)::r,code::len::cap::zs,v,tm,bl,m,F,h,hf,hF,hv,hN=>by
  obtain⟨g,f1,f2,f3,f4,f5,f6,f7⟩:=hf
  have v0:=hv 0 (by simp)
  have v1:=hv 1 (by simp)
  have v2:=hv 2 (by simp)
  simp only[List.getD_cons_zero,List.getD_cons_succ,Nat.add_zero]at v0 v1 v2
  simp only[List.length_cons]at hN
  have hc:(-1:Int)<=cap/\cap<=9223372036854775807:=⟨f2.2.1.1,by have:=f2.2.1.2;omega⟩
  have hA:(A.rows sh (.const 0) (.var v) (.var (v+2)) 2).ok N bl.length bC:=⟨⟨I.cA _ _,I.ec (by omega),I.ec (by omega)⟩,by rw[I.cg,v0];exact f3,by rw[I.cg,v2];exact hc⟩
  have gf:=h.ba.push (x:=([.rows sh (.const 0) (.var v) (.var (v+2)) 2],(e,false))) (g:=g) h.b (fun y hy=>by simp at hy;subst hy;exact hA) (fun ho=>by cases ho) (fun dR fK code' fE lj he=>by
   cases he
   intro _
   simp only[I.cg,v0,v2,I.aK]
   refine⟨f4,fun h0=>?_⟩
   obtain⟨cells,k1,k2,k3,k4,k5⟩:=f5 h0
   exact⟨k5.elim .inl fun h=> .inr (.inr h),cells,e,(0,0),k1,⟨Int.le_refl _,k2⟩,fun _=>⟨rfl,by trivial,.C6,k3,k4,k5⟩⟩) (fun i p hi he=>by
   rcases Int.lt_or_le cap 0 with h0|h0
   ·refine .inr (.inr ?_)
    simp only[aY,I.cg,v2]
    rw[if_pos h0]
   ·exact .inr (.inl (hF g (f6 h0) i p hi he)))
  have cI:=di.alloc N bC m bl ([A.rows sh (.const 0) (.var v) (.var (v+2)) 2],(e,false)) g
  have hR:R w0 N bC (jc m bl.length g) (pe tm s (.w (.one (.sl bl.length sh.length (.const 0) (.const 0) (.var (v+1)) (.var (v+2)))))) (bl++[([.rows sh (.const 0) (.var v) (.var (v+2)) 2],(e,false))]) a w:=by
   refine⟨du.set (h.t.ext cI.ha cI.hn cI.hb cI.hm) ?_ fun x hx=>?_,h.d,h.b.alloc (fun y hy=>by simp at hy;subst hy;exact hA),gf⟩
   ·refine⟨by simp,⟨I.cA _ _,I.cA _ _,I.ec (by omega),I.ec (by omega)⟩,?_⟩
    simp only[I.aK,I.cg,v1,v2];exact f2
   ·rw[f1 x hx]
    simp only[V.rel,W.den,A.den,I.aK,I.cg,v1,v2,ki]
    split<;>simp
  obtain⟨ea,bo,bQ,cq⟩:=SP (l:=r) (zs:=zs) (v:=v+3) hR f7 (fun hV sa i p hi he=>by
   rw[List.getElem?_append]at hi
   split at hi
   ·rename_i dk
    rw[jS dk]at he
    exact hF hV sa.1 i p hi he
   ·have dk:=(List.getElem?_eq_some_iff.1 hi).1
    have:i=bl.length:=by simp at dk;omega
    subst this
    simp only[Nat.sub_self,List.getElem?_cons_zero,Option.some.injEq]at hi
    subst hi
    rw[ki]at he
    rcases Int.lt_or_le cap 0 with h0|h0
    ·simp only[aY,I.cg,v2]
     rw[if_pos h0]
    ·exact absurd he.symm (sa.2 h0)) (fun j hj=>by
   have:=hv (j+3) (by simp only[List.length_cons];omega)
   rw[show v+3+j=v+(j+3) by omega];simpa using this) (by omega)
  simp only[List.length_append,List.length_cons,List.length_nil]at bo bQ
  exact⟨ea,fun b hb=>by rw[bo b (by omega)];exact jS hb,by unfold oO;omega,by unfold oO;exact cq⟩
 |[],_::_,_,_,_,_,_,_,h,_,_,_=>h.elim
 |_::_,[],_,_,_,_,_,_,h,_,_,_=>h.elim
 |_::_,[_],_,_,_,_,_,_,h,_,_,_=>h.elim
 |_::_,[_,_],_,_,_,_,_,_,h,_,_,_=>h.elim
theorem TK {tmps:Array Value}:∀{l:List Nat} {zs:List Int},yv tmps l zs->av (EA l) zs
 |[],[],_=>trivial
 |s::r,z::zs,h=>⟨h.1.1,h.1.2,TK h.2.2⟩
 |[],_::_,h=>h.elim
 |_::_,[],h=>h.elim
theorem TI {w:World} {tmps:Array Value}:∀{l:List (Nat×List aw×TypeId)} {zs:List Int} {F:Nat->Prop},vY w0 w tmps F l zs->av (wv l) zs
 |[],[],_,_=>trivial
 |(s,sh,e)::r,code::len::cap::zs,F,⟨g,f1,f2,f3,f4,f5,f6,f7⟩=>⟨f3.1,f3.2,f2.1.2.2.1,f2.1.2.2.2,f2.2.1.1,by have:=f2.2.1.2;omega,TI f7⟩
 |[],_::_,_,h=>h.elim
 |_::_,[],_,h=>h.elim
 |_::_,[_],_,h=>h.elim
 |_::_,[_,_],_,h=>h.elim
theorem Mem.MI {n:Nat} {ρ:Env} {m:Nat->Nat} {bl:List aq} {w:World} {b c:Nat} {C:List A} {sh:List aw} {code:I} {t:TypeId×Bool} (h:Mem w0 ρ m bl w) (aB:bl[b]?=some (C,t)) (ho:bI C=true) (ht:t.2=false)
 (iq:∀row∈aa (code.den ρ),bT sh row) (hfl:aV sh (aa (code.den ρ))=C.map (A.den ρ m)) (hlen:C.length=c*sh.length):Mem w0 ρ m (cP bl b ([.rows sh (.const 0) code (.const c) 2],t)) w:=by
 have kV:b<bl.length:=(List.getElem?_eq_some_iff.1 aB).1
 obtain⟨bo,bQ,r,hr,cq⟩:=h.dX b C t aB ho
 have hr:=hr ht
 subst hr
 rw[List.append_nil]at cq
 have cN:∀(i:Nat) (p:aq),(cP bl b ([.rows sh (.const 0) code (.const c) 2],t))[i]?=some p->(i=b/\p=([.rows sh (.const 0) code (.const c) 2],t))∨(i≠b/\bl[i]?=some p):=fun i p hi=>by
  rw[gZ,List.getElem?_set]at hi
  split at hi
  ·rename_i dT
   subst dT
   simp only[kV,if_true,Option.some.injEq]at hi
   exact .inl ⟨rfl,hi.symm⟩
  ·rename_i dT;exact .inr ⟨fun e=>dT e.symm,hi⟩
 have j9:aY ρ [.rows sh (.const 0) code (.const c) 2]=2:=mM (by decide) (by rw[I.aK];omega)
 refine⟨h.ext,h.fI,h.iu,h.gr,h.ek,h.fv,fun i gH t' hi fX=>?_,fun i dR fK code' fE lj t' hi=>?_,fun i j p q hi hj he=>?_⟩
 ·rcases cN i _ hi with⟨rfl,cE⟩|⟨hne,hi⟩
  ·cases cE;cases fX
  ·exact h.dX i gH t' hi fX
 ·rcases cN i _ hi with⟨rfl,cE⟩|⟨hne,hi⟩
  ·cases cE
   intro _
   simp only[I.aK]
   refine⟨fun h0=>by omega,fun _=>⟨bQ.elim .inl fun h=> .inr (.inr h),_,_,_,cq,⟨Int.le_refl _,iq,[],[],by simp[hfl],rfl⟩,fun _=>⟨rfl,by trivial,.C6,by simp[hlen],bo,bQ⟩⟩⟩
  ·exact h.rws i dR fK _ fE lj t' hi
 ·have hk:∀(i:Nat) (p:aq),(cP bl b ([.rows sh (.const 0) code (.const c) 2],t))[i]?=some p->∃p',bl[i]?=some p'/\aY ρ p'.1=aY ρ p.1:=fun i p hi=>by
   rcases cN i _ hi with⟨rfl,cE⟩|⟨hne,hi⟩
   ·exact⟨_,aB,by rw[cE];simp only[j9,iv ho]⟩
   ·exact⟨p,hi,rfl⟩
  obtain⟨p',hp,ep⟩:=hk i p hi
  obtain⟨q',hq,eq⟩:=hk j q hj
  rw[<-ep,<-eq]
  exact h.inj i j p' q' hp hq he
theorem MJ {m:Nat->Nat} {tm:List V} {a:Act} {w:World}:∀{l:List (Nat×List aw×Nat)} {bl:List aq} {n:Nat} {ρ:Env},R w0 n ρ m tm bl a w->ai S L (Dz l bl) n ρ fun ad n' aN=>R w0 n' ad m tm aN a w/\aN.length=bl.length
 |[],bl,n,ρ,h=>ai.pure ⟨h,rfl⟩
 |(b,sh,c)::r,bl,n,ρ,h=>by
  unfold Dz
  split
  ·rename_i C t aB
   cases ho:bI C with
   |false=>simp only[cond_false];exact MJ h
   |true=>
    simp only[cond_true]
    refine dr fun hc=>?_
    simp only[Bool.and_eq_true]at hc
    obtain⟨⟨⟨c1,c2⟩,c3⟩,c4⟩:=hc
    have c1:t.2=false:=by simpa using c1
    have c2:=Nat.eq_of_beq_eq_true c2
    have c4:=Nat.le_of_ble_eq_true c4
    have hok:∀x∈C,A.ok n bl.length ρ x:=h.b _ (List.mem_of_getElem? aB)
    have iW:=Bo (w:=sh.length) (k:=c) c2
    have bD:aa ((I.const 0).den ρ)=[]:=by rw[I.aK];exact fL
    have hz:(0:Int)<=b8:=Int.le_trans (fp []) (mX (l:=[]) (by simp) (by simp))
    refine(A6 (nb:=bl.length) (m:=m) c3 (rs:=lH sh.length c C) (c:= .const 0) (fun row hr x hx=>hok x (Bp row hr x hx)) (I.cA _ _) (by rw[I.aK];exact⟨Int.le_refl _,hz⟩) (by rw[bD];intro _ h;simp at h) (by rw[bD,iW.1];simp;omega)).bind fun ax n1 code eL dw ⟨p1,p2,da,p3,dx,dy,fc⟩=>?_
    rw[bD,List.nil_append]at p3
    have h1:=h.later eL dw
    have KE:C.map (A.den ax m)=C.map (A.den ρ m):=rp hok dw (fun _ _=>rfl)
    have gf:=h1.ba.MI (n:=n1) (c:=c) (sh:=sh) (code:=code) aB ho c1 (by rw[p3];exact dy) (by rw[p3,fc,iW.2,KE]) c2
    have gT:cn n1 (cP bl b ([.rows sh (.const 0) code (.const c) 2],t)).length ax (cP bl b ([.rows sh (.const 0) code (.const c) 2],t)):=h1.b.set (fun y hy=>by
     have hy:y= .rows sh (.const 0) code (.const c) 2:=by simpa using hy
     subst hy
     exact⟨⟨I.cA _ _,p1,I.cA _ _⟩,p2,by rw[I.aK];omega⟩)
    have hR:R w0 n1 ax m tm (cP bl b ([.rows sh (.const 0) code (.const c) 2],t)) a w:=⟨by rw[hE];exact h1.t,h1.d,gT,gf⟩
    exact(MJ (l:=r) hR).mono fun bC dM j3 _ _ ⟨g1,g2⟩=>⟨g1,by rw[g2,hE]⟩
  ·exact ai.fail
theorem natsM_holds {G:dt} {yt:Unit->Nat->T}:∀{k n:Nat} {ρ:Env} {offs:List Int},(Ge k n yt).holds S L G ρ->offs.length=k->(∀z∈offs,0<=z)->(yt () (n+k)).holds S L G (bq ρ n offs)
 |0,n,ρ,[],h,_,_=>h
 |k+1,n,ρ,z::zs,h,hl,h0=>by
  have h1:(Ge k (n+1) yt).holds S L G (cJ ρ n z):=h z (h0 z (by simp))
  have:=natsM_holds (offs:=zs) h1 (by simpa using hl) fun y hy=>h0 y (List.mem_cons_of_mem _ hy)
  rw[show n+(k+1)=n+1+k by omega];exact this
 |0,_,_,_::_,_,hl,_=>by simp at hl
 |_+1,_,_,[],_,hl,_=>by simp at hl
def ow (w0:de) (w:World) (tmps:Array Value) (F:Nat->Prop):List (Nat×List aw)->List Nat->List Int->List Int->Prop
 |[],[],[],[]=>True
 |(s,sh)::r,g::gs,o::os,code::len::cap::zs=>(∀x,tmps[s]?=some x->x=if cap<0 then .slice none 0 0 else .slice (some ⟨g,o.toNat,none⟩) len.toNat cap.toNat)/\yb o 0 len cap/\(0<=code/\code<=b8)/\(cap<0->aa code=[])/\
    (0<=cap->(w0.ex g∨w0.ro g∨w0.r.heap.size<=g)/\∃(cells:Array Value) (t:TypeId) (fz:Nat×Nat),w.heap[g]?=some (.cells cells t fz)/\j1 cells o.toNat sh (aa code))/\
    (0<=cap->F g)/\ow w0 w tmps F r gs os zs
 |_,_,_,_=>False
theorem ow.len {w:World} {tmps:Array Value} {F:Nat->Prop}:∀{l:List (Nat×List aw)} {gs:List Nat} {os zs:List Int},ow w0 w tmps F l gs os zs->os.length=l.length/\∀z∈os,0<=z
 |[],[],[],[],_=>⟨rfl,fun _ h=>by simp at h⟩
 |(s,sh)::r,g::gs,o::os,code::len::cap::zs,h=>by
  obtain⟨_,h2,_,_,_,_,h7⟩:=h
  obtain⟨i1,i2⟩:=ow.len h7
  exact⟨by simp[i1],fun z hz=>by
   rcases List.mem_cons.1 hz with rfl|hz
   ·exact h2.1.1
   ·exact i2 z hz⟩
 |_::_,[],_,_,h=>h.elim
 |_::_,_::_,[],_,h=>h.elim
 |_::_,_::_,_::_,[],h=>h.elim
 |_::_,_::_,_::_,[_],h=>h.elim
 |_::_,_::_,_::_,[_,_],h=>h.elim
 |[],_::_,_,_,h=>h.elim
 |[],[],_::_,_,h=>h.elim
 |[],[],[],_::_,h=>h.elim
theorem TL {w:World} {tmps:Array Value} {F:Nat->Prop}:∀{l:List (Nat×List aw)} {gs:List Nat} {os zs:List Int},ow w0 w tmps F l gs os zs->av (xV l) zs
 |[],[],[],[],_=>trivial
 |(s,sh)::r,g::gs,o::os,code::len::cap::zs,⟨f1,f2,f3,f4,f5,f6,f7⟩=>⟨f3.1,f3.2,f2.1.2.2.1,f2.1.2.2.2,f2.2.1.1,by have:=f2.2.1.2;omega,TL f7⟩
 |_::_,[],_,_,h=>h.elim
 |_::_,_::_,[],_,h=>h.elim
 |_::_,_::_,_::_,[],h=>h.elim
 |_::_,_::_,_::_,[_],h=>h.elim
 |_::_,_::_,_::_,[_,_],h=>h.elim
 |[],_::_,_,_,h=>h.elim
 |[],[],_::_,_,h=>h.elim
 |[],[],[],_::_,h=>h.elim
theorem GO {n:Nat} {ρ:Env} {m:Nat->Nat} {tm:List V} {bl:List aq} {a:Act} {w:World} (h:R w0 n ρ m tm bl a w):∀{l:List (Nat×List aw)} {ls:List I},xW l tm bl=some ls->
 (∀x∈ls,I.aX n x)/\ls.length=(xV l).length/\∃gs os,ow w0 w a.tmps (fun g=>∃(i:Nat) (p:aq),bl[i]?=some p/\m i=g/\aY ρ p.1=1) l gs os (ls.map (·.den ρ))
 |[],ls,he=>by
  simp only[xW,Option.some.injEq]at he
  subst he
  exact⟨fun _ h=>by simp at h,rfl,[],[],trivial⟩
 |(s,sh)::r,ls,he=>by
  unfold xW at he
  split at he
  ·rename_i hs
   split at he
   ·rename_i l1 hr
    simp only[Option.some.injEq]at he
    subst he
    obtain⟨g1,g2,gs,os,g3⟩:=GO h hr
    refine⟨fun x hx=>?_,by simp[xV]at g2⊢;omega,0::gs,0::os,fun x hx=>?_,?_,?_,?_,?_,?_,g3⟩
    ·simp only[List.mem_cons]at hx
     rcases hx with rfl|rfl|rfl|hx
     ·exact I.cA _ _
     ·exact I.cA _ _
     ·exact I.cA _ _
     ·exact g1 x hx
    ·obtain⟨_,y,h2,h3⟩:=h.t.2 s _ hs
     rw[h2]at hx;cases hx
     have kT:(I.const (-1)).den ρ<0:=by rw[I.aK];decide
     simp only[kT,if_true]
     exact h3
    ·simp only[I.aK];exact⟨⟨by omega,by omega,by omega,by omega⟩,⟨by omega,by omega⟩,fun _=>rfl,fun h=>by omega⟩
    ·simp only[I.aK];exact⟨Int.le_refl _,Int.le_trans (fp []) (mX (l:=[]) (by simp) (by simp))⟩
    ·intro _;simp only[I.aK];exact fL
    ·simp only[I.aK];intro h;omega
    ·simp only[I.aK];intro h;omega
   ·cases he
  ·rename_i b aL o ro len cap hs
   split at he
   ·rename_i dR off code df kind t aB
    cases hc:(lV sh dR&&Nat.beq kind 1&&I.beq o off&&I.beq ro (.const 0)&&I.beq cap df&&Nat.beq aL sh.length)with
    |false=>rw[hc]at he;cases he
    |true=>
     rw[hc]at he
     simp only[cond_true]at he
     split at he
     ·rename_i l1 hr
      simp only[Option.some.injEq]at he
      subst he
      simp only[Bool.and_eq_true]at hc
      obtain⟨⟨⟨⟨⟨c1,c2⟩,c3⟩,c4⟩,c5⟩,fU⟩:=hc
      have c1:=uk c1;have c2:=Nat.eq_of_beq_eq_true c2;have c3:=I.beq_eq c3;have c4:=I.beq_eq c4;have c5:=I.beq_eq c5;have fU:=Nat.eq_of_beq_eq_true fU
      subst c1;subst c2;subst c3;subst c4;subst c5;subst fU
      obtain⟨g1,g2,gs,os,g3⟩:=GO h hr
      obtain⟨hok,y,h2,h3⟩:=h.t.2 s _ hs
      have hok:(A.sl b sh.length o (.const 0) len cap).ok n bl.length ρ:=hok
      obtain⟨x1,⟨x2,fg,eX,e5⟩,fh⟩:=hok
      simp only[I.aK]at fh
      have ej:(A.rows sh o code cap 1).ok n bl.length ρ:=h.b _ (List.mem_of_getElem? aB) _ (by simp)
      obtain⟨⟨r1,r2,cX⟩,gM,aj⟩:=ej
      have ir:=h.ba.rws b sh o code cap 1 t aB (by decide)
      refine⟨fun x hx=>?_,by simp[xV]at g2⊢;omega,m b::gs,o.den ρ::os,fun x hx=>?_,fh,gM,ir.1,fun h0=>?_,fun h0=>?_,g3⟩
      ·simp only[List.mem_cons]at hx
       rcases hx with rfl|rfl|rfl|hx
       ·exact r2
       ·exact eX
       ·exact e5
       ·exact g1 x hx
      ·have Lc:y=x:=Option.some.inj (h2.symm.trans hx)
       subst Lc
       have h3:y=(A.sl b sh.length o (.const 0) len cap).den ρ m:=h3
       rw[h3]
       simp only[A.den,I.aK]
       split<;>simp
      ·obtain⟨kg,cells,hH,fz,k1,⟨k2,k3⟩,k4⟩:=ir.2 h0
       exact⟨kg,cells,hH,fz,k1,k3⟩
      ·exact⟨b,_,aB,rfl,mM (by decide) h0⟩
     ·cases he
   ·cases he
  ·cases he
theorem ow.mono {w:World} {tmps:Array Value} {F uC:Nat->Prop} (hF:∀g,F g->uC g):∀{l:List (Nat×List aw)} {gs:List Nat} {os zs:List Int},ow w0 w tmps F l gs os zs->ow w0 w tmps uC l gs os zs
 |[],[],[],[],_=>trivial
 |(s,sh)::r,g::gs,o::os,code::len::cap::zs,⟨f1,f2,f3,f4,f5,f6,f7⟩=>⟨f1,f2,f3,f4,f5,fun h=>hF g (f6 h),ow.mono hF f7⟩
 |_::_,[],_,_,h=>h.elim
 |_::_,_::_,[],_,h=>h.elim
 |_::_,_::_,_::_,[],h=>h.elim
 |_::_,_::_,_::_,[_],h=>h.elim
 |_::_,_::_,_::_,[_,_],h=>h.elim
 |[],_::_,_,_,h=>h.elim
 |[],[],_::_,_,h=>h.elim
 |[],[],[],_::_,h=>h.elim
theorem H0 {lo:Nat} {tm:List V} {bl:List aq}:∀{l:List (Nat×List aw×TypeId)} {used:List Nat} {ls:List I} {u:List Nat},rN lo l tm bl used=some (ls,u)->∀b∈u,b∈used∨∃sh off code cap t,bl[b]?=some ([.rows sh off code cap 2],t)
 |[],used,ls,u,he=>by
  simp only[rN,Option.some.injEq,Prod.mk.injEq]at he
  obtain⟨rfl,rfl⟩:=he
  exact fun b hb=> .inl hb
 |(s,sh,e)::r,used,ls,u,he=>by
  unfold rN at he
  split at he
  ·split at he
   ·rename_i l1 nz hr
    simp only[Option.some.injEq,Prod.mk.injEq]at he
    obtain⟨rfl,rfl⟩:=he
    exact H0 hr
   ·cases he
  ·rename_i b aL o ro len cap hs
   split at he
   ·rename_i dR off code df kind t aB
    cases hc:(lV sh dR&&Nat.beq kind 2&&I.beq o (.const 0)&&I.beq off (.const 0)&&I.beq ro (.const 0)&&I.beq cap df&&Nat.beq t.1 e&&Nat.beq aL sh.length&&Nat.ble lo b&& !(used.any (Nat.beq b)))with
    |false=>rw[hc]at he;cases he
    |true=>
     rw[hc]at he
     simp only[cond_true]at he
     split at he
     ·rename_i l1 nz hr
      simp only[Option.some.injEq,Prod.mk.injEq]at he
      obtain⟨rfl,rfl⟩:=he
      simp only[Bool.and_eq_true]at hc
      obtain⟨⟨⟨⟨⟨⟨⟨⟨⟨c1,c2⟩,c3⟩,c4⟩,c5⟩,fU⟩,l6⟩,lG⟩,oE⟩,qs⟩:=hc
      have c2:=Nat.eq_of_beq_eq_true c2
      subst c2
      intro b6 gS
      rcases H0 hr b6 gS with h5|h5
      ·rcases List.mem_cons.1 h5 with rfl|h5
       ·exact .inr ⟨_,_,_,_,_,aB⟩
       ·exact .inl h5
      ·exact .inr h5
     ·cases he
   ·cases he
  ·cases he
theorem Lw {i:Nat} {p:aq}:∀{us:List Nat} {bl:List aq},bl[i]?=some p->i∉us->(kD us bl)[i]?=some p
 |[],bl,h,_=>h
 |b::r,bl,h,hi=>by
  unfold kD
  split
  ·refine Lw ?_ fun h=>hi (List.mem_cons_of_mem _ h)
   rw[gZ,List.getElem?_set_ne (fun e=>hi (by simp[e]))];exact h
  ·exact Lw h fun h=>hi (List.mem_cons_of_mem _ h)
theorem SR {N:Nat} {bC:Env} {a:Act} {w:World} {F:Nat->Prop}:∀{l:List (Nat×List aw)} {gs:List Nat} {os zs:List Int} {v u:Nat} {tm:List V} {bl:List aq} {m:Nat->Nat},R w0 N bC m tm bl a w->ow w0 w a.tmps F l gs os zs->(∀g,F g->∀(i:Nat) (p:aq),bl[i]?=some p->m i=g->aY bC p.1<=1)->
 (∀j,j<zs.length->bC (v+j)=zs.getD j 0)->(∀j,j<os.length->bC (u+j)=os.getD j 0)->v+zs.length<=N->u+os.length<=N->
 ∃ea,(∀b,b<bl.length->ea b=m b)/\bl.length<=(headD l v u tm bl).2.length/\R w0 N bC ea (headD l v u tm bl).1 (headD l v u tm bl).2 a w/\∀(i:Nat) (p:aq),(headD l v u tm bl).2[i]?=some p->(i<bl.length/\bl[i]?=some p)∨(aY bC p.1≠0->F (ea i))
 |[],[],[],[],v,u,tm,bl,m,h,_,_,_,_,_,_=>⟨m,fun _ _=>rfl,Nat.le_refl _,h,fun i p hp=> .inl ⟨(List.getElem?_eq_some_iff.1 hp).1,hp⟩⟩
 |(s,sh)::r,g::gs,o::os,code::len::cap::zs,v,u,tm,bl,m,h,hf,hF,hv,hu,hN,JR=>by
  obtain⟨f1,f2,f3,f4,f5,f6,f7⟩:=hf
  have v0:=hv 0 (by simp)
  have v1:=hv 1 (by simp)
  have v2:=hv 2 (by simp)
  have u0:=hu 0 (by simp)
  simp only[List.getD_cons_zero,List.getD_cons_succ,Nat.add_zero]at v0 v1 v2 u0
  simp only[List.length_cons]at hN JR
  have hc:(-1:Int)<=cap/\cap<=9223372036854775807:=⟨f2.2.1.1,by have:=f2.2.1.2;omega⟩
  have hA:(A.rows sh (.var u) (.var v) (.var (v+2)) 1).ok N bl.length bC:=⟨⟨I.ec (by omega),I.ec (by omega),I.ec (by omega)⟩,by rw[I.cg,v0];exact f3,by rw[I.cg,v2];exact hc⟩
  have S5:aY bC [A.rows sh (.var u) (.var v) (.var (v+2)) 1]<=1:=by
   simp only[aY]
   split<;>omega
  have gf:=h.ba.push (x:=([.rows sh (.var u) (.var v) (.var (v+2)) 1],(0,false))) (g:=g) h.b (fun y hy=>by simp at hy;subst hy;exact hA) (fun ho=>by cases ho) (fun dR fK code' fE lj he=>by
   cases he
   intro _
   simp only[I.cg,v0,v2,u0]
   refine⟨f4,fun h0=>?_⟩
   obtain⟨kc,cells,t,fz,k1,k2⟩:=f5 h0
   exact⟨kc,cells,t,fz,k1,⟨f2.1.1,k2⟩,fun bX=>by omega⟩) (fun i p hi he=>by
   rcases Int.lt_or_le cap 0 with h0|h0
   ·refine .inr (.inr ?_)
    simp only[aY,I.cg,v2]
    rw[if_pos h0]
   ·exact .inl ⟨hF g (f6 h0) i p hi he,S5⟩)
  have cI:=di.alloc N bC m bl ([A.rows sh (.var u) (.var v) (.var (v+2)) 1],(0,false)) g
  have hR:R w0 N bC (jc m bl.length g) (pe tm s (.w (.one (.sl bl.length sh.length (.var u) (.const 0) (.var (v+1)) (.var (v+2)))))) (bl++[([.rows sh (.var u) (.var v) (.var (v+2)) 1],(0,false))]) a w:=by
   refine⟨du.set (h.t.ext cI.ha cI.hn cI.hb cI.hm) ?_ fun x hx=>?_,h.d,h.b.alloc (fun y hy=>by simp at hy;subst hy;exact hA),gf⟩
   ·refine⟨by simp,⟨I.ec (by omega),I.cA _ _,I.ec (by omega),I.ec (by omega)⟩,?_⟩
    simp only[I.aK,I.cg,v1,v2,u0];exact f2
   ·rw[f1 x hx]
    simp only[V.rel,W.den,A.den,I.aK,I.cg,v1,v2,u0,ki]
    split<;>simp
  obtain⟨ea,bo,bQ,cq,dq⟩:=SR (F:=F) (l:=r) (gs:=gs) (os:=os) (zs:=zs) (v:=v+3) (u:=u+1) hR f7 (fun hV sa i p hi he=>by
   rw[List.getElem?_append]at hi
   split at hi
   ·rename_i dk
    rw[jS dk]at he
    exact hF hV sa i p hi he
   ·have dk:=(List.getElem?_eq_some_iff.1 hi).1
    have:i=bl.length:=by simp at dk;omega
    subst this
    simp only[Nat.sub_self,List.getElem?_cons_zero,Option.some.injEq]at hi
    subst hi
    exact S5) (fun j hj=>by
   have:=hv (j+3) (by simp only[List.length_cons];omega)
   rw[show v+3+j=v+(j+3) by omega];simpa using this) (fun j hj=>by
   have:=hu (j+1) (by simp only[List.length_cons];omega)
   rw[show u+1+j=u+(j+1) by omega];simpa using this) (by omega) (by omega)
  simp only[List.length_append,List.length_cons,List.length_nil]at bo bQ
  refine⟨ea,fun b hb=>by rw[bo b (by omega)];exact jS hb,by unfold headD;omega,by unfold headD;exact cq,fun i p hp=>?_⟩
  unfold headD at hp
  rcases dq i p hp with⟨jL,mj⟩|jL
  ·simp only[List.length_append,List.length_cons,List.length_nil]at jL
   rw[List.getElem?_append]at mj
   split at mj
   ·rename_i dk;exact .inl ⟨dk,mj⟩
   ·rename_i dk
    have hi:i=bl.length:=by omega
    subst hi
    simp only[Nat.sub_self,List.getElem?_cons_zero,Option.some.injEq]at mj
    subst mj
    refine .inr fun h0=>?_
    rw[bo bl.length (by omega),ki]
    refine f6 ?_
    rcases Int.lt_or_le cap 0 with h1|h1
    ·refine absurd ?_ h0
     simp only[aY,I.cg,v2]
     rw[if_pos h1]
    ·exact h1
  ·exact .inr jL
 |_::_,[],_,_,_,_,_,_,_,_,h,_,_,_,_,_=>h.elim
 |_::_,_::_,[],_,_,_,_,_,_,_,h,_,_,_,_,_=>h.elim
 |_::_,_::_,_::_,[],_,_,_,_,_,_,h,_,_,_,_,_=>h.elim
 |_::_,_::_,_::_,[_],_,_,_,_,_,_,h,_,_,_,_,_=>h.elim
 |_::_,_::_,_::_,[_,_],_,_,_,_,_,_,h,_,_,_,_,_=>h.elim
 |[],_::_,_,_,_,_,_,_,_,_,h,_,_,_,_,_=>h.elim
 |[],[],_::_,_,_,_,_,_,_,_,h,_,_,_,_,_=>h.elim
 |[],[],[],_::_,_,_,_,_,_,_,h,_,_,_,_,_=>h.elim
theorem SU {li:dj} {n:Nat} {bK ad:Env} {m0 m':Nat->Nat} {tm bS jR uq:List V} {bl aN dB l5:List aq} {l1 l2 v1 v2 lb la iJ:List I} {b1 b2 yF qo:List (Int×Int)} {n':Nat} {a:Act} {w:World} {NA ND NN:Nat} {gs:List Nat} {os:List Int}
 (hlen:bl.length<=aN.length)
 (ha:agree n bK ad) (hm:∀b,b<bl.length->m' b=m0 b) (ht:∀v∈tm,V.ok n bl.length bK v) (nQ:cn n bl.length bK bl)
 (h:R w0 n' ad m' bS aN a w) (e1:hs li.ev li.ints 0 (n+1) tm=some (jR,l1,b1)) (e2:hb li.cells 0 (n+1+l1.length) bl=some (dB,l2,b2))
 (bu:hs li.ev li.ints 0 (n+1) bS=some (uq,v1,yF)) (eK:hb li.cells 0 (n+1+v1.length) (aN.take bl.length)=some (l5,v2,qo))
 (f1:kr jR uq=true) (f2:kq dB l5=true) (u7:yv a.tmps li.nJ (lb.map (·.den ad))) (Ff:vY w0 w a.tmps (fun g=>(∀(i:Nat) (p:aq),i<bl.length->aN[i]?=some p->m' i=g->aY ad p.1=0)/\¬∃(i:Nat) (p:aq),aN[i]?=some p/\m' i=g/\aY ad p.1=1) li.mZ (la.map (·.den ad)))
 (zA:ow w0 w a.tmps (fun g=>∃(i:Nat) (p:aq),aN[i]?=some p/\m' i=g/\aY ad p.1=1) li.kh gs os (iJ.map (·.den ad)))
 (So:NA=n+1+l1.length+l2.length+lb.length) (Sp:ND=n+1+l1.length+l2.length+(lb++la).length) (Sq:NN=n+1+l1.length+l2.length+(lb++la++iJ).length):
 av (b1++b2++(EA li.nJ++wv li.mZ++xV li.kh)) ((v1++v2++(lb++la++iJ)).map (·.den ad))/\∃ea,(∀b,b<bl.length->ea b=m0 b)/\bl.length<=(oO li.mZ NA (headD li.kh ND NN (qK li.nJ (n+1+l1.length+l2.length) jR) dB).1 (headD li.kh ND NN (qK li.nJ (n+1+l1.length+l2.length) jR) dB).2).2.length/\
  R w0 (NN+li.kh.length) (bq (bq bK (n+1) ((v1++v2++(lb++la++iJ)).map (·.den ad))) NN os) ea (oO li.mZ NA (headD li.kh ND NN (qK li.nJ (n+1+l1.length+l2.length) jR) dB).1 (headD li.kh ND NN (qK li.nJ (n+1+l1.length+l2.length) jR) dB).2).1 (oO li.mZ NA (headD li.kh ND NN (qK li.nJ (n+1+l1.length+l2.length) jR) dB).1 (headD li.kh ND NN (qK li.nJ (n+1+l1.length+l2.length) jR) dB).2).2 a w:=by
 obtain⟨ahq,i1,i2,i3,i4⟩:=SS (ext:=lb++la++iJ) hlen ha hm ht nQ h e1 e2 bu eK f1 f2
 obtain⟨agO,ayZ⟩:=zA.len
 subst So;subst Sp;subst Sq
 have vd:∀j,j<(lb++la++iJ).length->bq bK (n+1) ((v1++v2++(lb++la++iJ)).map (·.den ad)) (n+1+l1.length+l2.length+j)=((lb++la++iJ).map (·.den ad)).getD j 0:=fun j hj=>by
  rw[show n+1+l1.length+l2.length+j=n+1+(v1.length+v2.length+j) by omega,Au _ _ _ _ (by simp at hj⊢;omega)]
  rw[List.map_append (l₁:=v1++v2),List.getD_eq_getElem?_getD,List.getElem?_append_right (by simp),List.getD_eq_getElem?_getD]
  congr 2
  simp
 generalize TB:bq bK (n+1) ((v1++v2++(lb++la++iJ)).map (·.den ad))=bC at*
 have qD:agree (n+1+l1.length+l2.length+(lb++la++iJ).length) bC (bq bC (n+1+l1.length+l2.length+(lb++la++iJ).length) os):=agree.bq os _ bC
 have ahD:=i2.later (Nat.le_add_right _ li.kh.length) qD
 have Kh:∀j,j<(lb++la++iJ).length->bq bC (n+1+l1.length+l2.length+(lb++la++iJ).length) os (n+1+l1.length+l2.length+j)=((lb++la++iJ).map (·.den ad)).getD j 0:=fun j hj=>by
  rw[<-vd j hj]
  exact(qD _ (by omega))
 have Ft:∀(i:Nat) (p:aq),dB[i]?=some p->aY (bq bC (n+1+l1.length+l2.length+(lb++la++iJ).length) os) p.1=aY bC p.1:=fun i p hi=>o7 (i2.b p (List.mem_of_getElem? hi)) qD
 generalize ahC:bq bC (n+1+l1.length+l2.length+(lb++la++iJ).length) os=fr at*
 have hB:=SQ (v:=n+1+l1.length+l2.length) ahD u7 (fun j hj=>by
  simp only[List.length_map]at hj
  rw[Kh j (by simp;omega),List.append_assoc,List.map_append,List.getD_eq_getElem?_getD,List.getElem?_append_left (by simpa using hj),List.getD_eq_getElem?_getD]) (by simp;omega)
 obtain⟨iw,p1,p2,p3,dx⟩:=SR (v:=n+1+l1.length+l2.length+(lb++la).length) (u:=n+1+l1.length+l2.length+(lb++la++iJ).length) hB zA (fun g hg i p hi he=>by
  obtain⟨g1,p',g2,g3⟩:=i4 i p hi
  rw[Ft i p hi,g3]
  obtain⟨j,q,bo,bQ,cq⟩:=hg
  rcases h.ba.inj i j p' q g2 bo (by rw[bQ,<-he,hm i g1])with bX|bX|bX|bX
  ·subst bX
   rw[g2]at bo;cases bo
   omega
  ·exact bX.1
  ·omega
  ·omega) (fun j hj=>by
  simp only[List.length_map]at hj
  rw[show n+1+l1.length+l2.length+(lb++la).length+j=n+1+l1.length+l2.length+((lb++la).length+j) by omega,Kh _ (by simp at hj⊢;omega),List.map_append (l₁:=lb++la),List.getD_eq_getElem?_getD,List.getElem?_append_right (by simp),List.getD_eq_getElem?_getD]
  congr 2
  simp) (fun j hj=>by rw[<-ahC,Au _ _ _ _ hj]) (by simp only[List.length_map,List.length_append];omega) (by rw[agO];exact Nat.le_refl _)
 obtain⟨ea,bo,bQ,cq⟩:=SP (v:=n+1+l1.length+l2.length+lb.length) p3 Ff (fun g hg i p hi he=>by
  rcases dx i p hi with⟨g0,g1⟩|g1
  ·obtain⟨jn,p',g2,g3⟩:=i4 i p g1
   rw[Ft i p g1,g3]
   exact hg.1 i p' jn g2 (by rw[hm i jn,<-p1 i g0];exact he)
  ·by_cases h0:aY fr p.1=0
   ·exact h0
   ·have:=g1 h0
    rw[he]at this
    exact absurd this hg.2) (fun j hj=>by
  simp only[List.length_map]at hj
  rw[show n+1+l1.length+l2.length+lb.length+j=n+1+l1.length+l2.length+(lb.length+j) by omega,Kh _ (by simp;omega),List.append_assoc,List.map_append,List.getD_eq_getElem?_getD,List.getElem?_append_right (by simp),List.map_append,List.getElem?_append_left (by simp;omega),List.getD_eq_getElem?_getD]
  congr 2
  simp) (by simp;omega)
 refine⟨?_,ea,fun b hb=>by rw[bo b (by rw[i3]at p2;omega),p1 b (by rw[i3];exact hb)],by rw[i3]at p2;omega,cq⟩
 rw[List.map_append,List.map_append (l₁:=lb++la),List.map_append (l₁:=lb)]
 exact nV i1 (nV (nV (TK u7) (TI Ff)) (TL zA))
theorem Ix {a b c:Nat} (h:a=c) (h':b=c):b=a:=h'.trans h.symm
theorem ai4 {li:dj} {c:Code} {e:Nat->List V->List aq->po->T} (hd:rd=none∨kf c=true) (he:Hu rd S L w0 P c e) {Q:Exit->Act->World->Prop} {n:Nat} {ρ:Env} {m:Nat->Nat} {tm:List V} {bl:List aq} {a:Act} {w:World} {G:dt} {k:po}
 (h:R w0 n ρ m tm bl a w) (hh:(LP li e n tm bl k).holds S L G ρ) (hk:yw S L w0 k n bl.length ρ m G Q):(Code.loop c).wpIn (ot rd) 0 P Q a w:=by
 unfold LP at hh
 obtain⟨Xi,Vf,Qw,Tc,Sz,⟨hz1,hz2⟩,hh⟩:=MJ (S:=S) (L:=L) h G _ hh
 have hk:=hk.later (⟨Tc,Sz,by rw[hz2];exact Nat.le_refl _,fun _ _=>rfl⟩:di n bl.length ρ m Vf Qw.length Xi m) (dG.refl _ G)
 clear h
 have h:=hz1
 clear hz1 hz2 Tc Sz
 revert h hk hh
 generalize Vf=n
 generalize Xi=ρ
 generalize Qw=bl
 intro hh hk h
 obtain⟨bK,n0,tm,ma,qC,zC,hh⟩:=BF (S:=S) (L:=L) h.t G _ hh
 have BP:=h.later ma qC
 have h:R w0 n0 bK m tm bl a w:=⟨zC,BP.d,BP.b,BP.ba⟩
 have hk:=hk.later (⟨ma,qC,Nat.le_refl _,fun _ _=>rfl⟩:di n bl.length ρ m n0 bl.length bK m) (dG.refl _ G)
 obtain⟨ax,n1,lb,eL,dw,⟨s1,s2,ew⟩,hh⟩:=Iy (S:=S) (L:=L) h.t G _ hh
 have h1:=h.later eL dw
 have hk:=hk.later (⟨eL,dw,Nat.le_refl _,fun _ _=>rfl⟩:di n0 bl.length bK m n1 bl.length ax m) (dG.refl _ G)
 split at hh
 rotate_left
 ·exact hh.elim
 rename_i jR l1 b1 la us iJ e1 Rr acD
 obtain⟨a1,a2,_,_,a5⟩:=Ee h1 Rr
 obtain⟨k1,k2,k3⟩:=Lx (us:=us) h1
 obtain⟨r1,r2,gs,os,cX⟩:=GO h1 acD
 cases e2:hb li.cells 0 (n1+1+l1.length) (kD us bl)with
 |none=>rw[e2]at hh;exact hh.elim
 |some bQ=>
  obtain⟨dB,l2,b2⟩:=bQ
  rw[e2]at hh
  simp only at hh
  cases hf:(kr jR jR&&kq dB dB)with
  |false=>rw[hf]at hh;exact hh.elim
  |true=>
   rw[hf]at hh
   simp only[Bool.not_true,cond_false,T.holds]at hh
   simp only[Bool.and_eq_true]at hf
   obtain⟨gn,iR,JM,hB⟩:=hh
   have FI:∀v∈tm,V.ok n1 (kD us bl).length ax v:=fun v hv=>by
    obtain⟨i,hi⟩:=List.getElem?_of_mem hv
    exact(k1.t.2 i v hi).1
   have Bu:hb li.cells 0 (n1+1+l1.length) ((kD us bl).take (kD us bl).length)=some (dB,l2,b2):=by rw[List.take_length];exact e2
   have afv:vY w0 w a.tmps (fun g=>(∀(i:Nat) (p:aq),i<(kD us bl).length->(kD us bl)[i]?=some p->m i=g->aY ax p.1=0)/\¬∃(i:Nat) (p:aq),(kD us bl)[i]?=some p/\m i=g/\aY ax p.1=1) li.mZ (la.map (·.den ax)):=by
    refine a5 _ fun b p hb _ aB iH jF=>?_
    have key:∀(i:Nat) (q:aq),(kD us bl)[i]?=some q->m i=m b->aY ax q.1=0:=fun i q hi he=>by
     rcases k3 i q hi with⟨g1,g2⟩|g1
     ·by_cases gJ:i=b
      ·subst gJ
       rw[aB]at g1;cases g1
       rcases g2 hb with g2|g2
       ·rw[jF]at g2;cases g2
       ·exact g2
      ·rcases h1.ba.inj i b q p g1 aB he with g3|g3|g3|g3
       ·exact absurd g3 gJ
       ·omega
       ·exact g3
       ·omega
     ·exact g1
    exact⟨fun i q _ hi he=>key i q hi he,fun⟨i,q,hi,he,hk⟩=>by have:=key i q hi he;omega⟩
   have zA:ow w0 w a.tmps (fun g=>∃(i:Nat) (p:aq),(kD us bl)[i]?=some p/\m i=g/\aY ax p.1=1) li.kh gs os (iJ.map (·.den ax)):=by
    refine cX.mono fun g ⟨i,p,hi,he,hk⟩=>⟨i,p,Lw hi fun hu=>?_,he,hk⟩
    rcases H0 Rr i hu with bX|⟨sh,off,code,cap,t,bX⟩
    ·simp at bX
    ·rw[hi]at bX
     cases bX
     simp only[aY]at hk
     split at hk<;>omega
   obtain⟨i1,ea,i2,i3,i4⟩:=SU (Nat.le_refl _) (agree.refl n1 ax) (fun _ _=>rfl) FI k1.b k1 e1 e2 e1 Bu hf.1 hf.2 ew afv zA rfl rfl rfl
   generalize Sq:n1+1+l1.length+l2.length+(lb++la++iJ).length=NN at*
   generalize Sp:n1+1+l1.length+l2.length+(lb++la).length=ND at*
   generalize So:n1+1+l1.length+l2.length+lb.length=NA at*
   generalize afQ:headD li.kh ND NN (qK li.nJ (n1+1+l1.length+l2.length) jR) dB=d at*
   refine wpIn_loop_ghost (fun N c7 w'=>∃zs os ea,av (b1++b2++(EA li.nJ++wv li.mZ++xV li.kh)) zs/\gn zs/\iR zs=N/\(os.length=li.kh.length/\∀z∈os,0<=z)/\(∀b,b<(kD us bl).length->ea b=m b)/\
    R w0 (NN+li.kh.length) (bq (bq ax (n1+1) zs) NN os) ea (oO li.mZ NA d.1 d.2).1 (oO li.mZ NA d.1 d.2).2 c7 w') (iR ((l1++l2++(lb++la++iJ)).map (·.den ax))) ⟨_,os,ea,i1,JM,rfl,zA.len,i2,i4⟩ ?_
   rintro N a1 w1 ⟨zs,Md,ea,hz1,hz2,rfl,⟨qV,nj⟩,ahy,gu⟩
   have tp:=natsM_holds (jB hB hz1 hz2) qV nj
   refine he hd _ _ _ _ _ _ _ a1 w1 _ gu tp fun x n' ad m' bS aN dp c7 w' h1 h2 h3 h4=>?_
   have wT:agree n1 ax (bq ax (n1+1) zs):=(agree.bq _ (n1+1) ax).mono (by omega)
   have afx:agree n1 ax (bq (bq ax (n1+1) zs) NN Md):=wT.trans (agree.bq Md NN _) (by omega)
   have JO:di n1 bl.length ax m (NN+li.kh.length) (oO li.mZ NA d.1 d.2).2.length (bq (bq ax (n1+1) zs) NN Md) ea:=⟨by omega,afx,by rw[k2]at i3;exact i3,fun b hb=>ahy b (by rw[k2];exact hb)⟩
   have u5:dG n1 G (G.set n1 fun vs=>gn vs/\iR vs<iR zs):=fun l hl=>by
    unfold dt.set
    cases hb:Nat.beq l n1 with
    |true=>have:=Nat.eq_of_beq_eq_true hb;omega
    |false=>rfl
   have cI:=JO.trans h1
   have JL:dp n1=fun vs=>gn vs/\iR vs<iR zs:=by
    rw[h2 n1 (by omega)]
    unfold dt.set
    have:Nat.beq n1 n1=true:=Nat.beq_refl n1
    rw[this];rfl
   cases x with
   |exit id=>exact hk (.exit id) n' ad m' bS aN dp c7 w' cI (u5.trans h2 (by omega)) h3 h4
   |ret=>exact hk .ret n' ad m' bS aN dp c7 w' cI (u5.trans h2 (by omega)) h3 h4
   |normal=>
    simp only at h4
    obtain⟨N8,tT,bS,Ta,Sw,ahf,h4⟩:=BF (S:=S) (L:=L) h3.t dp _ h4
    have r5:=h3.later Ta Sw
    have h3:R w0 tT N8 m' bS aN c7 w':=⟨ahf,r5.d,r5.b,r5.ba⟩
    have cI:=cI.trans (⟨Ta,Sw,Nat.le_refl _,fun _ _=>rfl⟩:di n' aN.length ad m' tT aN.length N8 m')
    obtain⟨qi,zT,TZ,dU,dd,⟨t1,t2,t3⟩,h4⟩:=Iy (S:=S) (L:=L) h3.t dp _ h4
    have h3:=h3.later dU dd
    split at h4
    rotate_left
    ·exact h4.elim
    rename_i uq v1 yF LC jt Ux bu acC acE
    obtain⟨c1,c2,_,c4,c5⟩:=Ee h3 acC
    obtain⟨d1,d2,ayI,Vo,d3⟩:=GO h3 acE
    cases eK:hb li.cells 0 (n1+1+v1.length) (aN.take bl.length)with
    |none=>rw[eK]at h4;exact h4.elim
    |some dq=>
     obtain⟨l5,v2,qo⟩:=dq
     rw[eK]at h4
     simp only at h4
     cases gI:(kr jR uq&&kq dB l5)with
     |false=>rw[gI]at h4;exact h4.elim
     |true=>
      rw[gI]at h4
      simp only[cond_true,T.holds,JL]at h4
      simp only[Bool.and_eq_true]at gI
      have JP:=cI.trans (⟨dU,dd,Nat.le_refl _,fun _ _=>rfl⟩:di tT aN.length N8 m' zT aN.length qi m')
      have afw:vY w0 w' c7.tmps (fun g=>(∀(i:Nat) (p:aq),i<(kD us bl).length->aN[i]?=some p->m' i=g->aY qi p.1=0)/\¬∃(i:Nat) (p:aq),aN[i]?=some p/\m' i=g/\aY qi p.1=1) li.mZ (LC.map (·.den qi)):=by
       refine c5 _ fun b p hb _ aB iH jF=>⟨fun i q dk hi he=>?_,fun⟨i,q,hi,he,hk⟩=>?_⟩
       ·have wY:bl.length<=b:=by
         rcases c4 b hb with h|h
         ·simp at h
         ·exact h
        rw[k2]at dk
        rcases h3.ba.inj i b q p hi aB he with g3|g3|g3|g3
        ·omega
        ·omega
        ·exact g3
        ·omega
       ·rcases h3.ba.inj i b q p hi aB he with g3|g3|g3|g3
        ·subst g3
         rw[hi]at aB;cases aB
         omega
        ·omega
        ·omega
        ·omega
      obtain⟨dL,F9,mK,nn,nW⟩:=SU (NA:=NA) (ND:=ND) (NN:=NN) (by rw[k2];exact JP.hb) JP.ha (fun b hb=>JP.hm b (by rw[k2]at hb;exact hb)) FI k1.b h3 e1 e2 bu (by rw[k2];exact eK) gI.1 gI.2 t3 afw d3 (by have:=t2;have:=Ix s2 t2;omega) (by have:=Ix s2 t2;simp only[List.length_append]at*;omega) (by have:=Ix s2 t2;simp only[List.length_append]at*;omega)
      rw[afQ]at nW
      exact⟨_,h4.2,_,Vo,F9,dL,h4.1,rfl,d3.len,mK,nW⟩
theorem toL {ops:Array Oper}:ops.toList.toArray=ops:=Array.toArray_toList
theorem Jz (N:Nat):∀(i:Nat) (bl:List aq),(fG N i bl).length=bl.length
 |_,[]=>rfl
 |i,_::r=>by simp[fG,Jz N (i+1) r]
theorem y7 (N:Nat):∀(i:Nat) (bl:List aq) (k:Nat) (p:aq),(fG N i bl)[k]?=some p->p=eg∨(i+k<N/\bI p.1=true/\bl[k]?=some p)
 |_,[],k,p,h=>by simp[fG]at h
 |i,q::r,0,p,h=>by
  simp only[fG,List.getElem?_cons_zero,Option.some.injEq]at h
  cases hc:(Nat.blt i N&&bI q.1)with
  |false=>rw[hc]at h;exact .inl h.symm
  |true=>
   rw[hc]at h
   simp only[cond_true]at h
   subst h
   simp only[Bool.and_eq_true]at hc
   exact .inr ⟨by simpa using oD hc.1,hc.2,rfl⟩
 |i,q::r,k+1,p,h=>by
  rcases y7 N (i+1) r k p (by simpa [fG]using h)with h1|⟨h1,h2,h3⟩
  ·exact .inl h1
  ·exact .inr ⟨by omega,h2,by simpa using h3⟩
theorem VM:∀{a b:List aq},preB a b=true->∀(k:Nat) (p:aq),a[k]?=some p->b[k]?=some p
 |[],_,_,_,_,h=>by simp at h
 |(c,t)::r,(c',t')::s,hf,k,p,h=>by
  simp only[preB,Bool.and_eq_true]at hf
  obtain⟨⟨⟨h1,h2⟩,h3⟩,h4⟩:=hf
  cases k with
  |zero=>
   have e1:=yI h1;have e2:=Nat.eq_of_beq_eq_true h2;have bu:t.2=t'.2:=by simpa using h3
   have:t=t':=Prod.ext e2 bu
   subst e1;subst this
   simpa using h
  |succ k=>have:=VM h4 k p (by simpa using h);simpa using this
 |_::_,[],h,_,_,_=>by simp[preB]at h
theorem Mem.sub {ρ bC:Env} {m ea:Nat->Nat} {bl j3:List aq} {w:World} (h:Mem w0 ρ m bl w) (hs:∀(i:Nat) (p:aq),j3[i]?=some p->p=eg∨(bl[i]?=some p/\bI p.1=true/\ea i=m i/\p.1.map (A.den bC ea)=p.1.map (A.den ρ m))):Mem w0 bC ea j3 w:=by
 have jE:aY bC eg.1=0:=by simp[eg,aY]
 refine⟨h.ext,h.fI,h.iu,h.gr,h.ek,h.fv,fun i cs t hi ho=>?_,fun i sh off code cap kind t hi=>?_,fun i j p q hi hj he=>?_⟩
 ·rcases hs i _ hi with h1|⟨h1,_,h3,h4⟩
  ·cases h1;simp[bI]at ho
  ·rw[h3,h4];exact h.dX i cs t h1 ho
 ·rcases hs i _ hi with h1|⟨_,h2,_,_⟩
  ·cases h1;intro hk;exact absurd rfl hk
  ·simp[bI]at h2
 ·rcases hs i _ hi with h1|⟨h1,h2,h3,_⟩
  ·subst h1;exact .inr (.inr (.inl jE))
  ·rcases hs j _ hj with g1|⟨g1,g2,g3,_⟩
   ·subst g1;exact .inr (.inr (.inr jE))
   ·rcases h.inj i j p q h1 g1 (by rw[<-h3,<-g3];exact he)with h5|h5|h5|h5
    ·exact .inl h5
    ·rw[iv h2]at h5;omega
    ·rw[iv h2]at h5;cases h5
    ·rw[iv g2]at h5;cases h5
theorem cn.fG {n nb:Nat} {ρ:Env} {bl:List aq} (h:cn n nb ρ bl) (N:Nat):cn n nb ρ (Go.bj.fG N 0 bl):=fun p hp=>by
 obtain⟨i,hi⟩:=List.mem_iff_getElem?.1 hp
 rcases y7 N 0 bl i p hi with h1|⟨_,_,h3⟩
 ·subst h1
  intro a ha
  simp only[eg,List.mem_singleton]at ha
  subst ha
  exact⟨⟨I.cA _ _,I.cA _ _,I.cA _ _⟩,⟨by simp[I.aK],by rw[I.aK];exact Int.le_trans (fp []) (mX (by simp) (fun _ h=>by cases h))⟩,by simp[I.aK]⟩
 ·exact h p (List.mem_of_getElem? h3)
theorem afW {ops:Array Oper} {N:Nat} {tm:List V} {bl:List aq} {o:Oper} {a:Act} {w:World} {v:Value} (ho:Fo N tm bl o=true) (h:AX P o a w v):(execOp a.eval o).run P w= .ok (.value v) w:=by
 rcases h with h|⟨f,args,h,_⟩
 ·exact h
 ·exfalso
  have key:∀s:Sem Value,(do pure (Next.value (<-s)):Sem Next).run P w= .ok (.enter f args) w->False:=fun s hs=>by
   simp only[Sem.run_bind]at hs
   cases hx:s.run P w with
   |ok u w'=>rw[hx]at hs;simp at hs
   |halt x w'=>rw[hx]at hs;simp at hs
  unfold Fo at ho
  split at ho
  ·rename_i x hop;simp[execOp,hop]at h
  ·rename_i x hop;simp[execOp,hop]at h
  ·rename_i x i hop;exact key (Instr.extract (a.eval x) i) (by simpa [execOp,hop]using h)
  ·rename_i s x i hop;exact key (Instr.fieldAt s (a.eval x) i) (by simpa [execOp,hop]using h)
  ·rename_i t p hop;exact key (Instr.loadAt t (a.eval p)) (by simpa [execOp,hop]using h)
  ·rename_i t x lo hi br hop;exact key (Instr.sliceAt t (a.eval x) (lo.map a.eval) (hi.map a.eval) (br.map a.eval)) (by simpa [execOp,hop]using h)
  ·cases ho
theorem Zy {ops:Array Oper} {Q:Exit->Act->World->Prop} {inl:ig} (cz:e7 S P gl w0 cal) (hg:bL gl w0) (iX:lC S L w0 P inl) (wP:∀c a w,¬Q (.panic c) a w)
 {N n0:Nat} {ko:List aq} {bK:Env} {m0:Nat->Nat} (hN:N<=ko.length) (nQ:cn n0 ko.length bK ko):∀(f:Nat) {listed:Array Bool} {n:Nat} {ρ:Env} {m:Nat->Nat} {tm:List V} {bl:List aq} {a:Act} {w:World} {G:dt} {k:fm},
 R w0 n ρ m tm bl a w->di n0 ko.length bK m0 n bl.length ρ m->(∀(k:Nat) (p:aq),(fG N 0 ko)[k]?=some p->(fG N 0 bl)[k]?=some p)->(s9 P gl cal inl ops N (fG N 0 ko) f listed n tm bl k).holds S L G ρ->iS S L w0 k n bl.length ρ m G (Q .normal)->wpAnyH P .any ops Q (fun w=>Mem w0 bK m0 (fG N 0 ko) w) f listed a w:=by
 have down:∀{n:Nat} {ρ:Env} {m:Nat->Nat} {bl:List aq} {w:World},di n0 ko.length bK m0 n bl.length ρ m->(∀(k:Nat) (p:aq),(fG N 0 ko)[k]?=some p->(fG N 0 bl)[k]?=some p)->Mem w0 ρ m bl w->Mem w0 bK m0 (fG N 0 ko) w:=fun hl hp hm=>by
  refine hm.sub fun i p hi=>?_
  rcases y7 N 0 ko i p hi with h1|⟨h1,h2,h3⟩
  ·exact .inl h1
  ·refine .inr ?_
   rcases y7 N 0 _ i p (hp i p hi)with g1|⟨_,_,g3⟩
   ·subst g1;simp[eg,bI]at h2
   ·exact⟨g3,h2,(hl.hm i (by omega)).symm,(rp (nQ p (List.mem_of_getElem? h3)) hl.ha hl.hm).symm⟩
 have up:∀{n:Nat} {ρ:Env} {m:Nat->Nat} {bl:List aq} {w:World},di n0 ko.length bK m0 n bl.length ρ m->(∀(k:Nat) (p:aq),(fG N 0 ko)[k]?=some p->(fG N 0 bl)[k]?=some p)->Mem w0 bK m0 (fG N 0 ko) w->Mem w0 ρ m (fG N 0 bl) w:=fun{n ρ m bl w} hl hp hm=>by
  refine hm.sub fun i p hi=>?_
  rcases y7 N 0 bl i p hi with h1|⟨h1,h2,h3⟩
  ·exact .inl h1
  ·refine .inr ?_
   have hlt:i<(fG N 0 ko).length:=by rw[Jz];omega
   have hq:=hp i _ (List.getElem?_eq_getElem hlt)
   rw[hi]at hq
   have hq:p=(fG N 0 ko)[i]:=Option.some.inj hq
   have h0:(fG N 0 ko)[i]?=some p:=by rw[List.getElem?_eq_getElem hlt,hq]
   rcases y7 N 0 ko i p h0 with g1|⟨_,_,g3⟩
   ·subst g1;simp[eg,bI]at h2
   ·exact⟨h0,h2,hl.hm i (by omega),rp (nQ p (List.mem_of_getElem? g3)) hl.ha hl.hm⟩
 intro f
 induction f with
 |zero=>
  intro listed n ρ m tm bl a w G k h hl hp hh hk
  unfold s9 at hh
  unfold wpAnyH
  split at hh
  ·rename_i hr
   exact⟨hr,hk n ρ m tm bl G a w (di.refl _ _ _ _) (dG.refl _ _) h hh⟩
  ·exact hh.elim
 |succ f ih=>
  intro listed n ρ m tm bl a w G k h hl hp hh hk
  unfold s9 at hh
  split at hh
  ·rename_i hr
   exact⟨fun _=>hk n ρ m tm bl G a w (di.refl _ _ _ _) (dG.refl _ _) h hh,fun i hi=>by rw[hr]at hi;cases hi⟩
  ·rename_i l gV
   split at hh
   ·rename_i i hi
    unfold SV at hi
    cases hns:Region.noSelect ops with
    |false=>rw[hns]at hi;cases hi
    |true=>
    rw[hns,cond_true]at hi
    have cE:=List.find?_some hi
    have qO:=List.mem_of_find?_eq_some hi
    simp only[Bool.and_eq_true]at cE
    cases ho:ops[i]? with
    |none=>simp only[ho]at hh;exact hh.elim
    |some o=>
     simp only[ho]at hh
     have hfl:Fo N tm bl o=true:=by have:=cE.1;simp only[ho]at this;exact this
     obtain⟨bS,jG,hgd⟩:=BM h.t hh
     have h:R w0 n ρ m bS bl a w:=⟨jG,h.d,h.b,h.ba⟩
     have cZ:=down hl hp h.ba
     rcases hgd with⟨hw,hh⟩|⟨hw,hh⟩
     ·have hlen:(fG N 0 bl).length=bl.length:=Jz N 0 bl
      obtain⟨ad,n',v,sc,iV,⟨hv,val,hr,hq⟩,zu⟩:=Mr (L:=L) (bl:=fG N 0 bl) cz (by rw[hlen];exact h.b.fG N) hg ⟨w,up hl hp cZ⟩ (by rw[hlen];exact jG) o G _ hh
      rw[hlen]at hv
      have hy:YieldsIf P ops (fun w=>Mem w0 bK m0 (fG N 0 ko) w) o val a:= .inl ⟨hw,fun w' sg=>afW (ops:=ops) hfl (hq w' (up hl hp sg))⟩
      refine wpAnyH_take ho hns cE.2 (by simpa using qO) (fun c a w hp=>absurd hp (wP _ _ _)) hy cZ ?_
      have hlt:di n bl.length ρ m n' bl.length ad m:=⟨sc,iV,Nat.le_refl _,fun _ _=>rfl⟩
      exact ih ⟨du.put (jG.ext iV sc (Nat.le_refl _) (fun _ _=>rfl)) o.dst hv hr,by rw[put_defers];exact h.d,h.b.ext iV sc (Nat.le_refl _),h.ba.lv h.b iV⟩ (hl.trans hlt) hp zu (hk.later hlt (dG.refl _ _))
     ·refine wpAnyH_take ho hns cE.2 (by simpa using qO) (fun c a w hp=>absurd hp (wP _ _ _)) (.inr ⟨hw,rfl⟩) cZ ?_
      exact ih (h.skip o.dst) hl hp hh hk
   split at hh
   ·rename_i i hi
    unfold Vh at hi
    cases hns:Region.noSelect ops with
    |false=>rw[hns]at hi;cases hi
    |true=>
    rw[hns,cond_true]at hi
    have cE:=List.find?_some hi
    have qO:=List.mem_of_find?_eq_some hi
    simp only[Bool.and_eq_true]at cE
    cases ho:ops[i]? with
    |none=>simp only[ho]at hh;exact hh.elim
    |some o=>
     simp only[ho]at hh
     obtain⟨bS,jG,hgd⟩:=BM h.t hh
     have h:R w0 n ρ m bS bl a w:=⟨jG,h.d,h.b,h.ba⟩
     have cZ:=down hl hp h.ba
     rcases hgd with⟨_,hh⟩|⟨hw,hh⟩
     ·exact hh.elim
     ·refine wpAnyH_take ho hns cE.2 (by simpa using qO) (fun c a w hp=>absurd hp (wP _ _ _)) (.inr ⟨hw,rfl⟩) cZ ?_
      exact ih (h.skip o.dst) hl hp hh hk
   unfold wpAnyH
   refine⟨fun hr=>absurd hr gV,fun i hi=>?_⟩
   have cE:=allT_holds hh i hi
   unfold wpOp
   cases ho:ops[i]? with
   |none=>simp only[ho]at cE;exact cE.elim
   |some o=>
    simp only[ho]at cE⊢
    obtain⟨bS,jG,hgd⟩:=BM h.t cE
    have h:R w0 n ρ m bS bl a w:=⟨jG,h.d,h.b,h.ba⟩
    rcases hgd with⟨hw,Kl⟩|⟨hw,Kl⟩
    ·rw[if_pos hw]
     refine .inl (WA cz hg iX h Kl fun n' ad m' bS aN dp c7 w' h1 h2 h3 h4=>?_)
     cases hf:preB (fG N 0 ko) (fG N 0 aN)with
     |false=>rw[hf]at h4;exact h4.elim
     |true=>
      rw[hf,cond_true]at h4
      have sb:=hl.trans h1
      have hf:=VM hf
      exact⟨down sb hf h3.ba,ih h3 sb hf h4 (hk.later h1 h2)⟩
    ·rw[if_neg (by simp[hw])]
     exact⟨down hl hp h.ba,ih (h.skip o.dst) hl hp Kl hk⟩
theorem yR {inl:ig} {li:Nat->Option dj} {rounds:Nat} (hm:P.follows .mixedOrders=true) (cz:e7 S P gl w0 cal) (hg:bL gl w0) (iX:lC S L w0 P inl):∀(c:Code),Hu rd S L w0 P c (kp P gl cal inl li rounds c):=by
 intro c
 induction c with
 |skip=>intro hd n tm bl k G ρ m a w Q h hh hk;exact wpIn_skip (hk .normal n ρ m tm bl G a w (di.refl _ _ _ _) (dG.refl _ _) h hh)
 |exit id=>intro hd n tm bl k G ρ m a w Q h hh hk;exact wpIn_exit (hk (.exit id) n ρ m tm bl G a w (di.refl _ _ _ _) (dG.refl _ _) h hh)
 |ret=>intro hd n tm bl k G ρ m a w Q h hh hk;exact wpIn_ret (hk .ret n ρ m tm bl G a w (di.refl _ _ _ _) (dG.refl _ _) h hh)
 |region id ops draw=>
  intro hd n tm bl k G ρ m a w Q h hh hk
  have JS:iS S L w0 (k .normal) n bl.length ρ m G (ny Q .normal):=fun n' ad m' bS aN dp c7 w' h1 h2 h3 h4=>hk .normal n' ad m' bS aN dp c7 w' h1 h2 h3 h4
  cases draw with
  |false=>
   simp only[kp,cond_false]at hh
   refine am6 hd ?_
   exact Gl cz hg iX ops.toList h hh JS
  |true=>
   simp only[kp,cond_true]at hh
   cases ht:(As ops (Cc P cal ops)&&Hn P (ops.toList.take (Cc P cal ops)))with
   |false=>
    simp only[ht,cond_false]at hh
    cases hsz:Nat.ble (ops.toList.filter fun o=> !Uw o).length 12 with
    |false=>simp only[hsz,cond_false]at hh;exact hh.elim
    |true=>
     simp only[hsz,cond_true]at hh
     have oN:R w0 n ρ m tm bl a w.drew:=⟨h.t,h.d,h.b,h.ba.grow (World.Extends.drew (World.Extends.refl w))⟩
     refine VS hm hd (wpAny_of_held (S:=fun w=>Mem w0 ρ m (fG (Cd ops bl) 0 bl) w) _ _ _ _ ?_)
     exact Zy cz hg iX (fun c a w h=>h) (N:=Cd ops bl) (by unfold Cd;cases ops.toList.any TR<;>simp) h.b ops.size oN (di.refl _ _ _ _) (fun _ _ h=>h) hh JS
   |true=>
    simp only[ht,cond_true]at hh
    simp only[Bool.and_eq_true]at ht
    have hle:Cc P cal ops<=ops.toList.length:=by
     have h1:=ht.1
     simp only[As,Bool.and_eq_true]at h1
     simpa using Nat.le_of_ble_eq_true h1.1.1.2
    generalize Cc P cal ops=gV at*
    have oN:R w0 n ρ m tm bl a w.drew:=⟨h.t,h.d,h.b,h.ba.grow (World.Extends.drew (World.Extends.refl w))⟩
    have key:=ark (P:=P) (Q:=ny Q) (a:=a) (w:=w) (l:=ops.toList) (C:=fun w'=>Mem w0 ρ m bl w') gV (AM P ops) hm (by rw[toL];exact ht.1) (fun w' sg=>oN.ba.grow sg) (fun j o hj ho hal b w'=>by
     have:=asz (l:=ops.toList) (P:=P) ht.2 hj ho hal b w'
     rw[toL]at this;exact this) (by
     rw[toL]
     refine Fm cz hg h.b ⟨_,h.ba⟩ _ (Nat.le_refl _) (agree.refl _ _) h.t h.d hh fun n' ad bS an h1 h2 h3 h4 h5 eD b w' tu pJ vg=>?_
     have hl:di n bl.length ρ m n' bl.length ad m:=⟨h1,h2,Nat.le_refl _,fun _ _=>rfl⟩
     have aff:=(oN.ba.grow pJ).lv h.b h2
     refine H6 (S:=S) (L:=L) (w0:=w0) (P:=P) (K:=fun b w'=>wpList P ops (calm (ny Q)) (ops.toList.drop gV) b w') tu vg oN.ba.ext.size oN.ba.ek (ops.toList.take gV) 0 (fun j hj=>?_) (by simp;exact Nat.min_eq_left (by simpa using hle)) ⟨h3,h4,h.b.ext h2 h1 (Nat.le_refl _),aff⟩ (fun bk p kX hp=> .inl ?_) rfl (fun t=>⟨fun⟨j,o,hj,_⟩=>by omega,fun _=>rfl⟩) h5 (fun zT qi azd WO av4 Hz PU mq k1 k2 k3 k4=>Gl cz hg iX _ k3 k4 ((JS.later hl (dG.refl _ _)).later k1 k2)) h4
     ·have hj':j<gV:=by simp at hj;omega
      rw[List.getElem?_take,if_pos hj'];simp
     ·rw[o7 (h.b _ (List.mem_of_getElem? kX)) h2]at hp
      exact oN.ba.lt kX hp)
    rw[toL]at key
    exact VS hm hd key
 |seq x y ahJ FN=>
  intro hd n tm bl k G ρ m a w Q h hh hk
  have w3:rd=none∨kf x=true:=hd.imp id fun h=>by simp only[kf,Bool.and_eq_true]at h;exact h.1
  have w4:rd=none∨kf y=true:=hd.imp id fun h=>by simp only[kf,Bool.and_eq_true]at h;exact h.2
  refine wpIn_seq (ahJ w3 n tm bl _ G ρ m a w _ h hh fun x n' ad m' bS aN dp c7 w' h1 h2 h3 h4=>?_)
  cases x with
  |normal=>exact FN w4 n' bS aN k dp ad m' c7 w' Q h3 h4 (hk.later h1 h2)
  |exit id=>exact hk (.exit id) n' ad m' bS aN dp c7 w' h1 h2 h3 h4
  |ret=>exact hk .ret n' ad m' bS aN dp c7 w' h1 h2 h3 h4
 |cond x y z FN TH=>
  intro hd n tm bl k G ρ m a w Q h hh hk
  simp only[kp]at hh
  have hx:=b9 h.t x
  split at hh
  ·rename_i b hb
   rw[hb]at hx
   have cL:a.eval x= .bool (b.den ρ):=hx.2
   have w3:rd=none∨kf y=true:=hd.imp id fun h=>by simp only[kf,Bool.and_eq_true]at h;exact h.1
   have w4:rd=none∨kf z=true:=hd.imp id fun h=>by simp only[kf,Bool.and_eq_true]at h;exact h.2
   refine wpIn_cond cL ?_
   split at hh
   ·rename_i v
    cases v with
    |true=>simp only[cond_true]at hh;exact FN w3 n tm bl k G ρ m a w Q h hh hk
    |false=>simp only[cond_false]at hh;exact TH w4 n tm bl k G ρ m a w Q h hh hk
   ·simp only[T.holds]at hh
    cases hd:aT.den ρ b with
    |true=>exact FN w3 n _ bl k G ρ m a w Q ⟨Ar hd h.t,h.d,h.b,h.ba⟩ (hh.1 (by simpa using hd)) hk
    |false=>exact TH w4 n _ bl k G ρ m a w Q ⟨Ar hd h.t,h.d,h.b,h.ba⟩ (hh.2 (by simpa using hd)) hk
  ·exact hh.elim
 |block id x ih=>
  intro hd n tm bl k G ρ m a w Q h hh hk
  refine wpIn_block (ih hd n tm bl _ G ρ m a w _ h hh fun x n' ad m' bS aN dp c7 w' h1 h2 h3 h4=>?_)
  cases x with
  |normal=>exact hk .normal n' ad m' bS aN dp c7 w' h1 h2 h3 h4
  |ret=>exact hk .ret n' ad m' bS aN dp c7 w' h1 h2 h3 h4
  |exit vm=>
   simp only at h4
   simp only[X.to,Exit.inBlock]
   cases hb:Nat.beq vm id with
   |true=>
    simp only[hb,cond_true]at h4
    rw[if_pos (Nat.eq_of_beq_eq_true hb)]
    exact hk .normal n' ad m' bS aN dp c7 w' h1 h2 h3 h4
   |false=>
    simp only[hb,cond_false]at h4
    rw[if_neg (fun e=>by subst e;rw[show Nat.beq vm vm=true from Nat.beq_refl vm]at hb;cases hb)]
    exact hk (.exit vm) n' ad m' bS aN dp c7 w' h1 h2 h3 h4
 |loop x ih=>
  intro hd n tm bl k G ρ m a w Q h hh hk
  simp only[kp]at hh
  split at hh
  ·exact ai4 (c:=x) hd ih h hh hk
  ·exact wpIn_loop_rounds rounds (V2 (c:=x) hd ih rounds h hh hk)
 |_=>intro hd n tm bl k G ρ m a w Q h hh hk;exact hh.elim
def xX (a:Act):ResultVar->Sem Value
 | .tmp t=>Pure.pure (a.tmps.getD t undef)
 | .cell x t=>do loadVar t (<-asAddr (a.tmps.getD x undef))
theorem ana {n:Nat} {ρ:Env} {m:Nat->Nat} {bl:List aq} {tm:List V} {a:Act} {w:World} {r:ResultVar} {u:W} (hg:bL gl w0) (h:R w0 n ρ m tm bl a w) (hr:Dw P gl bl tm r=some u):
 u.ok n bl.length ρ/\(xX a r).run P w= .ok (u.den ρ m) w:=by
 cases r with
 |tmp t=>
  simp only[Dw]at hr
  cases ht:tm[t]? with
  |none=>simp[ht]at hr
  |some v=>
   obtain⟨h1,x,h2,h3⟩:=h.t.2 t v ht
   simp only[ht]at hr
   cases v with
   |w aoV=>
    simp only[Option.some.injEq]at hr
    subst hr
    refine⟨h1,?_⟩
    have:a.tmps.getD t undef=aoV.den ρ m:=by simp[h2];exact h3
    simp only[xX,this];rfl
   |_=>simp at hr
 |cell x t=>
  simp only[Dw]at hr
  cases ht:tm[x]? with
  |none=>simp[ht]at hr
  |some v=>
   obtain⟨h1,y,h2,h3⟩:=h.t.2 x v ht
   simp only[ht]at hr
   cases v with
   |e4 l=>simp at hr
   |any=>simp at hr
   |mi _ _ _=>simp at hr
   |mB _ _=>simp at hr
   |w q=>
    cases q with
    |agg l=>simp at hr
    |one p=>
     simp only at hr
     have hy:a.tmps.getD x undef=p.den ρ m:=by simp[h2];exact h3
     cases hc:yP bl gl p with
     |none=>simp[hc]at hr
     |some cs=>
      obtain⟨g,o,hp,hok,hcell⟩:=IS h.ba h.b hg hc
      simp only[xX,hy,hp]
      cases lK:gK P t with
      |none=>simp[hc,lK]at hr
      |some b=>
       cases b with
       |true=>
        cases hs:ed P t with
        |none=>simp[hc,lK,hs]at hr
        |some k=>
         simp only[hc,lK,hs]at hr
         cases hk:Nat.ble k cs.length with
         |false=>simp[hk]at hr
         |true=>
          simp only[hk,cond_true,Option.some.injEq]at hr
          subst hr
          have hk:=Nat.le_of_ble_eq_true hk
          refine⟨fun a h=>hok a (List.mem_of_mem_take h),?_⟩
          have hl:=run_loadCells_list (P:=P) w ⟨g,o,none⟩ ((cs.take k).map (A.den ρ m)) fun j v hj=>by
           rw[gE]
           rw[List.getElem?_map]at hj
           cases hq:(cs.take k)[j]? with
           |none=>simp[hq]at hj
           |some a=>
            simp only[hq,Option.map_some,Option.some.injEq]at hj
            subst hj
            refine hcell j a ?_
            rw[List.getElem?_take]at hq
            split at hq
            ·exact hq
            ·cases hq
          simp only[List.length_map,List.length_take,Nat.min_eq_left hk]at hl
          simp[asAddr,loadVar,nw lK,gy hs,hl,W.den]
       |false=>
        cases cs with
        |nil=>simp[hc,lK]at hr
        |cons z r=>
         simp only[hc,lK,Option.some.injEq]at hr
         subst hr
         refine⟨hok z (by simp),?_⟩
         have:=hcell 0 z rfl
         simp only[Nat.add_zero]at this
         simp[asAddr,loadVar,nw lK,this,W.den]
theorem VW {n:Nat} {ρ:Env} {m:Nat->Nat} {bl:List aq} {tm:List V} {a:Act} {w:World} (hg:bL gl w0) (h:R w0 n ρ m tm bl a w):∀{rs:List ResultVar} {l:List W},xY P gl bl tm rs=some l->
 (∀u∈l,W.ok n bl.length ρ u)/\(rs.mapM (m:=Sem) (xX a)).run P w= .ok (l.map (W.den ρ m)) w
 |[],l,hr=>by simp[xY]at hr;subst hr;exact⟨by simp,by simp⟩
 |r::s,l,hr=>by
  simp only[xY]at hr
  cases h1:Dw P gl bl tm r with
  |none=>simp[h1]at hr
  |some u=>
   cases h2:xY P gl bl tm s with
   |none=>simp[h1,h2]at hr
   |some bx=>
    simp only[h1,h2,Option.some.injEq]at hr
    subst hr
    have e1:=ana hg h h1
    have e2:=VW hg h h2
    refine⟨fun x hx=>by rcases List.mem_cons.1 hx with rfl|hx;exact e1.1;exact e2.1 x hx,?_⟩
    rw[List.mapM_cons,Sem.run_bind]
    simp only[e1.2,e2.2,Result.andThen_ok,Sem.run_bind,Sem.run_pure,List.map_cons]
theorem Mv {fn:Func} {n:Nat} {ρ:Env} {m:Nat->Nat} {bl:List aq} {tm:List V} {a:Act} {w:World} {k:RK} {G:dt} (hg:bL gl w0) (h:R w0 n ρ m tm bl a w) (hh:(Du P gl fn n tm bl k).holds S L G ρ):
 ∃v val,V.ok n bl.length ρ v/\v.rel ρ m val/\(results fn a.tmps).run P w= .ok val w/\(k n v bl).holds S L G ρ:=by
 unfold Du at hh
 cases hr:xY P gl bl tm fn.results.toList with
 |none=>
  simp only[hr]at hh
  cases ho:Ma tm fn.results.toList with
  |none=>simp[ho,T.holds]at hh
  |some v=>
   simp only[ho]at hh
   obtain⟨t,e,hv⟩:∃t,fn.results.toList=[.tmp t]/\tm[t]?=some v:=by
    unfold Ma at ho
    split at ho
    ·rename_i t he
     refine⟨t,he,?_⟩
     split at ho<;>first|(cases ho;assumption)|cases ho
    ·cases ho
   obtain⟨h1,x,h2,h3⟩:=h.t.2 t v hv
   refine⟨v,x,h1,h3,?_,hh⟩
   have ti:fn.results=#[.tmp t]:=by rw[<-Array.toArray_toList (xs:=fn.results),e]
   have ex:a.tmps.getD t undef=x:=by simp[h2]
   have e:results fn a.tmps=(do let vs<-fn.results.mapM (xX a);Pure.pure (if h:vs.size=1 then vs[0]else .tuple vs)):=by
    unfold results
    congr 1
   rw[e,ti,Array.mapM_eq_mapM_toList]
   simp[Sem.run_bind,Sem.run_map,Result.andThen_ok,xX,h2]
 |some l=>
  obtain⟨h1,h2⟩:=VW hg h hr
  have fY:(results fn a.tmps).run P w= .ok (if h:(l.map (W.den ρ m)).toArray.size=1 then(l.map (W.den ρ m)).toArray[0]else .tuple (l.map (W.den ρ m)).toArray) w:=by
   have e:results fn a.tmps=(do let vs<-fn.results.mapM (xX a);Pure.pure (if h:vs.size=1 then vs[0]else .tuple vs)):=by
    unfold results
    congr 1
   rw[e,Array.mapM_eq_mapM_toList]
   simp only[Sem.run_bind,Sem.run_map,Result.andThen_ok,h2,Sem.run_pure]
  simp only[hr]at hh
  split at hh
  ·rename_i u heq
   have heq:=Option.some.inj heq
   subst heq
   exact⟨.w u,_,h1 u (by simp),rfl,by rw[fY];simp,hh⟩
  ·rename_i bx hne heq
   have heq:=Option.some.inj heq
   subst heq
   refine⟨.e4 l,_,h1,rfl,?_,hh⟩
   rw[fY,dif_neg]
   intro hs
   simp at hs
   match l,hs,hne with
   |[u],_,hne=>exact hne u rfl
  ·rename_i heq;cases heq
theorem HI {ρ:Env} {m:Nat->Nat}:∀{vs:List V} {xs:List Value},dK ρ m vs xs->vs.length=xs.length
 |[],[],_=>rfl
 |_::_,_::_,h=>by simp[HI h.2]
 |[],_::_,h=>h.elim
 |_::_,[],h=>h.elim
theorem HG {n nb:Nat} {ρ:Env} {m:Nat->Nat} (k:Nat):∀{vs:List V} {xs:List Value},(∀v∈vs,V.ok n nb ρ v)->dK ρ m vs xs->wo n nb ρ m (vs++Af k) (xs++List.replicate k undef)
 |[],[],_,_=>by
  simp only[List.nil_append]
  induction k with
  |zero=>trivial
  |succ k ih=>exact⟨by intro x hx;simp at hx,rfl,ih⟩
 |v::r,x::s,h,hr=>⟨h v (by simp),hr.1,HG k (fun u hu=>h u (List.mem_cons_of_mem _ hu)) hr.2⟩
 |[],_::_,_,h=>h.elim
 |_::_,[],_,h=>h.elim
theorem Qy (l8:w0.ds=[]) {li:FuncId->Nat->Option dj} {rounds:Nat} {inl:ig} (hm:P.follows .mixedOrders=true) (cz:e7 S P gl w0 cal) (hg:bL gl w0) (ih:lC S L w0 P inl):lC S L w0 P (Ez P gl cal inl li rounds):=by
 intro f n vs bl k G ρ m w xs R' hb ka nU hrel hh hk
 unfold Ez at hh
 cases hf:P.funcs[f]? with
 |none=>simp[hf,T.holds]at hh
 |some fn=>
  cases tp:fn.body with
  |none=>simp[hf,tp,T.holds]at hh
  |some c=>
   simp only[hf,tp]at hh
   cases hc:(!(fn.name== "runtime.NumGoroutine")&&Nat.ble vs.length fn.ntmps)with
   |false=>simp[hc,T.holds]at hh
   |true=>
    simp only[hc,cond_true]at hh
    simp only[Bool.and_eq_true,Bool.not_eq_true']at hc
    have hlen:=HI hrel
    refine⟨?_,calls_of_wp hf tp ?_⟩
    ·have h1:¬fn.name= "runtime.NumGoroutine" :=by have:=hc.1;simpa using this
     simp[callFunc,hf,tp,h1]
    ·have hR:R w0 n ρ m (vs++Af (fn.ntmps-vs.length)) bl {tmps:=xs.toArray++Array.replicate (fn.ntmps-xs.toArray.size) undef,defers:=[]} w:=by
      refine⟨?_,l8.symm,hb,ka⟩
      have:=D7 (HG (fn.ntmps-vs.length) nU hrel)
      have e:(xs++List.replicate (fn.ntmps-vs.length) undef).toArray=xs.toArray++Array.replicate (fn.ntmps-xs.toArray.size) undef:=by
       simp[hlen]
      rw[e]at this
      exact this
     refine wpIn_wide.1 (yR (rd:=none) hm cz hg ih c (.inl rfl) n _ bl _ G ρ m _ w _ hR hh fun x n' ad m' bS aN dp c7 w' h1 h2 h3 h4=>?_)
     cases x with
     |exit id=>exact h4.elim
     |normal=>
      obtain⟨v,val,p1,p2,p3,dx⟩:=Mv hg h3 h4
      exact⟨h3.d.trans l8,val,p3,hk n' v aN dp ad m' w' val h1 h2 p1 p2 h3.b h3.ba dx⟩
     |ret=>
      obtain⟨v,val,p1,p2,p3,dx⟩:=Mv hg h3 h4
      exact⟨h3.d.trans l8,val,p3,hk n' v aN dp ad m' w' val h1 h2 p1 p2 h3.b h3.ba dx⟩
theorem Q3 (l8:w0.ds=[]) {li:FuncId->Nat->Option dj} {rounds:Nat} (hm:P.follows .mixedOrders=true) (cz:e7 S P gl w0 cal) (hg:bL gl w0):∀d,lC S L w0 P (EI P gl cal li rounds d)
 |0=>fun f n vs bl k G ρ m w xs R' _ _ _ _ hh _=>hh.elim
 |d+1=>Qy l8 hm cz hg (Q3 l8 hm cz hg d)
def oq (S:Nat->List Int->List Int->Prop) (L:V->Env->Prop) (w0:de) (P:Program) (bc:jX):Prop:=
 ∀f g,bc f=some g->∀n vs bl k G ρ m w xs R',cn n (List.length bl) ρ bl->Mem w0 ρ m bl w->(∀v∈vs,V.ok n bl.length ρ v)->dK ρ m vs xs->(g n vs bl k).holds S L G ρ->s6 S L w0 k n bl.length ρ m G R'->
  (callFunc f xs.toArray).run P w= .ok (.enter f xs.toArray) w/\Calls P f xs.toArray w R'
theorem ak0 {bc:jX} {inl:ig} (gU:oq S L w0 P bc) (h:lC S L w0 P inl):lC S L w0 P (Mc bc inl):=by
 intro f n vs bl k G ρ m w xs R' h1 h2 h3 h4 h5 h6
 unfold Mc at h5
 cases hf:bc f with
 |none=>rw[hf]at h5;exact h f n vs bl k G ρ m w xs R' h1 h2 h3 h4 h5 h6
 |some g=>rw[hf]at h5;exact gU f g hf n vs bl k G ρ m w xs R' h1 h2 h3 h4 h5 h6
theorem Bm (l8:w0.ds=[]) {bc:jX} {li:FuncId->Nat->Option dj} {rounds:Nat} (hm:P.follows .mixedOrders=true) (cz:e7 S P gl w0 cal) (hg:bL gl w0) (gU:oq S L w0 P bc):∀d,lC S L w0 P (uN bc P gl cal li rounds d)
 |0=>fun f n vs bl k G ρ m w xs R' _ _ _ _ hh _=>hh.elim
 |d+1=>Qy l8 hm cz hg (ak0 gU (Bm l8 hm cz hg gU d))
theorem Mem.extends {b w w':World} {ρ:Env} {m:Nat->Nat} {bl:List aq} (h:Mem ⟨b,w,fun _=>False,fun _=>False,[]⟩ ρ m bl w'):w.Extends w':=by
 have kW:∀i:Nat,i<w.heap.size->w'.heap[i]?=w.heap[i]?:=fun i hi=>h.fv i hi id
 exact⟨h.fI,h.iu,h.gr,h.ek,fun a ha=>by simp only[World.cell?,kW a.block ha],fun a ha=>by simp only[World.frozen?,kW a.block ha],kW⟩
theorem abK {b w:World} {li:FuncId->Nat->Option dj} {rounds d:Nat} (hm:P.follows .mixedOrders=true) (cz:e7 S P gl ⟨b,w,fun _=>False,fun _=>False,[]⟩ cal) (hg:bL gl ⟨b,w,fun _=>False,fun _=>False,[]⟩) (f:FuncId) (n:Nat) (vs:List V) (ρ:Env) (xs:List Value) (he:b.Extends w)
 (nU:∀v∈vs,V.ok n 0 ρ v) (hrel:dK ρ (fun _=>0) vs xs) (hh:(EI P gl cal li rounds d f n vs [] fun n' v _=> .leaf v).holds S (fun v ad=>L v ad) (fun _ _=>False) ρ):
 Calls P f xs.toArray w fun e w'=>∃v ad m val nb,e= .returned val/\v.rel ad m val/\(∃n',V.ok n' nb ad v)/\L v ad/\w.Extends w':=by
 have ka:Mem ⟨b,w,fun _=>False,fun _=>False,[]⟩ ρ (fun _=>0) [] w:=⟨he,rfl,rfl,rfl,Nat.le_refl _,fun _ _ _=>rfl,fun i cs t h=>by simp at h,fun i sh off code cap kind t h=>by simp at h,fun i j p q h=>by simp at h⟩
 refine(Q3 rfl (L:=L) (li:=li) (rounds:=rounds) hm cz hg d f n vs [] (fun n' v _=> .leaf v) (fun _ _=>False) ρ (fun _=>0) w xs _ (fun p hp=>by simp at hp) ka nU hrel hh ?_).2
 intro n' v aN dp ad m' w' val h1 h2 h3 h4 h5 h6 h7
 exact⟨v,ad,m',val,_,rfl,h4,⟨n',h3⟩,h7,h6.extends⟩
end
end Go.bj

/- Contracts: calls answered by what is known of them; the sums and products of words. -/
set_option linter.unusedVariables false
set_option linter.unusedSimpArgs false
namespace Go.bj
open M
def aw.sym (s:Nat):aw->A
 |int k lo hi=> .int k ⟨.var s,lo,hi⟩
 |str=> .str (.var s)
 |bool=> .bool (.eq (.var s) (.const 1))
inductive D where
 |str
 |int (k:IntKind) (lo hi:Int)
 |bool
 |agg (k:IntKind) (n:Nat) (lo hi:Int)
 |mix (l:List aw)
 |jQ (l:List UInt8)
 |oT (k:IntKind) (c:Int)
def a7 (lo hi:Int):Nat->List (Int×Int)
 |0=>[]
 |n+1=>(lo,hi)::a7 lo hi n
noncomputable def D.bds:D->List (Int×Int)
 |str=>[(0,cy)]
 |int _ lo hi=>[(lo,hi)]
 |bool=>[(0,1)]
 |agg _ n lo hi=>a7 lo hi n
 |mix l=>l.map aw.ef
 |jQ _=>[]
 |oT .. =>[]
def D.num:D->Nat
 |str=>1
 |int .. =>1
 |bool=>1
 |agg _ n _ _=>n
 |mix l=>l.length
 |jQ _=>0
 |oT .. =>0
def D.val:D->List Int->Value
 |str,zs=> .string (bb (U (zs.getD 0 0)))
 |int k _ _,zs=> .int k (zs.getD 0 0)
 |bool,zs=> .bool (decide (zs.getD 0 0=1))
 |agg k n _ _,zs=> .agg ((zs.take n).map (.int k)).toArray
 |mix l,zs=> .agg (List.zipWith aw.val l zs).toArray
 |jQ l,_=> .string (bb (pR l))
 |oT k c,_=> .int k c
def Ae (k:IntKind) (lo hi:Int):Nat->Nat->List A
 |_,0=>[]
 |s,n+1=> .int k ⟨.var s,lo,hi⟩::Ae k lo hi (s+1) n
def zS:Nat->List aw->List A
 |_,[]=>[]
 |s,c::r=>c.sym s::zS (s+1) r
def D.sym (s:Nat):D->W
 |str=> .one (.str (.var s))
 |int k lo hi=> .one (.int k ⟨.var s,lo,hi⟩)
 |bool=> .one (.bool (.eq (.var s) (.const 1)))
 |agg k n lo hi=> .agg (Ae k lo hi s n)
 |mix l=> .agg (zS s l)
 |jQ l=> .one (.str (.const (dI (pR l))))
 |oT k c=> .one (.int k (bh.const c))
noncomputable def bG:List D->List (Int×Int)
 |[]=>[]
 |d::r=>d.bds++bG r
def lW:List D->List Int->List Value
 |[],_=>[]
 |d::r,zs=>d.val zs::lW r (zs.drop d.num)
def sR:Nat->List D->List W
 |_,[]=>[]
 |s,d::r=>d.sym s::sR (s+d.num) r
theorem lP:∀{b:List (Int×Int)} {l:List Int},av b l->l.length=b.length
 |[],[],_=>rfl
 |_::_,_::_,h=>by simp[lP h.2.2]
 |[],_::_,h=>h.elim
 |_::_,[],h=>h.elim
theorem VU (lo hi:Int):∀n,(a7 lo hi n).length=n
 |0=>rfl
 |n+1=>by simp[a7,VU lo hi n]
theorem D.Ba (d:D):d.bds.length=d.num:=by cases d<;>simp[D.bds,D.num,VU]
theorem FO:∀{b b6:List (Int×Int)} {l:List Int},av (b++b6) l->av b (l.take b.length)/\av b6 (l.drop b.length)
 |[],_,_,h=>⟨trivial,h⟩
 |_::_,_,_::_,h=>by
  have ih:=FO h.2.2
  exact⟨⟨h.1,h.2.1,ih.1⟩,ih.2⟩
 |_::_,_,[],h=>h.elim
def fQ (ρ:Env) (s:Nat) (zs:List Int):Prop:=∀j,j<zs.length->ρ (s+j)=zs.getD j 0
theorem fQ.bq (ρ:Env) (s:Nat) (zs:List Int):fQ (bq ρ s zs) s zs:=fun j hj=>Au zs s ρ j hj
theorem fQ.tail {ρ:Env} {s:Nat} {z:Int} {zs:List Int} (h:fQ ρ s (z::zs)):ρ s=z/\fQ ρ (s+1) zs:=by
 refine⟨by simpa using h 0 (by simp),fun j hj=>?_⟩
 have:=h (j+1) (by simpa using hj)
 rw[show s+1+j=s+(j+1) by omega,this];simp
theorem fQ.drop {ρ:Env} {s:Nat} {zs:List Int} (h:fQ ρ s zs) (k:Nat):fQ ρ (s+k) (zs.drop k):=fun j hj=>by
 have:=h (k+j) (by simp at hj;omega)
 rw[show s+k+j=s+(k+j) by omega,this]
 simp[List.getD]
theorem VT {ρ:Env} {m:Nat->Nat} {N nb:Nat} {k:IntKind} {lo hi:Int}:∀(n s:Nat) (zs:List Int),av (a7 lo hi n) (zs.take n)->fQ ρ s zs->s+n<=N->
 (∀a∈Ae k lo hi s n,A.ok N nb ρ a)/\(Ae k lo hi s n).map (A.den ρ m)=(zs.take n).map (.int k)
 |0,s,zs,_,_,_=>by simp[Ae]
 |n+1,s,[],h,_,_=>by simp[a7,av]at h
 |n+1,s,z::zs,h,ha,hN=>by
  have ht:=ha.tail
  simp only[a7,List.take_succ_cons,av]at h
  obtain⟨h1,h2⟩:=VT (m:=m) (nb:=nb) (k:=k) (N:=N) n (s+1) zs h.2.2 ht.2 (by omega)
  refine⟨fun a hm=>?_,by simp only[Ae,List.map_cons,A.den,I.cg,ht.1,h2,List.take_succ_cons]⟩
  rcases List.mem_cons.1 hm with rfl|hm
  ·exact⟨I.ec (by omega),by simp only[I.cg,ht.1];exact h.1,by simp only[I.cg,ht.1];exact h.2.1⟩
  ·exact h1 a hm
theorem aw.DD {ρ:Env} {m:Nat->Nat} {N nb:Nat} (c:aw) {s:Nat} {z:Int} (h0:c.ef.1<=z) (h1:z<=c.ef.2) (hz:ρ s=z) (hN:s<N):(c.sym s).ok N nb ρ/\(c.sym s).den ρ m=c.val z:=by
 cases c with
 |int k lo hi=>exact⟨⟨I.ec hN,by simp only[I.cg,hz];exact h0,by simp only[I.cg,hz];exact h1⟩,by simp[aw.sym,aw.val,A.den,I.cg,hz]⟩
 |str=>exact⟨⟨I.ec hN,by rw[I.cg,hz];exact h0,by rw[I.cg,hz];exact h1⟩,by simp[aw.sym,aw.val,A.den,I.cg,hz]⟩
 |bool=>exact⟨⟨I.ec hN,I.cA _ _⟩,by simp[aw.sym,aw.val,A.den,aT.den,I.cg,I.aK,hz]⟩
theorem U4 {ρ:Env} {m:Nat->Nat} {N nb:Nat}:∀(l:List aw) (s:Nat) (zs:List Int),av (l.map aw.ef) (zs.take l.length)->fQ ρ s zs->s+l.length<=N->
 (∀a∈zS s l,A.ok N nb ρ a)/\(zS s l).map (A.den ρ m)=List.zipWith aw.val l zs
 |[],s,zs,_,_,_=>by simp[zS]
 |_::_,s,[],h,_,_=>by simp[av]at h
 |c::r,s,z::zs,h,ha,hN=>by
  have ht:=ha.tail
  simp only[List.map_cons,List.length_cons,List.take_succ_cons,av]at h
  obtain⟨h1,h2⟩:=U4 (m:=m) (nb:=nb) (N:=N) r (s+1) zs h.2.2 ht.2 (by simp at hN;omega)
  have hc:=c.DD (m:=m) (nb:=nb) (N:=N) h.1 h.2.1 ht.1 (by simp at hN;omega)
  refine⟨fun a hm=>?_,by simp only[zS,List.map_cons,hc.2,h2,List.zipWith_cons_cons]⟩
  rcases List.mem_cons.1 hm with rfl|hm
  ·exact hc.1
  ·exact h1 a hm
theorem D.DD {ρ:Env} {m:Nat->Nat} {N nb:Nat} (d:D) {s:Nat} {zs:List Int} (h:av d.bds (zs.take d.num)) (ha:fQ ρ s zs) (hN:s+d.num<=N):(d.sym s).ok N nb ρ/\(d.sym s).den ρ m=d.val zs:=by
 cases d with
 |str=>
  cases zs with
  |nil=>simp[D.bds,av]at h
  |cons z r=>
   have ht:=ha.tail
   simp only[D.bds,D.num,List.take_succ_cons,av]at h
   simp only[D.num]at hN
   exact⟨⟨I.ec (by omega),by rw[I.cg,ht.1];exact h.1,by rw[I.cg,ht.1];exact h.2.1⟩,by simp[D.sym,W.den,A.den,D.val,I.cg,ht.1]⟩
 |int k lo hi=>
  cases zs with
  |nil=>simp[D.bds,av]at h
  |cons z r=>
   have ht:=ha.tail
   simp only[D.bds,D.num,List.take_succ_cons,av]at h
   simp only[D.num]at hN
   exact⟨⟨I.ec (by omega),by simp only[I.cg,ht.1];exact h.1,by simp only[I.cg,ht.1];exact h.2.1⟩,by simp[D.sym,W.den,A.den,D.val,I.cg,ht.1]⟩
 |bool=>
  cases zs with
  |nil=>simp[D.bds,av]at h
  |cons z r=>
   have ht:=ha.tail
   simp only[D.num]at hN
   exact⟨⟨I.ec (by omega),I.cA _ _⟩,by simp[D.sym,W.den,A.den,D.val,aT.den,I.cg,I.aK,ht.1]⟩
 |agg k n lo hi=>
  have:=VT (m:=m) (nb:=nb) (k:=k) n s zs h ha hN
  exact⟨this.1,by simp only[D.sym,W.den,D.val,this.2]⟩
 |mix l=>
  have:=U4 (m:=m) (nb:=nb) l s zs h ha hN
  exact⟨this.1,by simp only[D.sym,W.den,D.val,this.2]⟩
 |jQ l=>exact⟨⟨I.cA _ _,by rw[I.aK];exact ah8 l⟩,by simp[D.sym,W.den,A.den,D.val,I.aK,gb]⟩
 |oT k c=>exact⟨bh.lI _ _ c,by simp[D.sym,W.den,A.den,D.val,bh.const,I.aK]⟩
theorem Nb {ρ:Env} {m:Nat->Nat} {N nb:Nat}:∀(ds:List D) {s:Nat} {zs:List Int},av (bG ds) zs->fQ ρ s zs->s+(bG ds).length<=N->(∀u∈sR s ds,W.ok N nb ρ u)/\(sR s ds).map (W.den ρ m)=lW ds zs
 |[],s,zs,_,_,_=>by simp[sR,lW]
 |d::r,s,zs,h,ha,hN=>by
  have hs:=FO h
  rw[D.Ba]at hs
  simp only[bG,List.length_append,D.Ba]at hN
  have h1:=d.DD (m:=m) (nb:=nb) hs.1 ha (N:=N) (by omega)
  have h2:=Nb (m:=m) (nb:=nb) (N:=N) r hs.2 (ha.drop d.num) (by omega)
  exact⟨fun u hu=>by rcases List.mem_cons.1 hu with rfl|hu;exact h1.1;exact h2.1 u hu,by simp[sR,lW,h1.2,h2.2]⟩
def Ah (ds:List D) (s:Nat):V:=match sR s ds with|[u]=> .w u|l=> .e4 l
def gx (ds:List D) (zs:List Int):Value:=match lW ds zs with|[x]=>x|l=> .tuple l.toArray
def m6 (lo hi:Int) (x:bh):Bool:=decide (lo<=x.lo)&&decide (x.hi<=hi)
def ks (k:IntKind) (lo hi:Int):List A->Option (List I)
 |[]=>some []
 | .int aQ x::r=>cond (decide (k=aQ)&&m6 lo hi x) (match ks k lo hi r with|some l=>some (x.l::l)|none=>none) none
 |_::_=>none
def aw.fit:aw->A->Option I
 |int k lo hi,.int aQ x=>cond (decide (k=aQ)&&m6 lo hi x) (some x.l) none
 |str,.str l=>some l
 |bool,.bool (.lit b)=>some (.const (cond b 1 0))
 |_,_=>none
def nM:List aw->List A->Option (List I)
 |[],[]=>some []
 |c::r,a::s=>match c.fit a,nM r s with|some x,some l=>some (x::l)|_,_=>none
 |_,_=>none
def wK:D->V->Option (List I)
 | .int k lo hi,.w (.one (.int aQ x))=>cond (decide (k=aQ)&&m6 lo hi x) (some [x.l]) none
 | .agg k n lo hi,.w (.agg l)=>cond (Nat.beq l.length n) (ks k lo hi l) none
 | .mix l,.w (.agg s)=>nM l s
 | .str,.w (.one (.str l))=>some [l]
 | .bool,.w (.one (.bool (.lit b)))=>some [.const (cond b 1 0)]
 | .jQ l,.w (.one (.str x))=>match x.dg with|some c=>cond (decide (c=dI (pR l))) (some []) none|none=>none
 | .oT k c,.w (.one (.int aQ x))=>match x.l.dg with|some d=>cond (decide (k=aQ)&&decide (d=c)) (some []) none|none=>none
 |_,_=>none
def oH:List D->List V->Option (List I)
 |[],[]=>some []
 |d::r,v::s=>match wK d v,oH r s with|some a,some b=>some (a++b)|_,_=>none
 |_,_=>none
theorem BE {n:Nat} {ρ:Env} {lo hi:Int} {x:bh} (h:m6 lo hi x=true) (hx:x.ok n ρ):lo<=x.l.den ρ/\x.l.den ρ<=hi:=by
 simp only[m6,Bool.and_eq_true,decide_eq_true_eq]at h
 have:=hx.2;omega
theorem Jt {n nb:Nat} {ρ:Env} {m:Nat->Nat} {k:IntKind} {lo hi:Int}:∀{l:List A} {r:List I},ks k lo hi l=some r->(∀a∈l,A.ok n nb ρ a)->r.length=l.length/\av (a7 lo hi l.length) (r.map (·.den ρ))/\l.map (A.den ρ m)=(r.map (·.den ρ)).map (.int k)
 |[],r,h,_=>by simp[ks]at h;subst h;exact⟨rfl,trivial,rfl⟩
 | .int aQ x::s,r,h,hok=>by
  simp only[ks]at h
  cases hc:(decide (k=aQ)&&m6 lo hi x)with
  |false=>simp[hc]at h
  |true=>
   simp only[hc,cond_true]at h
   simp only[Bool.and_eq_true,decide_eq_true_eq]at hc
   cases hr:ks k lo hi s with
   |none=>simp[hr]at h
   |some r'=>
    simp only[hr,Option.some.injEq]at h
    subst h
    obtain⟨h1,h2,h3⟩:=Jt (m:=m) hr fun a ha=>hok a (List.mem_cons_of_mem _ ha)
    have hx:x.ok n ρ:=hok (.int aQ x) (by simp)
    have hf:=BE hc.2 hx
    exact⟨by simp[h1],⟨hf.1,hf.2,h2⟩,by simp only[List.map_cons,h3,A.den,hc.1]⟩
 | .bool _::_,_,h,_=>by simp[ks]at h
 | .ptr .. ::_,_,h,_=>by simp[ks]at h
 | .lq .. ::_,_,h,_=>by simp[ks]at h
 | .gptr .. ::_,_,h,_=>by simp[ks]at h
 | .slc .. ::_,_,h,_=>by simp[ks]at h
 | .con _::_,_,h,_=>by simp[ks]at h
 | .str _::_,_,h,_=>by simp[ks]at h
theorem aw.ac3 {n nb:Nat} {ρ:Env} {m:Nat->Nat} {c:aw} {a:A} {l:I} (h:c.fit a=some l) (hok:a.ok n nb ρ):(c.ef.1<=l.den ρ/\l.den ρ<=c.ef.2)/\a.den ρ m=c.val (l.den ρ):=by
 unfold aw.fit at h
 split at h
 ·rename_i k lo hi aQ x
  cases hc:(decide (k=aQ)&&m6 lo hi x)with
  |false=>simp[hc]at h
  |true=>
   simp only[hc,cond_true,Option.some.injEq]at h
   subst h
   simp only[Bool.and_eq_true,decide_eq_true_eq]at hc
   exact⟨BE hc.2 hok,by simp only[A.den,aw.val,hc.1]⟩
 ·simp only[Option.some.injEq]at h;subst h
  exact⟨hok.2,rfl⟩
 ·rename_i b
  simp only[Option.some.injEq]at h;subst h
  cases b<;>simp[aw.ef,aw.val,A.den,aT.den,I.aK]
 ·cases h
theorem RQ {n nb:Nat} {ρ:Env} {m:Nat->Nat}:∀{d:List aw} {l:List A} {r:List I},nM d l=some r->(∀a∈l,A.ok n nb ρ a)->r.length=d.length/\av (d.map aw.ef) (r.map (·.den ρ))/\l.map (A.den ρ m)=List.zipWith aw.val d (r.map (·.den ρ))
 |[],[],r,h,_=>by simp[nM]at h;subst h;exact⟨rfl,trivial,rfl⟩
 |c::d,a::s,r,h,hok=>by
  simp only[nM]at h
  cases hx:c.fit a with
  |none=>simp[hx]at h
  |some x=>
   cases hr:nM d s with
   |none=>simp[hx,hr]at h
   |some r'=>
    simp only[hx,hr,Option.some.injEq]at h
    subst h
    obtain⟨h1,h2,h3⟩:=RQ (m:=m) hr fun a ha=>hok a (List.mem_cons_of_mem _ ha)
    have hf:=aw.ac3 (m:=m) hx (hok a (by simp))
    exact⟨by simp[h1],⟨hf.1.1,hf.1.2,h2⟩,by simp only[List.map_cons,h3,hf.2,List.zipWith_cons_cons]⟩
 |[],_::_,_,h,_=>by simp[nM]at h
 |_::_,[],_,h,_=>by simp[nM]at h
theorem WG {n:Nat} {ρ:Env} {l:List UInt8} {x:I} {c:Int} (hc:x.dg=some c) (h:c=dI (pR l)):U (x.den ρ)=pR l:=by rw[I.gq hc,h,gb]
theorem RN {n nb:Nat} {ρ:Env} {m:Nat->Nat} {d:D} {v:V} {r:List I} {x:Value} (h:wK d v=some r) (hok:v.ok n nb ρ) (hx:v.rel ρ m x):r.length=d.num/\av d.bds (r.map (·.den ρ))/\∀zs,d.val ((r.map (·.den ρ))++zs)=x:=by
 unfold wK at h
 split at h
 ·rename_i k lo hi aQ y
  cases hc:(decide (k=aQ)&&m6 lo hi y)with
  |false=>simp[hc]at h
  |true=>
   simp only[hc,cond_true,Option.some.injEq]at h
   subst h
   simp only[Bool.and_eq_true,decide_eq_true_eq]at hc
   have hf:=BE hc.2 hok
   simp only[V.rel,W.den,A.den]at hx
   exact⟨rfl,⟨hf.1,hf.2,trivial⟩,fun zs=>by simp[D.val,hx,hc.1]⟩
 ·rename_i k n' lo hi l
  cases hc:Nat.beq l.length n' with
  |false=>simp[hc]at h
  |true=>
   simp only[hc,cond_true]at h
   have hl:=Nat.eq_of_beq_eq_true hc
   subst hl
   obtain⟨h1,h2,h3⟩:=Jt (m:=m) h hok
   simp only[V.rel,W.den]at hx
   exact⟨h1,h2,fun zs=>by rw[hx,h3];simp only[D.val];rw[List.take_append_of_le_length (by simp[h1]),List.take_of_length_le (by simp[h1])]⟩
 ·rename_i l s
  obtain⟨h1,h2,h3⟩:=RQ (m:=m) h hok
  simp only[V.rel,W.den]at hx
  refine⟨h1,h2,fun zs=>?_⟩
  rw[hx,h3]
  simp only[D.val]
  congr 2
  have key:∀(a:List aw) (b c:List Int),b.length=a.length->List.zipWith aw.val a (b++c)=List.zipWith aw.val a b:=by
   intro a
   induction a with
   |nil=>intro b c _;simp
   |cons p a ih=>
    intro b c hb
    cases b with
    |nil=>simp at hb
    |cons z b=>simp[ih b c (by simpa using hb)]
  exact key _ _ _ (by simp[h1])
 ·rename_i l
  simp only[Option.some.injEq]at h;subst h
  simp only[V.rel,W.den,A.den]at hx
  exact⟨rfl,⟨hok.2.1,hok.2.2,trivial⟩,fun zs=>by rw[hx];rfl⟩
 ·rename_i b
  simp only[Option.some.injEq]at h;subst h
  simp only[V.rel,W.den,A.den,aT.den]at hx
  cases b<;>exact⟨rfl,by simp[D.bds,av,I.aK],fun zs=>by rw[hx];simp[D.val,I.aK]⟩
 ·rename_i l y
  cases hc:y.dg with
  |none=>simp[hc]at h
  |some c=>
   simp only[hc]at h
   cases hd:decide (c=dI (pR l))with
   |false=>simp[hd]at h
   |true=>
    simp only[hd,cond_true,Option.some.injEq]at h
    subst h
    have hd:c=dI (pR l):=by simpa using hd
    refine⟨rfl,trivial,fun zs=>?_⟩
    have hx:x= .string (bb (U (y.den ρ))):=hx
    rw[hx,WG (n:=n) hc hd];rfl
 ·rename_i k c aQ y
  cases hc:y.l.dg with
  |none=>simp[hc]at h
  |some d=>
   simp only[hc]at h
   cases hd:(decide (k=aQ)&&decide (d=c))with
   |false=>simp[hd]at h
   |true=>
    simp only[hd,cond_true,Option.some.injEq]at h
    subst h
    simp only[Bool.and_eq_true,decide_eq_true_eq]at hd
    refine⟨rfl,trivial,fun zs=>?_⟩
    have hx:x= .int aQ (y.l.den ρ):=hx
    rw[hx,I.gq hc,<-hd.1,hd.2];rfl
 ·cases h
theorem Jw {n nb:Nat} {ρ:Env} {m:Nat->Nat}:∀{ds:List D} {vs:List V} {r:List I} {xs:List Value},oH ds vs=some r->(∀v∈vs,V.ok n nb ρ v)->dK ρ m vs xs->av (bG ds) (r.map (·.den ρ))/\lW ds (r.map (·.den ρ))=xs
 |[],[],r,[],h,_,_=>by simp[oH]at h;subst h;exact⟨trivial,rfl⟩
 |d::ds,v::vs,r,x::xs,h,hok,hr=>by
  simp only[oH]at h
  cases h1:wK d v with
  |none=>simp[h1]at h
  |some a=>
   cases h2:oH ds vs with
   |none=>simp[h1,h2]at h
   |some b=>
    simp only[h1,h2,Option.some.injEq]at h
    subst h
    obtain⟨p1,p2,p3⟩:=RN (m:=m) h1 (hok v (by simp)) hr.1
    obtain⟨bo,bQ⟩:=Jw h2 (fun u hu=>hok u (List.mem_cons_of_mem _ hu)) hr.2
    refine⟨by rw[List.map_append];exact nV p2 bo,?_⟩
    rw[List.map_append]
    simp only[lW,p3]
    rw[show d.num=(a.map (·.den ρ)).length by simp[p1],List.drop_left,bQ]
 |[],_::_,_,_,h,_,_=>by simp[oH]at h
 |_::_,[],_,_,h,_,_=>by simp[oH]at h
 |[],[],_,_::_,_,_,hr=>hr.elim
 |_::_,_::_,_,[],_,_,hr=>hr.elim
structure aR where
 f:FuncId
 id:Nat
 args:List D
 res:List D
def aR.cf (P:Program) (wb:World) (c:aR) (spec:List Int->List Int->Prop):Prop:=
 (∀args w,(callFunc c.f args).run P w= .ok (.enter c.f args) w)/\
 ∀zs,av (bG c.args) zs->∃rs,av (bG c.res) rs/\spec zs rs/\∀w,wb.Extends w->Calls P c.f (lW c.args zs).toArray w fun e w'=>e= .returned (gx c.res rs)/\w.Extends w'
noncomputable def Ju (d:D) (v:V):M (List I):=
 match d,v with
 | .bool,.w (.one (.bool e))=>bind (xv e) fun l=>pure [l]
 | .mix l,.w (.agg s)=>uf l s
 | .int k lo hi,.w (.one (.int aQ x))=>cond (decide (k=aQ)) (cond (m6 lo hi x) (pure [x.l]) (bind (eE 39 [x.l,.const lo,.const hi]) fun _=>pure [x.l])) fail
 |d,v=>match wK d v with|some r=>pure r|none=>fail
noncomputable def E3:List D->List V->M (List I)
 |[],[]=>pure []
 |d::r,v::s=>bind (Ju d v) fun a=>bind (E3 r s) fun b=>pure (a++b)
 |_,_=>fail
noncomputable def aR.M (c:aR):List aq->List V->M V:=fun _ vs n k=>
 match oH c.args vs with
 |some l=> .call c.id l n (bG c.res) (k (Ah c.res n) (n+(bG c.res).length))
 |none=>E3 c.args vs n fun l n=> .call c.id l n (bG c.res) (k (Ah c.res n) (n+(bG c.res).length))
section
variable {S:Nat->List Int->List Int->Prop} {L:V->Env->Prop}
theorem Js {k:IntKind} {lo hi:Int} {n nb:Nat} {ρ:Env}:∀{l:List A} {r:List I},ks k lo hi l=some r->(∀a∈l,A.ok n nb ρ a)->∀x∈r,I.aX n x
 |[],r,h,_=>by simp[ks]at h;subst h;intro x hx;simp at hx
 |a::s,r,h,hok=>by
  cases a with
  |int aQ x=>
   simp only[ks]at h
   cases hc:(decide (k=aQ)&&m6 lo hi x)with
   |false=>simp[hc]at h
   |true=>
    cases hr:ks k lo hi s with
    |none=>simp[hc,hr]at h
    |some r'=>
     simp only[hc,hr,cond_true,Option.some.injEq]at h
     subst h
     intro y hy
     rcases List.mem_cons.1 hy with hy|hy
     ·rw[hy]
      have h0:A.ok n nb ρ (.int aQ x):=hok _ (List.mem_cons_self ..)
      have h0:x.ok n ρ:=h0
      exact h0.1
     ·exact Js hr (fun a ha=>hok a (List.mem_cons_of_mem _ ha)) y hy
  |_=>simp[ks]at h
theorem RP {n nb:Nat} {ρ:Env}:∀{d:List aw} {l:List A} {r:List I},nM d l=some r->(∀a∈l,A.ok n nb ρ a)->∀x∈r,I.aX n x
 |[],[],r,h,_=>by simp[nM]at h;subst h;intro x hx;simp at hx
 |c::d,a::s,r,h,hok=>by
  simp only[nM]at h
  cases hx:c.fit a with
  |none=>simp[hx]at h
  |some x=>
   cases hr:nM d s with
   |none=>simp[hx,hr]at h
   |some r'=>
    simp only[hx,hr,Option.some.injEq]at h
    subst h
    intro y hy
    rcases List.mem_cons.1 hy with hy|hy
    ·subst hy
     have h0:=hok a (by simp)
     unfold aw.fit at hx
     split at hx
     ·rename_i k lo hi aQ z
      cases hc:(decide (k=aQ)&&m6 lo hi z)with
      |false=>simp[hc]at hx
      |true=>
       simp only[hc,cond_true,Option.some.injEq]at hx
       subst hx
       have h0:z.ok n ρ:=h0
       exact h0.1
     ·simp only[Option.some.injEq]at hx;subst hx
      exact h0.1
     ·simp only[Option.some.injEq]at hx;subst hx
      exact I.cA _ _
     ·cases hx
    ·exact RP hr (fun a ha=>hok a (List.mem_cons_of_mem _ ha)) y hy
 |[],_::_,_,h,_=>by simp[nM]at h
 |_::_,[],_,h,_=>by simp[nM]at h
theorem ac6 {n nb:Nat} {ρ:Env} {d:D} {v:V} {r:List I} (h:wK d v=some r) (hok:v.ok n nb ρ):∀x∈r,I.aX n x:=by
 unfold wK at h
 split at h
 ·rename_i k lo hi aQ y
  cases hc:(decide (k=aQ)&&m6 lo hi y)with
  |false=>simp[hc]at h
  |true=>
   simp only[hc,cond_true,Option.some.injEq]at h
   subst h
   have h0:y.ok n ρ:=hok
   intro x hx
   simp at hx;subst hx
   exact h0.1
 ·rename_i k n' lo hi l
  cases hc:Nat.beq l.length n' with
  |false=>simp[hc]at h
  |true=>
   simp only[hc,cond_true]at h
   exact Js h hok
 ·exact RP h hok
 ·simp only[Option.some.injEq]at h;subst h
  intro x hx
  simp at hx;subst hx
  exact hok.1
 ·simp only[Option.some.injEq]at h;subst h
  intro x hx
  simp at hx;subst hx
  exact I.cA _ _
 ·rename_i l y
  cases hc:y.dg with
  |none=>simp[hc]at h
  |some c=>
   simp only[hc]at h
   cases hd:decide (c=dI (pR l))with
   |false=>simp[hd]at h
   |true=>
    simp only[hd,cond_true,Option.some.injEq]at h
    subst h
    intro x hx;simp at hx
 ·rename_i k c aQ y
  cases hc:y.l.dg with
  |none=>simp[hc]at h
  |some d=>
   simp only[hc]at h
   cases hd:(decide (k=aQ)&&decide (d=c))with
   |false=>simp[hd]at h
   |true=>
    simp only[hd,cond_true,Option.some.injEq]at h
    subst h
    intro x hx;simp at hx
 ·cases h
theorem bT.Lq:∀{sh:List aw} {zs:List Int},bT sh zs->av (sh.map aw.ef) zs/\List.zipWith aw.val sh zs=cO sh zs
 |[],[],_=>⟨trivial,rfl⟩
 |c::sh,z::zs,h=>⟨⟨h.1.1,h.1.2,(bT.Lq h.2).1⟩,by simp[cO,(bT.Lq h.2).2]⟩
 |[],_::_,h=>h.elim
 |_::_,[],h=>h.elim
theorem Xc {f:aw->Int->Value}:∀(a:List aw) (b c:List Int),b.length=a.length->List.zipWith f a (b++c)=List.zipWith f a b
 |[],b,c,_=>by simp
 |_::a,[],c,h=>by simp at h
 |_::a,z::b,c,h=>by simp[Xc a b c (by simpa using h)]
theorem ac4 {d:D} {v:V} {X:Value} {n nb:Nat} {ρ:Env} {m:Nat->Nat} (hv:v.ok n nb ρ) (bw:v.rel ρ m X):ai S L (Ju d v) n ρ fun ad n' ls=>(∀x∈ls,I.aX n' x)/\ls.length=d.num/\av d.bds (ls.map (·.den ad))/\∀zs,d.val ((ls.map (·.den ad))++zs)=X:=by
 unfold Ju
 split
 ·rename_i e
  have bw:X= .bool (e.den ρ):=bw
  exact FR.bind fun ax n1 l hn ha ⟨g1,g2,g3⟩=>ai.pure ⟨fun x hx=>by simp at hx;subst hx;exact g1,rfl,⟨g2.1,g2.2,trivial⟩,fun zs=>by rw[bw,g3];rfl⟩
 ·rename_i l s
  have bw:X= .agg (s.map (A.den ρ m)).toArray:=bw
  refine(Aj (nb:=nb) (m:=m) hv).mono fun ax n1 ls hn ha ⟨g1,g2,g3⟩=>?_
  have h1:=bT.Lq g2
  have h2:=g2.len
  refine⟨g1,by simpa [D.num]using h2,h1.1,fun zs=>?_⟩
  rw[bw,<-g3,<-h1.2]
  simp only[D.val]
  rw[Xc _ _ _ (by simpa using h2)]
 ·rename_i k lo hi aQ x
  have bw:X= .int aQ (x.l.den ρ):=bw
  have hv:x.ok n ρ:=hv
  refine dr fun hk=>?_
  have hk:=of_decide_eq_true hk
  subst hk
  cases hf:m6 lo hi x with
  |true=>
   have:=BE hf hv
   exact ai.pure ⟨fun y hy=>by simp at hy;subst hy;exact hv.1,rfl,⟨this.1,this.2,trivial⟩,fun zs=>by rw[bw];rfl⟩
  |false=>
   refine fF fun hc=>ai.pure ?_
   simp only[List.map_cons,List.map_nil,ab,I.aK]at hc
   exact⟨fun y hy=>by simp at hy;subst hy;exact hv.1,rfl,⟨hc.1,hc.2,trivial⟩,fun zs=>by rw[bw];rfl⟩
 ·split
  ·rename_i hf
   obtain⟨p1,p2,p3⟩:=RN (m:=m) hf hv bw
   exact ai.pure ⟨ac6 hf hv,p1,p2,p3⟩
  ·exact ai.fail
theorem dK.ext {n nb:Nat} {ρ ad:Env} {m m':Nat->Nat}:∀{vs:List V} {xs:List Value},dK ρ m vs xs->(∀v∈vs,V.ok n nb ρ v)->agree n ρ ad->(∀b,b<nb->m' b=m b)->dK ad m' vs xs
 |[],[],_,_,_,_=>trivial
 |v::vs,x::xs,h,hok,ha,hm=>⟨V.rel.ext h.1 (hok v (by simp)) ha hm,dK.ext h.2 (fun u hu=>hok u (List.mem_cons_of_mem _ hu)) ha hm⟩
 |[],_::_,h,_,_,_=>h.elim
 |_::_,[],h,_,_,_=>h.elim
theorem RO {nb:Nat} {m:Nat->Nat}:∀{ds:List D} {vs:List V} {xs:List Value} {n:Nat} {ρ:Env},(∀v∈vs,V.ok n nb ρ v)->dK ρ m vs xs->ai S L (E3 ds vs) n ρ fun ad n' ls=>(∀x∈ls,I.aX n' x)/\av (bG ds) (ls.map (·.den ad))/\lW ds (ls.map (·.den ad))=xs
 |[],[],[],n,ρ,_,_=>ai.pure ⟨fun _ h=>by simp at h,trivial,rfl⟩
 |d::ds,v::vs,x::xs,n,ρ,hok,hr=>by
  unfold E3
  refine(ac4 (nb:=nb) (hok v (by simp)) hr.1).bind fun ax n1 a eL dw ⟨p0,p1,p2,p3⟩=>(RO (ds:=ds) (vs:=vs) (fun u hu=>(hok u (List.mem_cons_of_mem _ hu)).ext dw eL (Nat.le_refl _)) (dK.ext hr.2 (fun u hu=>hok u (List.mem_cons_of_mem _ hu)) dw (fun _ _=>rfl))).bind fun bC dM b dU dd ⟨kg,bo,bQ⟩=>ai.pure ⟨fun y hy=>?_,?_,?_⟩
  ·rcases List.mem_append.1 hy with hy|hy
   ·exact(p0 y hy).mono dU
   ·exact kg y hy
  ·have e:a.map (·.den bC)=a.map (·.den ax):=List.map_congr_left fun y hy=>I.bA dd (p0 y hy)
   rw[List.map_append,e];exact nV p2 bo
  ·have e:a.map (·.den bC)=a.map (·.den ax):=List.map_congr_left fun y hy=>I.bA dd (p0 y hy)
   rw[List.map_append,e]
   simp only[lW,p3]
   rw[show d.num=(a.map (·.den ax)).length by simp[p1],List.drop_left,bQ]
 |[],_::_,_,_,_,_,_=>ai.fail
 |_::_,[],_,_,_,_,_=>ai.fail
 |[],[],_::_,_,_,_,hr=>hr.elim
 |_::_,_::_,[],_,_,_,hr=>hr.elim
end
section
variable {S:Nat->List Int->List Int->Prop} {P:Program} {gl:dz} {w0:de}
theorem II {L:V->Env->Prop} {id:Nat} {l:List I} {n:Nat} {bds:List (Int×Int)} {r:T} {G:dt} {ρ:Env} (h:(T.call id l n bds r).holds S L G ρ) {rs:List Int} (hi:av bds rs) (hs:S id (l.map (·.den ρ)) rs):r.holds S L G (bq ρ n rs):=
 jB h hi hs
theorem Mx {ρ:Env} {m:Nat->Nat} {N nb:Nat} {ds:List D} {s:Nat} {zs:List Int} (h:av (bG ds) zs) (ha:fQ ρ s zs) (hN:s+(bG ds).length<=N):(Ah ds s).ok N nb ρ/\(Ah ds s).rel ρ m (gx ds zs):=by
 have hs:=Nb (m:=m) (nb:=nb) ds h ha hN
 unfold Ah gx
 rw[<-hs.2]
 split
 ·rename_i u heq
  rw[heq]at hs
  rw[heq]
  exact⟨hs.1 u (by simp),rfl⟩
 ·rename_i l hne
  refine⟨hs.1,?_⟩
  split
  ·rename_i x heq
   have:∃u,sR s ds=[u]:=by
    cases hl:sR s ds with
    |nil=>rw[hl]at heq;simp at heq
    |cons u r=>
     cases r with
     |nil=>exact⟨u,rfl⟩
     |cons _ _=>rw[hl]at heq;simp at heq
   obtain⟨u,hu⟩:=this
   exact absurd hu (hne u)
  ·rfl
def aR.cU (P:Program) (wb:World) (c:aR) (spec:List Int->List Int->Prop):Prop:=
 ∀zs,av (bG c.args) zs->∃rs,av (bG c.res) rs/\spec zs rs/\∀w,wb.Extends w->wa P c.f (lW c.args zs).toArray w (gx c.res rs)
theorem aR.cf.f {wb:World} {c:aR} {spec:List Int->List Int->Prop} (h:c.cf P wb spec):c.cU P wb spec:=fun zs hz=>by
 obtain⟨rs,h1,h2,h3⟩:=h.2 zs hz
 exact⟨rs,h1,h2,fun w hw=> .inr ⟨h.1 _ _,h3 w hw⟩⟩
theorem aR.snd {c:aR} {spec:List Int->List Int->Prop} (hc:c.cU P w0.b spec) (cZ:∀zs rs,spec zs rs->S c.id zs rs) (L:V->Env->Prop) (n:Nat) (ρ:Env) (m:Nat->Nat) (bl:List aq) (vs:List V) (xs:List Value)
 (nU:∀v∈vs,V.ok n bl.length ρ v) (hr:dK ρ m vs xs):ai S L (c.M bl vs) n ρ fun ad n' v=>v.ok n' bl.length ad/\∃val,v.rel ad m val/\∀w,Mem w0 ρ m bl w->wa P c.f xs.toArray w val:=by
 intro G k hk
 unfold aR.M at hk
 cases hl:oH c.args vs with
 |none=>
  simp only[hl]at hk
  obtain⟨ax,n1,l,eL,dw,⟨_,h1,h2⟩,hk⟩:=RO (S:=S) (L:=L) (nb:=bl.length) nU hr G _ hk
  obtain⟨rs,r1,r2,cX⟩:=hc _ h1
  have hh:=II hk r1 (cZ _ _ r2)
  have hlen:=lP r1
  have kb:=Mx (m:=m) (nb:=bl.length) (N:=n1+(bG c.res).length) r1 (fQ.bq ax n1 rs) (Nat.le_refl _)
  refine⟨_,_,_,Nat.le_trans eL (Nat.le_add_right _ _),dw.trans (agree.bq rs n1 ax) eL,⟨kb.1,_,kb.2,fun w hw=>?_⟩,hh⟩
  rw[h2]at cX
  exact cX w hw.ext
 |some l=>
  simp only[hl]at hk
  obtain⟨h1,h2⟩:=Jw hl nU hr
  obtain⟨rs,r1,r2,cX⟩:=hc _ h1
  have hh:=II hk r1 (cZ _ _ r2)
  have hlen:=lP r1
  have kb:=Mx (m:=m) (nb:=bl.length) (N:=n+(bG c.res).length) r1 (fQ.bq ρ n rs) (Nat.le_refl _)
  refine⟨_,_,_,Nat.le_add_right _ _,agree.bq rs n ρ,⟨kb.1,_,kb.2,fun w hw=>?_⟩,hh⟩
  rw[h2]at cX
  exact cX w hw.ext
def ajs:List aq->List V->M V:=fun _ vs=>
 match vs with
 |[.w (.one (.int .u64 x)),.w (.one (.int .u64 y))]=>
  cond (decide (0<=x.lo)&&decide (x.hi<18446744073709551616)&&decide (0<=y.lo)&&decide (y.hi<18446744073709551616)) (bind (mulM x y) fun p=>bind (rT p 18446744073709551616) fun q=>
   pure (.e4 [.one (.int .u64 q),.one (.int .u64 ⟨p.l.sub (q.l.smul 18446744073709551616),0,18446744073709551615⟩)])) fail
 |_=>fail
def Zi:List aq->List V->M V:=fun _ vs=>
 match vs with
 |[.w (.one (.int .u64 x)),.w (.one (.int .u64 y)),.w (.one (.int .u64 c))]=>
  cond (decide (0<=x.lo)&&decide (0<=y.lo)&&decide (0<=c.lo)&&decide (c.hi<=1)) (bind (rT ⟨(x.l.add y.l).add c.l,x.lo+y.lo+c.lo,x.hi+y.hi+c.hi⟩ 18446744073709551616) fun q=>
   pure (.e4 [.one (.int .u64 ⟨((x.l.add y.l).add c.l).sub (q.l.smul 18446744073709551616),0,18446744073709551615⟩),.one (.int .u64 q)])) fail
 |_=>fail
def aok:List aq->List V->M V:=fun _ vs=>
 match vs with
 |[.w (.one (.int .u64 x)),.w (.one (.int .u64 y)),.w (.one (.int .u64 c))]=>
  cond (decide (0<=x.lo)&&decide (x.hi<18446744073709551616)&&decide (0<=y.lo)&&decide (y.hi<18446744073709551616)&&decide (0<=c.lo)&&decide (c.hi<=1)) (bind (rT ⟨(x.l.sub y.l).sub c.l,x.lo-y.hi-c.hi,x.hi-y.lo-c.lo⟩ 18446744073709551616) fun q=>
   pure (.e4 [.one (.int .u64 ⟨((x.l.sub y.l).sub c.l).sub (q.l.smul 18446744073709551616),0,18446744073709551615⟩),.one (.int .u64 ⟨q.l.smul (-1),0,1⟩)])) fail
 |_=>fail
def PM (P:Program) (f:FuncId):Prop:=∀x y:Int,0<=x->x<18446744073709551616->0<=y->y<18446744073709551616->∀w,wa P f #[.int .u64 x,.int .u64 y] w (.tuple #[.int .u64 (x*y/18446744073709551616),.int .u64 (x*y% 18446744073709551616)])
def Ob (P:Program) (f:FuncId):Prop:=∀x y c:Int,0<=x->0<=y->0<=c->c<=1->∀w,wa P f #[.int .u64 x,.int .u64 y,.int .u64 c] w (.tuple #[.int .u64 ((x+y+c)% 18446744073709551616),.int .u64 ((x+y+c)/18446744073709551616)])
variable {L:V->Env->Prop} {n:Nat} {ρ:Env} {m:Nat->Nat} {bl:List aq} {vs:List V} {xs:List Value}
end
end Go.bj

/- A contract out of a tree. -/
set_option linter.unusedVariables false
set_option linter.unusedSimpArgs false
namespace Go.bj
open M
theorem Ei:∀{b:List (Int×Int)} {P Q:List Int->Prop},(∀rs,P rs->Q rs)->l4 b P->l4 b Q
 |[],_,_,h,hp=>h _ hp
 |(l,u)::b,P,Q,h,hp=>fun r h1 h2=>Ei (b:=b) (P:=fun rs=>P (r::rs)) (Q:=fun rs=>Q (r::rs)) (fun rs=>h (r::rs)) (hp r h1 h2)
theorem qm:∀{b:List (Int×Int)} {P:List Int->Prop},(∀rs,av b rs->P rs)->l4 b P
 |[],_,h=>h [] trivial
 |(l,u)::b,P,h=>fun r h1 h2=>qm (b:=b) (P:=fun rs=>P (r::rs)) fun rs hi=>h (r::rs) ⟨h1,h2,hi⟩
theorem gW {S:Nat->List Int->List Int->Prop} {L PD:V->Env->Prop} (h:∀v ρ,L v ρ->PD v ρ):∀(t:T) (G:dt) (ρ:Env),t.holds S L G ρ->t.holds S PD G ρ
 | .stuck,_,_,hh=>hh
 | .leaf v,_,ρ,hh=>h v ρ hh
 | .div n x d lo hi r,G,ρ,hh=>fun q h1 h2 h3 h4=>gW h r G _ (hh q h1 h2 h3 h4)
 | .mul n x y lo hi r,G,ρ,hh=>fun q h1 h2 h3=>gW h r G _ (hh q h1 h2 h3)
 | .bit n op k x y r,G,ρ,hh=>fun q h1 h2 h3=>gW h r G _ (hh q h1 h2 h3)
 | .shr n x y lo hi r,G,ρ,hh=>fun q h1 h2 h3=>gW h r G _ (hh q h1 h2 h3)
 | .sO n cs aJ lo hi r,G,ρ,hh=>fun q h1 h2 h3=>gW h r G _ (hh q h1 h2 h3)
 | .nK b t e,G,ρ,hh=>⟨fun hb=>gW h t G ρ (hh.1 hb),fun hb=>gW h e G ρ (hh.2 hb)⟩
 | .call id args n bds r,G,ρ,hh=>Ei (fun rs hr hs=>gW h r G _ (hr hs)) hh
 | .loop gX init n bds r,G,ρ,hh=>by
  obtain⟨gn,iR,h1,h2⟩:=hh
  exact⟨gn,iR,h1,Ei (fun zs hz hI=>gW h r _ _ (hz hI)) h2⟩
 | .again gX vals,G,ρ,hh=>hh
 | .both x y,G,ρ,hh=>⟨gW h x G ρ hh.1,gW h y G ρ hh.2⟩
 | .fn n op args lo hi r,G,ρ,hh=>fun q h1 h2 h3=>gW h r G _ (hh q h1 h2 h3)
 | .l7 op args r,G,ρ,hh=>⟨hh.1,gW h r G ρ hh.2⟩
 | .om n lo hi r,G,ρ,hh=>fun z h1 h2=>gW h r G _ (hh z h1 h2)
 | .nat n r,G,ρ,hh=>fun z h1=>gW h r G _ (hh z h1)
 | .oB op args r,G,ρ,hh=>fun h1=>gW h r G ρ (hh h1)
 | .ind n b r,G,ρ,hh=>fun z h1 h2 h3=>gW h r G _ (hh z h1 h2 h3)
def T.plain:T->Bool
 |stuck=>true
 |leaf _=>true
 |fn _ _ _ _ _ r|l7 _ _ r|ind _ _ r|div _ _ _ _ _ r|mul _ _ _ _ _ r|bit _ _ _ _ _ r|shr _ _ _ _ _ r|sO _ _ _ _ _ r|call _ _ _ _ r=>r.plain
 |nK _ t e=>t.plain&&e.plain
 |loop .. =>false
 |again .. =>false
 |both .. =>false
 |om .. =>false
 |nat .. =>false
 |oB .. =>false
def Path (S:Nat->List Int->List Int->Prop):T->Env->V->Env->Prop
 | .stuck,_,_,_=>False
 | .leaf v,ρ,v',ad=>v'=v/\ad=ρ
 | .div n x d lo hi r,ρ,v,ad=>∃q,0<=x.den ρ-d*q/\x.den ρ-d*q<d/\Path S r (cJ ρ n q) v ad
 | .mul n x y lo hi r,ρ,v,ad=>Path S r (cJ ρ n (x.den ρ*y.den ρ)) v ad
 | .bit n op k x y r,ρ,v,ad=>Path S r (cJ ρ n (cc op k (x.den ρ) (y.den ρ))) v ad
 | .shr n x y lo hi r,ρ,v,ad=>Path S r (cJ ρ n (x.den ρ/2^(y.den ρ).toNat)) v ad
 | .sO n cs aJ lo hi r,ρ,v,ad=>Path S r (cJ ρ n ((cs.map (·.den ρ)).getD (aJ.den ρ).toNat 0)) v ad
 | .nK b t e,ρ,v,ad=>(b.den ρ=true/\Path S t ρ v ad)∨(b.den ρ=false/\Path S e ρ v ad)
 | .call id args n bds r,ρ,v,ad=>∃rs,S id (args.map (·.den ρ)) rs/\Path S r (bq ρ n rs) v ad
 | .loop ..,_,_,_=>False
 | .again ..,_,_,_=>False
 | .both ..,_,_,_=>False
 | .om ..,_,_,_=>False
 | .nat ..,_,_,_=>False
 | .oB ..,_,_,_=>False
 | .ind n b r,ρ,v,ad=>Path S r (cJ ρ n (cond (b.den ρ) 1 0)) v ad
 | .fn n op args lo hi r,ρ,v,ad=>Path S r (cJ ρ n (aA op (args.map (·.den ρ)))) v ad
 | .l7 op args r,ρ,v,ad=>Path S r ρ v ad
theorem pO {S:Nat->List Int->List Int->Prop} {L:V->Env->Prop}:∀(t:T) (G:dt) (ρ:Env),t.plain=true->t.holds S L G ρ->t.holds S (fun v ad=>L v ad/\Path S t ρ v ad) G ρ
 | .stuck,_,_,_,hh=>hh
 | .leaf v,_,ρ,_,hh=>⟨hh,rfl,rfl⟩
 | .div n x d lo hi r,G,ρ,hp,hh=>fun q h1 h2 h3 h4=>gW (fun v ad h=>⟨h.1,q,h3,h4,h.2⟩) r G _ (pO r G _ hp (hh q h1 h2 h3 h4))
 | .mul n x y lo hi r,G,ρ,hp,hh=>fun q h1 h2 h3=>gW (fun v ad h=>⟨h.1,by subst h3;exact h.2⟩) r G _ (pO r G _ hp (hh q h1 h2 h3))
 | .bit n op k x y r,G,ρ,hp,hh=>fun q h1 h2 h3=>gW (fun v ad h=>⟨h.1,by subst h3;exact h.2⟩) r G _ (pO r G _ hp (hh q h1 h2 h3))
 | .shr n x y lo hi r,G,ρ,hp,hh=>fun q h1 h2 h3=>gW (fun v ad h=>⟨h.1,by subst h3;exact h.2⟩) r G _ (pO r G _ hp (hh q h1 h2 h3))
 | .sO n cs aJ lo hi r,G,ρ,hp,hh=>fun q h1 h2 h3=>gW (fun v ad h=>⟨h.1,by subst h3;exact h.2⟩) r G _ (pO r G _ hp (hh q h1 h2 h3))
 | .nK b t e,G,ρ,hp,hh=>by
  simp only[T.plain,Bool.and_eq_true]at hp
  exact⟨fun hb=>gW (fun v ad h=>⟨h.1,.inl ⟨hb,h.2⟩⟩) t G ρ (pO t G ρ hp.1 (hh.1 hb)),fun hb=>gW (fun v ad h=>⟨h.1,.inr ⟨hb,h.2⟩⟩) e G ρ (pO e G ρ hp.2 (hh.2 hb))⟩
 | .call id args n bds r,G,ρ,hp,hh=>Ei (fun rs hr hs=>gW (fun v ad h=>⟨h.1,rs,hs,h.2⟩) r G _ (pO r G _ hp (hr hs))) hh
 | .loop ..,_,_,hp,_=>by simp[T.plain]at hp
 | .again ..,_,_,hp,_=>by simp[T.plain]at hp
 | .both ..,_,_,hp,_=>by simp[T.plain]at hp
 | .om ..,_,_,hp,_=>by simp[T.plain]at hp
 | .nat ..,_,_,hp,_=>by simp[T.plain]at hp
 | .oB ..,_,_,hp,_=>by simp[T.plain]at hp
 | .ind n b r,G,ρ,hp,hh=>fun q h1 h2 h3=>gW (fun v ad h=>⟨h.1,by
  have:q=cond (b.den ρ) 1 0:=by rw[h3];by_cases hq:q=1<;>simp[hq]<;>omega
  rw[this]at h;exact h.2⟩) r G _ (pO r G _ hp (hh q h1 h2 h3))
 | .fn n op args lo hi r,G,ρ,hp,hh=>fun q h1 h2 h3=>gW (fun v ad h=>⟨h.1,by subst h3;exact h.2⟩) r G _ (pO r G _ hp (hh q h1 h2 h3))
 | .l7 op args r,G,ρ,hp,hh=>⟨hh.1,gW (fun v ad h=>⟨h.1,h.2⟩) r G ρ (pO r G ρ hp hh.2)⟩
theorem am2 {x d q q':Int} (h1:0<=x-d*q) (h2:x-d*q<d) (h3:0<=x-d*q') (h4:x-d*q'<d):q=q':=by
 have hd:0<d:=by omega
 have e1:x/d=q:=by
  rw[Int.ediv_eq_iff_of_pos hd];constructor<;>rw[Int.mul_comm]<;>(try rw[Int.mul_add])<;>omega
 have e2:x/d=q':=by
  rw[Int.ediv_eq_iff_of_pos hd];constructor<;>rw[Int.mul_comm]<;>(try rw[Int.mul_add])<;>omega
 omega
theorem p4 {S:Nat->List Int->List Int->Prop} (cZ:∀id a rs bN,S id a rs->S id a bN->rs=bN):∀(t:T) (ρ:Env) {v v':V} {ax bC:Env},Path S t ρ v ax->Path S t ρ v' bC->v=v'/\ax=bC
 | .stuck,_,_,_,_,_,h,_=>h.elim
 | .leaf v,_,_,_,_,_,h,h'=>⟨h.1.trans h'.1.symm,h.2.trans h'.2.symm⟩
 | .div n x d lo hi r,ρ,_,_,_,_,⟨q,a1,a2,a3⟩,⟨q',b1,b2,b3⟩=>by
  have:=am2 a1 a2 b1 b2
  subst this
  exact p4 cZ r _ a3 b3
 | .mul n x y lo hi r,ρ,_,_,_,_,h,h'=>p4 cZ r _ h h'
 | .bit n op k x y r,ρ,_,_,_,_,h,h'=>p4 cZ r _ h h'
 | .shr n x y lo hi r,ρ,_,_,_,_,h,h'=>p4 cZ r _ h h'
 | .sO n cs aJ lo hi r,ρ,_,_,_,_,h,h'=>p4 cZ r _ h h'
 | .nK b t e,ρ,_,_,_,_,h,h'=>by
  rcases h with⟨h1,h2⟩|⟨h1,h2⟩<;>rcases h' with⟨h3,h4⟩|⟨h3,h4⟩
  ·exact p4 cZ t ρ h2 h4
  ·rw[h1]at h3;cases h3
  ·rw[h1]at h3;cases h3
  ·exact p4 cZ e ρ h2 h4
 | .call id args n bds r,ρ,_,_,_,_,⟨rs,a1,a2⟩,⟨bN,b1,b2⟩=>by
  have:=cZ _ _ _ _ a1 b1
  subst this
  exact p4 cZ r _ a2 b2
 | .loop ..,_,_,_,_,_,h,_=>h.elim
 | .again ..,_,_,_,_,_,h,_=>h.elim
 | .both ..,_,_,_,_,_,h,_=>h.elim
 | .om ..,_,_,_,_,_,h,_=>h.elim
 | .nat ..,_,_,_,_,_,h,_=>h.elim
 | .oB ..,_,_,_,_,_,h,_=>h.elim
 | .ind n b r,ρ,_,_,_,_,h,h'=>p4 cZ r _ h h'
 | .fn n op args lo hi r,ρ,_,_,_,_,h,h'=>p4 cZ r _ h h'
 | .l7 op args r,ρ,_,_,_,_,h,h'=>p4 cZ r _ h h'
inductive O where
 |l (x:I)
 |b (x:aT)
def O.den (ρ:Env):O->Int
 |l x=>x.den ρ
 |b x=>cond (x.den ρ) 1 0
def ia (k:IntKind):List A->Option (List O)
 |[]=>some []
 | .int aQ x::r=>cond (decide (k=aQ)) (match ia k r with|some l=>some (.l x.l::l)|none=>none) none
 |_::_=>none
def aw.out:aw->A->Option O
 | .int k _ _,.int aQ x=>cond (decide (k=aQ)) (some (.l x.l)) none
 | .str,.str l=>some (.l l)
 | .bool,.bool e=>some (.b e)
 |_,_=>none
def oc:List aw->List A->Option (List O)
 |[],[]=>some []
 |c::d,a::r=>match c.out a,oc d r with|some o,some l=>some (o::l)|_,_=>none
 |_,_=>none
def tW:D->W->Option (List O)
 | .int k _ _,.one (.int aQ x)=>cond (decide (k=aQ)) (some [.l x.l]) none
 | .bool,.one (.bool x)=>some [.b x]
 | .agg k n _ _,.agg l=>cond (Nat.beq l.length n) (ia k l) none
 | .str,.one (.str l)=>some [.l l]
 | .mix d,.agg l=>oc d l
 |_,_=>none
def vA:List D->List W->Option (List O)
 |[],[]=>some []
 |d::r,w::s=>match tW d w,vA r s with|some a,some b=>some (a++b)|_,_=>none
 |_,_=>none
def outs (ds:List D):V->Option (List O)
 | .w u=>match ds with|[d]=>tW d u|_=>none
 | .e4 l=>match ds with|[_]=>none|_=>vA ds l
 |_=>none
def ov (ds:List D) (K:List Int->Prop) (v:V) (ρ:Env):Prop:=
 match outs ds v with
 |some os=>K (os.map (O.den ρ))
 |none=>False
theorem Vr {ρ:Env} {m:Nat->Nat} {k:IntKind}:∀{l:List A} {os:List O},ia k l=some os->os.length=l.length/\l.map (A.den ρ m)=(os.map (O.den ρ)).map (.int k)
 |[],os,h=>by simp[ia]at h;subst h;exact⟨rfl,rfl⟩
 | .int aQ x::r,os,h=>by
  simp only[ia]at h
  by_cases hk:k=aQ
  ·simp only[hk,decide_true,cond_true]at h
   cases hr:ia aQ r with
   |none=>simp[hr]at h
   |some o=>
    simp only[hr,Option.some.injEq]at h
    subst h
    subst hk
    obtain⟨h1,h2⟩:=Vr (ρ:=ρ) (m:=m) hr
    exact⟨by simp[h1],by simp only[List.map_cons,h2,A.den,O.den]⟩
  ·simp[hk]at h
 | .bool _::_,_,h=>by simp[ia]at h
 | .ptr .. ::_,_,h=>by simp[ia]at h
 | .lq .. ::_,_,h=>by simp[ia]at h
 | .gptr .. ::_,_,h=>by simp[ia]at h
 | .slc .. ::_,_,h=>by simp[ia]at h
 | .con _::_,_,h=>by simp[ia]at h
 | .str _::_,_,h=>by simp[ia]at h
theorem aw.ak4 {ρ:Env} {m:Nat->Nat} {c:aw} {a:A} {o:O} (h:c.out a=some o):a.den ρ m=c.val (o.den ρ):=by
 unfold aw.out at h
 split at h
 ·rename_i k lo hi aQ x
  by_cases hk:k=aQ
  ·subst hk
   simp only[decide_true,cond_true,Option.some.injEq]at h
   subst h;rfl
  ·simp[hk]at h
 ·simp only[Option.some.injEq]at h;subst h;rfl
 ·rename_i e
  simp only[Option.some.injEq]at h;subst h
  have hb:∀b:Bool,Value.bool b=Value.bool (decide ((cond b 1 0:Int)=1)):=by intro b;cases b<;>rfl
  exact hb (e.den ρ)
 ·cases h
theorem Vu {ρ:Env} {m:Nat->Nat}:∀{d:List aw} {l:List A} {os:List O},oc d l=some os->os.length=d.length/\l.map (A.den ρ m)=List.zipWith aw.val d (os.map (O.den ρ))
 |[],[],os,h=>by simp[oc]at h;subst h;exact⟨rfl,rfl⟩
 |c::d,a::r,os,h=>by
  simp only[oc]at h
  cases h1:c.out a with
  |none=>simp[h1]at h
  |some o=>
   cases hr:oc d r with
   |none=>simp[h1,hr]at h
   |some l=>
    simp only[h1,hr,Option.some.injEq]at h
    subst h
    obtain⟨p1,p2⟩:=Vu (ρ:=ρ) (m:=m) hr
    exact⟨by simp[p1],by simp only[List.map_cons,p2,aw.ak4 h1,List.zipWith_cons_cons]⟩
 |[],_::_,_,h=>by simp[oc]at h
 |_::_,[],_,h=>by simp[oc]at h
theorem Me {ρ:Env} {m:Nat->Nat} {d:D} {u:W} {os:List O} (h:tW d u=some os):os.length=d.num/\∀zs,d.val (os.map (O.den ρ)++zs)=u.den ρ m:=by
 unfold tW at h
 split at h
 ·rename_i k _ _ aQ x
  by_cases hk:k=aQ
  ·subst hk
   simp only[decide_true,cond_true,Option.some.injEq]at h
   subst h
   exact⟨rfl,fun zs=>by simp[D.val,W.den,A.den,O.den]⟩
  ·simp[hk]at h
 ·rename_i x
  simp only[Option.some.injEq]at h
  subst h
  exact⟨rfl,fun zs=>by cases hx:x.den ρ<;>simp[D.val,W.den,A.den,O.den,hx]⟩
 ·rename_i k n' _ _ l
  cases hc:Nat.beq l.length n' with
  |false=>simp[hc]at h
  |true=>
   simp only[hc,cond_true]at h
   have hl:=Nat.eq_of_beq_eq_true hc
   subst hl
   obtain⟨h1,h2⟩:=Vr (ρ:=ρ) (m:=m) h
   exact⟨h1,fun zs=>by simp only[D.val,W.den,h2];rw[List.take_append_of_le_length (by simp[h1]),List.take_of_length_le (by simp[h1])]⟩
 ·simp only[Option.some.injEq]at h;subst h
  exact⟨rfl,fun zs=>rfl⟩
 ·rename_i d l
  obtain⟨h1,h2⟩:=Vu (ρ:=ρ) (m:=m) h
  refine⟨h1,fun zs=>?_⟩
  simp only[D.val,W.den,h2]
  congr 2
  have key:∀(a:List aw) (b c:List Int),b.length=a.length->List.zipWith aw.val a (b++c)=List.zipWith aw.val a b:=by
   intro a
   induction a with
   |nil=>intro b c _;simp
   |cons p a ih=>
    intro b c hb
    cases b with
    |nil=>simp at hb
    |cons z b=>simp[ih b c (by simpa using hb)]
  exact key _ _ _ (by simp[h1])
 ·cases h
theorem Vs {ρ:Env} {m:Nat->Nat}:∀{ds:List D} {l:List W} {os:List O},vA ds l=some os->lW ds (os.map (O.den ρ))=l.map (W.den ρ m)
 |[],[],os,h=>by simp[vA]at h;subst h;rfl
 |d::ds,u::l,os,h=>by
  simp only[vA]at h
  cases h1:tW d u with
  |none=>simp[h1]at h
  |some a=>
   cases h2:vA ds l with
   |none=>simp[h1,h2]at h
   |some b=>
    simp only[h1,h2,Option.some.injEq]at h
    subst h
    obtain⟨p1,p2⟩:=Me (ρ:=ρ) (m:=m) h1
    rw[List.map_append]
    simp only[lW,p2,List.map_cons]
    rw[show d.num=(a.map (O.den ρ)).length by simp[p1],List.drop_left,Vs h2]
 |[],_::_,_,h=>by simp[vA]at h
 |_::_,[],_,h=>by simp[vA]at h
theorem aq9 (ds:List D):∀zs,(lW ds zs).length=ds.length:=by
 induction ds with
 |nil=>intro zs;rfl
 |cons d r ih=>intro zs;simp[lW,ih]
theorem wq {ds:List D} {K:List Int->Prop} {v:V} {ρ:Env} {m:Nat->Nat} {val:Value} (h:ov ds K v ρ) (hr:v.rel ρ m val):∃rs,K rs/\val=gx ds rs:=by
 unfold ov at h
 cases ho:outs ds v with
 |none=>simp[ho]at h
 |some os=>
  simp only[ho]at h
  refine⟨_,h,?_⟩
  unfold outs at ho
  cases v with
  |any=>cases ho
  |mi _ _ _=>cases ho
  |mB _ _=>cases ho
  |w u=>
   simp only at ho
   split at ho
   ·rename_i d
    obtain⟨p1,p2⟩:=Me (ρ:=ρ) (m:=m) ho
    simp only[V.rel]at hr
    have:=p2 []
    rw[List.append_nil]at this
    simp[gx,lW,this,hr]
   ·cases ho
  |e4 l=>
   simp only at ho
   split at ho
   ·cases ho
   ·rename_i hne
    have:=Vs (ρ:=ρ) (m:=m) ho
    simp only[V.rel]at hr
    unfold gx
    split
    ·rename_i x heq
     exfalso
     have hl:=aq9 ds (os.map (O.den ρ))
     rw[heq]at hl
     match ds,hl with
     |[d],_=>exact hne d rfl
    ·rw[hr,this]
noncomputable def axm (cons:List aR) (aju Zk aol:FuncId):dQ:=fun f=>
 cond (Nat.beq f aju) (some ajs) <| cond (Nat.beq f Zk) (some Zi) <| cond (Nat.beq f aol) (some aok) <|
 match cons.find? (fun c=>Nat.beq f c.f)with
 |some c=>some c.M
 |none=>none
section
variable {S:Nat->List Int->List Int->Prop} {P:Program} {gl:dz} {wb:World}
noncomputable def EH (cons:List aR):dQ:=fun f=>
 match cons.filter (fun c=>Nat.beq f c.f)with
 |[]=>none
 |l=>some fun bl vs n k=>match l.find? (fun c=>(oH c.args vs).isSome)with
  |some c=>c.M bl vs n k
  |none=>match l with
   |c::_=>c.M bl vs n k
   |[]=> .stuck
theorem Q2 {w0:de} {cons:List aR} (hc:∀c∈cons,c.cU P w0.b (S c.id)):e7 S P gl w0 (EH cons):=by
 intro f g oP L n ρ m bl vs xs h1 h2 h3 h4
 unfold EH at oP
 split at oP
 ·cases oP
 ·rename_i l hl
  simp only[Option.some.injEq]at oP
  subst oP
  intro G k hk
  simp only at hk
  split at hk
  ·rename_i c J8
   have hin:=List.mem_filter.1 (List.mem_of_find?_eq_some J8)
   have Cf:=Nat.eq_of_beq_eq_true hin.2
   subst Cf
   exact aR.snd (hc c hin.1) (fun _ _ h=>h) L n ρ m bl vs xs h3 h4 G k hk
  ·split at hk
   ·rename_i c r mF
    have hin:=List.mem_filter.1 (show c∈cons.filter (fun c=>Nat.beq f c.f) from by rw[mF];exact List.mem_cons_self (a:=c) (l:=r))
    have Cf:=Nat.eq_of_beq_eq_true hin.2
    subst Cf
    exact aR.snd (hc c hin.1) (fun _ _ h=>h) L n ρ m bl vs xs h3 h4 G k hk
   ·exact hk.elim
theorem Calls.some {f:FuncId} {args:Array Value} {w:World} {R:Ending->World->Prop} (h:Calls P f args w R):∃e w',R e w':=by
 obtain⟨e,w',uW,h1,_⟩:=h []
 exact⟨e,w',h1⟩
noncomputable def aR.tree (P:Program) (gl:dz) (cal:dQ) (li:FuncId->Nat->Option dj) (rounds d:Nat) (c:aR):T:=
 EI P gl cal li rounds d c.f (bG c.args).length ((sR 0 c.args).map V.w) [] fun _ v _=> .leaf v
theorem PJ {ρ:Env} {m:Nat->Nat}:∀(l:List W),dK ρ m (l.map V.w) (l.map (W.den ρ m))
 |[]=>trivial
 |_::r=>⟨rfl,PJ r⟩
theorem aR.calls {c:aR} {cal:dQ} {li:FuncId->Nat->Option dj} {rounds d:Nat} {L:V->Env->Prop} (hm:P.follows .mixedOrders=true) (cz:∀r ex ro,e7 S P gl ⟨wb,r,ex,ro,[]⟩ cal) (hg:bL gl ⟨wb,wb,fun _=>False,fun _=>False,[]⟩) {zs:List Int} (hz:av (bG c.args) zs)
 (ht:(c.tree P gl cal li rounds d).holds S L (fun _ _=>False) (bq (fun _=>0) 0 zs)) (w:World) (hw:wb.Extends w):
 Calls P c.f (lW c.args zs).toArray w fun e w'=>∃v ad m val,e= .returned val/\v.rel ad m val/\L v ad/\w.Extends w':=by
 have hs:=Nb (m:=fun _=>0) (nb:=0) (N:=(bG c.args).length) c.args hz (fQ.bq (fun _=>0) 0 zs) (by omega)
 have:=abK (L:=L) (b:=wb) (w:=w) hm (cz w _ _) hg c.f _ _ _ ((sR 0 c.args).map (W.den (bq (fun _=>0) 0 zs) fun _=>0)) hw (fun v hv=>by
  obtain⟨u,hu,rfl⟩:=List.mem_map.1 hv
  exact hs.1 u hu) (PJ _) ht
 rw[hs.2]at this
 refine this.mono fun e w' ⟨v,ad,m,val,nb,h1,h2,_,h3,h4⟩=>⟨v,ad,m,val,h1,h2,h3,h4⟩
theorem aR.ajG {c:aR} {cal:dQ} {li:FuncId->Nat->Option dj} {rounds d:Nat} {spec:List Int->List Int->Prop} (hm:P.follows .mixedOrders=true) (cz:∀r ex ro,e7 S P gl ⟨wb,r,ex,ro,[]⟩ cal) (hg:bL gl ⟨wb,wb,fun _=>False,fun _=>False,[]⟩)
 (hf:∀args w,(callFunc c.f args).run P w= .ok (.enter c.f args) w) (cZ:∀id a rs bN,S id a rs->S id a bN->rs=bN) (hp:(c.tree P gl cal li rounds d).plain=true)
 (ht:∀zs,av (bG c.args) zs->(c.tree P gl cal li rounds d).holds S (ov c.res fun rs=>av (bG c.res) rs/\spec zs rs) (fun _ _=>False) (bq (fun _=>0) 0 zs)):c.cf P wb spec:=by
 refine⟨hf,fun zs hz=>?_⟩
 have jG:=pO _ _ _ hp (ht zs hz)
 have h0:=aR.calls hm cz hg hz jG wb (World.Extends.refl wb)
 obtain⟨e,w',v0,bK,m0,az9,h1,h2,⟨h3,uZ⟩,h4⟩:=Calls.some h0
 obtain⟨rs,⟨hb,hs⟩,hv⟩:=wq h3 h2
 refine⟨rs,hb,hs,fun w hw=>?_⟩
 refine(aR.calls hm cz hg hz jG w hw).mono fun e w' ⟨v,ad,m,val,g1,g2,⟨g3,adm⟩,g4⟩=>?_
 obtain⟨e1,e2⟩:=p4 cZ _ _ adm uZ
 subst e1;subst e2
 unfold ov at g3 h3
 have:val=gx c.res rs:=by
  cases ho:outs c.res v with
  |none=>simp[ho]at h3
  |some os=>
   have key:∀{m val},v.rel ad m val->val=gx c.res (os.map (O.den ad)):=fun{m val} hr=>by
    have hK:ov c.res (fun rs=>rs=os.map (O.den ad)) v ad:=by unfold ov;simp[ho]
    obtain⟨bN,ag5,hv⟩:=wq hK hr
    rw[hv,ag5]
   rw[key g2,<-key h2,hv]
 exact⟨by rw[g1,this],g4⟩
end
end Go.bj

/- Contracts of functions that read a slice of a block of one's own. -/
set_option linter.unusedVariables false
set_option linter.unusedSimpArgs false
namespace Go.bj
open M
structure asJ where
 f:FuncId
 id:Nat
 k:IntKind
 N:Nat
 lo:Int
 hi:Int
 ty:TypeId
 off:Nat
 len:Nat
 cap:Nat
 args:List D
 res:List D
section
variable {S:Nat->List Int->List Int->Prop} {P:Program} {gl:dz} {w0:de}
end
end Go.bj

/- The entries of math/bits; contracts out of conditions; digits. -/
set_option linter.unusedVariables false
set_option linter.unusedSimpArgs false
namespace Go.bj
theorem Zj {P:Program} {f:FuncId} {fn:Func} (hf:P.funcs[f]?=some fn) (Cx:(fn.name== "runtime.NumGoroutine")=false) (hb:fn.body.isNone=true) (hn:Extern.findNext fn=none) (he:Extern.find fn=some add64Entry):Ob P f:=by
 intro x y c hx hy hc hc1 w
 refine .inl ?_
 rw[run_callFunc_extern hf Cx hb hn he,run_add64 x y c hx hy hc hc1]
 rfl
def uY (P:Program) (f:FuncId):Bool:=match P.funcs[f]? with
 |some fn=> !(fn.name== "runtime.NumGoroutine")&&fn.body.isSome
 |none=>false
theorem enters {P:Program} {f:FuncId} (h:uY P f=true) (args:Array Value) (w:World):(callFunc f args).run P w= .ok (.enter f args) w:=by
 unfold uY at h
 cases hf:P.funcs[f]? with
 |none=>simp[hf]at h
 |some fn=>
  simp only[hf,Bool.and_eq_true,Bool.not_eq_true']at h
  have h1:fn.name≠ "runtime.NumGoroutine" :=by simpa using h.1
  obtain⟨c,hc⟩:=Option.isSome_iff_exists.1 h.2
  simp[callFunc,hf,h1,hc,Sem.run]
section
variable {S:Nat->List Int->List Int->Prop} {P:Program} {gl:dz} {wb:World}
end
def L0 (K:List Int->List Int->Prop):Prop:=
 ∀z0:Int,0<=z0->z0<=18446744073709551615->
 ∀ag:Int,0<=ag->ag<=18446744073709551615->
 ∀z2:Int,0<=z2->z2<=4294967295->0<=((1*z0+0)+0)-4294967296*z2->((1*z0+0)+0)-4294967296*z2<4294967296->
 ∀z3:Int,0<=z3->z3<=4294967295->0<=((1*z0+0)+0)-4294967296*z3->((1*z0+0)+0)-4294967296*z3<4294967296->
 ∀z4:Int,0<=z4->z4<=4294967295->0<=((1*ag+0)+0)-4294967296*z4->((1*ag+0)+0)-4294967296*z4<4294967296->
 ∀z5:Int,0<=z5->z5<=4294967295->0<=((1*ag+0)+0)-4294967296*z5->((1*ag+0)+0)-4294967296*z5<4294967296->
 ∀ao:Int,0<=ao->ao<=18446744065119617025->ao=((1*z0+((-4294967296)*z2+0))+0)*((1*ag+((-4294967296)*z4+0))+0)->
 ∀z7:Int,0<=z7->z7<=18446744065119617025->z7=((1*z3+0)+0)*((1*ag+((-4294967296)*z4+0))+0)->
 ∀au:Int,0<=au->au<=4294967294->0<=((1*ao+0)+0)-4294967296*au->((1*ao+0)+0)-4294967296*au<4294967296->
 ∀z9:Int,0<=z9->z9<=4294967294->0<=((1*z7+(1*au+0))+0)-4294967296*z9->((1*z7+(1*au+0))+0)-4294967296*z9<4294967296->
 ∀ay:Int,0<=ay->ay<=4294967294->0<=((1*z7+(1*au+0))+0)-4294967296*ay->((1*z7+(1*au+0))+0)-4294967296*ay<4294967296->
 ∀aS:Int,0<=aS->aS<=18446744065119617025->aS=((1*z0+((-4294967296)*z2+0))+0)*((1*z5+0)+0)->
 ∀z12:Int,0<=z12->z12<=18446744065119617025->z12=((1*z3+0)+0)*((1*z5+0)+0)->
 ∀ae:Int,0<=ae->ae<=4294967295->0<=((1*z7+(1*au+((-4294967296)*z9+(1*aS+0))))+0)-4294967296*ae->((1*z7+(1*au+((-4294967296)*z9+(1*aS+0))))+0)-4294967296*ae<4294967296->
 ∀ah:Int,0<=ah->ah<=340282366920938463426481119284349108225->ah=((1*z0+0)+0)*((1*ag+0)+0)->
 ∀aD:Int,0<=aD->aD<=18446744073709551614->0<=((1*ah+0)+0)-18446744073709551616*aD->((1*ah+0)+0)-18446744073709551616*aD<18446744073709551616->
 K [z0,ag] [((1*ay+(1*z12+(1*ae+0)))+0),((1*ah+((-18446744073709551616)*aD+0))+0)]
def wd:D:= .int .u64 0 18446744073709551615
def EG (f:FuncId):aR:=⟨f,0,[wd,wd],[wd,wd]⟩
theorem ajx (x y a b:Int):x*y=(x+(-4294967296)*a)*(y+(-4294967296)*b)+4294967296*(a*(y+(-4294967296)*b)+(x+(-4294967296)*a)*b)+18446744073709551616*(a*b):=by
 grind
theorem mulVC_holds:L0 fun zs rs=>av (bG [wd,wd]) rs/\rs=[zs.getD 0 0*zs.getD 1 0/18446744073709551616,zs.getD 0 0*zs.getD 1 0% 18446744073709551616]:=by
 unfold L0
 intro x h1 h2 y h3 h4 a h5 h6 h7 cv c7 bX dc eF fo b fW eh iG iU b6 j7 kt oI zb p m7 rZ r0 q r3 ku qx c zc r4 zd ze d tj wN zf oJ d' r5 nO u1 u2 r u3 u4 tk s pG nP tl t pH pI r6 qy m zg Sa E9 u Sb Sc Sd Se
 have e1:c7=a:=by omega
 have e2:b6=b:=by omega
 have bu:d'=d:=by omega
 subst e1;subst e2;subst bu
 simp only[Int.one_mul,Int.add_zero]at*
 have:=ajx x y c7 b6
 rw[<-E9,<-r0,<-qx,<-tk,<-tl]at this
 simp only[List.getD_cons_zero,List.getD_cons_succ,<-E9,bG,wd,D.bds,List.cons_append,List.nil_append,av,and_true,List.cons.injEq]
 omega
theorem ajt {P:Program} {f:FuncId} (hm:P.follows .mixedOrders=true) (hf:∀args w,(callFunc f args).run P w= .ok (.enter f args) w)
 (h:∀K,(l4 (bG (EG f).args) fun zs=>((EG f).tree P [] (fun _=>none) (fun _ _=>none) 600 6).holds (fun _ _ _=>True) (ov (EG f).res (K zs)) (fun _ _=>False) (bq (fun _=>0) 0 zs))=L0 K):PM P f:=by
 intro x y hx hx1 hy Ty w
 have hv:=mulVC_holds
 rw[<-h]at hv
 have hin:av (bG (EG f).args) [x,y]:=⟨hx,by omega,hy,by omega,trivial⟩
 refine .inr ⟨hf _ _,?_⟩
 have:=aR.calls (wb:=w) hm (fun r ex ro f g oP=>by cases oP) (fun g cs hg=>by cases hg) hin (jB hv hin) w (World.Extends.refl w)
 refine this.mono fun e w' ⟨v,ad,m,val,h1,h2,h3,h4⟩=>?_
 obtain⟨rs,⟨_,hr⟩,hv⟩:=wq h3 h2
 rw[h1,hv,hr]
 exact⟨rfl,h4⟩
end Go.bj

/- Conditions by blocks: an array that a call hands back is one list; what is handed on whole is that list. -/
set_option linter.unusedVariables false
set_option linter.unusedSimpArgs false
namespace Go.bj
abbrev fS:=List (Nat×Nat)
abbrev fR:=List (List Int)
def pY:fS->fR->Nat->Int
 |(s,k)::st,l::aE,i=>cond (Nat.ble s i&&Nat.blt i (s+k)) (l.getD (i-s) 0) (pY st aE i)
 |_,_,_=>0
def LI:fS->fR->Prop
 |(_,k)::st,l::aE=>l.length=k/\LI st aE
 |[],[]=>True
 |_,_=>False
def l0 (ρ:Env) (st:fS) (aE:fR):Prop:=LI st aE/\∀i,ρ i=pY st aE i
def yT (st:fS) (aE:fR):List (Int×Nat)->Int
 |[]=>0
 |(k,i)::r=>match r with
  |[]=>cond (k==1) (pY st aE i) (k*pY st aE i)
  |_=>cond (k==1) (pY st aE i) (k*pY st aE i)+yT st aE r
def I.dY (st:fS) (aE:fR) (l:I):Int:=
 match l.ts with
 |[]=>l.c
 |ts=>cond (l.c==0) (yT st aE ts) (yT st aE ts+l.c)
theorem Rf {ρ:Env} {st:fS} {aE:fR} (h:∀i,ρ i=pY st aE i):∀ts,yT st aE ts=fV ρ ts
 |[]=>rfl
 |(k,i)::[]=>by
  simp only[yT,fV,<-h i]
  cases hk:(k==1)with
  |true=>have:k=1:=by simpa using hk
         subst this;simp
  |false=>simp
 |(k,i)::t::r=>by
  have ih:=Rf h (t::r)
  rw[yT,fV,ih,<-h i]
  ·cases hk:(k==1)with
   |true=>have:k=1:=by simpa using hk
          subst this;simp
   |false=>simp
  ·intro hc;cases hc
theorem I.hU {ρ:Env} {st:fS} {aE:fR} (h:∀i,ρ i=pY st aE i) (l:I):l.dY st aE=l.den ρ:=by
 unfold I.dY I.den
 cases hl:l.ts with
 |nil=>simp[fV]
 |cons t r=>
  simp only[Rf h]
  cases hc:(l.c==0)with
  |true=>have:l.c=0:=by simpa using hc
         rw[this];simp
  |false=>simp
def wI:fS->fR->Nat->Nat->Option (List Int)
 |(s,k)::st,l::aE,i,len=>cond (Nat.beq s i&&Nat.beq k len) (some l) (cond (Nat.ble (i+len) s||Nat.ble (s+k) i) (wI st aE i len) none)
 |_,_,_,_=>none
theorem RD:∀{st:fS} {aE:fR} {i len:Nat} {l:List Int},wI st aE i len=some l->LI st aE->l.length=len/\∀j,j<len->pY st aE (i+j)=l.getD j 0
 |[],_,_,_,_,h,_=>by simp[wI]at h
 |_::_,[],_,_,_,h,_=>by simp[wI]at h
 |(s,k)::st,bx::aE,i,len,l,h,hl=>by
  unfold wI at h
  cases h1:(Nat.beq s i&&Nat.beq k len)with
  |true=>
   simp only[h1,cond_true,Option.some.injEq]at h
   subst h
   simp only[Bool.and_eq_true]at h1
   have e1:=Nat.eq_of_beq_eq_true h1.1
   have e2:=Nat.eq_of_beq_eq_true h1.2
   subst e1;subst e2
   refine⟨hl.1,fun j hj=>?_⟩
   unfold pY
   have:(Nat.ble s (s+j)&&Nat.blt (s+j) (s+k))=true:=by simp[Nat.blt];omega
   rw[this,cond_true,Nat.add_sub_cancel_left]
  |false=>
   simp only[h1,cond_false]at h
   cases h2:(Nat.ble (i+len) s||Nat.ble (s+k) i)with
   |false=>simp[h2]at h
   |true=>
    simp only[h2,cond_true]at h
    obtain⟨g1,g2⟩:=RD h hl.2
    refine⟨g1,fun j hj=>?_⟩
    rw[<-g2 j hj]
    conv=>lhs;unfold pY
    have:(Nat.ble s (i+j)&&Nat.blt (i+j) (s+k))=false:=by
     simp only[Bool.or_eq_true,Nat.ble_eq]at h2
     cases h3:(Nat.ble s (i+j)&&Nat.blt (i+j) (s+k))with
     |false=>rfl
     |true=>simp[Nat.blt]at h3;omega
    rw[this,cond_false]
def CU:Nat->List I->Bool
 |_,[]=>true
 |i,l::r=>(l.c==0&&(match l.ts with|[(k,j)]=>k==1&&Nat.beq i j|_=>false))&&CU (i+1) r
def firstVar:List I->Nat
 |[]=>0
 |l::_=>match l.ts with|[(_,j)]=>j|_=>0
theorem TS {ρ:Env}:∀{ls:List I} {i:Nat},CU i ls=true->∀j,j<ls.length->(ls.map (·.den ρ)).getD j 0=ρ (i+j)
 |[],_,_,j,hj=>by simp at hj
 |l::r,i,h,j,hj=>by
  simp only[CU,Bool.and_eq_true]at h
  cases j with
  |zero=>
   obtain⟨⟨h1,h2⟩,_⟩:=h
   have hc:l.c=0:=by simpa using h1
   cases hl:l.ts with
   |nil=>simp[hl]at h2
   |cons t s=>
    cases s with
    |cons t' anB=>simp[hl]at h2
    |nil=>
     obtain⟨k,q⟩:=t
     simp only[hl,Bool.and_eq_true]at h2
     have e1:k=1:=by simpa using h2.1
     have e2:=Nat.eq_of_beq_eq_true h2.2
     subst e1;subst e2
     simp[I.den,hl,fV,hc]
  |succ j=>
   have:=TS (ρ:=ρ) h.2 j (by simpa using hj)
   simp only[List.map_cons,List.getD_cons_succ]
   rw[this]
   congr 1;omega
def sN (st:fS) (aE:fR) (ls:List I):List Int:=
 cond (Nat.blt 1 ls.length&&CU (firstVar ls) ls) (match wI st aE (firstVar ls) ls.length with|some l=>l|none=>ls.map (I.dY st aE)) (ls.map (I.dY st aE))
theorem Uu {l bx:List Int} (hl:l.length=bx.length) (h:∀j,j<l.length->l.getD j 0=bx.getD j 0):l=bx:=by
 apply List.ext_getElem hl
 intro j h1 h2
 have:=h j h1
 simpa [List.getD_eq_getElem?_getD,List.getElem?_eq_getElem h1,List.getElem?_eq_getElem h2]using this
theorem G2 {ρ:Env} {st:fS} {aE:fR} (h:l0 ρ st aE) (ls:List I):sN st aE ls=ls.map (·.den ρ):=by
 have bD:ls.map (I.dY st aE)=ls.map (·.den ρ):=List.map_congr_left fun l _=>I.hU h.2 l
 unfold sN
 cases h1:(Nat.blt 1 ls.length&&CU (firstVar ls) ls)with
 |false=>simpa using bD
 |true=>
  simp only[cond_true]
  simp only[Bool.and_eq_true]at h1
  cases h2:wI st aE (firstVar ls) ls.length with
  |none=>exact bD
  |some l=>
   obtain⟨g1,g2⟩:=RD h2 h.1
   show l=_
   refine Uu (by simp[g1]) fun j hj=>?_
   rw[TS h1.2 j (by omega),h.2,g2 j (by omega)]
def lJ:aT->Option (List I×List I)
 | .eq a b=>some ([a],[b])
 | .and (.eq a b) r=>match lJ r with|some (x,y)=>some (a::x,b::y)|none=>none
 |_=>none
def aT.dY (st:fS) (aE:fR):aT->Bool
 |lit b=>b
 |eq a b=>decide (a.dY st aE=b.dY st aE)
 |lt a b=>decide (a.dY st aE<b.dY st aE)
 |le a b=>decide (a.dY st aE<=b.dY st aE)
 |not a=> !a.dY st aE
 |and a b=>match lJ (.and a b)with
  |some (x,y)=>decide (sN st aE x=sN st aE y)
  |none=>a.dY st aE&&b.dY st aE
 |iff a b=>a.dY st aE==b.dY st aE
theorem Rw {ρ:Env}:∀{b:aT} {x y:List I},lJ b=some (x,y)->b.den ρ=decide (x.map (·.den ρ)=y.map (·.den ρ))
 | .eq a b,x,y,h=>by
  simp only[lJ,Option.some.injEq,Prod.mk.injEq]at h
  obtain⟨rfl,rfl⟩:=h
  simp[aT.den]
 | .and (.eq a b) r,x,y,h=>by
  simp only[lJ]at h
  cases hr:lJ r with
  |none=>simp[hr]at h
  |some p=>
   obtain⟨fq,jf⟩:=p
   simp only[hr,Option.some.injEq,Prod.mk.injEq]at h
   obtain⟨rfl,rfl⟩:=h
   have ih:=Rw (ρ:=ρ) hr
   simp only[aT.den,ih,List.map_cons,List.cons.injEq]
   simp
 | .lit _,_,_,h=>by simp[lJ]at h
 | .lt _ _,_,_,h=>by simp[lJ]at h
 | .le _ _,_,_,h=>by simp[lJ]at h
 | .not _,_,_,h=>by simp[lJ]at h
 | .iff _ _,_,_,h=>by simp[lJ]at h
 | .and (.lit _) _,_,_,h=>by simp[lJ]at h
 | .and (.lt _ _) _,_,_,h=>by simp[lJ]at h
 | .and (.le _ _) _,_,_,h=>by simp[lJ]at h
 | .and (.not _) _,_,_,h=>by simp[lJ]at h
 | .and (.and _ _) _,_,_,h=>by simp[lJ]at h
 | .and (.iff _ _) _,_,_,h=>by simp[lJ]at h
theorem aT.hU {ρ:Env} {st:fS} {aE:fR} (h:l0 ρ st aE):∀b:aT,b.dY st aE=b.den ρ
 |lit _=>rfl
 |eq a b=>by simp only[dY,den,I.hU h.2]
 |lt a b=>by simp only[dY,den,I.hU h.2]
 |le a b=>by simp only[dY,den,I.hU h.2]
 |not a=>by simp only[dY,den,aT.hU h a]
 |and a b=>by
  have e1:=aT.hU h a
  have e2:=aT.hU h b
  unfold dY
  cases hq:lJ (.and a b)with
  |none=>simp only[den,e1,e2]
  |some p=>
   obtain⟨x,y⟩:=p
   simp only[Rw (ρ:=ρ) hq,G2 h]
 |iff a b=>by simp only[dY,den,aT.hU h a,aT.hU h b]
def fM {α:Type}:List Nat->List α->List (List α)
 |[],[]=>[]
 |[],x::l=>[x::l]
 |k::kE,l=>l.take k::fM kE (l.drop k)
theorem G7 {α β:Type} (f:α->β):∀(kE:List Nat) (l:List α),fM kE (l.map f)=(fM kE l).map (List.map f)
 |[],[]=>rfl
 |[],_::_=>rfl
 |k::kE,l=>by simp only[fM,List.map_cons,<-List.map_take,<-List.map_drop,G7 f kE]
def uJ:List Nat->Nat->List (Int×Int)->(fS->fR->List (List Int)->Prop)->fS->fR->Prop
 |[],_,[],P,st,aE=>P st aE []
 |[],_,_::_,_,_,_=>False
 |k::kE,n,bds,P,st,aE=>cond (Nat.beq k 1)
  (match bds with
  |(lo,hi)::Qp=>∀z:Int,lo<=z->z<=hi->uJ kE (n+1) Qp (fun mP mC ls=>P mP mC ([z]::ls)) ((n,1)::st) ([z]::aE)
  |[]=>False)
  (cond (Nat.ble k bds.length) (∀r:List Int,av (bds.take k) r->uJ kE (n+k) (bds.drop k) (fun mP mC ls=>P mP mC (r::ls)) ((n,k)::st) (r::aE)) False)
theorem WY:∀(a b:List Int) (n:Nat) (ρ:Env),bq ρ n (a++b)=bq (bq ρ n a) (n+a.length) b
 |[],b,n,ρ=>rfl
 |z::a,b,n,ρ=>by
  simp only[List.cons_append,bq,List.length_cons]
  rw[WY a b]
  congr 1;omega
theorem WZ:∀(l:List Int) (n:Nat) (ρ:Env) (i:Nat),bq ρ n l i=cond (Nat.ble n i&&Nat.blt i (n+l.length)) (l.getD (i-n) 0) (ρ i)
 |[],n,ρ,i=>by
  have:(Nat.ble n i&&Nat.blt i (n+0))=false:=by
   cases h:(Nat.ble n i&&Nat.blt i (n+0))with
   |false=>rfl
   |true=>simp[Nat.blt]at h;omega
  simp only[bq,List.length_nil,this,cond_false]
 |z::l,n,ρ,i=>by
  simp only[bq]
  rw[WZ l (n+1)]
  by_cases h1:i=n
  ·subst h1
   have e1:(Nat.ble (i+1) i&&Nat.blt i (i+1+l.length))=false:=by
    have:Nat.ble (i+1) i=false:=by
     cases h:Nat.ble (i+1) i with
     |false=>rfl
     |true=>exact absurd (Nat.le_of_ble_eq_true h) (by omega)
    simp[this]
   have e2:(Nat.ble i i&&Nat.blt i (i+(z::l).length))=true:=by simp[Nat.blt]
   rw[e1,e2]
   simp[cJ]
  ·have hu:cJ ρ n z i=ρ i:=Nv ρ z h1
   by_cases h2:n<=i/\i<n+1+l.length
   ·have e1:(Nat.ble (n+1) i&&Nat.blt i (n+1+l.length))=true:=by simp[Nat.blt];omega
    have e2:(Nat.ble n i&&Nat.blt i (n+(z::l).length))=true:=by simp[Nat.blt];omega
    rw[e1,e2]
    simp only[cond_true]
    rw[show i-n=(i-(n+1))+1 by omega,List.getD_cons_succ]
   ·have e1:(Nat.ble (n+1) i&&Nat.blt i (n+1+l.length))=false:=by
     cases h:(Nat.ble (n+1) i&&Nat.blt i (n+1+l.length))with
     |false=>rfl
     |true=>simp[Nat.blt]at h;omega
    have e2:(Nat.ble n i&&Nat.blt i (n+(z::l).length))=false:=by
     cases h:(Nat.ble n i&&Nat.blt i (n+(z::l).length))with
     |false=>rfl
     |true=>simp[Nat.blt]at h;omega
    rw[e1,e2]
    simp[hu]
theorem l0.push {ρ:Env} {st:fS} {aE:fR} (h:l0 ρ st aE) (n:Nat) (l:List Int):l0 (bq ρ n l) ((n,l.length)::st) (l::aE):=
 ⟨⟨rfl,h.1⟩,fun i=>by rw[WZ,pY,<-h.2 i]⟩
theorem TM:∀{bds:List (Int×Int)} {zs:List Int} (k:Nat),av bds zs->av (bds.take k) (zs.take k)/\av (bds.drop k) (zs.drop k)
 |[],[],k,_=>by simp[av]
 |[],_::_,_,h=>h.elim
 |(_,_)::_,[],_,h=>h.elim
 |(l,u)::b,z::zs,0,h=>by simpa [av]using h
 |(l,u)::b,z::zs,k+1,h=>by
  obtain⟨h1,h2,h3⟩:=h
  obtain⟨g1,g2⟩:=TM (bds:=b) (zs:=zs) k h3
  exact⟨⟨h1,h2,g1⟩,g2⟩
theorem yC:∀{kE:List Nat} {n:Nat} {bds:List (Int×Int)} {P:fS->fR->List (List Int)->Prop} {st:fS} {aE:fR} {ρ:Env} {zs:List Int},uJ kE n bds P st aE->l0 ρ st aE->av bds zs->∃mP mC,l0 (bq ρ n zs) mP mC/\P mP mC (fM kE zs)
 |[],n,[],P,st,aE,ρ,[],h,ht,_=>⟨st,aE,ht,h⟩
 |[],_,[],_,_,_,_,_::_,_,_,hi=>hi.elim
 |[],_,_::_,_,_,_,_,_,h,_,_=>h.elim
 |k::kE,n,bds,P,st,aE,ρ,zs,h,ht,hi=>by
  unfold uJ at h
  cases hk:Nat.beq k 1 with
  |true=>
   have e:=Nat.eq_of_beq_eq_true hk
   subst e
   simp only[hk,cond_true]at h
   cases bds with
   |nil=>exact h.elim
   |cons b Qp=>
    obtain⟨lo,l9⟩:=b
    cases zs with
    |nil=>exact hi.elim
    |cons z zs=>
     obtain⟨h1,h2,h3⟩:=hi
     have:=yC (h z h1 h2) (ht.push n [z]) h3
     obtain⟨mP,mC,g1,g2⟩:=this
     refine⟨mP,mC,g1,?_⟩
     simpa [fM]using g2
  |false=>
   simp only[hk,cond_false]at h
   cases hb:Nat.ble k bds.length with
   |false=>simp only[hb,cond_false]at h
   |true=>
    simp only[hb,cond_true]at h
    have gS:k<=bds.length:=by simpa using hb
    have hlen:=lP hi
    obtain⟨i1,i2⟩:=TM k hi
    have e:(zs.take k).length=k:=by simp;omega
    have jG:=ht.push n (zs.take k)
    rw[e]at jG
    obtain⟨mP,mC,g1,g2⟩:=yC (h _ i1) jG i2
    refine⟨mP,mC,?_,g2⟩
    have e2:=WY (zs.take k) (zs.drop k) n ρ
    rw[List.take_append_drop,e]at e2
    rw[e2];exact g1
abbrev yu:=Nat->List (List Int)->Prop
def yu.set (A:yu) (gX:Nat) (p:List (List Int)->Prop):yu:=fun i=>cond (Nat.beq i gX) p (A i)
def T.ky (sh:Nat->List Nat×List Nat) (lsh:Nat->List Nat) (S:Nat->List (List Int)->List (List Int)->Prop) (L:V->fS->fR->Prop):T->yu->fS->fR->Prop
 |stuck,_,_,_=>False
 |leaf v,_,st,aE=>L v st aE
 |div n x d lo hi r,A,st,aE=>∀q:Int,lo<=q->q<=hi->0<=x.dY st aE-d*q->x.dY st aE-d*q<d->r.ky sh lsh S L A ((n,1)::st) ([q]::aE)
 |mul n x y lo hi r,A,st,aE=>∀p:Int,lo<=p->p<=hi->p=x.dY st aE*y.dY st aE->r.ky sh lsh S L A ((n,1)::st) ([p]::aE)
 |bit n op k x y r,A,st,aE=>∀z:Int,0<=z->z<=k.max->z=cc op k (x.dY st aE) (y.dY st aE)->r.ky sh lsh S L A ((n,1)::st) ([z]::aE)
 |shr n x y lo hi r,A,st,aE=>∀z:Int,lo<=z->z<=hi->z=x.dY st aE/2^(y.dY st aE).toNat->r.ky sh lsh S L A ((n,1)::st) ([z]::aE)
 |sO n cs aJ lo hi r,A,st,aE=>∀z:Int,lo<=z->z<=hi->z=(sN st aE cs).getD (aJ.dY st aE).toNat 0->r.ky sh lsh S L A ((n,1)::st) ([z]::aE)
 |nK b t e,A,st,aE=>(b.dY st aE=true->t.ky sh lsh S L A st aE)/\(b.dY st aE=false->e.ky sh lsh S L A st aE)
 |call id args n bds r,A,st,aE=>uJ (sh id).2 n bds (fun mP mC rs=>S id ((fM (sh id).1 args).map (sN st aE)) rs->r.ky sh lsh S L A mP mC) st aE
 |loop gX init n bds r,A,st,aE=>∃(gn:List (List Int)->Prop) (iR:List (List Int)->Nat),gn ((fM (lsh gX) init).map (sN st aE))/\
  uJ (lsh gX) n bds (fun mP mC zs=>gn zs->r.ky sh lsh S L (A.set gX fun vs=>gn vs/\iR vs<iR zs) mP mC) st aE
 |again gX vals,A,st,aE=>A gX ((fM (lsh gX) vals).map (sN st aE))
 |both a b,A,st,aE=>a.ky sh lsh S L A st aE/\b.ky sh lsh S L A st aE
 |fn n op args lo hi r,A,st,aE=>∀z:Int,lo<=z->z<=hi->z=aA op (args.map (I.dY st aE))->r.ky sh lsh S L A ((n,1)::st) ([z]::aE)
 |ind n b r,A,st,aE=>∀z:Int,0<=z->z<=1->b.dY st aE=decide (z=1)->r.ky sh lsh S L A ((n,1)::st) ([z]::aE)
 |om n lo hi r,A,st,aE=>∀z:Int,lo<=z->z<=hi->r.ky sh lsh S L A ((n,1)::st) ([z]::aE)
 |nat n r,A,st,aE=>∀z:Int,0<=z->r.ky sh lsh S L A ((n,1)::st) ([z]::aE)
 |oB op args r,A,st,aE=>ab op (args.map (I.dY st aE))->r.ky sh lsh S L A st aE
 |l7 op args r,A,st,aE=>ab op (args.map (I.dY st aE))/\r.ky sh lsh S L A st aE
theorem MP {ρ:Env} {st:fS} {aE:fR} (h:l0 ρ st aE) (kE:List Nat) (l:List I):(fM kE l).map (sN st aE)=fM kE (l.map (·.den ρ)):=by
 rw[G7];exact List.map_congr_left fun x _=>G2 h x
def cB (sh:Nat->List Nat×List Nat) (S:Nat->List (List Int)->List (List Int)->Prop):Nat->List Int->List Int->Prop:=fun id zs rs=>S id (fM (sh id).1 zs) (fM (sh id).2 rs)
theorem LS {ρ:Env} {st:fS} {aE:fR} (h:l0 ρ st aE) (l:List I):l.map (I.dY st aE)=l.map (·.den ρ):=List.map_congr_left fun x _=>I.hU h.2 x
theorem kZ {sh:Nat->List Nat×List Nat} {lsh:Nat->List Nat} {S:Nat->List (List Int)->List (List Int)->Prop} {PG:V->fS->fR->Prop} {L:V->Env->Prop} (cI:∀v ρ st aE,l0 ρ st aE->PG v st aE->L v ρ):
 ∀(t:T) (fs:yu) (A:dt) (ρ:Env) (st:fS) (aE:fR),(∀gX vs,fs gX (fM (lsh gX) vs)->A gX vs)->l0 ρ st aE->t.ky sh lsh S PG fs st aE->t.holds (cB sh S) L A ρ
 | .stuck,_,_,_,_,_,_,_,h=>h
 | .leaf v,_,_,ρ,st,aE,_,ht,h=>cI v ρ st aE ht h
 | .div n x d lo hi r,fs,A,ρ,st,aE,hA,ht,h=>fun q h1 h2 h3 h4=>kZ cI r fs A _ _ _ hA (ht.push n [q]) (h q h1 h2 (by rw[I.hU ht.2];exact h3) (by rw[I.hU ht.2];exact h4))
 | .mul n x y lo hi r,fs,A,ρ,st,aE,hA,ht,h=>fun q h1 h2 h3=>kZ cI r fs A _ _ _ hA (ht.push n [q]) (h q h1 h2 (by rw[I.hU ht.2,I.hU ht.2];exact h3))
 | .bit n op k x y r,fs,A,ρ,st,aE,hA,ht,h=>fun q h1 h2 h3=>kZ cI r fs A _ _ _ hA (ht.push n [q]) (h q h1 h2 (by rw[I.hU ht.2,I.hU ht.2];exact h3))
 | .shr n x y lo hi r,fs,A,ρ,st,aE,hA,ht,h=>fun q h1 h2 h3=>kZ cI r fs A _ _ _ hA (ht.push n [q]) (h q h1 h2 (by rw[I.hU ht.2,I.hU ht.2];exact h3))
 | .sO n cs aJ lo hi r,fs,A,ρ,st,aE,hA,ht,h=>fun q h1 h2 h3=>kZ cI r fs A _ _ _ hA (ht.push n [q]) (h q h1 h2 (by rw[G2 ht,I.hU ht.2];exact h3))
 | .nK b t e,fs,A,ρ,st,aE,hA,ht,h=>⟨fun hb=>kZ cI t fs A _ _ _ hA ht (h.1 (by rw[aT.hU ht];exact hb)),fun hb=>kZ cI e fs A _ _ _ hA ht (h.2 (by rw[aT.hU ht];exact hb))⟩
 | .call id args n bds r,fs,A,ρ,st,aE,hA,ht,h=>by
  refine qm fun rs hi hs=>?_
  obtain⟨mP,mC,h1,h2⟩:=yC h ht hi
  exact kZ cI r fs A _ _ _ hA h1 (h2 (by rw[MP ht];exact hs))
 | .loop gX init n bds r,fs,A,ρ,st,aE,hA,ht,h=>by
  obtain⟨gn,iR,h1,h2⟩:=h
  refine⟨fun zs=>gn (fM (lsh gX) zs),fun zs=>iR (fM (lsh gX) zs),?_,?_⟩
  ·rw[MP ht]at h1;exact h1
  ·refine qm fun zs hi hI=>?_
   obtain⟨mP,mC,g1,g2⟩:=yC h2 ht hi
   refine kZ cI r _ _ _ _ _ (fun aiV vs hv=>?_) g1 (g2 hI)
   unfold yu.set at hv
   unfold dt.set
   cases hq:Nat.beq aiV gX with
   |true=>
    rw[hq]at hv
    have e:=Nat.eq_of_beq_eq_true hq
    subst e
    exact hv
   |false=>rw[hq]at hv;exact hA _ _ hv
 | .again gX vals,fs,A,ρ,st,aE,hA,ht,h=>hA gX _ (by rw[<-MP ht];exact h)
 | .both x y,fs,A,ρ,st,aE,hA,ht,h=>⟨kZ cI x fs A ρ st aE hA ht h.1,kZ cI y fs A ρ st aE hA ht h.2⟩
 | .fn n op args lo hi r,fs,A,ρ,st,aE,hA,ht,h=>fun q h1 h2 h3=>kZ cI r fs A _ _ _ hA (ht.push n [q]) (h q h1 h2 (by rw[LS ht];exact h3))
 | .ind n b r,fs,A,ρ,st,aE,hA,ht,h=>fun q h1 h2 h3=>kZ cI r fs A _ _ _ hA (ht.push n [q]) (h q h1 h2 (by rw[aT.hU ht];exact h3))
 | .om n lo hi r,fs,A,ρ,st,aE,hA,ht,h=>fun q h1 h2=>kZ cI r fs A _ _ _ hA (ht.push n [q]) (h q h1 h2)
 | .nat n r,fs,A,ρ,st,aE,hA,ht,h=>fun q h1=>kZ cI r fs A _ _ _ hA (ht.push n [q]) (h q h1)
 | .oB op args r,fs,A,ρ,st,aE,hA,ht,h=>fun h1=>kZ cI r fs A ρ st aE hA ht (h (by rw[LS ht];exact h1))
 | .l7 op args r,fs,A,ρ,st,aE,hA,ht,h=>⟨by rw[<-LS ht];exact h.1,kZ cI r fs A _ _ _ hA ht h.2⟩
def vp:List O->Option (List I)
 |[]=>some []
 | .l x::r=>match vp r with|some l=>some (x::l)|none=>none
 | .b _::_=>none
def O.dY (st:fS) (aE:fR):O->Int
 |l x=>x.dY st aE
 |b x=>cond (x.dY st aE) 1 0
def Ao (st:fS) (aE:fR) (os:List O):List Int:=
 match vp os with
 |some ls=>sN st aE ls
 |none=>os.map (O.dY st aE)
theorem Us {ρ:Env}:∀{os:List O} {ls:List I},vp os=some ls->ls.map (·.den ρ)=os.map (O.den ρ)
 |[],ls,h=>by simp[vp]at h;subst h;rfl
 | .l x::r,ls,h=>by
  simp only[vp]at h
  cases hr:vp r with
  |none=>simp[hr]at h
  |some l=>
   simp only[hr,Option.some.injEq]at h
   subst h
   simp only[List.map_cons,Us hr,O.den]
 | .b _::_,_,h=>by simp[vp]at h
theorem O.hU {ρ:Env} {st:fS} {aE:fR} (h:l0 ρ st aE):∀o:O,o.dY st aE=o.den ρ
 | .l x=>I.hU h.2 x
 | .b x=>by simp only[dY,den,aT.hU h]
theorem Wn {ρ:Env} {st:fS} {aE:fR} (h:l0 ρ st aE) (os:List O):Ao st aE os=os.map (O.den ρ):=by
 unfold Ao
 cases hl:vp os with
 |some ls=>exact(G2 h ls).trans (Us hl)
 |none=>exact List.map_congr_left fun o _=>O.hU h o
def ajp (k:Nat):List Nat:=match k with
 |12=>[4,4,4]
 |15=>[5,5,5]
 |20=>[5,5,5,5]
 |k=>[k]
def D.nums:D->List Nat
 | .mix l=>ajp l.length
 | .jQ _=>[]
 | .oT .. =>[]
 |d=>[d.num]
def vv (ds:List D):List Nat:=ds.flatMap D.nums
def HL (ds:List D) (K:List (List Int)->Prop) (v:V) (st:fS) (aE:fR):Prop:=
 match outs ds v with
 |some os=>K ((fM (vv ds) os).map (Ao st aE))
 |none=>False
theorem XE {ds:List D} {K:List (List Int)->Prop} (v:V) (ρ:Env) (st:fS) (aE:fR) (ht:l0 ρ st aE) (h:HL ds K v st aE):ov ds (fun rs=>K (fM (vv ds) rs)) v ρ:=by
 unfold HL at h
 unfold ov
 cases ho:outs ds v with
 |none=>simp[ho]at h
 |some os=>
  simp only[ho]at h⊢
  rw[G7]
  rwa [show(fM (vv ds) os).map (Ao st aE)=(fM (vv ds) os).map (List.map (O.den ρ)) from List.map_congr_left fun o _=>Wn ht o]at h
def cY (sh:Nat->List Nat×List Nat) (lsh:Nat->List Nat) (S:Nat->List (List Int)->List (List Int)->Prop) (K:List (List Int)->List (List Int)->Prop) (lens:List Nat) (bds:List (Int×Int)) (ds:List D) (t:T):Prop:=
 uJ lens 0 bds (fun st aE zs=>t.ky sh lsh S (HL ds (K zs)) (fun _ _=>False) st aE) [] []
theorem HR {sh:Nat->List Nat×List Nat} {lsh:Nat->List Nat} {S:Nat->List (List Int)->List (List Int)->Prop} {K:List (List Int)->List (List Int)->Prop} {lens:List Nat} {bds:List (Int×Int)} {ds:List D} {t:T}
 (h:cY sh lsh S K lens bds ds t):l4 bds fun zs=>t.holds (cB sh S) (ov ds fun rs=>K (fM lens zs) (fM (vv ds) rs)) (fun _ _=>False) (bq (fun _=>0) 0 zs):=by
 refine qm fun zs hi=>?_
 obtain⟨st,aE,h1,h2⟩:=yC h (show l0 (fun _=>0) [] [] from⟨trivial,fun _=>rfl⟩) hi
 exact kZ (fun v ρ st aE ht hl=>XE v ρ st aE ht hl) t _ _ _ st aE (fun _ _ hf=>hf.elim) h1 h2
end Go.bj

/- Rows of laws whose parameters are integers,truth values and arrays of integers: opened,shut,and the row out of a contract. -/
set_option linter.unusedVariables false
set_option linter.unusedSimpArgs false
namespace Go.bj
open Go.ChangeShapes Go.WideShapes Go.RowKit
variable {H:Type} {enc:TypeId×Value->H} {P:Program}
theorem W4 {k:IntKind} {z:Int}:(Lit.int k z).wf=true↔k.min<=z/\z<=k.max:=by simp[Lit.wf]
theorem Q6 {k:IntKind}:∀(cs:List Value) (xs:List (DataW H×List MemPlace)),cs.length=xs.length->
 (∀i,i<xs.length->∃z,(cs.drop i).take 1=[.int k z]/\xs[i]?=some (.lit (.int k z),[])/\(Lit.int k z).wf=true)->
 ∃zs:List Int,cs=zs.map (.int k)/\xs=zs.map (fun z=>(.lit (.int k z),[]))/\∀z∈zs,(Lit.int k z).wf=true
 |[],[],_,_=>⟨[],rfl,rfl,fun _ h=>by cases h⟩
 |[],_::_,h,_=>by simp at h
 |_::_,[],h,_=>by simp at h
 |c::cs,x::xs,hl,h=>by
  obtain⟨z,h1,h2,h3⟩:=h 0 (by simp)
  simp at h1 h2
  obtain⟨zs,e1,e2,bu⟩:=Q6 cs xs (by simpa using hl) fun i hi=>by
   obtain⟨y,g1,g2,g3⟩:=h (i+1) (by simpa using hi)
   exact⟨y,by simpa using g1,by simpa using g2,g3⟩
  refine⟨z::zs,by rw[h1,e1];rfl,by rw[h2,e2];rfl,fun y hy=>?_⟩
  rcases List.mem_cons.1 hy with rfl|hy
  ·exact h3
  ·exact bu y hy
theorem TJ:∀{b b6:List (Int×Int)} {l bx:List Int},av b l->av b6 bx->av (b++b6) (l++bx)
 |[],_,[],_,_,h=>h
 |_::_,_,_::_,_,h,h'=>⟨h.1,h.2.1,TJ h.2.2 h'⟩
 |[],_,_::_,_,h,_=>h.elim
 |_::_,_,[],_,h,_=>h.elim
theorem D.W1 (d:D) {zs l:List Int} (h:zs.length=d.num):d.val (zs++l)=d.val zs:=by
 cases d with
 |str=>match zs,h with|[z],_=>rfl
 |int k lo hi=>match zs,h with|[z],_=>rfl
 |bool=>match zs,h with|[z],_=>rfl
 |agg k n lo hi=>simp only[D.num]at h;simp only[D.val,<-h];simp
 |jQ p=>rfl
 |oT k c=>rfl
 |mix p=>
  simp only[D.num]at h
  simp only[D.val]
  congr 2
  revert zs
  induction p with
  |nil=>intro zs h;simp
  |cons a p ih=>
   intro zs h
   match zs,h with
   |z::zs,h=>simp only[List.cons_append,List.zipWith_cons_cons,ih (zs:=zs) (by simpa using h)]
theorem aij {w w':World} (h:w.Extends w') (may:MemPlace->Prop):w.keptBut w' may:=
 Below.frame (W:=w) ⟨h.os,h.tape,h.output,h.size,fun i hi=>h.block i hi⟩ may
theorem E6 {w:World} {name:String} {g:Nat} {t e:TypeId} {k:IntKind} {n:Nat} {cs:Array Value} {fuel:Nat} {p:List MemPlace} {zs:List Int} {spare:Nat->Bool} {held:Bool} {base:Nat} {enc:TypeId×Value->Unit}
 (hg:P.globalNamed name=some g) (ht:P.underlying t=some (.array n e)) (he:P.underlying e=some (.int k)) (Fk:P.cellsOf e=1) (j8:P.cellsOf t=n)
 (hv:w.var? P name=some cs) (hd:DataW.trod enc P w base spare held fuel t cs.toList=some (.agg (zs.map fun z=> .lit (.int k z)),p)):
 g<w.heap.size/\∃t' uW,w.heap[g]?=some (Obj.cells (zs.map (Value.int k)).toArray t' uW):=by
 obtain⟨xs,m,rfl,hx,hlen,hn,zr⟩:=DataW.trod_array ht hd
 obtain⟨eO,e1,e2,bu⟩:=Q6 (k:=k) cs.toList xs (by rw[hlen,j8,hn]) fun i hi=>by
  have:=zr i (by omega)
  rw[Fk,Nat.mul_one]at this
  cases Tw:xs[i]? with
  |none=>simp at Tw;omega
  |some y=>
   rw[Tw]at this
   obtain⟨z,g1,g2,g3⟩:=DataW.trod_int he this
   exact⟨z,g1,by rw[g2],g3⟩
 simp only[Prod.mk.injEq,DataW.agg.injEq]at hx
 have hy:eO=zs:=by
  have h1:=hx.1
  rw[e2,List.map_map]at h1
  have w9:∀a b:Int,(DataW.lit (.int k a):DataW Unit)= .lit (.int k b)->a=b:=fun a b h=>by cases h;rfl
  exact((List.map_inj_right (f:=fun z:Int=>(DataW.lit (.int k z):DataW Unit)) w9).1 h1).symm
 subst hy
 simp only[World.var?,hg,Option.bind_some]at hv
 split at hv
 ·rename_i gH t' uW hb
  simp only[Option.some.injEq]at hv
  subst hv
  refine⟨?_,t',uW,?_⟩
  ·exact(Array.getElem?_eq_some_iff.1 hb).1
  ·rw[hb,<-e1]
 ·cases hv
end Go.bj

/- Contracts of functions that take slices and hand slices back. -/
set_option linter.unusedVariables false
set_option linter.unusedSimpArgs false
namespace Go.bj
open M
inductive bV where
 |d (x:D)
 |rd (sh:List aw)
 |jJ (sh:List aw) (e:TypeId)
def bV.num:bV->Nat
 |d x=>x.num
 |_=>1
noncomputable def bV.bds:bV->List (Int×Int)
 |d x=>x.bds
 |_=>[(0,b8)]
noncomputable def cG:List bV->List (Int×Int)
 |[]=>[]
 |x::r=>x.bds++cG r
def bV.hZ:bV->Bool
 |d _=>true
 |_=>false
def bV.mJ:bV->Bool
 |jJ _ _=>true
 |_=>false
def bV.lQ:bV->Bool
 |rd _=>true
 |_=>false
def mz:List bV->Bool
 |[]=>true
 | .d _::r=>mz r
 | .rd _::r=>r.all (fun b=> !b.mJ)&&mz r
 | .jJ _ _::r=>r.all bV.hZ&&mz r
def qk (F:Nat->Prop) (w:World) (sh:List aw) (rows:List (List Int)) (v:Value):Prop:=
 (v= .slice none 0 0/\rows=[])∨∃(g o cap:Nat) (cells:Array Value) (t:TypeId) (fz:Nat×Nat),v= .slice (some ⟨g,o,none⟩) rows.length cap/\(rows.length<=cap/\(cap:Int)<=9223372036854775807)/\F g/\w.heap[g]?=some (.cells cells t fz)/\j1 cells o sh rows
def ps (N:Nat->Prop) (w:World) (sh:List aw) (e:TypeId) (rows:List (List Int)) (v:Value):Prop:=
 (v= .slice none 0 0/\rows=[])∨∃(g cap:Nat) (cells:Array Value),v= .slice (some ⟨g,0,none⟩) rows.length cap/\(rows.length<=cap/\(cap:Int)<=9223372036854775807)/\N g/\w.heap[g]?=some (.cells cells e (0,0))/\j1 cells 0 sh rows/\cells.size=cap*sh.length
def bV.at (F N:Nat->Prop) (w:World):bV->List Int->Value->Prop
 |d x,zs,v=>v=x.val zs
 |rd sh,zs,v=>qk F w sh (aa (zs.getD 0 0)) v
 |jJ sh e,zs,v=>ps N w sh e (aa (zs.getD 0 0)) v
def ik (F N:Nat->Prop) (w:World):List bV->List Int->List Value->Prop
 |[],_,[]=>True
 |b::r,zs,v::vs=>b.at F N w zs v/\ik F N w r (zs.drop b.num) vs
 |_,_,_=>False
def ph (us:List Value):Value:=match us with|[x]=>x|l=> .tuple l.toArray
structure db where
 f:FuncId
 id:Nat
 args:List bV
 res:List bV
 pre:Nat:=0
def xF:Nat->List Int->Prop
 |0,_=>True
 |p+1,l=>ab (p+1) l
def Gy:Nat->List I->T->T
 |0,_,r=>r
 |p+1,ls,r=> .l7 (p+1) ls r
def Gx:Nat->List I->T->T
 |0,_,r=>r
 |p+1,ls,r=> .oB (p+1) ls r
theorem preM_holds {S:Nat->List Int->List Int->Prop} {L:V->Env->Prop} {A:dt} {ρ:Env} {p:Nat} {ls:List I} {r:T} (h:(Gy p ls r).holds S L A ρ):xF p (ls.map (·.den ρ))/\r.holds S L A ρ:=by
 cases p with
 |zero=>exact⟨trivial,h⟩
 |succ p=>exact h
theorem preA_holds {S:Nat->List Int->List Int->Prop} {L:V->Env->Prop} {A:dt} {ρ:Env} {p:Nat} {ls:List I} {r:T} (h:(Gx p ls r).holds S L A ρ) (hp:xF p (ls.map (·.den ρ))):r.holds S L A ρ:=by
 cases p with
 |zero=>exact h
 |succ p=>exact h hp
def db.cf (P:Program) (wb:World) (c:db) (spec:List Int->List Int->Prop):Prop:=
 (∀args w,(callFunc c.f args).run P w= .ok (.enter c.f args) w)/\
 ∀(F:Nat->Prop) (w:World) (vs:List Value) (zs:List Int),wb.Extends w->av (cG c.args) zs->xF c.pre zs->ik F (fun _=>False) w c.args zs vs->
  Calls P c.f vs.toArray w fun e w'=>w.Extends w'/\∃rs us,av (cG c.res) rs/\spec zs rs/\ik (fun g=>F g∨w.heap.size<=g) (fun g=>w.heap.size<=g) w' c.res rs us/\e= .returned (ph us)
noncomputable def pt:List bV->Nat->Nat->List W->List aq->(Nat->List W->List aq->T)->T
 |[],_,n,us,bl,k=>k n us bl
 | .d x::r,s,n,us,bl,k=>pt r (s+x.num) n (us++[x.sym s]) bl k
 | .rd sh::r,s,n,us,bl,k=> .nat n (.om (n+1) (-1) 9223372036854775807 (.fn (n+2) 20 [.var s] 0 9223372036854775807
  (pt r (s+1) (n+3) (us++[.one (.sl bl.length sh.length (.var n) (.const 0) (.var (n+2)) (.var (n+1)))]) (bl++[([.rows sh (.var n) (.var s) (.var (n+1)) 1],(0,false))]) k)))
 | .jJ sh e::r,s,n,us,bl,k=> .om n (-1) 9223372036854775807 (.fn (n+1) 20 [.var s] 0 9223372036854775807
  (pt r (s+1) (n+2) (us++[.one (.sl bl.length sh.length (.const 0) (.const 0) (.var (n+1)) (.var n))]) (bl++[([.rows sh (.const 0) (.var s) (.var n) 2],(e,false))]) k))
section
variable {S:Nat->List Int->List Int->Prop} {L:V->Env->Prop} {w0:de} {P:Program} {gl:dz} {cal:dQ}
theorem fQ.agree {ρ ad:Env} {s n:Nat} {zs:List Int} (h:fQ ρ s zs) (ha:agree n ρ ad) (hn:s+zs.length<=n):fQ ad s zs:=fun j hj=>by rw[ha (s+j) (by omega)];exact h j hj
theorem qa {ρ:Env} {n i:Nat} {z:Int} (h:i<n):cJ ρ n z i=ρ i:=Nv ρ z (by omega)
theorem uL {F N:Nat->Prop} (hF:∀g,F g->w0.ex g∨w0.ro g∨w0.r.heap.size<=g) (hN:∀g,N g->w0.b.heap.size<=g/\w0.r.heap.size<=g):∀{l:List bV} {s n:Nat} {us:List W} {bl:List aq} {k:Nat->List W->List aq->T} {G:dt} {ρ:Env} {m:Nat->Nat} {w:World} {zs:List Int} {vals:List Value},
 mz l=true->cn n bl.length ρ bl->Mem w0 ρ m bl w->fQ ρ s zs->av (cG l) zs->s+(cG l).length<=n->ik F N w l zs vals->
 ((l.all fun b=> !b.lQ)=true∨∀(i:Nat) (p:aq),bl[i]?=some p->F (m i)->aY ρ p.1<=1)->((l.all fun b=> !b.mJ)=true∨∀(i:Nat) (p:aq),bl[i]?=some p->N (m i)->aY ρ p.1=0)->
 (∀u∈us,W.ok n bl.length ρ u)->
 (pt l s n us bl k).holds S L G ρ->∃n' ad m' jt aN,di n bl.length ρ m n' (List.length aN) ad m'/\cn n' aN.length ad aN/\Mem w0 ad m' aN w/\jt.map (W.den ad m')=us.map (W.den ρ m)++vals/\(∀u∈jt,W.ok n' aN.length ad u)/\(k n' jt aN).holds S L G ad
 |[],s,n,us,bl,k,G,ρ,m,w,zs,vals,_,hb,hm,_,_,_,hat,_,_,oR,hh=>by
  match vals,hat with
  |[],_=>exact⟨n,ρ,m,us,bl,di.refl _ _ _ _,hb,hm,by simp,oR,hh⟩
 | .d x::r,s,n,us,bl,k,G,ρ,m,w,zs,vals,hok,hb,hm,hA,hz,hn,hat,h1,h2,oR,hh=>by
  match vals,hat with
  |v::vs,hat=>
   obtain⟨hv,hat⟩:=hat
   have hv:v=x.val zs:=hv
   simp only[cG,bV.bds]at hz hn
   simp only[List.length_append]at hn
   obtain⟨i1,i2⟩:=FO hz
   rw[D.Ba]at i1 i2 hn
   have hs:=D.DD (ρ:=ρ) (m:=m) (N:=n) (nb:=bl.length) x i1 hA (by omega)
   obtain⟨n',ad,m',jt,aN,g1,g2,g3,g4,g5,g6⟩:=uL hF hN (l:=r) (s:=s+x.num) (us:=us++[x.sym s]) (zs:=zs.drop x.num) hok hb hm (hA.drop x.num) i2 (by omega) hat (by
    rcases h1 with h1|h1
    ·left;simpa [bV.lQ]using h1
    ·exact .inr h1) (by
    rcases h2 with h2|h2
    ·left;simpa [bV.mJ]using h2
    ·exact .inr h2) (fun u hu=>by
    rcases List.mem_append.1 hu with hu|hu
    ·exact oR u hu
    ·simp at hu;subst hu;exact hs.1) hh
   exact⟨n',ad,m',jt,aN,g1,g2,g3,by rw[g4,List.map_append,hv];simp[hs.2],g5,g6⟩
 | .rd sh::r,s,n,us,bl,k,G,ρ,m,w,zs,vals,hok,hb,hm,hA,hz,hn,hat,h1,h2,oR,hh=>by
  match vals,hat with
  |v::vs,hat=>
   obtain⟨hv,hat⟩:=hat
   match zs,hz with
   |z::zs,hz=>
    obtain⟨ag,z2,hz⟩:=hz
    have hv:qk F w sh (aa z) v:=hv
    obtain⟨u5,JI⟩:=hA.tail
    have h1:∀(i:Nat) (p:aq),bl[i]?=some p->F (m i)->aY ρ p.1<=1:=by
     rcases h1 with h1|h1
     ·simp[bV.lQ]at h1
     ·exact h1
    simp only[cG,bV.bds,List.length_append,List.length_cons,List.length_nil]at hn
    simp only[mz,Bool.and_eq_true]at hok
    have hlen:(aa z).length<=9223372036854775807:=by
     rcases hv with⟨_,h⟩|⟨_,_,cap,_,_,_,_,⟨h3,h4⟩,_⟩
     ·simp[h]
     ·omega
    have k8:zs.length=(cG r).length:=lP hz
    obtain⟨g,o,cap,pL,tv,w8,pM,Ci⟩:∃(g:Nat) (o:Nat) (cap:Int),(-1<=cap/\cap<=9223372036854775807)/\(cap<0->aa z=[])/\(0<=cap->((aa z).length:Int)<=cap)/\
     (v=if cap<0 then Value.slice none 0 0 else .slice (some ⟨g,o,none⟩) (aa z).length cap.toNat)/\
     (0<=cap->F g/\∃cells t fz,w.heap[g]?=some (.cells cells t fz)/\j1 cells o sh (aa z)):=by
     rcases hv with⟨h3,h4⟩|⟨g,o,cap,cells,t,fz,h3,⟨h4,h5⟩,h6,h7,cv⟩
     ·exact⟨0,0,-1,by omega,fun _=>h4,fun h=>by omega,by simp[h3],fun h=>by omega⟩
     ·exact⟨g,o,cap,by omega,fun h=>by omega,fun _=>by omega,by rw[if_neg (by omega)];simpa using h3,fun _=>⟨h6,cells,t,fz,h7,cv⟩⟩
    have Cl:=hh (o:Int) (by omega) cap pL.1 pL.2 (aa z).length (by omega) (by omega) (by
     simp only[List.map_cons,List.map_nil,aA,I.cg]
     rw[qa (by omega),qa (by omega),u5])
    generalize mI:cJ (cJ (cJ ρ n (o:Int)) (n+1) cap) (n+2) ((aa z).length:Int)=fr at Cl
    have ha:agree n ρ fr:=by
     rw[<-mI]
     intro i hi
     rw[qa (by omega),qa (by omega),qa hi]
    have bD:fr n=o:=by rw[<-mI,qa (by omega),qa (by omega),iy]
    have e1:fr (n+1)=cap:=by rw[<-mI,qa (by omega),iy]
    have e2:fr (n+2)=(aa z).length:=by rw[<-mI,iy]
    have bu:fr s=z:=by rw[ha s (by omega)];exact u5
    have KD:=hm.lv hb ha
    have B1:=hb.ext ha (show n<=n+3 by omega) (Nat.le_refl bl.length)
    have BV:(A.rows sh (.var n) (.var s) (.var (n+1)) 1).ok (n+3) bl.length fr:=⟨⟨I.ec (by omega),I.ec (by omega),I.ec (by omega)⟩,by rw[I.cg,bu];exact⟨ag,z2⟩,by rw[I.cg,e1];exact pL⟩
    have gf:=KD.push (x:=([.rows sh (.var n) (.var s) (.var (n+1)) 1],(0,false))) (g:=g) B1 (fun y hy=>by simp at hy;subst hy;exact BV) (fun ho=>by cases ho) (fun dR fK code' fE lj he=>by
     cases he
     intro _
     refine⟨fun h=>by rw[I.cg,e1]at h;rw[I.cg,bu];exact tv h,fun h=>?_⟩
     rw[I.cg,e1]at h
     obtain⟨BW,cells,t,fz,k1,k2⟩:=Ci h
     exact⟨hF g BW,cells,t,fz,k1,⟨by rw[I.cg,bD];omega,by rw[I.cg,I.cg,bD,bu];exact k2⟩,fun h2=>by omega⟩) (fun i p hi he=>by
      by_cases hc:0<=cap
      ·refine .inl ⟨?_,?_⟩
       ·rw[o7 (hb _ (List.mem_of_getElem? hi)) ha]
        exact h1 i p hi (by rw[he];exact(Ci hc).1)
       ·rw[mM (by decide) (by rw[I.cg,e1];exact hc)];exact Nat.le_refl 1
      ·refine .inr (.inr ?_)
       simp only[aY,I.cg,e1]
       rw[if_pos (by omega)])
    have KA:di n bl.length ρ m (n+3) (bl++[([A.rows sh (.var n) (.var s) (.var (n+1)) 1],((0:TypeId),false))]).length fr (jc m bl.length g):=⟨by omega,ha,by simp,fun b hb=>jS hb⟩
    have wX:cn (n+3) (bl++[([A.rows sh (.var n) (.var s) (.var (n+1)) 1],((0:TypeId),false))]).length fr (bl++[([.rows sh (.var n) (.var s) (.var (n+1)) 1],(0,false))]):=fun p hp a iV=>by
     rcases List.mem_append.1 hp with hp|hp
     ·exact(B1 p hp a iV).ext (agree.refl _ _) (Nat.le_refl _) (by simp)
     ·simp at hp;subst hp;simp at iV;subst iV
      exact BV.ext (agree.refl _ _) (Nat.le_refl _) (by simp)
    have K7:W.ok (n+3) (bl++[([A.rows sh (.var n) (.var s) (.var (n+1)) 1],((0:TypeId),false))]).length fr (.one (.sl bl.length sh.length (.var n) (.const 0) (.var (n+2)) (.var (n+1)))):=by
     refine⟨by simp,⟨I.ec (by omega),I.cA _ _,I.ec (by omega),I.ec (by omega)⟩,?_⟩
     simp only[I.cg,I.aK,bD,e1,e2]
     exact⟨by omega,by omega,fun h=>by rw[tv h];rfl,w8⟩
    obtain⟨n',ad,m',jt,aN,g1,g2,g3,g4,g5,g6⟩:=uL hF hN (l:=r) (s:=s+1) (us:=us++[.one (.sl bl.length sh.length (.var n) (.const 0) (.var (n+2)) (.var (n+1)))]) (zs:=zs) (vals:=vs) hok.2 wX gf (JI.agree ha (by omega)) hz (by omega) hat (.inr fun i p hi hf=>by
     rw[List.getElem?_append]at hi
     split at hi
     ·rename_i dk
      rw[jS dk]at hf
      rw[o7 (hb _ (List.mem_of_getElem? hi)) ha]
      exact h1 i p hi hf
     ·have:i=bl.length:=by
       have:=(List.getElem?_eq_some_iff.1 hi).1
       simp at this;omega
      subst this
      simp at hi
      subst hi
      simp only[aY];split<;>omega) (.inl hok.1) (fun u hu=>by
     rcases List.mem_append.1 hu with hu|hu
     ·exact(oR u hu).ext ha (by omega) (by simp)
     ·simp at hu;subst hu;exact K7) Cl
    refine⟨n',ad,m',jt,aN,KA.trans g1,g2,g3,?_,g5,g6⟩
    rw[g4,List.map_append,List.append_assoc]
    congr 1
    ·exact List.map_congr_left fun u hu=>W.jl (oR u hu) ha (fun b hb=>jS hb)
    ·simp only[List.map_cons,List.map_nil,List.cons_append,List.nil_append,W.den,A.den,I.cg,I.aK,bD,e1,e2,ki]
     rw[pM]
     simp
 | .jJ sh e::r,s,n,us,bl,k,G,ρ,m,w,zs,vals,hok,hb,hm,hA,hz,hn,hat,h1,h2,oR,hh=>by
  match vals,hat with
  |v::vs,hat=>
   obtain⟨hv,hat⟩:=hat
   match zs,hz with
   |z::zs,hz=>
    obtain⟨ag,z2,hz⟩:=hz
    have hv:ps N w sh e (aa z) v:=hv
    obtain⟨u5,JI⟩:=hA.tail
    simp only[cG,bV.bds,List.length_append,List.length_cons,List.length_nil]at hn
    simp only[mz,Bool.and_eq_true]at hok
    have h2:∀(i:Nat) (p:aq),bl[i]?=some p->N (m i)->aY ρ p.1=0:=by
     rcases h2 with h2|h2
     ·simp[bV.mJ]at h2
     ·exact h2
    have hlen:(aa z).length<=9223372036854775807:=by
     rcases hv with⟨_,h⟩|⟨_,cap,_,_,⟨h3,h4⟩,_⟩
     ·simp[h]
     ·omega
    have k8:zs.length=(cG r).length:=lP hz
    obtain⟨g,cap,pL,tv,w8,pM,Ci⟩:∃(g:Nat) (cap:Int),(-1<=cap/\cap<=9223372036854775807)/\(cap<0->aa z=[])/\(0<=cap->((aa z).length:Int)<=cap)/\
     (v=if cap<0 then Value.slice none 0 0 else .slice (some ⟨g,0,none⟩) (aa z).length cap.toNat)/\
     (0<=cap->N g/\∃cells,w.heap[g]?=some (.cells cells e (0,0))/\j1 cells 0 sh (aa z)/\cells.size=cap.toNat*sh.length):=by
     rcases hv with⟨h3,h4⟩|⟨g,cap,cells,h3,⟨h4,h5⟩,h6,h7,cv,bX⟩
     ·exact⟨0,-1,by omega,fun _=>h4,fun h=>by omega,by simp[h3],fun h=>by omega⟩
     ·exact⟨g,cap,by omega,fun h=>by omega,fun _=>by omega,by rw[if_neg (by omega)];simpa using h3,fun _=>⟨h6,cells,h7,cv,by simpa using bX⟩⟩
    have Cl:=hh cap pL.1 pL.2 (aa z).length (by omega) (by omega) (by
     simp only[List.map_cons,List.map_nil,aA,I.cg]
     rw[qa (by omega),u5])
    generalize mI:cJ (cJ ρ n cap) (n+1) ((aa z).length:Int)=fr at Cl
    have ha:agree n ρ fr:=by
     rw[<-mI]
     intro i hi
     rw[qa (by omega),qa hi]
    have e1:fr n=cap:=by rw[<-mI,qa (by omega),iy]
    have e2:fr (n+1)=(aa z).length:=by rw[<-mI,iy]
    have bu:fr s=z:=by rw[ha s (by omega)];exact u5
    have KD:=hm.lv hb ha
    have B1:=hb.ext ha (show n<=n+2 by omega) (Nat.le_refl bl.length)
    have BV:(A.rows sh (.const 0) (.var s) (.var n) 2).ok (n+2) bl.length fr:=⟨⟨I.cA _ _,I.ec (by omega),I.ec (by omega)⟩,by rw[I.cg,bu];exact⟨ag,z2⟩,by rw[I.cg,e1];exact pL⟩
    have gf:=KD.push (x:=([.rows sh (.const 0) (.var s) (.var n) 2],(e,false))) (g:=g) B1 (fun y hy=>by simp at hy;subst hy;exact BV) (fun ho=>by cases ho) (fun dR fK code' fE lj he=>by
     cases he
     intro _
     refine⟨fun h=>by rw[I.cg,e1]at h;rw[I.cg,bu];exact tv h,fun h=>?_⟩
     rw[I.cg,e1]at h
     obtain⟨afg,cells,k1,k2,k3⟩:=Ci h
     have dU:=hN g afg
     exact⟨.inr (.inr dU.2),cells,e,(0,0),k1,⟨by rw[I.aK];exact Int.le_refl _,by rw[I.aK,I.cg,bu];exact k2⟩,fun _=>⟨rfl,I.aK _ _,.C6,by rw[I.cg,e1];exact k3,dU.1,.inr dU.2⟩⟩) (fun i p hi he=>by
      by_cases hc:0<=cap
      ·refine .inr (.inl ?_)
       rw[o7 (hb _ (List.mem_of_getElem? hi)) ha]
       exact h2 i p hi (by rw[he];exact(Ci hc).1)
      ·refine .inr (.inr ?_)
       simp only[aY,I.cg,e1]
       rw[if_pos (by omega)])
    have KA:di n bl.length ρ m (n+2) (bl++[([A.rows sh (.const 0) (.var s) (.var n) 2],(e,false))]).length fr (jc m bl.length g):=⟨by omega,ha,by simp,fun b hb=>jS hb⟩
    have wX:cn (n+2) (bl++[([A.rows sh (.const 0) (.var s) (.var n) 2],(e,false))]).length fr (bl++[([.rows sh (.const 0) (.var s) (.var n) 2],(e,false))]):=fun p hp a iV=>by
     rcases List.mem_append.1 hp with hp|hp
     ·exact(B1 p hp a iV).ext (agree.refl _ _) (Nat.le_refl _) (by simp)
     ·simp at hp;subst hp;simp at iV;subst iV
      exact BV.ext (agree.refl _ _) (Nat.le_refl _) (by simp)
    have K7:W.ok (n+2) (bl++[([A.rows sh (.const 0) (.var s) (.var n) 2],(e,false))]).length fr (.one (.sl bl.length sh.length (.const 0) (.const 0) (.var (n+1)) (.var n))):=by
     refine⟨by simp,⟨I.cA _ _,I.cA _ _,I.ec (by omega),I.ec (by omega)⟩,?_⟩
     simp only[I.cg,I.aK,e1,e2]
     exact⟨by omega,by omega,fun h=>by rw[tv h];rfl,w8⟩
    obtain⟨n',ad,m',jt,aN,g1,g2,g3,g4,g5,g6⟩:=P9 (w0:=w0) (l:=r) (s:=s+1) (us:=us++[.one (.sl bl.length sh.length (.const 0) (.const 0) (.var (n+1)) (.var n))]) (zs:=zs) (vals:=vs) hok.1 wX gf (JI.agree ha (by omega)) hz (by omega) hat (fun u hu=>by
     rcases List.mem_append.1 hu with hu|hu
     ·exact(oR u hu).ext ha (by omega) (by simp)
     ·simp at hu;subst hu;exact K7) Cl
    refine⟨n',ad,m',jt,aN,KA.trans g1,g2,g3,?_,g5,g6⟩
    rw[g4,List.map_append,List.append_assoc]
    congr 1
    ·exact List.map_congr_left fun u hu=>W.jl (oR u hu) ha (fun b hb=>jS hb)
    ·simp only[List.map_cons,List.map_nil,List.cons_append,List.nil_append,W.den,A.den,I.cg,I.aK,e1,e2,ki]
     rw[pM]
     simp
where
 P9 {w0:de} {F N:Nat->Prop}:∀{l:List bV} {s n:Nat} {us:List W} {bl:List aq} {k:Nat->List W->List aq->T} {G:dt} {ρ:Env} {m:Nat->Nat} {w:World} {zs:List Int} {vals:List Value},
  (l.all bV.hZ)=true->cn n bl.length ρ bl->Mem w0 ρ m bl w->fQ ρ s zs->av (cG l) zs->s+(cG l).length<=n->ik F N w l zs vals->
  (∀u∈us,W.ok n bl.length ρ u)->
  (pt l s n us bl k).holds S L G ρ->∃n' ad m' jt aN,di n bl.length ρ m n' (List.length aN) ad m'/\cn n' aN.length ad aN/\Mem w0 ad m' aN w/\jt.map (W.den ad m')=us.map (W.den ρ m)++vals/\(∀u∈jt,W.ok n' aN.length ad u)/\(k n' jt aN).holds S L G ad
 |[],s,n,us,bl,k,G,ρ,m,w,zs,vals,_,hb,hm,_,_,_,hat,oR,hh=>by
  match vals,hat with
  |[],_=>exact⟨n,ρ,m,us,bl,di.refl _ _ _ _,hb,hm,by simp,oR,hh⟩
 | .d x::r,s,n,us,bl,k,G,ρ,m,w,zs,vals,hok,hb,hm,hA,hz,hn,hat,oR,hh=>by
  match vals,hat with
  |v::vs,hat=>
   obtain⟨hv,hat⟩:=hat
   have hv:v=x.val zs:=hv
   simp only[cG,bV.bds]at hz hn
   simp only[List.length_append]at hn
   obtain⟨i1,i2⟩:=FO hz
   rw[D.Ba]at i1 i2 hn
   have hs:=D.DD (ρ:=ρ) (m:=m) (N:=n) (nb:=bl.length) x i1 hA (by omega)
   obtain⟨n',ad,m',jt,aN,g1,g2,g3,g4,g5,g6⟩:=P9 (l:=r) (s:=s+x.num) (us:=us++[x.sym s]) (zs:=zs.drop x.num) (by simpa [bV.hZ]using hok) hb hm (hA.drop x.num) i2 (by omega) hat (fun u hu=>by
    rcases List.mem_append.1 hu with hu|hu
    ·exact oR u hu
    ·simp at hu;subst hu;exact hs.1) hh
   exact⟨n',ad,m',jt,aN,g1,g2,g3,by rw[g4,List.map_append,hv];simp[hs.2],g5,g6⟩
 | .rd _::_,_,_,_,_,_,_,_,_,_,_,_,hok,_,_,_,_,_,_,_,_=>by simp[bV.hZ]at hok
 | .jJ _ _::_,_,_,_,_,_,_,_,_,_,_,_,hok,_,_,_,_,_,_,_,_=>by simp[bV.hZ]at hok
end
end Go.bj

/- Contracts with slices: at a call,and out of a tree. -/
set_option linter.unusedVariables false
set_option linter.unusedSimpArgs false
namespace Go.bj
open M
theorem FZ (x:Nat) (r:List Nat):lc (x::r)=2^x*(2*lc r+1):=rfl
theorem aiO (x:Nat) (r:List Nat):lc r<=lc (x::r):=by
 rw[FZ]
 have h1:1<=2^x:=Nat.one_le_two_pow
 have h2:2*lc r+1<=2^x*(2*lc r+1):=Nat.le_mul_of_pos_left _ h1
 omega
theorem T0:∀(a:Nat) (l:List Nat),lc (l.drop a)<=lc l
 |0,l=>by simp
 |a+1,[]=>by simp
 |a+1,x::r=>by rw[List.drop_succ_cons];exact Nat.le_trans (T0 a r) (aiO x r)
theorem T1:∀(k:Nat) (l:List Nat),lc (l.take k)<=lc l
 |0,l=>by simp[lc]
 |k+1,[]=>by simp
 |k+1,x::r=>by
  rw[List.take_succ_cons,FZ,FZ]
  exact Nat.mul_le_mul_left _ (by have:=T1 k r;omega)
theorem VQ (l:List (List Int)) (a k:Nat):rc ((l.drop a).take k)<=rc l:=by
 unfold rc
 rw[List.map_take,List.map_drop]
 exact_mod_cast Nat.le_trans (T1 k _) (T0 a _)
theorem asD (n:Nat):s3 (vT n)=n:=by
 unfold s3 vT
 by_cases h:n% 2=0
 ·rw[if_pos h,if_pos (by omega)];omega
 ·rw[if_neg h,if_neg (by omega)];omega
theorem WU:∀(f n:Nat),0<n->n<=f->n=2^mT f n*(2*(n/2^mT f n/2)+1)
 |0,n,h,h'=>by omega
 |f+1,n,h,h'=>by
  unfold mT
  by_cases hn:n% 2=0
  ·rw[if_pos hn]
   have ih:=WU f (n/2) (by omega) (by omega)
   have e:n/2^(mT f (n/2)+1)=n/2/2^mT f (n/2):=by rw[Nat.pow_succ,Nat.mul_comm,Nat.div_div_eq_div_mul]
   rw[e,Nat.pow_succ,Nat.mul_comm (2^_) 2,Nat.mul_assoc,<-ih];omega
  ·rw[if_neg hn];simp;omega
theorem LG:∀(f n:Nat),n<=f->lc (aF f n)=n
 |0,n,h=>by
  have:n=0:=by omega
  subst this;rfl
 |f+1,n,h=>by
  unfold aF
  by_cases hn:n=0
  ·rw[if_pos hn,hn];rfl
  ·rw[if_neg hn,FZ]
   have hp:0<2^mT n n:=Nat.two_pow_pos _
   have hd:n/2^mT n n/2<=f:=by
    have h1:n/2^mT n n<=n:=Nat.div_le_self _ _
    omega
   rw[LG f _ hd]
   exact(WU n n (by omega) (Nat.le_refl _)).symm
theorem VP {z:Int} (h:0<=z):rc (aa z)=z:=by
 unfold rc aa
 rw[List.map_map]
 have e:((fun row:List Int=>lc (row.map s3))∘fun n=>(aF n n).map vT)=id:=by
  funext n
  simp only[Function.comp,List.map_map,id]
  have:(s3∘vT)=id:=by funext k;exact asD k
  rw[this,List.map_id,LG n n (Nat.le_refl _)]
 rw[e,List.map_id,LG _ _ (Nat.le_refl _)]
 omega
def j2:V->List Nat
 | .w (.one (.sl b _ _ _ _ _))=>[b]
 | .w (.one (.slc b _ _ _))=>[b]
 |_=>[]
def IJ (cap df:I):M Unit:=cond (I.beq cap df) (pure ()) (eE 40 [cap,df])
noncomputable def GP (sh:List aw) (bl:List aq) (v:V):M I:=
 match v with
 | .w (.one (.con (.slice none 0 0)))=>pure (.const 0)
 | .w (.one (.sl b aL o ro len cap))=>match bl[b]? with
  |some ([.rows dR off code df kind],_)=>cond (Nat.blt 0 kind&&lV sh dR&&I.beq o off&&Nat.beq aL sh.length) (bind (eE 22 [code,ro,ro.add len]) fun _=>bind (IJ cap df) fun _=>dZ 22 [code,ro,ro.add len] 0 b8) fail
  |_=>fail
 | .w (.one (.slc b off len cap))=>match qL bl b off (len*sh.length)with
  |some cs=>cond (kL sh&&Nat.ble len 1073741824&&Nat.ble len cap&&Nat.ble cap 9223372036854775807) (uK sh (lH sh.length len cs) (.const 0)) fail
  |none=>fail
 |_=>fail
noncomputable def Mf (sh:List aw) (e:TypeId) (bl:List aq) (v:V):M I:=
 match v with
 | .w (.one (.con (.slice none 0 0)))=>pure (.const 0)
 | .w (.one (.sl b aL o ro len cap))=>match bl[b]? with
  |some ([.rows dR off code df kind],t)=>cond (Nat.beq kind 2&&lV sh dR&&I.beq o (.const 0)&&I.beq off (.const 0)&&I.beq ro (.const 0)&&I.beq cap df&&Nat.beq aL sh.length&&Nat.beq t.1 e) (bind (eE 22 [code,.const 0,len]) fun _=>dZ 22 [code,.const 0,len] 0 b8) fail
  |_=>fail
 | .w (.one (.slc b off len cap))=>match bl[b]? with
  |some (C,t)=>match qL bl b off (len*sh.length)with
   |some cs=>cond (kL sh&&Nat.ble len 1073741824&&Nat.ble len cap&&Nat.ble cap 9223372036854775807&&Nat.beq off 0&&Nat.beq C.length (cap*sh.length)&& !t.2&&Nat.beq t.1 e) (uK sh (lH sh.length len cs) (.const 0)) fail
   |none=>fail
  |none=>fail
 |_=>fail
def oi:V->List Nat
 | .w (.one (.slc b _ _ _))=>[b]
 |_=>[]
def mv (w0:de) (ρ:Env) (m:Nat->Nat) (bl:List aq) (bs os:List Nat) (g:Nat):Prop:=
 (∃b∈bs,m b=g/\∃p,bl[b]?=some p/\aY ρ p.1≠0/\(bI p.1=true->b∈os))/\(w0.ex g∨w0.ro g∨w0.r.heap.size<=g)
section
variable {S:Nat->List Int->List Int->Prop} {L:V->Env->Prop} {n:Nat} {ρ:Env} {m:Nat->Nat} {bl:List aq} {gl:dz} {w0:de} {P:Program} {w:World}
theorem qk.mono {F uC:Nat->Prop} {sh:List aw} {rows:List (List Int)} {v:Value} (h:qk F w sh rows v) (hF:∀g,F g->uC g):qk uC w sh rows v:=by
 rcases h with h|⟨g,o,cap,cells,t,fz,h1,h2,h3,h4⟩
 ·exact .inl h
 ·exact .inr ⟨g,o,cap,cells,t,fz,h1,h2,hF g h3,h4⟩
theorem Wv {b off len:Nat} {C:List A} {t:TypeId×Bool} {cs:List A} {sh:List aw} {rows:List (List Int)} (hb:cn n bl.length ρ bl) (hw:Mem w0 ρ m bl w) (aB:bl[b]?=some (C,t)) (hcs:qL bl b off (len*sh.length)=some cs)
 (iq:∀row∈rows,bT sh row) (hfl:aV sh rows=cs.map (A.den ρ m)):w0.b.heap.size<=m b/\(w0.ex (m b)∨w0.r.heap.size<=m b)/\∃cells:Array Value,w.heap[m b]?=some (.cells cells t.1 (0,0))/\j1 cells off sh rows/\(t.2=false->cells.size=C.length):=by
 unfold qL at hcs
 rw[aB]at hcs
 simp only at hcs
 cases hc:(Nat.ble (off+len*sh.length) C.length&&bI C)with
 |false=>rw[hc]at hcs;cases hcs
 |true=>
  rw[hc]at hcs
  simp only[cond_true,Option.some.injEq]at hcs
  simp only[Bool.and_eq_true]at hc
  have hle:=Nat.le_of_ble_eq_true hc.1
  obtain⟨g1,g2,r,hr,g3⟩:=hw.dX b C t aB hc.2
  refine⟨g1,g2,_,g3,⟨iq,(C.take off).map (A.den ρ m),((C.drop off).drop (len*sh.length)).map (A.den ρ m)++r,?_,by simp;omega⟩,fun ht=>by rw[hr ht];simp⟩
  rw[hfl,<-hcs]
  show C.map (A.den ρ m)++r=_
  have e:C=C.take off++((C.drop off).take (len*sh.length)++(C.drop off).drop (len*sh.length)):=by rw[List.take_append_drop,List.take_append_drop]
  conv=>lhs;rw[e]
  simp only[List.map_append,List.append_assoc]
theorem Ds:aa ((I.const 0).den ρ)=[]:=by rw[I.aK];exact fL
theorem nH:(0:Int)<=b8:=Int.le_trans (fp []) (mX (l:=[]) (by simp) (by simp))
theorem Wu {sh:List aw} {len:Nat} {cs:List A} (hsh:kL sh=true) (hl:len<=1073741824) (hok:∀a∈cs,A.ok n bl.length ρ a) (hcl:cs.length=len*sh.length):
 ai S L (uK sh (lH sh.length len cs) (.const 0)) n ρ fun ad n' l=>l.aX n'/\(0<=l.den ad/\l.den ad<=b8)/\(aa (l.den ad)).length=len/\(∀row∈aa (l.den ad),bT sh row)/\aV sh (aa (l.den ad))=cs.map (A.den ρ m):=by
 have iW:=Bo (w:=sh.length) (k:=len) hcl
 refine(A6 (nb:=bl.length) (m:=m) hsh (rs:=lH sh.length len cs) (c:= .const 0) (fun row hr a ha=>hok a (Bp row hr a ha)) (I.cA _ _) (by rw[I.aK];exact⟨Int.le_refl _,nH⟩) (by rw[Ds];intro _ h;simp at h) (by rw[Ds,iW.1];simpa using hl)).mono fun ax n1 l hn ha ⟨p1,p2,da,p3,dx,dy,fc⟩=>?_
 rw[Ds,List.nil_append]at p3
 rw[p3]
 exact⟨p1,p2,by rw[dx,iW.1],dy,by rw[fc,iW.2]⟩
theorem abL {cap df:I} {α:Type} {x:M α} {R:Env->Nat->α->Prop} (h:(0<=cap.den ρ->0<=df.den ρ)->ai S L x n ρ R):ai S L (bind (IJ cap df) fun _=>x) n ρ R:=by
 unfold IJ
 cases hc:I.beq cap df with
 |true=>exact h (by rw[I.beq_eq hc];exact id)
 |false=>exact fF h
theorem VR {sh:List aw} {v:V} {X:Value} (hb:cn n bl.length ρ bl) (hw:Mem w0 ρ m bl w) (hv:v.ok n bl.length ρ) (bw:v.rel ρ m X):
 ai S L (GP sh bl v) n ρ fun ad n' l=>l.aX n'/\(0<=l.den ad/\l.den ad<=b8)/\qk (mv w0 ρ m bl (j2 v) (oi v)) w sh (aa (l.den ad)) X:=by
 unfold GP
 split
 ·refine ai.pure ⟨I.cA _ _,by rw[I.aK];exact⟨Int.le_refl _,nH⟩,.inl ⟨bw,Ds⟩⟩
 ·rename_i b aL o ro len cap
  split
  ·rename_i dR off code df kind t aB
   refine dr fun hc=>fF fun hk=>?_
   simp only[Bool.and_eq_true]at hc
   obtain⟨⟨⟨c1,c2⟩,c3⟩,c4⟩:=hc
   have c1:0<kind:=Nat.le_of_ble_eq_true c1
   have c2:=uk c2;have c3:=I.beq_eq c3;have c4:=Nat.eq_of_beq_eq_true c4
   subst c2;subst c3;subst c4
   simp only[List.map_cons,List.map_nil,ab,I.den_add]at hk
   have CK:(A.sl b sh.length o ro len cap).ok n bl.length ρ:=hv
   obtain⟨ptr,e1,e2,bu⟩:=oh (m:=m) CK
   have bw:X=(A.sl b sh.length o ro len cap).den ρ m:=bw
   obtain⟨x1,⟨x2,fg,eX,e5⟩,⟨fh,ib,jd,je⟩,⟨jv,iN⟩,eH,fy⟩:=CK
   have ej:(A.rows sh o code df kind).ok n bl.length ρ:=hb _ (List.mem_of_getElem? aB) _ (by simp)
   have hf:aA 22 ([code,ro,ro.add len].map (·.den ρ))=rc (((aa (code.den ρ)).drop (ro.den ρ).toNat).take (len.den ρ).toNat):=by
    simp only[List.map_cons,List.map_nil,aA,I.den_add]
    congr 2;omega
   have eV:rc (((aa (code.den ρ)).drop (ro.den ρ).toNat).take (len.den ρ).toNat)<=b8:=by
    have h1:=VQ (aa (code.den ρ)) (ro.den ρ).toNat (len.den ρ).toNat
    rw[VP ej.2.1.1]at h1
    exact Int.le_trans h1 ej.2.1.2
   refine abL fun Fj=>?_
   refine(eZ (by rw[hf];exact fp _) (by rw[hf];exact eV)).mono fun ax n1 l hn ha ⟨k1,k2⟩=>?_
   rw[hf]at k2
   refine⟨k1,by rw[k2];exact⟨fp _,eV⟩,?_⟩
   rw[k2,dN]
   have hlen:(((aa (code.den ρ)).drop (ro.den ρ).toNat).take (len.den ρ).toNat).length=(len.den ρ).toNat:=by simp;omega
   rcases Int.lt_or_le (cap.den ρ) 0 with hcap|hcap
   ·left
    have:=eH hcap
    refine⟨by rw[bw,e1,e2 hcap,if_pos hcap,this];rfl,by rw[this];simp⟩
   ·right
    clear eV
    rcases Int.lt_or_le (df.den ρ) 0 with tq|tq
    ·have:=Fj hcap;omega
    ·obtain⟨kg,cells,hH,fz,bo,⟨bQ,cq⟩,_⟩:=(hw.rws b sh o code df kind t aB (by omega)).2 tq
     refine⟨m b,(o.den ρ).toNat+(ro.den ρ).toNat*sh.length,(cap.den ρ).toNat,cells,hH,fz,?_,⟨by rw[hlen];have:=fy hcap;omega,by omega⟩,⟨⟨b,by simp[j2],rfl,_,aB,by rw[mM (by omega) tq];omega,fun h=>by cases h⟩,kg⟩,bo,?_⟩
     ·rw[bw,e1,bu hcap,hlen,if_neg (by omega)]
     ·exact cq.sub _ _ (by omega)
  ·exact ai.fail
 ·rename_i b off len cap
  split
  ·rename_i cs hcs
   refine dr fun hc=>?_
   simp only[Bool.and_eq_true]at hc
   obtain⟨⟨⟨c1,c2⟩,c3⟩,c4⟩:=hc
   have c2:=Nat.le_of_ble_eq_true c2;have c3:=Nat.le_of_ble_eq_true c3;have c4:=Nat.le_of_ble_eq_true c4
   obtain⟨d1,d2,d3⟩:=Cb hw hb hcs
   refine(Wu (m:=m) c1 c2 d2 d1).mono fun ax n1 l hn ha ⟨k1,k2,k3,k4,k5⟩=>⟨k1,k2,.inr ?_⟩
   have bw:X= .slice (some ⟨m b,off,none⟩) len cap:=bw
   cases aB:bl[b]? with
   |none=>unfold qL at hcs;rw[aB]at hcs;cases hcs
   |some q=>
    obtain⟨C,t⟩:=q
    obtain⟨g1,g2,cells,g3,g4,_⟩:=Wv hb hw aB hcs k4 k5
    have jF:bI C=true:=by
     unfold qL at hcs
     rw[aB]at hcs
     simp only at hcs
     cases hc:(Nat.ble (off+len*sh.length) C.length&&bI C)with
     |false=>rw[hc]at hcs;cases hcs
     |true=>simp only[Bool.and_eq_true]at hc;exact hc.2
    exact⟨m b,off,cap,cells,t.1,(0,0),by rw[bw,k3],⟨by omega,by omega⟩,⟨⟨b,by simp[j2],rfl,_,aB,by rw[iv jF];decide,fun _=>by simp[oi]⟩,g2.elim .inl fun h=> .inr (.inr h)⟩,g3,g4⟩
  ·exact ai.fail
 ·exact ai.fail
theorem ak5 {sh:List aw} {e:TypeId} {v:V} {X:Value} (hex:∀g,¬w0.ex g) (hb:cn n bl.length ρ bl) (hw:Mem w0 ρ m bl w) (hv:v.ok n bl.length ρ) (bw:v.rel ρ m X):
 ai S L (Mf sh e bl v) n ρ fun ad n' l=>l.aX n'/\(0<=l.den ad/\l.den ad<=b8)/\ps (fun g=>w0.r.heap.size<=g) w sh e (aa (l.den ad)) X:=by
 unfold Mf
 split
 ·refine ai.pure ⟨I.cA _ _,by rw[I.aK];exact⟨Int.le_refl _,nH⟩,.inl ⟨bw,Ds⟩⟩
 ·rename_i b aL o ro len cap
  split
  ·rename_i dR off code df kind t aB
   refine dr fun hc=>fF fun hk=>?_
   simp only[Bool.and_eq_true]at hc
   obtain⟨⟨⟨⟨⟨⟨⟨c1,c2⟩,c3⟩,Bi⟩,IE⟩,fU⟩,c4⟩,c5⟩:=hc
   have c1:=Nat.eq_of_beq_eq_true c1
   have c2:=uk c2;have c3:=I.beq_eq c3;have Bi:=I.beq_eq Bi;have IE:=I.beq_eq IE;have fU:=I.beq_eq fU;have c4:=Nat.eq_of_beq_eq_true c4;have c5:=Nat.eq_of_beq_eq_true c5
   subst c2;subst c3;subst c4;subst Bi;subst IE;subst fU;subst c5;subst c1
   simp only[List.map_cons,List.map_nil,ab,I.aK]at hk
   have CK:(A.sl b sh.length (.const 0) (.const 0) len cap).ok n bl.length ρ:=hv
   obtain⟨ptr,e1,e2,bu⟩:=oh (m:=m) CK
   have bw:X=(A.sl b sh.length (.const 0) (.const 0) len cap).den ρ m:=bw
   obtain⟨x1,⟨x2,fg,eX,e5⟩,⟨fh,ib,jd,je⟩,⟨jv,iN⟩,eH,fy⟩:=CK
   rw[I.aK]at iN
   have ej:(A.rows sh (.const 0) code cap 2).ok n bl.length ρ:=hb _ (List.mem_of_getElem? aB) _ (by simp)
   have hf:aA 22 ([code,.const 0,len].map (·.den ρ))=rc (((aa (code.den ρ)).drop 0).take (len.den ρ).toNat):=by
    simp only[List.map_cons,List.map_nil,aA,I.aK]
    congr 2
   have eV:rc (((aa (code.den ρ)).drop 0).take (len.den ρ).toNat)<=b8:=by
    have h1:=VQ (aa (code.den ρ)) 0 (len.den ρ).toNat
    rw[VP ej.2.1.1]at h1
    exact Int.le_trans h1 ej.2.1.2
   refine(eZ (by rw[hf];exact fp _) (by rw[hf];exact eV)).mono fun ax n1 l hn ha ⟨k1,k2⟩=>?_
   rw[hf]at k2
   refine⟨k1,by rw[k2];exact⟨fp _,eV⟩,?_⟩
   rw[k2,dN]
   have hlen:(((aa (code.den ρ)).drop 0).take (len.den ρ).toNat).length=(len.den ρ).toNat:=by simp;omega
   rcases Int.lt_or_le (cap.den ρ) 0 with hcap|hcap
   ·left
    have:=eH hcap
    refine⟨by rw[bw,e1,e2 hcap,if_pos hcap,this];rfl,by rw[this];simp⟩
   ·right
    clear eV
    obtain⟨kg,cells,hH,fz,bo,⟨bQ,cq⟩,dq⟩:=(hw.rws b sh (.const 0) code cap 2 t aB (by omega)).2 hcap
    obtain⟨p0,p1,p2,p3,dx,dy⟩:=dq (by omega)
    have p2:=p2.two
    subst p0;subst p2
    rw[I.aK]at cq
    refine⟨m b,(cap.den ρ).toNat,cells,?_,⟨by rw[hlen];have:=fy hcap;omega,by omega⟩,dy.elim (fun h=>absurd h (hex _)) id,bo,?_,p3⟩
    ·rw[bw,e1,bu hcap,hlen,if_neg (by omega)];simp[I.aK]
    ·have:=cq.sub 0 (len.den ρ).toNat (by omega)
     simpa using this
  ·exact ai.fail
 ·rename_i b off len cap
  split
  ·rename_i C t aB
   split
   ·rename_i cs hcs
    refine dr fun hc=>?_
    simp only[Bool.and_eq_true]at hc
    obtain⟨⟨⟨⟨⟨⟨⟨c1,c2⟩,c3⟩,c4⟩,c5⟩,fU⟩,l6⟩,lG⟩:=hc
    have c2:=Nat.le_of_ble_eq_true c2;have c3:=Nat.le_of_ble_eq_true c3;have c4:=Nat.le_of_ble_eq_true c4
    have c5:=Nat.eq_of_beq_eq_true c5;have fU:=Nat.eq_of_beq_eq_true fU;have lG:=Nat.eq_of_beq_eq_true lG
    subst c5;subst lG
    obtain⟨d1,d2,d3⟩:=Cb hw hb hcs
    refine(Wu (m:=m) c1 c2 d2 d1).mono fun ax n1 l hn ha ⟨k1,k2,k3,k4,k5⟩=>⟨k1,k2,.inr ?_⟩
    have bw:X= .slice (some ⟨m b,0,none⟩) len cap:=bw
    obtain⟨g1,g2,cells,g3,g4,g5⟩:=Wv hb hw aB hcs k4 k5
    exact⟨m b,cap,cells,by rw[bw,k3],⟨by omega,by omega⟩,g2.elim (fun h=>absurd h (hex _)) id,g3,g4,by rw[g5 (by simpa using l6),fU]⟩
   ·exact ai.fail
  ·exact ai.fail
 ·exact ai.fail
end
def Jv (d:D) (v:V):M (List I):=
 match d,v with
 | .bool,.w (.one (.bool e))=>match e with
  | .lit v=>pure [.const (cond v 1 0)]
  |e=>bind (xv e) fun l=>pure [l]
 | .int k lo hi,.w (.one (.int aQ x))=>cond (decide (k=aQ)) (cond (m6 lo hi x) (pure [x.l]) (bind (eE 39 [x.l,.const lo,.const hi]) fun _=>pure [x.l])) fail
 | .mix l,.w (.agg s)=>uf l s
 | .str,.w (.one (.str l))=>pure [l]
 | .jQ l,.w (.one (.str x))=>match x.dg with|some c=>cond (decide (c=dI (pR l))) (pure []) fail|none=>fail
 | .oT k c,.w (.one (.int aQ x))=>match x.l.dg with|some d=>cond (decide (k=aQ)&&decide (d=c)) (pure []) fail|none=>fail
 | .agg k n lo hi,.w (.agg l)=>cond (Nat.beq l.length n) (match ks k lo hi l with|some r=>pure r|none=>fail) fail
 |_,_=>fail
noncomputable def uV (bl:List aq):List bV->List V->M (List I)
 |[],[]=>pure []
 | .d x::r,v::s=>bind (Jv x v) fun a=>bind (uV bl r s) fun b=>pure (a++b)
 | .rd sh::r,v::s=>bind (GP sh bl v) fun a=>bind (uV bl r s) fun b=>pure (a::b)
 |_,_=>fail
section
variable {S:Nat->List Int->List Int->Prop} {L:V->Env->Prop} {w0:de} {P:Program} {w:World}
theorem MD:∀{sh:List aw} {zs:List Int},bT sh zs->av (sh.map aw.ef) zs/\List.zipWith aw.val sh zs=cO sh zs
 |[],[],_=>⟨trivial,rfl⟩
 |c::sh,z::zs,h=>⟨⟨h.1.1,h.1.2,(MD h.2).1⟩,by simp[cO,(MD h.2).2]⟩
 |[],_::_,h=>h.elim
 |_::_,[],h=>h.elim
theorem ac5 {d:D} {v:V} {X:Value} {n nb:Nat} {ρ:Env} {m:Nat->Nat} (hv:v.ok n nb ρ) (bw:v.rel ρ m X):ai S L (Jv d v) n ρ fun ad n' ls=>(∀x∈ls,I.aX n' x)/\av d.bds (ls.map (·.den ad))/\X=d.val (ls.map (·.den ad)):=by
 unfold Jv
 split
 ·rename_i e
  have bw:X= .bool (e.den ρ):=bw
  have key:ai S L (bind (xv e) fun l=>pure [l]) n ρ fun ad n' ls=>(∀x∈ls,I.aX n' x)/\av D.bool.bds (ls.map (·.den ad))/\X=D.bool.val (ls.map (·.den ad)):=
   FR.bind fun ax n1 l hn ha ⟨g1,g2,g3⟩=>ai.pure ⟨fun x hx=>by simp at hx;subst hx;exact g1,⟨g2.1,g2.2,trivial⟩,by rw[bw,g3];rfl⟩
  cases e with
  |lit b=>
   refine ai.pure ⟨fun x hx=>by simp at hx;subst hx;exact I.cA _ _,?_,?_⟩
   ·simp only[List.map_cons,List.map_nil,I.aK,D.bds];cases b<;>exact⟨by decide,by decide,trivial⟩
   ·rw[bw];simp only[List.map_cons,List.map_nil,I.aK];cases b<;>rfl
  |_=>exact key
 ·rename_i k lo hi aQ x
  refine dr fun hk=>?_
  have hk:k=aQ:=by simpa using hk
  subst hk
  have hv:x.ok n ρ:=hv
  have bw:X= .int k (x.l.den ρ):=bw
  cases hf:m6 lo hi x with
  |true=>
   have:=BE hf hv
   exact ai.pure ⟨fun y hy=>by simp at hy;subst hy;exact hv.1,⟨this.1,this.2,trivial⟩,bw⟩
  |false=>
   refine fF fun hk=>ai.pure ?_
   simp only[List.map_cons,List.map_nil,ab,I.aK]at hk
   exact⟨fun y hy=>by simp at hy;subst hy;exact hv.1,⟨hk.1,hk.2,trivial⟩,bw⟩
 ·rename_i l s
  have bw:X= .agg (s.map (A.den ρ m)).toArray:=bw
  refine(Aj (nb:=nb) (m:=m) hv).mono fun ax n1 ls hn ha ⟨g1,g2,g3⟩=>?_
  have:=MD g2
  refine⟨g1,this.1,?_⟩
  rw[bw,<-g3]
  simp only[D.val,this.2]
 ·rename_i l
  have bw:X= .string (bb (U (l.den ρ))):=bw
  have hv:l.aX n/\0<=l.den ρ/\l.den ρ<=cy:=hv
  exact ai.pure ⟨fun y hy=>by simp at hy;subst hy;exact hv.1,⟨hv.2.1,hv.2.2,trivial⟩,bw⟩
 ·rename_i l x
  have bw:X= .string (bb (U (x.den ρ))):=bw
  cases hc:x.dg with
  |none=>exact ai.fail
  |some c=>
   refine dr fun hd=>ai.pure ⟨fun y hy=>by simp at hy,trivial,?_⟩
   rw[bw,WG (n:=n) hc (by simpa using hd)];rfl
 ·rename_i k c aQ x
  have bw:X= .int aQ (x.l.den ρ):=bw
  cases hc:x.l.dg with
  |none=>exact ai.fail
  |some d=>
   refine dr fun hd=>ai.pure ⟨fun y hy=>by simp at hy,trivial,?_⟩
   simp only[Bool.and_eq_true,decide_eq_true_eq]at hd
   rw[bw,I.gq hc,<-hd.1,hd.2];rfl
 ·rename_i k n' lo hi l
  refine dr fun hk=>?_
  have hk:=Nat.eq_of_beq_eq_true hk
  have bw:X= .agg (l.map (A.den ρ m)).toArray:=bw
  cases hf:ks k lo hi l with
  |none=>exact ai.fail
  |some r=>
   obtain⟨g1,g2,g3⟩:=Jt (m:=m) hf hv
   rw[hk]at g2
   refine ai.pure ⟨Js hf hv,g2,?_⟩
   rw[bw,g3]
   simp only[D.val]
   rw[List.take_of_length_le (by simp[g1,hk])]
 ·exact ai.fail
theorem UW {n:Nat} {ρ ad:Env} {ls:List I} (h:∀x∈ls,I.aX n x) (ha:agree n ρ ad):ls.map (·.den ad)=ls.map (·.den ρ):=List.map_congr_left fun x hx=>I.bA ha (h x hx)
theorem mv.later {n nb:Nat} {ρ ad:Env} {m:Nat->Nat} {bl:List aq} {bs os:List Nat} {g:Nat} (hb:cn n nb ρ bl) (ha:agree n ρ ad) (h:mv w0 ad m bl bs os g):mv w0 ρ m bl bs os g:=by
 obtain⟨⟨b,h1,h2,p,h3,h4,h6⟩,h5⟩:=h
 exact⟨⟨b,h1,h2,p,h3,by rw[<-o7 (hb p (List.mem_of_getElem? h3)) ha];exact h4,h6⟩,h5⟩
theorem BI {bl:List aq} {m:Nat->Nat}:∀{ds:List bV} {vs:List V} {xs:List Value} {n:Nat} {ρ:Env},cn n bl.length ρ bl->Mem w0 ρ m bl w->(∀v∈vs,V.ok n bl.length ρ v)->dK ρ m vs xs->
 ai S L (uV bl ds vs) n ρ fun ad n' ls=>(∀x∈ls,I.aX n' x)/\av (cG ds) (ls.map (·.den ad))/\∀F:Nat->Prop,(∀g,mv w0 ρ m bl (vs.flatMap j2) (vs.flatMap oi) g->F g)->ik F (fun _=>False) w ds (ls.map (·.den ad)) xs
 |[],[],[],n,ρ,_,_,_,_=>ai.pure ⟨fun _ h=>by simp at h,trivial,fun _ _=>trivial⟩
 | .d x::r,v::s,X::xs,n,ρ,hb,hw,hv,hr=>by
  unfold uV
  refine(ac5 (hv v (by simp)) hr.1).bind fun ax n1 a hn ha ⟨g1,g2,g3⟩=>?_
  refine(BI (ds:=r) (vs:=s) (xs:=xs) (hb.ext ha hn (Nat.le_refl _)) (hw.lv hb ha) (fun u hu=>(hv u (List.mem_cons_of_mem _ hu)).ext ha hn (Nat.le_refl _)) (dK.later (fun u hu=>hv u (List.mem_cons_of_mem _ hu)) ha hr.2)).bind fun bC dM b dU dd ⟨k1,k2,k3⟩=>ai.pure ⟨fun y hy=>?_,?_,fun F hF=>?_⟩
  ·rcases List.mem_append.1 hy with hy|hy
   ·exact(g1 y hy).mono dU
   ·exact k1 y hy
  ·rw[List.map_append,UW g1 dd]
   exact nV g2 k2
  ·have hl:(a.map (·.den ax)).length=x.num:=by rw[lP g2,D.Ba]
   rw[List.map_append,UW g1 dd]
   refine⟨?_,?_⟩
   ·show X=x.val _
    rw[D.W1 x hl];exact g3
   ·show ik F _ w r (List.drop x.num _) xs
    rw[<-hl,List.drop_left]
    exact k3 F fun g hg=>hF g (by
     have:=mv.later hb ha hg
     obtain⟨⟨b6,h1,h2,p,h4,h5,h6⟩,h3⟩:=this
     exact⟨⟨b6,by simp only[List.flatMap_cons,List.mem_append];exact .inr h1,h2,p,h4,h5,fun h=>by simp only[List.flatMap_cons,List.mem_append];exact .inr (h6 h)⟩,h3⟩)
 | .rd sh::r,v::s,X::xs,n,ρ,hb,hw,hv,hr=>by
  unfold uV
  refine(VR hb hw (hv v (by simp)) hr.1).bind fun ax n1 a hn ha ⟨g1,g2,g3⟩=>?_
  refine(BI (ds:=r) (vs:=s) (xs:=xs) (hb.ext ha hn (Nat.le_refl _)) (hw.lv hb ha) (fun u hu=>(hv u (List.mem_cons_of_mem _ hu)).ext ha hn (Nat.le_refl _)) (dK.later (fun u hu=>hv u (List.mem_cons_of_mem _ hu)) ha hr.2)).bind fun bC dM b dU dd ⟨k1,k2,k3⟩=>ai.pure ⟨fun y hy=>?_,?_,fun F hF=>?_⟩
  ·rcases List.mem_cons.1 hy with rfl|hy
   ·exact g1.mono dU
   ·exact k1 y hy
  ·simp only[List.map_cons,I.bA dd g1]
   exact⟨g2.1,g2.2,k2⟩
  ·simp only[List.map_cons,I.bA dd g1]
   refine⟨?_,?_⟩
   ·show qk F w sh (aa _) X
    exact g3.mono fun g hg=>hF g (by
     obtain⟨⟨b6,h1,h2,p,h4,h5,h6⟩,h3⟩:=hg
     exact⟨⟨b6,by simp only[List.flatMap_cons,List.mem_append];exact .inl h1,h2,p,h4,h5,fun h=>by simp only[List.flatMap_cons,List.mem_append];exact .inl (h6 h)⟩,h3⟩)
   ·exact k3 F fun g hg=>hF g (by
     have:=mv.later hb ha hg
     obtain⟨⟨b6,h1,h2,p,h4,h5,h6⟩,h3⟩:=this
     exact⟨⟨b6,by simp only[List.flatMap_cons,List.mem_append];exact .inr h1,h2,p,h4,h5,fun h=>by simp only[List.flatMap_cons,List.mem_append];exact .inr (h6 h)⟩,h3⟩)
 |[],_::_,_,_,_,_,_,_,_=>ai.fail
 | .d _::_,[],_,_,_,_,_,_,_=>ai.fail
 | .rd _::_,[],_,_,_,_,_,_,_=>ai.fail
 | .jJ _ _::_,[],_,_,_,_,_,_,_=>ai.fail
 | .jJ _ _::_,_::_,_,_,_,_,_,_,_=>ai.fail
 |_,[],_::_,_,_,_,_,_,hr=>hr.elim
 |_,_::_,[],_,_,_,_,_,hr=>hr.elim
where
 dK.later {n nb:Nat} {ρ ad:Env} {m:Nat->Nat}:∀{vs:List V} {xs:List Value},(∀v∈vs,V.ok n nb ρ v)->agree n ρ ad->dK ρ m vs xs->dK ad m vs xs
 |[],[],_,_,_=>trivial
 |v::vs,x::xs,hv,ha,hr=>⟨V.rel.ext hr.1 (hv v (by simp)) ha (fun _ _=>rfl),dK.later (fun u hu=>hv u (List.mem_cons_of_mem _ hu)) ha hr.2⟩
 |[],_::_,_,_,hr=>hr.elim
 |_::_,[],_,_,hr=>hr.elim
end
end Go.bj

/- Contracts with slices: the call,the tree,the condition. -/
set_option linter.unusedVariables false
set_option linter.unusedSimpArgs false
namespace Go.bj
open M
def uX:List Nat->List aq->List aq
 |[],bl=>bl
 |b::r,bl=>match bl[b]? with
  |some ([.rows sh off code cap (k+1)],t)=>uX r (cP bl b ([.rows sh off code cap 1],t))
  |_=>uX r bl
def sH (us:List W):V:=match us with|[u]=> .w u|l=> .e4 l
def ss:List V->Bool
 |[]=>true
 | .w (.one (.slc ..))::_=>false
 |_::r=>ss r
noncomputable def db.AQ (c:db) (n:Nat) (vs:List V) (bl:List aq) (k:RK):T:=
 uV bl c.args vs n fun ls n1=>cond (mz c.res&&(!(c.res.any bV.lQ)||ss vs)) (Gy c.pre ls (.call c.id ls n1 (cG c.res) (pt c.res n1 (n1+(cG c.res).length) [] (cond (c.res.any bV.lQ) (uX (vs.flatMap j2) bl) bl) fun dM us j3=>k dM (sH us) j3))) .stuck
def Xd (sh:List aw) (b:Nat):V:= .w (.one (.sl b sh.length (.const 0) (.const 0) (.const 0) (.const 0)))
def N5 (rd:Bool) (sh:List aw) (b:Nat) (bl:List aq):Option (List aq):=
 match bl[b]? with
 |some ([],(t,false))=>cond rd (some (cP bl b ([.rows sh (.const 0) (.const 0) (.const 0) 1],(t,false)))) none
 |some ([.rows dR off code cap kind],t)=>cond (lV sh dR&&I.beq off (.const 0)&&I.beq cap (.const 0)&&Nat.blt 0 kind) (some bl) none
 |_=>none
def jy (rd:Bool):List bV->List V->List aq->List V×List aq
 | .rd sh::r,v::s,bl=>match v with
  | .w (.one (.slc b 0 0 0))=>match N5 rd sh b bl with
   |some m2=>(Xd sh b::(jy rd r s m2).1,(jy rd r s m2).2)
   |none=>(v::(jy rd r s bl).1,(jy rd r s bl).2)
  |_=>(v::(jy rd r s bl).1,(jy rd r s bl).2)
 |_::r,v::s,bl=>(v::(jy rd r s bl).1,(jy rd r s bl).2)
 |_,vs,bl=>(vs,bl)
noncomputable def db.E (c:db) (n:Nat) (vs:List V) (bl:List aq) (k:RK):T:=
 c.AQ n (jy (c.res.any bV.lQ) c.args vs bl).1 (jy (c.res.any bV.lQ) c.args vs bl).2 k
section
variable {S:Nat->List Int->List Int->Prop} {L:V->Env->Prop} {w0:de} {P:Program}
theorem Mem.zero {ρ:Env} {m:Nat->Nat} {bl:List aq} {w:World} {b:Nat} {sh:List aw} {t:TypeId} (h:Mem w0 ρ m bl w) (aB:bl[b]?=some ([],(t,false))):Mem w0 ρ m (cP bl b ([.rows sh (.const 0) (.const 0) (.const 0) 1],(t,false))) w:=by
 have kV:b<bl.length:=(List.getElem?_eq_some_iff.1 aB).1
 obtain⟨bo,bQ,r,hr,cq⟩:=h.dX b [] (t,false) aB rfl
 have hr:=hr rfl
 subst hr
 have cN:∀(i:Nat) (p:aq),(cP bl b ([.rows sh (.const 0) (.const 0) (.const 0) 1],(t,false)))[i]?=some p->(i=b/\p=([.rows sh (.const 0) (.const 0) (.const 0) 1],(t,false)))∨(i≠b/\bl[i]?=some p):=fun i p hi=>by
  rw[gZ,List.getElem?_set]at hi
  split at hi
  ·rename_i dT
   subst dT
   simp only[kV,if_true,Option.some.injEq]at hi
   exact .inl ⟨rfl,hi.symm⟩
  ·rename_i dT;exact .inr ⟨fun e=>dT e.symm,hi⟩
 have hold:aY ρ ([]:List A)=2:=iv rfl
 refine⟨h.ext,h.fI,h.iu,h.gr,h.ek,h.fv,fun i gH t' hi fX=>?_,fun i dR fK code' fE lj t' hi=>?_,fun i j p q hi hj he=>?_⟩
 ·rcases cN i _ hi with⟨rfl,cE⟩|⟨hne,hi⟩
  ·cases cE;cases fX
  ·exact h.dX i gH t' hi fX
 ·rcases cN i _ hi with⟨rfl,cE⟩|⟨hne,hi⟩
  ·cases cE
   intro _
   simp only[I.aK]
   exact⟨fun h0=>by omega,fun _=>⟨bQ.elim .inl fun h=> .inr (.inr h),_,_,_,cq,⟨Int.le_refl _,by rw[fL];intro _ h;simp at h,[],[],by simp[fL,aV],rfl⟩,fun bX=>by omega⟩⟩
  ·exact h.rws i dR fK _ fE lj t' hi
 ·rcases cN i _ hi with⟨rfl,cE⟩|⟨hne,l9⟩
  ·rcases cN j _ hj with⟨rfl,nR⟩|⟨agG,hj⟩
   ·exact .inl rfl
   ·rcases h.inj i j _ q aB hj he with h1|h1|h1|h1
    ·exact .inl h1
    ·simp only[hold]at h1;omega
    ·simp only[hold]at h1;omega
    ·exact .inr (.inr (.inr h1))
  ·rcases cN j _ hj with⟨xa,nR⟩|⟨agG,hj⟩
   ·subst xa
    rcases h.inj i j p _ l9 aB he with h1|h1|h1|h1
    ·exact .inl h1
    ·simp only[hold]at h1;omega
    ·exact .inr (.inr (.inl h1))
    ·simp only[hold]at h1;omega
   ·exact h.inj i j p q l9 hj he
theorem asx {n:Nat} {ρ:Env} {m:Nat->Nat} {w:World} {rd:Bool} {sh:List aw} {b:Nat} {bl m2:List aq} (h:N5 rd sh b bl=some m2) (hm:Mem w0 ρ m bl w) (hb:cn n bl.length ρ bl):Mem w0 ρ m m2 w/\cn n m2.length ρ m2/\m2.length=bl.length/\b<bl.length:=by
 unfold N5 at h
 split at h
 ·rename_i t aB
  cases rd with
  |false=>cases h
  |true=>
   simp only[cond_true,Option.some.injEq]at h
   subst h
   refine⟨hm.zero aB,hb.set (fun a ha=>?_),hE _ _ _,(List.getElem?_eq_some_iff.1 aB).1⟩
   have ha:a= .rows sh (.const 0) (.const 0) (.const 0) 1:=by simpa using ha
   subst ha
   refine⟨⟨I.cA _ _,I.cA _ _,I.cA _ _⟩,?_,?_⟩
   ·simp only[I.aK];exact⟨Int.le_refl _,nH⟩
   ·simp only[I.aK];omega
 ·rename_i dR off code cap kind t aB
  cases hc:(lV sh dR&&I.beq off (.const 0)&&I.beq cap (.const 0)&&Nat.blt 0 kind)with
  |false=>rw[hc]at h;cases h
  |true=>
   rw[hc]at h
   simp only[cond_true,Option.some.injEq]at h
   subst h
   exact⟨hm,hb,rfl,(List.getElem?_eq_some_iff.1 aB).1⟩
 ·cases h
theorem N6 {n:Nat} {ρ:Env} {m:Nat->Nat} {w:World} {rd:Bool}:∀{ds:List bV} {vs:List V} {bl:List aq} {xs:List Value},Mem w0 ρ m bl w->cn n bl.length ρ bl->(∀v∈vs,V.ok n bl.length ρ v)->dK ρ m vs xs->
 Mem w0 ρ m (jy rd ds vs bl).2 w/\cn n (jy rd ds vs bl).2.length ρ (jy rd ds vs bl).2/\(jy rd ds vs bl).2.length=bl.length/\(∀v∈(jy rd ds vs bl).1,V.ok n bl.length ρ v)/\dK ρ m (jy rd ds vs bl).1 xs
 |[],vs,bl,xs,hm,hb,hv,hr=>⟨hm,hb,rfl,hv,hr⟩
 |d::r,[],bl,xs,hm,hb,hv,hr=>by
  cases d<;>exact⟨hm,hb,rfl,hv,hr⟩
 |d::r,v::s,bl,xs,hm,hb,hv,hr=>by
  match xs,hr with
  |x::xs,hr=>
  have ev:Mem w0 ρ m (jy rd r s bl).2 w/\cn n (jy rd r s bl).2.length ρ (jy rd r s bl).2/\(jy rd r s bl).2.length=bl.length/\(∀u∈(v::(jy rd r s bl).1),V.ok n bl.length ρ u)/\dK ρ m (v::(jy rd r s bl).1) (x::xs):=by
   obtain⟨g1,g2,g3,g4,g5⟩:=N6 (rd:=rd) (ds:=r) (vs:=s) hm hb (fun u hu=>hv u (List.mem_cons_of_mem _ hu)) hr.2
   exact⟨g1,g2,g3,fun u hu=>by
    rcases List.mem_cons.1 hu with rfl|hu
    ·exact hv u (by simp)
    ·exact g4 u hu,hr.1,g5⟩
  cases d with
  |d y=>exact ev
  |jJ sh e=>exact ev
  |rd sh=>
   unfold jy
   split
   ·rename_i b _
    split
    ·rename_i m2 hz
     obtain⟨bo,bQ,cq,dq⟩:=asx hz hm hb
     obtain⟨g1,g2,g3,g4,g5⟩:=N6 (rd:=rd) (ds:=r) (vs:=s) bo bQ (fun u hu=>by rw[cq];exact hv u (List.mem_cons_of_mem _ hu)) hr.2
     refine⟨g1,g2,by rw[g3,cq],fun u hu=>?_,?_,g5⟩
     ·rcases List.mem_cons.1 hu with rfl|hu
      ·refine⟨dq,⟨I.cA _ _,I.cA _ _,I.cA _ _,I.cA _ _⟩,?_⟩
       simp only[I.aK]
       exact⟨⟨by omega,by omega,by omega,by omega⟩,⟨by omega,by omega⟩,fun h=>by omega,fun _=>by omega⟩
      ·rw[<-cq];exact g4 u hu
     ·have h0:x= .slice (some ⟨m b,0,none⟩) 0 0:=hr.1
      rw[h0]
      simp[Xd,V.rel,W.den,A.den,I.aK]
    ·exact ev
   ·exact ev
theorem Mem.low {ρ:Env} {m:Nat->Nat} {bl:List aq} {w:World} {b k:Nat} {sh:List aw} {off code cap:I} {t:TypeId×Bool} (h:Mem w0 ρ m bl w) (aB:bl[b]?=some ([.rows sh off code cap (k+1)],t)):Mem w0 ρ m (cP bl b ([.rows sh off code cap 1],t)) w:=by
 have kV:b<bl.length:=(List.getElem?_eq_some_iff.1 aB).1
 have cN:∀(i:Nat) (p:aq),(cP bl b ([.rows sh off code cap 1],t))[i]?=some p->(i=b/\p=([.rows sh off code cap 1],t))∨(i≠b/\bl[i]?=some p):=fun i p hi=>by
  rw[gZ,List.getElem?_set]at hi
  split at hi
  ·rename_i dT
   subst dT
   simp only[kV,if_true,Option.some.injEq]at hi
   exact .inl ⟨rfl,hi.symm⟩
  ·rename_i dT;exact .inr ⟨fun e=>dT e.symm,hi⟩
 have hk:∀(i:Nat) (p:aq),(cP bl b ([.rows sh off code cap 1],t))[i]?=some p->∃p',bl[i]?=some p'/\aY ρ p.1<=aY ρ p'.1/\(aY ρ p'.1≠0->True):=fun i p hi=>by
  rcases cN i p hi with⟨rfl,rfl⟩|⟨hne,hi⟩
  ·refine⟨_,aB,?_,fun _=>trivial⟩
   simp only[aY];split<;>omega
  ·exact⟨p,hi,Nat.le_refl _,fun _=>trivial⟩
 refine⟨h.ext,h.fI,h.iu,h.gr,h.ek,h.fv,fun i gH t' hi ho=>?_,fun i dR fK code' fE lj t' hi=>?_,fun i j p q hi hj he=>?_⟩
 ·rcases cN i _ hi with⟨rfl,cE⟩|⟨hne,hi⟩
  ·cases cE;cases ho
  ·exact h.dX i gH t' hi ho
 ·rcases cN i _ hi with⟨rfl,cE⟩|⟨hne,hi⟩
  ·cases cE
   intro _
   obtain⟨g1,g2⟩:=h.rws i _ _ _ _ (k+1) _ aB (by omega)
   refine⟨g1,fun hc=>?_⟩
   obtain⟨g3,cells,hH,fz,g4,g5,_⟩:=g2 hc
   exact⟨g3,cells,hH,fz,g4,g5,fun h2=>by omega⟩
  ·exact h.rws i dR fK _ fE lj t' hi
 ·obtain⟨p',h1,h2,_⟩:=hk i p hi
  obtain⟨q',h3,h4,_⟩:=hk j q hj
  rcases h.inj i j p' q' h1 h3 he with h5|h5|h5|h5
  ·exact .inl h5
  ·exact .inr (.inl ⟨by omega,by omega⟩)
  ·exact .inr (.inr (.inl (by omega)))
  ·exact .inr (.inr (.inr (by omega)))
theorem JA {n nb:Nat} {ρ:Env} {m:Nat->Nat} {w:World}:∀{bs:List Nat} {bl:List aq},Mem w0 ρ m bl w->cn n nb ρ bl->Mem w0 ρ m (uX bs bl) w/\cn n nb ρ (uX bs bl)/\(uX bs bl).length=bl.length/\
 ∀(i:Nat) (p:aq),(uX bs bl)[i]?=some p->∃p',bl[i]?=some p'/\aY ρ p.1<=aY ρ p'.1/\(i∈bs->bI p'.1=false->aY ρ p.1<=1)
 |[],bl,h,hb=>⟨h,hb,rfl,fun i p hi=>⟨p,hi,Nat.le_refl _,fun h=>by simp at h⟩⟩
 |b::r,bl,h,hb=>by
  unfold uX
  split
  ·rename_i sh off code cap k t aB
   have kV:b<bl.length:=(List.getElem?_eq_some_iff.1 aB).1
   have gS:cn n nb ρ (cP bl b ([.rows sh off code cap 1],t)):=fun p hp a ha=>by
    rw[gZ]at hp
    rcases List.mem_or_eq_of_mem_set hp with hp|hp
    ·exact hb p hp a ha
    ·subst hp
     simp at ha;subst ha
     have h0:A.ok n nb ρ (.rows sh off code cap (k+1)):=hb _ (List.mem_of_getElem? aB) _ (by simp)
     exact h0
   obtain⟨g1,g2,g3,g4⟩:=JA (bs:=r) (h.low aB) gS
   refine⟨g1,g2,by rw[g3,hE],fun i p hp=>?_⟩
   obtain⟨p',h1,h2,h3⟩:=g4 i p hp
   by_cases gJ:i=b
   ·subst gJ
    rw[gZ,List.getElem?_set_self kV]at h1
    cases h1
    refine⟨_,aB,Nat.le_trans h2 (by simp only[aY];split<;>omega),fun _ _=>Nat.le_trans h2 (by simp only[aY];split<;>omega)⟩
   ·rw[gZ,List.getElem?_set_ne (fun e=>gJ e.symm)]at h1
    exact⟨p',h1,h2,fun hi ho=>h3 (by simpa [gJ]using hi) ho⟩
  ·rename_i hno
   obtain⟨g1,g2,g3,g4⟩:=JA (bs:=r) h hb
   refine⟨g1,g2,g3,fun i p hp=>?_⟩
   obtain⟨p',h1,h2,h3⟩:=g4 i p hp
   refine⟨p',h1,h2,fun hi ho=>?_⟩
   rcases List.mem_cons.1 hi with rfl|hi
   ·obtain⟨C,t⟩:=p'
    obtain⟨sh,off,code,cap,k,rfl⟩:=Gn ho
    cases k with
    |zero=>
     have:aY ρ [A.rows sh off code cap 0]=0:=by simp[aY]
     simp only[this]at h2;omega
    |succ k=>exact absurd h1 (hno _ _ _ _ _ _)
   ·exact h3 hi ho
theorem My {n nb:Nat} {ρ:Env} {m:Nat->Nat} {us:List W} {vals:List Value} (h:∀u∈us,W.ok n nb ρ u) (hm:us.map (W.den ρ m)=vals):(sH us).ok n nb ρ/\(sH us).rel ρ m (ph vals):=by
 subst hm
 unfold sH ph
 split
 ·exact⟨h _ (by simp),rfl⟩
 ·rename_i hne
  refine⟨h,?_⟩
  split
  ·rename_i x hx
   match us,hne,hx with
   |[u],hne,_=>exact absurd rfl (hne u)
  ·rfl
theorem Vc:∀{vs:List V},ss vs=true->vs.flatMap oi=[]
 |[],_=>rfl
 |v::r,h=>by
  unfold ss at h
  split at h
  ·rename_i heq;cases heq
  ·cases h
  ·rename_i hne heq
   cases heq
   rw[List.flatMap_cons,Vc h,List.append_nil]
   unfold oi
   split
   ·exact(hne _ _ _ _ rfl).elim
   ·rfl
theorem Vd:∀{vs:List V} {b:Nat},ss vs=true->b∈vs.flatMap j2->∃aL o ro len cap,V.w (.one (.sl b aL o ro len cap))∈vs
 |[],b,_,h=>by simp at h
 |v::r,b,h,hb=>by
  simp only[List.flatMap_cons,List.mem_append]at hb
  rcases hb with hb|hb
  ·unfold j2 at hb
   split at hb
   ·simp at hb;subst hb;exact⟨_,_,_,_,_,List.mem_cons_self ..⟩
   ·simp[ss]at h
   ·simp at hb
  ·have h':ss r=true:=by
    unfold ss at h
    split at h
    ·rename_i heq;cases heq
    ·cases h
    ·rename_i heq;cases heq;exact h
   obtain⟨aL,o,ro,len,cap,h1⟩:=Vd h' hb
   exact⟨aL,o,ro,len,cap,List.mem_cons_of_mem _ h1⟩
theorem db.PA {c:db} {spec:List Int->List Int->Prop} {f:FuncId} {Qa:Array Value} (cZ:∀zs rs,spec zs rs->S c.id zs rs) (n:Nat) (vs:List V) (bl:List aq) (k:RK) (G:dt) (ρ:Env) (m:Nat->Nat) (w:World) (xs:List Value) (R':Ending->World->Prop)
 (hc:∀zs,av (cG c.args) zs->xF c.pre zs->ik (mv w0 ρ m bl (vs.flatMap j2) (vs.flatMap oi)) (fun _=>False) w c.args zs xs->
   Calls P f Qa w fun e w'=>w.Extends w'/\∃rs us,av (cG c.res) rs/\spec zs rs/\ik (fun g=>mv w0 ρ m bl (vs.flatMap j2) (vs.flatMap oi) g∨w.heap.size<=g) (fun g=>w.heap.size<=g) w' c.res rs us/\e= .returned (ph us))
 (hb:cn n bl.length ρ bl) (hw:Mem w0 ρ m bl w) (hv:∀v∈vs,V.ok n bl.length ρ v) (hr:dK ρ m vs xs) (hh:(c.AQ n vs bl k).holds S L G ρ) (hk:s6 S L w0 k n bl.length ρ m G R'):
 Calls P f Qa w R':=by
 unfold db.AQ at hh
 obtain⟨ax,n1,ls,eL,dw,⟨g1,g2,g3⟩,hh⟩:=BI (S:=S) (L:=L) hb hw hv hr G _ hh
 cases hq:(mz c.res&&(!(c.res.any bV.lQ)||ss vs))with
 |false=>rw[hq]at hh;exact hh.elim
 |true=>
  rw[hq]at hh
  simp only[cond_true]at hh
  obtain⟨hpre,hh⟩:=preM_holds hh
  simp only[T.holds]at hh
  simp only[Bool.and_eq_true,Bool.or_eq_true,Bool.not_eq_true']at hq
  refine(hc _ g2 hpre (g3 _ fun _ h=>h)).mono ?_
  rintro e w' ⟨he,rs,us,r1,r2,cX,rfl⟩
  have hh:=jB hh r1 (cZ _ _ r2)
  have gT:=hb.ext dw eL (Nat.le_refl bl.length)
  have aht:=(hw.grow he).lv hb dw
  have dd:agree n1 ax (bq ax n1 rs):=agree.bq rs n1 ax
  have im:=gT.ext dd (Nat.le_add_right n1 (cG c.res).length) (Nat.le_refl bl.length)
  have FJ:=aht.lv gT dd
  have hA:fQ (bq ax n1 rs) n1 rs:=fQ.bq ax n1 rs
  have FE:rs.length=(cG c.res).length:=lP r1
  have r7:=dw.trans dd eL
  have BY:di n bl.length ρ m (n1+(cG c.res).length) bl.length (bq ax n1 rs) m:=⟨by omega,r7,Nat.le_refl _,fun _ _=>rfl⟩
  have fb:∀(i:Nat) (p:aq),bl[i]?=some p->aY (bq ax n1 rs) p.1=aY ρ p.1:=fun i p hi=>o7 (hb p (List.mem_of_getElem? hi)) r7
  have B9:∀(i:Nat) (p:aq),bl[i]?=some p->w.heap.size<=m i->aY ρ p.1=0:=fun i p hi hge=>by
   by_cases h0:aY ρ p.1=0
   ·exact h0
   ·have:=hw.lt hi h0;omega
  have fin:∀aN:List aq,cn (n1+(cG c.res).length) aN.length (bq ax n1 rs) aN->Mem w0 (bq ax n1 rs) m aN w'->aN.length=bl.length->
   (∀(i:Nat) (p:aq),aN[i]?=some p->(mv w0 ρ m bl (vs.flatMap j2) (vs.flatMap oi) (m i)∨w.heap.size<=m i)->(c.res.any bV.lQ)=true->aY (bq ax n1 rs) p.1<=1)->
   (∀(i:Nat) (p:aq),aN[i]?=some p->w.heap.size<=m i->aY (bq ax n1 rs) p.1=0)->
   (pt c.res n1 (n1+(cG c.res).length) [] aN fun dM us j3=>k dM (sH us) j3).holds S L G (bq ax n1 rs)->R' (.returned (ph us)) w':=fun aN gS sg hlen hal afy hh=>by
   have hF:∀g,(mv w0 ρ m bl (vs.flatMap j2) (vs.flatMap oi) g∨w.heap.size<=g)->w0.ex g∨w0.ro g∨w0.r.heap.size<=g:=fun g hg=>by
    rcases hg with hg|hg
    ·exact hg.2
    ·exact .inr (.inr (Nat.le_trans hw.ek hg))
   have hN:∀g,w.heap.size<=g->w0.b.heap.size<=g/\w0.r.heap.size<=g:=fun g hg=>⟨Nat.le_trans hw.ext.size hg,Nat.le_trans hw.ek hg⟩
   have h1:(c.res.all fun b=> !b.lQ)=true∨∀(i:Nat) (p:aq),aN[i]?=some p->(mv w0 ρ m bl (vs.flatMap j2) (vs.flatMap oi) (m i)∨w.heap.size<=m i)->aY (bq ax n1 rs) p.1<=1:=by
    cases qT:c.res.any bV.lQ with
    |true=>exact .inr fun i p hi hf=>hal i p hi hf qT
    |false=>
     left
     rw[List.all_eq_true]
     intro b hb
     cases eV:b.lQ with
     |false=>rfl
     |true=>rw[List.any_eq_true.2 ⟨b,hb,eV⟩]at qT;cases qT
   obtain⟨n',ad,m',jt,j3,p1,p2,p3,dx,dy,fc⟩:=uL (S:=S) (L:=L) hF hN (l:=c.res) (us:=[]) (vals:=us) hq.1 gS sg hA r1 (Nat.le_refl _) cX h1 (.inr afy) (fun u hu=>by simp at hu) hh
   have kb:=My (m:=m') dy (by simpa using dx)
   exact hk n' (sH jt) j3 G ad m' w' (ph us) (BY.trans (hlen▸p1)) (dG.refl _ _) kb.1 kb.2 p2 p3 fc
  cases qT:c.res.any bV.lQ with
  |false=>
   rw[qT]at hh
   exact fin bl im FJ rfl (fun _ _ _ _ h=>by rw[qT]at h;cases h) (fun i p hi hge=>by rw[fb i p hi];exact B9 i p hi hge) hh
  |true=>
   rw[qT]at hh hq
   obtain⟨f1,f2,f3,f4⟩:=JA (bs:=vs.flatMap j2) FJ im
   have hns:ss vs=true:=by
    rcases hq.2 with h|h
    ·cases h
    ·exact h
   refine fin _ (by rw[f3];exact f2) f1 f3 (fun i p hi hf _=>?_) (fun i p hi hge=>?_) hh
   ·obtain⟨p',h1,h2,h3⟩:=f4 i p hi
    rw[fb i p' h1]at h2
    rcases hf with⟨⟨b,SF,J4,q,sd,nT,agY⟩,_⟩|hge
    ·obtain⟨aL,o,ro,len,cap,ka⟩:=Vd hns SF
     rcases hw.inj i b p' q h1 sd (by rw[J4])with h5|h5|h5|h5
     ·subst h5
      rw[h1]at sd;cases sd
      cases ho:bI p'.1 with
      |false=>exact h3 SF ho
      |true=>
       have:=agY ho
       rw[Vc hns]at this
       simp at this
     ·omega
     ·omega
     ·exact absurd h5 nT
    ·have:=B9 i p' h1 hge;omega
   ·obtain⟨p',h1,h2,_⟩:=f4 i p hi
    rw[fb i p' h1]at h2
    have:=B9 i p' h1 hge;omega
theorem db.Xl {c:db} {spec:List Int->List Int->Prop} (hc:c.cf P w0.b spec) (cZ:∀zs rs,spec zs rs->S c.id zs rs) (n:Nat) (vs:List V) (bl:List aq) (k:RK) (G:dt) (ρ:Env) (m:Nat->Nat) (w:World) (xs:List Value) (R':Ending->World->Prop)
 (hb:cn n bl.length ρ bl) (hw:Mem w0 ρ m bl w) (hv:∀v∈vs,V.ok n bl.length ρ v) (hr:dK ρ m vs xs) (hh:(c.AQ n vs bl k).holds S L G ρ) (hk:s6 S L w0 k n bl.length ρ m G R'):
 (callFunc c.f xs.toArray).run P w= .ok (.enter c.f xs.toArray) w/\Calls P c.f xs.toArray w R':=by
 exact⟨hc.1 _ _,db.PA cZ n vs bl k G ρ m w xs R' (fun zs h1 h2 h3=>hc.2 _ w xs zs hw.ext h1 h2 h3) hb hw hv hr hh hk⟩
theorem db.v8 {c:db} {spec:List Int->List Int->Prop} (hc:c.cf P w0.b spec) (cZ:∀zs rs,spec zs rs->S c.id zs rs) (n:Nat) (vs:List V) (bl:List aq) (k:RK) (G:dt) (ρ:Env) (m:Nat->Nat) (w:World) (xs:List Value) (R':Ending->World->Prop)
 (hb:cn n bl.length ρ bl) (hw:Mem w0 ρ m bl w) (hv:∀v∈vs,V.ok n bl.length ρ v) (hr:dK ρ m vs xs) (hh:(c.E n vs bl k).holds S L G ρ) (hk:s6 S L w0 k n bl.length ρ m G R'):
 (callFunc c.f xs.toArray).run P w= .ok (.enter c.f xs.toArray) w/\Calls P c.f xs.toArray w R':=by
 obtain⟨g1,g2,g3,g4,g5⟩:=N6 (rd:=c.res.any bV.lQ) (ds:=c.args) hw hb hv hr
 exact c.Xl hc cZ n _ _ k G ρ m w xs R' g2 g1 (fun v hv=>by rw[g3];exact g4 v hv) g5 hh (by rw[g3];exact hk)
end
end Go.bj

/- Contracts with slices out of trees and conditions. -/
set_option linter.unusedVariables false
set_option linter.unusedSimpArgs false
namespace Go.bj
open M
def O.aX (n:Nat):O->Prop
 |l x=>x.aX n
 |b x=>x.aX n
theorem O.bA {n:Nat} {ρ ad:Env} (ha:agree n ρ ad):∀{o:O},o.aX n->o.den ad=o.den ρ
 | .l x,h=>I.bA ha h
 | .b x,h=>by simp only[O.den];rw[aT.bA ha h]
theorem Vq {k:IntKind} {n nb:Nat} {ρ:Env}:∀{l:List A} {os:List O},ia k l=some os->(∀a∈l,A.ok n nb ρ a)->∀o∈os,O.aX n o
 |[],os,h,_=>by simp[ia]at h;subst h;intro x hx;simp at hx
 | .int aQ x::s,os,h,hok=>by
  simp only[ia]at h
  cases hc:decide (k=aQ)with
  |false=>simp[hc]at h
  |true=>
   cases hr:ia k s with
   |none=>simp[hc,hr]at h
   |some r'=>
    simp only[hc,hr,cond_true,Option.some.injEq]at h
    subst h
    intro y hy
    rcases List.mem_cons.1 hy with hy|hy
    ·rw[hy]
     have h0:A.ok n nb ρ (.int aQ x):=hok _ (List.mem_cons_self ..)
     have h0:x.ok n ρ:=h0
     exact h0.1
    ·exact Vq hr (fun a ha=>hok a (List.mem_cons_of_mem _ ha)) y hy
 | .bool _::_,_,h,_=>by simp[ia]at h
 | .ptr .. ::_,_,h,_=>by simp[ia]at h
 | .lq .. ::_,_,h,_=>by simp[ia]at h
 | .gptr .. ::_,_,h,_=>by simp[ia]at h
 | .slc .. ::_,_,h,_=>by simp[ia]at h
 | .con _::_,_,h,_=>by simp[ia]at h
 | .str _::_,_,h,_=>by simp[ia]at h
 | .rows .. ::_,_,h,_=>by simp[ia]at h
 | .sl .. ::_,_,h,_=>by simp[ia]at h
 | .ep .. ::_,_,h,_=>by simp[ia]at h
theorem aw.ak3 {c:aw} {a:A} {o:O} {n nb:Nat} {ρ:Env} (h:c.out a=some o) (ha:a.ok n nb ρ):o.aX n:=by
 unfold aw.out at h
 split at h
 ·rename_i k _ _ aQ x
  cases hk:decide (k=aQ)with
  |false=>simp[hk]at h
  |true=>
   simp only[hk,cond_true,Option.some.injEq]at h
   subst h
   have ha:x.ok n ρ:=ha
   exact ha.1
 ·simp only[Option.some.injEq]at h;subst h
  exact ha.1
 ·simp only[Option.some.injEq]at h;subst h
  exact ha
 ·cases h
theorem Vt {n nb:Nat} {ρ:Env}:∀{d:List aw} {l:List A} {os:List O},oc d l=some os->(∀a∈l,A.ok n nb ρ a)->∀o∈os,O.aX n o
 |[],[],os,h,_=>by simp[oc]at h;subst h;intro x hx;simp at hx
 |c::d,a::s,os,h,hok=>by
  simp only[oc]at h
  cases h1:c.out a with
  |none=>simp[h1]at h
  |some o=>
   cases h2:oc d s with
   |none=>simp[h1,h2]at h
   |some Vo=>
    simp only[h1,h2,Option.some.injEq]at h
    subst h
    intro y hy
    rcases List.mem_cons.1 hy with hy|hy
    ·rw[hy];exact aw.ak3 h1 (hok a (List.mem_cons_self ..))
    ·exact Vt h2 (fun b hb=>hok b (List.mem_cons_of_mem _ hb)) y hy
 |[],_::_,_,h,_=>by simp[oc]at h
 |_::_,[],_,h,_=>by simp[oc]at h
theorem ak2 {d:D} {u:W} {os:List O} {n nb:Nat} {ρ:Env} (h:tW d u=some os) (hu:u.ok n nb ρ):∀o∈os,O.aX n o:=by
 unfold tW at h
 split at h
 ·rename_i k _ _ aQ x
  cases hk:decide (k=aQ)with
  |false=>simp[hk]at h
  |true=>
   simp only[hk,cond_true,Option.some.injEq]at h
   subst h
   have hu:x.ok n ρ:=hu
   intro o ho;simp at ho;subst ho;exact hu.1
 ·simp only[Option.some.injEq]at h;subst h
  intro o ho;simp at ho;subst ho;exact hu
 ·rename_i k n' _ _ l
  cases hk:Nat.beq l.length n' with
  |false=>simp[hk]at h
  |true=>
   simp only[hk,cond_true]at h
   exact Vq h hu
 ·simp only[Option.some.injEq]at h;subst h
  intro o ho;simp at ho;subst ho;exact hu.1
 ·exact Vt h hu
 ·cases h
noncomputable def Ag (bl:List aq):bV->W->M (List O)
 | .d x,u=>match tW x u with|some os=>pure os|none=>fail
 | .rd sh,u=>bind (GP sh bl (.w u)) fun l=>pure [.l l]
 | .jJ sh e,u=>bind (Mf sh e bl (.w u)) fun l=>pure [.l l]
noncomputable def GQ (bl:List aq):List bV->List W->M (List O)
 |[],[]=>pure []
 |b::r,u::s=>bind (Ag bl b u) fun a=>bind (GQ bl r s) fun c=>pure (a++c)
 |_,_=>fail
noncomputable def Dv (bl:List aq) (ds:List bV) (v:V):M (List O):=
 match v with
 | .w u=>match ds with|[d]=>Ag bl d u|_=>fail
 | .e4 l=>match ds with|[_]=>fail|_=>GQ bl ds l
 |_=>fail
def O.toW:O->W
 |l x=> .one (.int .u8 ⟨x,0,0⟩)
 |b x=> .one (.bool x)
def W.toO:W->O
 | .one (.int _ x)=> .l x.l
 | .one (.bool e)=> .b e
 |_=> .l (.const 0)
theorem O.toW_toO (o:O):o.toW.toO=o:=by cases o<;>rfl
def vy (os:List O):V:= .e4 (os.map O.toW)
def pq (K:List Int->Prop) (v:V) (ρ:Env):Prop:=
 match v with
 | .e4 l=>K (l.map fun u=>u.toO.den ρ)
 |_=>False
theorem HN {K:List Int->Prop} {os:List O} {ρ:Env}:pq K (vy os) ρ=K (os.map (O.den ρ)):=by
 unfold pq vy
 simp only[List.map_map]
 congr 1
 exact List.map_congr_left fun o _=>by simp[Function.comp,O.toW_toO]
section
variable {S:Nat->List Int->List Int->Prop} {L:V->Env->Prop} {w0:de} {P:Program} {w:World}
theorem ps.mono {N AV:Nat->Prop} {sh:List aw} {e:TypeId} {rows:List (List Int)} {v:Value} (h:ps N w sh e rows v) (hN:∀g,N g->AV g):ps AV w sh e rows v:=by
 rcases h with h|⟨g,cap,cells,h1,h2,h3,h4⟩
 ·exact .inl h
 ·exact .inr ⟨g,cap,cells,h1,h2,hN g h3,h4⟩
def Hy (w0:de) (g:Nat):Prop:=w0.ex g∨w0.ro g∨w0.r.heap.size<=g
theorem VX {d:bV} {u:W} {n:Nat} {ρ:Env} {m:Nat->Nat} {bl:List aq} (hex:∀g,¬w0.ex g) (hb:cn n bl.length ρ bl) (hw:Mem w0 ρ m bl w) (hu:u.ok n bl.length ρ):
 ai S L (Ag bl d u) n ρ fun ad n' os=>(∀o∈os,O.aX n' o)/\os.length=d.num/\(d.hZ=false->av d.bds (os.map (O.den ad)))/\∀zs,d.at (Hy w0) (fun g=>w0.r.heap.size<=g) w (os.map (O.den ad)++zs) (u.den ρ m):=by
 cases d with
 |d x=>
  unfold Ag
  cases ho:tW x u with
  |none=>simp only[ho];exact ai.fail
  |some os=>
   simp only[ho]
   have:=Me (ρ:=ρ) (m:=m) ho
   exact ai.pure ⟨ak2 ho hu,this.1,fun h=>(by simp[bV.hZ]at h),fun zs=>(this.2 zs).symm⟩
 |rd sh=>
  unfold Ag
  refine(VR (v:= .w u) hb hw hu rfl).bind fun ax n1 l hn ha ⟨g1,g2,g3⟩=>ai.pure ⟨fun o ho=>by simp at ho;subst ho;exact g1,rfl,fun _=>⟨g2.1,g2.2,trivial⟩,fun zs=>?_⟩
  exact g3.mono fun g hg=>hg.2
 |jJ sh e=>
  unfold Ag
  refine(ak5 (v:= .w u) hex hb hw hu rfl).bind fun ax n1 l hn ha ⟨g1,g2,g3⟩=>ai.pure ⟨fun o ho=>by simp at ho;subst ho;exact g1,rfl,fun _=>⟨g2.1,g2.2,trivial⟩,fun zs=>g3⟩
theorem aje {n:Nat} {ρ ad:Env} {os:List O} (h:∀x∈os,O.aX n x) (ha:agree n ρ ad):os.map (O.den ad)=os.map (O.den ρ):=List.map_congr_left fun x hx=>O.bA ha (h x hx)
theorem VY {m:Nat->Nat} {bl:List aq} (hex:∀g,¬w0.ex g):∀{ds:List bV} {us:List W} {n:Nat} {ρ:Env},cn n bl.length ρ bl->Mem w0 ρ m bl w->(∀u∈us,W.ok n bl.length ρ u)->
 ai S L (GQ bl ds us) n ρ fun ad n' os=>(∀o∈os,O.aX n' o)/\ik (Hy w0) (fun g=>w0.r.heap.size<=g) w ds (os.map (O.den ad)) (us.map (W.den ρ m))
 |[],[],n,ρ,_,_,_=>ai.pure ⟨fun _ h=>by simp at h,trivial⟩
 |b::r,u::s,n,ρ,hb,hw,hu=>by
  unfold GQ
  refine(VX hex hb hw (hu u (by simp))).bind fun ax n1 a hn ha ⟨g1,g2,_,g3⟩=>?_
  refine(VY (ds:=r) (us:=s) hex (hb.ext ha hn (Nat.le_refl _)) (hw.lv hb ha) (fun x hx=>(hu x (List.mem_cons_of_mem _ hx)).ext ha hn (Nat.le_refl _))).bind fun bC dM c dU dd ⟨k1,k2⟩=>ai.pure ⟨fun o ho=>?_,?_⟩
  ·rcases List.mem_append.1 ho with ho|ho
   ·have:=g1 o ho
    cases o with
    |l x=>exact I.aX.mono this dU
    |b x=>exact aT.aX.mono dU this
   ·exact k1 o ho
  ·rw[List.map_append,aje g1 dd]
   refine⟨g3 _,?_⟩
   rw[<-g2,<-List.length_map (f:=O.den ax) (as:=a),List.drop_left]
   have e:s.map (W.den ρ m)=s.map (W.den ax m):=List.map_congr_left fun x hx=>(W.jl (hu x (List.mem_cons_of_mem _ hx)) ha (fun _ _=>rfl)).symm
   rw[e];exact k2
 |[],_::_,_,_,_,_,_=>ai.fail
 |_::_,[],_,_,_,_,_=>ai.fail
theorem Mw {ds:List bV} {v:V} {val:Value} {n:Nat} {ρ:Env} {m:Nat->Nat} {bl:List aq} (hex:∀g,¬w0.ex g) (hb:cn n bl.length ρ bl) (hw:Mem w0 ρ m bl w) (hv:v.ok n bl.length ρ) (hr:v.rel ρ m val):
 ai S L (Dv bl ds v) n ρ fun ad n' os=>∃us,val=ph us/\ik (Hy w0) (fun g=>w0.r.heap.size<=g) w ds (os.map (O.den ad)) us:=by
 unfold Dv
 split
 ·rename_i u
  split
  ·rename_i d
   refine(VX hex hb hw hv).mono fun ax n1 os hn ha ⟨g1,g2,_,g3⟩=>⟨[u.den ρ m],hr,?_,trivial⟩
   have:=g3 []
   rwa [List.append_nil]at this
  ·exact ai.fail
 ·rename_i l
  split
  ·exact ai.fail
  ·rename_i hne
   refine(VY (ds:=ds) hex hb hw hv).mono fun ax n1 os hn ha ⟨g1,g2⟩=>⟨l.map (W.den ρ m),?_,g2⟩
   have hr:val= .tuple (l.map (W.den ρ m)).toArray:=hr
   rw[hr]
   unfold ph
   split
   ·rename_i x hx
    exfalso
    have hl:l.length=1:=by have:=congrArg List.length hx;simpa using this
    match ds,l,hl,g2,hne with
    |[d],[u],_,_,hne=>exact hne d rfl
    |[],[u],_,g2,_=>simp[ik]at g2
    |_::_::_,[u],_,g2,_=>simp[ik]at g2
   ·rfl
 ·exact ai.fail
def zK (i:Nat):I:=⟨0,[(1,i)]⟩
theorem F8 (ρ:Env) (zs:List Int):((List.range zs.length).map zK).map (·.den (bq ρ 0 zs))=zs:=by
 refine Uu (by simp) fun j hj=>?_
 have hj:j<zs.length:=by simpa using hj
 have:=fQ.bq ρ 0 zs j hj
 rw[Nat.zero_add]at this
 simp[zK,I.den,fV,List.getD,hj]at this⊢
 exact this
noncomputable def db.tree (bc:jX) (P:Program) (gl:dz) (cal:dQ) (li:FuncId->Nat->Option dj) (rounds d:Nat) (c:db):T:=
 cond (mz c.args&& !(c.args.any bV.mJ)) (Gx c.pre ((List.range (cG c.args).length).map zK) (pt c.args 0 (cG c.args).length [] [] fun n us bl=>uN bc P gl cal li rounds d c.f n (us.map V.w) bl fun n' v aN=>Dv aN c.res v n' fun os _=> .leaf (vy os))) .stuck
theorem HH {ρ:Env} {m:Nat->Nat}:∀{us:List W} {xs:List Value},us.map (W.den ρ m)=xs->dK ρ m (us.map V.w) xs
 |[],[],_=>trivial
 |u::us,x::xs,h=>by
  simp only[List.map_cons,List.cons.injEq]at h
  exact⟨h.1.symm,HH h.2⟩
 |[],_::_,h=>by simp at h
 |_::_,[],h=>by simp at h
noncomputable def fT:List db->jX
 |[],_=>none
 |c::r,f=>cond (Nat.beq c.f f) (some c.E) (fT r f)
theorem ta {wb:World} {r:World} {ex ro:Nat->Prop}:∀{l:List db},(∀c∈l,c.cf P wb (S c.id))->oq S L ⟨wb,r,ex,ro,[]⟩ P (fT l)
 |[],_=>fun f g h=>by cases h
 |c::l,h=>fun f g hf=>by
  unfold fT at hf
  cases hb:Nat.beq c.f f with
  |true=>
   rw[hb]at hf
   simp only[cond_true,Option.some.injEq]at hf
   have:=Nat.eq_of_beq_eq_true hb
   subst this;subst hf
   intro n vs bl k G ρ m w xs R' h1 h2 h3 h4 h5 h6
   exact db.v8 (w0:=⟨wb,r,ex,ro,[]⟩) (h c (by simp)) (fun _ _ h=>h) n vs bl k G ρ m w xs R' h1 h2 h3 h4 h5 h6
  |false=>
   rw[hb]at hf
   exact ta (fun c hc=>h c (List.mem_cons_of_mem _ hc)) f g hf
theorem db.zW {wb:World} {gl:dz} {c:db} {bc:jX} {cal:dQ} {li:FuncId->Nat->Option dj} {rounds d:Nat} {spec:List Int->List Int->Prop} (hm:P.follows .mixedOrders=true) (cz:∀r ex ro,e7 S P gl ⟨wb,r,ex,ro,[]⟩ cal) (hg:bL gl ⟨wb,wb,fun _=>False,fun _=>False,[]⟩)
 (gU:∀(L:V->Env->Prop) (r:World) (ro:Nat->Prop),oq S L ⟨wb,r,fun _=>False,ro,[]⟩ P bc) (hf:∀args w,(callFunc c.f args).run P w= .ok (.enter c.f args) w)
 (ht:l4 (cG c.args) fun zs=>(c.tree bc P gl cal li rounds d).holds S (pq fun rs=>av (cG c.res) rs/\spec zs rs) (fun _ _=>False) (bq (fun _=>0) 0 zs)):c.cf P wb spec:=by
 refine⟨hf,fun F w vs zs hw hz CA hat=>?_⟩
 have hh:=jB ht hz
 have k8:=lP hz
 unfold db.tree at hh
 cases hq:(mz c.args&& !(c.args.any bV.mJ))with
 |false=>rw[hq]at hh;exact hh.elim
 |true=>
  rw[hq]at hh
  simp only[cond_true]at hh
  have hh:=preA_holds hh (by rw[<-k8,F8];exact CA)
  simp only[Bool.and_eq_true,Bool.not_eq_true']at hq
  have ka:Mem ⟨wb,w,fun _=>False,F,[]⟩ (bq (fun _=>0) 0 zs) (fun _=>0) [] w:=⟨hw,rfl,rfl,rfl,Nat.le_refl _,fun _ _ _=>rfl,fun i cs t h=>by simp at h,fun i sh off code cap kind t h=>by simp at h,fun i j p q h=>by simp at h⟩
  have hall:(c.args.all fun b=> !b.mJ)=true:=by
   rw[List.all_eq_true]
   intro b hb
   cases eV:b.mJ with
   |false=>rfl
   |true=>rw[List.any_eq_true.2 ⟨b,hb,eV⟩]at hq;cases hq.2
  obtain⟨n',ad,m',us,bl,p1,p2,p3,dx,dy,fc⟩:=uL (S:=S) (L:=_) (w0:=⟨wb,w,fun _=>False,F,[]⟩) (F:=F) (N:=fun _=>False) (fun g hg=> .inr (.inl hg)) (fun g hg=>hg.elim) (l:=c.args) (s:=0) (us:=[]) (bl:=[]) (m:=fun _=>0) hq.1 (fun p hp=>by simp at hp) ka (fQ.bq _ 0 zs) hz (by omega) hat (.inr fun i p h=>by simp at h) (.inl hall) (fun u hu=>by simp at hu) hh
  have Kj:bL gl ⟨wb,w,fun _=>False,F,[]⟩:=hg
  refine(Bm (S:=S) (w0:=⟨wb,w,fun _=>False,F,[]⟩) rfl hm (cz w (fun _=>False) F) Kj (gU _ _ _) d c.f n' (us.map V.w) bl _ _ ad m' w vs _ p2 p3 (fun v hv=>by
   obtain⟨u,hu,rfl⟩:=List.mem_map.1 hv
   exact dy u hu) (HH (by simpa using dx)) fc ?_).2
  intro dM v aN dp bC ea w' val h1 h2 h3 h4 h5 h6 h7
  obtain⟨fr,mg,os,qS,qD,⟨xs,hx1,hx2⟩,hl⟩:=Mw (S:=S) (w0:=⟨wb,w,fun _=>False,F,[]⟩) (fun g hg=>hg) h5 h6 h3 h4 dp _ h7
  have hl:pq _ (vy os) fr:=hl
  rw[HN]at hl
  refine⟨?_,os.map (O.den fr),xs,hl.1,hl.2,?_,by rw[hx1]⟩
  ·have kW:∀i:Nat,i<w.heap.size->w'.heap[i]?=w.heap[i]?:=fun i hi=>h6.fv i hi fun h=>h
   exact⟨h6.fI,h6.iu,h6.gr,h6.ek,fun a ha=>by simp only[World.cell?,kW a.block ha],fun a ha=>by simp only[World.frozen?,kW a.block ha],kW⟩
  ·exact yE (fun g hg=>by
    rcases hg with hg|hg|hg
    ·exact hg.elim
    ·exact .inl hg
    ·exact .inr hg) (fun g hg=>hg) hx2
where
 yE {F uC N AV:Nat->Prop} {w:World} (hF:∀g,F g->uC g) (hN:∀g,N g->AV g):∀{ds:List bV} {zs:List Int} {vs:List Value},ik F N w ds zs vs->ik uC AV w ds zs vs
 |[],_,[],_=>trivial
 | .d x::r,zs,v::vs,h=>⟨h.1,yE hF hN h.2⟩
 | .rd sh::r,zs,v::vs,h=>⟨qk.mono h.1 hF,yE hF hN h.2⟩
 | .jJ sh e::r,zs,v::vs,h=>⟨ps.mono h.1 hN,yE hF hN h.2⟩
 |[],_,_::_,h=>h.elim
 |_::_,_,[],h=>by simp[ik]at h
theorem db.ajH {wb:World} {gl:dz} {c:db} {bcs:List db} {cal:dQ} {li:FuncId->Nat->Option dj} {rounds d:Nat} {spec:List Int->List Int->Prop} (hm:P.follows .mixedOrders=true) (cz:∀r ex ro,e7 S P gl ⟨wb,r,ex,ro,[]⟩ cal) (hg:bL gl ⟨wb,wb,fun _=>False,fun _=>False,[]⟩)
 (gU:∀b∈bcs,b.cf P wb (S b.id)) (hf:∀args w,(callFunc c.f args).run P w= .ok (.enter c.f args) w)
 (ht:l4 (cG c.args) fun zs=>(c.tree (fT bcs) P gl cal li rounds d).holds S (pq fun rs=>av (cG c.res) rs/\spec zs rs) (fun _ _=>False) (bq (fun _=>0) 0 zs)):c.cf P wb spec:=
 db.zW (bc:=fT bcs) hm cz hg (fun _ _ _=>ta gU) hf ht
end
def bV.nums:bV->List Nat
 | .d x=>x.nums
 |_=>[1]
def tU (ds:List bV):List Nat:=ds.flatMap bV.nums
def HM (ds:List bV) (K:List (List Int)->Prop) (v:V) (st:fS) (aE:fR):Prop:=
 match v with
 | .e4 l=>K ((fM (tU ds) (l.map W.toO)).map (Ao st aE))
 |_=>False
theorem XF {ds:List bV} {K:List (List Int)->Prop} (v:V) (ρ:Env) (st:fS) (aE:fR) (ht:l0 ρ st aE) (h:HM ds K v st aE):pq (fun rs=>K (fM (tU ds) rs)) v ρ:=by
 unfold HM at h
 unfold pq
 split at h
 ·rename_i l
  have e:l.map (fun u=>u.toO.den ρ)=(l.map W.toO).map (O.den ρ):=by simp
  simp only[e]
  rw[G7]
  rwa [show(fM (tU ds) (l.map W.toO)).map (Ao st aE)=(fM (tU ds) (l.map W.toO)).map (List.map (O.den ρ)) from List.map_congr_left fun o _=>Wn ht o]at h
 ·exact h.elim
def iT (sh:Nat->List Nat×List Nat) (lsh:Nat->List Nat) (S:Nat->List (List Int)->List (List Int)->Prop) (K:List (List Int)->List (List Int)->Prop) (lens:List Nat) (bds:List (Int×Int)) (ds:List bV) (t:T):Prop:=
 uJ lens 0 bds (fun st aE zs=>t.ky sh lsh S (HM ds (K zs)) (fun _ _=>False) st aE) [] []
theorem D8 {sh:Nat->List Nat×List Nat} {lsh:Nat->List Nat} {S:Nat->List (List Int)->List (List Int)->Prop} {K:List (List Int)->List (List Int)->Prop} {lens:List Nat} {bds:List (Int×Int)} {ds:List bV} {t:T}
 (h:iT sh lsh S K lens bds ds t):l4 bds fun zs=>t.holds (cB sh S) (pq fun rs=>K (fM lens zs) (fM (tU ds) rs)) (fun _ _=>False) (bq (fun _=>0) 0 zs):=by
 refine qm fun zs hi=>?_
 obtain⟨st,aE,h1,h2⟩:=yC h (show l0 (fun _=>0) [] [] from⟨trivial,fun _=>rfl⟩) hi
 exact kZ (fun v ρ st aE ht hl=>XF v ρ st aE ht hl) t _ _ _ st aE (fun _ _ hf=>hf.elim) h1 h2
end Go.bj

/- Contracts under a condition; functions of the library without a body. -/
set_option linter.unusedVariables false
set_option linter.unusedSimpArgs false
namespace Go.bj
open M
structure kl where
 c:aR
 pre:Nat
def kl.cf (P:Program) (wb:World) (q:kl) (spec:List Int->List Int->Prop):Prop:=
 ∀zs,av (bG q.c.args) zs->ab q.pre zs->∃rs,av (bG q.c.res) rs/\spec zs rs/\∀w,wb.Extends w->wa P q.c.f (lW q.c.args zs).toArray w (gx q.c.res rs)
noncomputable def kl.M (q:kl):List aq->List V->M V:=fun _ vs n k=>
 match oH q.c.args vs with
 |some l=> .l7 q.pre l (.call q.c.id l n (bG q.c.res) (k (Ah q.c.res n) (n+(bG q.c.res).length)))
 |none=> .stuck
noncomputable def aO (GB:List kl) (cons:List aR):dQ:=fun f=>
 match GB.filter (fun q=>Nat.beq f q.c.f)with
 |[]=>EH cons f
 |l=>some fun bl vs n k=>match l.find? (fun q=>(oH q.c.args vs).isSome)with
  |some q=>q.M bl vs n k
  |none=>match EH cons f with
   |some g=>g bl vs n k
   |none=> .stuck
section
variable {S:Nat->List Int->List Int->Prop} {P:Program} {gl:dz} {w0:de}
theorem kl.snd {q:kl} {spec:List Int->List Int->Prop} (hc:q.cf P w0.b spec) (cZ:∀zs rs,spec zs rs->S q.c.id zs rs) (L:V->Env->Prop) (n:Nat) (ρ:Env) (m:Nat->Nat) (bl:List aq) (vs:List V) (xs:List Value)
 (nU:∀v∈vs,V.ok n bl.length ρ v) (hr:dK ρ m vs xs):ai S L (q.M bl vs) n ρ fun ad n' v=>v.ok n' bl.length ad/\∃val,v.rel ad m val/\∀w,Mem w0 ρ m bl w->wa P q.c.f xs.toArray w val:=by
 intro G k hk
 unfold kl.M at hk
 cases hl:oH q.c.args vs with
 |none=>simp[hl,T.holds]at hk
 |some l=>
  simp only[hl]at hk
  obtain⟨jE,hk⟩:=hk
  obtain⟨h1,h2⟩:=Jw hl nU hr
  obtain⟨rs,r1,r2,cX⟩:=hc _ h1 jE
  have hh:=II hk r1 (cZ _ _ r2)
  have hlen:=lP r1
  have kb:=Mx (m:=m) (nb:=bl.length) (N:=n+(bG q.c.res).length) r1 (fQ.bq ρ n rs) (Nat.le_refl _)
  refine⟨_,_,_,Nat.le_add_right _ _,agree.bq rs n ρ,⟨kb.1,_,kb.2,fun w hw=>?_⟩,hh⟩
  rw[h2]at cX
  exact cX w hw.ext
theorem cr {GB:List kl} {cons:List aR} (hq:∀q∈GB,q.cf P w0.b (S q.c.id)) (hc:∀c∈cons,c.cU P w0.b (S c.id)):e7 S P gl w0 (aO GB cons):=by
 intro f g oP L n ρ m bl vs xs h1 h2 h3 h4
 unfold aO at oP
 split at oP
 ·exact Q2 (gl:=gl) hc f g oP L n ρ m bl vs xs h1 h2 h3 h4
 ·rename_i l hl
  simp only[Option.some.injEq]at oP
  subst oP
  intro G k hk
  simp only at hk
  split at hk
  ·rename_i q J8
   have hin:=List.mem_filter.1 (List.mem_of_find?_eq_some J8)
   have Cf:=Nat.eq_of_beq_eq_true hin.2
   subst Cf
   exact kl.snd (hq q hin.1) (fun _ _ h=>h) L n ρ m bl vs xs h3 h4 G k hk
  ·split at hk
   ·rename_i hV sa
    exact Q2 (gl:=gl) hc f hV sa L n ρ m bl vs xs h1 h2 h3 h4 G k hk
   ·exact hk.elim
def idx (c:Int):List UInt8->Int
 |[]=>-1
 |b::r=>if(b.toNat:Int)=c then 0 else if idx c r<0 then-1 else idx c r+1
theorem CQ (c:Int):∀l:List UInt8,-1<=idx c l/\idx c l<l.length
 |[]=>by simp[idx]
 |b::r=>by
  have:=CQ c r
  simp only[idx,List.length_cons]
  split
  ·omega
  ·split<;>omega
theorem find_range (p:Nat->Bool):∀n:Nat,(List.range (n+1)).find? p=if p 0=true then some 0 else((List.range n).find? fun i=>p (i+1)).map (·+1):=fun n=>by
 rw[List.range_succ_eq_map,List.find?_cons]
 cases h:p 0 with
 |true=>simp
 |false=>
  simp only[Bool.false_eq_true,if_false]
  rw[List.find?_map];rfl
theorem TF (c:Int):∀l:List UInt8,(match(List.range l.length).find? fun i=>decide (((l.getD i 0).toNat:Int)=c)with|some i=>(i:Int)|none=>-1)=idx c l
 |[]=>rfl
 |b::r=>by
  have ih:=TF c r
  rw[List.length_cons,find_range]
  simp only[List.getD_cons_zero,List.getD_cons_succ,decide_eq_true_eq,idx]
  by_cases h:(b.toNat:Int)=c
  ·simp[h]
  ·simp only[if_neg h]
   have hr:=CQ c r
   cases hf:(List.range r.length).find? fun i=>decide (((r.getD i 0).toNat:Int)=c)with
   |none=>rw[hf]at ih;simp only[Option.map_none]at ih⊢;rw[<-ih];simp
   |some i=>rw[hf]at ih;simp only[Option.map_some]at ih⊢;rw[<-ih,if_neg (by omega)];rfl
theorem find_congr {α:Type} {p q:α->Bool}:∀{l:List α},(∀x∈l,p x=q x)->l.find? p=l.find? q
 |[],_=>rfl
 |x::r,h=>by
  rw[List.find?_cons,List.find?_cons,h x (by simp),find_congr fun y hy=>h y (List.mem_cons_of_mem _ hy)]
theorem anu (l:List UInt8) (c:Int) (h0:0<=c) (h1:c<=255) (w:World):(Extern.BytealgIndexByte.indexByte #[.string (bb l),.int .u8 c]).run P w= .ok (.int .i64 (idx c l)) w:=by
 have hsz:(bb l).size=l.length:=oC l
 have vd:∀i,i<l.length->(bb l)[i]! =l.getD i 0:=fun i hi=>by
  have:i<(bb l).size:=by omega
  rw[getElem!_pos (bb l) i this]
  simp only[List.getD,List.getElem?_eq_getElem hi,Option.getD_some]
  rfl
 have e:((List.range (bb l).size).find? fun i=>(bb l)[i]! ==c.toNat.toUInt8)=(List.range l.length).find? fun i=>decide (((l.getD i 0).toNat:Int)=c):=by
  rw[hsz]
  refine find_congr fun i hi=>?_
  have hi:=List.mem_range.1 hi
  rw[vd i hi]
  have hc:c.toNat.toUInt8.toNat=c.toNat:=by simp;omega
  rw[Bool.eq_iff_iff]
  simp only[beq_iff_eq,decide_eq_true_eq]
  rw[<-UInt8.toNat_inj,hc]
  omega
 have hf:=TF c l
 have hd:Extern.BytealgIndexByte.indexByte #[.string (bb l),.int .u8 c]=(match(List.range (bb l).size).find? (fun i=>(bb l)[i]! ==c.toNat.toUInt8)with
  |some i=>Pure.pure (goInt i)
  |none=>Pure.pure (goInt (-1)):Sem Value):=rfl
 rw[hd,e,<-hf]
 cases(List.range l.length).find? fun i=>decide (((l.getD i 0).toNat:Int)=c)<;>rfl
theorem ahF {f:FuncId} {fn:Func} {id:Nat} {wb:World} (hf:P.funcs[f]?=some fn) (Cx:(fn.name== "runtime.NumGoroutine")=false) (hb:fn.body.isNone=true) (hn:Extern.findNext fn=none) (he:Extern.find fn=some Extern.BytealgIndexByte.indexByte):
 (⟨f,id,[.str,.int .u8 0 255],[.int .i64 (-1) 9223372036854775807]⟩:aR).cU P wb fun zs rs=>rs=[idx (zs.getD 1 0) (U (zs.getD 0 0))]:=by
 intro zs hz
 match zs,hz with
 |[s,c],hz=>
  obtain⟨s1,s2,c1,c2,_⟩:=hz
  have hr:=CQ c (U s)
  have hl:(U s).length<=9223372036854775807:=by have:=s5 s2;unfold ga at this;omega
  refine⟨[idx c (U s)],(show av [((-1:Int),9223372036854775807)] _ from⟨by omega,by omega,trivial⟩),rfl,fun w _=> .inl ?_⟩
  rw[run_callFunc_extern hf Cx hb hn he]
  have:=anu (P:=P) (U s) c c1 c2 w
  show((Extern.BytealgIndexByte.indexByte #[.string (bb (U s)),.int .u8 c]).run P w).andThen _=_
  rw[this];rfl
 |[],h=>exact h.elim
 |[_],h=>exact(h.2.2).elim
 |_::_::_::_,h=>exact(h.2.2.2.2).elim
def cmpL:List UInt8->List UInt8->Int
 |[],[]=>0
 |[],_::_=>-1
 |_::_,[]=>1
 |a::l,b::r=>if a=b then cmpL l r else if a<b then-1 else 1
theorem IX:∀l r:List UInt8,-1<=cmpL l r/\cmpL l r<=1
 |[],[]=>by decide
 |[],_::_=>by unfold cmpL;decide
 |_::_,[]=>by unfold cmpL;decide
 |a::l,b::r=>by
  have:=IX l r
  unfold cmpL
  split
  ·exact this
  ·split<;>decide
theorem Q7:∀l r:List UInt8,(cmpL l r=-1↔Op.bytesLess l r=true)/\(cmpL l r=0↔l=r)
 |[],[]=>by simp[cmpL,Op.bytesLess]
 |[],_::_=>by simp[cmpL,Op.bytesLess]
 |_::_,[]=>by simp[cmpL,Op.bytesLess]
 |a::l,b::r=>by
  have ih:=Q7 l r
  unfold cmpL Op.bytesLess
  by_cases h:a=b
  ·subst h;simp[ih.1,ih.2]
  ·by_cases h2:a<b
   ·simp[h,h2]
   ·have:b<a:=by
     rcases Nat.lt_trichotomy a.toNat b.toNat with h3|h3|h3
     ·exact absurd (UInt8.lt_iff_toNat_lt.2 h3) h2
     ·exact absurd (UInt8.toNat_inj.1 h3) h
     ·exact UInt8.lt_iff_toNat_lt.2 h3
    simp[h,h2,this]
theorem ac2 (p:Nat->Bool) (n:Nat):(List.range (n+1)).find? p=if p 0=true then some 0 else((List.range n).find? fun i=>p (i+1)).map (·+1):=by
 rw[List.range_succ_eq_map,List.find?_cons]
 cases h:p 0 with
 |true=>simp
 |false=>simp[List.find?_map];rfl
theorem Q8:∀l r:List UInt8,(match(List.range (min l.length r.length)).find? fun i=>l.getD i 0 != r.getD i 0 with
 |some i=>if l.getD i 0<r.getD i 0 then(-1:Int)else 1
 |none=>if l.length<r.length then-1 else if l.length>r.length then 1 else 0)=cmpL l r
 |[],[]=>by simp[cmpL]
 |[],_::_=>by simp[cmpL]
 |_::_,[]=>by simp[cmpL]
 |a::l,b::r=>by
  have ih:=Q8 l r
  have e:min (a::l).length (b::r).length=min l.length r.length+1:=by simp only[List.length_cons];omega
  rw[e,ac2]
  unfold cmpL
  by_cases h:a=b
  ·subst h
   simp only[List.getD_cons_zero,bne_self_eq_false,Bool.false_eq_true,if_false,List.getD_cons_succ,if_true]
   rw[<-ih]
   cases(List.range (min l.length r.length)).find? fun i=>l.getD i 0 != r.getD i 0 with
   |none=>simp
   |some i=>simp
  ·simp[h]
theorem ans (l r:List UInt8) (w:World):(Extern.BytealgCompare.compare #[.string (bb l),.string (bb r)]).run P w= .ok (.int .i64 (cmpL l r)) w:=by
 have hg:∀(x:List UInt8) (i:Nat),i<x.length->(bb x)[i]! =x.getD i 0:=fun x i hi=>by
  have:i<(bb x).size:=by rw[oC];exact hi
  rw[getElem!_pos (bb x) i this]
  simp only[List.getD,List.getElem?_eq_getElem hi,Option.getD_some]
  rfl
 have e:Extern.BytealgCompare.cmp (bb l) (bb r)=cmpL l r:=by
  rw[<-Q8]
  unfold Extern.BytealgCompare.cmp
  rw[oC,oC]
  have hf:((List.range (min l.length r.length)).find? fun i=>(bb l)[i]! != (bb r)[i]!)=(List.range (min l.length r.length)).find? fun i=>l.getD i 0 != r.getD i 0:=find_congr fun i hi=>by
   have hi:=List.mem_range.1 hi
   rw[hg l i (by omega),hg r i (by omega)]
  rw[hf]
  cases hh:(List.range (min l.length r.length)).find? fun i=>l.getD i 0 != r.getD i 0 with
  |none=>rfl
  |some i=>
   have hi:=List.mem_range.1 (List.mem_of_find?_eq_some hh)
   simp only[hg l i (by omega),hg r i (by omega)]
 have hd:Extern.BytealgCompare.compare #[.string (bb l),.string (bb r)]=(Pure.pure (goInt (Extern.BytealgCompare.cmp (bb l) (bb r))):Sem Value):=rfl
 rw[hd,e];rfl
theorem acb {f:FuncId} {fn:Func} {id:Nat} {wb:World} (hf:P.funcs[f]?=some fn) (Cx:(fn.name== "runtime.NumGoroutine")=false) (hb:fn.body.isNone=true) (hn:Extern.findNext fn=none) (he:Extern.find fn=some Extern.BytealgCompare.compare):
 (⟨f,id,[.str,.str],[.int .i64 (-1) 1]⟩:aR).cU P wb fun zs rs=>rs=[cmpL (U (zs.getD 0 0)) (U (zs.getD 1 0))]:=by
 intro zs hz
 match zs,hz with
 |[s,c],hz=>
  have hr:=IX (U s) (U c)
  refine⟨[cmpL (U s) (U c)],(show av [((-1:Int),1)] _ from⟨hr.1,hr.2,trivial⟩),rfl,fun w _=> .inl ?_⟩
  rw[run_callFunc_extern hf Cx hb hn he]
  have:=ans (P:=P) (U s) (U c) w
  show((Extern.BytealgCompare.compare #[.string (bb (U s)),.string (bb (U c))]).run P w).andThen _=_
  rw[this];rfl
 |[],h=>exact h.elim
 |[_],h=>exact(h.2.2).elim
 |_::_::_::_,h=>exact(h.2.2.2.2).elim
end
end Go.bj

/- Contracts whose results are one as values; contracts under a condition,out of a tree. -/
set_option linter.unusedVariables false
set_option linter.unusedSimpArgs false
namespace Go.bj
section
variable {S:Nat->List Int->List Int->Prop} {P:Program} {gl:dz} {wb:World}
def ee (args res:List D) (spec:List Int->List Int->Prop):Prop:=∀zs rs bN,av (bG args) zs->av (bG res) rs->av (bG res) bN->spec zs rs->spec zs bN->gx res rs=gx res bN
theorem aR.Gg {c:aR} {cal:dQ} {li:FuncId->Nat->Option dj} {rounds d:Nat} {spec:List Int->List Int->Prop} (hm:P.follows .mixedOrders=true) (cz:∀r ex ro,e7 S P gl ⟨wb,r,ex,ro,[]⟩ cal) (hg:bL gl ⟨wb,wb,fun _=>False,fun _=>False,[]⟩)
 (hf:∀args w,(callFunc c.f args).run P w= .ok (.enter c.f args) w) (hu:ee c.args c.res spec)
 (ht:l4 (bG c.args) fun zs=>(c.tree P gl cal li rounds d).holds S (ov c.res fun rs=>av (bG c.res) rs/\spec zs rs) (fun _ _=>False) (bq (fun _=>0) 0 zs)):c.cf P wb spec:=by
 refine⟨hf,fun zs hz=>?_⟩
 have h0:=aR.calls hm cz hg hz (jB ht hz) wb (World.Extends.refl wb)
 obtain⟨e,w',v,ad,m,val,h1,h2,h3,h4⟩:=Calls.some h0
 obtain⟨rs,⟨hb,hs⟩,hv⟩:=wq h3 h2
 refine⟨rs,hb,hs,fun w hw=>?_⟩
 refine(aR.calls hm cz hg hz (jB ht hz) w hw).mono fun e w' ⟨v,ad,m,val,h1,h2,h3,h4⟩=>?_
 obtain⟨bN,⟨gS,K0⟩,hv'⟩:=wq h3 h2
 rw[hu zs bN rs hz gS hb K0 hs]at hv'
 exact⟨by rw[h1,hv'],h4⟩
noncomputable def kl.tree (P:Program) (gl:dz) (cal:dQ) (li:FuncId->Nat->Option dj) (rounds d:Nat) (q:kl):T:=
 .oB q.pre ((List.range (bG q.c.args).length).map zK) (q.c.tree P gl cal li rounds d)
theorem kl.Gg {q:kl} {cal:dQ} {li:FuncId->Nat->Option dj} {rounds d:Nat} {spec:List Int->List Int->Prop} (hm:P.follows .mixedOrders=true) (cz:∀r ex ro,e7 S P gl ⟨wb,r,ex,ro,[]⟩ cal) (hg:bL gl ⟨wb,wb,fun _=>False,fun _=>False,[]⟩)
 (hf:∀args w,(callFunc q.c.f args).run P w= .ok (.enter q.c.f args) w) (hu:ee q.c.args q.c.res spec)
 (ht:l4 (bG q.c.args) fun zs=>(q.tree P gl cal li rounds d).holds S (ov q.c.res fun rs=>av (bG q.c.res) rs/\spec zs rs) (fun _ _=>False) (bq (fun _=>0) 0 zs)):q.cf P wb spec:=by
 intro zs hz hp
 have jG:=jB ht hz
 have hl:=lP hz
 unfold kl.tree at jG
 rw[<-hl]at jG
 have jG:=jG (by rw[F8];exact hp)
 have h0:=aR.calls hm cz hg hz jG wb (World.Extends.refl wb)
 obtain⟨e,w',v,ad,m,val,h1,h2,h3,h4⟩:=Calls.some h0
 obtain⟨rs,⟨hb,hs⟩,hv⟩:=wq h3 h2
 refine⟨rs,hb,hs,fun w hw=> .inr ⟨hf _ _,?_⟩⟩
 refine(aR.calls hm cz hg hz jG w hw).mono fun e w' ⟨v,ad,m,val,h1,h2,h3,h4⟩=>?_
 obtain⟨bN,⟨gS,K0⟩,hv'⟩:=wq h3 h2
 rw[hu zs bN rs hz gS hb K0 hs]at hv'
 exact⟨by rw[h1,hv'],h4⟩
end
theorem sP {α:Type}:∀(kE:List Nat) (l:List α),(fM kE l).flatten=l
 |[],[]=>rfl
 |[],_::_=>by simp[fM]
 |k::kE,l=>by simp only[fM,List.flatten_cons,sP kE,List.take_append_drop]
section
variable {P:Program} {gl:dz} {wb:World} {sh:Nat->List Nat×List Nat} {SB:Nat->List (List Int)->List (List Int)->Prop}
def bt (SB:Nat->List (List Int)->List (List Int)->Prop) (res:List D) (id:Nat):List (List Int)->List (List Int)->Prop:=fun zs rs=>av (bG res) rs.flatten/\SB id zs rs
theorem W2 {lsh:Nat->List Nat} {id:Nat} {lens:List Nat} {bds:List (Int×Int)} {ds:List D} {t:T} (hl:lens=(sh id).1) (hd:vv ds=(sh id).2) (h:cY sh lsh SB (bt SB ds id) lens bds ds t):
 l4 bds fun zs=>t.holds (cB sh SB) (ov ds fun rs=>av (bG ds) rs/\cB sh SB id zs rs) (fun _ _=>False) (bq (fun _=>0) 0 zs):=by
 refine qm fun zs hz=>?_
 have h:=jB (HR h) hz
 simp only[bt,sP]at h
 rw[hl,hd]at h
 exact h
theorem eN {c:aR} {cal:dQ} {li:FuncId->Nat->Option dj} {rounds d:Nat} {lsh:Nat->List Nat} {lens:List Nat} (hm:P.follows .mixedOrders=true) (cz:∀r ex ro,e7 (cB sh SB) P gl ⟨wb,r,ex,ro,[]⟩ cal) (hg:bL gl ⟨wb,wb,fun _=>False,fun _=>False,[]⟩)
 (hf:uY P c.f=true) (hu:ee c.args c.res (cB sh SB c.id)) (hl:lens=(sh c.id).1) (hd:vv c.res=(sh c.id).2)
 (hv:cY sh lsh SB (bt SB c.res c.id) lens (bG c.args) c.res (c.tree P gl cal li rounds d)):c.cf P wb (cB sh SB c.id):=
 aR.Gg hm cz hg (enters hf) hu (W2 hl hd hv)
theorem amV {q:kl} {cal:dQ} {li:FuncId->Nat->Option dj} {rounds d:Nat} {lsh:Nat->List Nat} {lens:List Nat} (hm:P.follows .mixedOrders=true) (cz:∀r ex ro,e7 (cB sh SB) P gl ⟨wb,r,ex,ro,[]⟩ cal) (hg:bL gl ⟨wb,wb,fun _=>False,fun _=>False,[]⟩)
 (hf:uY P q.c.f=true) (hu:ee q.c.args q.c.res (cB sh SB q.c.id)) (hl:lens=(sh q.c.id).1) (hd:vv q.c.res=(sh q.c.id).2)
 (hv:cY sh lsh SB (bt SB q.c.res q.c.id) lens (bG q.c.args) q.c.res (q.tree P gl cal li rounds d)):q.cf P wb (cB sh SB q.c.id):=
 kl.Gg hm cz hg (enters hf) hu (W2 hl hd hv)
end
end Go.bj

/- The row of a law: its parameters opened (words,texts,structs,arrays,slices of such),and carried over the call. -/
set_option linter.unusedVariables false
set_option linter.unusedSimpArgs false
namespace Go.bj
open Go.ChangeShapes Go.WideShapes Go.RowKit
variable {H:Type} {enc:TypeId×Value->H} {P:Program}
def Ap (g:TypeId->Option (List aw)) (cells:TypeId->Nat):List Field->Nat->Option (List aw)
 |[],_=>some []
 |f::r,o=>match g f.type,Ap g cells r (o+cells f.type)with
  |some l,some m=>cond (Nat.beq f.offset o&&Nat.beq (cells f.type) l.length) (some (l++m)) none
  |_,_=>none
def um (P:Program):Nat->TypeId->Option (List aw)
 |0,_=>none
 |d+1,t=>match P.underlying t with
  |some (.int k)=>some [.int k k.min k.max]
  |some .string=>some [.str]
  |some .bool=>some [.bool]
  |some (.struct dv)=>Ap (um P d) P.cellsOf dv.toList 0
  |some (.array n e)=>match um P d e with
   |some l=>cond (Nat.beq (P.cellsOf e) l.length) (some (List.replicate n l).flatten) none
   |none=>none
  |_=>none
theorem bT.append:∀{a b:List aw} {x y:List Int},bT a x->bT b y->bT (a++b) (x++y)/\cO (a++b) (x++y)=cO a x++cO b y
 |[],_,[],_,_,h=>⟨h,rfl⟩
 |_::_,_,_::_,_,h,h'=>by
  have:=bT.append h.2 h'
  exact⟨⟨h.1,this.1⟩,by simp only[List.cons_append,cO,this.2]⟩
 |[],_,_::_,_,h,_=>h.elim
 |_::_,_,[],_,h,_=>h.elim
def HO (enc:TypeId×Value->H) (P:Program) (w:World) (base:Nat) (spare:Nat->Bool) (held:Bool) (t:TypeId) (sh:List aw):Prop:=
 ∀(n:Nat) (cs:List Value) (x:DataW H×List MemPlace),DataW.trod enc P w base spare held n t cs=some x->cs.length=sh.length->(∀m∈x.1.weights P t,m<=reachBytes)->
  ∃zs,bT sh zs/\cs=cO sh zs/\x.2=[]
theorem Vm {base n:Nat} {w:World} {spare:Nat->Bool} {held:Bool} {g:TypeId->Option (List aw)} (hg:∀t sh,g t=some sh->HO enc P w base spare held t sh) {cs:List Value}:∀(dv:List Field) (o:Nat) (sh:List aw) (xs:List (DataW H×List MemPlace)),Ap g P.cellsOf dv o=some sh->cs.length=o+sh.length->xs.length=dv.length->
 (∀(j:Nat) (f:Field),dv[j]?=some f->DataW.trod enc P w base spare held n f.type ((cs.drop f.offset).take (P.cellsOf f.type))=xs[j]?)->
 (∀m∈DataW.weightsEach P (dv.map (·.type)) (xs.map (·.1)),m<=reachBytes)->
 ∃zs,bT sh zs/\cs.drop o=cO sh zs/\xs.flatMap (·.2)=[]
 |[],o,sh,xs,h,hl,hx,_,_=>by
  simp only[Ap,Option.some.injEq]at h
  subst h
  have:xs=[]:=List.length_eq_zero_iff.1 (by simpa using hx)
  subst this
  exact⟨[],trivial,List.drop_of_length_le (by simp at hl;omega),rfl⟩
 |f::dv,o,sh,[],_,_,hx,_,_=>by simp at hx
 |f::dv,o,sh,x::xs,h,hl,hx,hf,hw=>by
  unfold Ap at h
  cases h1:g f.type with
  |none=>simp[h1]at h
  |some l=>
   cases h2:Ap g P.cellsOf dv (o+P.cellsOf f.type)with
   |none=>simp[h1,h2]at h
   |some m=>
    simp only[h1,h2]at h
    cases hc:(Nat.beq f.offset o&&Nat.beq (P.cellsOf f.type) l.length)with
    |false=>simp[hc]at h
    |true=>
     simp only[hc,cond_true,Option.some.injEq]at h
     subst h
     simp only[Bool.and_eq_true]at hc
     have e1:=Nat.eq_of_beq_eq_true hc.1
     have e2:=Nat.eq_of_beq_eq_true hc.2
     have h0:=hf 0 f rfl
     simp only[List.getElem?_cons_zero]at h0
     simp only[List.map_cons,DataW.weightsEach,List.mem_append]at hw
     simp only[List.length_append]at hl
     obtain⟨zs,a1,a2,a3⟩:=hg f.type l h1 n ((cs.drop f.offset).take (P.cellsOf f.type)) x h0 (by rw[List.length_take,List.length_drop,e1,e2];omega) fun m' hm=>hw m' (.inl hm)
     obtain⟨eO,b1,b2,b3⟩:=Vm (cs:=cs) hg dv (o+P.cellsOf f.type) m xs h2 (by omega) (by simpa using hx) (fun j kU hj=>by simpa using hf (j+1) kU (by simpa using hj)) fun m' hm=>hw m' (.inr hm)
     have B0:=bT.append a1 b1
     refine⟨zs++eO,B0.1,?_,by simp[a3,b3]⟩
     rw[B0.2,<-a2,<-b2,e1,<-List.drop_drop]
     exact(List.take_append_drop _ _).symm
theorem Vl {base n:Nat} {w:World} {spare:Nat->Bool} {held:Bool} {e:TypeId} {l:List aw} (hg:HO enc P w base spare held e l) (hc:P.cellsOf e=l.length) {cs:List Value}:∀(k i:Nat) (xs:List (DataW H×List MemPlace)),cs.length=(i+k)*l.length->xs.length=k->
 (∀j,j<k->DataW.trod enc P w base spare held n e ((cs.drop ((i+j)*P.cellsOf e)).take (P.cellsOf e))=xs[j]?)->
 (∀m∈DataW.weightsAll P e (xs.map (·.1)),m<=reachBytes)->
 ∃zs,bT (List.replicate k l).flatten zs/\cs.drop (i*l.length)=cO (List.replicate k l).flatten zs/\xs.flatMap (·.2)=[]
 |0,i,xs,hl,hx,_,_=>by
  have:xs=[]:=List.length_eq_zero_iff.1 hx
  subst this
  exact⟨[],trivial,List.drop_of_length_le (by rw[hl];exact Nat.le_refl _),rfl⟩
 |k+1,i,[],_,hx,_,_=>by simp at hx
 |k+1,i,x::xs,hl,hx,hf,hw=>by
  have h0:=hf 0 (Nat.succ_pos k)
  simp only[List.getElem?_cons_zero,Nat.add_zero]at h0
  simp only[List.map_cons,DataW.weightsAll,List.mem_append]at hw
  have mF:cs.length=i*l.length+(l.length+k*l.length):=by rw[hl,Nat.add_mul,Nat.succ_mul];omega
  obtain⟨zs,a1,a2,a3⟩:=hg n _ x h0 (by rw[List.length_take,List.length_drop,hc];omega) fun m' hm=>hw m' (.inl hm)
  obtain⟨eO,b1,b2,b3⟩:=Vl hg hc k (i+1) xs (by rw[hl];congr 1;omega) (by simpa using hx) (fun j hj=>by
   have:=hf (j+1) (by omega)
   rw[show i+(j+1)=i+1+j by omega]at this
   simpa using this) fun m' hm=>hw m' (.inr hm)
  have B0:=bT.append a1 b1
  refine⟨zs++eO,by rw[List.replicate_succ,List.flatten_cons];exact B0.1,?_,by simp[a3,b3]⟩
  rw[List.replicate_succ,List.flatten_cons,B0.2,<-a2,<-b2,hc,Nat.succ_mul,<-List.drop_drop]
  exact(List.take_append_drop _ _).symm
theorem Gk {base:Nat} {w:World} {spare:Nat->Bool} {held:Bool}:∀(d:Nat) (t:TypeId) (sh:List aw),um P d t=some sh->HO enc P w base spare held t sh
 |0,t,sh,h=>by simp[um]at h
 |d+1,t,sh,h=>by
  have ih:=Gk (base:=base) (w:=w) (spare:=spare) (held:=held) d
  intro n cs x hx hl hw
  unfold um at h
  split at h
  ·rename_i k hu
   simp only[Option.some.injEq]at h
   subst h
   obtain⟨z,rfl,rfl,mH⟩:=DataW.trod_int hu hx
   have:=W4.1 mH
   exact⟨[z],⟨this,trivial⟩,rfl,rfl⟩
  ·rename_i hu
   simp only[Option.some.injEq]at h
   subst h
   obtain⟨s,rfl,rfl,hs⟩:=DataW.trod_string hu hx
   have hb:s.data.toList.length<=ga:=hw _ (by simp[DataW.weights])
   refine⟨[dI s.data.toList],⟨⟨pz _,nG hb⟩,trivial⟩,?_,rfl⟩
   simp[cO,aw.val,gb,bb]
  ·rename_i hu
   simp only[Option.some.injEq]at h
   subst h
   obtain⟨b,rfl,rfl⟩:=DataW.trod_bool hu hx
   refine⟨[cond b 1 0],⟨?_,trivial⟩,?_,rfl⟩
   ·cases b<;>simp[aw.ef]
   ·cases b<;>simp[cO,aw.val]
  ·rename_i dv hu
   obtain⟨xs,m,rfl,rfl,hlen,hn,zr⟩:=DataW.trod_struct hu hx
   simp only[DataW.weights,hu]at hw
   obtain⟨zs,a1,a2,a3⟩:=Vm (n:=m) ih dv.toList 0 sh xs h (by omega) (by rw[hn];simp) (fun j f hj=>zr j f (by simpa using hj)) hw
   exact⟨zs,a1,by simpa using a2,a3⟩
  ·rename_i k e hu
   cases h1:um P d e with
   |none=>simp[h1]at h
   |some l=>
    simp only[h1]at h
    cases hc:Nat.beq (P.cellsOf e) l.length with
    |false=>simp[hc]at h
    |true=>
     simp only[hc,cond_true,Option.some.injEq]at h
     subst h
     have hc:=Nat.eq_of_beq_eq_true hc
     obtain⟨xs,m,rfl,rfl,hlen,hn,zr⟩:=DataW.trod_array hu hx
     simp only[DataW.weights,hu]at hw
     have hfl:(List.replicate k l).flatten.length=k*l.length:=by simp
     obtain⟨zs,a1,a2,a3⟩:=Vl (n:=m) (ih e l h1) hc k 0 xs (by rw[hl,hfl];simp) hn (fun j hj=>by
      have:=zr j hj
      simpa using this) hw
     exact⟨zs,a1,by simpa using a2,a3⟩
  ·cases h
theorem anh {fits:TypeId->Bool}:∀(d:Nat) (e:TypeId) (count off n:Nat),rowAt P fits d e count off n=true->off<=count*P.cellsOf e
 |0,_,_,_,_,h=>by simp[rowAt]at h
 |d+1,e,count,off,n,h=>by
  unfold rowAt at h
  dsimp only at h
  split at h
  ·cases h
  ·rename_i hs
   have afT:=Nat.div_add_mod off (P.cellsOf e)
   have hlt:=Nat.mod_lt off (Nat.pos_of_ne_zero hs)
   rw[Bool.or_eq_true]at h
   rcases h with h|h
   ·simp only[Bool.and_eq_true,beq_iff_eq,decide_eq_true_eq]at h
    have h1:off/P.cellsOf e<=count:=by omega
    have:=Nat.mul_le_mul_left (P.cellsOf e) h1
    rw[Nat.mul_comm count];omega
   ·rw[Bool.and_eq_true]at h
    have h1:off/P.cellsOf e<count:=by simpa using h.1
    have h1:off/P.cellsOf e+1<=count:=h1
    have:=Nat.mul_le_mul_left (P.cellsOf e) h1
    rw[Nat.mul_add,Nat.mul_one]at this
    rw[Nat.mul_comm count];omega
theorem Ur:∀(d:Nat) (e:TypeId) (count off:Nat) (u:TypeId) (n:Nat),liesAt P d e count off u n=true->off<=count*P.cellsOf e
 |0,_,_,_,_,_,h=>by simp[liesAt]at h
 |d+1,e,count,off,u,n,h=>by
  unfold liesAt at h
  rw[Bool.or_eq_true]at h
  rcases h with h|h
  ·exact anh _ _ _ _ _ h
  ·split at h
   ·exact Ur d e count off _ _ h
   ·cases h
theorem abY {base:Nat} {w:World} {a:Addr} {n:Nat} {cs:List Value} (h:w.cells? base a n=some cs):cs.length=n/\∀j,j<n->w.cell? (a.add j)=cs[j]?:=by
 unfold World.cells? at h
 split at h
 ·have hl:=List.T2 h
  refine⟨by simpa using hl,fun j hj=>?_⟩
  have:=List.R6 h j j (by simp[hj])
  exact this
 ·cases h
where
 List.T2 {α β:Type} {f:α->Option β}:∀{l:List α} {r:List β},l.mapM f=some r->r.length=l.length
  |[],r,h=>by simp at h;subst h;rfl
  |x::l,r,h=>by
   rw[List.mapM_cons]at h
   cases hx:f x with
   |none=>simp[hx]at h
   |some y=>
    cases hl:l.mapM f with
    |none=>simp[hx,hl]at h
    |some s=>
     simp[hx,hl]at h
     subst h
     simp[List.T2 hl]
 List.R6 {α β:Type} {f:α->Option β}:∀{l:List α} {r:List β},l.mapM f=some r->∀(j:Nat) (x:α),l[j]?=some x->f x=r[j]?
  |[],r,h,j,x,hx=>by simp at hx
  |y::l,r,h,j,x,hx=>by
   rw[List.mapM_cons]at h
   cases hy:f y with
   |none=>simp[hy]at h
   |some z=>
    cases hl:l.mapM f with
    |none=>simp[hy,hl]at h
    |some s=>
     simp[hy,hl]at h
     subst h
     cases j with
     |zero=>simp at hx;subst hx;simp[hy]
     |succ j=>simpa using List.R6 hl j x (by simpa using hx)
theorem Wa {cells:Array Value} {sh:List aw}:∀(len o:Nat),o<=cells.size->(∀i,i<len->∃zs,bT sh zs/\∀j,j<sh.length->cells[o+i*sh.length+j]?=(cO sh zs)[j]?)->(0<len->0<sh.length)->
 ∃rows:List (List Int),rows.length=len/\j1 cells o sh rows
 |0,o,ho,_,_=>⟨[],rfl,fun _ h=>by simp at h,cells.toList.take o,cells.toList.drop o,by simp[aV],by simp;omega⟩
 |len+1,o,ho,h,hp=>by
  obtain⟨zs,a1,a2⟩:=h 0 (Nat.succ_pos _)
  have hp:=hp (Nat.succ_pos _)
  have hv:=x5 a1
  have Cu:=a2 (sh.length-1) (by omega)
  have hsz:o+sh.length<=cells.size:=by
   have:(cO sh zs)[sh.length-1]?≠none:=by rw[List.getElem?_eq_getElem (by omega)];simp
   rw[<-Cu]at this
   have:=Array.ad1.1 this
   omega
  obtain⟨rows,b1,b2,pre,post,b3,b4⟩:=Wa len (o+sh.length) hsz (fun i hi=>by
   obtain⟨eO,c1,c2⟩:=h (i+1) (by omega)
   refine⟨eO,c1,fun j hj=>?_⟩
   rw[<-c2 j hj]
   congr 1
   rw[Nat.succ_mul];omega) fun _=>hp
  refine⟨zs::rows,by simp[b1],fun row hr=>?_,cells.toList.take o,post,?_,by simp;omega⟩
  ·rcases List.mem_cons.1 hr with rfl|hr
   ·exact a1
   ·exact b2 row hr
  ·have e1:pre=cells.toList.take (o+sh.length):=by
    rw[b3,List.append_assoc,List.take_left' b4]
   have e2:pre=cells.toList.take o++cO sh zs:=by
    rw[e1,List.take_add]
    congr 1
    refine List.ext_getElem? fun j=>?_
    by_cases hj:j<sh.length
    ·have:=a2 j hj
     rw[List.getElem?_take,if_pos hj,List.getElem?_drop,<-this]
     simp
    ·rw[List.getElem?_eq_none (by simp;omega),List.getElem?_eq_none (by omega)]
   have bu:cells.toList=cells.toList.take o++cO sh zs++aV sh rows++post:=by rw[<-e2];exact b3
   have eK:aV sh (zs::rows)=cO sh zs++aV sh rows:=by simp[aV]
   rw[eK,<-List.append_assoc];exact bu
where
 Array.ad1 {α:Type} {a:Array α} {i:Nat}:a[i]?≠none↔i<a.size:=by simp
def AP (P:Program) (t:TypeId):bV->Prop
 | .d (.int k lo hi)=>P.underlying t=some (.int k)/\lo=k.min/\hi=k.max
 | .d .bool=>P.underlying t=some .bool
 | .d .str=>P.underlying t=some .string
 | .d (.agg k n lo hi)=>∃e,P.underlying t=some (.array n e)/\um P 8 t=some (List.replicate n (.int k lo hi))/\P.cellsOf t=n
 | .d (.mix l)=>((∃dv,P.underlying t=some (.struct dv))∨∃n e,P.underlying t=some (.array n e))/\um P 8 t=some l/\P.cellsOf t=l.length
 | .d (.jQ _)=>False
 | .d (.oT ..)=>False
 | .rd sh=>∃e,P.underlying t=some (.slice e)/\um P 8 e=some sh/\P.cellsOf e=sh.length/\kL sh=true
 | .jJ _ _=>False
theorem bT.av:∀{sh:List aw} {zs:List Int},bT sh zs->av (sh.map aw.ef) zs
 |[],[],_=>trivial
 |_::_,_::_,h=>⟨h.1.1,h.1.2,bT.av h.2⟩
 |[],_::_,h=>h.elim
 |_::_,[],h=>h.elim
theorem V5:∀(sh:List aw) (zs:List Int),cO sh zs=List.zipWith aw.val sh zs
 |[],_=>by simp[cO]
 |_::_,[]=>by simp[cO]
 |c::sh,z::zs=>by simp only[cO,List.zipWith_cons_cons,V5 sh zs]
theorem V4 (k:IntKind) (lo hi:Int):∀(n:Nat) (zs:List Int),zs.length=n->cO (List.replicate n (.int k lo hi)) zs=zs.map (Value.int k)
 |0,[],_=>rfl
 |n+1,z::zs,h=>by
  rw[List.replicate_succ]
  simp only[cO,List.map_cons,V4 k lo hi n zs (by simpa using h)]
  rfl
 |0,_::_,h=>by simp at h
 |n+1,[],h=>by simp at h
theorem UX (k:IntKind) (lo hi:Int):∀n:Nat,(List.replicate n (aw.int k lo hi)).map aw.ef=a7 lo hi n
 |0=>rfl
 |n+1=>by rw[List.replicate_succ,List.map_cons,UX k lo hi n];rfl
theorem akX {b0:Nat} {w:World} {t:TypeId} {b:bV} {v:Value} {x:DataW H} {bY:List MemPlace} (ht:AP P t b) (k0:Value.okWide P w .any b0 t v) (hd:DataW.Trod enc P w 0 (fun _=>true) true t v x bY) (hw:∀m∈x.weights P t,m<=reachBytes):
 ∃zs,av b.bds zs/\zs.length=b.num/\b.at (fun g=>g<w.heap.size) (fun _=>False) w zs v:=by
 obtain⟨fuel,hf⟩:=hd
 have agg:((∃dv,P.underlying t=some (.struct dv))∨∃n e,P.underlying t=some (.array n e))->∃cs,v= .agg cs/\cs.size=P.cellsOf t:=fun h=>by
  unfold Value.okWide at k0
  rcases h with⟨dv,h⟩|⟨n,e,h⟩
  ·rw[h]at k0;obtain⟨cs,a,b,_⟩:=k0;exact⟨cs,a,b⟩
  ·rw[h]at k0;obtain⟨cs,a,b,_⟩:=k0;exact⟨cs,a,b⟩
 cases b with
 |jJ _ _=>exact ht.elim
 |d y=>
  cases y with
  |jQ l=>exact ht.elim
  |oT k c=>exact ht.elim
  |int k lo hi=>
   obtain⟨h1,rfl,rfl⟩:=ht
   obtain⟨n,rfl⟩:=okWide_int h1 k0
   obtain⟨n',h,hx,mH⟩:=DataW.trod_int h1 hf
   simp[Value.cells]at h
   subst h
   have:=W4.1 mH
   exact⟨[n],⟨this.1,this.2,trivial⟩,rfl,rfl⟩
  |bool=>
   obtain⟨c,rfl⟩:=okWide_bool ht k0
   refine⟨[cond c 1 0],?_,rfl,?_⟩
   ·cases c<;>simp[bV.bds,D.bds,av]
   ·cases c<;>simp[bV.at,D.val]
  |str=>
   obtain⟨s,rfl⟩:=okWide_string ht k0
   obtain⟨anB,h,hx,hs⟩:=DataW.trod_string ht hf
   simp[Value.cells]at h
   subst h
   simp only[Prod.mk.injEq]at hx
   have hb:s.data.toList.length<=ga:=hw _ (by rw[hx.1];simp[DataW.weights])
   exact⟨[dI s.data.toList],⟨pz _,nG hb,trivial⟩,rfl,by simp[bV.at,D.val,gb,bb]⟩
  |agg k n lo hi=>
   obtain⟨e,h1,h2,h3⟩:=ht
   obtain⟨cs,rfl,hsz⟩:=agg (.inr ⟨n,e,h1⟩)
   obtain⟨zs,a1,a2,_⟩:=Gk 8 t _ h2 fuel _ _ hf (by show cs.toList.length=_;simp[hsz,h3]) hw
   have hl:zs.length=n:=by have:=a1.len;simpa using this
   have hcs:cs=(cO (List.replicate n (.int k lo hi)) zs).toArray:=by rw[<-a2];simp[Value.cells]
   refine⟨zs,?_,hl,?_⟩
   ·have:=a1.av;rw[UX]at this;exact this
   ·show Value.agg cs=_
    rw[hcs,V4 k lo hi n zs hl]
    simp only[D.val,<-hl,List.take_length]
  |mix l=>
   obtain⟨h1,h2,h3⟩:=ht
   obtain⟨cs,rfl,hsz⟩:=agg h1
   obtain⟨zs,a1,a2,_⟩:=Gk 8 t _ h2 fuel _ _ hf (by show cs.toList.length=_;simp[hsz,h3]) hw
   have hl:zs.length=l.length:=a1.len
   have hcs:cs=(cO l zs).toArray:=by rw[<-a2];simp[Value.cells]
   refine⟨zs,a1.av,hl,?_⟩
   show Value.agg cs=_
   rw[hcs,V5];rfl
 |rd sh=>
  obtain⟨e,h1,h2,h3,se⟩:=ht
  have h4:0<sh.length:=by
   unfold kL at se
   simp only[Bool.and_eq_true,Nat.blt_eq]at se
   exact se.1.2
  obtain⟨a,len,cap,rfl⟩:=okWide_slice h1 k0
  rcases DataW.trod_slice h1 hf with⟨h,_⟩|⟨P2,lk,fE,elems,rest,n,rfl,h,hx,_,KB,qG,zr,afX,hsp,hns⟩
  ·simp[Value.cells]at h
   obtain⟨rfl,rfl,rfl⟩:=h
   exact⟨[0],⟨Int.le_refl _,nH,trivial⟩,rfl,.inl ⟨rfl,fL⟩⟩
  ·simp[Value.cells]at h
   obtain⟨rfl,rfl,rfl⟩:=h
   have aga:w.has P .any b0 P2 e cap:=by
    unfold Value.okWide at k0
    rw[h1]at k0
    simp only[Cell.okWide,Cell.ok,h1]at k0
    exact k0.2.2
   obtain⟨_,Ts,row,IQ,hsh,agt⟩:=aga
   obtain⟨g,o,sp⟩:=P2
   simp only at Ts
   subst Ts
   obtain⟨cells,He,fz,tw,na⟩:∃cells He fz,w.heap[g]?=some (.cells cells He fz)/\cells.size=IQ/\He=row:=by
    unfold World.shape? at hsh
    split at hsh
    ·rename_i c el fz hb
     simp only[Option.some.injEq,Prod.mk.injEq]at hsh
     exact⟨c,el,fz,hb,hsh.2,hsh.1⟩
    ·cases hsh
   have ho:o<=cells.size:=by
    have:=Ur _ _ _ _ _ _ agt
    have h6:=Nat.div_mul_le_self IQ (P.cellsOf row)
    have h7:o<=IQ/P.cellsOf row*P.cellsOf row:=this
    omega
   simp only[Prod.mk.injEq]at hx
   obtain⟨hx1,hx2⟩:=hx
   rw[hx1]at hw
   simp only[DataW.weights,h1,List.mem_cons,List.mem_append]at hw
   obtain⟨rows,r1,r2⟩:=Wa (cells:=cells) (sh:=sh) len o ho (fun i hi=>by
    have:=afX i hi
    cases hy:elems[i]? with
    |none=>rw[List.getElem?_eq_none_iff]at hy;omega
    |some y=>
     rw[hy,Option.bind_eq_some_iff]at this
     obtain⟨cs,g1,g2⟩:=this
     obtain⟨l1,l2⟩:=abY g1
     obtain⟨zs,ag,z2,_⟩:=Gk 8 e sh h2 n cs y g2 (by rw[l1,h3]) fun m hm=>by
      refine hw m (.inr (.inl ?_))
      exact UZ hy hm
     refine⟨zs,ag,fun j hj=>?_⟩
     have:=l2 j (by rw[h3];exact hj)
     rw[gE,gE]at this
     simp only[World.cell?,tw,Option.isSome_none,Bool.false_eq_true,if_false]at this
     rw[<-z2,<-this,h3]) fun _=>h4
   have hcap:(cap:Int)<=9223372036854775807:=by unfold maxLen at qG;omega
   have FE:rows.length<=maxLen:=by omega
   have afj:rc rows<=b8:=mX FE fun r hr=>(r2.1 r hr).row se
   refine⟨[rc rows],⟨fp _,afj,trivial⟩,rfl,.inr ⟨g,o,cap,cells,He,fz,?_,?_,?_,tw,?_⟩⟩
   ·simp[dN,r1]
   ·simp only[List.getD_cons_zero,dN,r1];exact⟨KB,hcap⟩
   ·exact(Array.getElem?_eq_some_iff.1 tw).1
   ·simp only[List.getD_cons_zero,dN];exact r2
where
 UZ {e:TypeId}:∀{l:List (DataW H×List MemPlace)} {i:Nat} {y:DataW H×List MemPlace} {m:Nat},l[i]?=some y->m∈y.1.weights P e->m∈DataW.weightsAll P e (l.map (·.1))
  |x::l,0,y,m,h,hm=>by
   simp only[List.getElem?_cons_zero,Option.some.injEq]at h
   subst h
   simp only[List.map_cons,DataW.weightsAll,List.mem_append]
   exact .inl hm
  |x::l,i+1,y,m,h,hm=>by
   simp only[List.map_cons,DataW.weightsAll,List.mem_append]
   exact .inr (UZ (by simpa using h) hm)
  |[],_,_,_,h,_=>by simp at h
def Hs (P:Program):List TypeId->List bV->Prop
 |[],[]=>True
 |t::ts,b::bs=>AP P t b/\Hs P ts bs
 |_,_=>False
theorem bV.ZE {F N:Nat->Prop} {w:World} (b:bV) {zs l:List Int} {v:Value} (h:zs.length=b.num) (ha:b.at F N w zs v):b.at F N w (zs++l) v:=by
 cases b with
 |d x=>
  show v=x.val (zs++l)
  rw[D.W1 x (l:=l) h];exact ha
 |rd sh=>match zs,h with|[z],_=>exact ha
 |jJ sh e=>match zs,h with|[z],_=>exact ha
theorem Vk {b0:Nat} {w:World}:∀{ts:List TypeId} {bs:List bV} {vs:List Value} {xs:List (DataW H)} {bY:List MemPlace},Hs P ts bs->(∀(j:Nat) t v,ts[j]?=some t->vs[j]?=some v->Value.okWide P w .any b0 t v)->DataW.TrodAll enc P w 0 (fun _=>true) true ts vs xs bY->
 (∀m∈DataW.weightsEach P ts xs,m<=reachBytes)->∃zs,av (cG bs) zs/\ik (fun g=>g<w.heap.size) (fun _=>False) w bs zs vs/\xs.length=bs.length
 |[],[],[],[],bY,_,_,h,_=>⟨[],trivial,trivial,rfl⟩
 |[],[],_::_,_,_,_,_,h,_=>h.elim
 |[],[],[],_::_,_,_,_,h,_=>h.elim
 |[],_::_,_,_,_,h,_,_,_=>h.elim
 |_::_,[],_,_,_,h,_,_,_=>h.elim
 |_::_,_::_,[],_,_,_,_,h,_=>by cases h
 |_::_,_::_,_::_,[],_,_,_,h,_=>by cases h
 |t::ts,b::bs,v::vs,x::xs,bY,ht,hv,h,hw=>by
  obtain⟨p,q,h1,h2,rfl⟩:=h
  simp only[DataW.weightsEach,List.mem_append]at hw
  obtain⟨zs,a1,a2,a3⟩:=akX ht.1 (hv 0 t v rfl rfl) h1 fun m hm=>hw m (.inl hm)
  obtain⟨eO,b1,b2,b3⟩:=Vk ht.2 (fun j t v h1 h2=>hv (j+1) t v (by simpa using h1) (by simpa using h2)) h2 fun m hm=>hw m (.inr hm)
  refine⟨zs++eO,TJ a1 b1,⟨bV.ZE b a2 a3,?_⟩,by simp[b3]⟩
  rw[<-a2,List.drop_left];exact b2
theorem WS (hl:laidOutB P=true) {W W':World} (hb:Below W.heap.size W W'):∀{ts:List TypeId} {vs:List Value} {xs:List (DataW H)} {bY:List MemPlace},(∀t∈ts,P.readableRec t=true/\t<P.types.size)->DataW.TrodAll enc P W 0 (fun _=>true) true ts vs xs bY->(∀x∈bY,x.block<W.heap.size)->
 DataW.TrodAll enc P W' 0 (fun b=>decide (b<W.heap.size)) true ts vs xs bY
 |[],[],[],_,_,h,_=>h
 |[],_::_,_,_,_,h,_=>h.elim
 |[],[],_::_,_,_,h,_=>h.elim
 |_::_,[],_,_,_,h,_=>by cases h
 |_::_,_::_,[],_,_,h,_=>by cases h
 |t::ts,v::vs,x::xs,bY,hr,h,hlt=>by
  obtain⟨p,q,h1,h2,rfl⟩:=h
  exact⟨p,q,Below.trod hl (hr t (by simp)).1 (hr t (by simp)).2 h1 hb fun x hx=>hlt x (List.mem_append.2 (.inl hx)),WS hl hb (fun t ht=>hr t (List.mem_cons_of_mem _ ht)) h2 fun x hx=>hlt x (List.mem_append.2 (.inr hx)),rfl⟩
theorem abZ {C:Checked} {os:Os} {f:FuncId} {fn:Func} {s:ChangeSpec} {apart:Bool} {X:World->Array Value->Prop}
 (bw:∀(w w':World) (args:Array Value),w.heap=w'.heap->X w args->X w' args)
 (own:ownKnob C.prog.godebug=none) (started:os.Started) (L3:C.prog.inits.idxOf? f=none) (vb:C.prog.funcs[f]?=some fn)
 (witness:∃(w:World) (tape:Tape) (i:Input),w.os=os/\(w.forCall tape i).Shaped C.prog/\i.vars=[]/\Input.okWide C.prog (w.forCall tape i) .any w.heap.size f i/\
   ((s.pre enc C.prog fn [] apart (w.forCall tape i).memory i.args/\X (w.forCall tape i).memory i.args)/\sizedMet enc C.prog fn (OpenSpec.ofChange s) apart (w.forCall tape i).memory i.args)/\({}:Assume).holds C.prog (lone (Frame.enter C.prog f i.args .normal) [] (w.forCall tape i)))
 (contract:∀(W:World) (base:Nat) (args:Array Value) (ds gs:List (DataW H)) (before:List MemPlace),
   (∀(j:Nat) t v,fn.params[j]?=some t->args[j]?=some v->Value.okWide C.prog W .any base t v)->
   DataW.Whole enc C.prog fn.params.toList s.vars apart W args.toList ds gs before->(DataW.weightsEach C.prog (fn.params.toList++s.plain.varTypes C.prog) (ds++gs)).all (·<=reachBytes)=true->X W args->W.ShapedOpen C.prog->
   Calls C.prog f args W fun e W'=>∃v,e= .returned v/\s.post enc C.prog fn apart true false false W args v W'):
 ReturnsInHanded {} C os f .any (fun w args=>(s.pre enc C.prog fn [] apart w args/\X w args)/\sizedMet enc C.prog fn (OpenSpec.ofChange s) apart w args) (s.post enc C.prog fn apart true false false):=by
 refine returnsInHanded_of_calls own started L3 witness ?_
 intro w tape i _ hsh _ hok hpre ayR
 obtain⟨_,_,_,ada,Cg,_,_,_,_,k0⟩:=hok
 have e:ada=fn:=Option.some.inj (Cg.symm.trans vb)
 subst e
 obtain⟨⟨⟨ds,gs,before,hw,hc⟩,hx⟩,hz⟩:=hpre
 have sg:=DataW.Whole.of_heap (w':=w.forCall tape i) (by rfl) hw
 refine(contract (w.forCall tape i) w.heap.size i.args ds gs before k0 sg (hz.weights hw) (bw _ _ _ (by rfl) hx) hsh).mono fun e W' ⟨v,he,hp⟩=>?_
 subst he
 exact ChangeSpec.post_blind hp
theorem aiJ {C:Checked} {os:Os} {f:FuncId} {fn:Func} {s:ChangeSpec} {X:World->Array Value->Prop} {apart:Bool} {ts:List TypeId} {tb:TypeId} {bs:List bV}
 (bw:∀(w w':World) (args:Array Value),w.heap=w'.heap->X w args->X w' args)
 (own:ownKnob C.prog.godebug=none) (started:os.Started) (L3:C.prog.inits.idxOf? f=none) (vb:C.prog.funcs[f]?=some fn)
 (witness:∃(w:World) (tape:Tape) (i:Input),w.os=os/\(w.forCall tape i).Shaped C.prog/\i.vars=[]/\Input.okWide C.prog (w.forCall tape i) .any w.heap.size f i/\
   ((s.pre enc C.prog fn [] apart (w.forCall tape i).memory i.args/\X (w.forCall tape i).memory i.args)/\sizedMet enc C.prog fn (OpenSpec.ofChange s) apart (w.forCall tape i).memory i.args)/\({}:Assume).holds C.prog (lone (Frame.enter C.prog f i.args .normal) [] (w.forCall tape i)))
 (hp:fn.params.toList=ts) (hr:fn.resultTypes.toList=[tb]) (er:fn.resultTypes.size=1) (ahg:C.prog.underlying tb=some .bool) (CJ:Hs C.prog ts bs) (qQ:laidOutB C.prog=true) (qT:(ts.all fun t=>C.prog.readableRec t&&decide (t<C.prog.types.size))=true) (K9:s.vars=[])
 (hs:∀xs:List (DataW H),xs.length=bs.length->s.fn H xs={results:=[.lit (.bool true)],args:=xs,vars:=[]})
 (contract:∀(W:World) (zs:List Int) (vs:List Value),av (cG bs) zs->ik (fun g=>g<W.heap.size) (fun _=>False) W bs zs vs->X W vs.toArray->W.ShapedOpen C.prog->Calls C.prog f vs.toArray W fun e W'=>e= .returned (.bool true)/\W.Extends W'):
 ReturnsInHanded {} C os f .any (fun w args=>(s.pre enc C.prog fn [] apart w args/\X w args)/\sizedMet enc C.prog fn (OpenSpec.ofChange s) apart w args) (s.post enc C.prog fn apart true false false):=by
 refine abZ bw own started L3 vb witness ?_
 intro W base args xs gs before aho qA hsz hx hsh
 have afk:=qA
 have hlt:=qA.lt
 obtain⟨p,q,hA,JU,rfl,hfz,hnd⟩:=qA
 rw[hp]at hA
 rw[K9]at JU
 obtain⟨rfl,rfl⟩:gs=[]/\q=[]:=by
  cases gs with
  |nil=>exact⟨rfl,JU⟩
  |cons g r=>exact absurd JU (by intro h;cases h)
 have k0:∀(j:Nat) t v,ts[j]?=some t->args.toList[j]?=some v->Value.okWide C.prog W .any base t v:=fun j t v h1 h2=>aho j t v (by rw[<-hp]at h1;simpa using h1) (by simpa using h2)
 have e:(fn.params.toList++s.plain.varTypes C.prog)=ts:=by rw[hp];simp[DataSpec.varTypes,ChangeSpec.plain,K9]
 rw[e,List.append_nil,List.all_eq_true]at hsz
 obtain⟨zs,hz,hat,hlen⟩:=Vk CJ k0 hA fun n hn=>by simpa using hsz n hn
 have mE:args=args.toList.toArray:=by simp
 rw[mE]at hx
 have hcall:Calls C.prog f args W fun e W'=>e= .returned (.bool true)/\W.Extends W':=by
  have:=contract W zs args.toList hz hat hx hsh
  rwa [<-mE]at this
 refine hcall.mono fun e W' ⟨he,hw⟩=>?_
 subst he
 have Cg:=hs (xs++[]) (by simp[hlen])
 have afA:Below W.heap.size W W':=⟨hw.os,hw.tape,hw.output,hw.size,fun i hi=>hw.block i hi⟩
 refine⟨_,rfl,_,_,_,[],p,[],afk,?_,?_,?_,aij hw _,fun h=>by cases h⟩
 ·rw[Cg,hr,er];exact trodAll_mk1 (shut_bool ahg true)
 ·rw[Cg,hp,List.append_nil]
  exact WS qQ afA (fun t ht=>by
   have:=List.all_eq_true.1 qT t ht
   simpa using this) hA fun x hx=>hlt x (by simp[hx])
 ·rw[Cg,K9];rfl
section
variable {gl:dz} {wb:World} {sh:Nat->List Nat×List Nat} {SB:Nat->List (List Int)->List (List Int)->Prop}
def dJ (SB:Nat->List (List Int)->List (List Int)->Prop) (res:List bV) (id:Nat):List (List Int)->List (List Int)->Prop:=fun zs rs=>av (cG res) rs.flatten/\SB id zs rs
theorem py {c:db} {bcs:List db} {cal:dQ} {li:FuncId->Nat->Option dj} {rounds d:Nat} {lsh:Nat->List Nat} {lens:List Nat} (hm:P.follows .mixedOrders=true) (cz:∀r ex ro,e7 (cB sh SB) P gl ⟨wb,r,ex,ro,[]⟩ cal) (hg:bL gl ⟨wb,wb,fun _=>False,fun _=>False,[]⟩)
 (gU:∀b∈bcs,b.cf P wb (cB sh SB b.id)) (hf:uY P c.f=true) (hl:lens=(sh c.id).1) (hd:tU c.res=(sh c.id).2)
 (hv:iT sh lsh SB (dJ SB c.res c.id) lens (cG c.args) c.res (c.tree (fT bcs) P gl cal li rounds d)):c.cf P wb (cB sh SB c.id):=by
 refine db.ajH (li:=li) (rounds:=rounds) (d:=d) hm cz hg gU (enters hf) (qm fun zs hz=>?_)
 have h:=jB (D8 hv) hz
 simp only[dJ,sP]at h
 rw[hl,hd]at h
 exact h
theorem Iw {c:db} {bc:jX} {cal:dQ} {li:FuncId->Nat->Option dj} {rounds d:Nat} {lsh:Nat->List Nat} {lens:List Nat} (hm:P.follows .mixedOrders=true) (cz:∀r ex ro,e7 (cB sh SB) P gl ⟨wb,r,ex,ro,[]⟩ cal) (hg:bL gl ⟨wb,wb,fun _=>False,fun _=>False,[]⟩)
 (gU:∀(L:V->Env->Prop) (r:World) (ro:Nat->Prop),oq (cB sh SB) L ⟨wb,r,fun _=>False,ro,[]⟩ P bc) (hf:uY P c.f=true) (hl:lens=(sh c.id).1) (hd:tU c.res=(sh c.id).2)
 (hv:iT sh lsh SB (dJ SB c.res c.id) lens (cG c.args) c.res (c.tree bc P gl cal li rounds d)):c.cf P wb (cB sh SB c.id):=by
 refine db.zW (li:=li) (rounds:=rounds) (d:=d) hm cz hg gU (enters hf) (qm fun zs hz=>?_)
 have h:=jB (D8 hv) hz
 simp only[dJ,sP]at h
 rw[hl,hd]at h
 exact h
theorem aiI {c:db} {W:World} {vs:List Value} {zs:List Int} (hc:c.cf P W (cB sh SB c.id)) (kb:c.res=[.d .bool]) (hpre:c.pre=0) (hz:av (cG c.args) zs) (hat:ik (fun g=>g<W.heap.size) (fun _=>False) W c.args zs vs) (h1:∀a z,SB c.id a [[z]]->z=1) (h2:(sh c.id).2=[1]):
 Calls P c.f vs.toArray W fun e W'=>e= .returned (.bool true)/\W.Extends W':=by
 refine(hc.2 _ W vs zs (World.Extends.refl W) hz (by rw[hpre];trivial) hat).mono fun e W' ⟨hx,rs,us,hb,hs,hr,he⟩=>⟨?_,hx⟩
 rw[kb]at hb hr
 match rs,hb,us,hr,hs,he with
 |[z],hb,[u],hr,hs,he=>
  unfold cB at hs
  rw[h2]at hs
  have e1:z=1:=h1 _ z hs
  subst e1
  have:u= .bool true:=hr.1
  subst this
  rw[he];rfl
 |[z],hb,[],hr,hs,he=>exact hr.elim
 |[z],hb,_::_::_,hr,hs,he=>exact hr.2.elim
 |[],hb,_,_,_,_=>exact hb.elim
 |_::_::_,hb,_,_,_,_=>exact hb.2.2.elim
end
end Go.bj

/- Contracts of functions that change a slice of one's own: what was handed in is told anew. -/
set_option linter.unusedVariables false
set_option linter.unusedSimpArgs false
namespace Go.bj
open M
def kn (w w':World) (own:Option Nat):Prop:=
 w'.os=w.os/\w'.tape=w.tape/\w'.output=w.output/\w.heap.size<=w'.heap.size/\∀k:Nat,k<w.heap.size->own≠some k->w'.heap[k]?=w.heap[k]?
structure kk where
 f:FuncId
 id:Nat
 sh:List aw
 e:TypeId
 args:List bV
 pre:Nat:=0
def kH:Value->Option Nat
 | .slice (some a) _ (_+1)=>some a.block
 |_=>none
def kk.cf (P:Program) (wb:World) (c:kk) (spec:List Int->List Int->Prop):Prop:=
 (∀args w,(callFunc c.f args).run P w= .ok (.enter c.f args) w)/\
 ∀(F:Nat->Prop) (w:World) (v0:Value) (code:Int) (vs:List Value) (zs:List Int),wb.Extends w->ps (fun g=>wb.heap.size<=g) w c.sh c.e (aa code) v0->(0<=code/\code<=b8)->av (cG c.args) zs->xF c.pre (code::zs)->ik F (fun _=>False) w c.args zs vs->(∀g,F g->kH v0≠some g)->
  Calls P c.f (v0::vs).toArray w fun e w'=>kn w w' (kH v0)/\∃code' v',(0<=code'/\code'<=b8)/\spec (code::zs) [code']/\ps (fun g=>kH v0=some g∨w.heap.size<=g) w' c.sh c.e (aa code') v'/\e= .returned v'
noncomputable def kk.R (c:kk) (n:Nat) (code:I) (r:List V) (bl:List aq) (k:RK):T:=
 uV bl c.args r n fun ls n1=>Gy c.pre (code::ls) (.call c.id (code::ls) n1 [(0,b8)] (pt [.jJ c.sh c.e] n1 (n1+1) [] bl fun dM us j3=>k dM (sH us) j3))
noncomputable def kk.E (c:kk) (n:Nat) (vs:List V) (bl:List aq) (k:RK):T:=
 match vs with
 | .w (.one (.sl b aL o ro len cap))::r=>match bl[b]? with
  |some ([.rows sh off code df kind],bJ)=>cond (lV c.sh sh&&Nat.beq kind 2&&I.beq o (.const 0)&&I.beq off (.const 0)&&I.beq ro (.const 0)&&I.beq cap df&&Nat.beq bJ.1 c.e)
   (.l7 31 [code,len] (c.R n code r (cP bl b ([.rows sh off code df 0],bJ)) k)) .stuck
  |_=> .stuck
 | .w (.one (.con (.slice none 0 0)))::r=>c.R n (.const 0) r bl k
 | .w (.one (.slc b 0 0 0))::r=>match bl[b]? with
  |some ([],(t,false))=>cond (Nat.beq t c.e) (c.R n (.const 0) r bl k) .stuck
  |_=> .stuck
 |_=> .stuck
section
variable {S:Nat->List Int->List Int->Prop} {L:V->Env->Prop} {w0:de} {P:Program}
theorem Mem.ai5 {ρ:Env} {m:Nat->Nat} {bl:List aq} {w w':World} {b:Nat} {sh:List aw} {off code cap:I} {t:TypeId×Bool} (h:Mem w0 ρ m bl w) (aB:bl[b]?=some ([.rows sh off code cap 2],t)) {own:Option Nat} (hown:∀g,own=some g->0<=cap.den ρ/\g=m b) (hn:kn w w' own):Mem w0 ρ m (cP bl b ([.rows sh off code cap 0],t)) w':=by
 have h1:=h.kill aB
 obtain⟨n1,dM,mg,vr,tT⟩:=hn
 have ir:=h.rws b sh off code cap 2 t aB (by decide)
 have hg:∀g,own=some g->w0.b.heap.size<=g/\(w0.ex g∨w0.r.heap.size<=g):=fun g hg=>by
  obtain⟨hc,rfl⟩:=hown g hg
  obtain⟨_,cells,hH,fz,g1,_,g4⟩:=ir.2 hc
  obtain⟨_,_,_,_,g8,g9⟩:=g4 (by decide)
  exact⟨g8,g9⟩
 have iH:0<=cap.den ρ->aY ρ [.rows sh off code cap 2]=2:=fun hc=>mM (by decide) hc
 have kW:∀i:Nat,i<w0.b.heap.size->w'.heap[i]?=w0.b.heap[i]?:=fun i hi=>by
  rw[tT i (Nat.lt_of_lt_of_le hi h.ext.size) (fun e=>by have:=(hg i e).1;omega),h.ext.block i hi]
 have cN:∀(i:Nat) (p:aq),(cP bl b ([.rows sh off code cap 0],t))[i]?=some p->(i=b/\p=([.rows sh off code cap 0],t))∨(i≠b/\bl[i]?=some p):=fun i p hi=>by
  have kV:b<bl.length:=(List.getElem?_eq_some_iff.1 aB).1
  rw[gZ,List.getElem?_set]at hi
  split at hi
  ·rename_i dT
   subst dT
   simp only[kV,if_true,Option.some.injEq]at hi
   exact .inl ⟨rfl,hi.symm⟩
  ·rename_i dT;exact .inr ⟨fun e=>dT e.symm,hi⟩
 have FG:∀(i:Nat) (p:aq),i≠b->bl[i]?=some p->aY ρ p.1≠0->w'.heap[m i]?=w.heap[m i]?:=fun i p hne hi hk=>by
  refine tT _ (h.lt hi hk) fun e=>?_
  obtain⟨hc,e⟩:=hown _ e
  exact h.ne aB hi (by rw[iH hc];exact Nat.le_refl _) hk (fun e=>hne e.symm) e.symm
 refine⟨⟨n1.trans h.ext.os,dM.trans h.ext.tape,mg.trans h.ext.output,Nat.le_trans h.ext.size vr,fun a ha=>by simp only[World.cell?,kW a.block ha],fun a ha=>by simp only[World.frozen?,kW a.block ha],kW⟩,n1.trans h.fI,dM.trans h.iu,mg.trans h.gr,Nat.le_trans h.ek vr,fun i hi hx=>?_,fun i cs t' hi ho=>?_,fun i dR fK code' fE lj t' hi=>?_,h1.inj⟩
 ·rw[tT i (Nat.lt_of_lt_of_le hi h.ek) (fun e=>by rcases(hg i e).2 with h|h;exact hx h;omega)]
  exact h.fv i hi hx
 ·rcases cN i _ hi with⟨rfl,cE⟩|⟨hne,hi⟩
  ·cases cE;cases ho
  ·obtain⟨g1,g2,r,hr,g3⟩:=h.dX i cs t' hi ho
   exact⟨g1,g2,r,hr,by rw[FG i _ hne hi (by rw[iv ho];decide)];exact g3⟩
 ·rcases cN i _ hi with⟨rfl,cE⟩|⟨hne,hi⟩
  ·cases cE;exact fun hk=>absurd rfl hk
  ·exact(h.rws i dR fK code' fE lj t' hi).grow fun hk hc=>FG i _ hne hi (by simp only[mM hk hc];exact hk)
theorem kk.HP {c:kk} {spec:List Int->List Int->Prop} (hc:c.cf P w0.b spec) (cZ:∀zs rs,spec zs rs->S c.id zs rs) (n nb:Nat) (code:I) (r:List V) (m1:List aq) (k:RK) (G:dt) (ρ:Env) (m:Nat->Nat) (w:World) (X:Value) (xs:List Value) (R':Ending->World->Prop)
 (hnb:m1.length=nb) (wW:cn n m1.length ρ m1) (Cq:Mem w0 ρ m m1 w) (hv:∀v∈r,V.ok n m1.length ρ v) (hr:dK ρ m r xs) (r2:code.aX n) (gM:0<=code.den ρ/\code.den ρ<=b8)
 (zz:ps (fun g=>w0.b.heap.size<=g) w c.sh c.e (aa (code.den ρ)) X) (agv:∀w',kn w w' (kH X)->Mem w0 ρ m m1 w') (FB:∀g,kH X=some g->w0.b.heap.size<=g/\w0.r.heap.size<=g) (Td:∀(i:Nat) (p:aq),m1[i]?=some p->kH X=some (m i)->aY ρ p.1=0)
 (hh:(c.R n code r m1 k).holds S L G ρ) (hk:s6 S L w0 k n nb ρ m G R'):Calls P c.f (X::xs).toArray w R':=by
 subst hnb
 unfold kk.R at hh
 obtain⟨ax,n1,ls,eL,dw,⟨g1,g2,g3⟩,hh⟩:=BI (S:=S) (L:=L) wW Cq hv hr G _ hh
 obtain⟨hpre,hh⟩:=preM_holds hh
 simp only[T.holds]at hh
 have acK:code.den ax=code.den ρ:=I.bA dw r2
 have hF:∀g,mv w0 ρ m m1 (r.flatMap j2) (r.flatMap oi) g->kH X≠some g:=fun g hg he=>by
  obtain⟨⟨b6,_,J4,p,FD,vj,_⟩,_⟩:=hg
  exact vj (Td b6 p FD (by rw[he,J4]))
 rw[List.map_cons,acK]at hpre hh
 refine(hc.2 (mv w0 ρ m m1 (r.flatMap j2) (r.flatMap oi)) w X (code.den ρ) xs _ Cq.ext zz gM g2 hpre (g3 _ fun _ h=>h) hF).mono ?_
 rintro e w' ⟨lL,code',v',k1,k3,k4,rfl⟩
 have hh:=jB hh (show av [((0:Int),b8)] [code'] from⟨k1.1,k1.2,trivial⟩) (cZ _ _ k3)
 have hl:=agv w' lL
 have gT:=wW.ext dw eL (Nat.le_refl m1.length)
 have dd:agree n1 ax (bq ax n1 [code']):=agree.bq [code'] n1 ax
 have im:=gT.ext dd (Nat.le_add_right n1 1) (Nat.le_refl m1.length)
 have FJ:=(hl.lv wW dw).lv gT dd
 have hA:fQ (bq ax n1 [code']) n1 [code']:=fQ.bq ax n1 [code']
 have r7:=dw.trans dd eL
 have BY:di n m1.length ρ m (n1+1) m1.length (bq ax n1 [code']) m:=⟨by omega,r7,Nat.le_refl _,fun _ _=>rfl⟩
 have hN:∀g,(kH X=some g∨w.heap.size<=g)->w0.b.heap.size<=g/\w0.r.heap.size<=g:=fun g hg=>by
  rcases hg with hg|hg
  ·exact FB g hg
  ·exact⟨Nat.le_trans Cq.ext.size hg,Nat.le_trans Cq.ek hg⟩
 have B9:∀(i:Nat) (p:aq),m1[i]?=some p->(kH X=some (m i)∨w.heap.size<=m i)->aY (bq ax n1 [code']) p.1=0:=fun i p hi hg=>by
  rw[o7 (wW p (List.mem_of_getElem? hi)) r7]
  rcases hg with hg|hg
  ·exact Td i p hi hg
  ·by_cases h0:aY ρ p.1=0
   ·exact h0
   ·have:=Cq.lt hi h0;omega
 obtain⟨n',ad,m',jt,j3,p1,p2,p3,dx,dy,fc⟩:=uL (S:=S) (L:=L) (w0:=w0) (F:=fun _=>False) (N:=fun g=>kH X=some g∨w.heap.size<=g) (fun g hg=>hg.elim) hN (l:=[.jJ c.sh c.e]) (us:=[]) (vals:=[v']) (by rfl) im FJ hA (show av [((0:Int),b8)] [code'] from⟨k1.1,k1.2,trivial⟩) (Nat.le_refl _) ⟨k4,trivial⟩ (.inl rfl) (.inr B9) (fun u hu=>by simp at hu) hh
 have kb:=My (m:=m') (vals:=[v']) dy (by rw[dx];rfl)
 exact hk n' (sH jt) j3 G ad m' w' v' (BY.trans p1) (dG.refl _ _) kb.1 kb.2 p2 p3 fc
theorem kn.ext {w w':World} (h:kn w w' none):w.Extends w':=by
 obtain⟨n1,dM,mg,vr,tT⟩:=h
 have kW:∀i:Nat,i<w.heap.size->w'.heap[i]?=w.heap[i]?:=fun i hi=>tT i hi (fun e=>by cases e)
 exact⟨n1,dM,mg,vr,fun a ha=>by simp only[World.cell?,kW a.block ha],fun a ha=>by simp only[World.frozen?,kW a.block ha],kW⟩
theorem kk.v8 {c:kk} {spec:List Int->List Int->Prop} (hex:∀g,¬w0.ex g) (hc:c.cf P w0.b spec) (cZ:∀zs rs,spec zs rs->S c.id zs rs) (n:Nat) (vs:List V) (bl:List aq) (k:RK) (G:dt) (ρ:Env) (m:Nat->Nat) (w:World) (xs:List Value) (R':Ending->World->Prop)
 (hb:cn n bl.length ρ bl) (hw:Mem w0 ρ m bl w) (hv:∀v∈vs,V.ok n bl.length ρ v) (hr:dK ρ m vs xs) (hh:(c.E n vs bl k).holds S L G ρ) (hk:s6 S L w0 k n bl.length ρ m G R'):
 (callFunc c.f xs.toArray).run P w= .ok (.enter c.f xs.toArray) w/\Calls P c.f xs.toArray w R':=by
 refine⟨hc.1 _ _,?_⟩
 have z4:0<=(I.const 0).den ρ/\(I.const 0).den ρ<=b8:=by rw[I.aK];exact⟨Int.le_refl _,by have:=mX (l:=[]) (by simp) (by simp);exact Int.le_trans (fp []) this⟩
 have z0:aa ((I.const 0).den ρ)=[]:=by rw[I.aK];exact fL
 unfold kk.E at hh
 split at hh
 ·rename_i b aL o ro len cap r
  split at hh
  rotate_left
  ·exact hh.elim
  rename_i sh off code df kind bJ aB
  cases hgd:(lV c.sh sh&&Nat.beq kind 2&&I.beq o (.const 0)&&I.beq off (.const 0)&&I.beq ro (.const 0)&&I.beq cap df&&Nat.beq bJ.1 c.e)with
  |false=>rw[hgd]at hh;exact hh.elim
  |true=>
  rw[hgd]at hh
  simp only[cond_true]at hh
  simp only[Bool.and_eq_true]at hgd
  obtain⟨⟨⟨⟨⟨⟨b0,k2⟩,b1⟩,b2⟩,b3⟩,b4⟩,b5⟩:=hgd
  have b0:=uk b0
  have b5:=Nat.eq_of_beq_eq_true b5
  have k2:=Nat.eq_of_beq_eq_true k2
  have b1:=I.beq_eq b1
  have b2:=I.beq_eq b2
  have b3:=I.beq_eq b3
  have b4:=I.beq_eq b4
  subst k2;subst b1;subst b2;subst b3;subst b4;subst b0
  match xs,hr with
  |X::xs,hr=>
  obtain⟨xb,hh⟩:=hh
  have xb:len.den ρ=(aa (code.den ρ)).length:=xb
  have se:(A.sl b aL (.const 0) (.const 0) len cap).ok n bl.length ρ:=hv (.w (.one (.sl b aL (.const 0) (.const 0) len cap))) (by simp)
  obtain⟨ptr,e1,e2,bu⟩:=oh (m:=m) se
  have lN:X=(A.sl b aL (.const 0) (.const 0) len cap).den ρ m:=hr.1
  rw[e1]at lN
  obtain⟨x1,⟨x2,fg,eX,e5⟩,⟨fh,ib,jd,je⟩,⟨jv,iN⟩,eH,fy⟩:=se
  rw[I.aK]at iN
  have ir:=hw.rws b c.sh (.const 0) code cap 2 bJ aB (by decide)
  have ej:(A.rows c.sh (.const 0) code cap 2).ok n bl.length ρ:=hb _ (List.mem_of_getElem? aB) _ (by simp)
  obtain⟨⟨r1,r2,cX⟩,gM,aj⟩:=ej
  have kV:b<bl.length:=(List.getElem?_eq_some_iff.1 aB).1
  have Fz:(len.den ρ).toNat=(aa (code.den ρ)).length:=by omega
  have hown:(∀g,kH X=some g->0<=cap.den ρ/\g=m b)/\ps (fun g=>w0.b.heap.size<=g) w c.sh c.e (aa (code.den ρ)) X/\(∀g,kH X=some g->w0.b.heap.size<=g/\w0.r.heap.size<=g):=by
   by_cases hc0:cap.den ρ<0
   ·have gV:=eH hc0
    have bw:X= .slice none (len.den ρ).toNat (if cap.den ρ<0 then 0 else(cap.den ρ).toNat):=by rw[lN,e2 hc0]
    refine⟨(fun g h=>by rw[bw]at h;cases h),Or.inl ⟨by rw[bw,if_pos hc0,gV];rfl,ir.1 hc0⟩,(fun g h=>by rw[bw]at h;cases h)⟩
   ·obtain⟨_,cells,hH,fz,g1,⟨g2,g3⟩,g4⟩:=ir.2 (by omega)
    obtain⟨g0,g5,g6,g7,g8,g9⟩:=g4 (by decide)
    have g6:=g6.two
    subst g0 g6
    rw[I.aK]at g3
    have bw:X= .slice (some ⟨m b,0,none⟩) (aa (code.den ρ)).length (cap.den ρ).toNat:=by
     rw[lN,bu (by omega),if_neg hc0,Fz,I.aK];simp
    have hcl:=fy (by omega)
    have Te:∀g,kH X=some g->g=m b:=fun g h=>by
     rw[bw]at h
     unfold kH at h
     split at h
     ·rename_i heq
      injection heq with h1 h2 h3
      injection h1 with h1
      rw[<-h1]at h
      cases h;rfl
     ·cases h
    refine⟨(fun g h=>⟨by omega,Te g h⟩),Or.inr ⟨m b,(cap.den ρ).toNat,cells,bw,⟨by omega,by omega⟩,g8,by rw[<-b5];exact g1,g3,g7⟩,(fun g h=>by
     rw[Te g h]
     rcases g9 with h|h
     ·exact absurd h (hex _)
     ·exact⟨g8,h⟩)⟩
  obtain⟨kY,zz,FB⟩:=hown
  have SD:=hE bl b ([.rows c.sh (.const 0) code cap 0],bJ)
  refine kk.HP (S:=S) (L:=L) (w0:=w0) hc cZ n bl.length code r (cP bl b ([.rows c.sh (.const 0) code cap 0],bJ)) k G ρ m w X xs R' SD ?_ (hw.kill aB) (fun v hv'=>by rw[SD];exact hv v (List.mem_cons_of_mem _ hv')) hr.2 r2 gM zz (fun w' hn=>hw.ai5 aB kY hn) FB (fun i p hi hg=>?_) hh hk
  ·refine hb.set ?_
   intro y hy
   have hy:y= .rows c.sh (.const 0) code cap 0:=by simpa using hy
   subst hy
   exact hb _ (List.mem_of_getElem? aB) (.rows c.sh (.const 0) code cap 2) (by simp)
  ·by_cases h0:aY ρ p.1=0
   ·exact h0
   ·exfalso
    obtain⟨hc,agE⟩:=kY _ hg
    have cN:i≠b/\bl[i]?=some p:=by
     rw[gZ,List.getElem?_set]at hi
     split at hi
     ·rename_i dT
      subst dT
      simp only[kV,if_true,Option.some.injEq]at hi
      subst hi
      exact absurd (by simp[aY]) h0
     ·rename_i dT;exact⟨fun e=>dT e.symm,hi⟩
    exact hw.ne aB cN.2 (by rw[mM (by decide) hc];exact Nat.le_refl _) h0 (fun e=>cN.1 e.symm) agE.symm
 ·rename_i r
  match xs,hr with
  |X::xs,hr=>
  have bw:X= .slice none 0 0:=hr.1
  subst bw
  exact kk.HP (S:=S) (L:=L) (w0:=w0) hc cZ n bl.length (.const 0) r bl k G ρ m w _ xs R' rfl hb hw (fun v hv'=>hv v (List.mem_cons_of_mem _ hv')) hr.2 (I.cA _ _) z4 (Or.inl ⟨rfl,z0⟩) (fun w' hn=>hw.grow hn.ext) (fun g h=>by cases h) (fun i p hi h=>by cases h) hh hk
 ·rename_i b r
  split at hh
  rotate_left
  ·exact hh.elim
  rename_i t aB
  cases CI:Nat.beq t c.e with
  |false=>rw[CI]at hh;exact hh.elim
  |true=>
   rw[CI]at hh
   simp only[cond_true]at hh
   have CI:=Nat.eq_of_beq_eq_true CI
   subst CI
   match xs,hr with
   |X::xs,hr=>
   have bw:X= .slice (some ⟨m b,0,none⟩) 0 0:=hr.1
   subst bw
   obtain⟨g1,g2,x6,g3,g4⟩:=hw.dX b [] (c.e,false) aB rfl
   have g3:=g3 rfl
   subst g3
   refine kk.HP (S:=S) (L:=L) (w0:=w0) hc cZ n bl.length (.const 0) r bl k G ρ m w _ xs R' rfl hb hw (fun v hv'=>hv v (List.mem_cons_of_mem _ hv')) hr.2 (I.cA _ _) z4 (Or.inr ⟨m b,0,#[],?_,⟨?_,by decide⟩,g1,by simpa using g4,?_,by simp⟩) (fun w' hn=>hw.grow hn.ext) (fun g h=>by cases h) (fun i p hi h=>by cases h) hh hk
   ·rw[z0];rfl
   ·rw[z0];exact Nat.le_refl _
   ·rw[z0];exact⟨fun _ h=>by simp at h,[],[],by simp[aV],rfl⟩
 ·exact hh.elim
noncomputable def CP:List kk->jX->jX
 |[],g,f=>g f
 |c::r,g,f=>cond (Nat.beq c.f f) (some c.E) (CP r g f)
theorem TC {wb r:World} {ro:Nat->Prop} {bc:jX} (gU:oq S L ⟨wb,r,fun _=>False,ro,[]⟩ P bc):∀{l:List kk},(∀c∈l,c.cf P wb (S c.id))->oq S L ⟨wb,r,fun _=>False,ro,[]⟩ P (CP l bc)
 |[],_=>gU
 |c::l,h=>fun f g hf=>by
  unfold CP at hf
  cases hb:Nat.beq c.f f with
  |true=>
   rw[hb]at hf
   simp only[cond_true,Option.some.injEq]at hf
   have:=Nat.eq_of_beq_eq_true hb
   subst this;subst hf
   intro n vs bl k G ρ m w xs R' h1 h2 h3 h4 h5 h6
   exact kk.v8 (w0:=⟨wb,r,fun _=>False,ro,[]⟩) (fun _ h=>h) (h c (by simp)) (fun _ _ h=>h) n vs bl k G ρ m w xs R' h1 h2 h3 h4 h5 h6
  |false=>
   rw[hb]at hf
   exact TC gU (fun c hc=>h c (List.mem_cons_of_mem _ hc)) f g hf
end
end Go.bj
