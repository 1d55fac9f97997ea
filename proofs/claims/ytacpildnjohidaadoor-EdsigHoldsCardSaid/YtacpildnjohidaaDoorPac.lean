/- A contract out of a tree. -/
import Derived.Test.YtacpildnjohidaaDoorPab
import Derived.Laws.Externs
import Derived.ChangeMaps5
import Derived.ChangeSame
import Derived.OpenShut
import Derived.Handed
import Derived.ProofKit
import Derived.LaidMore
import Derived.Stop.Joined
import Derived.HandedShaped
import Derived.SizedLaws
import Derived.Carry
import Derived.RangeFuncOwn
import Derived.RangeFuncLeaves
import Derived.KernelRfl
import Derived.Test.YtacpildnjohidaaDoorPaa
open Array renaming replicate->Bb,eq_empty_of_size_eq_zero->CN
open Bool renaming and_eq_true->bw,not_eq_true'->gn,or_eq_true->CJ
open Classical renaming byContradiction->Zm,axiomOfChoice->aIg
open Function renaming comp->Nh
open Go renaming World->aC,Value->aV,TypeId->bp,Program->bV,FuncId->dt,IntKind->dO,Calls->oD,DataW->rz,MemPlace->zC,Deferred->EP
open Go.ChangeSpec renaming post_blind->aJK,plain->aJM
open Go.DataW renaming weightsEach->RZ,weightsAll->R0,weights->R1,trod->Zs,trod_int->aiX,TrodAll->ajd,trod_array->aBe,lit->aBf,trod_string->aBV
open Go.DataW.Whole renaming of_heap->aJJ
open Go.DataW.agg renaming injEq->aIl
open Go.Extern renaming findNext->Zp,find->Zq
open Go.Extern.MathBitsCarry renaming m64->aBc,three->aIh,pair->aIi
open Go.Fence renaming wide->Hf
open Go.Frame renaming enter->aBY
open Go.Input renaming okWide->aBX
open Go.OpenSpec renaming ofChange->ZI
open Go.Value renaming int->zD,cells->Hb,slice->Nl,okWide->Ny,bool->aBa,agg->aBW
open Go.World renaming cell?->o3,putObj_heap_other->zK,frozen?->CK,putObj_heap_same->CQ,putObj_size->ZJ,alloc_heap_new->aB2
open Go.World.Extends renaming refl->sT,drew->RH
open Int renaming le_refl->cW,mul_comm->kR,lt_or_le->od,emod_eq_of_lt->p9,eq_ofNat_of_zero_le->sn,le_of_lt->so,mul_emod->sS,emod_nonneg->ud,emod_lt_of_pos->zw,add_mul_emod_self_left->zx,mul_assoc->CF,le_trans->CI,mul_add->JK,toNat_of_nonneg->M9,natCast_emod->RA,pow_add->RD,ediv_eq_iff_of_pos->RN,emod_add_mul_ediv->Zj,add_mul_ediv_left->aiN
open List renaming map_cons->c5,mem_cons_of_mem->eB,mem_of_getElem?->e8,replicate->e9,map_nil->fD,length_append->fQ,range->fY,nil_append->gp,append_nil->gZ,map_append->jf,getD_cons_zero->jH,length_cons->jS,map_congr_left->kD,getD_cons_succ->kS,cons_append->mY,append_assoc->nI,take_append_drop->o2,mem_cons->pD,map_map->p8,length->qa,getElem?_eq_getElem->qJ,length_nil->qL,length_map->qM,length_drop->rA,length_take->su,flatten_cons->uT,take_of_length_le->uU,getElem?_set->uV,zipWith->uW,flatMap_cons->uY,getElem?_cons_zero->wJ,not_mem_nil->yp,mem_append->yo,drop_drop->A9,replicate_succ->CP,drop_left->EN,mem_of_find?_eq_some->Ha,all_eq_true->JI,map_take->JN,map_drop->JO,map_id->Ng,mem_or_eq_of_mem_set->Nv,drop_of_length_le->RC,zipWith_cons_cons->RL,mem_cons_self->RM,take_length->Zo,getElem?_eq_none->ZB,mapM_cons->aiV
open List.cons renaming injEq->qK
open Nat renaming beq->aM,le_refl->bO,eq_of_beq_eq_true->bR,ble->cK,blt->dP,le_of_ble_eq_true->fP,le_trans->oE,add_zero->pE,pow_succ->yq,zero_add->yk,mul_comm->zy,succ_mul->zF,mul_one->Ba,pow_add->CH,two_pow_pos->G7,lt_of_lt_of_le->G8,beq_refl->G9,mul_mod->JH,le_add_right->JM,div_div_eq_div_mul->Nb,mod_lt->Nc,div_add_mod->RB,mul_assoc->RE,mul_le_mul_left->RP,div_eq_of_lt->Zh,mod_eq_of_lt->Zl,dvd_of_mod_eq_zero->aA4,div_le_self->aA5
open Nat.Coprime renaming mul_right->aH1,eq_one_of_dvd->aH2
open Option.some renaming injEq->bb,inj->jd
open Prod.mk renaming injEq->eW
set_option linter.unusedVariables false
set_option linter.unusedSimpArgs false
namespace Go.ch
open M
theorem NZ:∀{b:List (Int×Int)} {P Q:List Int->Prop},(∀rs,P rs->Q rs)->j6 b P->j6 b Q
 |[],_,_,h,hp=>h _ hp
 |(l,u)::b,P,Q,h,hp=>λr h1 h2=>NZ (b:=b) (P:=λrs=>P (r::rs)) (Q:=λrs=>Q (r::rs)) (λrs=>h (r::rs)) (hp r h1 h2)
theorem u6:∀{b:List (Int×Int)} {P:List Int->Prop},(∀rs,af b rs->P rs)->j6 b P
 |[],_,h=>h [] trivial
 |(l,u)::b,P,h=>λr h1 h2=>u6 (b:=b) (P:=λrs=>P (r::rs)) λrs hi=>h (r::rs) ⟨h1,h2,hi⟩
theorem kp {S:Nat->List Int->List Int->Prop} {L aaf:V->Env->Prop} (h:∀v ρ,L v ρ->aaf v ρ):∀(t:T) (G:e2) (ρ:Env),t.holds S L G ρ->t.holds S aaf G ρ
 | .stuck,_,_,ae=>ae
 | .leaf v,_,ρ,ae=>h v ρ ae
 | .div n x d lo hi r,G,ρ,ae=>λq h1 h2 h3 h4=>kp h r G _ (ae q h1 h2 h3 h4)
 | .mul n x y lo hi r,G,ρ,ae=>λq h1 h2 h3=>kp h r G _ (ae q h1 h2 h3)
 | .bit n op k x y r,G,ρ,ae=>λq h1 h2 h3=>kp h r G _ (ae q h1 h2 h3)
 | .shr n x y lo hi r,G,ρ,ae=>λq h1 h2 h3=>kp h r G _ (ae q h1 h2 h3)
 | .AW n cs bj lo hi r,G,ρ,ae=>λq h1 h2 h3=>kp h r G _ (ae q h1 h2 h3)
 | .uq b t e,G,ρ,ae=>⟨λhb=>kp h t G ρ (ae.1 hb),λhb=>kp h e G ρ (ae.2 hb)⟩
 | .call id args n bds r,G,ρ,ae=>NZ (λrs hr hs=>kp h r G _ (hr hs)) ae
 | .loop ly init n bds r,G,ρ,ae=>by
  obtain⟨mZ,pH,h1,h2⟩:=ae
  exact⟨mZ,pH,h1,NZ (λzs hz gU=>kp h r _ _ (hz gU)) h2⟩
 | .again ly vals,G,ρ,ae=>ae
 | .both x y,G,ρ,ae=>⟨kp h x G ρ ae.1,kp h y G ρ ae.2⟩
 | .fn n op args lo hi r,G,ρ,ae=>λq h1 h2 h3=>kp h r G _ (ae q h1 h2 h3)
 | .s5 op args r,G,ρ,ae=>⟨ae.1,kp h r G ρ ae.2⟩
 | .uQ n lo hi r,G,ρ,ae=>λz h1 h2=>kp h r G _ (ae z h1 h2)
 | .nat n r,G,ρ,ae=>λz h1=>kp h r G _ (ae z h1)
 | .w2 op args r,G,ρ,ae=>λh1=>kp h r G ρ (ae h1)
 | .ind n b r,G,ρ,ae=>λz h1 h2 h3=>kp h r G _ (ae z h1 h2 h3)
def T.plain:T->Bool
 |stuck=>true
 |leaf _=>true
 |fn _ _ _ _ _ r|s5 _ _ r|ind _ _ r|div _ _ _ _ _ r|mul _ _ _ _ _ r|bit _ _ _ _ _ r|shr _ _ _ _ _ r|AW _ _ _ _ _ r|call _ _ _ _ r=>r.plain
 |uq _ t e=>t.plain&&e.plain
 |loop .. =>false
 |again .. =>false
 |both .. =>false
 |uQ .. =>false
 |nat .. =>false
 |w2 .. =>false
def Path (S:Nat->List Int->List Int->Prop):T->Env->V->Env->Prop
 | .stuck,_,_,_=>False
 | .leaf v,ρ,v',aa=>v'=v/\aa=ρ
 | .div n x d lo hi r,ρ,v,aa=>∃q,0<=x.den ρ-d*q/\x.den ρ-d*q<d/\Path S r (dm ρ n q) v aa
 | .mul n x y lo hi r,ρ,v,aa=>Path S r (dm ρ n (x.den ρ*y.den ρ)) v aa
 | .bit n op k x y r,ρ,v,aa=>Path S r (dm ρ n (eL op k (x.den ρ) (y.den ρ))) v aa
 | .shr n x y lo hi r,ρ,v,aa=>Path S r (dm ρ n (x.den ρ/2^(y.den ρ).toNat)) v aa
 | .AW n cs bj lo hi r,ρ,v,aa=>Path S r (dm ρ n ((cs.map (·.den ρ)).getD (bj.den ρ).toNat 0)) v aa
 | .uq b t e,ρ,v,aa=>(b.den ρ=true/\Path S t ρ v aa)∨(b.den ρ=false/\Path S e ρ v aa)
 | .call id args n bds r,ρ,v,aa=>∃rs,S id (args.map (·.den ρ)) rs/\Path S r (bL ρ n rs) v aa
 | .loop ..,_,_,_=>False
 | .again ..,_,_,_=>False
 | .both ..,_,_,_=>False
 | .uQ ..,_,_,_=>False
 | .nat ..,_,_,_=>False
 | .w2 ..,_,_,_=>False
 | .ind n b r,ρ,v,aa=>Path S r (dm ρ n (cond (b.den ρ) 1 0)) v aa
 | .fn n op args lo hi r,ρ,v,aa=>Path S r (dm ρ n (bE op (args.map (·.den ρ)))) v aa
 | .s5 op args r,ρ,v,aa=>Path S r ρ v aa
theorem xo {S:Nat->List Int->List Int->Prop} {L:V->Env->Prop}:∀(t:T) (G:e2) (ρ:Env),t.plain=true->t.holds S L G ρ->t.holds S (λv aa=>L v aa/\Path S t ρ v aa) G ρ
 | .stuck,_,_,_,ae=>ae
 | .leaf v,_,ρ,_,ae=>⟨ae,rfl,rfl⟩
 | .div n x d lo hi r,G,ρ,hp,ae=>λq h1 h2 h3 h4=>kp (λv aa h=>⟨h.1,q,h3,h4,h.2⟩) r G _ (xo r G _ hp (ae q h1 h2 h3 h4))
 | .mul n x y lo hi r,G,ρ,hp,ae=>λq h1 h2 h3=>kp (λv aa h=>⟨h.1,by subst h3;exact h.2⟩) r G _ (xo r G _ hp (ae q h1 h2 h3))
 | .bit n op k x y r,G,ρ,hp,ae=>λq h1 h2 h3=>kp (λv aa h=>⟨h.1,by subst h3;exact h.2⟩) r G _ (xo r G _ hp (ae q h1 h2 h3))
 | .shr n x y lo hi r,G,ρ,hp,ae=>λq h1 h2 h3=>kp (λv aa h=>⟨h.1,by subst h3;exact h.2⟩) r G _ (xo r G _ hp (ae q h1 h2 h3))
 | .AW n cs bj lo hi r,G,ρ,hp,ae=>λq h1 h2 h3=>kp (λv aa h=>⟨h.1,by subst h3;exact h.2⟩) r G _ (xo r G _ hp (ae q h1 h2 h3))
 | .uq b t e,G,ρ,hp,ae=>by
  simp only[T.plain,bw]at hp
  exact⟨λhb=>kp (λv aa h=>⟨h.1,.inl ⟨hb,h.2⟩⟩) t G ρ (xo t G ρ hp.1 (ae.1 hb)),λhb=>kp (λv aa h=>⟨h.1,.inr ⟨hb,h.2⟩⟩) e G ρ (xo e G ρ hp.2 (ae.2 hb))⟩
 | .call id args n bds r,G,ρ,hp,ae=>NZ (λrs hr hs=>kp (λv aa h=>⟨h.1,rs,hs,h.2⟩) r G _ (xo r G _ hp (hr hs))) ae
 | .loop ..,_,_,hp,_=>by simp[T.plain]at hp
 | .again ..,_,_,hp,_=>by simp[T.plain]at hp
 | .both ..,_,_,hp,_=>by simp[T.plain]at hp
 | .uQ ..,_,_,hp,_=>by simp[T.plain]at hp
 | .nat ..,_,_,hp,_=>by simp[T.plain]at hp
 | .w2 ..,_,_,hp,_=>by simp[T.plain]at hp
 | .ind n b r,G,ρ,hp,ae=>λq h1 h2 h3=>kp (λv aa h=>⟨h.1,by
  have:q=cond (b.den ρ) 1 0:=by rw[h3];by_cases ah:q=1<;>simp[ah]<;>omega
  rw[this]at h;exact h.2⟩) r G _ (xo r G _ hp (ae q h1 h2 h3))
 | .fn n op args lo hi r,G,ρ,hp,ae=>λq h1 h2 h3=>kp (λv aa h=>⟨h.1,by subst h3;exact h.2⟩) r G _ (xo r G _ hp (ae q h1 h2 h3))
 | .s5 op args r,G,ρ,hp,ae=>⟨ae.1,kp (λv aa h=>⟨h.1,h.2⟩) r G ρ (xo r G ρ hp ae.2)⟩
theorem Mz {x d q e3:Int} (h1:0<=x-d*q) (h2:x-d*q<d) (h3:0<=x-d*e3) (h4:x-d*e3<d):q=e3:=by
 have hd:0<d:=by omega
 have aw:x/d=q:=by
  rw[RN hd];constructor<;>rw[kR]<;>(try rw[JK])<;>omega
 have aD:x/d=e3:=by
  rw[RN hd];constructor<;>rw[kR]<;>(try rw[JK])<;>omega
 omega
theorem xC {S:Nat->List Int->List Int->Prop} (hK:∀id a rs cV,S id a rs->S id a cV->rs=cV):∀(t:T) (ρ:Env) {v v':V} {aQ bW:Env},Path S t ρ v aQ->Path S t ρ v' bW->v=v'/\aQ=bW
 | .stuck,_,_,_,_,_,h,_=>h.elim
 | .leaf v,_,_,_,_,_,h,bd=>⟨h.1.trans bd.1.symm,h.2.trans bd.2.symm⟩
 | .div n x d lo hi r,ρ,_,_,_,_,⟨q,b2,a2,a3⟩,⟨e3,b8,b9,de⟩=>by
  have:=Mz b2 a2 b8 b9
  subst this
  exact xC hK r _ a3 de
 | .mul n x y lo hi r,ρ,_,_,_,_,h,bd=>xC hK r _ h bd
 | .bit n op k x y r,ρ,_,_,_,_,h,bd=>xC hK r _ h bd
 | .shr n x y lo hi r,ρ,_,_,_,_,h,bd=>xC hK r _ h bd
 | .AW n cs bj lo hi r,ρ,_,_,_,_,h,bd=>xC hK r _ h bd
 | .uq b t e,ρ,_,_,_,_,h,bd=>by
  rcases h with⟨h1,h2⟩|⟨h1,h2⟩<;>rcases bd with⟨h3,h4⟩|⟨h3,h4⟩
  ·exact xC hK t ρ h2 h4
  ·rw[h1]at h3;cases h3
  ·rw[h1]at h3;cases h3
  ·exact xC hK e ρ h2 h4
 | .call id args n bds r,ρ,_,_,_,_,⟨rs,b2,a2⟩,⟨cV,b8,b9⟩=>by
  have:=hK _ _ _ _ b2 b8
  subst this
  exact xC hK r _ a2 b9
 | .loop ..,_,_,_,_,_,h,_=>h.elim
 | .again ..,_,_,_,_,_,h,_=>h.elim
 | .both ..,_,_,_,_,_,h,_=>h.elim
 | .uQ ..,_,_,_,_,_,h,_=>h.elim
 | .nat ..,_,_,_,_,_,h,_=>h.elim
 | .w2 ..,_,_,_,_,_,h,_=>h.elim
 | .ind n b r,ρ,_,_,_,_,h,bd=>xC hK r _ h bd
 | .fn n op args lo hi r,ρ,_,_,_,_,h,bd=>xC hK r _ h bd
 | .s5 op args r,ρ,_,_,_,_,h,bd=>xC hK r _ h bd
inductive O where
 |l (x:I)
 |b (x:bC)
def O.den (ρ:Env):O->Int
 |l x=>x.den ρ
 |b x=>cond (x.den ρ) 1 0
def mz (k:dO):List A->Option (List O)
 |[]=>some []
 | .int bD x::r=>cond (decide (k=bD)) (match mz k r with|some l=>some (.l x.l::l)|none=>none) none
 |_::_=>none
def aN.out:aN->A->Option O
 | .int k _ _,.int bD x=>cond (decide (k=bD)) (some (.l x.l)) none
 | .str,.str l=>some (.l l)
 | .bool,.bool e=>some (.b e)
 |_,_=>none
def uD:List aN->List A->Option (List O)
 |[],[]=>some []
 |c::d,a::r=>match c.out a,uD d r with|some o,some l=>some (o::l)|_,_=>none
 |_,_=>none
def Cd:D->W->Option (List O)
 | .int k _ _,.one (.int bD x)=>cond (decide (k=bD)) (some [.l x.l]) none
 | .bool,.one (.bool x)=>some [.b x]
 | .agg k n _ _,.agg l=>cond (aM l.length n) (mz k l) none
 | .str,.one (.str l)=>some [.l l]
 | .mix d,.agg l=>uD d l
 |_,_=>none
def Ed:List D->List W->Option (List O)
 |[],[]=>some []
 |d::r,w::s=>match Cd d w,Ed r s with|some a,some b=>some (a++b)|_,_=>none
 |_,_=>none
def outs (ds:List D):V->Option (List O)
 | .w u=>match ds with|[d]=>Cd d u|_=>none
 | .iU l=>match ds with|[_]=>none|_=>Ed ds l
 |_=>none
def j5 (ds:List D) (K:List Int->Prop) (v:V) (ρ:Env):Prop:=
 match outs ds v with
 |some os=>K (os.map (O.den ρ))
 |none=>False
theorem agR {ρ:Env} {m:Nat->Nat} {k:dO}:∀{l:List A} {os:List O},mz k l=some os->os.length=l.length/\l.map (A.den ρ m)=(os.map (O.den ρ)).map (.int k)
 |[],os,h=>by simp[mz]at h;subst h;exact⟨rfl,rfl⟩
 | .int bD x::r,os,h=>by
  simp only[mz]at h
  by_cases ab:k=bD
  ·simp only[ab,decide_true,cond_true]at h
   cases hr:mz bD r with
   |none=>simp[hr]at h
   |some o=>
    simp only[hr,bb]at h
    subst h
    subst ab
    obtain⟨h1,h2⟩:=agR (ρ:=ρ) (m:=m) hr
    exact⟨by simp[h1],by simp only[c5,h2,A.den,O.den]⟩
  ·simp[ab]at h
 | .bool _::_,_,h=>by simp[mz]at h
 | .ptr .. ::_,_,h=>by simp[mz]at h
 | .rk .. ::_,_,h=>by simp[mz]at h
 | .gptr .. ::_,_,h=>by simp[mz]at h
 | .slc .. ::_,_,h=>by simp[mz]at h
 | .con _::_,_,h=>by simp[mz]at h
 | .str _::_,_,h=>by simp[mz]at h
theorem aN.atM {ρ:Env} {m:Nat->Nat} {c:aN} {a:A} {o:O} (h:c.out a=some o):a.den ρ m=c.val (o.den ρ):=by
 unfold aN.out at h
 split at h
 ·rename_i k lo hi bD x
  by_cases ab:k=bD
  ·subst ab
   simp only[decide_true,cond_true,bb]at h
   subst h;rfl
  ·simp[ab]at h
 ·simp only[bb]at h;subst h;rfl
 ·rename_i e
  simp only[bb]at h;subst h
  have hb:∀b:Bool,aBa b=aBa (decide ((cond b 1 0:Int)=1)):=by intro b;cases b<;>rfl
  exact hb (e.den ρ)
 ·cases h
theorem agU {ρ:Env} {m:Nat->Nat}:∀{d:List aN} {l:List A} {os:List O},uD d l=some os->os.length=d.length/\l.map (A.den ρ m)=uW aN.val d (os.map (O.den ρ))
 |[],[],os,h=>by simp[uD]at h;subst h;exact⟨rfl,rfl⟩
 |c::d,a::r,os,h=>by
  simp only[uD]at h
  cases h1:c.out a with
  |none=>simp[h1]at h
  |some o=>
   cases hr:uD d r with
   |none=>simp[h1,hr]at h
   |some l=>
    simp only[h1,hr,bb]at h
    subst h
    obtain⟨cz,cw⟩:=agU (ρ:=ρ) (m:=m) hr
    exact⟨by simp[cz],by simp only[c5,cw,aN.atM h1,RL]⟩
 |[],_::_,_,h=>by simp[uD]at h
 |_::_,[],_,h=>by simp[uD]at h
theorem XD {ρ:Env} {m:Nat->Nat} {d:D} {u:W} {os:List O} (h:Cd d u=some os):os.length=d.num/\∀zs,d.val (os.map (O.den ρ)++zs)=u.den ρ m:=by
 unfold Cd at h
 split at h
 ·rename_i k _ _ bD x
  by_cases ab:k=bD
  ·subst ab
   simp only[decide_true,cond_true,bb]at h
   subst h
   exact⟨rfl,λzs=>by simp[D.val,W.den,A.den,O.den]⟩
  ·simp[ab]at h
 ·rename_i x
  simp only[bb]at h
  subst h
  exact⟨rfl,λzs=>by cases hx:x.den ρ<;>simp[D.val,W.den,A.den,O.den,hx]⟩
 ·rename_i k n' _ _ l
  cases hc:aM l.length n' with
  |false=>simp[hc]at h
  |true=>
   simp only[hc,cond_true]at h
   have hl:=bR hc
   subst hl
   obtain⟨h1,h2⟩:=agR (ρ:=ρ) (m:=m) h
   exact⟨h1,λzs=>by simp only[D.val,W.den,h2];rw[List.take_append_of_le_length (by simp[h1]),uU (by simp[h1])]⟩
 ·simp only[bb]at h;subst h
  exact⟨rfl,λzs=>rfl⟩
 ·rename_i d l
  obtain⟨h1,h2⟩:=agU (ρ:=ρ) (m:=m) h
  refine⟨h1,λzs=>?_⟩
  simp only[D.val,W.den,h2]
  congr 2
  have key:∀(a:List aN) (b c:List Int),b.length=a.length->uW aN.val a (b++c)=uW aN.val a b:=by
   intro a
   induction a with
   |nil=>intro b c _;simp
   |cons p a ih=>
    intro b c hb
    cases b with
    |nil=>simp at hb
    |cons z b=>simp[ih b c (by simpa using hb)]
  exact key _ _ _ (by simp[h1])
 ·cases h
theorem agS {ρ:Env} {m:Nat->Nat}:∀{ds:List D} {l:List W} {os:List O},Ed ds l=some os->p5 ds (os.map (O.den ρ))=l.map (W.den ρ m)
 |[],[],os,h=>by simp[Ed]at h;subst h;rfl
 |d::ds,u::l,os,h=>by
  simp only[Ed]at h
  cases h1:Cd d u with
  |none=>simp[h1]at h
  |some a=>
   cases h2:Ed ds l with
   |none=>simp[h1,h2]at h
   |some b=>
    simp only[h1,h2,bb]at h
    subst h
    obtain⟨cz,cw⟩:=XD (ρ:=ρ) (m:=m) h1
    rw[jf]
    simp only[p5,cw,c5]
    rw[show d.num=(a.map (O.den ρ)).length by simp[cz],EN,agS h2]
 |[],_::_,_,h=>by simp[Ed]at h
 |_::_,[],_,h=>by simp[Ed]at h
theorem azm (ds:List D):∀zs,(p5 ds zs).length=ds.length:=by
 induction ds with
 |nil=>intro zs;rfl
 |cons d r ih=>intro zs;simp[p5,ih]
theorem CT {ds:List D} {K:List Int->Prop} {v:V} {ρ:Env} {m:Nat->Nat} {val:aV} (h:j5 ds K v ρ) (hr:v.rel ρ m val):∃rs,K rs/\val=pw ds rs:=by
 unfold j5 at h
 cases ax:outs ds v with
 |none=>simp[ax]at h
 |some os=>
  simp only[ax]at h
  refine⟨_,h,?_⟩
  unfold outs at ax
  cases v with
  |any=>cases ax
  |sN _ _ _=>cases ax
  |s6 _ _=>cases ax
  |w u=>
   simp only at ax
   split at ax
   ·rename_i d
    obtain⟨cz,cw⟩:=XD (ρ:=ρ) (m:=m) ax
    simp only[V.rel]at hr
    have:=cw []
    rw[gZ]at this
    simp[pw,p5,this,hr]
   ·cases ax
  |iU l=>
   simp only at ax
   split at ax
   ·cases ax
   ·rename_i c7
    have:=agS (ρ:=ρ) (m:=m) ax
    simp only[V.rel]at hr
    unfold pw
    split
    ·rename_i x heq
     exfalso
     have hl:=azm ds (os.map (O.den ρ))
     rw[heq]at hl
     match ds,hl with
     |[d],_=>exact c7 d rfl
    ·rw[hr,this]
noncomputable def Ue (cons:List bZ) (AI zW AY:dt):fy:=λf=>
 cond (aM f AI) (some Xe) <| cond (aM f zW) (some TC) <| cond (aM f AY) (some YQ) <|
 match cons.find? (λc=>aM f c.f)with
 |some c=>some c.M
 |none=>none
section
variable {S:Nat->List Int->List Int->Prop} {P:bV} {gl:fa} {wb:aC}
theorem alm {w0:eG} {cons:List bZ} {AI zW AY:dt} (hm:Hm P AI) (ha:Hh P zW) (hs:Hn P AY) (hc:∀c∈cons,c.zL P w0.b (S c.id)):h8 S P gl w0 (Ue cons AI zW AY):=by
 intro f g ka L n ρ m bl vs xs h1 h2 h3 h4
 unfold Ue at ka
 cases aw:aM f AI with
 |true=>
  have:=bR aw;subst this
  simp only[aw,cond_true,bb]at ka
  subst ka
  exact asd hm h3 h4
 |false=>
  cases aD:aM f zW with
  |true=>
   have:=bR aD;subst this
   simp only[aw,aD,cond_true,cond_false,bb]at ka
   subst ka
   exact ako ha h3 h4
  |false=>
   cases cj:aM f AY with
   |true=>
    have:=bR cj;subst this
    simp only[aw,aD,cj,cond_true,cond_false,bb]at ka
    subst ka
    exact axx hs h3 h4
   |false=>
    simp only[aw,aD,cj,cond_false]at ka
    cases hV:cons.find? (λc=>aM f c.f)with
    |none=>simp[hV]at ka
    |some c=>
     simp only[hV,bb]at ka
     subst ka
     have h5:=List.find?_some hV
     have:=bR h5
     subst this
     exact bZ.snd (hc c (Ha hV)) (λ_ _ h=>h) L n ρ m bl vs xs h3 h4
noncomputable def OP (cons:List bZ):fy:=λf=>
 match cons.filter (λc=>aM f c.f)with
 |[]=>none
 |l=>some λbl vs n k=>match l.find? (λc=>(tE c.args vs).isSome)with
  |some c=>c.M bl vs n k
  |none=>match l with
   |c::_=>c.M bl vs n k
   |[]=> .stuck
theorem acL {w0:eG} {cons:List bZ} (hc:∀c∈cons,c.zL P w0.b (S c.id)):h8 S P gl w0 (OP cons):=by
 intro f g ka L n ρ m bl vs xs h1 h2 h3 h4
 unfold OP at ka
 split at ka
 ·cases ka
 ·rename_i l hl
  simp only[bb]at ka
  subst ka
  intro G k ab
  simp only at ab
  split at ab
  ·rename_i c Lf
   have eM:=List.mem_filter.1 (Ha Lf)
   have FY:=bR eM.2
   subst FY
   exact bZ.snd (hc c eM.1) (λ_ _ h=>h) L n ρ m bl vs xs h3 h4 G k ab
  ·split at ab
   ·rename_i c r F2
    have eM:=List.mem_filter.1 (show c∈cons.filter (λc=>aM f c.f) from by rw[F2];exact RM (a:=c) (l:=r))
    have FY:=bR eM.2
    subst FY
    exact bZ.snd (hc c eM.1) (λ_ _ h=>h) L n ρ m bl vs xs h3 h4 G k ab
   ·exact ab.elim
theorem Calls.some {f:dt} {args:Array aV} {w:aC} {R:Ending->aC->Prop} (h:oD P f args w R):∃e w',R e w':=by
 obtain⟨e,w',DJ,h1,_⟩:=h []
 exact⟨e,w',h1⟩
noncomputable def bZ.tree (P:bV) (gl:fa) (cal:fy) (li:dt->Nat->Option gB) (rounds d:Nat) (c:bZ):T:=
 Kp P gl cal li rounds d c.f (bk c.args).length ((uM 0 c.args).map V.w) [] λ_ v _=> .leaf v
theorem S5 {ρ:Env} {m:Nat->Nat}:∀(l:List W),fb ρ m (l.map V.w) (l.map (W.den ρ m))
 |[]=>trivial
 |_::r=>⟨rfl,S5 r⟩
theorem bZ.calls {c:bZ} {cal:fy} {li:dt->Nat->Option gB} {rounds d:Nat} {L:V->Env->Prop} (hm:P.follows .mixedOrders=true) (c6:∀r ex ro,h8 S P gl ⟨wb,r,ex,ro,[]⟩ cal) (hg:fA gl ⟨wb,wb,λ_=>False,λ_=>False,[]⟩) {zs:List Int} (hz:af (bk c.args) zs)
 (aA:(c.tree P gl cal li rounds d).holds S L (λ_ _=>False) (bL (λ_=>0) 0 zs)) (w:aC) (hw:wb.Extends w):
 oD P c.f (p5 c.args zs).toArray w λe w'=>∃v aa m val,e= .returned val/\v.rel aa m val/\L v aa/\w.Extends w':=by
 have hs:=Rk (m:=λ_=>0) (nb:=0) (N:=(bk c.args).length) c.args hz (jT.bL (λ_=>0) 0 zs) (by omega)
 have:=alo (L:=L) (b:=wb) (w:=w) hm (c6 w _ _) hg c.f _ _ _ ((uM 0 c.args).map (W.den (bL (λ_=>0) 0 zs) λ_=>0)) hw (λv hv=>by
  obtain⟨u,hu,rfl⟩:=List.mem_map.1 hv
  exact hs.1 u hu) (S5 _) aA
 rw[hs.2]at this
 refine this.mono λe w' ⟨v,aa,m,val,nb,h1,h2,_,h3,h4⟩=>⟨v,aa,m,val,h1,h2,h3,h4⟩
theorem bZ.asC {c:bZ} {cal:fy} {li:dt->Nat->Option gB} {rounds d:Nat} {spec:List Int->List Int->Prop} (hm:P.follows .mixedOrders=true) (c6:∀r ex ro,h8 S P gl ⟨wb,r,ex,ro,[]⟩ cal) (hg:fA gl ⟨wb,wb,λ_=>False,λ_=>False,[]⟩)
 (hf:∀args w,(callFunc c.f args).run P w= .ok (.enter c.f args) w) (hK:∀id a rs cV,S id a rs->S id a cV->rs=cV) (hp:(c.tree P gl cal li rounds d).plain=true)
 (aA:∀zs,af (bk c.args) zs->(c.tree P gl cal li rounds d).holds S (j5 c.res λrs=>af (bk c.res) rs/\spec zs rs) (λ_ _=>False) (bL (λ_=>0) 0 zs)):c.b1 P wb spec:=by
 refine⟨hf,λzs hz=>?_⟩
 have tP:=xo _ _ _ hp (aA zs hz)
 have h0:=bZ.calls hm c6 hg hz tP wb (sT wb)
 obtain⟨e,w',v0,cu,m0,aGQ,h1,h2,⟨h3,DN⟩,h4⟩:=Calls.some h0
 obtain⟨rs,⟨hb,hs⟩,hv⟩:=CT h3 h2
 refine⟨rs,hb,hs,λw hw=>?_⟩
 refine(bZ.calls hm c6 hg hz tP w hw).mono λe w' ⟨v,aa,m,val,g1,g2,⟨g3,anw⟩,g4⟩=>?_
 obtain⟨aw,aD⟩:=xC hK _ _ anw DN
 subst aw;subst aD
 unfold j5 at g3 h3
 have:val=pw c.res rs:=by
  cases ax:outs c.res v with
  |none=>simp[ax]at h3
  |some os=>
   have key:∀{m val},v.rel aa m val->val=pw c.res (os.map (O.den aa)):=λ{m val} hr=>by
    have an0:j5 c.res (λrs=>rs=os.map (O.den aa)) v aa:=by unfold j5;simp[ax]
    obtain⟨cV,apL,hv⟩:=CT an0 hr
    rw[hv,apL]
   rw[key g2,<-key h2,hv]
 exact⟨by rw[g1,this],g4⟩
theorem bZ.b1.fn {c:bZ} {spec:List Int->List Int->Prop} (h:c.b1 P wb spec):∃F:List Int->List Int,c.b1 P wb λzs rs=>rs=F zs/\spec zs rs:=by
 have h2:∀zs,∃rs,af (bk c.args) zs->af (bk c.res) rs/\spec zs rs/\∀w,wb.Extends w->oD P c.f (p5 c.args zs).toArray w λe w'=>e= .returned (pw c.res rs)/\w.Extends w':=λzs=>by
  by_cases hz:af (bk c.args) zs
  ·obtain⟨rs,h3⟩:=h.2 zs hz
   exact⟨rs,λ_=>h3⟩
  ·exact⟨[],λaql=>absurd aql hz⟩
 obtain⟨F,hF⟩:=aIg h2
 exact⟨F,h.1,λzs hz=>⟨F zs,(hF zs hz).1,⟨rfl,(hF zs hz).2.1⟩,(hF zs hz).2.2⟩⟩
end
end Go.ch
namespace Go.ch
open M
structure kE where
 f:dt
 id:Nat
 k:dO
 N:Nat
 lo:Int
 hi:Int
 ty:bp
 off:Nat
 len:Nat
 cap:Nat
 args:List D
 res:List D
noncomputable def kE.bds (c:kE):List (Int×Int):=au c.lo c.hi c.N++bk c.args
def kE.b1 (P:bV) (wb:aC) (c:kE) (spec:List Int->List Int->Prop):Prop:=
 (∀args w,(callFunc c.f args).run P w= .ok (.enter c.f args) w)/\
 ∀zs,af c.bds zs->∃rs,af (bk c.res) rs/\spec zs rs/\∀(w:aC) (g:Nat),wb.Extends w->wb.heap.size<=g->w.heap[g]?=some (.cells ((zs.take c.N).map (.int c.k)).toArray c.ty (0,0))->
  oD P c.f (.slice (some ⟨g,c.off,none⟩) c.len c.cap::p5 c.args (zs.drop c.N)).toArray w λe w'=>e= .returned (pw c.res rs)/\w.Extends w'
noncomputable def kE.M (c:kE):List aE->List V->M V:=λbl vs n k=>
 match vs with
 | .w (.one (.slc b off len cap))::rest=>match bl[b]? with
  |some (cs,t)=>cond (aM off c.off&&aM len c.len&&aM cap c.cap&&aM t.1 c.ty&& !t.2&&aM cs.length c.N&&cc cs) (match pa c.k c.lo c.hi cs,tE c.args rest with
   |some l1,some l2=> .call c.id (l1++l2) n (bk c.res) (k (GS c.res n) (n+(bk c.res).length))
   |_,_=> .stuck) .stuck
  |none=> .stuck
 |_=> .stuck
section
variable {S:Nat->List Int->List Int->Prop} {P:bV} {gl:fa} {w0:eG}
theorem kE.snd {c:kE} {spec:List Int->List Int->Prop} (hc:c.b1 P w0.b spec) (hK:∀zs rs,spec zs rs->S c.id zs rs) (L:V->Env->Prop) (n:Nat) (ρ:Env) (m:Nat->Nat) (bl:List aE) (vs:List V) (xs:List aV)
 (hb:cY n bl.length ρ bl) (kL:∀v∈vs,V.ok n bl.length ρ v) (hr:fb ρ m vs xs):az S L (c.M bl vs) n ρ λaa n' v=>v.ok n' bl.length aa/\∃val,v.rel aa m val/\∀w,Mem w0 ρ m bl w->wN P c.f xs.toArray w val:=by
 intro G k ab
 unfold kE.M at ab
 split at ab
 ·rename_i b off len cap rest
  cases aX:bl[b]? with
  |none=>simp[aX,T.holds]at ab
  |some q=>
   obtain⟨cs,t⟩:=q
   simp only[aX]at ab
   cases ah:(aM off c.off&&aM len c.len&&aM cap c.cap&&aM t.1 c.ty&& !t.2&&aM cs.length c.N&&cc cs)with
   |false=>rw[ah]at ab;exact ab.elim
   |true=>
    simp only[ah,cond_true]at ab
    simp only[bw]at ah
    obtain⟨⟨⟨⟨⟨⟨bm,cb⟩,cJ⟩,et⟩,oS⟩,kg⟩,qz⟩:=ah
    have bm:=bR bm;have cb:=bR cb;have cJ:=bR cJ;have et:=bR et;have kg:=bR kg
    cases h1:pa c.k c.lo c.hi cs with
    |none=>simp[h1,T.holds]at ab
    |some l1=>
     cases h2:tE c.args rest with
     |none=>simp[h1,h2,T.holds]at ab
     |some l2=>
      simp only[h1,h2]at ab
      have db:∀a∈cs,A.ok n bl.length ρ a:=hb (cs,t) (e8 aX)
      obtain⟨b2,a2,a3⟩:=Pm (m:=m) h1 db
      cases xs with
      |nil=>exact hr.elim
      |cons x xs=>
       obtain⟨hx,hr⟩:=hr
       obtain⟨b8,b9⟩:=Pp h2 (λv hv=>kL v (eB _ hv)) hr
       have eM:af c.bds ((l1++l2).map (·.den ρ)):=by
        rw[jf];unfold kE.bds;rw[<-kg];exact qt a2 b8
       obtain⟨rs,r1,r2,gI⟩:=hc.2 _ eM
       have ae:=OR ab r1 (hK _ _ r2)
       have pR:=Q1 (m:=m) (nb:=bl.length) (N:=n+(bk c.res).length) r1 (jT.bL ρ n rs) (bO _)
       refine⟨_,_,_,JM _ _,agree.bL rs n ρ,⟨pR.1,_,pR.2,λw hw=> .inr ⟨hc.1 _ _,?_⟩⟩,ae⟩
       obtain⟨g1,g2,r0,jc,g3⟩:=hw.fT b cs t aX qz
       have hlen:((l1.map (·.den ρ)).length)=c.N:=by simp[b2,kg]
       have aw:((l1++l2).map (·.den ρ)).take c.N=l1.map (·.den ρ):=by rw[jf,<-hlen,List.take_left]
       have aD:((l1++l2).map (·.den ρ)).drop c.N=l2.map (·.den ρ):=by rw[jf,<-hlen,EN]
       have:=gI w (m b) hw.ext g1 (by rw[aw,<-a3,<-et];rw[jc (by simpa using oS),gZ]at g3;exact g3)
       rw[aD,b9,<-bm,<-cb,<-cJ]at this
       simp only[V.rel,W.den,A.den]at hx
       rw[hx]
       exact this
 ·exact ab.elim
theorem ahd (k:dO) (lo hi:Int) (i N:Nat):cc (vZ k lo hi i N)=true:=by cases N<;>rfl
noncomputable def kE.tree (P:bV) (gl:fa) (cal:fy) (li:dt->Nat->Option gB) (rounds d:Nat) (c:kE):T:=
 Kp P gl cal li rounds d c.f (c.bds.length) (.w (.one (.slc 0 c.off c.len c.cap))::(uM c.N c.args).map V.w) [(vZ c.k c.lo c.hi 0 c.N,(c.ty,false))] λ_ v bq=>match bq with
  |(cs,t)::_=>cond (rG (vZ c.k c.lo c.hi 0 c.N) cs&&aM c.ty t.1&& !t.2) (.leaf v) .stuck
  |[]=> .stuck
theorem kE.calls {wb:aC} {c:kE} {cal:fy} {li:dt->Nat->Option gB} {rounds d:Nat} {L:V->Env->Prop} (hm:P.follows .mixedOrders=true) (c6:∀r ex ro,h8 S P gl ⟨wb,r,ex,ro,[]⟩ cal) (hg:fA gl ⟨wb,wb,λ_=>False,λ_=>False,[]⟩) {zs:List Int} (hz:af c.bds zs)
 (aA:(c.tree P gl cal li rounds d).holds S L (λ_ _=>False) (bL (λ_=>0) 0 zs)) (w:aC) (g:Nat) (hw:wb.Extends w) (VN:wb.heap.size<=g) (hcell:w.heap[g]?=some (.cells ((zs.take c.N).map (.int c.k)).toArray c.ty (0,0))):
 oD P c.f (.slice (some ⟨g,c.off,none⟩) c.len c.cap::p5 c.args (zs.drop c.N)).toArray w λe w'=>∃v aa m val,e= .returned val/\v.rel aa m val/\L v aa/\w.Extends w':=by
 have hat:=jT.bL (λ_=>0) 0 zs
 have vv:=Ax hz
 rw[GP]at vv
 have cT:c.bds.length=c.N+(bk c.args).length:=by simp[kE.bds,GP]
 have h1:=X9 (ρ:=bL (λ_=>0) 0 zs) (m:=λ_=>g) (N:=c.bds.length) (nb:=1) (k:=c.k) c.N 0 zs vv.1 hat (by omega)
 have h2:=Rk (ρ:=bL (λ_=>0) 0 zs) (m:=λ_=>g) (N:=c.bds.length) (nb:=1) (s:=c.N) c.args vv.2 (by have:=hat.drop c.N;simpa using this) (by omega)
 have nS:Mem ⟨wb,w,λi=>i=g,λ_=>False,[]⟩ (bL (λ_=>0) 0 zs) (λ_=>g) [(vZ c.k c.lo c.hi 0 c.N,(c.ty,false))] w:=by
  refine⟨hw,rfl,rfl,rfl,bO _,λ_ _ _=>rfl,λi cs t h _=>?_,λi sh off code cap kind t h=>?_,λi j p q hi aK _=> .inl (by have h1:=(List.getElem?_eq_some_iff.1 hi).1;have h2:=(List.getElem?_eq_some_iff.1 aK).1;simp at h1 h2;omega)⟩
  rotate_left
  ·cases i with
   |zero=>
    simp only[wJ,bb,eW]at h
    have:=ahd c.k c.lo c.hi 0 c.N
    rw[h.1]at this;cases this
   |succ i=>simp at h
  cases i with
  |zero=>simp at h;obtain⟨rfl,rfl⟩:=h;exact⟨VN,.inl rfl,[],λ_=>rfl,by rw[h1.2,gZ];exact hcell⟩
  |succ i=>simp at h
 have rO:cY c.bds.length 1 (bL (λ_=>0) 0 zs) [(vZ c.k c.lo c.hi 0 c.N,(c.ty,false))]:=λp hp=>by simp at hp;subst hp;exact h1.1
 have hrel:fb (bL (λ_=>0) 0 zs) (λ_=>g) (V.w (.one (.slc 0 c.off c.len c.cap))::(uM c.N c.args).map V.w) (Nl (some ⟨g,c.off,none⟩) c.len c.cap::(uM c.N c.args).map (W.den (bL (λ_=>0) 0 zs) λ_=>g)):=⟨rfl,S5 _⟩
 have kL:∀v∈(V.w (.one (.slc 0 c.off c.len c.cap))::(uM c.N c.args).map V.w),V.ok c.bds.length 1 (bL (λ_=>0) 0 zs) v:=λv hv=>by
  rcases List.mem_cons.1 hv with rfl|hv
  ·simp[V.ok,W.ok,A.ok]
  ·obtain⟨u,hu,rfl⟩:=List.mem_map.1 hv
   exact h2.1 u hu
 have key:=(Uf rfl (L:=L) (li:=li) (rounds:=rounds) hm (c6 w (λi=>i=g) (λ_=>False)) hg d c.f c.bds.length _ [(vZ c.k c.lo c.hi 0 c.N,(c.ty,false))] _ (λ_ _=>False) _ (λ_=>g) w _ (λe w'=>∃v aa m val,e= .returned val/\V.rel aa m v val/\L v aa/\w.Extends w') rO nS kL hrel aA ?_).2
 ·rw[h2.2]at key;exact key
 ·intro n' v bq eP aa m' w' val cz cw dc fC fN gH pW
  match bq,pW,gH,cz with
  |[],pW,_,_=>exact pW.elim
  |(cs,t)::r,pW,gH,cz=>
   simp only at pW
   cases hc:(rG (vZ c.k c.lo c.hi 0 c.N) cs&&aM c.ty t.1&& !t.2)with
   |false=>simp[hc,T.holds]at pW
   |true=>
    simp only[hc,cond_true,T.holds]at pW
    simp only[bw]at hc
    have aw:=Fi hc.1.1
    have aD:t=(c.ty,false):=Prod.ext (bR hc.1.2).symm (by simpa using hc.2)
    subst aw;subst aD
    refine⟨v,aa,m',val,rfl,fC,pW,?_⟩
    have aph:m' 0=g:=cz.hm 0 (by simp)
    have tG:∀i:Nat,i<w.heap.size->w'.heap[i]?=w.heap[i]?:=λi hi=>by
     by_cases Iv:i=g
     ·subst Iv
      obtain⟨_,_,gI,apF,h3⟩:=gH.fT 0 _ _ rfl (ahd _ _ _ _ _)
      rw[aph,apF rfl,gZ]at h3
      rw[h3,hcell,<-h1.2,xz h1.1 cz.ha (λb hb=>cz.hm b (by simpa using hb))]
     ·exact gH.jB i hi Iv
    exact⟨gH.jN,gH.m6,gH.kV,gH.gF,λa ha=>by simp only[o3,tG a.block ha],λa ha=>by simp only[CK,tG a.block ha],tG⟩
noncomputable def cg (Rb:List kE) (cons:List bZ) (AI zW AY:dt):fy:=λf=>
 match Rb.filter (λc=>aM f c.f)with
 |[]=>Ue cons AI zW AY f
 |l=>some λbl vs n k=>match l.find? (λc=>match vs with| .w (.one (.slc b off len cap))::_=>(match bl[b]? with|some (cs,t)=>aM off c.off&&aM len c.len&&aM cap c.cap&&aM t.1 c.ty&& !t.2&&aM cs.length c.N|none=>false)|_=>false)with
  |some c=>c.M bl vs n k
  |none=> .stuck
theorem gC {Rb:List kE} {cons:List bZ} {AI zW AY:dt} (hm:Hm P AI) (ha:Hh P zW) (hs:Hn P AY) (Wj:∀c∈Rb,c.b1 P w0.b (S c.id)) (hc:∀c∈cons,c.zL P w0.b (S c.id)):h8 S P gl w0 (cg Rb cons AI zW AY):=by
 intro f g ka L n ρ m bl vs xs h1 h2 h3 h4
 unfold cg at ka
 split at ka
 ·exact alm (gl:=gl) hm ha hs hc f g ka L n ρ m bl vs xs h1 h2 h3 h4
 ·rename_i l hl
  simp only[bb]at ka
  subst ka
  intro G k ab
  simp only at ab
  split at ab
  ·rename_i c Lf
   have nS:=Ha Lf
   have eM:=List.mem_filter.1 nS
   have FY:=bR eM.2
   subst FY
   exact kE.snd (Wj c eM.1) (λ_ _ h=>h) L n ρ m bl vs xs h1 h3 h4 G k ab
  ·exact ab.elim
end
end Go.ch
namespace Go.ch
theorem aaW {P:bV} {f:dt} {fn:Func} (hf:P.funcs[f]?=some fn) (V6:(fn.name== "runtime.NumGoroutine")=false) (hb:fn.body.isNone=true) (hn:Zp fn=none) (he:Zq fn=some add64Entry):Hh P f:=by
 intro x y c hx hy hc hL w
 refine .inl ?_
 rw[run_callFunc_extern hf V6 hb hn he,run_add64 x y c hx hy hc hL]
 rfl
def ah8:Array aV->Sem aV:=λargs=>do
 let(x,y,b)<-aIh "Sub64" args
 pure (aIi ((x+aBc-y-b)% aBc) (if x<y+b then 1 else 0))
theorem awm {P:bV} (x y b:Nat) (hb:b<=1) (w:aC):
 (ah8 #[.int .u64 x,.int .u64 y,.int .u64 b]).run P w=
   .ok (.tuple #[.int .u64 (((x+18446744073709551616-y-b)% 18446744073709551616:Nat):Int),.int .u64 ((if x<y+b then 1 else 0:Nat):Int)]) w:=by
 have:b=0∨b=1:=by omega
 rcases this with rfl|rfl<;>rfl
theorem ah9 {P:bV} {f:dt} {fn:Func} (hf:P.funcs[f]?=some fn) (V6:(fn.name== "runtime.NumGoroutine")=false) (hb:fn.body.isNone=true) (hn:Zp fn=none) (he:Zq fn=some ah8):Hn P f:=by
 intro x y c hx tf hy Wz hc hL w
 refine .inl ?_
 obtain⟨X,rfl⟩:=sn hx
 obtain⟨Y,rfl⟩:=sn hy
 obtain⟨C,rfl⟩:=sn hc
 rw[run_callFunc_extern hf V6 hb hn he,awm X Y C (by omega)]
 have aw:(((X+18446744073709551616-Y-C)% 18446744073709551616:Nat):Int)=((X:Int)-Y-C)% 18446744073709551616:=by omega
 have aD:(((if X<Y+C then 1 else 0:Nat)):Int)=-(((X:Int)-Y-C)/18446744073709551616):=by split<;>omega
 rw[aw,aD]
 rfl
def DL (P:bV) (f:dt):Bool:=match P.funcs[f]? with
 |some fn=> !(fn.name== "runtime.NumGoroutine")&&fn.body.isSome
 |none=>false
theorem enters {P:bV} {f:dt} (h:DL P f=true) (args:Array aV) (w:aC):(callFunc f args).run P w= .ok (.enter f args) w:=by
 unfold DL at h
 cases hf:P.funcs[f]? with
 |none=>simp[hf]at h
 |some fn=>
  simp only[hf,bw,gn]at h
  have h1:fn.name≠ "runtime.NumGoroutine" :=by simpa using h.1
  obtain⟨c,hc⟩:=Option.isSome_iff_exists.1 h.2
  simp[callFunc,hf,h1,hc,Sem.run]
section
variable {S:Nat->List Int->List Int->Prop} {P:bV} {gl:fa} {wb:aC}
theorem bZ.ri {c:bZ} {cal:fy} {li:dt->Nat->Option gB} {rounds d:Nat} {spec:List Int->List Int->Prop} (hm:P.follows .mixedOrders=true) (c6:∀r ex ro,h8 S P gl ⟨wb,r,ex,ro,[]⟩ cal) (hg:fA gl ⟨wb,wb,λ_=>False,λ_=>False,[]⟩)
 (hf:∀args w,(callFunc c.f args).run P w= .ok (.enter c.f args) w) (hu:∀zs rs cV,af (bk c.args) zs->af (bk c.res) rs->af (bk c.res) cV->spec zs rs->spec zs cV->rs=cV)
 (aA:j6 (bk c.args) λzs=>(c.tree P gl cal li rounds d).holds S (j5 c.res λrs=>af (bk c.res) rs/\spec zs rs) (λ_ _=>False) (bL (λ_=>0) 0 zs)):c.b1 P wb spec:=by
 refine⟨hf,λzs hz=>?_⟩
 have h0:=bZ.calls hm c6 hg hz (oG aA hz) wb (sT wb)
 obtain⟨e,w',v,aa,m,val,h1,h2,h3,h4⟩:=Calls.some h0
 obtain⟨rs,⟨hb,hs⟩,hv⟩:=CT h3 h2
 refine⟨rs,hb,hs,λw hw=>?_⟩
 refine(bZ.calls hm c6 hg hz (oG aA hz) w hw).mono λe w' ⟨v,aa,m,val,h1,h2,h3,h4⟩=>?_
 obtain⟨cV,⟨pc,LH⟩,Au⟩:=CT h3 h2
 rw[hu zs cV rs hz pc hb LH hs]at Au
 exact⟨by rw[h1,Au],h4⟩
theorem kE.ri {c:kE} {cal:fy} {li:dt->Nat->Option gB} {rounds d:Nat} {spec:List Int->List Int->Prop} (hm:P.follows .mixedOrders=true) (c6:∀r ex ro,h8 S P gl ⟨wb,r,ex,ro,[]⟩ cal) (hg:fA gl ⟨wb,wb,λ_=>False,λ_=>False,[]⟩)
 (hf:∀args w,(callFunc c.f args).run P w= .ok (.enter c.f args) w) (hu:∀zs rs cV,af c.bds zs->af (bk c.res) rs->af (bk c.res) cV->spec zs rs->spec zs cV->rs=cV) (hex:∀zs,af c.bds zs->∃rs,af (bk c.res) rs/\spec zs rs)
 (aA:j6 c.bds λzs=>(c.tree P gl cal li rounds d).holds S (j5 c.res λrs=>af (bk c.res) rs/\spec zs rs) (λ_ _=>False) (bL (λ_=>0) 0 zs)):c.b1 P wb spec:=by
 refine⟨hf,λzs hz=>?_⟩
 obtain⟨rs,hb,hs⟩:=hex zs hz
 refine⟨rs,hb,hs,λw g hw VN hcell=>?_⟩
 refine(kE.calls hm c6 hg hz (oG aA hz) w g hw VN hcell).mono λe w' ⟨v,aa,m,val,h1,h2,h3,h4⟩=>?_
 obtain⟨cV,⟨pc,LH⟩,Au⟩:=CT h3 h2
 rw[hu zs cV rs hz pc hb LH hs]at Au
 exact⟨by rw[h1,Au],h4⟩
end
def num (b:Int):List Int->Int
 |[]=>0
 |x::r=>x+b*num b r
theorem num_nonneg {b lo hi:Int} (hb:0<b) (hl:0<=lo):∀{n:Nat} {l:List Int},af (au lo hi n) l->0<=num b l
 |0,[],_=>cW _
 |_+1,x::r,h=>by
  have:=num_nonneg hb hl h.2.2
  have h2:0<=b*num b r:=Int.mul_nonneg (so hb) this
  have:=h.1
  simp only[num];omega
 |0,_::_,h=>h.elim
 |_+1,[],h=>h.elim
theorem Qz {b:Int} (hb:0<b):∀{n:Nat} {l:List Int},af (au 0 (b-1) n) l->num b l<b^n
 |0,[],_=>by simp[num]
 |n+1,x::r,h=>by
  have:=Qz hb h.2.2
  have h2:b*(num b r+1)<=b*b^n:=Int.mul_le_mul_of_nonneg_left (by omega) (so hb)
  have:=h.2.1
  simp only[num]
  rw[Int.pow_succ,kR _ b]
  have:b*(num b r+1)=b*num b r+b:=by rw[JK,Int.mul_one]
  omega
 |0,_::_,h=>h.elim
 |_+1,[],h=>h.elim
theorem Qy {b:Int} (hb:0<b):∀{n:Nat} {l l':List Int},af (au 0 (b-1) n) l->af (au 0 (b-1) n) l'->num b l=num b l'->l=l'
 |0,[],[],_,_,_=>rfl
 |n+1,x::r,gg::r',h,bd,he=>by
  simp only[num]at he
  have aw:(x+b*num b r)% b=(gg+b*num b r')% b:=by rw[he]
  rw[zx,zx,p9 h.1 (by have:=h.2.1;omega),p9 bd.1 (by have:=bd.2.1;omega)]at aw
  subst aw
  have aD:b*num b r=b*num b r':=by omega
  have cj:=Int.eq_of_mul_eq_mul_left (by omega) aD
  rw[Qy hb h.2.2 bd.2.2 cj]
 |0,_::_,_,h,_,_=>h.elim
 |_+1,[],_,h,_,_=>h.elim
 |0,[],_::_,_,bd,_=>bd.elim
 |_+1,_::_,[],_,bd,_=>bd.elim
def HQ (b:Int):Nat->Int->List Int
 |0,_=>[]
 |n+1,x=>x% b::HQ b n (x/b)
theorem ac3 {b:Int} (hb:0<b):∀(n:Nat) (x:Int),af (au 0 (b-1) n) (HQ b n x)
 |0,_=>trivial
 |n+1,x=>⟨ud _ (by omega),by have:=zw x hb;omega,ac3 hb n _⟩
theorem agB {b:Int} (hb:0<b):∀(n:Nat) (x:Int),0<=x->x<b^n->num b (HQ b n x)=x
 |0,x,h0,h=>by simp at h;simp[HQ,num];omega
 |n+1,x,h0,h=>by
  have h1:x/b<b^n:=Int.ediv_lt_of_lt_mul hb (by rw[Int.pow_succ]at h;exact h)
  have h2:0<=x/b:=Int.ediv_nonneg h0 (so hb)
  simp only[HQ,num,agB hb n _ h2 h1]
  have:=Zj x b
  omega
def Xj (K:List Int->List Int->Prop):Prop:=
 ∀z0:Int,0<=z0->z0<=18446744073709551615->
 ∀aB:Int,0<=aB->aB<=18446744073709551615->
 ∀z2:Int,0<=z2->z2<=4294967295->0<=((1*z0+0)+0)-4294967296*z2->((1*z0+0)+0)-4294967296*z2<4294967296->
 ∀z3:Int,0<=z3->z3<=4294967295->0<=((1*z0+0)+0)-4294967296*z3->((1*z0+0)+0)-4294967296*z3<4294967296->
 ∀z4:Int,0<=z4->z4<=4294967295->0<=((1*aB+0)+0)-4294967296*z4->((1*aB+0)+0)-4294967296*z4<4294967296->
 ∀z5:Int,0<=z5->z5<=4294967295->0<=((1*aB+0)+0)-4294967296*z5->((1*aB+0)+0)-4294967296*z5<4294967296->
 ∀a7:Int,0<=a7->a7<=18446744065119617025->a7=((1*z0+((-4294967296)*z2+0))+0)*((1*aB+((-4294967296)*z4+0))+0)->
 ∀aJ:Int,0<=aJ->aJ<=18446744065119617025->aJ=((1*z3+0)+0)*((1*aB+((-4294967296)*z4+0))+0)->
 ∀aI:Int,0<=aI->aI<=4294967294->0<=((1*a7+0)+0)-4294967296*aI->((1*a7+0)+0)-4294967296*aI<4294967296->
 ∀z9:Int,0<=z9->z9<=4294967294->0<=((1*aJ+(1*aI+0))+0)-4294967296*z9->((1*aJ+(1*aI+0))+0)-4294967296*z9<4294967296->
 ∀aP:Int,0<=aP->aP<=4294967294->0<=((1*aJ+(1*aI+0))+0)-4294967296*aP->((1*aJ+(1*aI+0))+0)-4294967296*aP<4294967296->
 ∀aG:Int,0<=aG->aG<=18446744065119617025->aG=((1*z0+((-4294967296)*z2+0))+0)*((1*z5+0)+0)->
 ∀z12:Int,0<=z12->z12<=18446744065119617025->z12=((1*z3+0)+0)*((1*z5+0)+0)->
 ∀ai:Int,0<=ai->ai<=4294967295->0<=((1*aJ+(1*aI+((-4294967296)*z9+(1*aG+0))))+0)-4294967296*ai->((1*aJ+(1*aI+((-4294967296)*z9+(1*aG+0))))+0)-4294967296*ai<4294967296->
 ∀aq:Int,0<=aq->aq<=340282366920938463426481119284349108225->aq=((1*z0+0)+0)*((1*aB+0)+0)->
 ∀aF:Int,0<=aF->aF<=18446744073709551614->0<=((1*aq+0)+0)-18446744073709551616*aF->((1*aq+0)+0)-18446744073709551616*aF<18446744073709551616->
 K [z0,aB] [((1*aP+(1*z12+(1*ai+0)))+0),((1*aq+((-18446744073709551616)*aF+0))+0)]
def wd:D:= .int .u64 0 18446744073709551615
def OO (f:dt):bZ:=⟨f,0,[wd,wd],[wd,wd]⟩
theorem ash (x y a b:Int):x*y=(x+(-4294967296)*a)*(y+(-4294967296)*b)+4294967296*(a*(y+(-4294967296)*b)+(x+(-4294967296)*a)*b)+18446744073709551616*(a*b):=by
 grind
theorem mulVC_holds:Xj λzs rs=>af (bk [wd,wd]) rs/\rs=[zs.getD 0 0*zs.getD 1 0/18446744073709551616,zs.getD 0 0*zs.getD 1 0% 18446744073709551616]:=by
 unfold Xj
 intro x h1 h2 y h3 h4 a h5 h6 h7 e6 du dZ nP qZ iQ b kJ j9 Vb s9 b' K0 Vc Vd FJ p Ie K1 FK q vo K2 Ig c FL adY aEZ aE0 d aE1 aE2 aE3 aE4 Fk rM aE5 aE6 aE7 r aE8 aFa anR s aFb aFc anS t aFd aFe aFf aFg m aFh aFi ad0 u aFj aFk aFl aFm
 have aw:du=a:=by omega
 have aD:b'=b:=by omega
 have cj:Fk=d:=by omega
 subst aw;subst aD;subst cj
 simp only[Int.one_mul,Int.add_zero]at*
 have:=ash x y du b'
 rw[<-ad0,<-FK,<-Ig,<-anR,<-anS]at this
 simp only[jH,kS,<-ad0,bk,wd,D.bds,mY,gp,af,and_true,qK]
 omega
theorem age {P:bV} {f:dt} (hm:P.follows .mixedOrders=true) (hf:∀args w,(callFunc f args).run P w= .ok (.enter f args) w)
 (h:∀K,(j6 (bk (OO f).args) λzs=>((OO f).tree P [] (λ_=>none) (λ_ _=>none) 600 6).holds (λ_ _ _=>True) (j5 (OO f).res (K zs)) (λ_ _=>False) (bL (λ_=>0) 0 zs))=Xj K):Hm P f:=by
 intro x y hx tf hy Wz w
 have hv:=mulVC_holds
 rw[<-h]at hv
 have eM:af (bk (OO f).args) [x,y]:=⟨hx,by omega,hy,by omega,trivial⟩
 refine .inr ⟨hf _ _,?_⟩
 have:=bZ.calls (wb:=w) hm (λr ex ro f g ka=>by cases ka) (λg cs hg=>by cases hg) eM (oG hv eM) w (sT w)
 refine this.mono λe w' ⟨v,aa,m,val,h1,h2,h3,h4⟩=>?_
 obtain⟨rs,⟨_,hr⟩,hv⟩:=CT h3 h2
 rw[h1,hv,hr]
 exact⟨rfl,h4⟩
end Go.ch
namespace Go.ch
abbrev jV:=List (Nat×Nat)
abbrev jU:=List (List Int)
def xy:jV->jU->Nat->Int
 |(s,k)::st,l::aZ,i=>cond (cK s i&&dP i (s+k)) (l.getD (i-s) 0) (xy st aZ i)
 |_,_,_=>0
def W1:jV->jU->Prop
 |(_,k)::st,l::aZ=>l.length=k/\W1 st aZ
 |[],[]=>True
 |_,_=>False
def sz (ρ:Env) (st:jV) (aZ:jU):Prop:=W1 st aZ/\∀i,ρ i=xy st aZ i
def HP (st:jV) (aZ:jU):List (Int×Nat)->Int
 |[]=>0
 |(k,i)::r=>match r with
  |[]=>cond (k==1) (xy st aZ i) (k*xy st aZ i)
  |_=>cond (k==1) (xy st aZ i) (k*xy st aZ i)+HP st aZ r
def I.fU (st:jV) (aZ:jU) (l:I):Int:=
 match l.ts with
 |[]=>l.c
 |ts=>cond (l.c==0) (HP st aZ ts) (HP st aZ ts+l.c)
theorem acV {ρ:Env} {st:jV} {aZ:jU} (h:∀i,ρ i=xy st aZ i):∀ts,HP st aZ ts=jW ρ ts
 |[]=>rfl
 |(k,i)::[]=>by
  simp only[HP,jW,<-h i]
  cases ab:(k==1)with
  |true=>have:k=1:=by simpa using ab
         subst this;simp
  |false=>simp
 |(k,i)::t::r=>by
  have ih:=acV h (t::r)
  rw[HP,jW,ih,<-h i]
  ·cases ab:(k==1)with
   |true=>have:k=1:=by simpa using ab
          subst this;simp
   |false=>simp
  ·intro hc;cases hc
theorem I.lO {ρ:Env} {st:jV} {aZ:jU} (h:∀i,ρ i=xy st aZ i) (l:I):l.fU st aZ=l.den ρ:=by
 unfold I.fU I.den
 cases hl:l.ts with
 |nil=>simp[jW]
 |cons t r=>
  simp only[acV h]
  cases hc:(l.c==0)with
  |true=>have:l.c=0:=by simpa using hc
         rw[this];simp
  |false=>simp
def FB:jV->jU->Nat->Nat->Option (List Int)
 |(s,k)::st,l::aZ,i,len=>cond (aM s i&&aM k len) (some l) (cond (cK (i+len) s||cK (s+k) i) (FB st aZ i len) none)
 |_,_,_,_=>none
theorem adl:∀{st:jV} {aZ:jU} {i len:Nat} {l:List Int},FB st aZ i len=some l->W1 st aZ->l.length=len/\∀j,j<len->xy st aZ (i+j)=l.getD j 0
 |[],_,_,_,_,h,_=>by simp[FB]at h
 |_::_,[],_,_,_,h,_=>by simp[FB]at h
 |(s,k)::st,l'::aZ,i,len,l,h,hl=>by
  unfold FB at h
  cases h1:(aM s i&&aM k len)with
  |true=>
   simp only[h1,cond_true,bb]at h
   subst h
   simp only[bw]at h1
   have aw:=bR h1.1
   have aD:=bR h1.2
   subst aw;subst aD
   refine⟨hl.1,λj aK=>?_⟩
   unfold xy
   have:(cK s (s+j)&&dP (s+j) (s+k))=true:=by simp[dP];omega
   rw[this,cond_true,Nat.add_sub_cancel_left]
  |false=>
   simp only[h1,cond_false]at h
   cases h2:(cK (i+len) s||cK (s+k) i)with
   |false=>simp[h2]at h
   |true=>
    simp only[h2,cond_true]at h
    obtain⟨g1,g2⟩:=adl h hl.2
    refine⟨g1,λj aK=>?_⟩
    rw[<-g2 j aK]
    conv=>lhs;unfold xy
    have:(cK s (i+j)&&dP (i+j) (s+k))=false:=by
     simp only[CJ,Nat.ble_eq]at h2
     cases h3:(cK s (i+j)&&dP (i+j) (s+k))with
     |false=>rfl
     |true=>simp[dP]at h3;omega
    rw[this,cond_false]
def LX:Nat->List I->Bool
 |_,[]=>true
 |i,l::r=>(l.c==0&&(match l.ts with|[(k,j)]=>k==1&&aM i j|_=>false))&&LX (i+1) r
def firstVar:List I->Nat
 |[]=>0
 |l::_=>match l.ts with|[(_,j)]=>j|_=>0
theorem afF {ρ:Env}:∀{ls:List I} {i:Nat},LX i ls=true->∀j,j<ls.length->(ls.map (·.den ρ)).getD j 0=ρ (i+j)
 |[],_,_,j,aK=>by simp at aK
 |l::r,i,h,j,aK=>by
  simp only[LX,bw]at h
  cases j with
  |zero=>
   obtain⟨⟨h1,h2⟩,_⟩:=h
   have hc:l.c=0:=by simpa using h1
   cases hl:l.ts with
   |nil=>simp[hl]at h2
   |cons t s=>
    cases s with
    |cons t' GW=>simp[hl]at h2
    |nil=>
     obtain⟨k,q⟩:=t
     simp only[hl,bw]at h2
     have aw:k=1:=by simpa using h2.1
     have aD:=bR h2.2
     subst aw;subst aD
     simp[I.den,hl,jW,hc]
  |succ j=>
   have:=afF (ρ:=ρ) h.2 j (by simpa using aK)
   simp only[c5,kS]
   rw[this]
   congr 1;omega
def AV (st:jV) (aZ:jU) (ls:List I):List Int:=
 cond (dP 1 ls.length&&LX (firstVar ls) ls) (match FB st aZ (firstVar ls) ls.length with|some l=>l|none=>ls.map (I.fU st aZ)) (ls.map (I.fU st aZ))
theorem afW {l l':List Int} (hl:l.length=l'.length) (h:∀j,j<l.length->l.getD j 0=l'.getD j 0):l=l':=by
 apply List.ext_getElem hl
 intro j h1 h2
 have:=h j h1
 simpa [List.getD_eq_getElem?_getD,qJ h1,qJ h2]using this
theorem Rc {ρ:Env} {st:jV} {aZ:jU} (h:sz ρ st aZ) (ls:List I):AV st aZ ls=ls.map (·.den ρ):=by
 have fF:ls.map (I.fU st aZ)=ls.map (·.den ρ):=kD λl _=>I.lO h.2 l
 unfold AV
 cases h1:(dP 1 ls.length&&LX (firstVar ls) ls)with
 |false=>simpa using fF
 |true=>
  simp only[cond_true]
  simp only[bw]at h1
  cases h2:FB st aZ (firstVar ls) ls.length with
  |none=>exact fF
  |some l=>
   obtain⟨g1,g2⟩:=adl h2 h.1
   show l=_
   refine afW (by simp[g1]) λj aK=>?_
   rw[afF h1.2 j (by omega),h.2,g2 j (by omega)]
def rK:bC->Option (List I×List I)
 | .eq a b=>some ([a],[b])
 | .and (.eq a b) r=>match rK r with|some (x,y)=>some (a::x,b::y)|none=>none
 |_=>none
def bC.fU (st:jV) (aZ:jU):bC->Bool
 |lit b=>b
 |eq a b=>decide (a.fU st aZ=b.fU st aZ)
 |lt a b=>decide (a.fU st aZ<b.fU st aZ)
 |le a b=>decide (a.fU st aZ<=b.fU st aZ)
 |not a=> !a.fU st aZ
 |and a b=>match rK (.and a b)with
  |some (x,y)=>decide (AV st aZ x=AV st aZ y)
  |none=>a.fU st aZ&&b.fU st aZ
 |iff a b=>a.fU st aZ==b.fU st aZ
theorem adf {ρ:Env}:∀{b:bC} {x y:List I},rK b=some (x,y)->b.den ρ=decide (x.map (·.den ρ)=y.map (·.den ρ))
 | .eq a b,x,y,h=>by
  simp only[rK,bb,eW]at h
  obtain⟨rfl,rfl⟩:=h
  simp[bC.den]
 | .and (.eq a b) r,x,y,h=>by
  simp only[rK]at h
  cases hr:rK r with
  |none=>simp[hr]at h
  |some p=>
   obtain⟨gg,oB⟩:=p
   simp only[hr,bb,eW]at h
   obtain⟨rfl,rfl⟩:=h
   have ih:=adf (ρ:=ρ) hr
   simp only[bC.den,ih,c5,qK]
   simp
 | .lit _,_,_,h=>by simp[rK]at h
 | .lt _ _,_,_,h=>by simp[rK]at h
 | .le _ _,_,_,h=>by simp[rK]at h
 | .not _,_,_,h=>by simp[rK]at h
 | .iff _ _,_,_,h=>by simp[rK]at h
 | .and (.lit _) _,_,_,h=>by simp[rK]at h
 | .and (.lt _ _) _,_,_,h=>by simp[rK]at h
 | .and (.le _ _) _,_,_,h=>by simp[rK]at h
 | .and (.not _) _,_,_,h=>by simp[rK]at h
 | .and (.and _ _) _,_,_,h=>by simp[rK]at h
 | .and (.iff _ _) _,_,_,h=>by simp[rK]at h
theorem bC.lO {ρ:Env} {st:jV} {aZ:jU} (h:sz ρ st aZ):∀b:bC,b.fU st aZ=b.den ρ
 |lit _=>rfl
 |eq a b=>by simp only[fU,den,I.lO h.2]
 |lt a b=>by simp only[fU,den,I.lO h.2]
 |le a b=>by simp only[fU,den,I.lO h.2]
 |not a=>by simp only[fU,den,bC.lO h a]
 |and a b=>by
  have aw:=bC.lO h a
  have aD:=bC.lO h b
  unfold fU
  cases ah:rK (.and a b)with
  |none=>simp only[den,aw,aD]
  |some p=>
   obtain⟨x,y⟩:=p
   simp only[adf (ρ:=ρ) ah,Rc h]
 |iff a b=>by simp only[fU,den,bC.lO h a,bC.lO h b]
def dk {α:Type}:List Nat->List α->List (List α)
 |[],[]=>[]
 |[],x::l=>[x::l]
 |k::ou,l=>l.take k::dk ou (l.drop k)
theorem Rg {α β:Type} (f:α->β):∀(ou:List Nat) (l:List α),dk ou (l.map f)=(dk ou l).map (List.map f)
 |[],[]=>rfl
 |[],_::_=>rfl
 |k::ou,l=>by simp only[dk,c5,<-JN,<-JO,Rg f ou]
def C0:List Nat->Nat->List (Int×Int)->(jV->jU->List (List Int)->Prop)->jV->jU->Prop
 |[],_,[],P,st,aZ=>P st aZ []
 |[],_,_::_,_,_,_=>False
 |k::ou,n,bds,P,st,aZ=>cond (aM k 1)
  (match bds with
  |(lo,hi)::abX=>∀z:Int,lo<=z->z<=hi->C0 ou (n+1) abX (λtq s7 ls=>P tq s7 ([z]::ls)) ((n,1)::st) ([z]::aZ)
  |[]=>False)
  (cond (cK k bds.length) (∀r:List Int,af (bds.take k) r->C0 ou (n+k) (bds.drop k) (λtq s7 ls=>P tq s7 (r::ls)) ((n,k)::st) (r::aZ)) False)
theorem aio:∀(a b:List Int) (n:Nat) (ρ:Env),bL ρ n (a++b)=bL (bL ρ n a) (n+a.length) b
 |[],b,n,ρ=>rfl
 |z::a,b,n,ρ=>by
  simp only[mY,bL,jS]
  rw[aio a b]
  congr 1;omega
theorem aip:∀(l:List Int) (n:Nat) (ρ:Env) (i:Nat),bL ρ n l i=cond (cK n i&&dP i (n+l.length)) (l.getD (i-n) 0) (ρ i)
 |[],n,ρ,i=>by
  have:(cK n i&&dP i (n+0))=false:=by
   cases h:(cK n i&&dP i (n+0))with
   |false=>rfl
   |true=>simp[dP]at h;omega
  simp only[bL,qL,this,cond_false]
 |z::l,n,ρ,i=>by
  simp only[bL]
  rw[aip l (n+1)]
  by_cases h1:i=n
  ·subst h1
   have aw:(cK (i+1) i&&dP i (i+1+l.length))=false:=by
    have:cK (i+1) i=false:=by
     cases h:cK (i+1) i with
     |false=>rfl
     |true=>exact absurd (fP h) (by omega)
    simp[this]
   have aD:(cK i i&&dP i (i+(z::l).length))=true:=by simp[dP]
   rw[aw,aD]
   simp[dm]
  ·have hu:dm ρ n z i=ρ i:=YV ρ z h1
   by_cases h2:n<=i/\i<n+1+l.length
   ·have aw:(cK (n+1) i&&dP i (n+1+l.length))=true:=by simp[dP];omega
    have aD:(cK n i&&dP i (n+(z::l).length))=true:=by simp[dP];omega
    rw[aw,aD]
    simp only[cond_true]
    rw[show i-n=(i-(n+1))+1 by omega,kS]
   ·have aw:(cK (n+1) i&&dP i (n+1+l.length))=false:=by
     cases h:(cK (n+1) i&&dP i (n+1+l.length))with
     |false=>rfl
     |true=>simp[dP]at h;omega
    have aD:(cK n i&&dP i (n+(z::l).length))=false:=by
     cases h:(cK n i&&dP i (n+(z::l).length))with
     |false=>rfl
     |true=>simp[dP]at h;omega
    rw[aw,aD]
    simp[hu]
theorem sz.push {ρ:Env} {st:jV} {aZ:jU} (h:sz ρ st aZ) (n:Nat) (l:List Int):sz (bL ρ n l) ((n,l.length)::st) (l::aZ):=
 ⟨⟨rfl,h.1⟩,λi=>by rw[aip,xy,<-h.2 i]⟩
theorem afA:∀{bds:List (Int×Int)} {zs:List Int} (k:Nat),af bds zs->af (bds.take k) (zs.take k)/\af (bds.drop k) (zs.drop k)
 |[],[],k,_=>by simp[af]
 |[],_::_,_,h=>h.elim
 |(_,_)::_,[],_,h=>h.elim
 |(l,u)::b,z::zs,0,h=>by simpa [af]using h
 |(l,u)::b,z::zs,k+1,h=>by
  obtain⟨h1,h2,h3⟩:=h
  obtain⟨g1,g2⟩:=afA (bds:=b) (zs:=zs) k h3
  exact⟨⟨h1,h2,g1⟩,g2⟩
theorem Hr:∀{ou:List Nat} {n:Nat} {bds:List (Int×Int)} {P:jV->jU->List (List Int)->Prop} {st:jV} {aZ:jU} {ρ:Env} {zs:List Int},C0 ou n bds P st aZ->sz ρ st aZ->af bds zs->∃tq s7,sz (bL ρ n zs) tq s7/\P tq s7 (dk ou zs)
 |[],n,[],P,st,aZ,ρ,[],h,aA,_=>⟨st,aZ,aA,h⟩
 |[],_,[],_,_,_,_,_::_,_,_,hi=>hi.elim
 |[],_,_::_,_,_,_,_,_,h,_,_=>h.elim
 |k::ou,n,bds,P,st,aZ,ρ,zs,h,aA,hi=>by
  unfold C0 at h
  cases ab:aM k 1 with
  |true=>
   have e:=bR ab
   subst e
   simp only[ab,cond_true]at h
   cases bds with
   |nil=>exact h.elim
   |cons b abX=>
    obtain⟨lo,q2⟩:=b
    cases zs with
    |nil=>exact hi.elim
    |cons z zs=>
     obtain⟨h1,h2,h3⟩:=hi
     have:=Hr (h z h1 h2) (aA.push n [z]) h3
     obtain⟨tq,s7,g1,g2⟩:=this
     refine⟨tq,s7,g1,?_⟩
     simpa [dk]using g2
  |false=>
   simp only[ab,cond_false]at h
   cases hb:cK k bds.length with
   |false=>simp only[hb,cond_false]at h
   |true=>
    simp only[hb,cond_true]at h
    have pc:k<=bds.length:=by simpa using hb
    have hlen:=e7 hi
    obtain⟨i1,i2⟩:=afA k hi
    have e:(zs.take k).length=k:=by simp;omega
    have tP:=aA.push n (zs.take k)
    rw[e]at tP
    obtain⟨tq,s7,g1,g2⟩:=Hr (h _ i1) tP i2
    refine⟨tq,s7,?_,g2⟩
    have aD:=aio (zs.take k) (zs.drop k) n ρ
    rw[o2,e]at aD
    rw[aD];exact g1
abbrev Hi:=Nat->List (List Int)->Prop
def Hi.set (A:Hi) (ly:Nat) (p:List (List Int)->Prop):Hi:=λi=>cond (aM i ly) p (A i)
def T.qs (sh:Nat->List Nat×List Nat) (lsh:Nat->List Nat) (S:Nat->List (List Int)->List (List Int)->Prop) (L:V->jV->jU->Prop):T->Hi->jV->jU->Prop
 |stuck,_,_,_=>False
 |leaf v,_,st,aZ=>L v st aZ
 |div n x d lo hi r,A,st,aZ=>∀q:Int,lo<=q->q<=hi->0<=x.fU st aZ-d*q->x.fU st aZ-d*q<d->r.qs sh lsh S L A ((n,1)::st) ([q]::aZ)
 |mul n x y lo hi r,A,st,aZ=>∀p:Int,lo<=p->p<=hi->p=x.fU st aZ*y.fU st aZ->r.qs sh lsh S L A ((n,1)::st) ([p]::aZ)
 |bit n op k x y r,A,st,aZ=>∀z:Int,0<=z->z<=k.max->z=eL op k (x.fU st aZ) (y.fU st aZ)->r.qs sh lsh S L A ((n,1)::st) ([z]::aZ)
 |shr n x y lo hi r,A,st,aZ=>∀z:Int,lo<=z->z<=hi->z=x.fU st aZ/2^(y.fU st aZ).toNat->r.qs sh lsh S L A ((n,1)::st) ([z]::aZ)
 |AW n cs bj lo hi r,A,st,aZ=>∀z:Int,lo<=z->z<=hi->z=(AV st aZ cs).getD (bj.fU st aZ).toNat 0->r.qs sh lsh S L A ((n,1)::st) ([z]::aZ)
 |uq b t e,A,st,aZ=>(b.fU st aZ=true->t.qs sh lsh S L A st aZ)/\(b.fU st aZ=false->e.qs sh lsh S L A st aZ)
 |call id args n bds r,A,st,aZ=>C0 (sh id).2 n bds (λtq s7 rs=>S id ((dk (sh id).1 args).map (AV st aZ)) rs->r.qs sh lsh S L A tq s7) st aZ
 |loop ly init n bds r,A,st,aZ=>∃(mZ:List (List Int)->Prop) (pH:List (List Int)->Nat),mZ ((dk (lsh ly) init).map (AV st aZ))/\
  C0 (lsh ly) n bds (λtq s7 zs=>mZ zs->r.qs sh lsh S L (A.set ly λvs=>mZ vs/\pH vs<pH zs) tq s7) st aZ
 |again ly vals,A,st,aZ=>A ly ((dk (lsh ly) vals).map (AV st aZ))
 |both a b,A,st,aZ=>a.qs sh lsh S L A st aZ/\b.qs sh lsh S L A st aZ
 |fn n op args lo hi r,A,st,aZ=>∀z:Int,lo<=z->z<=hi->z=bE op (args.map (I.fU st aZ))->r.qs sh lsh S L A ((n,1)::st) ([z]::aZ)
 |ind n b r,A,st,aZ=>∀z:Int,0<=z->z<=1->b.fU st aZ=decide (z=1)->r.qs sh lsh S L A ((n,1)::st) ([z]::aZ)
 |uQ n lo hi r,A,st,aZ=>∀z:Int,lo<=z->z<=hi->r.qs sh lsh S L A ((n,1)::st) ([z]::aZ)
 |nat n r,A,st,aZ=>∀z:Int,0<=z->r.qs sh lsh S L A ((n,1)::st) ([z]::aZ)
 |w2 op args r,A,st,aZ=>ar op (args.map (I.fU st aZ))->r.qs sh lsh S L A st aZ
 |s5 op args r,A,st,aZ=>ar op (args.map (I.fU st aZ))/\r.qs sh lsh S L A st aZ
theorem Yu {ρ:Env} {st:jV} {aZ:jU} (h:sz ρ st aZ) (ou:List Nat) (l:List I):(dk ou l).map (AV st aZ)=dk ou (l.map (·.den ρ)):=by
 rw[Rg];exact kD λx _=>Rc h x
def jo (sh:Nat->List Nat×List Nat) (S:Nat->List (List Int)->List (List Int)->Prop):Nat->List Int->List Int->Prop:=λid zs rs=>S id (dk (sh id).1 zs) (dk (sh id).2 rs)
theorem Xa {ρ:Env} {st:jV} {aZ:jU} (h:sz ρ st aZ) (l:List I):l.map (I.fU st aZ)=l.map (·.den ρ):=kD λx _=>I.lO h.2 x
theorem q5 {sh:Nat->List Nat×List Nat} {lsh:Nat->List Nat} {S:Nat->List (List Int)->List (List Int)->Prop} {aai:V->jV->jU->Prop} {L:V->Env->Prop} (dL:∀v ρ st aZ,sz ρ st aZ->aai v st aZ->L v ρ):
 ∀(t:T) (jx:Hi) (A:e2) (ρ:Env) (st:jV) (aZ:jU),(∀ly vs,jx ly (dk (lsh ly) vs)->A ly vs)->sz ρ st aZ->t.qs sh lsh S aai jx st aZ->t.holds (jo sh S) L A ρ
 | .stuck,_,_,_,_,_,_,_,h=>h
 | .leaf v,_,_,ρ,st,aZ,_,aA,h=>dL v ρ st aZ aA h
 | .div n x d lo hi r,jx,A,ρ,st,aZ,aU,aA,h=>λq h1 h2 h3 h4=>q5 dL r jx A _ _ _ aU (aA.push n [q]) (h q h1 h2 (by rw[I.lO aA.2];exact h3) (by rw[I.lO aA.2];exact h4))
 | .mul n x y lo hi r,jx,A,ρ,st,aZ,aU,aA,h=>λq h1 h2 h3=>q5 dL r jx A _ _ _ aU (aA.push n [q]) (h q h1 h2 (by rw[I.lO aA.2,I.lO aA.2];exact h3))
 | .bit n op k x y r,jx,A,ρ,st,aZ,aU,aA,h=>λq h1 h2 h3=>q5 dL r jx A _ _ _ aU (aA.push n [q]) (h q h1 h2 (by rw[I.lO aA.2,I.lO aA.2];exact h3))
 | .shr n x y lo hi r,jx,A,ρ,st,aZ,aU,aA,h=>λq h1 h2 h3=>q5 dL r jx A _ _ _ aU (aA.push n [q]) (h q h1 h2 (by rw[I.lO aA.2,I.lO aA.2];exact h3))
 | .AW n cs bj lo hi r,jx,A,ρ,st,aZ,aU,aA,h=>λq h1 h2 h3=>q5 dL r jx A _ _ _ aU (aA.push n [q]) (h q h1 h2 (by rw[Rc aA,I.lO aA.2];exact h3))
 | .uq b t e,jx,A,ρ,st,aZ,aU,aA,h=>⟨λhb=>q5 dL t jx A _ _ _ aU aA (h.1 (by rw[bC.lO aA];exact hb)),λhb=>q5 dL e jx A _ _ _ aU aA (h.2 (by rw[bC.lO aA];exact hb))⟩
 | .call id args n bds r,jx,A,ρ,st,aZ,aU,aA,h=>by
  refine u6 λrs hi hs=>?_
  obtain⟨tq,s7,h1,h2⟩:=Hr h aA hi
  exact q5 dL r jx A _ _ _ aU h1 (h2 (by rw[Yu aA];exact hs))
 | .loop ly init n bds r,jx,A,ρ,st,aZ,aU,aA,h=>by
  obtain⟨mZ,pH,h1,h2⟩:=h
  refine⟨λzs=>mZ (dk (lsh ly) zs),λzs=>pH (dk (lsh ly) zs),?_,?_⟩
  ·rw[Yu aA]at h1;exact h1
  ·refine u6 λzs hi gU=>?_
   obtain⟨tq,s7,g1,g2⟩:=Hr h2 aA hi
   refine q5 dL r _ _ _ _ _ (λarO vs hv=>?_) g1 (g2 gU)
   unfold Hi.set at hv
   unfold e2.set
   cases ah:aM arO ly with
   |true=>
    rw[ah]at hv
    have e:=bR ah
    subst e
    exact hv
   |false=>rw[ah]at hv;exact aU _ _ hv
 | .again ly vals,jx,A,ρ,st,aZ,aU,aA,h=>aU ly _ (by rw[<-Yu aA];exact h)
 | .both x y,jx,A,ρ,st,aZ,aU,aA,h=>⟨q5 dL x jx A ρ st aZ aU aA h.1,q5 dL y jx A ρ st aZ aU aA h.2⟩
 | .fn n op args lo hi r,jx,A,ρ,st,aZ,aU,aA,h=>λq h1 h2 h3=>q5 dL r jx A _ _ _ aU (aA.push n [q]) (h q h1 h2 (by rw[Xa aA];exact h3))
 | .ind n b r,jx,A,ρ,st,aZ,aU,aA,h=>λq h1 h2 h3=>q5 dL r jx A _ _ _ aU (aA.push n [q]) (h q h1 h2 (by rw[bC.lO aA];exact h3))
 | .uQ n lo hi r,jx,A,ρ,st,aZ,aU,aA,h=>λq h1 h2=>q5 dL r jx A _ _ _ aU (aA.push n [q]) (h q h1 h2)
 | .nat n r,jx,A,ρ,st,aZ,aU,aA,h=>λq h1=>q5 dL r jx A _ _ _ aU (aA.push n [q]) (h q h1)
 | .w2 op args r,jx,A,ρ,st,aZ,aU,aA,h=>λh1=>q5 dL r jx A ρ st aZ aU aA (h (by rw[Xa aA];exact h1))
 | .s5 op args r,jx,A,ρ,st,aZ,aU,aA,h=>⟨by rw[<-Xa aA];exact h.1,q5 dL r jx A _ _ _ aU aA h.2⟩
def D7:List O->Option (List I)
 |[]=>some []
 | .l x::r=>match D7 r with|some l=>some (x::l)|none=>none
 | .b _::_=>none
def O.fU (st:jV) (aZ:jU):O->Int
 |l x=>x.fU st aZ
 |b x=>cond (x.fU st aZ) 1 0
def Jt (st:jV) (aZ:jU) (os:List O):List Int:=
 match D7 os with
 |some ls=>AV st aZ ls
 |none=>os.map (O.fU st aZ)
theorem afV {ρ:Env}:∀{os:List O} {ls:List I},D7 os=some ls->ls.map (·.den ρ)=os.map (O.den ρ)
 |[],ls,h=>by simp[D7]at h;subst h;rfl
 | .l x::r,ls,h=>by
  simp only[D7]at h
  cases hr:D7 r with
  |none=>simp[hr]at h
  |some l=>
   simp only[hr,bb]at h
   subst h
   simp only[c5,afV hr,O.den]
 | .b _::_,_,h=>by simp[D7]at h
theorem O.lO {ρ:Env} {st:jV} {aZ:jU} (h:sz ρ st aZ):∀o:O,o.fU st aZ=o.den ρ
 | .l x=>I.lO h.2 x
 | .b x=>by simp only[fU,den,bC.lO h]
theorem ahS {ρ:Env} {st:jV} {aZ:jU} (h:sz ρ st aZ) (os:List O):Jt st aZ os=os.map (O.den ρ):=by
 unfold Jt
 cases hl:D7 os with
 |some ls=>exact(Rc h ls).trans (afV hl)
 |none=>exact kD λo _=>O.lO h o
def asb (k:Nat):List Nat:=match k with
 |12=>[4,4,4]
 |15=>[5,5,5]
 |20=>[5,5,5,5]
 |k=>[k]
def D.nums:D->List Nat
 | .mix l=>asb l.length
 | .ze _=>[]
 | .ph .. =>[]
 |d=>[d.num]
def xB (ds:List D):List Nat:=ds.flatMap D.nums
def S6 (ds:List D) (K:List (List Int)->Prop) (v:V) (st:jV) (aZ:jU):Prop:=
 match outs ds v with
 |some os=>K ((dk (xB ds) os).map (Jt st aZ))
 |none=>False
theorem aj1 {ds:List D} {K:List (List Int)->Prop} (v:V) (ρ:Env) (st:jV) (aZ:jU) (aA:sz ρ st aZ) (h:S6 ds K v st aZ):j5 ds (λrs=>K (dk (xB ds) rs)) v ρ:=by
 unfold S6 at h
 unfold j5
 cases ax:outs ds v with
 |none=>simp[ax]at h
 |some os=>
  simp only[ax]at h⊢
  rw[Rg]
  rwa [show(dk (xB ds) os).map (Jt st aZ)=(dk (xB ds) os).map (List.map (O.den ρ)) from kD λo _=>ahS aA o]at h
def jj (sh:Nat->List Nat×List Nat) (lsh:Nat->List Nat) (S:Nat->List (List Int)->List (List Int)->Prop) (K:List (List Int)->List (List Int)->Prop) (lens:List Nat) (bds:List (Int×Int)) (ds:List D) (t:T):Prop:=
 C0 lens 0 bds (λst aZ zs=>t.qs sh lsh S (S6 ds (K zs)) (λ_ _=>False) st aZ) [] []
theorem NT {sh:Nat->List Nat×List Nat} {lsh:Nat->List Nat} {S:Nat->List (List Int)->List (List Int)->Prop} {K:List (List Int)->List (List Int)->Prop} {lens:List Nat} {bds:List (Int×Int)} {ds:List D} {t:T}
 (h:jj sh lsh S K lens bds ds t):j6 bds λzs=>t.holds (jo sh S) (j5 ds λrs=>K (dk lens zs) (dk (xB ds) rs)) (λ_ _=>False) (bL (λ_=>0) 0 zs):=by
 refine u6 λzs hi=>?_
 obtain⟨st,aZ,h1,h2⟩:=Hr h (show sz (λ_=>0) [] [] from⟨trivial,λ_=>rfl⟩) hi
 exact q5 (λv ρ st aZ aA hl=>aj1 v ρ st aZ aA hl) t _ _ _ st aZ (λ_ _ hf=>hf.elim) h1 h2
end Go.ch
namespace Go.ch
open Go.ChangeShapes Go.WideShapes Go.RowKit
variable {H:Type} {enc:bp×aV->H} {P:bV}
theorem ais {k:dO} {z:Int}:(Lit.int k z).wf=true↔k.min<=z/\z<=k.max:=by simp[Lit.wf]
theorem acO {k:dO}:∀(cs:List aV) (xs:List (rz H×List zC)),cs.length=xs.length->
 (∀i,i<xs.length->∃z,(cs.drop i).take 1=[.int k z]/\xs[i]?=some (.lit (.int k z),[])/\(Lit.int k z).wf=true)->
 ∃zs:List Int,cs=zs.map (.int k)/\xs=zs.map (λz=>(.lit (.int k z),[]))/\∀z∈zs,(Lit.int k z).wf=true
 |[],[],_,_=>⟨[],rfl,rfl,λ_ h=>by cases h⟩
 |[],_::_,h,_=>by simp at h
 |_::_,[],h,_=>by simp at h
 |c::cs,x::xs,hl,h=>by
  obtain⟨z,h1,h2,h3⟩:=h 0 (by simp)
  simp at h1 h2
  obtain⟨zs,aw,aD,cj⟩:=acO cs xs (by simpa using hl) λi hi=>by
   obtain⟨y,g1,g2,g3⟩:=h (i+1) (by simpa using hi)
   exact⟨y,by simpa using g1,by simpa using g2,g3⟩
  refine⟨z::zs,by rw[h1,aw];rfl,by rw[h2,aD];rfl,λy hy=>?_⟩
  rcases List.mem_cons.1 hy with rfl|hy
  ·exact h3
  ·exact cj y hy
theorem II:∀{b b':List (Int×Int)} {l l':List Int},af b l->af b' l'->af (b++b') (l++l')
 |[],_,[],_,_,h=>h
 |_::_,_,_::_,_,h,bd=>⟨h.1,h.2.1,II h.2.2 bd⟩
 |[],_,_::_,_,h,_=>h.elim
 |_::_,_,[],_,h,_=>h.elim
theorem D.aiq (d:D) {zs l:List Int} (h:zs.length=d.num):d.val (zs++l)=d.val zs:=by
 cases d with
 |str=>match zs,h with|[z],_=>rfl
 |int k lo hi=>match zs,h with|[z],_=>rfl
 |bool=>match zs,h with|[z],_=>rfl
 |agg k n lo hi=>simp only[D.num]at h;simp only[D.val,<-h];simp
 |ze p=>rfl
 |ph k c=>rfl
 |mix p=>
  simp only[D.num]at h
  simp only[D.val]
  congr 2
  revert zs
  induction p with
  |nil=>intro zs h;simp
  |cons a p ih=>
   intro zs h
   match zs,h with
   |z::zs,h=>simp only[mY,RL,ih (zs:=zs) (by simpa using h)]
theorem art {w w':aC} (h:w.Extends w') (may:zC->Prop):w.keptBut w' may:=
 Below.frame (W:=w) ⟨h.os,h.tape,h.output,h.size,λi hi=>h.block i hi⟩ may
theorem H9 {w:aC} {name:String} {g:Nat} {t e:bp} {k:dO} {n:Nat} {cs:Array aV} {fuel:Nat} {p:List zC} {zs:List Int} {spare:Nat->Bool} {held:Bool} {base:Nat} {enc:bp×aV->Unit}
 (hg:P.globalNamed name=some g) (aA:P.underlying t=some (.array n e)) (he:P.underlying e=some (.int k)) (PC:P.cellsOf e=1) (aoE:P.cellsOf t=n)
 (hv:w.var? P name=some cs) (hd:Zs enc P w base spare held fuel t cs.toList=some (.agg (zs.map λz=> .lit (.int k z)),p)):
 g<w.heap.size/\∃t' DJ,w.heap[g]?=some (Obj.cells (zs.map (zD k)).toArray t' DJ):=by
 obtain⟨xs,m,rfl,hx,hlen,hn,Iq⟩:=aBe aA hd
 obtain⟨hN,aw,aD,cj⟩:=acO (k:=k) cs.toList xs (by rw[hlen,aoE,hn]) λi hi=>by
  have:=Iq i (by omega)
  rw[PC,Ba]at this
  cases afh:xs[i]? with
  |none=>simp at afh;omega
  |some y=>
   rw[afh]at this
   obtain⟨z,g1,g2,g3⟩:=aiX he this
   exact⟨z,g1,by rw[g2],g3⟩
 simp only[eW,aIl]at hx
 have hy:hN=zs:=by
  have h1:=hx.1
  rw[aD,p8]at h1
  have As:∀a b:Int,(aBf (.int k a):rz Unit)= .lit (.int k b)->a=b:=λa b h=>by cases h;rfl
  exact((List.map_inj_right (f:=λz:Int=>(aBf (.int k z):rz Unit)) As).1 h1).symm
 subst hy
 simp only[World.var?,hg,Option.bind_some]at hv
 split at hv
 ·rename_i kI t' DJ hb
  simp only[bb]at hv
  subst hv
  refine⟨?_,t',DJ,?_⟩
  ·exact(Array.getElem?_eq_some_iff.1 hb).1
  ·rw[hb,<-aw]
 ·cases hv
end Go.ch
namespace Go.ch
open M
inductive cN where
 |d (x:D)
 |rd (sh:List aN)
 |sO (sh:List aN) (e:bp)
def cN.num:cN->Nat
 |d x=>x.num
 |_=>1
noncomputable def cN.bds:cN->List (Int×Int)
 |d x=>x.bds
 |_=>[(0,bU)]
noncomputable def dz:List cN->List (Int×Int)
 |[]=>[]
 |x::r=>x.bds++dz r
def cN.Gl:cN->Bool
 |d _=>true
 |_=>false
def cN.th:cN->Bool
 |sO _ _=>true
 |_=>false
def cN.rU:cN->Bool
 |rd _=>true
 |_=>false
def sZ:List cN->Bool
 |[]=>true
 | .d _::r=>sZ r
 | .rd _::r=>r.all (λb=> !b.th)&&sZ r
 | .sO _ _::r=>r.all cN.Gl&&sZ r
def Bk (F:Nat->Prop) (w:aC) (sh:List aN) (rows:List (List Int)) (v:aV):Prop:=
 (v= .slice none 0 0/\rows=[])∨∃(g o cap:Nat) (cells:Array aV) (t:bp) (fz:Nat×Nat),v= .slice (some ⟨g,o,none⟩) rows.length cap/\(rows.length<=cap/\(cap:Int)<=9223372036854775807)/\F g/\w.heap[g]?=some (.cells cells t fz)/\pK cells o sh rows
def E0 (N:Nat->Prop) (w:aC) (sh:List aN) (e:bp) (rows:List (List Int)) (v:aV):Prop:=
 (v= .slice none 0 0/\rows=[])∨∃(g cap:Nat) (cells:Array aV),v= .slice (some ⟨g,0,none⟩) rows.length cap/\(rows.length<=cap/\(cap:Int)<=9223372036854775807)/\N g/\w.heap[g]?=some (.cells cells e (0,0))/\pK cells 0 sh rows/\cells.size=cap*sh.length
def cN.at (F N:Nat->Prop) (w:aC):cN->List Int->aV->Prop
 |d x,zs,v=>v=x.val zs
 |rd sh,zs,v=>Bk F w sh (ak (zs.getD 0 0)) v
 |sO sh e,zs,v=>E0 N w sh e (ak (zs.getD 0 0)) v
def nM (F N:Nat->Prop) (w:aC):List cN->List Int->List aV->Prop
 |[],_,[]=>True
 |b::r,zs,v::vs=>b.at F N w zs v/\nM F N w r (zs.drop b.num) vs
 |_,_,_=>False
def wq (us:List aV):aV:=match us with|[x]=>x|l=> .tuple l.toArray
structure fE where
 f:dt
 id:Nat
 args:List cN
 res:List cN
 pre:Nat:=0
def I4:Nat->List Int->Prop
 |0,_=>True
 |p+1,l=>ar (p+1) l
def XN:Nat->List I->T->T
 |0,_,r=>r
 |p+1,ls,r=> .s5 (p+1) ls r
def QP:Nat->List I->T->T
 |0,_,r=>r
 |p+1,ls,r=> .w2 (p+1) ls r
theorem preM_holds {S:Nat->List Int->List Int->Prop} {L:V->Env->Prop} {A:e2} {ρ:Env} {p:Nat} {ls:List I} {r:T} (h:(XN p ls r).holds S L A ρ):I4 p (ls.map (·.den ρ))/\r.holds S L A ρ:=by
 cases p with
 |zero=>exact⟨trivial,h⟩
 |succ p=>exact h
theorem preA_holds {S:Nat->List Int->List Int->Prop} {L:V->Env->Prop} {A:e2} {ρ:Env} {p:Nat} {ls:List I} {r:T} (h:(QP p ls r).holds S L A ρ) (hp:I4 p (ls.map (·.den ρ))):r.holds S L A ρ:=by
 cases p with
 |zero=>exact h
 |succ p=>exact h hp
def fE.b1 (P:bV) (wb:aC) (c:fE) (spec:List Int->List Int->Prop):Prop:=
 (∀args w,(callFunc c.f args).run P w= .ok (.enter c.f args) w)/\
 ∀(F:Nat->Prop) (w:aC) (vs:List aV) (zs:List Int),wb.Extends w->af (dz c.args) zs->I4 c.pre zs->nM F (λ_=>False) w c.args zs vs->
  oD P c.f vs.toArray w λe w'=>w.Extends w'/\∃rs us,af (dz c.res) rs/\spec zs rs/\nM (λg=>F g∨w.heap.size<=g) (λg=>w.heap.size<=g) w' c.res rs us/\e= .returned (wq us)
noncomputable def yA:List cN->Nat->Nat->List W->List aE->(Nat->List W->List aE->T)->T
 |[],_,n,us,bl,k=>k n us bl
 | .d x::r,s,n,us,bl,k=>yA r (s+x.num) n (us++[x.sym s]) bl k
 | .rd sh::r,s,n,us,bl,k=> .nat n (.uQ (n+1) (-1) 9223372036854775807 (.fn (n+2) 20 [.var s] 0 9223372036854775807
  (yA r (s+1) (n+3) (us++[.one (.sl bl.length sh.length (.var n) (.const 0) (.var (n+2)) (.var (n+1)))]) (bl++[([.rows sh (.var n) (.var s) (.var (n+1)) 1],(0,false))]) k)))
 | .sO sh e::r,s,n,us,bl,k=> .uQ n (-1) 9223372036854775807 (.fn (n+1) 20 [.var s] 0 9223372036854775807
  (yA r (s+1) (n+2) (us++[.one (.sl bl.length sh.length (.const 0) (.const 0) (.var (n+1)) (.var n))]) (bl++[([.rows sh (.const 0) (.var s) (.var n) 2],(e,false))]) k))
section
variable {S:Nat->List Int->List Int->Prop} {L:V->Env->Prop} {w0:eG} {P:bV} {gl:fa} {cal:fy}
theorem jT.agree {ρ aa:Env} {s n:Nat} {zs:List Int} (h:jT ρ s zs) (ha:agree n ρ aa) (hn:s+zs.length<=n):jT aa s zs:=λj aK=>by rw[ha (s+j) (by omega)];exact h j aK
theorem xU {ρ:Env} {n i:Nat} {z:Int} (h:i<n):dm ρ n z i=ρ i:=YV ρ z (by omega)
theorem Fa {F N:Nat->Prop} (hF:∀g,F g->w0.ex g∨w0.ro g∨w0.r.heap.size<=g) (cT:∀g,N g->w0.b.heap.size<=g/\w0.r.heap.size<=g):∀{l:List cN} {s n:Nat} {us:List W} {bl:List aE} {k:Nat->List W->List aE->T} {G:e2} {ρ:Env} {m:Nat->Nat} {w:aC} {zs:List Int} {vals:List aV},
 sZ l=true->cY n bl.length ρ bl->Mem w0 ρ m bl w->jT ρ s zs->af (dz l) zs->s+(dz l).length<=n->nM F N w l zs vals->
 ((l.all λb=> !b.rU)=true∨∀(i:Nat) (p:aE),bl[i]?=some p->F (m i)->bM ρ p.1<=1)->((l.all λb=> !b.th)=true∨∀(i:Nat) (p:aE),bl[i]?=some p->N (m i)->bM ρ p.1=0)->
 (∀u∈us,W.ok n bl.length ρ u)->
 (yA l s n us bl k).holds S L G ρ->∃n' aa m' p4 bq,eX n bl.length ρ m n' (qa bq) aa m'/\cY n' bq.length aa bq/\Mem w0 aa m' bq w/\p4.map (W.den aa m')=us.map (W.den ρ m)++vals/\(∀u∈p4,W.ok n' bq.length aa u)/\(k n' p4 bq).holds S L G aa
 |[],s,n,us,bl,k,G,ρ,m,w,zs,vals,_,hb,hm,_,_,_,hat,_,_,vx,ae=>by
  match vals,hat with
  |[],_=>exact⟨n,ρ,m,us,bl,eX.refl _ _ _ _,hb,hm,by simp,vx,ae⟩
 | .d x::r,s,n,us,bl,k,G,ρ,m,w,zs,vals,b0,hb,hm,aU,hz,hn,hat,h1,h2,vx,ae=>by
  match vals,hat with
  |v::vs,hat=>
   obtain⟨hv,hat⟩:=hat
   have hv:v=x.val zs:=hv
   simp only[dz,cN.bds]at hz hn
   simp only[fQ]at hn
   obtain⟨i1,i2⟩:=Ax hz
   rw[D.Kf]at i1 i2 hn
   have hs:=D.MZ (ρ:=ρ) (m:=m) (N:=n) (nb:=bl.length) x i1 aU (by omega)
   obtain⟨n',aa,m',p4,bq,g1,g2,g3,g4,g5,g6⟩:=Fa hF cT (l:=r) (s:=s+x.num) (us:=us++[x.sym s]) (zs:=zs.drop x.num) b0 hb hm (aU.drop x.num) i2 (by omega) hat (by
    rcases h1 with h1|h1
    ·left;simpa [cN.rU]using h1
    ·exact .inr h1) (by
    rcases h2 with h2|h2
    ·left;simpa [cN.th]using h2
    ·exact .inr h2) (λu hu=>by
    rcases List.mem_append.1 hu with hu|hu
    ·exact vx u hu
    ·simp at hu;subst hu;exact hs.1) ae
   exact⟨n',aa,m',p4,bq,g1,g2,g3,by rw[g4,jf,hv];simp[hs.2],g5,g6⟩
 | .rd sh::r,s,n,us,bl,k,G,ρ,m,w,zs,vals,b0,hb,hm,aU,hz,hn,hat,h1,h2,vx,ae=>by
  match vals,hat with
  |v::vs,hat=>
   obtain⟨hv,hat⟩:=hat
   match zs,hz with
   |z::zs,hz=>
    obtain⟨aB,z2,hz⟩:=hz
    have hv:Bk F w sh (ak z) v:=hv
    obtain⟨DO,Vf⟩:=aU.tail
    have h1:∀(i:Nat) (p:aE),bl[i]?=some p->F (m i)->bM ρ p.1<=1:=by
     rcases h1 with h1|h1
     ·simp[cN.rU]at h1
     ·exact h1
    simp only[dz,cN.bds,fQ,jS,qL]at hn
    simp only[sZ,bw]at b0
    have hlen:(ak z).length<=9223372036854775807:=by
     rcases hv with⟨_,h⟩|⟨_,_,cap,_,_,_,_,⟨h3,h4⟩,_⟩
     ·simp[h]
     ·omega
    have q8:zs.length=(dz r).length:=e7 hz
    obtain⟨g,o,cap,BI,BJ,FZ,Lp,F0⟩:∃(g:Nat) (o:Nat) (cap:Int),(-1<=cap/\cap<=9223372036854775807)/\(cap<0->ak z=[])/\(0<=cap->((ak z).length:Int)<=cap)/\
     (v=if cap<0 then Nl none 0 0 else .slice (some ⟨g,o,none⟩) (ak z).length cap.toNat)/\
     (0<=cap->F g/\∃cells t fz,w.heap[g]?=some (.cells cells t fz)/\pK cells o sh (ak z)):=by
     rcases hv with⟨h3,h4⟩|⟨g,o,cap,cells,t,fz,h3,⟨h4,h5⟩,h6,h7,e6⟩
     ·exact⟨0,0,-1,by omega,λ_=>h4,λh=>by omega,by simp[h3],λh=>by omega⟩
     ·exact⟨g,o,cap,by omega,λh=>by omega,λ_=>by omega,by rw[if_neg (by omega)];simpa using h3,λ_=>⟨h6,cells,t,fz,h7,e6⟩⟩
    have Lr:=ae (o:Int) (by omega) cap BI.1 BI.2 (ak z).length (by omega) (by omega) (by
     simp only[c5,fD,bE,I.cS]
     rw[xU (by omega),xU (by omega),DO])
    generalize tg:dm (dm (dm ρ n (o:Int)) (n+1) cap) (n+2) ((ak z).length:Int)=jw at Lr
    have ha:agree n ρ jw:=by
     rw[<-tg]
     intro i hi
     rw[xU (by omega),xU (by omega),xU hi]
    have fF:jw n=o:=by rw[<-tg,xU (by omega),xU (by omega),nG]
    have aw:jw (n+1)=cap:=by rw[<-tg,xU (by omega),nG]
    have aD:jw (n+2)=(ak z).length:=by rw[<-tg,nG]
    have cj:jw s=z:=by rw[ha s (by omega)];exact DO
    have V3:=hm.sP hb ha
    have K9:=hb.ext ha (show n<=n+3 by omega) (bO bl.length)
    have K4:(A.rows sh (.var n) (.var s) (.var (n+1)) 1).ok (n+3) bl.length jw:=⟨⟨I.fW (by omega),I.fW (by omega),I.fW (by omega)⟩,by rw[I.cS,cj];exact⟨aB,z2⟩,by rw[I.cS,aw];exact BI⟩
    have pO:=V3.push (x:=([.rows sh (.var n) (.var s) (.var (n+1)) 1],(0,false))) (g:=g) K9 (λy hy=>by simp at hy;subst hy;exact K4) (λax=>by cases ax) (λfX kf code' j8 sL he=>by
     cases he
     intro _
     refine⟨λh=>by rw[I.cS,aw]at h;rw[I.cS,cj];exact BJ h,λh=>?_⟩
     rw[I.cS,aw]at h
     obtain⟨K5,cells,t,fz,k1,k2⟩:=F0 h
     exact⟨hF g K5,cells,t,fz,k1,⟨by rw[I.cS,fF];omega,by rw[I.cS,I.cS,fF,cj];exact k2⟩,λh2=>by omega⟩) (λi p hi he=>by
      by_cases hc:0<=cap
      ·refine .inl ⟨?_,?_⟩
       ·rw[xw (hb _ (e8 hi)) ha]
        exact h1 i p hi (by rw[he];exact(F0 hc).1)
       ·rw[vB (by decide) (by rw[I.cS,aw];exact hc)];exact bO 1
      ·refine .inr (.inr ?_)
       simp only[bM,I.cS,aw]
       rw[if_pos (by omega)])
    have V0:eX n bl.length ρ m (n+3) (bl++[([A.rows sh (.var n) (.var s) (.var (n+1)) 1],((0:bp),false))]).length jw (oz m bl.length g):=⟨by omega,ha,by simp,λb hb=>py hb⟩
    have FU:cY (n+3) (bl++[([A.rows sh (.var n) (.var s) (.var (n+1)) 1],((0:bp),false))]).length jw (bl++[([.rows sh (.var n) (.var s) (.var (n+1)) 1],(0,false))]):=λp hp a oi=>by
     rcases List.mem_append.1 hp with hp|hp
     ·exact(K9 p hp a oi).ext (agree.refl _ _) (bO _) (by simp)
     ·simp at hp;subst hp;simp at oi;subst oi
      exact K4.ext (agree.refl _ _) (bO _) (by simp)
    have Wp:W.ok (n+3) (bl++[([A.rows sh (.var n) (.var s) (.var (n+1)) 1],((0:bp),false))]).length jw (.one (.sl bl.length sh.length (.var n) (.const 0) (.var (n+2)) (.var (n+1)))):=by
     refine⟨by simp,⟨I.fW (by omega),I.dd _ _,I.fW (by omega),I.fW (by omega)⟩,?_⟩
     simp only[I.cS,I.br,fF,aw,aD]
     exact⟨by omega,by omega,λh=>by rw[BJ h];rfl,FZ⟩
    obtain⟨n',aa,m',p4,bq,g1,g2,g3,g4,g5,g6⟩:=Fa hF cT (l:=r) (s:=s+1) (us:=us++[.one (.sl bl.length sh.length (.var n) (.const 0) (.var (n+2)) (.var (n+1)))]) (zs:=zs) (vals:=vs) b0.2 FU pO (Vf.agree ha (by omega)) hz (by omega) hat (.inr λi p hi hf=>by
     rw[List.getElem?_append]at hi
     split at hi
     ·rename_i ko
      rw[py ko]at hf
      rw[xw (hb _ (e8 hi)) ha]
      exact h1 i p hi hf
     ·have:i=bl.length:=by
       have:=(List.getElem?_eq_some_iff.1 hi).1
       simp at this;omega
      subst this
      simp at hi
      subst hi
      simp only[bM];split<;>omega) (.inl b0.1) (λu hu=>by
     rcases List.mem_append.1 hu with hu|hu
     ·exact(vx u hu).ext ha (by omega) (by simp)
     ·simp at hu;subst hu;exact Wp) Lr
    refine⟨n',aa,m',p4,bq,V0.trans g1,g2,g3,?_,g5,g6⟩
    rw[g4,jf,nI]
    congr 1
    ·exact kD λu hu=>W.oL (vx u hu) ha (λb hb=>py hb)
    ·simp only[c5,fD,mY,gp,W.den,A.den,I.cS,I.br,fF,aw,aD,p3]
     rw[Lp]
     simp
 | .sO sh e::r,s,n,us,bl,k,G,ρ,m,w,zs,vals,b0,hb,hm,aU,hz,hn,hat,h1,h2,vx,ae=>by
  match vals,hat with
  |v::vs,hat=>
   obtain⟨hv,hat⟩:=hat
   match zs,hz with
   |z::zs,hz=>
    obtain⟨aB,z2,hz⟩:=hz
    have hv:E0 N w sh e (ak z) v:=hv
    obtain⟨DO,Vf⟩:=aU.tail
    simp only[dz,cN.bds,fQ,jS,qL]at hn
    simp only[sZ,bw]at b0
    have h2:∀(i:Nat) (p:aE),bl[i]?=some p->N (m i)->bM ρ p.1=0:=by
     rcases h2 with h2|h2
     ·simp[cN.th]at h2
     ·exact h2
    have hlen:(ak z).length<=9223372036854775807:=by
     rcases hv with⟨_,h⟩|⟨_,cap,_,_,⟨h3,h4⟩,_⟩
     ·simp[h]
     ·omega
    have q8:zs.length=(dz r).length:=e7 hz
    obtain⟨g,cap,BI,BJ,FZ,Lp,F0⟩:∃(g:Nat) (cap:Int),(-1<=cap/\cap<=9223372036854775807)/\(cap<0->ak z=[])/\(0<=cap->((ak z).length:Int)<=cap)/\
     (v=if cap<0 then Nl none 0 0 else .slice (some ⟨g,0,none⟩) (ak z).length cap.toNat)/\
     (0<=cap->N g/\∃cells,w.heap[g]?=some (.cells cells e (0,0))/\pK cells 0 sh (ak z)/\cells.size=cap.toNat*sh.length):=by
     rcases hv with⟨h3,h4⟩|⟨g,cap,cells,h3,⟨h4,h5⟩,h6,h7,e6,dZ⟩
     ·exact⟨0,-1,by omega,λ_=>h4,λh=>by omega,by simp[h3],λh=>by omega⟩
     ·exact⟨g,cap,by omega,λh=>by omega,λ_=>by omega,by rw[if_neg (by omega)];simpa using h3,λ_=>⟨h6,cells,h7,e6,by simpa using dZ⟩⟩
    have Lr:=ae cap BI.1 BI.2 (ak z).length (by omega) (by omega) (by
     simp only[c5,fD,bE,I.cS]
     rw[xU (by omega),DO])
    generalize tg:dm (dm ρ n cap) (n+1) ((ak z).length:Int)=jw at Lr
    have ha:agree n ρ jw:=by
     rw[<-tg]
     intro i hi
     rw[xU (by omega),xU hi]
    have aw:jw n=cap:=by rw[<-tg,xU (by omega),nG]
    have aD:jw (n+1)=(ak z).length:=by rw[<-tg,nG]
    have cj:jw s=z:=by rw[ha s (by omega)];exact DO
    have V3:=hm.sP hb ha
    have K9:=hb.ext ha (show n<=n+2 by omega) (bO bl.length)
    have K4:(A.rows sh (.const 0) (.var s) (.var n) 2).ok (n+2) bl.length jw:=⟨⟨I.dd _ _,I.fW (by omega),I.fW (by omega)⟩,by rw[I.cS,cj];exact⟨aB,z2⟩,by rw[I.cS,aw];exact BI⟩
    have pO:=V3.push (x:=([.rows sh (.const 0) (.var s) (.var n) 2],(e,false))) (g:=g) K9 (λy hy=>by simp at hy;subst hy;exact K4) (λax=>by cases ax) (λfX kf code' j8 sL he=>by
     cases he
     intro _
     refine⟨λh=>by rw[I.cS,aw]at h;rw[I.cS,cj];exact BJ h,λh=>?_⟩
     rw[I.cS,aw]at h
     obtain⟨an3,cells,k1,k2,k3⟩:=F0 h
     have fo:=cT g an3
     exact⟨.inr (.inr fo.2),cells,e,(0,0),k1,⟨by rw[I.br];exact cW _,by rw[I.br,I.cS,cj];exact k2⟩,λ_=>⟨rfl,I.br _ _,.L7,by rw[I.cS,aw];exact k3,fo.1,.inr fo.2⟩⟩) (λi p hi he=>by
      by_cases hc:0<=cap
      ·refine .inr (.inl ?_)
       rw[xw (hb _ (e8 hi)) ha]
       exact h2 i p hi (by rw[he];exact(F0 hc).1)
      ·refine .inr (.inr ?_)
       simp only[bM,I.cS,aw]
       rw[if_pos (by omega)])
    have V0:eX n bl.length ρ m (n+2) (bl++[([A.rows sh (.const 0) (.var s) (.var n) 2],(e,false))]).length jw (oz m bl.length g):=⟨by omega,ha,by simp,λb hb=>py hb⟩
    have FU:cY (n+2) (bl++[([A.rows sh (.const 0) (.var s) (.var n) 2],(e,false))]).length jw (bl++[([.rows sh (.const 0) (.var s) (.var n) 2],(e,false))]):=λp hp a oi=>by
     rcases List.mem_append.1 hp with hp|hp
     ·exact(K9 p hp a oi).ext (agree.refl _ _) (bO _) (by simp)
     ·simp at hp;subst hp;simp at oi;subst oi
      exact K4.ext (agree.refl _ _) (bO _) (by simp)
    have Wp:W.ok (n+2) (bl++[([A.rows sh (.const 0) (.var s) (.var n) 2],(e,false))]).length jw (.one (.sl bl.length sh.length (.const 0) (.const 0) (.var (n+1)) (.var n))):=by
     refine⟨by simp,⟨I.dd _ _,I.dd _ _,I.fW (by omega),I.fW (by omega)⟩,?_⟩
     simp only[I.cS,I.br,aw,aD]
     exact⟨by omega,by omega,λh=>by rw[BJ h];rfl,FZ⟩
    obtain⟨n',aa,m',p4,bq,g1,g2,g3,g4,g5,g6⟩:=aa8 (w0:=w0) (l:=r) (s:=s+1) (us:=us++[.one (.sl bl.length sh.length (.const 0) (.const 0) (.var (n+1)) (.var n))]) (zs:=zs) (vals:=vs) b0.1 FU pO (Vf.agree ha (by omega)) hz (by omega) hat (λu hu=>by
     rcases List.mem_append.1 hu with hu|hu
     ·exact(vx u hu).ext ha (by omega) (by simp)
     ·simp at hu;subst hu;exact Wp) Lr
    refine⟨n',aa,m',p4,bq,V0.trans g1,g2,g3,?_,g5,g6⟩
    rw[g4,jf,nI]
    congr 1
    ·exact kD λu hu=>W.oL (vx u hu) ha (λb hb=>py hb)
    ·simp only[c5,fD,mY,gp,W.den,A.den,I.cS,I.br,aw,aD,p3]
     rw[Lp]
     simp
where
 aa8 {w0:eG} {F N:Nat->Prop}:∀{l:List cN} {s n:Nat} {us:List W} {bl:List aE} {k:Nat->List W->List aE->T} {G:e2} {ρ:Env} {m:Nat->Nat} {w:aC} {zs:List Int} {vals:List aV},
  (l.all cN.Gl)=true->cY n bl.length ρ bl->Mem w0 ρ m bl w->jT ρ s zs->af (dz l) zs->s+(dz l).length<=n->nM F N w l zs vals->
  (∀u∈us,W.ok n bl.length ρ u)->
  (yA l s n us bl k).holds S L G ρ->∃n' aa m' p4 bq,eX n bl.length ρ m n' (qa bq) aa m'/\cY n' bq.length aa bq/\Mem w0 aa m' bq w/\p4.map (W.den aa m')=us.map (W.den ρ m)++vals/\(∀u∈p4,W.ok n' bq.length aa u)/\(k n' p4 bq).holds S L G aa
 |[],s,n,us,bl,k,G,ρ,m,w,zs,vals,_,hb,hm,_,_,_,hat,vx,ae=>by
  match vals,hat with
  |[],_=>exact⟨n,ρ,m,us,bl,eX.refl _ _ _ _,hb,hm,by simp,vx,ae⟩
 | .d x::r,s,n,us,bl,k,G,ρ,m,w,zs,vals,b0,hb,hm,aU,hz,hn,hat,vx,ae=>by
  match vals,hat with
  |v::vs,hat=>
   obtain⟨hv,hat⟩:=hat
   have hv:v=x.val zs:=hv
   simp only[dz,cN.bds]at hz hn
   simp only[fQ]at hn
   obtain⟨i1,i2⟩:=Ax hz
   rw[D.Kf]at i1 i2 hn
   have hs:=D.MZ (ρ:=ρ) (m:=m) (N:=n) (nb:=bl.length) x i1 aU (by omega)
   obtain⟨n',aa,m',p4,bq,g1,g2,g3,g4,g5,g6⟩:=aa8 (l:=r) (s:=s+x.num) (us:=us++[x.sym s]) (zs:=zs.drop x.num) (by simpa [cN.Gl]using b0) hb hm (aU.drop x.num) i2 (by omega) hat (λu hu=>by
    rcases List.mem_append.1 hu with hu|hu
    ·exact vx u hu
    ·simp at hu;subst hu;exact hs.1) ae
   exact⟨n',aa,m',p4,bq,g1,g2,g3,by rw[g4,jf,hv];simp[hs.2],g5,g6⟩
 | .rd _::_,_,_,_,_,_,_,_,_,_,_,_,b0,_,_,_,_,_,_,_,_=>by simp[cN.Gl]at b0
 | .sO _ _::_,_,_,_,_,_,_,_,_,_,_,_,b0,_,_,_,_,_,_,_,_=>by simp[cN.Gl]at b0
end
end Go.ch
namespace Go.ch
open M
theorem Qn (x:Nat) (r:List Nat):lc (x::r)=2^x*(2*lc r+1):=rfl
theorem arK (x:Nat) (r:List Nat):lc r<=lc (x::r):=by
 rw[Qn]
 have h1:1<=2^x:=Nat.one_le_two_pow
 have h2:2*lc r+1<=2^x*(2*lc r+1):=Nat.le_mul_of_pos_left _ h1
 omega
theorem afQ:∀(a:Nat) (l:List Nat),lc (l.drop a)<=lc l
 |0,l=>by simp
 |a+1,[]=>by simp
 |a+1,x::r=>by rw[List.drop_succ_cons];exact oE (afQ a r) (arK x r)
theorem afR:∀(k:Nat) (l:List Nat),lc (l.take k)<=lc l
 |0,l=>by simp[lc]
 |k+1,[]=>by simp
 |k+1,x::r=>by
  rw[List.take_succ_cons,Qn,Qn]
  exact RP _ (by have:=afR k r;omega)
theorem ag9 (l:List (List Int)) (a k:Nat):rc ((l.drop a).take k)<=rc l:=by
 unfold rc
 rw[JN,JO]
 exact_mod_cast oE (afR k _) (afQ a _)
theorem aB6 (n:Nat):Bf (EA n)=n:=by
 unfold Bf EA
 by_cases h:n% 2=0
 ·rw[if_pos h,if_pos (by omega)];omega
 ·rw[if_neg h,if_neg (by omega)];omega
theorem aik:∀(f n:Nat),0<n->n<=f->n=2^tt f n*(2*(n/2^tt f n/2)+1)
 |0,n,h,bd=>by omega
 |f+1,n,h,bd=>by
  unfold tt
  by_cases hn:n% 2=0
  ·rw[if_pos hn]
   have ih:=aik f (n/2) (by omega) (by omega)
   have e:n/2^(tt f (n/2)+1)=n/2/2^tt f (n/2):=by rw[yq,zy,Nb]
   rw[e,yq,zy (2^_) 2,RE,<-ih];omega
  ·rw[if_neg hn];simp;omega
theorem WY:∀(f n:Nat),n<=f->lc (bN f n)=n
 |0,n,h=>by
  have:n=0:=by omega
  subst this;rfl
 |f+1,n,h=>by
  unfold bN
  by_cases hn:n=0
  ·rw[if_pos hn,hn];rfl
  ·rw[if_neg hn,Qn]
   have hp:0<2^tt n n:=G7 _
   have hd:n/2^tt n n/2<=f:=by
    have h1:n/2^tt n n<=n:=aA5 _ _
    omega
   rw[WY f _ hd]
   exact(aik n n (by omega) (bO _)).symm
theorem ag8 {z:Int} (h:0<=z):rc (ak z)=z:=by
 unfold rc ak
 rw[p8]
 have e:((λrow:List Int=>lc (row.map Bf))∘λn=>(bN n n).map EA)=id:=by
  funext n
  simp only[Nh,p8,id]
  have:(Bf∘EA)=id:=by funext k;exact aB6 k
  rw[this,Ng,WY n n (bO _)]
 rw[e,Ng,WY _ _ (bO _)]
 omega
def qU:V->List Nat
 | .w (.one (.sl b _ _ _ _ _))=>[b]
 | .w (.one (.slc b _ _ _))=>[b]
 |_=>[]
def Ug (cap e5:I):M Unit:=cond (I.beq cap e5) (pure ()) (gS 40 [cap,e5])
noncomputable def QY (sh:List aN) (bl:List aE) (v:V):M I:=
 match v with
 | .w (.one (.con (.slice none 0 0)))=>pure (.const 0)
 | .w (.one (.sl b bz o ro len cap))=>match bl[b]? with
  |some ([.rows fX off code e5 kind],_)=>cond (dP 0 kind&&tp sh fX&&I.beq o off&&aM bz sh.length) (bind (gS 22 [code,ro,ro.add len]) λ_=>bind (Ug cap e5) λ_=>fV 22 [code,ro,ro.add len] 0 bU) fail
  |_=>fail
 | .w (.one (.slc b off len cap))=>match xj bl b off (len*sh.length)with
  |some cs=>cond (qC sh&&cK len 1073741824&&cK len cap&&cK cap 9223372036854775807) (C1 sh (rI sh.length len cs) (.const 0)) fail
  |none=>fail
 |_=>fail
noncomputable def XE (sh:List aN) (e:bp) (bl:List aE) (v:V):M I:=
 match v with
 | .w (.one (.con (.slice none 0 0)))=>pure (.const 0)
 | .w (.one (.sl b bz o ro len cap))=>match bl[b]? with
  |some ([.rows fX off code e5 kind],t)=>cond (aM kind 2&&tp sh fX&&I.beq o (.const 0)&&I.beq off (.const 0)&&I.beq ro (.const 0)&&I.beq cap e5&&aM bz sh.length&&aM t.1 e) (bind (gS 22 [code,.const 0,len]) λ_=>fV 22 [code,.const 0,len] 0 bU) fail
  |_=>fail
 | .w (.one (.slc b off len cap))=>match bl[b]? with
  |some (C,t)=>match xj bl b off (len*sh.length)with
   |some cs=>cond (qC sh&&cK len 1073741824&&cK len cap&&cK cap 9223372036854775807&&aM off 0&&aM C.length (cap*sh.length)&& !t.2&&aM t.1 e) (C1 sh (rI sh.length len cs) (.const 0)) fail
   |none=>fail
  |none=>fail
 |_=>fail
def xR:V->List Nat
 | .w (.one (.slc b _ _ _))=>[b]
 |_=>[]
def uf (w0:eG) (ρ:Env) (m:Nat->Nat) (bl:List aE) (bs os:List Nat) (g:Nat):Prop:=
 (∃b∈bs,m b=g/\∃p,bl[b]?=some p/\bM ρ p.1≠0/\(cc p.1=true->b∈os))/\(w0.ex g∨w0.ro g∨w0.r.heap.size<=g)
section
variable {S:Nat->List Int->List Int->Prop} {L:V->Env->Prop} {n:Nat} {ρ:Env} {m:Nat->Nat} {bl:List aE} {gl:fa} {w0:eG} {P:bV} {w:aC}
theorem Bk.mono {F CS:Nat->Prop} {sh:List aN} {rows:List (List Int)} {v:aV} (h:Bk F w sh rows v) (hF:∀g,F g->CS g):Bk CS w sh rows v:=by
 rcases h with h|⟨g,o,cap,cells,t,fz,h1,h2,h3,h4⟩
 ·exact .inl h
 ·exact .inr ⟨g,o,cap,cells,t,fz,h1,h2,hF g h3,h4⟩
theorem ahY {b off len:Nat} {C:List A} {t:bp×Bool} {cs:List A} {sh:List aN} {rows:List (List Int)} (hb:cY n bl.length ρ bl) (hw:Mem w0 ρ m bl w) (aX:bl[b]?=some (C,t)) (db:xj bl b off (len*sh.length)=some cs)
 (m5:∀row∈rows,cF sh row) (kU:ca sh rows=cs.map (A.den ρ m)):w0.b.heap.size<=m b/\(w0.ex (m b)∨w0.r.heap.size<=m b)/\∃cells:Array aV,w.heap[m b]?=some (.cells cells t.1 (0,0))/\pK cells off sh rows/\(t.2=false->cells.size=C.length):=by
 unfold xj at db
 rw[aX]at db
 simp only at db
 cases hc:(cK (off+len*sh.length) C.length&&cc C)with
 |false=>rw[hc]at db;cases db
 |true=>
  rw[hc]at db
  simp only[cond_true,bb]at db
  simp only[bw]at hc
  have hle:=fP hc.1
  obtain⟨g1,g2,r,hr,g3⟩:=hw.fT b C t aX hc.2
  refine⟨g1,g2,_,g3,⟨m5,(C.take off).map (A.den ρ m),((C.drop off).drop (len*sh.length)).map (A.den ρ m)++r,?_,by simp;omega⟩,λaA=>by rw[hr aA];simp⟩
  rw[kU,<-db]
  show C.map (A.den ρ m)++r=_
  have e:C=C.take off++((C.drop off).take (len*sh.length)++(C.drop off).drop (len*sh.length)):=by rw[o2,o2]
  conv=>lhs;rw[e]
  simp only[jf,nI]
theorem MK:ak ((I.const 0).den ρ)=[]:=by rw[I.br];exact oW
theorem zN:(0:Int)<=bU:=CI (jR []) (uh (l:=[]) (by simp) (by simp))
theorem ahX {sh:List aN} {len:Nat} {cs:List A} (lR:qC sh=true) (hl:len<=1073741824) (b0:∀a∈cs,A.ok n bl.length ρ a) (oO:cs.length=len*sh.length):
 az S L (C1 sh (rI sh.length len cs) (.const 0)) n ρ λaa n' l=>l.bG n'/\(0<=l.den aa/\l.den aa<=bU)/\(ak (l.den aa)).length=len/\(∀row∈ak (l.den aa),cF sh row)/\ca sh (ak (l.den aa))=cs.map (A.den ρ m):=by
 have pd:=Kr (w:=sh.length) (k:=len) oO
 refine(Kc (nb:=bl.length) (m:=m) lR (rs:=rI sh.length len cs) (c:= .const 0) (λrow hr a ha=>b0 a (Ks row hr a ha)) (I.dd _ _) (by rw[I.br];exact⟨cW _,zN⟩) (by rw[MK];intro _ h;simp at h) (by rw[MK,pd.1];simpa using hl)).mono λaQ a1 l hn ha ⟨cz,cw,eA,dc,fC,fN,gH⟩=>?_
 rw[MK,gp]at dc
 rw[dc]
 exact⟨cz,cw,by rw[fC,pd.1],fN,by rw[gH,pd.2]⟩
theorem alp {cap e5:I} {α:Type} {x:M α} {R:Env->Nat->α->Prop} (h:(0<=cap.den ρ->0<=e5.den ρ)->az S L x n ρ R):az S L (bind (Ug cap e5) λ_=>x) n ρ R:=by
 unfold Ug
 cases hc:I.beq cap e5 with
 |true=>exact h (by rw[I.beq_eq hc];exact id)
 |false=>exact jL h
theorem aha {sh:List aN} {v:V} {X:aV} (hb:cY n bl.length ρ bl) (hw:Mem w0 ρ m bl w) (hv:v.ok n bl.length ρ) (b3:v.rel ρ m X):
 az S L (QY sh bl v) n ρ λaa n' l=>l.bG n'/\(0<=l.den aa/\l.den aa<=bU)/\Bk (uf w0 ρ m bl (qU v) (xR v)) w sh (ak (l.den aa)) X:=by
 unfold QY
 split
 ·refine az.pure ⟨I.dd _ _,by rw[I.br];exact⟨cW _,zN⟩,.inl ⟨b3,MK⟩⟩
 ·rename_i b bz o ro len cap
  split
  ·rename_i fX off code e5 kind t aX
   refine eI λhc=>jL λab=>?_
   simp only[bw]at hc
   obtain⟨⟨⟨c1,bK⟩,cy⟩,c3⟩:=hc
   have c1:0<kind:=fP c1
   have bK:=Ex bK;have cy:=I.beq_eq cy;have c3:=bR c3
   subst bK;subst cy;subst c3
   simp only[c5,fD,ar,I.den_add]at ab
   have LM:(A.sl b sh.length o ro len cap).ok n bl.length ρ:=hv
   obtain⟨ptr,aw,aD,cj⟩:=wj (m:=m) LM
   have b3:X=(A.sl b sh.length o ro len cap).den ρ m:=b3
   obtain⟨ag,⟨ad,ao,cZ,iV⟩,⟨jG,n7,n8,n9⟩,⟨oA,n6⟩,gX,jF⟩:=LM
   have gD:(A.rows sh o code e5 kind).ok n bl.length ρ:=hb _ (e8 aX) _ (by simp)
   have hf:bE 22 ([code,ro,ro.add len].map (·.den ρ))=rc (((ak (code.den ρ)).drop (ro.den ρ).toNat).take (len.den ρ).toNat):=by
    simp only[c5,fD,bE,I.den_add]
    congr 2;omega
   have iA:rc (((ak (code.den ρ)).drop (ro.den ρ).toNat).take (len.den ρ).toNat)<=bU:=by
    have h1:=ag9 (ak (code.den ρ)) (ro.den ρ).toNat (len.den ρ).toNat
    rw[ag8 gD.2.1.1]at h1
    exact CI h1 gD.2.1.2
   refine alp λFV=>?_
   refine(iP (by rw[hf];exact jR _) (by rw[hf];exact iA)).mono λaQ a1 l hn ha ⟨k1,k2⟩=>?_
   rw[hf]at k2
   refine⟨k1,by rw[k2];exact⟨jR _,iA⟩,?_⟩
   rw[k2,kh]
   have hlen:(((ak (code.den ρ)).drop (ro.den ρ).toNat).take (len.den ρ).toNat).length=(len.den ρ).toNat:=by simp;omega
   rcases od (cap.den ρ) 0 with df|df
   ·left
    have:=gX df
    refine⟨by rw[b3,aw,aD df,if_pos df,this];rfl,by rw[this];simp⟩
   ·right
    clear iA
    rcases od (e5.den ρ) 0 with BF|BF
    ·have:=FV df;omega
    ·obtain⟨e4,cells,nq,fz,bm,⟨cb,cJ⟩,_⟩:=(hw.rws b sh o code e5 kind t aX (by omega)).2 BF
     refine⟨m b,(o.den ρ).toNat+(ro.den ρ).toNat*sh.length,(cap.den ρ).toNat,cells,nq,fz,?_,⟨by rw[hlen];have:=jF df;omega,by omega⟩,⟨⟨b,by simp[qU],rfl,_,aX,by rw[vB (by omega) BF];omega,λh=>by cases h⟩,e4⟩,bm,?_⟩
     ·rw[b3,aw,cj df,hlen,if_neg (by omega)]
     ·exact cJ.sub _ _ (by omega)
  ·exact az.fail
 ·rename_i b off len cap
  split
  ·rename_i cs db
   refine eI λhc=>?_
   simp only[bw]at hc
   obtain⟨⟨⟨c1,bK⟩,cy⟩,c3⟩:=hc
   have bK:=fP bK;have cy:=fP cy;have c3:=fP c3
   obtain⟨d1,d2,d3⟩:=Im hw hb db
   refine(ahX (m:=m) c1 bK d2 d1).mono λaQ a1 l hn ha ⟨k1,k2,k3,k4,ux⟩=>⟨k1,k2,.inr ?_⟩
   have b3:X= .slice (some ⟨m b,off,none⟩) len cap:=b3
   cases aX:bl[b]? with
   |none=>unfold xj at db;rw[aX]at db;cases db
   |some q=>
    obtain⟨C,t⟩:=q
    obtain⟨g1,g2,cells,g3,g4,_⟩:=ahY hb hw aX db k4 ux
    have pe:cc C=true:=by
     unfold xj at db
     rw[aX]at db
     simp only at db
     cases hc:(cK (off+len*sh.length) C.length&&cc C)with
     |false=>rw[hc]at db;cases db
     |true=>simp only[bw]at hc;exact hc.2
    exact⟨m b,off,cap,cells,t.1,(0,0),by rw[b3,k3],⟨by omega,by omega⟩,⟨⟨b,by simp[qU],rfl,_,aX,by rw[oq pe];decide,λ_=>by simp[xR]⟩,g2.elim .inl λh=> .inr (.inr h)⟩,g3,g4⟩
  ·exact az.fail
 ·exact az.fail
theorem atN {sh:List aN} {e:bp} {v:V} {X:aV} (hex:∀g,¬w0.ex g) (hb:cY n bl.length ρ bl) (hw:Mem w0 ρ m bl w) (hv:v.ok n bl.length ρ) (b3:v.rel ρ m X):
 az S L (XE sh e bl v) n ρ λaa n' l=>l.bG n'/\(0<=l.den aa/\l.den aa<=bU)/\E0 (λg=>w0.r.heap.size<=g) w sh e (ak (l.den aa)) X:=by
 unfold XE
 split
 ·refine az.pure ⟨I.dd _ _,by rw[I.br];exact⟨cW _,zN⟩,.inl ⟨b3,MK⟩⟩
 ·rename_i b bz o ro len cap
  split
  ·rename_i fX off code e5 kind t aX
   refine eI λhc=>jL λab=>?_
   simp only[bw]at hc
   obtain⟨⟨⟨⟨⟨⟨⟨c1,bK⟩,cy⟩,Og⟩,Uc⟩,hH⟩,c3⟩,fh⟩:=hc
   have c1:=bR c1
   have bK:=Ex bK;have cy:=I.beq_eq cy;have Og:=I.beq_eq Og;have Uc:=I.beq_eq Uc;have hH:=I.beq_eq hH;have c3:=bR c3;have fh:=bR fh
   subst bK;subst cy;subst c3;subst Og;subst Uc;subst hH;subst fh;subst c1
   simp only[c5,fD,ar,I.br]at ab
   have LM:(A.sl b sh.length (.const 0) (.const 0) len cap).ok n bl.length ρ:=hv
   obtain⟨ptr,aw,aD,cj⟩:=wj (m:=m) LM
   have b3:X=(A.sl b sh.length (.const 0) (.const 0) len cap).den ρ m:=b3
   obtain⟨ag,⟨ad,ao,cZ,iV⟩,⟨jG,n7,n8,n9⟩,⟨oA,n6⟩,gX,jF⟩:=LM
   rw[I.br]at n6
   have gD:(A.rows sh (.const 0) code cap 2).ok n bl.length ρ:=hb _ (e8 aX) _ (by simp)
   have hf:bE 22 ([code,.const 0,len].map (·.den ρ))=rc (((ak (code.den ρ)).drop 0).take (len.den ρ).toNat):=by
    simp only[c5,fD,bE,I.br]
    congr 2
   have iA:rc (((ak (code.den ρ)).drop 0).take (len.den ρ).toNat)<=bU:=by
    have h1:=ag9 (ak (code.den ρ)) 0 (len.den ρ).toNat
    rw[ag8 gD.2.1.1]at h1
    exact CI h1 gD.2.1.2
   refine(iP (by rw[hf];exact jR _) (by rw[hf];exact iA)).mono λaQ a1 l hn ha ⟨k1,k2⟩=>?_
   rw[hf]at k2
   refine⟨k1,by rw[k2];exact⟨jR _,iA⟩,?_⟩
   rw[k2,kh]
   have hlen:(((ak (code.den ρ)).drop 0).take (len.den ρ).toNat).length=(len.den ρ).toNat:=by simp;omega
   rcases od (cap.den ρ) 0 with df|df
   ·left
    have:=gX df
    refine⟨by rw[b3,aw,aD df,if_pos df,this];rfl,by rw[this];simp⟩
   ·right
    clear iA
    obtain⟨e4,cells,nq,fz,bm,⟨cb,cJ⟩,et⟩:=(hw.rws b sh (.const 0) code cap 2 t aX (by omega)).2 df
    obtain⟨p0,cz,cw,dc,fC,fN⟩:=et (by omega)
    have cw:=cw.two
    subst p0;subst cw
    rw[I.br]at cJ
    refine⟨m b,(cap.den ρ).toNat,cells,?_,⟨by rw[hlen];have:=jF df;omega,by omega⟩,fN.elim (λh=>absurd h (hex _)) id,bm,?_,dc⟩
    ·rw[b3,aw,cj df,hlen,if_neg (by omega)];simp[I.br]
    ·have:=cJ.sub 0 (len.den ρ).toNat (by omega)
     simpa using this
  ·exact az.fail
 ·rename_i b off len cap
  split
  ·rename_i C t aX
   split
   ·rename_i cs db
    refine eI λhc=>?_
    simp only[bw]at hc
    obtain⟨⟨⟨⟨⟨⟨⟨c1,bK⟩,cy⟩,c3⟩,fh⟩,hH⟩,qi⟩,pN⟩:=hc
    have bK:=fP bK;have cy:=fP cy;have c3:=fP c3
    have fh:=bR fh;have hH:=bR hH;have pN:=bR pN
    subst fh;subst pN
    obtain⟨d1,d2,d3⟩:=Im hw hb db
    refine(ahX (m:=m) c1 bK d2 d1).mono λaQ a1 l hn ha ⟨k1,k2,k3,k4,ux⟩=>⟨k1,k2,.inr ?_⟩
    have b3:X= .slice (some ⟨m b,0,none⟩) len cap:=b3
    obtain⟨g1,g2,cells,g3,g4,g5⟩:=ahY hb hw aX db k4 ux
    exact⟨m b,cap,cells,by rw[b3,k3],⟨by omega,by omega⟩,g2.elim (λh=>absurd h (hex _)) id,g3,g4,by rw[g5 (by simpa using qi),hH]⟩
   ·exact az.fail
  ·exact az.fail
 ·exact az.fail
end
def UZ (d:D) (v:V):M (List I):=
 match d,v with
 | .bool,.w (.one (.bool e))=>match e with
  | .lit v=>pure [.const (cond v 1 0)]
  |e=>bind (Gi e) λl=>pure [l]
 | .int k lo hi,.w (.one (.int bD x))=>cond (decide (k=bD)) (cond (tD lo hi x) (pure [x.l]) (bind (gS 39 [x.l,.const lo,.const hi]) λ_=>pure [x.l])) fail
 | .mix l,.w (.agg s)=>Cu l s
 | .str,.w (.one (.str l))=>pure [l]
 | .ze l,.w (.one (.str x))=>match x.eN with|some c=>cond (decide (c=j7 (xv l))) (pure []) fail|none=>fail
 | .ph k c,.w (.one (.int bD x))=>match x.l.eN with|some d=>cond (decide (k=bD)&&decide (d=c)) (pure []) fail|none=>fail
 | .agg k n lo hi,.w (.agg l)=>cond (aM l.length n) (match pa k lo hi l with|some r=>pure r|none=>fail) fail
 |_,_=>fail
noncomputable def FD (bl:List aE):List cN->List V->M (List I)
 |[],[]=>pure []
 | .d x::r,v::s=>bind (UZ x v) λa=>bind (FD bl r s) λb=>pure (a++b)
 | .rd sh::r,v::s=>bind (QY sh bl v) λa=>bind (FD bl r s) λb=>pure (a::b)
 |_,_=>fail
section
variable {S:Nat->List Int->List Int->Prop} {L:V->Env->Prop} {w0:eG} {P:bV} {w:aC}
theorem Ye:∀{sh:List aN} {zs:List Int},cF sh zs->af (sh.map aN.ga) zs/\uW aN.val sh zs=dr sh zs
 |[],[],_=>⟨trivial,rfl⟩
 |c::sh,z::zs,h=>⟨⟨h.1.1,h.1.2,(Ye h.2).1⟩,by simp[dr,(Ye h.2).2]⟩
 |[],_::_,h=>h.elim
 |_::_,[],h=>h.elim
theorem amJ {d:D} {v:V} {X:aV} {n nb:Nat} {ρ:Env} {m:Nat->Nat} (hv:v.ok n nb ρ) (b3:v.rel ρ m X):az S L (UZ d v) n ρ λaa n' ls=>(∀x∈ls,I.bG n' x)/\af d.bds (ls.map (·.den aa))/\X=d.val (ls.map (·.den aa)):=by
 unfold UZ
 split
 ·rename_i e
  have b3:X= .bool (e.den ρ):=b3
  have key:az S L (bind (Gi e) λl=>pure [l]) n ρ λaa n' ls=>(∀x∈ls,I.bG n' x)/\af D.bool.bds (ls.map (·.den aa))/\X=D.bool.val (ls.map (·.den aa)):=
   Qa.bind λaQ a1 l hn ha ⟨g1,g2,g3⟩=>az.pure ⟨λx hx=>by simp at hx;subst hx;exact g1,⟨g2.1,g2.2,trivial⟩,by rw[b3,g3];rfl⟩
  cases e with
  |lit b=>
   refine az.pure ⟨λx hx=>by simp at hx;subst hx;exact I.dd _ _,?_,?_⟩
   ·simp only[c5,fD,I.br,D.bds];cases b<;>exact⟨by decide,by decide,trivial⟩
   ·rw[b3];simp only[c5,fD,I.br];cases b<;>rfl
  |_=>exact key
 ·rename_i k lo hi bD x
  refine eI λab=>?_
  have ab:k=bD:=by simpa using ab
  subst ab
  have hv:x.ok n ρ:=hv
  have b3:X= .int k (x.l.den ρ):=b3
  cases hf:tD lo hi x with
  |true=>
   have:=KQ hf hv
   exact az.pure ⟨λy hy=>by simp at hy;subst hy;exact hv.1,⟨this.1,this.2,trivial⟩,b3⟩
  |false=>
   refine jL λab=>az.pure ?_
   simp only[c5,fD,ar,I.br]at ab
   exact⟨λy hy=>by simp at hy;subst hy;exact hv.1,⟨ab.1,ab.2,trivial⟩,b3⟩
 ·rename_i l s
  have b3:X= .agg (s.map (A.den ρ m)).toArray:=b3
  refine(Jn (nb:=nb) (m:=m) hv).mono λaQ a1 ls hn ha ⟨g1,g2,g3⟩=>?_
  have:=Ye g2
  refine⟨g1,this.1,?_⟩
  rw[b3,<-g3]
  simp only[D.val,this.2]
 ·rename_i l
  have b3:X= .string (dY (bx (l.den ρ))):=b3
  have hv:l.bG n/\0<=l.den ρ/\l.den ρ<=qR:=hv
  exact az.pure ⟨λy hy=>by simp at hy;subst hy;exact hv.1,⟨hv.2.1,hv.2.2,trivial⟩,b3⟩
 ·rename_i l x
  have b3:X= .string (dY (bx (x.den ρ))):=b3
  cases hc:x.eN with
  |none=>exact az.fail
  |some c=>
   refine eI λhd=>az.pure ⟨λy hy=>by simp at hy,trivial,?_⟩
   rw[b3,ah7 (n:=n) hc (by simpa using hd)];rfl
 ·rename_i k c bD x
  have b3:X= .int bD (x.l.den ρ):=b3
  cases hc:x.l.eN with
  |none=>exact az.fail
  |some d=>
   refine eI λhd=>az.pure ⟨λy hy=>by simp at hy,trivial,?_⟩
   simp only[bw,decide_eq_true_eq]at hd
   rw[b3,I.km hc,<-hd.1,hd.2];rfl
 ·rename_i k n' lo hi l
  refine eI λab=>?_
  have ab:=bR ab
  have b3:X= .agg (l.map (A.den ρ m)).toArray:=b3
  cases hf:pa k lo hi l with
  |none=>exact az.fail
  |some r=>
   obtain⟨g1,g2,g3⟩:=Pm (m:=m) hf hv
   rw[ab]at g2
   refine az.pure ⟨UX hf hv,g2,?_⟩
   rw[b3,g3]
   simp only[D.val]
   rw[uU (by simp[g1,ab])]
 ·exact az.fail
theorem af2 {n:Nat} {ρ aa:Env} {ls:List I} (h:∀x∈ls,I.bG n x) (ha:agree n ρ aa):ls.map (·.den aa)=ls.map (·.den ρ):=kD λx hx=>I.b5 ha (h x hx)
theorem uf.later {n nb:Nat} {ρ aa:Env} {m:Nat->Nat} {bl:List aE} {bs os:List Nat} {g:Nat} (hb:cY n nb ρ bl) (ha:agree n ρ aa) (h:uf w0 aa m bl bs os g):uf w0 ρ m bl bs os g:=by
 obtain⟨⟨b,h1,h2,p,h3,h4,h6⟩,h5⟩:=h
 exact⟨⟨b,h1,h2,p,h3,by rw[<-xw (hb p (e8 h3)) ha];exact h4,h6⟩,h5⟩
theorem Pn {bl:List aE} {m:Nat->Nat}:∀{ds:List cN} {vs:List V} {xs:List aV} {n:Nat} {ρ:Env},cY n bl.length ρ bl->Mem w0 ρ m bl w->(∀v∈vs,V.ok n bl.length ρ v)->fb ρ m vs xs->
 az S L (FD bl ds vs) n ρ λaa n' ls=>(∀x∈ls,I.bG n' x)/\af (dz ds) (ls.map (·.den aa))/\∀F:Nat->Prop,(∀g,uf w0 ρ m bl (vs.flatMap qU) (vs.flatMap xR) g->F g)->nM F (λ_=>False) w ds (ls.map (·.den aa)) xs
 |[],[],[],n,ρ,_,_,_,_=>az.pure ⟨λ_ h=>by simp at h,trivial,λ_ _=>trivial⟩
 | .d x::r,v::s,X::xs,n,ρ,hb,hw,hv,hr=>by
  unfold FD
  refine(amJ (hv v (by simp)) hr.1).bind λaQ a1 a hn ha ⟨g1,g2,g3⟩=>?_
  refine(Pn (ds:=r) (vs:=s) (xs:=xs) (hb.ext ha hn (bO _)) (hw.sP hb ha) (λu hu=>(hv u (eB _ hu)).ext ha hn (bO _)) (fb.later (λu hu=>hv u (eB _ hu)) ha hr.2)).bind λbW ff b fo eb ⟨k1,k2,k3⟩=>az.pure ⟨λy hy=>?_,?_,λF hF=>?_⟩
  ·rcases List.mem_append.1 hy with hy|hy
   ·exact(g1 y hy).mono fo
   ·exact k1 y hy
  ·rw[jf,af2 g1 eb]
   exact qt g2 k2
  ·have hl:(a.map (·.den aQ)).length=x.num:=by rw[e7 g2,D.Kf]
   rw[jf,af2 g1 eb]
   refine⟨?_,?_⟩
   ·show X=x.val _
    rw[D.aiq x hl];exact g3
   ·show nM F _ w r (List.drop x.num _) xs
    rw[<-hl,EN]
    exact k3 F λg hg=>hF g (by
     have:=uf.later hb ha hg
     obtain⟨⟨b',h1,h2,p,h4,h5,h6⟩,h3⟩:=this
     exact⟨⟨b',by simp only[uY,yo];exact .inr h1,h2,p,h4,h5,λh=>by simp only[uY,yo];exact .inr (h6 h)⟩,h3⟩)
 | .rd sh::r,v::s,X::xs,n,ρ,hb,hw,hv,hr=>by
  unfold FD
  refine(aha hb hw (hv v (by simp)) hr.1).bind λaQ a1 a hn ha ⟨g1,g2,g3⟩=>?_
  refine(Pn (ds:=r) (vs:=s) (xs:=xs) (hb.ext ha hn (bO _)) (hw.sP hb ha) (λu hu=>(hv u (eB _ hu)).ext ha hn (bO _)) (fb.later (λu hu=>hv u (eB _ hu)) ha hr.2)).bind λbW ff b fo eb ⟨k1,k2,k3⟩=>az.pure ⟨λy hy=>?_,?_,λF hF=>?_⟩
  ·rcases List.mem_cons.1 hy with rfl|hy
   ·exact g1.mono fo
   ·exact k1 y hy
  ·simp only[c5,I.b5 eb g1]
   exact⟨g2.1,g2.2,k2⟩
  ·simp only[c5,I.b5 eb g1]
   refine⟨?_,?_⟩
   ·show Bk F w sh (ak _) X
    exact g3.mono λg hg=>hF g (by
     obtain⟨⟨b',h1,h2,p,h4,h5,h6⟩,h3⟩:=hg
     exact⟨⟨b',by simp only[uY,yo];exact .inl h1,h2,p,h4,h5,λh=>by simp only[uY,yo];exact .inl (h6 h)⟩,h3⟩)
   ·exact k3 F λg hg=>hF g (by
     have:=uf.later hb ha hg
     obtain⟨⟨b',h1,h2,p,h4,h5,h6⟩,h3⟩:=this
     exact⟨⟨b',by simp only[uY,yo];exact .inr h1,h2,p,h4,h5,λh=>by simp only[uY,yo];exact .inr (h6 h)⟩,h3⟩)
 |[],_::_,_,_,_,_,_,_,_=>az.fail
 | .d _::_,[],_,_,_,_,_,_,_=>az.fail
 | .rd _::_,[],_,_,_,_,_,_,_=>az.fail
 | .sO _ _::_,[],_,_,_,_,_,_,_=>az.fail
 | .sO _ _::_,_::_,_,_,_,_,_,_,_=>az.fail
 |_,[],_::_,_,_,_,_,_,hr=>hr.elim
 |_,_::_,[],_,_,_,_,_,hr=>hr.elim
where
 fb.later {n nb:Nat} {ρ aa:Env} {m:Nat->Nat}:∀{vs:List V} {xs:List aV},(∀v∈vs,V.ok n nb ρ v)->agree n ρ aa->fb ρ m vs xs->fb aa m vs xs
 |[],[],_,_,_=>trivial
 |v::vs,x::xs,hv,ha,hr=>⟨V.rel.ext hr.1 (hv v (by simp)) ha (λ_ _=>rfl),fb.later (λu hu=>hv u (eB _ hu)) ha hr.2⟩
 |[],_::_,_,_,hr=>hr.elim
 |_::_,[],_,_,hr=>hr.elim
end
end Go.ch
namespace Go.ch
open M
def DK:List Nat->List aE->List aE
 |[],bl=>bl
 |b::r,bl=>match bl[b]? with
  |some ([.rows sh off code cap (k+1)],t)=>DK r (dN bl b ([.rows sh off code cap 1],t))
  |_=>DK r bl
def Eu (us:List W):V:=match us with|[u]=> .w u|l=> .iU l
def AJ:List V->Bool
 |[]=>true
 | .w (.one (.slc ..))::_=>false
 |_::r=>AJ r
noncomputable def fE.JZ (c:fE) (n:Nat) (vs:List V) (bl:List aE) (k:RK):T:=
 FD bl c.args vs n λls a1=>cond (sZ c.res&&(!(c.res.any cN.rU)||AJ vs)) (XN c.pre ls (.call c.id ls a1 (dz c.res) (yA c.res a1 (a1+(dz c.res).length) [] (cond (c.res.any cN.rU) (DK (vs.flatMap qU) bl) bl) λff us sC=>k ff (Eu us) sC))) .stuck
def ajg (sh:List aN) (b:Nat):V:= .w (.one (.sl b sh.length (.const 0) (.const 0) (.const 0) (.const 0)))
def Zf (rd:Bool) (sh:List aN) (b:Nat) (bl:List aE):Option (List aE):=
 match bl[b]? with
 |some ([],(t,false))=>cond rd (some (dN bl b ([.rows sh (.const 0) (.const 0) (.const 0) 1],(t,false)))) none
 |some ([.rows fX off code cap kind],t)=>cond (tp sh fX&&I.beq off (.const 0)&&I.beq cap (.const 0)&&dP 0 kind) (some bl) none
 |_=>none
def oZ (rd:Bool):List cN->List V->List aE->List V×List aE
 | .rd sh::r,v::s,bl=>match v with
  | .w (.one (.slc b 0 0 0))=>match Zf rd sh b bl with
   |some tC=>(ajg sh b::(oZ rd r s tC).1,(oZ rd r s tC).2)
   |none=>(v::(oZ rd r s bl).1,(oZ rd r s bl).2)
  |_=>(v::(oZ rd r s bl).1,(oZ rd r s bl).2)
 |_::r,v::s,bl=>(v::(oZ rd r s bl).1,(oZ rd r s bl).2)
 |_,vs,bl=>(vs,bl)
noncomputable def fE.E (c:fE) (n:Nat) (vs:List V) (bl:List aE) (k:RK):T:=
 c.JZ n (oZ (c.res.any cN.rU) c.args vs bl).1 (oZ (c.res.any cN.rU) c.args vs bl).2 k
section
variable {S:Nat->List Int->List Int->Prop} {L:V->Env->Prop} {w0:eG} {P:bV}
theorem Mem.zero {ρ:Env} {m:Nat->Nat} {bl:List aE} {w:aC} {b:Nat} {sh:List aN} {t:bp} (h:Mem w0 ρ m bl w) (aX:bl[b]?=some ([],(t,false))):Mem w0 ρ m (dN bl b ([.rows sh (.const 0) (.const 0) (.const 0) 1],(t,false))) w:=by
 have tF:b<bl.length:=(List.getElem?_eq_some_iff.1 aX).1
 obtain⟨bm,cb,r,hr,cJ⟩:=h.fT b [] (t,false) aX rfl
 have hr:=hr rfl
 subst hr
 have er:∀(i:Nat) (p:aE),(dN bl b ([.rows sh (.const 0) (.const 0) (.const 0) 1],(t,false)))[i]?=some p->(i=b/\p=([.rows sh (.const 0) (.const 0) (.const 0) 1],(t,false)))∨(i≠b/\bl[i]?=some p):=λi p hi=>by
  rw[np,uV]at hi
  split at hi
  ·rename_i hW
   subst hW
   simp only[tF,if_true,bb]at hi
   exact .inl ⟨rfl,hi.symm⟩
  ·rename_i hW;exact .inr ⟨λe=>hW e.symm,hi⟩
 have hold:bM ρ ([]:List A)=2:=oq rfl
 refine⟨h.ext,h.jN,h.m6,h.kV,h.gF,h.jB,λi kI t' hi jY=>?_,λi fX kf code' j8 sL t' hi=>?_,λi j p q hi aK he=>?_⟩
 ·rcases er i _ hi with⟨rfl,ec⟩|⟨c7,hi⟩
  ·cases ec;cases jY
  ·exact h.fT i kI t' hi jY
 ·rcases er i _ hi with⟨rfl,ec⟩|⟨c7,hi⟩
  ·cases ec
   intro _
   simp only[I.br]
   exact⟨λh0=>by omega,λ_=>⟨cb.elim .inl λh=> .inr (.inr h),_,_,_,cJ,⟨cW _,by rw[oW];intro _ h;simp at h,[],[],by simp[oW,ca],rfl⟩,λdZ=>by omega⟩⟩
  ·exact h.rws i fX kf _ j8 sL t' hi
 ·rcases er i _ hi with⟨rfl,ec⟩|⟨c7,q2⟩
  ·rcases er j _ aK with⟨rfl,xk⟩|⟨apj,aK⟩
   ·exact .inl rfl
   ·rcases h.inj i j _ q aX aK he with h1|h1|h1|h1
    ·exact .inl h1
    ·simp only[hold]at h1;omega
    ·simp only[hold]at h1;omega
    ·exact .inr (.inr (.inr h1))
  ·rcases er j _ aK with⟨F1,xk⟩|⟨apj,aK⟩
   ·subst F1
    rcases h.inj i j p _ q2 aX he with h1|h1|h1|h1
    ·exact .inl h1
    ·simp only[hold]at h1;omega
    ·exact .inr (.inr (.inl h1))
    ·simp only[hold]at h1;omega
   ·exact h.inj i j p q q2 aK he
theorem aAS {n:Nat} {ρ:Env} {m:Nat->Nat} {w:aC} {rd:Bool} {sh:List aN} {b:Nat} {bl tC:List aE} (h:Zf rd sh b bl=some tC) (hm:Mem w0 ρ m bl w) (hb:cY n bl.length ρ bl):Mem w0 ρ m tC w/\cY n tC.length ρ tC/\tC.length=bl.length/\b<bl.length:=by
 unfold Zf at h
 split at h
 ·rename_i t aX
  cases rd with
  |false=>cases h
  |true=>
   simp only[cond_true,bb]at h
   subst h
   refine⟨hm.zero aX,hb.set (λa ha=>?_),kQ _ _ _,(List.getElem?_eq_some_iff.1 aX).1⟩
   have ha:a= .rows sh (.const 0) (.const 0) (.const 0) 1:=by simpa using ha
   subst ha
   refine⟨⟨I.dd _ _,I.dd _ _,I.dd _ _⟩,?_,?_⟩
   ·simp only[I.br];exact⟨cW _,zN⟩
   ·simp only[I.br];omega
 ·rename_i fX off code cap kind t aX
  cases hc:(tp sh fX&&I.beq off (.const 0)&&I.beq cap (.const 0)&&dP 0 kind)with
  |false=>rw[hc]at h;cases h
  |true=>
   rw[hc]at h
   simp only[cond_true,bb]at h
   subst h
   exact⟨hm,hb,rfl,(List.getElem?_eq_some_iff.1 aX).1⟩
 ·cases h
theorem Zg {n:Nat} {ρ:Env} {m:Nat->Nat} {w:aC} {rd:Bool}:∀{ds:List cN} {vs:List V} {bl:List aE} {xs:List aV},Mem w0 ρ m bl w->cY n bl.length ρ bl->(∀v∈vs,V.ok n bl.length ρ v)->fb ρ m vs xs->
 Mem w0 ρ m (oZ rd ds vs bl).2 w/\cY n (oZ rd ds vs bl).2.length ρ (oZ rd ds vs bl).2/\(oZ rd ds vs bl).2.length=bl.length/\(∀v∈(oZ rd ds vs bl).1,V.ok n bl.length ρ v)/\fb ρ m (oZ rd ds vs bl).1 xs
 |[],vs,bl,xs,hm,hb,hv,hr=>⟨hm,hb,rfl,hv,hr⟩
 |d::r,[],bl,xs,hm,hb,hv,hr=>by
  cases d<;>exact⟨hm,hb,rfl,hv,hr⟩
 |d::r,v::s,bl,xs,hm,hb,hv,hr=>by
  match xs,hr with
  |x::xs,hr=>
  have gu:Mem w0 ρ m (oZ rd r s bl).2 w/\cY n (oZ rd r s bl).2.length ρ (oZ rd r s bl).2/\(oZ rd r s bl).2.length=bl.length/\(∀u∈(v::(oZ rd r s bl).1),V.ok n bl.length ρ u)/\fb ρ m (v::(oZ rd r s bl).1) (x::xs):=by
   obtain⟨g1,g2,g3,g4,g5⟩:=Zg (rd:=rd) (ds:=r) (vs:=s) hm hb (λu hu=>hv u (eB _ hu)) hr.2
   exact⟨g1,g2,g3,λu hu=>by
    rcases List.mem_cons.1 hu with rfl|hu
    ·exact hv u (by simp)
    ·exact g4 u hu,hr.1,g5⟩
  cases d with
  |d y=>exact gu
  |sO sh e=>exact gu
  |rd sh=>
   unfold oZ
   split
   ·rename_i b _
    split
    ·rename_i tC hz
     obtain⟨bm,cb,cJ,et⟩:=aAS hz hm hb
     obtain⟨g1,g2,g3,g4,g5⟩:=Zg (rd:=rd) (ds:=r) (vs:=s) bm cb (λu hu=>by rw[cJ];exact hv u (eB _ hu)) hr.2
     refine⟨g1,g2,by rw[g3,cJ],λu hu=>?_,?_,g5⟩
     ·rcases List.mem_cons.1 hu with rfl|hu
      ·refine⟨et,⟨I.dd _ _,I.dd _ _,I.dd _ _,I.dd _ _⟩,?_⟩
       simp only[I.br]
       exact⟨⟨by omega,by omega,by omega,by omega⟩,⟨by omega,by omega⟩,λh=>by omega,λ_=>by omega⟩
      ·rw[<-cJ];exact g4 u hu
     ·have h0:x= .slice (some ⟨m b,0,none⟩) 0 0:=hr.1
      rw[h0]
      simp[ajg,V.rel,W.den,A.den,I.br]
    ·exact gu
   ·exact gu
theorem Mem.low {ρ:Env} {m:Nat->Nat} {bl:List aE} {w:aC} {b k:Nat} {sh:List aN} {off code cap:I} {t:bp×Bool} (h:Mem w0 ρ m bl w) (aX:bl[b]?=some ([.rows sh off code cap (k+1)],t)):Mem w0 ρ m (dN bl b ([.rows sh off code cap 1],t)) w:=by
 have tF:b<bl.length:=(List.getElem?_eq_some_iff.1 aX).1
 have er:∀(i:Nat) (p:aE),(dN bl b ([.rows sh off code cap 1],t))[i]?=some p->(i=b/\p=([.rows sh off code cap 1],t))∨(i≠b/\bl[i]?=some p):=λi p hi=>by
  rw[np,uV]at hi
  split at hi
  ·rename_i hW
   subst hW
   simp only[tF,if_true,bb]at hi
   exact .inl ⟨rfl,hi.symm⟩
  ·rename_i hW;exact .inr ⟨λe=>hW e.symm,hi⟩
 have ab:∀(i:Nat) (p:aE),(dN bl b ([.rows sh off code cap 1],t))[i]?=some p->∃dj,bl[i]?=some dj/\bM ρ p.1<=bM ρ dj.1/\(bM ρ dj.1≠0->True):=λi p hi=>by
  rcases er i p hi with⟨rfl,rfl⟩|⟨c7,hi⟩
  ·refine⟨_,aX,?_,λ_=>trivial⟩
   simp only[bM];split<;>omega
  ·exact⟨p,hi,bO _,λ_=>trivial⟩
 refine⟨h.ext,h.jN,h.m6,h.kV,h.gF,h.jB,λi kI t' hi ax=>?_,λi fX kf code' j8 sL t' hi=>?_,λi j p q hi aK he=>?_⟩
 ·rcases er i _ hi with⟨rfl,ec⟩|⟨c7,hi⟩
  ·cases ec;cases ax
  ·exact h.fT i kI t' hi ax
 ·rcases er i _ hi with⟨rfl,ec⟩|⟨c7,hi⟩
  ·cases ec
   intro _
   obtain⟨g1,g2⟩:=h.rws i _ _ _ _ (k+1) _ aX (by omega)
   refine⟨g1,λhc=>?_⟩
   obtain⟨g3,cells,nq,fz,g4,g5,_⟩:=g2 hc
   exact⟨g3,cells,nq,fz,g4,g5,λh2=>by omega⟩
  ·exact h.rws i fX kf _ j8 sL t' hi
 ·obtain⟨dj,h1,h2,_⟩:=ab i p hi
  obtain⟨e3,h3,h4,_⟩:=ab j q aK
  rcases h.inj i j dj e3 h1 h3 he with h5|h5|h5|h5
  ·exact .inl h5
  ·exact .inr (.inl ⟨by omega,by omega⟩)
  ·exact .inr (.inr (.inl (by omega)))
  ·exact .inr (.inr (.inr (by omega)))
theorem U7 {n nb:Nat} {ρ:Env} {m:Nat->Nat} {w:aC}:∀{bs:List Nat} {bl:List aE},Mem w0 ρ m bl w->cY n nb ρ bl->Mem w0 ρ m (DK bs bl) w/\cY n nb ρ (DK bs bl)/\(DK bs bl).length=bl.length/\
 ∀(i:Nat) (p:aE),(DK bs bl)[i]?=some p->∃dj,bl[i]?=some dj/\bM ρ p.1<=bM ρ dj.1/\(i∈bs->cc dj.1=false->bM ρ p.1<=1)
 |[],bl,h,hb=>⟨h,hb,rfl,λi p hi=>⟨p,hi,bO _,λh=>by simp at h⟩⟩
 |b::r,bl,h,hb=>by
  unfold DK
  split
  ·rename_i sh off code cap k t aX
   have tF:b<bl.length:=(List.getElem?_eq_some_iff.1 aX).1
   have pc:cY n nb ρ (dN bl b ([.rows sh off code cap 1],t)):=λp hp a ha=>by
    rw[np]at hp
    rcases Nv hp with hp|hp
    ·exact hb p hp a ha
    ·subst hp
     simp at ha;subst ha
     have h0:A.ok n nb ρ (.rows sh off code cap (k+1)):=hb _ (e8 aX) _ (by simp)
     exact h0
   obtain⟨g1,g2,g3,g4⟩:=U7 (bs:=r) (h.low aX) pc
   refine⟨g1,g2,by rw[g3,kQ],λi p hp=>?_⟩
   obtain⟨dj,h1,h2,h3⟩:=g4 i p hp
   by_cases kK:i=b
   ·subst kK
    rw[np,List.getElem?_set_self tF]at h1
    cases h1
    refine⟨_,aX,oE h2 (by simp only[bM];split<;>omega),λ_ _=>oE h2 (by simp only[bM];split<;>omega)⟩
   ·rw[np,List.getElem?_set_ne (λe=>kK e.symm)]at h1
    exact⟨dj,h1,h2,λhi ax=>h3 (by simpa [kK]using hi) ax⟩
  ·rename_i m4
   obtain⟨g1,g2,g3,g4⟩:=U7 (bs:=r) h hb
   refine⟨g1,g2,g3,λi p hp=>?_⟩
   obtain⟨dj,h1,h2,h3⟩:=g4 i p hp
   refine⟨dj,h1,h2,λhi ax=>?_⟩
   rcases List.mem_cons.1 hi with rfl|hi
   ·obtain⟨C,t⟩:=dj
    obtain⟨sh,off,code,cap,k,rfl⟩:=QI ax
    cases k with
    |zero=>
     have:bM ρ [A.rows sh off code cap 0]=0:=by simp[bM]
     simp only[this]at h2;omega
    |succ k=>exact absurd h1 (m4 _ _ _ _ _ _)
   ·exact h3 hi ax
theorem ahj {n nb:Nat} {ρ:Env} {m:Nat->Nat} {us:List W} {vals:List aV} (h:∀u∈us,W.ok n nb ρ u) (hm:us.map (W.den ρ m)=vals):(Eu us).ok n nb ρ/\(Eu us).rel ρ m (wq vals):=by
 subst hm
 unfold Eu wq
 split
 ·exact⟨h _ (by simp),rfl⟩
 ·rename_i c7
  refine⟨h,?_⟩
  split
  ·rename_i x hx
   match us,c7,hx with
   |[u],c7,_=>exact absurd rfl (c7 u)
  ·rfl
theorem agx:∀{vs:List V},AJ vs=true->vs.flatMap xR=[]
 |[],_=>rfl
 |v::r,h=>by
  unfold AJ at h
  split at h
  ·rename_i heq;cases heq
  ·cases h
  ·rename_i c7 heq
   cases heq
   rw[uY,agx h,gZ]
   unfold xR
   split
   ·exact(c7 _ _ _ _ rfl).elim
   ·rfl
theorem agy:∀{vs:List V} {b:Nat},AJ vs=true->b∈vs.flatMap qU->∃bz o ro len cap,V.w (.one (.sl b bz o ro len cap))∈vs
 |[],b,_,h=>by simp at h
 |v::r,b,h,hb=>by
  simp only[uY,yo]at hb
  rcases hb with hb|hb
  ·unfold qU at hb
   split at hb
   ·simp at hb;subst hb;exact⟨_,_,_,_,_,RM ..⟩
   ·simp[AJ]at h
   ·simp at hb
  ·have bd:AJ r=true:=by
    unfold AJ at h
    split at h
    ·rename_i heq;cases heq
    ·cases h
    ·rename_i heq;cases heq;exact h
   obtain⟨bz,o,ro,len,cap,h1⟩:=agy bd hb
   exact⟨bz,o,ro,len,cap,eB _ h1⟩
theorem fE.aac {c:fE} {spec:List Int->List Int->Prop} {f:dt} {aa9:Array aV} (hK:∀zs rs,spec zs rs->S c.id zs rs) (n:Nat) (vs:List V) (bl:List aE) (k:RK) (G:e2) (ρ:Env) (m:Nat->Nat) (w:aC) (xs:List aV) (R':Ending->aC->Prop)
 (hc:∀zs,af (dz c.args) zs->I4 c.pre zs->nM (uf w0 ρ m bl (vs.flatMap qU) (vs.flatMap xR)) (λ_=>False) w c.args zs xs->
   oD P f aa9 w λe w'=>w.Extends w'/\∃rs us,af (dz c.res) rs/\spec zs rs/\nM (λg=>uf w0 ρ m bl (vs.flatMap qU) (vs.flatMap xR) g∨w.heap.size<=g) (λg=>w.heap.size<=g) w' c.res rs us/\e= .returned (wq us))
 (hb:cY n bl.length ρ bl) (hw:Mem w0 ρ m bl w) (hv:∀v∈vs,V.ok n bl.length ρ v) (hr:fb ρ m vs xs) (ae:(c.JZ n vs bl k).holds S L G ρ) (ab:EY S L w0 k n bl.length ρ m G R'):
 oD P f aa9 w R':=by
 unfold fE.JZ at ae
 obtain⟨aQ,a1,ls,gE,fe,⟨g1,g2,g3⟩,ae⟩:=Pn (S:=S) (L:=L) hb hw hv hr G _ ae
 cases ah:(sZ c.res&&(!(c.res.any cN.rU)||AJ vs))with
 |false=>rw[ah]at ae;exact ae.elim
 |true=>
  rw[ah]at ae
  simp only[cond_true]at ae
  obtain⟨rS,ae⟩:=preM_holds ae
  simp only[T.holds]at ae
  simp only[bw,CJ,gn]at ah
  refine(hc _ g2 rS (g3 _ λ_ h=>h)).mono ?_
  rintro e w' ⟨he,rs,us,r1,r2,gI,rfl⟩
  have ae:=oG ae r1 (hK _ _ r2)
  have qn:=hb.ext fe gE (bO bl.length)
  have aqg:=(hw.grow he).sP hb fe
  have eb:agree a1 aQ (bL aQ a1 rs):=agree.bL rs a1 aQ
  have q1:=qn.ext eb (JM a1 (dz c.res).length) (bO bl.length)
  have afg:=aqg.sP qn eb
  have aU:jT (bL aQ a1 rs) a1 rs:=jT.bL aQ a1 rs
  have PY:rs.length=(dz c.res).length:=e7 r1
  have FQ:=fe.trans eb gE
  have Vm:eX n bl.length ρ m (a1+(dz c.res).length) bl.length (bL aQ a1 rs) m:=⟨by omega,FQ,bO _,λ_ _=>rfl⟩
  have jb:∀(i:Nat) (p:aE),bl[i]?=some p->bM (bL aQ a1 rs) p.1=bM ρ p.1:=λi p hi=>xw (hb p (e8 hi)) FQ
  have VH:∀(i:Nat) (p:aE),bl[i]?=some p->w.heap.size<=m i->bM ρ p.1=0:=λi p hi tc=>by
   by_cases h0:bM ρ p.1=0
   ·exact h0
   ·have:=hw.lt hi h0;omega
  have fin:∀bq:List aE,cY (a1+(dz c.res).length) bq.length (bL aQ a1 rs) bq->Mem w0 (bL aQ a1 rs) m bq w'->bq.length=bl.length->
   (∀(i:Nat) (p:aE),bq[i]?=some p->(uf w0 ρ m bl (vs.flatMap qU) (vs.flatMap xR) (m i)∨w.heap.size<=m i)->(c.res.any cN.rU)=true->bM (bL aQ a1 rs) p.1<=1)->
   (∀(i:Nat) (p:aE),bq[i]?=some p->w.heap.size<=m i->bM (bL aQ a1 rs) p.1=0)->
   (yA c.res a1 (a1+(dz c.res).length) [] bq λff us sC=>k ff (Eu us) sC).holds S L G (bL aQ a1 rs)->R' (.returned (wq us)) w':=λbq pc xr hlen fr aop ae=>by
   have hF:∀g,(uf w0 ρ m bl (vs.flatMap qU) (vs.flatMap xR) g∨w.heap.size<=g)->w0.ex g∨w0.ro g∨w0.r.heap.size<=g:=λg hg=>by
    rcases hg with hg|hg
    ·exact hg.2
    ·exact .inr (.inr (oE hw.gF hg))
   have cT:∀g,w.heap.size<=g->w0.b.heap.size<=g/\w0.r.heap.size<=g:=λg hg=>⟨oE hw.ext.size hg,oE hw.gF hg⟩
   have h1:(c.res.all λb=> !b.rU)=true∨∀(i:Nat) (p:aE),bq[i]?=some p->(uf w0 ρ m bl (vs.flatMap qU) (vs.flatMap xR) (m i)∨w.heap.size<=m i)->bM (bL aQ a1 rs) p.1<=1:=by
    cases yY:c.res.any cN.rU with
    |true=>exact .inr λi p hi hf=>fr i p hi hf yY
    |false=>
     left
     rw[JI]
     intro b hb
     cases iA:b.rU with
     |false=>rfl
     |true=>rw[List.any_eq_true.2 ⟨b,hb,iA⟩]at yY;cases yY
   obtain⟨n',aa,m',p4,sC,cz,cw,dc,fC,fN,gH⟩:=Fa (S:=S) (L:=L) hF cT (l:=c.res) (us:=[]) (vals:=us) ah.1 pc xr aU r1 (bO _) gI h1 (.inr aop) (λu hu=>by simp at hu) ae
   have pR:=ahj (m:=m') fN (by simpa using fC)
   exact ab n' (Eu p4) sC G aa m' w' (wq us) (Vm.trans (hlen▸cz)) (fm.refl _ _) pR.1 pR.2 cw dc gH
  cases yY:c.res.any cN.rU with
  |false=>
   rw[yY]at ae
   exact fin bl q1 afg rfl (λ_ _ _ _ h=>by rw[yY]at h;cases h) (λi p hi tc=>by rw[jb i p hi];exact VH i p hi tc) ae
  |true=>
   rw[yY]at ae ah
   obtain⟨f1,f2,f3,f4⟩:=U7 (bs:=vs.flatMap qU) afg q1
   have xm:AJ vs=true:=by
    rcases ah.2 with h|h
    ·cases h
    ·exact h
   refine fin _ (by rw[f3];exact f2) f1 f3 (λi p hi hf _=>?_) (λi p hi tc=>?_) ae
   ·obtain⟨dj,h1,h2,h3⟩:=f4 i p hi
    rw[jb i dj h1]at h2
    rcases hf with⟨⟨b,aep,aoq,q,yX,vu,apE⟩,_⟩|tc
    ·obtain⟨bz,o,ro,len,cap,nS⟩:=agy xm aep
     rcases hw.inj i b dj q h1 yX (by rw[aoq])with h5|h5|h5|h5
     ·subst h5
      rw[h1]at yX;cases yX
      cases ax:cc dj.1 with
      |false=>exact h3 aep ax
      |true=>
       have:=apE ax
       rw[agx xm]at this
       simp at this
     ·omega
     ·omega
     ·exact absurd h5 vu
    ·have:=VH i dj h1 tc;omega
   ·obtain⟨dj,h1,h2,_⟩:=f4 i p hi
    rw[jb i dj h1]at h2
    have:=VH i dj h1 tc;omega
theorem fE.ajw {c:fE} {spec:List Int->List Int->Prop} (hc:c.b1 P w0.b spec) (hK:∀zs rs,spec zs rs->S c.id zs rs) (n:Nat) (vs:List V) (bl:List aE) (k:RK) (G:e2) (ρ:Env) (m:Nat->Nat) (w:aC) (xs:List aV) (R':Ending->aC->Prop)
 (hb:cY n bl.length ρ bl) (hw:Mem w0 ρ m bl w) (hv:∀v∈vs,V.ok n bl.length ρ v) (hr:fb ρ m vs xs) (ae:(c.JZ n vs bl k).holds S L G ρ) (ab:EY S L w0 k n bl.length ρ m G R'):
 (callFunc c.f xs.toArray).run P w= .ok (.enter c.f xs.toArray) w/\oD P c.f xs.toArray w R':=by
 exact⟨hc.1 _ _,fE.aac hK n vs bl k G ρ m w xs R' (λzs h1 h2 h3=>hc.2 _ w xs zs hw.ext h1 h2 h3) hb hw hv hr ae ab⟩
theorem fE.J1 {c:fE} {spec:List Int->List Int->Prop} (hc:c.b1 P w0.b spec) (hK:∀zs rs,spec zs rs->S c.id zs rs) (n:Nat) (vs:List V) (bl:List aE) (k:RK) (G:e2) (ρ:Env) (m:Nat->Nat) (w:aC) (xs:List aV) (R':Ending->aC->Prop)
 (hb:cY n bl.length ρ bl) (hw:Mem w0 ρ m bl w) (hv:∀v∈vs,V.ok n bl.length ρ v) (hr:fb ρ m vs xs) (ae:(c.E n vs bl k).holds S L G ρ) (ab:EY S L w0 k n bl.length ρ m G R'):
 (callFunc c.f xs.toArray).run P w= .ok (.enter c.f xs.toArray) w/\oD P c.f xs.toArray w R':=by
 obtain⟨g1,g2,g3,g4,g5⟩:=Zg (rd:=c.res.any cN.rU) (ds:=c.args) hw hb hv hr
 exact c.ajw hc hK n _ _ k G ρ m w xs R' g2 g1 (λv hv=>by rw[g3];exact g4 v hv) g5 ae (by rw[g3];exact ab)
end
end Go.ch
namespace Go.ch
open M
def O.bG (n:Nat):O->Prop
 |l x=>x.bG n
 |b x=>x.bG n
theorem O.b5 {n:Nat} {ρ aa:Env} (ha:agree n ρ aa):∀{o:O},o.bG n->o.den aa=o.den ρ
 | .l x,h=>I.b5 ha h
 | .b x,h=>by simp only[O.den];rw[bC.b5 ha h]
theorem agQ {k:dO} {n nb:Nat} {ρ:Env}:∀{l:List A} {os:List O},mz k l=some os->(∀a∈l,A.ok n nb ρ a)->∀o∈os,O.bG n o
 |[],os,h,_=>by simp[mz]at h;subst h;intro x hx;simp at hx
 | .int bD x::s,os,h,b0=>by
  simp only[mz]at h
  cases hc:decide (k=bD)with
  |false=>simp[hc]at h
  |true=>
   cases hr:mz k s with
   |none=>simp[hc,hr]at h
   |some r'=>
    simp only[hc,hr,cond_true,bb]at h
    subst h
    intro y hy
    rcases List.mem_cons.1 hy with hy|hy
    ·rw[hy]
     have h0:A.ok n nb ρ (.int bD x):=b0 _ (RM ..)
     have h0:x.ok n ρ:=h0
     exact h0.1
    ·exact agQ hr (λa ha=>b0 a (eB _ ha)) y hy
 | .bool _::_,_,h,_=>by simp[mz]at h
 | .ptr .. ::_,_,h,_=>by simp[mz]at h
 | .rk .. ::_,_,h,_=>by simp[mz]at h
 | .gptr .. ::_,_,h,_=>by simp[mz]at h
 | .slc .. ::_,_,h,_=>by simp[mz]at h
 | .con _::_,_,h,_=>by simp[mz]at h
 | .str _::_,_,h,_=>by simp[mz]at h
 | .rows .. ::_,_,h,_=>by simp[mz]at h
 | .sl .. ::_,_,h,_=>by simp[mz]at h
 | .ep .. ::_,_,h,_=>by simp[mz]at h
theorem aN.atL {c:aN} {a:A} {o:O} {n nb:Nat} {ρ:Env} (h:c.out a=some o) (ha:a.ok n nb ρ):o.bG n:=by
 unfold aN.out at h
 split at h
 ·rename_i k _ _ bD x
  cases ab:decide (k=bD)with
  |false=>simp[ab]at h
  |true=>
   simp only[ab,cond_true,bb]at h
   subst h
   have ha:x.ok n ρ:=ha
   exact ha.1
 ·simp only[bb]at h;subst h
  exact ha.1
 ·simp only[bb]at h;subst h
  exact ha
 ·cases h
theorem agT {n nb:Nat} {ρ:Env}:∀{d:List aN} {l:List A} {os:List O},uD d l=some os->(∀a∈l,A.ok n nb ρ a)->∀o∈os,O.bG n o
 |[],[],os,h,_=>by simp[uD]at h;subst h;intro x hx;simp at hx
 |c::d,a::s,os,h,b0=>by
  simp only[uD]at h
  cases h1:c.out a with
  |none=>simp[h1]at h
  |some o=>
   cases h2:uD d s with
   |none=>simp[h1,h2]at h
   |some agO=>
    simp only[h1,h2,bb]at h
    subst h
    intro y hy
    rcases List.mem_cons.1 hy with hy|hy
    ·rw[hy];exact aN.atL h1 (b0 a (RM ..))
    ·exact agT h2 (λb hb=>b0 b (eB _ hb)) y hy
 |[],_::_,_,h,_=>by simp[uD]at h
 |_::_,[],_,h,_=>by simp[uD]at h
theorem atK {d:D} {u:W} {os:List O} {n nb:Nat} {ρ:Env} (h:Cd d u=some os) (hu:u.ok n nb ρ):∀o∈os,O.bG n o:=by
 unfold Cd at h
 split at h
 ·rename_i k _ _ bD x
  cases ab:decide (k=bD)with
  |false=>simp[ab]at h
  |true=>
   simp only[ab,cond_true,bb]at h
   subst h
   have hu:x.ok n ρ:=hu
   intro o ax;simp at ax;subst ax;exact hu.1
 ·simp only[bb]at h;subst h
  intro o ax;simp at ax;subst ax;exact hu
 ·rename_i k n' _ _ l
  cases ab:aM l.length n' with
  |false=>simp[ab]at h
  |true=>
   simp only[ab,cond_true]at h
   exact agQ h hu
 ·simp only[bb]at h;subst h
  intro o ax;simp at ax;subst ax;exact hu.1
 ·exact agT h hu
 ·cases h
noncomputable def Jl (bl:List aE):cN->W->M (List O)
 | .d x,u=>match Cd x u with|some os=>pure os|none=>fail
 | .rd sh,u=>bind (QY sh bl (.w u)) λl=>pure [.l l]
 | .sO sh e,u=>bind (XE sh e bl (.w u)) λl=>pure [.l l]
noncomputable def Q0 (bl:List aE):List cN->List W->M (List O)
 |[],[]=>pure []
 |b::r,u::s=>bind (Jl bl b u) λa=>bind (Q0 bl r s) λc=>pure (a++c)
 |_,_=>fail
noncomputable def MO (bl:List aE) (ds:List cN) (v:V):M (List O):=
 match v with
 | .w u=>match ds with|[d]=>Jl bl d u|_=>fail
 | .iU l=>match ds with|[_]=>fail|_=>Q0 bl ds l
 |_=>fail
def O.toW:O->W
 |l x=> .one (.int .u8 ⟨x,0,0⟩)
 |b x=> .one (.bool x)
def W.toO:W->O
 | .one (.int _ x)=> .l x.l
 | .one (.bool e)=> .b e
 |_=> .l (.const 0)
theorem O.toW_toO (o:O):o.toW.toO=o:=by cases o<;>rfl
def Ec (os:List O):V:= .iU (os.map O.toW)
def yu (K:List Int->Prop) (v:V) (ρ:Env):Prop:=
 match v with
 | .iU l=>K (l.map λu=>u.toO.den ρ)
 |_=>False
theorem S8 {K:List Int->Prop} {os:List O} {ρ:Env}:yu K (Ec os) ρ=K (os.map (O.den ρ)):=by
 unfold yu Ec
 simp only[p8]
 congr 1
 exact kD λo _=>by simp[Nh,O.toW_toO]
section
variable {S:Nat->List Int->List Int->Prop} {L:V->Env->Prop} {w0:eG} {P:bV} {w:aC}
theorem E0.mono {N J4:Nat->Prop} {sh:List aN} {e:bp} {rows:List (List Int)} {v:aV} (h:E0 N w sh e rows v) (cT:∀g,N g->J4 g):E0 J4 w sh e rows v:=by
 rcases h with h|⟨g,cap,cells,h1,h2,h3,h4⟩
 ·exact .inl h
 ·exact .inr ⟨g,cap,cells,h1,h2,cT g h3,h4⟩
def SF (w0:eG) (g:Nat):Prop:=w0.ex g∨w0.ro g∨w0.r.heap.size<=g
theorem ahh {d:cN} {u:W} {n:Nat} {ρ:Env} {m:Nat->Nat} {bl:List aE} (hex:∀g,¬w0.ex g) (hb:cY n bl.length ρ bl) (hw:Mem w0 ρ m bl w) (hu:u.ok n bl.length ρ):
 az S L (Jl bl d u) n ρ λaa n' os=>(∀o∈os,O.bG n' o)/\os.length=d.num/\(d.Gl=false->af d.bds (os.map (O.den aa)))/\∀zs,d.at (SF w0) (λg=>w0.r.heap.size<=g) w (os.map (O.den aa)++zs) (u.den ρ m):=by
 cases d with
 |d x=>
  unfold Jl
  cases ax:Cd x u with
  |none=>simp only[ax];exact az.fail
  |some os=>
   simp only[ax]
   have:=XD (ρ:=ρ) (m:=m) ax
   exact az.pure ⟨atK ax hu,this.1,λh=>(by simp[cN.Gl]at h),λzs=>(this.2 zs).symm⟩
 |rd sh=>
  unfold Jl
  refine(aha (v:= .w u) hb hw hu rfl).bind λaQ a1 l hn ha ⟨g1,g2,g3⟩=>az.pure ⟨λo ax=>by simp at ax;subst ax;exact g1,rfl,λ_=>⟨g2.1,g2.2,trivial⟩,λzs=>?_⟩
  exact g3.mono λg hg=>hg.2
 |sO sh e=>
  unfold Jl
  refine(atN (v:= .w u) hex hb hw hu rfl).bind λaQ a1 l hn ha ⟨g1,g2,g3⟩=>az.pure ⟨λo ax=>by simp at ax;subst ax;exact g1,rfl,λ_=>⟨g2.1,g2.2,trivial⟩,λzs=>g3⟩
theorem ar6 {n:Nat} {ρ aa:Env} {os:List O} (h:∀x∈os,O.bG n x) (ha:agree n ρ aa):os.map (O.den aa)=os.map (O.den ρ):=kD λx hx=>O.b5 ha (h x hx)
theorem ahi {m:Nat->Nat} {bl:List aE} (hex:∀g,¬w0.ex g):∀{ds:List cN} {us:List W} {n:Nat} {ρ:Env},cY n bl.length ρ bl->Mem w0 ρ m bl w->(∀u∈us,W.ok n bl.length ρ u)->
 az S L (Q0 bl ds us) n ρ λaa n' os=>(∀o∈os,O.bG n' o)/\nM (SF w0) (λg=>w0.r.heap.size<=g) w ds (os.map (O.den aa)) (us.map (W.den ρ m))
 |[],[],n,ρ,_,_,_=>az.pure ⟨λ_ h=>by simp at h,trivial⟩
 |b::r,u::s,n,ρ,hb,hw,hu=>by
  unfold Q0
  refine(ahh hex hb hw (hu u (by simp))).bind λaQ a1 a hn ha ⟨g1,g2,_,g3⟩=>?_
  refine(ahi (ds:=r) (us:=s) hex (hb.ext ha hn (bO _)) (hw.sP hb ha) (λx hx=>(hu x (eB _ hx)).ext ha hn (bO _))).bind λbW ff c fo eb ⟨k1,k2⟩=>az.pure ⟨λo ax=>?_,?_⟩
  ·rcases List.mem_append.1 ax with ax|ax
   ·have:=g1 o ax
    cases o with
    |l x=>exact I.bG.mono this fo
    |b x=>exact bC.bG.mono fo this
   ·exact k1 o ax
  ·rw[jf,ar6 g1 eb]
   refine⟨g3 _,?_⟩
   rw[<-g2,<-qM (f:=O.den aQ) (as:=a),EN]
   have e:s.map (W.den ρ m)=s.map (W.den aQ m):=kD λx hx=>(W.oL (hu x (eB _ hx)) ha (λ_ _=>rfl)).symm
   rw[e];exact k2
 |[],_::_,_,_,_,_,_=>az.fail
 |_::_,[],_,_,_,_,_=>az.fail
theorem Yb {ds:List cN} {v:V} {val:aV} {n:Nat} {ρ:Env} {m:Nat->Nat} {bl:List aE} (hex:∀g,¬w0.ex g) (hb:cY n bl.length ρ bl) (hw:Mem w0 ρ m bl w) (hv:v.ok n bl.length ρ) (hr:v.rel ρ m val):
 az S L (MO bl ds v) n ρ λaa n' os=>∃us,val=wq us/\nM (SF w0) (λg=>w0.r.heap.size<=g) w ds (os.map (O.den aa)) us:=by
 unfold MO
 split
 ·rename_i u
  split
  ·rename_i d
   refine(ahh hex hb hw hv).mono λaQ a1 os hn ha ⟨g1,g2,_,g3⟩=>⟨[u.den ρ m],hr,?_,trivial⟩
   have:=g3 []
   rwa [gZ]at this
  ·exact az.fail
 ·rename_i l
  split
  ·exact az.fail
  ·rename_i c7
   refine(ahi (ds:=ds) hex hb hw hv).mono λaQ a1 os hn ha ⟨g1,g2⟩=>⟨l.map (W.den ρ m),?_,g2⟩
   have hr:val= .tuple (l.map (W.den ρ m)).toArray:=hr
   rw[hr]
   unfold wq
   split
   ·rename_i x hx
    exfalso
    have hl:l.length=1:=by have:=congrArg qa hx;simpa using this
    match ds,l,hl,g2,c7 with
    |[d],[u],_,_,c7=>exact c7 d rfl
    |[],[u],_,g2,_=>simp[nM]at g2
    |_::_::_,[u],_,g2,_=>simp[nM]at g2
   ·rfl
 ·exact az.fail
def L4 (i:Nat):I:=⟨0,[(1,i)]⟩
theorem W8 (ρ:Env) (zs:List Int):((fY zs.length).map L4).map (·.den (bL ρ 0 zs))=zs:=by
 refine afW (by simp) λj aK=>?_
 have aK:j<zs.length:=by simpa using aK
 have:=jT.bL ρ 0 zs j aK
 rw[yk]at this
 simp[L4,I.den,jW,List.getD,aK]at this⊢
 exact this
noncomputable def fE.tree (bc:qO) (P:bV) (gl:fa) (cal:fy) (li:dt->Nat->Option gB) (rounds d:Nat) (c:fE):T:=
 cond (sZ c.args&& !(c.args.any cN.th)) (QP c.pre ((fY (dz c.args).length).map L4) (yA c.args 0 (dz c.args).length [] [] λn us bl=>HJ bc P gl cal li rounds d c.f n (us.map V.w) bl λn' v bq=>MO bq c.res v n' λos _=> .leaf (Ec os))) .stuck
theorem S1 {ρ:Env} {m:Nat->Nat}:∀{us:List W} {xs:List aV},us.map (W.den ρ m)=xs->fb ρ m (us.map V.w) xs
 |[],[],_=>trivial
 |u::us,x::xs,h=>by
  simp only[c5,qK]at h
  exact⟨h.1.symm,S1 h.2⟩
 |[],_::_,h=>by simp at h
 |_::_,[],h=>by simp at h
noncomputable def m2:List fE->qO
 |[],_=>none
 |c::r,f=>cond (aM c.f f) (some c.E) (m2 r f)
theorem sY {wb:aC} {r:aC} {ex ro:Nat->Prop}:∀{l:List fE},(∀c∈l,c.b1 P wb (S c.id))->wL S L ⟨wb,r,ex,ro,[]⟩ P (m2 l)
 |[],_=>λf g h=>by cases h
 |c::l,h=>λf g hf=>by
  unfold m2 at hf
  cases hb:aM c.f f with
  |true=>
   rw[hb]at hf
   simp only[cond_true,bb]at hf
   have:=bR hb
   subst this;subst hf
   intro n vs bl k G ρ m w xs R' h1 h2 h3 h4 h5 h6
   exact fE.J1 (w0:=⟨wb,r,ex,ro,[]⟩) (h c (by simp)) (λ_ _ h=>h) n vs bl k G ρ m w xs R' h1 h2 h3 h4 h5 h6
  |false=>
   rw[hb]at hf
   exact sY (λc hc=>h c (eB _ hc)) f g hf
theorem fE.Md {wb:aC} {gl:fa} {c:fE} {bc:qO} {cal:fy} {li:dt->Nat->Option gB} {rounds d:Nat} {spec:List Int->List Int->Prop} (hm:P.follows .mixedOrders=true) (c6:∀r ex ro,h8 S P gl ⟨wb,r,ex,ro,[]⟩ cal) (hg:fA gl ⟨wb,wb,λ_=>False,λ_=>False,[]⟩)
 (oN:∀(L:V->Env->Prop) (r:aC) (ro:Nat->Prop),wL S L ⟨wb,r,λ_=>False,ro,[]⟩ P bc) (hf:∀args w,(callFunc c.f args).run P w= .ok (.enter c.f args) w)
 (aA:j6 (dz c.args) λzs=>(c.tree bc P gl cal li rounds d).holds S (yu λrs=>af (dz c.res) rs/\spec zs rs) (λ_ _=>False) (bL (λ_=>0) 0 zs)):c.b1 P wb spec:=by
 refine⟨hf,λF w vs zs hw hz LC hat=>?_⟩
 have ae:=oG aA hz
 have q8:=e7 hz
 unfold fE.tree at ae
 cases ah:(sZ c.args&& !(c.args.any cN.th))with
 |false=>rw[ah]at ae;exact ae.elim
 |true=>
  rw[ah]at ae
  simp only[cond_true]at ae
  have ae:=preA_holds ae (by rw[<-q8,W8];exact LC)
  simp only[bw,gn]at ah
  have nS:Mem ⟨wb,w,λ_=>False,F,[]⟩ (bL (λ_=>0) 0 zs) (λ_=>0) [] w:=⟨hw,rfl,rfl,rfl,bO _,λ_ _ _=>rfl,λi cs t h=>by simp at h,λi sh off code cap kind t h=>by simp at h,λi j p q h=>by simp at h⟩
  have jr:(c.args.all λb=> !b.th)=true:=by
   rw[JI]
   intro b hb
   cases iA:b.th with
   |false=>rfl
   |true=>rw[List.any_eq_true.2 ⟨b,hb,iA⟩]at ah;cases ah.2
  obtain⟨n',aa,m',us,bl,cz,cw,dc,fC,fN,gH⟩:=Fa (S:=S) (L:=_) (w0:=⟨wb,w,λ_=>False,F,[]⟩) (F:=F) (N:=λ_=>False) (λg hg=> .inr (.inl hg)) (λg hg=>hg.elim) (l:=c.args) (s:=0) (us:=[]) (bl:=[]) (m:=λ_=>0) ah.1 (λp hp=>by simp at hp) nS (jT.bL _ 0 zs) hz (by omega) hat (.inr λi p h=>by simp at h) (.inl jr) (λu hu=>by simp at hu) ae
  have VQ:fA gl ⟨wb,w,λ_=>False,F,[]⟩:=hg
  refine(OQ (S:=S) (w0:=⟨wb,w,λ_=>False,F,[]⟩) rfl hm (c6 w (λ_=>False) F) VQ (oN _ _ _) d c.f n' (us.map V.w) bl _ _ aa m' w vs _ cw dc (λv hv=>by
   obtain⟨u,hu,rfl⟩:=List.mem_map.1 hv
   exact fN u hu) (S1 (by simpa using fC)) gH ?_).2
  intro ff v bq eP bW fj w' val h1 h2 h3 h4 h5 h6 h7
  obtain⟨jw,uB,os,F4,yN,⟨xs,tf,Av⟩,hl⟩:=Yb (S:=S) (w0:=⟨wb,w,λ_=>False,F,[]⟩) (λg hg=>hg) h5 h6 h3 h4 eP _ h7
  have hl:yu _ (Ec os) jw:=hl
  rw[S8]at hl
  refine⟨?_,os.map (O.den jw),xs,hl.1,hl.2,?_,by rw[tf]⟩
  ·have tG:∀i:Nat,i<w.heap.size->w'.heap[i]?=w.heap[i]?:=λi hi=>h6.jB i hi λh=>h
   exact⟨h6.jN,h6.m6,h6.kV,h6.gF,λa ha=>by simp only[o3,tG a.block ha],λa ha=>by simp only[CK,tG a.block ha],tG⟩
  ·exact Ht (λg hg=>by
    rcases hg with hg|hg|hg
    ·exact hg.elim
    ·exact .inl hg
    ·exact .inr hg) (λg hg=>hg) Av
where
 Ht {F CS N J4:Nat->Prop} {w:aC} (hF:∀g,F g->CS g) (cT:∀g,N g->J4 g):∀{ds:List cN} {zs:List Int} {vs:List aV},nM F N w ds zs vs->nM CS J4 w ds zs vs
 |[],_,[],_=>trivial
 | .d x::r,zs,v::vs,h=>⟨h.1,Ht hF cT h.2⟩
 | .rd sh::r,zs,v::vs,h=>⟨Bk.mono h.1 hF,Ht hF cT h.2⟩
 | .sO sh e::r,zs,v::vs,h=>⟨E0.mono h.1 cT,Ht hF cT h.2⟩
 |[],_,_::_,h=>h.elim
 |_::_,_,[],h=>by simp[nM]at h
end
def cN.nums:cN->List Nat
 | .d x=>x.nums
 |_=>[1]
def Ca (ds:List cN):List Nat:=ds.flatMap cN.nums
def S7 (ds:List cN) (K:List (List Int)->Prop) (v:V) (st:jV) (aZ:jU):Prop:=
 match v with
 | .iU l=>K ((dk (Ca ds) (l.map W.toO)).map (Jt st aZ))
 |_=>False
theorem aj2 {ds:List cN} {K:List (List Int)->Prop} (v:V) (ρ:Env) (st:jV) (aZ:jU) (aA:sz ρ st aZ) (h:S7 ds K v st aZ):yu (λrs=>K (dk (Ca ds) rs)) v ρ:=by
 unfold S7 at h
 unfold yu
 split at h
 ·rename_i l
  have e:l.map (λu=>u.toO.den ρ)=(l.map W.toO).map (O.den ρ):=by simp
  simp only[e]
  rw[Rg]
  rwa [show(dk (Ca ds) (l.map W.toO)).map (Jt st aZ)=(dk (Ca ds) (l.map W.toO)).map (List.map (O.den ρ)) from kD λo _=>ahS aA o]at h
 ·exact h.elim
def qg (sh:Nat->List Nat×List Nat) (lsh:Nat->List Nat) (S:Nat->List (List Int)->List (List Int)->Prop) (K:List (List Int)->List (List Int)->Prop) (lens:List Nat) (bds:List (Int×Int)) (ds:List cN) (t:T):Prop:=
 C0 lens 0 bds (λst aZ zs=>t.qs sh lsh S (S7 ds (K zs)) (λ_ _=>False) st aZ) [] []
theorem Tp {sh:Nat->List Nat×List Nat} {lsh:Nat->List Nat} {S:Nat->List (List Int)->List (List Int)->Prop} {K:List (List Int)->List (List Int)->Prop} {lens:List Nat} {bds:List (Int×Int)} {ds:List cN} {t:T}
 (h:qg sh lsh S K lens bds ds t):j6 bds λzs=>t.holds (jo sh S) (yu λrs=>K (dk lens zs) (dk (Ca ds) rs)) (λ_ _=>False) (bL (λ_=>0) 0 zs):=by
 refine u6 λzs hi=>?_
 obtain⟨st,aZ,h1,h2⟩:=Hr h (show sz (λ_=>0) [] [] from⟨trivial,λ_=>rfl⟩) hi
 exact q5 (λv ρ st aZ aA hl=>aj2 v ρ st aZ aA hl) t _ _ _ st aZ (λ_ _ hf=>hf.elim) h1 h2
end Go.ch
namespace Go.ch
open M
structure zM where
 c:bZ
 pre:Nat
def zM.b1 (P:bV) (wb:aC) (q:zM) (spec:List Int->List Int->Prop):Prop:=
 ∀zs,af (bk q.c.args) zs->ar q.pre zs->∃rs,af (bk q.c.res) rs/\spec zs rs/\∀w,wb.Extends w->wN P q.c.f (p5 q.c.args zs).toArray w (pw q.c.res rs)
noncomputable def zM.M (q:zM):List aE->List V->M V:=λ_ vs n k=>
 match tE q.c.args vs with
 |some l=> .s5 q.pre l (.call q.c.id l n (bk q.c.res) (k (GS q.c.res n) (n+(bk q.c.res).length)))
 |none=> .stuck
noncomputable def jK (I7:List zM) (cons:List bZ):fy:=λf=>
 match I7.filter (λq=>aM f q.c.f)with
 |[]=>OP cons f
 |l=>some λbl vs n k=>match l.find? (λq=>(tE q.c.args vs).isSome)with
  |some q=>q.M bl vs n k
  |none=>match OP cons f with
   |some g=>g bl vs n k
   |none=> .stuck
section
variable {S:Nat->List Int->List Int->Prop} {P:bV} {gl:fa} {w0:eG}
theorem zM.snd {q:zM} {spec:List Int->List Int->Prop} (hc:q.b1 P w0.b spec) (hK:∀zs rs,spec zs rs->S q.c.id zs rs) (L:V->Env->Prop) (n:Nat) (ρ:Env) (m:Nat->Nat) (bl:List aE) (vs:List V) (xs:List aV)
 (kL:∀v∈vs,V.ok n bl.length ρ v) (hr:fb ρ m vs xs):az S L (q.M bl vs) n ρ λaa n' v=>v.ok n' bl.length aa/\∃val,v.rel aa m val/\∀w,Mem w0 ρ m bl w->wN P q.c.f xs.toArray w val:=by
 intro G k ab
 unfold zM.M at ab
 cases hl:tE q.c.args vs with
 |none=>simp[hl,T.holds]at ab
 |some l=>
  simp only[hl]at ab
  obtain⟨nQ,ab⟩:=ab
  obtain⟨h1,h2⟩:=Pp hl kL hr
  obtain⟨rs,r1,r2,gI⟩:=hc _ h1 nQ
  have ae:=OR ab r1 (hK _ _ r2)
  have hlen:=e7 r1
  have pR:=Q1 (m:=m) (nb:=bl.length) (N:=n+(bk q.c.res).length) r1 (jT.bL ρ n rs) (bO _)
  refine⟨_,_,_,JM _ _,agree.bL rs n ρ,⟨pR.1,_,pR.2,λw hw=>?_⟩,ae⟩
  rw[h2]at gI
  exact gI w hw.ext
theorem o9 {I7:List zM} {cons:List bZ} (ah:∀q∈I7,q.b1 P w0.b (S q.c.id)) (hc:∀c∈cons,c.zL P w0.b (S c.id)):h8 S P gl w0 (jK I7 cons):=by
 intro f g ka L n ρ m bl vs xs h1 h2 h3 h4
 unfold jK at ka
 split at ka
 ·exact acL (gl:=gl) hc f g ka L n ρ m bl vs xs h1 h2 h3 h4
 ·rename_i l hl
  simp only[bb]at ka
  subst ka
  intro G k ab
  simp only at ab
  split at ab
  ·rename_i q Lf
   have eM:=List.mem_filter.1 (Ha Lf)
   have FY:=bR eM.2
   subst FY
   exact zM.snd (ah q eM.1) (λ_ _ h=>h) L n ρ m bl vs xs h3 h4 G k ab
  ·split at ab
   ·rename_i oh Ar
    exact acL (gl:=gl) hc f oh Ar L n ρ m bl vs xs h1 h2 h3 h4 G k ab
   ·exact ab.elim
end
end Go.ch
namespace Go.ch
section
variable {S:Nat->List Int->List Int->Prop} {P:bV} {gl:fa} {wb:aC}
def yv (args res:List D) (spec:List Int->List Int->Prop):Prop:=∀zs rs cV,af (bk args) zs->af (bk res) rs->af (bk res) cV->spec zs rs->spec zs cV->pw res rs=pw res cV
theorem bZ.asD {c:bZ} {cal:fy} {li:dt->Nat->Option gB} {rounds d:Nat} {spec:List Int->List Int->Prop} (hm:P.follows .mixedOrders=true) (c6:∀r ex ro,h8 S P gl ⟨wb,r,ex,ro,[]⟩ cal) (hg:fA gl ⟨wb,wb,λ_=>False,λ_=>False,[]⟩)
 (hf:∀args w,(callFunc c.f args).run P w= .ok (.enter c.f args) w) (hu:yv c.args c.res spec)
 (aA:j6 (bk c.args) λzs=>(c.tree P gl cal li rounds d).holds S (j5 c.res λrs=>af (bk c.res) rs/\spec zs rs) (λ_ _=>False) (bL (λ_=>0) 0 zs)):c.b1 P wb spec:=by
 refine⟨hf,λzs hz=>?_⟩
 have h0:=bZ.calls hm c6 hg hz (oG aA hz) wb (sT wb)
 obtain⟨e,w',v,aa,m,val,h1,h2,h3,h4⟩:=Calls.some h0
 obtain⟨rs,⟨hb,hs⟩,hv⟩:=CT h3 h2
 refine⟨rs,hb,hs,λw hw=>?_⟩
 refine(bZ.calls hm c6 hg hz (oG aA hz) w hw).mono λe w' ⟨v,aa,m,val,h1,h2,h3,h4⟩=>?_
 obtain⟨cV,⟨pc,LH⟩,Au⟩:=CT h3 h2
 rw[hu zs cV rs hz pc hb LH hs]at Au
 exact⟨by rw[h1,Au],h4⟩
end
theorem wm {α:Type}:∀(ou:List Nat) (l:List α),(dk ou l).flatten=l
 |[],[]=>rfl
 |[],_::_=>by simp[dk]
 |k::ou,l=>by simp only[dk,uT,wm ou,o2]
section
variable {P:bV} {gl:fa} {wb:aC} {sh:Nat->List Nat×List Nat} {SB:Nat->List (List Int)->List (List Int)->Prop}
def wQ (SB:Nat->List (List Int)->List (List Int)->Prop) (res:List D) (id:Nat):List (List Int)->List (List Int)->Prop:=λzs rs=>af (bk res) rs.flatten/\SB id zs rs
theorem azn {lsh:Nat->List Nat} {id:Nat} {lens:List Nat} {bds:List (Int×Int)} {ds:List D} {t:T} (hl:lens=(sh id).1) (hd:xB ds=(sh id).2) (h:jj sh lsh SB (wQ SB ds id) lens bds ds t):
 j6 bds λzs=>t.holds (jo sh SB) (j5 ds λrs=>af (bk ds) rs/\jo sh SB id zs rs) (λ_ _=>False) (bL (λ_=>0) 0 zs):=by
 refine u6 λzs hz=>?_
 have h:=oG (NT h) hz
 simp only[wQ,wm]at h
 rw[hl,hd]at h
 exact h
theorem atz {c:bZ} {cal:fy} {li:dt->Nat->Option gB} {rounds d:Nat} {lsh:Nat->List Nat} {lens:List Nat} (hm:P.follows .mixedOrders=true) (c6:∀r ex ro,h8 (jo sh SB) P gl ⟨wb,r,ex,ro,[]⟩ cal) (hg:fA gl ⟨wb,wb,λ_=>False,λ_=>False,[]⟩)
 (hf:DL P c.f=true) (hu:yv c.args c.res (jo sh SB c.id)) (hl:lens=(sh c.id).1) (hd:xB c.res=(sh c.id).2)
 (hv:jj sh lsh SB (wQ SB c.res c.id) lens (bk c.args) c.res (c.tree P gl cal li rounds d)):c.b1 P wb (jo sh SB c.id):=
 bZ.asD hm c6 hg (enters hf) hu (azn hl hd hv)
end
end Go.ch
namespace Go.ch
open Go.ChangeShapes Go.WideShapes Go.RowKit
variable {H:Type} {enc:bp×aV->H} {P:bV}
def Ju (g:bp->Option (List aN)) (cells:bp->Nat):List Field->Nat->Option (List aN)
 |[],_=>some []
 |f::r,o=>match g f.type,Ju g cells r (o+cells f.type)with
  |some l,some m=>cond (aM f.offset o&&aM (cells f.type) l.length) (some (l++m)) none
  |_,_=>none
def Cw (P:bV):Nat->bp->Option (List aN)
 |0,_=>none
 |d+1,t=>match P.underlying t with
  |some (.int k)=>some [.int k k.min k.max]
  |some .string=>some [.str]
  |some .bool=>some [.bool]
  |some (.struct fs)=>Ju (Cw P d) P.cellsOf fs.toList 0
  |some (.array n e)=>match Cw P d e with
   |some l=>cond (aM (P.cellsOf e) l.length) (some (e9 n l).flatten) none
   |none=>none
  |_=>none
theorem cF.append:∀{a b:List aN} {x y:List Int},cF a x->cF b y->cF (a++b) (x++y)/\dr (a++b) (x++y)=dr a x++dr b y
 |[],_,[],_,_,h=>⟨h,rfl⟩
 |_::_,_,_::_,_,h,bd=>by
  have:=cF.append h.2 bd
  exact⟨⟨h.1,this.1⟩,by simp only[mY,dr,this.2]⟩
 |[],_,_::_,_,h,_=>h.elim
 |_::_,_,[],_,h,_=>h.elim
def Ta (enc:bp×aV->H) (P:bV) (w:aC) (base:Nat) (spare:Nat->Bool) (held:Bool) (t:bp) (sh:List aN):Prop:=
 ∀(n:Nat) (cs:List aV) (x:rz H×List zC),Zs enc P w base spare held n t cs=some x->cs.length=sh.length->(∀m∈x.1.weights P t,m<=reachBytes)->
  ∃zs,cF sh zs/\cs=dr sh zs/\x.2=[]
theorem agM {base n:Nat} {w:aC} {spare:Nat->Bool} {held:Bool} {g:bp->Option (List aN)} (hg:∀t sh,g t=some sh->Ta enc P w base spare held t sh) {cs:List aV}:∀(fs:List Field) (o:Nat) (sh:List aN) (xs:List (rz H×List zC)),Ju g P.cellsOf fs o=some sh->cs.length=o+sh.length->xs.length=fs.length->
 (∀(j:Nat) (f:Field),fs[j]?=some f->Zs enc P w base spare held n f.type ((cs.drop f.offset).take (P.cellsOf f.type))=xs[j]?)->
 (∀m∈RZ P (fs.map (·.type)) (xs.map (·.1)),m<=reachBytes)->
 ∃zs,cF sh zs/\cs.drop o=dr sh zs/\xs.flatMap (·.2)=[]
 |[],o,sh,xs,h,hl,hx,_,_=>by
  simp only[Ju,bb]at h
  subst h
  have:xs=[]:=List.length_eq_zero_iff.1 (by simpa using hx)
  subst this
  exact⟨[],trivial,RC (by simp at hl;omega),rfl⟩
 |f::fs,o,sh,[],_,_,hx,_,_=>by simp at hx
 |f::fs,o,sh,x::xs,h,hl,hx,hf,hw=>by
  unfold Ju at h
  cases h1:g f.type with
  |none=>simp[h1]at h
  |some l=>
   cases h2:Ju g P.cellsOf fs (o+P.cellsOf f.type)with
   |none=>simp[h1,h2]at h
   |some m=>
    simp only[h1,h2]at h
    cases hc:(aM f.offset o&&aM (P.cellsOf f.type) l.length)with
    |false=>simp[hc]at h
    |true=>
     simp only[hc,cond_true,bb]at h
     subst h
     simp only[bw]at hc
     have aw:=bR hc.1
     have aD:=bR hc.2
     have h0:=hf 0 f rfl
     simp only[wJ]at h0
     simp only[c5,RZ,yo]at hw
     simp only[fQ]at hl
     obtain⟨zs,b2,a2,a3⟩:=hg f.type l h1 n ((cs.drop f.offset).take (P.cellsOf f.type)) x h0 (by rw[su,rA,aw,aD];omega) λm' hm=>hw m' (.inl hm)
     obtain⟨hN,b8,b9,de⟩:=agM (cs:=cs) hg fs (o+P.cellsOf f.type) m xs h2 (by omega) (by simpa using hx) (λj s8 aK=>by simpa using hf (j+1) s8 (by simpa using aK)) λm' hm=>hw m' (.inr hm)
     have K8:=cF.append b2 b8
     refine⟨zs++hN,K8.1,?_,by simp[a3,de]⟩
     rw[K8.2,<-a2,<-b9,aw,<-A9]
     exact(o2 _ _).symm
theorem agL {base n:Nat} {w:aC} {spare:Nat->Bool} {held:Bool} {e:bp} {l:List aN} (hg:Ta enc P w base spare held e l) (hc:P.cellsOf e=l.length) {cs:List aV}:∀(k i:Nat) (xs:List (rz H×List zC)),cs.length=(i+k)*l.length->xs.length=k->
 (∀j,j<k->Zs enc P w base spare held n e ((cs.drop ((i+j)*P.cellsOf e)).take (P.cellsOf e))=xs[j]?)->
 (∀m∈R0 P e (xs.map (·.1)),m<=reachBytes)->
 ∃zs,cF (e9 k l).flatten zs/\cs.drop (i*l.length)=dr (e9 k l).flatten zs/\xs.flatMap (·.2)=[]
 |0,i,xs,hl,hx,_,_=>by
  have:xs=[]:=List.length_eq_zero_iff.1 hx
  subst this
  exact⟨[],trivial,RC (by rw[hl];exact bO _),rfl⟩
 |k+1,i,[],_,hx,_,_=>by simp at hx
 |k+1,i,x::xs,hl,hx,hf,hw=>by
  have h0:=hf 0 (Nat.succ_pos k)
  simp only[wJ,pE]at h0
  simp only[c5,R0,yo]at hw
  have F2:cs.length=i*l.length+(l.length+k*l.length):=by rw[hl,Nat.add_mul,zF];omega
  obtain⟨zs,b2,a2,a3⟩:=hg n _ x h0 (by rw[su,rA,hc];omega) λm' hm=>hw m' (.inl hm)
  obtain⟨hN,b8,b9,de⟩:=agL hg hc k (i+1) xs (by rw[hl];congr 1;omega) (by simpa using hx) (λj aK=>by
   have:=hf (j+1) (by omega)
   rw[show i+(j+1)=i+1+j by omega]at this
   simpa using this) λm' hm=>hw m' (.inr hm)
  have K8:=cF.append b2 b8
  refine⟨zs++hN,by rw[CP,uT];exact K8.1,?_,by simp[a3,de]⟩
  rw[CP,uT,K8.2,<-a2,<-b9,hc,zF,<-A9]
  exact(o2 _ _).symm
theorem QF {base:Nat} {w:aC} {spare:Nat->Bool} {held:Bool}:∀(d:Nat) (t:bp) (sh:List aN),Cw P d t=some sh->Ta enc P w base spare held t sh
 |0,t,sh,h=>by simp[Cw]at h
 |d+1,t,sh,h=>by
  have ih:=QF (base:=base) (w:=w) (spare:=spare) (held:=held) d
  intro n cs x hx hl hw
  unfold Cw at h
  split at h
  ·rename_i k hu
   simp only[bb]at h
   subst h
   obtain⟨z,rfl,rfl,Wu⟩:=aiX hu hx
   have:=ais.1 Wu
   exact⟨[z],⟨this,trivial⟩,rfl,rfl⟩
  ·rename_i hu
   simp only[bb]at h
   subst h
   obtain⟨s,rfl,rfl,hs⟩:=aBV hu hx
   have hb:s.data.toList.length<=nX:=hw _ (by simp[R1])
   refine⟨[j7 s.data.toList],⟨⟨yE _,wO hb⟩,trivial⟩,?_,rfl⟩
   simp[dr,aN.val,AT,dY]
  ·rename_i hu
   simp only[bb]at h
   subst h
   obtain⟨b,rfl,rfl⟩:=DataW.trod_bool hu hx
   refine⟨[cond b 1 0],⟨?_,trivial⟩,?_,rfl⟩
   ·cases b<;>simp[aN.ga]
   ·cases b<;>simp[dr,aN.val]
  ·rename_i fs hu
   obtain⟨xs,m,rfl,rfl,hlen,hn,Iq⟩:=DataW.trod_struct hu hx
   simp only[R1,hu]at hw
   obtain⟨zs,b2,a2,a3⟩:=agM (n:=m) ih fs.toList 0 sh xs h (by omega) (by rw[hn];simp) (λj f aK=>Iq j f (by simpa using aK)) hw
   exact⟨zs,b2,by simpa using a2,a3⟩
  ·rename_i k e hu
   cases h1:Cw P d e with
   |none=>simp[h1]at h
   |some l=>
    simp only[h1]at h
    cases hc:aM (P.cellsOf e) l.length with
    |false=>simp[hc]at h
    |true=>
     simp only[hc,cond_true,bb]at h
     subst h
     have hc:=bR hc
     obtain⟨xs,m,rfl,rfl,hlen,hn,Iq⟩:=aBe hu hx
     simp only[R1,hu]at hw
     have kU:(e9 k l).flatten.length=k*l.length:=by simp
     obtain⟨zs,b2,a2,a3⟩:=agL (n:=m) (ih e l h1) hc k 0 xs (by rw[hl,kU];simp) hn (λj aK=>by
      have:=Iq j aK
      simpa using this) hw
     exact⟨zs,b2,by simpa using a2,a3⟩
  ·cases h
theorem awe {fits:bp->Bool}:∀(d:Nat) (e:bp) (count off n:Nat),rowAt P fits d e count off n=true->off<=count*P.cellsOf e
 |0,_,_,_,_,h=>by simp[rowAt]at h
 |d+1,e,count,off,n,h=>by
  unfold rowAt at h
  dsimp only at h
  split at h
  ·cases h
  ·rename_i hs
   have aoI:=RB off (P.cellsOf e)
   have hlt:=Nc off (Nat.pos_of_ne_zero hs)
   rw[CJ]at h
   rcases h with h|h
   ·simp only[bw,beq_iff_eq,decide_eq_true_eq]at h
    have h1:off/P.cellsOf e<=count:=by omega
    have:=RP (P.cellsOf e) h1
    rw[zy count];omega
   ·rw[bw]at h
    have h1:off/P.cellsOf e<count:=by simpa using h.1
    have h1:off/P.cellsOf e+1<=count:=h1
    have:=RP (P.cellsOf e) h1
    rw[Nat.mul_add,Ba]at this
    rw[zy count];omega
theorem afU:∀(d:Nat) (e:bp) (count off:Nat) (u:bp) (n:Nat),liesAt P d e count off u n=true->off<=count*P.cellsOf e
 |0,_,_,_,_,_,h=>by simp[liesAt]at h
 |d+1,e,count,off,u,n,h=>by
  unfold liesAt at h
  rw[CJ]at h
  rcases h with h|h
  ·exact awe _ _ _ _ _ h
  ·split at h
   ·exact afU d e count off _ _ h
   ·cases h
theorem alF {base:Nat} {w:aC} {a:Addr} {n:Nat} {cs:List aV} (h:w.cells? base a n=some cs):cs.length=n/\∀j,j<n->w.cell? (a.add j)=cs[j]?:=by
 unfold World.cells? at h
 split at h
 ·have hl:=List.afS h
  refine⟨by simpa using hl,λj aK=>?_⟩
  have:=List.adT h j j (by simp[aK])
  exact this
 ·cases h
where
 List.afS {α β:Type} {f:α->Option β}:∀{l:List α} {r:List β},l.mapM f=some r->r.length=l.length
  |[],r,h=>by simp at h;subst h;rfl
  |x::l,r,h=>by
   rw[aiV]at h
   cases hx:f x with
   |none=>simp[hx]at h
   |some y=>
    cases hl:l.mapM f with
    |none=>simp[hx,hl]at h
    |some s=>
     simp[hx,hl]at h
     subst h
     simp[List.afS hl]
 List.adT {α β:Type} {f:α->Option β}:∀{l:List α} {r:List β},l.mapM f=some r->∀(j:Nat) (x:α),l[j]?=some x->f x=r[j]?
  |[],r,h,j,x,hx=>by simp at hx
  |y::l,r,h,j,x,hx=>by
   rw[aiV]at h
   cases hy:f y with
   |none=>simp[hy]at h
   |some z=>
    cases hl:l.mapM f with
    |none=>simp[hy,hl]at h
    |some s=>
     simp[hy,hl]at h
     subst h
     cases j with
     |zero=>simp at hx;subst hx;simp[hy]
     |succ j=>simpa using List.adT hl j x (by simpa using hx)
theorem ahs {cells:Array aV} {sh:List aN}:∀(len o:Nat),o<=cells.size->(∀i,i<len->∃zs,cF sh zs/\∀j,j<sh.length->cells[o+i*sh.length+j]?=(dr sh zs)[j]?)->(0<len->0<sh.length)->
 ∃rows:List (List Int),rows.length=len/\pK cells o sh rows
 |0,o,ax,_,_=>⟨[],rfl,λ_ h=>by simp at h,cells.toList.take o,cells.toList.drop o,by simp[ca],by simp;omega⟩
 |len+1,o,ax,h,hp=>by
  obtain⟨zs,b2,a2⟩:=h 0 (Nat.succ_pos _)
  have hp:=hp (Nat.succ_pos _)
  have hv:=GV b2
  have VZ:=a2 (sh.length-1) (by omega)
  have hsz:o+sh.length<=cells.size:=by
   have:(dr sh zs)[sh.length-1]?≠none:=by rw[qJ (by omega)];simp
   rw[<-VZ]at this
   have:=Array.anH.1 this
   omega
  obtain⟨rows,b8,b9,pre,post,de,oH⟩:=ahs len (o+sh.length) hsz (λi hi=>by
   obtain⟨hN,c1,bK⟩:=h (i+1) (by omega)
   refine⟨hN,c1,λj aK=>?_⟩
   rw[<-bK j aK]
   congr 1
   rw[zF];omega) λ_=>hp
  refine⟨zs::rows,by simp[b8],λrow hr=>?_,cells.toList.take o,post,?_,by simp;omega⟩
  ·rcases List.mem_cons.1 hr with rfl|hr
   ·exact b2
   ·exact b9 row hr
  ·have aw:pre=cells.toList.take (o+sh.length):=by
    rw[de,nI,List.take_left' oH]
   have aD:pre=cells.toList.take o++dr sh zs:=by
    rw[aw,List.take_add]
    congr 1
    refine List.ext_getElem? λj=>?_
    by_cases aK:j<sh.length
    ·have:=a2 j aK
     rw[List.getElem?_take,if_pos aK,List.getElem?_drop,<-this]
     simp
    ·rw[ZB (by simp;omega),ZB (by omega)]
   have cj:cells.toList=cells.toList.take o++dr sh zs++ca sh rows++post:=by rw[<-aD];exact de
   have hV:ca sh (zs::rows)=dr sh zs++ca sh rows:=by simp[ca]
   rw[hV,<-nI];exact cj
where
 Array.anH {α:Type} {a:Array α} {i:Nat}:a[i]?≠none↔i<a.size:=by simp
def NB (P:bV) (t:bp):cN->Prop
 | .d (.int k lo hi)=>P.underlying t=some (.int k)/\lo=k.min/\hi=k.max
 | .d .bool=>P.underlying t=some .bool
 | .d .str=>P.underlying t=some .string
 | .d (.agg k n lo hi)=>∃e,P.underlying t=some (.array n e)/\Cw P 8 t=some (e9 n (.int k lo hi))/\P.cellsOf t=n
 | .d (.mix l)=>((∃fs,P.underlying t=some (.struct fs))∨∃n e,P.underlying t=some (.array n e))/\Cw P 8 t=some l/\P.cellsOf t=l.length
 | .d (.ze _)=>False
 | .d (.ph ..)=>False
 | .rd sh=>∃e,P.underlying t=some (.slice e)/\Cw P 8 e=some sh/\P.cellsOf e=sh.length/\qC sh=true
 | .sO _ _=>False
theorem cF.af:∀{sh:List aN} {zs:List Int},cF sh zs->af (sh.map aN.ga) zs
 |[],[],_=>trivial
 |_::_,_::_,h=>⟨h.1.1,h.1.2,cF.af h.2⟩
 |[],_::_,h=>h.elim
 |_::_,[],h=>h.elim
theorem aho:∀(sh:List aN) (zs:List Int),dr sh zs=uW aN.val sh zs
 |[],_=>by simp[dr]
 |_::_,[]=>by simp[dr]
 |c::sh,z::zs=>by simp only[dr,RL,aho sh zs]
theorem ahn (k:dO) (lo hi:Int):∀(n:Nat) (zs:List Int),zs.length=n->dr (e9 n (.int k lo hi)) zs=zs.map (zD k)
 |0,[],_=>rfl
 |n+1,z::zs,h=>by
  rw[CP]
  simp only[dr,c5,ahn k lo hi n zs (by simpa using h)]
  rfl
 |0,_::_,h=>by simp at h
 |n+1,[],h=>by simp at h
theorem af3 (k:dO) (lo hi:Int):∀n:Nat,(e9 n (aN.int k lo hi)).map aN.ga=au lo hi n
 |0=>rfl
 |n+1=>by rw[CP,c5,af3 k lo hi n];rfl
theorem atF {fK:Nat} {w:aC} {t:bp} {b:cN} {v:aV} {x:rz H} {kq:List zC} (aA:NB P t b) (q7:Ny P w .any fK t v) (hd:DataW.Trod enc P w 0 (λ_=>true) true t v x kq) (hw:∀m∈x.weights P t,m<=reachBytes):
 ∃zs,af b.bds zs/\zs.length=b.num/\b.at (λg=>g<w.heap.size) (λ_=>False) w zs v:=by
 obtain⟨fuel,hf⟩:=hd
 have agg:((∃fs,P.underlying t=some (.struct fs))∨∃n e,P.underlying t=some (.array n e))->∃cs,v= .agg cs/\cs.size=P.cellsOf t:=λh=>by
  unfold Ny at q7
  rcases h with⟨fs,h⟩|⟨n,e,h⟩
  ·rw[h]at q7;obtain⟨cs,a,b,_⟩:=q7;exact⟨cs,a,b⟩
  ·rw[h]at q7;obtain⟨cs,a,b,_⟩:=q7;exact⟨cs,a,b⟩
 cases b with
 |sO _ _=>exact aA.elim
 |d y=>
  cases y with
  |ze l=>exact aA.elim
  |ph k c=>exact aA.elim
  |int k lo hi=>
   obtain⟨h1,rfl,rfl⟩:=aA
   obtain⟨n,rfl⟩:=okWide_int h1 q7
   obtain⟨n',h,hx,Wu⟩:=aiX h1 hf
   simp[Hb]at h
   subst h
   have:=ais.1 Wu
   exact⟨[n],⟨this.1,this.2,trivial⟩,rfl,rfl⟩
  |bool=>
   obtain⟨c,rfl⟩:=okWide_bool aA q7
   refine⟨[cond c 1 0],?_,rfl,?_⟩
   ·cases c<;>simp[cN.bds,D.bds,af]
   ·cases c<;>simp[cN.at,D.val]
  |str=>
   obtain⟨s,rfl⟩:=okWide_string aA q7
   obtain⟨GW,h,hx,hs⟩:=aBV aA hf
   simp[Hb]at h
   subst h
   simp only[eW]at hx
   have hb:s.data.toList.length<=nX:=hw _ (by rw[hx.1];simp[R1])
   exact⟨[j7 s.data.toList],⟨yE _,wO hb,trivial⟩,rfl,by simp[cN.at,D.val,AT,dY]⟩
  |agg k n lo hi=>
   obtain⟨e,h1,h2,h3⟩:=aA
   obtain⟨cs,rfl,hsz⟩:=agg (.inr ⟨n,e,h1⟩)
   obtain⟨zs,b2,a2,_⟩:=QF 8 t _ h2 fuel _ _ hf (by show cs.toList.length=_;simp[hsz,h3]) hw
   have hl:zs.length=n:=by have:=b2.len;simpa using this
   have db:cs=(dr (e9 n (.int k lo hi)) zs).toArray:=by rw[<-a2];simp[Hb]
   refine⟨zs,?_,hl,?_⟩
   ·have:=b2.af;rw[af3]at this;exact this
   ·show aBW cs=_
    rw[db,ahn k lo hi n zs hl]
    simp only[D.val,<-hl,Zo]
  |mix l=>
   obtain⟨h1,h2,h3⟩:=aA
   obtain⟨cs,rfl,hsz⟩:=agg h1
   obtain⟨zs,b2,a2,_⟩:=QF 8 t _ h2 fuel _ _ hf (by show cs.toList.length=_;simp[hsz,h3]) hw
   have hl:zs.length=l.length:=b2.len
   have db:cs=(dr l zs).toArray:=by rw[<-a2];simp[Hb]
   refine⟨zs,b2.af,hl,?_⟩
   show aBW cs=_
   rw[db,aho];rfl
 |rd sh=>
  obtain⟨e,h1,h2,h3,Gd⟩:=aA
  have h4:0<sh.length:=by
   unfold qC at Gd
   simp only[bw,Nat.blt_eq]at Gd
   exact Gd.1.2
  obtain⟨a,len,cap,rfl⟩:=okWide_slice h1 q7
  rcases DataW.trod_slice h1 hf with⟨h,_⟩|⟨aaV,rf,j8,elems,rest,n,rfl,h,hx,_,Lw,DR,Iq,aoO,vv,xm⟩
  ·simp[Hb]at h
   obtain⟨rfl,rfl,rfl⟩:=h
   exact⟨[0],⟨cW _,zN,trivial⟩,rfl,.inl ⟨rfl,oW⟩⟩
  ·simp[Hb]at h
   obtain⟨rfl,rfl,rfl⟩:=h
   have aoY:w.has P .any fK aaV e cap:=by
    unfold Ny at q7
    rw[h1]at q7
    simp only[Cell.okWide,Cell.ok,h1]at q7
    exact q7.2.2
   obtain⟨_,afb,row,Uk,lR,apa⟩:=aoY
   obtain⟨g,o,sp⟩:=aaV
   simp only at afb
   subst afb
   obtain⟨cells,G3,fz,BK,tI⟩:∃cells G3 fz,w.heap[g]?=some (.cells cells G3 fz)/\cells.size=Uk/\G3=row:=by
    unfold World.shape? at lR
    split at lR
    ·rename_i c el fz hb
     simp only[bb,eW]at lR
     exact⟨c,el,fz,hb,lR.2,lR.1⟩
    ·cases lR
   have ax:o<=cells.size:=by
    have:=afU _ _ _ _ _ _ apa
    have h6:=Nat.div_mul_le_self Uk (P.cellsOf row)
    have h7:o<=Uk/P.cellsOf row*P.cellsOf row:=this
    omega
   simp only[eW]at hx
   obtain⟨tf,Av⟩:=hx
   rw[tf]at hw
   simp only[R1,h1,pD,yo]at hw
   obtain⟨rows,r1,r2⟩:=ahs (cells:=cells) (sh:=sh) len o ax (λi hi=>by
    have:=aoO i hi
    cases hy:elems[i]? with
    |none=>rw[List.getElem?_eq_none_iff]at hy;omega
    |some y=>
     rw[hy,Option.bind_eq_some_iff]at this
     obtain⟨cs,g1,g2⟩:=this
     obtain⟨l1,l2⟩:=alF g1
     obtain⟨zs,aB,z2,_⟩:=QF 8 e sh h2 n cs y g2 (by rw[l1,h3]) λm hm=>by
      refine hw m (.inr (.inl ?_))
      exact af5 hy hm
     refine⟨zs,aB,λj aK=>?_⟩
     have:=l2 j (by rw[h3];exact aK)
     rw[kF,kF]at this
     simp only[o3,BK,Option.isSome_none,Bool.false_eq_true,if_false]at this
     rw[<-z2,<-this,h3]) λ_=>h4
   have df:(cap:Int)<=9223372036854775807:=by unfold maxLen at DR;omega
   have PY:rows.length<=maxLen:=by omega
   have an5:rc rows<=bU:=uh PY λr hr=>(r2.1 r hr).row Gd
   refine⟨[rc rows],⟨jR _,an5,trivial⟩,rfl,.inr ⟨g,o,cap,cells,G3,fz,?_,?_,?_,BK,?_⟩⟩
   ·simp[kh,r1]
   ·simp only[jH,kh,r1];exact⟨Lw,df⟩
   ·exact(Array.getElem?_eq_some_iff.1 BK).1
   ·simp only[jH,kh];exact r2
where
 af5 {e:bp}:∀{l:List (rz H×List zC)} {i:Nat} {y:rz H×List zC} {m:Nat},l[i]?=some y->m∈y.1.weights P e->m∈R0 P e (l.map (·.1))
  |x::l,0,y,m,h,hm=>by
   simp only[wJ,bb]at h
   subst h
   simp only[c5,R0,yo]
   exact .inl hm
  |x::l,i+1,y,m,h,hm=>by
   simp only[c5,R0,yo]
   exact .inr (af5 (by simpa using h) hm)
  |[],_,_,_,h,_=>by simp at h
def R6 (P:bV):List bp->List cN->Prop
 |[],[]=>True
 |t::ts,b::bs=>NB P t b/\R6 P ts bs
 |_,_=>False
theorem cN.akH {F N:Nat->Prop} {w:aC} (b:cN) {zs l:List Int} {v:aV} (h:zs.length=b.num) (ha:b.at F N w zs v):b.at F N w (zs++l) v:=by
 cases b with
 |d x=>
  show v=x.val (zs++l)
  rw[D.aiq x (l:=l) h];exact ha
 |rd sh=>match zs,h with|[z],_=>exact ha
 |sO sh e=>match zs,h with|[z],_=>exact ha
theorem agK {fK:Nat} {w:aC}:∀{ts:List bp} {bs:List cN} {vs:List aV} {xs:List (rz H)} {kq:List zC},R6 P ts bs->(∀(j:Nat) t v,ts[j]?=some t->vs[j]?=some v->Ny P w .any fK t v)->ajd enc P w 0 (λ_=>true) true ts vs xs kq->
 (∀m∈RZ P ts xs,m<=reachBytes)->∃zs,af (dz bs) zs/\nM (λg=>g<w.heap.size) (λ_=>False) w bs zs vs/\xs.length=bs.length
 |[],[],[],[],kq,_,_,h,_=>⟨[],trivial,trivial,rfl⟩
 |[],[],_::_,_,_,_,_,h,_=>h.elim
 |[],[],[],_::_,_,_,_,h,_=>h.elim
 |[],_::_,_,_,_,h,_,_,_=>h.elim
 |_::_,[],_,_,_,h,_,_,_=>h.elim
 |_::_,_::_,[],_,_,_,_,h,_=>by cases h
 |_::_,_::_,_::_,[],_,_,_,h,_=>by cases h
 |t::ts,b::bs,v::vs,x::xs,kq,aA,hv,h,hw=>by
  obtain⟨p,q,h1,h2,rfl⟩:=h
  simp only[RZ,yo]at hw
  obtain⟨zs,b2,a2,a3⟩:=atF aA.1 (hv 0 t v rfl rfl) h1 λm hm=>hw m (.inl hm)
  obtain⟨hN,b8,b9,de⟩:=agK aA.2 (λj t v h1 h2=>hv (j+1) t v (by simpa using h1) (by simpa using h2)) h2 λm hm=>hw m (.inr hm)
  refine⟨zs++hN,II b2 b8,⟨cN.akH b a2 a3,?_⟩,by simp[de]⟩
  rw[<-a2,EN];exact b9
theorem aih (hl:laidOutB P=true) {W W':aC} (hb:Below W.heap.size W W'):∀{ts:List bp} {vs:List aV} {xs:List (rz H)} {kq:List zC},(∀t∈ts,P.readableRec t=true/\t<P.types.size)->ajd enc P W 0 (λ_=>true) true ts vs xs kq->(∀x∈kq,x.block<W.heap.size)->
 ajd enc P W' 0 (λb=>decide (b<W.heap.size)) true ts vs xs kq
 |[],[],[],_,_,h,_=>h
 |[],_::_,_,_,_,h,_=>h.elim
 |[],[],_::_,_,_,h,_=>h.elim
 |_::_,[],_,_,_,h,_=>by cases h
 |_::_,_::_,[],_,_,h,_=>by cases h
 |t::ts,v::vs,x::xs,kq,hr,h,hlt=>by
  obtain⟨p,q,h1,h2,rfl⟩:=h
  exact⟨p,q,Below.trod hl (hr t (by simp)).1 (hr t (by simp)).2 h1 hb λx hx=>hlt x (List.mem_append.2 (.inl hx)),aih hl hb (λt aA=>hr t (eB _ aA)) h2 λx hx=>hlt x (List.mem_append.2 (.inr hx)),rfl⟩
theorem alG {C:Checked} {os:Os} {f:dt} {fn:Func} {s:ChangeSpec} {apart:Bool} {X:aC->Array aV->Prop}
 (b3:∀(w w':aC) (args:Array aV),w.heap=w'.heap->X w args->X w' args)
 (own:ownKnob C.prog.godebug=none) (started:os.Started) (Xm:C.prog.inits.idxOf? f=none) (DV:C.prog.funcs[f]?=some fn)
 (witness:∃(w:aC) (tape:Tape) (i:Input),w.os=os/\(w.forCall tape i).Shaped C.prog/\i.vars=[]/\aBX C.prog (w.forCall tape i) .any w.heap.size f i/\
   ((s.pre enc C.prog fn [] apart (w.forCall tape i).memory i.args/\X (w.forCall tape i).memory i.args)/\sizedMet enc C.prog fn (ZI s) apart (w.forCall tape i).memory i.args)/\({}:Assume).holds C.prog (lone (aBY C.prog f i.args .normal) [] (w.forCall tape i)))
 (Uq:∀(W:aC) (base:Nat) (args:Array aV) (ds gs:List (rz H)) (before:List zC),
   (∀(j:Nat) t v,fn.params[j]?=some t->args[j]?=some v->Ny C.prog W .any base t v)->
   DataW.Whole enc C.prog fn.params.toList s.vars apart W args.toList ds gs before->(RZ C.prog (fn.params.toList++s.plain.varTypes C.prog) (ds++gs)).all (·<=reachBytes)=true->X W args->W.ShapedOpen C.prog->
   oD C.prog f args W λe W'=>∃v,e= .returned v/\s.post enc C.prog fn apart true false false W args v W'):
 ReturnsInHanded {} C os f .any (λw args=>(s.pre enc C.prog fn [] apart w args/\X w args)/\sizedMet enc C.prog fn (ZI s) apart w args) (s.post enc C.prog fn apart true false false):=by
 refine returnsInHanded_of_calls own started Xm witness ?_
 intro w tape i _ lR _ b0 rS aFu
 obtain⟨_,_,_,ant,Ln,_,_,_,_,q7⟩:=b0
 have e:ant=fn:=jd (Ln.symm.trans DV)
 subst e
 obtain⟨⟨⟨ds,gs,before,hw,hc⟩,hx⟩,hz⟩:=rS
 have xr:=aJJ (w':=w.forCall tape i) (by rfl) hw
 refine(Uq (w.forCall tape i) w.heap.size i.args ds gs before q7 xr (hz.weights hw) (b3 _ _ _ (by rfl) hx) lR).mono λe W' ⟨v,he,hp⟩=>?_
 subst he
 exact aJK hp
theorem arJ {C:Checked} {os:Os} {f:dt} {fn:Func} {s:ChangeSpec} {X:aC->Array aV->Prop} {apart:Bool} {ts:List bp} {tb:bp} {bs:List cN}
 (b3:∀(w w':aC) (args:Array aV),w.heap=w'.heap->X w args->X w' args)
 (own:ownKnob C.prog.godebug=none) (started:os.Started) (Xm:C.prog.inits.idxOf? f=none) (DV:C.prog.funcs[f]?=some fn)
 (witness:∃(w:aC) (tape:Tape) (i:Input),w.os=os/\(w.forCall tape i).Shaped C.prog/\i.vars=[]/\aBX C.prog (w.forCall tape i) .any w.heap.size f i/\
   ((s.pre enc C.prog fn [] apart (w.forCall tape i).memory i.args/\X (w.forCall tape i).memory i.args)/\sizedMet enc C.prog fn (ZI s) apart (w.forCall tape i).memory i.args)/\({}:Assume).holds C.prog (lone (aBY C.prog f i.args .normal) [] (w.forCall tape i)))
 (hp:fn.params.toList=ts) (hr:fn.resultTypes.toList=[tb]) (gm:fn.resultTypes.size=1) (apX:C.prog.underlying tb=some .bool) (LK:R6 C.prog ts bs) (yU:laidOutB C.prog=true) (yY:(ts.all λt=>C.prog.readableRec t&&decide (t<C.prog.types.size))=true) (Ws:s.vars=[])
 (hs:∀xs:List (rz H),xs.length=bs.length->s.fn H xs={results:=[.lit (.bool true)],args:=xs,vars:=[]})
 (Uq:∀(W:aC) (zs:List Int) (vs:List aV),af (dz bs) zs->nM (λg=>g<W.heap.size) (λ_=>False) W bs zs vs->X W vs.toArray->W.ShapedOpen C.prog->oD C.prog f vs.toArray W λe W'=>e= .returned (.bool true)/\W.Extends W'):
 ReturnsInHanded {} C os f .any (λw args=>(s.pre enc C.prog fn [] apart w args/\X w args)/\sizedMet enc C.prog fn (ZI s) apart w args) (s.post enc C.prog fn apart true false false):=by
 refine alG b3 own started Xm DV witness ?_
 intro W base args xs gs before aqb BB hsz hx lR
 have an7:=BB
 have hlt:=BB.lt
 obtain⟨p,q,aU,Vr,rfl,VM,aFD⟩:=BB
 rw[hp]at aU
 rw[Ws]at Vr
 obtain⟨rfl,rfl⟩:gs=[]/\q=[]:=by
  cases gs with
  |nil=>exact⟨rfl,Vr⟩
  |cons g r=>exact absurd Vr (by intro h;cases h)
 have q7:∀(j:Nat) t v,ts[j]?=some t->args.toList[j]?=some v->Ny C.prog W .any base t v:=λj t v h1 h2=>aqb j t v (by rw[<-hp]at h1;simpa using h1) (by simpa using h2)
 have e:(fn.params.toList++s.plain.varTypes C.prog)=ts:=by rw[hp];simp[DataSpec.varTypes,aJM,Ws]
 rw[e,gZ,JI]at hsz
 obtain⟨zs,hz,hat,hlen⟩:=agK LK q7 aU λn hn=>by simpa using hsz n hn
 have ta:args=args.toList.toArray:=by simp
 rw[ta]at hx
 have VD:oD C.prog f args W λe W'=>e= .returned (.bool true)/\W.Extends W':=by
  have:=Uq W zs args.toList hz hat hx lR
  rwa [<-ta]at this
 refine VD.mono λe W' ⟨he,hw⟩=>?_
 subst he
 have Ln:=hs (xs++[]) (by simp[hlen])
 have aor:Below W.heap.size W W':=⟨hw.os,hw.tape,hw.output,hw.size,λi hi=>hw.block i hi⟩
 refine⟨_,rfl,_,_,_,[],p,[],an7,?_,?_,?_,art hw _,λh=>by cases h⟩
 ·rw[Ln,hr,gm];exact trodAll_mk1 (shut_bool apX true)
 ·rw[Ln,hp,gZ]
  exact aih yU aor (λt aA=>by
   have:=List.all_eq_true.1 yY t aA
   simpa using this) aU λx hx=>hlt x (by simp[hx])
 ·rw[Ln,Ws];rfl
section
variable {gl:fa} {wb:aC} {sh:Nat->List Nat×List Nat} {SB:Nat->List (List Int)->List (List Int)->Prop}
def j4 (SB:Nat->List (List Int)->List (List Int)->Prop) (res:List cN) (id:Nat):List (List Int)->List (List Int)->Prop:=λzs rs=>af (dz res) rs.flatten/\SB id zs rs
theorem ak6 {c:fE} {bc:qO} {cal:fy} {li:dt->Nat->Option gB} {rounds d:Nat} {lsh:Nat->List Nat} {lens:List Nat} (hm:P.follows .mixedOrders=true) (c6:∀r ex ro,h8 (jo sh SB) P gl ⟨wb,r,ex,ro,[]⟩ cal) (hg:fA gl ⟨wb,wb,λ_=>False,λ_=>False,[]⟩)
 (oN:∀(L:V->Env->Prop) (r:aC) (ro:Nat->Prop),wL (jo sh SB) L ⟨wb,r,λ_=>False,ro,[]⟩ P bc) (hf:DL P c.f=true) (hl:lens=(sh c.id).1) (hd:Ca c.res=(sh c.id).2)
 (hv:qg sh lsh SB (j4 SB c.res c.id) lens (dz c.args) c.res (c.tree bc P gl cal li rounds d)):c.b1 P wb (jo sh SB c.id):=by
 refine fE.Md (li:=li) (rounds:=rounds) (d:=d) hm c6 hg oN (enters hf) (u6 λzs hz=>?_)
 have h:=oG (Tp hv) hz
 simp only[j4,wm]at h
 rw[hl,hd]at h
 exact h
theorem arI {c:fE} {W:aC} {vs:List aV} {zs:List Int} (hc:c.b1 P W (jo sh SB c.id)) (pR:c.res=[.d .bool]) (rS:c.pre=0) (hz:af (dz c.args) zs) (hat:nM (λg=>g<W.heap.size) (λ_=>False) W c.args zs vs) (h1:∀a z,SB c.id a [[z]]->z=1) (h2:(sh c.id).2=[1]):
 oD P c.f vs.toArray W λe W'=>e= .returned (.bool true)/\W.Extends W':=by
 refine(hc.2 _ W vs zs (sT W) hz (by rw[rS];trivial) hat).mono λe W' ⟨hx,rs,us,hb,hs,hr,he⟩=>⟨?_,hx⟩
 rw[pR]at hb hr
 match rs,hb,us,hr,hs,he with
 |[z],hb,[u],hr,hs,he=>
  unfold jo at hs
  rw[h2]at hs
  have aw:z=1:=h1 _ z hs
  subst aw
  have:u= .bool true:=hr.1
  subst this
  rw[he];rfl
 |[z],hb,[],hr,hs,he=>exact hr.elim
 |[z],hb,_::_::_,hr,hs,he=>exact hr.2.elim
 |[],hb,_,_,_,_=>exact hb.elim
 |_::_::_,hb,_,_,_,_=>exact hb.2.2.elim
end
end Go.ch
namespace Go.ch
open M
structure aB7 where
 f:dt
 id:Nat
 sh:List aN
 e:bp
 args:List cN
 pre:Nat:=0
section
variable {S:Nat->List Int->List Int->Prop} {L:V->Env->Prop} {w0:eG} {P:bV}
end
end Go.ch
namespace Go.ch
open M Go.RowKit
variable {S:Nat->List Int->List Int->Prop} {L:V->Env->Prop} {P:bV} {gl:fa} {cal:fy}
def SD (P:bV) (f:dt):Prop:=
 (∀args w,(callFunc f args).run P w= .ok (.enter f args) w)/\
 ∀(l bs um:Nat) (sv:aV) (g off len cap c:Nat) (J:Nat->aC->Prop) (W:aC),
  0<c->len<=9223372036854775807->c∣len->len<=cap->c<=9223372036854775807->
  (sv= .slice (some ⟨g,off,none⟩) len cap∨(sv= .slice none 0 0/\len=0))->
  (∀i W,J i W->W.cell? ⟨bs,0,none⟩=some sv/\W.cell? ⟨um,0,none⟩=some (.int .i64 c))->
  (∀i W,J i W->J i W.drew)->
  (∀i W,J i W->c*i<len->YieldAt Hf 0 P l #[.slice (some ⟨g,off+c*i,none⟩) c c] W λe W'=>e= .returned (.bool true)/\J (i+1) W')->
  J 0 W->CallsIn Hf 0 P f #[.func (.yield l) #[] #[],.pointer (some ⟨bs,0,none⟩),.pointer (some ⟨um,0,none⟩)] W λe W'=>(∃v,e= .returned v)/\J (len/c) W'
theorem UT {b w w':aC} (h:b.Extends w) (h1:w'.os=w.os) (h2:w'.tape=w.tape) (h3:w'.output=w.output) (h4:w.heap.size<=w'.heap.size) (h5:∀k,k<b.heap.size->w'.heap[k]?=w.heap[k]?):b.Extends w':=
 ⟨h1.trans h.os,h2.trans h.tape,h3.trans h.output,oE h.size h4,λa ha=>(World.cell?_of_block (h5 _ ha)).trans (h.cell a ha),λa ha=>(World.frozen?_of_block (h5 _ ha)).trans (h.frozen a ha),λi hi=>(h5 i hi).trans (h.block i hi)⟩
theorem Mem.xT {b r r':aC} {ex ro:Nat->Prop} {ds Fm:List EP} {ρ:Env} {m:Nat->Nat} {bl:List aE} {w w':aC} (h:Mem ⟨b,r,ex,ro,ds⟩ ρ m bl w) (l:Nat) (hl:b.heap.size<=l) (hex:¬ex l) (hlt:l<r.heap.size)
 (hr:r'.os=r.os/\r'.tape=r.tape/\r'.output=r.output/\r'.heap.size=r.heap.size) (hw:w'.os=w.os/\w'.tape=w.tape/\w'.output=w.output/\w'.heap.size=w.heap.size)
 (h1:∀k,k≠l->r'.heap[k]?=r.heap[k]?) (h2:∀k,k≠l->w'.heap[k]?=w.heap[k]?) (h3:w'.heap[l]?=r'.heap[l]?) (hc:∀o:Obj,r.heap[l]?=some o->o.isCells=false):Mem ⟨b,r',ex,ro,Fm⟩ ρ m bl w':=by
 have aqh:w.heap[l]?=r.heap[l]?:=h.jB l hlt hex
 have ne:∀{g:Nat} {cs:Array aV} {t:bp} {fz:Nat×Nat},w.heap[g]?=some (.cells cs t fz)->g≠l:=λ{g cs t fz} hg e=>by
  subst e
  rw[aqh]at hg
  have:=hc _ hg
  simp[Obj.isCells]at this
 refine⟨UT h.ext hw.1 hw.2.1 hw.2.2.1 (by omega) (λk ab=>h2 k (by simp only at hl ab;omega)),by rw[hw.1,h.jN];exact hr.1.symm,by rw[hw.2.1,h.m6];exact hr.2.1.symm,by rw[hw.2.2.1,h.kV];exact hr.2.2.1.symm,by have:=h.gF;simp only at this⊢;omega,λi hi hx=>?_,λi cs t hi ax=>?_,λi sh off code cap kind t hi=>?_,h.inj⟩
 ·by_cases e:i=l
  ·subst e;exact h3
  ·rw[h2 i e,h1 i e]
   exact h.jB i (by simp only at hi⊢;omega) hx
 ·obtain⟨g1,g2,Jo,DZ,g3⟩:=h.fT i cs t hi ax
  refine⟨g1,g2.imp id λh=>?_,Jo,DZ,by rw[h2 _ (ne g3)];exact g3⟩
  simp only at h⊢;omega
 ·intro ab
  obtain⟨g1,g2⟩:=h.rws i sh off code cap kind t hi ab
  refine⟨g1,λdf=>?_⟩
  obtain⟨k1,cells,t',fz,k2,k3,k4⟩:=g2 df
  refine⟨k1.imp id (·.imp id λh=>by simp only at h⊢;omega),cells,t',fz,by rw[h2 _ (ne k2)];exact k2,k3,λK3=>?_⟩
  obtain⟨iS,qu,rV,ti,y1,q9⟩:=k4 K3
  exact⟨iS,qu,rV,ti,y1,q9.imp id λh=>by simp only at h⊢;omega⟩
structure Sub (eJ w0:eG):Prop where
 b:eJ.b=w0.b
 os:eJ.r.os=w0.r.os
 tape:eJ.r.tape=w0.r.tape
 out:eJ.r.output=w0.r.output
 size:w0.r.heap.size<=eJ.r.heap.size
 ex:∀g,eJ.ex g∨eJ.r.heap.size<=g->w0.ex g∨w0.r.heap.size<=g
 ro:∀g,eJ.ro g->w0.ro g
 jB:∀i,i<w0.r.heap.size->¬w0.ex i->eJ.r.heap[i]?=w0.r.heap[i]?
theorem Mem.less {eJ w0:eG} {ρ:Env} {m:Nat->Nat} {bl:List aE} {w:aC} (h:Mem eJ ρ m bl w) (s:Sub eJ w0):Mem w0 ρ m bl w:=by
 refine⟨s.b▸h.ext,h.jN.trans s.os,h.m6.trans s.tape,h.kV.trans s.out,oE s.size h.gF,λi hi hx=>?_,λi cs t hi ax=>?_,λi sh off code cap kind t hi=>?_,h.inj⟩
 ·have c7:¬eJ.ex i:=λe=>by
   rcases s.ex i (.inl e)with e|e
   ·exact hx e
   ·omega
  exact(h.jB i (G8 hi s.size) c7).trans (s.jB i hi hx)
 ·obtain⟨g1,g2,g3⟩:=h.fT i cs t hi ax
  exact⟨s.b▸g1,s.ex _ g2,g3⟩
 ·intro ab
  obtain⟨g1,g2⟩:=h.rws i sh off code cap kind t hi ab
  refine⟨g1,λdf=>?_⟩
  obtain⟨k1,cells,t',fz,k2,k3,k4⟩:=g2 df
  refine⟨?_,cells,t',fz,k2,k3,λK3=>?_⟩
  ·rcases k1 with k1|k1|k1
   ·exact(s.ex _ (.inl k1)).imp id .inr
   ·exact .inr (.inl (s.ro _ k1))
   ·exact(s.ex _ (.inr k1)).imp id .inr
  ·obtain⟨iS,qu,rV,ti,y1,q9⟩:=k4 K3
   exact⟨iS,qu,rV,ti,s.b▸y1,s.ex _ q9⟩
def narrow (w0:eG) (W:aC) (ds:List EP):eG:=⟨w0.b,W,λg=>(w0.ex g∨w0.r.heap.size<=g)/\∃o:Obj,W.heap[g]?=some o/\o.isCells=true,w0.ro,ds⟩
theorem Mem.narrow {w0:eG} {ρ:Env} {m:Nat->Nat} {bl:List aE} {w:aC} (h:Mem w0 ρ m bl w) (ds:List EP):Mem (narrow w0 w ds) ρ m bl w:=by
 refine⟨h.ext,rfl,rfl,rfl,bO _,λ_ _ _=>rfl,λi cs t hi ax=>?_,λi sh off code cap kind t hi=>?_,h.inj⟩
 ·obtain⟨g1,g2,Jo,DZ,g3⟩:=h.fT i cs t hi ax
  exact⟨g1,.inl ⟨g2,_,g3,rfl⟩,Jo,DZ,g3⟩
 ·intro ab
  obtain⟨g1,g2⟩:=h.rws i sh off code cap kind t hi ab
  refine⟨g1,λdf=>?_⟩
  obtain⟨k1,cells,t',fz,k2,k3,k4⟩:=g2 df
  refine⟨?_,cells,t',fz,k2,k3,λK3=>?_⟩
  ·rcases k1 with k1|k1|k1
   ·exact .inl ⟨.inl k1,_,k2,rfl⟩
   ·exact .inr (.inl k1)
   ·exact .inl ⟨.inr k1,_,k2,rfl⟩
  ·obtain⟨iS,qu,rV,ti,y1,q9⟩:=k4 K3
   exact⟨iS,qu,rV,ti,y1,.inl ⟨q9,_,k2,rfl⟩⟩
theorem Sub.narrow {w0:eG} {ρ:Env} {m:Nat->Nat} {bl:List aE} {w:aC} (h:Mem w0 ρ m bl w) (ds:List EP):Sub (narrow w0 w ds) w0:=
 ⟨rfl,h.jN,h.m6,h.kV,h.gF,λg hg=>by
  rcases hg with hg|hg
  ·exact hg.1
  ·exact .inr (oE h.gF hg),λ_ h=>h,λi hi hx=>h.jB i hi hx⟩
theorem Sub.xT {w0:eG} {b r r':aC} {ex ro:Nat->Prop} {ds Fm:List EP} (s:Sub ⟨b,r,ex,ro,ds⟩ w0) (l:Nat) (hl:w0.r.heap.size<=l) (hr:r'.os=r.os/\r'.tape=r.tape/\r'.output=r.output/\r'.heap.size=r.heap.size)
 (h1:∀k,k≠l->r'.heap[k]?=r.heap[k]?):Sub ⟨b,r',ex,ro,Fm⟩ w0:=
 ⟨s.b,hr.1.trans s.os,hr.2.1.trans s.tape,hr.2.2.1.trans s.out,by have:=s.size;simp only at this⊢;omega,λg hg=>s.ex g (hg.imp id λh=>by simp only at h⊢;omega),s.ro,λi hi hx=>by
  rw[h1 i (by omega)];exact s.jB i hi hx⟩
theorem Mem.ds {b r:aC} {ex ro:Nat->Prop} {ds Fm:List EP} {ρ:Env} {m:Nat->Nat} {bl:List aE} {w:aC} (h:Mem ⟨b,r,ex,ro,ds⟩ ρ m bl w):Mem ⟨b,r,ex,ro,Fm⟩ ρ m bl w:=
 ⟨h.ext,h.jN,h.m6,h.kV,h.gF,h.jB,h.fT,h.rws,h.inj⟩
theorem h8.ds {b r:aC} {ex ro:Nat->Prop} {ds Fm:List EP} (h:h8 S P gl ⟨b,r,ex,ro,ds⟩ cal):h8 S P gl ⟨b,r,ex,ro,Fm⟩ cal:=λf g hf L n ρ m bl vs xs h1 h2 h3 h4=>by
 obtain⟨w,hw⟩:=h2
 exactλG Hg ae=>by
  obtain⟨aa,n',v,k1,k2,⟨k3,val,k4,ux⟩,y2⟩:=h f g hf L n ρ m bl vs xs h1 ⟨w,hw.ds⟩ h3 h4 G Hg ae
  exact⟨aa,n',v,k1,k2,⟨k3,val,k4,λw hw=>ux w hw.ds⟩,y2⟩
noncomputable def X8 (P:bV) (gl:fa) (cal:fy) (inl:m1) (li:Nat->Option gB) (rounds:Nat) (cells:List (Nat×Nat×Int×Int)) (Al:dt) (g:Operand) (kq:Array Tmp) (assign body:Code) (n:Nat) (tm:List V) (bl:List aE) (k:iI):T:=
 match cl tm g,kq.toList,hb cells 0 (n+1) bl with
 | .s6 f [.ptr bs 0,.ptr um 0],[p],some (fg,l2,b9)=>match bl[bs]?,bl[um]?,fg[bs]?,fg[um]? with
  |some ([.sl b bz o ro len cap],_),some ([.int .i64 N],_),some ([xs],_),some ([M4],_)=>match N.l.eN with
   |some c=>cond (aM f Al&&decide (0<c)&&decide (c<=9223372036854775807)&&aM bz 1&&pV assign&&pV body&&qm tm tm&&ql fg fg&&A.beq xs (.sl b bz o ro len cap)&&A.beq M4 (.int .i64 N)&&cc [xs]&&cc [M4])
    (.s5 70 [len,.const c] (.loop n (l2++[.const 0]) (n+1) (b9++[(0,9223372036854775807)])
      (.uq (.lt ((I.var (n+1+l2.length)).smul c) len)
        (qj P gl cal inl li rounds assign (n+1+l2.length+1) (wi tm p (.w (.one (.sl b 1 o (ro.add ((I.var (n+1+l2.length)).smul c)) (.const c) (.const c))))) fg λx n' cC bq=>match x with
          | .normal=>qj P gl cal inl li rounds body n' cC bq λx n' cC bq=>match x with
           | .normal=>match hb cells 0 (n+1) (bq.take bl.length)with
            |some (sD,v2,_)=>cond (ql fg sD) (.again n (v2++[(I.var (n+1+l2.length)).add (.const 1)])) .stuck
            |none=> .stuck
           |_=> .stuck
          |_=> .stuck)
        (k (n+1+l2.length+1) tm fg)))) .stuck
   |none=> .stuck
  |_,_,_,_=> .stuck
 |_,_,_=> .stuck
theorem ae7 {gu:List Nat}:∀(tm:List V) (i s:Nat),(∀j,i<=j->j<i+tm.length->gu.any (aM j)=true)->hs gu [] i s tm=some (tm,[],[])
 |[],_,_,_=>rfl
 |v::r,i,s,h=>by
  unfold hs
  rw[h i (bO _) (by simp),ae7 r (i+1) s λj h1 h2=>h j (by omega) (by simp only[jS];omega)]
  rfl
theorem afI (tm:List V) (s:Nat):hs (fY tm.length) [] 0 s tm=some (tm,[],[]):=
 ae7 tm 0 s λj _ h=>List.any_eq_true.2 ⟨j,List.mem_range.2 (by omega),G9 j⟩
theorem AN (w:aC) (l:Nat) (o:Obj):(w.putObj l o).os=w.os/\(w.putObj l o).tape=w.tape/\(w.putObj l o).output=w.output/\(w.putObj l o).heap.size=w.heap.size:=⟨rfl,rfl,rfl,ZJ⟩
theorem Mem.acN {w0:eG} {ρ:Env} {m:Nat->Nat} {bl:List aE} {w:aC} (h:Mem w0 ρ m bl w) {i:Nat} {x:A} {t:bp×Bool} (hi:bl[i]?=some ([x],t)) (ax:cc [x]=true):w.cell? ⟨m i,0,none⟩=some (x.den ρ m):=by
 obtain⟨_,_,r,_,h3⟩:=h.fT i _ t hi ax
 simp[o3,h3]
def Sz (mZ:List Int->Prop) (w0:eG) (jy:aC) (n:Nat) (ρ:Env) (m:Nat->Nat) (tm:List V) (fg:List aE) (b9:List (Int×Int)) (k2:Nat) (tmps:Array aV) (i:Nat) (W:aC):Prop:=
 ∃zs,zs.length=k2/\af (b9++[(0,9223372036854775807)]) (zs++[(i:Int)])/\mZ (zs++[(i:Int)])/\R (narrow w0 jy []) (n+1+k2+1) (bL ρ (n+1) (zs++[(i:Int)])) m tm fg {tmps:=tmps,defers:=[]} W
theorem av1 {w0:eG} {inl:m1} {li:Nat->Option gB} {rounds:Nat} {cells:List (Nat×Nat×Int×Int)} {Al:dt} {g:Operand} {kq:Array Tmp} {assign body:Code} (pd:SD P Al) (hm:P.follows .mixedOrders=true)
 (c6:∀r ex ro,h8 S P gl ⟨w0.b,r,ex,ro,[]⟩ cal) (hg:fA gl w0) (oj:∀r ex ro,rE S L ⟨w0.b,r,ex,ro,[]⟩ P inl)
 {n:Nat} {ρ:Env} {m:Nat->Nat} {tm:List V} {bl:List aE} {a:Act} {w:aC} {G:e2} {k:iI} {Q:Exit->Act->aC->Prop} (h:R w0 n ρ m tm bl a w) (sH:w0.ds=[])
 (ae:(X8 P gl cal inl li rounds cells Al g kq assign body n tm bl k).holds S L G ρ)
 (ab:∀n' aa cC bq eP eJ D du w',eX n bl.length ρ m n' (qa bq) aa m->fm n G eP->Sub eJ w0->¬eJ.ex D->eJ.r.heap[D]?=some (.deferred (some []))->w0.r.heap.size<=D->w0.b.heap.size<=D->eJ.ds=[{target:= .collected D,args:=#[]}]->
   R eJ n' aa m cC bq du w'->(k n' cC bq).holds S L eP aa->Q .normal du w'):(Code.rangeFunc g kq assign body).wpIn Hf 0 P Q a w:=by
 unfold X8 at ae
 split at ae
 rotate_left
 ·exact ae.elim
 rename_i f bs um p fg l2 b9 aw aD cj
 split at ae
 rotate_left
 ·exact ae.elim
 rename_i b bz o ro len cap ts N aGC xs tr M4 aGJ bm cb cJ et
 split at ae
 rotate_left
 ·exact ae.elim
 rename_i c hc
 generalize kn:(aM f Al&&decide (0<c)&&decide (c<=9223372036854775807)&&aM bz 1&&pV assign&&pV body&&qm tm tm&&ql fg fg&&A.beq xs (.sl b bz o ro len cap)&&A.beq M4 (.int .i64 N)&&cc [xs]&&cc [M4])=di at ae
 cases di with
 |false=>exact ae.elim
 |true=>
 simp only[bw,decide_eq_true_eq]at kn
 obtain⟨⟨⟨⟨⟨⟨⟨⟨⟨⟨⟨c1,bK⟩,cy⟩,c3⟩,fh⟩,hH⟩,qi⟩,pN⟩,s4⟩,ur⟩,z8⟩,C9⟩:=kn
 have c1:=bR c1
 have c3:=bR c3
 subst c1;subst c3
 have s4:=A.beq_eq s4
 have ur:=A.beq_eq ur
 subst s4;subst ur
 simp only[cond_true,T.holds]at ae
 obtain⟨Il,mZ,pH,Vi,ea⟩:=ae
 have Il:c∣len.den ρ:=by simpa [ar,Kq,I.br]using Il
 have Wa:A.ok n bl.length ρ (.sl b 1 o ro len cap):=h.b _ (e8 bm) _ (by simp)
 obtain⟨Lc,⟨tM,te,ae1,aFF⟩,xq⟩:=Wa
 obtain⟨⟨s1,s2,bS,dg⟩,⟨gz,hM⟩,ju,ks⟩:=xq
 have aoX:a.eval g= .func (.func f) #[] #[.pointer (some ⟨m bs,0,none⟩),.pointer (some ⟨m um,0,none⟩)]:=by
  have:=(cM h.t g).2
  rw[aw]at this
  exact this
 have apC:kq=#[p]:=by rw[<-Array.toArray_toList (xs:=kq),aD]
 subst apC
 refine wpIn_rangeFunc ?_
 intro fn DV
 obtain⟨rec,F9⟩:∃rec:LoopState->Option Code->Loop,rec=λst Ek=>{state:=st,pending:=Ek,fn,tmps:=a.tmps,params:=#[p],assign,body,defers:=w.heap.size}:=⟨_,rfl⟩
 obtain⟨jy,Pz⟩:∃jy,(w.alloc (.deferred (some []))).alloc (.loop (rec .ready none))=jy:=⟨_,rfl⟩
 have xi:jy.heap[w.heap.size+1]?=some (.loop (rec .ready none)):=by
  rw[<-Pz];have:=aB2 (w.alloc (.deferred (some []))) (.loop (rec .ready none));rwa [World.size_alloc]at this
 have Vj:jy.heap[w.heap.size]?=some (.deferred (some [])):=by
  rw[<-Pz];exact(Below.heap_alloc _ _ _ (by simp)).trans (aB2 w _)
 have BM:w.heap.size+1<jy.heap.size:=(Array.getElem?_eq_some_iff.1 xi).1
 have ad3:Mem w0 ρ m bl jy:=by rw[<-Pz];exact h.bF.grow (((sT w).alloc _).alloc _)
 have aX:w0.b.heap.size<=w.heap.size:=h.bF.ext.size
 have PY:w0.r.heap.size<=w.heap.size:=h.bF.gF
 generalize hl:w.heap.size+1=l at*
 generalize q0:w.heap.size=D at*
 have FW:∀(k:Nat) (o:Obj),jy.heap[k]?=some o->o.isCells=false->¬(narrow w0 jy []).ex k:=λk o ab ax ⟨_,cD,h1,h2⟩=>by
  rw[ab]at h1;cases h1;rw[ax]at h2;cases h2
 have aj9:R (narrow w0 jy []) n ρ m tm bl {tmps:=a.tmps,defers:=[]} jy:=⟨h.t,rfl,h.b,ad3.narrow []⟩
 have P2:∀v∈tm,V.ok n bl.length ρ v:=λv hv=>by
  obtain⟨i,hi⟩:=List.getElem?_of_mem hv
  exact(h.t.2 i v hi).1
 have Uy:hb cells 0 (n+1+([]:List I).length) bl=some (fg,l2,b9):=cj
 obtain⟨V2,aFB⟩:=La cj
 have head:∀{n':Nat} {aa:Env} {m':Nat->Nat} {bq sD:List aE} {v2:List I} {yC:List (Int×Int)} {W:aC} {x:I},bl.length<=bq.length->agree n ρ aa->(∀b,b<bl.length->m' b=m b)->
  R (narrow w0 jy []) n' aa m' tm bq {tmps:=a.tmps,defers:=[]} W->hb cells 0 (n+1) (bq.take bl.length)=some (sD,v2,yC)->ql fg sD=true->
  v2.length=l2.length/\af b9 (v2.map (·.den aa))/\R (narrow w0 jy []) (n+1+l2.length+1) (bL ρ (n+1) (v2.map (·.den aa)++[x.den aa])) m tm fg {tmps:=a.tmps,defers:=[]} W:=λ{n' aa m' bq sD v2 yC W x} k1 k2 k3 k4 ux y2=>by
  obtain⟨iS,qu,rV,_⟩:=aeA (li:={gu:=fY tm.length,ints:=[],cells:=cells}) (ext:=[x]) k1 k2 k3 P2 h.b k4 (afI tm (n+1)) Uy (afI tm (n+1)) (v2:=v2) ux qi y2
  simp only[qL,yk,pE,gp,jS,jf,c5,fD]at iS qu rV
  exact⟨iS,qu,rV⟩
 obtain⟨i0,i1,i2⟩:=head (x:= .const 0) (bO _) (agree.refl n ρ) (λ_ _=>rfl) aj9 (by rw[Zo];exact cj) pN
 have anY:Sz mZ w0 jy n ρ m tm fg b9 l2.length a.tmps 0 jy:=by
  refine⟨l2.map (·.den ρ),by simp,qt i1 ⟨by simp,by simp,trivial⟩,?_,by simpa [I.br]using i2⟩
  simpa [I.br]using Vi
 have still:∀{i:Nat} {W:aC} {k:Nat} {o:Obj},Sz mZ w0 jy n ρ m tm fg b9 l2.length a.tmps i W->jy.heap[k]?=some o->o.isCells=false->W.heap[k]?=some o:=λ{i W k o} hJ ab ax=>by
  obtain⟨zs,aB,z2,z3,z4⟩:=hJ
  exact(z4.bF.jB k (Array.getElem?_eq_some_iff.1 ab).1 (FW k o ab ax)).trans ab
 obtain⟨C,jq⟩:∃C:Nat,(C:Int)=c:=⟨c.toNat,M9 (by omega)⟩
 obtain⟨sx,Vn⟩:∃sx:Nat,(sx:Int)=len.den ρ:=⟨(len.den ρ).toNat,M9 (by omega)⟩
 have VI:C∣sx:=by rw[<-jq,<-Vn]at Il;exact Int.natCast_dvd_natCast.1 Il
 have aox:sx<=(cap.den ρ).toNat:=by
  by_cases h0:cap.den ρ<0
  ·have:=ju h0;omega
  ·have:=ks (by omega);omega
 have P5:∀{i:Nat} {zs:List Int},zs.length=l2.length->bL ρ (n+1) (zs++[(i:Int)]) (n+1+l2.length)=i:=λ{i zs} hz=>by
  rw[JB _ _ _ _ (by simp[hz]),<-hz];simp
 have iR:∀{i:Nat} {zs:List Int},agree n ρ (bL ρ (n+1) (zs++[(i:Int)])):=λ{i zs}=>(agree.bL _ (n+1) ρ).mono (by omega)
 have main:=pd.2 l (m bs) (m um) ((A.sl b 1 o ro len cap).den ρ m) (m b) ((o.den ρ).toNat+(ro.den ρ).toNat) sx (cap.den ρ).toNat C (Sz mZ w0 jy n ρ m tm fg b9 l2.length a.tmps) jy (by omega) (by omega) VI aox (by omega)
  (by
    simp only[A.den]
    by_cases h0:cap.den ρ<0
    ·rw[if_pos h0];have:=ju h0;exact .inr ⟨rfl,by omega⟩
    ·rw[if_neg h0];refine .inl ?_;rw[show(len.den ρ).toNat=sx by omega,Ba])
  (λi W hJ=>by
    obtain⟨zs,aB,z2,z3,z4⟩:=hJ
    have an:=z4.bF.acN cJ z8
    have aj:=z4.bF.acN et C9
    have Wa:A.ok n bl.length ρ (.sl b 1 o ro len cap):=h.b _ (e8 bm) _ (by simp)
    have apt:A.ok n bl.length ρ (.int .i64 N):=h.b _ (e8 cb) _ (by simp)
    rw[A.oL Wa iR (λ_ _=>rfl)]at an
    rw[A.oL apt iR (λ_ _=>rfl)]at aj
    refine⟨an,aj.trans ?_⟩
    simp only[A.den,I.km hc,jq])
  (λi W hJ=>by
    obtain⟨zs,aB,z2,z3,z4⟩:=hJ
    exact⟨zs,aB,z2,z3,z4.t,z4.d,z4.b,z4.bF.grow (RH (sT W))⟩)
  ?_ anY
 ·refine⟨l,[{target:= .collected D,args:=#[]}],jy,{target:= .fn (.func f) #[.pointer (some ⟨m bs,0,none⟩),.pointer (some ⟨m um,0,none⟩)],args:=#[.func (.yield l) #[] #[]]},jy,f,
   #[.func (.yield l) #[] #[],.pointer (some ⟨m bs,0,none⟩),.pointer (some ⟨m um,0,none⟩)],jy,?_,?_,λs8 aeE=>trivial,?_,λhs=>by simp[Hf]at hs,?_⟩
  ·rw[<-Pz,F9,<-hl,<-q0];exact run_enterLoop_outer _ _ _ _ _
  ·simp only[resolve,aoX]
   simp[go_sem]
  ·simp[invoke,go_sem,pd.1]
  ·refine main.mono ?_
   rintro e akg ⟨⟨v,rfl⟩,hJ⟩
   have PN:=still hJ xi rfl
   have aFz:=still hJ Vj rfl
   obtain⟨zs,aB,z2,z3,z4⟩:=hJ
   have yO:=(oG ea z2 z3).2
   have Lx:len.den (bL ρ (n+1) (zs++[((sx/C:Nat):Int)]))=sx:=by rw[I.b5 iR ae1,Vn]
   have ah:C*(sx/C)=sx:=Nat.mul_div_cancel' VI
   have yQ:bC.den (bL ρ (n+1) (zs++[((sx/C:Nat):Int)])) (.lt ((I.var (n+1+l2.length)).smul c) len)=false:=by
    simp only[bC.den,I.nO,I.cS,P5 aB,Lx,decide_eq_false_iff_not]
    rw[<-jq]
    have:(C:Int)*((sx/C:Nat):Int)=(sx:Int):=by exact_mod_cast ah
    omega
   have yO:=yO yQ
   refine⟨none,_,by have:=run_endLoop (P:=P) PN (by rw[F9];simp);rw[F9]at this;exact this,?_⟩
   simp only
   obtain⟨SE,anX⟩:∃o,o=Obj.loop {({state:= .ready,pending:=none,fn,tmps:=a.tmps,params:=#[p],assign,body,defers:=D}:Loop)with state:= .exhausted}:=⟨_,rfl⟩
   rw[<-anX]
   have aj5:Mem ⟨w0.b,jy.putObj l SE,(narrow w0 jy []).ex,w0.ro,[{target:= .collected D,args:=#[]}]⟩ (bL ρ (n+1) (zs++[((sx/C:Nat):Int)])) m fg (akg.putObj l SE):=
    Mem.xT z4.bF l (by omega) (FW l _ xi rfl) BM (AN _ _ _) (AN _ _ _) (λk ab=>zK ab) (λk ab=>zK ab) (by rw[CQ (Array.getElem?_eq_some_iff.1 PN).1,CQ BM]) (λo ax=>by rw[xi]at ax;cases ax;rfl)
   refine ab _ _ _ _ _ ⟨w0.b,jy.putObj l SE,(narrow w0 jy []).ex,w0.ro,[{target:= .collected D,args:=#[]}]⟩ D _ _ ⟨by omega,iR,by omega,λ_ _=>rfl⟩ (λl' DW=>?_) (Sub.xT (Sub.narrow ad3 []) l (by omega) (AN _ _ _) (λk ab=>zK ab)) (FW D _ Vj rfl) ((zK (by omega)).trans Vj) PY aX rfl ⟨z4.t,?_,z4.b,aj5⟩ yO
   ·unfold e2.set
    cases hb:aM l' n with
    |true=>have:=bR hb;omega
    |false=>rfl
   ·show _++a.defers=_
    rw[h.d,sH];rfl
 ·
  intro i W hJ hlt
  have PN:=still hJ xi rfl
  obtain⟨zs,aB,z2,z3,z4⟩:=hJ
  have yO:=(oG ea z2 z3).1
  have Lx:len.den (bL ρ (n+1) (zs++[(i:Int)]))=sx:=by rw[I.b5 iR ae1,Vn]
  have yQ:bC.den (bL ρ (n+1) (zs++[(i:Int)])) (.lt ((I.var (n+1+l2.length)).smul c) len)=true:=by
   simp only[bC.den,I.nO,I.cS,P5 aB,Lx,decide_eq_true_eq]
   rw[<-jq];exact_mod_cast hlt
  have yO:=yO yQ
  have oO:C*i+C<=sx:=by
   obtain⟨q,rfl⟩:=VI
   have:i<q:=Nat.lt_of_mul_lt_mul_left hlt
   have:C*(i+1)<=C*q:=RP C this
   rw[Nat.mul_succ]at this
   omega
  have aFq:¬cap.den ρ<0:=λh0=>by have:=ju h0;omega
  have Le:=ks (by omega)
  have hid:(ro.add ((I.var (n+1+l2.length)).smul c)).den (bL ρ (n+1) (zs++[(i:Int)]))=ro.den ρ+(C*i:Nat):=by
   rw[I.den_add,I.nO,I.cS,P5 aB,I.b5 iR te,<-jq];simp
  have ae2:o.den (bL ρ (n+1) (zs++[(i:Int)]))=o.den ρ:=I.b5 iR tM
  have aqc:(V.w (.one (.sl b 1 o (ro.add ((I.var (n+1+l2.length)).smul c)) (.const c) (.const c)))).ok (n+1+l2.length+1) fg.length (bL ρ (n+1) (zs++[(i:Int)])):=by
   refine⟨by omega,⟨tM.mono (by omega),I.xQ (te.mono (by omega)) (I.wg (I.fW (by omega))),I.dd _ _,I.dd _ _⟩,?_⟩
   rw[hid,ae2,I.br]
   exact⟨⟨s1,by omega,by omega,by omega⟩,⟨by omega,by omega⟩,λh=>by omega,λ_=>cW _⟩
  have aqe:(V.w (.one (.sl b 1 o (ro.add ((I.var (n+1+l2.length)).smul c)) (.const c) (.const c)))).rel (bL ρ (n+1) (zs++[(i:Int)])) m (.slice (some ⟨m b,(o.den ρ).toNat+(ro.den ρ).toNat+C*i,none⟩) C C):=by
   simp only[V.rel,ch.W.den,A.den,hid,ae2,I.br,Ba]
   rw[if_neg (by omega),show c.toNat=C by omega,show(ro.den ρ+(C*i:Nat)).toNat=(ro.den ρ).toNat+C*i by omega,Nat.add_assoc]
  have ad7:R (narrow w0 jy []) (n+1+l2.length+1) (bL ρ (n+1) (zs++[(i:Int)])) m (wi tm p (.w (.one (.sl b 1 o (ro.add ((I.var (n+1+l2.length)).smul c)) (.const c) (.const c))))) fg
   (({tmps:=a.tmps,defers:=[]}:Act).put (some p) (.slice (some ⟨m b,(o.den ρ).toNat+(ro.den ρ).toNat+C*i,none⟩) C C)) W:=
   ⟨eY.put z4.t (some p) aqc aqe,z4.d,z4.b,z4.bF⟩
  have hy:=run_yield (P:=P) (args:=#[.slice (some ⟨m b,(o.den ρ).toNat+(ro.den ρ).toNat+C*i,none⟩) C C]) PN (by rw[F9];rfl)
  rw[F9]at hy
  have amB:(({tmps:=a.tmps,defers:=[]}:Act).put (some p) (.slice (some ⟨m b,(o.den ρ).toNat+(ro.den ρ).toNat+C*i,none⟩) C C))={tmps:=((#[p]:Array Tmp).zip #[Nl (some ⟨m b,(o.den ρ).toNat+(ro.den ρ).toNat+C*i,none⟩) C C]).foldl (λtmps (t,a)=>tmps.setIfInBounds t a) a.tmps,defers:=[]}:=by
   simp[Act.put]
  rw[amB]at ad7
  refine⟨fn,_,assign,body,hy,roundIn_of_wpIn trivial ?_⟩
  refine HM (rd:=some l) hm (c6 _ _ _) (λg cs h=>hg g cs h) (oj _ _ _) assign (.inr fh) _ _ _ _ _ _ _ _ W _ ad7 yO λx a1 aQ gW Rl tC G1 b2 eJ g1 g2 g3 g4=>?_
  cases x with
  |exit id=>exact g4.elim
  |ret=>exact g4.elim
  |normal=>
   simp only at g4
   have aeS:eJ.heap[l]?=some (.loop (rec .ready none)):=(g3.bF.jB l BM (FW l _ xi rfl)).trans xi
   obtain⟨ES,Vg⟩:∃o,o=Obj.loop {rec .ready none with state:= .busy}:=⟨_,rfl⟩
   have anV:ES.isCells=false:=by rw[Vg];rfl
   have M2:Mem ⟨w0.b,jy.putObj l ES,(narrow w0 jy []).ex,w0.ro,[]⟩ aQ gW tC (eJ.putObj l ES):=
    Mem.xT g3.bF l (by omega) (FW l _ xi rfl) BM (AN _ _ _) (AN _ _ _) (λk ab=>zK ab) (λk ab=>zK ab) (by rw[CQ (Array.getElem?_eq_some_iff.1 aeS).1,CQ BM]) (λo ax=>by rw[xi]at ax;cases ax;rfl)
   refine⟨eJ.putObj l ES,by rw[Vg];exact run_beginRound aeS (by rw[F9]),?_⟩
   refine HM (rd:=some l) hm (c6 _ _ _) (λg cs h=>hg g cs h) (oj _ _ _) body (.inr hH) a1 Rl tC _ G1 aQ gW b2 _ _ (⟨g3.t,g3.d,g3.b,M2⟩:R ⟨w0.b,jy.putObj l ES,(narrow w0 jy []).ex,w0.ro,[]⟩ a1 aQ gW Rl tC b2 (eJ.putObj l ES)) g4 λx ff bW fj ax1 sC NC a2 qE k1 k2 k3 k4=>?_
   cases x with
   |exit id=>exact k4.elim
   |ret=>exact k4.elim
   |normal=>
    simp only at k4
    split at k4
    rotate_left
    ·exact k4.elim
    rename_i sD v2 yC hV
    cases hf:ql fg sD with
    |false=>rw[hf]at k4;exact k4.elim
    |true=>
    rw[hf]at k4
    simp only[cond_true,T.holds]at k4
    have PL:qE.heap[l]?=some ES:=(k3.bF.jB l (by rw[ZJ];exact BM) (FW l _ xi rfl)).trans (CQ BM)
    have apd:=(Array.getElem?_eq_some_iff.1 PL).1
    rw[Vg]at PL
    refine⟨_,_,run_endRound none PL,rfl,?_⟩
    have apK:({{rec .ready none with state:= .busy}with state:=if(none:Option Code).isNone then .ready else .done,pending:=none}:Loop)=rec .ready none:=by rw[F9];rfl
    rw[apK]
    have aj4:Mem (narrow w0 jy []) bW fj sC (qE.putObj l (.loop (rec .ready none))):=
     Mem.xT k3.bF l (by omega) (FW l _ xi rfl) (by rw[ZJ];exact BM) ⟨rfl,rfl,rfl,World.putObj_size.symm⟩ (AN _ _ _) (λk ab=>(zK ab).symm) (λk ab=>zK ab) (by rw[CQ apd,xi]) (λo ax=>by rw[CQ BM]at ax;cases ax;exact anV)
    have Vk:eX n bl.length ρ m (n+1+l2.length+1) fg.length (bL ρ (n+1) (zs++[(i:Int)])) m:=⟨by omega,iR,by omega,λ_ _=>rfl⟩
    have FN:=(Vk.trans g1).trans k1
    have aka:R (narrow w0 jy []) ff bW fj tm sC {tmps:=a.tmps,defers:=[]} (qE.putObj l (.loop (rec .ready none))):=⟨h.t.ext FN.ha FN.hn FN.hb FN.hm,rfl,k3.b,aj4⟩
    obtain⟨qD,sQ,A0⟩:=head (x:=(I.var (n+1+l2.length)).add (.const 1)) FN.hb FN.ha FN.hm aka hV hf
    have afl:bW (n+1+l2.length)=i:=by rw[(g1.trans k1).ha _ (by omega),P5 aB]
    have hx:((I.var (n+1+l2.length)).add (.const 1)).den bW=((i+1:Nat):Int):=by rw[I.den_add,I.cS,I.br,afl];simp
    rw[hx]at A0
    have Vh:NC n=λvs=>mZ vs/\pH vs<pH (zs++[(i:Int)]):=by
     rw[k2 n (by have:=g1.hn;omega),g2 n (by omega)]
     unfold e2.set
     rw[show aM n n=true from G9 n];rfl
    rw[Vh,jf,c5,fD,hx]at k4
    have:i+1<=sx:=by
     have:=Nat.mul_le_mul_right i (show 1<=C by omega)
     omega
    exact⟨v2.map (·.den bW),by simp[qD],qt sQ ⟨by omega,by omega,trivial⟩,k4.1,A0⟩
noncomputable def N9 (P:bV) (gl:fa) (cal:fy) (inl:m1) (li:dt->Nat->Option gB) (rounds:Nat) (cells:List (Nat×Nat×Int×Int)) (Al:dt):m1:=
 λf n vs bl k=>match P.funcs[f]? with
  |none=> .stuck
  |some fn=>match fn.body with
   |some (.seq eS (.seq (.seq c1 (.block _ (.rangeFunc g kq assign body))) cy))=>cond (!(fn.name== "runtime.NumGoroutine")&&cK vs.length fn.ntmps)
    (qj P gl cal inl (li f) rounds eS n (vs++Jk (fn.ntmps-vs.length)) bl λx n tm bl=>match x with
      | .normal=>qj P gl cal inl (li f) rounds c1 n tm bl λx n tm bl=>match x with
       | .normal=>X8 P gl cal inl (li f) rounds cells Al g kq assign body n tm bl λn tm bl=>
        qj P gl cal (λ_ _ _ _ _=> .stuck) (li f) rounds cy n tm bl λx n tm bl=>match x with
         | .exit _=> .stuck
         |_=>MN P gl fn n tm bl k
       |_=> .stuck
      |_=> .stuck) .stuck
   |_=> .stuck
theorem aq0 {w0:eG}:rE S L w0 P (λ_ _ _ _ _=> .stuck):=λf n vs bl k G ρ m w xs R' _ _ _ _ ae _=>ae.elim
theorem ak5 {w0:eG} {inl:m1} {li:dt->Nat->Option gB} {rounds:Nat} {cells:List (Nat×Nat×Int×Int)} {Al:dt} (pd:SD P Al) (hm:P.follows .mixedOrders=true)
 (c6:∀r ex ro,h8 S P gl ⟨w0.b,r,ex,ro,[]⟩ cal) (hg:fA gl w0) (oj:∀r ex ro,rE S L ⟨w0.b,r,ex,ro,[]⟩ P inl) (sH:w0.ds=[]):rE S L w0 P (N9 P gl cal inl li rounds cells Al):=by
 have aff:w0=⟨w0.b,w0.r,w0.ex,w0.ro,[]⟩:=by cases w0;simp at sH;subst sH;rfl
 have aer:h8 S P gl w0 cal:=by rw[aff];exact c6 _ _ _
 have aeK:rE S L w0 P inl:=by rw[aff];exact oj _ _ _
 intro f n vs bl k G ρ m w xs R' hb nS kL hrel ae ab
 unfold N9 at ae
 cases hf:P.funcs[f]? with
 |none=>simp[hf,T.holds]at ae
 |some fn=>
  simp only[hf]at ae
  split at ae
  rotate_left
  ·exact ae.elim
  rename_i eS c1 id g kq assign body cy BE
  cases hc:(!(fn.name== "runtime.NumGoroutine")&&cK vs.length fn.ntmps)with
  |false=>simp[hc,T.holds]at ae
  |true=>
   simp only[hc,cond_true]at ae
   simp only[bw,gn]at hc
   have hlen:=S2 hrel
   refine⟨?_,?_⟩
   ·have h1:¬fn.name= "runtime.NumGoroutine" :=by have:=hc.1;simpa using this
    simp[callFunc,hf,BE,h1]
   ·refine(callsIn_wide (n:=0)).1 (callsIn_of_wp_marks hf BE trivial ?_ rfl)
    have hR:R w0 n ρ m (vs++Jk (fn.ntmps-vs.length)) bl {tmps:=xs.toArray++Bb (fn.ntmps-xs.toArray.size) undef,defers:=[]} w:=by
     refine⟨?_,sH.symm,hb,nS⟩
     have:=NS (S0 (fn.ntmps-vs.length) kL hrel)
     have e:(xs++e9 (fn.ntmps-vs.length) undef).toArray=xs.toArray++Bb (fn.ntmps-xs.toArray.size) undef:=by
      simp[hlen]
     rw[e]at this
     exact this
    refine wpIn_seq (HM (rd:=none) hm aer hg aeK eS (.inl rfl) n _ bl _ G ρ m _ w _ hR ae λx a1 aQ gW Rl tC G1 b2 eJ h1 h2 h3 h4=>?_)
    cases x with
    |exit id=>exact h4.elim
    |ret=>exact h4.elim
    |normal=>
    refine wpIn_seq (wpIn_seq (HM (rd:=none) hm aer hg aeK c1 (.inl rfl) a1 Rl tC _ G1 aQ gW b2 eJ _ h3 h4 λx ff bW fj ax1 sC NC a2 qE k1 k2 k3 k4=>?_))
    cases x with
    |exit id=>exact k4.elim
    |ret=>exact k4.elim
    |normal=>
    refine wpIn_block (av1 pd hm c6 hg oj k3 sH k4 λuB jw ax2 ak3 SH de D a3 uc cz cw dc fC fN gH pW I1 agX agW=>?_)
    have aov:h8 S P gl de cal:=by
     have e:de=⟨w0.b,de.r,de.ex,de.ro,de.ds⟩:=by have:=dc.b;cases de;simp at this;subst this;rfl
     rw[e];exact(c6 _ _ _).ds
    have FZ:fA gl de:=λg cs h=>by rw[dc.b];exact hg g cs h
    refine HM (rd:=none) hm aov FZ aq0 cy (.inl rfl) uB ax2 ak3 _ SH jw fj a3 uc _ agX agW λx Ma Nz AE aif Kh NF a4 b4 bm cb cJ et=>?_
    have q0:b4.heap[D]?=some (.deferred (some [])):=(cJ.bF.jB D (Array.getElem?_eq_some_iff.1 fN).1 fC).trans fN
    have ape:=(Array.getElem?_eq_some_iff.1 q0).1
    have aj6:Mem ⟨de.b,de.r.putObj D (.deferred none),de.ex,de.ro,[]⟩ Nz AE Kh (b4.putObj D (.deferred none)):=by
     have e:de=⟨de.b,de.r,de.ex,de.ro,de.ds⟩:=rfl
     refine Mem.xT (e▸cJ.bF) D (by rw[dc.b];exact pW) fC (Array.getElem?_eq_some_iff.1 fN).1 (AN _ _ _) (AN _ _ _) (λk ab=>zK ab) (λk ab=>zK ab) (by rw[CQ ape,CQ (Array.getElem?_eq_some_iff.1 fN).1]) (λo ax=>by rw[fN]at ax;cases ax;rfl)
    have EZ:Sub ⟨de.b,de.r.putObj D (.deferred none),de.ex,de.ro,[]⟩ w0:=Sub.xT (ds:=de.ds) dc D gH (AN _ _ _) (λk ab=>zK ab)
    have aal:Mem w0 Nz AE Kh (b4.putObj D (.deferred none)):=aj6.less EZ
    have akb:R w0 Ma Nz AE aif Kh {a4 with defers:=[]} (b4.putObj D (.deferred none)):=⟨cJ.t,sH.symm,cJ.b,aal⟩
    have fin:(MN P gl fn Ma aif Kh k).holds S L NF Nz->LeavesInM Hf 0 P fn a4.tmps R' a4.defers .returning b4:=λhr=>by
     obtain⟨v,val,qD,sQ,A0,JA⟩:=Ya hg akb hr
     have dL:=(((h1.trans k1).trans cz).trans bm)
     have aU:=(((h2.trans k2 h1.hn).trans cw (h1.trans k1).hn).trans cb ((h1.trans k1).trans cz).hn)
     rw[cJ.d,I1]
     exact⟨by simp,.inl ⟨D,_,rfl,run_takeDeferred q0,val,A0,ab Ma v Kh NF Nz AE _ val dL aU qD sQ cJ.b aal JA⟩⟩
    cases x with
    |exit id=>exact et.elim
    |normal=>exact fin et
    |ret=>exact fin et
end Go.ch
namespace Go.ch
open M
variable {S:Nat->List Int->List Int->Prop} {L:V->Env->Prop} {P:bV} {gl:fa} {cal:fy}
structure kl where
 c:fE
 ty:bp
 nil:Bool
def Eg (p:kl) (g k:Nat):Array aV:=cond p.nil #[.slice (some ⟨g,0,none⟩) k k,.slice none 0 0] #[.slice (some ⟨g,0,none⟩) k k]
def kl.b1 (P:bV) (wb:aC) (p:kl) (spec:List Int->List Int->Prop):Prop:=
 (∀args w,(callFunc p.c.f args).run P w= .ok (.enter p.c.f args) w)/\
 ∀(F:Nat->Prop) (w:aC) (vs:List aV) (zs:List Int) (g:Nat),wb.Extends w->af (dz p.c.args) zs->I4 p.c.pre zs->nM F (λ_=>False) w p.c.args zs vs->wb.heap.size<=g->¬F g->w.heap[g]?=some (.cells vs.toArray p.ty (0,0))->
  oD P p.c.f (Eg p g vs.length) w λe w'=>w.Extends w'/\∃rs us,af (dz p.c.res) rs/\spec zs rs/\nM (λg=>F g∨w.heap.size<=g) (λg=>w.heap.size<=g) w' p.c.res rs us/\e= .returned (wq us)
def QL (nil:Bool) (vs:List V):Option (Nat×Nat×Nat):=
 match vs with
 |[.w (.one (.slc b 0 len cap))]=>cond nil none (some (b,len,cap))
 |[.w (.one (.slc b 0 len cap)),.w (.one (.con (.slice none 0 0)))]=>cond nil (some (b,len,cap)) none
 |_=>none
def nZ (a:A):V:= .w (.one a)
noncomputable def kl.E (p:kl) (n:Nat) (vs:List V) (bl:List aE) (k:RK):T:=
 match QL p.nil vs with
 |some (b,len,cap)=>match bl[b]? with
  |some (cs,(t,false))=>cond (cc cs&&aM len cs.length&&aM cap cs.length&&aM t p.ty&& !(((cs.map nZ).flatMap qU).any (aM b))) (p.c.JZ n (cs.map nZ) bl k) .stuck
  |_=> .stuck
 |none=> .stuck
theorem S3 {ρ:Env} {m:Nat->Nat}:∀(cs:List A),fb ρ m (cs.map nZ) (cs.map (A.den ρ m))
 |[]=>trivial
 |a::r=>⟨rfl,S3 r⟩
theorem auJ {p:kl} {vs:List V} {b len cap:Nat} {ρ:Env} {m:Nat->Nat} {xs:List aV} (h:QL p.nil vs=some (b,len,cap)) (hr:fb ρ m vs xs) (Lw:cap=len):xs.toArray=Eg p (m b) len:=by
 subst Lw
 unfold QL at h
 split at h
 ·cases hn:p.nil with
  |true=>rw[hn]at h;cases h
  |false=>
   rw[hn]at h;cases h
   match xs,hr with
   |[x],hr=>have hx:x=_:=hr.1;rw[hx];simp[Eg,hn,W.den,A.den]
 ·cases hn:p.nil with
  |false=>rw[hn]at h;cases h
  |true=>
   rw[hn]at h;cases h
   match xs,hr with
   |[x,y],hr=>have hx:x=_:=hr.1;have hy:y=_:=hr.2.1;rw[hx,hy];simp[Eg,hn,W.den,A.den]
 ·cases h
theorem kl.J1 {w0:eG} {p:kl} {spec:List Int->List Int->Prop} (hc:p.b1 P w0.b spec) (hK:∀zs rs,spec zs rs->S p.c.id zs rs) (n:Nat) (vs:List V) (bl:List aE) (k:RK) (G:e2) (ρ:Env) (m:Nat->Nat) (w:aC) (xs:List aV) (R':Ending->aC->Prop)
 (hb:cY n bl.length ρ bl) (hw:Mem w0 ρ m bl w) (hv:∀v∈vs,V.ok n bl.length ρ v) (hr:fb ρ m vs xs) (ae:(p.E n vs bl k).holds S L G ρ) (ab:EY S L w0 k n bl.length ρ m G R'):
 (callFunc p.c.f xs.toArray).run P w= .ok (.enter p.c.f xs.toArray) w/\oD P p.c.f xs.toArray w R':=by
 refine⟨hc.1 _ _,?_⟩
 unfold kl.E at ae
 split at ae
 rotate_left
 ·exact ae.elim
 rename_i b len cap hp
 split at ae
 rotate_left
 ·exact ae.elim
 rename_i cs t aX
 cases kn:(cc cs&&aM len cs.length&&aM cap cs.length&&aM t p.ty&& !(((cs.map nZ).flatMap qU).any (aM b)))with
 |false=>rw[kn]at ae;exact ae.elim
 |true=>
 rw[kn]at ae
 simp only[bw,gn]at kn
 obtain⟨⟨⟨⟨c1,bK⟩,cy⟩,c3⟩,fh⟩:=kn
 have bK:=bR bK
 have cy:=bR cy
 have c3:=bR c3
 subst c3
 rw[auJ hp hr (by omega),bK]
 obtain⟨b8,b9,r,jc,de⟩:=hw.fT b cs _ aX c1
 have jc:=jc rfl
 subst jc
 rw[gZ]at de
 refine fE.aac (f:=p.c.f) hK n (cs.map nZ) bl k G ρ m w (cs.map (A.den ρ m)) R' (λzs h1 h2 h3=>?_) hb hw (λv hv=>?_) (S3 cs) ae ab
 ·have:=hc.2 _ w _ zs (m b) hw.ext h1 h2 h3 b8 (λhF=>?_) de
  ·rwa [qM]at this
  ·obtain⟨⟨b',k1,k2,q,k3,k4,_⟩,_⟩:=hF
   have c7:b≠b':=λe=>by
    subst e
    rw[List.any_eq_true.2 ⟨b,k1,G9 b⟩]at fh;cases fh
   rcases hw.inj b b' _ q aX k3 k2.symm with h|h|h|h
   ·exact c7 h
   ·have:=oq (ρ:=ρ) c1;simp only at h;omega
   ·have:=oq (ρ:=ρ) c1;simp only at h;omega
   ·exact k4 h
 ·obtain⟨a,ha,rfl⟩:=List.mem_map.1 hv
  exact hb _ (e8 aX) a ha
def UW (p:kl) (vs:List V):Bool:=match QL p.nil vs with
 |some (_,len,_)=>aM len p.c.args.length
 |none=>false
noncomputable def rj:List kl->qO->qO
 |[],bc=>bc
 |p::r,bc=>λf=>cond (aM p.c.f f) (some λn vs bl k=>cond (UW p vs) (p.E n vs bl k) (match rj r bc f with
  |some g=>g n vs bl k
  |none=> .stuck)) (rj r bc f)
theorem AM {w0:eG} {bc:qO} (oN:wL S L w0 P bc):∀{l:List kl},(∀p∈l,p.b1 P w0.b (S p.c.id))->wL S L w0 P (rj l bc)
 |[],_=>oN
 |p::l,h=>λf g hf=>by
  unfold rj at hf
  cases hb:aM p.c.f f with
  |true=>
   rw[hb]at hf
   simp only[cond_true,bb]at hf
   have:=bR hb
   subst this;subst hf
   intro n vs bl k G ρ m w xs R' h1 h2 h3 h4 h5 h6
   have h5:(cond (UW p vs) (p.E n vs bl k) (match rj l bc p.c.f with
    |some g=>g n vs bl k
    |none=> .stuck)).holds S L G ρ:=h5
   cases ah:UW p vs with
   |true=>
    rw[ah]at h5
    exact kl.J1 (h p (by simp)) (λ_ _ h=>h) n vs bl k G ρ m w xs R' h1 h2 h3 h4 h5 h6
   |false=>
    rw[ah]at h5
    simp only[cond_false]at h5
    cases hr:rj l bc p.c.f with
    |none=>rw[hr]at h5;exact h5.elim
    |some oh=>
     rw[hr]at h5
     exact AM oN (λp hp=>h p (eB _ hp)) p.c.f oh hr n vs bl k G ρ m w xs R' h1 h2 h3 h4 h5 h6
  |false=>
   rw[hb]at hf
   exact AM oN (λp hp=>h p (eB _ hp)) f g hf
def tl:W->A
 | .one a=>a
 |_=> .con undef
noncomputable def kl.tree (bc:qO) (P:bV) (gl:fa) (cal:fy) (li:dt->Nat->Option gB) (rounds d:Nat) (p:kl):T:=
 cond (sZ p.c.args&& !(p.c.args.any cN.th)) (QP p.c.pre ((fY (dz p.c.args).length).map L4) (yA p.c.args 0 (dz p.c.args).length [] [] λn us bl=>
  cond (us.all (λu=>match u with| .one _=>true|_=>false)&&cc (us.map tl)) (HJ bc P gl cal li rounds d p.c.f n (cond p.nil [nZ (.slc bl.length 0 us.length us.length),nZ (.con (.slice none 0 0))] [nZ (.slc bl.length 0 us.length us.length)]) (bl++[(us.map tl,(p.ty,false))]) λn' v bq=>match bq[bl.length]? with
   |some (cs,(t,false))=>cond (rG cs (us.map tl)&&aM t p.ty) (MO (dN bq bl.length gd) p.c.res v n' λos _=> .leaf (Ec os)) .stuck
   |_=> .stuck) .stuck)) .stuck
theorem Mem.more {b r:aC} {ex ex' ro:Nat->Prop} {ds:List EP} {ρ:Env} {m:Nat->Nat} {bl:List aE} {w:aC} (h:Mem ⟨b,r,ex,ro,ds⟩ ρ m bl w) (he:∀g,ex g->ex' g):Mem ⟨b,r,ex',ro,ds⟩ ρ m bl w:=
 ⟨h.ext,h.jN,h.m6,h.kV,h.gF,λi hi hx=>h.jB i hi λpg=>hx (he i pg),λi cs t hi ax=>by
  obtain⟨h1,h2,h3⟩:=h.fT i cs t hi ax
  exact⟨h1,h2.imp (he _) id,h3⟩,λi sh off code cap kind t hi ab=>by
  obtain⟨g1,g2⟩:=h.rws i sh off code cap kind t hi ab
  refine⟨g1,λhc=>?_⟩
  obtain⟨k1,cells,t',fz,k2,k3,k4⟩:=g2 hc
  refine⟨k1.imp (he _) id,cells,t',fz,k2,k3,λh2=>?_⟩
  obtain⟨iS,qu,rV,ti,y1,q9⟩:=k4 h2
  exact⟨iS,qu,rV,ti,y1,q9.imp (he _) id⟩,h.inj⟩
theorem Mem.drop {b r:aC} {ro:Nat->Prop} {ρ:Env} {m:Nat->Nat} {bl:List aE} {w:aC} {g i0:Nat} {cs:List A} {t:bp} (h:Mem ⟨b,r,λi=>i=g,ro,[]⟩ ρ m bl w) (hi:bl[i0]?=some (cs,(t,false))) (ax:cc cs=true) (hg:m i0=g) (hr:r.heap[g]?=some (.cells (cs.map (A.den ρ m)).toArray t (0,0))):
 Mem ⟨b,r,λ_=>False,ro,[]⟩ ρ m (dN bl i0 gd) w:=by
 have hlen:i0<bl.length:=(List.getElem?_eq_some_iff.1 hi).1
 have er:∀(i:Nat) (q:aE),(dN bl i0 gd)[i]?=some q->(i=i0/\q=gd)∨(i≠i0/\bl[i]?=some q):=λi q ah=>by
  rw[np,uV]at ah
  split at ah
  ·rename_i hW
   subst hW
   simp only[hlen,if_true,bb]at ah
   exact .inl ⟨rfl,ah.symm⟩
  ·rename_i hW;exact .inr ⟨λe=>hW e.symm,ah⟩
 have jb:bM ρ gd.1=0:=by simp[gd,bM,I.br]
 have nQ:bM ρ cs=2:=oq ax
 have c7:∀(i:Nat) (q:aE),i≠i0->bl[i]?=some q->bM ρ q.1≠0->m i≠g:=λi q qo ah ab e=>by
  rcases h.inj i i0 q _ ah hi (by rw[e,hg])with h1|h1|h1|h1
  ·exact qo h1
  ·simp only at h1;omega
  ·exact ab h1
  ·simp only at h1;omega
 refine⟨h.ext,h.jN,h.m6,h.kV,h.gF,λi ko _=>?_,λi kI t' ah jY=>?_,λi sh off code cap kind t' ah=>?_,λi j p q hp ah he=>?_⟩
 ·by_cases e:i=g
  ·subst e
   obtain⟨_,_,Jo,pS,h3⟩:=h.fT i0 cs _ hi ax
   have pS:=pS rfl
   subst pS
   rw[gZ,hg]at h3
   rw[h3];exact hr.symm
  ·exact h.jB i ko e
 ·rcases er i _ ah with⟨_,e⟩|⟨qo,ah⟩
  ·simp only[gd,eW]at e
   rw[e.1]at jY;simp[cc]at jY
  ·obtain⟨h1,h2,h3⟩:=h.fT i kI t' ah jY
   refine⟨h1,?_,h3⟩
   rcases h2 with h2|h2
   ·exact absurd h2 (c7 i _ qo ah (by rw[oq jY];decide))
   ·exact .inr h2
 ·rcases er i _ ah with⟨_,e⟩|⟨qo,ah⟩
  ·simp only[gd,eW,qK,A.rows.injEq,and_true]at e
   intro ab
   exact absurd e.1.2.2.2.2 ab
  ·intro ab
   obtain⟨g1,g2⟩:=h.rws i sh off code cap kind t' ah ab
   refine⟨g1,λhc=>?_⟩
   have F5:m i≠g:=c7 i _ qo ah (by simp only[bM];rw[if_neg (by omega)];exact ab)
   obtain⟨k1,cells,M0,fz,k2,k3,k4⟩:=g2 hc
   refine⟨?_,cells,M0,fz,k2,k3,λh2=>?_⟩
   ·rcases k1 with k1|k1
    ·exact absurd k1 F5
    ·exact .inr k1
   ·obtain⟨iS,qu,rV,ti,y1,q9⟩:=k4 h2
    refine⟨iS,qu,rV,ti,y1,?_⟩
    rcases q9 with q9|q9
    ·exact absurd q9 F5
    ·exact .inr q9
 ·rcases er i _ hp with⟨_,e⟩|⟨qo,hp⟩
  ·subst e;exact .inr (.inr (.inl jb))
  ·rcases er j _ ah with⟨_,e⟩|⟨aeO,ah⟩
   ·subst e;exact .inr (.inr (.inr jb))
   ·exact h.inj i j p q hp ah he
theorem kl.Md {wb:aC} {gl:fa} {p:kl} {bc:qO} {cal:fy} {li:dt->Nat->Option gB} {rounds d:Nat} {spec:List Int->List Int->Prop} (hm:P.follows .mixedOrders=true) (c6:∀r ex ro,h8 S P gl ⟨wb,r,ex,ro,[]⟩ cal) (hg:fA gl ⟨wb,wb,λ_=>False,λ_=>False,[]⟩)
 (oN:∀(L:V->Env->Prop) (r:aC) (ex ro:Nat->Prop),wL S L ⟨wb,r,ex,ro,[]⟩ P bc) (hf:∀args w,(callFunc p.c.f args).run P w= .ok (.enter p.c.f args) w)
 (aA:j6 (dz p.c.args) λzs=>(p.tree bc P gl cal li rounds d).holds S (yu λrs=>af (dz p.c.res) rs/\spec zs rs) (λ_ _=>False) (bL (λ_=>0) 0 zs)):p.b1 P wb spec:=by
 refine⟨hf,λF w vs zs g hw hz LC hat VB K5 hcell=>?_⟩
 have ae:=oG aA hz
 have q8:=e7 hz
 unfold kl.tree at ae
 cases ah:(sZ p.c.args&& !(p.c.args.any cN.th))with
 |false=>rw[ah]at ae;exact ae.elim
 |true=>
  rw[ah]at ae
  simp only[cond_true]at ae
  have ae:=preA_holds ae (by rw[<-q8,W8];exact LC)
  simp only[bw,gn]at ah
  have nS:Mem ⟨wb,w,λ_=>False,F,[]⟩ (bL (λ_=>0) 0 zs) (λ_=>0) [] w:=⟨hw,rfl,rfl,rfl,bO _,λ_ _ _=>rfl,λi cs t h=>by simp at h,λi sh off code cap kind t h=>by simp at h,λi j p q h=>by simp at h⟩
  have jr:(p.c.args.all λb=> !b.th)=true:=by
   rw[JI]
   intro b hb
   cases iA:b.th with
   |false=>rfl
   |true=>rw[List.any_eq_true.2 ⟨b,hb,iA⟩]at ah;cases ah.2
  obtain⟨n',aa,m',us,bl,cz,cw,dc,fC,fN,gH⟩:=Fa (S:=S) (L:=_) (w0:=⟨wb,w,λ_=>False,F,[]⟩) (F:=F) (N:=λ_=>False) (λg hg=> .inr (.inl hg)) (λg hg=>hg.elim) (l:=p.c.args) (s:=0) (us:=[]) (bl:=[]) (m:=λ_=>0) ah.1 (λp hp=>by simp at hp) nS (jT.bL _ 0 zs) hz (by omega) hat (.inr λi p h=>by simp at h) (.inl jr) (λu hu=>by simp at hu) ae
  cases xp:(us.all (λu=>match u with| .one _=>true|_=>false)&&cc (us.map tl))with
  |false=>rw[xp]at gH;exact gH.elim
  |true=>
  rw[xp]at gH
  simp only[cond_true]at gH
  simp only[bw]at xp
  have afd:∀u∈us,u= .one (tl u):=λu hu=>by
   have:=List.all_eq_true.1 xp.1 u hu
   cases u with
   |one a=>rfl
   |_=>simp at this
  have kL:(us.map tl).map (A.den aa m')=vs:=by
   have e:us.map (W.den aa m')=vs:=by simpa using fC
   rw[<-e,p8]
   refine kD λu hu=>?_
   rw[afd u hu];rfl
  have Wr:∀a∈us.map tl,A.ok n' bl.length aa a:=λa ha=>by
   obtain⟨u,hu,rfl⟩:=List.mem_map.1 ha
   have h1:=fN u hu
   rw[afd u hu]at h1
   exact h1
  have PG:g<w.heap.size:=(Array.getElem?_eq_some_iff.1 hcell).1
  have pO:=(dc.more (ex':=λi=>i=g) λ_ h=>h.elim).push (x:=(us.map tl,(p.ty,false))) (g:=g) cw Wr (λ_=>⟨VB,.inl rfl,[],λ_=>rfl,by rw[gZ,kL];exact hcell⟩) (λsh off code cap kind he=>by
   simp only at he;rw[he]at xp;simp[cc]at xp) (λi q hi he=>by
    refine .inr (.inl ?_)
    by_cases h0:bM aa q.1=0
    ·exact h0
    ·exfalso
     obtain⟨cs,t⟩:=q
     cases ax:cc cs with
     |true=>
      obtain⟨_,h2,_⟩:=dc.fT i cs t hi ax
      rcases h2 with h2|h2
      ·exact h2
      ·simp only at h2;omega
     |false=>
      obtain⟨sh,off,code,cap,k,e⟩:=QI ax
      subst e
      simp only[bM]at h0
      split at h0
      ·exact h0 rfl
      ·rename_i hc
       obtain⟨h1,_⟩:=(dc.rws i sh off code cap k t hi h0).2 (by omega)
       rcases h1 with h1|h1|h1
       ·exact h1
       ·rw[he]at h1;exact K5 h1
       ·simp only at h1;omega)
  have FU:cY n' (bl++[(us.map tl,(p.ty,false))]).length aa (bl++[(us.map tl,(p.ty,false))]):=λq ah a oi=>by
   rcases List.mem_append.1 ah with ah|ah
   ·exact(cw q ah a oi).ext (agree.refl _ _) (bO _) (by simp)
   ·simp at ah;subst ah
    exact(Wr a oi).ext (agree.refl _ _) (bO _) (by simp)
  have ap6:us.length=vs.length:=by rw[<-kL];simp
  have VQ:fA gl ⟨wb,w,λi=>i=g,F,[]⟩:=hg
  have ae9:V.ok n' (bl++[(us.map tl,(p.ty,false))]).length aa (nZ (.slc bl.length 0 us.length us.length)):=by
   show bl.length<_
   simp
  have xq:(nZ (.slc bl.length 0 us.length us.length)).rel aa (oz m' bl.length g) (.slice (some ⟨g,0,none⟩) vs.length vs.length):=by
   simp[V.rel,nZ,W.den,A.den,p3,ap6]
  have ta:∀v∈(cond p.nil [nZ (.slc bl.length 0 us.length us.length),nZ (.con (.slice none 0 0))] [nZ (.slc bl.length 0 us.length us.length)]),V.ok n' (bl++[(us.map tl,(p.ty,false))]).length aa v:=λv hv=>by
   have aoC:V.ok n' (bl++[(us.map tl,(p.ty,false))]).length aa (nZ (.con (.slice none 0 0))):=rfl
   cases hn:p.nil with
   |true=>
    rw[hn]at hv
    simp only[cond_true,pD,yp,or_false]at hv
    rcases hv with rfl|rfl
    ·exact ae9
    ·exact aoC
   |false=>
    rw[hn]at hv
    simp only[cond_false,pD,yp,or_false]at hv
    subst hv
    exact ae9
  have hrel:fb aa (oz m' bl.length g) (cond p.nil [nZ (.slc bl.length 0 us.length us.length),nZ (.con (.slice none 0 0))] [nZ (.slc bl.length 0 us.length us.length)]) (Eg p g vs.length).toList:=by
   unfold Eg
   cases hn:p.nil with
   |true=>simp only[cond_true];exact⟨xq,rfl,trivial⟩
   |false=>simp only[cond_false];exact⟨xq,trivial⟩
  have aow:=(OQ (S:=S) (w0:=⟨wb,w,λi=>i=g,F,[]⟩) (R':=λe w'=>w.Extends w'/\∃rs us,af (dz p.c.res) rs/\spec zs rs/\nM (λg=>F g∨w.heap.size<=g) (λg=>w.heap.size<=g) w' p.c.res rs us/\e= .returned (wq us)) rfl hm (c6 w _ F) VQ (oN _ _ _ _) d p.c.f n' _ _ _ _ aa (oz m' bl.length g) w _ FU pO ta hrel gH ?_).2
  ·simpa using aow
  intro ff v bq eP bW fj w' val h1 h2 h3 h4 h5 h6 h7
  simp only at h7
  split at h7
  rotate_left
  ·exact h7.elim
  rename_i cs t q1
  cases kn:(rG cs (us.map tl)&&aM t p.ty)with
  |false=>rw[kn]at h7;exact h7.elim
  |true=>
  rw[kn]at h7
  simp only[cond_true]at h7
  simp only[bw]at kn
  have amt:=Fi kn.1
  have H3:=bR kn.2
  subst amt;subst H3
  have Lb:bl.length<(bl++[(us.map tl,(p.ty,false))]).length:=by simp
  have PS:fj bl.length=g:=by rw[h1.hm _ Lb,p3]
  have yQ:(us.map tl).map (A.den bW fj)=vs:=by
   rw[<-kL]
   refine kD λa ha=>?_
   rw[A.oL (Wr a ha) h1.ha (λb hb=>?_)]
   rw[h1.hm b (by simp;omega),py hb]
  have q0:=h6.drop q1 xp.2 PS (by rw[yQ];exact hcell)
  have iA:cY ff (dN bq bl.length gd).length bW (dN bq bl.length gd):=by
   rw[kQ]
   intro q ah a ha
   rw[np]at ah
   rcases Nv ah with ah|ah
   ·exact h5 q ah a ha
   ·subst ah
    simp only[gd,pD,yp,or_false]at ha
    subst ha
    exact⟨⟨I.dd _ _,I.dd _ _,I.dd _ _⟩,by rw[I.br];exact⟨cW _,zN⟩,by rw[I.br];omega⟩
  obtain⟨jw,uB,os,F4,yN,⟨xs,tf,Av⟩,hl⟩:=Yb (S:=S) (w0:=⟨wb,w,λ_=>False,F,[]⟩) (λg hg=>hg) iA q0 (by rw[kQ];exact h3) h4 eP _ h7
  have hl:yu _ (Ec os) jw:=hl
  rw[S8]at hl
  refine⟨?_,os.map (O.den jw),xs,hl.1,hl.2,?_,by rw[tf]⟩
  ·have tG:∀i:Nat,i<w.heap.size->w'.heap[i]?=w.heap[i]?:=λi hi=>q0.jB i hi λh=>h
   exact⟨q0.jN,q0.m6,q0.kV,q0.gF,λa ha=>by simp only[o3,tG a.block ha],λa ha=>by simp only[CK,tG a.block ha],tG⟩
  ·exact fE.Md.Ht (λg hg=>by
    rcases hg with hg|hg|hg
    ·exact hg.elim
    ·exact .inl hg
    ·exact .inr hg) (λg hg=>hg) Av
section
variable {wb:aC} {sh:Nat->List Nat×List Nat} {SB:Nat->List (List Int)->List (List Int)->Prop}
theorem GI {p:kl} {bc:qO} {cal:fy} {li:dt->Nat->Option gB} {rounds d:Nat} {lsh:Nat->List Nat} {lens:List Nat} (hm:P.follows .mixedOrders=true) (c6:∀r ex ro,h8 (jo sh SB) P gl ⟨wb,r,ex,ro,[]⟩ cal) (hg:fA gl ⟨wb,wb,λ_=>False,λ_=>False,[]⟩)
 (oN:∀(L:V->Env->Prop) (r:aC) (ex ro:Nat->Prop),wL (jo sh SB) L ⟨wb,r,ex,ro,[]⟩ P bc) (hf:DL P p.c.f=true) (hl:lens=(sh p.c.id).1) (hd:Ca p.c.res=(sh p.c.id).2)
 (hv:qg sh lsh SB (j4 SB p.c.res p.c.id) lens (dz p.c.args) p.c.res (p.tree bc P gl cal li rounds d)):p.b1 P wb (jo sh SB p.c.id):=by
 refine kl.Md (li:=li) (rounds:=rounds) (d:=d) hm c6 hg oN (enters hf) (u6 λzs hz=>?_)
 have h:=oG (Tp hv) hz
 simp only[j4,wm]at h
 rw[hl,hd]at h
 exact h
end
end Go.ch
namespace Go.ch
open M
variable {S:Nat->List Int->List Int->Prop} {L:V->Env->Prop} {P:bV} {gl:fa} {cal:fy}
inductive hO where
 |int (k:dO) (c:Int)
 |fn (f:dt)
def hO.val:hO->aV
 |int k c=> .int k c
 |fn f=> .func (.func f) #[] #[]
def hO.A:hO->A
 |int k c=> .int k (bQ.const c)
 |fn f=> .con (.func (.func f) #[] #[])
def Pl:hO->A->Bool
 | .int k c,.int bD x=>decide (k=bD)&&(match x.l.eN with|some d=>decide (d=c)|none=>false)
 | .fn f,.con v=>match v with
  | .func (.func s8) a b=>aM f s8&&aM a.size 0&&aM b.size 0
  |_=>false
 |_,_=>false
def KT:List hO->List A->Bool
 |[],[]=>true
 |r::l,a::s=>Pl r a&&KT l s
 |_,_=>false
def KS:List hO->List V->Bool
 |[],[]=>true
 |r::l,.w (.one a)::s=>Pl r a&&KS l s
 |_,_=>false
theorem adp {r:hO} {a:A} {ρ:Env} {m:Nat->Nat} (h:Pl r a=true):a.den ρ m=r.val:=by
 unfold Pl at h
 split at h
 ·rename_i k c bD x
  simp only[bw,decide_eq_true_eq]at h
  obtain⟨h1,h2⟩:=h
  cases hc:x.l.eN with
  |none=>rw[hc]at h2;cases h2
  |some d=>
   rw[hc]at h2
   have h2:=of_decide_eq_true h2
   subst h1;subst h2
   simp[A.den,hO.val,I.km hc]
 ·rename_i f v
  split at h
  ·rename_i s8 x y
   simp only[bw]at h
   obtain⟨⟨h1,h2⟩,h3⟩:=h
   have h1:=bR h1
   have h2:=bR h2
   have h3:=bR h3
   rw[CN h2,CN h3,h1];rfl
  ·cases h
 ·cases h
theorem adq {ρ:Env} {m:Nat->Nat}:∀{l:List hO} {cs:List A},KT l cs=true->cs.map (A.den ρ m)=l.map hO.val
 |[],[],_=>rfl
 |r::l,a::s,h=>by
  simp only[KT,bw]at h
  simp[adp h.1,adq h.2]
 |[],_::_,h=>by cases h
 |_::_,[],h=>by cases h
theorem ado {ρ:Env} {m:Nat->Nat}:∀{l:List hO} {vs:List V} {xs:List aV},KS l vs=true->fb ρ m vs xs->xs=l.map hO.val
 |[],[],[],_,_=>rfl
 |r::l,.w (.one a)::s,x::xs,h,hr=>by
  simp only[KS,bw]at h
  have hx:x=a.den ρ m:=hr.1
  rw[hx,adp h.1,ado h.2 hr.2];rfl
 |[],[],_::_,_,h=>h.elim
 |_::_,[],_,h,_=>by cases h
structure qT where
 c:fE
 cells:List hO
 ty:bp
 tail:List hO
structure aae (g:Nat) (w w':aC):Prop where
 os:w'.os=w.os
 tape:w'.tape=w.tape
 out:w'.output=w.output
 size:w.heap.size<=w'.heap.size
 fT:∀i,i<w.heap.size->i≠g->w'.heap[i]?=w.heap[i]?
def qT.b1 (P:bV) (wb:aC) (p:qT) (spec:List Int->List Int->Prop):Prop:=
 (∀args w,(callFunc p.c.f args).run P w= .ok (.enter p.c.f args) w)/\
 ∀(F:Nat->Prop) (w:aC) (vs:List aV) (zs:List Int) (g:Nat),wb.Extends w->af (dz p.c.args) zs->I4 p.c.pre zs->nM F (λ_=>False) w p.c.args zs vs->wb.heap.size<=g->¬F g->w.heap[g]?=some (.cells (p.cells.map hO.val).toArray p.ty (0,0))->
  oD P p.c.f (.pointer (some ⟨g,0,none⟩)::(vs++p.tail.map hO.val)).toArray w λe w'=>aae g w w'/\∃rs us,af (dz p.c.res) rs/\spec zs rs/\nM (λg=>F g∨w.heap.size<=g) (λg=>w.heap.size<=g) w' p.c.res rs us/\e= .returned (wq us)
noncomputable def qT.E (p:qT) (n:Nat) (vs:List V) (bl:List aE) (k:RK):T:=
 match vs with
 | .w (.one (.ptr b 0))::us=>match bl[b]? with
  |some (cs,(t,false))=>cond (cc cs&&KT p.cells cs&&aM t p.ty&&KS p.tail (us.drop p.c.args.length)&&cK p.c.args.length us.length&& !(((us.take p.c.args.length).flatMap qU).any (aM b))&&sZ p.c.res&& !(p.c.res.any cN.rU))
   (FD bl p.c.args (us.take p.c.args.length) n λls a1=>XN p.c.pre ls (.call p.c.id ls a1 (dz p.c.res) (yA p.c.res a1 (a1+(dz p.c.res).length) [] (dN bl b gd) λff us sC=>k ff (Eu us) sC))) .stuck
  |_=> .stuck
 |_=> .stuck
theorem Mem.but {w0:eG} {ρ:Env} {m:Nat->Nat} {bl:List aE} {w w':aC} {b:Nat} {cs:List A} {t:bp×Bool} (h:Mem w0 ρ m bl w) (hi:bl[b]?=some (cs,t)) (ax:cc cs=true) (hx:aae (m b) w w'):Mem w0 ρ m (dN bl b gd) w':=by
 have hlen:b<bl.length:=(List.getElem?_eq_some_iff.1 hi).1
 have er:∀(i:Nat) (q:aE),(dN bl b gd)[i]?=some q->(i=b/\q=gd)∨(i≠b/\bl[i]?=some q):=λi q ah=>by
  rw[np,uV]at ah
  split at ah
  ·rename_i hW
   subst hW
   simp only[hlen,if_true,bb]at ah
   exact .inl ⟨rfl,ah.symm⟩
  ·rename_i hW;exact .inr ⟨λe=>hW e.symm,ah⟩
 have jb:bM ρ gd.1=0:=by simp[gd,bM,I.br]
 have nQ:bM ρ cs=2:=oq ax
 have c7:∀(i:Nat) (q:aE),i≠b->bl[i]?=some q->bM ρ q.1≠0->m i≠m b:=λi q qo ah ab e=>by
  rcases h.inj i b q _ ah hi e with h1|h1|h1|h1
  ·exact qo h1
  ·simp only at h1;omega
  ·exact ab h1
  ·simp only at h1;omega
 obtain⟨qn,q1,_⟩:=h.fT b cs t hi ax
 refine⟨UT h.ext hx.os hx.tape hx.out hx.size (λk ab=>hx.fT k (G8 ab h.ext.size) (by omega)),hx.os.trans h.jN,hx.tape.trans h.m6,hx.out.trans h.kV,oE h.gF hx.size,λi ko hex=>?_,λi kI t' ah jY=>?_,λi sh off code cap kind t' ah=>?_,λi j p q hp ah he=>?_⟩
 ·have Iv:i≠m b:=λe=>by
   subst e
   rcases q1 with h2|h2
   ·exact hex h2
   ·omega
  rw[hx.fT i (G8 ko h.gF) Iv]
  exact h.jB i ko hex
 ·rcases er i _ ah with⟨_,e⟩|⟨qo,ah⟩
  ·simp only[gd,eW]at e
   rw[e.1]at jY;simp[cc]at jY
  ·obtain⟨h1,h2,r,h3,h4⟩:=h.fT i kI t' ah jY
   exact⟨h1,h2,r,h3,by rw[hx.fT _ (Array.getElem?_eq_some_iff.1 h4).1 (c7 i _ qo ah (by rw[oq jY];decide))];exact h4⟩
 ·rcases er i _ ah with⟨_,e⟩|⟨qo,ah⟩
  ·simp only[gd,eW,qK,A.rows.injEq,and_true]at e
   intro ab
   exact absurd e.1.2.2.2.2 ab
  ·intro ab
   obtain⟨g1,g2⟩:=h.rws i sh off code cap kind t' ah ab
   refine⟨g1,λhc=>?_⟩
   have F5:=c7 i _ qo ah (by simp only[bM];rw[if_neg (by omega)];exact ab)
   obtain⟨k1,cells,M0,fz,k2,k3,k4⟩:=g2 hc
   exact⟨k1,cells,M0,fz,by rw[hx.fT _ (Array.getElem?_eq_some_iff.1 k2).1 F5];exact k2,k3,k4⟩
 ·rcases er i _ hp with⟨_,e⟩|⟨qo,hp⟩
  ·subst e;exact .inr (.inr (.inl jb))
  ·rcases er j _ ah with⟨_,e⟩|⟨aeO,ah⟩
   ·subst e;exact .inr (.inr (.inr jb))
   ·exact h.inj i j p q hp ah he
theorem cY.dead {n nb:Nat} {ρ:Env} {bl:List aE} (h:cY n nb ρ bl) (b:Nat):cY n nb ρ (dN bl b gd):=by
 intro q ah a ha
 rw[np]at ah
 rcases Nv ah with ah|ah
 ·exact h q ah a ha
 ·subst ah
  simp only[gd,pD,yp,or_false]at ha
  subst ha
  exact⟨⟨I.dd _ _,I.dd _ _,I.dd _ _⟩,by rw[I.br];exact⟨cW _,zN⟩,by rw[I.br];omega⟩
theorem S4 {ρ:Env} {m:Nat->Nat}:∀(k:Nat) {vs:List V} {xs:List aV},fb ρ m vs xs->fb ρ m (vs.take k) (xs.take k)/\fb ρ m (vs.drop k) (xs.drop k)
 |0,vs,xs,h=>⟨by simp;trivial,by simpa using h⟩
 |k+1,[],[],_=>⟨trivial,trivial⟩
 |k+1,v::vs,x::xs,h=>⟨⟨h.1,(S4 k h.2).1⟩,(S4 k h.2).2⟩
 |_+1,[],_::_,h=>h.elim
 |_+1,_::_,[],h=>h.elim
theorem qT.J1 {w0:eG} {p:qT} {spec:List Int->List Int->Prop} (hc:p.b1 P w0.b spec) (hK:∀zs rs,spec zs rs->S p.c.id zs rs) (n:Nat) (vs:List V) (bl:List aE) (k:RK) (G:e2) (ρ:Env) (m:Nat->Nat) (w:aC) (xs:List aV) (R':Ending->aC->Prop)
 (hb:cY n bl.length ρ bl) (hw:Mem w0 ρ m bl w) (hv:∀v∈vs,V.ok n bl.length ρ v) (hr:fb ρ m vs xs) (ae:(p.E n vs bl k).holds S L G ρ) (ab:EY S L w0 k n bl.length ρ m G R'):
 (callFunc p.c.f xs.toArray).run P w= .ok (.enter p.c.f xs.toArray) w/\oD P p.c.f xs.toArray w R':=by
 refine⟨hc.1 _ _,?_⟩
 unfold qT.E at ae
 split at ae
 rotate_left
 ·exact ae.elim
 rename_i b us
 split at ae
 rotate_left
 ·exact ae.elim
 rename_i cs t aX
 match xs,hr with
 |x::xs,hr=>
 cases kn:(cc cs&&KT p.cells cs&&aM t p.ty&&KS p.tail (us.drop p.c.args.length)&&cK p.c.args.length us.length&& !(((us.take p.c.args.length).flatMap qU).any (aM b))&&sZ p.c.res&& !(p.c.res.any cN.rU))with
 |false=>rw[kn]at ae;exact ae.elim
 |true=>
 rw[kn]at ae
 simp only[cond_true]at ae
 simp only[bw,gn]at kn
 obtain⟨⟨⟨⟨⟨⟨⟨c1,bK⟩,cy⟩,c3⟩,fh⟩,hH⟩,qi⟩,pN⟩:=kn
 have cy:=bR cy
 subst cy
 obtain⟨hx,hr⟩:=hr
 have hx:x= .pointer (some ⟨m b,0,none⟩):=hx
 subst hx
 obtain⟨r1,r2⟩:=S4 p.c.args.length hr
 have apZ:=ado c3 r2
 have gf:xs=xs.take p.c.args.length++p.tail.map hO.val:=by rw[<-apZ,o2]
 obtain⟨b8,b9,r,jc,de⟩:=hw.fT b cs _ aX c1
 have jc:=jc rfl
 subst jc
 rw[gZ,adq bK]at de
 obtain⟨aQ,a1,ls,gE,fe,⟨g1,g2,g3⟩,ae⟩:=Pn (S:=S) (L:=L) hb hw (λv Au=>hv v (eB _ (List.mem_of_mem_take Au))) r1 G _ ae
 obtain⟨rS,ae⟩:=preM_holds ae
 simp only[T.holds]at ae
 rw[gf]
 refine(hc.2 (uf w0 ρ m bl ((us.take p.c.args.length).flatMap qU) ((us.take p.c.args.length).flatMap xR)) w _ _ (m b) hw.ext g2 rS (g3 _ λ_ h=>h) b8 (λhF=>?_) de).mono ?_
 ·obtain⟨⟨b',k1,k2,q,k3,k4,_⟩,_⟩:=hF
  have c7:b≠b':=λe=>by
   subst e
   rw[List.any_eq_true.2 ⟨b,k1,G9 b⟩]at hH;cases hH
  rcases hw.inj b b' _ q aX k3 k2.symm with h|h|h|h
  ·exact c7 h
  ·have:=oq (ρ:=ρ) c1;simp only at h;omega
  ·have:=oq (ρ:=ρ) c1;simp only at h;omega
  ·exact k4 h
 rintro e w' ⟨he,rs,p4,r1,r2,gI,rfl⟩
 have ae:=oG ae r1 (hK _ _ r2)
 have pO:=hw.but aX c1 he
 have iA:=hb.dead b
 have hl:(dN bl b gd).length=bl.length:=kQ _ _ _
 have eb:agree a1 aQ (bL aQ a1 rs):=agree.bL rs a1 aQ
 have FQ:=fe.trans eb gE
 have q1:cY (a1+(dz p.c.res).length) (dN bl b gd).length (bL aQ a1 rs) (dN bl b gd):=by rw[hl];exact iA.ext FQ (by omega) (bO _)
 have an1:Mem w0 (bL aQ a1 rs) m (dN bl b gd) w':=pO.sP (by rw[hl];exact iA) FQ
 have aU:jT (bL aQ a1 rs) a1 rs:=jT.bL aQ a1 rs
 have Vm:eX n bl.length ρ m (a1+(dz p.c.res).length) (dN bl b gd).length (bL aQ a1 rs) m:=⟨by omega,FQ,by rw[hl];exact bO _,λ_ _=>rfl⟩
 have hF:∀g,(uf w0 ρ m bl ((us.take p.c.args.length).flatMap qU) ((us.take p.c.args.length).flatMap xR) g∨w.heap.size<=g)->w0.ex g∨w0.ro g∨w0.r.heap.size<=g:=λg hg=>by
  rcases hg with hg|hg
  ·exact hg.2
  ·exact .inr (.inr (oE hw.gF hg))
 have cT:∀g,w.heap.size<=g->w0.b.heap.size<=g/\w0.r.heap.size<=g:=λg hg=>⟨oE hw.ext.size hg,oE hw.gF hg⟩
 have yY:(p.c.res.all λb=> !b.rU)=true:=by
  rw[JI]
  intro b hb
  cases iA:b.rU with
  |false=>rfl
  |true=>rw[List.any_eq_true.2 ⟨b,hb,iA⟩]at pN;cases pN
 obtain⟨n',aa,m',ay6,sC,cz,cw,dc,fC,fN,gH⟩:=Fa (S:=S) (L:=L) hF cT (l:=p.c.res) (us:=[]) (vals:=p4) qi q1 an1 aU r1 (bO _) gI (.inl yY) (.inr λi q hi tc=>by
  by_cases h0:bM (bL aQ a1 rs) q.1=0
  ·exact h0
  ·exfalso
   rw[np,uV]at hi
   split at hi
   ·rename_i e
    subst e
    split at hi
    ·cases hi;exact h0 (by simp[gd,bM,I.br])
    ·cases hi
   ·rw[xw (hb q (e8 hi)) FQ]at h0
    have:=hw.lt hi h0;omega) (λu hu=>by simp at hu) ae
 have pR:=ahj (m:=m') fN (by simpa using fC)
 exact ab n' (Eu ay6) sC G aa m' w' (wq p4) (Vm.trans cz) (fm.refl _ _) pR.1 pR.2 cw dc gH
noncomputable def Ct:List qT->qO->qO
 |[],bc=>bc
 |p::r,bc=>λf=>cond (aM p.c.f f) (some p.E) (Ct r bc f)
theorem QW {w0:eG} {bc:qO} (oN:wL S L w0 P bc):∀{l:List qT},(∀p∈l,p.b1 P w0.b (S p.c.id))->wL S L w0 P (Ct l bc)
 |[],_=>oN
 |p::l,h=>λf g hf=>by
  unfold Ct at hf
  cases hb:aM p.c.f f with
  |true=>
   rw[hb]at hf
   simp only[cond_true,bb]at hf
   have:=bR hb
   subst this;subst hf
   intro n vs bl k G ρ m w xs R' h1 h2 h3 h4 h5 h6
   exact qT.J1 (h p (by simp)) (λ_ _ h=>h) n vs bl k G ρ m w xs R' h1 h2 h3 h4 h5 h6
  |false=>
   rw[hb]at hf
   exact QW oN (λp hp=>h p (eB _ hp)) f g hf
noncomputable def qT.tree (f:m1) (p:qT):T:=
 cond (sZ p.c.args&& !(p.c.args.any cN.th)) (QP p.c.pre ((fY (dz p.c.args).length).map L4) (yA p.c.args 0 (dz p.c.args).length [] [] λn us bl=>
  cond (cc (p.cells.map hO.A)) (f p.c.f n (nZ (.ptr bl.length 0)::(us.map V.w++p.tail.map λr=>nZ r.A)) (bl++[(p.cells.map hO.A,(p.ty,false))]) λn' v bq=>match bq[bl.length]? with
   |some (cs,_)=>cond (cc cs) (MO (dN bq bl.length gd) p.c.res v n' λos _=> .leaf (Ec os)) .stuck
   |none=> .stuck) .stuck)) .stuck
theorem hO.ZL (r:hO) (ρ:Env) (m:Nat->Nat):r.A.den ρ m=r.val:=by cases r<;>simp[hO.A,hO.val,A.den,bQ.const,I.br]
theorem hO.ZM (r:hO) (n nb:Nat) (ρ:Env):r.A.ok n nb ρ:=by
 cases r with
 |int k c=>exact bQ.qW _ _ _
 |fn f=>rfl
theorem aak {ρ:Env} {m:Nat->Nat}:∀{vs us:List V} {xs hN:List aV},fb ρ m vs xs->fb ρ m us hN->fb ρ m (vs++us) (xs++hN)
 |[],_,[],_,_,h=>h
 |_::_,_,_::_,_,h,bd=>⟨h.1,aak h.2 bd⟩
 |[],_,_::_,_,h,_=>h.elim
 |_::_,_,[],_,h,_=>h.elim
theorem Mem.al6 {b r r':aC} {ro:Nat->Prop} {ρ:Env} {m:Nat->Nat} {bl:List aE} {w:aC} {g i0:Nat} {cs:List A} {t:bp×Bool} (h:Mem ⟨b,r,λi=>i=g,ro,[]⟩ ρ m bl w) (hi:bl[i0]?=some (cs,t)) (ax:cc cs=true) (hg:m i0=g)
 (hr:r'.os=r.os/\r'.tape=r.tape/\r'.output=r.output/\r'.heap.size=r.heap.size) (h1:∀k,k≠g->r'.heap[k]?=r.heap[k]?) (h2:r'.heap[g]?=w.heap[g]?):
 Mem ⟨b,r',λ_=>False,ro,[]⟩ ρ m (dN bl i0 gd) w:=by
 have hlen:i0<bl.length:=(List.getElem?_eq_some_iff.1 hi).1
 have er:∀(i:Nat) (q:aE),(dN bl i0 gd)[i]?=some q->(i=i0/\q=gd)∨(i≠i0/\bl[i]?=some q):=λi q ah=>by
  rw[np,uV]at ah
  split at ah
  ·rename_i hW
   subst hW
   simp only[hlen,if_true,bb]at ah
   exact .inl ⟨rfl,ah.symm⟩
  ·rename_i hW;exact .inr ⟨λe=>hW e.symm,ah⟩
 have jb:bM ρ gd.1=0:=by simp[gd,bM,I.br]
 have nQ:bM ρ cs=2:=oq ax
 have c7:∀(i:Nat) (q:aE),i≠i0->bl[i]?=some q->bM ρ q.1≠0->m i≠g:=λi q qo ah ab e=>by
  rcases h.inj i i0 q _ ah hi (by rw[e,hg])with h1|h1|h1|h1
  ·exact qo h1
  ·simp only at h1;omega
  ·exact ab h1
  ·simp only at h1;omega
 refine⟨h.ext,h.jN.trans hr.1.symm,h.m6.trans hr.2.1.symm,h.kV.trans hr.2.2.1.symm,by have:=h.gF;simp only at this⊢;omega,λi ko _=>?_,λi kI t' ah jY=>?_,λi sh off code cap kind t' ah=>?_,λi j p q hp ah he=>?_⟩
 ·by_cases e:i=g
  ·subst e;exact h2.symm
  ·show w.heap[i]?=r'.heap[i]?
   rw[h1 i e];exact h.jB i (by simp only at ko⊢;omega) e
 ·rcases er i _ ah with⟨_,e⟩|⟨qo,ah⟩
  ·simp only[gd,eW]at e
   rw[e.1]at jY;simp[cc]at jY
  ·obtain⟨k1,k2,k3⟩:=h.fT i kI t' ah jY
   refine⟨k1,?_,k3⟩
   rcases k2 with k2|k2
   ·exact absurd k2 (c7 i _ qo ah (by rw[oq jY];decide))
   ·exact .inr (by simp only at k2⊢;omega)
 ·rcases er i _ ah with⟨_,e⟩|⟨qo,ah⟩
  ·simp only[gd,eW,qK,A.rows.injEq,and_true]at e
   intro ab
   exact absurd e.1.2.2.2.2 ab
  ·intro ab
   obtain⟨g1,g2⟩:=h.rws i sh off code cap kind t' ah ab
   refine⟨g1,λhc=>?_⟩
   have F5:m i≠g:=c7 i _ qo ah (by simp only[bM];rw[if_neg (by omega)];exact ab)
   obtain⟨k1,cells,M0,fz,k2,k3,k4⟩:=g2 hc
   refine⟨?_,cells,M0,fz,k2,k3,λh2=>?_⟩
   ·rcases k1 with k1|k1|k1
    ·exact absurd k1 F5
    ·exact .inr (.inl k1)
    ·exact .inr (.inr (by simp only at k1⊢;omega))
   ·obtain⟨iS,qu,rV,ti,y1,q9⟩:=k4 h2
    refine⟨iS,qu,rV,ti,y1,?_⟩
    rcases q9 with q9|q9
    ·exact absurd q9 F5
    ·exact .inr (by simp only at q9⊢;omega)
 ·rcases er i _ hp with⟨_,e⟩|⟨qo,hp⟩
  ·subst e;exact .inr (.inr (.inl jb))
  ·rcases er j _ ah with⟨_,e⟩|⟨aeO,ah⟩
   ·subst e;exact .inr (.inr (.inr jb))
   ·exact h.inj i j p q hp ah he
theorem qT.asB {wb:aC} {p:qT} {inl:m1} {spec:List Int->List Int->Prop}
 (oj:∀(L:V->Env->Prop) (r:aC) (ex ro:Nat->Prop),rE S L ⟨wb,r,ex,ro,[]⟩ P inl) (hf:∀args w,(callFunc p.c.f args).run P w= .ok (.enter p.c.f args) w)
 (aA:j6 (dz p.c.args) λzs=>(p.tree inl).holds S (yu λrs=>af (dz p.c.res) rs/\spec zs rs) (λ_ _=>False) (bL (λ_=>0) 0 zs)):p.b1 P wb spec:=by
 refine⟨hf,λF w vs zs g hw hz LC hat VB K5 hcell=>?_⟩
 have ae:=oG aA hz
 have q8:=e7 hz
 unfold qT.tree at ae
 cases ah:(sZ p.c.args&& !(p.c.args.any cN.th))with
 |false=>rw[ah]at ae;exact ae.elim
 |true=>
  rw[ah]at ae
  simp only[cond_true]at ae
  have ae:=preA_holds ae (by rw[<-q8,W8];exact LC)
  simp only[bw,gn]at ah
  have nS:Mem ⟨wb,w,λ_=>False,F,[]⟩ (bL (λ_=>0) 0 zs) (λ_=>0) [] w:=⟨hw,rfl,rfl,rfl,bO _,λ_ _ _=>rfl,λi cs t h=>by simp at h,λi sh off code cap kind t h=>by simp at h,λi j p q h=>by simp at h⟩
  have jr:(p.c.args.all λb=> !b.th)=true:=by
   rw[JI]
   intro b hb
   cases iA:b.th with
   |false=>rfl
   |true=>rw[List.any_eq_true.2 ⟨b,hb,iA⟩]at ah;cases ah.2
  obtain⟨n',aa,m',us,bl,cz,cw,dc,fC,fN,gH⟩:=Fa (S:=S) (L:=_) (w0:=⟨wb,w,λ_=>False,F,[]⟩) (F:=F) (N:=λ_=>False) (λg hg=> .inr (.inl hg)) (λg hg=>hg.elim) (l:=p.c.args) (s:=0) (us:=[]) (bl:=[]) (m:=λ_=>0) ah.1 (λp hp=>by simp at hp) nS (jT.bL _ 0 zs) hz (by omega) hat (.inr λi p h=>by simp at h) (.inl jr) (λu hu=>by simp at hu) ae
  cases xp:cc (p.cells.map hO.A)with
  |false=>rw[xp]at gH;exact gH.elim
  |true=>
  rw[xp]at gH
  simp only[cond_true]at gH
  have PG:g<w.heap.size:=(Array.getElem?_eq_some_iff.1 hcell).1
  have yQ:∀ρ m,(p.cells.map hO.A).map (A.den ρ m)=p.cells.map hO.val:=λρ m=>by
   rw[p8];exact kD λr _=>r.ZL ρ m
  have aet:∀n nb ρ,∀a∈p.cells.map hO.A,A.ok n nb ρ a:=λn nb ρ a ha=>by
   obtain⟨r,_,rfl⟩:=List.mem_map.1 ha
   exact r.ZM n nb ρ
  have pO:=(dc.more (ex':=λi=>i=g) λ_ h=>h.elim).push (x:=(p.cells.map hO.A,(p.ty,false))) (g:=g) cw (aet _ _ _) (λ_=>⟨VB,.inl rfl,[],λ_=>rfl,by rw[gZ,yQ];exact hcell⟩) (λsh off code cap kind he=>by
   simp only at he;rw[he]at xp;simp[cc]at xp) (λi q hi he=>by
    refine .inr (.inl ?_)
    by_cases h0:bM aa q.1=0
    ·exact h0
    ·exfalso
     obtain⟨cs,t⟩:=q
     cases ax:cc cs with
     |true=>
      obtain⟨_,h2,_⟩:=dc.fT i cs t hi ax
      rcases h2 with h2|h2
      ·exact h2
      ·simp only at h2;omega
     |false=>
      obtain⟨sh,off,code,cap,k,e⟩:=QI ax
      subst e
      simp only[bM]at h0
      split at h0
      ·exact h0 rfl
      ·rename_i hc
       obtain⟨h1,_⟩:=(dc.rws i sh off code cap k t hi h0).2 (by omega)
       rcases h1 with h1|h1|h1
       ·exact h1
       ·rw[he]at h1;exact K5 h1
       ·simp only at h1;omega)
  have FU:cY n' (bl++[(p.cells.map hO.A,(p.ty,false))]).length aa (bl++[(p.cells.map hO.A,(p.ty,false))]):=λq ah a oi=>by
   rcases List.mem_append.1 ah with ah|ah
   ·exact(cw q ah a oi).ext (agree.refl _ _) (bO _) (by simp)
   ·simp at ah;subst ah
    exact aet _ _ _ a oi
  have ta:∀v∈(nZ (.ptr bl.length 0)::(us.map V.w++p.tail.map λr=>nZ r.A)),V.ok n' (bl++[(p.cells.map hO.A,(p.ty,false))]).length aa v:=λv hv=>by
   rcases List.mem_cons.1 hv with rfl|hv
   ·show bl.length<_;simp
   ·rcases List.mem_append.1 hv with hv|hv
    ·obtain⟨u,hu,rfl⟩:=List.mem_map.1 hv
     exact W.ok.ext (fN u hu) (agree.refl _ _) (bO _) (by simp)
    ·obtain⟨r,_,rfl⟩:=List.mem_map.1 hv
     exact r.ZM _ _ _
  have ap7:∀u∈us,W.den aa (oz m' bl.length g) u=W.den aa m' u:=λu hu=>W.oL (fN u hu) (agree.refl _ _) (λb hb=>py hb)
  have hrel:fb aa (oz m' bl.length g) (nZ (.ptr bl.length 0)::(us.map V.w++p.tail.map λr=>nZ r.A)) (.pointer (some ⟨g,0,none⟩)::(vs++p.tail.map hO.val)):=by
   refine⟨by simp[nZ,V.rel,W.den,A.den,p3],aak (S1 ?_) ?_⟩
   ·rw[kD ap7];simpa using fC
   ·have:=S3 (ρ:=aa) (m:=oz m' bl.length g) (p.tail.map hO.A)
    rw[p8,p8]at this
    have e:(A.den aa (oz m' bl.length g)∘hO.A)=hO.val:=funext λr=>r.ZL _ _
    rw[e]at this
    exact this
  refine((oj _ _ _ _ p.c.f n' _ _ _ _ aa (oz m' bl.length g) w _ _ FU pO ta hrel gH ?_).2)
  intro ff v bq eP bW fj w' val h1 h2 h3 h4 h5 h6 h7
  simp only at h7
  split at h7
  rotate_left
  ·exact h7.elim
  rename_i cs t q1
  cases kn:cc cs with
  |false=>rw[kn]at h7;exact h7.elim
  |true=>
  rw[kn]at h7
  simp only[cond_true]at h7
  have Lb:bl.length<(bl++[(p.cells.map hO.A,(p.ty,false))]).length:=by simp
  have PS:fj bl.length=g:=by rw[h1.hm _ Lb,p3]
  obtain⟨Xp,apq⟩:∃o,w'.heap[g]?=some o:=by
   obtain⟨_,_,r,_,e6⟩:=h6.fT bl.length cs t q1 kn
   rw[PS]at e6
   exact⟨_,e6⟩
  have q0:=h6.al6 (r':=w.putObj g Xp) q1 kn PS (AN _ _ _) (λk ab=>zK ab) (by rw[CQ PG,apq])
  have iA:cY ff (dN bq bl.length gd).length bW (dN bq bl.length gd):=by
   rw[kQ]
   exact h5.dead _
  obtain⟨jw,uB,os,F4,yN,⟨xs,tf,Av⟩,hl⟩:=Yb (S:=S) (w0:=⟨wb,w.putObj g Xp,λ_=>False,F,[]⟩) (λg hg=>hg) iA q0 (by rw[kQ];exact h3) h4 eP _ h7
  have hl:yu _ (Ec os) jw:=hl
  rw[S8]at hl
  refine⟨⟨h6.jN,h6.m6,h6.kV,h6.gF,λi hi Iv=>h6.jB i hi Iv⟩,os.map (O.den jw),xs,hl.1,hl.2,?_,by rw[tf]⟩
  have hsz:(w.putObj g Xp).heap.size=w.heap.size:=ZJ
  exact fE.Md.Ht (λg hg=>by
   rcases hg with hg|hg|hg
   ·exact hg.elim
   ·exact .inl hg
   ·exact .inr (hsz▸hg)) (λg hg=>hsz▸hg) Av
section
variable {wb:aC} {sh:Nat->List Nat×List Nat} {SB:Nat->List (List Int)->List (List Int)->Prop}
theorem awc {p:qT} {inl:m1} {lsh:Nat->List Nat} {lens:List Nat}
 (oj:∀(L:V->Env->Prop) (r:aC) (ex ro:Nat->Prop),rE (jo sh SB) L ⟨wb,r,ex,ro,[]⟩ P inl) (hf:DL P p.c.f=true) (hl:lens=(sh p.c.id).1) (hd:Ca p.c.res=(sh p.c.id).2)
 (hv:qg sh lsh SB (j4 SB p.c.res p.c.id) lens (dz p.c.args) p.c.res (p.tree inl)):p.b1 P wb (jo sh SB p.c.id):=by
 refine qT.asB oj (enters hf) (u6 λzs hz=>?_)
 have h:=oG (Tp hv) hz
 simp only[j4,wm]at h
 rw[hl,hd]at h
 exact h
end
end Go.ch
namespace Go.ch
abbrev y8 (p:Int->Prop):Prop:=∀z:Int,0<=z->z<=9223372036854775807->p z
abbrev Ci (k:Nat) (l:List Int) (p:Int->Prop):Prop:=∀z:Int,0<=z->z<=9223372036854775807->z=bE k l->p z
abbrev r6 (p:Int->Prop):Prop:=∀z:Int,0<=z->z<=bU->p z
abbrev iE (k:Nat) (l:List Int) (p:Int->Prop):Prop:=∀z:Int,0<=z->z<=bU->z=bE k l->p z
abbrev ba (k:Nat) (l:List Int) (p:Int->Prop):Prop:=∀z:Int,0<=z->z<=255->z=bE k l->p z
abbrev ag6 (p:Int->Prop):Prop:=∀z:Int,0<=z->z<=1->p z
abbrev r5 (p:Int->Prop):Prop:=∀z:Int,0<=z->z<=18446744073709551615->p z
abbrev Mt (k:Nat) (l:List Int) (p:Int->Prop):Prop:=∀z:Int,0<=z->z<=18446744073709551615->z=bE k l->p z
abbrev kP (p:Int->Prop):Prop:=∀z:Int,(-1)<=z->z<=9223372036854775807->p z
abbrev n0 (p:Int->Prop):Prop:=∀z:Int,0<=z->p z
abbrev uF (a b:Int) (p:Int->Prop):Prop:=∀z:Int,a<=z->z<=b->p z
abbrev QT (a b:Int) (k:Nat) (l:List Int) (p:Int->Prop):Prop:=∀z:Int,a<=z->z<=b->z=bE k l->p z
abbrev rl (x m:Int) (p:Int->Prop):Prop:=∀z:Int,0<=z->z<=1->0<=x-m*z->x-m*z<m->p z
abbrev hZ (a b x m:Int) (p:Int->Prop):Prop:=∀z:Int,a<=z->z<=b->0<=x-m*z->x-m*z<m->p z
abbrev r4 (b:Bool) (p q:Prop):Prop:=(b=true->p)/\(b=false->q)
end Go.ch
namespace Go.J5
def eu (n:Nat):Prop:=1<n/\∀a,a% n≠0->∃b,a*b% n=1
def Bi (n g:Nat):Prop:=1<n/\g^(n-1)% n=1/\∀a,a% n≠0->∃k,g^k% n=a% n
def pm:Nat->Nat->Nat->Nat->Nat
 |0,_,_,n=>1% n
 |f+1,b,e,n=>bif e% 2==1 then pm f (b*b% n) (e/2) n*b% n else pm f (b*b% n) (e/2) n
theorem QO:∀(f b e n:Nat),e<2^f->pm f b e n=b^e% n
 |0,b,e,n,h=>by
  have:e=0:=by simpa using h
  subst this;rfl
 |f+1,b,e,n,h=>by
  have ih:=QO f (b*b% n) (e/2) n (by rw[yq]at h;omega)
  have aw:(b*b% n)^(e/2)% n=b^(2*(e/2))% n:=by
   rw[<-Nat.pow_mod,Nat.pow_mul,Nat.pow_two]
  rw[aw]at ih
  unfold pm
  rw[ih]
  cases ae:(e% 2==1)with
  |true=>
   have h1:e% 2=1:=by simpa using ae
   simp only[cond_true]
   conv=>rhs;rw[show e=2*(e/2)+1 by omega,yq]
   rw[JH,Nat.mod_mod,<-JH]
  |false=>
   have h1:¬e% 2=1:=by simpa using ae
   simp only[cond_false]
   conv=>rhs;rw[show e=2*(e/2) by omega]
theorem ag0:∀(N:Nat) (f:Nat->Nat),(∀i,i<N->f i<N)->(∀i,i<N->∀j,j<N->f i=f j->i=j)->∀y,y<N->∃i,i<N/\f i=y
 |0,_,_,_,y,h=>by omega
 |N+1,f,hr,hi,y,hy=>by
  have hv:∀i,i<N->f i≠f N:=λi h e=>by have:=hi i (by omega) N (by omega) e;omega
  have key:=ag0 N (λi=>if f i=N then f N else f i) (λi h=>by
   have h1:=hr i (by omega)
   have h2:=hr N (by omega)
   have h3:=hv i h
   show(if f i=N then f N else f i)<N
   split<;>omega) (λi h j bd e=>by
   have h3:=hv i h
   have h4:=hv j bd
   apply hi i (by omega) j (by omega)
   split at e<;>split at e<;>omega)
  by_cases aFI:y=N
  ·by_cases cT:f N=N
   ·exact⟨N,by omega,by omega⟩
   ·obtain⟨i,h1,h2⟩:=key (f N) (by have:=hr N (by omega);omega)
    split at h2
    ·rename_i h3
     exact⟨i,by omega,by omega⟩
    ·exact absurd h2 (hv i h1)
  ·obtain⟨i,h1,h2⟩:=key y (by omega)
   split at h2
   ·exact⟨N,by omega,h2⟩
   ·exact⟨i,by omega,h2⟩
theorem least {p:Nat->Prop}:∀n,p n->∃m,m<=n/\p m/\∀k,k<m->¬p k:=by
 intro n
 induction n using Nat.strongRecOn with
 |_ n ih=>
  intro hn
  by_cases h:∃k,k<n/\p k
  ·obtain⟨k,ab,hp⟩:=h
   obtain⟨m,h1,h2,h3⟩:=ih k ab hp
   exact⟨m,by omega,h2,h3⟩
  ·exact⟨n,bO _,hn,λk ab hp=>h ⟨k,ab,hp⟩⟩
theorem XM {n g d:Nat} (hn:1<n) (h:g^d% n=1) (k:Nat):g^(d*k)% n=1:=by
 rw[Nat.pow_mul,Nat.pow_mod,h,Nat.one_pow,Zl hn]
theorem alP {q m:Nat} (ah:eu q) (hm:¬q∣m):Nat.Coprime m q:=by
 obtain⟨b,hb⟩:=ah.2 m (λh=>hm (aA4 h))
 have h1:Nat.gcd m q∣m*b:=Nat.dvd_trans (Nat.gcd_dvd_left m q) (Nat.dvd_mul_right m b)
 have h2:Nat.gcd m q∣m*b% q:=(Nat.dvd_mod_iff (Nat.gcd_dvd_right m q)).2 h1
 rw[hb]at h2
 exact Nat.dvd_one.1 h2
def QQ:List Nat->Nat
 |[]=>1
 |q::r=>q*QQ r
theorem acS {m:Nat}:∀(fs:List Nat),(∀q∈fs,eu q)->(∀q∈fs,¬q∣m)->Nat.Coprime m (QQ fs)
 |[],_,_=>Nat.coprime_one_right m
 |q::r,h1,h2=>aH1 (alP (h1 q (by simp)) (h2 q (by simp))) (acS r (λx hx=>h1 x (eB _ hx)) (λx hx=>h2 x (eB _ hx)))
theorem anE {n g:Nat} {fs:List Nat} (hn:2<n) (hp:QQ fs=n-1) (hf:∀q∈fs,eu q) (h1:g^(n-1)% n=1) (h2:∀q∈fs,g^((n-1)/q)% n≠1):Bi n g:=by
 have gE:1<n:=by omega
 obtain⟨d,DT,⟨yP,Lg⟩,Lh⟩:=least (p:=λd=>0<d/\g^d% n=1) (n-1) ⟨by omega,h1⟩
 have aoJ:d∣n-1:=by
  have hr:g^((n-1)% d)% n=1:=by
   have e:g^(n-1)% n=g^((n-1)% d)% n:=by
    conv=>lhs;rw[<-RB (n-1) d,CH,JH,XM gE Lg]
    rw[Nat.one_mul,Nat.mod_mod]
   rw[<-e];exact h1
  by_cases h0:(n-1)% d=0
  ·exact aA4 h0
  ·exact absurd ⟨by omega,hr⟩ (Lh ((n-1)% d) (Nc _ yP))
 obtain⟨m,hm⟩:=aoJ
 have hd:d=n-1:=by
  by_cases PR:m=1
  ·rw[hm,PR,Ba]
  ·exfalso
   have hex:∃q,q∈fs/\q∣m:=by
    apply Zm
    intro m4
    have hc:=acS fs hf (λq ah Wg=>m4 ⟨q,ah,Wg⟩)
    rw[hp]at hc
    have:m∣n-1:=⟨d,by rw[hm,zy]⟩
    exact PR (aH2 hc this)
   obtain⟨q,ah,x,hx⟩:=hex
   have yX:=(hf q ah).1
   apply h2 q ah
   have e:(n-1)/q=d*x:=by
    rw[hm,hx,show d*(q*x)=(d*x)*q by rw[zy q x,RE]]
    exact Nat.mul_div_cancel _ (by omega)
   rw[e]
   exact XM gE Lg x
 subst hd
 refine⟨gE,h1,λa ha=>?_⟩
 have F6:∀i,i<=n-1->g^i% n≠0:=λi hi h0=>by
  have:g^(n-1)% n=0:=by
   rw[show n-1=i+(n-1-i) by omega,CH,JH,h0,Nat.zero_mul,Nat.zero_mod]
  omega
 have As:∀i j,i<j->j<n-1->g^i% n≠g^j% n:=λi j Iw aK he=>by
  have:g^(j-i)% n=1:=by
   have aw:g^(j+(n-1-i))% n=g^(i+(n-1-i))% n:=by
    rw[CH,CH,JH,<-he,<-JH]
   rw[show i+(n-1-i)=n-1 by omega,h1,show j+(n-1-i)=(j-i)+(n-1) by omega,CH,JH,h1,Ba,Nat.mod_mod]at aw
   exact aw
  exact Lh (j-i) (by omega) ⟨by omega,this⟩
 obtain⟨i,hi,he⟩:=ag0 (n-1) (λi=>g^i% n-1) (λi hi=>by
  have:=Nc (g^i) (show n>0 by omega)
  have:=F6 i (by omega)
  show g^i% n-1<n-1
  omega) (λi hi j aK e=>by
  have h3:=F6 i (by omega)
  have h4:=F6 j (by omega)
  have da:g^i% n=g^j% n:=by omega
  rcases Nat.lt_trichotomy i j with h|h|h
  ·exact absurd da (As i j h aK)
  ·exact h
  ·exact absurd da.symm (As j i h hi)) (a% n-1) (by have:=Nc a (show n>0 by omega);omega)
 refine⟨i,?_⟩
 have:=F6 i (by omega)
 omega
theorem Bi.DH {n g a:Nat} (h:Bi n g) (ha:a% n≠0):a^(n-1)% n=1:=by
 obtain⟨k,ab⟩:=h.2.2 a ha
 rw[Nat.pow_mod,<-ab,<-Nat.pow_mod,<-Nat.pow_mul,zy]
 exact XM h.1 h.2.1 k
theorem Bi.amM {n g:Nat} (hn:2<n) (h:Bi n g):eu n:=
 ⟨h.1,λa ha=>⟨a^(n-2),by
  have:=h.DH ha
  rw[show n-1=(n-2)+1 by omega,yq,zy]at this
  exact this⟩⟩
theorem cP:eu 2:=⟨by decide,λa h=>⟨1,by omega⟩⟩
theorem iz:eu 3:=⟨by decide,λa h=>⟨a% 3,by
 have:a% 3=1∨a% 3=2:=by omega
 rcases this with h|h<;>rw[h]<;>omega⟩⟩
def okB (n g:Nat) (fs:List Nat):Bool:=decide (2<n)&&decide (n-1<2^256)&&decide (QQ fs=n-1)&&decide (pm 256 g (n-1) n=1)&&fs.all λq=>decide (1<q)&&decide (pm 256 g ((n-1)/q) n≠1)
theorem adO {n g:Nat} {fs:List Nat} (h:okB n g fs=true) (hf:∀q∈fs,eu q):Bi n g:=by
 simp only[okB,bw,decide_eq_true_eq,JI]at h
 obtain⟨⟨⟨⟨h1,h2⟩,h3⟩,h4⟩,h5⟩:=h
 refine anE h1 h3 hf ?_ λq ah=>?_
 ·rw[<-QO 256 g (n-1) n h2];exact h4
 ·have:=(h5 q ah).2
  rwa [QO 256 g ((n-1)/q) n (Nat.lt_of_le_of_lt (aA5 _ _) h2)]at this
theorem fq {n g:Nat} {fs:List Nat} (h:okB n g fs=true) (hf:∀q∈fs,eu q):eu n:=by
 have h1:2<n:=by
  simp only[okB,bw,decide_eq_true_eq]at h
  exact h.1.1.1.1
 exact(adO h hf).amM h1
theorem all_nil:∀q∈([]:List Nat),eu q:=λ_ h=>by cases h
theorem all_cons {x:Nat} {l:List Nat} (h:eu x) (bd:∀q∈l,eu q):∀q∈x::l,eu q:=λq ah=>by
 rcases List.mem_cons.1 ah with rfl|ah
 ·exact h
 ·exact bd q ah
theorem An:eu 5:=fq (g:=2) (fs:=[2,2]) (by decide+kernel) (all_cons cP (all_cons cP all_nil))
theorem Ao:eu 7:=fq (g:=3) (fs:=[2,3]) (by decide+kernel) (all_cons cP (all_cons iz all_nil))
theorem Pq:eu 11:=fq (g:=2) (fs:=[2,5]) (by decide+kernel) (all_cons cP (all_cons An all_nil))
theorem U3:eu 13:=fq (g:=2) (fs:=[2,2,3]) (by decide+kernel) (all_cons cP (all_cons cP (all_cons iz all_nil)))
theorem U4:eu 17:=fq (g:=3) (fs:=[2,2,2,2]) (by decide+kernel) (all_cons cP (all_cons cP (all_cons cP (all_cons cP all_nil))))
theorem U5:eu 19:=fq (g:=2) (fs:=[2,3,3]) (by decide+kernel) (all_cons cP (all_cons iz (all_cons iz all_nil)))
theorem adA:eu 23:=fq (g:=5) (fs:=[2,11]) (by decide+kernel) (all_cons cP (all_cons Pq all_nil))
theorem adB:eu 29:=fq (g:=2) (fs:=[2,2,7]) (by decide+kernel) (all_cons cP (all_cons cP (all_cons Ao all_nil)))
theorem am0:eu 31:=fq (g:=3) (fs:=[2,3,5]) (by decide+kernel) (all_cons cP (all_cons iz (all_cons An all_nil)))
theorem am4:eu 37:=fq (g:=2) (fs:=[2,2,3,3]) (by decide+kernel) (all_cons cP (all_cons cP (all_cons iz (all_cons iz all_nil))))
theorem adC:eu 41:=fq (g:=6) (fs:=[2,2,2,5]) (by decide+kernel) (all_cons cP (all_cons cP (all_cons cP (all_cons An all_nil))))
theorem adD:eu 43:=fq (g:=3) (fs:=[2,3,7]) (by decide+kernel) (all_cons cP (all_cons iz (all_cons Ao all_nil)))
theorem adE:eu 47:=fq (g:=5) (fs:=[2,23]) (by decide+kernel) (all_cons cP (all_cons adA all_nil))
theorem anc:eu 53:=fq (g:=2) (fs:=[2,2,13]) (by decide+kernel) (all_cons cP (all_cons cP (all_cons U3 all_nil)))
theorem ang:eu 59:=fq (g:=2) (fs:=[2,29]) (by decide+kernel) (all_cons cP (all_cons adB all_nil))
theorem anm:eu 83:=fq (g:=2) (fs:=[2,41]) (by decide+kernel) (all_cons cP (all_cons adC all_nil))
theorem anp:eu 97:=fq (g:=5) (fs:=[2,2,2,2,2,3]) (by decide+kernel) (all_cons cP (all_cons cP (all_cons cP (all_cons cP (all_cons cP (all_cons iz all_nil))))))
theorem amN:eu 103:=fq (g:=5) (fs:=[2,3,17]) (by decide+kernel) (all_cons cP (all_cons iz (all_cons U4 all_nil)))
theorem amO:eu 107:=fq (g:=2) (fs:=[2,53]) (by decide+kernel) (all_cons cP (all_cons anc all_nil))
theorem amP:eu 127:=fq (g:=3) (fs:=[2,3,3,7]) (by decide+kernel) (all_cons cP (all_cons iz (all_cons iz (all_cons Ao all_nil))))
theorem amQ:eu 131:=fq (g:=2) (fs:=[2,5,13]) (by decide+kernel) (all_cons cP (all_cons An (all_cons U3 all_nil)))
theorem amT:eu 173:=fq (g:=2) (fs:=[2,2,43]) (by decide+kernel) (all_cons cP (all_cons cP (all_cons adD all_nil)))
theorem amW:eu 223:=fq (g:=3) (fs:=[2,3,37]) (by decide+kernel) (all_cons cP (all_cons iz (all_cons am4 all_nil)))
theorem amX:eu 239:=fq (g:=7) (fs:=[2,7,17]) (by decide+kernel) (all_cons cP (all_cons Ao (all_cons U4 all_nil)))
theorem am3:eu 353:=fq (g:=3) (fs:=[2,2,2,2,2,11]) (by decide+kernel) (all_cons cP (all_cons cP (all_cons cP (all_cons cP (all_cons cP (all_cons Pq all_nil))))))
theorem am8:eu 419:=fq (g:=2) (fs:=[2,11,19]) (by decide+kernel) (all_cons cP (all_cons Pq (all_cons U5 all_nil)))
theorem ana:eu 479:=fq (g:=13) (fs:=[2,239]) (by decide+kernel) (all_cons cP (all_cons amX all_nil))
theorem anb:eu 487:=fq (g:=3) (fs:=[2,3,3,3,3,3]) (by decide+kernel) (all_cons cP (all_cons iz (all_cons iz (all_cons iz (all_cons iz (all_cons iz all_nil))))))
theorem anq:eu 991:=fq (g:=6) (fs:=[2,3,3,5,11]) (by decide+kernel) (all_cons cP (all_cons iz (all_cons iz (all_cons An (all_cons Pq all_nil)))))
theorem amS:eu 1723:=fq (g:=3) (fs:=[2,3,7,41]) (by decide+kernel) (all_cons cP (all_cons iz (all_cons Ao (all_cons adC all_nil))))
theorem amY:eu 2437:=fq (g:=2) (fs:=[2,2,3,7,29]) (by decide+kernel) (all_cons cP (all_cons cP (all_cons iz (all_cons Ao (all_cons adB all_nil)))))
theorem am5:eu 3727:=fq (g:=3) (fs:=[2,3,3,3,3,23]) (by decide+kernel) (all_cons cP (all_cons iz (all_cons iz (all_cons iz (all_cons iz (all_cons adA all_nil))))))
theorem am7:eu 4153:=fq (g:=5) (fs:=[2,2,2,3,173]) (by decide+kernel) (all_cons cP (all_cons cP (all_cons cP (all_cons iz (all_cons amT all_nil)))))
theorem ano:eu 9463:=fq (g:=3) (fs:=[2,3,19,83]) (by decide+kernel) (all_cons cP (all_cons iz (all_cons U5 (all_cons anm all_nil))))
theorem am2:eu 32573:=fq (g:=2) (fs:=[2,2,17,479]) (by decide+kernel) (all_cons cP (all_cons cP (all_cons U4 (all_cons ana all_nil))))
theorem am6:eu 37853:=fq (g:=2) (fs:=[2,2,9463]) (by decide+kernel) (all_cons cP (all_cons cP (all_cons ano all_nil)))
theorem anf:eu 57467:=fq (g:=2) (fs:=[2,59,487]) (by decide+kernel) (all_cons cP (all_cons ang (all_cons anb all_nil)))
theorem anh:eu 65147:=fq (g:=2) (fs:=[2,32573]) (by decide+kernel) (all_cons cP (all_cons am2 all_nil))
theorem anl:eu 75707:=fq (g:=2) (fs:=[2,37853]) (by decide+kernel) (all_cons cP (all_cons am6 all_nil))
theorem amR:eu 132049:=fq (g:=26) (fs:=[2,2,2,2,3,3,7,131]) (by decide+kernel) (all_cons cP (all_cons cP (all_cons cP (all_cons cP (all_cons iz (all_cons iz (all_cons Ao (all_cons amQ all_nil))))))))
theorem am9:eu 430751:=fq (g:=17) (fs:=[2,5,5,5,1723]) (by decide+kernel) (all_cons cP (all_cons An (all_cons An (all_cons An (all_cons amS all_nil)))))
theorem ane:eu 569003:=fq (g:=2) (fs:=[2,7,97,419]) (by decide+kernel) (all_cons cP (all_cons Ao (all_cons anp (all_cons am8 all_nil))))
theorem amV:eu 1923133:=fq (g:=2) (fs:=[2,2,3,43,3727]) (by decide+kernel) (all_cons cP (all_cons cP (all_cons iz (all_cons adD (all_cons am5 all_nil)))))
theorem ann:eu 8574133:=fq (g:=2) (fs:=[2,2,3,7,103,991]) (by decide+kernel) (all_cons cP (all_cons cP (all_cons iz (all_cons Ao (all_cons amN (all_cons anq all_nil))))))
theorem amZ:eu 2773320623:=fq (g:=5) (fs:=[2,2437,569003]) (by decide+kernel) (all_cons cP (all_cons amY (all_cons ane all_nil)))
theorem ani:eu 72106336199:=fq (g:=7) (fs:=[2,13,2773320623]) (by decide+kernel) (all_cons cP (all_cons U3 (all_cons amZ all_nil)))
theorem amU:eu 1919519569386763:=fq (g:=2) (fs:=[2,3,7,19,47,47,127,8574133]) (by decide+kernel) (all_cons cP (all_cons iz (all_cons Ao (all_cons U5 (all_cons adE (all_cons adE (all_cons amP (all_cons ann all_nil))))))))
theorem am1:eu 31757755568855353:=fq (g:=10) (fs:=[2,2,2,3,31,107,223,4153,430751]) (by decide+kernel) (all_cons cP (all_cons cP (all_cons cP (all_cons iz (all_cons am0 (all_cons amO (all_cons amW (all_cons am7 (all_cons am9 all_nil)))))))))
theorem ank:eu 75445702479781427272750846543864801:=fq (g:=7) (fs:=[2,2,2,2,2,3,3,5,5,75707,72106336199,1919519569386763]) (by decide+kernel) (all_cons cP (all_cons cP (all_cons cP (all_cons cP (all_cons cP (all_cons iz (all_cons iz (all_cons An (all_cons An (all_cons anl (all_cons ani (all_cons amU all_nil))))))))))))
theorem anj:eu 74058212732561358302231226437062788676166966415465897661863160754340907:=fq (g:=2) (fs:=[2,3,353,57467,132049,1923133,31757755568855353,75445702479781427272750846543864801]) (by decide+kernel) (all_cons cP (all_cons iz (all_cons am3 (all_cons anf (all_cons amR (all_cons amV (all_cons am1 (all_cons ank all_nil))))))))
theorem anD:Bi 57896044618658097711785492504343953926634992332820282019728792003956564819949 2:=adO (fs:=[2,2,3,65147,74058212732561358302231226437062788676166966415465897661863160754340907]) (by decide+kernel) (all_cons cP (all_cons cP (all_cons iz (all_cons anh (all_cons anj all_nil)))))
theorem anC:Bi 57896044618658097711785492504343953926634992332820282019728792003956564819949 2:=anD
end Go.J5
namespace Go.fZ
open Go Go.ch
def Jm:List Int:=[4794697086780616226,8158064640168781261,13096744586834688815,16840607885511220156,4131703408338449720,6480981068601479193,10538285296894168987,12329834152419229976,15566598209576043074,1334009975649890238,2608012711638119052,6128411473006802146,8268148722764581231,9286055187155687089,11230858885718282805,13951009754708518548,16472876342353939154,17275323862435702243,1135362057144423861,2597628984639134821,3308224258029322869,5365058923640841347,6679025012923562964,8573033837759648693,10970295158949994411,12119686244451234320,12683024718118986047,13788192230050041572,14330467153632333762,15395433587784984357,489312712824947311,1452737877330783856,2861767655752347644,3322285676063803686,5560940570517711597,5996557281743188959,7280758554555802590,8532644243296465576,9350256976987008742,10552545826968843579,11727347734174303076,12113106623233404929,14000437183269869457,14369950271660146224,15101387698204529176,15463397548674623760,17586052441742319658,1182934255886127544,1847814050463011016,2177327727835720531,2830643537854262169,3796741975233480872,4115178125766777443,5681478168544905931,6601373596472566643,7507060721942968483,8399075790359081724,8693463985226723168,9568029438360202098,10144078919501101548,10430055236837252648,11840083180663258601,13761210420658862357,14299343276471374635,14566680578165727644,15097957966210449927,16922976911328602910,17689382322260857208,500013540394364858,748580250866718886,1242879168328830382,1977374033974150939,2944078676154940804,3659926193048069267,4368137639120453308,4836135668995329356,5532061633213252278,6448918945643986474,6902733635092675308,7801388544844847127]
def N6:List Int:=[7640891576956012808,13503953896175478587,4354685564936845355,11912009170470909681,5840696475078001361,11170449401992604703,2270897969802886507,6620516959819538809]
structure iJ where
 k:dO
 w:Nat
 s:Nat
 t:Nat
 a:List Nat
 b:List Nat
 c:List Nat
 d:List Nat
 n:Nat
def Bm:iJ:=⟨.u32,32,3,10,[2,13,22],[6,11,25],[7,18],[17,19],64⟩
def cL:iJ:=⟨.u64,64,7,6,[28,34,39],[14,18,41],[1,8],[19,61],80⟩
def Q2 (w n:Nat) (x:Int):Int:=x/2^n+(x% 2^n)*2^(w-n)
def Rd (p:iJ) (l:List Nat) (x:Int):Int:=l.foldl (λy n=>eL .xor p.k y (Q2 p.w n x)) 0
def HA (p:iJ) (x:Int):Int:=Rd p p.a x
def HB (p:iJ) (x:Int):Int:=Rd p p.b x
def MX (p:iJ) (x:Int):Int:=eL .xor p.k (Rd p p.c x) (x/2^p.s)
def MY (p:iJ) (x:Int):Int:=eL .xor p.k (Rd p p.d x) (x/2^p.t)
def md (p:iJ) (x:Int):Int:=x% 2^p.w
def OV (p:iJ) (e f g:Int):Int:=eL .xor p.k (eL .and p.k e f) (eL .and p.k (2^p.w-1-e) g)
def Xc (p:iJ) (a b c:Int):Int:=eL .xor p.k (eL .xor p.k (eL .and p.k a b) (eL .and p.k a c)) (eL .and p.k b c)
def MQ (p:iJ) (i:Nat):Int:=Jm.getD i 0/2^(64-p.w)
def IY (p:iJ) (m:List Int):Int:=md p (m.getD (m.length-16) 0+MX p (m.getD (m.length-15) 0)+m.getD (m.length-7) 0+MY p (m.getD (m.length-2) 0))
def Ak (p:iJ):Nat->List Int->List Int
 |0,m=>m
 |j+1,m=>Ak p j (m++[IY p m])
def sched (p:iJ) (m:List Int):List Int:=Ak p (p.n-16) m
def Cx (p:iJ) (i:Nat) (x:Int):List Int->List Int
 |[a,b,c,d,e,f,g,h]=>
  let t:=md p (h+HB p e+OV p e f g+MQ p i+x)
  let u:=md p (HA p a+Xc p a b c)
  [md p (t+u),a,b,c,md p (d+t),e,f,g]
 |l=>l
def Ev (p:iJ):Nat->List Int->List Int->List Int
 |_,[],v=>v
 |i,x::m,v=>Ev p (i+1) m (Cx p i x v)
def Jz (p:iJ) (h m:List Int):List Int:=uW (λa b=>md p (a+b)) h (Ev p 0 (sched p m) h)
def azq (p:iJ) (b:List Int) (j:Nat):Int:=(fY (p.w/8)).foldl (λy q=>y*256+b.getD (j*(p.w/8)+q) 0) 0
def M3 (p:iJ) (b:List Int):List Int:=(fY 16).map (azq p b)
def Ki (p:iJ) (b:List Int):Nat->List Int->List Int
 |0,h=>h
 |i+1,h=>Jz p (Ki p b i h) (M3 p ((b.drop (2*p.w*i)).take (2*p.w)))
def C7 (p:iJ):List Int:=N6.map (·/2^(64-p.w))
def xc (p:iJ) (x:Int) (q:Nat):Int:=x/2^(p.w-8-8*q)% 256
def Ee (p:iJ) (h:List Int):List Int:=h.flatMap λx=>(fY (p.w/8)).map (xc p x)
def u7 (p:iJ) (b:List Int):List Int:=Ee p (Ki p b (b.length/(2*p.w)) (C7 p))
def uE (w n:Nat):Nat:=(n+1+w/4+(2*w-1))/(2*w)*(2*w)
def Fh (n:Nat):List Int:=(fY 8).map λq=>((n/2^(56-8*q)% 256:Nat):Int)
def AL (p:iJ) (b:List Int):List Int:=b++[128]++e9 (uE p.w b.length-b.length-9) 0++Fh (8*b.length)
def sc (p:iJ) (b:List Int):List Int:=u7 p (AL p b)
def bJ (z:Int):List Int:=(ak z).map λr=>r.getD 0 0
def AK (n w:Int):Int:=if n<0∨1099511627776<n∨(w≠32/\w≠64)then 0 else uE w.toNat n.toNat
def digit (n:Int):UInt8:=([48,49,50,51,52,53,54,55,56,57,97,98,99,100,101,102]:List UInt8).getD n.toNat 0
def aeD (b:List Int):List UInt8:=b.flatMap λx=>[digit (x/16),digit (x% 16)]
def akd:Nat->List (List Int)->List (List Int)->Prop
 |440,[[n],[w]],rs=>rs=[[AK n w]]
 |441,[[n],[w]],rs=>rs=[[AK n w]]
 |442,[[z]],[[r]]=>bJ r=AL Bm (bJ z)
 |443,[[z]],[[r]]=>bJ r=AL cL (bJ z)
 |444,[[x]],rs=>rs=[[HA Bm x]]
 |445,[[x]],rs=>rs=[[HB Bm x]]
 |446,[[x]],rs=>rs=[[MX Bm x]]
 |447,[[x]],rs=>rs=[[MY Bm x]]
 |448,[[x]],rs=>rs=[[HA cL x]]
 |449,[[x]],rs=>rs=[[HB cL x]]
 |450,[[x]],rs=>rs=[[MX cL x]]
 |451,[[x]],rs=>rs=[[MY cL x]]
 |452,[[z]],rs=>rs=[sc Bm (bJ z)]
 |453,[[z]],rs=>rs=[sc cL (bJ z)]
 |454,[[z]],[[s]]=>bx s=aeD (bJ z)
 |455,[[z]],[[s]]=>bx s=aeD (bJ z)
 |456,[],rs=>rs=[[1]]
 |457,[_,_],[[r]]=>r=1
 |458,[_,_,_],[[r]]=>r=1
 |459,[_,_,_],[[r]]=>r=1
 |460,[[z]],[[r]]=>ak r=ak z
 |461,[[z]],[[r]]=>ak r=ak z
 |462,[[z]],[[r]]=>ak r=ak z
 |463,[[z]],[[r]]=>ak r=ak z
 |468,[[a],[b],[c],[d]],[[r]]=>ak r=ak a++(ak b++(ak c++ak d))
 |469,[[a],[b],[c]],[[r]]=>ak r=ak a++(ak b++ak c)
 |470,[[a],[b],[c],[d]],rs=>rs=[sc Bm (bJ a++(bJ b++(bJ c++bJ d)))]
 |471,[[a],[b],[c]],rs=>rs=[sc cL (bJ a++(bJ b++bJ c))]
 |466,[[i]],rs=>rs=[[MQ Bm i.toNat]]
 |467,[[i]],rs=>rs=[[MQ cL i.toNat]]
 |464,[[z]],[[r]]=>bJ r=u7 Bm (bJ z)
 |465,[[z]],[[r]]=>bJ r=u7 cL (bJ z)
 |_,_,_=>False
end Go.fZ
namespace Go.fZ
open Go Go.ch
def XB:List Int:=[6346243789798364141,1503914060200516822,0,1152921504606846976]
def YT:List Int:=[6346243789798364141,1503914060200516822]
def Xw:List Int:=[1,0,0,0,0]
def Xv:List Int:=[929955233495203,466365720129213,1662059464998953,2033849074728123,1442794654840575]
def gT:fa:=[(0,XB.map λz=>(.u64,z)),(1,N6.map λz=>(.u64,z)),(2,Jm.map λz=>(.u64,z)),(3,Xw.map λz=>(.u64,z)),(4,Xv.map λz=>(.u64,z)),(5,YT.map λz=>(.u64,z))]
end Go.fZ
namespace Go.Fd
open Go.ch
def gl:fa:=Go.fZ.gT
def cr:dt->Nat->Option gB:=λ_ _=>none
def c8:Nat->List Nat:=λ_=>[]
def gk:D:= .agg .u64 5 0 4503599627370495
def amd:D:= .agg .u64 5 0 9223372036854775807
def Ma:D:= .agg .u64 4 0 18446744073709551615
def hU:D:= .agg .u8 32 0 255
def pl:D:= .mix (e9 15 (.int .u64 0 4503599627370495))
def tV:D:= .mix (e9 20 (.int .u64 0 4503599627370495))
def qX:D:= .int .i64 0 1
def kc:bZ:=⟨88,46,[amd],[gk]⟩
def rX:bZ:=⟨84,29,[hU],[gk]⟩
def hX:bZ:=⟨73,31,[gk],[hU]⟩
def iC:bZ:=⟨59,34,[gk,gk],[gk]⟩
def iB:bZ:=⟨55,32,[gk,gk],[gk]⟩
def gG:bZ:=⟨58,33,[gk,gk],[gk]⟩
def m8:bZ:=⟨85,47,[gk],[gk]⟩
def pT:bZ:=⟨30,50,[gk],[gk]⟩
def rb:bZ:=⟨95,43,[gk,Ma],[gk]⟩
def W4:dt->Nat->Option gB:=λf r=>match f,r with
 |95,3=>some ⟨[2,3,4,5],[(6,-1,255)],[(3,0,0,4503599627370495),(3,1,0,4503599627370495),(3,2,0,4503599627370495),(3,3,0,4503599627370495),(3,4,0,4503599627370495)],[],[],[],[]⟩
 |_,_=>none
def af1:Nat->List Nat
 |9=>[1,5]
 |_=>[]
def rY:bZ:=⟨72,35,[gk],[gk]⟩
def re:bZ:=⟨87,48,[gk,gk],[.bool]⟩
def ra:bZ:=⟨74,49,[gk],[.bool]⟩
def tT:bZ:=⟨86,30,[gk],[gk,.bool]⟩
def oQ:bZ:=⟨96,14,[hU],[hU]⟩
def oo:bZ:=⟨83,22,[hU],[.bool]⟩
def uA:bZ:=⟨60,100,[],[gk]⟩
def pj:bZ:=⟨62,101,[gk,gk],[tV]⟩
def sJ:bZ:=⟨34,102,[],[tV]⟩
def uy:bZ:=⟨56,103,[],[tV]⟩
def rW:bZ:=⟨61,104,[gk,gk,gk,gk],[tV]⟩
def sK:bZ:=⟨33,105,[tV,tV],[tV]⟩
def uz:bZ:=⟨57,106,[pl],[tV]⟩
def pk:bZ:=⟨32,107,[tV,hU],[tV]⟩
def W2:dt->Nat->Option gB:=λf r=>match f,r with
 |32,3=>some ⟨[2,3,4,5],[(6,-1,255)],[(3,0,0,4503599627370495),(3,1,0,4503599627370495),(3,2,0,4503599627370495),(3,3,0,4503599627370495),(3,4,0,4503599627370495),(3,5,0,4503599627370495),(3,6,0,4503599627370495),(3,7,0,4503599627370495),(3,8,0,4503599627370495),(3,9,0,4503599627370495),(3,10,0,4503599627370495),(3,11,0,4503599627370495),(3,12,0,4503599627370495),(3,13,0,4503599627370495),(3,14,0,4503599627370495),(3,15,0,4503599627370495),(3,16,0,4503599627370495),(3,17,0,4503599627370495),(3,18,0,4503599627370495),(3,19,0,4503599627370495)],[],[],[],[]⟩
 |_,_=>none
def af0:Nat->List Nat
 |72=>[1,5,5,5,5]
 |_=>[]
def qv:bZ:=⟨37,108,[pl],[hU]⟩
def tj:bZ:=⟨54,109,[hU],[tV,.bool]⟩
def y5:bZ:=⟨15,112,[hU],[hU,qX]⟩
def y3:bZ:=⟨18,114,[hU],[hU]⟩
def y4:bZ:=⟨16,115,[hU,hU,hU],[hU,qX]⟩
def sh:Nat->List Nat×List Nat
 |37=>([32],[4])
 |27=>([4],[32])
 |28=>([],[4])
 |42=>([4,4],[1])
 |55=>([4,4],[4,1])
 |56=>([4,4],[4,1])
 |39=>([4],[4])
 |40=>([4,4],[4])
 |41=>([4,4],[4])
 |54=>([4,4],[4])
 |36=>([4,4],[4])
 |44=>([4,4],[4])
 |45=>([4],[4])
 |38=>([4],[4,1])
 |46=>([5],[5])
 |29=>([32],[5])
 |31=>([5],[32])
 |34=>([5,5],[5])
 |32=>([5,5],[5])
 |33=>([5,5],[5])
 |47=>([5],[5])
 |50=>([5],[5])
 |43=>([5,4],[5])
 |35=>([5],[5])
 |48=>([5,5],[1])
 |49=>([5],[1])
 |30=>([5],[5,1])
 |14=>([32],[32])
 |22=>([32],[1])
 |100=>([],[5])
 |101=>([5,5],[5,5,5,5])
 |102=>([],[5,5,5,5])
 |103=>([],[5,5,5,5])
 |104=>([5,5,5,5],[5,5,5,5])
 |105=>([5,5,5,5,5,5,5,5],[5,5,5,5])
 |106=>([5,5,5],[5,5,5,5])
 |107=>([5,5,5,5,32],[5,5,5,5])
 |108=>([5,5,5],[32])
 |109=>([32],[5,5,5,5,1])
 |110=>([32],[1])
 |111=>([32,32],[32,1])
 |112=>([32],[32,1])
 |113=>([32,32],[32,1])
 |114=>([32],[32])
 |115=>([32,32,32],[32,1])
 |120=>([],[4])
 |121=>([],[4,4,4])
 |122=>([4,4,4,4,4,4],[4,4,4])
 |123=>([32,4,4,4],[4,4,4])
 |124=>([4,4,4],[32])
 |125=>([32],[4,4,4,1])
 |126=>([],[4,4,4])
 |127=>([32],[1])
 |128=>([32,32],[32,1])
 |129=>([32],[32,1])
 |130=>([32,32],[32,1])
 |131=>([32],[32])
 |132=>([32,32,32],[32,1])
 |133=>([],[4])
 |140=>([],[1])
 |141=>([32],[1])
 |142=>([32,32,32],[1])
 |143=>([32,32],[1])
 |144=>([32,32],[1])
 |145=>([32,32,32],[1])
 |146=>([32,32],[1])
 |150=>([32,32,32],[32])
 |147=>([32,32],[1])
 |_=>([],[])
abbrev bf:List Int->Int:=num 18446744073709551616
abbrev nb:List Int->Int:=num 256
abbrev v5:List Int->Int:=num 2251799813685248
def cO (a:Int) (e:Nat):Int:=a^e% 57896044618658097711785492504343953926634992332820282019728792003956564819949
def xg:Nat:=57896044618658097711785492504343953926634992332820282019728792003956564819947
def qk:Nat:=7237005577332262213973186563042994240829374041602535252466099000494570602494
def AX:Int:=19681161376707505956807079304988542015446066515923890162744021073123829784752
def xT:Int:=19681161376707505956807079304988542015446066515923890162744021073123829784752
def ahZ (a:Int):Int×Int:=
 let eS:=cO a qk
 let c:=if eS*eS% 57896044618658097711785492504343953926634992332820282019728792003956564819949=a then eS else eS*AX% 57896044618658097711785492504343953926634992332820282019728792003956564819949
 if c*c% 57896044618658097711785492504343953926634992332820282019728792003956564819949=a then(if c% 2=1 then(0-c)% 57896044618658097711785492504343953926634992332820282019728792003956564819949 else c,1)else(0,0)
def n3 (a:Int):Int×Int:=
 let eS:=cO a qk
 if eS*eS% 57896044618658097711785492504343953926634992332820282019728792003956564819949=a then(if eS% 2=1 then(0-eS)% 57896044618658097711785492504343953926634992332820282019728792003956564819949 else eS,1)else
 let c:=eS*xT% 57896044618658097711785492504343953926634992332820282019728792003956564819949
 if c*c% 57896044618658097711785492504343953926634992332820282019728792003956564819949=a then(if c% 2=1 then(0-c)% 57896044618658097711785492504343953926634992332820282019728792003956564819949 else c,1)else(0,0)
def di:Int:=37095705934669439343138083508754565189542113879843219016388785533085940283555
def m7 (a:Int):Int:=cO a xg
def on (A:Int×Int):Prop:=(0<=A.1/\A.1<57896044618658097711785492504343953926634992332820282019728792003956564819949)/\(0<=A.2/\A.2<57896044618658097711785492504343953926634992332820282019728792003956564819949)/\(A.2*A.2-A.1*A.1)% 57896044618658097711785492504343953926634992332820282019728792003956564819949=(1+di*(A.1*A.1*(A.2*A.2)))% 57896044618658097711785492504343953926634992332820282019728792003956564819949
def fc (A B:Int×Int):Int×Int:=
 ((A.1*B.2+A.2*B.1)*m7 (1+di*(A.1*B.1*(A.2*B.2)))% 57896044618658097711785492504343953926634992332820282019728792003956564819949,(A.2*B.2+A.1*B.1)*m7 (1-di*(A.1*B.1*(A.2*B.2)))% 57896044618658097711785492504343953926634992332820282019728792003956564819949)
def o0:Int×Int:=(0,1)
def rZ (A:Int×Int):Int×Int:=((0-A.1)% 57896044618658097711785492504343953926634992332820282019728792003956564819949,A.2)
def eO:Nat->Int×Int->Int×Int
 |0,_=>o0
 |n+1,A=>fc (eO n A) A
def kG:Int×Int:=(15112221349535400772501151409588531511454012693041857206046113283949847762202,46316835694926478169428394003475163141307993866256225615783033603165251855960)
def e0:Int:=57896044618658097711785492504343953926634992332820282019728792003956564819968
def enc (A:Int×Int):Int:=A.2+e0*(A.1% 2)
def dec (b:Int):Option (Int×Int):=
 let y:=b% e0
 let asA:=b/e0
 if y<57896044618658097711785492504343953926634992332820282019728792003956564819949 then
  let q:=n3 ((y*y-1)*m7 (di*(y*y)+1)% 57896044618658097711785492504343953926634992332820282019728792003956564819949)
  if q.2=0 then none else
  if asA=1 then(if q.1=0 then none else some ((0-q.1)% 57896044618658097711785492504343953926634992332820282019728792003956564819949,y))else some (q.1,y)
 else none
def nK (x y z t:Int) (A:Int×Int):Prop:=z% 57896044618658097711785492504343953926634992332820282019728792003956564819949≠0/\x% 57896044618658097711785492504343953926634992332820282019728792003956564819949=A.1*z% 57896044618658097711785492504343953926634992332820282019728792003956564819949/\y% 57896044618658097711785492504343953926634992332820282019728792003956564819949=A.2*z% 57896044618658097711785492504343953926634992332820282019728792003956564819949/\t% 57896044618658097711785492504343953926634992332820282019728792003956564819949=A.1*A.2*z% 57896044618658097711785492504343953926634992332820282019728792003956564819949
def sy (x y z:Int) (A:Int×Int):Prop:=z% 57896044618658097711785492504343953926634992332820282019728792003956564819949≠0/\x% 57896044618658097711785492504343953926634992332820282019728792003956564819949=A.1*z% 57896044618658097711785492504343953926634992332820282019728792003956564819949/\y% 57896044618658097711785492504343953926634992332820282019728792003956564819949=A.2*z% 57896044618658097711785492504343953926634992332820282019728792003956564819949
def DF (x y z:Int):Int:=y*m7 z% 57896044618658097711785492504343953926634992332820282019728792003956564819949+e0*(x*m7 z% 57896044618658097711785492504343953926634992332820282019728792003956564819949% 2)
def bit (b:Prop) [Decidable b]:Int:=if b then 1 else 0
abbrev dB:=List (List Int)->List (List Int)->Prop
def tY:dB|[a],[r]=>bf r=nb a|_,_=>True
def tX:dB|[a],[r]=>nb r=bf a|_,_=>True
def awB:dB|[],[r]=>bf r=57896044618658097711785492504343953926634992332820282019728792003956564819949|_,_=>True
def wa:dB|[a,b],[[z]]=>z=bit (bf a<bf b)|_,_=>True
def sa:dB|[a,b],[r,[c]]=>bf r=bf a-bf b+115792089237316195423570985008687907853269984665640564039457584007913129639936*c|_,_=>True
def sb:dB|[a,b],[r,[c]]=>bf r=bf a+bf b-115792089237316195423570985008687907853269984665640564039457584007913129639936*c|_,_=>True
def awq:dB|[a],[r]=>bf r=bf a% 57896044618658097711785492504343953926634992332820282019728792003956564819949|_,_=>True
def wc:dB|[a,b],[r]=>bf r=(bf a+bf b)% 115792089237316195423570985008687907853269984665640564039457584007913129639936% 57896044618658097711785492504343953926634992332820282019728792003956564819949|_,_=>True
def awr:dB|[a,b],[r]=>bf r=(bf a-bf b+(if bf a<bf b then 57896044618658097711785492504343953926634992332820282019728792003956564819949 else 0))% 115792089237316195423570985008687907853269984665640564039457584007913129639936|_,_=>True
def awv:dB|[a,b],[r]=>bf r=(bf a+115792089237316195423570985008687907853269984665640564039457584007913129639936*bf b)% 57896044618658097711785492504343953926634992332820282019728792003956564819949|_,_=>True
def awC:dB|[a,b],[r]=>bf r=bf a*bf b% 57896044618658097711785492504343953926634992332820282019728792003956564819949|_,_=>True
def awT:dB|[a,n],[r]=>bf r=cO (bf a) (bf n).toNat|_,_=>True
def awx:dB|[a],[r]=>bf r=cO (bf a) xg|_,_=>True
def ua:dB|[a],[[z]]=>z=bit (nb a<57896044618658097711785492504343953926634992332820282019728792003956564819949)|_,_=>True
def tZ:dB|[a],[r]=>nb r=nb a% 57896044618658097711785492504343953926634992332820282019728792003956564819949|_,_=>True
def ahD:dB|[a,b],[r]=>nb r=(nb a+nb b)% 57896044618658097711785492504343953926634992332820282019728792003956564819949|_,_=>True
def ahL:dB|[a,b],[r]=>nb r=(nb a-nb b)% 57896044618658097711785492504343953926634992332820282019728792003956564819949|_,_=>True
def ahJ:dB|[a,b],[r]=>nb r=nb a*nb b% 57896044618658097711785492504343953926634992332820282019728792003956564819949|_,_=>True
def ahI:dB|[a],[r]=>nb r=cO (nb a) xg|_,_=>True
def ahK:dB|[a,n],[r]=>nb r=cO (nb a) (nb n).toNat|_,_=>True
def awR:dB|[a],[r,[z]]=>(bf r,z)=ahZ (bf a)|_,_=>True
def awN:dB|[a],[r,[z]]=>(nb r,z)=ahZ (nb a% 57896044618658097711785492504343953926634992332820282019728792003956564819949)|_,_=>True
def awp:dB|[a],[r]=>v5 r% 57896044618658097711785492504343953926634992332820282019728792003956564819949=v5 a% 57896044618658097711785492504343953926634992332820282019728792003956564819949/\v5 r<57896044618658097711785492504343953926634992332820282019728792003956564819949+38|_,_=>True
def aww:dB|[a],[r]=>v5 r% 57896044618658097711785492504343953926634992332820282019728792003956564819949=nb a% 57896044618658097711785492504343953926634992332820282019728792003956564819949|_,_=>True
def aws:dB|[a],[r]=>nb r=v5 a% 57896044618658097711785492504343953926634992332820282019728792003956564819949|_,_=>True
def awu:dB|[a,b],[r]=>v5 r% 57896044618658097711785492504343953926634992332820282019728792003956564819949=(v5 a+v5 b)% 57896044618658097711785492504343953926634992332820282019728792003956564819949|_,_=>True
def awt:dB|[a,b],[r]=>v5 r% 57896044618658097711785492504343953926634992332820282019728792003956564819949=(v5 a-v5 b)% 57896044618658097711785492504343953926634992332820282019728792003956564819949|_,_=>True
def awU:dB|[a,b],[r]=>v5 r% 57896044618658097711785492504343953926634992332820282019728792003956564819949=v5 a*v5 b% 57896044618658097711785492504343953926634992332820282019728792003956564819949|_,_=>True
def awS:dB|[a],[r]=>v5 r% 57896044618658097711785492504343953926634992332820282019728792003956564819949=v5 a*v5 a% 57896044618658097711785492504343953926634992332820282019728792003956564819949|_,_=>True
def awz:dB|[a],[r]=>v5 r% 57896044618658097711785492504343953926634992332820282019728792003956564819949=(0-v5 a)% 57896044618658097711785492504343953926634992332820282019728792003956564819949|_,_=>True
def awD:dB|[a,n],[r]=>v5 r% 57896044618658097711785492504343953926634992332820282019728792003956564819949=cO (v5 a) (bf n).toNat|_,_=>True
def awy:dB|[a],[r]=>v5 r% 57896044618658097711785492504343953926634992332820282019728792003956564819949=cO (v5 a) xg|_,_=>True
def awP:dB|[a,b],[[z]]=>z=bit (v5 a% 57896044618658097711785492504343953926634992332820282019728792003956564819949=v5 b% 57896044618658097711785492504343953926634992332820282019728792003956564819949)|_,_=>True
def awA:dB|[a],[[z]]=>z=v5 a% 57896044618658097711785492504343953926634992332820282019728792003956564819949% 2|_,_=>True
def awL:dB|[a],[r,[z]]=>(v5 r% 57896044618658097711785492504343953926634992332820282019728792003956564819949,z)=n3 (v5 a% 57896044618658097711785492504343953926634992332820282019728792003956564819949)|_,_=>True
def awK:dB|[a],[r,[z]]=>(nb r,z)=n3 (nb a% 57896044618658097711785492504343953926634992332820282019728792003956564819949)|_,_=>True
def we:dB|_,[[z]]=>z=1|_,_=>True
def ahM:dB|[],[r]=>v5 r% 57896044618658097711785492504343953926634992332820282019728792003956564819949=2*di% 57896044618658097711785492504343953926634992332820282019728792003956564819949|_,_=>True
def MV:dB|[x,y],[a,b,c,d]=>v5 a% 57896044618658097711785492504343953926634992332820282019728792003956564819949=v5 x% 57896044618658097711785492504343953926634992332820282019728792003956564819949/\v5 b% 57896044618658097711785492504343953926634992332820282019728792003956564819949=v5 y% 57896044618658097711785492504343953926634992332820282019728792003956564819949/\v5 c% 57896044618658097711785492504343953926634992332820282019728792003956564819949=1/\v5 d% 57896044618658097711785492504343953926634992332820282019728792003956564819949=v5 x*v5 y% 57896044618658097711785492504343953926634992332820282019728792003956564819949|_,_=>True
def MU:dB|[],[x,y,z,t]=>v5 x% 57896044618658097711785492504343953926634992332820282019728792003956564819949=kG.1/\v5 y% 57896044618658097711785492504343953926634992332820282019728792003956564819949=kG.2/\v5 z% 57896044618658097711785492504343953926634992332820282019728792003956564819949=1/\v5 t% 57896044618658097711785492504343953926634992332820282019728792003956564819949=kG.1*kG.2% 57896044618658097711785492504343953926634992332820282019728792003956564819949|_,_=>True
def Ys:dB|[],[x,y,z,t]=>v5 x% 57896044618658097711785492504343953926634992332820282019728792003956564819949=0/\v5 y% 57896044618658097711785492504343953926634992332820282019728792003956564819949=1/\v5 z% 57896044618658097711785492504343953926634992332820282019728792003956564819949=1/\v5 t% 57896044618658097711785492504343953926634992332820282019728792003956564819949=0|_,_=>True
def Yr:dB|[e,f,g,h],[x,y,z,t]=>v5 x% 57896044618658097711785492504343953926634992332820282019728792003956564819949=v5 e*v5 f% 57896044618658097711785492504343953926634992332820282019728792003956564819949/\v5 y% 57896044618658097711785492504343953926634992332820282019728792003956564819949=v5 g*v5 h% 57896044618658097711785492504343953926634992332820282019728792003956564819949/\v5 z% 57896044618658097711785492504343953926634992332820282019728792003956564819949=v5 f*v5 g% 57896044618658097711785492504343953926634992332820282019728792003956564819949/\v5 t% 57896044618658097711785492504343953926634992332820282019728792003956564819949=v5 e*v5 h% 57896044618658097711785492504343953926634992332820282019728792003956564819949|_,_=>True
def Q9:dB|[ag,an,aB,t1,ad,aj,z2,t2],[x,y,z,t]=>∀A B,on A->on B->nK (v5 ag) (v5 an) (v5 aB) (v5 t1) A->nK (v5 ad) (v5 aj) (v5 z2) (v5 t2) B->nK (v5 x) (v5 y) (v5 z) (v5 t) (fc A B)|_,_=>True
def ahH:dB|[ag,an,aB],[x,y,z,t]=>∀A,on A->sy (v5 ag) (v5 an) (v5 aB) A->nK (v5 x) (v5 y) (v5 z) (v5 t) (fc A A)|_,_=>True
def Jr:dB|[ag,an,aB,t1,k],[x,y,z,t]=>∀A,on A->nK (v5 ag) (v5 an) (v5 aB) (v5 t1) A->nK (v5 x) (v5 y) (v5 z) (v5 t) (eO (nb k).toNat A)|_,_=>True
def Jq:dB|[x,y,z],[r]=>nb r=DF (v5 x) (v5 y) (v5 z)|_,_=>True
def MW:dB|[b],[x,y,z,t,[k]]=>(match dec (nb b)with|none=>k=0|some A=>k=1/\v5 x% 57896044618658097711785492504343953926634992332820282019728792003956564819949=A.1/\v5 y% 57896044618658097711785492504343953926634992332820282019728792003956564819949=A.2/\v5 z% 57896044618658097711785492504343953926634992332820282019728792003956564819949=1/\v5 t% 57896044618658097711785492504343953926634992332820282019728792003956564819949=A.1*A.2% 57896044618658097711785492504343953926634992332820282019728792003956564819949)|_,_=>True
def ahF:dB|[b],[[k]]=>k=bit ((dec (nb b)).isSome=true)|_,_=>True
def tA (r:List Int) (e:Int):Option (Int×Int)->Prop
 |none=>e=1/\nb r=0
 |some A=>e=0/\nb r=enc A
def ahE:dB|[a,b],[r,[e]]=>tA r e ((dec (nb a)).bind λA=>(dec (nb b)).map λB=>fc A B)|_,_=>True
def Yq:dB|[a],[r,[e]]=>tA r e ((dec (nb a)).map rZ)|_,_=>True
def ahG:dB|[k,a],[r,[e]]=>tA r e ((dec (nb a)).map (eO (nb k).toNat))|_,_=>True
def Yo:dB|[k],[r]=>nb r=enc (eO (nb k).toNat kG)|_,_=>True
def Yp:dB|[k,a,l],[r,[e]]=>tA r e ((dec (nb a)).map λA=>fc (eO (nb k).toNat A) (eO (nb l).toNat kG))|_,_=>True
def awG:dB|[],[r]=>bf r=di|_,_=>True
def awO:dB|[],[x,y,z]=>bf x=0/\bf y=1/\bf z=1|_,_=>True
def awH:dB|[],[x,y,z]=>bf x=kG.1/\bf y=kG.2/\bf z=1|_,_=>True
def awF:dB|[ag,an,aB,ad,aj,z2],[x,y,z]=>∀A B,on A->on B->sy (bf ag) (bf an) (bf aB) A->sy (bf ad) (bf aj) (bf z2) B->sy (bf x) (bf y) (bf z) (fc A B)|_,_=>True
def awJ:dB|[k,ag,an,aB],[x,y,z]=>∀A,on A->sy (bf ag) (bf an) (bf aB) A->sy (bf x) (bf y) (bf z) (eO (nb k).toNat A)|_,_=>True
def awE:dB|[x,y,z],[r]=>nb r=DF (bf x) (bf y) (bf z)|_,_=>True
def awM:dB|[b],[x,y,z,[k]]=>(match dec (nb b)with|none=>k=0|some A=>k=1/\bf x=A.1/\bf y=A.2/\bf z=1)|_,_=>True
def kO:Nat:=7237005577332262213973186563042994240857116359379907606001950938285454250989
def awQ:dB|[a,b,c],[r]=>nb r=(nb a*nb b+nb c)% (kO:Int)|_,_=>True
def awI:dB|[],[r]=>bf r=(kO:Int)|_,_=>True
def SB:Nat->dB
 |37=>tY
 |27=>tX
 |28=>awB
 |42=>wa
 |55=>sa
 |56=>sb
 |39=>awq
 |40=>wc
 |41=>awr
 |54=>awv
 |36=>awC
 |44=>awT
 |45=>awx
 |23=>ua
 |21=>tZ
 |19=>ahD
 |20=>ahL
 |17=>ahJ
 |26=>ahI
 |25=>ahK
 |38=>awR
 |18=>awN
 |46=>awp
 |29=>aww
 |31=>aws
 |34=>awu
 |32=>awt
 |33=>awU
 |47=>awS
 |50=>awz
 |43=>awD
 |35=>awy
 |48=>awP
 |49=>awA
 |30=>awL
 |14=>tZ
 |22=>ua
 |15=>ahD
 |12=>ahL
 |13=>ahJ
 |16=>ahI
 |11=>awK
 |24=>ahK
 |100=>ahM
 |101=>MV
 |102=>MU
 |103=>Ys
 |104=>Yr
 |105=>Q9
 |106=>ahH
 |107=>Jr
 |108=>Jq
 |109=>MW
 |110=>ahF
 |111=>ahE
 |112=>Yq
 |113=>ahG
 |114=>Yo
 |115=>Yp
 |120=>awG
 |121=>awO
 |122=>awF
 |123=>awJ
 |124=>awE
 |125=>awM
 |126=>awH
 |127=>ahF
 |128=>ahE
 |129=>Yq
 |130=>ahG
 |131=>Yo
 |132=>Yp
 |133=>awI
 |150=>awQ
 |_=>we
def jI (G:Nat->List Int->List Int):Nat->dB:=λid a r=>SB id a r/\r.flatten=G id a.flatten
def ji (ds:List D) (id:Nat):dB:=λa r=>af (bk ds) r.flatten/\SB id a r
theorem Ay {lo hi:Int} {r:List Int} (h:af (au lo hi 5) r):∃eU ag ad ao cZ,r=[eU,ag,ad,ao,cZ]/\lo<=eU/\eU<=hi/\lo<=ag/\ag<=hi/\lo<=ad/\ad<=hi/\lo<=ao/\ao<=hi/\lo<=cZ/\cZ<=hi:=by
 match r,h with
 |[eU,ag,ad,ao,cZ],h=>
  simp only[au,af,and_true]at h
  exact⟨eU,ag,ad,ao,cZ,rfl,h⟩
theorem LV {lo hi:Int} {r:List Int} (h:af (au lo hi 32) r):∃eU ag ad ao cZ iV jG n7 n8 n9 oA gX jF n6 wu wv xW xX xY xZ x0 x1 x2 x3 x4 x5 x6 x7 x8 x9 ya yb,r=[eU,ag,ad,ao,cZ,iV,jG,n7,n8,n9,oA,gX,jF,n6,wu,wv,xW,xX,xY,xZ,x0,x1,x2,x3,x4,x5,x6,x7,x8,x9,ya,yb]/\lo<=eU/\eU<=hi/\lo<=ag/\ag<=hi/\lo<=ad/\ad<=hi/\lo<=ao/\ao<=hi/\lo<=cZ/\cZ<=hi/\lo<=iV/\iV<=hi/\lo<=jG/\jG<=hi/\lo<=n7/\n7<=hi/\lo<=n8/\n8<=hi/\lo<=n9/\n9<=hi/\lo<=oA/\oA<=hi/\lo<=gX/\gX<=hi/\lo<=jF/\jF<=hi/\lo<=n6/\n6<=hi/\lo<=wu/\wu<=hi/\lo<=wv/\wv<=hi/\lo<=xW/\xW<=hi/\lo<=xX/\xX<=hi/\lo<=xY/\xY<=hi/\lo<=xZ/\xZ<=hi/\lo<=x0/\x0<=hi/\lo<=x1/\x1<=hi/\lo<=x2/\x2<=hi/\lo<=x3/\x3<=hi/\lo<=x4/\x4<=hi/\lo<=x5/\x5<=hi/\lo<=x6/\x6<=hi/\lo<=x7/\x7<=hi/\lo<=x8/\x8<=hi/\lo<=x9/\x9<=hi/\lo<=ya/\ya<=hi/\lo<=yb/\yb<=hi:=by
 match r,h with
 |[eU,ag,ad,ao,cZ,iV,jG,n7,n8,n9,oA,gX,jF,n6,wu,wv,xW,xX,xY,xZ,x0,x1,x2,x3,x4,x5,x6,x7,x8,x9,ya,yb],h=>
  simp only[au,af,and_true]at h
  exact⟨eU,ag,ad,ao,cZ,iV,jG,n7,n8,n9,oA,gX,jF,n6,wu,wv,xW,xX,xY,xZ,x0,x1,x2,x3,x4,x5,x6,x7,x8,x9,ya,yb,rfl,h⟩
theorem W0 {n:Nat} {l:List Int} {lo hi:Int} (h:af (au lo hi n) l):l.length=n:=by rw[e7 h,GP]
theorem agC {l:List Int} (h:af (au 0 18446744073709551615 4) l):0<=bf l/\bf l<115792089237316195423570985008687907853269984665640564039457584007913129639936:=⟨num_nonneg (by decide) (cW _) h,Qz (b:=18446744073709551616) (by decide) h⟩
theorem Xl {l:List Int} (h:af (au 0 255 32) l):0<=nb l/\nb l<115792089237316195423570985008687907853269984665640564039457584007913129639936:=⟨num_nonneg (by decide) (cW _) h,Qz (b:=256) (by decide) h⟩
theorem xA {l l':List Int} (h:af (au 0 255 32) l) (bd:af (au 0 255 32) l') (e:nb l=nb l'):l=l':=Qy (b:=256) (by decide) h bd e
theorem va {l:List Int} {b:List (Int×Int)} (h:af b l):af (b++[]) (l++[]):=by simpa using h
theorem CA (a b c d e:Int):v5 [a,b,c,d,e]=a+2251799813685248*b+5070602400912917605986812821504*c+11417981541647679048466287755595961091061972992*d+25711008708143844408671393477458601640355247900524685364822016*e:=by simp only[num];omega
theorem asp (l:List Int):nb l% 2=l.getD 0 0% 2:=by
 cases l with
 |nil=>rfl
 |cons x r=>simp only[num,jH];omega
theorem ab4 {a b:Prop} [Decidable a] [Decidable b] (h:a↔b):bit a=bit b:=by
 unfold bit;by_cases ha:a
 ·rw[if_pos ha,if_pos (h.1 ha)]
 ·rw[if_neg ha,if_neg (λhb=>ha (h.2 hb))]
theorem T5 {b:Prop} [Decidable b]:0<=bit b/\bit b<=1:=by unfold bit;split<;>decide
theorem Bq {b:Prop} [Decidable b] (h:bit b=1):b:=by
 unfold bit at h;split at h
 ·assumption
 ·omega
theorem Hy {b:Prop} [Decidable b] (h:¬bit b=1):¬b:=λhb=>h (if_pos hb)
theorem dup {x d q e3:Int} (h1:0<=x-d*q) (h2:x-d*q<d) (h3:0<=x-d*e3) (h4:x-d*e3<d):q=e3:=Mz h1 h2 h3 h4
theorem My {x d q:Int} (hd:0<d) (h1:0<=x-d*q) (h2:x-d*q<d):x/d=q:=by
 have e:=Zj x d
 have aw:=ud x (show d≠0 by omega)
 have aD:=zw x hd
 exact Mz (x:=x) (d:=d) (by omega) (by omega) h1 h2
theorem adr {r0 r1 r2 gI n2:Int} (h0:0<=r0/\r0<2251799813685248) (h1:0<=r1/\r1<2251799813685248) (h2:0<=r2/\r2<2251799813685248) (h3:0<=gI/\gI<2251799813685248) (h4:0<=n2/\n2<2251799813685248):
 0<=r0+2251799813685248*r1+5070602400912917605986812821504*r2+11417981541647679048466287755595961091061972992*gI+25711008708143844408671393477458601640355247900524685364822016*n2/\r0+2251799813685248*r1+5070602400912917605986812821504*r2+11417981541647679048466287755595961091061972992*gI+25711008708143844408671393477458601640355247900524685364822016*n2<57896044618658097711785492504343953926634992332820282019728792003956564819968:=by omega
theorem canon {A c e:Int} (h0:0<=A) (h1:A<57896044618658097711785492504343953926634992332820282019728792003956564819949+38) (eS:0<=A+19-57896044618658097711785492504343953926634992332820282019728792003956564819968*c) (c1:A+19-57896044618658097711785492504343953926634992332820282019728792003956564819968*c<57896044618658097711785492504343953926634992332820282019728792003956564819968)
 (fF:0<=A+19*c-57896044618658097711785492504343953926634992332820282019728792003956564819968*e) (aw:A+19*c-57896044618658097711785492504343953926634992332820282019728792003956564819968*e<57896044618658097711785492504343953926634992332820282019728792003956564819968):A+19*c-57896044618658097711785492504343953926634992332820282019728792003956564819968*e=A% 57896044618658097711785492504343953926634992332820282019728792003956564819949:=by
 have hc:c=0∨c=1:=by omega
 rcases hc with rfl|rfl
 ·have he:e=0:=by omega
  subst he
  rw[p9 h0 (by omega)];omega
 ·have he:e=1:=by omega
  subst he
  have h2:0<=A-57896044618658097711785492504343953926634992332820282019728792003956564819949:=by omega
  have h3:A-57896044618658097711785492504343953926634992332820282019728792003956564819949<57896044618658097711785492504343953926634992332820282019728792003956564819949:=by omega
  rw[show A=(A-57896044618658097711785492504343953926634992332820282019728792003956564819949)+57896044618658097711785492504343953926634992332820282019728792003956564819949*1 by omega,zx,p9 h2 h3];omega
theorem azj {l:List Int} (h:af (au 0 4503599627370495 5) l):0<=v5 l:=num_nonneg (by decide) (cW _) h
theorem axY (eU ag ad ao cZ tu an aj ay pz:Int):(eU+2251799813685248*ag+5070602400912917605986812821504*ad+11417981541647679048466287755595961091061972992*ao+25711008708143844408671393477458601640355247900524685364822016*cZ)*(tu+2251799813685248*an+5070602400912917605986812821504*aj+11417981541647679048466287755595961091061972992*ay+25711008708143844408671393477458601640355247900524685364822016*pz)=(1*(eU*tu)+2251799813685248*(eU*an)+5070602400912917605986812821504*(eU*aj)+11417981541647679048466287755595961091061972992*(eU*ay)+25711008708143844408671393477458601640355247900524685364822016*(eU*pz)+2251799813685248*(ag*tu)+5070602400912917605986812821504*(ag*an)+11417981541647679048466287755595961091061972992*(ag*aj)+25711008708143844408671393477458601640355247900524685364822016*(ag*ay)+1*(ag*(19*pz))+5070602400912917605986812821504*(ad*tu)+11417981541647679048466287755595961091061972992*(ad*an)+25711008708143844408671393477458601640355247900524685364822016*(ad*aj)+1*(ad*(19*ay))+2251799813685248*(ad*(19*pz))+11417981541647679048466287755595961091061972992*(ao*tu)+25711008708143844408671393477458601640355247900524685364822016*(ao*an)+1*(ao*(19*aj))+2251799813685248*(ao*(19*ay))+5070602400912917605986812821504*(ao*(19*pz))+25711008708143844408671393477458601640355247900524685364822016*(cZ*tu)+1*(cZ*(19*an))+2251799813685248*(cZ*(19*aj))+5070602400912917605986812821504*(cZ*(19*ay))+11417981541647679048466287755595961091061972992*(cZ*(19*pz)))+57896044618658097711785492504343953926634992332820282019728792003956564819949*(1*(ag*pz)+1*(ad*ay)+2251799813685248*(ad*pz)+1*(ao*aj)+2251799813685248*(ao*ay)+5070602400912917605986812821504*(ao*pz)+1*(cZ*an)+2251799813685248*(cZ*aj)+5070602400912917605986812821504*(cZ*ay)+11417981541647679048466287755595961091061972992*(cZ*pz)):=by grind
theorem ags {c:Int} (h0:0<c) (h1:c<57896044618658097711785492504343953926634992332820282019728792003956564819949):(0-c)% 57896044618658097711785492504343953926634992332820282019728792003956564819949=57896044618658097711785492504343953926634992332820282019728792003956564819949-c:=by
 rw[<-p9 (show 0<=57896044618658097711785492504343953926634992332820282019728792003956564819949-c by omega) (show 57896044618658097711785492504343953926634992332820282019728792003956564819949-c<57896044618658097711785492504343953926634992332820282019728792003956564819949 by omega),show 57896044618658097711785492504343953926634992332820282019728792003956564819949-c=(0-c)+57896044618658097711785492504343953926634992332820282019728792003956564819949*1 by omega,zx]
theorem HN {b:Prop} [Decidable b]:(cond (decide b) 1 0:Int)=bit b:=by
 unfold bit;by_cases h:b<;>simp[h]
theorem Xn (w:Nat):∀{n:Nat} {l:List Int} (i:Nat),af (au 0 (2^w-1) n) l->i<w*n->num (2^w) l/2^i% 2=l.getD (i/w) 0/2^(i% w)% 2
 |0,_,i,_,h=>by omega
 |n+1,[],i,h,_=>by simp[au,af]at h
 |n+1,x::l,i,h,hi=>by
  obtain⟨h0,h1,h2⟩:=h
  have hp:∀k:Nat,(0:Int)<2^k:=λk=>by have:=G7 k;exact_mod_cast this
  have hw:0<w:=by
   rcases Nat.eq_zero_or_pos w with rfl|h
   ·simp at hi
   ·exact h
  simp only[num]
  by_cases aeM:i<w
  ·rw[Zh aeM,Zl aeM,jH]
   obtain⟨k,rfl⟩:∃k,w=i+(k+1):=⟨w-i-1,by omega⟩
   rw[RD 2 i,CF,aiN _ _ (by have:=hp i;omega),Int.pow_succ,kR (2^k) 2,CF]
   rw[zx]
  ·obtain⟨k,rfl⟩:∃k,i=k+w:=⟨i-w,by omega⟩
   have ih:=Xn w (n:=n) (l:=l) k h2 (by rw[Nat.mul_add]at hi;omega)
   have aw:(k+w)/w=k/w+1:=Nat.add_div_right k hw
   have aD:(k+w)% w=k% w:=Nat.add_mod_right k w
   rw[aw,aD,kS,<-ih]
   congr 1
   rw[Nat.add_comm k w,RD,<-Int.ediv_ediv_of_nonneg (so (hp w)),aiN _ _ (by have:=hp w;omega)]
   rw[Int.ediv_eq_zero_of_lt h0 (by omega),Int.zero_add]
theorem ab5 {l:List Int} {i:Nat} {q x e3 y h:Int} (hl:af (au 0 18446744073709551615 4) l) (hi:(i:Int)<=255) (c:0<=(i:Int)-64*q) (d:(i:Int)-64*q<64) (e:x=l.getD q.toNat 0)
 (eR:0<=(i:Int)-64*e3) (Fk:(i:Int)-64*e3<64) (da:y=x/2^((i:Int)+(-64)*e3).toNat) (bK:0<=y-2*h) (d2:y-2*h<2):y+(-2)*h=(((bf l).toNat/2^i% 2:Nat):Int):=by
 have hb:=Xn 64 (n:=4) (l:=l) i hl (by omega)
 have h0:=(agC hl).1
 have bm:q.toNat=i/64:=by omega
 have cb:((i:Int)+(-64)*e3).toNat=i% 64:=by omega
 rw[bm]at e
 rw[cb]at da
 have cj:(((bf l).toNat/2^i% 2:Nat):Int)=bf l/2^i% 2:=by
  have:((bf l).toNat:Int)=bf l:=M9 h0
  rw[RA,Int.natCast_ediv,this]
  simp
 rw[cj]
 have hb:bf l/2^i% 2=l.getD (i/64) 0/2^(i% 64)% 2:=hb
 rw[hb,<-e,<-da]
 omega
theorem Cf (a:Int):cO a 0=1:=by simp[cO]
theorem sM (a b:Int):a% 57896044618658097711785492504343953926634992332820282019728792003956564819949*b% 57896044618658097711785492504343953926634992332820282019728792003956564819949=a*b% 57896044618658097711785492504343953926634992332820282019728792003956564819949:=by rw[sS,Int.emod_emod,<-sS]
theorem vD (a b:Int):a*(b% 57896044618658097711785492504343953926634992332820282019728792003956564819949)% 57896044618658097711785492504343953926634992332820282019728792003956564819949=a*b% 57896044618658097711785492504343953926634992332820282019728792003956564819949:=by rw[kR,sM,kR]
theorem xD (a:Int) (k:Nat):cO a (k+1)=cO a k*a% 57896044618658097711785492504343953926634992332820282019728792003956564819949:=by unfold cO;rw[Int.pow_succ,sM]
theorem GK (a:Int) (k:Nat):cO a (2*k)=cO a k*cO a k% 57896044618658097711785492504343953926634992332820282019728792003956564819949:=by unfold cO;rw[sM,vD,<-RD,Nat.two_mul]
theorem AP (a:Int) (k:Nat):cO (a% 57896044618658097711785492504343953926634992332820282019728792003956564819949) k=cO a k:=by
 induction k with
 |zero=>rw[Cf,Cf]
 |succ k ih=>rw[xD,xD,ih,vD]
theorem QS (a:Int) (k:Nat):0<=cO a k/\cO a k<57896044618658097711785492504343953926634992332820282019728792003956564819949:=⟨ud _ (by decide),zw _ (by decide)⟩
theorem Qv (N i:Nat):N/2^i=2*(N/2^(i+1))+N/2^i% 2:=by
 have:N/2^(i+1)=N/2^i/2:=by rw[yq,Nb]
 omega
theorem avi {a:Int} {N i:Nat} (h:N/2^i% 2=1):cO a (N/2^i)=cO a (N/2^(i+1))*cO a (N/2^(i+1))% 57896044618658097711785492504343953926634992332820282019728792003956564819949*a% 57896044618658097711785492504343953926634992332820282019728792003956564819949:=by
 rw[Qv N i,h,xD,GK]
theorem avh {a:Int} {N i:Nat} (h:N/2^i% 2≠1):cO a (N/2^i)=cO a (N/2^(i+1))*cO a (N/2^(i+1))% 57896044618658097711785492504343953926634992332820282019728792003956564819949:=by
 have h0:N/2^i% 2=0:=by omega
 rw[Qv N i,h0,pE,GK]
theorem ax4 {l:List Int} (hl:af (au 0 18446744073709551615 4) l):(bf l).toNat/2^(255+1:Int).toNat=0:=by
 have h:=agC hl
 have e:(255+1:Int).toNat=256:=by decide
 rw[e]
 apply Zh
 have:((bf l).toNat:Int)<2^256:=by rw[M9 h.1];exact h.2
 exact_mod_cast this
def xI (G:Nat->List Int->List Int) (e:List Int) (N:Nat):Nat->List Int
 |0=>[1,0,0,0,0]
 |k+1=>bif N/2^(255-k)% 2==1 then G 33 (G 47 (xI G e N k)++e)else G 47 (xI G e N k)
theorem KN:(bf [18446744073709551614,18446744073709551615,18446744073709551615,1152921504606846975]).toNat=qk:=by decide
theorem avj (a e:Nat) (h:e<2^256):cO (a:Int) e=((J5.pm 256 a e 57896044618658097711785492504343953926634992332820282019728792003956564819949:Nat):Int):=by
 rw[J5.QO 256 a e 57896044618658097711785492504343953926634992332820282019728792003956564819949 h];unfold cO;rw[RA];congr 1
theorem YU:v5 [1718705420411056,234908883556509,2233514472574048,2117202627021982,765476049583133]=xT:=by decide
theorem amk:(bf [18446744073709551595,18446744073709551615,18446744073709551615,9223372036854775807]).toNat=xg:=by decide
def SZ (G:Nat->List Int->List Int):dB:=λa r=>ji rb.res 43 a r/\(match a with|[e,n]=>r.flatten=xI G e (bf n).toNat 256|_=>True)
theorem azi:v5 [1,0,0,0,0]=1:=by decide
def vC (G:Nat->List Int->List Int) (p:List Int) (N:Nat):Nat->List Int
 |0=>G 103 []
 |k+1=>bif N/2^(255-k)% 2==1 then G 105 (G 106 ((vC G p N k).take 15)++p)else G 106 ((vC G p N k).take 15)
def SY (G:Nat->List Int->List Int):dB:=λa r=>ji pk.res 107 a r/\(match a with|[x,y,z,t,k]=>r.flatten=vC G [x,y,z,t].flatten (nb k).toNat 256|_=>True)
theorem akW:bk [tV]=au 0 4503599627370495 5++(au 0 4503599627370495 5++(au 0 4503599627370495 5++(au 0 4503599627370495 5++[]))):=rfl
theorem akX:bk [tV,.bool]=au 0 4503599627370495 5++(au 0 4503599627370495 5++(au 0 4503599627370495 5++(au 0 4503599627370495 5++[(0,1)]))):=rfl
theorem abW:bk [hU,qX]=au 0 255 32++[(0,1)]:=rfl
theorem Gh {a b c d:List Int} (ha:af (au 0 4503599627370495 5) a) (hb:af (au 0 4503599627370495 5) b) (hc:af (au 0 4503599627370495 5) c) (hd:af (au 0 4503599627370495 5) d):af (bk [tV]) [a,b,c,d].flatten:=by
 rw[akW]
 exact qt ha (qt hb (qt hc (va hd)))
theorem LW {a b c d:List Int} {k:Int} (ha:af (au 0 4503599627370495 5) a) (hb:af (au 0 4503599627370495 5) b) (hc:af (au 0 4503599627370495 5) c) (hd:af (au 0 4503599627370495 5) d) (ab:0<=k/\k<=1):af (bk [tV,.bool]) [a,b,c,d,[k]].flatten:=by
 rw[akX]
 exact qt ha (qt hb (qt hc (qt hd ⟨ab.1,ab.2,trivial⟩)))
theorem IK {a:List Int} {k:Int} (ha:af (au 0 255 32) a) (ab:0<=k/\k<=1):af (bk [hU,qX]) [a,[k]].flatten:=by
 rw[abW]
 exact qt ha ⟨ab.1,ab.2,trivial⟩
theorem xu:af (au 0 4503599627370495 5) [0,0,0,0,0]:=by simp[au,af]
theorem aqY:af (au 0 4503599627370495 5) [1,0,0,0,0]:=by simp[au,af]
theorem afB:af (au 0 255 32) (e9 32 0):=by simp[au,af,e9]
theorem agI:v5 [929955233495203,466365720129213,1662059464998953,2033849074728123,1442794654840575]=di:=by decide
end Go.Fd
