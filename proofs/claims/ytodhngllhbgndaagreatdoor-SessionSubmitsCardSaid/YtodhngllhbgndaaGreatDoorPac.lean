/- A region whose order is open: quiet operations first,whichever of them comes when; then what goes one behind the other. -/
import Derived.Test.YtodhngllhbgndaaGreatDoorPab
import Derived.StillTail
import Derived.OrdersHeld
import Derived.Laws.CopyRow
import Derived.Deep.LoopGhost
import Derived.Laws.Append
set_option linter.unusedVariables false
set_option linter.unusedSimpArgs false
namespace Go.Rx
def depB (ops : Array Oper) (n : Nat) : Bool :=
 (List.range n).all fun i => match ops[i]? with
   | none => false
   | some oi => (oi.after.all fun e => !Region.binds .any e || Nat.blt e.on i) && (match oi.op with | .select .. => false | _ => true) &&
    (List.range n).all fun j => Nat.beq i j || match ops[j]? with
      | none => false
      | some oj => match oj.dst with
       | none => true
       | some d => (!(oi.looksAt ops).contains d || Region.waitsFor .any ops i j || Region.waitsFor .any ops j i) && !(match oi.dst with | some d' => Nat.beq d' d | none => false)
def headSet (size n : Nat) : Array Bool := ((List.range size).map fun i => Nat.blt i n).toArray
def floatO (o : Oper) : Bool := match o.op with | .move _ | .assign _ | .extract _ _ => true | _ => false
def floatB (ops : Array Oper) (i : Nat) : Bool := match ops[i]? with | some o => floatO o | none => false
def alO (o : Oper) : Bool := match o.op,o.guard,o.dst with | .alloc _,none,some _ => true | _,_,_ => false
def alB (ops : Array Oper) (i : Nat) : Bool := match ops[i]? with | some o => alO o | none => false
def newB (ops : Array Oper) (n : Nat) : Bool :=
 (List.range n).all fun i => !alB ops i || match ops[i]? with
   | some oi => match oi.dst with
    | some d => (List.range n).all fun j => match ops[j]? with | some oj => !(oj.looksAt ops).contains d | none => true
    | none => false
   | none => false
def sinkF (ops : Array Oper) (n : Nat) : Bool :=
 (List.range n).all fun i => floatB ops i || (List.range (n + 1)).any fun j => Nat.blt i j && Region.waitsFor .any ops j i && (Nat.beq j n || !floatB ops j)
def freeF (ops : Array Oper) (n : Nat) : Bool :=
 (List.range n).all fun i => !floatB ops i || (List.range ops.size).all fun j => Nat.blt j n || Region.waitsFor .any ops j i || (match ops[i]?,ops[j]? with | some oi,some oj => oi.apart ops oj | _,_ => false)
def tailB (ops : Array Oper) (n : Nat) : Bool :=
 Region.noSelect ops && freeF ops n && newB ops n && depB ops n && Nat.ble n ops.size && (Nat.beq n ops.size || (sinkF ops n && Region.chainB .any ops n)) && Region.seqB .any ops (ops.size - n) n (headSet ops.size n)
def calm (Q : Exit -> Act -> World -> Prop) : Exit -> Act -> World -> Prop
 | .panic _,_,_ => False
 | e,a,w => Q e a w
theorem calm.imp {Q : Exit -> Act -> World -> Prop} : ∀ (e : Exit) (a : Act) (w : World),calm Q e a w -> Q e a w := fun e a w h => by
 cases e <;> first | exact h | exact (h : False).elim
theorem blt_lt {a b : Nat} (h : Nat.blt a b = true) : a < b := Nat.le_of_ble_eq_true h
theorem lt_blt {a b : Nat} (h : a < b) : Nat.blt a b = true := Nat.ble_eq_true_of_le h
section
variable {P : Program} {ops : Array Oper} {C : World -> Prop}
def YieldsQ (P : Program) (ops : Array Oper) (C : World -> Prop) (o : Oper) (v : Value) (a : Act) : Prop :=
 (Region.wanted o (yielded ops a.tmps) = true /\ ∀ w,C w -> QRes P o a w v) ∨ (Region.wanted o (yielded ops a.tmps) = false /\ v = undef)
def Chain (P : Program) (ops : Array Oper) (C : World -> Prop) (F : Act -> Prop) : List Oper -> Act -> Prop
 | [],a => F a
 | o :: r,a => cond (alO o) (Chain P ops C F r a) (∃ v,YieldsQ P ops C o v a /\ Chain P ops C F r (a.put o.dst v))
theorem quiet_chain {Q : Act -> Prop} : ∀ (l : List Oper) (a : Act),Chain P ops C Q l a -> ∃ (as : Nat -> Act) (vs : Nat -> Value),as 0 = a /\ (∀ i o,l[i]? = some o -> (alO o = false -> YieldsQ P ops C o (vs i) (as i) /\ as (i + 1) = (as i).put o.dst (vs i)) /\ (alO o = true -> as (i + 1) = as i)) /\ Q (as l.length)
 | [],a,h => ⟨fun _ => a,fun _ => undef,rfl,fun i o hi => by simp at hi,h⟩
 | o :: r,a,h => by
  unfold Chain at h
  cases hal : alO o with
  | true =>
   simp only [hal,cond_true] at h
   obtain ⟨as,vs,e0,hs,hQ⟩ := quiet_chain r _ h
   refine ⟨fun i => match i with | 0 => a | i + 1 => as i,fun i => match i with | 0 => undef | i + 1 => vs i,rfl,fun i o' hi => ?_,hQ⟩
   cases i with
   | zero =>
    simp at hi; subst hi
    exact ⟨fun h1 => by (rw [hal] at h1; cases h1),fun _ => e0⟩
   | succ i =>
    simp at hi
    exact hs i o' hi
  | false =>
   simp only [hal,cond_false] at h
   obtain ⟨v,hy,h2⟩ := h
   obtain ⟨as,vs,e0,hs,hQ⟩ := quiet_chain r _ h2
   refine ⟨fun i => match i with | 0 => a | i + 1 => as i,fun i => match i with | 0 => v | i + 1 => vs i,rfl,fun i o' hi => ?_,hQ⟩
   cases i with
   | zero =>
    simp at hi; subst hi
    exact ⟨fun _ => ⟨hy,e0⟩,fun h1 => by (rw [hal] at h1; cases h1)⟩
   | succ i =>
    simp at hi
    exact hs i o' hi
theorem wpAny_more {Q : Exit -> Act -> World -> Prop} {md : Region.Mode} : ∀ (f : Nat) (listed : Array Bool) (a : Act) (w : World),wpAny P md ops Q f listed a w -> wpAny P md ops Q (f + 1) listed a w
 | 0,_,_,_,h => ⟨fun _ => h.2,fun i hi => by rw [h.1] at hi; cases hi⟩
 | f + 1,_,_,_,h => ⟨h.1,fun i hi => wpOp_mono (fun a' w' h' => wpAny_more f _ a' w' h') (h.2 i hi)⟩
theorem wpAny_le {Q : Exit -> Act -> World -> Prop} {md : Region.Mode} {listed : Array Bool} {a : Act} {w : World} {f f' : Nat} (h : wpAny P md ops Q f listed a w) (hle : f <= f') : wpAny P md ops Q f' listed a w := by
 induction hle with
 | refl => exact h
 | step _ ih => exact wpAny_more _ _ _ _ ih
theorem countP_lt {α : Type} {p q : α -> Bool} : ∀ {l : List α},(∀ x ∈ l,q x = true -> p x = true) -> (∃ x ∈ l,p x = true /\ q x = false) -> l.countP q < l.countP p
 | [],_,⟨x,hx,_⟩ => by simp at hx
 | y :: r,h1,⟨x,hx,h2,h3⟩ => by
  have hle : r.countP q <= r.countP p := List.countP_mono_left fun z hz => h1 z (List.mem_cons_of_mem _ hz)
  rw [List.countP_cons,List.countP_cons]
  rcases List.mem_cons.1 hx with rfl | hx
  ·simp [h2,h3]; omega
  ·have ih := countP_lt (l := r) (fun z hz => h1 z (List.mem_cons_of_mem _ hz)) ⟨x,hx,h2,h3⟩
   have := h1 y (by simp)
   cases hq : q y <;> cases hp : p y <;> simp [hq,hp] at this ⊢ <;> omega
theorem depB_spec {n i : Nat} {oi : Oper} (h : depB ops n = true) (hi : i < n) (ho : ops[i]? = some oi) :
 (∀ e ∈ oi.after,Region.binds .any e = true -> e.on < i) /\ (∀ cs b,oi.op ≠ .select cs b) /\
 ∀ j oj d,j < n -> j ≠ i -> ops[j]? = some oj -> oj.dst = some d -> oi.dst ≠ some d /\ (d ∈ oi.looksAt ops -> Region.waitsFor .any ops i j = true ∨ Region.waitsFor .any ops j i = true) := by
 have h1 := List.all_eq_true.1 h i (List.mem_range.2 hi)
 simp only [ho,Bool.and_eq_true] at h1
 obtain ⟨⟨h1,h2⟩,h3⟩ := h1
 refine ⟨fun e he hb => ?_,fun cs b hc => by simp [hc] at h2,fun j oj d hj hne hoj hd => ?_⟩
 ·have := Array.all_eq_true_iff_forall_mem.1 h1 e he
  simp only [hb,Bool.not_true,Bool.false_or] at this
  exact blt_lt this
 ·have h4 := List.all_eq_true.1 h3 j (List.mem_range.2 hj)
  have h5 : Nat.beq i j = false := by cases hb : Nat.beq i j with | false => rfl | true => exact absurd (Nat.eq_of_beq_eq_true hb).symm hne
  simp only [h5,Bool.false_or,hoj,hd,Bool.and_eq_true] at h4
  refine ⟨fun hdi => ?_,fun hmem => ?_⟩
  ·have := h4.2
   simp [hdi] at this
  ·have := h4.1
   have hc : (oi.looksAt ops).contains d = true := by simpa using hmem
   simp only [hc,Bool.not_true,Bool.false_or,Bool.or_eq_true] at this
   exact this
theorem act_ext {a b : Act} (h1 : a.defers = b.defers) (h2 : ∀ t : Nat,a.tmps[t]? = b.tmps[t]?) : a = b := by
 cases a; cases b
 simp only at h1 h2
 rw [h1,Array.ext_getElem? h2]
theorem put_other {a : Act} {o : Option Tmp} {v : Value} {t : Nat} (h : o ≠ some t) : (a.put o v).tmps[t]? = a.tmps[t]? := by
 cases o with
 | none => rfl
 | some d => simp only [Act.put]; rw [Array.getElem?_setIfInBounds_ne (fun e => h (by rw [e]))]
theorem put_defers (a : Act) (o : Option Tmp) (v : Value) : (a.put o v).defers = a.defers := by cases o <;> rfl
theorem put_size (a : Act) (o : Option Tmp) (v : Value) : (a.put o v).tmps.size = a.tmps.size := by cases o <;> simp [Act.put]
theorem float_yields {o : Oper} {a : Act} {v : Value} {w : World} (hf : floatO o = true) (hC : C w) (h : YieldsQ P ops C o v a) : Yields P ops o v a := by
 rcases h with ⟨h1,h2⟩ | h
 ·refine .inl ⟨h1,fun w' => ?_⟩
  have h3 := h2 w hC
  unfold QRes at h3
  unfold floatO at hf
  split at hf
  ·rename_i x ho
   simp only [execOp,ho,Sem.run_pure] at h3 ⊢
   rcases h3 with h3 | ⟨f,args,h3,_⟩
   ·simp only [Result.ok.injEq,Next.value.injEq,and_true] at h3; rw [h3]
   ·simp at h3
  ·rename_i x ho
   simp only [execOp,ho,Sem.run_pure] at h3 ⊢
   rcases h3 with h3 | ⟨f,args,h3,_⟩
   ·simp only [Result.ok.injEq,Next.value.injEq,and_true] at h3; rw [h3]
   ·simp at h3
  ·rename_i x i ho
   simp only [execOp,ho,Sem.run_bind] at h3 ⊢
   unfold Instr.extract at h3 ⊢
   cases hx : a.eval x <;> simp only [hx] at h3 ⊢ <;> try (simp [Result.andThen] at h3; done)
   rename_i vs
   cases hv : vs[i]? with
   | none => simp [hv,Result.andThen] at h3
   | some u => simp [hv] at h3; simp [h3]
  ·cases hf
 ·exact .inr h
theorem sinkF_waits {n : Nat} {listed : Array Bool} (hs : sinkF ops n = true) (hc : Region.chainB .any ops n = true) (hn : n < ops.size) (inv : HeadInv .any ops n listed) :
 ∀ (d i : Nat),n - i = d -> i < n -> floatB ops i = false -> listed.getD i false = false -> ∀ t,n <= t -> t ∉ Region.ready .any ops listed := by
 intro d
 induction d using Nat.strongRecOn with
 | _ d ih =>
  intro i hd hi hfl hun t ht hr
  obtain ⟨_,ot,hot,hall⟩ := mem_ready.1 hr
  have htlt : t < ops.size := (Array.getElem?_eq_some_iff.1 hot).1
  by_cases htn : t = n
  ·subst htn
   have h1 := List.all_eq_true.1 hs i (List.mem_range.2 hi)
   simp only [hfl,Bool.false_or] at h1
   obtain ⟨j,hj,hj2⟩ := List.any_eq_true.1 h1
   simp only [Bool.and_eq_true,Bool.or_eq_true] at hj2
   obtain ⟨⟨hj0,hj1⟩,hj3⟩ := hj2
   have hj0 := blt_lt hj0
   obtain ⟨oj,hoj,e,he,hb,hon⟩ := Region.waitsFor_spec hj1
   have hjle : j <= t := by have := List.mem_range.1 hj; omega
   by_cases hjt : j = t
   ·subst hjt
    have : oj = ot := Option.some.inj (hoj.symm.trans hot)
    subst this
    have h2 := hall e he hb
    rw [hon,hun] at h2
    cases h2
   ·cases hl : listed.getD j false with
    | true =>
     have h2 := inv.closed j oj hoj hl e he hb
     rw [hon,hun] at h2
     cases h2
    | false =>
     have hfj : floatB ops j = false := by
      rcases hj3 with h3 | h3
      ·exact absurd (Nat.eq_of_beq_eq_true h3) hjt
      ·simpa using h3
     exact ih (t - j) (by omega) j rfl (by omega) hfj hl t (Nat.le_refl _) hr
  ·have h1 := List.all_eq_true.1 hc t (List.mem_range.2 htlt)
   simp only [Bool.or_eq_true,decide_eq_true_eq] at h1
   rcases h1 with h1 | h1
   ·omega
   ·obtain ⟨o',ho',e,he,hb,hon⟩ := Region.waitsFor_spec h1
    have : o' = ot := Option.some.inj (ho'.symm.trans hot)
    subst this
    have h2 := hall e he hb
    rw [hon,getD_both (inv.tail (t - 1) (by omega) (by omega))] at h2
    cases h2
theorem float_not_al {o : Oper} (h : floatO o = true) : alO o = false := by
 unfold floatO at h
 unfold alO
 cases ho : o.op <;> simp only [ho] at h ⊢ <;> cases h
theorem newB_spec {n i j : Nat} {oi oj : Oper} {d : Tmp} (h : newB ops n = true) (hi : i < n) (ho : ops[i]? = some oi) (hal : alO oi = true) (hd : oi.dst = some d) (hj : j < n) (hoj : ops[j]? = some oj) : d ∉ oj.looksAt ops := by
 have h1 := List.all_eq_true.1 h i (List.mem_range.2 hi)
 have ha : alB ops i = true := by simp [alB,ho,hal]
 simp only [ha,Bool.not_true,Bool.false_or,ho,hd] at h1
 have h2 := List.all_eq_true.1 h1 j (List.mem_range.2 hj)
 simp only [hoj,Bool.not_eq_true'] at h2
 intro hm
 have : (oj.looksAt ops).contains d = true := by simpa using hm
 rw [this] at h2; cases h2
theorem wpOp_quiet {Q : Exit -> Act -> World -> Prop} {o : Oper} {i : Nat} {v : Value} {a : Act} {w : World} {K : Act -> World -> Prop} (hi : ops[i]? = some o) (hC : C w) (hy : YieldsQ P ops C o v a) (h : ∀ w',w.Extends w' -> K (a.put o.dst v) w') : wpOp P ops Q i K a w := by
 unfold wpOp
 simp only [hi]
 rcases hy with ⟨h1,h2⟩ | ⟨h1,h2⟩
 ·rw [if_pos h1]
  refine .inl ?_
  unfold Oper.wp
  rcases h2 w hC with h3 | ⟨f,args,h3,h4⟩
  ·rw [h3]; exact h w (World.Extends.refl w)
  ·rw [h3]
   refine h4.mono fun e w'' ⟨he,hx⟩ => ?_
   subst he
   exact h w'' hx
 ·rw [if_neg (by simp [h1]),<- h2]
  exact h w (World.Extends.refl w)
theorem YieldsQ.of_same {o : Oper} {v : Value} {a a' : Act} (hy : YieldsQ P ops C o v a) (he : execOp a'.eval o = execOp a.eval o) (hw : Region.wanted o (yielded ops a'.tmps) = Region.wanted o (yielded ops a.tmps)) : YieldsQ P ops C o v a' := by
 unfold YieldsQ QRes at *
 rw [he,hw]
 exact hy
structure Slots (ops : Array Oper) (n : Nat) (S : Nat -> Prop) (a an b : Act) (γ : Nat -> Nat) : Prop where
 d : b.defers = a.defers
 sz : b.tmps.size = a.tmps.size
 q : ∀ t : Nat,(∃ j o,j < n /\ S j /\ ops[j]? = some o /\ alO o = false /\ o.dst = some t) -> b.tmps[t]? = an.tmps[t]?
 al : ∀ (t : Nat) j o,j < n -> S j -> ops[j]? = some o -> alO o = true -> o.dst = some t -> t < b.tmps.size -> b.tmps[t]? = some (.pointer (some ⟨γ j,0,none⟩))
 no : ∀ t : Nat,(∀ j o,j < n -> S j -> ops[j]? = some o -> o.dst ≠ some t) -> b.tmps[t]? = a.tmps[t]?
structure Fin (ops : Array Oper) (n : Nat) (an b : Act) (γ : Nat -> Nat) : Prop where
 d : b.defers = an.defers
 sz : b.tmps.size = an.tmps.size
 al : ∀ (t : Nat) j o,j < n -> ops[j]? = some o -> alO o = true -> o.dst = some t -> t < b.tmps.size -> b.tmps[t]? = some (.pointer (some ⟨γ j,0,none⟩))
 no : ∀ t : Nat,(∀ j o,j < n -> ops[j]? = some o -> alO o = true -> o.dst ≠ some t) -> b.tmps[t]? = an.tmps[t]?
def News (ops : Array Oper) (n : Nat) (S : Nat -> Prop) (Z : Nat -> Obj) (γ : Nat -> Nat) (sz : Nat) (w : World) : Prop :=
 (∀ j,j < n -> S j -> alB ops j = true -> sz <= γ j /\ w.heap[γ j]? = some (Z j)) /\ ∀ i j,i < n -> j < n -> S i -> S j -> alB ops i = true -> alB ops j = true -> γ i = γ j -> i = j
theorem News.grow {n : Nat} {S : Nat -> Prop} {Z : Nat -> Obj} {γ : Nat -> Nat} {sz : Nat} {w w' : World} (h : News ops n S Z γ sz w) (he : w.Extends w') : News ops n S Z γ sz w' :=
 ⟨fun j h1 h2 h3 => by
  obtain ⟨h4,h5⟩ := h.1 j h1 h2 h3
  exact ⟨h4,by rw [he.block _ (Array.getElem?_eq_some_iff.1 h5).1]; exact h5⟩,h.2⟩
theorem wp_region_quiet_tail {id : Nat} {Q : Exit -> Act -> World -> Prop} {a : Act} {w : World} {l : List Oper} (n : Nat) (Z : Nat -> Obj) (hm : P.follows .mixedOrders = true) (hB : tailB l.toArray n = true) (hC : ∀ w',w.drew.Extends w' -> C w')
 (hZ : ∀ j o,j < n -> l.toArray[j]? = some o -> alO o = true -> ∀ (b : Act) w',(execOp b.eval o).run P w' = .ok (.value (.pointer (some ⟨w'.heap.size,0,none⟩))) (w'.alloc (Z j)))
 (h : Chain P l.toArray C (fun an => ∀ γ b w',Fin l.toArray n an b γ -> w.drew.Extends w' -> News l.toArray n (fun _ => True) Z γ w.drew.heap.size w' -> wpList P l.toArray (calm Q) (l.drop n) b w') (l.take n) a) : (Code.region id l.toArray true).wp P Q a w := by
 refine Code.wp_mono (calm.imp (Q := Q)) ?_
 simp only [tailB,Bool.and_eq_true] at hB
 obtain ⟨⟨⟨⟨⟨⟨hnosel,hfree⟩,hnew⟩,hdep⟩,hle⟩,hsink⟩,hseq⟩ := hB
 have hle : n <= l.length := by simpa using Nat.le_of_ble_eq_true hle
 obtain ⟨as,vs,e0,hs,hT⟩ := quiet_chain _ _ h
 have hlen : (l.take n).length = n := by simp; omega
 rw [hlen] at hT
 have hop : ∀ i,i < n -> ∃ o,l.toArray[i]? = some o /\ (alO o = false -> YieldsQ P l.toArray C o (vs i) (as i) /\ as (i + 1) = (as i).put o.dst (vs i)) /\ (alO o = true -> as (i + 1) = as i) := fun i hi => by
  have hlt : i < l.length := by omega
  have h1 : (l.take n)[i]? = some l[i] := by rw [List.getElem?_take,if_pos hi,List.getElem?_eq_getElem hlt]
  have h2 := hs i _ h1
  exact ⟨l[i],by simp [hlt],h2⟩
 have hdef : ∀ i,i <= n -> (as i).defers = a.defers /\ (as i).tmps.size = a.tmps.size := by
  intro i
  induction i with
  | zero => intro _; rw [e0]; exact ⟨rfl,rfl⟩
  | succ i ih =>
   intro hi
   obtain ⟨o,ho,h1,h2⟩ := hop i (by omega)
   cases hal : alO o with
   | true => rw [h2 hal]; exact ih (by omega)
   | false => rw [(h1 hal).2,put_defers,put_size]; exact ih (by omega)
 have hS2 : ∀ i,i <= n -> ∀ t : Nat,(∀ j o,j < i -> l.toArray[j]? = some o -> alO o = false -> o.dst ≠ some t) -> (as i).tmps[t]? = a.tmps[t]? := by
  intro i
  induction i with
  | zero => intro _ t _; rw [e0]
  | succ i ih =>
   intro hi t hno
   obtain ⟨o,ho,h1,h2⟩ := hop i (by omega)
   have ih' := ih (by omega) t fun j o hj => hno j o (by omega)
   cases hal : alO o with
   | true => rw [h2 hal]; exact ih'
   | false => rw [(h1 hal).2,put_other (hno i o (by omega) ho hal)]; exact ih'
 have hS1 : ∀ (d i : Nat),i + d = n -> ∀ t : Nat,(∃ j o,j < i /\ l.toArray[j]? = some o /\ o.dst = some t) -> (as n).tmps[t]? = (as i).tmps[t]? := by
  intro d
  induction d with
  | zero => intro i hi t _; rw [show i = n by omega]
  | succ d ih =>
   intro i hi t hj
   obtain ⟨o,ho,h1,h2⟩ := hop i (by omega)
   rw [ih (i + 1) (by omega) t (by obtain ⟨j,o,h1,h2⟩ := hj; exact ⟨j,o,by omega,h2⟩)]
   cases hal : alO o with
   | true => rw [h2 hal]
   | false =>
    rw [(h1 hal).2]
    obtain ⟨j,oj,hj1,hj2,hj3⟩ := hj
    exact put_other ((depB_spec hdep (show i < n by omega) ho).2.2 j oj t (by omega) (by omega) hj2 hj3).1
 refine Go.wp_region_any hm ?_
 have hsz : l.toArray.size = l.length := by simp
 have main : ∀ (f : Nat) (listed : Array Bool) (b : Act) (w1 : World) (γ : Nat -> Nat),HeadInv .any l.toArray n listed -> w.drew.Extends w1 ->
  Slots l.toArray n (fun j => listed.getD j false = true) a (as n) b γ -> News l.toArray n (fun j => listed.getD j false = true) Z γ w.drew.heap.size w1 ->
  (List.range n).countP (fun i => !listed.getD i false) + (l.length - n) <= f -> wpAny P .any l.toArray (calm Q) f listed b w1 := by
  intro f
  have done : ∀ (listed : Array Bool) (b : Act) (w1 : World) (γ : Nat -> Nat),HeadInv .any l.toArray n listed -> w.drew.Extends w1 ->
   Slots l.toArray n (fun j => listed.getD j false = true) a (as n) b γ -> News l.toArray n (fun j => listed.getD j false = true) Z γ w.drew.heap.size w1 -> (∀ i,i < n -> listed.getD i false = true) ->
   wpAny P .any l.toArray (calm Q) (l.drop n).length listed b w1 := by
   intro listed b w1 γ inv hEx hSl hNw hall
   have hl : listed = headSet l.toArray.size n := by
    apply Array.ext_getElem?
    intro i
    unfold headSet
    simp only [List.getElem?_toArray,List.getElem?_map]
    rcases Nat.lt_or_ge i l.length with hi | hi
    ·rw [List.getElem?_range (by simpa using hi)]
     have hi2 : i < listed.size := by rw [inv.size]; simpa using hi
     rcases Nat.lt_or_ge i n with hin | hin
     ·have := hall i hin
      simp [hi2] at this
      simp [hi2,this,lt_blt hin]
     ·have := inv.tail i hin (by simpa using hi)
      simp [hi2] at this
      have hb : Nat.blt i n = false := by cases hq : Nat.blt i n with | false => rfl | true => have := blt_lt hq; omega
      simp [hi2,this,hb]
    ·have h1 : listed.size <= i := by rw [inv.size]; simpa using hi
     have h2 : (List.range l.toArray.size)[i]? = none := by simp; omega
     rw [h2,Array.getElem?_eq_none h1]; rfl
   have hsq : Region.seqB .any l.toArray (l.drop n).length n listed = true := by rw [hl]; simpa using hseq
   refine wpAny_of_seq (P := P) (md := .any) (Q' := calm Q) (l.drop n) n listed b w1 (fun j => by simp [List.getElem?_drop]) hsq (hT γ b w1 ?_ hEx ?_)
   ·refine ⟨hSl.d.trans (hdef n (Nat.le_refl _)).1.symm,hSl.sz.trans (hdef n (Nat.le_refl _)).2.symm,fun t j o h1 h3 h4 h5 => hSl.al t j o h1 (hall j h1) h3 h4 h5,fun t hno => ?_⟩
    by_cases hq : ∃ j o,j < n /\ l.toArray[j]? = some o /\ alO o = false /\ o.dst = some t
    ·obtain ⟨j,o,h1,h2,h3,h4⟩ := hq
     exact hSl.q t ⟨j,o,h1,hall j h1,h2,h3,h4⟩
    ·have hq' : ∀ j o,j < n -> l.toArray[j]? = some o -> alO o = false -> o.dst ≠ some t := fun j o h1 h2 h3 h4 => hq ⟨j,o,h1,h2,h3,h4⟩
     rw [hSl.no t fun j o h1 _ h3 => (by
      cases hal : alO o with
      | true => exact hno j o h1 h3 hal
      | false => exact hq' j o h1 h3 hal),hS2 n (Nat.le_refl _) t hq']
   ·exact ⟨fun j h1 _ h3 => hNw.1 j h1 (hall j h1) h3,fun i j h1 h2 _ _ h5 h6 => hNw.2 i j h1 h2 (hall i h1) (hall j h2) h5 h6⟩
  have allOf : ∀ (listed : Array Bool),(List.range n).countP (fun i => !listed.getD i false) = 0 -> ∀ i,i < n -> listed.getD i false = true := fun listed hc i hi => by
   cases hq : listed.getD i false with
   | true => rfl
   | false =>
    have : 0 < (List.range n).countP (fun i => !listed.getD i false) := List.countP_pos_iff.2 ⟨i,List.mem_range.2 hi,by simp [hq]⟩
    omega
  induction f with
  | zero =>
   intro listed b w1 γ inv hEx hSl hNw hf
   have := done listed b w1 γ inv hEx hSl hNw (allOf listed (by omega))
   exact wpAny_le this (by simp; omega)
  | succ f ih =>
   intro listed b w1 γ inv hEx hSl hNw hf
   by_cases hcnt : (List.range n).countP (fun i => !listed.getD i false) = 0
   ·exact wpAny_le (done listed b w1 γ inv hEx hSl hNw (allOf listed hcnt)) (by simp; omega)
   ·
    have hpos : ∃ i,i < n /\ listed.getD i false = false := by
     have h1 : 0 < (List.range n).countP (fun i => !listed.getD i false) := by omega
     obtain ⟨i,hi,hq⟩ := List.countP_pos_iff.1 h1
     exact ⟨i,List.mem_range.1 hi,by simpa using hq⟩
    have hne : Region.ready .any l.toArray listed ≠ [] := by
     have key : ∀ k,∀ i,i <= k -> i < n -> listed.getD i false = false -> Region.ready .any l.toArray listed ≠ [] := by
      intro k
      induction k with
      | zero =>
       intro i hik hin hq hnil
       obtain ⟨o,ho,_,_⟩ := hop i hin
       have hlt : i < listed.size := by rw [inv.size]; exact (Array.getElem?_eq_some_iff.1 ho).1
       have : i ∈ Region.ready .any l.toArray listed := mem_ready.2 ⟨getD_in hlt hq,o,ho,fun e he hb => by have := (depB_spec hdep hin ho).1 e he hb; omega⟩
       rw [hnil] at this; cases this
      | succ k ihk =>
       intro i hik hin hq hnil
       obtain ⟨o,ho,_,_⟩ := hop i hin
       have hlt : i < listed.size := by rw [inv.size]; exact (Array.getElem?_eq_some_iff.1 ho).1
       have : i ∈ Region.ready .any l.toArray listed := mem_ready.2 ⟨getD_in hlt hq,o,ho,fun e he hb => by
        have h1 := (depB_spec hdep hin ho).1 e he hb
        cases hq2 : listed.getD e.on false with
        | true => rfl
        | false => exact absurd hnil (ihk e.on (by omega) (by omega) hq2)⟩
       rw [hnil] at this; cases this
     obtain ⟨i,hi,hq⟩ := hpos
     exact key i i (Nat.le_refl _) hi hq
    have hset : ∀ i,i ∈ Region.ready .any l.toArray listed -> ∀ j,(listed.setIfInBounds i true).getD j false = true ↔ (j = i ∨ listed.getD j false = true) := fun i hi j => by
     obtain ⟨hun,oi,hoi,hall⟩ := mem_ready.1 hi
     have hlt : i < listed.size := by rw [inv.size]; exact (Array.getElem?_eq_some_iff.1 hoi).1
     by_cases hj : i = j
     ·subst hj; simp [hlt]
     ·rw [getD_set_ne false hj]
      exact ⟨.inr,fun h => h.resolve_left (fun e => hj e.symm)⟩
    have hless : ∀ i,i ∈ Region.ready .any l.toArray listed -> i < n -> (List.range n).countP (fun j => !(listed.setIfInBounds i true).getD j false) + (l.length - n) <= f := fun i hi hin => by
     obtain ⟨hun,_⟩ := mem_ready.1 hi
     have : (List.range n).countP (fun j => !(listed.setIfInBounds i true).getD j false) < (List.range n).countP (fun j => !listed.getD j false) := by
      refine countP_lt (fun j _ hj => ?_) ⟨i,List.mem_range.2 hin,?_,?_⟩
      ·cases hq : listed.getD j false with
       | false => rfl
       | true => rw [(hset i hi j).2 (.inr hq)] at hj; cases hj
      ·simp only [getD_both hun]; rfl
      ·simp only [(hset i hi i).2 (.inl rfl)]; rfl
     omega
    have step : ∀ i,i ∈ Region.ready .any l.toArray listed -> i < n -> ∀ o,l.toArray[i]? = some o -> alO o = false -> YieldsQ P l.toArray C o (vs i) b /\ ∀ w',w1.Extends w' -> wpAny P .any l.toArray (calm Q) f (listed.setIfInBounds i true) (b.put o.dst (vs i)) w' := by
     intro i hi hin o ho hal
     obtain ⟨hun,oi,hoi,hall⟩ := mem_ready.1 hi
     have : o = oi := Option.some.inj (ho.symm.trans hoi)
     subst this
     obtain ⟨o',ho',hy',_⟩ := hop i hin
     have : o' = o := Option.some.inj (ho'.symm.trans ho)
     subst this
     obtain ⟨hy,he⟩ := hy' hal
     have hdp := depB_spec hdep hin ho
     have hslot : ∀ t : Nat,t ∈ o'.looksAt l.toArray -> b.tmps[t]? = (as i).tmps[t]? := fun t ht => by
      by_cases hw : ∃ j oj,j < i /\ l.toArray[j]? = some oj /\ alO oj = false /\ oj.dst = some t
      ·obtain ⟨j,oj,h1,h2,h2',h3⟩ := hw
       rw [<- hS1 (n - i) i (by omega) t ⟨j,oj,h1,h2,h3⟩]
       refine hSl.q t ⟨j,oj,by omega,?_,h2,h2',h3⟩
       rcases (hdp.2.2 j oj t (by omega) (by omega) h2 h3).2 ht with h4 | h4
       ·obtain ⟨oi',hoi',e,he1,he2,he3⟩ := Region.waitsFor_spec h4
        have : oi' = o' := Option.some.inj (hoi'.symm.trans ho)
        subst this
        have := hall e he1 he2
        rwa [he3] at this
       ·obtain ⟨oj',hoj',e,he1,he2,he3⟩ := Region.waitsFor_spec h4
        have : oj' = oj := Option.some.inj (hoj'.symm.trans h2)
        subst this
        have := (depB_spec hdep (show j < n by omega) h2).1 e he1 he2
        omega
      ·rw [hS2 i (by omega) t fun j oj h1 h2 h2' h3 => hw ⟨j,oj,h1,h2,h2',h3⟩]
       refine hSl.no t fun j oj h1 hl h2 h3 => ?_
       cases halj : alO oj with
       | true => exact newB_spec hnew h1 h2 halj h3 hin ho ht
       | false =>
        by_cases hji : j = i
        ·subst hji
         rw [getD_both hun] at hl; cases hl
        ·rcases (hdp.2.2 j oj t h1 hji h2 h3).2 ht with h4 | h4
         ·obtain ⟨oi',hoi',e,he1,he2,he3⟩ := Region.waitsFor_spec h4
          have : oi' = o' := Option.some.inj (hoi'.symm.trans ho)
          subst this
          have := hdp.1 e he1 he2
          exact hw ⟨j,oj,by omega,h2,halj,h3⟩
         ·obtain ⟨oj',hoj',e,he1,he2,he3⟩ := Region.waitsFor_spec h4
          have : oj' = oj := Option.some.inj (hoj'.symm.trans h2)
          subst this
          have := inv.closed j oj' h2 hl e he1 he2
          rw [he3,getD_both hun] at this; cases this
     have hev : ∀ x ∈ o'.op.operands,b.eval x = (as i).eval x := fun x hx => by
      cases x with
      | tmp t =>
       have := hslot t (List.mem_append_left _ (List.mem_filterMap.2 ⟨.tmp t,by simpa using hx,rfl⟩))
       simp only [Act.eval]
       simp [this]
      | _ => rfl
     have hex : execOp b.eval o' = execOp (as i).eval o' := execOp_congr o' hdp.2.1 hev
     have hwt : Region.wanted o' (yielded l.toArray b.tmps) = Region.wanted o' (yielded l.toArray (as i).tmps) := by
      unfold Region.wanted
      cases hg : o'.guard with
      | none => rfl
      | some gw =>
       obtain ⟨g,want⟩ := gw
       have : yielded l.toArray b.tmps g = yielded l.toArray (as i).tmps g := by
        unfold yielded
        cases ht : (l.toArray[g]?).bind (·.dst) with
        | none => rfl
        | some t =>
         have := hslot t (List.mem_append_right _ (by simp only [hg,ht]; simp))
         simp [this]
       simp only [this]
     refine ⟨hy.of_same hex hwt,fun w' hw' => ?_⟩
     refine ih _ _ _ γ (inv.set hi hin) (hEx.trans hw') ⟨(put_defers _ _ _).trans hSl.d,(put_size _ _ _).trans hSl.sz,?_,?_,?_⟩ (News.grow (w := w1) ⟨fun j h1 h2 h3 => ?_,fun i1 j1 h1 h2 h3 h4 h5 h6 => ?_⟩ hw') (hless i hi hin)
     ·rintro t ⟨j,oj,h1,h2,h3,h3',h4⟩
      by_cases ht : o'.dst = some t
      ·have e1 : (as n).tmps[t]? = (as (i + 1)).tmps[t]? := hS1 (n - (i + 1)) (i + 1) (by omega) t ⟨i,o',by omega,ho,ht⟩
       rw [e1,he,ht]
       simp only [Act.put]
       have hs3 : b.tmps.size = (as i).tmps.size := hSl.sz.trans (hdef i (by omega)).2.symm
       rcases Nat.lt_or_ge t b.tmps.size with h5 | h5
       ·simp [h5,hs3 ▸ h5]
       ·rw [Array.getElem?_eq_none (by simpa using h5),Array.getElem?_eq_none (by rw [Array.size_setIfInBounds,<- hs3]; exact h5)]
      ·rw [put_other ht]
       rcases (hset i hi j).1 h2 with rfl | h5
       ·have : oj = o' := Option.some.inj (h3.symm.trans ho)
        subst this
        exact absurd h4 ht
       ·exact hSl.q t ⟨j,oj,h1,h5,h3,h3',h4⟩
     ·intro t j oj h1 h2 h3 h4 h5 h6
      rcases (hset i hi j).1 h2 with rfl | h7
      ·have : oj = o' := Option.some.inj (h3.symm.trans ho)
       subst this
       rw [hal] at h4; cases h4
      ·have hji : j ≠ i := fun e => by subst e; rw [getD_both hun] at h7; cases h7
       have ht : o'.dst ≠ some t := (hdp.2.2 j oj t h1 hji h3 h5).1
       rw [put_other ht]
       rw [put_size] at h6
       exact hSl.al t j oj h1 h7 h3 h4 h5 h6
     ·intro t hno
      have ht : o'.dst ≠ some t := hno i o' hin ((hset i hi i).2 (.inl rfl)) ho
      rw [put_other ht]
      exact hSl.no t fun j oj h1 h2 h3 => hno j oj h1 ((hset i hi j).2 (.inr h2)) h3
     ·rcases (hset i hi j).1 h2 with rfl | h7
      ·simp [alB,ho,hal] at h3
      ·exact hNw.1 j h1 h7 h3
     ·have k1 : listed.getD i1 false = true := by
       rcases (hset i hi i1).1 h3 with rfl | h7
       ·simp [alB,ho,hal] at h5
       ·exact h7
      have k2 : listed.getD j1 false = true := by
       rcases (hset i hi j1).1 h4 with rfl | h7
       ·simp [alB,ho,hal] at h6
       ·exact h7
      exact hNw.2 i1 j1 h1 h2 k1 k2 h5 h6
    by_cases hfl : ∃ i,i ∈ Region.ready .any l.toArray listed /\ i < n /\ floatB l.toArray i = true
    ·obtain ⟨i,hi,hin,hf1⟩ := hfl
     obtain ⟨o,ho,_,_⟩ := hop i hin
     obtain ⟨hun,oi,hoi,hall⟩ := mem_ready.1 hi
     have hfo : floatO o = true := by unfold floatB at hf1; simpa [ho] using hf1
     have hal : alO o = false := float_not_al hfo
     obtain ⟨hyb,hnext⟩ := step i hi hin o ho hal
     refine wpAny_first ho (Region.noSelect_spec hnosel) (fun c a' w' hq => hq.elim) f listed b w1 (fun j oj hoj hji hjun hjno => ?_) hi (float_yields hfo (hC w1 hEx) hyb) (hnext w1 (World.Extends.refl w1))
     have hnw : Region.waitsFor .any l.toArray j i = false := by
      cases hq : Region.waitsFor .any l.toArray j i with
      | false => rfl
      | true =>
       obtain ⟨oj',hoj',e,he1,he2,he3⟩ := Region.waitsFor_spec hq
       have : oj' = oj := Option.some.inj (hoj'.symm.trans hoj)
       subst this
       exact absurd he3 (hjno e he1 he2)
     have hnw2 : j < n -> Region.waitsFor .any l.toArray i j = false := fun hjn => by
      cases hq : Region.waitsFor .any l.toArray i j with
      | false => rfl
      | true =>
       obtain ⟨o',ho',e,he1,he2,he3⟩ := Region.waitsFor_spec hq
       have : o' = oi := Option.some.inj (ho'.symm.trans hoi)
       subst this
       have := hall e he1 he2
       rw [he3,getD_both hjun] at this; cases this
     by_cases hjn : j < n
     ·have d1 := (depB_spec hdep hin ho).2.2 j oj
      have d2 := (depB_spec hdep hjn hoj).2.2 i o
      simp only [Oper.apart,Bool.and_eq_true]
      constructor
      ·cases hd : o.dst with
       | none => rfl
       | some d =>
        have := d2 d hin (fun e => hji e.symm) ho hd
        simp only [Bool.and_eq_true,Bool.not_eq_true',bne_iff_ne,ne_eq]
        refine ⟨?_,this.1⟩
        cases hc : (oj.looksAt l.toArray).contains d with
        | false => rfl
        | true =>
         rcases this.2 (by simpa using hc) with h1 | h1
         ·rw [hnw] at h1; cases h1
         ·rw [hnw2 hjn] at h1; cases h1
      ·cases hd : oj.dst with
       | none => rfl
       | some d =>
        have := d1 d hjn hji hoj hd
        simp only [Bool.not_eq_true']
        cases hc : (o.looksAt l.toArray).contains d with
        | false => rfl
        | true =>
         rcases this.2 (by simpa using hc) with h1 | h1
         ·rw [hnw2 hjn] at h1; cases h1
         ·rw [hnw] at h1; cases h1
     ·have h1 := List.all_eq_true.1 hfree i (List.mem_range.2 hin)
      simp only [hf1,Bool.not_true,Bool.false_or] at h1
      have h2 := List.all_eq_true.1 h1 j (List.mem_range.2 (Array.getElem?_eq_some_iff.1 hoj).1)
      have hb : Nat.blt j n = false := by cases hq : Nat.blt j n with | false => rfl | true => exact absurd (blt_lt hq) hjn
      simp only [hb,hnw,Bool.false_or,ho,hoj] at h2
      exact h2
    ·
     have hnf : ∃ i,i < n /\ floatB l.toArray i = false /\ listed.getD i false = false := by
      have key : ∀ k,∀ i,i <= k -> i < n -> listed.getD i false = false -> ∃ i,i < n /\ floatB l.toArray i = false /\ listed.getD i false = false := by
       intro k
       induction k with
       | zero =>
        intro i hik hin hq
        cases hf2 : floatB l.toArray i with
        | false => exact ⟨i,hin,hf2,hq⟩
        | true =>
         obtain ⟨o,ho,_,_⟩ := hop i hin
         have hlt : i < listed.size := by rw [inv.size]; exact (Array.getElem?_eq_some_iff.1 ho).1
         exact absurd ⟨i,mem_ready.2 ⟨getD_in hlt hq,o,ho,fun e he hb => by have := (depB_spec hdep hin ho).1 e he hb; omega⟩,hin,hf2⟩ hfl
       | succ k ihk =>
        intro i hik hin hq
        cases hf2 : floatB l.toArray i with
        | false => exact ⟨i,hin,hf2,hq⟩
        | true =>
         obtain ⟨o,ho,_,_⟩ := hop i hin
         have hlt : i < listed.size := by rw [inv.size]; exact (Array.getElem?_eq_some_iff.1 ho).1
         by_cases hdone : ∀ e ∈ o.after,Region.binds .any e = true -> listed.getD e.on false = true
         ·exact absurd ⟨i,mem_ready.2 ⟨getD_in hlt hq,o,ho,hdone⟩,hin,hf2⟩ hfl
         ·have hex : ∃ e,e ∈ o.after /\ Region.binds .any e = true /\ ¬ listed.getD e.on false = true := by
           apply Classical.byContradiction
           intro hno
           exact hdone fun e he hb => Classical.byContradiction fun hq2 => hno ⟨e,he,hb,hq2⟩
          obtain ⟨e,he,hb,hq2⟩ := hex
          have h1 := (depB_spec hdep hin ho).1 e he hb
          exact ihk e.on (by omega) (by omega) (by simpa using hq2)
      obtain ⟨i,hi,hq⟩ := hpos
      exact key i i (Nat.le_refl _) hi hq
     refine ⟨fun h0 => absurd h0 hne,fun i hi => ?_⟩
     have hin : i < n := by
      rcases Nat.lt_or_ge i n with h1 | h1
      ·exact h1
      ·exfalso
       obtain ⟨_,oi,hoi,_⟩ := mem_ready.1 hi
       have hisz : i < l.toArray.size := (Array.getElem?_eq_some_iff.1 hoi).1
       simp only [Bool.or_eq_true,Bool.and_eq_true] at hsink
       rcases hsink with h2 | ⟨h2,h3⟩
       ·have := Nat.eq_of_beq_eq_true h2; omega
       ·obtain ⟨i0,hi0,hf0,hq0⟩ := hnf
        exact sinkF_waits h2 h3 (by omega) inv (n - i0) i0 rfl hi0 hf0 hq0 i h1 hi
     obtain ⟨o,ho,_,_⟩ := hop i hin
     cases hal : alO o with
     | false =>
      obtain ⟨hyb,hnext⟩ := step i hi hin o ho hal
      exact wpOp_quiet ho (hC w1 hEx) hyb hnext
     | true =>
      obtain ⟨hun,_⟩ := mem_ready.1 hi
      have hgd : o.guard = none /\ ∃ d,o.dst = some d := by
       unfold alO at hal
       split at hal
       ·rename_i h1 h2 h3; exact ⟨h2,_,h3⟩
       ·cases hal
      obtain ⟨hgd,d,hd⟩ := hgd
      have hdp := depB_spec hdep hin ho
      unfold wpOp
      simp only [ho]
      rw [if_pos (by simp [Region.wanted,hgd])]
      refine .inl ?_
      unfold Oper.wp
      rw [hZ i o hin ho hal b w1]
      show wpAny P .any l.toArray (calm Q) f (listed.setIfInBounds i true) (b.put o.dst _) _
      have hγlt : ∀ j,j < n -> listed.getD j false = true -> alB l.toArray j = true -> γ j < w1.heap.size := fun j h1 h2 h3 => (Array.getElem?_eq_some_iff.1 (hNw.1 j h1 h2 h3).2).1
      refine ih _ _ _ (fun j => if j = i then w1.heap.size else γ j) (inv.set hi hin) (hEx.alloc _) ⟨(put_defers _ _ _).trans hSl.d,(put_size _ _ _).trans hSl.sz,?_,?_,?_⟩ ⟨fun j h1 h2 h3 => ?_,fun i1 j1 h1 h2 h3 h4 h5 h6 h7 => ?_⟩ (hless i hi hin)
      ·rintro t ⟨j,oj,h1,h2,h3,h3',h4⟩
       rcases (hset i hi j).1 h2 with rfl | h5
       ·have : oj = o := Option.some.inj (h3.symm.trans ho)
        subst this
        rw [hal] at h3'; cases h3'
       ·have hji : j ≠ i := fun e => by subst e; rw [getD_both hun] at h5; cases h5
        rw [put_other (hdp.2.2 j oj t h1 hji h3 h4).1]
        exact hSl.q t ⟨j,oj,h1,h5,h3,h3',h4⟩
      ·intro t j oj h1 h2 h3 h4 h5 h6
       rcases (hset i hi j).1 h2 with rfl | h7
       ·have : oj = o := Option.some.inj (h3.symm.trans ho)
        subst this
        rw [h5]
        simp only [if_true]
        rw [put_size] at h6
        simp [Act.put,h6]
       ·have hji : j ≠ i := fun e => by subst e; rw [getD_both hun] at h7; cases h7
        rw [put_other (hdp.2.2 j oj t h1 hji h3 h5).1]
        rw [put_size] at h6
        rw [if_neg hji]
        exact hSl.al t j oj h1 h7 h3 h4 h5 h6
      ·intro t hno
       rw [put_other (hno i o hin ((hset i hi i).2 (.inl rfl)) ho)]
       exact hSl.no t fun j oj h1 h2 h3 => hno j oj h1 ((hset i hi j).2 (.inr h2)) h3
      ·show w.drew.heap.size <= (if j = i then w1.heap.size else γ j) /\ (w1.alloc (Z i)).heap[(if j = i then w1.heap.size else γ j)]? = some (Z j)
       by_cases hji : j = i
       ·subst hji
        rw [if_pos rfl]
        exact ⟨hEx.size,heap_alloc_new w1 (Z j)⟩
       ·rw [if_neg hji]
        have h7 := ((hset i hi j).1 h2).resolve_left hji
        obtain ⟨h8,h9⟩ := hNw.1 j h1 h7 h3
        exact ⟨h8,by rw [heap_alloc_old w1 _ (hγlt j h1 h7 h3)]; exact h9⟩
      ·change (if i1 = i then w1.heap.size else γ i1) = (if j1 = i then w1.heap.size else γ j1) at h7
       by_cases h8 : i1 = i <;> by_cases h9 : j1 = i
       ·rw [h8,h9]
       ·rw [if_pos h8,if_neg h9] at h7
        have := hγlt j1 h2 (((hset i hi j1).1 h4).resolve_left h9) h6
        omega
       ·rw [if_neg h8,if_pos h9] at h7
        have := hγlt i1 h1 (((hset i hi i1).1 h3).resolve_left h8) h5
        omega
       ·rw [if_neg h8,if_neg h9] at h7
        exact hNw.2 i1 j1 h1 h2 (((hset i hi i1).1 h3).resolve_left h8) (((hset i hi j1).1 h4).resolve_left h9) h5 h6 h7
 have inv0 : HeadInv .any l.toArray n (Array.replicate l.toArray.size false) :=
  ⟨by simp,fun j oj _ hl => (by rw [getD_replicate_false] at hl; cases hl),fun t _ ht => getD_in (by simpa using ht) (getD_replicate_false _ _)⟩
 have none0 : ∀ j,¬ (Array.replicate l.toArray.size false).getD j false = true := fun j h => by rw [getD_replicate_false] at h; cases h
 refine main l.toArray.size _ a _ (fun _ => 0) inv0 (World.Extends.refl w.drew) ⟨rfl,rfl,fun t ⟨j,o,_,h2,_⟩ => absurd h2 (none0 j),fun t j o _ h2 => absurd h2 (none0 j),fun _ _ => rfl⟩ ⟨fun j _ h2 => absurd h2 (none0 j),fun i j _ _ h3 => absurd h3 (none0 i)⟩ ?_
 have : (List.range n).countP (fun i => !(Array.replicate l.toArray.size false).getD i false) <= n := by
  have := List.countP_le_length (p := fun i => !(Array.replicate l.toArray.size false).getD i false) (l := List.range n)
  simpa using this
 omega
end
end Go.Rx
set_option linter.unusedVariables false
set_option linter.unusedSimpArgs false
namespace Go.Rx
open M
inductive X where
 | normal
 | exit (id : Nat)
 | ret
def X.to : X -> Exit
 | normal => .normal
 | exit id => .exit id
 | ret => .ret
abbrev SK := Nat -> List V -> List Blk -> T
abbrev EK := X -> SK
abbrev RK := Nat -> V -> List Blk -> T
abbrev Inl := FuncId -> Nat -> List V -> List Blk -> RK -> T
structure LoopI where
 keep : List Nat
 ints : List (Nat × Int × Int)
 cells : List (Nat × Nat × Int × Int)
 bools : List Nat := []
 accs : List (Nat × List CK × TypeId) := []
 rowz : List (Nat × List CK × Nat) := []
 rds : List (Nat × List CK) := []
def setB : List Blk -> Nat -> Blk -> List Blk
 | [],_,_ => []
 | _ :: r,0,b => b :: r
 | x :: r,i + 1,b => x :: setB r i b
theorem setB_eq : ∀ (l : List Blk) (i : Nat) (b : Blk),setB l i b = l.set i b
 | [],_,_ => rfl
 | _ :: _,0,_ => rfl
 | _ :: r,i + 1,b => by simp [setB,setB_eq r i b]
def quietB (cal : Cal) (dyn : Bool) (o : Oper) : Bool :=
 match o.op with
 | .alloc _ | .box _ _ | .store _ _ _ | .buildSlice _ _ _ | .makeSlice _ _ _ => false
 | .call c => match c.callee with
  | .value (.func f) => (cal f).isSome
  | .value (.tmp _) => dyn
  | .builtin .append => false
  | .builtin .clear => false
  | .builtin .copy => false
  | _ => true
 | _ => true
def repL (z : List A) (len : Nat) : List A := (List.range (len * z.length)).map fun i => (z[i % z.length]?).getD (.con undef)
def bsL (P : Program) (t : TypeId) (len : Nat) (parts : List (Nat × V)) : Option (List A × TypeId) :=
 match slcOf P t with
 | some e => match szB P e,zeroL P e with
  | some s,some z => cond (Nat.beq z.length s && Nat.blt 0 s && Nat.ble (len * s) 16777216) (match fillL (fun i => some (i * s,s)) (repL z len) parts with | some cs => some (cs,e) | none => none) none
  | _,_ => none
 | none => none
def headC (bl : List Blk) (b off k : Nat) : Option (List A) :=
 match bl[b]? with
 | some (cs,_) => cond (Nat.ble (off + k) cs.length && isOrd cs) (some ((cs.drop off).take k)) none
 | none => none
def growE (i : TypeInfo) (e : TypeId) (z : List A) (d : Option Tmp) (sLen sCap len : Nat) (olds news : List A) (n : Nat) (tm : List V) (bl : List Blk) (k : SK) : T :=
 cond (Nat.ble (sLen + len) 1000000 && Nat.ble (Builtin.nextslicecap (sLen + len) sCap * i.bytes) 281474976710656 && Nat.blt sCap (sLen + len) && Nat.blt 0 len && Nat.beq z.length i.size && Nat.blt 0 i.size && isOrd (olds ++ news) && isOrd (olds ++ news ++ z))
  (.both (k n (putV tm d (.w (.one (.slc bl.length 0 (sLen + len) (sLen + len))))) (bl ++ [(olds ++ news,(e,false))]))
    (k n (putV tm d (.osl bl.length (sLen + len) (sLen + len + 1))) (bl ++ [(olds ++ news ++ z,(e,true))]))) .stuck
def isNilB : V -> Bool
 | .w (.one (.con (.slice none 0 0))) => true
 | _ => false
def appE (P : Program) (d : Option Tmp) (t t' : TypeId) (s x : V) (n : Nat) (tm : List V) (bl : List Blk) (k : SK) : T :=
 match x,slcOf P t with
 | .w (.one (.slc b' off' len' _)),some e => match P.info? e,zeroL P e with
  | some i,some z => match headC bl b' off' (len' * i.size) with
   | some news => cond (!(Nat.beq t t')) .stuck <| cond (isNilB s) (growE i e z d 0 0 len' [] news n tm bl k) <| match s with
    | .w (.one (.slc b off len cap)) => match headC bl b off (len * i.size) with
     | some olds => growE i e z d len cap len' olds news n tm bl k
     | none => .stuck
    | .osl b len lo => match bl[b]? with
     | some (cs,ty) => cond (Nat.ble (len + len') lo && Nat.ble ((len + len') * i.size) cs.length && Nat.blt 0 (len' * i.size) && isOrd cs && isOrd (cs.take (len * i.size) ++ news ++ cs.drop (len * i.size + news.length))) (k n (putV tm d (.osl b (len + len') lo)) (setB bl b (cs.take (len * i.size) ++ news ++ cs.drop (len * i.size + news.length),ty))) .stuck
     | none => .stuck
    | _ => .stuck
   | none => .stuck
  | _,_ => .stuck
 | _,_ => .stuck
def shOk (sh : List CK) : Bool := Nat.ble sh.length 100 && Nat.blt 0 sh.length && sh.all fun c => match c with
 | .int _ lo hi => decide (-18446744073709551616 <= lo) && decide (hi <= 18446744073709551616)
 | _ => true
def indM (e : BE) : M Lin := fun n k => .ind n e (k (.var n) (n + 1))
def cellLinM (c : CK) (a : A) : M Lin :=
 match c,a with
 | .int k lo hi,.int k' x => cond (decide (k = k') && decide (lo <= x.lo) && decide (x.hi <= hi)) (pure x.l) fail
 | .str,.str l => pure l
 | .bool,.bool e => match e with
  | .lit v => pure (.const (cond v 1 0))
  | e => indM e
 | _,_ => fail
def rowLinM : List CK -> List A -> M (List Lin)
 | [],[] => pure []
 | c :: sh,a :: r => bind (cellLinM c a) fun l => bind (rowLinM sh r) fun ls => pure (l :: ls)
 | _,_ => fail
noncomputable def appRowsM (sh : List CK) : List (List A) -> Lin -> M Lin
 | [],c => pure c
 | row :: rs,c => bind (rowLinM sh row) fun ls => bind (fnM 23 (c :: ls) 0 RB) fun c' => appRowsM sh rs c'
def chunkA (w : Nat) : Nat -> List A -> List (List A)
 | 0,_ => []
 | k + 1,l => l.take w :: chunkA w k (l.drop w)
noncomputable def srcM (P : Program) (tx : TypeId) (sh : List CK) (bl : List Blk) (x : V) (base : Lin) : M (Lin × Lin) :=
 match x with
 | .w (.one (.slc b off len _)) => match headC bl b off (len * sh.length),slcOf P tx with
  | some cs,some _ => bind (chkM 23 [base,.const len]) fun _ => bind (appRowsM sh (chunkA sh.length len cs) base) fun c => pure (c,.const len)
  | _,_ => fail
 | .w (.one (.sl b sz o ro len _)) => match bl[b]?,slcOf P tx with
  | some ([.rows sh' off code capb kind],_),some _ => cond (Nat.blt 0 kind && shBeq sh sh' && Lin.beq o off && Nat.beq sz sh.length) (bind (chkM 22 [code,ro,ro.add len]) fun _ => bind (chkM 23 [base,len]) fun _ => bind (fnM 22 [code,ro,ro.add len] 0 RB) fun s => bind (fnM 24 [base,s] 0 RB) fun c => pure (c,len)) fail
  | _,_ => fail
 | .w (.one (.str l)) => match P.underlying tx with
  | some .string => cond (byteSh sh) (bind (fnM 0 [l] 0 9223372036854775807) fun len => bind (chkM 23 [base,len]) fun _ => bind (fnM 27 [l] 0 RB) fun s => bind (fnM 24 [base,s] 0 RB) fun c => pure (c,len)) fail
  | _ => fail
 | .w (.one (.con (.slice none 0 0))) => match slcOf P tx with
  | some _ => bind (chkM 23 [base,.const 0]) fun _ => pure (base,.const 0)
  | none => fail
 | _ => fail
def shOfV (bl : List Blk) : V -> Option (List CK)
 | .w (.one (.sl b _ _ _ _ _)) => match bl[b]? with
  | some ([.rows sh _ _ _ _],_) => some sh
  | _ => none
 | _ => none
def shOfZ : List A -> Option (List CK)
 | [] => some []
 | .int k _ :: r => (shOfZ r).map (.int k k.min k.max :: ·)
 | .str _ :: r => (shOfZ r).map (.str :: ·)
 | .bool _ :: r => (shOfZ r).map (.bool :: ·)
 | _ => none
def shOfV2 (bl : List Blk) (s x : V) (z : List A) : Option (List CK) := match shOfV bl x with
 | some sh => some sh
 | none => match s,x with
  | .w (.one (.slc ..)),.w (.one (.slc ..)) => shOfZ z
  | _,_ => none
def zcap : V -> Bool
 | .w (.one (.sl _ _ _ _ len cap)) => match len.isC,cap.isC with | some l,some c => decide (l = 0) && decide (c = 0) | _,_ => false
 | .w (.one (.slc _ _ len cap)) => Nat.beq len 0 && Nat.beq cap 0
 | .w (.one (.con (.slice none 0 0))) => true
 | _ => false
noncomputable def growK (kd : Nat) (e : TypeId) (d : Option Tmp) (sh : List CK) (code len : Lin) (n : Nat) (tm : List V) (bl : List Blk) (k : SK) : T :=
 .unk n (-1) 9223372036854775807 (k (n + 1) (putV tm d (.w (.one (.sl bl.length sh.length (.const 0) (.const 0) len (.var n))))) (bl ++ [([.rows sh (.const 0) code (.var n) kd],(e,false))]))
noncomputable def growR (e : TypeId) (d : Option Tmp) (sh : List CK) (code len : Lin) (n : Nat) (tm : List V) (bl : List Blk) (k : SK) : T :=
 .unk n (-1) 9223372036854775807 (k (n + 1) (putV tm d (.w (.one (.sl bl.length sh.length (.const 0) (.const 0) len (.var n))))) (bl ++ [([.rows sh (.const 0) code (.var n) 2],(e,false))]))
noncomputable def freshR (P : Program) (tx e : TypeId) (d : Option Tmp) (sh : List CK) (s x : V) (n : Nat) (tm : List V) (bl : List Blk) (k : SK) : T :=
 srcM P tx sh bl x (.const 0) n fun p n' => match p.2.isC with
  | some 0 => k n' (putV tm d s) bl
  | some _ => growR e d sh p.1 p.2 n' tm bl k
  | none => .br (.le p.2 (.const 0)) (k n' (putV tm d s) bl) (growR e d sh p.1 p.2 n' tm bl k)
def goodR (sh : List CK) (i : TypeInfo) (z : List A) : Bool := shOk sh && Nat.beq i.size sh.length && Nat.beq z.length sh.length && Nat.ble i.bytes 131072
noncomputable def appR (P : Program) (d : Option Tmp) (t t' : TypeId) (s x : V) (n : Nat) (tm : List V) (bl : List Blk) (k : SK) : Option T :=
 match slcOf P t with
 | none => none
 | some e => match P.info? e,zeroL P e with
  | some i,some z => match zcap s with
   | true => match shOfV2 bl s x z with
    | some sh => cond (goodR sh i z) (some (freshR P t' e d sh s x n tm bl k)) none
    | none => none
   | false => match s with
    | .w (.one (.sl b _ o ro len cap)) => match bl[b]? with
     | some ([.rows sh off code capb kind],bt) => cond (goodR sh i z && Nat.beq kind 2 && Lin.beq o (.const 0) && Lin.beq off (.const 0) && Lin.beq ro (.const 0) && Lin.beq cap capb && Nat.beq bt.1 e)
      (some (.chk 31 [code,len] (srcM P t' sh bl x code n fun p n' => growR e d sh p.1 (len.add p.2) n' tm (setB bl b ([.rows sh off code capb 0],bt)) k))) none
     | _ => none
    | _ => none
  | _,_ => none
noncomputable def stepR (P : Program) (o : Oper) (n : Nat) (tm : List V) (bl : List Blk) (k : SK) : Option T :=
 match o.op with
 | .call c => match c.callee with
  | .builtin .append => match c.args.toList,c.argTypes.toList with
   | [s,x],[t,t'] => appR P o.dst t t' (opV tm s) (opV tm x) n tm bl k
   | _,_ => none
  | _ => none
 | _ => none
def byteShape : List CK := [.int .u8 0 255]
noncomputable def stepW (P : Program) (o : Oper) (n : Nat) (tm : List V) (bl : List Blk) (k : SK) : Option T :=
 match o.op with
 | .store t p x => match opV tm p,opV tm x with
  | .w (.one (.ep b sz o' i j)),.w u => match bl[b]?,szB P t with
   | some ([.rows sh off code cap kind],bt),some s => cond (Nat.ble 2 kind && Nat.beq sz sh.length && Lin.beq o' off && Nat.beq u.cells.length s && Nat.blt 0 s && Nat.ble (j + s) sh.length && shOk sh)
    (some (chkM 21 [code,i] n fun _ n => asmM 67 [code,i,.const sh.length] n fun _ n => rowLinM ((sh.drop j).take s) u.cells n fun ls n => fnM 42 (code :: i :: .const j :: ls) 0 RB n fun code' n => k n (putV tm o.dst (.tup [])) (setB bl b ([.rows sh off code' cap kind],bt)))) none
   | _,_ => none
  | _,_ => none
 | .convert s d x => match opV tm x with
  | .w (.one (.str l)) => match P.underlying s,slcOf P d with
   | some .string,some e => match P.underlying e with
    | some (.int .u8) => some (fnM 27 [l] 0 RB n fun code n => fnM 0 [l] 0 9223372036854775807 n fun len n => growK 3 e o.dst byteShape code len n tm bl k)
    | _ => none
   | _,_ => none
  | _ => none
 | .makeSlice t x y => match slcOf P t,intL (opV tm x),intL (opV tm y) with
  | some e,some lx,some ly => match P.info? e with
   | some i => match i.zero with
    | some (.int .u8 z) => cond (Nat.beq i.size 1 && Nat.ble i.bytes 1024 && decide (z = 0)) (some (.chk 49 [lx,ly] (fnM 26 [lx,.const 0] 0 RB n fun code n => growK 2 e o.dst byteShape code lx n tm bl k))) none
    | _ => none
   | none => none
  | _,_,_ => none
 | _ => none
noncomputable def stepX (P : Program) (o : Oper) (n : Nat) (tm : List V) (bl : List Blk) (k : SK) : Option T :=
 match o.op with
 | .call c => match c.callee with
  | .builtin .clear => match c.args.toList,c.argTypes.toList with
   | [x],[t] => match opV tm x,slcOf P t with
    | .w (.one (.sl b sz o' ro len cap)),some e => match bl[b]?,zeroL P e with
     | some ([.rows sh off code capb kind],bt),some z => cond (Nat.ble 2 kind && Lin.beq o' off && Nat.beq sz sh.length && shOk sh && Nat.beq z.length sh.length)
      (some (chkM 65 [code,ro,len] n fun _ n => rowLinM sh z n fun ls n => fnM 61 (code :: ro :: len :: ls) 0 RB n fun code' n => k n (putV tm o.dst (.tup [])) (setB bl b ([.rows sh off code' capb kind],bt)))) none
     | _,_ => none
    | _,_ => none
   | _,_ => none
  | .builtin .copy => match c.args.toList,c.argTypes.toList with
   | [x,y],[t,t'] => match opV tm x,opV tm y,slcOf P t with
    | .w (.one (.sl b sz o' ro len cap)),.w (.one (.sl b2 sz2 o2 ro2 len2 cap2)),some e => match bl[b]?,bl[b2]?,szB P e with
     | some ([.rows sh off code capb kind],bt),some ([.rows sh2 off2 code2 capb2 kind2],_),some s => cond (Nat.ble 2 kind && Nat.blt 0 kind2 && Lin.beq o' off && Lin.beq o2 off2 && shBeq sh sh2 && Nat.beq sz sh.length && Nat.beq sz2 sh.length && Nat.beq s sh.length && shOk sh)
      (some (chkM 65 [code,ro,len] n fun _ n => chkM 22 [code2,ro2,ro2.add len2] n fun _ n => fnM 62 [len2,len] 0 9223372036854775807 n fun q n => fnM 22 [code2,ro2,ro2.add q] 0 RB n fun src n => fnM 63 [code,ro,src] 0 RB n fun code' n => k n (putV tm o.dst (.w (.one (.int .i64 ⟨q,0,9223372036854775807⟩)))) (setB bl b ([.rows sh off code' capb kind],bt)))) none
     | _,_,_ => none
    | _,_,_ => none
   | _,_ => none
  | _ => none
 | _ => none
def cloOf : V -> Option (Nat × List A)
 | .clo f caps => some (f,caps)
 | .w (.one (.con (.func (.func f) a b))) => cond (Nat.beq a.size 0 && Nat.beq b.size 0) (some (f,[])) none
 | _ => none
noncomputable def stepE0 (P : Program) (gl : Glo) (cal : Cal) (inl : Inl) (o : Oper) (n : Nat) (tm : List V) (bl : List Blk) (k : SK) : T :=
 match o.op with
 | .alloc t => match zeroL P t with
  | some cs => cond (isOrd cs) (k n (putV tm o.dst (.w (.one (.ptr bl.length 0)))) (bl ++ [(cs,(t,false))])) .stuck
  | none => .stuck
 | .box t x => match opV tm x with
  | .w u => cond (isOrd u.cells) (k n (putV tm o.dst (.w (.one (.ptr bl.length 0)))) (bl ++ [(u.cells,(t,false))])) .stuck
  | _ => .stuck
 | .buildSlice t len parts => match bsL P t len (parts.toList.map fun p => (p.1,opV tm p.2)) with
  | some (cs,e) => cond (isOrd cs) (k n (putV tm o.dst (.w (.one (.slc bl.length 0 len len)))) (bl ++ [(cs,(e,false))])) .stuck
  | none => .stuck
 | .store t p x => match opV tm p,opV tm x with
  | .w (.one (.ptr b off)),.w u => match bl[b]?,szB P t with
   | some (cs,bt),some s => cond (Nat.beq u.cells.length s && Nat.ble (off + s) cs.length && Nat.blt 0 s && isOrd cs && isOrd (cs.take off ++ u.cells ++ cs.drop (off + s))) (k n (putV tm o.dst (.tup [])) (setB bl b (cs.take off ++ u.cells ++ cs.drop (off + s),bt))) .stuck
   | _,_ => .stuck
  | _,_ => .stuck
 | .call c => match c.callee with
  | .value (.func f) => match cal f with
   | some _ => qop P cal gl bl tm o n fun v n' => k n' (putV tm o.dst v) bl
   | none => inl f n (c.args.toList.map (opV tm)) bl fun n' v bl' => k n' (putV tm o.dst v) bl'
  | .value (.tmp x) => match dynQ cal bl tm o with
   | some _ => qop P cal gl bl tm o n fun v n' => k n' (putV tm o.dst v) bl
   | none => match cloOf (opV tm (.tmp x)) with
   | some (f,caps) => inl f n (c.args.toList.map (opV tm) ++ caps.map fun y => V.w (.one y)) bl fun n' v bl' => k n' (putV tm o.dst v) bl'
   | none => .stuck
  | .builtin .append => match c.args.toList,c.argTypes.toList with
   | [s,x],[t,t'] => appE P o.dst t t' (opV tm s) (opV tm x) n tm bl k
   | _,_ => .stuck
  | _ => qop P cal gl bl tm o n fun v n' => k n' (putV tm o.dst v) bl
 | _ => qop P cal gl bl tm o n fun v n' => k n' (putV tm o.dst v) bl
noncomputable def stepE (P : Program) (gl : Glo) (cal : Cal) (inl : Inl) (o : Oper) (n : Nat) (tm : List V) (bl : List Blk) (k : SK) : T :=
 match stepR P o n tm bl k with
 | some t => t
 | none => match stepW P o n tm bl k with
  | some t => t
  | none => match stepX P o n tm bl k with
   | some t => t
   | none => stepE0 P gl cal inl o n tm bl k
def bndB : BE -> Bool -> Option (Lin × Option Int × Option Int)
 | .le p q,true => match p.isC,q.isC with | some c,none => some (q,some c,none) | none,some c => some (p,none,some c) | _,_ => none
 | .le p q,false => match p.isC,q.isC with | some c,none => some (q,none,some (c - 1)) | none,some c => some (p,some (c + 1),none) | _,_ => none
 | .lt p q,true => match p.isC,q.isC with | some c,none => some (q,some (c + 1),none) | none,some c => some (p,none,some (c - 1)) | _,_ => none
 | .lt p q,false => match p.isC,q.isC with | some c,none => some (q,none,some c) | none,some c => some (p,some c,none) | _,_ => none
 | .not b,v => bndB b (!v)
 | _,_ => none
def maxI (a : Int) : Option Int -> Int
 | some b => cond (decide (a <= b)) b a
 | none => a
def minI (a : Int) : Option Int -> Int
 | some b => cond (decide (b <= a)) b a
 | none => a
def cutV (b : BE) (v : Bool) (r : Option (Lin × Option Int × Option Int)) : V -> V
 | .w (.one (.bool e)) => .w (.one (.bool (cond (BE.beq e b) (.lit v) e)))
 | .w (.one (.int k x)) => match r with
  | some (l,lo,hi) => .w (.one (.int k (cond (Lin.beq x.l l) (cond (decide (maxI x.lo lo = minI x.hi hi)) (.const (maxI x.lo lo)) ⟨x.l,maxI x.lo lo,minI x.hi hi⟩) x)))
  | none => .w (.one (.int k x))
 | u => u
def subB (b : BE) (v : Bool) (l : List V) : List V := l.map (cutV b v (bndB b v))
def guardE (ops : Array Oper) (tm : List V) (o : Oper) (yes no : List V -> T) : T :=
 match o.guard with
 | none => yes tm
 | some (g,want) => match (ops[g]?).bind (·.dst) with
  | none => .stuck
  | some d => match tm[d]? with
   | some (.w (.one (.bool b))) => match b with
    | .lit v => cond (v == want) (yes tm) (no tm)
    | b => .br b (cond want (yes (subB b true tm)) (no (subB b true tm))) (cond want (no (subB b false tm)) (yes (subB b false tm)))
   | some (.tup []) => no tm
   | _ => .stuck
noncomputable def opsE (P : Program) (gl : Glo) (cal : Cal) (inl : Inl) (ops : Array Oper) : List Oper -> Nat -> List V -> List Blk -> SK -> T
 | [],n,tm,bl,k => k n tm bl
 | o :: r,n,tm,bl,k => guardE ops tm o (fun tm => stepE P gl cal inl o n tm bl fun n' tm' bl' => opsE P gl cal inl ops r n' tm' bl' k) (fun tm => opsE P gl cal inl ops r n (putV tm o.dst (.tup [])) bl k)
def allT (g : Nat -> T) : List Nat -> T
 | [] => .stuck
 | [i] => g i
 | i :: r => .both (g i) (allT g r)
noncomputable def headE (P : Program) (gl : Glo) (cal : Cal) (ops : Array Oper) : List Oper -> Nat -> List V -> List Blk -> (Nat -> List V -> T) -> T
 | [],n,tm,bl,k => k n tm
 | o :: r,n,tm,bl,k => cond (alO o) (headE P gl cal ops r n tm bl k) (guardE ops tm o (fun tm => qop P cal gl bl tm o n fun v n' => headE P gl cal ops r n' (putV tm o.dst v) bl k) (fun tm => headE P gl cal ops r n (putV tm o.dst (.tup [])) bl k))
def allocsE (P : Program) : List Oper -> Nat -> List V -> List Blk -> SK -> T
 | [],n,tm,bl,k => k n tm bl
 | o :: r,n,tm,bl,k => cond (alO o) (match o.op with
  | .alloc t => match zeroL P t with
   | some cs => cond (isOrd cs) (allocsE P r n (putV tm o.dst (.w (.one (.ptr bl.length 0)))) (bl ++ [(cs,(t,false))]) k) .stuck
   | none => .stuck
  | _ => .stuck) (allocsE P r n tm bl k)
def zeroOk (P : Program) (l : List Oper) : Bool := l.all fun o => !alO o || (match o.op with | .alloc t => (zeroL P t).isSome | _ => false)
def headLen (cal : Cal) (dyn : Bool) (ops : Array Oper) : List Tmp -> List Oper -> Nat
 | _,[] => 0
 | ds,o :: r => cond ((o.looksAt ops).any ds.contains) 0 <| cond (alO o) (headLen cal dyn ops (match o.dst with | some d => d :: ds | none => ds) r + 1) <| cond (quietB cal dyn o) (headLen cal dyn ops ds r + 1) 0
def headN (P : Program) (cal : Cal) (ops : Array Oper) : Nat :=
 cond (tailB ops (headLen cal false ops [] ops.toList) && zeroOk P (ops.toList.take (headLen cal false ops [] ops.toList))) (headLen cal false ops [] ops.toList) (headLen cal true ops [] ops.toList)
def firstR : Code -> Option Nat
 | .region id _ _ => some id
 | .seq a b => match firstR a with | some i => some i | none => firstR b
 | .block _ c | .loop c | .scope c => firstR c
 | .cond _ a b => match firstR a with | some i => some i | none => firstR b
 | _ => none
def conBeq : Value -> Value -> Bool
 | .pointer none,.pointer none => true
 | .slice none 0 0,.slice none 0 0 => true
 | .func (.func f) a b,.func (.func f') a' b' => Nat.beq f f' && Nat.beq a.size 0 && Nat.beq b.size 0 && Nat.beq a'.size 0 && Nat.beq b'.size 0
 | _,_ => false
def A.beq : A -> A -> Bool
 | .int k x,.int k' y => decide (k = k') && Lin.beq x.l y.l && x.lo == y.lo && x.hi == y.hi
 | .bool a,.bool b => BE.beq a b
 | .con a,.con b => conBeq a b
 | .ptr b o,.ptr b' o' => Nat.beq b b' && Nat.beq o o'
 | .gptr b o,.gptr b' o' => Nat.beq b b' && Nat.beq o o'
 | .slc b o l c,.slc b' o' l' c' => Nat.beq b b' && Nat.beq o o' && Nat.beq l l' && Nat.beq c c'
 | .str a,.str b => Lin.beq a b
 | .rows sh o c q k,.rows sh' o' c' q' k' => shBeq sh sh' && Lin.beq o o' && Lin.beq c c' && Lin.beq q q' && Nat.beq k k'
 | .sl b z o r l c,.sl b' z' o' r' l' c' => Nat.beq b b' && Nat.beq z z' && Lin.beq o o' && Lin.beq r r' && Lin.beq l l' && Lin.beq c c'
 | .ep b z o i j,.ep b' z' o' i' j' => Nat.beq b b' && Nat.beq z z' && Lin.beq o o' && Lin.beq i i' && Nat.beq j j'
 | _,_ => false
def beqL : List A -> List A -> Bool
 | [],[] => true
 | a :: r,b :: s => A.beq a b && beqL r s
 | _,_ => false
def V.beq : V -> V -> Bool
 | .w (.one a),.w (.one b) => A.beq a b
 | .w (.agg l),.w (.agg l') => beqL l l'
 | .tup [],.tup [] => true
 | .clo f l,.clo f' l' => Nat.beq f f' && beqL l l'
 | _,_ => false
def findI (i : Nat) : List (Nat × Int × Int) -> Option (Int × Int)
 | [] => none
 | (j,lo,hi) :: r => cond (Nat.beq i j) (some (lo,hi)) (findI i r)
noncomputable def hs (keep : List Nat) (ints : List (Nat × Int × Int)) : Nat -> Nat -> List V -> Option (List V × List Lin × List (Int × Int))
 | _,_,[] => some ([],[],[])
 | i,s,v :: r => cond (keep.any (Nat.beq i)) (match hs keep ints (i + 1) s r with | some (t,l,b) => some (v :: t,l,b) | none => none)
  (match findI i ints with
  | some (lo,hi) => match v with
   | .w (.one (.int k x)) => cond (decide (lo <= x.lo) && decide (x.hi <= hi)) (match hs keep ints (i + 1) (s + 1) r with | some (t,l,b) => some (.w (.one (.int k ⟨.var s,lo,hi⟩)) :: t,x.l :: l,(lo,hi) :: b) | none => none) none
   | .w (.one (.str x)) => (match hs keep ints (i + 1) (s + 1) r with | some (t,l,b) => some (.w (.one (.str (.var s))) :: t,x :: l,(0,HB) :: b) | none => none)
   | _ => none
  | none => match hs keep ints (i + 1) s r with | some (t,l,b) => some (.any :: t,l,b) | none => none)
noncomputable def cellH (lo hi : Int) (s : Nat) : A -> Option (A × Lin × (Int × Int))
 | .int k x => cond (decide (lo <= x.lo) && decide (x.hi <= hi)) (some (.int k ⟨.var s,lo,hi⟩,x.l,(lo,hi))) none
 | .str x => some (.str (.var s),x,(0,HB))
 | .rows sh off code cap k => some (.rows sh off (.var s) cap k,code,(0,RB))
 | _ => none
noncomputable def ha (ints : List (Nat × Int × Int)) : Nat -> Nat -> List A -> Option (List A × List Lin × List (Int × Int))
 | _,_,[] => some ([],[],[])
 | i,s,v :: r => match findI i ints with
  | some (lo,hi) => match cellH lo hi s v with
   | some (a,x,bd) => match ha ints (i + 1) (s + 1) r with | some (t,l,b) => some (a :: t,x :: l,bd :: b) | none => none
   | none => none
  | none => match ha ints (i + 1) s r with | some (t,l,b) => some (v :: t,l,b) | none => none
def cellsOf (b : Nat) : List (Nat × Nat × Int × Int) -> List (Nat × Int × Int)
 | [] => []
 | (b',c,q) :: r => cond (Nat.beq b b') ((c,q) :: cellsOf b r) (cellsOf b r)
noncomputable def hb (cells : List (Nat × Nat × Int × Int)) : Nat -> Nat -> List Blk -> Option (List Blk × List Lin × List (Int × Int))
 | _,_,[] => some ([],[],[])
 | i,s,(cs,ty) :: r => match ha (cellsOf i cells) 0 s cs with
  | some (c,l,b) => match hb cells (i + 1) (s + l.length) r with
   | some (t,l',b') => some ((c,ty) :: t,l ++ l',b ++ b')
   | none => none
  | none => none
def fitV : List V -> List V -> Bool
 | [],[] => true
 | .any :: r,_ :: s => fitV r s
 | v :: r,u :: s => V.beq v u && fitV r s
 | _,_ => false
def fitB : List Blk -> List Blk -> Bool
 | [],[] => true
 | (c,t) :: r,(c',t') :: s => beqL c c' && Nat.beq t.1 t'.1 && (t.2 == t'.2) && fitB r s
 | _,_ => false
def deadB : Blk := ([.rows [] (.const 0) (.const 0) (.const 0) 0],(0,false))
def frO (N : Nat) : Nat -> List Blk -> List Blk
 | _,[] => []
 | i,p :: r => cond (Nat.blt i N && isOrd p.1) p deadB :: frO N (i + 1) r
def heldO (N : Nat) (tm : List V) (bl : List Blk) (o : Oper) : Bool := match o.op with
 | .move _ | .assign _ | .extract _ _ | .fieldAddr .. => true
 | .load _ p => match opV tm p with
  | .w (.one (.ptr b _)) => Nat.blt b N && (match bl[b]? with | some p => isOrd p.1 | none => false)
  | _ => false
 | .slice _ x _ _ _ => match opV tm x with | .w (.one (.sl ..)) => true | _ => false
 | _ => false
def isStO (o : Oper) : Bool := match o.op with | .store .. => true | _ => false
def held1 (N : Nat) (tm : List V) (bl : List Blk) (ops : Array Oper) (listed : Array Bool) : Option Nat :=
 cond (Region.noSelect ops) ((Region.ready .any ops listed).find? fun i => (match ops[i]? with | some o => heldO N tm bl o | none => false) && Region.free .any ops listed i) none
def preB : List Blk -> List Blk -> Bool
 | (c,t) :: r,(c',t') :: s => beqL c c' && Nat.beq t.1 t'.1 && (t.2 == t'.2) && preB r s
 | [],_ => true
 | _,_ => false
noncomputable def anyE (P : Program) (gl : Glo) (cal : Cal) (inl : Inl) (ops : Array Oper) (N : Nat) (blF : List Blk) : Nat -> Array Bool -> Nat -> List V -> List Blk -> SK -> T
 | 0,listed,n,tm,bl,k => match Region.ready .any ops listed with
  | [] => k n tm bl
  | _ => .stuck
 | f + 1,listed,n,tm,bl,k => match Region.ready .any ops listed with
  | [] => k n tm bl
  | l => match held1 N tm bl ops listed with
   | some i => match ops[i]? with
    | none => .stuck
    | some o => guardE ops tm o (fun tm => qop P cal gl (frO N 0 bl) tm o n fun v n' => anyE P gl cal inl ops N blF f (listed.setIfInBounds i true) n' (putV tm o.dst v) bl k) (fun tm => anyE P gl cal inl ops N blF f (listed.setIfInBounds i true) n (putV tm o.dst (.tup [])) bl k)
   | none => allT (fun i => match ops[i]? with
    | none => .stuck
    | some o => guardE ops tm o (fun tm => stepE P gl cal inl o n tm bl fun n' tm' bl' => cond (preB blF (frO N 0 bl')) (anyE P gl cal inl ops N blF f (listed.setIfInBounds i true) n' tm' bl' k) .stuck) (fun tm => anyE P gl cal inl ops N blF f (listed.setIfInBounds i true) n (putV tm o.dst (.tup [])) bl k)) l
def heldN (ops : Array Oper) (bl : List Blk) : Nat := cond (ops.toList.any isStO) 0 bl.length
def looseO (o : Oper) : Bool := match o.op with | .move _ | .assign _ | .extract _ _ | .fieldAddr .. | .load .. | .slice .. => true | _ => false
def roundsE (body : Nat -> List V -> List Blk -> EK -> T) : Nat -> Nat -> List V -> List Blk -> EK -> T
 | 0,_,_,_,_ => .stuck
 | r + 1,n,tm,bl,k => body n tm bl fun x n' tm' bl' => match x with
  | .normal => roundsE body r n' tm' bl' k
  | x => k x n' tm' bl'
def accE (lo : Nat) : List (Nat × List CK × TypeId) -> List V -> List Blk -> List Nat -> Option (List Lin × List Nat)
 | [],_,_,used => some ([],used)
 | (s,sh,e) :: r,tm,bl,used => match tm[s]? with
  | some (.w (.one (.con (.slice none 0 0)))) => match accE lo r tm bl used with
   | some (l,u) => some (.const 0 :: .const 0 :: .const (-1) :: l,u)
   | none => none
  | some (.w (.one (.sl b sz o ro len cap))) => match bl[b]? with
   | some ([.rows sh' off code capb kind],t) => cond (shBeq sh sh' && Nat.beq kind 2 && Lin.beq o (.const 0) && Lin.beq off (.const 0) && Lin.beq ro (.const 0) && Lin.beq cap capb && Nat.beq t.1 e && Nat.beq sz sh.length && Nat.ble lo b && !(used.any (Nat.beq b)))
    (match accE lo r tm bl (b :: used) with
    | some (l,u) => some (code :: len :: cap :: l,u)
    | none => none) none
   | _ => none
  | _ => none
def killL : List Nat -> List Blk -> List Blk
 | [],bl => bl
 | b :: r,bl => match bl[b]? with
  | some ([.rows sh off code cap _],t) => killL r (setB bl b ([.rows sh off code cap 0],t))
  | _ => killL r bl
def fitM : List (Nat × Int × Int) -> List V -> M (List V)
 | [],tm => pure tm
 | (s,lo,hi) :: r,tm => match tm[s]? with
  | some (.w (.one (.int k x))) => cond (decide (lo <= x.lo) && decide (x.hi <= hi)) (fitM r tm) (bind (chkM 39 [x.l,.const lo,.const hi]) fun _ => fitM r (setV tm s (.w (.one (.int k ⟨x.l,lo,hi⟩)))))
  | _ => fitM r tm
def boolsM (tm : List V) : List Nat -> M (List Lin)
 | [] => pure []
 | s :: r => match tm[s]? with
  | some (.w (.one (.bool e))) => bind (match e with | .lit v => pure (.const (cond v 1 0)) | e => indM e) fun l => bind (boolsM tm r) fun ls => pure (l :: ls)
  | _ => fail
def headB : List Nat -> Nat -> List V -> List V
 | [],_,tm => tm
 | s :: r,v,tm => headB r (v + 1) (setV tm s (.w (.one (.bool (.eq (.var v) (.const 1))))))
def headA : List (Nat × List CK × TypeId) -> Nat -> List V -> List Blk -> List V × List Blk
 | [],_,tm,bl => (tm,bl)
 | (s,sh,e) :: r,v,tm,bl => headA r (v + 3) (setV tm s (.w (.one (.sl bl.length sh.length (.const 0) (.const 0) (.var (v + 1)) (.var (v + 2)))))) (bl ++ [([.rows sh (.const 0) (.var v) (.var (v + 2)) 2],(e,false))])
def boolBds (l : List Nat) : List (Int × Int) := l.map fun _ => (0,1)
noncomputable def accBds (l : List (Nat × List CK × TypeId)) : List (Int × Int) := l.flatMap fun _ => [(0,RB),(0,9223372036854775807),(-1,9223372036854775807)]
noncomputable def rowzM : List (Nat × List CK × Nat) -> List Blk -> M (List Blk)
 | [],bl => pure bl
 | (b,sh,c) :: r,bl => match bl[b]? with
  | some (C,t) => cond (isOrd C) (cond (!t.2 && Nat.beq C.length (c * sh.length) && shOk sh && Nat.ble c 1000000) (bind (appRowsM sh (chunkA sh.length c C) (.const 0)) fun code => rowzM r (setB bl b ([.rows sh (.const 0) code (.const c) 2],t))) fail) (rowzM r bl)
  | none => fail
def rdE : List (Nat × List CK) -> List V -> List Blk -> Option (List Lin)
 | [],_,_ => some []
 | (s,sh) :: r,tm,bl => match tm[s]? with
  | some (.w (.one (.con (.slice none 0 0)))) => match rdE r tm bl with
   | some l => some (.const 0 :: .const 0 :: .const (-1) :: l)
   | none => none
  | some (.w (.one (.sl b sz o ro len cap))) => match bl[b]? with
   | some ([.rows sh' off code capb kind],t) => cond (shBeq sh sh' && Nat.beq kind 1 && Lin.beq o off && Lin.beq ro (.const 0) && Lin.beq cap capb && Nat.beq sz sh.length)
    (match rdE r tm bl with
    | some l => some (code :: len :: cap :: l)
    | none => none) none
   | _ => none
  | _ => none
def natsM : Nat -> M Unit
 | 0 => pure ()
 | k + 1 => fun n κ => .nat n (natsM k (n + 1) κ)
def headD : List (Nat × List CK) -> Nat -> Nat -> List V -> List Blk -> List V × List Blk
 | [],_,_,tm,bl => (tm,bl)
 | (s,sh) :: r,v,u,tm,bl => headD r (v + 3) (u + 1) (setV tm s (.w (.one (.sl bl.length sh.length (.var u) (.const 0) (.var (v + 1)) (.var (v + 2)))))) (bl ++ [([.rows sh (.var u) (.var v) (.var (v + 2)) 1],(0,false))])
noncomputable def rdBds (l : List (Nat × List CK)) : List (Int × Int) := l.flatMap fun _ => [(0,RB),(0,9223372036854775807),(-1,9223372036854775807)]
noncomputable def loopE (li : LoopI) (body : Nat -> List V -> List Blk -> EK -> T) (n : Nat) (tm : List V) (bl : List Blk) (k : EK) : T :=
 rowzM li.rowz bl n fun bl n => fitM li.ints tm n fun tm n => boolsM tm li.bools n fun lb n => match hs li.keep li.ints 0 (n + 1) tm,accE 0 li.accs tm bl [],rdE li.rds tm bl with
 | some (tmH,l1,b1),some (la,us),some lr => match hb li.cells 0 (n + 1 + l1.length) (killL us bl) with
  | none => .stuck
  | some (blH,l2,b2) => cond (!(fitV tmH tmH && fitB blH blH)) .stuck <| .loop n (l1 ++ l2 ++ (lb ++ la ++ lr)) (n + 1) (b1 ++ b2 ++ (boolBds li.bools ++ accBds li.accs ++ rdBds li.rds))
   (natsM li.rds.length (n + 1 + l1.length + l2.length + (lb ++ la ++ lr).length) fun _ N =>
   let d := headD li.rds (n + 1 + l1.length + l2.length + (lb ++ la).length) (n + 1 + l1.length + l2.length + (lb ++ la ++ lr).length) (headB li.bools (n + 1 + l1.length + l2.length) tmH) blH
   let e := headA li.accs (n + 1 + l1.length + l2.length + lb.length) d.1 d.2
   body N e.1 e.2 fun x n' tm' bl' => match x with
   | .normal => fitM li.ints tm' n' fun tm' n' => boolsM tm' li.bools n' fun lb' n' => match hs li.keep li.ints 0 (n + 1) tm',accE bl.length li.accs tm' bl' [],rdE li.rds tm' bl' with
    | some (tmE,v1,_),some (la',_),some lr' => match hb li.cells 0 (n + 1 + v1.length) (bl'.take bl.length) with
     | none => .stuck
     | some (blE,v2,_) => cond (fitV tmH tmE && fitB blH blE) (.again n (v1 ++ v2 ++ (lb' ++ la' ++ lr'))) .stuck
    | _,_,_ => .stuck
   | x => k x n' tm' bl')
 | _,_,_ => .stuck
noncomputable def codeE (P : Program) (gl : Glo) (cal : Cal) (inl : Inl) (li : Nat -> Option LoopI) (rounds : Nat) : Code -> Nat -> List V -> List Blk -> EK -> T
 | .skip,n,tm,bl,k => k .normal n tm bl
 | .region _ ops draw,n,tm,bl,k => cond draw
  (let h := headN P cal ops
   cond (tailB ops h && zeroOk P (ops.toList.take h)) (headE P gl cal ops (ops.toList.take h) n tm bl fun n' tm' => allocsE P (ops.toList.take h) n' tm' bl fun n' tm' bl' => opsE P gl cal inl ops (ops.toList.drop h) n' tm' bl' (k .normal)) (cond (Nat.ble (ops.toList.filter fun o => !looseO o).length 6) (anyE P gl cal inl ops (heldN ops bl) (frO (heldN ops bl) 0 bl) ops.size (Array.replicate ops.size false) n tm bl (k .normal)) .stuck))
  (opsE P gl cal inl ops ops.toList n tm bl (k .normal))
 | .seq a b,n,tm,bl,k => codeE P gl cal inl li rounds a n tm bl fun x n' tm' bl' => match x with
  | .normal => codeE P gl cal inl li rounds b n' tm' bl' k
  | x => k x n' tm' bl'
 | .cond c a b,n,tm,bl,k => match opV tm c with
  | .w (.one (.bool e)) => match e with
   | .lit v => cond v (codeE P gl cal inl li rounds a n tm bl k) (codeE P gl cal inl li rounds b n tm bl k)
   | e => .br e (codeE P gl cal inl li rounds a n (subB e true tm) bl k) (codeE P gl cal inl li rounds b n (subB e false tm) bl k)
  | _ => .stuck
 | .block id c,n,tm,bl,k => codeE P gl cal inl li rounds c n tm bl fun x n' tm' bl' => match x with
  | .exit id' => cond (Nat.beq id' id) (k .normal n' tm' bl') (k (.exit id') n' tm' bl')
  | x => k x n' tm' bl'
 | .loop c,n,tm,bl,k => match (firstR c).bind li with
  | some l => loopE l (fun n tm bl k => codeE P gl cal inl li rounds c n tm bl k) n tm bl k
  | none => roundsE (fun n tm bl k => codeE P gl cal inl li rounds c n tm bl k) rounds n tm bl k
 | .exit id,n,tm,bl,k => k (.exit id) n tm bl
 | .ret,n,tm,bl,k => k .ret n tm bl
 | _,_,_,_,_ => .stuck
def resW (P : Program) (gl : Glo) (bl : List Blk) (tm : List V) : ResultVar -> Option W
 | .tmp t => match tm[t]? with | some (.w u) => some u | _ => none
 | .cell a t => match tm[a]? with
  | some (.w (.one p)) => match cellsAt bl gl p,isAggB P t,szB P t with
   | some cs,some true,some k => cond (Nat.ble k cs.length) (some (.agg (cs.take k))) none
   | some (x :: _),some false,_ => some (.one x)
   | _,_,_ => none
  | _ => none
def resL (P : Program) (gl : Glo) (bl : List Blk) (tm : List V) : List ResultVar -> Option (List W)
 | [] => some []
 | r :: s => match resW P gl bl tm r,resL P gl bl tm s with | some u,some l => some (u :: l) | _,_ => none
def resE (P : Program) (gl : Glo) (fn : Func) (n : Nat) (tm : List V) (bl : List Blk) (k : RK) : T :=
 match resL P gl bl tm fn.results.toList with
 | some [u] => k n (.w u) bl
 | some l => k n (.tup l) bl
 | none => .stuck
def replV : Nat -> List V
 | 0 => []
 | n + 1 => .tup [] :: replV n
noncomputable def bodyE (P : Program) (gl : Glo) (cal : Cal) (inl : Inl) (li : FuncId -> Nat -> Option LoopI) (rounds : Nat) : Inl :=
 fun f n vs bl k => match P.funcs[f]? with
  | none => .stuck
  | some fn => match fn.body with
   | none => .stuck
   | some c => cond (!(fn.name == "runtime.NumGoroutine") && Nat.ble vs.length fn.ntmps) (codeE P gl cal inl (li f) rounds c n (vs ++ replV (fn.ntmps - vs.length)) bl fun x n' tm' bl' => match x with
    | .exit _ => .stuck
    | _ => resE P gl fn n' tm' bl' k) .stuck
noncomputable def callE (P : Program) (gl : Glo) (cal : Cal) (li : FuncId -> Nat -> Option LoopI) (rounds : Nat) : Nat -> Inl
 | 0 => fun _ _ _ _ _ => .stuck
 | d + 1 => bodyE P gl cal (callE P gl cal li rounds d) li rounds
abbrev BC := FuncId -> Option (Nat -> List V -> List Blk -> RK -> T)
noncomputable def orB (bc : BC) (inl : Inl) : Inl := fun f n vs bl k => match bc f with
 | some g => g n vs bl k
 | none => inl f n vs bl k
noncomputable def callB (bc : BC) (P : Program) (gl : Glo) (cal : Cal) (li : FuncId -> Nat -> Option LoopI) (rounds : Nat) : Nat -> Inl
 | 0 => fun _ _ _ _ _ => .stuck
 | d + 1 => bodyE P gl cal (orB bc (callB bc P gl cal li rounds d)) li rounds
end Go.Rx
set_option linter.unusedVariables false
set_option linter.unusedSimpArgs false
namespace Go.Rx
open M
structure Later (n nb : Nat) (ρ : Env) (m : Nat -> Nat) (n' nb' : Nat) (ρ' : Env) (m' : Nat -> Nat) : Prop where
 hn : n <= n'
 ha : agree n ρ ρ'
 hb : nb <= nb'
 hm : ∀ b,b < nb -> m' b = m b
theorem Later.refl (n nb : Nat) (ρ : Env) (m : Nat -> Nat) : Later n nb ρ m n nb ρ m := ⟨Nat.le_refl _,agree.refl _ _,Nat.le_refl _,fun _ _ => rfl⟩
theorem Later.trans {n nb n1 nb1 n2 nb2 : Nat} {ρ ρ1 ρ2 : Env} {m m1 m2 : Nat -> Nat} (h : Later n nb ρ m n1 nb1 ρ1 m1) (h' : Later n1 nb1 ρ1 m1 n2 nb2 ρ2 m2) : Later n nb ρ m n2 nb2 ρ2 m2 :=
 ⟨Nat.le_trans h.hn h'.hn,h.ha.trans h'.ha h.hn,Nat.le_trans h.hb h'.hb,fun b hb => (h'.hm b (Nat.lt_of_lt_of_le hb h.hb)).trans (h.hm b hb)⟩
def AgA (n : Nat) (G G' : Again) : Prop := ∀ l,l < n -> G' l = G l
theorem AgA.refl (n : Nat) (G : Again) : AgA n G G := fun _ _ => rfl
theorem AgA.trans {n n' : Nat} {G G' G'' : Again} (h : AgA n G G') (h' : AgA n' G' G'') (hn : n <= n') : AgA n G G'' := fun l hl => (h' l (by omega)).trans (h l hl)
structure R (w0 : Base) (n : Nat) (ρ : Env) (m : Nat -> Nat) (tm : List V) (bl : List Blk) (a : Act) (w : World) : Prop where
 t : TRel n bl.length ρ m tm a.tmps
 d : a.defers = []
 b : BlOk n bl.length ρ bl
 mm : Mem w0 ρ m bl w
section
variable (S : Nat -> List Int -> List Int -> Prop) (L : V -> Env -> Prop) (w0 : Base)
def SKok (k : SK) (n nb : Nat) (ρ : Env) (m : Nat -> Nat) (G : Again) (K : Act -> World -> Prop) : Prop :=
 ∀ n' ρ' m' tm' bl' G' a' w',Later n nb ρ m n' (List.length bl') ρ' m' -> AgA n G G' -> R w0 n' ρ' m' tm' bl' a' w' -> (k n' tm' bl').holds S L G' ρ' -> K a' w'
def RKok (k : RK) (n nb : Nat) (ρ : Env) (m : Nat -> Nat) (G : Again) (R' : Ending -> World -> Prop) : Prop :=
 ∀ n' v bl' G' ρ' m' w' val,Later n nb ρ m n' (List.length bl') ρ' m' -> AgA n G G' -> V.ok n' bl'.length ρ' v -> v.rel ρ' m' val -> BlOk n' bl'.length ρ' bl' -> Mem w0 ρ' m' bl' w' -> (k n' v bl').holds S L G' ρ' -> R' (.returned val) w'
def InlOk (P : Program) (inl : Inl) : Prop :=
 ∀ f n vs bl k G ρ m w xs R',BlOk n (List.length bl) ρ bl -> Mem w0 ρ m bl w -> (∀ v ∈ vs,V.ok n bl.length ρ v) -> LRel ρ m vs xs -> (inl f n vs bl k).holds S L G ρ -> RKok S L w0 k n bl.length ρ m G R' ->
  (callFunc f xs.toArray).run P w = .ok (.enter f xs.toArray) w /\ Calls P f xs.toArray w R'
end
section
variable {S : Nat -> List Int -> List Int -> Prop} {L : V -> Env -> Prop} {w0 : Base} {P : Program} {gl : Glo} {cal : Cal} {inl : Inl}
theorem SKok.later {k : SK} {n nb n1 nb1 : Nat} {ρ ρ1 : Env} {m m1 : Nat -> Nat} {G G1 : Again} {K : Act -> World -> Prop} (h : SKok S L w0 k n nb ρ m G K) (hl : Later n nb ρ m n1 nb1 ρ1 m1) (hA : AgA n G G1) : SKok S L w0 k n1 nb1 ρ1 m1 G1 K :=
 fun n' ρ' m' tm' bl' G' a' w' h1 h2 h3 h4 => h n' ρ' m' tm' bl' G' a' w' (hl.trans h1) (hA.trans h2 hl.hn) h3 h4
def updM (m : Nat -> Nat) (nb g : Nat) : Nat -> Nat := fun b => if b = nb then g else m b
theorem updM_lt {m : Nat -> Nat} {nb g b : Nat} (h : b < nb) : updM m nb g b = m b := by simp [updM]; omega
theorem updM_same (m : Nat -> Nat) (nb g : Nat) : updM m nb g nb = g := by simp [updM]
theorem Mem.push {n : Nat} {ρ : Env} {m : Nat -> Nat} {bl : List Blk} {w : World} {x : Blk} {g : Nat} (h : Mem w0 ρ m bl w) (hb : BlOk n bl.length ρ bl) (hx : ∀ a ∈ x.1,A.ok n bl.length ρ a)
 (h1 : isOrd x.1 = true -> w0.b.heap.size <= g /\ (w0.ex g ∨ w0.r.heap.size <= g) /\ ∃ r : List Value,(x.2.2 = false -> r = []) /\ w.heap[g]? = some (.cells (x.1.map (A.den ρ m) ++ r).toArray x.2.1 (0,0)))
 (h2 : ∀ sh off code cap kind,x.1 = [.rows sh off code cap kind] -> RRel w0 ρ g sh off code cap kind x.2.1 w)
 (h3 : ∀ (i : Nat) (p : Blk),bl[i]? = some p -> m i = g -> (kindC ρ p.1 <= 1 /\ kindC ρ x.1 <= 1) ∨ kindC ρ p.1 = 0 ∨ kindC ρ x.1 = 0) :
 Mem w0 ρ (updM m bl.length g) (bl ++ [x]) w := by
 have hold : ∀ (i : Nat) (p : Blk),(bl ++ [x])[i]? = some p -> (i < bl.length /\ bl[i]? = some p) ∨ (i = bl.length /\ p = x) := fun i p hi => by
  rw [List.getElem?_append] at hi
  split at hi
  ·rename_i hil; exact .inl ⟨hil,hi⟩
  ·have : i = bl.length := by
    have := (List.getElem?_eq_some_iff.1 hi).1
    simp at this; omega
   subst this
   simp only [Nat.sub_self,List.getElem?_cons_zero,Option.some.injEq] at hi
   exact .inr ⟨rfl,hi.symm⟩
 refine ⟨h.ext,h.hos,h.htape,h.hout,h.hsize,h.frm,fun i cs' t' hi ho => ?_,fun i sh off code cap kind t' hi => ?_,fun i j p q hi hj he => ?_⟩
 ·rcases hold i _ hi with ⟨hil,hi⟩ | ⟨rfl,hi2⟩
  ·obtain ⟨g1,g1',r,hr,g2⟩ := h.blk i cs' t' hi ho
   rw [updM_lt hil]
   refine ⟨g1,g1',r,hr,?_⟩
   rw [map_den_ext (hb _ (List.mem_of_getElem? hi)) (agree.refl n ρ) (fun b hb => updM_lt hb)]
   exact g2
  ·subst hi2
   rw [updM_same]
   obtain ⟨g1,g1',r,hr,g2⟩ := h1 ho
   refine ⟨g1,g1',r,hr,?_⟩
   rw [map_den_ext hx (agree.refl n ρ) (fun b hb => updM_lt hb)]
   exact g2
 ·rcases hold i _ hi with ⟨hil,hi⟩ | ⟨rfl,hi2⟩
  ·rw [updM_lt hil]
   exact h.rws i sh off code cap kind t' hi
  ·subst hi2
   rw [updM_same]
   exact h2 sh off code cap kind rfl
 ·rcases hold i p hi with ⟨hil,hi1⟩ | ⟨rfl,hi2⟩ <;> rcases hold j q hj with ⟨hjl,hj1⟩ | ⟨rfl,hj2⟩
  ·rw [updM_lt hil,updM_lt hjl] at he
   exact h.inj i j p q hi1 hj1 he
  ·rw [updM_lt hil,updM_same] at he
   subst hj2
   exact .inr (h3 i p hi1 he)
  ·rw [updM_lt hjl,updM_same] at he
   subst hi2
   rcases h3 j q hj1 he.symm with h | h | h
   ·exact .inr (.inl ⟨h.2,h.1⟩)
   ·exact .inr (.inr (.inr h))
   ·exact .inr (.inr (.inl h))
  ·exact .inl rfl
theorem Mem.alloc {n : Nat} {ρ : Env} {m : Nat -> Nat} {bl : List Blk} {w : World} {cs : List A} {t : TypeId} {ex : List Value} {open_ : Bool} (h : Mem w0 ρ m bl w) (hb : BlOk n bl.length ρ bl) (hc : ∀ a ∈ cs,A.ok n bl.length ρ a) (hop : open_ = false -> ex = []) (hord : isOrd cs = true) :
 Mem w0 ρ (updM m bl.length w.heap.size) (bl ++ [(cs,(t,open_))]) (w.alloc (.cells (cs.map (A.den ρ m) ++ ex).toArray t)) := by
 refine (h.grow ((World.Extends.refl w).alloc _)).push hb hc (fun _ => ⟨h.ext.size,.inr h.hsize,ex,hop,heap_alloc_new w _⟩) (fun sh off code cap kind e => ?_) fun i p hi he => ?_
 ·simp only at e
  subst e
  cases hord
 ·by_cases hk : kindC ρ p.1 = 0
  ·exact .inr (.inl hk)
  ·have := h.lt hi hk; omega
theorem Mem.put {kd : Nat} {ρ : Env} {m : Nat -> Nat} {bl : List Blk} {w : World} {b : Nat} {sh : List CK} {off code cap code' : Lin} {t : TypeId × Bool} {cells row : Array Value} {fz : Nat × Nat} (h : Mem w0 ρ m bl w) (hkd : 2 <= kd) (hbl : bl[b]? = some ([.rows sh off code cap kd],t)) (hcap : 0 <= cap.den ρ)
 (hr : RRel w0 ρ (m b) sh off code' cap kd t.1 (w.setRow (m b) row)) : Mem w0 ρ m (setB bl b ([.rows sh off code' cap kd],t)) (w.setRow (m b) row) := by
 have hblen : b < bl.length := (List.getElem?_eq_some_iff.1 hbl).1
 have hkb : ∀ c,kindC ρ [.rows sh off c cap kd] = kd := fun c => kindC_rows (by omega) hcap
 obtain ⟨_,hl⟩ := h.rws b sh off code cap kd t hbl (by omega)
 obtain ⟨_,cells,tq,fz,_,_,h5⟩ := hl hcap
 obtain ⟨_,_,_,_,h1,h1'⟩ := h5 hkd
 have hset : ∀ (i : Nat) (p : Blk),(setB bl b ([.rows sh off code' cap kd],t))[i]? = some p -> (i = b /\ p = ([.rows sh off code' cap kd],t)) ∨ (i ≠ b /\ bl[i]? = some p) := fun i p hi => by
  rw [setB_eq,List.getElem?_set] at hi
  split at hi
  ·rename_i hbi
   subst hbi
   simp only [hblen,if_true,Option.some.injEq] at hi
   exact .inl ⟨rfl,hi.symm⟩
  ·rename_i hbi; exact .inr ⟨fun e => hbi e.symm,hi⟩
 refine ⟨h.ext.setRow (m b) _ h1,h.hos,h.htape,h.hout,by simp; exact h.hsize,fun i hi hx => ?_,fun i cs' t' hi ho => ?_,fun i sh' off' code' cap' kind' t' hi => ?_,fun i j p q hi hj he => ?_⟩
 ·rw [setRow_other w (m b) i _ (fun e => by
   subst e
   rcases h1' with h3 | h3
   ·exact hx h3
   ·omega)]
  exact h.frm i hi hx
 ·rcases hset i _ hi with ⟨rfl,hi2⟩ | ⟨hne,hi⟩
  ·cases hi2; cases ho
  ·obtain ⟨g1,g1',g2⟩ := h.blk i cs' t' hi ho
   exact ⟨g1,g1',by rw [setRow_other w (m b) (m i) _ (fun e => h.ne hbl hi (by rw [hkb]; exact hkd) (by rw [kind_ord ho]; decide) (fun e => hne e.symm) (by first | exact e | exact e.symm))]; exact g2⟩
 ·rcases hset i _ hi with ⟨rfl,hi2⟩ | ⟨hne,hi⟩
  ·cases hi2; exact hr
  ·exact (h.rws i sh' off' _ cap' kind' t' hi).grow fun hk hc => setRow_other w (m b) (m i) _ (fun e => h.ne hbl hi (by rw [hkb]; exact hkd) (by simp only [kindC_rows hk hc]; exact hk) (fun e => hne e.symm) (by first | exact e | exact e.symm))
 ·have hk : ∀ (i : Nat) (p : Blk),(setB bl b ([.rows sh off code' cap kd],t))[i]? = some p -> ∃ p',bl[i]? = some p' /\ kindC ρ p'.1 = kindC ρ p.1 := fun i p hi => by
   rcases hset i _ hi with ⟨rfl,hi2⟩ | ⟨hne,hi⟩
   ·exact ⟨_,hbl,by rw [hi2]; simp only [hkb]⟩
   ·exact ⟨p,hi,rfl⟩
  obtain ⟨p',hp,ep⟩ := hk i p hi
  obtain ⟨q',hq,eq⟩ := hk j q hj
  rw [<- ep,<- eq]
  exact h.inj i j p' q' hp hq he
theorem Mem.kill {ρ : Env} {m : Nat -> Nat} {bl : List Blk} {w : World} {b k : Nat} {sh : List CK} {off code cap : Lin} {t : TypeId × Bool} (h : Mem w0 ρ m bl w) (hbl : bl[b]? = some ([.rows sh off code cap k],t)) : Mem w0 ρ m (setB bl b ([.rows sh off code cap 0],t)) w := by
 have hblen : b < bl.length := (List.getElem?_eq_some_iff.1 hbl).1
 have hset : ∀ (i : Nat) (p : Blk),(setB bl b ([.rows sh off code cap 0],t))[i]? = some p -> (i = b /\ p = ([.rows sh off code cap 0],t)) ∨ (i ≠ b /\ bl[i]? = some p) := fun i p hi => by
  rw [setB_eq,List.getElem?_set] at hi
  split at hi
  ·rename_i hbi
   subst hbi
   simp only [hblen,if_true,Option.some.injEq] at hi
   exact .inl ⟨rfl,hi.symm⟩
  ·rename_i hbi; exact .inr ⟨fun e => hbi e.symm,hi⟩
 have hk0 : kindC ρ [.rows sh off code cap 0] = 0 := by simp [kindC]
 refine ⟨h.ext,h.hos,h.htape,h.hout,h.hsize,h.frm,fun i cs' t' hi ho => ?_,fun i sh' off' code' cap' kind' t' hi => ?_,fun i j p q hi hj he => ?_⟩
 ·rcases hset i _ hi with ⟨rfl,hi2⟩ | ⟨hne,hi⟩
  ·cases hi2; cases ho
  ·exact h.blk i cs' t' hi ho
 ·rcases hset i _ hi with ⟨rfl,hi2⟩ | ⟨hne,hi⟩
  ·cases hi2; exact fun hk => absurd rfl hk
  ·exact h.rws i sh' off' _ cap' kind' t' hi
 ·rcases hset i _ hi with ⟨rfl,hi2⟩ | ⟨hne,hi⟩
  ·exact .inr (.inr (.inl (by rw [hi2]; exact hk0)))
  ·rcases hset j _ hj with ⟨rfl,hj2⟩ | ⟨hne,hj⟩
   ·exact .inr (.inr (.inr (by rw [hj2]; exact hk0)))
   ·exact h.inj i j p q hi hj he
theorem Later.alloc (n : Nat) (ρ : Env) (m : Nat -> Nat) (bl : List Blk) (x : Blk) (g : Nat) : Later n bl.length ρ m n (bl ++ [x]).length ρ (updM m bl.length g) :=
 ⟨Nat.le_refl _,agree.refl _ _,by simp,fun b hb => updM_lt hb⟩
theorem BlOk.alloc {n : Nat} {ρ : Env} {bl : List Blk} {cs : List A} {t : TypeId × Bool} (hb : BlOk n bl.length ρ bl) (hc : ∀ a ∈ cs,A.ok n bl.length ρ a) : BlOk n (bl ++ [(cs,t)]).length ρ (bl ++ [(cs,t)]) := by
 intro p hp a ha
 rcases List.mem_append.1 hp with hp | hp
 ·exact (hb p hp a ha).ext (agree.refl n ρ) (Nat.le_refl _) (by simp)
 ·simp at hp; subst hp; exact (hc a ha).ext (agree.refl n ρ) (Nat.le_refl _) (by simp)
theorem R.alloc {n : Nat} {ρ : Env} {m : Nat -> Nat} {tm : List V} {bl : List Blk} {a : Act} {w : World} {cs : List A} {t : TypeId} (h : R w0 n ρ m tm bl a w) (hc : ∀ x ∈ cs,A.ok n bl.length ρ x) (dst : Option Tmp) (hord : isOrd cs = true) :
 R w0 n ρ (updM m bl.length w.heap.size) (putV tm dst (.w (.one (.ptr bl.length 0)))) (bl ++ [(cs,(t,false))]) (a.put dst (.pointer (some ⟨w.heap.size,0,none⟩))) (w.alloc (.cells (cs.map (A.den ρ m)).toArray t)) := by
 have hl := Later.alloc n ρ m bl (cs,(t,false)) w.heap.size
 have hmm := h.mm.alloc (t := t) (ex := []) (open_ := false) h.b hc (fun _ => rfl) hord
 rw [List.append_nil] at hmm
 exact ⟨TRel.put (h.t.ext hl.ha hl.hn hl.hb hl.hm) dst (by simp [V.ok,W.ok,A.ok]) (by simp [V.rel,W.den,A.den,updM_same]),by rw [put_defers]; exact h.d,h.b.alloc hc,hmm⟩
theorem R.row {n : Nat} {ρ : Env} {m : Nat -> Nat} {tm : List V} {bl : List Blk} {a : Act} {w : World} {cs : List A} {t : TypeId} {ex : List Value} {open_ : Bool} (h : R w0 n ρ m tm bl a w) (hc : ∀ x ∈ cs,A.ok n bl.length ρ x) (hop : open_ = false -> ex = []) (hord : isOrd cs = true) (dst : Option Tmp) {v : V} {x : Value}
 (hv : v.ok n (bl.length + 1) ρ) (hx : v.rel ρ (updM m bl.length w.heap.size) x) :
 R w0 n ρ (updM m bl.length w.heap.size) (putV tm dst v) (bl ++ [(cs,(t,open_))]) (a.put dst x) (w.alloc (.cells (cs.map (A.den ρ m) ++ ex).toArray t)) := by
 have hl := Later.alloc n ρ m bl (cs,(t,open_)) w.heap.size
 exact ⟨TRel.put (h.t.ext hl.ha hl.hn hl.hb hl.hm) dst (by simpa using hv) hx,by rw [put_defers]; exact h.d,h.b.alloc hc,h.mm.alloc h.b hc hop hord⟩
theorem Mem.storeCells {n : Nat} {ρ : Env} {m : Nat -> Nat} {bl : List Blk} {w : World} {b off : Nat} {cs l : List A} {bt : TypeId × Bool} (h : Mem w0 ρ m bl w) (hb : BlOk n bl.length ρ bl) (hl : ∀ a ∈ l,A.ok n bl.length ρ a)
 (hbl : bl[b]? = some (cs,bt)) (hfit : off + l.length <= cs.length) (ho1 : isOrd cs = true) (ho2 : isOrd (cs.take off ++ l ++ cs.drop (off + l.length)) = true) :
 ∃ w',(Go.storeCells ⟨m b,off,none⟩ (l.map (A.den ρ m))).run P w = .ok () w' /\ Mem w0 ρ m (setB bl b (cs.take off ++ l ++ cs.drop (off + l.length),bt)) w' := by
 obtain ⟨h1,h1',r,hr,h2⟩ := h.blk b cs bt hbl ho1
 have hst := run_storeCells_at P (m b) off bt.1 (l.map (A.den ρ m)) 0 (cs.map (A.den ρ m) ++ r).toArray w h2 (by simp; omega) (fun x hx => by
  obtain ⟨a,ha,rfl⟩ := List.mem_map.1 hx
  exact A.oneCell (hl a ha))
 have hsplit : ∀ k,k <= cs.length -> (cs.map (A.den ρ m) ++ r).take k = (cs.take k).map (A.den ρ m) /\ (cs.map (A.den ρ m) ++ r).drop k = (cs.drop k).map (A.den ρ m) ++ r := fun k hk => by
  refine ⟨?_,?_⟩
  ·rw [List.take_append_of_le_length (by simpa using hk),List.map_take]
  ·rw [List.drop_append_of_le_length (by simpa using hk),List.map_drop]
 refine ⟨w.setRow (m b) ((cs.take off ++ l ++ cs.drop (off + l.length)).map (A.den ρ m) ++ r).toArray,?_,?_⟩
 ·simp only [Nat.add_zero,List.length_map] at hst
  rw [hst]
  congr 3
  simp only [List.map_append,List.append_assoc]
  rw [(hsplit off (by omega)).1,(hsplit (off + l.length) (by omega)).2]
 ·have hblen : b < bl.length := (List.getElem?_eq_some_iff.1 hbl).1
  have hset : ∀ (i : Nat) (p : Blk),(setB bl b (cs.take off ++ l ++ cs.drop (off + l.length),bt))[i]? = some p -> (i = b /\ p = (cs.take off ++ l ++ cs.drop (off + l.length),bt)) ∨ (i ≠ b /\ bl[i]? = some p) := fun i p hi => by
   rw [setB_eq,List.getElem?_set] at hi
   split at hi
   ·rename_i hbi
    subst hbi
    simp only [hblen,if_true,Option.some.injEq] at hi
    exact .inl ⟨rfl,hi.symm⟩
   ·rename_i hbi; exact .inr ⟨fun e => hbi e.symm,hi⟩
  have hkb : kindC ρ cs = 2 := kind_ord ho1
  refine ⟨h.ext.setRow (m b) _ h1,h.hos,h.htape,h.hout,by simp; exact h.hsize,fun i hi hx => ?_,fun i cs' t' hi ho => ?_,fun i sh off' code cap kind t' hi => ?_,fun i j p q hi hj he => ?_⟩
  ·rw [setRow_other w (m b) i _ (fun e => by
    subst e
    rcases h1' with h3 | h3
    ·exact hx h3
    ·omega)]
   exact h.frm i hi hx
  ·rcases hset i _ hi with ⟨rfl,hi2⟩ | ⟨hne,hi⟩
   ·cases hi2
    exact ⟨h1,h1',r,hr,setRow_heap w (m i) _ _ _ _ h2⟩
   ·obtain ⟨g1,g1',g2⟩ := h.blk i cs' t' hi ho
    exact ⟨g1,g1',by rw [setRow_other w (m b) (m i) _ (fun e => h.ne hbl hi (by rw [hkb]; exact Nat.le_refl 2) (by rw [kind_ord ho]; decide) (fun e => hne e.symm) (by first | exact e | exact e.symm))]; exact g2⟩
  ·rcases hset i _ hi with ⟨rfl,hi2⟩ | ⟨hne,hi⟩
   ·have hi := (Prod.mk.inj hi2).1
    rw [<- hi] at ho2
    cases ho2
   ·exact (h.rws i sh off' code cap kind t' hi).grow fun hk hc => setRow_other w (m b) (m i) _ (fun e => h.ne hbl hi (by rw [hkb]; exact Nat.le_refl 2) (by simp only [kindC_rows hk hc]; exact hk) (fun e => hne e.symm) (by first | exact e | exact e.symm))
  ·have hk : ∀ (i : Nat) (p : Blk),(setB bl b (cs.take off ++ l ++ cs.drop (off + l.length),bt))[i]? = some p -> ∃ p',bl[i]? = some p' /\ kindC ρ p'.1 = kindC ρ p.1 := fun i p hi => by
    rcases hset i _ hi with ⟨rfl,hi2⟩ | ⟨hne,hi⟩
    ·exact ⟨_,hbl,by rw [hi2]; exact hkb.trans (kind_ord ho2).symm⟩
    ·exact ⟨p,hi,rfl⟩
   obtain ⟨p',hp,ep⟩ := hk i p hi
   obtain ⟨q',hq,eq⟩ := hk j q hj
   rw [<- ep,<- eq]
   exact h.inj i j p' q' hp hq he
theorem Mem.store {n : Nat} {ρ : Env} {m : Nat -> Nat} {bl : List Blk} {w : World} {b off : Nat} {cs l : List A} {bt : TypeId × Bool} (h : Mem w0 ρ m bl w) (hb : BlOk n bl.length ρ bl) (hl : ∀ a ∈ l,A.ok n bl.length ρ a)
 (hbl : bl[b]? = some (cs,bt)) (hfit : off + l.length <= cs.length) (hpos : 0 < l.length) (ho1 : isOrd cs = true) (ho2 : isOrd (cs.take off ++ l ++ cs.drop (off + l.length)) = true) (ty : TypeId) (hs : szB P ty = some l.length) (v : Value) (hv : v.cells = (l.map (A.den ρ m)).toArray) :
 ∃ w',(Instr.storeAt ty (.pointer (some ⟨m b,off,none⟩)) v).run P w = .ok () w' /\ Mem w0 ρ m (setB bl b (cs.take off ++ l ++ cs.drop (off + l.length),bt)) w' := by
 obtain ⟨w',hrun,hm'⟩ := h.storeCells (P := P) hb hl hbl hfit ho1 ho2
 refine ⟨w',?_,hm'⟩
 simp only [Instr.storeAt,Instr.sureAddr,Sem.run_bind,Sem.run_pure,Result.andThen_ok,storeVar,run_szB hs,hv]
 simp only [List.size_toArray,List.length_map,ne_eq,not_true_eq_false,if_false,Sem.run_pure,Result.andThen_ok]
 simp only [Sem.run_pure,Result.andThen_ok,hrun]
theorem setB_length (bl : List Blk) (b : Nat) (x : Blk) : (setB bl b x).length = bl.length := by rw [setB_eq]; simp
theorem BlOk.set {n : Nat} {ρ : Env} {bl : List Blk} {b : Nat} {cs : List A} {t : TypeId × Bool} (hb : BlOk n bl.length ρ bl) (hc : ∀ a ∈ cs,A.ok n bl.length ρ a) : BlOk n (setB bl b (cs,t)).length ρ (setB bl b (cs,t)) := by
 intro p hp a ha
 rw [setB_length]
 rw [setB_eq] at hp
 rcases List.mem_or_eq_of_mem_set hp with h | h
 ·exact hb p h a ha
 ·subst h; exact hc a ha
theorem zeroL_spec {t : TypeId} {cs : List A} (h : zeroL P t = some cs) : ∃ i z,P.info? t = some i /\ i.zero = some z /\ constL z.cells.toList = some cs := by
 unfold zeroL at h
 cases hi : P.info? t with
 | none => simp [hi] at h
 | some i =>
  cases hz : i.zero with
  | none => simp [hi,hz] at h
  | some z => simp only [hi,hz] at h; exact ⟨i,z,rfl,hz,h⟩
theorem getB_eq {Z : Array Value} {i : Nat} (h : i < Z.size) : Z[i]! = Z[i] := by simp [h]
theorem repL_spec {z : List A} {Z : Array Value} {n nb : Nat} {ρ : Env} {m : Nat -> Nat} (hz : z.map (A.den ρ m) = Z.toList) (hok : ∀ a ∈ z,A.ok n nb ρ a) (h0 : 0 < z.length) (len : Nat) :
 (∀ a ∈ repL z len,A.ok n nb ρ a) /\ ((repL z len).map (A.den ρ m)).toArray = (Array.range (len * Z.size)).map fun i => Z[i % Z.size]! := by
 have hl : Z.size = z.length := by have := congrArg List.length hz; simpa using this.symm
 have hi : ∀ i,i % z.length < z.length := fun i => Nat.mod_lt _ h0
 refine ⟨fun a ha => ?_,?_⟩
 ·obtain ⟨i,_,rfl⟩ := List.mem_map.1 ha
  rw [List.getElem?_eq_getElem (hi i)]
  exact hok _ (List.getElem_mem _)
 ·apply Array.ext'
  rw [Array.toList_map,Array.toList_range]
  simp only [repL,List.map_map,hl]
  refine List.map_congr_left fun i _ => ?_
  simp only [Function.comp]
  have h1 : i % z.length < Z.size := by rw [hl]; exact hi i
  rw [getB_eq h1,List.getElem?_eq_getElem (hi i)]
  simp only [Option.getD_some]
  have h2 := congrArg (fun l => l[i % z.length]?) hz
  simp only [List.getElem?_map,List.getElem?_eq_getElem (hi i),Option.map_some] at h2
  rw [Array.getElem?_toList,Array.getElem?_eq_getElem h1] at h2
  simpa using h2
theorem bsL_spec {t : TypeId} {len n : Nat} {ρ : Env} {m : Nat -> Nat} {bl : List Blk} {parts : List (Nat × V)} {vals : Array (Nat × Value)} {cs : List A} {e : TypeId} (h : bsL P t len parts = some (cs,e)) (hr : PRel n bl.length ρ m parts vals.toList) :
 (∀ a ∈ cs,A.ok n bl.length ρ a) /\ ∀ w,(Instr.buildSlice t len vals).run P w = .ok (.slice (some ⟨w.heap.size,0,none⟩) len len) (w.alloc (.cells (cs.map (A.den ρ m)).toArray e)) := by
 unfold bsL at h
 cases h1 : slcOf P t with
 | none => simp [h1] at h
 | some e' =>
  simp only [h1] at h
  cases h2 : szB P e' with
  | none => simp [h2] at h
  | some s =>
   cases h3 : zeroL P e' with
   | none => simp [h2,h3] at h
   | some z =>
    simp only [h2,h3] at h
    cases hc : (Nat.beq z.length s && Nat.blt 0 s && Nat.ble (len * s) 16777216) with
    | false => simp [hc] at h
    | true =>
     simp only [hc,cond_true] at h
     simp only [Bool.and_eq_true] at hc
     have c1 := Nat.eq_of_beq_eq_true hc.1.1
     have c2 := blt_lt hc.1.2
     have c3 := Nat.le_of_ble_eq_true hc.2
     cases h4 : fillL (fun i => some (i * s,s)) (repL z len) parts with
     | none => simp [h4] at h
     | some l =>
      simp only [h4,Option.some.injEq,Prod.mk.injEq] at h
      obtain ⟨rfl,rfl⟩ := h
      obtain ⟨inf,zv,hi,hzz,hcl⟩ := zeroL_spec h3
      have hcz := constL_spec hcl n bl.length ρ m
      have hrep := repL_spec (Z := zv.cells) hcz.2 hcz.1 (by omega) len
      have hZ : zv.cells.size = s := by have := congrArg List.length hcz.2; simp at this; omega
      obtain ⟨g1,g2⟩ := fillL_spec (m := m) h4 hrep.1 hr
      refine ⟨g1,fun w => ?_⟩
      rw [hrep.2,hZ] at g2
      have hn : ¬ (16777216 < len * s) := by omega
      by_cases hl0 : len = 0
      ·subst hl0
       have g3 : Instr.fill (fun i => some (i * s,s)) ((Array.range (0 * s)).map fun i => (#[] : Array Value)[i % (#[] : Array Value).size]!) vals.toList = some (l.map (A.den ρ m)).toArray := by
        rw [<- g2]; congr 1; simp
       simp [Instr.buildSlice,run_underlying (slcOf_spec h1),run_szB h2] at g3 ⊢
       simp [g3,newRow]
      ·have hne : ¬ (len * s = 0) := by
        intro h0
        rcases Nat.mul_eq_zero.1 h0 with h0 | h0 <;> omega
       have hlen0 : ¬ (s = 0) := by omega
       simp [Instr.buildSlice,run_underlying (slcOf_spec h1),run_szB h2,hn,hne,hl0,hlen0,zeroValue,typeInfo,hi,hzz,hZ,g2,newRow]
theorem zeroCells_succ {Z : Array Value} {k : Nat} (h : 0 < Z.size) : ∃ r : List Value,Builtin.zeroCells Z (k + 1) = (Z.toList ++ r).toArray := by
 refine ⟨(Builtin.zeroCells Z (k + 1)).toList.drop Z.size,?_⟩
 apply Array.ext'
 have : (Builtin.zeroCells Z (k + 1)).toList.take Z.size = Z.toList := by
  apply List.ext_getElem?
  intro i
  rw [List.getElem?_take]
  by_cases hi : i < Z.size
  ·have h1 : i < (k + 1) * Z.size := Nat.lt_of_lt_of_le hi (by rw [Nat.succ_mul]; omega)
   rw [if_pos hi]
   simp only [Builtin.zeroCells,Array.toList_map,Array.toList_range,List.getElem?_map,List.getElem?_range h1,Option.map_some,Nat.mod_eq_of_lt hi]
   rw [getB_eq hi,Array.getElem?_toList,Array.getElem?_eq_getElem hi]
  ·rw [if_neg hi,List.getElem?_eq_none (by simpa using hi)]
 conv => lhs; rw [<- List.take_append_drop Z.size (Builtin.zeroCells Z (k + 1)).toList,this]
theorem headC_spec {w : World} {n : Nat} {ρ : Env} {m : Nat -> Nat} {bl : List Blk} {b off k : Nat} {cs : List A} (hm : Mem w0 ρ m bl w) (hb : BlOk n bl.length ρ bl) (h : headC bl b off k = some cs) :
 cs.length = k /\ (∀ a ∈ cs,A.ok n bl.length ρ a) /\ ∀ j v,(cs.map (A.den ρ m))[j]? = some v -> w.cell? ((⟨m b,off,none⟩ : Addr).add j) = some v := by
 unfold headC at h
 cases hbl : bl[b]? with
 | none => simp [hbl] at h
 | some q =>
  obtain ⟨C,t⟩ := q
  simp only [hbl] at h
  cases hc : (Nat.ble (off + k) C.length && isOrd C) with
  | false => simp [hc] at h
  | true =>
   simp only [hc,cond_true,Option.some.injEq] at h
   simp only [Bool.and_eq_true] at hc
   have hle := Nat.le_of_ble_eq_true hc.1
   subst h
   obtain ⟨_,_,r,_,h2⟩ := hm.blk b C t hbl hc.2
   refine ⟨by simp; omega,fun a ha => hb _ (List.mem_of_getElem? hbl) a (List.mem_of_mem_drop (List.mem_of_mem_take ha)),fun j v hj => ?_⟩
   rw [addr_add]
   rw [List.getElem?_map,List.getElem?_take] at hj
   split at hj
   ·rename_i hjk
    rw [List.getElem?_drop] at hj
    cases hq : C[off + j]? with
    | none => simp [hq] at hj
    | some y =>
     simp only [hq,Option.map_some,Option.some.injEq] at hj
     have hlt : off + j < C.length := (List.getElem?_eq_some_iff.1 hq).1
     simp only [World.cell?,h2,Option.isSome_none,Bool.false_eq_true,if_false,List.getElem?_toArray]
     rw [List.getElem?_append_left (by simpa using hlt),List.getElem?_map,hq]
     simp [hj]
   ·simp at hj
theorem growE_wp {n : Nat} {ρ : Env} {m : Nat -> Nat} {tm : List V} {bl : List Blk} {a : Act} {w : World} {G : Again} {K : Act -> World -> Prop} {k : SK} {i : TypeInfo} {e : TypeId} {z : List A} {d : Option Tmp} {sLen sCap len : Nat} {olds news : List A} {Z : Array Value}
 (h : R w0 n ρ m tm bl a w) (ho : ∀ a ∈ olds,A.ok n bl.length ρ a) (hn : ∀ a ∈ news,A.ok n bl.length ρ a) (hz : ∀ a ∈ z,A.ok n bl.length ρ a) (hZ : z.map (A.den ρ m) = Z.toList) (hh : (growE i e z d sLen sCap len olds news n tm bl k).holds S L G ρ) (hk : SKok S L w0 k n bl.length ρ m G K) :
 (sLen + len <= 1000000 /\ Builtin.nextslicecap (sLen + len) sCap * i.bytes <= 281474976710656 /\ sCap < sLen + len /\ 0 < len) /\
 K (a.put d (.slice (some ⟨w.heap.size,0,none⟩) (sLen + len) (grownCap w (sLen + len) sCap e))) (w.drew.alloc (.cells ((olds.map (A.den ρ m)).toArray ++ (news.map (A.den ρ m)).toArray ++ Builtin.zeroCells Z (grownCap w (sLen + len) sCap e - (sLen + len))) e)) := by
 unfold growE at hh
 cases hc : (Nat.ble (sLen + len) 1000000 && Nat.ble (Builtin.nextslicecap (sLen + len) sCap * i.bytes) 281474976710656 && Nat.blt sCap (sLen + len) && Nat.blt 0 len && Nat.beq z.length i.size && Nat.blt 0 i.size && isOrd (olds ++ news) && isOrd (olds ++ news ++ z)) with
 | false => rw [hc] at hh; exact hh.elim
 | true =>
  simp only [hc,cond_true,T.holds] at hh
  simp only [Bool.and_eq_true] at hc
  obtain ⟨⟨hc,ho1⟩,ho2⟩ := hc
  have c1 := Nat.le_of_ble_eq_true hc.1.1.1.1.1
  have c2 := Nat.le_of_ble_eq_true hc.1.1.1.1.2
  have c3 := blt_lt hc.1.1.1.2
  have c4 := blt_lt hc.1.1.2
  have c5 := Nat.eq_of_beq_eq_true hc.1.2
  have c6 := blt_lt hc.2
  refine ⟨⟨c1,c2,c3,c4⟩,?_⟩
  have hsz : Z.size = z.length := by have := congrArg List.length hZ; simpa using this.symm
  have hge : sLen + len <= grownCap w (sLen + len) sCap e := by unfold grownCap Question.cut; exact Nat.le_add_right _ _
  generalize grownCap w (sLen + len) sCap e = c at hge ⊢
  have hdrew : R w0 n ρ m tm bl a w.drew := ⟨h.t,h.d,h.b,h.mm.grow (World.Extends.drew (World.Extends.refl w))⟩
  by_cases hce : c = sLen + len
  ·subst hce
   have hzc : Builtin.zeroCells Z (sLen + len - (sLen + len)) = #[] := by simp [Builtin.zeroCells]
   rw [hzc]
   have hR := R.row (t := e) (cs := olds ++ news) (ex := []) (open_ := false) hdrew (fun x hx => (List.mem_append.1 hx).elim (ho x) (hn x)) (fun _ => rfl) ho1 d (v := .w (.one (.slc bl.length 0 (sLen + len) (sLen + len)))) (x := .slice (some ⟨w.heap.size,0,none⟩) (sLen + len) (sLen + len)) (by simp [V.ok,W.ok,A.ok]) (by
    show Value.slice (some ⟨w.heap.size,0,none⟩) _ _ = _
    simp [W.den,A.den,updM_same])
   have := hk n ρ _ _ _ G _ _ (Later.alloc n ρ m bl (olds ++ news,(e,false)) w.heap.size) (AgA.refl _ _) hR hh.1
   simpa [List.map_append] using this
  ·obtain ⟨q,hq⟩ : ∃ q,c - (sLen + len) = q + 1 := ⟨c - (sLen + len) - 1,by omega⟩
   rw [hq]
   obtain ⟨r,hr⟩ := zeroCells_succ (Z := Z) (k := q) (by omega)
   rw [hr,<- hZ]
   have hR := R.row (t := e) (cs := olds ++ news ++ z) (ex := r) (open_ := true) hdrew (fun x hx => (List.mem_append.1 hx).elim (fun hx => (List.mem_append.1 hx).elim (ho x) (hn x)) (hz x)) (fun h => by cases h) ho2 d (v := .osl bl.length (sLen + len) (sLen + len + 1)) (x := .slice (some ⟨w.heap.size,0,none⟩) (sLen + len) c) (by simp [V.ok]) ⟨c,by omega,by
    rw [updM_same]; rfl⟩
   have := hk n ρ _ _ _ G _ _ (Later.alloc n ρ m bl (olds ++ news ++ z,(e,true)) w.heap.size) (AgA.refl _ _) hR hh.2
   simpa [List.map_append] using this
theorem appE_wp {n : Nat} {ρ : Env} {m : Nat -> Nat} {tm : List V} {bl : List Blk} {a : Act} {w : World} {G : Again} {o : Oper} {K : Act -> World -> Prop} {Q : Exit -> Act -> World -> Prop} {k : SK} {c : Call} {s x : Operand} {t t' : TypeId}
 (h : R w0 n ρ m tm bl a w) (hop : o.op = .call c) (hcl : c.callee = .builtin .append) (hxs : c.args.toList = [s,x]) (hts : c.argTypes.toList = [t,t'])
 (hh : (appE P o.dst t t' (opV tm s) (opV tm x) n tm bl k).holds S L G ρ) (hk : SKok S L w0 k n bl.length ρ m G K) : o.wp P a w K Q := by
 have a1 : c.args = #[s,x] := by rw [<- Array.toArray_toList (xs := c.args),hxs]
 have a2 : c.argTypes = #[t,t'] := by rw [<- Array.toArray_toList (xs := c.argTypes),hts]
 have hex : execOp a.eval o = (do pure (Next.value (<- Builtin.append_ #[t,t'] o.type #[a.eval s,a.eval x]))) := by
  simp [execOp,hop,resolve,hcl,a1,a2,invoke,builtin]
 have hwp : ∀ v w',(Builtin.append_ #[t,t'] o.type #[a.eval s,a.eval x]).run P w = .ok v w' -> K (a.put o.dst v) w' -> o.wp P a w K Q := fun v w' h1 h2 => by
  unfold Oper.wp
  simp only [hex,Sem.run_bind,h1,Result.andThen_ok,Sem.run_pure]
  exact h2
 have hs := opV_spec h.t s
 have hx := opV_spec h.t x
 unfold appE at hh
 split at hh
 ·rename_i b' off' len' cap' e hxv hse
  rw [hxv] at hx
  have hxr : a.eval x = .slice (some ⟨m b',off',none⟩) len' cap' := hx.2
  split at hh
  ·rename_i i z hi hz
   split at hh
   ·rename_i news hnews
    obtain ⟨n1,n2,n3⟩ := headC_spec h.mm h.b hnews
    cases htt : Nat.beq t t' with
    | false => simp [htt,T.holds] at hh
    | true =>
     have htt := Nat.eq_of_beq_eq_true htt
     subst htt
     simp only [Nat.beq_refl,Bool.not_true,cond_false] at hh
     obtain ⟨inf,zv,hi',hzz,hcz⟩ := zeroL_spec hz
     rw [hi] at hi'
     simp only [Option.some.injEq] at hi'
     subst hi'
     have hcz := constL_spec hcz n bl.length ρ m
     cases hnil : isNilB (opV tm s) with
     | true =>
      simp only [hnil,cond_true] at hh
      have hsr : a.eval s = .slice none 0 0 := by
       unfold isNilB at hnil
       split at hnil
       ·rename_i hv
        rw [hv] at hs
        exact hs.2
       ·cases hnil
      obtain ⟨⟨c1,c2,c3,c4⟩,c5⟩ := growE_wp (Z := zv.cells) h (fun _ h => by simp at h) n2 hcz.1 hcz.2 hh hk
      simp only [Nat.zero_add] at c1 c2 c3 c4 c5
      refine hwp _ _ ?_ c5
      rw [hsr,hxr,run_append_nil w t _ e i zv (slcOf_spec hse) hi hzz ⟨m b',off',none⟩ len' cap' (news.map (A.den ρ m)) (by simpa using n1) n3 c4 (by omega) (by rw [nextslicecap_zero c4] at c2; exact c2)]
      simp
     | false =>
      simp only [hnil,cond_false] at hh
      split at hh
      ·rename_i b off len cap hsv
       rw [hsv] at hs
       have hsr : a.eval s = .slice (some ⟨m b,off,none⟩) len cap := hs.2
       split at hh
       ·rename_i olds hold
        obtain ⟨o1,o2,o3⟩ := headC_spec h.mm h.b hold
        obtain ⟨⟨c1,c2,c3,c4⟩,c5⟩ := growE_wp (Z := zv.cells) h o2 n2 hcz.1 hcz.2 hh hk
        refine hwp _ _ ?_ c5
        rw [hsr,hxr,run_append_grow w t _ e i zv (slcOf_spec hse) hi hzz ⟨m b,off,none⟩ len cap (olds.map (A.den ρ m)) (by simpa using o1) o3 ⟨m b',off',none⟩ len' cap' (news.map (A.den ρ m)) (by simpa using n1) n3 c3 (by omega) c2]
       ·exact hh.elim
      ·rename_i b len lo hsv
       rw [hsv] at hs
       obtain ⟨cp,hcp,hsr⟩ := hs.2
       split at hh
       ·rename_i cs ty hbl
        cases hc : (Nat.ble (len + len') lo && Nat.ble ((len + len') * i.size) cs.length && Nat.blt 0 (len' * i.size) && isOrd cs && isOrd (cs.take (len * i.size) ++ news ++ cs.drop (len * i.size + news.length))) with
        | false => rw [hc] at hh; exact hh.elim
        | true =>
         simp only [hc,cond_true] at hh
         simp only [Bool.and_eq_true] at hc
         obtain ⟨⟨hc,ho1⟩,ho2⟩ := hc
         have c1 := Nat.le_of_ble_eq_true hc.1.1
         have c2 := Nat.le_of_ble_eq_true hc.1.2
         have c3 := blt_lt hc.2
         obtain ⟨w',hrun,hm'⟩ := h.mm.storeCells (P := P) (off := len * i.size) (l := news) h.b n2 hbl (by rw [n1,<- Nat.add_mul]; exact c2) ho1 ho2
         have hok : ∀ a ∈ cs.take (len * i.size) ++ news ++ cs.drop (len * i.size + news.length),A.ok n bl.length ρ a := fun a ha => by
          have hcs := h.b _ (List.mem_of_getElem? hbl)
          rcases List.mem_append.1 ha with ha | ha
          ·rcases List.mem_append.1 ha with ha | ha
           ·exact hcs a (List.mem_of_mem_take ha)
           ·exact n2 a ha
          ·exact hcs a (List.mem_of_mem_drop ha)
         have hblt : b < bl.length := (List.getElem?_eq_some_iff.1 hbl).1
         refine hwp (.slice (some ⟨m b,0,none⟩) (len + len') cp) w' ?_ (hk n ρ m _ _ G _ w' ⟨Nat.le_refl _,agree.refl _ _,by rw [setB_length]; exact Nat.le_refl _,fun _ _ => rfl⟩ (AgA.refl _ _) ⟨?_,by rw [put_defers]; exact h.d,h.b.set hok,hm'⟩ hh)
         ·have hfn := run_firstCells_some (P := P) w i.size len' ⟨m b',off',none⟩ len' cap' (news.map (A.den ρ m)) (by simpa using n1) n3
          have hle : len + len' <= cp := by omega
          rw [hsr,hxr]
          simp [Builtin.append_,run_underlying (slcOf_spec hse),sizeOf,typeInfo,hi,Builtin.lenOf,hle,hfn,addr_add,hrun]
         ·rw [setB_length]
          exact TRel.put h.t o.dst hblt ⟨cp,by omega,rfl⟩
       ·exact hh.elim
      ·exact hh.elim
   ·exact hh.elim
  ·exact hh.elim
 ·exact hh.elim
theorem quiet_wp {n : Nat} {ρ : Env} {m : Nat -> Nat} {tm : List V} {bl : List Blk} {a : Act} {w : World} {G : Again} {o : Oper} {K : Act -> World -> Prop} {Q : Exit -> Act -> World -> Prop} {k : SK}
 (hcal : CalOk S P gl w0 cal) (hg : GOk gl w0) (h : R w0 n ρ m tm bl a w) (hh : (qop P cal gl bl tm o n fun v n' => k n' (putV tm o.dst v) bl).holds S L G ρ) (hk : SKok S L w0 k n bl.length ρ m G K) : o.wp P a w K Q := by
 obtain ⟨ρ',n',v,hn,ha,⟨hv,val,hr,hq⟩,hh'⟩ := qop_snd (L := L) hcal h.b hg ⟨w,h.mm⟩ h.t o G _ hh
 have hl : Later n bl.length ρ m n' bl.length ρ' m := ⟨hn,ha,Nat.le_refl _,fun _ _ => rfl⟩
 have hR : ∀ w',w.Extends w' -> R w0 n' ρ' m (putV tm o.dst v) bl (a.put o.dst val) w' := fun w' he =>
  ⟨TRel.put (h.t.ext ha hn (Nat.le_refl _) (fun _ _ => rfl)) o.dst hv hr,by rw [put_defers]; exact h.d,h.b.ext ha hn (Nat.le_refl _),(h.mm.grow he).rho h.b ha⟩
 unfold Oper.wp
 rcases hq w h.mm with hq | ⟨f,args,hq,hc⟩
 ·rw [hq]
  exact hk n' ρ' m _ bl G _ w hl (AgA.refl _ _) (hR w (World.Extends.refl w)) hh'
 ·rw [hq]
  refine hc.mono fun e w'' ⟨he,hx⟩ => ?_
  subst he
  exact hk n' ρ' m _ bl G _ w'' hl (AgA.refl _ _) (hR w'' hx) hh'
theorem cloOf_spec {n nb : Nat} {ρ : Env} {m : Nat -> Nat} {v : V} {f : Nat} {caps : List A} {x : Value} (h : cloOf v = some (f,caps)) (hv : v.ok n nb ρ) (hr : v.rel ρ m x) :
 (∀ y ∈ caps,A.ok n nb ρ y) /\ x = .func (.func f) #[] (caps.map (A.den ρ m)).toArray := by
 unfold cloOf at h
 split at h
 ·simp only [Option.some.injEq,Prod.mk.injEq] at h
  obtain ⟨rfl,rfl⟩ := h
  exact ⟨hv,hr⟩
 ·rename_i f' a b
  cases hc : (Nat.beq a.size 0 && Nat.beq b.size 0) with
  | false => simp [hc] at h
  | true =>
   simp only [hc,cond_true,Option.some.injEq,Prod.mk.injEq] at h
   obtain ⟨rfl,rfl⟩ := h
   simp only [Bool.and_eq_true] at hc
   have e1 := Array.eq_empty_of_size_eq_zero (Nat.eq_of_beq_eq_true hc.1)
   have e2 := Array.eq_empty_of_size_eq_zero (Nat.eq_of_beq_eq_true hc.2)
   subst e1; subst e2
   have hr : x = .func (.func f') #[] #[] := hr
   exact ⟨fun y hy => by simp at hy,by rw [hr]; rfl⟩
 ·cases h
end
end Go.Rx
