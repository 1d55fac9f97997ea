/- A region whose order is open: quiet operations first, whichever of them comes when; then what goes one behind the other. -/
import Derived.Test.YtlecfjcooglpoaaDoorRxA
import Derived.StillTail
set_option linter.unusedVariables false
set_option linter.unusedSimpArgs false
namespace Go.Rx

def depB (ops : Array Oper) (n : Nat) : Bool :=
  (List.range n).all fun i => match ops[i]? with
    | none => false
    | some oi => (oi.after.all fun e => !Region.binds .any e || Nat.blt e.on i) && (match oi.op with | .select .. => false | _ => true) &&
      (List.range n).all fun j => Nat.beq i j || match ops[j]? with
        | none => false
        | some oj => match oj.dst with
          | none => true
          | some d => (!(oi.looksAt ops).contains d || Region.waitsFor .any ops i j || Region.waitsFor .any ops j i) && !(match oi.dst with | some d' => Nat.beq d' d | none => false)
def headSet (size n : Nat) : Array Bool := ((List.range size).map fun i => Nat.blt i n).toArray
/-- What yields its value in whatever world. -/
def floatO (o : Oper) : Bool := match o.op with | .move _ | .assign _ | .extract _ _ => true | _ => false
def floatB (ops : Array Oper) (i : Nat) : Bool := match ops[i]? with | some o => floatO o | none => false
/-- A new variable: its address hangs on when it comes. -/
def alO (o : Oper) : Bool := match o.op, o.guard, o.dst with | .alloc _, none, some _ => true | _, _, _ => false
def alB (ops : Array Oper) (i : Nat) : Bool := match ops[i]? with | some o => alO o | none => false
/-- No operation of the head looks at a new variable of it. -/
def newB (ops : Array Oper) (n : Nat) : Bool :=
  (List.range n).all fun i => !alB ops i || match ops[i]? with
    | some oi => match oi.dst with
      | some d => (List.range n).all fun j => match ops[j]? with | some oj => !(oj.looksAt ops).contains d | none => true
      | none => false
    | none => false
def sinkF (ops : Array Oper) (n : Nat) : Bool :=
  (List.range n).all fun i => floatB ops i || (List.range (n + 1)).any fun j => Nat.blt i j && Region.waitsFor .any ops j i && (Nat.beq j n || !floatB ops j)
def freeF (ops : Array Oper) (n : Nat) : Bool :=
  (List.range n).all fun i => !floatB ops i || (List.range ops.size).all fun j => Nat.blt j n || Region.waitsFor .any ops j i || (match ops[i]?, ops[j]? with | some oi, some oj => oi.apart ops oj | _, _ => false)
def tailB (ops : Array Oper) (n : Nat) : Bool :=
  Region.noSelect ops && freeF ops n && newB ops n && depB ops n && Nat.ble n ops.size && (Nat.beq n ops.size || (sinkF ops n && Region.chainB .any ops n)) && Region.seqB .any ops (ops.size - n) n (headSet ops.size n)
/-- Q, but 'False' at a panic. -/
def calm (Q : Exit → Act → World → Prop) : Exit → Act → World → Prop
  | .panic _, _, _ => False
  | e, a, w => Q e a w
theorem calm.imp {Q : Exit → Act → World → Prop} : ∀ (e : Exit) (a : Act) (w : World), calm Q e a w → Q e a w := fun e a w h => by
  cases e <;> first | exact h | exact (h : False).elim

theorem blt_lt {a b : Nat} (h : Nat.blt a b = true) : a < b := Nat.le_of_ble_eq_true h
theorem lt_blt {a b : Nat} (h : a < b) : Nat.blt a b = true := Nat.ble_eq_true_of_le h
section
variable {P : Program} {ops : Array Oper} {C : World → Prop}

/-- What a quiet operation does, in every world of the class; all of it stays. -/
def YieldsQ (P : Program) (ops : Array Oper) (C : World → Prop) (o : Oper) (v : Value) (a : Act) : Prop :=
  (Region.wanted o (yielded ops a.tmps) = true ∧ ∀ w, C w → QRes P o a w v) ∨ (Region.wanted o (yielded ops a.tmps) = false ∧ v = undef)
/-- The head, one behind the other, new variables passed over. -/
def Chain (P : Program) (ops : Array Oper) (C : World → Prop) (F : Act → Prop) : List Oper → Act → Prop
  | [], a => F a
  | o :: r, a => cond (alO o) (Chain P ops C F r a) (∃ v, YieldsQ P ops C o v a ∧ Chain P ops C F r (a.put o.dst v))
theorem quiet_chain {Q : Act → Prop} : ∀ (l : List Oper) (a : Act), Chain P ops C Q l a → ∃ (as : Nat → Act) (vs : Nat → Value), as 0 = a ∧ (∀ i o, l[i]? = some o → (alO o = false → YieldsQ P ops C o (vs i) (as i) ∧ as (i + 1) = (as i).put o.dst (vs i)) ∧ (alO o = true → as (i + 1) = as i)) ∧ Q (as l.length)
  | [], a, h => ⟨fun _ => a, fun _ => undef, rfl, fun i o hi => by simp at hi, h⟩
  | o :: r, a, h => by
    unfold Chain at h
    cases hal : alO o with
    | true =>
      simp only [hal, cond_true] at h
      obtain ⟨as, vs, e0, hs, hQ⟩ := quiet_chain r _ h
      refine ⟨fun i => match i with | 0 => a | i + 1 => as i, fun i => match i with | 0 => undef | i + 1 => vs i, rfl, fun i o' hi => ?_, hQ⟩
      cases i with
      | zero =>
        simp at hi; subst hi
        exact ⟨fun h1 => by (rw [hal] at h1; cases h1), fun _ => e0⟩
      | succ i =>
        simp at hi
        exact hs i o' hi
    | false =>
      simp only [hal, cond_false] at h
      obtain ⟨v, hy, h2⟩ := h
      obtain ⟨as, vs, e0, hs, hQ⟩ := quiet_chain r _ h2
      refine ⟨fun i => match i with | 0 => a | i + 1 => as i, fun i => match i with | 0 => v | i + 1 => vs i, rfl, fun i o' hi => ?_, hQ⟩
      cases i with
      | zero =>
        simp at hi; subst hi
        exact ⟨fun _ => ⟨hy, e0⟩, fun h1 => by (rw [hal] at h1; cases h1)⟩
      | succ i =>
        simp at hi
        exact hs i o' hi

theorem wpAny_more {Q : Exit → Act → World → Prop} {md : Region.Mode} : ∀ (f : Nat) (listed : Array Bool) (a : Act) (w : World), wpAny P md ops Q f listed a w → wpAny P md ops Q (f + 1) listed a w
  | 0, _, _, _, h => ⟨fun _ => h.2, fun i hi => by rw [h.1] at hi; cases hi⟩
  | f + 1, _, _, _, h => ⟨h.1, fun i hi => wpOp_mono (fun a' w' h' => wpAny_more f _ a' w' h') (h.2 i hi)⟩
theorem wpAny_le {Q : Exit → Act → World → Prop} {md : Region.Mode} {listed : Array Bool} {a : Act} {w : World} {f f' : Nat} (h : wpAny P md ops Q f listed a w) (hle : f ≤ f') : wpAny P md ops Q f' listed a w := by
  induction hle with
  | refl => exact h
  | step _ ih => exact wpAny_more _ _ _ _ ih

theorem countP_lt {α : Type} {p q : α → Bool} : ∀ {l : List α}, (∀ x ∈ l, q x = true → p x = true) → (∃ x ∈ l, p x = true ∧ q x = false) → l.countP q < l.countP p
  | [], _, ⟨x, hx, _⟩ => by simp at hx
  | y :: r, h1, ⟨x, hx, h2, h3⟩ => by
    have hle : r.countP q ≤ r.countP p := List.countP_mono_left fun z hz => h1 z (List.mem_cons_of_mem _ hz)
    rw [List.countP_cons, List.countP_cons]
    rcases List.mem_cons.1 hx with rfl | hx
    · simp [h2, h3]; omega
    · have ih := countP_lt (l := r) (fun z hz => h1 z (List.mem_cons_of_mem _ hz)) ⟨x, hx, h2, h3⟩
      have := h1 y (by simp)
      cases hq : q y <;> cases hp : p y <;> simp [hq, hp] at this ⊢ <;> omega

theorem depB_spec {n i : Nat} {oi : Oper} (h : depB ops n = true) (hi : i < n) (ho : ops[i]? = some oi) :
    (∀ e ∈ oi.after, Region.binds .any e = true → e.on < i) ∧ (∀ cs b, oi.op ≠ .select cs b) ∧
    ∀ j oj d, j < n → j ≠ i → ops[j]? = some oj → oj.dst = some d → oi.dst ≠ some d ∧ (d ∈ oi.looksAt ops → Region.waitsFor .any ops i j = true ∨ Region.waitsFor .any ops j i = true) := by
  have h1 := List.all_eq_true.1 h i (List.mem_range.2 hi)
  simp only [ho, Bool.and_eq_true] at h1
  obtain ⟨⟨h1, h2⟩, h3⟩ := h1
  refine ⟨fun e he hb => ?_, fun cs b hc => by simp [hc] at h2, fun j oj d hj hne hoj hd => ?_⟩
  · have := Array.all_eq_true_iff_forall_mem.1 h1 e he
    simp only [hb, Bool.not_true, Bool.false_or] at this
    exact blt_lt this
  · have h4 := List.all_eq_true.1 h3 j (List.mem_range.2 hj)
    have h5 : Nat.beq i j = false := by cases hb : Nat.beq i j with | false => rfl | true => exact absurd (Nat.eq_of_beq_eq_true hb).symm hne
    simp only [h5, Bool.false_or, hoj, hd, Bool.and_eq_true] at h4
    refine ⟨fun hdi => ?_, fun hmem => ?_⟩
    · have := h4.2
      simp [hdi] at this
    · have := h4.1
      have hc : (oi.looksAt ops).contains d = true := by simpa using hmem
      simp only [hc, Bool.not_true, Bool.false_or, Bool.or_eq_true] at this
      exact this

theorem act_ext {a b : Act} (h1 : a.defers = b.defers) (h2 : ∀ t : Nat, a.tmps[t]? = b.tmps[t]?) : a = b := by
  cases a; cases b
  simp only at h1 h2
  rw [h1, Array.ext_getElem? h2]

theorem put_other {a : Act} {o : Option Tmp} {v : Value} {t : Nat} (h : o ≠ some t) : (a.put o v).tmps[t]? = a.tmps[t]? := by
  cases o with
  | none => rfl
  | some d => simp only [Act.put]; rw [Array.getElem?_setIfInBounds_ne (fun e => h (by rw [e]))]
theorem put_defers (a : Act) (o : Option Tmp) (v : Value) : (a.put o v).defers = a.defers := by cases o <;> rfl
theorem put_size (a : Act) (o : Option Tmp) (v : Value) : (a.put o v).tmps.size = a.tmps.size := by cases o <;> simp [Act.put]

theorem float_yields {o : Oper} {a : Act} {v : Value} {w : World} (hf : floatO o = true) (hC : C w) (h : YieldsQ P ops C o v a) : Yields P ops o v a := by
  rcases h with ⟨h1, h2⟩ | h
  · refine .inl ⟨h1, fun w' => ?_⟩
    have h3 := h2 w hC
    unfold QRes at h3
    unfold floatO at hf
    split at hf
    · rename_i x ho
      simp only [execOp, ho, Sem.run_pure] at h3 ⊢
      rcases h3 with h3 | ⟨f, args, h3, _⟩
      · simp only [Result.ok.injEq, Next.value.injEq, and_true] at h3; rw [h3]
      · simp at h3
    · rename_i x ho
      simp only [execOp, ho, Sem.run_pure] at h3 ⊢
      rcases h3 with h3 | ⟨f, args, h3, _⟩
      · simp only [Result.ok.injEq, Next.value.injEq, and_true] at h3; rw [h3]
      · simp at h3
    · rename_i x i ho
      simp only [execOp, ho, Sem.run_bind] at h3 ⊢
      unfold Instr.extract at h3 ⊢
      cases hx : a.eval x <;> simp only [hx] at h3 ⊢ <;> try (simp [Result.andThen] at h3; done)
      rename_i vs
      cases hv : vs[i]? with
      | none => simp [hv, Result.andThen] at h3
      | some u => simp [hv] at h3; simp [h3]
    · cases hf
  · exact .inr h

theorem sinkF_waits {n : Nat} {listed : Array Bool} (hs : sinkF ops n = true) (hc : Region.chainB .any ops n = true) (hn : n < ops.size) (inv : HeadInv .any ops n listed) :
    ∀ (d i : Nat), n - i = d → i < n → floatB ops i = false → listed.getD i false = false → ∀ t, n ≤ t → t ∉ Region.ready .any ops listed := by
  intro d
  induction d using Nat.strongRecOn with
  | _ d ih =>
    intro i hd hi hfl hun t ht hr
    obtain ⟨_, ot, hot, hall⟩ := mem_ready.1 hr
    have htlt : t < ops.size := (Array.getElem?_eq_some_iff.1 hot).1
    by_cases htn : t = n
    · subst htn
      have h1 := List.all_eq_true.1 hs i (List.mem_range.2 hi)
      simp only [hfl, Bool.false_or] at h1
      obtain ⟨j, hj, hj2⟩ := List.any_eq_true.1 h1
      simp only [Bool.and_eq_true, Bool.or_eq_true] at hj2
      obtain ⟨⟨hj0, hj1⟩, hj3⟩ := hj2
      have hj0 := blt_lt hj0
      obtain ⟨oj, hoj, e, he, hb, hon⟩ := Region.waitsFor_spec hj1
      have hjle : j ≤ t := by have := List.mem_range.1 hj; omega
      by_cases hjt : j = t
      · subst hjt
        have : oj = ot := Option.some.inj (hoj.symm.trans hot)
        subst this
        have h2 := hall e he hb
        rw [hon, hun] at h2
        cases h2
      · cases hl : listed.getD j false with
        | true =>
          have h2 := inv.closed j oj hoj hl e he hb
          rw [hon, hun] at h2
          cases h2
        | false =>
          have hfj : floatB ops j = false := by
            rcases hj3 with h3 | h3
            · exact absurd (Nat.eq_of_beq_eq_true h3) hjt
            · simpa using h3
          exact ih (t - j) (by omega) j rfl (by omega) hfj hl t (Nat.le_refl _) hr
    · have h1 := List.all_eq_true.1 hc t (List.mem_range.2 htlt)
      simp only [Bool.or_eq_true, decide_eq_true_eq] at h1
      rcases h1 with h1 | h1
      · omega
      · obtain ⟨o', ho', e, he, hb, hon⟩ := Region.waitsFor_spec h1
        have : o' = ot := Option.some.inj (ho'.symm.trans hot)
        subst this
        have h2 := hall e he hb
        rw [hon, getD_both (inv.tail (t - 1) (by omega) (by omega))] at h2
        cases h2

theorem float_not_al {o : Oper} (h : floatO o = true) : alO o = false := by
  unfold floatO at h
  unfold alO
  cases ho : o.op <;> simp only [ho] at h ⊢ <;> cases h
theorem newB_spec {n i j : Nat} {oi oj : Oper} {d : Tmp} (h : newB ops n = true) (hi : i < n) (ho : ops[i]? = some oi) (hal : alO oi = true) (hd : oi.dst = some d) (hj : j < n) (hoj : ops[j]? = some oj) : d ∉ oj.looksAt ops := by
  have h1 := List.all_eq_true.1 h i (List.mem_range.2 hi)
  have ha : alB ops i = true := by simp [alB, ho, hal]
  simp only [ha, Bool.not_true, Bool.false_or, ho, hd] at h1
  have h2 := List.all_eq_true.1 h1 j (List.mem_range.2 hj)
  simp only [hoj, Bool.not_eq_true'] at h2
  intro hm
  have : (oj.looksAt ops).contains d = true := by simpa using hm
  rw [this] at h2; cases h2
theorem wpOp_quiet {Q : Exit → Act → World → Prop} {o : Oper} {i : Nat} {v : Value} {a : Act} {w : World} {K : Act → World → Prop} (hi : ops[i]? = some o) (hC : C w) (hy : YieldsQ P ops C o v a) (h : ∀ w', w.Extends w' → K (a.put o.dst v) w') : wpOp P ops Q i K a w := by
  unfold wpOp
  simp only [hi]
  rcases hy with ⟨h1, h2⟩ | ⟨h1, h2⟩
  · rw [if_pos h1]
    refine .inl ?_
    unfold Oper.wp
    rcases h2 w hC with h3 | ⟨f, args, h3, h4⟩
    · rw [h3]; exact h w (World.Extends.refl w)
    · rw [h3]
      refine h4.mono fun e w'' ⟨he, hx⟩ => ?_
      subst he
      exact h w'' hx
  · rw [if_neg (by simp [h1]), ← h2]
    exact h w (World.Extends.refl w)
theorem YieldsQ.of_same {o : Oper} {v : Value} {a a' : Act} (hy : YieldsQ P ops C o v a) (he : execOp a'.eval o = execOp a.eval o) (hw : Region.wanted o (yielded ops a'.tmps) = Region.wanted o (yielded ops a.tmps)) : YieldsQ P ops C o v a' := by
  unfold YieldsQ QRes at *
  rw [he, hw]
  exact hy

/-- The slots behind the head: what is quiet as in the lexical walk, new variables at their addresses. -/
structure Slots (ops : Array Oper) (n : Nat) (S : Nat → Prop) (a an b : Act) (γ : Nat → Nat) : Prop where
  d : b.defers = a.defers
  sz : b.tmps.size = a.tmps.size
  q : ∀ t : Nat, (∃ j o, j < n ∧ S j ∧ ops[j]? = some o ∧ alO o = false ∧ o.dst = some t) → b.tmps[t]? = an.tmps[t]?
  al : ∀ (t : Nat) j o, j < n → S j → ops[j]? = some o → alO o = true → o.dst = some t → t < b.tmps.size → b.tmps[t]? = some (.pointer (some ⟨γ j, 0, none⟩))
  no : ∀ t : Nat, (∀ j o, j < n → S j → ops[j]? = some o → o.dst ≠ some t) → b.tmps[t]? = a.tmps[t]?
/-- The same behind the whole head. -/
structure Fin (ops : Array Oper) (n : Nat) (an b : Act) (γ : Nat → Nat) : Prop where
  d : b.defers = an.defers
  sz : b.tmps.size = an.tmps.size
  al : ∀ (t : Nat) j o, j < n → ops[j]? = some o → alO o = true → o.dst = some t → t < b.tmps.size → b.tmps[t]? = some (.pointer (some ⟨γ j, 0, none⟩))
  no : ∀ t : Nat, (∀ j o, j < n → ops[j]? = some o → alO o = true → o.dst ≠ some t) → b.tmps[t]? = an.tmps[t]?
/-- The new variables in memory. -/
def News (ops : Array Oper) (n : Nat) (S : Nat → Prop) (Z : Nat → Obj) (γ : Nat → Nat) (sz : Nat) (w : World) : Prop :=
  (∀ j, j < n → S j → alB ops j = true → sz ≤ γ j ∧ w.heap[γ j]? = some (Z j)) ∧ ∀ i j, i < n → j < n → S i → S j → alB ops i = true → alB ops j = true → γ i = γ j → i = j
theorem News.grow {n : Nat} {S : Nat → Prop} {Z : Nat → Obj} {γ : Nat → Nat} {sz : Nat} {w w' : World} (h : News ops n S Z γ sz w) (he : w.Extends w') : News ops n S Z γ sz w' :=
  ⟨fun j h1 h2 h3 => by
    obtain ⟨h4, h5⟩ := h.1 j h1 h2 h3
    exact ⟨h4, by rw [he.block _ (Array.getElem?_eq_some_iff.1 h5).1]; exact h5⟩, h.2⟩

theorem wp_region_quiet_tail {id : Nat} {Q : Exit → Act → World → Prop} {a : Act} {w : World} {l : List Oper} (n : Nat) (Z : Nat → Obj) (hm : P.follows .mixedOrders = true) (hB : tailB l.toArray n = true) (hC : ∀ w', w.drew.Extends w' → C w')
    (hZ : ∀ j o, j < n → l.toArray[j]? = some o → alO o = true → ∀ (b : Act) w', (execOp b.eval o).run P w' = .ok (.value (.pointer (some ⟨w'.heap.size, 0, none⟩))) (w'.alloc (Z j)))
    (h : Chain P l.toArray C (fun an => ∀ γ b w', Fin l.toArray n an b γ → w.drew.Extends w' → News l.toArray n (fun _ => True) Z γ w.drew.heap.size w' → wpList P l.toArray (calm Q) (l.drop n) b w') (l.take n) a) : (Code.region id l.toArray true).wp P Q a w := by
  refine Code.wp_mono (calm.imp (Q := Q)) ?_
  simp only [tailB, Bool.and_eq_true] at hB
  obtain ⟨⟨⟨⟨⟨⟨hnosel, hfree⟩, hnew⟩, hdep⟩, hle⟩, hsink⟩, hseq⟩ := hB
  have hle : n ≤ l.length := by simpa using Nat.le_of_ble_eq_true hle
  obtain ⟨as, vs, e0, hs, hT⟩ := quiet_chain _ _ h
  have hlen : (l.take n).length = n := by simp; omega
  rw [hlen] at hT
  have hop : ∀ i, i < n → ∃ o, l.toArray[i]? = some o ∧ (alO o = false → YieldsQ P l.toArray C o (vs i) (as i) ∧ as (i + 1) = (as i).put o.dst (vs i)) ∧ (alO o = true → as (i + 1) = as i) := fun i hi => by
    have hlt : i < l.length := by omega
    have h1 : (l.take n)[i]? = some l[i] := by rw [List.getElem?_take, if_pos hi, List.getElem?_eq_getElem hlt]
    have h2 := hs i _ h1
    exact ⟨l[i], by simp [hlt], h2⟩
  have hdef : ∀ i, i ≤ n → (as i).defers = a.defers ∧ (as i).tmps.size = a.tmps.size := by
    intro i
    induction i with
    | zero => intro _; rw [e0]; exact ⟨rfl, rfl⟩
    | succ i ih =>
      intro hi
      obtain ⟨o, ho, h1, h2⟩ := hop i (by omega)
      cases hal : alO o with
      | true => rw [h2 hal]; exact ih (by omega)
      | false => rw [(h1 hal).2, put_defers, put_size]; exact ih (by omega)
  -- a slot that nobody quiet has written yet
  have hS2 : ∀ i, i ≤ n → ∀ t : Nat, (∀ j o, j < i → l.toArray[j]? = some o → alO o = false → o.dst ≠ some t) → (as i).tmps[t]? = a.tmps[t]? := by
    intro i
    induction i with
    | zero => intro _ t _; rw [e0]
    | succ i ih =>
      intro hi t hno
      obtain ⟨o, ho, h1, h2⟩ := hop i (by omega)
      have ih' := ih (by omega) t fun j o hj => hno j o (by omega)
      cases hal : alO o with
      | true => rw [h2 hal]; exact ih'
      | false => rw [(h1 hal).2, put_other (hno i o (by omega) ho hal)]; exact ih'
  -- a slot that has been written stays
  have hS1 : ∀ (d i : Nat), i + d = n → ∀ t : Nat, (∃ j o, j < i ∧ l.toArray[j]? = some o ∧ o.dst = some t) → (as n).tmps[t]? = (as i).tmps[t]? := by
    intro d
    induction d with
    | zero => intro i hi t _; rw [show i = n by omega]
    | succ d ih =>
      intro i hi t hj
      obtain ⟨o, ho, h1, h2⟩ := hop i (by omega)
      rw [ih (i + 1) (by omega) t (by obtain ⟨j, o, h1, h2⟩ := hj; exact ⟨j, o, by omega, h2⟩)]
      cases hal : alO o with
      | true => rw [h2 hal]
      | false =>
        rw [(h1 hal).2]
        obtain ⟨j, oj, hj1, hj2, hj3⟩ := hj
        exact put_other ((depB_spec hdep (show i < n by omega) ho).2.2 j oj t (by omega) (by omega) hj2 hj3).1
  refine Go.wp_region_any hm ?_
  have hsz : l.toArray.size = l.length := by simp
  have main : ∀ (f : Nat) (listed : Array Bool) (b : Act) (w1 : World) (γ : Nat → Nat), HeadInv .any l.toArray n listed → w.drew.Extends w1 →
      Slots l.toArray n (fun j => listed.getD j false = true) a (as n) b γ → News l.toArray n (fun j => listed.getD j false = true) Z γ w.drew.heap.size w1 →
      (List.range n).countP (fun i => !listed.getD i false) + (l.length - n) ≤ f → wpAny P .any l.toArray (calm Q) f listed b w1 := by
    intro f
    have done : ∀ (listed : Array Bool) (b : Act) (w1 : World) (γ : Nat → Nat), HeadInv .any l.toArray n listed → w.drew.Extends w1 →
      Slots l.toArray n (fun j => listed.getD j false = true) a (as n) b γ → News l.toArray n (fun j => listed.getD j false = true) Z γ w.drew.heap.size w1 → (∀ i, i < n → listed.getD i false = true) →
      wpAny P .any l.toArray (calm Q) (l.drop n).length listed b w1 := by
      intro listed b w1 γ inv hEx hSl hNw hall
      have hl : listed = headSet l.toArray.size n := by
        apply Array.ext_getElem?
        intro i
        unfold headSet
        simp only [List.getElem?_toArray, List.getElem?_map]
        rcases Nat.lt_or_ge i l.length with hi | hi
        · rw [List.getElem?_range (by simpa using hi)]
          have hi2 : i < listed.size := by rw [inv.size]; simpa using hi
          rcases Nat.lt_or_ge i n with hin | hin
          · have := hall i hin
            simp [hi2] at this
            simp [hi2, this, lt_blt hin]
          · have := inv.tail i hin (by simpa using hi)
            simp [hi2] at this
            have hb : Nat.blt i n = false := by cases hq : Nat.blt i n with | false => rfl | true => have := blt_lt hq; omega
            simp [hi2, this, hb]
        · have h1 : listed.size ≤ i := by rw [inv.size]; simpa using hi
          have h2 : (List.range l.toArray.size)[i]? = none := by simp; omega
          rw [h2, Array.getElem?_eq_none h1]; rfl
      have hsq : Region.seqB .any l.toArray (l.drop n).length n listed = true := by rw [hl]; simpa using hseq
      refine wpAny_of_seq (P := P) (md := .any) (Q' := calm Q) (l.drop n) n listed b w1 (fun j => by simp [List.getElem?_drop]) hsq (hT γ b w1 ?_ hEx ?_)
      · refine ⟨hSl.d.trans (hdef n (Nat.le_refl _)).1.symm, hSl.sz.trans (hdef n (Nat.le_refl _)).2.symm, fun t j o h1 h3 h4 h5 => hSl.al t j o h1 (hall j h1) h3 h4 h5, fun t hno => ?_⟩
        by_cases hq : ∃ j o, j < n ∧ l.toArray[j]? = some o ∧ alO o = false ∧ o.dst = some t
        · obtain ⟨j, o, h1, h2, h3, h4⟩ := hq
          exact hSl.q t ⟨j, o, h1, hall j h1, h2, h3, h4⟩
        · have hq' : ∀ j o, j < n → l.toArray[j]? = some o → alO o = false → o.dst ≠ some t := fun j o h1 h2 h3 h4 => hq ⟨j, o, h1, h2, h3, h4⟩
          rw [hSl.no t fun j o h1 _ h3 => (by
            cases hal : alO o with
            | true => exact hno j o h1 h3 hal
            | false => exact hq' j o h1 h3 hal), hS2 n (Nat.le_refl _) t hq']
      · exact ⟨fun j h1 _ h3 => hNw.1 j h1 (hall j h1) h3, fun i j h1 h2 _ _ h5 h6 => hNw.2 i j h1 h2 (hall i h1) (hall j h2) h5 h6⟩
    have allOf : ∀ (listed : Array Bool), (List.range n).countP (fun i => !listed.getD i false) = 0 → ∀ i, i < n → listed.getD i false = true := fun listed hc i hi => by
      cases hq : listed.getD i false with
      | true => rfl
      | false =>
        have : 0 < (List.range n).countP (fun i => !listed.getD i false) := List.countP_pos_iff.2 ⟨i, List.mem_range.2 hi, by simp [hq]⟩
        omega
    induction f with
    | zero =>
      intro listed b w1 γ inv hEx hSl hNw hf
      have := done listed b w1 γ inv hEx hSl hNw (allOf listed (by omega))
      exact wpAny_le this (by simp; omega)
    | succ f ih =>
      intro listed b w1 γ inv hEx hSl hNw hf
      by_cases hcnt : (List.range n).countP (fun i => !listed.getD i false) = 0
      · exact wpAny_le (done listed b w1 γ inv hEx hSl hNw (allOf listed hcnt)) (by simp; omega)
      · -- somebody of the head is still to come
        have hpos : ∃ i, i < n ∧ listed.getD i false = false := by
          have h1 : 0 < (List.range n).countP (fun i => !listed.getD i false) := by omega
          obtain ⟨i, hi, hq⟩ := List.countP_pos_iff.1 h1
          exact ⟨i, List.mem_range.1 hi, by simpa using hq⟩
        have hne : Region.ready .any l.toArray listed ≠ [] := by
          have key : ∀ k, ∀ i, i ≤ k → i < n → listed.getD i false = false → Region.ready .any l.toArray listed ≠ [] := by
            intro k
            induction k with
            | zero =>
              intro i hik hin hq hnil
              obtain ⟨o, ho, _, _⟩ := hop i hin
              have hlt : i < listed.size := by rw [inv.size]; exact (Array.getElem?_eq_some_iff.1 ho).1
              have : i ∈ Region.ready .any l.toArray listed := mem_ready.2 ⟨getD_in hlt hq, o, ho, fun e he hb => by have := (depB_spec hdep hin ho).1 e he hb; omega⟩
              rw [hnil] at this; cases this
            | succ k ihk =>
              intro i hik hin hq hnil
              obtain ⟨o, ho, _, _⟩ := hop i hin
              have hlt : i < listed.size := by rw [inv.size]; exact (Array.getElem?_eq_some_iff.1 ho).1
              have : i ∈ Region.ready .any l.toArray listed := mem_ready.2 ⟨getD_in hlt hq, o, ho, fun e he hb => by
                have h1 := (depB_spec hdep hin ho).1 e he hb
                cases hq2 : listed.getD e.on false with
                | true => rfl
                | false => exact absurd hnil (ihk e.on (by omega) (by omega) hq2)⟩
              rw [hnil] at this; cases this
          obtain ⟨i, hi, hq⟩ := hpos
          exact key i i (Nat.le_refl _) hi hq
        have hset : ∀ i, i ∈ Region.ready .any l.toArray listed → ∀ j, (listed.setIfInBounds i true).getD j false = true ↔ (j = i ∨ listed.getD j false = true) := fun i hi j => by
          obtain ⟨hun, oi, hoi, hall⟩ := mem_ready.1 hi
          have hlt : i < listed.size := by rw [inv.size]; exact (Array.getElem?_eq_some_iff.1 hoi).1
          by_cases hj : i = j
          · subst hj; simp [hlt]
          · rw [getD_set_ne false hj]
            exact ⟨.inr, fun h => h.resolve_left (fun e => hj e.symm)⟩
        have hless : ∀ i, i ∈ Region.ready .any l.toArray listed → i < n → (List.range n).countP (fun j => !(listed.setIfInBounds i true).getD j false) + (l.length - n) ≤ f := fun i hi hin => by
          obtain ⟨hun, _⟩ := mem_ready.1 hi
          have : (List.range n).countP (fun j => !(listed.setIfInBounds i true).getD j false) < (List.range n).countP (fun j => !listed.getD j false) := by
            refine countP_lt (fun j _ hj => ?_) ⟨i, List.mem_range.2 hin, ?_, ?_⟩
            · cases hq : listed.getD j false with
              | false => rfl
              | true => rw [(hset i hi j).2 (.inr hq)] at hj; cases hj
            · simp only [getD_both hun]; rfl
            · simp only [(hset i hi i).2 (.inl rfl)]; rfl
          omega
        -- a quiet one that is ready
        have step : ∀ i, i ∈ Region.ready .any l.toArray listed → i < n → ∀ o, l.toArray[i]? = some o → alO o = false → YieldsQ P l.toArray C o (vs i) b ∧ ∀ w', w1.Extends w' → wpAny P .any l.toArray (calm Q) f (listed.setIfInBounds i true) (b.put o.dst (vs i)) w' := by
          intro i hi hin o ho hal
          obtain ⟨hun, oi, hoi, hall⟩ := mem_ready.1 hi
          have : o = oi := Option.some.inj (ho.symm.trans hoi)
          subst this
          obtain ⟨o', ho', hy', _⟩ := hop i hin
          have : o' = o := Option.some.inj (ho'.symm.trans ho)
          subst this
          obtain ⟨hy, he⟩ := hy' hal
          have hdp := depB_spec hdep hin ho
          have hslot : ∀ t : Nat, t ∈ o'.looksAt l.toArray → b.tmps[t]? = (as i).tmps[t]? := fun t ht => by
            by_cases hw : ∃ j oj, j < i ∧ l.toArray[j]? = some oj ∧ alO oj = false ∧ oj.dst = some t
            · obtain ⟨j, oj, h1, h2, h2', h3⟩ := hw
              rw [← hS1 (n - i) i (by omega) t ⟨j, oj, h1, h2, h3⟩]
              refine hSl.q t ⟨j, oj, by omega, ?_, h2, h2', h3⟩
              rcases (hdp.2.2 j oj t (by omega) (by omega) h2 h3).2 ht with h4 | h4
              · obtain ⟨oi', hoi', e, he1, he2, he3⟩ := Region.waitsFor_spec h4
                have : oi' = o' := Option.some.inj (hoi'.symm.trans ho)
                subst this
                have := hall e he1 he2
                rwa [he3] at this
              · obtain ⟨oj', hoj', e, he1, he2, he3⟩ := Region.waitsFor_spec h4
                have : oj' = oj := Option.some.inj (hoj'.symm.trans h2)
                subst this
                have := (depB_spec hdep (show j < n by omega) h2).1 e he1 he2
                omega
            · rw [hS2 i (by omega) t fun j oj h1 h2 h2' h3 => hw ⟨j, oj, h1, h2, h2', h3⟩]
              refine hSl.no t fun j oj h1 hl h2 h3 => ?_
              cases halj : alO oj with
              | true => exact newB_spec hnew h1 h2 halj h3 hin ho ht
              | false =>
                by_cases hji : j = i
                · subst hji
                  rw [getD_both hun] at hl; cases hl
                · rcases (hdp.2.2 j oj t h1 hji h2 h3).2 ht with h4 | h4
                  · obtain ⟨oi', hoi', e, he1, he2, he3⟩ := Region.waitsFor_spec h4
                    have : oi' = o' := Option.some.inj (hoi'.symm.trans ho)
                    subst this
                    have := hdp.1 e he1 he2
                    exact hw ⟨j, oj, by omega, h2, halj, h3⟩
                  · obtain ⟨oj', hoj', e, he1, he2, he3⟩ := Region.waitsFor_spec h4
                    have : oj' = oj := Option.some.inj (hoj'.symm.trans h2)
                    subst this
                    have := inv.closed j oj' h2 hl e he1 he2
                    rw [he3, getD_both hun] at this; cases this
          have hev : ∀ x ∈ o'.op.operands, b.eval x = (as i).eval x := fun x hx => by
            cases x with
            | tmp t =>
              have := hslot t (List.mem_append_left _ (List.mem_filterMap.2 ⟨.tmp t, by simpa using hx, rfl⟩))
              simp only [Act.eval]
              simp [this]
            | _ => rfl
          have hex : execOp b.eval o' = execOp (as i).eval o' := execOp_congr o' hdp.2.1 hev
          have hwt : Region.wanted o' (yielded l.toArray b.tmps) = Region.wanted o' (yielded l.toArray (as i).tmps) := by
            unfold Region.wanted
            cases hg : o'.guard with
            | none => rfl
            | some gw =>
              obtain ⟨g, want⟩ := gw
              have : yielded l.toArray b.tmps g = yielded l.toArray (as i).tmps g := by
                unfold yielded
                cases ht : (l.toArray[g]?).bind (·.dst) with
                | none => rfl
                | some t =>
                  have := hslot t (List.mem_append_right _ (by simp only [hg, ht]; simp))
                  simp [this]
              simp only [this]
          refine ⟨hy.of_same hex hwt, fun w' hw' => ?_⟩
          refine ih _ _ _ γ (inv.set hi hin) (hEx.trans hw') ⟨(put_defers _ _ _).trans hSl.d, (put_size _ _ _).trans hSl.sz, ?_, ?_, ?_⟩ (News.grow (w := w1) ⟨fun j h1 h2 h3 => ?_, fun i1 j1 h1 h2 h3 h4 h5 h6 => ?_⟩ hw') (hless i hi hin)
          · rintro t ⟨j, oj, h1, h2, h3, h3', h4⟩
            by_cases ht : o'.dst = some t
            · have e1 : (as n).tmps[t]? = (as (i + 1)).tmps[t]? := hS1 (n - (i + 1)) (i + 1) (by omega) t ⟨i, o', by omega, ho, ht⟩
              rw [e1, he, ht]
              simp only [Act.put]
              have hs3 : b.tmps.size = (as i).tmps.size := hSl.sz.trans (hdef i (by omega)).2.symm
              rcases Nat.lt_or_ge t b.tmps.size with h5 | h5
              · simp [h5, hs3 ▸ h5]
              · rw [Array.getElem?_eq_none (by simpa using h5), Array.getElem?_eq_none (by rw [Array.size_setIfInBounds, ← hs3]; exact h5)]
            · rw [put_other ht]
              rcases (hset i hi j).1 h2 with rfl | h5
              · have : oj = o' := Option.some.inj (h3.symm.trans ho)
                subst this
                exact absurd h4 ht
              · exact hSl.q t ⟨j, oj, h1, h5, h3, h3', h4⟩
          · intro t j oj h1 h2 h3 h4 h5 h6
            rcases (hset i hi j).1 h2 with rfl | h7
            · have : oj = o' := Option.some.inj (h3.symm.trans ho)
              subst this
              rw [hal] at h4; cases h4
            · have hji : j ≠ i := fun e => by subst e; rw [getD_both hun] at h7; cases h7
              have ht : o'.dst ≠ some t := (hdp.2.2 j oj t h1 hji h3 h5).1
              rw [put_other ht]
              rw [put_size] at h6
              exact hSl.al t j oj h1 h7 h3 h4 h5 h6
          · intro t hno
            have ht : o'.dst ≠ some t := hno i o' hin ((hset i hi i).2 (.inl rfl)) ho
            rw [put_other ht]
            exact hSl.no t fun j oj h1 h2 h3 => hno j oj h1 ((hset i hi j).2 (.inr h2)) h3
          · rcases (hset i hi j).1 h2 with rfl | h7
            · simp [alB, ho, hal] at h3
            · exact hNw.1 j h1 h7 h3
          · have k1 : listed.getD i1 false = true := by
              rcases (hset i hi i1).1 h3 with rfl | h7
              · simp [alB, ho, hal] at h5
              · exact h7
            have k2 : listed.getD j1 false = true := by
              rcases (hset i hi j1).1 h4 with rfl | h7
              · simp [alB, ho, hal] at h6
              · exact h7
            exact hNw.2 i1 j1 h1 h2 k1 k2 h5 h6
        by_cases hfl : ∃ i, i ∈ Region.ready .any l.toArray listed ∧ i < n ∧ floatB l.toArray i = true
        · obtain ⟨i, hi, hin, hf1⟩ := hfl
          obtain ⟨o, ho, _, _⟩ := hop i hin
          obtain ⟨hun, oi, hoi, hall⟩ := mem_ready.1 hi
          have hfo : floatO o = true := by unfold floatB at hf1; simpa [ho] using hf1
          have hal : alO o = false := float_not_al hfo
          obtain ⟨hyb, hnext⟩ := step i hi hin o ho hal
          refine wpAny_first ho (Region.noSelect_spec hnosel) (fun c a' w' hq => hq.elim) f listed b w1 (fun j oj hoj hji hjun hjno => ?_) hi (float_yields hfo (hC w1 hEx) hyb) (hnext w1 (World.Extends.refl w1))
          have hnw : Region.waitsFor .any l.toArray j i = false := by
            cases hq : Region.waitsFor .any l.toArray j i with
            | false => rfl
            | true =>
              obtain ⟨oj', hoj', e, he1, he2, he3⟩ := Region.waitsFor_spec hq
              have : oj' = oj := Option.some.inj (hoj'.symm.trans hoj)
              subst this
              exact absurd he3 (hjno e he1 he2)
          have hnw2 : j < n → Region.waitsFor .any l.toArray i j = false := fun hjn => by
            cases hq : Region.waitsFor .any l.toArray i j with
            | false => rfl
            | true =>
              obtain ⟨o', ho', e, he1, he2, he3⟩ := Region.waitsFor_spec hq
              have : o' = oi := Option.some.inj (ho'.symm.trans hoi)
              subst this
              have := hall e he1 he2
              rw [he3, getD_both hjun] at this; cases this
          by_cases hjn : j < n
          · have d1 := (depB_spec hdep hin ho).2.2 j oj
            have d2 := (depB_spec hdep hjn hoj).2.2 i o
            simp only [Oper.apart, Bool.and_eq_true]
            constructor
            · cases hd : o.dst with
              | none => rfl
              | some d =>
                have := d2 d hin (fun e => hji e.symm) ho hd
                simp only [Bool.and_eq_true, Bool.not_eq_true', bne_iff_ne, ne_eq]
                refine ⟨?_, this.1⟩
                cases hc : (oj.looksAt l.toArray).contains d with
                | false => rfl
                | true =>
                  rcases this.2 (by simpa using hc) with h1 | h1
                  · rw [hnw] at h1; cases h1
                  · rw [hnw2 hjn] at h1; cases h1
            · cases hd : oj.dst with
              | none => rfl
              | some d =>
                have := d1 d hjn hji hoj hd
                simp only [Bool.not_eq_true']
                cases hc : (o.looksAt l.toArray).contains d with
                | false => rfl
                | true =>
                  rcases this.2 (by simpa using hc) with h1 | h1
                  · rw [hnw2 hjn] at h1; cases h1
                  · rw [hnw] at h1; cases h1
          · have h1 := List.all_eq_true.1 hfree i (List.mem_range.2 hin)
            simp only [hf1, Bool.not_true, Bool.false_or] at h1
            have h2 := List.all_eq_true.1 h1 j (List.mem_range.2 (Array.getElem?_eq_some_iff.1 hoj).1)
            have hb : Nat.blt j n = false := by cases hq : Nat.blt j n with | false => rfl | true => exact absurd (blt_lt hq) hjn
            simp only [hb, hnw, Bool.false_or, ho, hoj] at h2
            exact h2
        · -- no floater is ready: somebody who is none is still to come
          have hnf : ∃ i, i < n ∧ floatB l.toArray i = false ∧ listed.getD i false = false := by
            have key : ∀ k, ∀ i, i ≤ k → i < n → listed.getD i false = false → ∃ i, i < n ∧ floatB l.toArray i = false ∧ listed.getD i false = false := by
              intro k
              induction k with
              | zero =>
                intro i hik hin hq
                cases hf2 : floatB l.toArray i with
                | false => exact ⟨i, hin, hf2, hq⟩
                | true =>
                  obtain ⟨o, ho, _, _⟩ := hop i hin
                  have hlt : i < listed.size := by rw [inv.size]; exact (Array.getElem?_eq_some_iff.1 ho).1
                  exact absurd ⟨i, mem_ready.2 ⟨getD_in hlt hq, o, ho, fun e he hb => by have := (depB_spec hdep hin ho).1 e he hb; omega⟩, hin, hf2⟩ hfl
              | succ k ihk =>
                intro i hik hin hq
                cases hf2 : floatB l.toArray i with
                | false => exact ⟨i, hin, hf2, hq⟩
                | true =>
                  obtain ⟨o, ho, _, _⟩ := hop i hin
                  have hlt : i < listed.size := by rw [inv.size]; exact (Array.getElem?_eq_some_iff.1 ho).1
                  by_cases hdone : ∀ e ∈ o.after, Region.binds .any e = true → listed.getD e.on false = true
                  · exact absurd ⟨i, mem_ready.2 ⟨getD_in hlt hq, o, ho, hdone⟩, hin, hf2⟩ hfl
                  · have hex : ∃ e, e ∈ o.after ∧ Region.binds .any e = true ∧ ¬ listed.getD e.on false = true := by
                      apply Classical.byContradiction
                      intro hno
                      exact hdone fun e he hb => Classical.byContradiction fun hq2 => hno ⟨e, he, hb, hq2⟩
                    obtain ⟨e, he, hb, hq2⟩ := hex
                    have h1 := (depB_spec hdep hin ho).1 e he hb
                    exact ihk e.on (by omega) (by omega) (by simpa using hq2)
            obtain ⟨i, hi, hq⟩ := hpos
            exact key i i (Nat.le_refl _) hi hq
          refine ⟨fun h0 => absurd h0 hne, fun i hi => ?_⟩
          have hin : i < n := by
            rcases Nat.lt_or_ge i n with h1 | h1
            · exact h1
            · exfalso
              obtain ⟨_, oi, hoi, _⟩ := mem_ready.1 hi
              have hisz : i < l.toArray.size := (Array.getElem?_eq_some_iff.1 hoi).1
              simp only [Bool.or_eq_true, Bool.and_eq_true] at hsink
              rcases hsink with h2 | ⟨h2, h3⟩
              · have := Nat.eq_of_beq_eq_true h2; omega
              · obtain ⟨i0, hi0, hf0, hq0⟩ := hnf
                exact sinkF_waits h2 h3 (by omega) inv (n - i0) i0 rfl hi0 hf0 hq0 i h1 hi
          obtain ⟨o, ho, _, _⟩ := hop i hin
          cases hal : alO o with
          | false =>
            obtain ⟨hyb, hnext⟩ := step i hi hin o ho hal
            exact wpOp_quiet ho (hC w1 hEx) hyb hnext
          | true =>
            -- a new variable
            obtain ⟨hun, _⟩ := mem_ready.1 hi
            have hgd : o.guard = none ∧ ∃ d, o.dst = some d := by
              unfold alO at hal
              split at hal
              · rename_i h1 h2 h3; exact ⟨h2, _, h3⟩
              · cases hal
            obtain ⟨hgd, d, hd⟩ := hgd
            have hdp := depB_spec hdep hin ho
            unfold wpOp
            simp only [ho]
            rw [if_pos (by simp [Region.wanted, hgd])]
            refine .inl ?_
            unfold Oper.wp
            rw [hZ i o hin ho hal b w1]
            show wpAny P .any l.toArray (calm Q) f (listed.setIfInBounds i true) (b.put o.dst _) _
            have hγlt : ∀ j, j < n → listed.getD j false = true → alB l.toArray j = true → γ j < w1.heap.size := fun j h1 h2 h3 => (Array.getElem?_eq_some_iff.1 (hNw.1 j h1 h2 h3).2).1
            refine ih _ _ _ (fun j => if j = i then w1.heap.size else γ j) (inv.set hi hin) (hEx.alloc _) ⟨(put_defers _ _ _).trans hSl.d, (put_size _ _ _).trans hSl.sz, ?_, ?_, ?_⟩ ⟨fun j h1 h2 h3 => ?_, fun i1 j1 h1 h2 h3 h4 h5 h6 h7 => ?_⟩ (hless i hi hin)
            · rintro t ⟨j, oj, h1, h2, h3, h3', h4⟩
              rcases (hset i hi j).1 h2 with rfl | h5
              · have : oj = o := Option.some.inj (h3.symm.trans ho)
                subst this
                rw [hal] at h3'; cases h3'
              · have hji : j ≠ i := fun e => by subst e; rw [getD_both hun] at h5; cases h5
                rw [put_other (hdp.2.2 j oj t h1 hji h3 h4).1]
                exact hSl.q t ⟨j, oj, h1, h5, h3, h3', h4⟩
            · intro t j oj h1 h2 h3 h4 h5 h6
              rcases (hset i hi j).1 h2 with rfl | h7
              · have : oj = o := Option.some.inj (h3.symm.trans ho)
                subst this
                rw [h5]
                simp only [if_true]
                rw [put_size] at h6
                simp [Act.put, h6]
              · have hji : j ≠ i := fun e => by subst e; rw [getD_both hun] at h7; cases h7
                rw [put_other (hdp.2.2 j oj t h1 hji h3 h5).1]
                rw [put_size] at h6
                rw [if_neg hji]
                exact hSl.al t j oj h1 h7 h3 h4 h5 h6
            · intro t hno
              rw [put_other (hno i o hin ((hset i hi i).2 (.inl rfl)) ho)]
              exact hSl.no t fun j oj h1 h2 h3 => hno j oj h1 ((hset i hi j).2 (.inr h2)) h3
            · show w.drew.heap.size ≤ (if j = i then w1.heap.size else γ j) ∧ (w1.alloc (Z i)).heap[(if j = i then w1.heap.size else γ j)]? = some (Z j)
              by_cases hji : j = i
              · subst hji
                rw [if_pos rfl]
                exact ⟨hEx.size, heap_alloc_new w1 (Z j)⟩
              · rw [if_neg hji]
                have h7 := ((hset i hi j).1 h2).resolve_left hji
                obtain ⟨h8, h9⟩ := hNw.1 j h1 h7 h3
                exact ⟨h8, by rw [heap_alloc_old w1 _ (hγlt j h1 h7 h3)]; exact h9⟩
            · change (if i1 = i then w1.heap.size else γ i1) = (if j1 = i then w1.heap.size else γ j1) at h7
              by_cases h8 : i1 = i <;> by_cases h9 : j1 = i
              · rw [h8, h9]
              · rw [if_pos h8, if_neg h9] at h7
                have := hγlt j1 h2 (((hset i hi j1).1 h4).resolve_left h9) h6
                omega
              · rw [if_neg h8, if_pos h9] at h7
                have := hγlt i1 h1 (((hset i hi i1).1 h3).resolve_left h8) h5
                omega
              · rw [if_neg h8, if_neg h9] at h7
                exact hNw.2 i1 j1 h1 h2 (((hset i hi i1).1 h3).resolve_left h8) (((hset i hi j1).1 h4).resolve_left h9) h5 h6 h7
  have inv0 : HeadInv .any l.toArray n (Array.replicate l.toArray.size false) :=
    ⟨by simp, fun j oj _ hl => (by rw [getD_replicate_false] at hl; cases hl), fun t _ ht => getD_in (by simpa using ht) (getD_replicate_false _ _)⟩
  have none0 : ∀ j, ¬ (Array.replicate l.toArray.size false).getD j false = true := fun j h => by rw [getD_replicate_false] at h; cases h
  refine main l.toArray.size _ a _ (fun _ => 0) inv0 (World.Extends.refl w.drew) ⟨rfl, rfl, fun t ⟨j, o, _, h2, _⟩ => absurd h2 (none0 j), fun t j o _ h2 => absurd h2 (none0 j), fun _ _ => rfl⟩ ⟨fun j _ h2 => absurd h2 (none0 j), fun i j _ _ h3 => absurd h3 (none0 i)⟩ ?_
  have : (List.range n).countP (fun i => !(Array.replicate l.toArray.size false).getD i false) ≤ n := by
    have := List.countP_le_length (p := fun i => !(Array.replicate l.toArray.size false).getD i false) (l := List.range n)
    simpa using this
  omega
end
end Go.Rx
