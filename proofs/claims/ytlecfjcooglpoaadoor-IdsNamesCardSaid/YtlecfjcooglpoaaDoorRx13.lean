/- Contracts of functions that read a slice of a block of one's own. -/
import Derived.Test.YtlecfjcooglpoaaDoorRx12
set_option linter.unusedVariables false
set_option linter.unusedSimpArgs false
namespace Go.Rx
open M

structure SCon where
  f : FuncId
  id : Nat
  k : IntKind
  N : Nat
  lo : Int
  hi : Int
  ty : TypeId
  off : Nat
  len : Nat
  cap : Nat
  args : List D
  res : List D
noncomputable def SCon.bds (c : SCon) : List (Int × Int) := repB c.lo c.hi c.N ++ bdsL c.args
def SCon.Ok (P : Program) (wb : World) (c : SCon) (spec : List Int → List Int → Prop) : Prop :=
  (∀ args w, (callFunc c.f args).run P w = .ok (.enter c.f args) w) ∧
  ∀ zs, inB c.bds zs → ∃ rs, inB (bdsL c.res) rs ∧ spec zs rs ∧ ∀ (w : World) (g : Nat), wb.Extends w → wb.heap.size ≤ g → w.heap[g]? = some (.cells ((zs.take c.N).map (.int c.k)).toArray c.ty (0, 0)) →
    Calls P c.f (.slice (some ⟨g, c.off, none⟩) c.len c.cap :: valL c.args (zs.drop c.N)).toArray w fun e w' => e = .returned (resVal c.res rs) ∧ w.Extends w'
noncomputable def SCon.M (c : SCon) : List Blk → List V → M V := fun bl vs n k =>
  match vs with
  | .w (.one (.slc b off len cap)) :: rest => match bl[b]? with
    | some (cs, t) => cond (Nat.beq off c.off && Nat.beq len c.len && Nat.beq cap c.cap && Nat.beq t.1 c.ty && !t.2 && Nat.beq cs.length c.N && isOrd cs) (match flatA c.k c.lo c.hi cs, flatL c.args rest with
      | some l1, some l2 => .call c.id (l1 ++ l2) n (bdsL c.res) (k (resV c.res n) (n + (bdsL c.res).length))
      | _, _ => .stuck) .stuck
    | none => .stuck
  | _ => .stuck
section
variable {S : Nat → List Int → List Int → Prop} {P : Program} {gl : Glo} {w0 : Base}
theorem SCon.snd {c : SCon} {spec : List Int → List Int → Prop} (hc : c.Ok P w0.b spec) (hS : ∀ zs rs, spec zs rs → S c.id zs rs) (L : V → Env → Prop) (n : Nat) (ρ : Env) (m : Nat → Nat) (bl : List Blk) (vs : List V) (xs : List Value)
    (hb : BlOk n bl.length ρ bl) (hvs : ∀ v ∈ vs, V.ok n bl.length ρ v) (hr : LRel ρ m vs xs) : Snd S L (c.M bl vs) n ρ fun ρ' n' v => v.ok n' bl.length ρ' ∧ ∃ val, v.rel ρ' m val ∧ ∀ w, Mem w0 ρ m bl w → FRes P c.f xs.toArray w val := by
  intro G k hk
  unfold SCon.M at hk
  split at hk
  · rename_i b off len cap rest
    cases hbl : bl[b]? with
    | none => simp [hbl, T.holds] at hk
    | some q =>
      obtain ⟨cs, t⟩ := q
      simp only [hbl] at hk
      cases hq : (Nat.beq off c.off && Nat.beq len c.len && Nat.beq cap c.cap && Nat.beq t.1 c.ty && !t.2 && Nat.beq cs.length c.N && isOrd cs) with
      | false => rw [hq] at hk; exact hk.elim
      | true =>
        simp only [hq, cond_true] at hk
        simp only [Bool.and_eq_true] at hq
        obtain ⟨⟨⟨⟨⟨⟨q1, q2⟩, q3⟩, q4⟩, q6⟩, q5⟩, q7⟩ := hq
        have q1 := Nat.eq_of_beq_eq_true q1; have q2 := Nat.eq_of_beq_eq_true q2; have q3 := Nat.eq_of_beq_eq_true q3; have q4 := Nat.eq_of_beq_eq_true q4; have q5 := Nat.eq_of_beq_eq_true q5
        cases h1 : flatA c.k c.lo c.hi cs with
        | none => simp [h1, T.holds] at hk
        | some l1 =>
          cases h2 : flatL c.args rest with
          | none => simp [h1, h2, T.holds] at hk
          | some l2 =>
            simp only [h1, h2] at hk
            have hcs : ∀ a ∈ cs, A.ok n bl.length ρ a := hb (cs, t) (List.mem_of_getElem? hbl)
            obtain ⟨a1, a2, a3⟩ := flatA_spec (m := m) h1 hcs
            cases xs with
            | nil => exact hr.elim
            | cons x xs =>
              obtain ⟨hx, hr⟩ := hr
              obtain ⟨b1, b2⟩ := flatL_spec h2 (fun v hv => hvs v (List.mem_cons_of_mem _ hv)) hr
              have hin : inB c.bds ((l1 ++ l2).map (·.den ρ)) := by
                rw [List.map_append]; unfold SCon.bds; rw [← q5]; exact inB_append a2 b1
              obtain ⟨rs, r1, r2, r3⟩ := hc.2 _ hin
              have hh := callL hk r1 (hS _ _ r2)
              have hres := resV_spec (m := m) (nb := bl.length) (N := n + (bdsL c.res).length) r1 (At.updL ρ n rs) (Nat.le_refl _)
              refine ⟨_, _, _, Nat.le_add_right _ _, agree.updL rs n ρ, ⟨hres.1, _, hres.2, fun w hw => .inr ⟨hc.1 _ _, ?_⟩⟩, hh⟩
              obtain ⟨g1, g2, r0, hr0, g3⟩ := hw.blk b cs t hbl q7
              have hlen : ((l1.map (·.den ρ)).length) = c.N := by simp [a1, q5]
              have e1 : ((l1 ++ l2).map (·.den ρ)).take c.N = l1.map (·.den ρ) := by rw [List.map_append, ← hlen, List.take_left]
              have e2 : ((l1 ++ l2).map (·.den ρ)).drop c.N = l2.map (·.den ρ) := by rw [List.map_append, ← hlen, List.drop_left]
              have := r3 w (m b) hw.ext g1 (by rw [e1, ← a3, ← q4]; rw [hr0 (by simpa using q6), List.append_nil] at g3; exact g3)
              rw [e2, b2, ← q1, ← q2, ← q3] at this
              simp only [V.rel, W.den, A.den] at hx
              rw [hx]
              exact this
  · exact hk.elim

theorem repA_ord (k : IntKind) (lo hi : Int) (i N : Nat) : isOrd (repA k lo hi i N) = true := by cases N <;> rfl
noncomputable def SCon.tree (P : Program) (gl : Glo) (cal : Cal) (li : FuncId → Nat → Option LoopI) (rounds d : Nat) (c : SCon) : T :=
  callE P gl cal li rounds d c.f (c.bds.length) (.w (.one (.slc 0 c.off c.len c.cap)) :: (symL c.N c.args).map V.w) [(repA c.k c.lo c.hi 0 c.N, (c.ty, false))] fun _ v bl' => match bl' with
    | (cs, t) :: _ => cond (beqL (repA c.k c.lo c.hi 0 c.N) cs && Nat.beq c.ty t.1 && !t.2) (.leaf v) .stuck
    | [] => .stuck
theorem SCon.calls {wb : World} {c : SCon} {cal : Cal} {li : FuncId → Nat → Option LoopI} {rounds d : Nat} {L : V → Env → Prop} (hm : P.follows .mixedOrders = true) (hcal : ∀ r ex ro, CalOk S P gl ⟨wb, r, ex, ro⟩ cal) (hg : GOk gl ⟨wb, wb, fun _ => False, fun _ => False⟩) {zs : List Int} (hz : inB c.bds zs)
    (ht : (c.tree P gl cal li rounds d).holds S L (fun _ _ => False) (updL (fun _ => 0) 0 zs)) (w : World) (g : Nat) (hw : wb.Extends w) (hgb : wb.heap.size ≤ g) (hcell : w.heap[g]? = some (.cells ((zs.take c.N).map (.int c.k)).toArray c.ty (0, 0))) :
    Calls P c.f (.slice (some ⟨g, c.off, none⟩) c.len c.cap :: valL c.args (zs.drop c.N)).toArray w fun e w' => ∃ v ρ' m val, e = .returned val ∧ v.rel ρ' m val ∧ L v ρ' ∧ w.Extends w' := by
  have hat := At.updL (fun _ => 0) 0 zs
  have hsp := inB_split hz
  rw [repB_len] at hsp
  have hN : c.bds.length = c.N + (bdsL c.args).length := by simp [SCon.bds, repB_len]
  have h1 := repA_spec (ρ := updL (fun _ => 0) 0 zs) (m := fun _ => g) (N := c.bds.length) (nb := 1) (k := c.k) c.N 0 zs hsp.1 hat (by omega)
  have h2 := symL_spec (ρ := updL (fun _ => 0) 0 zs) (m := fun _ => g) (N := c.bds.length) (nb := 1) (s := c.N) c.args hsp.2 (by have := hat.drop c.N; simpa using this) (by omega)
  have hmem : Mem ⟨wb, w, fun i => i = g, fun _ => False⟩ (updL (fun _ => 0) 0 zs) (fun _ => g) [(repA c.k c.lo c.hi 0 c.N, (c.ty, false))] w := by
    refine ⟨hw, rfl, rfl, rfl, Nat.le_refl _, fun _ _ _ => rfl, fun i cs t h _ => ?_, fun i sh off code cap kind t h => ?_, fun i j p q hi hj _ => .inl (by have h1 := (List.getElem?_eq_some_iff.1 hi).1; have h2 := (List.getElem?_eq_some_iff.1 hj).1; simp at h1 h2; omega)⟩
    rotate_left
    · cases i with
      | zero =>
        simp only [List.getElem?_cons_zero, Option.some.injEq, Prod.mk.injEq] at h
        have := repA_ord c.k c.lo c.hi 0 c.N
        rw [h.1] at this; cases this
      | succ i => simp at h
    cases i with
    | zero => simp at h; obtain ⟨rfl, rfl⟩ := h; exact ⟨hgb, .inl rfl, [], fun _ => rfl, by rw [h1.2, List.append_nil]; exact hcell⟩
    | succ i => simp at h
  have hb0 : BlOk c.bds.length 1 (updL (fun _ => 0) 0 zs) [(repA c.k c.lo c.hi 0 c.N, (c.ty, false))] := fun p hp => by simp at hp; subst hp; exact h1.1
  have hrel : LRel (updL (fun _ => 0) 0 zs) (fun _ => g) (V.w (.one (.slc 0 c.off c.len c.cap)) :: (symL c.N c.args).map V.w) (Value.slice (some ⟨g, c.off, none⟩) c.len c.cap :: (symL c.N c.args).map (W.den (updL (fun _ => 0) 0 zs) fun _ => g)) := ⟨rfl, LRel_sym _⟩
  have hvs : ∀ v ∈ (V.w (.one (.slc 0 c.off c.len c.cap)) :: (symL c.N c.args).map V.w), V.ok c.bds.length 1 (updL (fun _ => 0) 0 zs) v := fun v hv => by
    rcases List.mem_cons.1 hv with rfl | hv
    · simp [V.ok, W.ok, A.ok]
    · obtain ⟨u, hu, rfl⟩ := List.mem_map.1 hv
      exact h2.1 u hu
  have key := (callE_ok (L := L) (li := li) (rounds := rounds) hm (hcal w (fun i => i = g) (fun _ => False)) hg d c.f c.bds.length _ [(repA c.k c.lo c.hi 0 c.N, (c.ty, false))] _ (fun _ _ => False) _ (fun _ => g) w _ (fun e w' => ∃ v ρ' m val, e = .returned val ∧ V.rel ρ' m v val ∧ L v ρ' ∧ w.Extends w') hb0 hmem hvs hrel ht ?_).2
  · rw [h2.2] at key; exact key
  · intro n' v bl' G' ρ' m' w' val p1 p2 p3 p4 p5 p6 p7
    match bl', p7, p6, p1 with
    | [], p7, _, _ => exact p7.elim
    | (cs, t) :: r, p7, p6, p1 =>
      simp only at p7
      cases hc : (beqL (repA c.k c.lo c.hi 0 c.N) cs && Nat.beq c.ty t.1 && !t.2) with
      | false => simp [hc, T.holds] at p7
      | true =>
        simp only [hc, cond_true, T.holds] at p7
        simp only [Bool.and_eq_true] at hc
        have e1 := beqL_eq hc.1.1
        have e2 : t = (c.ty, false) := Prod.ext (Nat.eq_of_beq_eq_true hc.1.2).symm (by simpa using hc.2)
        subst e1; subst e2
        refine ⟨v, ρ', m', val, rfl, p4, p7, ?_⟩
        have hm0 : m' 0 = g := p1.hm 0 (by simp)
        have hblk : ∀ i : Nat, i < w.heap.size → w'.heap[i]? = w.heap[i]? := fun i hi => by
          by_cases hig : i = g
          · subst hig
            obtain ⟨_, _, r3, hr3, h3⟩ := p6.blk 0 _ _ rfl (repA_ord _ _ _ _ _)
            rw [hm0, hr3 rfl, List.append_nil] at h3
            rw [h3, hcell, ← h1.2, map_den_ext h1.1 p1.ha (fun b hb => p1.hm b (by simpa using hb))]
          · exact p6.frm i hi hig
        exact ⟨p6.hos, p6.htape, p6.hout, p6.hsize, fun a ha => by simp only [World.cell?, hblk a.block ha], fun a ha => by simp only [World.frozen?, hblk a.block ha], hblk⟩

theorem SCon.of_tree {wb : World} {c : SCon} {cal : Cal} {li : FuncId → Nat → Option LoopI} {rounds d : Nat} {spec : List Int → List Int → Prop} (hm : P.follows .mixedOrders = true) (hcal : ∀ r ex ro, CalOk S P gl ⟨wb, r, ex, ro⟩ cal) (hg : GOk gl ⟨wb, wb, fun _ => False, fun _ => False⟩)
    (hf : ∀ args w, (callFunc c.f args).run P w = .ok (.enter c.f args) w) (hu : ∀ zs rs, spec zs rs → inB (bdsL c.res) rs) (F : List Int → List Int) (hF : ∀ zs rs, spec zs rs → rs = F zs) (hFs : ∀ zs, inB c.bds zs → spec zs (F zs))
    (ht : ∀ zs, inB c.bds zs → (c.tree P gl cal li rounds d).holds S (LeafK c.res fun rs => spec zs rs) (fun _ _ => False) (updL (fun _ => 0) 0 zs)) : c.Ok P wb spec := by
  refine ⟨hf, fun zs hz => ⟨F zs, hu _ _ (hFs zs hz), hFs zs hz, fun w g hw hgb hcell => ?_⟩⟩
  refine (SCon.calls hm hcal hg hz (ht zs hz) w g hw hgb hcell).mono fun e w' ⟨v, ρ', m, val, h1, h2, h3, h4⟩ => ?_
  obtain ⟨rs', hs', hv'⟩ := LeafK_spec h3 h2
  rw [hF zs rs' hs'] at hv'
  exact ⟨by rw [h1, hv'], h4⟩

/-- Contracts, those with a slice too, and math/bits. -/
noncomputable def calS (scons : List SCon) (cons : List Con) (mulF addF subF : FuncId) : Cal := fun f =>
  match scons.filter (fun c => Nat.beq f c.f) with
  | [] => calOf cons mulF addF subF f
  | l => some fun bl vs n k => match l.find? (fun c => match vs with | .w (.one (.slc b off len cap)) :: _ => (match bl[b]? with | some (cs, t) => Nat.beq off c.off && Nat.beq len c.len && Nat.beq cap c.cap && Nat.beq t.1 c.ty && !t.2 && Nat.beq cs.length c.N | none => false) | _ => false) with
    | some c => c.M bl vs n k
    | none => .stuck
theorem calS_ok {scons : List SCon} {cons : List Con} {mulF addF subF : FuncId} (hm : Mul64Ok P mulF) (ha : Add64Ok P addF) (hs : Sub64Ok P subF) (hsc : ∀ c ∈ scons, c.Ok P w0.b (S c.id)) (hc : ∀ c ∈ cons, c.OkF P w0.b (S c.id)) : CalOk S P gl w0 (calS scons cons mulF addF subF) := by
  intro f g hfg L n ρ m bl vs xs h1 h2 h3 h4
  unfold calS at hfg
  split at hfg
  · exact calOf_ok (gl := gl) hm ha hs hc f g hfg L n ρ m bl vs xs h1 h2 h3 h4
  · rename_i l hl
    simp only [Option.some.injEq] at hfg
    subst hfg
    intro G k hk
    simp only at hk
    split at hk
    · rename_i c hcf
      have hmem := List.mem_of_find?_eq_some hcf
      have hin := List.mem_filter.1 hmem
      have hff := Nat.eq_of_beq_eq_true hin.2
      subst hff
      exact SCon.snd (hsc c hin.1) (fun _ _ h => h) L n ρ m bl vs xs h1 h3 h4 G k hk
    · exact hk.elim
end
end Go.Rx
