/- Contracts whose results are one as values; contracts under a condition, out of a tree. -/
import Derived.Test.YtlecfjcooglpoaaDoorRxI
import Derived.Test.YtlecfjcooglpoaaDoorRx16
set_option linter.unusedVariables false
set_option linter.unusedSimpArgs false
namespace Go.Rx
section
variable {S : Nat → List Int → List Int → Prop} {P : Program} {gl : Glo} {wb : World}
/-- The specification leaves one value. -/
def OneV (args res : List D) (spec : List Int → List Int → Prop) : Prop := ∀ zs rs rs', inB (bdsL args) zs → inB (bdsL res) rs → inB (bdsL res) rs' → spec zs rs → spec zs rs' → resVal res rs = resVal res rs'
theorem Con.of_vcv {c : Con} {cal : Cal} {li : FuncId → Nat → Option LoopI} {rounds d : Nat} {spec : List Int → List Int → Prop} (hm : P.follows .mixedOrders = true) (hcal : ∀ r ex ro, CalOk S P gl ⟨wb, r, ex, ro⟩ cal) (hg : GOk gl ⟨wb, wb, fun _ => False, fun _ => False⟩)
    (hf : ∀ args w, (callFunc c.f args).run P w = .ok (.enter c.f args) w) (hu : OneV c.args c.res spec)
    (ht : allB (bdsL c.args) fun zs => (c.tree P gl cal li rounds d).holds S (LeafK c.res fun rs => inB (bdsL c.res) rs ∧ spec zs rs) (fun _ _ => False) (updL (fun _ => 0) 0 zs)) : c.Ok P wb spec := by
  refine ⟨hf, fun zs hz => ?_⟩
  have h0 := Con.calls hm hcal hg hz (allB_elim ht hz) wb (World.Extends.refl wb)
  obtain ⟨e, w', v, ρ', m, val, h1, h2, h3, h4⟩ := Calls.some h0
  obtain ⟨rs, ⟨hb, hs⟩, hv⟩ := LeafK_spec h3 h2
  refine ⟨rs, hb, hs, fun w hw => ?_⟩
  refine (Con.calls hm hcal hg hz (allB_elim ht hz) w hw).mono fun e w' ⟨v, ρ', m, val, h1, h2, h3, h4⟩ => ?_
  obtain ⟨rs', ⟨hb', hs'⟩, hv'⟩ := LeafK_spec h3 h2
  rw [hu zs rs' rs hz hb' hb hs' hs] at hv'
  exact ⟨by rw [h1, hv'], h4⟩
noncomputable def QCon.tree (P : Program) (gl : Glo) (cal : Cal) (li : FuncId → Nat → Option LoopI) (rounds d : Nat) (q : QCon) : T :=
  .asm q.pre ((List.range (bdsL q.c.args).length).map lvar) (q.c.tree P gl cal li rounds d)
theorem QCon.of_vcv {q : QCon} {cal : Cal} {li : FuncId → Nat → Option LoopI} {rounds d : Nat} {spec : List Int → List Int → Prop} (hm : P.follows .mixedOrders = true) (hcal : ∀ r ex ro, CalOk S P gl ⟨wb, r, ex, ro⟩ cal) (hg : GOk gl ⟨wb, wb, fun _ => False, fun _ => False⟩)
    (hf : ∀ args w, (callFunc q.c.f args).run P w = .ok (.enter q.c.f args) w) (hu : OneV q.c.args q.c.res spec)
    (ht : allB (bdsL q.c.args) fun zs => (q.tree P gl cal li rounds d).holds S (LeafK q.c.res fun rs => inB (bdsL q.c.res) rs ∧ spec zs rs) (fun _ _ => False) (updL (fun _ => 0) 0 zs)) : q.Ok P wb spec := by
  intro zs hz hp
  have ht' := allB_elim ht hz
  have hl := inB_len hz
  unfold QCon.tree at ht'
  rw [← hl] at ht'
  have ht' := ht' (by rw [lvars_den]; exact hp)
  have h0 := Con.calls hm hcal hg hz ht' wb (World.Extends.refl wb)
  obtain ⟨e, w', v, ρ', m, val, h1, h2, h3, h4⟩ := Calls.some h0
  obtain ⟨rs, ⟨hb, hs⟩, hv⟩ := LeafK_spec h3 h2
  refine ⟨rs, hb, hs, fun w hw => .inr ⟨hf _ _, ?_⟩⟩
  refine (Con.calls hm hcal hg hz ht' w hw).mono fun e w' ⟨v, ρ', m, val, h1, h2, h3, h4⟩ => ?_
  obtain ⟨rs', ⟨hb', hs'⟩, hv'⟩ := LeafK_spec h3 h2
  rw [hu zs rs' rs hz hb' hb hs' hs] at hv'
  exact ⟨by rw [h1, hv'], h4⟩
end
/-! ### By blocks -/
theorem splitL_flatten {α : Type} : ∀ (ks : List Nat) (l : List α), (splitL ks l).flatten = l
  | [], [] => rfl
  | [], _ :: _ => by simp [splitL]
  | k :: ks, l => by simp only [splitL, List.flatten_cons, splitL_flatten ks, List.take_append_drop]
section
variable {P : Program} {gl : Glo} {wb : World} {sh : Nat → List Nat × List Nat} {SB : Nat → List (List Int) → List (List Int) → Prop}
/-- What is to be shown at a function's end. -/
def KBv (SB : Nat → List (List Int) → List (List Int) → Prop) (res : List D) (id : Nat) : List (List Int) → List (List Int) → Prop := fun zs rs => inB (bdsL res) rs.flatten ∧ SB id zs rs
theorem vcb_flatv {lsh : Nat → List Nat} {id : Nat} {lens : List Nat} {bds : List (Int × Int)} {ds : List D} {t : T} (hl : lens = (sh id).1) (hd : numsD ds = (sh id).2) (h : VcB sh lsh SB (KBv SB ds id) lens bds ds t) :
    allB bds fun zs => t.holds (flatS sh SB) (LeafK ds fun rs => inB (bdsL ds) rs ∧ flatS sh SB id zs rs) (fun _ _ => False) (updL (fun _ => 0) 0 zs) := by
  refine allB_intro fun zs hz => ?_
  have h := allB_elim (VcB_sound h) hz
  simp only [KBv, splitL_flatten] at h
  rw [hl, hd] at h
  exact h
theorem ok_vcb {c : Con} {cal : Cal} {li : FuncId → Nat → Option LoopI} {rounds d : Nat} {lsh : Nat → List Nat} {lens : List Nat} (hm : P.follows .mixedOrders = true) (hcal : ∀ r ex ro, CalOk (flatS sh SB) P gl ⟨wb, r, ex, ro⟩ cal) (hg : GOk gl ⟨wb, wb, fun _ => False, fun _ => False⟩)
    (hf : goB P c.f = true) (hu : OneV c.args c.res (flatS sh SB c.id)) (hl : lens = (sh c.id).1) (hd : numsD c.res = (sh c.id).2)
    (hv : VcB sh lsh SB (KBv SB c.res c.id) lens (bdsL c.args) c.res (c.tree P gl cal li rounds d)) : c.Ok P wb (flatS sh SB c.id) :=
  Con.of_vcv hm hcal hg (enters hf) hu (vcb_flatv hl hd hv)
theorem qok_vcb {q : QCon} {cal : Cal} {li : FuncId → Nat → Option LoopI} {rounds d : Nat} {lsh : Nat → List Nat} {lens : List Nat} (hm : P.follows .mixedOrders = true) (hcal : ∀ r ex ro, CalOk (flatS sh SB) P gl ⟨wb, r, ex, ro⟩ cal) (hg : GOk gl ⟨wb, wb, fun _ => False, fun _ => False⟩)
    (hf : goB P q.c.f = true) (hu : OneV q.c.args q.c.res (flatS sh SB q.c.id)) (hl : lens = (sh q.c.id).1) (hd : numsD q.c.res = (sh q.c.id).2)
    (hv : VcB sh lsh SB (KBv SB q.c.res q.c.id) lens (bdsL q.c.args) q.c.res (q.tree P gl cal li rounds d)) : q.Ok P wb (flatS sh SB q.c.id) :=
  QCon.of_vcv hm hcal hg (enters hf) hu (vcb_flatv hl hd hv)
end
end Go.Rx
