/- Rows of laws whose parameters are integers, truth values and arrays of integers: opened, shut, and the row out of a contract. -/
import Derived.ChangeMaps5
import Derived.Test.YtlecfjcooglpoaaDoorRx15
import Derived.ChangeSame
import Derived.OpenShut
import Derived.Handed
import Derived.ProofKit
import Derived.LaidMore
import Derived.Stop.Joined
set_option linter.unusedVariables false
set_option linter.unusedSimpArgs false
namespace Go.Rx
open Go.ChangeShapes Go.WideShapes Go.RowKit
variable {H : Type} {enc : TypeId × Value → H} {P : Program}

theorem wf_iff {k : IntKind} {z : Int} : (Lit.int k z).wf = true ↔ k.min ≤ z ∧ z ≤ k.max := by simp [Lit.wf]
theorem cells_ints {k : IntKind} : ∀ (cs : List Value) (xs : List (DataW H × List MemPlace)), cs.length = xs.length →
    (∀ i, i < xs.length → ∃ z, (cs.drop i).take 1 = [.int k z] ∧ xs[i]? = some (.lit (.int k z), []) ∧ (Lit.int k z).wf = true) →
    ∃ zs : List Int, cs = zs.map (.int k) ∧ xs = zs.map (fun z => (.lit (.int k z), [])) ∧ ∀ z ∈ zs, (Lit.int k z).wf = true
  | [], [], _, _ => ⟨[], rfl, rfl, fun _ h => by cases h⟩
  | [], _ :: _, h, _ => by simp at h
  | _ :: _, [], h, _ => by simp at h
  | c :: cs, x :: xs, hl, h => by
    obtain ⟨z, h1, h2, h3⟩ := h 0 (by simp)
    simp at h1 h2
    obtain ⟨zs, e1, e2, e3⟩ := cells_ints cs xs (by simpa using hl) fun i hi => by
      obtain ⟨y, g1, g2, g3⟩ := h (i + 1) (by simpa using hi)
      exact ⟨y, by simpa using g1, by simpa using g2, g3⟩
    refine ⟨z :: zs, by rw [h1, e1]; rfl, by rw [h2, e2]; rfl, fun y hy => ?_⟩
    rcases List.mem_cons.1 hy with rfl | hy
    · exact h3
    · exact e3 y hy
theorem inB_app : ∀ {b b' : List (Int × Int)} {l l' : List Int}, inB b l → inB b' l' → inB (b ++ b') (l ++ l')
  | [], _, [], _, _, h => h
  | _ :: _, _, _ :: _, _, h, h' => ⟨h.1, h.2.1, inB_app h.2.2 h'⟩
  | [], _, _ :: _, _, h, _ => h.elim
  | _ :: _, _, [], _, h, _ => h.elim
theorem D.val_app (d : D) {zs l : List Int} (h : zs.length = d.num) : d.val (zs ++ l) = d.val zs := by
  cases d with
  | str => match zs, h with | [z], _ => rfl
  | int k lo hi => match zs, h with | [z], _ => rfl
  | bool => match zs, h with | [z], _ => rfl
  | agg k n lo hi => simp only [D.num] at h; simp only [D.val, ← h]; simp
  | strk p => rfl
  | mix p =>
    simp only [D.num] at h
    simp only [D.val]
    congr 2
    revert zs
    induction p with
    | nil => intro zs h; simp
    | cons a p ih =>
      intro zs h
      match zs, h with
      | z :: zs, h => simp only [List.cons_append, List.zipWith_cons_cons, ih (zs := zs) (by simpa using h)]
theorem keptBut_extends {w w' : World} (h : w.Extends w') (may : MemPlace → Prop) : w.keptBut w' may :=
  Below.frame (W := w) ⟨h.os, h.tape, h.output, h.size, fun i hi => h.block i hi⟩ may
theorem gl_of_laid {w : World} {name : String} {g : Nat} {t e : TypeId} {k : IntKind} {n : Nat} {cs : Array Value} {fuel : Nat} {p : List MemPlace} {zs : List Int} {spare : Nat → Bool} {held : Bool} {base : Nat} {enc : TypeId × Value → Unit}
    (hg : P.globalNamed name = some g) (ht : P.underlying t = some (.array n e)) (he : P.underlying e = some (.int k)) (hce : P.cellsOf e = 1) (hct : P.cellsOf t = n)
    (hv : w.var? P name = some cs) (hd : DataW.trod enc P w base spare held fuel t cs.toList = some (.agg (zs.map fun z => .lit (.int k z)), p)) :
    g < w.heap.size ∧ ∃ t' fr, w.heap[g]? = some (Obj.cells (zs.map (Value.int k)).toArray t' fr) := by
  obtain ⟨xs, m, rfl, hx, hlen, hn, hel⟩ := DataW.trod_array ht hd
  obtain ⟨ys, e1, e2, e3⟩ := cells_ints (k := k) cs.toList xs (by rw [hlen, hct, hn]) fun i hi => by
    have := hel i (by omega)
    rw [hce, Nat.mul_one] at this
    cases hxi : xs[i]? with
    | none => simp at hxi; omega
    | some y =>
      rw [hxi] at this
      obtain ⟨z, g1, g2, g3⟩ := DataW.trod_int he this
      exact ⟨z, g1, by rw [g2], g3⟩
  simp only [Prod.mk.injEq, DataW.agg.injEq] at hx
  have hy : ys = zs := by
    have h1 := hx.1
    rw [e2, List.map_map] at h1
    have hinj : ∀ a b : Int, (DataW.lit (.int k a) : DataW Unit) = .lit (.int k b) → a = b := fun a b h => by cases h; rfl
    exact ((List.map_inj_right (f := fun z : Int => (DataW.lit (.int k z) : DataW Unit)) hinj).1 h1).symm
  subst hy
  simp only [World.var?, hg, Option.bind_some] at hv
  split at hv
  · rename_i cs' t' fr hb
    simp only [Option.some.injEq] at hv
    subst hv
    refine ⟨?_, t', fr, ?_⟩
    · exact (Array.getElem?_eq_some_iff.1 hb).1
    · rw [hb, ← e1]
  · cases hv
end Go.Rx

