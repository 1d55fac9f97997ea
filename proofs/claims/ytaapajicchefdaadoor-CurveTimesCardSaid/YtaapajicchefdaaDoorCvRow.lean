/- The curve seat: what the listed variables give, and a world that meets it. -/
import Derived.Test.YtaapajicchefdaaDoorCvOk
import Derived.Test.YtaapajicchefdaaDoorRows
import Derived.Test.YtaapajicchefdaaDoorTie
import Derived.Test.YtaapajicchefdaaDoorCards
import Derived.SevenTiedAt
set_option maxRecDepth 100000
namespace Go.Proofs.YtaapajicchefdaaDoor
open Go Go.Rx Go.Fd Go.ChangeShapes Go.RowKit
theorem own : ownKnob Tryd.prog.godebug = none := by kernel_rfl
def laid : List (String × DataW Unit) := [("vouchsafe/field.One", Rows.laid_vouchsafe_field_One), ("vouchsafe/curve.once", Rows.laid_vouchsafe_curve_once)]
theorem g0 : Tryd.prog.globalNamed "vouchsafe/field.One" = some 0 := by kernel_rfl
theorem g1 : Tryd.prog.globalNamed "vouchsafe/curve.once" = some 1 := by kernel_rfl
theorem t0 : (Tryd.prog.globals[0]?).map (·.type) = some 40 := by kernel_rfl
theorem t1 : (Tryd.prog.globals[1]?).map (·.type) = some 40 := by kernel_rfl
theorem u0 : Tryd.prog.underlying 40 = some (.array 5 29) := by kernel_rfl
theorem ue : Tryd.prog.underlying 29 = some (.int .u64) := by kernel_rfl
theorem ce : Tryd.prog.cellsOf 29 = 1 := by kernel_rfl
theorem c0 : Tryd.prog.cellsOf 40 = 5 := by kernel_rfl
theorem gl_ok {W : World} (h : laidMetH Tryd.prog laid W) : GOk gl ⟨W, W, fun _ => False⟩ := by
  rw [MakeChecks.laidMetH_plain _ _ _ (by kernel_rfl)] at h
  obtain ⟨ps, ⟨a0, b0, cs0, f0, p0, q0, hg0, ht0, hv0, hd0, ⟨a1, b1, cs1, f1, p1, q1, hg1, ht1, hv1, hd1, _, _⟩, _⟩, _, _⟩ := h
  obtain rfl := Option.some.inj (g0.symm.trans hg0)
  obtain rfl := Option.some.inj (t0.symm.trans ht0)
  obtain rfl := Option.some.inj (g1.symm.trans hg1)
  obtain rfl := Option.some.inj (t1.symm.trans ht1)
  have e0 := gl_of_laid (zs := [1, 0, 0, 0, 0]) g0 u0 ue ce c0 hv0 hd0
  have e1 := gl_of_laid (zs := [929955233495203, 466365720129213, 1662059464998953, 2033849074728123, 1442794654840575]) g1 u0 ue ce c0 hv1 hd1
  intro g cs hm
  simp only [gl, List.mem_cons, Prod.mk.injEq, List.not_mem_nil, or_false] at hm
  rcases hm with ⟨rfl, rfl⟩ | ⟨rfl, rfl⟩
  · exact e0
  · exact e1
theorem door_met (os : Os) (args : Array Value) : laidMetH Tryd.prog laid ((World.doorLaid Tryd.prog 29 os).forCall (fun _ _ => 0) ⟨#[], args, []⟩).memory :=
  laidMetH_of_parts3 (fuel := 8) (laidMet_of_run' 8 (by kernel_rfl) (by kernel_rfl)) (by kernel_rfl) (by kernel_rfl)
theorem ty_by32 : DTy Tryd.prog 22 by32 := ⟨5, Tryd.underlying22, by kernel_rfl, by kernel_rfl, by kernel_rfl, by decide, by decide⟩
theorem ty_u8 : DTy Tryd.prog 5 u8 := ⟨Tryd.underlying5, by decide, by decide⟩
def z32 : Value := .agg (Array.replicate 32 (.int .u8 0))
theorem ret_true {G : Nat → List Int → List Int} {id : Nat} {zs rs : List Int} (hr : inB (bdsL [.bool]) rs) (h : FG G id zs rs) (h1 : ∀ a z, SB id a [[z]] → z = 1) (h2 : (sh id).2 = [1]) : resVal [.bool] rs = .bool true := by
  match rs, hr with
  | [z], hr =>
    have h := h.1
    rw [h2, split1 (by rfl)] at h
    rw [h1 _ _ h]
    simp [resVal, valL, D.val]
end Go.Proofs.YtaapajicchefdaaDoor

