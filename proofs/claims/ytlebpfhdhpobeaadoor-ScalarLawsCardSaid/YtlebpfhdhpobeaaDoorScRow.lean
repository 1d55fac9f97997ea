/- The scalar seat: what the listed variables give, and a world that meets them. -/
import Derived.Test.YtlebpfhdhpobeaaDoorScOk
import Derived.Test.YtlebpfhdhpobeaaDoorRows
import Derived.Test.YtlebpfhdhpobeaaDoorTie
import Derived.Test.YtlebpfhdhpobeaaDoorCards
import Derived.SevenTiedAt
set_option maxRecDepth 100000
namespace Go.Proofs.YtlebpfhdhpobeaaDoor
open Go Go.Rx Go.Sc Go.ChangeShapes Go.RowKit
theorem own : ownKnob Tryd.prog.godebug = none := by kernel_rfl
def laid : List (String × DataW Unit) := [("vouchsafe/scalar.order", Rows.laid_vouchsafe_scalar_order), ("vouchsafe/scalar.tail", Rows.laid_vouchsafe_scalar_tail)]
theorem g0 : Tryd.prog.globalNamed "vouchsafe/scalar.order" = some 0 := by kernel_rfl
theorem g1 : Tryd.prog.globalNamed "vouchsafe/scalar.tail" = some 1 := by kernel_rfl
theorem t0 : (Tryd.prog.globals[0]?).map (·.type) = some 37 := by kernel_rfl
theorem t1 : (Tryd.prog.globals[1]?).map (·.type) = some 62 := by kernel_rfl
theorem u0 : Tryd.prog.underlying 37 = some (.array 4 33) := by kernel_rfl
theorem u1 : Tryd.prog.underlying 62 = some (.array 2 33) := by kernel_rfl
theorem ue : Tryd.prog.underlying 33 = some (.int .u64) := by kernel_rfl
theorem ce : Tryd.prog.cellsOf 33 = 1 := by kernel_rfl
theorem c0 : Tryd.prog.cellsOf 37 = 4 := by kernel_rfl
theorem c1 : Tryd.prog.cellsOf 62 = 2 := by kernel_rfl
theorem gl_ok {W : World} (h : laidMetH Tryd.prog laid W) : GOk gl ⟨W, W, fun _ => False⟩ := by
  rw [MakeChecks.laidMetH_plain _ _ _ (by kernel_rfl)] at h
  obtain ⟨ps, ⟨a0, b0, cs0, f0, p0, q0, hg0, ht0, hv0, hd0, ⟨a1, b1, cs1, f1, p1, q1, hg1, ht1, hv1, hd1, _, _⟩, _⟩, _, _⟩ := h
  obtain rfl := Option.some.inj (g0.symm.trans hg0)
  obtain rfl := Option.some.inj (g1.symm.trans hg1)
  obtain rfl := Option.some.inj (t0.symm.trans ht0)
  obtain rfl := Option.some.inj (t1.symm.trans ht1)
  have e0 := gl_of_laid (zs := [6346243789798364141, 1503914060200516822, 0, 1152921504606846976]) g0 u0 ue ce c0 hv0 hd0
  have e1 := gl_of_laid (zs := [6346243789798364141, 1503914060200516822]) g1 u1 ue ce c1 hv1 hd1
  intro g cs hm
  simp only [gl, List.mem_cons, Prod.mk.injEq, List.not_mem_nil, or_false] at hm
  rcases hm with ⟨rfl, rfl⟩ | ⟨rfl, rfl⟩
  · exact e0
  · exact e1
theorem door_met (os : Os) (args : Array Value) : laidMetH Tryd.prog laid ((World.doorLaid Tryd.prog 19 os).forCall (fun _ _ => 0) ⟨#[], args, []⟩).memory :=
  laidMetH_of_parts3 (fuel := 8) (laidMet_of_run' 8 (by kernel_rfl) (by kernel_rfl)) (by kernel_rfl) (by kernel_rfl)
theorem ty32 : DTy Tryd.prog 22 by32 := ⟨5, Tryd.underlying22, by kernel_rfl, by kernel_rfl, by kernel_rfl, by decide, by decide⟩
theorem ty64 : DTy Tryd.prog 28 by64 := ⟨5, Tryd.underlying28, by kernel_rfl, by kernel_rfl, by kernel_rfl, by decide, by decide⟩
def z32 : Value := .agg (Array.replicate 32 (.int .u8 0))
def z64 : Value := .agg (Array.replicate 64 (.int .u8 0))
theorem t_ret : resVal [.bool] [1] = .bool true := by simp [resVal, valL, D.val]
end Go.Proofs.YtlebpfhdhpobeaaDoor

