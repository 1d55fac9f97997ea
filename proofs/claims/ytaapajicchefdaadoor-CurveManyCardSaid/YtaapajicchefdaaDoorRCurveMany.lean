/- CurveMany: for every input the law returns true, and each argument reads behind the call as it read before; the listed variables are tied to the program's text. -/
import Derived.Test.YtaapajicchefdaaDoorCvMany
import Derived.Test.YtaapajicchefdaaDoorRows
import Derived.Test.YtaapajicchefdaaDoorTie
import Derived.Test.YtaapajicchefdaaDoorCards
import Derived.SevenTiedAt
set_option maxRecDepth 100000
namespace Go.Proofs.YtaapajicchefdaaDoor
open Go Go.Rx Go.Fd Go.ChangeShapes Go.RowKit
theorem own : ownKnob Tryd.prog.godebug = none := by kernel_rfl
def laid : List (String × DataW Unit) := [("vouchsafe/field.One", Rows.laid_vouchsafe_field_One), ("vouchsafe/curve.once", Rows.laid_vouchsafe_curve_once)]
theorem g0 : Tryd.prog.globalNamed "vouchsafe/field.One" = some 0 := by kernel_rfl
theorem g1 : Tryd.prog.globalNamed "vouchsafe/curve.once" = some 1 := by kernel_rfl
theorem t0 : (Tryd.prog.globals[0]?).map (·.type) = some 40 := by kernel_rfl
theorem t1 : (Tryd.prog.globals[1]?).map (·.type) = some 40 := by kernel_rfl
theorem u0 : Tryd.prog.underlying 40 = some (.array 5 29) := by kernel_rfl
theorem ue : Tryd.prog.underlying 29 = some (.int .u64) := by kernel_rfl
theorem ce : Tryd.prog.cellsOf 29 = 1 := by kernel_rfl
theorem c0 : Tryd.prog.cellsOf 40 = 5 := by kernel_rfl
theorem gl_ok {W : World} (h : laidMetH Tryd.prog laid W) : GOk gl ⟨W, W, fun _ => False⟩ := by
  rw [MakeChecks.laidMetH_plain _ _ _ (by kernel_rfl)] at h
  obtain ⟨ps, ⟨a0, b0, cs0, f0, p0, q0, hg0, ht0, hv0, hd0, ⟨a1, b1, cs1, f1, p1, q1, hg1, ht1, hv1, hd1, _, _⟩, _⟩, _, _⟩ := h
  obtain rfl := Option.some.inj (g0.symm.trans hg0)
  obtain rfl := Option.some.inj (t0.symm.trans ht0)
  obtain rfl := Option.some.inj (g1.symm.trans hg1)
  obtain rfl := Option.some.inj (t1.symm.trans ht1)
  have e0 := gl_of_laid (zs := [1, 0, 0, 0, 0]) g0 u0 ue ce c0 hv0 hd0
  have e1 := gl_of_laid (zs := [929955233495203, 466365720129213, 1662059464998953, 2033849074728123, 1442794654840575]) g1 u0 ue ce c0 hv1 hd1
  intro g cs hm
  simp only [gl, List.mem_cons, Prod.mk.injEq, List.not_mem_nil, or_false] at hm
  rcases hm with ⟨rfl, rfl⟩ | ⟨rfl, rfl⟩
  · exact e0
  · exact e1
theorem door_met (os : Os) (args : Array Value) : laidMetH Tryd.prog laid ((World.doorLaid Tryd.prog 29 os).forCall (fun _ _ => 0) ⟨#[], args, []⟩).memory :=
  laidMetH_of_parts3 (fuel := 8) (laidMet_of_run' 8 (by kernel_rfl) (by kernel_rfl)) (by kernel_rfl) (by kernel_rfl)
theorem ty_by32 : DTy Tryd.prog 22 by32 := ⟨5, Tryd.underlying22, by kernel_rfl, by kernel_rfl, by kernel_rfl, by decide, by decide⟩
theorem ty_u8 : DTy Tryd.prog 5 u8 := ⟨Tryd.underlying5, by decide, by decide⟩
def z32 : Value := .agg (Array.replicate 32 (.int .u8 0))
theorem ret_true {G : Nat → List Int → List Int} {id : Nat} {zs rs : List Int} (hr : inB (bdsL [.bool]) rs) (h : FG G id zs rs) (h1 : ∀ a z, SB id a [[z]] → z = 1) (h2 : (sh id).2 = [1]) : resVal [.bool] rs = .bool true := by
  match rs, hr with
  | [z], hr =>
    have h := h.1
    rw [h2, split1 (by rfl)] at h
    rw [h1 _ _ h]
    simp [resVal, valL, D.val]
def laid4 : List (String × DataW Unit) := [("vouchsafe/field.One", Rows.laid_vouchsafe_field_One), ("vouchsafe/curve.once", Rows.laid_vouchsafe_curve_once), ("vouchsafe/scalar.order", Rows.laid_vouchsafe_scalar_order), ("vouchsafe/scalar.tail", Rows.laid_vouchsafe_scalar_tail)]
theorem g2 : Tryd.prog.globalNamed "vouchsafe/scalar.order" = some 2 := by kernel_rfl
theorem g3 : Tryd.prog.globalNamed "vouchsafe/scalar.tail" = some 3 := by kernel_rfl
theorem t2 : (Tryd.prog.globals[2]?).map (·.type) = some 65 := by kernel_rfl
theorem t3 : (Tryd.prog.globals[3]?).map (·.type) = some 101 := by kernel_rfl
theorem u2 : Tryd.prog.underlying 65 = some (.array 4 29) := by kernel_rfl
theorem u3 : Tryd.prog.underlying 101 = some (.array 2 29) := by kernel_rfl
theorem c2 : Tryd.prog.cellsOf 65 = 4 := by kernel_rfl
theorem c3 : Tryd.prog.cellsOf 101 = 2 := by kernel_rfl
theorem gl_ok4 {W : World} (h : laidMetH Tryd.prog laid4 W) : GOk gl ⟨W, W, fun _ => False⟩ ∧ GOk Go.Sc.gl ⟨W, W, fun _ => False⟩ := by
  rw [MakeChecks.laidMetH_plain _ _ _ (by kernel_rfl)] at h
  obtain ⟨ps, ⟨a0, b0, cs0, f0, p0, q0, hg0, ht0, hv0, hd0, ⟨a1, b1, cs1, f1, p1, q1, hg1, ht1, hv1, hd1, ⟨a2, b2, cs2, f2, p2, q2, hg2, ht2, hv2, hd2, ⟨a3, b3, cs3, f3, p3, q3, hg3, ht3, hv3, hd3, _, _⟩, _⟩, _⟩, _⟩, _, _⟩ := h
  obtain rfl := Option.some.inj (g0.symm.trans hg0)
  obtain rfl := Option.some.inj (t0.symm.trans ht0)
  obtain rfl := Option.some.inj (g1.symm.trans hg1)
  obtain rfl := Option.some.inj (t1.symm.trans ht1)
  obtain rfl := Option.some.inj (g2.symm.trans hg2)
  obtain rfl := Option.some.inj (t2.symm.trans ht2)
  obtain rfl := Option.some.inj (g3.symm.trans hg3)
  obtain rfl := Option.some.inj (t3.symm.trans ht3)
  have e0 := gl_of_laid (zs := [1, 0, 0, 0, 0]) g0 u0 ue ce c0 hv0 hd0
  have e1 := gl_of_laid (zs := [929955233495203, 466365720129213, 1662059464998953, 2033849074728123, 1442794654840575]) g1 u0 ue ce c0 hv1 hd1
  have e2 := gl_of_laid (zs := [6346243789798364141, 1503914060200516822, 0, 1152921504606846976]) g2 u2 ue ce c2 hv2 hd2
  have e3 := gl_of_laid (zs := [6346243789798364141, 1503914060200516822]) g3 u3 ue ce c3 hv3 hd3
  constructor
  · intro g cs hm
    simp only [gl, List.mem_cons, Prod.mk.injEq, List.not_mem_nil, or_false] at hm
    rcases hm with ⟨rfl, rfl⟩ | ⟨rfl, rfl⟩
    · exact e0
    · exact e1
  · intro g cs hm
    simp only [Go.Sc.gl, List.mem_cons, Prod.mk.injEq, List.not_mem_nil, or_false] at hm
    rcases hm with ⟨rfl, rfl⟩ | ⟨rfl, rfl⟩
    · exact e2
    · exact e3
theorem door_met4 (os : Os) (args : Array Value) : laidMetH Tryd.prog laid4 ((World.doorLaid Tryd.prog 29 os).forCall (fun _ _ => 0) ⟨#[], args, []⟩).memory :=
  laidMetH_of_parts3 (fuel := 8) (laidMet_of_run' 8 (by kernel_rfl) (by kernel_rfl)) (by kernel_rfl) (by kernel_rfl)
theorem curveMany_lifted (os : Os) (started : os.Started) (H : Type) (enc : TypeId × Value → H) :
    ReturnsInHanded {} Tryd.checked os 9 .any (fun w args => (Rows.curveManySpec.pre enc Tryd.prog Tryd.f9 [] false w args ∧ laidMetH Tryd.prog laid4 w) ∧ sizedMet enc Tryd.prog Tryd.f9 (OpenSpec.ofChange Rows.curveManySpec) false w args)
      (Rows.curveManySpec.post enc Tryd.prog Tryd.f9 false true false false) :=
  law_lift (C := Tryd.checked) (X := fun w _ => laidMetH Tryd.prog laid4 w) (ts := [22, 22]) (tb := 4) (ds := [by32, by32]) (fun _ _ _ hh h => h.of_heap hh) own started (by kernel_rfl) Tryd.func9
    (ChangeSpec.witness_shaped (enc := enc) (C := Tryd.checked) (os := os) (X := fun w _ => laidMetH Tryd.prog laid4 w) false (World.doorLaid Tryd.prog 29 os) #[z32, z32] 8 rfl (World.shaped_of_RefB (by kernel_rfl) (by kernel_rfl)) (by kernel_rfl) (by kernel_rfl) (by kernel_rfl) (door_met4 os _))
    (by rw [Tryd.params9]) (by kernel_rfl) (by kernel_rfl) Tryd.underlying4 ⟨ty_by32, ⟨ty_by32, trivial⟩⟩ rfl
    (fun xs h => by match xs, h with | [x0, x1], _ => rfl)
    (fun W zs hz hX => by
      have hL : laidMetH Tryd.prog laid4 W := hX.elim (fun h => h #[]) id
      obtain ⟨G, hG⟩ := many_ok (gl_ok4 hL).1 (gl_ok4 hL).2
      obtain ⟨rs, hb, hs, hc⟩ := hG.2 zs hz
      have hr := ret_true hb hs (fun a z h => h) rfl
      have hc := hc W (World.Extends.refl W)
      rw [show k_lmany.res = [.bool] by rfl, hr] at hc
      exact hc)
theorem curveMany_row : Rows.CurveManySaid :=
  OpenClaim.holds_of_wide 9 Tryd.f9 rfl rfl rfl rfl rfl rfl rfl ⟨rfl, rfl, rfl, rfl, rfl⟩ rfl rfl rfl rfl rfl (by kernel_rfl) Tryd.func9 (by kernel_rfl)
    (of_decide_eq_true (by kernel_rfl)) (by unfold Func.isWrapper; first | (rw [if_pos (by decide +kernel)]; kernel_rfl) | (rw [if_neg (by decide +kernel)]; exact ⟨rfl, rfl⟩))
    (fun os started H enc _ => curveMany_lifted os started H enc)
theorem curveMany_holds : Rows.CurveManyCardSaid :=
  Claim7.holds_tied_plain_at .later [] [.data, .wider, .wider, .data] true (true, "e6104a71ded1bc2e36753aa4f61e2e2c565499004ef3d5e2db6caf1ca49f268a") false
    curveMany_row (fun _ h => by cases h) (by kernel_rfl) (fun _ h => by cases h) curveMany_row_tie rfl ⟨rfl, rfl⟩ (by kernel_rfl) rfl
    (fun f fn hf hfn => by
      obtain rfl : f = 9 := Option.some.inj ((show Tryd.prog.funcNamed "vouchsafe/vouchsafelaw10.CurveMany" = some 9 by kernel_rfl).symm.trans hf) |>.symm
      obtain rfl : fn = Tryd.f9 := (Option.some.inj (Tryd.func9.symm.trans hfn)).symm
      exact ⟨by kernel_rfl, fun j t ht => by
        rw [Tryd.params9] at ht
        have hm : t ∈ [22, 22] := by simpa using Array.mem_of_getElem? ht
        have hall : ([22, 22].all fun u => !Tryd.prog.wantsStandIn u) = true := by kernel_rfl
        exact (show Tryd.prog.wantsStandIn t = false by simpa using List.all_eq_true.1 hall t hm)⟩)
    (by kernel_rfl)
#print axioms curveMany_holds
end Go.Proofs.YtaapajicchefdaaDoor
