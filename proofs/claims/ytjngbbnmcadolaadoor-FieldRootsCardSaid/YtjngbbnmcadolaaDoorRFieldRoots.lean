/- FieldRoots: for every input the law returns true, and each argument reads behind the call as it read before; the listed variable is tied to the program's text. -/
import Derived.Test.YtjngbbnmcadolaaDoorFdRow
set_option maxRecDepth 100000
namespace Go.Proofs.YtjngbbnmcadolaaDoor
open Go Go.Rx Go.Fd Go.ChangeShapes Go.RowKit
theorem fieldRoots_lifted (os : Os) (started : os.Started) (H : Type) (enc : TypeId × Value → H) :
    ReturnsInHanded {} Tryd.checked os 6 .any (fun w args => (Rows.fieldRootsSpec.pre enc Tryd.prog Tryd.f6 [] false w args ∧ laidMetH Tryd.prog laid w) ∧ sizedMet enc Tryd.prog Tryd.f6 (OpenSpec.ofChange Rows.fieldRootsSpec) false w args)
      (Rows.fieldRootsSpec.post enc Tryd.prog Tryd.f6 false true false false) :=
  law_lift (C := Tryd.checked) (X := fun w _ => laidMetH Tryd.prog laid w) (ts := [22]) (tb := 4) (ds := [by32]) (fun _ _ _ hh h => h.of_heap hh) own started (by kernel_rfl) Tryd.func6
    (ChangeSpec.witness_shaped (enc := enc) (C := Tryd.checked) (os := os) (X := fun w _ => laidMetH Tryd.prog laid w) false (World.doorLaid Tryd.prog 14 os) #[z32] 8 rfl (World.shaped_of_RefB (by kernel_rfl) (by kernel_rfl)) (by kernel_rfl) (by kernel_rfl) (by kernel_rfl) (door_met os _))
    (by rw [Tryd.params6]) (by kernel_rfl) (by kernel_rfl) Tryd.underlying4 ⟨ty_by32, trivial⟩ rfl
    (fun xs h => by match xs, h with | [x0], _ => rfl)
    (fun W zs hz hX => by
      have hL : laidMetH Tryd.prog laid W := hX.elim (fun h => h #[]) id
      obtain ⟨G, hG⟩ := all_ok (gl_ok hL)
      obtain ⟨rs, hb, hs, hc⟩ := (hG k_lroots (mem_at (i := 3) rfl)).2 zs hz
      have hr := ret_true hb hs (fun a z h => h) rfl
      have hc := hc W (World.Extends.refl W)
      rw [show k_lroots.res = [.bool] by rfl, hr] at hc
      exact hc)
theorem fieldRoots_row : Rows.FieldRootsSaid :=
  OpenClaim.holds_of_wide 6 Tryd.f6 rfl rfl rfl rfl rfl rfl rfl ⟨rfl, rfl, rfl, rfl, rfl⟩ rfl rfl rfl rfl rfl (by kernel_rfl) Tryd.func6 (by kernel_rfl)
    (of_decide_eq_true (by kernel_rfl)) (by unfold Func.isWrapper; first | (rw [if_pos (by decide +kernel)]; kernel_rfl) | (rw [if_neg (by decide +kernel)]; exact ⟨rfl, rfl⟩))
    (fun os started H enc _ => fieldRoots_lifted os started H enc)
theorem fieldRoots_holds : Rows.FieldRootsCardSaid :=
  Claim7.holds_tied_plain_at .later [] [.data] true (true, "40103dc496e62195807ae18e8e9af08f3a013e35eb7b9cc7adfddb12a25f9cc6") false
    fieldRoots_row (fun _ h => by cases h) (by kernel_rfl) (fun _ h => by cases h) fieldRoots_row_tie rfl ⟨rfl, rfl⟩ (by kernel_rfl) rfl
    (fun f fn hf hfn => by
      obtain rfl : f = 6 := Option.some.inj ((show Tryd.prog.funcNamed "vouchsafe/vouchsafelaw08.FieldRoots" = some 6 by kernel_rfl).symm.trans hf) |>.symm
      obtain rfl : fn = Tryd.f6 := (Option.some.inj (Tryd.func6.symm.trans hfn)).symm
      exact ⟨by kernel_rfl, fun j t ht => by
        rw [Tryd.params6] at ht
        have hm : t ∈ [22] := by simpa using Array.mem_of_getElem? ht
        have hall : ([22].all fun u => !Tryd.prog.wantsStandIn u) = true := by kernel_rfl
        exact (show Tryd.prog.wantsStandIn t = false by simpa using List.all_eq_true.1 hall t hm)⟩)
    (by kernel_rfl)
#print axioms fieldRoots_holds
end Go.Proofs.YtjngbbnmcadolaaDoor

