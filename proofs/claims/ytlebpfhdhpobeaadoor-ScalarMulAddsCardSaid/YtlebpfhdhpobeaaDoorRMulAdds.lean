/- ScalarMulAdds: for every input the law returns true, and each argument reads behind the call as it read before; the listed variables are tied to the program's text. -/
import Derived.Test.YtlebpfhdhpobeaaDoorScRow
set_option maxRecDepth 100000
namespace Go.Proofs.YtlebpfhdhpobeaaDoor
open Go Go.Rx Go.Sc Go.ChangeShapes Go.RowKit
theorem scalarMulAdds_lifted (os : Os) (started : os.Started) (H : Type) (enc : TypeId × Value → H) :
    ReturnsInHanded {} Tryd.checked os 3 .any (fun w args => (Rows.scalarMulAddsSpec.pre enc Tryd.prog Tryd.f3 [] false w args ∧ laidMetH Tryd.prog laid w) ∧ sizedMet enc Tryd.prog Tryd.f3 (OpenSpec.ofChange Rows.scalarMulAddsSpec) false w args)
      (Rows.scalarMulAddsSpec.post enc Tryd.prog Tryd.f3 false true false false) :=
  law_lift (C := Tryd.checked) (X := fun w _ => laidMetH Tryd.prog laid w) (ts := [22, 22, 22]) (tb := 4) (ds := [by32, by32, by32]) (fun _ _ _ hh h => h.of_heap hh) own started (by kernel_rfl) Tryd.func3
    (ChangeSpec.witness_shaped (enc := enc) (C := Tryd.checked) (os := os) (X := fun w _ => laidMetH Tryd.prog laid w) false (World.doorLaid Tryd.prog 19 os) #[z32, z32, z32] 8 rfl (World.shaped_of_RefB (by kernel_rfl) (by kernel_rfl)) (by kernel_rfl) (by kernel_rfl) (by kernel_rfl) (door_met os _))
    (by rw [Tryd.params3]) (by kernel_rfl) (by kernel_rfl) Tryd.underlying4 ⟨ty32, ⟨ty32, ⟨ty32, trivial⟩⟩⟩ rfl
    (fun xs h => by match xs, h with | [x0, x1, x2], _ => rfl)
    (fun W zs hz hX => by
      have hL : laidMetH Tryd.prog laid W := hX.elim (fun h => h #[]) id
      obtain ⟨rs, hb, hs, hc⟩ := (ok_lmuladds (gl_ok hL)).2 zs hz
      have hs : rs = [1] := hs
      subst hs
      exact hc W (World.Extends.refl W))
theorem scalarMulAdds_row : Rows.ScalarMulAddsSaid :=
  OpenClaim.holds_of_wide 3 Tryd.f3 rfl rfl rfl rfl rfl rfl rfl ⟨rfl, rfl, rfl, rfl, rfl⟩ rfl rfl rfl rfl rfl (by kernel_rfl) Tryd.func3 (by kernel_rfl)
    (of_decide_eq_true (by kernel_rfl)) (by unfold Func.isWrapper; first | (rw [if_pos (by decide +kernel)]; kernel_rfl) | (rw [if_neg (by decide +kernel)]; exact ⟨rfl, rfl⟩))
    (fun os started H enc _ => scalarMulAdds_lifted os started H enc)
theorem scalarMulAdds_holds : Rows.ScalarMulAddsCardSaid :=
  Claim7.holds_tied_plain_at .later [] [.wider, .data] true (true, "25934d3a9e7beaab70066980befc45b5e1839eaf08b6345509e43f16647a2a8b") false
    scalarMulAdds_row (fun _ h => by cases h) (by kernel_rfl) (fun _ h => by cases h) scalarMulAdds_row_tie rfl ⟨rfl, rfl⟩ (by kernel_rfl) rfl
    (fun f fn hf hfn => by
      obtain rfl : f = 3 := Option.some.inj ((show Tryd.prog.funcNamed "vouchsafe/vouchsafelaw09.ScalarMulAdds" = some 3 by kernel_rfl).symm.trans hf) |>.symm
      obtain rfl : fn = Tryd.f3 := (Option.some.inj (Tryd.func3.symm.trans hfn)).symm
      exact ⟨by kernel_rfl, fun j t ht => by
        rw [Tryd.params3] at ht
        have hm : t ∈ [22, 22, 22] := by simpa using Array.mem_of_getElem? ht
        have hall : ([22, 22, 22].all fun u => !Tryd.prog.wantsStandIn u) = true := by kernel_rfl
        exact (show Tryd.prog.wantsStandIn t = false by simpa using List.all_eq_true.1 hall t hm)⟩)
    (by kernel_rfl)
#print axioms scalarMulAdds_holds
end Go.Proofs.YtlebpfhdhpobeaaDoor

