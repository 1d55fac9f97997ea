/- IdsPorts: for every input the law returns true, and each argument reads behind the call as it read before; the listed variables are tied to the program's text. -/
import Derived.Test.YtlecfjcooglpoaaDoorAdRow
set_option maxRecDepth 100000
namespace Go.Proofs.YtlecfjcooglpoaaDoor
open Go Go.Rx Go.Ad Go.ChangeShapes Go.RowKit
theorem idsPorts_lifted (os : Os) (started : os.Started) (H : Type) (enc : TypeId × Value → H) :
    ReturnsInHanded {} Tryd.checked os 5 .any (fun w args => (Rows.idsPortsSpec.pre enc Tryd.prog Tryd.f5 [] false w args ∧ laidMetH Tryd.prog laid w) ∧ sizedMet enc Tryd.prog Tryd.f5 (OpenSpec.ofChange Rows.idsPortsSpec) false w args)
      (Rows.idsPortsSpec.post enc Tryd.prog Tryd.f5 false true false false) :=
  law_lift (C := Tryd.checked) (X := fun w _ => laidMetH Tryd.prog laid w) (ts := [9, 28]) (tb := 4) (bs := [.d .str, .d (.int .u16 0 65535)]) (fun _ _ _ hh h => h.of_heap hh) own started (by kernel_rfl) Tryd.func5
    (ChangeSpec.witness_shaped (enc := enc) (C := Tryd.checked) (os := os) (X := fun w _ => laidMetH Tryd.prog laid w) false (World.laidAll Tryd.prog os laid) #[.string ⟨#[]⟩, .int .u16 0] 8 (World.laidAll_os _ _ _) (World.shaped_of_ZipB (by kernel_rfl) (by kernel_rfl)) (by kernel_rfl) (by kernel_rfl) (by kernel_rfl) (door_met os _))
    (by rw [Tryd.params5]) (by kernel_rfl) (by kernel_rfl) Tryd.underlying4 ⟨ty_str, ⟨ty_du16, trivial⟩⟩ lo_b (by kernel_rfl) rfl
    (fun xs h => by match xs, h with | [x0, x1], _ => rfl)
    (fun W zs vs hz hat _ hsh => by
      have A := all_ok hsh
      exact law_b (sh := sh) (SB := SB) (c := k_lports) (ok_lports (hg := gl_ok W) (h_ialive := A.ialive_) (h_server := A.server_)) rfl rfl hz hat (one_of (by decide)) rfl)
theorem idsPorts_row : Rows.IdsPortsSaid :=
  OpenClaim.holds_of_wide 5 Tryd.f5 rfl rfl rfl rfl rfl rfl rfl ⟨rfl, rfl, rfl, rfl, rfl⟩ rfl rfl rfl rfl rfl (by kernel_rfl) Tryd.func5 (by kernel_rfl)
    (of_decide_eq_true (by kernel_rfl)) (by unfold Func.isWrapper; first | (rw [if_pos (by decide +kernel)]; kernel_rfl) | (rw [if_neg (by decide +kernel)]; exact ⟨rfl, rfl⟩))
    (fun os started H enc _ => idsPorts_lifted os started H enc)
theorem idsPorts_holds : Rows.IdsPortsCardSaid :=
  Claim7.holds_tied_plain_at .later [] [.data, .pinned] true (true, "57af2d723405ef3027c8b887a0198ad1d356e996abceea088becc32b4297ed2a") false
    idsPorts_row (fun _ h => by cases h) (by kernel_rfl) (fun _ h => by cases h) idsPorts_row_tie rfl ⟨rfl, rfl⟩ (by kernel_rfl) rfl
    (fun f fn hf hfn => by
      obtain rfl : f = 5 := Option.some.inj ((show Tryd.prog.funcNamed "vouchsafe/vouchsafelaw05.IdsPorts" = some 5 by kernel_rfl).symm.trans hf) |>.symm
      obtain rfl : fn = Tryd.f5 := (Option.some.inj (Tryd.func5.symm.trans hfn)).symm
      exact ⟨by kernel_rfl, fun j t ht => by
        rw [Tryd.params5] at ht
        have hm : t ∈ ([9, 28] : List TypeId) := by simpa using Array.mem_of_getElem? ht
        have hall : (([9, 28] : List TypeId).all fun u => !Tryd.prog.wantsStandIn u) = true := by kernel_rfl
        exact (show Tryd.prog.wantsStandIn t = false by simpa using List.all_eq_true.1 hall t hm)⟩)
    (by kernel_rfl)
end Go.Proofs.YtlecfjcooglpoaaDoor
