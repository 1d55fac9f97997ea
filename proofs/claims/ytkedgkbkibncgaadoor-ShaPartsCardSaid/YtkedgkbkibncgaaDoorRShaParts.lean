/- ShaParts: for every input the law returns true, and each argument reads behind the call as it read before; the listed variables are tied to the program's text. -/
import Derived.Test.YtkedgkbkibncgaaDoorPap

set_option maxRecDepth 100000
namespace Go.Proofs.YtkedgkbkibncgaaDoor
open Go Go.Rx Go.Ad Go.ChangeShapes Go.RowKit
theorem shaParts_lifted (os : Os) (started : os.Started) (H : Type) (enc : TypeId × Value → H) :
    ReturnsInHanded {} Tryd.checked os 4 .any (fun w args => (Rows.shaPartsSpec.pre enc Tryd.prog Tryd.f4 [] false w args ∧ laidMetH Tryd.prog laid w) ∧ sizedMet enc Tryd.prog Tryd.f4 (OpenSpec.ofChange Rows.shaPartsSpec) false w args)
      (Rows.shaPartsSpec.post enc Tryd.prog Tryd.f4 false true false false) :=
  law_lift (C := Tryd.checked) (X := fun w _ => laidMetH Tryd.prog laid w) (ts := [25, 33, 33]) (tb := 4) (bs := [.rd [.int .u8 0 255], .d (.int .u16 0 65535), .d (.int .u16 0 65535)]) (fun _ _ _ hh h => h.of_heap hh) own started (by kernel_rfl) Tryd.func4
    (ChangeSpec.witness_shaped (enc := enc) (C := Tryd.checked) (os := os) (X := fun w _ => laidMetH Tryd.prog laid w) false (World.laidAll Tryd.prog os laid) #[.slice none 0 0, .int .u16 0, .int .u16 0] 8 (World.laidAll_os _ _ _) (World.shaped_of_ZipB (by kernel_rfl) (by kernel_rfl)) (by kernel_rfl) (by kernel_rfl) (by kernel_rfl) (door_met os _))
    (by rw [Tryd.params4]) (by kernel_rfl) (by kernel_rfl) Tryd.underlying4 ⟨ty_lu8, ⟨ty_du16, ⟨ty_du16, trivial⟩⟩⟩ lo_b (by kernel_rfl) rfl
    (fun xs h => by match xs, h with | [x0, x1, x2], _ => rfl)
    (fun W zs vs hz hat hX hsh => by
      have A := all_ok hsh hX
      exact law_b (sh := sh) (SB := SB) (c := k_lsparts) (ok_lsparts (hg := gl_ok hX) (h_aalive := A.aalive_) (h_sum32 := A.sum32_) (h_sum64 := A.sum64_) (h_sum32d := A.sum32d_) (h_sum64c := A.sum64c_)) rfl rfl hz hat (one_of (by decide)) rfl)
theorem shaParts_row : Rows.ShaPartsSaid :=
  OpenClaim.holds_of_wide 4 Tryd.f4 rfl rfl rfl rfl rfl rfl rfl ⟨rfl, rfl, rfl, rfl, rfl⟩ rfl rfl rfl rfl rfl (by kernel_rfl) Tryd.func4 (by kernel_rfl)
    (of_decide_eq_true (by kernel_rfl)) (by unfold Func.isWrapper; first | (rw [if_pos (by decide +kernel)]; kernel_rfl) | (rw [if_neg (by decide +kernel)]; exact ⟨rfl, rfl⟩))
    (fun os started H enc _ => shaParts_lifted os started H enc)
theorem shaParts_holds : Rows.ShaPartsCardSaid :=
  Claim7.holds_tied_plain_at .later [] [.data, .data] true (true, "f09bc7b49a561aac18f128ad369613dbe3a61d338c1b8472c29eb5757b0446e9") false
    shaParts_row (fun _ h => by cases h) (by kernel_rfl) (fun _ h => by cases h) shaParts_row_tie rfl ⟨rfl, rfl⟩ (by kernel_rfl) rfl
    (fun f fn hf hfn => by
      obtain rfl : f = 4 := Option.some.inj ((show Tryd.prog.funcNamed "vouchsafe/vouchsafelaw07.ShaParts" = some 4 by kernel_rfl).symm.trans hf) |>.symm
      obtain rfl : fn = Tryd.f4 := (Option.some.inj (Tryd.func4.symm.trans hfn)).symm
      exact ⟨by kernel_rfl, fun j t ht => by
        rw [Tryd.params4] at ht
        have hm : t ∈ ([25, 33, 33] : List TypeId) := by simpa using Array.mem_of_getElem? ht
        have hall : (([25, 33, 33] : List TypeId).all fun u => !Tryd.prog.wantsStandIn u) = true := by kernel_rfl
        exact (show Tryd.prog.wantsStandIn t = false by simpa using List.all_eq_true.1 hall t hm)⟩)
    (by kernel_rfl)
end Go.Proofs.YtkedgkbkibncgaaDoor
