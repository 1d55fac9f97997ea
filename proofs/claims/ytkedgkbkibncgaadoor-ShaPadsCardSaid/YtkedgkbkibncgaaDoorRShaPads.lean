/- ShaPads: for every input the law returns true, and each argument reads behind the call as it read before; the listed variables are tied to the program's text. -/
import Derived.Test.YtkedgkbkibncgaaDoorPam

set_option maxRecDepth 100000
namespace Go.Proofs.YtkedgkbkibncgaaDoor
open Go Go.Rx Go.Ad Go.ChangeShapes Go.RowKit
theorem shaPads_lifted (os : Os) (started : os.Started) (H : Type) (enc : TypeId × Value → H) :
    ReturnsInHanded {} Tryd.checked os 5 .any (fun w args => (Rows.shaPadsSpec.pre enc Tryd.prog Tryd.f5 [] false w args ∧ laidMetH Tryd.prog laid w) ∧ sizedMet enc Tryd.prog Tryd.f5 (OpenSpec.ofChange Rows.shaPadsSpec) false w args)
      (Rows.shaPadsSpec.post enc Tryd.prog Tryd.f5 false true false false) :=
  law_lift (C := Tryd.checked) (X := fun w _ => laidMetH Tryd.prog laid w) (ts := [3, 3, 25]) (tb := 4) (bs := [.d (.int .i64 (-9223372036854775808) 9223372036854775807), .d (.int .i64 (-9223372036854775808) 9223372036854775807), .rd [.int .u8 0 255]]) (fun _ _ _ hh h => h.of_heap hh) own started (by kernel_rfl) Tryd.func5
    (ChangeSpec.witness_shaped (enc := enc) (C := Tryd.checked) (os := os) (X := fun w _ => laidMetH Tryd.prog laid w) false (World.laidAll Tryd.prog os laid) #[.int .i64 0, .int .i64 0, .slice none 0 0] 8 (World.laidAll_os _ _ _) (World.shaped_of_ZipB (by kernel_rfl) (by kernel_rfl)) (by kernel_rfl) (by kernel_rfl) (by kernel_rfl) (door_met os _))
    (by rw [Tryd.params5]) (by kernel_rfl) (by kernel_rfl) Tryd.underlying4 ⟨ty_dint, ⟨ty_dint, ⟨ty_lu8, trivial⟩⟩⟩ lo_b (by kernel_rfl) rfl
    (fun xs h => by match xs, h with | [x0, x1, x2], _ => rfl)
    (fun W zs vs hz hat hX hsh => by
      have A := all_ok hsh hX
      exact law_b (sh := sh) (SB := SB) (c := k_lspads) (ok_lspads (hg := gl_ok hX) (h_aalive := A.aalive_) (h_shex := A.shex_) (h_rhex := A.rhex_) (h_spad := A.spad_) (h_rpad := A.rpad_)) rfl rfl hz hat (one_of (by decide)) rfl)
theorem shaPads_row : Rows.ShaPadsSaid :=
  OpenClaim.holds_of_wide 5 Tryd.f5 rfl rfl rfl rfl rfl rfl rfl ⟨rfl, rfl, rfl, rfl, rfl⟩ rfl rfl rfl rfl rfl (by kernel_rfl) Tryd.func5 (by kernel_rfl)
    (of_decide_eq_true (by kernel_rfl)) (by unfold Func.isWrapper; first | (rw [if_pos (by decide +kernel)]; kernel_rfl) | (rw [if_neg (by decide +kernel)]; exact ⟨rfl, rfl⟩))
    (fun os started H enc _ => shaPads_lifted os started H enc)
theorem shaPads_holds : Rows.ShaPadsCardSaid :=
  Claim7.holds_tied_plain_at .later [] [.data, .data] true (true, "f09bc7b49a561aac18f128ad369613dbe3a61d338c1b8472c29eb5757b0446e9") false
    shaPads_row (fun _ h => by cases h) (by kernel_rfl) (fun _ h => by cases h) shaPads_row_tie rfl ⟨rfl, rfl⟩ (by kernel_rfl) rfl
    (fun f fn hf hfn => by
      obtain rfl : f = 5 := Option.some.inj ((show Tryd.prog.funcNamed "vouchsafe/vouchsafelaw07.ShaPads" = some 5 by kernel_rfl).symm.trans hf) |>.symm
      obtain rfl : fn = Tryd.f5 := (Option.some.inj (Tryd.func5.symm.trans hfn)).symm
      exact ⟨by kernel_rfl, fun j t ht => by
        rw [Tryd.params5] at ht
        have hm : t ∈ ([3, 3, 25] : List TypeId) := by simpa using Array.mem_of_getElem? ht
        have hall : (([3, 3, 25] : List TypeId).all fun u => !Tryd.prog.wantsStandIn u) = true := by kernel_rfl
        exact (show Tryd.prog.wantsStandIn t = false by simpa using List.all_eq_true.1 hall t hm)⟩)
    (by kernel_rfl)
end Go.Proofs.YtkedgkbkibncgaaDoor
