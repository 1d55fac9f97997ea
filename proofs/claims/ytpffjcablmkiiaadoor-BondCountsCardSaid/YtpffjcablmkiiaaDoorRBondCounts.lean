/- BondCounts: for every input the law returns true, and each argument reads behind the call as it read before; the listed variables are tied to the program's text. -/
import Derived.Test.YtpffjcablmkiiaaDoorPaj

set_option maxRecDepth 100000
namespace Go.Proofs.YtpffjcablmkiiaaDoor
open Go Go.Rx Go.Ad Go.ChangeShapes Go.RowKit
theorem bondCounts_lifted (os : Os) (started : os.Started) (H : Type) (enc : TypeId × Value → H) :
    ReturnsInHanded {} Tryd.checked os 4 .any (fun w args => (Rows.bondCountsSpec.pre enc Tryd.prog Tryd.f4 [] false w args ∧ laidMetH Tryd.prog laid w) ∧ sizedMet enc Tryd.prog Tryd.f4 (OpenSpec.ofChange Rows.bondCountsSpec) false w args)
      (Rows.bondCountsSpec.post enc Tryd.prog Tryd.f4 false true false false) :=
  law_lift (C := Tryd.checked) (X := fun w _ => laidMetH Tryd.prog laid w) (ts := [24, 9]) (tb := 4) (bs := [.rd [.str, .str, .str, .int .i64 (-9223372036854775808) 9223372036854775807], .d .str]) (fun _ _ _ hh h => h.of_heap hh) own started (by kernel_rfl) Tryd.func4
    (ChangeSpec.witness_shaped (enc := enc) (C := Tryd.checked) (os := os) (X := fun w _ => laidMetH Tryd.prog laid w) false (World.laidAll Tryd.prog os laid) #[.slice none 0 0, .string ⟨#[]⟩] 8 (World.laidAll_os _ _ _) (World.shaped_of_ZipB (by kernel_rfl) (by kernel_rfl)) (by kernel_rfl) (by kernel_rfl) (by kernel_rfl) (door_met os _))
    (by rw [Tryd.params4]) (by kernel_rfl) (by kernel_rfl) Tryd.underlying4 ⟨ty_lbb, ⟨ty_str, trivial⟩⟩ lo_b (by kernel_rfl) rfl
    (fun xs h => by match xs, h with | [x0, x1], _ => rfl)
    (fun W zs vs hz hat _ hsh => by
      have A := all_ok hsh
      exact law_b (sh := sh) (SB := SB) (c := k_lcounts) (ok_lcounts (hg := gl_ok W) (h_balive := A.balive_) (h_bRight := A.bRight_) (h_bOf := A.bOf_) (h_bFind := A.bFind_)) rfl rfl hz hat (one_of (by decide)) rfl)
theorem bondCounts_row : Rows.BondCountsSaid :=
  OpenClaim.holds_of_wide 4 Tryd.f4 rfl rfl rfl rfl rfl rfl rfl ⟨rfl, rfl, rfl, rfl, rfl⟩ rfl rfl rfl rfl rfl (by kernel_rfl) Tryd.func4 (by kernel_rfl)
    (of_decide_eq_true (by kernel_rfl)) (by unfold Func.isWrapper; first | (rw [if_pos (by decide +kernel)]; kernel_rfl) | (rw [if_neg (by decide +kernel)]; exact ⟨rfl, rfl⟩))
    (fun os started H enc _ => bondCounts_lifted os started H enc)
theorem bondCounts_holds : Rows.BondCountsCardSaid :=
  Claim7.holds_tied_plain_at .later [] [.data, .pinned] true (true, "b6e6711b515d6ed6e69891c2c3e8438ef1a4e5b292ce005ed9b2b91f66cf322c") false
    bondCounts_row (fun _ h => by cases h) (by kernel_rfl) (fun _ h => by cases h) bondCounts_row_tie rfl ⟨rfl, rfl⟩ (by kernel_rfl) rfl
    (fun f fn hf hfn => by
      obtain rfl : f = 4 := Option.some.inj ((show Tryd.prog.funcNamed "vouchsafe/vouchsafelaw18.BondCounts" = some 4 by kernel_rfl).symm.trans hf) |>.symm
      obtain rfl : fn = Tryd.f4 := (Option.some.inj (Tryd.func4.symm.trans hfn)).symm
      exact ⟨by kernel_rfl, fun j t ht => by
        rw [Tryd.params4] at ht
        have hm : t ∈ ([24, 9] : List TypeId) := by simpa using Array.mem_of_getElem? ht
        have hall : (([24, 9] : List TypeId).all fun u => !Tryd.prog.wantsStandIn u) = true := by kernel_rfl
        exact (show Tryd.prog.wantsStandIn t = false by simpa using List.all_eq_true.1 hall t hm)⟩)
    (by kernel_rfl)
end Go.Proofs.YtpffjcablmkiiaaDoor
