/- BondBinds: for every input the law returns true, and each argument reads behind the call as it read before; the listed variables are tied to the program's text. -/
import Derived.Test.YtpffjcablmkiiaaGreatDoorPal

set_option maxRecDepth 100000
namespace Go.Proofs.YtpffjcablmkiiaaGreatDoor
open Go Go.Rx Go.Ad Go.ChangeShapes Go.RowKit
theorem bondBinds_lifted (os : Os) (started : os.Started) (H : Type) (enc : TypeId × Value → H) :
    ReturnsInHanded {} Tryz.checked os 3 .any (fun w args => (Rows.bondBindsSpec.pre enc Tryz.prog Tryz.f3 [] false w args ∧ laidMetH Tryz.prog laid w) ∧ sizedMet enc Tryz.prog Tryz.f3 (OpenSpec.ofChange Rows.bondBindsSpec) false w args)
      (Rows.bondBindsSpec.post enc Tryz.prog Tryz.f3 false true false false) :=
  law_lift (C := Tryz.checked) (X := fun w _ => laidMetH Tryz.prog laid w) (ts := [22, 26, 9]) (tb := 4) (bs := [.rd [.str, .str, .str, .int .i64 (-9223372036854775808) 9223372036854775807], .d (.mix [.str, .str, .str, .int .i64 (-9223372036854775808) 9223372036854775807]), .d .str]) (fun _ _ _ hh h => h.of_heap hh) own started (by kernel_rfl) Tryz.func3
    (ChangeSpec.witness_shaped (enc := enc) (C := Tryz.checked) (os := os) (X := fun w _ => laidMetH Tryz.prog laid w) false (World.laidAll Tryz.prog os laid) #[.slice none 0 0, .agg #[.string ⟨#[]⟩, .string ⟨#[]⟩, .string ⟨#[]⟩, .int .i64 0], .string ⟨#[]⟩] 8 (World.laidAll_os _ _ _) (World.shaped_of_ZipB (by kernel_rfl) (by kernel_rfl)) (by kernel_rfl) (by kernel_rfl) (by kernel_rfl) (door_met os _))
    (by rw [Tryz.params3]) (by kernel_rfl) (by kernel_rfl) Tryz.underlying4 ⟨ty_lbb, ⟨ty_bb, ⟨ty_str, trivial⟩⟩⟩ lo_b (by kernel_rfl) rfl
    (fun xs h => by match xs, h with | [x0, x1, x2], _ => rfl)
    (fun W zs vs hz hat _ hsh => by
      have A := all_ok hsh
      exact law_b (sh := sh) (SB := SB) (c := k_lbinds) (ok_lbinds (hg := gl_ok W) (h_balive := A.balive_) (h_bBind := A.bBind_) (h_xB := A.xB_) (h_bUnbind := A.bUnbind_) (h_xU := A.xU_) (h_bFind := A.bFind_) (h_xF := A.xF_) (h_xS := A.xS_) (h_bRight := A.bRight_) (h_xR := A.xR_) (h_bOf := A.bOf_) (h_xO := A.xO_) (h_xA := A.xA_)) rfl rfl hz hat (one_of (by decide)) rfl)
theorem bondBinds_row : Rows.BondBindsSaid :=
  OpenClaim.holds_of_wide 3 Tryz.f3 rfl rfl rfl rfl rfl rfl rfl ⟨rfl, rfl, rfl, rfl, rfl⟩ rfl rfl rfl rfl rfl (by kernel_rfl) Tryz.func3 (by kernel_rfl)
    (of_decide_eq_true (by kernel_rfl)) (by unfold Func.isWrapper; first | (rw [if_pos (by decide +kernel)]; kernel_rfl) | (rw [if_neg (by decide +kernel)]; exact ⟨rfl, rfl⟩))
    (fun os started H enc _ => bondBinds_lifted os started H enc)
theorem bondBinds_holds : Rows.BondBindsCardSaid :=
  Claim7.holds_tied_plain_at .later [] [.data, .pinned] true (true, "33d46d80b8ee9d1fe83ccfc3f5ead6ad9b89c380961d7fdd163720165a734ca9") false
    bondBinds_row (fun _ h => by cases h) (by kernel_rfl) (fun _ h => by cases h) bondBinds_row_tie rfl ⟨rfl, rfl⟩ (by kernel_rfl) rfl
    (fun f fn hf hfn => by
      obtain rfl : f = 3 := Option.some.inj ((show Tryz.prog.funcNamed "vouchsafe/vouchsafelaw18.BondBinds" = some 3 by kernel_rfl).symm.trans hf) |>.symm
      obtain rfl : fn = Tryz.f3 := (Option.some.inj (Tryz.func3.symm.trans hfn)).symm
      exact ⟨by kernel_rfl, fun j t ht => by
        rw [Tryz.params3] at ht
        have hm : t ∈ ([22, 26, 9] : List TypeId) := by simpa using Array.mem_of_getElem? ht
        have hall : (([22, 26, 9] : List TypeId).all fun u => !Tryz.prog.wantsStandIn u) = true := by kernel_rfl
        exact (show Tryz.prog.wantsStandIn t = false by simpa using List.all_eq_true.1 hall t hm)⟩)
    (by kernel_rfl)
end Go.Proofs.YtpffjcablmkiiaaGreatDoor
