/- SessionSubmits: for every input the law returns true, and each argument reads behind the call as it read before; the listed variables are tied to the program's text. -/
import Derived.Test.YtodhngllhbgndaaGreatDoorPam

set_option maxRecDepth 100000
namespace Go.Proofs.YtodhngllhbgndaaGreatDoor
open Go Go.Rx Go.Ad Go.ChangeShapes Go.RowKit
theorem sessionSubmits_lifted (os : Os) (started : os.Started) (H : Type) (enc : TypeId × Value → H) :
    ReturnsInHanded {} Tryz.checked os 4 .any (fun w args => (Rows.sessionSubmitsSpec.pre enc Tryz.prog Tryz.f4 [] false w args ∧ laidMetH Tryz.prog laid w) ∧ sizedMet enc Tryz.prog Tryz.f4 (OpenSpec.ofChange Rows.sessionSubmitsSpec) false w args)
      (Rows.sessionSubmitsSpec.post enc Tryz.prog Tryz.f4 false true false false) :=
  law_lift (C := Tryz.checked) (X := fun w _ => laidMetH Tryz.prog laid w) (ts := [22, 3, 26]) (tb := 4) (bs := [.rd [.int .i64 (-9223372036854775808) 9223372036854775807, .str, .str, .str, .str, .int .i64 (-9223372036854775808) 9223372036854775807, .int .i64 (-9223372036854775808) 9223372036854775807, .int .i64 (-9223372036854775808) 9223372036854775807, .bool, .int .i64 (-9223372036854775808) 9223372036854775807], .d (.int .i64 (-9223372036854775808) 9223372036854775807), .d (.mix [.int .i64 (-9223372036854775808) 9223372036854775807, .str, .str, .str, .str, .int .i64 (-9223372036854775808) 9223372036854775807, .int .i64 (-9223372036854775808) 9223372036854775807, .int .i64 (-9223372036854775808) 9223372036854775807, .bool, .int .i64 (-9223372036854775808) 9223372036854775807])]) (fun _ _ _ hh h => h.of_heap hh) own started (by kernel_rfl) Tryz.func4
    (ChangeSpec.witness_shaped (enc := enc) (C := Tryz.checked) (os := os) (X := fun w _ => laidMetH Tryz.prog laid w) false (World.laidAll Tryz.prog os laid) #[.slice none 0 0, .int .i64 0, (.agg #[.int .i64 0, .string ⟨#[]⟩, .string ⟨#[]⟩, .string ⟨#[]⟩, .string ⟨#[]⟩, .int .i64 0, .int .i64 0, .int .i64 0, .bool false, .int .i64 0])] 8 (World.laidAll_os _ _ _) (World.shaped_of_ZipB (by kernel_rfl) (by kernel_rfl)) (by kernel_rfl) (by kernel_rfl) (by kernel_rfl) (door_met os _))
    (by rw [Tryz.params4]) (by kernel_rfl) (by kernel_rfl) Tryz.underlying4 ⟨ty_lss, ⟨ty_dint, ⟨ty_ss, trivial⟩⟩⟩ lo_b (by kernel_rfl) rfl
    (fun xs h => by match xs, h with | [x0, x1, x2], _ => rfl)
    (fun W zs vs hz hat _ hsh => by
      have A := all_ok hsh
      exact law_b (sh := sh) (SB := SB) (c := k_lssub) (ok_lssub (hg := gl_ok W) (h_salive := A.salive_) (h_sSubmit := A.sSubmit_) (h_xsS := A.xsS_) (h_sShown := A.sShown_) (h_xsH := A.xsH_) (h_sFind := A.sFind_) (h_xsF := A.xsF_) (h_ySame := A.ySame_) (h_sPrune := A.sPrune_) (h_xsP := A.xsP_)) rfl rfl hz hat (one_of (by decide)) rfl)
theorem sessionSubmits_row : Rows.SessionSubmitsSaid :=
  OpenClaim.holds_of_wide 4 Tryz.f4 rfl rfl rfl rfl rfl rfl rfl ⟨rfl, rfl, rfl, rfl, rfl⟩ rfl rfl rfl rfl rfl (by kernel_rfl) Tryz.func4 (by kernel_rfl)
    (of_decide_eq_true (by kernel_rfl)) (by unfold Func.isWrapper; first | (rw [if_pos (by decide +kernel)]; kernel_rfl) | (rw [if_neg (by decide +kernel)]; exact ⟨rfl, rfl⟩))
    (fun os started H enc _ => sessionSubmits_lifted os started H enc)
theorem sessionSubmits_holds : Rows.SessionSubmitsCardSaid :=
  Claim7.holds_tied_plain_at .later [] [.data, .pinned] true (true, "5a5741168cf022ab9716d660950e6c20c5d37df2ace43d3eafebc5105a9dc32e") false
    sessionSubmits_row (fun _ h => by cases h) (by kernel_rfl) (fun _ h => by cases h) sessionSubmits_row_tie rfl ⟨rfl, rfl⟩ (by kernel_rfl) rfl
    (fun f fn hf hfn => by
      obtain rfl : f = 4 := Option.some.inj ((show Tryz.prog.funcNamed "vouchsafe/vouchsafelaw16.SessionSubmits" = some 4 by kernel_rfl).symm.trans hf) |>.symm
      obtain rfl : fn = Tryz.f4 := (Option.some.inj (Tryz.func4.symm.trans hfn)).symm
      exact ⟨by kernel_rfl, fun j t ht => by
        rw [Tryz.params4] at ht
        have hm : t ∈ ([22, 3, 26] : List TypeId) := by simpa using Array.mem_of_getElem? ht
        have hall : (([22, 3, 26] : List TypeId).all fun u => !Tryz.prog.wantsStandIn u) = true := by kernel_rfl
        exact (show Tryz.prog.wantsStandIn t = false by simpa using List.all_eq_true.1 hall t hm)⟩)
    (by kernel_rfl)
end Go.Proofs.YtodhngllhbgndaaGreatDoor
