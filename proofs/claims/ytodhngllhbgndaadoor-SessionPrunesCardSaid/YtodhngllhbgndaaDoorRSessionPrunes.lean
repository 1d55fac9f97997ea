/- SessionPrunes: for every input the law returns true, and each argument reads behind the call as it read before; the listed variables are tied to the program's text. -/
import Derived.Test.YtodhngllhbgndaaDoorPak

set_option maxRecDepth 100000
namespace Go.Proofs.YtodhngllhbgndaaDoor
open Go Go.Rx Go.Ad Go.ChangeShapes Go.RowKit
theorem sessionPrunes_lifted (os : Os) (started : os.Started) (H : Type) (enc : TypeId × Value → H) :
    ReturnsInHanded {} Tryd.checked os 4 .any (fun w args => (Rows.sessionPrunesSpec.pre enc Tryd.prog Tryd.f4 [] false w args ∧ laidMetH Tryd.prog laid w) ∧ sizedMet enc Tryd.prog Tryd.f4 (OpenSpec.ofChange Rows.sessionPrunesSpec) false w args)
      (Rows.sessionPrunesSpec.post enc Tryd.prog Tryd.f4 false true false false) :=
  law_lift (C := Tryd.checked) (X := fun w _ => laidMetH Tryd.prog laid w) (ts := [24, 3]) (tb := 4) (bs := [.rd [.int .i64 (-9223372036854775808) 9223372036854775807, .str, .str, .str, .str, .int .i64 (-9223372036854775808) 9223372036854775807, .int .i64 (-9223372036854775808) 9223372036854775807, .int .i64 (-9223372036854775808) 9223372036854775807, .bool, .int .i64 (-9223372036854775808) 9223372036854775807], .d (.int .i64 (-9223372036854775808) 9223372036854775807)]) (fun _ _ _ hh h => h.of_heap hh) own started (by kernel_rfl) Tryd.func4
    (ChangeSpec.witness_shaped (enc := enc) (C := Tryd.checked) (os := os) (X := fun w _ => laidMetH Tryd.prog laid w) false (World.laidAll Tryd.prog os laid) #[.slice none 0 0, .int .i64 0] 8 (World.laidAll_os _ _ _) (World.shaped_of_ZipB (by kernel_rfl) (by kernel_rfl)) (by kernel_rfl) (by kernel_rfl) (by kernel_rfl) (door_met os _))
    (by rw [Tryd.params4]) (by kernel_rfl) (by kernel_rfl) Tryd.underlying4 ⟨ty_lss, ⟨ty_dint, trivial⟩⟩ lo_b (by kernel_rfl) rfl
    (fun xs h => by match xs, h with | [x0, x1], _ => rfl)
    (fun W zs vs hz hat _ hsh => by
      have A := all_ok hsh
      exact law_b (sh := sh) (SB := SB) (c := k_lprunes) (ok_lprunes (hg := gl_ok W) (h_salive := A.salive_) (h_sRight := A.sRight_) (h_sPrune := A.sPrune_) (h_sFind := A.sFind_) (h_ySame := A.ySame_)) rfl rfl hz hat (one_of (by decide)) rfl)
theorem sessionPrunes_row : Rows.SessionPrunesSaid :=
  OpenClaim.holds_of_wide 4 Tryd.f4 rfl rfl rfl rfl rfl rfl rfl ⟨rfl, rfl, rfl, rfl, rfl⟩ rfl rfl rfl rfl rfl (by kernel_rfl) Tryd.func4 (by kernel_rfl)
    (of_decide_eq_true (by kernel_rfl)) (by unfold Func.isWrapper; first | (rw [if_pos (by decide +kernel)]; kernel_rfl) | (rw [if_neg (by decide +kernel)]; exact ⟨rfl, rfl⟩))
    (fun os started H enc _ => sessionPrunes_lifted os started H enc)
theorem sessionPrunes_holds : Rows.SessionPrunesCardSaid :=
  Claim7.holds_tied_plain_at .later [] [.data, .pinned] true (true, "93f608ea418f879cb984f43812d15bc1ca9430d03e73da34c2683387e32ad545") false
    sessionPrunes_row (fun _ h => by cases h) (by kernel_rfl) (fun _ h => by cases h) sessionPrunes_row_tie rfl ⟨rfl, rfl⟩ (by kernel_rfl) rfl
    (fun f fn hf hfn => by
      obtain rfl : f = 4 := Option.some.inj ((show Tryd.prog.funcNamed "vouchsafe/vouchsafelaw16.SessionPrunes" = some 4 by kernel_rfl).symm.trans hf) |>.symm
      obtain rfl : fn = Tryd.f4 := (Option.some.inj (Tryd.func4.symm.trans hfn)).symm
      exact ⟨by kernel_rfl, fun j t ht => by
        rw [Tryd.params4] at ht
        have hm : t ∈ ([24, 3] : List TypeId) := by simpa using Array.mem_of_getElem? ht
        have hall : (([24, 3] : List TypeId).all fun u => !Tryd.prog.wantsStandIn u) = true := by kernel_rfl
        exact (show Tryd.prog.wantsStandIn t = false by simpa using List.all_eq_true.1 hall t hm)⟩)
    (by kernel_rfl)
end Go.Proofs.YtodhngllhbgndaaDoor
