/- SessionRequests: for every input the law returns true,and each argument reads behind the call as it read before; the listed variables are tied to the program's text. -/
import Derived.Test.YtodhngllhbgndaaGreatDoorPam
set_option maxRecDepth 100000
namespace Go.Proofs.YtodhngllhbgndaaGreatDoor
open Go Go.Rx Go.Ad Go.ChangeShapes Go.RowKit
theorem sessionRequests_lifted (os : Os) (started : os.Started) (H : Type) (enc : TypeId × Value -> H) :
 ReturnsInHanded {} Tryz.checked os 3 .any (fun w args => (Rows.sessionRequestsSpec.pre enc Tryz.prog Tryz.f3 [] false w args /\ laidMetH Tryz.prog laid w) /\ sizedMet enc Tryz.prog Tryz.f3 (OpenSpec.ofChange Rows.sessionRequestsSpec) false w args)
  (Rows.sessionRequestsSpec.post enc Tryz.prog Tryz.f3 false true false false) :=
 law_lift (C := Tryz.checked) (X := fun w _ => laidMetH Tryz.prog laid w) (ts := [22,26]) (tb := 4) (bs := [.rd [.int .i64 (-9223372036854775808) 9223372036854775807,.str,.str,.str,.str,.int .i64 (-9223372036854775808) 9223372036854775807,.int .i64 (-9223372036854775808) 9223372036854775807,.int .i64 (-9223372036854775808) 9223372036854775807,.bool,.int .i64 (-9223372036854775808) 9223372036854775807],.d (.mix [.int .i64 (-9223372036854775808) 9223372036854775807,.str,.str,.str,.str,.int .i64 (-9223372036854775808) 9223372036854775807,.int .i64 (-9223372036854775808) 9223372036854775807,.int .i64 (-9223372036854775808) 9223372036854775807,.bool,.int .i64 (-9223372036854775808) 9223372036854775807])]) (fun _ _ _ hh h => h.of_heap hh) own started (by kernel_rfl) Tryz.func3
  (ChangeSpec.witness_shaped (enc := enc) (C := Tryz.checked) (os := os) (X := fun w _ => laidMetH Tryz.prog laid w) false (World.laidAll Tryz.prog os laid) #[.slice none 0 0,(.agg #[.int .i64 0,.string ⟨#[]⟩,.string ⟨#[]⟩,.string ⟨#[]⟩,.string ⟨#[]⟩,.int .i64 0,.int .i64 0,.int .i64 0,.bool false,.int .i64 0])] 8 (World.laidAll_os _ _ _) (World.shaped_of_ZipB (by kernel_rfl) (by kernel_rfl)) (by kernel_rfl) (by kernel_rfl) (by kernel_rfl) (door_met os _))
  (by rw [Tryz.params3]) (by kernel_rfl) (by kernel_rfl) Tryz.underlying4 ⟨ty_lss,⟨ty_ss,trivial⟩⟩ lo_b (by kernel_rfl) rfl
  (fun xs h => by match xs,h with | [x0,x1],_ => rfl)
  (fun W zs vs hz hat _ hsh => by
    have A := all_ok hsh
    exact law_b (sh := sh) (SB := SB) (c := k_lsreq) (ok_lsreq (hg := gl_ok W) (h_salive := A.salive_) (h_sReq := A.sReq_) (h_xsQ := A.xsQ_) (h_ySame := A.ySame_) (h_sRight := A.sRight_) (h_xsR := A.xsR_)) rfl rfl hz hat (one_of (by decide)) rfl)
theorem sessionRequests_row : Rows.SessionRequestsSaid :=
 OpenClaim.holds_of_wide 3 Tryz.f3 rfl rfl rfl rfl rfl rfl rfl ⟨rfl,rfl,rfl,rfl,rfl⟩ rfl rfl rfl rfl rfl (by kernel_rfl) Tryz.func3 (by kernel_rfl)
  (of_decide_eq_true (by kernel_rfl)) (by unfold Func.isWrapper; first | (rw [if_pos (by decide +kernel)]; kernel_rfl) | (rw [if_neg (by decide +kernel)]; exact ⟨rfl,rfl⟩))
  (fun os started H enc _ => sessionRequests_lifted os started H enc)
theorem sessionRequests_holds : Rows.SessionRequestsCardSaid :=
 Claim7.holds_tied_plain_at .later [] [.data,.pinned] true (true,"5a5741168cf022ab9716d660950e6c20c5d37df2ace43d3eafebc5105a9dc32e") false
  sessionRequests_row (fun _ h => by cases h) (by kernel_rfl) (fun _ h => by cases h) sessionRequests_row_tie rfl ⟨rfl,rfl⟩ (by kernel_rfl) rfl
  (fun f fn hf hfn => by
    obtain rfl : f = 3 := Option.some.inj ((show Tryz.prog.funcNamed "vouchsafe/vouchsafelaw16.SessionRequests" = some 3 by kernel_rfl).symm.trans hf) |>.symm
    obtain rfl : fn = Tryz.f3 := (Option.some.inj (Tryz.func3.symm.trans hfn)).symm
    exact ⟨by kernel_rfl,fun j t ht => by
     rw [Tryz.params3] at ht
     have hm : t ∈ ([22,26] : List TypeId) := by simpa using Array.mem_of_getElem? ht
     have hall : (([22,26] : List TypeId).all fun u => !Tryz.prog.wantsStandIn u) = true := by kernel_rfl
     exact (show Tryz.prog.wantsStandIn t = false by simpa using List.all_eq_true.1 hall t hm)⟩)
  (by kernel_rfl)
end Go.Proofs.YtodhngllhbgndaaGreatDoor
