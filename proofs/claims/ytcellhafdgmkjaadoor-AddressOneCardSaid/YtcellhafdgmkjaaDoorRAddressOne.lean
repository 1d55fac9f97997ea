/- AddressOne: for every input the law returns true, and each argument reads behind the call as it read before; the listed variables are tied to the program's text. -/
import Derived.Test.YtcellhafdgmkjaaDoorAdRow
set_option maxRecDepth 100000
namespace Go.Proofs.YtcellhafdgmkjaaDoor
open Go Go.Rx Go.Ad Go.ChangeShapes Go.RowKit
theorem addressOne_lifted (os : Os) (started : os.Started) (H : Type) (enc : TypeId × Value → H) :
    ReturnsInHanded {} Tryd.checked os 7 .any (fun w args => (Rows.addressOneSpec.pre enc Tryd.prog Tryd.f7 [] false w args ∧ laidMetH Tryd.prog laid w) ∧ sizedMet enc Tryd.prog Tryd.f7 (OpenSpec.ofChange Rows.addressOneSpec) false w args)
      (Rows.addressOneSpec.post enc Tryd.prog Tryd.f7 false true false false) :=
  law_lift (C := Tryd.checked) (X := fun w _ => laidMetH Tryd.prog laid w) (ts := [9, 9]) (tb := 4) (bs := [.d .str, .d .str]) (fun _ _ _ hh h => h.of_heap hh) own started (by kernel_rfl) Tryd.func7
    (ChangeSpec.witness_shaped (enc := enc) (C := Tryd.checked) (os := os) (X := fun w _ => laidMetH Tryd.prog laid w) false (World.laidAll Tryd.prog os laid) #[.string ⟨#[]⟩, .string ⟨#[]⟩] 8 (World.laidAll_os _ _ _) (World.shaped_of_ZipB (by kernel_rfl) (by kernel_rfl)) (by kernel_rfl) (by kernel_rfl) (by kernel_rfl) (door_met os _))
    (by rw [Tryd.params7]) (by kernel_rfl) (by kernel_rfl) Tryd.underlying4 ⟨ty_str, ⟨ty_str, trivial⟩⟩ lo_b (by kernel_rfl) rfl
    (fun xs h => by match xs, h with | [x0, x1], _ => rfl)
    (fun W zs vs hz hat _ hsh => by
      have A := all_ok hsh
      exact law_c (sh := sh) (SB := SB) (c := k_lone) (ok_lone (hg := gl_ok W) (h_alive := A.alive_) (h_make := A.make_) (h_right := A.right_) (h_rlow := A.rlow_)) (by kernel_rfl) rfl hz hat (one_of (by decide)) rfl)
theorem addressOne_row : Rows.AddressOneSaid :=
  OpenClaim.holds_of_wide 7 Tryd.f7 rfl rfl rfl rfl rfl rfl rfl ⟨rfl, rfl, rfl, rfl, rfl⟩ rfl rfl rfl rfl rfl (by kernel_rfl) Tryd.func7 (by kernel_rfl)
    (of_decide_eq_true (by kernel_rfl)) (by unfold Func.isWrapper; first | (rw [if_pos (by decide +kernel)]; kernel_rfl) | (rw [if_neg (by decide +kernel)]; exact ⟨rfl, rfl⟩))
    (fun os started H enc _ => addressOne_lifted os started H enc)
theorem addressOne_holds : Rows.AddressOneCardSaid :=
  Claim7.holds_tied_plain_at .later [] [.data, .pinned] true (true, "534069612c98bae852cf0de8046f0bc5d573c79a4cf369a2d556f716a94787ed") false
    addressOne_row (fun _ h => by cases h) (by kernel_rfl) (fun _ h => by cases h) addressOne_row_tie rfl ⟨rfl, rfl⟩ (by kernel_rfl) rfl
    (fun f fn hf hfn => by
      obtain rfl : f = 7 := Option.some.inj ((show Tryd.prog.funcNamed "vouchsafe/vouchsafelaw06.AddressOne" = some 7 by kernel_rfl).symm.trans hf) |>.symm
      obtain rfl : fn = Tryd.f7 := (Option.some.inj (Tryd.func7.symm.trans hfn)).symm
      exact ⟨by kernel_rfl, fun j t ht => by
        rw [Tryd.params7] at ht
        have hm : t ∈ ([9, 9] : List TypeId) := by simpa using Array.mem_of_getElem? ht
        have hall : (([9, 9] : List TypeId).all fun u => !Tryd.prog.wantsStandIn u) = true := by kernel_rfl
        exact (show Tryd.prog.wantsStandIn t = false by simpa using List.all_eq_true.1 hall t hm)⟩)
    (by kernel_rfl)
end Go.Proofs.YtcellhafdgmkjaaDoor
