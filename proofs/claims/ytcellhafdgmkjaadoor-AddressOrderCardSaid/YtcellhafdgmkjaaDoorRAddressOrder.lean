/- AddressOrder: for every input the law returns true, and each argument reads behind the call as it read before; the listed variables are tied to the program's text. -/
import Derived.Test.YtcellhafdgmkjaaDoorAdRow
set_option maxRecDepth 100000
namespace Go.Proofs.YtcellhafdgmkjaaDoor
open Go Go.Rx Go.Ad Go.ChangeShapes Go.RowKit
theorem addressOrder_lifted (os : Os) (started : os.Started) (H : Type) (enc : TypeId × Value → H) :
    ReturnsInHanded {} Tryd.checked os 6 .any (fun w args => (Rows.addressOrderSpec.pre enc Tryd.prog Tryd.f6 [] false w args ∧ laidMetH Tryd.prog laid w) ∧ sizedMet enc Tryd.prog Tryd.f6 (OpenSpec.ofChange Rows.addressOrderSpec) false w args)
      (Rows.addressOrderSpec.post enc Tryd.prog Tryd.f6 false true false false) :=
  law_lift_sh (C := Tryd.checked) (X := fun w _ => laidMetH Tryd.prog laid w) (ts := [32, 32, 32]) (tb := 4) (ds := [.mix [.str, .str], .mix [.str, .str], .mix [.str, .str]]) (fun _ _ _ hh h => h.of_heap hh) own started (by kernel_rfl) Tryd.func6
    (ChangeSpec.witness_shaped (enc := enc) (C := Tryd.checked) (os := os) (X := fun w _ => laidMetH Tryd.prog laid w) false (World.laidAll Tryd.prog os laid) #[.agg #[.string ⟨#[]⟩, .string ⟨#[]⟩], .agg #[.string ⟨#[]⟩, .string ⟨#[]⟩], .agg #[.string ⟨#[]⟩, .string ⟨#[]⟩]] 8 (World.laidAll_os _ _ _) (World.shaped_of_ZipB (by kernel_rfl) (by kernel_rfl)) (by kernel_rfl) (by kernel_rfl) (by kernel_rfl) (door_met os _))
    (by rw [Tryd.params6]) (by kernel_rfl) (by kernel_rfl) Tryd.underlying4 ⟨ty_aa, ⟨ty_aa, ⟨ty_aa, trivial⟩⟩⟩ rfl
    (fun xs h => by match xs, h with | [x0, x1, x2], _ => rfl)
    (fun W zs hz hsz _ hsh => by
      have A := all_ok hsh
      have hL : OC W k_lorder := ok_lorder (hg := gl_ok W) (h_alive := A.alive) (h_less := A.less)
      obtain ⟨rs, hb, hs, hc⟩ := hL zs hz
      have hr := ret_true hb hs (one_of (by decide)) rfl
      have hc := hc W (World.Extends.refl W)
      rw [show k_lorder.res = [.bool] by rfl, hr] at hc
      rcases hc with h | h
      · have he := enters (P := Tryd.prog) (f := 6) (by kernel_rfl) (valL k_lorder.args zs).toArray W
        exact absurd (he.symm.trans h) (by intro e; cases e)
      · exact h.2)
theorem addressOrder_row : Rows.AddressOrderSaid :=
  OpenClaim.holds_of_wide 6 Tryd.f6 rfl rfl rfl rfl rfl rfl rfl ⟨rfl, rfl, rfl, rfl, rfl⟩ rfl rfl rfl rfl rfl (by kernel_rfl) Tryd.func6 (by kernel_rfl)
    (of_decide_eq_true (by kernel_rfl)) (by unfold Func.isWrapper; first | (rw [if_pos (by decide +kernel)]; kernel_rfl) | (rw [if_neg (by decide +kernel)]; exact ⟨rfl, rfl⟩))
    (fun os started H enc _ => addressOrder_lifted os started H enc)
theorem addressOrder_holds : Rows.AddressOrderCardSaid :=
  Claim7.holds_tied_plain_at .later [] [.data, .pinned] true (true, "534069612c98bae852cf0de8046f0bc5d573c79a4cf369a2d556f716a94787ed") false
    addressOrder_row (fun _ h => by cases h) (by kernel_rfl) (fun _ h => by cases h) addressOrder_row_tie rfl ⟨rfl, rfl⟩ (by kernel_rfl) rfl
    (fun f fn hf hfn => by
      obtain rfl : f = 6 := Option.some.inj ((show Tryd.prog.funcNamed "vouchsafe/vouchsafelaw06.AddressOrder" = some 6 by kernel_rfl).symm.trans hf) |>.symm
      obtain rfl : fn = Tryd.f6 := (Option.some.inj (Tryd.func6.symm.trans hfn)).symm
      exact ⟨by kernel_rfl, fun j t ht => by
        rw [Tryd.params6] at ht
        have hm : t ∈ [32, 32, 32] := by simpa using Array.mem_of_getElem? ht
        have hall : ([32, 32, 32].all fun u => !Tryd.prog.wantsStandIn u) = true := by kernel_rfl
        exact (show Tryd.prog.wantsStandIn t = false by simpa using List.all_eq_true.1 hall t hm)⟩)
    (by kernel_rfl)
end Go.Proofs.YtcellhafdgmkjaaDoor
