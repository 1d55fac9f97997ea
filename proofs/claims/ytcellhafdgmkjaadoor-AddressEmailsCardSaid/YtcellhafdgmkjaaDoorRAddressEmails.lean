/- AddressEmails: for every input the law returns true, and each argument reads behind the call as it read before; the listed variables are tied to the program's text. -/
import Derived.Test.YtcellhafdgmkjaaDoorAdRow
set_option maxRecDepth 100000
namespace Go.Proofs.YtcellhafdgmkjaaDoor
open Go Go.Rx Go.Ad Go.ChangeShapes Go.RowKit
theorem addressEmails_lifted (os : Os) (started : os.Started) (H : Type) (enc : TypeId × Value → H) :
    ReturnsInHanded {} Tryd.checked os 3 .any (fun w args => (Rows.addressEmailsSpec.pre enc Tryd.prog Tryd.f3 [] false w args ∧ laidMetH Tryd.prog laid w) ∧ sizedMet enc Tryd.prog Tryd.f3 (OpenSpec.ofChange Rows.addressEmailsSpec) false w args)
      (Rows.addressEmailsSpec.post enc Tryd.prog Tryd.f3 false true false false) :=
  law_lift_sh (C := Tryd.checked) (X := fun w _ => laidMetH Tryd.prog laid w) (ts := [9]) (tb := 4) (ds := [.str]) (fun _ _ _ hh h => h.of_heap hh) own started (by kernel_rfl) Tryd.func3
    (ChangeSpec.witness_shaped (enc := enc) (C := Tryd.checked) (os := os) (X := fun w _ => laidMetH Tryd.prog laid w) false (World.laidAll Tryd.prog os laid) #[.string ⟨#[]⟩] 8 (World.laidAll_os _ _ _) (World.shaped_of_ZipB (by kernel_rfl) (by kernel_rfl)) (by kernel_rfl) (by kernel_rfl) (by kernel_rfl) (door_met os _))
    (by rw [Tryd.params3]) (by kernel_rfl) (by kernel_rfl) Tryd.underlying4 ⟨ty_str, trivial⟩ rfl
    (fun xs h => by match xs, h with | [x0], _ => rfl)
    (fun W zs hz _ hsh => by
      have A := all_ok hsh
      have hL : OC W k_lemails := ok_lemails (hg := gl_ok W) (h_alive := A.alive) (h_email := A.email) (h_remail := A.remail)
      obtain ⟨rs, hb, hs, hc⟩ := hL zs hz
      have hr := ret_true hb hs (one_of (by decide)) rfl
      have hc := hc W (World.Extends.refl W)
      rw [show k_lemails.res = [.bool] by rfl, hr] at hc
      rcases hc with h | h
      · have he := enters (P := Tryd.prog) (f := 3) (by kernel_rfl) (valL k_lemails.args zs).toArray W
        exact absurd (he.symm.trans h) (by intro e; cases e)
      · exact h.2)
theorem addressEmails_row : Rows.AddressEmailsSaid :=
  OpenClaim.holds_of_wide 3 Tryd.f3 rfl rfl rfl rfl rfl rfl rfl ⟨rfl, rfl, rfl, rfl, rfl⟩ rfl rfl rfl rfl rfl (by kernel_rfl) Tryd.func3 (by kernel_rfl)
    (of_decide_eq_true (by kernel_rfl)) (by unfold Func.isWrapper; first | (rw [if_pos (by decide +kernel)]; kernel_rfl) | (rw [if_neg (by decide +kernel)]; exact ⟨rfl, rfl⟩))
    (fun os started H enc _ => addressEmails_lifted os started H enc)
theorem addressEmails_holds : Rows.AddressEmailsCardSaid :=
  Claim7.holds_tied_plain_at .later [] [.data, .pinned] true (true, "534069612c98bae852cf0de8046f0bc5d573c79a4cf369a2d556f716a94787ed") false
    addressEmails_row (fun _ h => by cases h) (by kernel_rfl) (fun _ h => by cases h) addressEmails_row_tie rfl ⟨rfl, rfl⟩ (by kernel_rfl) rfl
    (fun f fn hf hfn => by
      obtain rfl : f = 3 := Option.some.inj ((show Tryd.prog.funcNamed "vouchsafe/vouchsafelaw06.AddressEmails" = some 3 by kernel_rfl).symm.trans hf) |>.symm
      obtain rfl : fn = Tryd.f3 := (Option.some.inj (Tryd.func3.symm.trans hfn)).symm
      exact ⟨by kernel_rfl, fun j t ht => by
        rw [Tryd.params3] at ht
        have hm : t ∈ [9] := by simpa using Array.mem_of_getElem? ht
        have hall : ([9].all fun u => !Tryd.prog.wantsStandIn u) = true := by kernel_rfl
        exact (show Tryd.prog.wantsStandIn t = false by simpa using List.all_eq_true.1 hall t hm)⟩)
    (by kernel_rfl)
end Go.Proofs.YtcellhafdgmkjaaDoor
