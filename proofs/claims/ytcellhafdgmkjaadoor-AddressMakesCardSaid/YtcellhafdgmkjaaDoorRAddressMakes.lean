/- AddressMakes: for every input the law returns true, and each argument reads behind the call as it read before; the listed variables are tied to the program's text. -/
import Derived.Test.YtcellhafdgmkjaaDoorAdRow
set_option maxRecDepth 100000
namespace Go.Proofs.YtcellhafdgmkjaaDoor
open Go Go.Rx Go.Ad Go.ChangeShapes Go.RowKit
theorem addressMakes_lifted (os : Os) (started : os.Started) (H : Type) (enc : TypeId × Value → H) :
    ReturnsInHanded {} Tryd.checked os 8 .any (fun w args => (Rows.addressMakesSpec.pre enc Tryd.prog Tryd.f8 [] false w args ∧ laidMetH Tryd.prog laid w) ∧ sizedMet enc Tryd.prog Tryd.f8 (OpenSpec.ofChange Rows.addressMakesSpec) false w args)
      (Rows.addressMakesSpec.post enc Tryd.prog Tryd.f8 false true false false) :=
  law_lift_sh (C := Tryd.checked) (X := fun w _ => laidMetH Tryd.prog laid w) (ts := [32, 32]) (tb := 4) (ds := [.mix [.str, .str], .mix [.str, .str]]) (fun _ _ _ hh h => h.of_heap hh) own started (by kernel_rfl) Tryd.func8
    (ChangeSpec.witness_shaped (enc := enc) (C := Tryd.checked) (os := os) (X := fun w _ => laidMetH Tryd.prog laid w) false (World.laidAll Tryd.prog os laid) #[.agg #[.string ⟨#[]⟩, .string ⟨#[]⟩], .agg #[.string ⟨#[]⟩, .string ⟨#[]⟩]] 8 (World.laidAll_os _ _ _) (World.shaped_of_ZipB (by kernel_rfl) (by kernel_rfl)) (by kernel_rfl) (by kernel_rfl) (by kernel_rfl) (door_met os _))
    (by rw [Tryd.params8]) (by kernel_rfl) (by kernel_rfl) Tryd.underlying4 ⟨ty_aa, ⟨ty_aa, trivial⟩⟩ rfl
    (fun xs h => by match xs, h with | [x0, x1], _ => rfl)
    (fun W zs hz hsz _ hsh => by
      have A := all_ok hsh
      have hL : OQ W q_lmakes := ok_lmakes (hg := gl_ok W) (h_alive := A.alive) (h_make := A.make) (h_rmake := A.rmake) (h_right := A.right) (h_rright := A.rright) (h_text := A.text) (h_less := A.less) (h_rless := A.rless)
      have hp : chkD 45 zs := by
        match zs, hz, hsz with
        | [a, b, c, d], hz, hsz =>
          intro z hm
          have h0 := hsz.1
          have h1 := hsz.2.1
          have hr : reachBytes = 140737488351232 := rfl
          simp only [List.mem_cons, List.not_mem_nil, or_false] at hm
          rw [← hr]
          rcases hm with rfl | rfl | rfl | rfl
          · exact h0 0 rfl
          · exact h0 1 rfl
          · exact h1 0 rfl
          · exact h1 1 rfl
        | [], hz, _ => exact hz.elim
        | [_], hz, _ => exact hz.2.2.elim
        | [_, _], hz, _ => exact hz.2.2.2.2.elim
        | [_, _, _], hz, _ => exact hz.2.2.2.2.2.2.elim
        | _ :: _ :: _ :: _ :: _ :: _, hz, _ => exact hz.2.2.2.2.2.2.2.2.elim
      obtain ⟨rs, hb, hs, hc⟩ := hL zs hz hp
      have hc : ∀ w : World, W.Extends w → FRes Tryd.prog k_lmakes.f (valL k_lmakes.args zs).toArray w (resVal k_lmakes.res rs) := hc
      have hr := ret_true hb hs (one_of (by decide)) rfl
      have hc := hc W (World.Extends.refl W)
      rw [show k_lmakes.res = [.bool] by rfl, hr] at hc
      rcases hc with h | h
      · have he := enters (P := Tryd.prog) (f := 8) (by kernel_rfl) (valL k_lmakes.args zs).toArray W
        exact absurd (he.symm.trans h) (by intro e; cases e)
      · exact h.2)
theorem addressMakes_row : Rows.AddressMakesSaid :=
  OpenClaim.holds_of_wide 8 Tryd.f8 rfl rfl rfl rfl rfl rfl rfl ⟨rfl, rfl, rfl, rfl, rfl⟩ rfl rfl rfl rfl rfl (by kernel_rfl) Tryd.func8 (by kernel_rfl)
    (of_decide_eq_true (by kernel_rfl)) (by unfold Func.isWrapper; first | (rw [if_pos (by decide +kernel)]; kernel_rfl) | (rw [if_neg (by decide +kernel)]; exact ⟨rfl, rfl⟩))
    (fun os started H enc _ => addressMakes_lifted os started H enc)
theorem addressMakes_holds : Rows.AddressMakesCardSaid :=
  Claim7.holds_tied_plain_at .later [] [.data, .pinned] true (true, "534069612c98bae852cf0de8046f0bc5d573c79a4cf369a2d556f716a94787ed") false
    addressMakes_row (fun _ h => by cases h) (by kernel_rfl) (fun _ h => by cases h) addressMakes_row_tie rfl ⟨rfl, rfl⟩ (by kernel_rfl) rfl
    (fun f fn hf hfn => by
      obtain rfl : f = 8 := Option.some.inj ((show Tryd.prog.funcNamed "vouchsafe/vouchsafelaw06.AddressMakes" = some 8 by kernel_rfl).symm.trans hf) |>.symm
      obtain rfl : fn = Tryd.f8 := (Option.some.inj (Tryd.func8.symm.trans hfn)).symm
      exact ⟨by kernel_rfl, fun j t ht => by
        rw [Tryd.params8] at ht
        have hm : t ∈ [32, 32] := by simpa using Array.mem_of_getElem? ht
        have hall : ([32, 32].all fun u => !Tryd.prog.wantsStandIn u) = true := by kernel_rfl
        exact (show Tryd.prog.wantsStandIn t = false by simpa using List.all_eq_true.1 hall t hm)⟩)
    (by kernel_rfl)
end Go.Proofs.YtcellhafdgmkjaaDoor
