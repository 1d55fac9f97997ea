/- SessionToken: for every input the law returns true, and each argument reads behind the call as it read before; the listed variables are tied to the program's text. -/
import Derived.Test.YtodhngllhbgndaaDoorPak

set_option maxRecDepth 100000
namespace Go.Proofs.YtodhngllhbgndaaDoor
open Go Go.Rx Go.Ad Go.ChangeShapes Go.RowKit
theorem sessionToken_lifted (os : Os) (started : os.Started) (H : Type) (enc : TypeId × Value → H) :
    ReturnsInHanded {} Tryd.checked os 3 .any (fun w args => (Rows.sessionTokenSpec.pre enc Tryd.prog Tryd.f3 [] false w args ∧ laidMetH Tryd.prog laid w) ∧ sizedMet enc Tryd.prog Tryd.f3 (OpenSpec.ofChange Rows.sessionTokenSpec) false w args)
      (Rows.sessionTokenSpec.post enc Tryd.prog Tryd.f3 false true false false) :=
  law_lift (C := Tryd.checked) (X := fun w _ => laidMetH Tryd.prog laid w) (ts := [22]) (tb := 4) (bs := [.rd [.int .u16 0 65535, .bool, .bool]]) (fun _ _ _ hh h => h.of_heap hh) own started (by kernel_rfl) Tryd.func3
    (ChangeSpec.witness_shaped (enc := enc) (C := Tryd.checked) (os := os) (X := fun w _ => laidMetH Tryd.prog laid w) false (World.laidAll Tryd.prog os laid) #[.slice none 0 0] 8 (World.laidAll_os _ _ _) (World.shaped_of_ZipB (by kernel_rfl) (by kernel_rfl)) (by kernel_rfl) (by kernel_rfl) (by kernel_rfl) (door_met os _))
    (by rw [Tryd.params3]) (by kernel_rfl) (by kernel_rfl) Tryd.underlying4 ⟨ty_ltry, trivial⟩ lo_b (by kernel_rfl) rfl
    (fun xs h => by match xs, h with | [x0], _ => rfl)
    (fun W zs vs hz hat _ hsh => by
      have A := all_ok hsh
      exact law_b (sh := sh) (SB := SB) (c := k_ltoken) (ok_ltoken (hg := gl_ok W) (h_salive := A.salive_) (h_sReq := A.sReq_) (h_sSubmit := A.sSubmit_) (h_sShown := A.sShown_) (h_sask := A.sask_)) rfl rfl hz hat (one_of (by decide)) rfl)
theorem sessionToken_row : Rows.SessionTokenSaid :=
  OpenClaim.holds_of_wide 3 Tryd.f3 rfl rfl rfl rfl rfl rfl rfl ⟨rfl, rfl, rfl, rfl, rfl⟩ rfl rfl rfl rfl rfl (by kernel_rfl) Tryd.func3 (by kernel_rfl)
    (of_decide_eq_true (by kernel_rfl)) (by unfold Func.isWrapper; first | (rw [if_pos (by decide +kernel)]; kernel_rfl) | (rw [if_neg (by decide +kernel)]; exact ⟨rfl, rfl⟩))
    (fun os started H enc _ => sessionToken_lifted os started H enc)
theorem sessionToken_holds : Rows.SessionTokenCardSaid :=
  Claim7.holds_tied_plain_at .later [] [.data, .pinned] true (true, "93f608ea418f879cb984f43812d15bc1ca9430d03e73da34c2683387e32ad545") false
    sessionToken_row (fun _ h => by cases h) (by kernel_rfl) (fun _ h => by cases h) sessionToken_row_tie rfl ⟨rfl, rfl⟩ (by kernel_rfl) rfl
    (fun f fn hf hfn => by
      obtain rfl : f = 3 := Option.some.inj ((show Tryd.prog.funcNamed "vouchsafe/vouchsafelaw16.SessionToken" = some 3 by kernel_rfl).symm.trans hf) |>.symm
      obtain rfl : fn = Tryd.f3 := (Option.some.inj (Tryd.func3.symm.trans hfn)).symm
      exact ⟨by kernel_rfl, fun j t ht => by
        rw [Tryd.params3] at ht
        have hm : t ∈ ([22] : List TypeId) := by simpa using Array.mem_of_getElem? ht
        have hall : (([22] : List TypeId).all fun u => !Tryd.prog.wantsStandIn u) = true := by kernel_rfl
        exact (show Tryd.prog.wantsStandIn t = false by simpa using List.all_eq_true.1 hall t hm)⟩)
    (by kernel_rfl)
end Go.Proofs.YtodhngllhbgndaaDoor
