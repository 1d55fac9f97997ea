/- The address seat: what the listed variables give, and a world that meets it. -/
import Derived.Test.YtcellhafdgmkjaaDoorAdHand
import Derived.Test.YtcellhafdgmkjaaDoorRxK
import Derived.Shelf.Vars
import Derived.Test.YtcellhafdgmkjaaDoorRows
import Derived.Test.YtcellhafdgmkjaaDoorTie
import Derived.Test.YtcellhafdgmkjaaDoorCards
import Derived.SevenTiedAt
import Derived.Lay
set_option maxRecDepth 100000
namespace Go.Proofs.YtcellhafdgmkjaaDoor
open Go Go.Rx Go.Ad Go.ChangeShapes Go.RowKit
theorem own : ownKnob Tryd.prog.godebug = none := by kernel_rfl
def laid : List (String × DataW Unit) := [("unicode/utf8.acceptRanges", Rows.laid_unicode_utf8_acceptRanges), ("unicode/utf8.first", Rows.laid_unicode_utf8_first)]
theorem gl_ok (W : World) : GOk [] ⟨W, W, fun _ => False, fun _ => False⟩ := fun g cs hm => by cases hm
theorem laid_plain : (laid.filter fun x => x.2.handleName?.isNone) = laid := by kernel_rfl
theorem door_met (os : Os) (args : Array Value) : laidMetH Tryd.prog laid ((World.laidAll Tryd.prog os laid).forCall (fun _ _ => 0) ⟨#[], args, []⟩).memory :=
  laidMetH_of_parts3 (fuel := 8) (by rw [laid_plain]; exact laidMet_laidAll args (by kernel_rfl) (by kernel_rfl)) (by kernel_rfl) (by kernel_rfl)
theorem ty_str : DTy Tryd.prog 9 .str := Tryd.underlying9
theorem ty_aa : DTy Tryd.prog 32 (.mix [.str, .str]) := ⟨_, Tryd.underlying32, by kernel_rfl, rfl, by kernel_rfl, Tryd.underlying9, rfl, by kernel_rfl, Tryd.underlying9, trivial⟩
theorem cell0 {W : World} (h : W.ShapedOpen Tryd.prog) : ∃ m, W.cell? ⟨0, 0, none⟩ = some (.int .i64 m) :=
  cell_of_shapedOpen_int (zero := #[.int .i64 0]) (t := 3) h (of_decide_eq_true (by kernel_rfl)) (by kernel_rfl) rfl (by kernel_rfl) (by kernel_rfl) Tryd.underlying3
theorem heap0 {W : World} {m : Int} (h : W.cell? ⟨0, 0, none⟩ = some (.int .i64 m)) : 0 < W.heap.size := by
  rcases Nat.eq_zero_or_pos W.heap.size with h0 | h0
  · have : W.heap[(0 : Nat)]? = none := Array.getElem?_eq_none (by omega)
    simp [World.cell?, this] at h
  · exact h0
theorem ret_true {id : Nat} {zs rs : List Int} (hr : inB (bdsL [.bool]) rs) (h : flatS sh SB id zs rs) (h1 : ∀ a z, SB id a [[z]] → z = 1) (h2 : (sh id).2 = [1]) : resVal [.bool] rs = .bool true := by
  match rs, hr with
  | [z], hr =>
    unfold flatS at h
    rw [h2] at h
    have e := h1 _ z h
    rw [e]; rfl
theorem one_of {id : Nat} (hid : id = 3 ∨ id = 4 ∨ id = 5 ∨ id = 6 ∨ id = 7 ∨ id = 8 ∨ id = 9) (a : List (List Int)) (z : Int) (h : SB id a [[z]]) : z = 1 := by
  rcases hid with rfl | rfl | rfl | rfl | rfl | rfl | rfl
  all_goals
    match a, h with
    | [], h => first | exact h | exact h.elim
    | [_], h => first | exact h | exact h.elim
    | [_, _], h => first | exact h | exact h.elim
    | [_, _, _], h => first | exact h | exact h.elim
    | _ :: _ :: _ :: _ :: _, h => exact h.elim
/-- What all laws lean on, at a world. -/
structure AllOk (W : World) : Prop where
  alive : OC W k_alive
  email : OC W k_email
  remail : OC W k_remail
  phone : OQ W q_phone
  rphone : OQ W q_rphone
  less : OC W k_less
  rless : OC W k_rless
  make : OQ W q_make
  rmake : OQ W q_rmake
  right : OQ W q_right
  rright : OQ W q_rright
  rlow : OC W k_rlow
  text : OQ W q_text
theorem all_ok {W : World} (h : W.ShapedOpen Tryd.prog) : AllOk W := by
  have hg := gl_ok W
  obtain ⟨m, hm⟩ := cell0 h
  have cdd : OQ W q_cdd := ok_cdd ⟨m, hm⟩ (heap0 hm)
  have ibs : OC W k_ibs := ok_ibs
  have tlb := ok_tlb hg
  have trb := ok_trb hg
  have tsp := ok_tsp hg tlb trb
  have tdot := ok_tdot hg tlb trb
  have tdm := ok_tdm hg
  have thost := ok_thost hg
  have tdig := ok_tdig hg
  have cutat := ok_cutat hg ibs
  have cutcol := ok_cutcol hg ibs
  have cdot := ok_cdot hg ibs
  have only := ok_only hg ibs
  have ionly := ok_ionly hg ibs
  have low := ok_low hg
  have rlow := ok_rlow hg
  have rhas := ok_rhas hg
  have host : OC W k_host := ok_host (hg := hg) (h_thost := thost) (h_tdm := tdm) (h_ionly := ionly) (h_cdd := cdd)
  have server : OC W k_server := ok_server (hg := hg) (h_cutcol := cutcol) (h_host := host) (h_tdig := tdig) (h_ionly := ionly)
  have local_ : OC W k_local := ok_local (hg := hg) (h_only := only) (h_tdot := tdot) (h_cdd := cdd)
  have rlocal := ok_rlocal hg
  have small := ok_small hg
  have great := ok_great hg
  have digit := ok_digit hg
  have rhost : OC W k_rhost := ok_rhost (hg := hg) (h_small := small) (h_great := great) (h_digit := digit)
  have rcountry := ok_rcountry hg
  have country : OC W k_country := ok_country
  have bare : OQ W q_bare := ok_bare
  have tpre := ok_tpre hg
  have email : OC W k_email := ok_email (hg := hg) (h_tsp := tsp) (h_cutat := cutat) (h_local := local_) (h_cdot := cdot) (h_server := server) (h_low := low) (h_ibs := ibs)
  have remail : OC W k_remail := ok_remail (hg := hg) (h_rlocal := rlocal) (h_rhost := rhost) (h_rhas := rhas) (h_rlow := rlow)
  have phone : OQ W q_phone := ok_phone (hg := hg) (h_country := country) (h_bare := bare) (h_tpre := tpre)
  have rphone : OQ W q_rphone := ok_rphone (hg := hg) (h_rcountry := rcountry)
  have alive : OC W k_alive := ok_alive (hg := hg) (h_email := email) (h_phone := phone)
  have less := ok_less hg
  have rless := ok_rless hg
  have make : OQ W q_make := ok_make (hg := hg) (h_email := email) (h_phone := phone)
  have rmake : OQ W q_rmake := ok_rmake (hg := hg) (h_remail := remail) (h_rphone := rphone)
  have right : OQ W q_right := ok_right (hg := hg) (h_make := make)
  have rright : OQ W q_rright := ok_rright (hg := hg) (h_rmake := rmake)
  exact ⟨alive, email, remail, phone, rphone, less, rless, make, rmake, right, rright, rlow, ok_text hg⟩
end Go.Proofs.YtcellhafdgmkjaaDoor
