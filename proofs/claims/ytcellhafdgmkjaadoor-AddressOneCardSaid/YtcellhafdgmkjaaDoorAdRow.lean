/- The rows of this seat: what the listed variables give, and a world that meets it. -/
import Derived.Test.YtcellhafdgmkjaaDoorHand1
import Derived.Test.YtcellhafdgmkjaaDoorBare
import Derived.Test.YtcellhafdgmkjaaDoorCountry
import Derived.Test.YtcellhafdgmkjaaDoorRxK
import Derived.Shelf.Vars
import Derived.Test.YtcellhafdgmkjaaDoorRows
import Derived.Test.YtcellhafdgmkjaaDoorTie
import Derived.Test.YtcellhafdgmkjaaDoorCards
import Derived.SevenTiedAt
import Derived.Lay
set_option maxRecDepth 100000
namespace Go.Proofs.YtcellhafdgmkjaaDoor
open Go Go.Rx Go.Ad Go.ChangeShapes Go.RowKit
theorem own : ownKnob Tryd.prog.godebug = none := by kernel_rfl
theorem lo_b : laidOutB Tryd.prog = true := by kernel_rfl
def laid : List (String × DataW Unit) := [("unicode/utf8.acceptRanges", Rows.laid_unicode_utf8_acceptRanges), ("unicode/utf8.first", Rows.laid_unicode_utf8_first)]
theorem gl_ok (W : World) : GOk [] ⟨W, W, fun _ => False, fun _ => False⟩ := fun g cs hm => by cases hm
theorem laid_plain : (laid.filter fun x => x.2.handleName?.isNone) = laid := by kernel_rfl
theorem door_met (os : Os) (args : Array Value) : laidMetH Tryd.prog laid ((World.laidAll Tryd.prog os laid).forCall (fun _ _ => 0) ⟨#[], args, []⟩).memory :=
  laidMetH_of_parts3 (fuel := 8) (by rw [laid_plain]; exact laidMet_laidAll args (by kernel_rfl) (by kernel_rfl)) (by kernel_rfl) (by kernel_rfl)
theorem ty_str : BTy Tryd.prog 9 (.d (.str)) := Tryd.underlying9
theorem ty_aa : BTy Tryd.prog 32 (.d (.mix [.str, .str])) := ⟨.inl ⟨_, Tryd.underlying32⟩, by kernel_rfl, by kernel_rfl⟩
theorem ty_lu8 : BTy Tryd.prog 29 (.rd [.int .u8 0 255]) := ⟨5, Tryd.underlying29, by kernel_rfl, by kernel_rfl, by decide⟩
theorem cell0 {W : World} (h : W.ShapedOpen Tryd.prog) : ∃ m, W.cell? ⟨0, 0, none⟩ = some (.int .i64 m) :=
  cell_of_shapedOpen_int (zero := #[.int .i64 0]) (t := 3) h (of_decide_eq_true (by kernel_rfl)) (by kernel_rfl) rfl (by kernel_rfl) (by kernel_rfl) Tryd.underlying3
theorem heap0 {W : World} {m : Int} (h : W.cell? ⟨0, 0, none⟩ = some (.int .i64 m)) : 0 < W.heap.size := by
  rcases Nat.lt_or_ge 0 W.heap.size with h0 | h0
  · exact h0
  · have : W.heap[(0 : Nat)]? = none := Array.getElem?_eq_none h0
    simp [World.cell?, this] at h
theorem one_of {id : Nat} (hid : id = 7 ∨ id = 5) (a : List (List Int)) (z : Int) (h : SB id a [[z]]) : z = 1 := by
  rcases hid with rfl | rfl
  all_goals
    match a, h with
    | [], h => first | exact h | exact h.elim
    | [_], h => first | exact h | exact h.elim
    | [_, _], h => first | exact h | exact h.elim
    | [_, _, _], h => first | exact h | exact h.elim
    | _ :: _ :: _ :: _ :: _, h => exact h.elim
/-- What all laws lean on, at a world. -/
structure AllOk (W : World) : Prop where
  alive_ : OC W k_alive
  make_ : OC W k_make
  right_ : OC W k_right
  rlow_ : OC W k_rlow
  phone_ : OQ W q_phone
theorem all_ok {W : World} (h : W.ShapedOpen Tryd.prog) : AllOk W := by
  have hg := gl_ok W
  obtain ⟨m, hm⟩ := cell0 h
  have ibs_ : OC W k_ibs := ok_ibs
  have tlb_ : OC W k_tlb := ok_tlb (hg := hg)
  have trb_ : OC W k_trb := ok_trb (hg := hg)
  have tsp_ : OC W k_tsp := ok_tsp (hg := hg) (h_tlb := tlb_) (h_trb := trb_)
  have tdot_ : OC W k_tdot := ok_tdot (hg := hg) (h_tlb := tlb_) (h_trb := trb_)
  have tdm_ : OC W k_tdm := ok_tdm (hg := hg)
  have cutat_ : OC W k_cutat := ok_cutat (hg := hg) (h_ibs := ibs_)
  have cutcol_ : OC W k_cutcol := ok_cutcol (hg := hg) (h_ibs := ibs_)
  have cdot_ : OC W k_cdot := ok_cdot (hg := hg) (h_ibs := ibs_)
  have only_ : OC W k_only := ok_only (hg := hg) (h_ibs := ibs_)
  have ionly_ : OC W k_ionly := ok_ionly (hg := hg) (h_ibs := ibs_)
  have low_ : OC W k_low := ok_low (hg := hg)
  have rlow_ : OC W k_rlow := ok_rlow (hg := hg)
  have cdd_ : OQ W q_cdd := ok_cdd ⟨m, hm⟩ (heap0 hm)
  have thost_ : OC W k_thost := ok_thost (hg := hg)
  have tdig_ : OC W k_tdig := ok_tdig (hg := hg)
  have host_ : OC W k_host := ok_host (hg := hg) (h_thost := thost_) (h_tdm := tdm_) (h_ionly := ionly_) (h_cdd := cdd_)
  have server_ : OC W k_server := ok_server (hg := hg) (h_cutcol := cutcol_) (h_host := host_) (h_tdig := tdig_) (h_ionly := ionly_)
  have local_ : OC W k_local := ok_local (hg := hg) (h_only := only_) (h_tdot := tdot_) (h_cdd := cdd_)
  have email_ : OC W k_email := ok_email (hg := hg) (h_tsp := tsp_) (h_cutat := cutat_) (h_local := local_) (h_cdot := cdot_) (h_server := server_) (h_low := low_) (h_ibs := ibs_)
  have country_ : OC W k_country := ok_country
  have bare_ : OC W k_bare := ok_bare
  have tpre_ : OC W k_tpre := ok_tpre (hg := hg)
  have phone_ : OQ W q_phone := ok_phone (hg := hg) (h_country := country_) (h_bare := bare_) (h_tpre := tpre_)
  have make_ : OC W k_make := ok_make (hg := hg) (h_email := email_) (h_phone := phone_)
  have right_ : OC W k_right := ok_right (hg := hg) (h_make := make_)
  have alive_ : OC W k_alive := ok_alive (hg := hg) (h_email := email_) (h_phone := phone_)
  exact ⟨alive_, make_, right_, rlow_, phone_⟩
end Go.Proofs.YtcellhafdgmkjaaDoor
