/- The rows of this seat: what the listed variables give, and a world that meets it. -/
import Derived.Test.YtlecfjcooglpoaaDoorAdOk
import Derived.Test.YtlecfjcooglpoaaDoorEncOk
import Derived.Test.YtlecfjcooglpoaaDoorHand1
import Derived.Test.YtlecfjcooglpoaaDoorRxK
import Derived.Shelf.Vars
import Derived.Test.YtlecfjcooglpoaaDoorRows
import Derived.Test.YtlecfjcooglpoaaDoorTie
import Derived.Test.YtlecfjcooglpoaaDoorCards
import Derived.SevenTiedAt
import Derived.Lay
set_option maxRecDepth 100000
namespace Go.Proofs.YtlecfjcooglpoaaDoor
open Go Go.Rx Go.Ad Go.ChangeShapes Go.RowKit
theorem own : ownKnob Tryd.prog.godebug = none := by kernel_rfl
theorem lo_b : laidOutB Tryd.prog = true := by kernel_rfl
def laid : List (String × DataW Unit) := [("unicode/utf8.acceptRanges", Rows.laid_unicode_utf8_acceptRanges), ("unicode/utf8.first", Rows.laid_unicode_utf8_first)]
theorem gl_ok (W : World) : GOk [] ⟨W, W, fun _ => False, fun _ => False⟩ := fun g cs hm => by cases hm
theorem laid_plain : (laid.filter fun x => x.2.handleName?.isNone) = laid := by kernel_rfl
theorem door_met (os : Os) (args : Array Value) : laidMetH Tryd.prog laid ((World.laidAll Tryd.prog os laid).forCall (fun _ _ => 0) ⟨#[], args, []⟩).memory :=
  laidMetH_of_parts3 (fuel := 8) (by rw [laid_plain]; exact laidMet_laidAll args (by kernel_rfl) (by kernel_rfl)) (by kernel_rfl) (by kernel_rfl)
theorem ty_str : BTy Tryd.prog 9 (.d (.str)) := Tryd.underlying9
theorem ty_du16 : BTy Tryd.prog 28 (.d (.int .u16 0 65535)) := ⟨Tryd.underlying28, by decide, by decide⟩
theorem cell0 {W : World} (h : W.ShapedOpen Tryd.prog) : ∃ m, W.cell? ⟨0, 0, none⟩ = some (.int .i64 m) :=
  cell_of_shapedOpen_int (zero := #[.int .i64 0]) (t := 3) h (of_decide_eq_true (by kernel_rfl)) (by kernel_rfl) rfl (by kernel_rfl) (by kernel_rfl) Tryd.underlying3
theorem heap0 {W : World} {m : Int} (h : W.cell? ⟨0, 0, none⟩ = some (.int .i64 m)) : 0 < W.heap.size := by
  rcases Nat.lt_or_ge 0 W.heap.size with h0 | h0
  · exact h0
  · have : W.heap[(0 : Nat)]? = none := Array.getElem?_eq_none h0
    simp [World.cell?, this] at h
theorem one_of {id : Nat} (hid : id = 227 ∨ id = 228 ∨ id = 229) (a : List (List Int)) (z : Int) (h : SB id a [[z]]) : z = 1 := by
  rcases hid with rfl | rfl | rfl
  all_goals
    match a, h with
    | [], h => first | exact h | exact h.elim
    | [_], h => first | exact h | exact h.elim
    | [_, _], h => first | exact h | exact h.elim
    | [_, _, _], h => first | exact h | exact h.elim
    | _ :: _ :: _ :: _ :: _, h => exact h.elim
/-- What all laws lean on, at a world. -/
structure AllOk (W : World) : Prop where
  ialive_ : OB W k_ialive
  split_ : OC W k_split
  rsplit_ : OC W k_rsplit
  server_ : OC W k_server
  rserver_ : OC W k_rserver
  user_ : OC W k_user
  ruser_ : OC W k_ruser
  room_ : OC W k_room
  rroom_ : OC W k_rroom
  event_ : OB W k_event
  revent_ : OB W k_revent
theorem all_ok {W : World} (h : W.ShapedOpen Tryd.prog) : AllOk W := by
  have hg := gl_ok W
  obtain ⟨m, hm⟩ := cell0 h
  have ibs_ : OC W k_ibs := ok_ibs
  have cutcol_ : OC W k_cutcol := ok_cutcol (hg := hg) (h_ibs := ibs_)
  have ionly_ : OC W k_ionly := ok_ionly (hg := hg) (h_ibs := ibs_)
  have cdd_ : OQ W q_cdd := ok_cdd ⟨m, hm⟩ (heap0 hm)
  have tdm_ : OC W k_tdm := ok_tdm (hg := hg)
  have thost_ : OC W k_thost := ok_thost (hg := hg)
  have tdig_ : OC W k_tdig := ok_tdig (hg := hg)
  have host_ : OC W k_host := ok_host (hg := hg) (h_thost := thost_) (h_tdm := tdm_) (h_ionly := ionly_) (h_cdd := cdd_)
  have server_ : OC W k_server := ok_server (hg := hg) (h_cutcol := cutcol_) (h_host := host_) (h_tdig := tdig_) (h_ionly := ionly_)
  have small_ : OC W k_small := ok_small (hg := hg)
  have great_ : OC W k_great := ok_great (hg := hg)
  have digit_ : OC W k_digit := ok_digit (hg := hg)
  have rhost_ : OC W k_rhost := ok_rhost (hg := hg) (h_small := small_) (h_great := great_) (h_digit := digit_)
  have tus_ : OC W k_tus := ok_tus (hg := hg)
  have trs_ : OC W k_trs := ok_trs (hg := hg)
  have user_ : OC W k_user := ok_user (hg := hg) (h_cutcol := cutcol_) (h_tus := tus_) (h_ionly := ionly_) (h_server := server_)
  have room_ : OC W k_room := ok_room (hg := hg) (h_cutcol := cutcol_) (h_trs := trs_) (h_ionly := ionly_) (h_server := server_)
  have colon_ : OC W k_colon := ok_colon (hg := hg)
  have rserver_ : OC W k_rserver := ok_rserver (hg := hg) (h_colon := colon_) (h_rhost := rhost_) (h_digit := digit_)
  have partsu_ : OC W k_partsu := ok_partsu (hg := hg) (h_colon := colon_) (h_rserver := rserver_)
  have partsr_ : OC W k_partsr := ok_partsr (hg := hg) (h_colon := colon_) (h_rserver := rserver_)
  have ruser_ : OC W k_ruser := ok_ruser (hg := hg) (h_partsu := partsu_) (h_small := small_) (h_digit := digit_)
  have rroom_ : OC W k_rroom := ok_rroom (hg := hg) (h_partsr := partsr_) (h_small := small_) (h_great := great_) (h_digit := digit_)
  have split_ : OC W k_split := ok_split (hg := hg) (h_user := user_) (h_room := room_) (h_cutcol := cutcol_)
  have rsplit_ : OC W k_rsplit := ok_rsplit (hg := hg) (h_ruser := ruser_) (h_rroom := rroom_) (h_colon := colon_)
  have ibsafe_ : OC W k_ibsafe := ok_ibsafe
  have renc_ : OB W k_renc := ok_renc (hg := hg)
  have rdec_ : OB W k_rdec := ok_rdec (hg := hg) (h_renc := renc_)
  have idec_ : OB W k_idec := ok_idec (hg := hg) (h_ibsafe := ibsafe_)
  have event_ : OB W k_event := ok_event (hg := hg) (h_idec := idec_)
  have revent_ : OB W k_revent := ok_revent (hg := hg) (h_rdec := rdec_)
  have ienc_ : OB W k_ienc := ok_ienc
  have ialive_ : OB W k_ialive := ok_ialive (hg := hg) (h_split := split_) (h_ienc := ienc_) (h_event := event_) (h_user := user_) (h_room := room_) (h_server := server_)
  exact ⟨ialive_, split_, rsplit_, server_, rserver_, user_, ruser_, room_, rroom_, event_, revent_⟩
end Go.Proofs.YtlecfjcooglpoaaDoor
