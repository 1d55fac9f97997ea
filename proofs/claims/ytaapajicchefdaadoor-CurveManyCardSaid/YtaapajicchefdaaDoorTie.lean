/-
  DERIVED. GIVEN WITH THE SEED: THE PROGRAM's TIES (one call each: nine closed facts by the kernel) AND EACH ROW's TIE, after the 31st guide's Derived/Test/Toyas{Tie, Card}.lean. No idea stands in it: it is a product of the set-up. Laid BY PROGRAM, IN A SANDBOX (cutbox-door.mjs). By AI agents, Wed Nov 11 2026. No macro, syntax, notation, axiom, sorry.
-/
import Derived.Test.YtaapajicchefdaaDoorRows
import Derived.LaidByTextLater
import Derived.SevenTiedAt
import Derived.LaidSub
import Derived.LaidOnce
namespace Go.Proofs.YtaapajicchefdaaDoor
open Go
set_option maxRecDepth 100000
theorem seatTie1 : Tryd.prog.laidByTextLater [("vouchsafe/field.One", Rows.laid_vouchsafe_field_One), ("vouchsafe/curve.once", Rows.laid_vouchsafe_curve_once), ("vouchsafe/scalar.order", Rows.laid_vouchsafe_scalar_order), ("vouchsafe/scalar.tail", Rows.laid_vouchsafe_scalar_tail)] [.data, .wider, .wider, .data] true :=
  Program.laidByTextLater_by_one 29 8 6 (by kernel_rfl) (by kernel_rfl) (by kernel_rfl) (by kernel_rfl) (by kernel_rfl) (by kernel_rfl) (fun _ _ => by kernel_rfl)
theorem noOwnUnsafe : Tryd.pinned.checked.prog.headLifts.contains "ownunsafe" = false := by kernel_rfl
theorem tie : Tryd.prog.laidByTextLater [("vouchsafe/field.One", Rows.laid_vouchsafe_field_One), ("vouchsafe/curve.once", Rows.laid_vouchsafe_curve_once)] [.data, .wider] true :=
  Program.laidByTextLater.sub seatTie1 ["vouchsafe/field.One", "vouchsafe/curve.once"] (by kernel_rfl) (by kernel_rfl)
theorem curveOrder_row_tie : Rows.curveOrderRow.laidByTextAt .later Tryd.pinned [.data, .wider] true :=
  OpenClaim.laidByTextAt_later rfl rfl tie noOwnUnsafe
theorem curveGroup_row_tie : Rows.curveGroupRow.laidByTextAt .later Tryd.pinned [.data, .wider] true :=
  OpenClaim.laidByTextAt_later rfl rfl tie noOwnUnsafe
theorem curveNegs_row_tie : Rows.curveNegsRow.laidByTextAt .later Tryd.pinned [.data, .wider] true :=
  OpenClaim.laidByTextAt_later rfl rfl tie noOwnUnsafe
theorem curveTimes_row_tie : Rows.curveTimesRow.laidByTextAt .later Tryd.pinned [.data, .wider] true :=
  OpenClaim.laidByTextAt_later rfl rfl tie noOwnUnsafe
theorem curveMixes_row_tie : Rows.curveMixesRow.laidByTextAt .later Tryd.pinned [.data, .wider] true :=
  OpenClaim.laidByTextAt_later rfl rfl tie noOwnUnsafe
theorem curveAdds_row_tie : Rows.curveAddsRow.laidByTextAt .later Tryd.pinned [.data, .wider] true :=
  OpenClaim.laidByTextAt_later rfl rfl tie noOwnUnsafe
theorem tie2 : Tryd.prog.laidByTextLater [("vouchsafe/field.One", Rows.laid_vouchsafe_field_One), ("vouchsafe/curve.once", Rows.laid_vouchsafe_curve_once), ("vouchsafe/scalar.order", Rows.laid_vouchsafe_scalar_order), ("vouchsafe/scalar.tail", Rows.laid_vouchsafe_scalar_tail)] [.data, .wider, .wider, .data] true :=
  Program.laidByTextLater.sub seatTie1 ["vouchsafe/field.One", "vouchsafe/curve.once", "vouchsafe/scalar.order", "vouchsafe/scalar.tail"] (by kernel_rfl) (by kernel_rfl)
theorem curveMany_row_tie : Rows.curveManyRow.laidByTextAt .later Tryd.pinned [.data, .wider, .wider, .data] true :=
  OpenClaim.laidByTextAt_later rfl rfl tie2 noOwnUnsafe
theorem curveOrderUpto_row_tie : Rows.curveOrderUptoRow.laidByTextAt .later Tryd.pinned [.data, .wider] true :=
  OpenClaim.laidByTextAt_later rfl rfl tie noOwnUnsafe
theorem curveGroupUpto_row_tie : Rows.curveGroupUptoRow.laidByTextAt .later Tryd.pinned [.data, .wider] true :=
  OpenClaim.laidByTextAt_later rfl rfl tie noOwnUnsafe
theorem curveNegsUpto_row_tie : Rows.curveNegsUptoRow.laidByTextAt .later Tryd.pinned [.data, .wider] true :=
  OpenClaim.laidByTextAt_later rfl rfl tie noOwnUnsafe
theorem curveTimesUpto_row_tie : Rows.curveTimesUptoRow.laidByTextAt .later Tryd.pinned [.data, .wider] true :=
  OpenClaim.laidByTextAt_later rfl rfl tie noOwnUnsafe
theorem curveMixesUpto_row_tie : Rows.curveMixesUptoRow.laidByTextAt .later Tryd.pinned [.data, .wider] true :=
  OpenClaim.laidByTextAt_later rfl rfl tie noOwnUnsafe
theorem curveAddsUpto_row_tie : Rows.curveAddsUptoRow.laidByTextAt .later Tryd.pinned [.data, .wider] true :=
  OpenClaim.laidByTextAt_later rfl rfl tie noOwnUnsafe
theorem curveManyUpto_row_tie : Rows.curveManyUptoRow.laidByTextAt .later Tryd.pinned [.data, .wider, .wider, .data] true :=
  OpenClaim.laidByTextAt_later rfl rfl tie2 noOwnUnsafe
end Go.Proofs.YtaapajicchefdaaDoor
