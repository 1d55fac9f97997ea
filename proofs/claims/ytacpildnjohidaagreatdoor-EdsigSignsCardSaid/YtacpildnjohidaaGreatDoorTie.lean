/-
  DERIVED. GIVEN WITH THE SEED: THE PROGRAM's TIES (one call each: nine closed facts by the kernel) AND EACH ROW's TIE, after the 31st guide's Derived/Test/Toyas{Tie, Card}.lean. No idea stands in it: it is a product of the set-up. Laid BY PROGRAM, IN A SANDBOX (cutbox-door.mjs). By AI agents, Wed Nov 11 2026. No macro, syntax, notation, axiom, sorry.
-/
import Derived.Test.YtacpildnjohidaaGreatDoorRows
import Derived.LaidByTextLater
import Derived.SevenTiedAt
import Derived.LaidSub
import Derived.LaidOnce
namespace Go.Proofs.YtacpildnjohidaaGreatDoor
open Go
set_option maxRecDepth 100000
theorem seatTie1 : Tryz.prog.laidByTextLater [("vouchsafe/field.One", Rows.laid_vouchsafe_field_One), ("vouchsafe/curve.once", Rows.laid_vouchsafe_curve_once), ("vouchsafe/scalar.order", Rows.laid_vouchsafe_scalar_order), ("vouchsafe/scalar.tail", Rows.laid_vouchsafe_scalar_tail), ("vouchsafe/vouchsaferef07.roots", Rows.laid_vouchsafe_vouchsaferef07_roots), ("vouchsafe/vouchsaferef07.begins", Rows.laid_vouchsafe_vouchsaferef07_begins), ("vouchsafe/sha.roots", Rows.laid_vouchsafe_sha_roots), ("vouchsafe/sha.begins", Rows.laid_vouchsafe_sha_begins)] [.data, .wider, .wider, .data, .data, .data, .data, .data] true :=
  Program.laidByTextLater_by_one 49 8 81 (by kernel_rfl) (by kernel_rfl) (by kernel_rfl) (by kernel_rfl) (by kernel_rfl) (by kernel_rfl) (fun _ _ => by kernel_rfl)
theorem noOwnUnsafe : Tryz.pinned.checked.prog.headLifts.contains "ownunsafe" = false := by kernel_rfl
theorem tie : Tryz.prog.laidByTextLater [("vouchsafe/field.One", Rows.laid_vouchsafe_field_One), ("vouchsafe/curve.once", Rows.laid_vouchsafe_curve_once), ("vouchsafe/scalar.order", Rows.laid_vouchsafe_scalar_order), ("vouchsafe/scalar.tail", Rows.laid_vouchsafe_scalar_tail), ("vouchsafe/vouchsaferef07.roots", Rows.laid_vouchsafe_vouchsaferef07_roots), ("vouchsafe/vouchsaferef07.begins", Rows.laid_vouchsafe_vouchsaferef07_begins), ("vouchsafe/sha.roots", Rows.laid_vouchsafe_sha_roots), ("vouchsafe/sha.begins", Rows.laid_vouchsafe_sha_begins)] [.data, .wider, .wider, .data, .data, .data, .data, .data] true :=
  Program.laidByTextLater.sub seatTie1 ["vouchsafe/field.One", "vouchsafe/curve.once", "vouchsafe/scalar.order", "vouchsafe/scalar.tail", "vouchsafe/vouchsaferef07.roots", "vouchsafe/vouchsaferef07.begins", "vouchsafe/sha.roots", "vouchsafe/sha.begins"] (by kernel_rfl) (by kernel_rfl)
theorem edsigVerifies_row_tie : Rows.edsigVerifiesRow.laidByTextAt .later Tryz.pinned [.data, .wider, .wider, .data, .data, .data, .data, .data] true :=
  OpenClaim.laidByTextAt_later rfl rfl tie noOwnUnsafe
theorem edsigSigns_row_tie : Rows.edsigSignsRow.laidByTextAt .later Tryz.pinned [.data, .wider, .wider, .data, .data, .data, .data, .data] true :=
  OpenClaim.laidByTextAt_later rfl rfl tie noOwnUnsafe
theorem edsigVerifiesUpto_row_tie : Rows.edsigVerifiesUptoRow.laidByTextAt .later Tryz.pinned [.data, .wider, .wider, .data, .data, .data, .data, .data] true :=
  OpenClaim.laidByTextAt_later rfl rfl tie noOwnUnsafe
theorem edsigSignsUpto_row_tie : Rows.edsigSignsUptoRow.laidByTextAt .later Tryz.pinned [.data, .wider, .wider, .data, .data, .data, .data, .data] true :=
  OpenClaim.laidByTextAt_later rfl rfl tie noOwnUnsafe
end Go.Proofs.YtacpildnjohidaaGreatDoor
