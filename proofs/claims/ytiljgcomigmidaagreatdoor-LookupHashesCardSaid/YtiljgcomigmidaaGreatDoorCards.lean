/-
  DERIVED. GIVEN WITH THE SEED: THE CARDS: each row of YtiljgcomigmidaaGreatDoorRows.lean that lists a variable, with what it lists TIED to the program's text (the seventh form; the later family's looks); each row that meets fmt, with fmt's text TOLD by the authors' own Lean function (tested against real Go, not proved from fmt's source: count such statements apart). THE CARD IS WHAT COUNTS. Prove the row's statement (the work); the ties are given (YtiljgcomigmidaaGreatDoorTie.lean); close each card by the builder's one call (the guide's Derived/Test/ToyasCard.lean, 'card_holds'). Laid BY PROGRAM, IN A SANDBOX (cutbox-door.mjs). By AI agents, Wed Nov 11 2026. No macro, syntax, notation, axiom, sorry.
-/
import Derived.Test.YtiljgcomigmidaaGreatDoorRows
import GoSem.ClaimSeven
namespace Go.Proofs.YtiljgcomigmidaaGreatDoor
namespace Rows

/-- THE TIED CARD OF 'vouchsafelaw19.LookupTells'. -/
def lookupTellsCard : Claim7 := { stood := { row := lookupTellsRow, standIns := [], harness := (true, "099ea9885433c94ef13ed6c70db689e4d34a31dd311e37e2257a0885044cf98f"), looks := false }, kinds := [], alts := [], laidByText := true, laidKinds := [.data, .data, .data, .data, .data, .pinned], laidTests := true, laidLooks := .later }
def LookupTellsCardSaid : Prop := Claim7.holds Tryz.pinned (.plain (OpenSpec.ofChange lookupTellsSpec)) lookupTellsCard

/-- THE TIED CARD OF 'vouchsafelaw19.LookupJust'. -/
def lookupJustCard : Claim7 := { stood := { row := lookupJustRow, standIns := [], harness := (true, "099ea9885433c94ef13ed6c70db689e4d34a31dd311e37e2257a0885044cf98f"), looks := false }, kinds := [], alts := [], laidByText := true, laidKinds := [.data, .data, .data, .pinned], laidTests := true, laidLooks := .later }
def LookupJustCardSaid : Prop := Claim7.holds Tryz.pinned (.plain (OpenSpec.ofChange lookupJustSpec)) lookupJustCard

/-- THE TIED CARD OF 'vouchsafelaw19.LookupHidden'. -/
def lookupHiddenCard : Claim7 := { stood := { row := lookupHiddenRow, standIns := [], harness := (true, "099ea9885433c94ef13ed6c70db689e4d34a31dd311e37e2257a0885044cf98f"), looks := false }, kinds := [], alts := [], laidByText := true, laidKinds := [.data, .data, .data, .pinned], laidTests := true, laidLooks := .later }
def LookupHiddenCardSaid : Prop := Claim7.holds Tryz.pinned (.plain (OpenSpec.ofChange lookupHiddenSpec)) lookupHiddenCard

/-- THE TIED CARD OF 'vouchsafelaw19.LookupHashes'. -/
def lookupHashesCard : Claim7 := { stood := { row := lookupHashesRow, standIns := [], harness := (true, "099ea9885433c94ef13ed6c70db689e4d34a31dd311e37e2257a0885044cf98f"), looks := false }, kinds := [], alts := [], laidByText := true, laidKinds := [.data, .data, .data, .data, .data, .pinned], laidTests := true, laidLooks := .later }
def LookupHashesCardSaid : Prop := Claim7.holds Tryz.pinned (.plain (OpenSpec.ofChange lookupHashesSpec)) lookupHashesCard

/-- THE SECOND FORM's CARD OF 'vouchsafelaw19.LookupTells'. -/
def lookupTellsUptoCard : Claim7 := { stood := { row := lookupTellsUptoRow, standIns := [], harness := (true, "099ea9885433c94ef13ed6c70db689e4d34a31dd311e37e2257a0885044cf98f"), looks := false }, kinds := [], alts := [], laidByText := true, laidKinds := [.data, .data, .data, .data, .data, .pinned], laidTests := true, laidLooks := .later }
def LookupTellsUptoCardSaid : Prop := Claim7.holds Tryz.pinned (.plain (OpenSpec.upto lookupTellsSpec)) lookupTellsUptoCard

/-- THE SECOND FORM's CARD OF 'vouchsafelaw19.LookupJust'. -/
def lookupJustUptoCard : Claim7 := { stood := { row := lookupJustUptoRow, standIns := [], harness := (true, "099ea9885433c94ef13ed6c70db689e4d34a31dd311e37e2257a0885044cf98f"), looks := false }, kinds := [], alts := [], laidByText := true, laidKinds := [.data, .data, .data, .pinned], laidTests := true, laidLooks := .later }
def LookupJustUptoCardSaid : Prop := Claim7.holds Tryz.pinned (.plain (OpenSpec.upto lookupJustSpec)) lookupJustUptoCard

/-- THE SECOND FORM's CARD OF 'vouchsafelaw19.LookupHidden'. -/
def lookupHiddenUptoCard : Claim7 := { stood := { row := lookupHiddenUptoRow, standIns := [], harness := (true, "099ea9885433c94ef13ed6c70db689e4d34a31dd311e37e2257a0885044cf98f"), looks := false }, kinds := [], alts := [], laidByText := true, laidKinds := [.data, .data, .data, .pinned], laidTests := true, laidLooks := .later }
def LookupHiddenUptoCardSaid : Prop := Claim7.holds Tryz.pinned (.plain (OpenSpec.upto lookupHiddenSpec)) lookupHiddenUptoCard

/-- THE SECOND FORM's CARD OF 'vouchsafelaw19.LookupHashes'. -/
def lookupHashesUptoCard : Claim7 := { stood := { row := lookupHashesUptoRow, standIns := [], harness := (true, "099ea9885433c94ef13ed6c70db689e4d34a31dd311e37e2257a0885044cf98f"), looks := false }, kinds := [], alts := [], laidByText := true, laidKinds := [.data, .data, .data, .data, .data, .pinned], laidTests := true, laidLooks := .later }
def LookupHashesUptoCardSaid : Prop := Claim7.holds Tryz.pinned (.plain (OpenSpec.upto lookupHashesSpec)) lookupHashesUptoCard
end Rows
end Go.Proofs.YtiljgcomigmidaaGreatDoor
