/-
  DERIVED. GIVEN WITH THE SEED: THE CARDS: each row of YtpffjcablmkiiaaGreatDoorRows.lean that lists a variable, with what it lists TIED to the program's text (the seventh form; the later family's looks); each row that meets fmt, with fmt's text TOLD by the authors' own Lean function (tested against real Go, not proved from fmt's source: count such statements apart). THE CARD IS WHAT COUNTS. Prove the row's statement (the work); the ties are given (YtpffjcablmkiiaaGreatDoorTie.lean); close each card by the builder's one call (the guide's Derived/Test/ToyasCard.lean, 'card_holds'). Laid BY PROGRAM, IN A SANDBOX (cutbox-door.mjs). By AI agents, Wed Nov 11 2026. No macro, syntax, notation, axiom, sorry.
-/
import Derived.Test.YtpffjcablmkiiaaGreatDoorRows
import GoSem.ClaimSeven
namespace Go.Proofs.YtpffjcablmkiiaaGreatDoor
namespace Rows

/-- THE TIED CARD OF 'vouchsafelaw18.BondBinds'. -/
def bondBindsCard : Claim7 := { stood := { row := bondBindsRow, standIns := [], harness := (true, "33d46d80b8ee9d1fe83ccfc3f5ead6ad9b89c380961d7fdd163720165a734ca9"), looks := false }, kinds := [], alts := [], laidByText := true, laidKinds := [.data, .pinned], laidTests := true, laidLooks := .later }
def BondBindsCardSaid : Prop := Claim7.holds Tryz.pinned (.plain (OpenSpec.ofChange bondBindsSpec)) bondBindsCard

/-- THE SECOND FORM's CARD OF 'vouchsafelaw18.BondBinds'. -/
def bondBindsUptoCard : Claim7 := { stood := { row := bondBindsUptoRow, standIns := [], harness := (true, "33d46d80b8ee9d1fe83ccfc3f5ead6ad9b89c380961d7fdd163720165a734ca9"), looks := false }, kinds := [], alts := [], laidByText := true, laidKinds := [.data, .pinned], laidTests := true, laidLooks := .later }
def BondBindsUptoCardSaid : Prop := Claim7.holds Tryz.pinned (.plain (OpenSpec.upto bondBindsSpec)) bondBindsUptoCard
end Rows
end Go.Proofs.YtpffjcablmkiiaaGreatDoor
