/-
  DERIVED. GIVEN WITH THE SEED: THE CARDS: each row of YtpffjcablmkiiaaDoorRows.lean that lists a variable, with what it lists TIED to the program's text (the seventh form; the later family's looks); each row that meets fmt, with fmt's text TOLD by the authors' own Lean function (tested against real Go, not proved from fmt's source: count such statements apart). THE CARD IS WHAT COUNTS. Prove the row's statement (the work); the ties are given (YtpffjcablmkiiaaDoorTie.lean); close each card by the builder's one call (the guide's Derived/Test/ToyasCard.lean, 'card_holds'). Laid BY PROGRAM, IN A SANDBOX (cutbox-door.mjs). By AI agents, Wed Nov 11 2026. No macro, syntax, notation, axiom, sorry.
-/
import Derived.Test.YtpffjcablmkiiaaDoorRows
import GoSem.ClaimSeven
namespace Go.Proofs.YtpffjcablmkiiaaDoor
namespace Rows

/-- THE TIED CARD OF 'vouchsafelaw18.BondLast'. -/
def bondLastCard : Claim7 := { stood := { row := bondLastRow, standIns := [], harness := (true, "b6e6711b515d6ed6e69891c2c3e8438ef1a4e5b292ce005ed9b2b91f66cf322c"), looks := false }, kinds := [], alts := [], laidByText := true, laidKinds := [.data, .pinned], laidTests := true, laidLooks := .later }
def BondLastCardSaid : Prop := Claim7.holds Tryd.pinned (.plain (OpenSpec.ofChange bondLastSpec)) bondLastCard

/-- THE TIED CARD OF 'vouchsafelaw18.BondCounts'. -/
def bondCountsCard : Claim7 := { stood := { row := bondCountsRow, standIns := [], harness := (true, "b6e6711b515d6ed6e69891c2c3e8438ef1a4e5b292ce005ed9b2b91f66cf322c"), looks := false }, kinds := [], alts := [], laidByText := true, laidKinds := [.data, .pinned], laidTests := true, laidLooks := .later }
def BondCountsCardSaid : Prop := Claim7.holds Tryd.pinned (.plain (OpenSpec.ofChange bondCountsSpec)) bondCountsCard

/-- THE SECOND FORM's CARD OF 'vouchsafelaw18.BondLast'. -/
def bondLastUptoCard : Claim7 := { stood := { row := bondLastUptoRow, standIns := [], harness := (true, "b6e6711b515d6ed6e69891c2c3e8438ef1a4e5b292ce005ed9b2b91f66cf322c"), looks := false }, kinds := [], alts := [], laidByText := true, laidKinds := [.data, .pinned], laidTests := true, laidLooks := .later }
def BondLastUptoCardSaid : Prop := Claim7.holds Tryd.pinned (.plain (OpenSpec.upto bondLastSpec)) bondLastUptoCard

/-- THE SECOND FORM's CARD OF 'vouchsafelaw18.BondCounts'. -/
def bondCountsUptoCard : Claim7 := { stood := { row := bondCountsUptoRow, standIns := [], harness := (true, "b6e6711b515d6ed6e69891c2c3e8438ef1a4e5b292ce005ed9b2b91f66cf322c"), looks := false }, kinds := [], alts := [], laidByText := true, laidKinds := [.data, .pinned], laidTests := true, laidLooks := .later }
def BondCountsUptoCardSaid : Prop := Claim7.holds Tryd.pinned (.plain (OpenSpec.upto bondCountsSpec)) bondCountsUptoCard
end Rows
end Go.Proofs.YtpffjcablmkiiaaDoor
