/-
  DERIVED. GIVEN WITH THE SEED: THE CARDS: each row of YtlebpfhdhpobeaaDoorRows.lean that lists a variable, with what it lists TIED to the program's text (the seventh form; the later family's looks); each row that meets fmt, with fmt's text TOLD by the authors' own Lean function (tested against real Go, not proved from fmt's source: count such statements apart). THE CARD IS WHAT COUNTS. Prove the row's statement (the work); the ties are given (YtlebpfhdhpobeaaDoorTie.lean); close each card by the builder's one call (the guide's Derived/Test/ToyasCard.lean, 'card_holds'). Laid BY PROGRAM, IN A SANDBOX (cutbox-door.mjs). By AI agents, Wed Nov 11 2026. No macro, syntax, notation, axiom, sorry.
-/
import Derived.Test.YtlebpfhdhpobeaaDoorRows
import GoSem.ClaimSeven
namespace Go.Proofs.YtlebpfhdhpobeaaDoor
namespace Rows

/-- THE TIED CARD OF 'vouchsafelaw09.ScalarMulAdds'. -/
def scalarMulAddsCard : Claim7 := { stood := { row := scalarMulAddsRow, standIns := [], harness := (true, "25934d3a9e7beaab70066980befc45b5e1839eaf08b6345509e43f16647a2a8b"), looks := false }, kinds := [], alts := [], laidByText := true, laidKinds := [.wider, .data], laidTests := true, laidLooks := .later }
def ScalarMulAddsCardSaid : Prop := Claim7.holds Tryd.pinned (.plain (OpenSpec.ofChange scalarMulAddsSpec)) scalarMulAddsCard

/-- THE TIED CARD OF 'vouchsafelaw09.ScalarLaws'. -/
def scalarLawsCard : Claim7 := { stood := { row := scalarLawsRow, standIns := [], harness := (true, "25934d3a9e7beaab70066980befc45b5e1839eaf08b6345509e43f16647a2a8b"), looks := false }, kinds := [], alts := [], laidByText := true, laidKinds := [.wider, .data], laidTests := true, laidLooks := .later }
def ScalarLawsCardSaid : Prop := Claim7.holds Tryd.pinned (.plain (OpenSpec.ofChange scalarLawsSpec)) scalarLawsCard

/-- THE TIED CARD OF 'vouchsafelaw09.ScalarClamps'. -/
def scalarClampsCard : Claim7 := { stood := { row := scalarClampsRow, standIns := [], harness := (true, "25934d3a9e7beaab70066980befc45b5e1839eaf08b6345509e43f16647a2a8b"), looks := false }, kinds := [], alts := [], laidByText := true, laidKinds := [.wider, .data], laidTests := true, laidLooks := .later }
def ScalarClampsCardSaid : Prop := Claim7.holds Tryd.pinned (.plain (OpenSpec.ofChange scalarClampsSpec)) scalarClampsCard

/-- THE TIED CARD OF 'vouchsafelaw09.ScalarReduces'. -/
def scalarReducesCard : Claim7 := { stood := { row := scalarReducesRow, standIns := [], harness := (true, "25934d3a9e7beaab70066980befc45b5e1839eaf08b6345509e43f16647a2a8b"), looks := false }, kinds := [], alts := [], laidByText := true, laidKinds := [.wider, .data], laidTests := true, laidLooks := .later }
def ScalarReducesCardSaid : Prop := Claim7.holds Tryd.pinned (.plain (OpenSpec.ofChange scalarReducesSpec)) scalarReducesCard

/-- THE SECOND FORM's CARD OF 'vouchsafelaw09.ScalarMulAdds'. -/
def scalarMulAddsUptoCard : Claim7 := { stood := { row := scalarMulAddsUptoRow, standIns := [], harness := (true, "25934d3a9e7beaab70066980befc45b5e1839eaf08b6345509e43f16647a2a8b"), looks := false }, kinds := [], alts := [], laidByText := true, laidKinds := [.wider, .data], laidTests := true, laidLooks := .later }
def ScalarMulAddsUptoCardSaid : Prop := Claim7.holds Tryd.pinned (.plain (OpenSpec.upto scalarMulAddsSpec)) scalarMulAddsUptoCard

/-- THE SECOND FORM's CARD OF 'vouchsafelaw09.ScalarLaws'. -/
def scalarLawsUptoCard : Claim7 := { stood := { row := scalarLawsUptoRow, standIns := [], harness := (true, "25934d3a9e7beaab70066980befc45b5e1839eaf08b6345509e43f16647a2a8b"), looks := false }, kinds := [], alts := [], laidByText := true, laidKinds := [.wider, .data], laidTests := true, laidLooks := .later }
def ScalarLawsUptoCardSaid : Prop := Claim7.holds Tryd.pinned (.plain (OpenSpec.upto scalarLawsSpec)) scalarLawsUptoCard

/-- THE SECOND FORM's CARD OF 'vouchsafelaw09.ScalarClamps'. -/
def scalarClampsUptoCard : Claim7 := { stood := { row := scalarClampsUptoRow, standIns := [], harness := (true, "25934d3a9e7beaab70066980befc45b5e1839eaf08b6345509e43f16647a2a8b"), looks := false }, kinds := [], alts := [], laidByText := true, laidKinds := [.wider, .data], laidTests := true, laidLooks := .later }
def ScalarClampsUptoCardSaid : Prop := Claim7.holds Tryd.pinned (.plain (OpenSpec.upto scalarClampsSpec)) scalarClampsUptoCard

/-- THE SECOND FORM's CARD OF 'vouchsafelaw09.ScalarReduces'. -/
def scalarReducesUptoCard : Claim7 := { stood := { row := scalarReducesUptoRow, standIns := [], harness := (true, "25934d3a9e7beaab70066980befc45b5e1839eaf08b6345509e43f16647a2a8b"), looks := false }, kinds := [], alts := [], laidByText := true, laidKinds := [.wider, .data], laidTests := true, laidLooks := .later }
def ScalarReducesUptoCardSaid : Prop := Claim7.holds Tryd.pinned (.plain (OpenSpec.upto scalarReducesSpec)) scalarReducesUptoCard
end Rows
end Go.Proofs.YtlebpfhdhpobeaaDoor
