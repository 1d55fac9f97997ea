/-
  DERIVED. GIVEN WITH THE SEED: THE CARDS: each row of YtlecfjcooglpoaaDoorRows.lean that lists a variable, with what it lists TIED to the program's text (the seventh form; the later family's looks); each row that meets fmt, with fmt's text TOLD by the authors' own Lean function (tested against real Go, not proved from fmt's source: count such statements apart). THE CARD IS WHAT COUNTS. Prove the row's statement (the work); the ties are given (YtlecfjcooglpoaaDoorTie.lean); close each card by the builder's one call (the guide's Derived/Test/ToyasCard.lean, 'card_holds'). Laid BY PROGRAM, IN A SANDBOX (cutbox-door.mjs). By AI agents, Wed Nov 11 2026. No macro, syntax, notation, axiom, sorry.
-/
import Derived.Test.YtlecfjcooglpoaaDoorRows
import GoSem.ClaimSeven
namespace Go.Proofs.YtlecfjcooglpoaaDoor
namespace Rows

/-- THE TIED CARD OF 'vouchsafelaw05.IdsNames'. -/
def idsNamesCard : Claim7 := { stood := { row := idsNamesRow, standIns := [], harness := (true, "57af2d723405ef3027c8b887a0198ad1d356e996abceea088becc32b4297ed2a"), looks := false }, kinds := [], alts := [], laidByText := true, laidKinds := [.data, .pinned], laidTests := true, laidLooks := .later }
def IdsNamesCardSaid : Prop := Claim7.holds Tryd.pinned (.plain (OpenSpec.ofChange idsNamesSpec)) idsNamesCard

/-- THE TIED CARD OF 'vouchsafelaw05.IdsKinds'. -/
def idsKindsCard : Claim7 := { stood := { row := idsKindsRow, standIns := [], harness := (true, "57af2d723405ef3027c8b887a0198ad1d356e996abceea088becc32b4297ed2a"), looks := false }, kinds := [], alts := [], laidByText := true, laidKinds := [.data, .pinned], laidTests := true, laidLooks := .later }
def IdsKindsCardSaid : Prop := Claim7.holds Tryd.pinned (.plain (OpenSpec.ofChange idsKindsSpec)) idsKindsCard

/-- THE TIED CARD OF 'vouchsafelaw05.IdsPorts'. -/
def idsPortsCard : Claim7 := { stood := { row := idsPortsRow, standIns := [], harness := (true, "57af2d723405ef3027c8b887a0198ad1d356e996abceea088becc32b4297ed2a"), looks := false }, kinds := [], alts := [], laidByText := true, laidKinds := [.data, .pinned], laidTests := true, laidLooks := .later }
def IdsPortsCardSaid : Prop := Claim7.holds Tryd.pinned (.plain (OpenSpec.ofChange idsPortsSpec)) idsPortsCard

/-- THE SECOND FORM's CARD OF 'vouchsafelaw05.IdsNames'. -/
def idsNamesUptoCard : Claim7 := { stood := { row := idsNamesUptoRow, standIns := [], harness := (true, "57af2d723405ef3027c8b887a0198ad1d356e996abceea088becc32b4297ed2a"), looks := false }, kinds := [], alts := [], laidByText := true, laidKinds := [.data, .pinned], laidTests := true, laidLooks := .later }
def IdsNamesUptoCardSaid : Prop := Claim7.holds Tryd.pinned (.plain (OpenSpec.upto idsNamesSpec)) idsNamesUptoCard

/-- THE SECOND FORM's CARD OF 'vouchsafelaw05.IdsKinds'. -/
def idsKindsUptoCard : Claim7 := { stood := { row := idsKindsUptoRow, standIns := [], harness := (true, "57af2d723405ef3027c8b887a0198ad1d356e996abceea088becc32b4297ed2a"), looks := false }, kinds := [], alts := [], laidByText := true, laidKinds := [.data, .pinned], laidTests := true, laidLooks := .later }
def IdsKindsUptoCardSaid : Prop := Claim7.holds Tryd.pinned (.plain (OpenSpec.upto idsKindsSpec)) idsKindsUptoCard

/-- THE SECOND FORM's CARD OF 'vouchsafelaw05.IdsPorts'. -/
def idsPortsUptoCard : Claim7 := { stood := { row := idsPortsUptoRow, standIns := [], harness := (true, "57af2d723405ef3027c8b887a0198ad1d356e996abceea088becc32b4297ed2a"), looks := false }, kinds := [], alts := [], laidByText := true, laidKinds := [.data, .pinned], laidTests := true, laidLooks := .later }
def IdsPortsUptoCardSaid : Prop := Claim7.holds Tryd.pinned (.plain (OpenSpec.upto idsPortsSpec)) idsPortsUptoCard
end Rows
end Go.Proofs.YtlecfjcooglpoaaDoor
