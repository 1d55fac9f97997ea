/-
  DERIVED. GIVEN WITH THE SEED: THE CARDS: each row of YtodhngllhbgndaaDoorRows.lean that lists a variable, with what it lists TIED to the program's text (the seventh form; the later family's looks); each row that meets fmt, with fmt's text TOLD by the authors' own Lean function (tested against real Go, not proved from fmt's source: count such statements apart). THE CARD IS WHAT COUNTS. Prove the row's statement (the work); the ties are given (YtodhngllhbgndaaDoorTie.lean); close each card by the builder's one call (the guide's Derived/Test/ToyasCard.lean, 'card_holds'). Laid BY PROGRAM, IN A SANDBOX (cutbox-door.mjs). By AI agents, Wed Nov 11 2026. No macro, syntax, notation, axiom, sorry.
-/
import Derived.Test.YtodhngllhbgndaaDoorRows
import GoSem.ClaimSeven
namespace Go.Proofs.YtodhngllhbgndaaDoor
namespace Rows

/-- THE TIED CARD OF 'vouchsafelaw16.SessionToken'. -/
def sessionTokenCard : Claim7 := { stood := { row := sessionTokenRow, standIns := [], harness := (true, "93f608ea418f879cb984f43812d15bc1ca9430d03e73da34c2683387e32ad545"), looks := false }, kinds := [], alts := [], laidByText := true, laidKinds := [.data, .pinned], laidTests := true, laidLooks := .later }
def SessionTokenCardSaid : Prop := Claim7.holds Tryd.pinned (.plain (OpenSpec.ofChange sessionTokenSpec)) sessionTokenCard

/-- THE TIED CARD OF 'vouchsafelaw16.SessionPrunes'. -/
def sessionPrunesCard : Claim7 := { stood := { row := sessionPrunesRow, standIns := [], harness := (true, "93f608ea418f879cb984f43812d15bc1ca9430d03e73da34c2683387e32ad545"), looks := false }, kinds := [], alts := [], laidByText := true, laidKinds := [.data, .pinned], laidTests := true, laidLooks := .later }
def SessionPrunesCardSaid : Prop := Claim7.holds Tryd.pinned (.plain (OpenSpec.ofChange sessionPrunesSpec)) sessionPrunesCard

/-- THE SECOND FORM's CARD OF 'vouchsafelaw16.SessionToken'. -/
def sessionTokenUptoCard : Claim7 := { stood := { row := sessionTokenUptoRow, standIns := [], harness := (true, "93f608ea418f879cb984f43812d15bc1ca9430d03e73da34c2683387e32ad545"), looks := false }, kinds := [], alts := [], laidByText := true, laidKinds := [.data, .pinned], laidTests := true, laidLooks := .later }
def SessionTokenUptoCardSaid : Prop := Claim7.holds Tryd.pinned (.plain (OpenSpec.upto sessionTokenSpec)) sessionTokenUptoCard

/-- THE SECOND FORM's CARD OF 'vouchsafelaw16.SessionPrunes'. -/
def sessionPrunesUptoCard : Claim7 := { stood := { row := sessionPrunesUptoRow, standIns := [], harness := (true, "93f608ea418f879cb984f43812d15bc1ca9430d03e73da34c2683387e32ad545"), looks := false }, kinds := [], alts := [], laidByText := true, laidKinds := [.data, .pinned], laidTests := true, laidLooks := .later }
def SessionPrunesUptoCardSaid : Prop := Claim7.holds Tryd.pinned (.plain (OpenSpec.upto sessionPrunesSpec)) sessionPrunesUptoCard
end Rows
end Go.Proofs.YtodhngllhbgndaaDoor
