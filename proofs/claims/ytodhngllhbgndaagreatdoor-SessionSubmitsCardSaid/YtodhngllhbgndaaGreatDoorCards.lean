/-
  DERIVED. GIVEN WITH THE SEED: THE CARDS: each row of YtodhngllhbgndaaGreatDoorRows.lean that lists a variable, with what it lists TIED to the program's text (the seventh form; the later family's looks); each row that meets fmt, with fmt's text TOLD by the authors' own Lean function (tested against real Go, not proved from fmt's source: count such statements apart). THE CARD IS WHAT COUNTS. Prove the row's statement (the work); the ties are given (YtodhngllhbgndaaGreatDoorTie.lean); close each card by the builder's one call (the guide's Derived/Test/ToyasCard.lean, 'card_holds'). Laid BY PROGRAM, IN A SANDBOX (cutbox-door.mjs). By AI agents, Wed Nov 11 2026. No macro, syntax, notation, axiom, sorry.
-/
import Derived.Test.YtodhngllhbgndaaGreatDoorRows
import GoSem.ClaimSeven
namespace Go.Proofs.YtodhngllhbgndaaGreatDoor
namespace Rows

/-- THE TIED CARD OF 'vouchsafelaw16.SessionRequests'. -/
def sessionRequestsCard : Claim7 := { stood := { row := sessionRequestsRow, standIns := [], harness := (true, "5a5741168cf022ab9716d660950e6c20c5d37df2ace43d3eafebc5105a9dc32e"), looks := false }, kinds := [], alts := [], laidByText := true, laidKinds := [.data, .pinned], laidTests := true, laidLooks := .later }
def SessionRequestsCardSaid : Prop := Claim7.holds Tryz.pinned (.plain (OpenSpec.ofChange sessionRequestsSpec)) sessionRequestsCard

/-- THE TIED CARD OF 'vouchsafelaw16.SessionSubmits'. -/
def sessionSubmitsCard : Claim7 := { stood := { row := sessionSubmitsRow, standIns := [], harness := (true, "5a5741168cf022ab9716d660950e6c20c5d37df2ace43d3eafebc5105a9dc32e"), looks := false }, kinds := [], alts := [], laidByText := true, laidKinds := [.data, .pinned], laidTests := true, laidLooks := .later }
def SessionSubmitsCardSaid : Prop := Claim7.holds Tryz.pinned (.plain (OpenSpec.ofChange sessionSubmitsSpec)) sessionSubmitsCard

/-- THE SECOND FORM's CARD OF 'vouchsafelaw16.SessionRequests'. -/
def sessionRequestsUptoCard : Claim7 := { stood := { row := sessionRequestsUptoRow, standIns := [], harness := (true, "5a5741168cf022ab9716d660950e6c20c5d37df2ace43d3eafebc5105a9dc32e"), looks := false }, kinds := [], alts := [], laidByText := true, laidKinds := [.data, .pinned], laidTests := true, laidLooks := .later }
def SessionRequestsUptoCardSaid : Prop := Claim7.holds Tryz.pinned (.plain (OpenSpec.upto sessionRequestsSpec)) sessionRequestsUptoCard

/-- THE SECOND FORM's CARD OF 'vouchsafelaw16.SessionSubmits'. -/
def sessionSubmitsUptoCard : Claim7 := { stood := { row := sessionSubmitsUptoRow, standIns := [], harness := (true, "5a5741168cf022ab9716d660950e6c20c5d37df2ace43d3eafebc5105a9dc32e"), looks := false }, kinds := [], alts := [], laidByText := true, laidKinds := [.data, .pinned], laidTests := true, laidLooks := .later }
def SessionSubmitsUptoCardSaid : Prop := Claim7.holds Tryz.pinned (.plain (OpenSpec.upto sessionSubmitsSpec)) sessionSubmitsUptoCard
end Rows
end Go.Proofs.YtodhngllhbgndaaGreatDoor
