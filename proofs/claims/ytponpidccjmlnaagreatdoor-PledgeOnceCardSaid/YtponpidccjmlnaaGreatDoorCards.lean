/-
  DERIVED. GIVEN WITH THE SEED: THE CARDS: each row of YtponpidccjmlnaaGreatDoorRows.lean that lists a variable, with what it lists TIED to the program's text (the seventh form; the later family's looks); each row that meets fmt, with fmt's text TOLD by the authors' own Lean function (tested against real Go, not proved from fmt's source: count such statements apart). THE CARD IS WHAT COUNTS. Prove the row's statement (the work); the ties are given (YtponpidccjmlnaaGreatDoorTie.lean); close each card by the builder's one call (the guide's Derived/Test/ToyasCard.lean, 'card_holds'). Laid BY PROGRAM, IN A SANDBOX (cutbox-door.mjs). By AI agents, Wed Nov 11 2026. No macro, syntax, notation, axiom, sorry.
-/
import Derived.Test.YtponpidccjmlnaaGreatDoorRows
import GoSem.ClaimSeven
namespace Go.Proofs.YtponpidccjmlnaaGreatDoor
namespace Rows

/-- THE TIED CARD OF 'vouchsafelaw20.PledgeSettled'. -/
def pledgeSettledCard : Claim7 := { stood := { row := pledgeSettledRow, standIns := [], harness := (true, "17a6c356e4616bf9aa00df692e3f15066c7ff48a265a0ad1679d53f2c277f7cb"), looks := false }, kinds := [], alts := [], laidByText := true, laidKinds := [.data, .data, .wider, .data, .data, .pinned], laidTests := true, laidLooks := .later }
def PledgeSettledCardSaid : Prop := Claim7.holds Tryz.pinned (.plain (OpenSpec.ofChange pledgeSettledSpec)) pledgeSettledCard

/-- THE TIED CARD OF 'vouchsafelaw20.PledgeStores'. -/
def pledgeStoresCard : Claim7 := { stood := { row := pledgeStoresRow, standIns := [], harness := (true, "17a6c356e4616bf9aa00df692e3f15066c7ff48a265a0ad1679d53f2c277f7cb"), looks := false }, kinds := [], alts := [], laidByText := true, laidKinds := [.data, .data, .wider, .data, .data, .pinned], laidTests := true, laidLooks := .later }
def PledgeStoresCardSaid : Prop := Claim7.holds Tryz.pinned (.plain (OpenSpec.ofChange pledgeStoresSpec)) pledgeStoresCard

/-- THE TIED CARD OF 'vouchsafelaw20.PledgeOnce'. -/
def pledgeOnceCard : Claim7 := { stood := { row := pledgeOnceRow, standIns := [], harness := (true, "17a6c356e4616bf9aa00df692e3f15066c7ff48a265a0ad1679d53f2c277f7cb"), looks := false }, kinds := [], alts := [], laidByText := true, laidKinds := [.data, .data, .wider, .data, .data, .pinned], laidTests := true, laidLooks := .later }
def PledgeOnceCardSaid : Prop := Claim7.holds Tryz.pinned (.plain (OpenSpec.ofChange pledgeOnceSpec)) pledgeOnceCard

/-- THE SECOND FORM's CARD OF 'vouchsafelaw20.PledgeSettled'. -/
def pledgeSettledUptoCard : Claim7 := { stood := { row := pledgeSettledUptoRow, standIns := [], harness := (true, "17a6c356e4616bf9aa00df692e3f15066c7ff48a265a0ad1679d53f2c277f7cb"), looks := false }, kinds := [], alts := [], laidByText := true, laidKinds := [.data, .data, .wider, .data, .data, .pinned], laidTests := true, laidLooks := .later }
def PledgeSettledUptoCardSaid : Prop := Claim7.holds Tryz.pinned (.plain (OpenSpec.upto pledgeSettledSpec)) pledgeSettledUptoCard

/-- THE SECOND FORM's CARD OF 'vouchsafelaw20.PledgeStores'. -/
def pledgeStoresUptoCard : Claim7 := { stood := { row := pledgeStoresUptoRow, standIns := [], harness := (true, "17a6c356e4616bf9aa00df692e3f15066c7ff48a265a0ad1679d53f2c277f7cb"), looks := false }, kinds := [], alts := [], laidByText := true, laidKinds := [.data, .data, .wider, .data, .data, .pinned], laidTests := true, laidLooks := .later }
def PledgeStoresUptoCardSaid : Prop := Claim7.holds Tryz.pinned (.plain (OpenSpec.upto pledgeStoresSpec)) pledgeStoresUptoCard

/-- THE SECOND FORM's CARD OF 'vouchsafelaw20.PledgeOnce'. -/
def pledgeOnceUptoCard : Claim7 := { stood := { row := pledgeOnceUptoRow, standIns := [], harness := (true, "17a6c356e4616bf9aa00df692e3f15066c7ff48a265a0ad1679d53f2c277f7cb"), looks := false }, kinds := [], alts := [], laidByText := true, laidKinds := [.data, .data, .wider, .data, .data, .pinned], laidTests := true, laidLooks := .later }
def PledgeOnceUptoCardSaid : Prop := Claim7.holds Tryz.pinned (.plain (OpenSpec.upto pledgeOnceSpec)) pledgeOnceUptoCard
end Rows
end Go.Proofs.YtponpidccjmlnaaGreatDoor
