/-
  DERIVED. GIVEN WITH THE SEED: THE CARDS: each row of YtcellhafdgmkjaaDoorRows.lean that lists a variable, with what it lists TIED to the program's text (the seventh form; the later family's looks); each row that meets fmt, with fmt's text TOLD by the authors' own Lean function (tested against real Go, not proved from fmt's source: count such statements apart). THE CARD IS WHAT COUNTS. Prove the row's statement (the work); the ties are given (YtcellhafdgmkjaaDoorTie.lean); close each card by the builder's one call (the guide's Derived/Test/ToyasCard.lean, 'card_holds'). Laid BY PROGRAM, IN A SANDBOX (cutbox-door.mjs). By AI agents, Wed Nov 11 2026. No macro, syntax, notation, axiom, sorry.
-/
import Derived.Test.YtcellhafdgmkjaaDoorRows
import GoSem.ClaimSeven
namespace Go.Proofs.YtcellhafdgmkjaaDoor
namespace Rows

/-- THE TIED CARD OF 'vouchsafelaw06.AddressEmails'. -/
def addressEmailsCard : Claim7 := { stood := { row := addressEmailsRow, standIns := [], harness := (true, "534069612c98bae852cf0de8046f0bc5d573c79a4cf369a2d556f716a94787ed"), looks := false }, kinds := [], alts := [], laidByText := true, laidKinds := [.data, .pinned], laidTests := true, laidLooks := .later }
def AddressEmailsCardSaid : Prop := Claim7.holds Tryd.pinned (.plain (OpenSpec.ofChange addressEmailsSpec)) addressEmailsCard

/-- THE TIED CARD OF 'vouchsafelaw06.AddressPhones'. -/
def addressPhonesCard : Claim7 := { stood := { row := addressPhonesRow, standIns := [], harness := (true, "534069612c98bae852cf0de8046f0bc5d573c79a4cf369a2d556f716a94787ed"), looks := false }, kinds := [], alts := [], laidByText := true, laidKinds := [.data, .pinned], laidTests := true, laidLooks := .later }
def AddressPhonesCardSaid : Prop := Claim7.holds Tryd.pinned (.plain (OpenSpec.ofChange addressPhonesSpec)) addressPhonesCard

/-- THE TIED CARD OF 'vouchsafelaw06.AddressTrunk'. -/
def addressTrunkCard : Claim7 := { stood := { row := addressTrunkRow, standIns := [], harness := (true, "534069612c98bae852cf0de8046f0bc5d573c79a4cf369a2d556f716a94787ed"), looks := false }, kinds := [], alts := [], laidByText := true, laidKinds := [.data, .pinned], laidTests := true, laidLooks := .later }
def AddressTrunkCardSaid : Prop := Claim7.holds Tryd.pinned (.plain (OpenSpec.ofChange addressTrunkSpec)) addressTrunkCard

/-- THE TIED CARD OF 'vouchsafelaw06.AddressOrder'. -/
def addressOrderCard : Claim7 := { stood := { row := addressOrderRow, standIns := [], harness := (true, "534069612c98bae852cf0de8046f0bc5d573c79a4cf369a2d556f716a94787ed"), looks := false }, kinds := [], alts := [], laidByText := true, laidKinds := [.data, .pinned], laidTests := true, laidLooks := .later }
def AddressOrderCardSaid : Prop := Claim7.holds Tryd.pinned (.plain (OpenSpec.ofChange addressOrderSpec)) addressOrderCard

/-- THE TIED CARD OF 'vouchsafelaw06.AddressOne'. -/
def addressOneCard : Claim7 := { stood := { row := addressOneRow, standIns := [], harness := (true, "534069612c98bae852cf0de8046f0bc5d573c79a4cf369a2d556f716a94787ed"), looks := false }, kinds := [], alts := [], laidByText := true, laidKinds := [.data, .pinned], laidTests := true, laidLooks := .later }
def AddressOneCardSaid : Prop := Claim7.holds Tryd.pinned (.plain (OpenSpec.ofChange addressOneSpec)) addressOneCard

/-- THE TIED CARD OF 'vouchsafelaw06.AddressMakes'. -/
def addressMakesCard : Claim7 := { stood := { row := addressMakesRow, standIns := [], harness := (true, "534069612c98bae852cf0de8046f0bc5d573c79a4cf369a2d556f716a94787ed"), looks := false }, kinds := [], alts := [], laidByText := true, laidKinds := [.data, .pinned], laidTests := true, laidLooks := .later }
def AddressMakesCardSaid : Prop := Claim7.holds Tryd.pinned (.plain (OpenSpec.ofChange addressMakesSpec)) addressMakesCard

/-- THE SECOND FORM's CARD OF 'vouchsafelaw06.AddressEmails'. -/
def addressEmailsUptoCard : Claim7 := { stood := { row := addressEmailsUptoRow, standIns := [], harness := (true, "534069612c98bae852cf0de8046f0bc5d573c79a4cf369a2d556f716a94787ed"), looks := false }, kinds := [], alts := [], laidByText := true, laidKinds := [.data, .pinned], laidTests := true, laidLooks := .later }
def AddressEmailsUptoCardSaid : Prop := Claim7.holds Tryd.pinned (.plain (OpenSpec.upto addressEmailsSpec)) addressEmailsUptoCard

/-- THE SECOND FORM's CARD OF 'vouchsafelaw06.AddressPhones'. -/
def addressPhonesUptoCard : Claim7 := { stood := { row := addressPhonesUptoRow, standIns := [], harness := (true, "534069612c98bae852cf0de8046f0bc5d573c79a4cf369a2d556f716a94787ed"), looks := false }, kinds := [], alts := [], laidByText := true, laidKinds := [.data, .pinned], laidTests := true, laidLooks := .later }
def AddressPhonesUptoCardSaid : Prop := Claim7.holds Tryd.pinned (.plain (OpenSpec.upto addressPhonesSpec)) addressPhonesUptoCard

/-- THE SECOND FORM's CARD OF 'vouchsafelaw06.AddressTrunk'. -/
def addressTrunkUptoCard : Claim7 := { stood := { row := addressTrunkUptoRow, standIns := [], harness := (true, "534069612c98bae852cf0de8046f0bc5d573c79a4cf369a2d556f716a94787ed"), looks := false }, kinds := [], alts := [], laidByText := true, laidKinds := [.data, .pinned], laidTests := true, laidLooks := .later }
def AddressTrunkUptoCardSaid : Prop := Claim7.holds Tryd.pinned (.plain (OpenSpec.upto addressTrunkSpec)) addressTrunkUptoCard

/-- THE SECOND FORM's CARD OF 'vouchsafelaw06.AddressOrder'. -/
def addressOrderUptoCard : Claim7 := { stood := { row := addressOrderUptoRow, standIns := [], harness := (true, "534069612c98bae852cf0de8046f0bc5d573c79a4cf369a2d556f716a94787ed"), looks := false }, kinds := [], alts := [], laidByText := true, laidKinds := [.data, .pinned], laidTests := true, laidLooks := .later }
def AddressOrderUptoCardSaid : Prop := Claim7.holds Tryd.pinned (.plain (OpenSpec.upto addressOrderSpec)) addressOrderUptoCard

/-- THE SECOND FORM's CARD OF 'vouchsafelaw06.AddressOne'. -/
def addressOneUptoCard : Claim7 := { stood := { row := addressOneUptoRow, standIns := [], harness := (true, "534069612c98bae852cf0de8046f0bc5d573c79a4cf369a2d556f716a94787ed"), looks := false }, kinds := [], alts := [], laidByText := true, laidKinds := [.data, .pinned], laidTests := true, laidLooks := .later }
def AddressOneUptoCardSaid : Prop := Claim7.holds Tryd.pinned (.plain (OpenSpec.upto addressOneSpec)) addressOneUptoCard

/-- THE SECOND FORM's CARD OF 'vouchsafelaw06.AddressMakes'. -/
def addressMakesUptoCard : Claim7 := { stood := { row := addressMakesUptoRow, standIns := [], harness := (true, "534069612c98bae852cf0de8046f0bc5d573c79a4cf369a2d556f716a94787ed"), looks := false }, kinds := [], alts := [], laidByText := true, laidKinds := [.data, .pinned], laidTests := true, laidLooks := .later }
def AddressMakesUptoCardSaid : Prop := Claim7.holds Tryd.pinned (.plain (OpenSpec.upto addressMakesSpec)) addressMakesUptoCard
end Rows
end Go.Proofs.YtcellhafdgmkjaaDoor
