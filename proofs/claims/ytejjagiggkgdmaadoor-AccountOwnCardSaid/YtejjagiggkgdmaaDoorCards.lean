/-
  DERIVED. GIVEN WITH THE SEED: THE CARDS: each row of YtejjagiggkgdmaaDoorRows.lean that lists a variable, with what it lists TIED to the program's text (the seventh form; the later family's looks); each row that meets fmt, with fmt's text TOLD by the authors' own Lean function (tested against real Go, not proved from fmt's source: count such statements apart). THE CARD IS WHAT COUNTS. Prove the row's statement (the work); the ties are given (YtejjagiggkgdmaaDoorTie.lean); close each card by the builder's one call (the guide's Derived/Test/ToyasCard.lean, 'card_holds'). Laid BY PROGRAM, IN A SANDBOX (cutbox-door.mjs). By AI agents, Wed Nov 11 2026. No macro, syntax, notation, axiom, sorry.
-/
import Derived.Test.YtejjagiggkgdmaaDoorRows
import GoSem.ClaimSeven
namespace Go.Proofs.YtejjagiggkgdmaaDoor
namespace Rows

/-- THE TIED CARD OF 'vouchsafelaw17.AccountOwn'. -/
def accountOwnCard : Claim7 := { stood := { row := accountOwnRow, standIns := [], harness := (true, "0f7e97e65f9467aa4bf26e21834aff87c7b9c1b66add81e6a7c350abc260f8f9"), looks := false }, kinds := [], alts := [], laidByText := true, laidKinds := [.data, .pinned], laidTests := true, laidLooks := .later }
def AccountOwnCardSaid : Prop := Claim7.holds Tryd.pinned (.plain (OpenSpec.ofChange accountOwnSpec)) accountOwnCard

/-- THE TIED CARD OF 'vouchsafelaw17.AccountGoes'. -/
def accountGoesCard : Claim7 := { stood := { row := accountGoesRow, standIns := [], harness := (true, "0f7e97e65f9467aa4bf26e21834aff87c7b9c1b66add81e6a7c350abc260f8f9"), looks := false }, kinds := [], alts := [], laidByText := true, laidKinds := [.data, .pinned], laidTests := true, laidLooks := .later }
def AccountGoesCardSaid : Prop := Claim7.holds Tryd.pinned (.plain (OpenSpec.ofChange accountGoesSpec)) accountGoesCard

/-- THE SECOND FORM's CARD OF 'vouchsafelaw17.AccountOwn'. -/
def accountOwnUptoCard : Claim7 := { stood := { row := accountOwnUptoRow, standIns := [], harness := (true, "0f7e97e65f9467aa4bf26e21834aff87c7b9c1b66add81e6a7c350abc260f8f9"), looks := false }, kinds := [], alts := [], laidByText := true, laidKinds := [.data, .pinned], laidTests := true, laidLooks := .later }
def AccountOwnUptoCardSaid : Prop := Claim7.holds Tryd.pinned (.plain (OpenSpec.upto accountOwnSpec)) accountOwnUptoCard

/-- THE SECOND FORM's CARD OF 'vouchsafelaw17.AccountGoes'. -/
def accountGoesUptoCard : Claim7 := { stood := { row := accountGoesUptoRow, standIns := [], harness := (true, "0f7e97e65f9467aa4bf26e21834aff87c7b9c1b66add81e6a7c350abc260f8f9"), looks := false }, kinds := [], alts := [], laidByText := true, laidKinds := [.data, .pinned], laidTests := true, laidLooks := .later }
def AccountGoesUptoCardSaid : Prop := Claim7.holds Tryd.pinned (.plain (OpenSpec.upto accountGoesSpec)) accountGoesUptoCard
end Rows
end Go.Proofs.YtejjagiggkgdmaaDoor
