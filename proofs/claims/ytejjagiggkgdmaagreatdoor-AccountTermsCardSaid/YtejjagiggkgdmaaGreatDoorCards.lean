/-
  DERIVED. GIVEN WITH THE SEED: THE CARDS: each row of YtejjagiggkgdmaaGreatDoorRows.lean that lists a variable, with what it lists TIED to the program's text (the seventh form; the later family's looks); each row that meets fmt, with fmt's text TOLD by the authors' own Lean function (tested against real Go, not proved from fmt's source: count such statements apart). THE CARD IS WHAT COUNTS. Prove the row's statement (the work); the ties are given (YtejjagiggkgdmaaGreatDoorTie.lean); close each card by the builder's one call (the guide's Derived/Test/ToyasCard.lean, 'card_holds'). Laid BY PROGRAM, IN A SANDBOX (cutbox-door.mjs). By AI agents, Wed Nov 11 2026. No macro, syntax, notation, axiom, sorry.
-/
import Derived.Test.YtejjagiggkgdmaaGreatDoorRows
import GoSem.ClaimSeven
namespace Go.Proofs.YtejjagiggkgdmaaGreatDoor
namespace Rows

/-- THE TIED CARD OF 'vouchsafelaw17.AccountTerms'. -/
def accountTermsCard : Claim7 := { stood := { row := accountTermsRow, standIns := [], harness := (true, "f7997e894253789490aba42dcead056852cec9687b29d9619193ffbf7f02626b"), looks := false }, kinds := [], alts := [], laidByText := true, laidKinds := [.data, .pinned], laidTests := true, laidLooks := .later }
def AccountTermsCardSaid : Prop := Claim7.holds Tryz.pinned (.plain (OpenSpec.ofChange accountTermsSpec)) accountTermsCard

/-- THE TIED CARD OF 'vouchsafelaw17.AccountUsers'. -/
def accountUsersCard : Claim7 := { stood := { row := accountUsersRow, standIns := [], harness := (true, "f7997e894253789490aba42dcead056852cec9687b29d9619193ffbf7f02626b"), looks := false }, kinds := [], alts := [], laidByText := true, laidKinds := [.data, .pinned], laidTests := true, laidLooks := .later }
def AccountUsersCardSaid : Prop := Claim7.holds Tryz.pinned (.plain (OpenSpec.ofChange accountUsersSpec)) accountUsersCard

/-- THE SECOND FORM's CARD OF 'vouchsafelaw17.AccountTerms'. -/
def accountTermsUptoCard : Claim7 := { stood := { row := accountTermsUptoRow, standIns := [], harness := (true, "f7997e894253789490aba42dcead056852cec9687b29d9619193ffbf7f02626b"), looks := false }, kinds := [], alts := [], laidByText := true, laidKinds := [.data, .pinned], laidTests := true, laidLooks := .later }
def AccountTermsUptoCardSaid : Prop := Claim7.holds Tryz.pinned (.plain (OpenSpec.upto accountTermsSpec)) accountTermsUptoCard

/-- THE SECOND FORM's CARD OF 'vouchsafelaw17.AccountUsers'. -/
def accountUsersUptoCard : Claim7 := { stood := { row := accountUsersUptoRow, standIns := [], harness := (true, "f7997e894253789490aba42dcead056852cec9687b29d9619193ffbf7f02626b"), looks := false }, kinds := [], alts := [], laidByText := true, laidKinds := [.data, .pinned], laidTests := true, laidLooks := .later }
def AccountUsersUptoCardSaid : Prop := Claim7.holds Tryz.pinned (.plain (OpenSpec.upto accountUsersSpec)) accountUsersUptoCard
end Rows
end Go.Proofs.YtejjagiggkgdmaaGreatDoor
