/-
  NARROWER THAN 'FOR EVERY INPUT', by the rows' own cells (each row's printed sentence says how): AddressEmails: laid · AddressPhones: laid · AddressTrunk: laid · AddressOrder: laid · AddressOne: laid · AddressMakes: laid.
  DERIVED. THE GIVEN ROWS OF THIS SEAT. 6 by the template 'for every input the law returns true; each argument reads behind the call as it read before'; 0 by the template 'total and deterministic' (their statements: YtcellhafdgmkjaaDoorTotals.lean).
  GIVEN WITH THE SEED: the statements are not yours to turn. If you find one false, say at which input.
  Laid BY PROGRAM, IN A SANDBOX (cutbox-rows.mjs): the forced cells as the released guide's own fill.sh prints them over the translation 9a93ad027e10f94f… (all of the seat's roots in one cut). By AI agents, Wed Nov 11 2026. No macro, syntax, notation, axiom, sorry.
-/
import Derived.Test.YtcellhafdgmkjaaDoorChecked
import GoSem.PinnedTables
import GoSem.Claim
import GoSem.ClaimJoined
import GoSem.ClaimMapViews
import Derived.JoinedTies
import Derived.KernelRfl
namespace Go.Proofs.YtcellhafdgmkjaaDoor
/- THE CELL 'sum', in the pinned program and in every row, IS THE sha256 OF THE DUMP (.gsa) THAT YtcellhafdgmkjaaDoorProg.lean LOADS. Nothing in Lean hashes anything: it is a label: what it is worth is what the hold of that sum in a sandbox is worth. -/
noncomputable def Tryd.pinned : Pinned := { name := "ytcellhafdgmkjaadoor", sum := "9a93ad027e10f94f2b56960e6aa15098e402153c5dc8cb1470c75ffa1098fe00", checked := Tryd.checked }
namespace Rows
def none {H : Type} : Left H := { results := [], args := [] }

/- WHAT THE LISTED PACKAGE-LEVEL VARIABLES READ AS WHEN THE CALL BEGINS. Each datum BY PROGRAM (the guide's laid-datum.mjs) off the statement by which the dump's own 'gosem.cut.vars' lays the variable. In a bare row this is a premise. The card (YtcellhafdgmkjaaDoorCards.lean) ties it to the program's text. -/
def laid_unicode_utf8_acceptRanges {H : Type} : DataW H := .agg [.agg [.lit (.int .u8 128), .lit (.int .u8 191)], .agg [.lit (.int .u8 160), .lit (.int .u8 191)], .agg [.lit (.int .u8 128), .lit (.int .u8 159)], .agg [.lit (.int .u8 144), .lit (.int .u8 191)], .agg [.lit (.int .u8 128), .lit (.int .u8 143)], .agg [.lit (.int .u8 0), .lit (.int .u8 0)], .agg [.lit (.int .u8 0), .lit (.int .u8 0)], .agg [.lit (.int .u8 0), .lit (.int .u8 0)], .agg [.lit (.int .u8 0), .lit (.int .u8 0)], .agg [.lit (.int .u8 0), .lit (.int .u8 0)], .agg [.lit (.int .u8 0), .lit (.int .u8 0)], .agg [.lit (.int .u8 0), .lit (.int .u8 0)], .agg [.lit (.int .u8 0), .lit (.int .u8 0)], .agg [.lit (.int .u8 0), .lit (.int .u8 0)], .agg [.lit (.int .u8 0), .lit (.int .u8 0)], .agg [.lit (.int .u8 0), .lit (.int .u8 0)]]
/-- One of Go's own tables, pinned by name: the form's constant. -/
def laid_unicode_utf8_first : DataW Unit := Go.Pinned.utf8First

/-- 'vouchsafelaw06.AddressEmails': WHATEVER THE INPUT: true; the input reads as it did. -/
def addressEmailsSpec : ChangeSpec := { name := "addressEmails", fn := fun _ => fun
  | [d] => { results := [.lit (.bool true)], args := [d] }
  | _ => none }
def addressEmailsRow : OpenClaim := { program := "ytcellhafdgmkjaadoor", sum := "9a93ad027e10f94f2b56960e6aa15098e402153c5dc8cb1470c75ffa1098fe00", func := "vouchsafe/vouchsafelaw06.AddressEmails", spec := "addressEmails", inPlace := ["internal/bytealg.IndexByteString", "internal/bytealg.IndexString", "internal/abi.NoEscape"], named := ["unicode/utf8.first", "unicode/utf8.acceptRanges", "internal/bytealg.MaxLen"], apart := false, laid := [("unicode/utf8.acceptRanges", laid_unicode_utf8_acceptRanges), ("unicode/utf8.first", laid_unicode_utf8_first)] }
def AddressEmailsSaid : Prop := addressEmailsRow.holds Tryd.pinned (OpenSpec.ofChange addressEmailsSpec)

/-- ITS FALSE NEIGHBOUR: 'it returns false'. Refute it at one input. -/
def addressEmailsWrong : ChangeSpec := { name := "addressEmails", fn := fun _ => fun
  | [d] => { results := [.lit (.bool false)], args := [d] }
  | _ => none }
def AddressEmailsWrongFalsely : Prop := addressEmailsRow.holds Tryd.pinned (OpenSpec.ofChange addressEmailsWrong)

/-- 'vouchsafelaw06.AddressPhones': WHATEVER THE INPUT: true; the input reads as it did. -/
def addressPhonesSpec : ChangeSpec := { name := "addressPhones", fn := fun _ => fun
  | [d1, d2] => { results := [.lit (.bool true)], args := [d1, d2] }
  | _ => none }
def addressPhonesRow : OpenClaim := { program := "ytcellhafdgmkjaadoor", sum := "9a93ad027e10f94f2b56960e6aa15098e402153c5dc8cb1470c75ffa1098fe00", func := "vouchsafe/vouchsafelaw06.AddressPhones", spec := "addressPhones", inPlace := ["internal/bytealg.IndexByteString", "internal/bytealg.IndexString", "internal/abi.NoEscape"], named := ["unicode/utf8.first", "unicode/utf8.acceptRanges", "internal/bytealg.MaxLen"], apart := false, laid := [("unicode/utf8.acceptRanges", laid_unicode_utf8_acceptRanges), ("unicode/utf8.first", laid_unicode_utf8_first)] }
def AddressPhonesSaid : Prop := addressPhonesRow.holds Tryd.pinned (OpenSpec.ofChange addressPhonesSpec)

/-- ITS FALSE NEIGHBOUR: 'it returns false'. Refute it at one input. -/
def addressPhonesWrong : ChangeSpec := { name := "addressPhones", fn := fun _ => fun
  | [d1, d2] => { results := [.lit (.bool false)], args := [d1, d2] }
  | _ => none }
def AddressPhonesWrongFalsely : Prop := addressPhonesRow.holds Tryd.pinned (OpenSpec.ofChange addressPhonesWrong)

/-- 'vouchsafelaw06.AddressTrunk': WHATEVER THE INPUT: true; the input reads as it did. -/
def addressTrunkSpec : ChangeSpec := { name := "addressTrunk", fn := fun _ => fun
  | [d] => { results := [.lit (.bool true)], args := [d] }
  | _ => none }
def addressTrunkRow : OpenClaim := { program := "ytcellhafdgmkjaadoor", sum := "9a93ad027e10f94f2b56960e6aa15098e402153c5dc8cb1470c75ffa1098fe00", func := "vouchsafe/vouchsafelaw06.AddressTrunk", spec := "addressTrunk", inPlace := ["internal/bytealg.IndexByteString", "internal/bytealg.IndexString", "internal/abi.NoEscape"], named := ["unicode/utf8.first", "unicode/utf8.acceptRanges", "internal/bytealg.MaxLen"], apart := false, laid := [("unicode/utf8.acceptRanges", laid_unicode_utf8_acceptRanges), ("unicode/utf8.first", laid_unicode_utf8_first)] }
def AddressTrunkSaid : Prop := addressTrunkRow.holds Tryd.pinned (OpenSpec.ofChange addressTrunkSpec)

/-- ITS FALSE NEIGHBOUR: 'it returns false'. Refute it at one input. -/
def addressTrunkWrong : ChangeSpec := { name := "addressTrunk", fn := fun _ => fun
  | [d] => { results := [.lit (.bool false)], args := [d] }
  | _ => none }
def AddressTrunkWrongFalsely : Prop := addressTrunkRow.holds Tryd.pinned (OpenSpec.ofChange addressTrunkWrong)

/-- 'vouchsafelaw06.AddressOrder': WHATEVER THE INPUT: true; the input reads as it did. -/
def addressOrderSpec : ChangeSpec := { name := "addressOrder", fn := fun _ => fun
  | [d1, d2, d3] => { results := [.lit (.bool true)], args := [d1, d2, d3] }
  | _ => none }
def addressOrderRow : OpenClaim := { program := "ytcellhafdgmkjaadoor", sum := "9a93ad027e10f94f2b56960e6aa15098e402153c5dc8cb1470c75ffa1098fe00", func := "vouchsafe/vouchsafelaw06.AddressOrder", spec := "addressOrder", inPlace := ["internal/bytealg.IndexByteString", "internal/bytealg.IndexString", "internal/abi.NoEscape"], named := ["unicode/utf8.first", "unicode/utf8.acceptRanges", "internal/bytealg.MaxLen"], apart := false, laid := [("unicode/utf8.acceptRanges", laid_unicode_utf8_acceptRanges), ("unicode/utf8.first", laid_unicode_utf8_first)] }
def AddressOrderSaid : Prop := addressOrderRow.holds Tryd.pinned (OpenSpec.ofChange addressOrderSpec)

/-- ITS FALSE NEIGHBOUR: 'it returns false'. Refute it at one input. -/
def addressOrderWrong : ChangeSpec := { name := "addressOrder", fn := fun _ => fun
  | [d1, d2, d3] => { results := [.lit (.bool false)], args := [d1, d2, d3] }
  | _ => none }
def AddressOrderWrongFalsely : Prop := addressOrderRow.holds Tryd.pinned (OpenSpec.ofChange addressOrderWrong)

/-- 'vouchsafelaw06.AddressOne': WHATEVER THE INPUT: true; the input reads as it did. -/
def addressOneSpec : ChangeSpec := { name := "addressOne", fn := fun _ => fun
  | [d1, d2] => { results := [.lit (.bool true)], args := [d1, d2] }
  | _ => none }
def addressOneRow : OpenClaim := { program := "ytcellhafdgmkjaadoor", sum := "9a93ad027e10f94f2b56960e6aa15098e402153c5dc8cb1470c75ffa1098fe00", func := "vouchsafe/vouchsafelaw06.AddressOne", spec := "addressOne", inPlace := ["internal/bytealg.IndexByteString", "internal/bytealg.IndexString", "internal/abi.NoEscape"], named := ["unicode/utf8.first", "unicode/utf8.acceptRanges", "internal/bytealg.MaxLen"], apart := false, laid := [("unicode/utf8.acceptRanges", laid_unicode_utf8_acceptRanges), ("unicode/utf8.first", laid_unicode_utf8_first)] }
def AddressOneSaid : Prop := addressOneRow.holds Tryd.pinned (OpenSpec.ofChange addressOneSpec)

/-- ITS FALSE NEIGHBOUR: 'it returns false'. Refute it at one input. -/
def addressOneWrong : ChangeSpec := { name := "addressOne", fn := fun _ => fun
  | [d1, d2] => { results := [.lit (.bool false)], args := [d1, d2] }
  | _ => none }
def AddressOneWrongFalsely : Prop := addressOneRow.holds Tryd.pinned (OpenSpec.ofChange addressOneWrong)

/-- 'vouchsafelaw06.AddressMakes': WHATEVER THE INPUT: true; the input reads as it did. -/
def addressMakesSpec : ChangeSpec := { name := "addressMakes", fn := fun _ => fun
  | [d1, d2] => { results := [.lit (.bool true)], args := [d1, d2] }
  | _ => none }
def addressMakesRow : OpenClaim := { program := "ytcellhafdgmkjaadoor", sum := "9a93ad027e10f94f2b56960e6aa15098e402153c5dc8cb1470c75ffa1098fe00", func := "vouchsafe/vouchsafelaw06.AddressMakes", spec := "addressMakes", inPlace := ["internal/bytealg.IndexByteString", "internal/bytealg.IndexString", "internal/abi.NoEscape"], named := ["unicode/utf8.first", "unicode/utf8.acceptRanges", "internal/bytealg.MaxLen"], apart := false, laid := [("unicode/utf8.acceptRanges", laid_unicode_utf8_acceptRanges), ("unicode/utf8.first", laid_unicode_utf8_first)] }
def AddressMakesSaid : Prop := addressMakesRow.holds Tryd.pinned (OpenSpec.ofChange addressMakesSpec)

/-- ITS FALSE NEIGHBOUR: 'it returns false'. Refute it at one input. -/
def addressMakesWrong : ChangeSpec := { name := "addressMakes", fn := fun _ => fun
  | [d1, d2] => { results := [.lit (.bool false)], args := [d1, d2] }
  | _ => none }
def AddressMakesWrongFalsely : Prop := addressMakesRow.holds Tryd.pinned (OpenSpec.ofChange addressMakesWrong)

/- THE SECOND FORM. 'bulk': how many values and letters a reading holds, each counted each time it is reached (what is shared counts as often as it is met; a slice's spare places count too). A statement '..UptoSaid' is the law's where the arguments, and the package variables that the reading takes, are together of bulk at most 1048576: NARROWER than '..Said'. Prove '..Said' where nothing that the law and all that it calls make is longer than what came in: it says more and counts as full. Else prove '..UptoSaid'. A law counts once. -/
mutual
def uptoBulk {H : Type} : DataW H → Nat
  | .lit (.string bytes) => bytes.length + 1
  | .lit _ => 1
  | .nil => 1
  | .ptr d => uptoBulk d + 1
  | .slice elems spare => uptoBulkAll elems + uptoBulkAll spare + 1
  | .agg parts => uptoBulkAll parts + 1
  | .iface _ d => uptoBulk d + 1
  | .map entries => uptoBulkEntries entries + 1
  | .held _ => 1
def uptoBulkAll {H : Type} : List (DataW H) → Nat
  | [] => 0
  | d :: r => uptoBulk d + uptoBulkAll r
def uptoBulkEntries {H : Type} : List (Lit × DataW H) → Nat
  | [] => 0
  | x :: r => uptoBulkEntry x + uptoBulkEntries r
def uptoBulkEntry {H : Type} : Lit × DataW H → Nat
  | (.string bytes, d) => bytes.length + uptoBulk d + 1
  | (_, d) => uptoBulk d + 1
 end
def uptoSmall : (H : Type) → List (DataW H) → Bool := fun _ ds => decide (uptoBulkAll ds ≤ 1048576)
def OpenSpec.upto (s : _root_.Go.ChangeSpec) : _root_.Go.OpenSpec := { _root_.Go.OpenSpec.ofChange s with cond := some uptoSmall }

/-- 'vouchsafelaw06.AddressEmails', WHERE WHAT IT READS IS OF BULK AT MOST 1048576: true; the input reads as it did. -/
def addressEmailsUptoRow : OpenClaim := { program := "ytcellhafdgmkjaadoor", sum := "9a93ad027e10f94f2b56960e6aa15098e402153c5dc8cb1470c75ffa1098fe00", func := "vouchsafe/vouchsafelaw06.AddressEmails", spec := "addressEmails", inPlace := ["internal/bytealg.IndexByteString", "internal/bytealg.IndexString", "internal/abi.NoEscape"], named := ["unicode/utf8.first", "unicode/utf8.acceptRanges", "internal/bytealg.MaxLen"], apart := false, laid := [("unicode/utf8.acceptRanges", laid_unicode_utf8_acceptRanges), ("unicode/utf8.first", laid_unicode_utf8_first)], narrowed := true }
def AddressEmailsUptoSaid : Prop := addressEmailsUptoRow.holds Tryd.pinned (OpenSpec.upto addressEmailsSpec)

/-- 'vouchsafelaw06.AddressPhones', WHERE WHAT IT READS IS OF BULK AT MOST 1048576: true; the input reads as it did. -/
def addressPhonesUptoRow : OpenClaim := { program := "ytcellhafdgmkjaadoor", sum := "9a93ad027e10f94f2b56960e6aa15098e402153c5dc8cb1470c75ffa1098fe00", func := "vouchsafe/vouchsafelaw06.AddressPhones", spec := "addressPhones", inPlace := ["internal/bytealg.IndexByteString", "internal/bytealg.IndexString", "internal/abi.NoEscape"], named := ["unicode/utf8.first", "unicode/utf8.acceptRanges", "internal/bytealg.MaxLen"], apart := false, laid := [("unicode/utf8.acceptRanges", laid_unicode_utf8_acceptRanges), ("unicode/utf8.first", laid_unicode_utf8_first)], narrowed := true }
def AddressPhonesUptoSaid : Prop := addressPhonesUptoRow.holds Tryd.pinned (OpenSpec.upto addressPhonesSpec)

/-- 'vouchsafelaw06.AddressTrunk', WHERE WHAT IT READS IS OF BULK AT MOST 1048576: true; the input reads as it did. -/
def addressTrunkUptoRow : OpenClaim := { program := "ytcellhafdgmkjaadoor", sum := "9a93ad027e10f94f2b56960e6aa15098e402153c5dc8cb1470c75ffa1098fe00", func := "vouchsafe/vouchsafelaw06.AddressTrunk", spec := "addressTrunk", inPlace := ["internal/bytealg.IndexByteString", "internal/bytealg.IndexString", "internal/abi.NoEscape"], named := ["unicode/utf8.first", "unicode/utf8.acceptRanges", "internal/bytealg.MaxLen"], apart := false, laid := [("unicode/utf8.acceptRanges", laid_unicode_utf8_acceptRanges), ("unicode/utf8.first", laid_unicode_utf8_first)], narrowed := true }
def AddressTrunkUptoSaid : Prop := addressTrunkUptoRow.holds Tryd.pinned (OpenSpec.upto addressTrunkSpec)

/-- 'vouchsafelaw06.AddressOrder', WHERE WHAT IT READS IS OF BULK AT MOST 1048576: true; the input reads as it did. -/
def addressOrderUptoRow : OpenClaim := { program := "ytcellhafdgmkjaadoor", sum := "9a93ad027e10f94f2b56960e6aa15098e402153c5dc8cb1470c75ffa1098fe00", func := "vouchsafe/vouchsafelaw06.AddressOrder", spec := "addressOrder", inPlace := ["internal/bytealg.IndexByteString", "internal/bytealg.IndexString", "internal/abi.NoEscape"], named := ["unicode/utf8.first", "unicode/utf8.acceptRanges", "internal/bytealg.MaxLen"], apart := false, laid := [("unicode/utf8.acceptRanges", laid_unicode_utf8_acceptRanges), ("unicode/utf8.first", laid_unicode_utf8_first)], narrowed := true }
def AddressOrderUptoSaid : Prop := addressOrderUptoRow.holds Tryd.pinned (OpenSpec.upto addressOrderSpec)

/-- 'vouchsafelaw06.AddressOne', WHERE WHAT IT READS IS OF BULK AT MOST 1048576: true; the input reads as it did. -/
def addressOneUptoRow : OpenClaim := { program := "ytcellhafdgmkjaadoor", sum := "9a93ad027e10f94f2b56960e6aa15098e402153c5dc8cb1470c75ffa1098fe00", func := "vouchsafe/vouchsafelaw06.AddressOne", spec := "addressOne", inPlace := ["internal/bytealg.IndexByteString", "internal/bytealg.IndexString", "internal/abi.NoEscape"], named := ["unicode/utf8.first", "unicode/utf8.acceptRanges", "internal/bytealg.MaxLen"], apart := false, laid := [("unicode/utf8.acceptRanges", laid_unicode_utf8_acceptRanges), ("unicode/utf8.first", laid_unicode_utf8_first)], narrowed := true }
def AddressOneUptoSaid : Prop := addressOneUptoRow.holds Tryd.pinned (OpenSpec.upto addressOneSpec)

/-- 'vouchsafelaw06.AddressMakes', WHERE WHAT IT READS IS OF BULK AT MOST 1048576: true; the input reads as it did. -/
def addressMakesUptoRow : OpenClaim := { program := "ytcellhafdgmkjaadoor", sum := "9a93ad027e10f94f2b56960e6aa15098e402153c5dc8cb1470c75ffa1098fe00", func := "vouchsafe/vouchsafelaw06.AddressMakes", spec := "addressMakes", inPlace := ["internal/bytealg.IndexByteString", "internal/bytealg.IndexString", "internal/abi.NoEscape"], named := ["unicode/utf8.first", "unicode/utf8.acceptRanges", "internal/bytealg.MaxLen"], apart := false, laid := [("unicode/utf8.acceptRanges", laid_unicode_utf8_acceptRanges), ("unicode/utf8.first", laid_unicode_utf8_first)], narrowed := true }
def AddressMakesUptoSaid : Prop := addressMakesUptoRow.holds Tryd.pinned (OpenSpec.upto addressMakesSpec)

end Rows
end Go.Proofs.YtcellhafdgmkjaaDoor
