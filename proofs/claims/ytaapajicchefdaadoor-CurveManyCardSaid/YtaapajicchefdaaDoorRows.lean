/-
  NARROWER THAN 'FOR EVERY INPUT', by the rows' own cells (each row's printed sentence says how): CurveOrder: laid · CurveGroup: laid · CurveNegs: laid · CurveTimes: laid · CurveMixes: laid · CurveAdds: laid · CurveMany: laid.
  DERIVED. THE GIVEN ROWS OF THIS SEAT. 7 by the template 'for every input the law returns true; each argument reads behind the call as it read before'; 0 by the template 'total and deterministic' (their statements: YtaapajicchefdaaDoorTotals.lean).
  GIVEN WITH THE SEED: the statements are not yours to turn. If you find one false, say at which input.
  Laid BY PROGRAM, IN A SANDBOX (cutbox-rows.mjs): the forced cells as the released guide's own fill.sh prints them over the translation 61d2dcf87c9140fb… (all of the seat's roots in one cut). By AI agents, Wed Nov 11 2026. No macro, syntax, notation, axiom, sorry.
-/
import Derived.Test.YtaapajicchefdaaDoorChecked
import GoSem.Claim
import GoSem.ClaimJoined
import GoSem.ClaimMapViews
import Derived.JoinedTies
import Derived.KernelRfl
namespace Go.Proofs.YtaapajicchefdaaDoor
/- THE CELL 'sum', in the pinned program and in every row, IS THE sha256 OF THE DUMP (.gsa) THAT YtaapajicchefdaaDoorProg.lean LOADS. Nothing in Lean hashes anything: it is a label: what it is worth is what the hold of that sum in a sandbox is worth. -/
noncomputable def Tryd.pinned : Pinned := { name := "ytaapajicchefdaadoor", sum := "61d2dcf87c9140fbe4ae1a6b8520e35e90bab3f139f93cf02bf13625e609b02a", checked := Tryd.checked }
namespace Rows
def none {H : Type} : Left H := { results := [], args := [] }

/- WHAT THE LISTED PACKAGE-LEVEL VARIABLES READ AS WHEN THE CALL BEGINS. Each datum BY PROGRAM (the guide's laid-datum.mjs) off the statement by which the dump's own 'gosem.cut.vars' lays the variable. In a bare row this is a premise. The card (YtaapajicchefdaaDoorCards.lean) ties it to the program's text. -/
def laid_vouchsafe_field_One {H : Type} : DataW H := .agg [.lit (.int .u64 1), .lit (.int .u64 0), .lit (.int .u64 0), .lit (.int .u64 0), .lit (.int .u64 0)]
def laid_vouchsafe_curve_once {H : Type} : DataW H := .agg [.lit (.int .u64 929955233495203), .lit (.int .u64 466365720129213), .lit (.int .u64 1662059464998953), .lit (.int .u64 2033849074728123), .lit (.int .u64 1442794654840575)]
def laid_vouchsafe_scalar_order {H : Type} : DataW H := .agg [.lit (.int .u64 6346243789798364141), .lit (.int .u64 1503914060200516822), .lit (.int .u64 0), .lit (.int .u64 1152921504606846976)]
def laid_vouchsafe_scalar_tail {H : Type} : DataW H := .agg [.lit (.int .u64 6346243789798364141), .lit (.int .u64 1503914060200516822)]

/-- 'vouchsafelaw10.CurveOrder': WHATEVER THE INPUT: true; the input reads as it did. -/
def curveOrderSpec : ChangeSpec := { name := "curveOrder", fn := fun _ => fun
  | [d] => { results := [.lit (.bool true)], args := [d] }
  | _ => none }
def curveOrderRow : OpenClaim := { program := "ytaapajicchefdaadoor", sum := "61d2dcf87c9140fbe4ae1a6b8520e35e90bab3f139f93cf02bf13625e609b02a", func := "vouchsafe/vouchsafelaw10.CurveOrder", spec := "curveOrder", inPlace := ["math/bits.Add64"], unfollowed := true, recurses := true, named := ["vouchsafe/field.One", "vouchsafe/curve.once"], apart := false, laid := [("vouchsafe/field.One", laid_vouchsafe_field_One), ("vouchsafe/curve.once", laid_vouchsafe_curve_once)] }
def CurveOrderSaid : Prop := curveOrderRow.holds Tryd.pinned (OpenSpec.ofChange curveOrderSpec)

/-- ITS FALSE NEIGHBOUR: 'it returns false'. Refute it at one input. -/
def curveOrderWrong : ChangeSpec := { name := "curveOrder", fn := fun _ => fun
  | [d] => { results := [.lit (.bool false)], args := [d] }
  | _ => none }
def CurveOrderWrongFalsely : Prop := curveOrderRow.holds Tryd.pinned (OpenSpec.ofChange curveOrderWrong)

/-- 'vouchsafelaw10.CurveGroup': WHATEVER THE INPUT: true; the input reads as it did. -/
def curveGroupSpec : ChangeSpec := { name := "curveGroup", fn := fun _ => fun
  | [d1, d2, d3] => { results := [.lit (.bool true)], args := [d1, d2, d3] }
  | _ => none }
def curveGroupRow : OpenClaim := { program := "ytaapajicchefdaadoor", sum := "61d2dcf87c9140fbe4ae1a6b8520e35e90bab3f139f93cf02bf13625e609b02a", func := "vouchsafe/vouchsafelaw10.CurveGroup", spec := "curveGroup", inPlace := ["math/bits.Add64"], unfollowed := true, recurses := true, named := ["vouchsafe/field.One", "vouchsafe/curve.once"], apart := false, laid := [("vouchsafe/field.One", laid_vouchsafe_field_One), ("vouchsafe/curve.once", laid_vouchsafe_curve_once)] }
def CurveGroupSaid : Prop := curveGroupRow.holds Tryd.pinned (OpenSpec.ofChange curveGroupSpec)

/-- ITS FALSE NEIGHBOUR: 'it returns false'. Refute it at one input. -/
def curveGroupWrong : ChangeSpec := { name := "curveGroup", fn := fun _ => fun
  | [d1, d2, d3] => { results := [.lit (.bool false)], args := [d1, d2, d3] }
  | _ => none }
def CurveGroupWrongFalsely : Prop := curveGroupRow.holds Tryd.pinned (OpenSpec.ofChange curveGroupWrong)

/-- 'vouchsafelaw10.CurveNegs': WHATEVER THE INPUT: true; the input reads as it did. -/
def curveNegsSpec : ChangeSpec := { name := "curveNegs", fn := fun _ => fun
  | [d1, d2] => { results := [.lit (.bool true)], args := [d1, d2] }
  | _ => none }
def curveNegsRow : OpenClaim := { program := "ytaapajicchefdaadoor", sum := "61d2dcf87c9140fbe4ae1a6b8520e35e90bab3f139f93cf02bf13625e609b02a", func := "vouchsafe/vouchsafelaw10.CurveNegs", spec := "curveNegs", inPlace := ["math/bits.Add64"], unfollowed := true, recurses := true, named := ["vouchsafe/field.One", "vouchsafe/curve.once"], apart := false, laid := [("vouchsafe/field.One", laid_vouchsafe_field_One), ("vouchsafe/curve.once", laid_vouchsafe_curve_once)] }
def CurveNegsSaid : Prop := curveNegsRow.holds Tryd.pinned (OpenSpec.ofChange curveNegsSpec)

/-- ITS FALSE NEIGHBOUR: 'it returns false'. Refute it at one input. -/
def curveNegsWrong : ChangeSpec := { name := "curveNegs", fn := fun _ => fun
  | [d1, d2] => { results := [.lit (.bool false)], args := [d1, d2] }
  | _ => none }
def CurveNegsWrongFalsely : Prop := curveNegsRow.holds Tryd.pinned (OpenSpec.ofChange curveNegsWrong)

/-- 'vouchsafelaw10.CurveTimes': WHATEVER THE INPUT: true; the input reads as it did. -/
def curveTimesSpec : ChangeSpec := { name := "curveTimes", fn := fun _ => fun
  | [d1, d2] => { results := [.lit (.bool true)], args := [d1, d2] }
  | _ => none }
def curveTimesRow : OpenClaim := { program := "ytaapajicchefdaadoor", sum := "61d2dcf87c9140fbe4ae1a6b8520e35e90bab3f139f93cf02bf13625e609b02a", func := "vouchsafe/vouchsafelaw10.CurveTimes", spec := "curveTimes", inPlace := ["math/bits.Add64", "math/bits.Sub64"], unfollowed := true, recurses := true, named := ["vouchsafe/field.One", "vouchsafe/curve.once"], apart := false, laid := [("vouchsafe/field.One", laid_vouchsafe_field_One), ("vouchsafe/curve.once", laid_vouchsafe_curve_once)] }
def CurveTimesSaid : Prop := curveTimesRow.holds Tryd.pinned (OpenSpec.ofChange curveTimesSpec)

/-- ITS FALSE NEIGHBOUR: 'it returns false'. Refute it at one input. -/
def curveTimesWrong : ChangeSpec := { name := "curveTimes", fn := fun _ => fun
  | [d1, d2] => { results := [.lit (.bool false)], args := [d1, d2] }
  | _ => none }
def CurveTimesWrongFalsely : Prop := curveTimesRow.holds Tryd.pinned (OpenSpec.ofChange curveTimesWrong)

/-- 'vouchsafelaw10.CurveMixes': WHATEVER THE INPUT: true; the input reads as it did. -/
def curveMixesSpec : ChangeSpec := { name := "curveMixes", fn := fun _ => fun
  | [d1, d2, d3] => { results := [.lit (.bool true)], args := [d1, d2, d3] }
  | _ => none }
def curveMixesRow : OpenClaim := { program := "ytaapajicchefdaadoor", sum := "61d2dcf87c9140fbe4ae1a6b8520e35e90bab3f139f93cf02bf13625e609b02a", func := "vouchsafe/vouchsafelaw10.CurveMixes", spec := "curveMixes", inPlace := ["math/bits.Add64", "math/bits.Sub64"], unfollowed := true, recurses := true, named := ["vouchsafe/field.One", "vouchsafe/curve.once"], apart := false, laid := [("vouchsafe/field.One", laid_vouchsafe_field_One), ("vouchsafe/curve.once", laid_vouchsafe_curve_once)] }
def CurveMixesSaid : Prop := curveMixesRow.holds Tryd.pinned (OpenSpec.ofChange curveMixesSpec)

/-- ITS FALSE NEIGHBOUR: 'it returns false'. Refute it at one input. -/
def curveMixesWrong : ChangeSpec := { name := "curveMixes", fn := fun _ => fun
  | [d1, d2, d3] => { results := [.lit (.bool false)], args := [d1, d2, d3] }
  | _ => none }
def CurveMixesWrongFalsely : Prop := curveMixesRow.holds Tryd.pinned (OpenSpec.ofChange curveMixesWrong)

/-- 'vouchsafelaw10.CurveAdds': WHATEVER THE INPUT: true; the input reads as it did. -/
def curveAddsSpec : ChangeSpec := { name := "curveAdds", fn := fun _ => fun
  | [d1, d2] => { results := [.lit (.bool true)], args := [d1, d2] }
  | _ => none }
def curveAddsRow : OpenClaim := { program := "ytaapajicchefdaadoor", sum := "61d2dcf87c9140fbe4ae1a6b8520e35e90bab3f139f93cf02bf13625e609b02a", func := "vouchsafe/vouchsafelaw10.CurveAdds", spec := "curveAdds", inPlace := ["math/bits.Add64", "math/bits.Sub64"], unfollowed := true, recurses := true, named := ["vouchsafe/field.One", "vouchsafe/curve.once"], apart := false, laid := [("vouchsafe/field.One", laid_vouchsafe_field_One), ("vouchsafe/curve.once", laid_vouchsafe_curve_once)] }
def CurveAddsSaid : Prop := curveAddsRow.holds Tryd.pinned (OpenSpec.ofChange curveAddsSpec)

/-- ITS FALSE NEIGHBOUR: 'it returns false'. Refute it at one input. -/
def curveAddsWrong : ChangeSpec := { name := "curveAdds", fn := fun _ => fun
  | [d1, d2] => { results := [.lit (.bool false)], args := [d1, d2] }
  | _ => none }
def CurveAddsWrongFalsely : Prop := curveAddsRow.holds Tryd.pinned (OpenSpec.ofChange curveAddsWrong)

/-- 'vouchsafelaw10.CurveMany': WHATEVER THE INPUT: true; the input reads as it did. -/
def curveManySpec : ChangeSpec := { name := "curveMany", fn := fun _ => fun
  | [d1, d2] => { results := [.lit (.bool true)], args := [d1, d2] }
  | _ => none }
def curveManyRow : OpenClaim := { program := "ytaapajicchefdaadoor", sum := "61d2dcf87c9140fbe4ae1a6b8520e35e90bab3f139f93cf02bf13625e609b02a", func := "vouchsafe/vouchsafelaw10.CurveMany", spec := "curveMany", inPlace := ["math/bits.Add64", "math/bits.Sub64"], unfollowed := true, recurses := true, named := ["vouchsafe/field.One", "vouchsafe/curve.once", "vouchsafe/scalar.order", "vouchsafe/scalar.tail"], apart := false, laid := [("vouchsafe/field.One", laid_vouchsafe_field_One), ("vouchsafe/curve.once", laid_vouchsafe_curve_once), ("vouchsafe/scalar.order", laid_vouchsafe_scalar_order), ("vouchsafe/scalar.tail", laid_vouchsafe_scalar_tail)] }
def CurveManySaid : Prop := curveManyRow.holds Tryd.pinned (OpenSpec.ofChange curveManySpec)

/-- ITS FALSE NEIGHBOUR: 'it returns false'. Refute it at one input. -/
def curveManyWrong : ChangeSpec := { name := "curveMany", fn := fun _ => fun
  | [d1, d2] => { results := [.lit (.bool false)], args := [d1, d2] }
  | _ => none }
def CurveManyWrongFalsely : Prop := curveManyRow.holds Tryd.pinned (OpenSpec.ofChange curveManyWrong)

/- THE SECOND FORM. 'bulk': how many values and letters a reading holds, each counted each time it is reached (what is shared counts as often as it is met; a slice's spare places count too). A statement '..UptoSaid' is the law's where the arguments, and the package variables that the reading takes, are together of bulk at most 1048576: NARROWER than '..Said'. Prove '..Said' where nothing that the law and all that it calls make is longer than what came in: it says more and counts as full. Else prove '..UptoSaid'. A law counts once. -/
mutual
def uptoBulk {H : Type} : DataW H → Nat
  | .lit (.string bytes) => bytes.length + 1
  | .lit _ => 1
  | .nil => 1
  | .ptr d => uptoBulk d + 1
  | .slice elems spare => uptoBulkAll elems + uptoBulkAll spare + 1
  | .agg parts => uptoBulkAll parts + 1
  | .iface _ d => uptoBulk d + 1
  | .map entries => uptoBulkEntries entries + 1
  | .held _ => 1
def uptoBulkAll {H : Type} : List (DataW H) → Nat
  | [] => 0
  | d :: r => uptoBulk d + uptoBulkAll r
def uptoBulkEntries {H : Type} : List (Lit × DataW H) → Nat
  | [] => 0
  | x :: r => uptoBulkEntry x + uptoBulkEntries r
def uptoBulkEntry {H : Type} : Lit × DataW H → Nat
  | (.string bytes, d) => bytes.length + uptoBulk d + 1
  | (_, d) => uptoBulk d + 1
 end
def uptoSmall : (H : Type) → List (DataW H) → Bool := fun _ ds => decide (uptoBulkAll ds ≤ 1048576)
def OpenSpec.upto (s : _root_.Go.ChangeSpec) : _root_.Go.OpenSpec := { _root_.Go.OpenSpec.ofChange s with cond := some uptoSmall }

/-- 'vouchsafelaw10.CurveOrder', WHERE WHAT IT READS IS OF BULK AT MOST 1048576: true; the input reads as it did. -/
def curveOrderUptoRow : OpenClaim := { program := "ytaapajicchefdaadoor", sum := "61d2dcf87c9140fbe4ae1a6b8520e35e90bab3f139f93cf02bf13625e609b02a", func := "vouchsafe/vouchsafelaw10.CurveOrder", spec := "curveOrder", inPlace := ["math/bits.Add64"], unfollowed := true, recurses := true, named := ["vouchsafe/field.One", "vouchsafe/curve.once"], apart := false, laid := [("vouchsafe/field.One", laid_vouchsafe_field_One), ("vouchsafe/curve.once", laid_vouchsafe_curve_once)], narrowed := true }
def CurveOrderUptoSaid : Prop := curveOrderUptoRow.holds Tryd.pinned (OpenSpec.upto curveOrderSpec)

/-- 'vouchsafelaw10.CurveGroup', WHERE WHAT IT READS IS OF BULK AT MOST 1048576: true; the input reads as it did. -/
def curveGroupUptoRow : OpenClaim := { program := "ytaapajicchefdaadoor", sum := "61d2dcf87c9140fbe4ae1a6b8520e35e90bab3f139f93cf02bf13625e609b02a", func := "vouchsafe/vouchsafelaw10.CurveGroup", spec := "curveGroup", inPlace := ["math/bits.Add64"], unfollowed := true, recurses := true, named := ["vouchsafe/field.One", "vouchsafe/curve.once"], apart := false, laid := [("vouchsafe/field.One", laid_vouchsafe_field_One), ("vouchsafe/curve.once", laid_vouchsafe_curve_once)], narrowed := true }
def CurveGroupUptoSaid : Prop := curveGroupUptoRow.holds Tryd.pinned (OpenSpec.upto curveGroupSpec)

/-- 'vouchsafelaw10.CurveNegs', WHERE WHAT IT READS IS OF BULK AT MOST 1048576: true; the input reads as it did. -/
def curveNegsUptoRow : OpenClaim := { program := "ytaapajicchefdaadoor", sum := "61d2dcf87c9140fbe4ae1a6b8520e35e90bab3f139f93cf02bf13625e609b02a", func := "vouchsafe/vouchsafelaw10.CurveNegs", spec := "curveNegs", inPlace := ["math/bits.Add64"], unfollowed := true, recurses := true, named := ["vouchsafe/field.One", "vouchsafe/curve.once"], apart := false, laid := [("vouchsafe/field.One", laid_vouchsafe_field_One), ("vouchsafe/curve.once", laid_vouchsafe_curve_once)], narrowed := true }
def CurveNegsUptoSaid : Prop := curveNegsUptoRow.holds Tryd.pinned (OpenSpec.upto curveNegsSpec)

/-- 'vouchsafelaw10.CurveTimes', WHERE WHAT IT READS IS OF BULK AT MOST 1048576: true; the input reads as it did. -/
def curveTimesUptoRow : OpenClaim := { program := "ytaapajicchefdaadoor", sum := "61d2dcf87c9140fbe4ae1a6b8520e35e90bab3f139f93cf02bf13625e609b02a", func := "vouchsafe/vouchsafelaw10.CurveTimes", spec := "curveTimes", inPlace := ["math/bits.Add64", "math/bits.Sub64"], unfollowed := true, recurses := true, named := ["vouchsafe/field.One", "vouchsafe/curve.once"], apart := false, laid := [("vouchsafe/field.One", laid_vouchsafe_field_One), ("vouchsafe/curve.once", laid_vouchsafe_curve_once)], narrowed := true }
def CurveTimesUptoSaid : Prop := curveTimesUptoRow.holds Tryd.pinned (OpenSpec.upto curveTimesSpec)

/-- 'vouchsafelaw10.CurveMixes', WHERE WHAT IT READS IS OF BULK AT MOST 1048576: true; the input reads as it did. -/
def curveMixesUptoRow : OpenClaim := { program := "ytaapajicchefdaadoor", sum := "61d2dcf87c9140fbe4ae1a6b8520e35e90bab3f139f93cf02bf13625e609b02a", func := "vouchsafe/vouchsafelaw10.CurveMixes", spec := "curveMixes", inPlace := ["math/bits.Add64", "math/bits.Sub64"], unfollowed := true, recurses := true, named := ["vouchsafe/field.One", "vouchsafe/curve.once"], apart := false, laid := [("vouchsafe/field.One", laid_vouchsafe_field_One), ("vouchsafe/curve.once", laid_vouchsafe_curve_once)], narrowed := true }
def CurveMixesUptoSaid : Prop := curveMixesUptoRow.holds Tryd.pinned (OpenSpec.upto curveMixesSpec)

/-- 'vouchsafelaw10.CurveAdds', WHERE WHAT IT READS IS OF BULK AT MOST 1048576: true; the input reads as it did. -/
def curveAddsUptoRow : OpenClaim := { program := "ytaapajicchefdaadoor", sum := "61d2dcf87c9140fbe4ae1a6b8520e35e90bab3f139f93cf02bf13625e609b02a", func := "vouchsafe/vouchsafelaw10.CurveAdds", spec := "curveAdds", inPlace := ["math/bits.Add64", "math/bits.Sub64"], unfollowed := true, recurses := true, named := ["vouchsafe/field.One", "vouchsafe/curve.once"], apart := false, laid := [("vouchsafe/field.One", laid_vouchsafe_field_One), ("vouchsafe/curve.once", laid_vouchsafe_curve_once)], narrowed := true }
def CurveAddsUptoSaid : Prop := curveAddsUptoRow.holds Tryd.pinned (OpenSpec.upto curveAddsSpec)

/-- 'vouchsafelaw10.CurveMany', WHERE WHAT IT READS IS OF BULK AT MOST 1048576: true; the input reads as it did. -/
def curveManyUptoRow : OpenClaim := { program := "ytaapajicchefdaadoor", sum := "61d2dcf87c9140fbe4ae1a6b8520e35e90bab3f139f93cf02bf13625e609b02a", func := "vouchsafe/vouchsafelaw10.CurveMany", spec := "curveMany", inPlace := ["math/bits.Add64", "math/bits.Sub64"], unfollowed := true, recurses := true, named := ["vouchsafe/field.One", "vouchsafe/curve.once", "vouchsafe/scalar.order", "vouchsafe/scalar.tail"], apart := false, laid := [("vouchsafe/field.One", laid_vouchsafe_field_One), ("vouchsafe/curve.once", laid_vouchsafe_curve_once), ("vouchsafe/scalar.order", laid_vouchsafe_scalar_order), ("vouchsafe/scalar.tail", laid_vouchsafe_scalar_tail)], narrowed := true }
def CurveManyUptoSaid : Prop := curveManyUptoRow.holds Tryd.pinned (OpenSpec.upto curveManySpec)

end Rows
end Go.Proofs.YtaapajicchefdaaDoor
