/- CvVcR: a part of the proof of statements of this seat. -/
import Derived.Test.YtaapajicchefdaaDoorCvHelp
set_option linter.unusedVariables false
set_option linter.unusedSimpArgs false
set_option maxRecDepth 20000
namespace Go.Fd
open Go.Rx
def B_rl (S : Nat → List (List Int) → List (List Int) → Prop) (K : List (List Int) → List (List Int) → Prop) : Prop :=
 
 K [] [[6346243789798364141, 1503914060200516822, 0, 1152921504606846976]]
theorem p_rl (G) : B_rl (SG G) (KB k_rl.res 133) := by
  unfold B_rl
  exact ⟨by simp [k_rl, bdsL, D.bds, n4, inB, repB], by show nw _ = (ordL : Int); decide⟩
end Go.Fd
