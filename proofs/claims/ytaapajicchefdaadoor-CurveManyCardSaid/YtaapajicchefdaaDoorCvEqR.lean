/- CvEqR: a part of the proof of statements of this seat. -/
import Derived.Test.YtaapajicchefdaaDoorCvVcR
import Derived.Test.YtaapajicchefdaaDoorProg
import Derived.KernelRfl
set_option maxRecDepth 100000
namespace Go.Fd
open Go Go.Rx Go.Proofs
theorem u_rl (S K) : VcB sh lsh_none S K [] (bdsL k_rl.args) k_rl.res (k_rl.tree Tryd.prog gl (calS [] [] 76 77 87) li_none 600 6) = B_rl S K := by kernel_rfl
theorem pl_rl : (k_rl.tree Tryd.prog gl (calS [] [] 76 77 87) li_none 600 6).plain = true := by kernel_rfl
end Go.Fd

