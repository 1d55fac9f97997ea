/- CvEqL: a part of the proof of statements of this seat. -/
import Derived.Test.YtaapajicchefdaaDoorCvVcL
import Derived.Test.YtaapajicchefdaaDoorProg
import Derived.KernelRfl
set_option maxRecDepth 100000
namespace Go.Fd
open Go Go.Rx Go.Proofs
theorem u_calive (S K) : VcB sh lsh_none S K [] (bdsL k_calive.args) k_calive.res (k_calive.tree Tryd.prog gl (calS [] [k_base, k_cright] 76 77 87) li_none 600 6) = B_calive S K := by kernel_rfl
theorem pl_calive : (k_calive.tree Tryd.prog gl (calS [] [k_base, k_cright] 76 77 87) li_none 600 6).plain = true := by kernel_rfl
end Go.Fd

