/- CvEqQ: a part of the proof of statements of this seat. -/
import Derived.Test.YtaapajicchefdaaDoorFdVcQ
import Derived.Test.YtaapajicchefdaaDoorProg
import Derived.KernelRfl
set_option maxRecDepth 100000
namespace Go.Fd
open Go Go.Rx Go.Proofs
theorem u_rbytes (S K) : VcB sh lsh_none S K [4] (bdsL k_rbytes.args) k_rbytes.res (k_rbytes.tree Tryd.prog gl (calS [] [] 76 77 87) li_none 600 6) = B_rbytes S K := by kernel_rfl
theorem pl_rbytes : (k_rbytes.tree Tryd.prog gl (calS [] [] 76 77 87) li_none 600 6).plain = true := by kernel_rfl
end Go.Fd

