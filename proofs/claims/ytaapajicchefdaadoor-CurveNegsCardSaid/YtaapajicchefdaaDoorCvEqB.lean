/- CvEqB: a part of the proof of statements of this seat. -/
import Derived.Test.YtaapajicchefdaaDoorFdVcB
import Derived.Test.YtaapajicchefdaaDoorProg
import Derived.KernelRfl
set_option maxRecDepth 100000
namespace Go.Fd
open Go Go.Rx Go.Proofs
theorem u_rtake (S K) : VcB sh lsh_rtake S K [4, 4] (bdsL k_rtake.args) k_rtake.res (k_rtake.tree Tryd.prog gl (calS [] [k_rprod] 76 77 87) li_rtake 600 6) = B_rtake S K := by kernel_rfl
theorem u_rinvert (S K) : VcB sh lsh_none S K [4] (bdsL k_rinvert.args) k_rinvert.res (k_rinvert.tree Tryd.prog gl (calS [] [k_rminus, k_rp, k_rtake] 76 77 87) li_none 600 6) = B_rinvert S K := by kernel_rfl
theorem pl_rinvert : (k_rinvert.tree Tryd.prog gl (calS [] [k_rminus, k_rp, k_rtake] 76 77 87) li_none 600 6).plain = true := by kernel_rfl
theorem u_rsquare (S K) : VcB sh lsh_none S K [4] (bdsL k_rsquare.args) k_rsquare.res (k_rsquare.tree Tryd.prog gl (calS [] [k_rtake, k_rprod, k_rdiff] 76 77 87) li_none 600 6) = B_rsquare S K := by kernel_rfl
theorem pl_rsquare : (k_rsquare.tree Tryd.prog gl (calS [] [k_rtake, k_rprod, k_rdiff] 76 77 87) li_none 600 6).plain = true := by kernel_rfl
end Go.Fd

