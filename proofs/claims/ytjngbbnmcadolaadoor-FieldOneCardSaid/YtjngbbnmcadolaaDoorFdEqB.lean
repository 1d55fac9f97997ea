/- FdEqB: a part of the proof of statements of this seat. -/
import Derived.Test.YtjngbbnmcadolaaDoorFdVcB
import Derived.Test.YtjngbbnmcadolaaDoorProg
import Derived.KernelRfl
set_option maxRecDepth 100000
namespace Go.Fd
open Go Go.Rx Go.Proofs
theorem u_rtake (S K) : VcB sh lsh_rtake S K [4, 4] (bdsL k_rtake.args) k_rtake.res (k_rtake.tree Tryd.prog gl (calS [] [k_rprod] 52 53 57) li_rtake 600 6) = B_rtake S K := by kernel_rfl
theorem u_rinvert (S K) : VcB sh lsh_none S K [4] (bdsL k_rinvert.args) k_rinvert.res (k_rinvert.tree Tryd.prog gl (calS [] [k_rminus, k_rp, k_rtake] 52 53 57) li_none 600 6) = B_rinvert S K := by kernel_rfl
theorem pl_rinvert : (k_rinvert.tree Tryd.prog gl (calS [] [k_rminus, k_rp, k_rtake] 52 53 57) li_none 600 6).plain = true := by kernel_rfl
theorem u_rright (S K) : VcB sh lsh_none S K [32] (bdsL k_rright.args) k_rright.res (k_rright.tree Tryd.prog gl (calS [] [k_rless, k_load, k_rp] 52 53 57) li_none 600 6) = B_rright S K := by kernel_rfl
theorem pl_rright : (k_rright.tree Tryd.prog gl (calS [] [k_rless, k_load, k_rp] 52 53 57) li_none 600 6).plain = true := by kernel_rfl
theorem u_rreduce (S K) : VcB sh lsh_none S K [32] (bdsL k_rreduce.args) k_rreduce.res (k_rreduce.tree Tryd.prog gl (calS [] [k_rbytes, k_rcut, k_load] 52 53 57) li_none 600 6) = B_rreduce S K := by kernel_rfl
theorem pl_rreduce : (k_rreduce.tree Tryd.prog gl (calS [] [k_rbytes, k_rcut, k_load] 52 53 57) li_none 600 6).plain = true := by kernel_rfl
theorem u_radd (S K) : VcB sh lsh_none S K [32, 32] (bdsL k_radd.args) k_radd.res (k_radd.tree Tryd.prog gl (calS [] [k_rbytes, k_rsum, k_rcut, k_load] 52 53 57) li_none 600 6) = B_radd S K := by kernel_rfl
theorem pl_radd : (k_radd.tree Tryd.prog gl (calS [] [k_rbytes, k_rsum, k_rcut, k_load] 52 53 57) li_none 600 6).plain = true := by kernel_rfl
theorem u_rsub (S K) : VcB sh lsh_none S K [32, 32] (bdsL k_rsub.args) k_rsub.res (k_rsub.tree Tryd.prog gl (calS [] [k_rbytes, k_rdiff, k_rcut, k_load] 52 53 57) li_none 600 6) = B_rsub S K := by kernel_rfl
theorem pl_rsub : (k_rsub.tree Tryd.prog gl (calS [] [k_rbytes, k_rdiff, k_rcut, k_load] 52 53 57) li_none 600 6).plain = true := by kernel_rfl
theorem u_rmul (S K) : VcB sh lsh_none S K [32, 32] (bdsL k_rmul.args) k_rmul.res (k_rmul.tree Tryd.prog gl (calS [] [k_rbytes, k_rprod, k_load] 52 53 57) li_none 600 6) = B_rmul S K := by kernel_rfl
theorem pl_rmul : (k_rmul.tree Tryd.prog gl (calS [] [k_rbytes, k_rprod, k_load] 52 53 57) li_none 600 6).plain = true := by kernel_rfl
theorem u_rinv (S K) : VcB sh lsh_none S K [32] (bdsL k_rinv.args) k_rinv.res (k_rinv.tree Tryd.prog gl (calS [] [k_rbytes, k_rinvert, k_rcut, k_load] 52 53 57) li_none 600 6) = B_rinv S K := by kernel_rfl
theorem pl_rinv : (k_rinv.tree Tryd.prog gl (calS [] [k_rbytes, k_rinvert, k_rcut, k_load] 52 53 57) li_none 600 6).plain = true := by kernel_rfl
theorem u_rpower (S K) : VcB sh lsh_none S K [32, 32] (bdsL k_rpower.args) k_rpower.res (k_rpower.tree Tryd.prog gl (calS [] [k_rbytes, k_rtake, k_rcut, k_load] 52 53 57) li_none 600 6) = B_rpower S K := by kernel_rfl
theorem pl_rpower : (k_rpower.tree Tryd.prog gl (calS [] [k_rbytes, k_rtake, k_rcut, k_load] 52 53 57) li_none 600 6).plain = true := by kernel_rfl
theorem u_rsquare (S K) : VcB sh lsh_none S K [4] (bdsL k_rsquare.args) k_rsquare.res (k_rsquare.tree Tryd.prog gl (calS [] [k_rtake, k_rprod, k_rdiff] 52 53 57) li_none 600 6) = B_rsquare S K := by kernel_rfl
theorem pl_rsquare : (k_rsquare.tree Tryd.prog gl (calS [] [k_rtake, k_rprod, k_rdiff] 52 53 57) li_none 600 6).plain = true := by kernel_rfl
theorem u_rroot (S K) : VcB sh lsh_none S K [32] (bdsL k_rroot.args) k_rroot.res (k_rroot.tree Tryd.prog gl (calS [] [k_rsquare, k_rcut, k_load, k_rbytes] 52 53 57) li_none 600 6) = B_rroot S K := by kernel_rfl
theorem pl_rroot : (k_rroot.tree Tryd.prog gl (calS [] [k_rsquare, k_rcut, k_load, k_rbytes] 52 53 57) li_none 600 6).plain = true := by kernel_rfl
end Go.Fd

