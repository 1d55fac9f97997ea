/- FdEqE: a part of the proof of statements of this seat. -/
import Derived.Test.YtjngbbnmcadolaaDoorFdVcE
import Derived.Test.YtjngbbnmcadolaaDoorProg
import Derived.KernelRfl
set_option maxRecDepth 100000
namespace Go.Fd
open Go Go.Rx Go.Proofs
theorem u_alive (S K) : VcB sh lsh_none S K [] (bdsL k_alive.args) k_alive.res (k_alive.tree Tryd.prog gl (calS [] [k_rbytes, k_rp, k_root, k_reduce, k_add, k_mul, k_right] 52 53 57) li_none 600 6) = B_alive S K := by kernel_rfl
theorem pl_alive : (k_alive.tree Tryd.prog gl (calS [] [k_rbytes, k_rp, k_root, k_reduce, k_add, k_mul, k_right] 52 53 57) li_none 600 6).plain = true := by kernel_rfl
theorem u_lone (S K) : VcB sh lsh_none S K [32] (bdsL k_lone.args) k_lone.res (k_lone.tree Tryd.prog gl (calS [] [k_alive, k_root, k_sub, k_mul, k_reduce] 52 53 57) li_none 600 6) = B_lone S K := by kernel_rfl
theorem pl_lone : (k_lone.tree Tryd.prog gl (calS [] [k_alive, k_root, k_sub, k_mul, k_reduce] 52 53 57) li_none 600 6).plain = true := by kernel_rfl
theorem u_llaws (S K) : VcB sh lsh_none S K [32, 32, 32] (bdsL k_llaws.args) k_llaws.res (k_llaws.tree Tryd.prog gl (calS [] [k_alive, k_add, k_mul, k_sub, k_reduce, k_inv] 52 53 57) li_none 600 6) = B_llaws S K := by kernel_rfl
theorem pl_llaws : (k_llaws.tree Tryd.prog gl (calS [] [k_alive, k_add, k_mul, k_sub, k_reduce, k_inv] 52 53 57) li_none 600 6).plain = true := by kernel_rfl
theorem u_lproducts (S K) : VcB sh lsh_none S K [32, 32] (bdsL k_lproducts.args) k_lproducts.res (k_lproducts.tree Tryd.prog gl (calS [] [k_alive, k_mul, k_rmul] 52 53 57) li_none 600 6) = B_lproducts S K := by kernel_rfl
theorem pl_lproducts : (k_lproducts.tree Tryd.prog gl (calS [] [k_alive, k_mul, k_rmul] 52 53 57) li_none 600 6).plain = true := by kernel_rfl
theorem u_lroots (S K) : VcB sh lsh_none S K [32] (bdsL k_lroots.args) k_lroots.res (k_lroots.tree Tryd.prog gl (calS [] [k_alive, k_root, k_rroot, k_mul, k_reduce] 52 53 57) li_none 600 6) = B_lroots S K := by kernel_rfl
theorem pl_lroots : (k_lroots.tree Tryd.prog gl (calS [] [k_alive, k_root, k_rroot, k_mul, k_reduce] 52 53 57) li_none 600 6).plain = true := by kernel_rfl
theorem u_lsums (S K) : VcB sh lsh_none S K [32, 32] (bdsL k_lsums.args) k_lsums.res (k_lsums.tree Tryd.prog gl (calS [] [k_alive, k_add, k_radd, k_sub, k_rsub, k_reduce, k_rreduce, k_right, k_rright] 52 53 57) li_none 600 6) = B_lsums S K := by kernel_rfl
theorem pl_lsums : (k_lsums.tree Tryd.prog gl (calS [] [k_alive, k_add, k_radd, k_sub, k_rsub, k_reduce, k_rreduce, k_right, k_rright] 52 53 57) li_none 600 6).plain = true := by kernel_rfl
theorem u_lsteps (S K) : VcB sh lsh_none S K [32, 1, 1] (bdsL k_lsteps.args) k_lsteps.res (k_lsteps.tree Tryd.prog gl (calS [] [k_alive, k_power, k_mul, k_reduce] 52 53 57) li_none 600 6) = B_lsteps S K := by kernel_rfl
theorem pl_lsteps : (k_lsteps.tree Tryd.prog gl (calS [] [k_alive, k_power, k_mul, k_reduce] 52 53 57) li_none 600 6).plain = true := by kernel_rfl
theorem u_lpowers (S K) : VcB sh lsh_none S K [32, 32] (bdsL k_lpowers.args) k_lpowers.res (k_lpowers.tree Tryd.prog gl (calS [] [k_alive, k_power, k_rpower, k_inv, k_rinv] 52 53 57) li_none 600 6) = B_lpowers S K := by kernel_rfl
theorem pl_lpowers : (k_lpowers.tree Tryd.prog gl (calS [] [k_alive, k_power, k_rpower, k_inv, k_rinv] 52 53 57) li_none 600 6).plain = true := by kernel_rfl
end Go.Fd

