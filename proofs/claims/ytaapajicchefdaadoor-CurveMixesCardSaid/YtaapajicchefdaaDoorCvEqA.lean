/- CvEqA: a part of the proof of statements of this seat. -/
import Derived.Test.YtaapajicchefdaaDoorFdVcA
import Derived.Test.YtaapajicchefdaaDoorProg
import Derived.KernelRfl
set_option maxRecDepth 100000
namespace Go.Fd
open Go Go.Rx Go.Proofs
theorem u_load (S K) : VcB sh lsh_none S K [32] (bdsL k_load.args) k_load.res (k_load.tree Tryd.prog gl (calS [] [] 76 77 87) li_none 600 6) = B_load S K := by kernel_rfl
theorem pl_load : (k_load.tree Tryd.prog gl (calS [] [] 76 77 87) li_none 600 6).plain = true := by kernel_rfl
theorem u_rbytes (S K) : VcB sh lsh_none S K [4] (bdsL k_rbytes.args) k_rbytes.res (k_rbytes.tree Tryd.prog gl (calS [] [] 76 77 87) li_none 600 6) = B_rbytes S K := by kernel_rfl
theorem pl_rbytes : (k_rbytes.tree Tryd.prog gl (calS [] [] 76 77 87) li_none 600 6).plain = true := by kernel_rfl
theorem u_rp (S K) : VcB sh lsh_none S K [] (bdsL k_rp.args) k_rp.res (k_rp.tree Tryd.prog gl (calS [] [] 76 77 87) li_none 600 6) = B_rp S K := by kernel_rfl
theorem pl_rp : (k_rp.tree Tryd.prog gl (calS [] [] 76 77 87) li_none 600 6).plain = true := by kernel_rfl
theorem u_rless (S K) : VcB sh lsh_none S K [4, 4] (bdsL k_rless.args) k_rless.res (k_rless.tree Tryd.prog gl (calS [] [] 76 77 87) li_none 600 6) = B_rless S K := by kernel_rfl
theorem pl_rless : (k_rless.tree Tryd.prog gl (calS [] [] 76 77 87) li_none 600 6).plain = true := by kernel_rfl
theorem u_rminus (S K) : VcB sh lsh_none S K [4, 4] (bdsL k_rminus.args) k_rminus.res (k_rminus.tree Tryd.prog gl (calS [] [] 76 77 87) li_none 600 6) = B_rminus S K := by kernel_rfl
theorem pl_rminus : (k_rminus.tree Tryd.prog gl (calS [] [] 76 77 87) li_none 600 6).plain = true := by kernel_rfl
theorem u_rplus (S K) : VcB sh lsh_none S K [4, 4] (bdsL k_rplus.args) k_rplus.res (k_rplus.tree Tryd.prog gl (calS [] [] 76 77 87) li_none 600 6) = B_rplus S K := by kernel_rfl
theorem pl_rplus : (k_rplus.tree Tryd.prog gl (calS [] [] 76 77 87) li_none 600 6).plain = true := by kernel_rfl
theorem u_rcut (S K) : VcB sh lsh_none S K [4] (bdsL k_rcut.args) k_rcut.res (k_rcut.tree Tryd.prog gl (calS [] [k_rless, k_rp, k_rminus] 76 77 87) li_none 600 6) = B_rcut S K := by kernel_rfl
theorem pl_rcut : (k_rcut.tree Tryd.prog gl (calS [] [k_rless, k_rp, k_rminus] 76 77 87) li_none 600 6).plain = true := by kernel_rfl
theorem u_rsum (S K) : VcB sh lsh_none S K [4, 4] (bdsL k_rsum.args) k_rsum.res (k_rsum.tree Tryd.prog gl (calS [] [k_rplus, k_rcut] 76 77 87) li_none 600 6) = B_rsum S K := by kernel_rfl
theorem pl_rsum : (k_rsum.tree Tryd.prog gl (calS [] [k_rplus, k_rcut] 76 77 87) li_none 600 6).plain = true := by kernel_rfl
theorem u_rdiff (S K) : VcB sh lsh_none S K [4, 4] (bdsL k_rdiff.args) k_rdiff.res (k_rdiff.tree Tryd.prog gl (calS [] [k_rless, k_rplus, k_rp, k_rminus] 76 77 87) li_none 600 6) = B_rdiff S K := by kernel_rfl
theorem pl_rdiff : (k_rdiff.tree Tryd.prog gl (calS [] [k_rless, k_rplus, k_rp, k_rminus] 76 77 87) li_none 600 6).plain = true := by kernel_rfl
theorem u_rfold (S K) : VcB sh lsh_none S K [4, 4] (bdsL k_rfold.args) k_rfold.res (k_rfold.tree Tryd.prog gl (calS [] [k_rplus, k_rcut] 76 77 87) li_none 600 6) = B_rfold S K := by kernel_rfl
theorem pl_rfold : (k_rfold.tree Tryd.prog gl (calS [] [k_rplus, k_rcut] 76 77 87) li_none 600 6).plain = true := by kernel_rfl
theorem u_rprod (S K) : VcB sh lsh_none S K [4, 4] (bdsL k_rprod.args) k_rprod.res (k_rprod.tree Tryd.prog gl (calS [] [k_rfold] 76 77 87) li_none 600 6) = B_rprod S K := by kernel_rfl
theorem pl_rprod : (k_rprod.tree Tryd.prog gl (calS [] [k_rfold] 76 77 87) li_none 600 6).plain = true := by kernel_rfl
end Go.Fd

