/- CvEqG: a part of the proof of statements of this seat. -/
import Derived.Test.YtaapajicchefdaaDoorCvVcC
import Derived.Test.YtaapajicchefdaaDoorProg
import Derived.KernelRfl
set_option maxRecDepth 100000
namespace Go.Fd
open Go Go.Rx Go.Proofs
theorem u_calive (S K) : VcB sh lsh_none S K [] (bdsL k_calive.args) k_calive.res (k_calive.tree Tryd.prog gl (calS [] [k_base, k_cright] 76 77 87) li_none 600 6) = B_calive S K := by kernel_rfl
theorem pl_calive : (k_calive.tree Tryd.prog gl (calS [] [k_base, k_cright] 76 77 87) li_none 600 6).plain = true := by kernel_rfl
theorem u_lorder (S K) : VcB sh lsh_none S K [32] (bdsL k_lorder.args) k_lorder.res (k_lorder.tree Tryd.prog gl (calS [] [k_calive, k_cright, k_ctimes, k_rbytes, k_rl] 76 77 87) li_none 600 6) = B_lorder S K := by kernel_rfl
theorem pl_lorder : (k_lorder.tree Tryd.prog gl (calS [] [k_calive, k_cright, k_ctimes, k_rbytes, k_rl] 76 77 87) li_none 600 6).plain = true := by kernel_rfl
theorem u_lgroup (S K) : VcB sh lsh_none S K [32, 32, 32] (bdsL k_lgroup.args) k_lgroup.res (k_lgroup.tree Tryd.prog gl (calS [] [k_calive, k_cright, k_cadd, k_cneg] 76 77 87) li_none 600 6) = B_lgroup S K := by kernel_rfl
theorem pl_lgroup : (k_lgroup.tree Tryd.prog gl (calS [] [k_calive, k_cright, k_cadd, k_cneg] 76 77 87) li_none 600 6).plain = true := by kernel_rfl
theorem u_lnegs (S K) : VcB sh lsh_none S K [32, 32] (bdsL k_lnegs.args) k_lnegs.res (k_lnegs.tree Tryd.prog gl (calS [] [k_calive, k_cright, k_cneg, k_ctimes] 76 77 87) li_none 600 6) = B_lnegs S K := by kernel_rfl
theorem pl_lnegs : (k_lnegs.tree Tryd.prog gl (calS [] [k_calive, k_cright, k_cneg, k_ctimes] 76 77 87) li_none 600 6).plain = true := by kernel_rfl
theorem u_ltimes (S K) : VcB sh lsh_none S K [32, 32] (bdsL k_ltimes.args) k_ltimes.res (k_ltimes.tree Tryd.prog gl (calS [] [k_calive, k_ctimes, k_rctimes, k_base, k_rbase] 76 77 87) li_none 600 6) = B_ltimes S K := by kernel_rfl
theorem pl_ltimes : (k_ltimes.tree Tryd.prog gl (calS [] [k_calive, k_ctimes, k_rctimes, k_base, k_rbase] 76 77 87) li_none 600 6).plain = true := by kernel_rfl
theorem u_lmixes (S K) : VcB sh lsh_none S K [32, 32, 32] (bdsL k_lmixes.args) k_lmixes.res (k_lmixes.tree Tryd.prog gl (calS [] [k_calive, k_cmix, k_rcmix] 76 77 87) li_none 600 6) = B_lmixes S K := by kernel_rfl
theorem pl_lmixes : (k_lmixes.tree Tryd.prog gl (calS [] [k_calive, k_cmix, k_rcmix] 76 77 87) li_none 600 6).plain = true := by kernel_rfl
theorem u_ladds (S K) : VcB sh lsh_none S K [32, 32] (bdsL k_ladds.args) k_ladds.res (k_ladds.tree Tryd.prog gl (calS [] [k_calive, k_cright, k_rcright, k_cadd, k_rcadd, k_cneg, k_rcneg] 76 77 87) li_none 600 6) = B_ladds S K := by kernel_rfl
theorem pl_ladds : (k_ladds.tree Tryd.prog gl (calS [] [k_calive, k_cright, k_rcright, k_cadd, k_rcadd, k_cneg, k_rcneg] 76 77 87) li_none 600 6).plain = true := by kernel_rfl
end Go.Fd

