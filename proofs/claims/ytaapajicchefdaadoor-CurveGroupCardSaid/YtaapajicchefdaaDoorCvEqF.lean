/- CvEqF: a part of the proof of statements of this seat. -/
import Derived.Test.YtaapajicchefdaaDoorCvVcB
import Derived.Test.YtaapajicchefdaaDoorProg
import Derived.KernelRfl
set_option maxRecDepth 100000
namespace Go.Fd
open Go Go.Rx Go.Proofs
theorem u_rd (S K) : VcB sh lsh_none S K [] (bdsL k_rd.args) k_rd.res (k_rd.tree Tryd.prog gl (calS [] [] 76 77 87) li_none 600 6) = B_rd S K := by kernel_rfl
theorem pl_rd : (k_rd.tree Tryd.prog gl (calS [] [] 76 77 87) li_none 600 6).plain = true := by kernel_rfl
theorem u_rzero (S K) : VcB sh lsh_none S K [] (bdsL k_rzero.args) k_rzero.res (k_rzero.tree Tryd.prog gl (calS [] [] 76 77 87) li_none 600 6) = B_rzero S K := by kernel_rfl
theorem pl_rzero : (k_rzero.tree Tryd.prog gl (calS [] [] 76 77 87) li_none 600 6).plain = true := by kernel_rfl
theorem u_rcsum (S K) : VcB sh lsh_none S K [4, 4, 4, 4, 4, 4] (bdsL k_rcsum.args) k_rcsum.res (k_rcsum.tree Tryd.prog gl (calS [] [k_rprod, k_rd, k_rdiff, k_rsum] 76 77 87) li_none 600 6) = B_rcsum S K := by kernel_rfl
theorem pl_rcsum : (k_rcsum.tree Tryd.prog gl (calS [] [k_rprod, k_rd, k_rdiff, k_rsum] 76 77 87) li_none 600 6).plain = true := by kernel_rfl
theorem u_rmany (S K) : VcB sh lsh_rmany S K [32, 4, 4, 4] (bdsL k_rmany.args) k_rmany.res (k_rmany.tree Tryd.prog gl (calS [] [k_rzero, k_rcsum] 76 77 87) li_rmany 600 6) = B_rmany S K := by kernel_rfl
theorem u_rcbytes (S K) : VcB sh lsh_none S K [4, 4, 4] (bdsL k_rcbytes.args) k_rcbytes.res (k_rcbytes.tree Tryd.prog gl (calS [] [k_rinvert, k_rprod, k_rbytes] 76 77 87) li_none 600 6) = B_rcbytes S K := by kernel_rfl
theorem pl_rcbytes : (k_rcbytes.tree Tryd.prog gl (calS [] [k_rinvert, k_rprod, k_rbytes] 76 77 87) li_none 600 6).plain = true := by kernel_rfl
theorem u_rread (S K) : VcB sh lsh_none S K [32] (bdsL k_rread.args) k_rread.res (k_rread.tree Tryd.prog gl (calS [] [k_load, k_rless, k_rp, k_rprod, k_rd, k_rsum, k_rinvert, k_rsquare, k_rdiff] 76 77 87) li_none 600 6) = B_rread S K := by kernel_rfl
theorem pl_rread : (k_rread.tree Tryd.prog gl (calS [] [k_load, k_rless, k_rp, k_rprod, k_rd, k_rsum, k_rinvert, k_rsquare, k_rdiff] 76 77 87) li_none 600 6).plain = true := by kernel_rfl
theorem u_rfirst (S K) : VcB sh lsh_none S K [] (bdsL k_rfirst.args) k_rfirst.res (k_rfirst.tree Tryd.prog gl (calS [] [] 76 77 87) li_none 600 6) = B_rfirst S K := by kernel_rfl
theorem pl_rfirst : (k_rfirst.tree Tryd.prog gl (calS [] [] 76 77 87) li_none 600 6).plain = true := by kernel_rfl
theorem u_rcright (S K) : VcB sh lsh_none S K [32] (bdsL k_rcright.args) k_rcright.res (k_rcright.tree Tryd.prog gl (calS [] [k_rread] 76 77 87) li_none 600 6) = B_rcright S K := by kernel_rfl
theorem pl_rcright : (k_rcright.tree Tryd.prog gl (calS [] [k_rread] 76 77 87) li_none 600 6).plain = true := by kernel_rfl
theorem u_rcadd (S K) : VcB sh lsh_none S K [32, 32] (bdsL k_rcadd.args) k_rcadd.res (k_rcadd.tree Tryd.prog gl (calS [] [k_rread, k_rcsum, k_rcbytes] 76 77 87) li_none 600 6) = B_rcadd S K := by kernel_rfl
theorem pl_rcadd : (k_rcadd.tree Tryd.prog gl (calS [] [k_rread, k_rcsum, k_rcbytes] 76 77 87) li_none 600 6).plain = true := by kernel_rfl
theorem u_rcneg (S K) : VcB sh lsh_none S K [32] (bdsL k_rcneg.args) k_rcneg.res (k_rcneg.tree Tryd.prog gl (calS [] [k_rread, k_rdiff, k_rcbytes] 76 77 87) li_none 600 6) = B_rcneg S K := by kernel_rfl
theorem pl_rcneg : (k_rcneg.tree Tryd.prog gl (calS [] [k_rread, k_rdiff, k_rcbytes] 76 77 87) li_none 600 6).plain = true := by kernel_rfl
theorem u_rctimes (S K) : VcB sh lsh_none S K [32, 32] (bdsL k_rctimes.args) k_rctimes.res (k_rctimes.tree Tryd.prog gl (calS [] [k_rread, k_rmany, k_rcbytes] 76 77 87) li_none 600 6) = B_rctimes S K := by kernel_rfl
theorem pl_rctimes : (k_rctimes.tree Tryd.prog gl (calS [] [k_rread, k_rmany, k_rcbytes] 76 77 87) li_none 600 6).plain = true := by kernel_rfl
theorem u_rbase (S K) : VcB sh lsh_none S K [32] (bdsL k_rbase.args) k_rbase.res (k_rbase.tree Tryd.prog gl (calS [] [k_rfirst, k_rmany, k_rcbytes] 76 77 87) li_none 600 6) = B_rbase S K := by kernel_rfl
theorem pl_rbase : (k_rbase.tree Tryd.prog gl (calS [] [k_rfirst, k_rmany, k_rcbytes] 76 77 87) li_none 600 6).plain = true := by kernel_rfl
theorem u_rcmix (S K) : VcB sh lsh_none S K [32, 32, 32] (bdsL k_rcmix.args) k_rcmix.res (k_rcmix.tree Tryd.prog gl (calS [] [k_rread, k_rmany, k_rfirst, k_rcsum, k_rcbytes] 76 77 87) li_none 600 6) = B_rcmix S K := by kernel_rfl
theorem pl_rcmix : (k_rcmix.tree Tryd.prog gl (calS [] [k_rread, k_rmany, k_rfirst, k_rcsum, k_rcbytes] 76 77 87) li_none 600 6).plain = true := by kernel_rfl
theorem u_rl (S K) : VcB sh lsh_none S K [] (bdsL k_rl.args) k_rl.res (k_rl.tree Tryd.prog gl (calS [] [] 76 77 87) li_none 600 6) = B_rl S K := by kernel_rfl
theorem pl_rl : (k_rl.tree Tryd.prog gl (calS [] [] 76 77 87) li_none 600 6).plain = true := by kernel_rfl
end Go.Fd

