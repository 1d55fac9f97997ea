/- CvEqC: a part of the proof of statements of this seat. -/
import Derived.Test.YtaapajicchefdaaDoorFdVcC
import Derived.Test.YtaapajicchefdaaDoorProg
import Derived.KernelRfl
set_option maxRecDepth 100000
namespace Go.Fd
open Go Go.Rx Go.Proofs
theorem u_carried (S K) : VcB sh lsh_none S K [5] (bdsL k_carried.args) k_carried.res (k_carried.tree Tryd.prog gl (calS [] [] 76 77 87) li_none 600 6) = B_carried S K := by kernel_rfl
theorem pl_carried : (k_carried.tree Tryd.prog gl (calS [] [] 76 77 87) li_none 600 6).plain = true := by kernel_rfl
theorem u_from (S K) : VcB sh lsh_none S K [32] (bdsL k_from.args) k_from.res (k_from.tree Tryd.prog gl (calS [] [k_carried] 76 77 87) li_none 600 6) = B_from S K := by kernel_rfl
theorem pl_from : (k_from.tree Tryd.prog gl (calS [] [k_carried] 76 77 87) li_none 600 6).plain = true := by kernel_rfl
theorem u_bytes (S K) : VcB sh lsh_none S K [5] (bdsL k_bytes.args) k_bytes.res (k_bytes.tree Tryd.prog gl (calS [] [k_carried] 76 77 87) li_none 600 6) = B_bytes S K := by kernel_rfl
theorem pl_bytes : (k_bytes.tree Tryd.prog gl (calS [] [k_carried] 76 77 87) li_none 600 6).plain = true := by kernel_rfl
theorem u_plus (S K) : VcB sh lsh_none S K [5, 5] (bdsL k_plus.args) k_plus.res (k_plus.tree Tryd.prog gl (calS [] [k_carried] 76 77 87) li_none 600 6) = B_plus S K := by kernel_rfl
theorem pl_plus : (k_plus.tree Tryd.prog gl (calS [] [k_carried] 76 77 87) li_none 600 6).plain = true := by kernel_rfl
theorem u_minus (S K) : VcB sh lsh_none S K [5, 5] (bdsL k_minus.args) k_minus.res (k_minus.tree Tryd.prog gl (calS [] [k_carried] 76 77 87) li_none 600 6) = B_minus S K := by kernel_rfl
theorem pl_minus : (k_minus.tree Tryd.prog gl (calS [] [k_carried] 76 77 87) li_none 600 6).plain = true := by kernel_rfl
theorem u_times (S K) : VcB sh lsh_none S K [5, 5] (bdsL k_times.args) k_times.res (k_times.tree Tryd.prog gl (calS [] [k_carried] 76 77 87) li_none 600 6) = B_times S K := by kernel_rfl
theorem pl_times : (k_times.tree Tryd.prog gl (calS [] [k_carried] 76 77 87) li_none 600 6).plain = true := by kernel_rfl
end Go.Fd

