/- CvEqD: a part of the proof of statements of this seat. -/
import Derived.Test.YtaapajicchefdaaDoorFdVcD
import Derived.Test.YtaapajicchefdaaDoorProg
import Derived.KernelRfl
set_option maxRecDepth 100000
namespace Go.Fd
open Go Go.Rx Go.Proofs
theorem u_squared (S K) : VcB sh lsh_none S K [5] (bdsL k_squared.args) k_squared.res (k_squared.tree Tryd.prog gl (calS [] [k_times] 76 77 87) li_none 600 6) = B_squared S K := by kernel_rfl
theorem pl_squared : (k_squared.tree Tryd.prog gl (calS [] [k_times] 76 77 87) li_none 600 6).plain = true := by kernel_rfl
theorem u_negated (S K) : VcB sh lsh_none S K [5] (bdsL k_negated.args) k_negated.res (k_negated.tree Tryd.prog gl (calS [] [k_minus] 76 77 87) li_none 600 6) = B_negated S K := by kernel_rfl
theorem pl_negated : (k_negated.tree Tryd.prog gl (calS [] [k_minus] 76 77 87) li_none 600 6).plain = true := by kernel_rfl
theorem u_raised (S K) : VcB sh lsh_raised S K [5, 4] (bdsL k_raised.args) k_raised.res (k_raised.tree Tryd.prog gl (calS [] [k_squared, k_times] 76 77 87) li_raised 600 6) = B_raised S K := by kernel_rfl
theorem u_inverted (S K) : VcB sh lsh_none S K [5] (bdsL k_inverted.args) k_inverted.res (k_inverted.tree Tryd.prog gl (calS [] [k_raised] 76 77 87) li_none 600 6) = B_inverted S K := by kernel_rfl
theorem pl_inverted : (k_inverted.tree Tryd.prog gl (calS [] [k_raised] 76 77 87) li_none 600 6).plain = true := by kernel_rfl
theorem u_same (S K) : VcB sh lsh_none S K [5, 5] (bdsL k_same.args) k_same.res (k_same.tree Tryd.prog gl (calS [] [k_bytes] 76 77 87) li_none 600 6) = B_same S K := by kernel_rfl
theorem pl_same : (k_same.tree Tryd.prog gl (calS [] [k_bytes] 76 77 87) li_none 600 6).plain = true := by kernel_rfl
theorem u_odd (S K) : VcB sh lsh_none S K [5] (bdsL k_odd.args) k_odd.res (k_odd.tree Tryd.prog gl (calS [] [k_bytes] 76 77 87) li_none 600 6) = B_odd S K := by kernel_rfl
theorem pl_odd : (k_odd.tree Tryd.prog gl (calS [] [k_bytes] 76 77 87) li_none 600 6).plain = true := by kernel_rfl
theorem u_rooted (S K) : VcB sh lsh_none S K [5] (bdsL k_rooted.args) k_rooted.res (k_rooted.tree Tryd.prog gl (calS [] [k_raised, k_squared, k_same, k_odd, k_negated, k_times] 76 77 87) li_none 600 6) = B_rooted S K := by kernel_rfl
theorem pl_rooted : (k_rooted.tree Tryd.prog gl (calS [] [k_raised, k_squared, k_same, k_odd, k_negated, k_times] 76 77 87) li_none 600 6).plain = true := by kernel_rfl
theorem u_reduce (S K) : VcB sh lsh_none S K [32] (bdsL k_reduce.args) k_reduce.res (k_reduce.tree Tryd.prog gl (calS [] [k_from, k_bytes] 76 77 87) li_none 600 6) = B_reduce S K := by kernel_rfl
theorem pl_reduce : (k_reduce.tree Tryd.prog gl (calS [] [k_from, k_bytes] 76 77 87) li_none 600 6).plain = true := by kernel_rfl
theorem u_right (S K) : VcB sh lsh_none S K [32] (bdsL k_right.args) k_right.res (k_right.tree Tryd.prog gl (calS [] [k_reduce] 76 77 87) li_none 600 6) = B_right S K := by kernel_rfl
theorem pl_right : (k_right.tree Tryd.prog gl (calS [] [k_reduce] 76 77 87) li_none 600 6).plain = true := by kernel_rfl
end Go.Fd

