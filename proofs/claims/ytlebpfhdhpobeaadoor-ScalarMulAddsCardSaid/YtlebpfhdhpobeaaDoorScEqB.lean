/- ScEqB: a part of the proof of statements of this seat. -/
import Derived.Test.YtlebpfhdhpobeaaDoorScVcA
import Derived.Test.YtlebpfhdhpobeaaDoorScVcB
import Derived.Test.YtlebpfhdhpobeaaDoorScVcC
import Derived.Test.YtlebpfhdhpobeaaDoorScLaw
import Derived.Test.YtlebpfhdhpobeaaDoorProg
import Derived.KernelRfl
set_option maxRecDepth 100000
namespace Go.Sc
open Go Go.Rx Go.Proofs
theorem u_alive (S K) : VcB sh lsh S K [] (bdsL k_alive.args) k_alive.res (k_alive.tree Tryd.prog gl (calS [] [k_rbytes, k_rl, k_reduce, k_wide, k_muladd, k_right] 33 34 37) liX 600 6) = B_alive S K := by kernel_rfl
theorem u_lmuladds (S K) : VcB sh lsh S K [32, 32, 32] (bdsL k_lmuladds.args) k_lmuladds.res (k_lmuladds.tree Tryd.prog gl (calS [] [k_alive, k_muladd, k_rmuladd] 33 34 37) liX 600 6) = B_lmuladds S K := by kernel_rfl
theorem u_llaws (S K) : VcB sh lsh S K [32, 32, 32] (bdsL k_llaws.args) k_llaws.res (k_llaws.tree Tryd.prog gl (calS [] [k_alive, k_muladd, k_neg, k_reduce, k_wide, k_right] 33 34 37) liX 600 6) = B_llaws S K := by kernel_rfl
theorem u_lclamps (S K) : VcB sh lsh S K [32] (bdsL k_lclamps.args) k_lclamps.res (k_lclamps.tree Tryd.prog gl (calS [] [k_alive, k_clamp, k_right] 33 34 37) liX 600 6) = B_lclamps S K := by kernel_rfl
theorem u_lreduces (S K) : VcB sh lsh S K [64, 32] (bdsL k_lreduces.args) k_lreduces.res (k_lreduces.tree Tryd.prog gl (calS [] [k_alive, k_reduce, k_rreduce, k_right, k_rright, k_neg, k_rneg, k_clamp, k_rclamp] 33 34 37) liX 600 6) = B_lreduces S K := by kernel_rfl
end Go.Sc
