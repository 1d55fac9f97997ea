/- ScEqA: a part of the proof of statements of this seat. -/
import Derived.Test.YtlebpfhdhpobeaaDoorScVcA
import Derived.Test.YtlebpfhdhpobeaaDoorScVcB
import Derived.Test.YtlebpfhdhpobeaaDoorScVcC
import Derived.Test.YtlebpfhdhpobeaaDoorScLaw
import Derived.Test.YtlebpfhdhpobeaaDoorProg
import Derived.KernelRfl
set_option maxRecDepth 100000
namespace Go.Sc
open Go Go.Rx Go.Proofs
theorem t_load (S K) : (allB k_load.bds fun zs => (k_load.tree Tryd.prog gl (calS [] [] 33 34 37) liX 600 6).holds S (LeafK k_load.res (K zs)) (fun _ _ => False) (updL (fun _ => 0) 0 zs)) = V_load S K := by kernel_rfl
theorem t_loada (S K) : (allB k_loada.bds fun zs => (k_loada.tree Tryd.prog gl (calS [] [] 33 34 37) liX 600 6).holds S (LeafK k_loada.res (K zs)) (fun _ _ => False) (updL (fun _ => 0) 0 zs)) = V_loada S K := by kernel_rfl
theorem t_loadb (S K) : (allB k_loadb.bds fun zs => (k_loadb.tree Tryd.prog gl (calS [] [] 33 34 37) liX 600 6).holds S (LeafK k_loadb.res (K zs)) (fun _ _ => False) (updL (fun _ => 0) 0 zs)) = V_loadb S K := by kernel_rfl
theorem t_minus (S K) : (allB (bdsL k_minus.args) fun zs => (k_minus.tree Tryd.prog gl (calS [] [] 33 34 37) liX 600 6).holds S (LeafK k_minus.res (K zs)) (fun _ _ => False) (updL (fun _ => 0) 0 zs)) = V_minus S K := by kernel_rfl
theorem t_plus (S K) : (allB (bdsL k_plus.args) fun zs => (k_plus.tree Tryd.prog gl (calS [] [] 33 34 37) liX 600 6).holds S (LeafK k_plus.res (K zs)) (fun _ _ => False) (updL (fun _ => 0) 0 zs)) = V_plus S K := by kernel_rfl
theorem t_bytes (S K) : (allB (bdsL k_bytes.args) fun zs => (k_bytes.tree Tryd.prog gl (calS [] [] 33 34 37) liX 600 6).holds S (LeafK k_bytes.res (K zs)) (fun _ _ => False) (updL (fun _ => 0) 0 zs)) = V_bytes S K := by kernel_rfl
theorem t_product (S K) : (allB (bdsL k_product.args) fun zs => (k_product.tree Tryd.prog gl (calS [] [] 33 34 37) liX 600 6).holds S (LeafK k_product.res (K zs)) (fun _ _ => False) (updL (fun _ => 0) 0 zs)) = V_product S K := by kernel_rfl
theorem t_folded (S K) : (allB (bdsL k_folded.args) fun zs => (k_folded.tree Tryd.prog gl (calS [] [] 33 34 37) liX 600 6).holds S (LeafK k_folded.res (K zs)) (fun _ _ => False) (updL (fun _ => 0) 0 zs)) = V_folded S K := by kernel_rfl
theorem t_reduced (S K) : (allB (bdsL k_reduced.args) fun zs => (k_reduced.tree Tryd.prog gl (calS [] [k_folded, k_plus, k_minus] 33 34 37) liX 600 6).holds S (LeafK k_reduced.res (K zs)) (fun _ _ => False) (updL (fun _ => 0) 0 zs)) = V_reduced S K := by kernel_rfl
theorem t_left (S K) : (allB (bdsL k_left.args) fun zs => (k_left.tree Tryd.prog gl (calS [] [k_reduced] 33 34 37) liX 600 6).holds S (LeafK k_left.res (K zs)) (fun _ _ => False) (updL (fun _ => 0) 0 zs)) = V_left S K := by kernel_rfl
theorem t_wide (S K) : (allB (bdsL k_wide.args) fun zs => (k_wide.tree Tryd.prog gl (calS [] [] 33 34 37) liX 600 6).holds S (LeafK k_wide.res (K zs)) (fun _ _ => False) (updL (fun _ => 0) 0 zs)) = V_wide S K := by kernel_rfl
theorem t_right (S K) : (allB (bdsL k_right.args) fun zs => (k_right.tree Tryd.prog gl (calS [k_load] [k_minus] 33 34 37) liX 600 6).holds S (LeafK k_right.res (K zs)) (fun _ _ => False) (updL (fun _ => 0) 0 zs)) = V_right S K := by kernel_rfl
theorem t_neg (S K) : (allB (bdsL k_neg.args) fun zs => (k_neg.tree Tryd.prog gl (calS [k_load] [k_left, k_minus, k_bytes] 33 34 37) liX 600 6).holds S (LeafK k_neg.res (K zs)) (fun _ _ => False) (updL (fun _ => 0) 0 zs)) = V_neg S K := by kernel_rfl
theorem t_reduce (S K) : (allB (bdsL k_reduce.args) fun zs => (k_reduce.tree Tryd.prog gl (calS [k_loada, k_loadb] [k_reduced, k_bytes] 33 34 37) liX 600 6).holds S (LeafK k_reduce.res (K zs)) (fun _ _ => False) (updL (fun _ => 0) 0 zs)) = V_reduce S K := by kernel_rfl
theorem t_muladd (S K) : (allB (bdsL k_muladd.args) fun zs => (k_muladd.tree Tryd.prog gl (calS [k_load] [k_product, k_reduced, k_left, k_plus, k_bytes] 33 34 37) liX 600 6).holds S (LeafK k_muladd.res (K zs)) (fun _ _ => False) (updL (fun _ => 0) 0 zs)) = V_muladd S K := by kernel_rfl
theorem t_clamp (S K) : (allB (bdsL k_clamp.args) fun zs => (k_clamp.tree Tryd.prog gl (calS [] [] 33 34 37) liX 600 6).holds S (LeafK k_clamp.res (K zs)) (fun _ _ => False) (updL (fun _ => 0) 0 zs)) = V_clamp S K := by kernel_rfl
theorem t_rbytes (S K) : (allB (bdsL k_rbytes.args) fun zs => (k_rbytes.tree Tryd.prog gl (calS [] [] 33 34 37) liX 600 6).holds S (LeafK k_rbytes.res (K zs)) (fun _ _ => False) (updL (fun _ => 0) 0 zs)) = V_rbytes S K := by kernel_rfl
theorem t_rl (S K) : (allB (bdsL k_rl.args) fun zs => (k_rl.tree Tryd.prog gl (calS [] [] 33 34 37) liX 600 6).holds S (LeafK k_rl.res (K zs)) (fun _ _ => False) (updL (fun _ => 0) 0 zs)) = V_rl S K := by kernel_rfl
theorem t_rless (S K) : (allB (bdsL k_rless.args) fun zs => (k_rless.tree Tryd.prog gl (calS [] [] 33 34 37) liX 600 6).holds S (LeafK k_rless.res (K zs)) (fun _ _ => False) (updL (fun _ => 0) 0 zs)) = V_rless S K := by kernel_rfl
theorem t_rload (S K) : (allB (bdsL k_rload.args) fun zs => (k_rload.tree Tryd.prog gl (calS [] [] 33 34 37) liX 600 6).holds S (LeafK k_rload.res (K zs)) (fun _ _ => False) (updL (fun _ => 0) 0 zs)) = V_rload S K := by kernel_rfl
theorem t_rminus (S K) : (allB (bdsL k_rminus.args) fun zs => (k_rminus.tree Tryd.prog gl (calS [] [] 33 34 37) liX 600 6).holds S (LeafK k_rminus.res (K zs)) (fun _ _ => False) (updL (fun _ => 0) 0 zs)) = V_rminus S K := by kernel_rfl
theorem t_rplus (S K) : (allB (bdsL k_rplus.args) fun zs => (k_rplus.tree Tryd.prog gl (calS [] [] 33 34 37) liX 600 6).holds S (LeafK k_rplus.res (K zs)) (fun _ _ => False) (updL (fun _ => 0) 0 zs)) = V_rplus S K := by kernel_rfl
theorem t_rsum (S K) : (allB (bdsL k_rsum.args) fun zs => (k_rsum.tree Tryd.prog gl (calS [] [k_rplus, k_rless, k_rminus, k_rl] 33 34 37) liX 600 6).holds S (LeafK k_rsum.res (K zs)) (fun _ _ => False) (updL (fun _ => 0) 0 zs)) = V_rsum S K := by kernel_rfl
theorem t_rleft (S K) : (allB k_rleft.bds fun zs => (k_rleft.tree Tryd.prog gl (calS [] [k_rsum] 33 34 37) (liL 255) 600 6).holds S (LeafK k_rleft.res (K zs)) (fun _ _ => False) (updL (fun _ => 0) 0 zs)) = V_rleft S K := by kernel_rfl
theorem t_rleftb (S K) : (allB k_rleftb.bds fun zs => (k_rleftb.tree Tryd.prog gl (calS [] [k_rsum] 33 34 37) (liL 511) 600 6).holds S (LeafK k_rleftb.res (K zs)) (fun _ _ => False) (updL (fun _ => 0) 0 zs)) = V_rleftb S K := by kernel_rfl
theorem t_rright (S K) : (allB (bdsL k_rright.args) fun zs => (k_rright.tree Tryd.prog gl (calS [] [k_rless, k_rload, k_rl] 33 34 37) liX 600 6).holds S (LeafK k_rright.res (K zs)) (fun _ _ => False) (updL (fun _ => 0) 0 zs)) = V_rright S K := by kernel_rfl
theorem t_rneg (S K) : (allB (bdsL k_rneg.args) fun zs => (k_rneg.tree Tryd.prog gl (calS [k_rleft] [k_rminus, k_rl, k_rbytes] 33 34 37) liX 600 6).holds S (LeafK k_rneg.res (K zs)) (fun _ _ => False) (updL (fun _ => 0) 0 zs)) = V_rneg S K := by kernel_rfl
theorem t_rclamp (S K) : (allB (bdsL k_rclamp.args) fun zs => (k_rclamp.tree Tryd.prog gl (calS [] [] 33 34 37) liX 600 6).holds S (LeafK k_rclamp.res (K zs)) (fun _ _ => False) (updL (fun _ => 0) 0 zs)) = V_rclamp S K := by kernel_rfl
theorem t_rreduce (S K) : (allB (bdsL k_rreduce.args) fun zs => (k_rreduce.tree Tryd.prog gl (calS [k_rleftb] [k_rbytes] 33 34 37) liX 600 6).holds S (LeafK k_rreduce.res (K zs)) (fun _ _ => False) (updL (fun _ => 0) 0 zs)) = V_rreduce S K := by kernel_rfl
theorem t_rmuladd (S K) : (allB (bdsL k_rmuladd.args) fun zs => (k_rmuladd.tree Tryd.prog gl (calS [k_rleft] [k_rsum, k_rbytes] 33 34 37) liX 600 6).holds S (LeafK k_rmuladd.res (K zs)) (fun _ _ => False) (updL (fun _ => 0) 0 zs)) = V_rmuladd S K := by kernel_rfl
end Go.Sc
