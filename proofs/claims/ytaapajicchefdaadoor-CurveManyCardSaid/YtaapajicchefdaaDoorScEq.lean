/- ScEq: a part of the proof of statements of this seat. -/
import Derived.Test.YtaapajicchefdaaDoorScVc
import Derived.Test.YtaapajicchefdaaDoorProg
import Derived.KernelRfl
set_option maxRecDepth 100000
namespace Go.Sc
open Go Go.Rx Go.Proofs
theorem t_load (S K) : (allB k_load.bds fun zs => (k_load.tree Tryd.prog gl (calS [] [] 76 77 87) liX 600 6).holds S (LeafK k_load.res (K zs)) (fun _ _ => False) (updL (fun _ => 0) 0 zs)) = V_load S K := by kernel_rfl
theorem t_minus (S K) : (allB (bdsL k_minus.args) fun zs => (k_minus.tree Tryd.prog gl (calS [] [] 76 77 87) liX 600 6).holds S (LeafK k_minus.res (K zs)) (fun _ _ => False) (updL (fun _ => 0) 0 zs)) = V_minus S K := by kernel_rfl
theorem t_plus (S K) : (allB (bdsL k_plus.args) fun zs => (k_plus.tree Tryd.prog gl (calS [] [] 76 77 87) liX 600 6).holds S (LeafK k_plus.res (K zs)) (fun _ _ => False) (updL (fun _ => 0) 0 zs)) = V_plus S K := by kernel_rfl
theorem t_bytes (S K) : (allB (bdsL k_bytes.args) fun zs => (k_bytes.tree Tryd.prog gl (calS [] [] 76 77 87) liX 600 6).holds S (LeafK k_bytes.res (K zs)) (fun _ _ => False) (updL (fun _ => 0) 0 zs)) = V_bytes S K := by kernel_rfl
theorem t_product (S K) : (allB (bdsL k_product.args) fun zs => (k_product.tree Tryd.prog gl (calS [] [] 76 77 87) liX 600 6).holds S (LeafK k_product.res (K zs)) (fun _ _ => False) (updL (fun _ => 0) 0 zs)) = V_product S K := by kernel_rfl
theorem t_folded (S K) : (allB (bdsL k_folded.args) fun zs => (k_folded.tree Tryd.prog gl (calS [] [] 76 77 87) liX 600 6).holds S (LeafK k_folded.res (K zs)) (fun _ _ => False) (updL (fun _ => 0) 0 zs)) = V_folded S K := by kernel_rfl
theorem t_reduced (S K) : (allB (bdsL k_reduced.args) fun zs => (k_reduced.tree Tryd.prog gl (calS [] [k_folded, k_plus, k_minus] 76 77 87) liX 600 6).holds S (LeafK k_reduced.res (K zs)) (fun _ _ => False) (updL (fun _ => 0) 0 zs)) = V_reduced S K := by kernel_rfl
theorem t_left (S K) : (allB (bdsL k_left.args) fun zs => (k_left.tree Tryd.prog gl (calS [] [k_reduced] 76 77 87) liX 600 6).holds S (LeafK k_left.res (K zs)) (fun _ _ => False) (updL (fun _ => 0) 0 zs)) = V_left S K := by kernel_rfl
theorem t_muladd (S K) : (allB (bdsL k_muladd.args) fun zs => (k_muladd.tree Tryd.prog gl (calS [k_load] [k_product, k_reduced, k_left, k_plus, k_bytes] 76 77 87) liX 600 6).holds S (LeafK k_muladd.res (K zs)) (fun _ _ => False) (updL (fun _ => 0) 0 zs)) = V_muladd S K := by kernel_rfl
end Go.Sc
