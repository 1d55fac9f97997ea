/- AdEqB: a part of the proof of statements of this seat. -/
import Derived.Test.YtkedgkbkibncgaaDoorPaj
import Derived.Test.YtkedgkbkibncgaaDoorPai
import Derived.Test.YtkedgkbkibncgaaDoorProg
import Derived.KernelRfl
set_option maxRecDepth 100000
namespace Go.Ad
open Go Go.Rx Go.Proofs
theorem u_all32 (S K) : VcF sh lsh_all32 S K [1] (bbds k_all32.args) k_all32.res (r_all32.tree (bodyR Tryd.prog gl07 (calQ [] [k_gk_32, k_g2_32, k_g3_32, k_g4_32, k_g5_32]) (callB (bcOf [k_cl32]) Tryd.prog gl07 (calQ [] [k_gk_32, k_g2_32, k_g3_32, k_g4_32, k_g5_32]) li_all32 600 6) li_all32 600 [(1, 0, 0, 4294967295), (1, 1, 0, 4294967295), (1, 2, 0, 4294967295), (1, 3, 0, 4294967295), (1, 4, 0, 4294967295), (1, 5, 0, 4294967295), (1, 6, 0, 4294967295), (1, 7, 0, 4294967295)] 43)) = B_all32 S K := by kernel_rfl
end Go.Ad
