/- AdEqC: a part of the proof of statements of this seat. -/
import Derived.Test.YtkedgkbkibncgaaDoorPaj
import Derived.Test.YtkedgkbkibncgaaDoorPai
import Derived.Test.YtkedgkbkibncgaaDoorProg
import Derived.KernelRfl
set_option maxRecDepth 100000
namespace Go.Ad
open Go Go.Rx Go.Proofs
theorem u_all64 (S K) : VcF sh lsh_all64 S K [1] (bbds k_all64.args) k_all64.res (r_all64.tree (bodyR Tryd.prog gl07 (calQ [] [k_gk_64, k_g2_64, k_g3_64, k_g4_64, k_g5_64]) (callB (bcOf [k_cl64]) Tryd.prog gl07 (calQ [] [k_gk_64, k_g2_64, k_g3_64, k_g4_64, k_g5_64]) li_all64 600 6) li_all64 600 [(1, 0, 0, 18446744073709551615), (1, 1, 0, 18446744073709551615), (1, 2, 0, 18446744073709551615), (1, 3, 0, 18446744073709551615), (1, 4, 0, 18446744073709551615), (1, 5, 0, 18446744073709551615), (1, 6, 0, 18446744073709551615), (1, 7, 0, 18446744073709551615)] 43)) = B_all64 S K := by kernel_rfl
end Go.Ad
