/- AdEqD: a part of the proof of statements of this seat. -/
import Derived.Test.YtkedgkbkibncgaaDoorPak
import Derived.Test.YtkedgkbkibncgaaDoorPai
import Derived.Test.YtkedgkbkibncgaaDoorProg
import Derived.KernelRfl
set_option maxRecDepth 100000
namespace Go.Ad
open Go Go.Rx Go.Proofs
theorem u_lsparts (S K) : VcF sh lsh_none S K [1, 1, 1] (bbds k_lsparts.args) k_lsparts.res (k_lsparts.tree (pcOf [pc_sum32, pc_sum64, pc_sum32d, pc_sum64c] (bcOf [k_aalive])) Tryd.prog gl07 (calQ [] []) li_none 600 6) = B_lsparts S K := by kernel_rfl
end Go.Ad
