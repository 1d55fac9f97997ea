/- AdEqC: a part of the proof of statements of this seat. -/
import Derived.Test.YtlecfjcooglpoaaDoorAdI5
import Derived.Test.YtlecfjcooglpoaaDoorDfs
import Derived.Test.YtlecfjcooglpoaaDoorProg
import Derived.KernelRfl
set_option maxRecDepth 100000
namespace Go.Ad
open Go Go.Rx Go.Proofs
theorem u_renc (S K) : VcF sh lsh_renc S K [1] (bbds k_renc.args) k_renc.res (k_renc.tree (bcOf []) Tryd.prog [] (calQ [] []) li_renc 600 6) = B_renc S K := by kernel_rfl
theorem u_rdec (S K) : VcF sh lsh_rdec S K [1] (bbds k_rdec.args) k_rdec.res (k_rdec.tree (bcOf [k_renc]) Tryd.prog [] (calQ [] []) li_rdec 600 6) = B_rdec S K := by kernel_rfl
end Go.Ad
