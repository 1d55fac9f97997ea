/- AdEqD: a part of the proof of statements of this seat. -/
import Derived.Test.YtcellhafdgmkjaaDoorAdL1
import Derived.Test.YtcellhafdgmkjaaDoorDfs
import Derived.Test.YtcellhafdgmkjaaDoorProg
import Derived.KernelRfl
set_option maxRecDepth 100000
namespace Go.Ad
open Go Go.Rx Go.Proofs
theorem u_alive (S K) : VcB sh lsh_none S K [] (bdsL k_alive.args) k_alive.res (k_alive.tree Tryd.prog [] (calQ [q_phone] [k_email]) li_none 600 6) = B_alive S K := by kernel_rfl
theorem u_lemails (S K) : VcB sh lsh_none S K [1] (bdsL k_lemails.args) k_lemails.res (k_lemails.tree Tryd.prog [] (calQ [] [k_alive, k_email, k_remail]) li_none 600 6) = B_lemails S K := by kernel_rfl
theorem u_lphones (S K) : VcB sh lsh_none S K [1, 1] (bdsL k_lphones.args) k_lphones.res (k_lphones.tree Tryd.prog [] (calQ [q_phone, q_rphone] [k_alive]) li_none 600 6) = B_lphones S K := by kernel_rfl
theorem u_lorder (S K) : VcB sh lsh_none S K [2, 2, 2] (bdsL k_lorder.args) k_lorder.res (k_lorder.tree Tryd.prog [] (calQ [] [k_alive, k_less]) li_none 600 6) = B_lorder S K := by kernel_rfl
theorem u_lone (S K) : VcB sh lsh_lone S K [1, 1] (bdsL k_lone.args) k_lone.res (k_lone.tree Tryd.prog [] (calQ [] [k_alive, k_make, k_right, k_rlow]) li_lone 600 6) = B_lone S K := by kernel_rfl
theorem u_ltrunk (S K) : VcF sh lsh_ltrunk S K [1] (bbds k_ltrunk.args) k_ltrunk.res (k_ltrunk.tree (bcOf []) Tryd.prog [] (calQ [q_phone] [k_alive]) li_ltrunk 600 6) = B_ltrunk S K := by kernel_rfl
end Go.Ad
