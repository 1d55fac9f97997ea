/- AdEqB: a part of the proof of statements of this seat. -/
import Derived.Test.YtcellhafdgmkjaaDoorAdV4
import Derived.Test.YtcellhafdgmkjaaDoorAdD
import Derived.Test.YtcellhafdgmkjaaDoorProg
import Derived.KernelRfl
set_option maxRecDepth 100000
namespace Go.Ad
open Go Go.Rx Go.Proofs
theorem u_rhas (S K) : VcB sh lsh_rhas S K [1, 1] (bdsL k_rhas.args) k_rhas.res (k_rhas.tree Tryd.prog [] (calQ [] []) li_rhas 600 6) = B_rhas S K := by kernel_rfl
theorem u_thost (S K) : VcB sh lsh_thost S K [1] (bdsL k_thost.args) k_thost.res (k_thost.tree Tryd.prog [] (calQ [] []) li_thost 600 6) = B_thost S K := by kernel_rfl
theorem u_tdig (S K) : VcB sh lsh_tdig S K [1] (bdsL k_tdig.args) k_tdig.res (k_tdig.tree Tryd.prog [] (calQ [] []) li_tdig 600 6) = B_tdig S K := by kernel_rfl
theorem u_host (S K) : VcB sh lsh_none S K [1] (bdsL k_host.args) k_host.res (k_host.tree Tryd.prog [] (calQ [q_cdd] [k_thost, k_tdm, k_ionly]) li_none 600 6) = B_host S K := by kernel_rfl
theorem u_server (S K) : VcB sh lsh_none S K [1] (bdsL k_server.args) k_server.res (k_server.tree Tryd.prog [] (calQ [] [k_cutcol, k_host, k_tdig, k_ionly]) li_none 600 6) = B_server S K := by kernel_rfl
theorem u_local (S K) : VcB sh lsh_none S K [1] (bdsL k_local.args) k_local.res (k_local.tree Tryd.prog [] (calQ [q_cdd] [k_only, k_tdot]) li_none 600 6) = B_local S K := by kernel_rfl
theorem u_rlocal (S K) : VcB sh lsh_rlocal S K [1] (bdsL k_rlocal.args) k_rlocal.res (k_rlocal.tree Tryd.prog [] (calQ [] []) li_rlocal 600 6) = B_rlocal S K := by kernel_rfl
theorem u_small (S K) : VcB sh lsh_none S K [1] (bdsL k_small.args) k_small.res (k_small.tree Tryd.prog [] (calQ [] []) li_none 600 6) = B_small S K := by kernel_rfl
end Go.Ad
