/- AdEqB: a part of the proof of statements of this seat. -/
import Derived.Test.YtcellhafdgmkjaaDoorAdL1
import Derived.Test.YtcellhafdgmkjaaDoorDfs
import Derived.Test.YtcellhafdgmkjaaDoorProg
import Derived.KernelRfl
set_option maxRecDepth 100000
namespace Go.Ad
open Go Go.Rx Go.Proofs
theorem u_rhas (S K) : VcB sh lsh_rhas S K [1, 1] (bdsL k_rhas.args) k_rhas.res (k_rhas.tree Tryd.prog [] (calQ [] []) li_rhas 600 6) = B_rhas S K := by kernel_rfl
theorem u_thost (S K) : VcB sh lsh_thost S K [1] (bdsL k_thost.args) k_thost.res (k_thost.tree Tryd.prog [] (calQ [] []) li_thost 600 6) = B_thost S K := by kernel_rfl
theorem u_tdig (S K) : VcB sh lsh_tdig S K [1] (bdsL k_tdig.args) k_tdig.res (k_tdig.tree Tryd.prog [] (calQ [] []) li_tdig 600 6) = B_tdig S K := by kernel_rfl
theorem u_host (S K) : VcB sh lsh_none S K [1] (bdsL k_host.args) k_host.res (k_host.tree Tryd.prog [] (calQ [q_cdd] [k_thost, k_tdm, k_ionly]) li_none 600 6) = B_host S K := by kernel_rfl
theorem u_server (S K) : VcB sh lsh_none S K [1] (bdsL k_server.args) k_server.res (k_server.tree Tryd.prog [] (calQ [] [k_cutcol, k_host, k_tdig, k_ionly]) li_none 600 6) = B_server S K := by kernel_rfl
theorem u_local (S K) : VcB sh lsh_none S K [1] (bdsL k_local.args) k_local.res (k_local.tree Tryd.prog [] (calQ [q_cdd] [k_only, k_tdot]) li_none 600 6) = B_local S K := by kernel_rfl
theorem u_rlocal (S K) : VcB sh lsh_rlocal S K [1] (bdsL k_rlocal.args) k_rlocal.res (k_rlocal.tree Tryd.prog [] (calQ [] []) li_rlocal 600 6) = B_rlocal S K := by kernel_rfl
theorem u_small (S K) : VcB sh lsh_none S K [1] (bdsL k_small.args) k_small.res (k_small.tree Tryd.prog [] (calQ [] []) li_none 600 6) = B_small S K := by kernel_rfl
theorem u_great (S K) : VcB sh lsh_none S K [1] (bdsL k_great.args) k_great.res (k_great.tree Tryd.prog [] (calQ [] []) li_none 600 6) = B_great S K := by kernel_rfl
theorem u_digit (S K) : VcB sh lsh_none S K [1] (bdsL k_digit.args) k_digit.res (k_digit.tree Tryd.prog [] (calQ [] []) li_none 600 6) = B_digit S K := by kernel_rfl
theorem u_rhost (S K) : VcB sh lsh_rhost S K [1] (bdsL k_rhost.args) k_rhost.res (k_rhost.tree Tryd.prog [] (calQ [] [k_small, k_great, k_digit]) li_rhost 600 6) = B_rhost S K := by kernel_rfl
theorem u_rcountry (S K) : VcB sh lsh_none S K [1] (bdsL k_rcountry.args) k_rcountry.res (k_rcountry.tree Tryd.prog [] (calQ [] []) li_none 600 6) = B_rcountry S K := by kernel_rfl
theorem u_email (S K) : VcB sh lsh_none S K [1] (bdsL k_email.args) k_email.res (k_email.tree Tryd.prog [] (calQ [] [k_tsp, k_cutat, k_local, k_cdot, k_server, k_low, k_ibs]) li_none 600 6) = B_email S K := by kernel_rfl
theorem u_tpre (S K) : VcB sh lsh_none S K [1, 1] (bdsL k_tpre.args) k_tpre.res (k_tpre.tree Tryd.prog [] (calQ [] []) li_none 600 6) = B_tpre S K := by kernel_rfl
end Go.Ad
