/- AdEqA: a part of the proof of statements of this seat. -/
import Derived.Test.YtlecfjcooglpoaaDoorAdI5
import Derived.Test.YtlecfjcooglpoaaDoorDfs
import Derived.Test.YtlecfjcooglpoaaDoorProg
import Derived.KernelRfl
set_option maxRecDepth 100000
namespace Go.Ad
open Go Go.Rx Go.Proofs
theorem u_cutcol (S K) : VcB sh lsh_none S K [1] (bdsL k_cutcol.args) k_cutcol.res (k_cutcol.tree Tryd.prog [] (calQ [] [k_ibs]) li_none 600 6) = B_cutcol S K := by kernel_rfl
theorem u_ionly (S K) : VcB sh lsh_ionly S K [1, 1] (bdsL k_ionly.args) k_ionly.res (k_ionly.tree Tryd.prog [] (calQ [] [k_ibs]) li_ionly 600 6) = B_ionly S K := by kernel_rfl
theorem u_tdm (S K) : VcB sh lsh_tdm S K [1] (bdsL k_tdm.args) k_tdm.res (k_tdm.tree Tryd.prog [] (calQ [] []) li_tdm 600 6) = B_tdm S K := by kernel_rfl
theorem u_thost (S K) : VcB sh lsh_thost S K [1] (bdsL k_thost.args) k_thost.res (k_thost.tree Tryd.prog [] (calQ [] []) li_thost 600 6) = B_thost S K := by kernel_rfl
theorem u_tdig (S K) : VcB sh lsh_tdig S K [1] (bdsL k_tdig.args) k_tdig.res (k_tdig.tree Tryd.prog [] (calQ [] []) li_tdig 600 6) = B_tdig S K := by kernel_rfl
theorem u_host (S K) : VcB sh lsh_none S K [1] (bdsL k_host.args) k_host.res (k_host.tree Tryd.prog [] (calQ [q_cdd] [k_thost, k_tdm, k_ionly]) li_none 600 6) = B_host S K := by kernel_rfl
theorem u_server (S K) : VcB sh lsh_none S K [1] (bdsL k_server.args) k_server.res (k_server.tree Tryd.prog [] (calQ [] [k_cutcol, k_host, k_tdig, k_ionly]) li_none 600 6) = B_server S K := by kernel_rfl
theorem u_small (S K) : VcB sh lsh_none S K [1] (bdsL k_small.args) k_small.res (k_small.tree Tryd.prog [] (calQ [] []) li_none 600 6) = B_small S K := by kernel_rfl
theorem u_great (S K) : VcB sh lsh_none S K [1] (bdsL k_great.args) k_great.res (k_great.tree Tryd.prog [] (calQ [] []) li_none 600 6) = B_great S K := by kernel_rfl
theorem u_digit (S K) : VcB sh lsh_none S K [1] (bdsL k_digit.args) k_digit.res (k_digit.tree Tryd.prog [] (calQ [] []) li_none 600 6) = B_digit S K := by kernel_rfl
theorem u_rhost (S K) : VcB sh lsh_rhost S K [1] (bdsL k_rhost.args) k_rhost.res (k_rhost.tree Tryd.prog [] (calQ [] [k_small, k_great, k_digit]) li_rhost 600 6) = B_rhost S K := by kernel_rfl
theorem u_tus (S K) : VcB sh lsh_tus S K [1] (bdsL k_tus.args) k_tus.res (k_tus.tree Tryd.prog [] (calQ [] []) li_tus 600 6) = B_tus S K := by kernel_rfl
theorem u_trs (S K) : VcB sh lsh_trs S K [1] (bdsL k_trs.args) k_trs.res (k_trs.tree Tryd.prog [] (calQ [] []) li_trs 600 6) = B_trs S K := by kernel_rfl
end Go.Ad
