/- AdEqA: a part of the proof of statements of this seat. -/
import Derived.Test.YtcellhafdgmkjaaDoorAdV4
import Derived.Test.YtcellhafdgmkjaaDoorAdD
import Derived.Test.YtcellhafdgmkjaaDoorProg
import Derived.KernelRfl
set_option maxRecDepth 100000
namespace Go.Ad
open Go Go.Rx Go.Proofs
theorem u_tlb (S K) : VcB sh lsh_tlb S K [1, 1] (bdsL k_tlb.args) k_tlb.res (k_tlb.tree Tryd.prog [] (calQ [] []) li_tlb 600 6) = B_tlb S K := by kernel_rfl
theorem u_trb (S K) : VcB sh lsh_trb S K [1, 1] (bdsL k_trb.args) k_trb.res (k_trb.tree Tryd.prog [] (calQ [] []) li_trb 600 6) = B_trb S K := by kernel_rfl
theorem u_tsp (S K) : VcB sh lsh_none S K [1] (bdsL k_tsp.args) k_tsp.res (k_tsp.tree Tryd.prog [] (calQ [] [k_tlb, k_trb]) li_none 600 6) = B_tsp S K := by kernel_rfl
theorem u_tdot (S K) : VcB sh lsh_none S K [1] (bdsL k_tdot.args) k_tdot.res (k_tdot.tree Tryd.prog [] (calQ [] [k_tlb, k_trb]) li_none 600 6) = B_tdot S K := by kernel_rfl
theorem u_tdm (S K) : VcB sh lsh_tdm S K [1] (bdsL k_tdm.args) k_tdm.res (k_tdm.tree Tryd.prog [] (calQ [] []) li_tdm 600 6) = B_tdm S K := by kernel_rfl
theorem u_cutat (S K) : VcB sh lsh_none S K [1] (bdsL k_cutat.args) k_cutat.res (k_cutat.tree Tryd.prog [] (calQ [] [k_ibs]) li_none 600 6) = B_cutat S K := by kernel_rfl
theorem u_cutcol (S K) : VcB sh lsh_none S K [1] (bdsL k_cutcol.args) k_cutcol.res (k_cutcol.tree Tryd.prog [] (calQ [] [k_ibs]) li_none 600 6) = B_cutcol S K := by kernel_rfl
theorem u_cdot (S K) : VcB sh lsh_none S K [1] (bdsL k_cdot.args) k_cdot.res (k_cdot.tree Tryd.prog [] (calQ [] [k_ibs]) li_none 600 6) = B_cdot S K := by kernel_rfl
theorem u_only (S K) : VcB sh lsh_only S K [1, 1] (bdsL k_only.args) k_only.res (k_only.tree Tryd.prog [] (calQ [] [k_ibs]) li_only 600 6) = B_only S K := by kernel_rfl
theorem u_ionly (S K) : VcB sh lsh_ionly S K [1, 1] (bdsL k_ionly.args) k_ionly.res (k_ionly.tree Tryd.prog [] (calQ [] [k_ibs]) li_ionly 600 6) = B_ionly S K := by kernel_rfl
theorem u_low (S K) : VcB sh lsh_low S K [1] (bdsL k_low.args) k_low.res (k_low.tree Tryd.prog [] (calQ [] []) li_low 600 6) = B_low S K := by kernel_rfl
theorem u_rlow (S K) : VcB sh lsh_rlow S K [1] (bdsL k_rlow.args) k_rlow.res (k_rlow.tree Tryd.prog [] (calQ [] []) li_rlow 600 6) = B_rlow S K := by kernel_rfl
end Go.Ad
