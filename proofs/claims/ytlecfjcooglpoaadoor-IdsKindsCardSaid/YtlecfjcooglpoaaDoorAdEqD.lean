/- AdEqD: a part of the proof of statements of this seat. -/
import Derived.Test.YtlecfjcooglpoaaDoorAdI5
import Derived.Test.YtlecfjcooglpoaaDoorDfs
import Derived.Test.YtlecfjcooglpoaaDoorProg
import Derived.KernelRfl
set_option maxRecDepth 100000
namespace Go.Ad
open Go Go.Rx Go.Proofs
theorem u_idec (S K) : VcF sh lsh_idec S K [1] (bbds k_idec.args) k_idec.res (k_idec.tree (bcOf []) Tryd.prog [] (calQ [] [k_ibsafe]) li_idec 600 6) = B_idec S K := by kernel_rfl
theorem u_event (S K) : VcF sh lsh_none S K [1] (bbds k_event.args) k_event.res (k_event.tree (bcOf [k_idec]) Tryd.prog [] (calQ [] []) li_none 600 6) = B_event S K := by kernel_rfl
theorem u_revent (S K) : VcF sh lsh_none S K [1] (bbds k_revent.args) k_revent.res (k_revent.tree (bcOf [k_rdec]) Tryd.prog [] (calQ [] []) li_none 600 6) = B_revent S K := by kernel_rfl
theorem u_ialive (S K) : VcF sh lsh_none S K [] (bbds k_ialive.args) k_ialive.res (k_ialive.tree (bcOf [k_ienc, k_event]) Tryd.prog [] (calQ [] [k_split, k_user, k_room, k_server]) li_none 600 6) = B_ialive S K := by kernel_rfl
theorem u_lnames (S K) : VcF sh lsh_none S K [1] (bbds k_lnames.args) k_lnames.res (k_lnames.tree (bcOf [k_ialive, k_event, k_revent]) Tryd.prog [] (calQ [] [k_split, k_rsplit, k_server, k_rserver, k_user, k_ruser, k_room, k_rroom]) li_none 600 6) = B_lnames S K := by kernel_rfl
theorem u_lkinds (S K) : VcF sh lsh_none S K [1] (bbds k_lkinds.args) k_lkinds.res (k_lkinds.tree (bcOf [k_ialive, k_event]) Tryd.prog [] (calQ [] [k_server, k_user, k_room]) li_none 600 6) = B_lkinds S K := by kernel_rfl
theorem u_lports (S K) : VcF sh lsh_lports S K [1, 1] (bbds k_lports.args) k_lports.res (k_lports.tree (bcOf [k_ialive]) Tryd.prog [] (calQ [] [k_server]) li_lports 600 6) = B_lports S K := by kernel_rfl
end Go.Ad
