/- AdEqB: a part of the proof of statements of this seat. -/
import Derived.Test.YtlecfjcooglpoaaDoorAdI5
import Derived.Test.YtlecfjcooglpoaaDoorDfs
import Derived.Test.YtlecfjcooglpoaaDoorProg
import Derived.KernelRfl
set_option maxRecDepth 100000
namespace Go.Ad
open Go Go.Rx Go.Proofs
theorem u_user (S K) : VcB sh lsh_none S K [1] (bdsL k_user.args) k_user.res (k_user.tree Tryd.prog [] (calQ [] [k_cutcol, k_tus, k_ionly, k_server]) li_none 600 6) = B_user S K := by kernel_rfl
theorem u_room (S K) : VcB sh lsh_none S K [1] (bdsL k_room.args) k_room.res (k_room.tree Tryd.prog [] (calQ [] [k_cutcol, k_trs, k_ionly, k_server]) li_none 600 6) = B_room S K := by kernel_rfl
theorem u_colon (S K) : VcB sh lsh_colon S K [1] (bdsL k_colon.args) k_colon.res (k_colon.tree Tryd.prog [] (calQ [] []) li_colon 600 6) = B_colon S K := by kernel_rfl
theorem u_rserver (S K) : VcB sh lsh_rserver S K [1] (bdsL k_rserver.args) k_rserver.res (k_rserver.tree Tryd.prog [] (calQ [] [k_colon, k_rhost, k_digit]) li_rserver 600 6) = B_rserver S K := by kernel_rfl
theorem u_partsu (S K) : VcB sh lsh_none S K [1, 1] (bdsL k_partsu.args) k_partsu.res (k_partsu.tree Tryd.prog [] (calQ [] [k_colon, k_rserver]) li_none 600 6) = B_partsu S K := by kernel_rfl
theorem u_partsr (S K) : VcB sh lsh_none S K [1, 1] (bdsL k_partsr.args) k_partsr.res (k_partsr.tree Tryd.prog [] (calQ [] [k_colon, k_rserver]) li_none 600 6) = B_partsr S K := by kernel_rfl
theorem u_ruser (S K) : VcB sh lsh_ruser S K [1] (bdsL k_ruser.args) k_ruser.res (k_ruser.tree Tryd.prog [] (calQ [] [k_partsu, k_small, k_digit]) li_ruser 600 6) = B_ruser S K := by kernel_rfl
theorem u_rroom (S K) : VcB sh lsh_rroom S K [1] (bdsL k_rroom.args) k_rroom.res (k_rroom.tree Tryd.prog [] (calQ [] [k_partsr, k_small, k_great, k_digit]) li_rroom 600 6) = B_rroom S K := by kernel_rfl
theorem u_split (S K) : VcB sh lsh_none S K [1] (bdsL k_split.args) k_split.res (k_split.tree Tryd.prog [] (calQ [] [k_user, k_room, k_cutcol]) li_none 600 6) = B_split S K := by kernel_rfl
theorem u_rsplit (S K) : VcB sh lsh_none S K [1] (bdsL k_rsplit.args) k_rsplit.res (k_rsplit.tree Tryd.prog [] (calQ [] [k_ruser, k_rroom, k_colon]) li_none 600 6) = B_rsplit S K := by kernel_rfl
end Go.Ad
