/- AdEqC: a part of the proof of statements of this seat. -/
import Derived.Test.YtcellhafdgmkjaaDoorAdL1
import Derived.Test.YtcellhafdgmkjaaDoorDfs
import Derived.Test.YtcellhafdgmkjaaDoorProg
import Derived.KernelRfl
set_option maxRecDepth 100000
namespace Go.Ad
open Go Go.Rx Go.Proofs
theorem u_rphone (S K) : VcB sh lsh_rphone S K [1, 1] (bdsL k_rphone.args) k_rphone.res (q_rphone.tree Tryd.prog [] (calQ [] [k_rcountry]) li_rphone 600 6) = B_rphone S K := by kernel_rfl
theorem u_remail (S K) : VcB sh lsh_remail S K [1] (bdsL k_remail.args) k_remail.res (k_remail.tree Tryd.prog [] (calQ [] [k_rlocal, k_rhost, k_rhas, k_rlow]) li_remail 600 6) = B_remail S K := by kernel_rfl
theorem u_phone (S K) : VcB sh lsh_none S K [1, 1] (bdsL k_phone.args) k_phone.res (q_phone.tree Tryd.prog [] (calQ [] [k_country, k_bare, k_tpre]) li_none 600 6) = B_phone S K := by kernel_rfl
theorem u_make (S K) : VcB sh lsh_none S K [1, 1] (bdsL k_make.args) k_make.res (k_make.tree Tryd.prog [] (calQ [q_phone] [k_email]) li_none 600 6) = B_make S K := by kernel_rfl
theorem u_rmake (S K) : VcB sh lsh_none S K [1, 1] (bdsL k_rmake.args) k_rmake.res (k_rmake.tree Tryd.prog [] (calQ [q_rphone] [k_remail]) li_none 600 6) = B_rmake S K := by kernel_rfl
theorem u_right (S K) : VcB sh lsh_none S K [2] (bdsL k_right.args) k_right.res (k_right.tree Tryd.prog [] (calQ [] [k_make]) li_none 600 6) = B_right S K := by kernel_rfl
theorem u_rright (S K) : VcB sh lsh_none S K [2] (bdsL k_rright.args) k_rright.res (k_rright.tree Tryd.prog [] (calQ [] [k_rmake]) li_none 600 6) = B_rright S K := by kernel_rfl
theorem u_rless (S K) : VcB sh lsh_none S K [2, 2] (bdsL k_rless.args) k_rless.res (k_rless.tree Tryd.prog [] (calQ [] []) li_none 600 6) = B_rless S K := by kernel_rfl
theorem u_less (S K) : VcB sh lsh_none S K [2, 2] (bdsL k_less.args) k_less.res (k_less.tree Tryd.prog [] (calQ [] []) li_none 600 6) = B_less S K := by kernel_rfl
end Go.Ad
