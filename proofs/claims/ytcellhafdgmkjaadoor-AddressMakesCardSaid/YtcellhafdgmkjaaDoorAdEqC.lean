/- AdEqC: a part of the proof of statements of this seat. -/
import Derived.Test.YtcellhafdgmkjaaDoorAdV4
import Derived.Test.YtcellhafdgmkjaaDoorAdD
import Derived.Test.YtcellhafdgmkjaaDoorProg
import Derived.KernelRfl
set_option maxRecDepth 100000
namespace Go.Ad
open Go Go.Rx Go.Proofs
theorem u_great (S K) : VcB sh lsh_none S K [1] (bdsL k_great.args) k_great.res (k_great.tree Tryd.prog [] (calQ [] []) li_none 600 6) = B_great S K := by kernel_rfl
theorem u_digit (S K) : VcB sh lsh_none S K [1] (bdsL k_digit.args) k_digit.res (k_digit.tree Tryd.prog [] (calQ [] []) li_none 600 6) = B_digit S K := by kernel_rfl
theorem u_rhost (S K) : VcB sh lsh_rhost S K [1] (bdsL k_rhost.args) k_rhost.res (k_rhost.tree Tryd.prog [] (calQ [] [k_small, k_great, k_digit]) li_rhost 600 6) = B_rhost S K := by kernel_rfl
theorem u_rcountry (S K) : VcB sh lsh_none S K [1] (bdsL k_rcountry.args) k_rcountry.res (k_rcountry.tree Tryd.prog [] (calQ [] []) li_none 600 6) = B_rcountry S K := by kernel_rfl
theorem u_rphone (S K) : VcB sh lsh_rphone S K [1, 1] (bdsL k_rphone.args) k_rphone.res (q_rphone.tree Tryd.prog [] (calQ [] [k_rcountry]) li_rphone 600 6) = B_rphone S K := by kernel_rfl
theorem u_remail (S K) : VcB sh lsh_remail S K [1] (bdsL k_remail.args) k_remail.res (k_remail.tree Tryd.prog [] (calQ [] [k_rlocal, k_rhost, k_rhas, k_rlow]) li_remail 600 6) = B_remail S K := by kernel_rfl
theorem u_email (S K) : VcB sh lsh_none S K [1] (bdsL k_email.args) k_email.res (k_email.tree Tryd.prog [] (calQ [] [k_tsp, k_cutat, k_local, k_cdot, k_server, k_low, k_ibs]) li_none 600 6) = B_email S K := by kernel_rfl
theorem u_tpre (S K) : VcB sh lsh_none S K [1, 1] (bdsL k_tpre.args) k_tpre.res (k_tpre.tree Tryd.prog [] (calQ [] []) li_none 600 6) = B_tpre S K := by kernel_rfl
theorem u_phone (S K) : VcB sh lsh_none S K [1, 1] (bdsL k_phone.args) k_phone.res (q_phone.tree Tryd.prog [] (calQ [q_bare] [k_country, k_tpre]) li_none 600 6) = B_phone S K := by kernel_rfl
theorem u_make (S K) : VcB sh lsh_none S K [1, 1] (bdsL k_make.args) k_make.res (q_make.tree Tryd.prog [] (calQ [q_phone] [k_email]) li_none 600 6) = B_make S K := by kernel_rfl
theorem u_rmake (S K) : VcB sh lsh_none S K [1, 1] (bdsL k_rmake.args) k_rmake.res (q_rmake.tree Tryd.prog [] (calQ [q_rphone] [k_remail]) li_none 600 6) = B_rmake S K := by kernel_rfl
theorem u_right (S K) : VcB sh lsh_none S K [2] (bdsL k_right.args) k_right.res (q_right.tree Tryd.prog [] (calQ [q_make] []) li_none 600 6) = B_right S K := by kernel_rfl
theorem u_rright (S K) : VcB sh lsh_none S K [2] (bdsL k_rright.args) k_rright.res (q_rright.tree Tryd.prog [] (calQ [q_rmake] []) li_none 600 6) = B_rright S K := by kernel_rfl
theorem u_text (S K) : VcB sh lsh_none S K [2] (bdsL k_text.args) k_text.res (q_text.tree Tryd.prog [] (calQ [] []) li_none 600 6) = B_text S K := by kernel_rfl
theorem u_alive (S K) : VcB sh lsh_none S K [] (bdsL k_alive.args) k_alive.res (k_alive.tree Tryd.prog [] (calQ [q_phone] [k_email]) li_none 600 6) = B_alive S K := by kernel_rfl
theorem u_lemails (S K) : VcB sh lsh_none S K [1] (bdsL k_lemails.args) k_lemails.res (k_lemails.tree Tryd.prog [] (calQ [] [k_alive, k_email, k_remail]) li_none 600 6) = B_lemails S K := by kernel_rfl
theorem u_lphones (S K) : VcB sh lsh_none S K [1, 1] (bdsL k_lphones.args) k_lphones.res (k_lphones.tree Tryd.prog [] (calQ [q_phone, q_rphone] [k_alive]) li_none 600 6) = B_lphones S K := by kernel_rfl
theorem u_rless (S K) : VcB sh lsh_none S K [2, 2] (bdsL k_rless.args) k_rless.res (k_rless.tree Tryd.prog [] (calQ [] []) li_none 600 6) = B_rless S K := by kernel_rfl
theorem u_less (S K) : VcB sh lsh_none S K [2, 2] (bdsL k_less.args) k_less.res (k_less.tree Tryd.prog [] (calQ [] []) li_none 600 6) = B_less S K := by kernel_rfl
theorem u_lorder (S K) : VcB sh lsh_none S K [2, 2, 2] (bdsL k_lorder.args) k_lorder.res (k_lorder.tree Tryd.prog [] (calQ [] [k_alive, k_less]) li_none 600 6) = B_lorder S K := by kernel_rfl
theorem u_lmakes (S K) : VcB sh lsh_none S K [2, 2] (bdsL k_lmakes.args) k_lmakes.res (q_lmakes.tree Tryd.prog [] (calQ [q_make, q_rmake, q_right, q_rright, q_text] [k_alive, k_less, k_rless]) li_none 600 6) = B_lmakes S K := by kernel_rfl
end Go.Ad
