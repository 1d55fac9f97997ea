/- CvEqE: a part of the proof of statements of this seat. -/
import Derived.Test.YtaapajicchefdaaDoorCvVcA
import Derived.Test.YtaapajicchefdaaDoorProg
import Derived.KernelRfl
set_option maxRecDepth 100000
namespace Go.Fd
open Go Go.Rx Go.Proofs
theorem u_twice (S K) : VcB sh lsh_none S K [] (bdsL k_twice.args) k_twice.res (k_twice.tree Tryd.prog gl (calS [] [k_plus] 76 77 87) li_none 600 6) = B_twice S K := by kernel_rfl
theorem pl_twice : (k_twice.tree Tryd.prog gl (calS [] [k_plus] 76 77 87) li_none 600 6).plain = true := by kernel_rfl
theorem u_flat (S K) : VcB sh lsh_none S K [5, 5] (bdsL k_flat.args) k_flat.res (k_flat.tree Tryd.prog gl (calS [] [k_times] 76 77 87) li_none 600 6) = B_flat S K := by kernel_rfl
theorem pl_flat : (k_flat.tree Tryd.prog gl (calS [] [k_times] 76 77 87) li_none 600 6).plain = true := by kernel_rfl
theorem u_cbase (S K) : VcB sh lsh_none S K [] (bdsL k_cbase.args) k_cbase.res (k_cbase.tree Tryd.prog gl (calS [] [k_flat] 76 77 87) li_none 600 6) = B_cbase S K := by kernel_rfl
theorem pl_cbase : (k_cbase.tree Tryd.prog gl (calS [] [k_flat] 76 77 87) li_none 600 6).plain = true := by kernel_rfl
theorem u_czero (S K) : VcB sh lsh_none S K [] (bdsL k_czero.args) k_czero.res (k_czero.tree Tryd.prog gl (calS [] [k_flat] 76 77 87) li_none 600 6) = B_czero S K := by kernel_rfl
theorem pl_czero : (k_czero.tree Tryd.prog gl (calS [] [k_flat] 76 77 87) li_none 600 6).plain = true := by kernel_rfl
theorem u_corner (S K) : VcB sh lsh_none S K [5, 5, 5, 5] (bdsL k_corner.args) k_corner.res (k_corner.tree Tryd.prog gl (calS [] [k_times] 76 77 87) li_none 600 6) = B_corner S K := by kernel_rfl
theorem pl_corner : (k_corner.tree Tryd.prog gl (calS [] [k_times] 76 77 87) li_none 600 6).plain = true := by kernel_rfl
theorem u_cplus (S K) : VcB sh lsh_none S K [5, 5, 5, 5, 5, 5, 5, 5] (bdsL k_cplus.args) k_cplus.res (k_cplus.tree Tryd.prog gl (calS [] [k_minus, k_times, k_plus, k_twice, k_corner] 76 77 87) li_none 600 6) = B_cplus S K := by kernel_rfl
theorem pl_cplus : (k_cplus.tree Tryd.prog gl (calS [] [k_minus, k_times, k_plus, k_twice, k_corner] 76 77 87) li_none 600 6).plain = true := by kernel_rfl
theorem u_doubled (S K) : VcB sh lsh_none S K [5, 5, 5] (bdsL k_doubled.args) k_doubled.res (k_doubled.tree Tryd.prog gl (calS [] [k_squared, k_plus, k_minus, k_corner] 76 77 87) li_none 600 6) = B_doubled S K := by kernel_rfl
theorem pl_doubled : (k_doubled.tree Tryd.prog gl (calS [] [k_squared, k_plus, k_minus, k_corner] 76 77 87) li_none 600 6).plain = true := by kernel_rfl
theorem u_many (S K) : VcB sh lsh_many S K [5, 5, 5, 5, 32] (bdsL k_many.args) k_many.res (k_many.tree Tryd.prog gl (calS [] [k_czero, k_doubled, k_cplus] 76 77 87) li_many 600 6) = B_many S K := by kernel_rfl
theorem u_cbytes (S K) : VcB sh lsh_none S K [5, 5, 5] (bdsL k_cbytes.args) k_cbytes.res (k_cbytes.tree Tryd.prog gl (calS [] [k_inverted, k_times, k_bytes, k_odd] 76 77 87) li_none 600 6) = B_cbytes S K := by kernel_rfl
theorem pl_cbytes : (k_cbytes.tree Tryd.prog gl (calS [] [k_inverted, k_times, k_bytes, k_odd] 76 77 87) li_none 600 6).plain = true := by kernel_rfl
theorem u_read (S K) : VcB sh lsh_none S K [32] (bdsL k_read.args) k_read.res (k_read.tree Tryd.prog gl (calS [] [k_right, k_from, k_squared, k_minus, k_times, k_plus, k_inverted, k_rooted, k_same, k_negated, k_flat] 76 77 87) li_none 600 6) = B_read S K := by kernel_rfl
theorem pl_read : (k_read.tree Tryd.prog gl (calS [] [k_right, k_from, k_squared, k_minus, k_times, k_plus, k_inverted, k_rooted, k_same, k_negated, k_flat] 76 77 87) li_none 600 6).plain = true := by kernel_rfl
theorem u_cright (S K) : VcB sh lsh_none S K [32] (bdsL k_cright.args) k_cright.res (k_cright.tree Tryd.prog gl (calS [] [k_read] 76 77 87) li_none 600 6) = B_cright S K := by kernel_rfl
theorem pl_cright : (k_cright.tree Tryd.prog gl (calS [] [k_read] 76 77 87) li_none 600 6).plain = true := by kernel_rfl
theorem u_cadd (S K) : VcB sh lsh_none S K [32, 32] (bdsL k_cadd.args) k_cadd.res (k_cadd.tree Tryd.prog gl (calS [] [k_read, k_cplus, k_cbytes] 76 77 87) li_none 600 6) = B_cadd S K := by kernel_rfl
theorem u_cneg (S K) : VcB sh lsh_none S K [32] (bdsL k_cneg.args) k_cneg.res (k_cneg.tree Tryd.prog gl (calS [] [k_read, k_negated, k_cbytes] 76 77 87) li_none 600 6) = B_cneg S K := by kernel_rfl
theorem u_ctimes (S K) : VcB sh lsh_none S K [32, 32] (bdsL k_ctimes.args) k_ctimes.res (k_ctimes.tree Tryd.prog gl (calS [] [k_read, k_many, k_cbytes] 76 77 87) li_none 600 6) = B_ctimes S K := by kernel_rfl
theorem u_base (S K) : VcB sh lsh_none S K [32] (bdsL k_base.args) k_base.res (k_base.tree Tryd.prog gl (calS [] [k_cbase, k_many, k_cbytes] 76 77 87) li_none 600 6) = B_base S K := by kernel_rfl
theorem pl_base : (k_base.tree Tryd.prog gl (calS [] [k_cbase, k_many, k_cbytes] 76 77 87) li_none 600 6).plain = true := by kernel_rfl
theorem u_cmix (S K) : VcB sh lsh_none S K [32, 32, 32] (bdsL k_cmix.args) k_cmix.res (k_cmix.tree Tryd.prog gl (calS [] [k_read, k_many, k_cbase, k_cplus, k_cbytes] 76 77 87) li_none 600 6) = B_cmix S K := by kernel_rfl
end Go.Fd

