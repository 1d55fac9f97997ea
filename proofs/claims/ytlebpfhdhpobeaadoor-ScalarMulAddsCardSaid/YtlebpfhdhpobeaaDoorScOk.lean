/- The scalar seat: every function's contract. -/
import Derived.Test.YtlebpfhdhpobeaaDoorScEqA
import Derived.Test.YtlebpfhdhpobeaaDoorScEqB
import Derived.Test.YtlebpfhdhpobeaaDoorRx16
set_option linter.unusedVariables false
set_option maxRecDepth 100000
namespace Go.Sc
open Go Go.Rx Go.Proofs
theorem nil0 {α : Type} {p : α → Prop} : ∀ x ∈ ([] : List α), p x := fun _ h => by cases h
theorem mx : Tryd.prog.follows .mixedOrders = true := by kernel_rfl
theorem add34 : Add64Ok Tryd.prog 34 := add64Ok_of Tryd.func34 (by kernel_rfl) (by kernel_rfl) (by kernel_rfl) (by kernel_rfl)
theorem sub37 : Sub64Ok Tryd.prog 37 := sub64Ok_of Tryd.func37 (by kernel_rfl) (by kernel_rfl) (by kernel_rfl) (by kernel_rfl)
theorem mul33 : Mul64Ok Tryd.prog 33 := mul64Ok_of mx (enters (by kernel_rfl)) (fun K => by kernel_rfl)
theorem nw_inj {n : Nat} {l l' : List Int} (h : inB (repB 0 18446744073709551615 n) l) (h' : inB (repB 0 18446744073709551615 n) l') (e : nw l = nw l') : l = l' := num_inj (b := 18446744073709551616) (by decide) h h' e
theorem hu_w {X : Int} {rs rs' : List Int} (h : inB (bdsL [w4]) rs) (h' : inB (bdsL [w4]) rs') (e : nw rs = X) (e' : nw rs' = X) : rs = rs' := nw_inj (n := 4) h h' (e.trans e'.symm)
theorem hu_w8 {X : Int} {rs rs' : List Int} (h : inB (bdsL [w8]) rs) (h' : inB (bdsL [w8]) rs') (e : nw rs = X) (e' : nw rs' = X) : rs = rs' := nw_inj (n := 8) h h' (e.trans e'.symm)
theorem hu_b {X : Int} {rs rs' : List Int} (h : inB (bdsL [by32]) rs) (h' : inB (bdsL [by32]) rs') (e : nb rs = X) (e' : nb rs' = X) : rs = rs' := nb_inj (n := 32) h h' (e.trans e'.symm)
theorem hu_b64 {X : Int} {rs rs' : List Int} (h : inB (bdsL [by64]) rs) (h' : inB (bdsL [by64]) rs') (e : nb rs = X) (e' : nb rs' = X) : rs = rs' := nb_inj (n := 64) h h' (e.trans e'.symm)
theorem hu_e {X : List Int} {rs rs' : List Int} (e : rs = X) (e' : rs' = X) : rs = rs' := e.trans e'.symm
theorem in5 {rs : List Int} (h : inB (bdsL [w4, c1]) rs) : ∃ a b c d x, rs = [a, b, c, d, x] ∧ 0 ≤ x ∧ x ≤ 1 ∧ inB (repB 0 18446744073709551615 4) [a, b, c, d] ∧ 0 ≤ nw [a, b, c, d] ∧ nw [a, b, c, d] < 115792089237316195423570985008687907853269984665640564039457584007913129639936 := by
  match rs, h with
  | [a, b, c, d, x], h =>
    obtain ⟨a0, a1, b0, b1, c0, c1, d0, d1, x0, x1, _⟩ := h
    exact ⟨a, b, c, d, x, rfl, x0, x1, ⟨a0, a1, b0, b1, c0, c1, d0, d1, trivial⟩, nw4 a0 a1 b0 b1 c0 c1 d0 d1⟩
theorem in5b {rs : List Int} (h : inB (bdsL [w4, .bool]) rs) : inB (bdsL [w4, c1]) rs := h
theorem hu_m {zs rs rs' : List Int} (h : inB (bdsL [w4, c1]) rs) (h' : inB (bdsL [w4, c1]) rs') (e : s_minus zs rs) (e' : s_minus zs rs') : rs = rs' := by
  obtain ⟨a, b, c, d, x, rfl, x0, x1, hb, h0, h1⟩ := in5 h
  obtain ⟨a', b', c', d', x', rfl, x0', x1', hb', h0', h1'⟩ := in5 h'
  simp only [s_minus, List.take_succ_cons, List.take_zero, List.getD_cons_succ, List.getD_cons_zero] at e e'
  have ex : x = x' := by omega
  subst ex
  have := nw_inj hb hb' (by omega)
  simp only [List.cons.injEq, and_true] at this
  simp [this]
theorem hu_p {zs rs rs' : List Int} (h : inB (bdsL [w4, c1]) rs) (h' : inB (bdsL [w4, c1]) rs') (e : s_plus zs rs) (e' : s_plus zs rs') : rs = rs' := by
  obtain ⟨a, b, c, d, x, rfl, x0, x1, hb, h0, h1⟩ := in5 h
  obtain ⟨a', b', c', d', x', rfl, x0', x1', hb', h0', h1'⟩ := in5 h'
  simp only [s_plus, List.take_succ_cons, List.take_zero, List.getD_cons_succ, List.getD_cons_zero] at e e'
  have ex : x = x' := by omega
  subst ex
  have := nw_inj hb hb' (by omega)
  simp only [List.cons.injEq, and_true] at this
  simp [this]
theorem hu_f {zs rs rs' : List Int} (h : inB (bdsL [w4, w8]) rs) (h' : inB (bdsL [w4, w8]) rs') (e : s_folded zs rs) (e' : s_folded zs rs') : rs = rs' := by
  obtain ⟨h1, h2⟩ := inB_split (b := w4.bds) (b' := w8.bds ++ []) h
  obtain ⟨h1', h2'⟩ := inB_split (b := w4.bds) (b' := w8.bds ++ []) h'
  have e1 := nw_inj (n := 4) h1 h1' (e.1.trans e'.1.symm)
  have e2 := nw_inj (n := 8) (l := rs.drop 4) (l' := rs'.drop 4) h2 h2' (e.2.trans e'.2.symm)
  rw [← List.take_append_drop 4 rs, ← List.take_append_drop 4 rs', e2]
  congr 1
theorem hex_w {X : Int} (h0 : 0 ≤ X) (h1 : X < 115792089237316195423570985008687907853269984665640564039457584007913129639936) : ∃ rs, inB (bdsL [w4]) rs ∧ nw rs = X :=
  ⟨digs 18446744073709551616 4 X, by have := digs_in (b := 18446744073709551616) (by decide) 4 X; exact this, num_digs (b := 18446744073709551616) (by decide) 4 X h0 h1⟩
theorem nb32 {l : List Int} (h : inB (repB 0 255 32) l) : 0 ≤ nb l ∧ nb l < 115792089237316195423570985008687907853269984665640564039457584007913129639936 := nb_bd h
theorem vcb_flat {id : Nat} {lens : List Nat} {bds : List (Int × Int)} {ds : List D} {t : T} (h : VcB sh lsh SB (fun zs rs => inB (bdsL ds) rs.flatten ∧ SC id zs.flatten rs.flatten) lens bds ds t) :
    allB bds fun zs => t.holds SC (LeafK ds fun rs => inB (bdsL ds) rs ∧ SC id zs rs) (fun _ _ => False) (updL (fun _ => 0) 0 zs) := by
  have h := VcB_sound h
  rw [flatS_SB] at h
  simp only [splitL_flatten] at h
  exact h
section
variable {wb : World} (hg : GOk gl ⟨wb, wb, fun _ => False⟩)
include hg
theorem ok_load : k_load.Ok Tryd.prog wb (SC 22) :=
  SCon.of_vc (c := k_load) (cal := (calS [] [] 33 34 37)) (spec := SC 22) (li := liX) (rounds := 600) (d := 6) mx (fun r ex => calS_ok mul33 add34 sub37 nil0 nil0) hg (enters (by kernel_rfl)) (fun zs rs rs' hz h h' e e' => hu_w h h' e e') (fun zs hz => hex_w (nb32 (by simpa [SCon.bds, k_load, bdsL] using hz)).1 (nb32 (by simpa [SCon.bds, k_load, bdsL] using hz)).2) (Eq.mpr (t_load SC _) p_load)
omit hg in
theorem half64 {zs : List Int} (h : inB k_loada.bds zs) : inB (repB 0 255 32) (zs.take 32) ∧ inB (repB 0 255 32) (zs.drop 32) := by
  have h' : inB (repB 0 255 32 ++ repB 0 255 32) zs := h
  exact inB_split h'
theorem ok_loada : k_loada.Ok Tryd.prog wb (SC 122) :=
  SCon.of_vc (c := k_loada) (cal := (calS [] [] 33 34 37)) (spec := SC 122) (li := liX) (rounds := 600) (d := 6) mx (fun r ex => calS_ok mul33 add34 sub37 nil0 nil0) hg (enters (by kernel_rfl)) (fun zs rs rs' hz h h' e e' => hu_w h h' e e') (fun zs hz => hex_w (nb32 (half64 hz).1).1 (nb32 (half64 hz).1).2) (Eq.mpr (t_loada SC _) p_loada)
theorem ok_loadb : k_loadb.Ok Tryd.prog wb (SC 222) :=
  SCon.of_vc (c := k_loadb) (cal := (calS [] [] 33 34 37)) (spec := SC 222) (li := liX) (rounds := 600) (d := 6) mx (fun r ex => calS_ok mul33 add34 sub37 nil0 nil0) hg (enters (by kernel_rfl)) (fun zs rs rs' hz h h' e e' => hu_w h h' e e') (fun zs hz => hex_w (nb32 (half64 hz).2).1 (nb32 (half64 hz).2).2) (Eq.mpr (t_loadb SC _) p_loadb)
theorem ok_minus : k_minus.Ok Tryd.prog wb (SC 29) :=
  Con.of_vc (c := k_minus) (cal := (calS [] [] 33 34 37)) (spec := SC 29) (li := liX) (rounds := 600) (d := 6) mx (fun r ex => calS_ok mul33 add34 sub37 nil0 nil0) hg (enters (by kernel_rfl)) (fun zs rs rs' hz h h' e e' => hu_m h h' e e') (Eq.mpr (t_minus SC _) p_minus)
theorem ok_plus : k_plus.Ok Tryd.prog wb (SC 24) :=
  Con.of_vc (c := k_plus) (cal := (calS [] [] 33 34 37)) (spec := SC 24) (li := liX) (rounds := 600) (d := 6) mx (fun r ex => calS_ok mul33 add34 sub37 nil0 nil0) hg (enters (by kernel_rfl)) (fun zs rs rs' hz h h' e e' => hu_p h h' e e') (Eq.mpr (t_plus SC _) p_plus)
theorem ok_bytes : k_bytes.Ok Tryd.prog wb (SC 26) :=
  Con.of_vc (c := k_bytes) (cal := (calS [] [] 33 34 37)) (spec := SC 26) (li := liX) (rounds := 600) (d := 6) mx (fun r ex => calS_ok mul33 add34 sub37 nil0 nil0) hg (enters (by kernel_rfl)) (fun zs rs rs' hz h h' e e' => hu_b h h' e e') (Eq.mpr (t_bytes SC _) p_bytes)
theorem ok_product : k_product.Ok Tryd.prog wb (SC 21) :=
  Con.of_vc (c := k_product) (cal := (calS [] [] 33 34 37)) (spec := SC 21) (li := liX) (rounds := 600) (d := 6) mx (fun r ex => calS_ok mul33 add34 sub37 nil0 nil0) hg (enters (by kernel_rfl)) (fun zs rs rs' hz h h' e e' => hu_w8 h h' e e') (Eq.mpr (t_product SC _) p_product)
theorem ok_folded : k_folded.Ok Tryd.prog wb (SC 35) :=
  Con.of_vc (c := k_folded) (cal := (calS [] [] 33 34 37)) (spec := SC 35) (li := liX) (rounds := 600) (d := 6) mx (fun r ex => calS_ok mul33 add34 sub37 nil0 nil0) hg (enters (by kernel_rfl)) (fun zs rs rs' hz h h' e e' => hu_f h h' e e') (Eq.mpr (t_folded SC _) p_folded)
theorem ok_reduced : k_reduced.Ok Tryd.prog wb (SC 23) :=
  Con.of_vc (c := k_reduced) (cal := (calS [] [k_folded, k_plus, k_minus] 33 34 37)) (spec := SC 23) (li := liX) (rounds := 600) (d := 6) mx (fun r ex => calS_ok mul33 add34 sub37 nil0 (List.forall_mem_cons.2 ⟨ok_folded hg, (List.forall_mem_cons.2 ⟨ok_plus hg, (List.forall_mem_cons.2 ⟨ok_minus hg, nil0⟩)⟩)⟩)) hg (enters (by kernel_rfl)) (fun zs rs rs' hz h h' e e' => hu_w h h' e e') (Eq.mpr (t_reduced SC _) p_reduced)
theorem ok_left : k_left.Ok Tryd.prog wb (SC 25) :=
  Con.of_vc (c := k_left) (cal := (calS [] [k_reduced] 33 34 37)) (spec := SC 25) (li := liX) (rounds := 600) (d := 6) mx (fun r ex => calS_ok mul33 add34 sub37 nil0 (List.forall_mem_cons.2 ⟨ok_reduced hg, nil0⟩)) hg (enters (by kernel_rfl)) (fun zs rs rs' hz h h' e e' => hu_w h h' e e') (Eq.mpr (t_left SC _) p_left)
theorem ok_wide : k_wide.Ok Tryd.prog wb (SC 12) :=
  Con.of_vc (c := k_wide) (cal := (calS [] [] 33 34 37)) (spec := SC 12) (li := liX) (rounds := 600) (d := 6) mx (fun r ex => calS_ok mul33 add34 sub37 nil0 nil0) hg (enters (by kernel_rfl)) (fun zs rs rs' hz h h' e e' => hu_b64 h h' e e') (Eq.mpr (t_wide SC _) p_wide)
theorem ok_right : k_right.Ok Tryd.prog wb (SC 13) :=
  Con.of_vc (c := k_right) (cal := (calS [k_load] [k_minus] 33 34 37)) (spec := SC 13) (li := liX) (rounds := 600) (d := 6) mx (fun r ex => calS_ok mul33 add34 sub37 (List.forall_mem_cons.2 ⟨ok_load hg, nil0⟩) (List.forall_mem_cons.2 ⟨ok_minus hg, nil0⟩)) hg (enters (by kernel_rfl)) (fun zs rs rs' hz h h' e e' => hu_e e e') (Eq.mpr (t_right SC _) p_right)
theorem ok_neg : k_neg.Ok Tryd.prog wb (SC 10) :=
  Con.of_vc (c := k_neg) (cal := (calS [k_load] [k_left, k_minus, k_bytes] 33 34 37)) (spec := SC 10) (li := liX) (rounds := 600) (d := 6) mx (fun r ex => calS_ok mul33 add34 sub37 (List.forall_mem_cons.2 ⟨ok_load hg, nil0⟩) (List.forall_mem_cons.2 ⟨ok_left hg, (List.forall_mem_cons.2 ⟨ok_minus hg, (List.forall_mem_cons.2 ⟨ok_bytes hg, nil0⟩)⟩)⟩)) hg (enters (by kernel_rfl)) (fun zs rs rs' hz h h' e e' => hu_b h h' e e') (Eq.mpr (t_neg SC _) p_neg)
theorem ok_reduce : k_reduce.Ok Tryd.prog wb (SC 11) :=
  Con.of_vc (c := k_reduce) (cal := (calS [k_loada, k_loadb] [k_reduced, k_bytes] 33 34 37)) (spec := SC 11) (li := liX) (rounds := 600) (d := 6) mx (fun r ex => calS_ok mul33 add34 sub37 (List.forall_mem_cons.2 ⟨ok_loada hg, (List.forall_mem_cons.2 ⟨ok_loadb hg, nil0⟩)⟩) (List.forall_mem_cons.2 ⟨ok_reduced hg, (List.forall_mem_cons.2 ⟨ok_bytes hg, nil0⟩)⟩)) hg (enters (by kernel_rfl)) (fun zs rs rs' hz h h' e e' => hu_b h h' e e') (Eq.mpr (t_reduce SC _) p_reduce)
theorem ok_muladd : k_muladd.Ok Tryd.prog wb (SC 8) :=
  Con.of_vc (c := k_muladd) (cal := (calS [k_load] [k_product, k_reduced, k_left, k_plus, k_bytes] 33 34 37)) (spec := SC 8) (li := liX) (rounds := 600) (d := 6) mx (fun r ex => calS_ok mul33 add34 sub37 (List.forall_mem_cons.2 ⟨ok_load hg, nil0⟩) (List.forall_mem_cons.2 ⟨ok_product hg, (List.forall_mem_cons.2 ⟨ok_reduced hg, (List.forall_mem_cons.2 ⟨ok_left hg, (List.forall_mem_cons.2 ⟨ok_plus hg, (List.forall_mem_cons.2 ⟨ok_bytes hg, nil0⟩)⟩)⟩)⟩)⟩)) hg (enters (by kernel_rfl)) (fun zs rs rs' hz h h' e e' => hu_b h h' e e') (Eq.mpr (t_muladd SC _) p_muladd)
theorem ok_clamp : k_clamp.Ok Tryd.prog wb (SC 14) :=
  Con.of_vc (c := k_clamp) (cal := (calS [] [] 33 34 37)) (spec := SC 14) (li := liX) (rounds := 600) (d := 6) mx (fun r ex => calS_ok mul33 add34 sub37 nil0 nil0) hg (enters (by kernel_rfl)) (fun zs rs rs' hz h h' e e' => hu_e e e') (Eq.mpr (t_clamp SC _) p_clamp)
theorem ok_rbytes : k_rbytes.Ok Tryd.prog wb (SC 19) :=
  Con.of_vc (c := k_rbytes) (cal := (calS [] [] 33 34 37)) (spec := SC 19) (li := liX) (rounds := 600) (d := 6) mx (fun r ex => calS_ok mul33 add34 sub37 nil0 nil0) hg (enters (by kernel_rfl)) (fun zs rs rs' hz h h' e e' => hu_b h h' e e') (Eq.mpr (t_rbytes SC _) p_rbytes)
theorem ok_rl : k_rl.Ok Tryd.prog wb (SC 20) :=
  Con.of_vc (c := k_rl) (cal := (calS [] [] 33 34 37)) (spec := SC 20) (li := liX) (rounds := 600) (d := 6) mx (fun r ex => calS_ok mul33 add34 sub37 nil0 nil0) hg (enters (by kernel_rfl)) (fun zs rs rs' hz h h' e e' => hu_w h h' e e') (Eq.mpr (t_rl SC _) p_rl)
theorem ok_rless : k_rless.Ok Tryd.prog wb (SC 30) :=
  Con.of_vc (c := k_rless) (cal := (calS [] [] 33 34 37)) (spec := SC 30) (li := liX) (rounds := 600) (d := 6) mx (fun r ex => calS_ok mul33 add34 sub37 nil0 nil0) hg (enters (by kernel_rfl)) (fun zs rs rs' hz h h' e e' => hu_e e e') (Eq.mpr (t_rless SC _) p_rless)
theorem ok_rload : k_rload.Ok Tryd.prog wb (SC 31) :=
  Con.of_vc (c := k_rload) (cal := (calS [] [] 33 34 37)) (spec := SC 31) (li := liX) (rounds := 600) (d := 6) mx (fun r ex => calS_ok mul33 add34 sub37 nil0 nil0) hg (enters (by kernel_rfl)) (fun zs rs rs' hz h h' e e' => hu_w h h' e e') (Eq.mpr (t_rload SC _) p_rload)
theorem ok_rminus : k_rminus.Ok Tryd.prog wb (SC 32) :=
  Con.of_vc (c := k_rminus) (cal := (calS [] [] 33 34 37)) (spec := SC 32) (li := liX) (rounds := 600) (d := 6) mx (fun r ex => calS_ok mul33 add34 sub37 nil0 nil0) hg (enters (by kernel_rfl)) (fun zs rs rs' hz h h' e e' => hu_m h h' e e') (Eq.mpr (t_rminus SC _) p_rminus)
theorem ok_rplus : k_rplus.Ok Tryd.prog wb (SC 36) :=
  Con.of_vc (c := k_rplus) (cal := (calS [] [] 33 34 37)) (spec := SC 36) (li := liX) (rounds := 600) (d := 6) mx (fun r ex => calS_ok mul33 add34 sub37 nil0 nil0) hg (enters (by kernel_rfl)) (fun zs rs rs' hz h h' e e' => hu_p h h' e e') (Eq.mpr (t_rplus SC _) p_rplus)
theorem ok_rsum : k_rsum.Ok Tryd.prog wb (SC 28) :=
  Con.of_vc (c := k_rsum) (cal := (calS [] [k_rplus, k_rless, k_rminus, k_rl] 33 34 37)) (spec := SC 28) (li := liX) (rounds := 600) (d := 6) mx (fun r ex => calS_ok mul33 add34 sub37 nil0 (List.forall_mem_cons.2 ⟨ok_rplus hg, (List.forall_mem_cons.2 ⟨ok_rless hg, (List.forall_mem_cons.2 ⟨ok_rminus hg, (List.forall_mem_cons.2 ⟨ok_rl hg, nil0⟩)⟩)⟩)⟩)) hg (enters (by kernel_rfl)) (fun zs rs rs' hz h h' e e' => hu_w h h' e e') (Eq.mpr (t_rsum SC _) p_rsum)
theorem ok_rleft : k_rleft.Ok Tryd.prog wb (SC 27) :=
  SCon.of_vc (c := k_rleft) (cal := (calS [] [k_rsum] 33 34 37)) (spec := SC 27) (li := (liL 255)) (rounds := 600) (d := 6) mx (fun r ex => calS_ok mul33 add34 sub37 nil0 (List.forall_mem_cons.2 ⟨ok_rsum hg, nil0⟩)) hg (enters (by kernel_rfl)) (fun zs rs rs' hz h h' e e' => hu_w h h' e e') (fun zs hz => hex_w (Int.emod_nonneg _ (by decide)) (Int.lt_trans (Int.emod_lt_of_pos _ (by decide)) (by decide))) (Eq.mpr (t_rleft SC _) p_rleft)
theorem ok_rleftb : k_rleftb.Ok Tryd.prog wb (SC 127) :=
  SCon.of_vc (c := k_rleftb) (cal := (calS [] [k_rsum] 33 34 37)) (spec := SC 127) (li := (liL 511)) (rounds := 600) (d := 6) mx (fun r ex => calS_ok mul33 add34 sub37 nil0 (List.forall_mem_cons.2 ⟨ok_rsum hg, nil0⟩)) hg (enters (by kernel_rfl)) (fun zs rs rs' hz h h' e e' => hu_w h h' e e') (fun zs hz => hex_w (Int.emod_nonneg _ (by decide)) (Int.lt_trans (Int.emod_lt_of_pos _ (by decide)) (by decide))) (Eq.mpr (t_rleftb SC _) p_rleftb)
theorem ok_rright : k_rright.Ok Tryd.prog wb (SC 16) :=
  Con.of_vc (c := k_rright) (cal := (calS [] [k_rless, k_rload, k_rl] 33 34 37)) (spec := SC 16) (li := liX) (rounds := 600) (d := 6) mx (fun r ex => calS_ok mul33 add34 sub37 nil0 (List.forall_mem_cons.2 ⟨ok_rless hg, (List.forall_mem_cons.2 ⟨ok_rload hg, (List.forall_mem_cons.2 ⟨ok_rl hg, nil0⟩)⟩)⟩)) hg (enters (by kernel_rfl)) (fun zs rs rs' hz h h' e e' => hu_e e e') (Eq.mpr (t_rright SC _) p_rright)
theorem ok_rneg : k_rneg.Ok Tryd.prog wb (SC 17) :=
  Con.of_vc (c := k_rneg) (cal := (calS [k_rleft] [k_rminus, k_rl, k_rbytes] 33 34 37)) (spec := SC 17) (li := liX) (rounds := 600) (d := 6) mx (fun r ex => calS_ok mul33 add34 sub37 (List.forall_mem_cons.2 ⟨ok_rleft hg, nil0⟩) (List.forall_mem_cons.2 ⟨ok_rminus hg, (List.forall_mem_cons.2 ⟨ok_rl hg, (List.forall_mem_cons.2 ⟨ok_rbytes hg, nil0⟩)⟩)⟩)) hg (enters (by kernel_rfl)) (fun zs rs rs' hz h h' e e' => hu_b h h' e e') (Eq.mpr (t_rneg SC _) p_rneg)
theorem ok_rclamp : k_rclamp.Ok Tryd.prog wb (SC 18) :=
  Con.of_vc (c := k_rclamp) (cal := (calS [] [] 33 34 37)) (spec := SC 18) (li := liX) (rounds := 600) (d := 6) mx (fun r ex => calS_ok mul33 add34 sub37 nil0 nil0) hg (enters (by kernel_rfl)) (fun zs rs rs' hz h h' e e' => hu_e e e') (Eq.mpr (t_rclamp SC _) p_rclamp)
theorem ok_rreduce : k_rreduce.Ok Tryd.prog wb (SC 15) :=
  Con.of_vc (c := k_rreduce) (cal := (calS [k_rleftb] [k_rbytes] 33 34 37)) (spec := SC 15) (li := liX) (rounds := 600) (d := 6) mx (fun r ex => calS_ok mul33 add34 sub37 (List.forall_mem_cons.2 ⟨ok_rleftb hg, nil0⟩) (List.forall_mem_cons.2 ⟨ok_rbytes hg, nil0⟩)) hg (enters (by kernel_rfl)) (fun zs rs rs' hz h h' e e' => hu_b h h' e e') (Eq.mpr (t_rreduce SC _) p_rreduce)
theorem ok_rmuladd : k_rmuladd.Ok Tryd.prog wb (SC 9) :=
  Con.of_vc (c := k_rmuladd) (cal := (calS [k_rleft] [k_rsum, k_rbytes] 33 34 37)) (spec := SC 9) (li := liX) (rounds := 600) (d := 6) mx (fun r ex => calS_ok mul33 add34 sub37 (List.forall_mem_cons.2 ⟨ok_rleft hg, nil0⟩) (List.forall_mem_cons.2 ⟨ok_rsum hg, (List.forall_mem_cons.2 ⟨ok_rbytes hg, nil0⟩)⟩)) hg (enters (by kernel_rfl)) (fun zs rs rs' hz h h' e e' => hu_b h h' e e') (Eq.mpr (t_rmuladd SC _) p_rmuladd)
theorem ok_alive : k_alive.Ok Tryd.prog wb (SC 7) :=
  Con.of_vc (c := k_alive) (cal := (calS [] [k_rbytes, k_rl, k_reduce, k_wide, k_muladd, k_right] 33 34 37)) (spec := SC 7) (li := liX) (rounds := 600) (d := 6) mx (fun r ex => calS_ok mul33 add34 sub37 nil0 (List.forall_mem_cons.2 ⟨ok_rbytes hg, (List.forall_mem_cons.2 ⟨ok_rl hg, (List.forall_mem_cons.2 ⟨ok_reduce hg, (List.forall_mem_cons.2 ⟨ok_wide hg, (List.forall_mem_cons.2 ⟨ok_muladd hg, (List.forall_mem_cons.2 ⟨ok_right hg, nil0⟩)⟩)⟩)⟩)⟩)⟩)) hg (enters (by kernel_rfl)) (fun zs rs rs' hz h h' e e' => hu_e e e') (vcb_flat (Eq.mpr (u_alive SB _) q_alive))
theorem ok_lmuladds : k_lmuladds.Ok Tryd.prog wb (SC 3) :=
  Con.of_vc (c := k_lmuladds) (cal := (calS [] [k_alive, k_muladd, k_rmuladd] 33 34 37)) (spec := SC 3) (li := liX) (rounds := 600) (d := 6) mx (fun r ex => calS_ok mul33 add34 sub37 nil0 (List.forall_mem_cons.2 ⟨ok_alive hg, (List.forall_mem_cons.2 ⟨ok_muladd hg, (List.forall_mem_cons.2 ⟨ok_rmuladd hg, nil0⟩)⟩)⟩)) hg (enters (by kernel_rfl)) (fun zs rs rs' hz h h' e e' => hu_e e e') (vcb_flat (Eq.mpr (u_lmuladds SB _) q_lmuladds))
theorem ok_llaws : k_llaws.Ok Tryd.prog wb (SC 4) :=
  Con.of_vc (c := k_llaws) (cal := (calS [] [k_alive, k_muladd, k_neg, k_reduce, k_wide, k_right] 33 34 37)) (spec := SC 4) (li := liX) (rounds := 600) (d := 6) mx (fun r ex => calS_ok mul33 add34 sub37 nil0 (List.forall_mem_cons.2 ⟨ok_alive hg, (List.forall_mem_cons.2 ⟨ok_muladd hg, (List.forall_mem_cons.2 ⟨ok_neg hg, (List.forall_mem_cons.2 ⟨ok_reduce hg, (List.forall_mem_cons.2 ⟨ok_wide hg, (List.forall_mem_cons.2 ⟨ok_right hg, nil0⟩)⟩)⟩)⟩)⟩)⟩)) hg (enters (by kernel_rfl)) (fun zs rs rs' hz h h' e e' => hu_e e e') (vcb_flat (Eq.mpr (u_llaws SB _) q_llaws))
theorem ok_lclamps : k_lclamps.Ok Tryd.prog wb (SC 5) :=
  Con.of_vc (c := k_lclamps) (cal := (calS [] [k_alive, k_clamp, k_right] 33 34 37)) (spec := SC 5) (li := liX) (rounds := 600) (d := 6) mx (fun r ex => calS_ok mul33 add34 sub37 nil0 (List.forall_mem_cons.2 ⟨ok_alive hg, (List.forall_mem_cons.2 ⟨ok_clamp hg, (List.forall_mem_cons.2 ⟨ok_right hg, nil0⟩)⟩)⟩)) hg (enters (by kernel_rfl)) (fun zs rs rs' hz h h' e e' => hu_e e e') (vcb_flat (Eq.mpr (u_lclamps SB _) q_lclamps))
theorem ok_lreduces : k_lreduces.Ok Tryd.prog wb (SC 6) :=
  Con.of_vc (c := k_lreduces) (cal := (calS [] [k_alive, k_reduce, k_rreduce, k_right, k_rright, k_neg, k_rneg, k_clamp, k_rclamp] 33 34 37)) (spec := SC 6) (li := liX) (rounds := 600) (d := 6) mx (fun r ex => calS_ok mul33 add34 sub37 nil0 (List.forall_mem_cons.2 ⟨ok_alive hg, (List.forall_mem_cons.2 ⟨ok_reduce hg, (List.forall_mem_cons.2 ⟨ok_rreduce hg, (List.forall_mem_cons.2 ⟨ok_right hg, (List.forall_mem_cons.2 ⟨ok_rright hg, (List.forall_mem_cons.2 ⟨ok_neg hg, (List.forall_mem_cons.2 ⟨ok_rneg hg, (List.forall_mem_cons.2 ⟨ok_clamp hg, (List.forall_mem_cons.2 ⟨ok_rclamp hg, nil0⟩)⟩)⟩)⟩)⟩)⟩)⟩)⟩)⟩)) hg (enters (by kernel_rfl)) (fun zs rs rs' hz h h' e e' => hu_e e e') (vcb_flat (Eq.mpr (u_lreduces SB _) q_lreduces))
end
end Go.Sc

