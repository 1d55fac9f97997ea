/- The scalar seat: every function's contract. -/
import Derived.Test.YtaapajicchefdaaDoorScEq
import Derived.Test.YtaapajicchefdaaDoorRx16
set_option linter.unusedVariables false
set_option maxRecDepth 100000
namespace Go.Sc
open Go Go.Rx Go.Proofs
theorem nil0 {α : Type} {p : α → Prop} : ∀ x ∈ ([] : List α), p x := fun _ h => by cases h
theorem mx : Tryd.prog.follows .mixedOrders = true := by kernel_rfl
theorem add77 : Add64Ok Tryd.prog 77 := add64Ok_of Tryd.func77 (by kernel_rfl) (by kernel_rfl) (by kernel_rfl) (by kernel_rfl)
theorem sub87 : Sub64Ok Tryd.prog 87 := sub64Ok_of Tryd.func87 (by kernel_rfl) (by kernel_rfl) (by kernel_rfl) (by kernel_rfl)
theorem mul76 : Mul64Ok Tryd.prog 76 := mul64Ok_of mx (enters (by kernel_rfl)) (fun K => by kernel_rfl)
theorem nw_inj {n : Nat} {l l' : List Int} (h : inB (repB 0 18446744073709551615 n) l) (h' : inB (repB 0 18446744073709551615 n) l') (e : nw l = nw l') : l = l' := num_inj (b := 18446744073709551616) (by decide) h h' e
theorem nb_inj {n : Nat} {l l' : List Int} (h : inB (repB 0 255 n) l) (h' : inB (repB 0 255 n) l') (e : nb l = nb l') : l = l' := num_inj (b := 256) (by decide) h h' e
theorem hu_w {X : Int} {rs rs' : List Int} (h : inB (bdsL [w4]) rs) (h' : inB (bdsL [w4]) rs') (e : nw rs = X) (e' : nw rs' = X) : rs = rs' := nw_inj (n := 4) h h' (e.trans e'.symm)
theorem hu_w8 {X : Int} {rs rs' : List Int} (h : inB (bdsL [w8]) rs) (h' : inB (bdsL [w8]) rs') (e : nw rs = X) (e' : nw rs' = X) : rs = rs' := nw_inj (n := 8) h h' (e.trans e'.symm)
theorem hu_b {X : Int} {rs rs' : List Int} (h : inB (bdsL [by32]) rs) (h' : inB (bdsL [by32]) rs') (e : nb rs = X) (e' : nb rs' = X) : rs = rs' := nb_inj (n := 32) h h' (e.trans e'.symm)
theorem hu_b64 {X : Int} {rs rs' : List Int} (h : inB (bdsL [by64]) rs) (h' : inB (bdsL [by64]) rs') (e : nb rs = X) (e' : nb rs' = X) : rs = rs' := nb_inj (n := 64) h h' (e.trans e'.symm)
theorem hu_e {X : List Int} {rs rs' : List Int} (e : rs = X) (e' : rs' = X) : rs = rs' := e.trans e'.symm
theorem in5 {rs : List Int} (h : inB (bdsL [w4, c1]) rs) : ∃ a b c d x, rs = [a, b, c, d, x] ∧ 0 ≤ x ∧ x ≤ 1 ∧ inB (repB 0 18446744073709551615 4) [a, b, c, d] ∧ 0 ≤ nw [a, b, c, d] ∧ nw [a, b, c, d] < 115792089237316195423570985008687907853269984665640564039457584007913129639936 := by
  match rs, h with
  | [a, b, c, d, x], h =>
    obtain ⟨a0, a1, b0, b1, c0, c1, d0, d1, x0, x1, _⟩ := h
    exact ⟨a, b, c, d, x, rfl, x0, x1, ⟨a0, a1, b0, b1, c0, c1, d0, d1, trivial⟩, nw4 a0 a1 b0 b1 c0 c1 d0 d1⟩
theorem in5b {rs : List Int} (h : inB (bdsL [w4, .bool]) rs) : inB (bdsL [w4, c1]) rs := h
theorem hu_m {zs rs rs' : List Int} (h : inB (bdsL [w4, c1]) rs) (h' : inB (bdsL [w4, c1]) rs') (e : s_minus zs rs) (e' : s_minus zs rs') : rs = rs' := by
  obtain ⟨a, b, c, d, x, rfl, x0, x1, hb, h0, h1⟩ := in5 h
  obtain ⟨a', b', c', d', x', rfl, x0', x1', hb', h0', h1'⟩ := in5 h'
  simp only [s_minus, List.take_succ_cons, List.take_zero, List.getD_cons_succ, List.getD_cons_zero] at e e'
  have ex : x = x' := by omega
  subst ex
  have := nw_inj hb hb' (by omega)
  simp only [List.cons.injEq, and_true] at this
  simp [this]
theorem hu_p {zs rs rs' : List Int} (h : inB (bdsL [w4, c1]) rs) (h' : inB (bdsL [w4, c1]) rs') (e : s_plus zs rs) (e' : s_plus zs rs') : rs = rs' := by
  obtain ⟨a, b, c, d, x, rfl, x0, x1, hb, h0, h1⟩ := in5 h
  obtain ⟨a', b', c', d', x', rfl, x0', x1', hb', h0', h1'⟩ := in5 h'
  simp only [s_plus, List.take_succ_cons, List.take_zero, List.getD_cons_succ, List.getD_cons_zero] at e e'
  have ex : x = x' := by omega
  subst ex
  have := nw_inj hb hb' (by omega)
  simp only [List.cons.injEq, and_true] at this
  simp [this]
theorem hu_f {zs rs rs' : List Int} (h : inB (bdsL [w4, w8]) rs) (h' : inB (bdsL [w4, w8]) rs') (e : s_folded zs rs) (e' : s_folded zs rs') : rs = rs' := by
  obtain ⟨h1, h2⟩ := inB_split (b := w4.bds) (b' := w8.bds ++ []) h
  obtain ⟨h1', h2'⟩ := inB_split (b := w4.bds) (b' := w8.bds ++ []) h'
  have e1 := nw_inj (n := 4) h1 h1' (e.1.trans e'.1.symm)
  have e2 := nw_inj (n := 8) (l := rs.drop 4) (l' := rs'.drop 4) h2 h2' (e.2.trans e'.2.symm)
  rw [← List.take_append_drop 4 rs, ← List.take_append_drop 4 rs', e2]
  congr 1
theorem hex_w {X : Int} (h0 : 0 ≤ X) (h1 : X < 115792089237316195423570985008687907853269984665640564039457584007913129639936) : ∃ rs, inB (bdsL [w4]) rs ∧ nw rs = X :=
  ⟨digs 18446744073709551616 4 X, by have := digs_in (b := 18446744073709551616) (by decide) 4 X; exact this, num_digs (b := 18446744073709551616) (by decide) 4 X h0 h1⟩
theorem nb32 {l : List Int} (h : inB (repB 0 255 32) l) : 0 ≤ nb l ∧ nb l < 115792089237316195423570985008687907853269984665640564039457584007913129639936 := nb_bd h
section
variable {wb : World} (hg : GOk gl ⟨wb, wb, fun _ => False⟩)
include hg
theorem ok_load : k_load.Ok Tryd.prog wb (SC 22) :=
  SCon.of_vc (c := k_load) (cal := (calS [] [] 76 77 87)) (spec := SC 22) (li := liX) (rounds := 600) (d := 6) mx (fun r ex => calS_ok mul76 add77 sub87 nil0 nil0) hg (enters (by kernel_rfl)) (fun zs rs rs' hz h h' e e' => hu_w h h' e e') (fun zs hz => hex_w (nb32 (by simpa [SCon.bds, k_load, bdsL] using hz)).1 (nb32 (by simpa [SCon.bds, k_load, bdsL] using hz)).2) (Eq.mpr (t_load SC _) p_load)
theorem ok_minus : k_minus.Ok Tryd.prog wb (SC 29) :=
  Con.of_vc (c := k_minus) (cal := (calS [] [] 76 77 87)) (spec := SC 29) (li := liX) (rounds := 600) (d := 6) mx (fun r ex => calS_ok mul76 add77 sub87 nil0 nil0) hg (enters (by kernel_rfl)) (fun zs rs rs' hz h h' e e' => hu_m h h' e e') (Eq.mpr (t_minus SC _) p_minus)
theorem ok_plus : k_plus.Ok Tryd.prog wb (SC 24) :=
  Con.of_vc (c := k_plus) (cal := (calS [] [] 76 77 87)) (spec := SC 24) (li := liX) (rounds := 600) (d := 6) mx (fun r ex => calS_ok mul76 add77 sub87 nil0 nil0) hg (enters (by kernel_rfl)) (fun zs rs rs' hz h h' e e' => hu_p h h' e e') (Eq.mpr (t_plus SC _) p_plus)
theorem ok_bytes : k_bytes.Ok Tryd.prog wb (SC 26) :=
  Con.of_vc (c := k_bytes) (cal := (calS [] [] 76 77 87)) (spec := SC 26) (li := liX) (rounds := 600) (d := 6) mx (fun r ex => calS_ok mul76 add77 sub87 nil0 nil0) hg (enters (by kernel_rfl)) (fun zs rs rs' hz h h' e e' => hu_b h h' e e') (Eq.mpr (t_bytes SC _) p_bytes)
theorem ok_product : k_product.Ok Tryd.prog wb (SC 21) :=
  Con.of_vc (c := k_product) (cal := (calS [] [] 76 77 87)) (spec := SC 21) (li := liX) (rounds := 600) (d := 6) mx (fun r ex => calS_ok mul76 add77 sub87 nil0 nil0) hg (enters (by kernel_rfl)) (fun zs rs rs' hz h h' e e' => hu_w8 h h' e e') (Eq.mpr (t_product SC _) p_product)
theorem ok_folded : k_folded.Ok Tryd.prog wb (SC 35) :=
  Con.of_vc (c := k_folded) (cal := (calS [] [] 76 77 87)) (spec := SC 35) (li := liX) (rounds := 600) (d := 6) mx (fun r ex => calS_ok mul76 add77 sub87 nil0 nil0) hg (enters (by kernel_rfl)) (fun zs rs rs' hz h h' e e' => hu_f h h' e e') (Eq.mpr (t_folded SC _) p_folded)
theorem ok_reduced : k_reduced.Ok Tryd.prog wb (SC 23) :=
  Con.of_vc (c := k_reduced) (cal := (calS [] [k_folded, k_plus, k_minus] 76 77 87)) (spec := SC 23) (li := liX) (rounds := 600) (d := 6) mx (fun r ex => calS_ok mul76 add77 sub87 nil0 (List.forall_mem_cons.2 ⟨ok_folded hg, (List.forall_mem_cons.2 ⟨ok_plus hg, (List.forall_mem_cons.2 ⟨ok_minus hg, nil0⟩)⟩)⟩)) hg (enters (by kernel_rfl)) (fun zs rs rs' hz h h' e e' => hu_w h h' e e') (Eq.mpr (t_reduced SC _) p_reduced)
theorem ok_left : k_left.Ok Tryd.prog wb (SC 25) :=
  Con.of_vc (c := k_left) (cal := (calS [] [k_reduced] 76 77 87)) (spec := SC 25) (li := liX) (rounds := 600) (d := 6) mx (fun r ex => calS_ok mul76 add77 sub87 nil0 (List.forall_mem_cons.2 ⟨ok_reduced hg, nil0⟩)) hg (enters (by kernel_rfl)) (fun zs rs rs' hz h h' e e' => hu_w h h' e e') (Eq.mpr (t_left SC _) p_left)
theorem ok_muladd : k_muladd.Ok Tryd.prog wb (SC 8) :=
  Con.of_vc (c := k_muladd) (cal := (calS [k_load] [k_product, k_reduced, k_left, k_plus, k_bytes] 76 77 87)) (spec := SC 8) (li := liX) (rounds := 600) (d := 6) mx (fun r ex => calS_ok mul76 add77 sub87 (List.forall_mem_cons.2 ⟨ok_load hg, nil0⟩) (List.forall_mem_cons.2 ⟨ok_product hg, (List.forall_mem_cons.2 ⟨ok_reduced hg, (List.forall_mem_cons.2 ⟨ok_left hg, (List.forall_mem_cons.2 ⟨ok_plus hg, (List.forall_mem_cons.2 ⟨ok_bytes hg, nil0⟩)⟩)⟩)⟩)⟩)) hg (enters (by kernel_rfl)) (fun zs rs rs' hz h h' e e' => hu_b h h' e e') (Eq.mpr (t_muladd SC _) p_muladd)
end
end Go.Sc

