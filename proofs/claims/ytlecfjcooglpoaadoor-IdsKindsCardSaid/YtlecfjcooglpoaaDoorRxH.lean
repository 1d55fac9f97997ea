/- Stores into rows; bytes out of a text: soundness. -/
import Derived.Laws.MakeOwn
import Derived.Test.YtlecfjcooglpoaaDoorRxB
import Derived.Lib.ConvBytes
import Derived.ArgAppend
set_option linter.unusedVariables false
set_option linter.unusedSimpArgs false
namespace Go.Rx
open M

theorem rowV_app : ∀ {s1 s2 : List CK} {l1 l2 : List Int}, l1.length = s1.length → rowV (s1 ++ s2) (l1 ++ l2) = rowV s1 l1 ++ rowV s2 l2
  | [], _, [], _, _ => rfl
  | c :: s1, s2, z :: l1, l2, h => by
    simp only [List.cons_append, rowV, rowV_app (s1 := s1) (s2 := s2) (l1 := l1) (l2 := l2) (by simpa using h)]
  | [], _, _ :: _, _, h => by simp at h
  | _ :: _, _, [], _, h => by simp at h
theorem RowOk_app : ∀ {s1 s2 : List CK} {l1 l2 : List Int}, l1.length = s1.length → (RowOk (s1 ++ s2) (l1 ++ l2) ↔ RowOk s1 l1 ∧ RowOk s2 l2)
  | [], _, [], _, _ => by simp [RowOk]
  | c :: s1, s2, z :: l1, l2, h => by
    simp only [List.cons_append, RowOk, RowOk_app (s1 := s1) (s2 := s2) (l1 := l1) (l2 := l2) (by simpa using h), and_assoc]
  | [], _, _ :: _, _, h => by simp at h
  | _ :: _, _, [], _, h => by simp at h
/-- A part of a row is replaced. -/
theorem row_put {sh : List CK} {row ls : List Int} {j s : Nat} (h : RowOk sh row) (hl : RowOk ((sh.drop j).take s) ls) (hj : j + s ≤ sh.length) :
    RowOk sh (row.take j ++ ls ++ row.drop (j + ls.length)) ∧ rowV sh (row.take j ++ ls ++ row.drop (j + ls.length)) = (rowV sh row).take j ++ rowV ((sh.drop j).take s) ls ++ (rowV sh row).drop (j + s) := by
  have hlen := h.len
  have hll : ls.length = s := by rw [hl.len]; simp; omega
  have e : sh = sh.take j ++ ((sh.drop j).take s ++ sh.drop (j + s)) := by
    rw [← List.drop_drop, List.take_append_drop, List.take_append_drop]
  have er : row = row.take j ++ ((row.drop j).take s ++ row.drop (j + s)) := by
    rw [← List.drop_drop, List.take_append_drop, List.take_append_drop]
  have l1 : (row.take j).length = (sh.take j).length := by simp [hlen]
  have l2 : ((row.drop j).take s).length = ((sh.drop j).take s).length := by simp [hlen]
  have l3 : ls.length = ((sh.drop j).take s).length := hl.len
  have h0 : RowOk (sh.take j ++ ((sh.drop j).take s ++ sh.drop (j + s))) (row.take j ++ ((row.drop j).take s ++ row.drop (j + s))) := by rw [← e, ← er]; exact h
  rw [RowOk_app l1, RowOk_app l2] at h0
  have hv : rowV sh row = rowV (sh.take j) (row.take j) ++ (rowV ((sh.drop j).take s) ((row.drop j).take s) ++ rowV (sh.drop (j + s)) (row.drop (j + s))) := by
    conv => lhs; rw [e, er]
    rw [rowV_app l1, rowV_app l2]
  have k1 : (rowV (sh.take j) (row.take j)).length = j := by rw [rowV_len h0.1]; simp; omega
  have k2 : (rowV ((sh.drop j).take s) ((row.drop j).take s)).length = s := by rw [rowV_len h0.2.1]; simp; omega
  rw [hll]
  refine ⟨?_, ?_⟩
  · rw [List.append_assoc]
    conv => lhs; rw [e]
    rw [RowOk_app l1, RowOk_app l3]
    exact ⟨h0.1, hl, h0.2.2⟩
  · rw [List.append_assoc]
    conv => lhs; rw [e]
    have ht : (rowV sh row).take j = rowV (sh.take j) (row.take j) := by rw [hv]; exact List.take_left' k1
    have hd : (rowV sh row).drop (j + s) = rowV (sh.drop (j + s)) (row.drop (j + s)) := by
      rw [hv, ← List.append_assoc]; exact List.drop_left' (by rw [List.length_append, k1, k2])
    rw [rowV_app l1, rowV_app l3, ht, hd, List.append_assoc]
theorem flatV_split {sh : List CK} : ∀ {rows : List (List Int)} {i : Nat} {row : List Int}, rows[i]? = some row → flatV sh rows = flatV sh (rows.take i) ++ (rowV sh row ++ flatV sh (rows.drop (i + 1)))
  | r :: rs, 0, row, h => by simp at h; subst h; simp [flatV]
  | r :: rs, i + 1, row, h => by
    have ih := flatV_split (sh := sh) (rows := rs) (i := i) (by simpa using h)
    simp only [flatV, List.flatMap_cons, List.take_succ_cons, List.drop_succ_cons] at ih ⊢
    rw [ih, List.append_assoc]
  | [], _, _, h => by simp at h
theorem flatV_set {sh : List CK} {rows : List (List Int)} {i : Nat} {row row' : List Int} (h : rows[i]? = some row) : flatV sh (rows.set i row') = flatV sh (rows.take i) ++ (rowV sh row' ++ flatV sh (rows.drop (i + 1))) := by
  have hlt := (List.getElem?_eq_some_iff.1 h).1
  have := flatV_split (sh := sh) (rows := rows.set i row') (i := i) (row := row') (by simp [hlt])
  rw [this, List.take_set, List.drop_set_of_lt (by omega)]
  congr 1
  congr 1
  rw [List.set_eq_of_length_le (by simp; omega)]
/-- Cells of a block of rows of one's own are stored into. -/
theorem run_storeCells_fz {P : Program} (g o : Nat) (t : TypeId) (fz : Nat × Nat) (kd : Nat) : ∀ (vs : List Value) (i : Nat) (cur : Array Value) (w : World), FzOk kd fz cur.size → w.heap[g]? = some (.cells cur t fz) → o + i + vs.length ≤ cur.size → (∀ v ∈ vs, v.oneCell' = true) →
    (storeCells ⟨g, o, none⟩ vs i).run P w = .ok () (w.setRow g (cur.toList.take (o + i) ++ vs ++ cur.toList.drop (o + i + vs.length)).toArray)
  | [], i, cur, w, _, hg, _, _ => by
    simp only [storeCells, List.append_nil, List.length_nil, Nat.add_zero, List.take_append_drop, Array.toArray_toList]
    rw [setRow_self w g cur t fz hg]
    rfl
  | v :: rest, i, cur, w, hfz, hg, hl, h1 => by
    have hi : o + i < cur.size := by simp at hl; omega
    have hcell : w.cell? ⟨g, o + i, none⟩ = some cur[o + i] := by simp [World.cell?, hg, hi]
    have hfro : w.frozen? ⟨g, o + i, none⟩ = false := by
      rcases hfz with ⟨_, rfl⟩ | ⟨_, rfl⟩
      · simp [World.frozen?, hg]
      · simp [World.frozen?, hg]; omega
    have hst : (store ((⟨g, o, none⟩ : Addr).add i) v).run P w = .ok () (w.setRow g (cur.setIfInBounds (o + i) v)) := by
      rw [addr_add, run_store P w _ v _ (h1 v (by simp)), hcell]
      simp [hfro, setCell_eq_setRow w g (o + i) cur t fz v hg]
    have ih := run_storeCells_fz (P := P) g o t fz kd rest (i + 1) (cur.setIfInBounds (o + i) v) (w.setRow g (cur.setIfInBounds (o + i) v)) (by simpa using hfz) (setRow_heap w g cur _ t _ hg) (by simp at hl ⊢; omega) (fun x hx => h1 x (by simp [hx]))
    simp only [storeCells, Sem.run_bind, hst, Result.andThen_ok, ih, setRow_setRow]
    congr 3
    have e := list_seg_step cur.toList (o + i) v rest (by simp at hl ⊢; omega)
    simpa [Array.toList_setIfInBounds, Nat.add_assoc] using e

section
variable {S : Nat → List Int → List Int → Prop} {L : V → Env → Prop} {n : Nat} {ρ : Env} {m : Nat → Nat} {bl : List Blk} {gl : Glo} {w0 : Base} {P : Program}
theorem intL_val {tm : List V} {a : Act} (h : TRel n bl.length ρ m tm a.tmps) {x : Operand} {l : Lin} (hl : intL (opV tm x) = some l) : ∃ k, a.eval x = .int k (l.den ρ) ∧ l.sc n := by
  have hx := opV_spec h x
  unfold intL at hl
  split at hl
  · rename_i k iv hv
    simp only [Option.some.injEq] at hl
    subst hl
    rw [hv] at hx
    exact ⟨k, hx.2, hx.1.1⟩
  · cases hl
theorem stepW_wp {tm : List V} {a : Act} {w : World} {G : Again} {o : Oper} {K : Act → World → Prop} {Q : Exit → Act → World → Prop} {k : SK} {T0 : T}
    (h : R w0 n ρ m tm bl a w) (hT : stepW P o n tm bl k = some T0) (hh : T0.holds S L G ρ) (hk : SKok S L w0 k n bl.length ρ m G K) : o.wp P a w K Q := by
  unfold stepW at hT
  split at hT
  · rename_i t p x ho
    have hp := opV_spec h.t p
    have hx := opV_spec h.t x
    split at hT
    · rename_i b sz o' i j u hpv hxv
      rw [hpv] at hp
      rw [hxv] at hx
      split at hT
      · rename_i sh off code cap kind bt s hbl hs
        cases hc : (Nat.ble 2 kind && Nat.beq sz sh.length && Lin.beq o' off && Nat.beq u.cells.length s && Nat.blt 0 s && Nat.ble (j + s) sh.length && shOk sh) with
        | false => rw [hc] at hT; cases hT
        | true =>
          rw [hc] at hT
          simp only [cond_true, Option.some.injEq] at hT
          subst hT
          simp only [Bool.and_eq_true] at hc
          obtain ⟨⟨⟨⟨⟨⟨c1, c2⟩, c3⟩, c4⟩, c5⟩, c6⟩, c7⟩ := hc
          have c1 := Nat.le_of_ble_eq_true c1; have c2 := Nat.eq_of_beq_eq_true c2; have c3 := Lin.beq_eq c3; have c4 := Nat.eq_of_beq_eq_true c4; have c5 := blt_lt c5; have c6 := Nat.le_of_ble_eq_true c6
          subst c2; subst c3; subst c4
          have hpr : a.eval p = .pointer (some ⟨m b, (o'.den ρ).toNat + (i.den ρ).toNat * sh.length + j, none⟩) := hp.2
          have hxr : a.eval x = u.den ρ m := hx.2
          have hpo : (A.ep b sh.length o' i j).ok n bl.length ρ := hp.1
          have hAok : (A.rows sh o' code cap kind).ok n bl.length ρ := h.b _ (List.mem_of_getElem? hbl) _ (by simp)
          -- what was looked at
          have hcs : Snd S L (bind (chkM 21 [code, i]) fun _ => bind (rowLinM ((sh.drop j).take u.cells.length) u.cells) fun ls => bind (fnM 42 (code :: i :: .const j :: ls) 0 RB) fun code' => pure code') n ρ fun ρ' n' code' => code'.sc n' ∧ (0 ≤ code'.den ρ' ∧ code'.den ρ' ≤ RB) ∧ (0 ≤ i.den ρ ∧ i.den ρ < (rOf (code.den ρ)).length) ∧
              ∃ ls : List Int, RowOk ((sh.drop j).take u.cells.length) ls ∧ rowV ((sh.drop j).take u.cells.length) ls = u.cells.map (A.den ρ m) ∧
                rOf (code'.den ρ') = (rOf (code.den ρ)).set (i.den ρ).toNat (((rOf (code.den ρ)).getD (i.den ρ).toNat []).take j ++ ls ++ ((rOf (code.den ρ)).getD (i.den ρ).toNat []).drop (j + ls.length)) := by
            refine chkM_snd fun hk1 => ?_
            have hk1 : 0 ≤ i.den ρ ∧ i.den ρ < (rOf (code.den ρ)).length := hk1
            refine (rowLinM_snd (nb := bl.length) (m := m) (fun y hy => W.cells_ok hx.1 y hy)).bind fun ρ1 n1 ls hn1 ha1 ⟨g1, g2, g3⟩ => ?_
            have hlt : (i.den ρ).toNat < (rOf (code.den ρ)).length := by omega
            have hcap : 0 ≤ cap.den ρ := by
              rcases Int.lt_or_le (cap.den ρ) 0 with hcn | hcn
              · have := (h.mm.rws b sh o' code cap kind bt hbl (by omega)).1 hcn
                rw [this] at hlt; simp at hlt
              · exact hcn
            obtain ⟨_, cells, tq, fz, q1, ⟨q2, q3⟩, q4⟩ := (h.mm.rws b sh o' code cap kind bt hbl (by omega)).2 hcap
            have hf : fnD 42 ((code :: i :: Lin.const j :: ls).map (·.den ρ1)) = rc ((rOf (code.den ρ)).set (i.den ρ).toNat (((rOf (code.den ρ)).getD (i.den ρ).toNat []).take j ++ ls.map (·.den ρ1) ++ ((rOf (code.den ρ)).getD (i.den ρ).toNat []).drop (j + (ls.map (·.den ρ1)).length))) := by
              simp only [List.map_cons, fnD, Lin.den_const, Int.toNat_natCast, Lin.den_agree ha1 hAok.1.2.1, Lin.den_agree ha1 hpo.2.1.2]
            have hget : (rOf (code.den ρ)).getD (i.den ρ).toNat [] = (rOf (code.den ρ))[(i.den ρ).toNat] := by simp [List.getD, hlt]
            have hrow : RowOk sh ((rOf (code.den ρ)).getD (i.den ρ).toNat []) := by rw [hget]; exact q3.1 _ (List.getElem_mem hlt)
            have hput := row_put hrow g2 c6
            have hrows : ∀ r ∈ (rOf (code.den ρ)).set (i.den ρ).toNat (((rOf (code.den ρ)).getD (i.den ρ).toNat []).take j ++ ls.map (·.den ρ1) ++ ((rOf (code.den ρ)).getD (i.den ρ).toNat []).drop (j + (ls.map (·.den ρ1)).length)), RowOk sh r := fun r hr => by
              rcases List.mem_or_eq_of_mem_set hr with hr | hr
              · exact q3.1 r hr
              · subst hr; exact hput.1
            have hpos : 0 < sh.length := by omega
            have hlen : (rOf (code.den ρ)).length ≤ maxLen := by
              have q3' := q3
              obtain ⟨_, pre, post, p1, p2⟩ := q3'
              have h4 := congrArg List.length p1
              simp only [List.length_append, flatV_len q3.1, Array.length_toList] at h4
              obtain ⟨_, _, _, h5, _⟩ := q4 c1
              rw [h5] at h4
              have h6 : (rOf (code.den ρ)).length * sh.length ≤ (cap.den ρ).toNat * sh.length := by omega
              have h7 := Nat.le_of_mul_le_mul_right h6 hpos
              have := hAok.2.2.2
              unfold maxLen; omega
            have hbd := RB_c (l := (rOf (code.den ρ)).set (i.den ρ).toNat (((rOf (code.den ρ)).getD (i.den ρ).toNat []).take j ++ ls.map (·.den ρ1) ++ ((rOf (code.den ρ)).getD (i.den ρ).toNat []).drop (j + (ls.map (·.den ρ1)).length))) (by simpa using hlen) fun r hr => (hrows r hr).row c7
            refine (fnM_snd (by rw [hf]; exact rc_nonneg _) (by rw [hf]; exact hbd)).bind fun ρ2 n2 code' hn2 ha2 ⟨k1, k2⟩ => Snd.pure ?_
            rw [hf] at k2
            exact ⟨k1, by rw [k2]; exact ⟨rc_nonneg _, hbd⟩, hk1, ls.map (·.den ρ1), g2, g3, by rw [k2, rOf_rc]⟩
          obtain ⟨ρ', n', code', hn, ha, ⟨g1, g2, g3, ls, g4, g5, g6⟩, hh⟩ := hcs G _ hh
          have hR := h.later hn ha
          have hlt : (i.den ρ).toNat < (rOf (code.den ρ)).length := by omega
          have hcap : 0 ≤ cap.den ρ := by
            rcases Int.lt_or_le (cap.den ρ) 0 with hcn | hcn
            · have := (h.mm.rws b sh o' code cap kind bt hbl (by omega)).1 hcn
              rw [this] at hlt; simp at hlt
            · exact hcn
          obtain ⟨q0, cells, tq, fz, q1, ⟨q2, q3⟩, q4⟩ := (h.mm.rws b sh o' code cap kind bt hbl (by omega)).2 hcap
          obtain ⟨r0, r1, r2, r3, r4, r5⟩ := q4 c1
          subst r0
          obtain ⟨q3a, pre, post, q3b, q3c⟩ := q3
          have hrow0 : (rOf (code.den ρ))[(i.den ρ).toNat]? = some ((rOf (code.den ρ)).getD (i.den ρ).toNat []) := by simp [List.getD, hlt]
          generalize hrw : (rOf (code.den ρ)).getD (i.den ρ).toNat [] = row at g6 hrow0
          have hrok := q3a row (List.mem_of_getElem? hrow0)
          obtain ⟨p1, p2⟩ := row_put hrok g4 c6
          have hvl : u.cells.length = (u.cells.map (A.den ρ m)).length := by simp
          have hcellsL : cells.toList = (pre ++ flatV sh ((rOf (code.den ρ)).take (i.den ρ).toNat)) ++ (rowV sh row ++ (flatV sh ((rOf (code.den ρ)).drop ((i.den ρ).toNat + 1)) ++ post)) := by
            rw [q3b, flatV_split hrow0]; simp only [List.append_assoc]
          have hA : (pre ++ flatV sh ((rOf (code.den ρ)).take (i.den ρ).toNat)).length = (o'.den ρ).toNat + (i.den ρ).toNat * sh.length := by
            rw [List.length_append, q3c, flatV_len fun r hr => q3a r (List.mem_of_mem_take hr), List.length_take, Nat.min_eq_left (by omega)]
          have hB := rowV_len hrok
          have hfitc : (o'.den ρ).toNat + (i.den ρ).toNat * sh.length + j + 0 + (u.cells.map (A.den ρ m)).length ≤ cells.size := by
            have := congrArg List.length hcellsL
            simp only [List.length_append, Array.length_toList, hB] at this hA
            simp; omega
          have hst := run_storeCells_fz (P := P) (m b) ((o'.den ρ).toNat + (i.den ρ).toNat * sh.length + j) _ fz kind (u.cells.map (A.den ρ m)) 0 cells w r2 q1 hfitc (fun v hv => by
            obtain ⟨y, hy, rfl⟩ := List.mem_map.1 hv
            exact A.oneCell (W.cells_ok hx.1 y hy))
          simp only [Nat.add_zero] at hst
          -- the new cells
          have hnew : cells.toList.take ((o'.den ρ).toNat + (i.den ρ).toNat * sh.length + j) ++ u.cells.map (A.den ρ m) ++ cells.toList.drop ((o'.den ρ).toNat + (i.den ρ).toNat * sh.length + j + (u.cells.map (A.den ρ m)).length) = pre ++ flatV sh (rOf (code'.den ρ')) ++ post := by
            rw [g6, flatV_set hrow0, hcellsL, ← hA, p2, g5]
            rw [List.take_append, List.take_of_length_le (by omega), Nat.add_sub_cancel_left, List.take_append_of_le_length (by omega)]
            rw [List.drop_append, List.drop_of_length_le (by omega), List.nil_append]
            rw [show (pre ++ flatV sh ((rOf (code.den ρ)).take (i.den ρ).toNat)).length + j + (u.cells.map (A.den ρ m)).length - (pre ++ flatV sh ((rOf (code.den ρ)).take (i.den ρ).toNat)).length = j + u.cells.length by simp; omega]
            rw [List.drop_append_of_le_length (by omega)]
            simp only [List.append_assoc]
          rw [hnew] at hst
          have hrows' : ∀ r ∈ rOf (code'.den ρ'), RowOk sh r := fun r hr => by
            rw [g6] at hr
            rcases List.mem_or_eq_of_mem_set hr with hr | hr
            · exact q3a r hr
            · subst hr; exact p1
          have hl' : (rOf (code'.den ρ')).length = (rOf (code.den ρ)).length := by rw [g6]; simp
          have hsz : (pre ++ flatV sh (rOf (code'.den ρ')) ++ post).length = cells.size := by
            have e1 := congrArg List.length q3b
            simp only [List.length_append, flatV_len hrows', flatV_len q3a, Array.length_toList, hl'] at e1 ⊢
            omega
          have d1 : cap.den ρ' = cap.den ρ := Lin.den_agree ha hAok.1.2.2
          have d2 : o'.den ρ' = o'.den ρ := Lin.den_agree ha hAok.1.1
          have hmput := hR.mm.put (kd := kind) (cells := cells) (fz := fz) (code' := code') c1 hbl (by rw [d1]; exact hcap) (row := (pre ++ flatV sh (rOf (code'.den ρ')) ++ post).toArray) (fun _ => ⟨fun h9 => by rw [d1] at h9; omega, fun _ => ⟨q0, _, _, fz, setRow_heap w (m b) _ _ _ _ q1, ⟨by rw [d2]; exact q2, by
            rw [d2]
            exact ⟨hrows', pre, post, rfl, q3c⟩⟩, fun _ => ⟨rfl, by rw [d2]; exact r1, by simp only [List.size_toArray, hsz]; exact r2, by rw [d1]; simp only [List.size_toArray, hsz]; exact r3, r4, r5⟩⟩⟩)
          unfold Oper.wp
          have hrun : (Instr.storeAt t (.pointer (some ⟨m b, (o'.den ρ).toNat + (i.den ρ).toNat * sh.length + j, none⟩)) (u.den ρ m)).run P w = .ok () (w.setRow (m b) (pre ++ flatV sh (rOf (code'.den ρ')) ++ post).toArray) := by
            simp only [Instr.storeAt, Instr.sureAddr, Sem.run_bind, Sem.run_pure, Result.andThen_ok, storeVar, run_szB hs, W.cells_den (m := m) u hx.1]
            simp only [List.size_toArray, List.length_map, ne_eq, not_true_eq_false, if_false, Sem.run_pure, Result.andThen_ok]
            simp only [Sem.run_pure, Result.andThen_ok, hst]
          simp only [execOp, ho, Sem.run_bind, hpr, hxr, hrun, Result.andThen_ok, Sem.run_pure]
          refine hk n' ρ' m _ _ G _ _ ⟨hn, ha, by rw [setB_length]; exact Nat.le_refl _, fun _ _ => rfl⟩ (AgA.refl _ _) ⟨?_, by rw [put_defers]; exact h.d, hR.b.set (fun y hy => by
            simp at hy; subst hy
            exact ⟨⟨hAok.1.1.mono hn, g1, hAok.1.2.2.mono hn⟩, g2, by rw [d1]; exact hAok.2.2⟩), hmput⟩ hh
          rw [setB_length]
          exact TRel.put hR.t o.dst (by intro x hx; simp at hx) rfl
      · cases hT
    · cases hT
  · rename_i s d x ho
    have hx := opV_spec h.t x
    split at hT
    · rename_i l hxv
      rw [hxv] at hx
      split at hT
      · rename_i e hs hd
        split at hT
        · rename_i he
          simp only [Option.some.injEq] at hT
          subst hT
          have hlo : (A.str l).ok n bl.length ρ := hx.1
          have hxr : a.eval x = .string (bA (sOf (l.den ρ))) := hx.2
          have hcs : Snd S L (bind (fnM 27 [l] 0 RB) fun code => bind (fnM 0 [l] 0 9223372036854775807) fun len => pure (code, len)) n ρ fun ρ' n' p => (p.1.sc n' ∧ p.2.sc n') ∧ (0 ≤ p.1.den ρ' ∧ p.1.den ρ' ≤ RB) ∧ (sOf (l.den ρ)).length ≤ 9223372036854775807 ∧ rOf (p.1.den ρ') = (sOf (l.den ρ)).map (fun b => [(b.toNat : Int)]) ∧ p.2.den ρ' = (sOf (l.den ρ)).length := by
            have hk1 : (sOf (l.den ρ)).length ≤ 9223372036854775807 := by have := HB_s hlo.2.2; unfold mxL at this; omega
            have hbd : rc ((sOf (l.den ρ)).map fun b => [(b.toNat : Int)]) ≤ RB := RB_c (by simp; unfold maxLen; omega) fun r hr => by
              obtain ⟨b, _, rfl⟩ := List.mem_map.1 hr
              have hp := HB_pos
              have := b.toNat_lt
              exact ⟨by simp, fun z hz => by simp at hz; subst hz; omega⟩
            refine (fnM_snd (op := 27) (args := [l]) (rc_nonneg _) hbd).bind fun ρ1 n1 code hn1 ha1 ⟨g1, g2⟩ => ?_
            have g2 : code.den ρ1 = rc ((sOf (l.den ρ)).map fun b => [(b.toNat : Int)]) := g2
            have hl1 : l.den ρ1 = l.den ρ := Lin.den_agree ha1 hlo.1
            refine (fnM_snd (op := 0) (args := [l]) (lo := 0) (hi := 9223372036854775807) (Int.natCast_nonneg _) (by
              show ((sOf (l.den ρ1)).length : Int) ≤ _
              rw [hl1]; omega)).bind fun ρ2 n2 len hn2 ha2 ⟨k1, k2⟩ => Snd.pure ?_
            have k2 : len.den ρ2 = ((sOf (l.den ρ1)).length : Nat) := k2
            have e3 : code.den ρ2 = code.den ρ1 := Lin.den_agree ha2 g1
            refine ⟨⟨g1.mono hn2, k1⟩, by rw [e3, g2]; exact ⟨rc_nonneg _, hbd⟩, hk1, by rw [e3, g2, rOf_rc], by rw [k2, hl1]⟩
          obtain ⟨ρ', n', p, hn, ha, ⟨⟨g1, g1'⟩, g2, g3, g4, g5⟩, hh⟩ := hcs G (fun p n => growK 3 e o.dst byteShape p.1 p.2 n tm bl k) hh
          have hR := h.later hn ha
          have hrun := Lib.run_convert_string_bytes (P := P) w s d e (bA (sOf (l.den ρ))) hs (slcOf_spec hd) he
          generalize hcap : grownCap w (bA (sOf (l.den ρ))).size 0 e = c at hrun
          have hge : (bA (sOf (l.den ρ))).size ≤ c := by rw [← hcap]; exact grownCap_ge w _ 0 e
          have hle : c ≤ 9223372036854775807 := by rw [← hcap]; exact grownCap_le_maxLen w _ 0 e (by rw [bA_size]; exact g3)
          have hheap : (Lib.bytesWorld w e (bA (sOf (l.den ρ)))).heap[w.heap.size]? = some (.cells (Lib.bytesCells w e (bA (sOf (l.den ρ)))) e ((Lib.bytesCells w e (bA (sOf (l.den ρ)))).size, (Lib.bytesCells w e (bA (sOf (l.den ρ)))).size + 1)) := Lib.bytesWorld_at_new w e _
          have hcsz : (Lib.bytesCells w e (bA (sOf (l.den ρ)))).size = c := by
            have hge' := hge
            rw [bA_size] at hge'
            simp only [Lib.bytesCells, Array.size_append, Array.size_map, Array.size_replicate, hcap]
            show (bA (sOf (l.den ρ))).size + _ = _
            omega
          have hext : w.Extends (Lib.bytesWorld w e (bA (sOf (l.den ρ)))) := by
            have hb : ∀ i : Nat, i < w.heap.size → (Lib.bytesWorld w e (bA (sOf (l.den ρ)))).heap[i]? = w.heap[i]? := fun i hi => Lib.bytesWorld_at_old w e _ i hi
            exact ⟨rfl, rfl, rfl, by simp [Lib.bytesWorld, World.freeze, World.alloc, World.drew, -World.alloc_eq, -World.drew_eq], fun y hy => by simp only [World.cell?, hb y.block hy], fun y hy => by simp only [World.frozen?, hb y.block hy], hb⟩
          have hR2 : R w0 n' ρ' m tm bl a (Lib.bytesWorld w e (bA (sOf (l.den ρ)))) := ⟨hR.t, hR.d, hR.b, hR.mm.grow hext⟩
          unfold Oper.wp
          simp only [execOp, ho, Sem.run_bind, hxr, hrun, Result.andThen_ok, Sem.run_pure]
          have hk' : SKok S L w0 k n' bl.length ρ' m G K := hk.later ⟨hn, ha, Nat.le_refl _, fun _ _ => rfl⟩ (AgA.refl _ _)
          have hsize : (bA (sOf (l.den ρ))).size = (sOf (l.den ρ)).length := bA_size _
          have key := pushK_wp (kd := 3) (c := (c : Int)) (g := w.heap.size) (by omega) hR2 g1 g1' g2 ⟨by omega, by omega⟩ (by rw [g5]; exact ⟨⟨by omega, by omega, by omega, by omega⟩, ⟨by omega, by omega⟩, fun h => by omega, fun _ => by omega⟩) (fun h => by omega)
            (fun _ => ⟨_, _, ⟨hheap, .inr ⟨by decide, rfl⟩⟩, by
              rw [g4]
              refine ⟨fun r hr => ?_, [], List.replicate (c - (sOf (l.den ρ)).length) (.int .u8 0), ?_, rfl⟩
              · obtain ⟨b, _, rfl⟩ := List.mem_map.1 hr
                have := b.toNat_lt
                exact ⟨⟨by simp [CK.bd], by simp only [CK.bd]; omega⟩, trivial⟩
              · simp only [Lib.bytesCells, hcap, Array.toList_append, Array.toList_map, Array.toList_replicate, List.nil_append]
                congr 1
                · show (sOf (l.den ρ)).map _ = _
                  simp only [flatV, List.flatMap_map]
                  induction sOf (l.den ρ) with
                  | nil => rfl
                  | cons b r ih => simp [rowV, CK.val, byteShape, ih], by
              rw [hcsz]; simp [byteShape], h.mm.ext.size, .inr h.mm.hsize⟩) (fun i p hi he => by
                by_cases hk0 : kindC ρ' p.1 = 0
                · exact .inl hk0
                · have := hR.mm.lt hi hk0; omega) hh hk'
          rw [if_neg (by omega), g5] at key
          have key : K (a.put o.dst (.slice (some ⟨w.heap.size, 0, none⟩) (sOf (l.den ρ)).length c)) (Lib.bytesWorld w e (bA (sOf (l.den ρ)))) := by simpa using key
          rw [hsize]
          exact key
        · cases hT
      · cases hT
    · cases hT
  · rename_i t x y ho
    split at hT
    · rename_i e lx ly hd hlx hly
      cases hi : P.info? e with
      | none => simp [hi] at hT
      | some i =>
        simp only [hi] at hT
        split at hT
        · rename_i z hz
          cases hc : (Nat.beq i.size 1 && Nat.ble i.bytes 1024 && decide (z = 0)) with
          | false => rw [hc] at hT; cases hT
          | true =>
            rw [hc] at hT
            simp only [cond_true, Option.some.injEq] at hT
            subst hT
            simp only [Bool.and_eq_true, decide_eq_true_eq] at hc
            have c1 := Nat.eq_of_beq_eq_true hc.1.1
            have c2 := Nat.le_of_ble_eq_true hc.1.2
            have c3 := hc.2
            subst c3
            obtain ⟨kx, hx, hxs⟩ := intL_val h.t hlx
            obtain ⟨ky, hy, hys⟩ := intL_val h.t hly
            obtain ⟨hk49, hh⟩ := hh
            have hk49 : 0 ≤ lx.den ρ ∧ lx.den ρ ≤ ly.den ρ ∧ ly.den ρ ≤ 1073741824 := hk49
            obtain ⟨q1, q2, q3⟩ := hk49
            have q0 : 0 ≤ ly.den ρ := by omega
            have hrow : ∀ r ∈ List.replicate (lx.den ρ).toNat [(0 : Int)], RowOk byteShape r := fun r hr => by
              rw [List.eq_of_mem_replicate hr]
              exact ⟨⟨by simp [CK.bd], by simp [CK.bd]⟩, trivial⟩
            have hbd : rc (List.replicate (lx.den ρ).toNat [(0 : Int)]) ≤ RB := RB_rows (sh := byteShape) (by decide) (by simp; omega) hrow
            have hf : fnD 26 ([lx, Lin.const 0].map (·.den ρ)) = rc (List.replicate (lx.den ρ).toNat [(0 : Int)]) := by
              simp only [List.map_cons, List.map_nil, fnD, Lin.den_const]
            obtain ⟨ρ', n', code, hn, ha, ⟨g1, g2⟩, hh⟩ := fnM_snd (S := S) (L := L) (n := n) (op := 26) (args := [lx, .const 0]) (lo := 0) (hi := RB) (by rw [hf]; exact rc_nonneg _) (by rw [hf]; exact hbd) G _ hh
            rw [hf] at g2
            have hR := h.later hn ha
            have d1 : lx.den ρ' = lx.den ρ := Lin.den_agree ha hxs
            have hrun := run_make (P := P) w t e i (.int .u8 0) (slcOf_spec hd) hi hz kx ky (lx.den ρ) (ly.den ρ) q1 q2 (by
              have h0 : (i.bytes : Int) ≤ 1024 := by omega
              have h2 : (i.bytes : Int) * ly.den ρ ≤ 1024 * 1073741824 := Int.mul_le_mul h0 q3 q0 (by decide)
              omega) (by omega)
            have hmade : (madeCells (Value.int .u8 0).cells ((ly.den ρ).toNat * i.size)).toList = List.replicate (ly.den ρ).toNat (.int .u8 0) := by
              rw [c1, Nat.mul_one]
              refine List.ext_getElem? fun j => ?_
              simp only [madeCells, Value.cells, Array.toList_map, Array.toList_range]
              rw [List.getElem?_map, List.getElem?_replicate]
              by_cases hj : j < (ly.den ρ).toNat
              · rw [if_pos hj, List.getElem?_range hj]
                simp [Nat.mod_one]
              · rw [if_neg hj, List.getElem?_eq_none (by simp; omega)]; rfl
            have hsz : (madeCells (Value.int .u8 0).cells ((ly.den ρ).toNat * i.size)).size = (ly.den ρ).toNat := by
              have := congrArg List.length hmade
              simpa using this
            have hheap : (w.alloc (.cells (madeCells (Value.int .u8 0).cells ((ly.den ρ).toNat * i.size)) e)).heap[w.heap.size]? = some (.cells (madeCells (Value.int .u8 0).cells ((ly.den ρ).toNat * i.size)) e (0, 0)) := by simp [World.alloc, -World.alloc_eq]
            have hext : w.Extends (w.alloc (.cells (madeCells (Value.int .u8 0).cells ((ly.den ρ).toNat * i.size)) e)) := by
              have hb : ∀ j : Nat, j < w.heap.size → (w.alloc (.cells (madeCells (Value.int .u8 0).cells ((ly.den ρ).toNat * i.size)) e)).heap[j]? = w.heap[j]? := fun j hj => by
                simp only [World.alloc]
                rw [Array.getElem?_push_lt hj, Array.getElem?_eq_getElem hj]
              exact ⟨rfl, rfl, rfl, by simp [World.alloc, -World.alloc_eq], fun y hy => by simp only [World.cell?, hb y.block hy], fun y hy => by simp only [World.frozen?, hb y.block hy], hb⟩
            generalize hW : w.alloc (.cells (madeCells (Value.int .u8 0).cells ((ly.den ρ).toNat * i.size)) e) = W at *
            have hR2 : R w0 n' ρ' m tm bl a W := ⟨hR.t, hR.d, hR.b, hR.mm.grow hext⟩
            unfold Oper.wp
            simp only [execOp, ho, Sem.run_bind, hx, hy, hrun, Result.andThen_ok, Sem.run_pure]
            have hk' : SKok S L w0 k n' bl.length ρ' m G K := hk.later ⟨hn, ha, Nat.le_refl _, fun _ _ => rfl⟩ (AgA.refl _ _)
            have key := pushK_wp (kd := 2) (c := ly.den ρ) (g := w.heap.size) (Nat.le_refl _) hR2 g1 (hxs.mono hn) (by rw [g2]; exact ⟨rc_nonneg _, hbd⟩) ⟨by omega, by omega⟩ (by rw [d1]; exact ⟨⟨by omega, by omega, by omega, by omega⟩, ⟨by omega, by omega⟩, fun h => by omega, fun _ => by omega⟩) (fun h => by omega)
              (fun _ => ⟨_, _, ⟨hheap, .inl ⟨rfl, rfl⟩⟩, by
                rw [g2, rOf_rc]
                refine ⟨hrow, [], List.replicate ((ly.den ρ).toNat - (lx.den ρ).toNat) (.int .u8 0), ?_, rfl⟩
                rw [hmade, List.nil_append]
                have e1 : flatV byteShape (List.replicate (lx.den ρ).toNat [(0 : Int)]) = List.replicate (lx.den ρ).toNat (.int .u8 0) := by
                  generalize (lx.den ρ).toNat = q
                  induction q with
                  | zero => rfl
                  | succ q ih =>
                    rw [List.replicate_succ, List.replicate_succ]
                    simp only [flatV, List.flatMap_cons] at ih ⊢
                    rw [ih]; rfl
                rw [e1, List.replicate_append_replicate]
                congr 1; omega, by rw [hsz]; simp [byteShape], h.mm.ext.size, .inr h.mm.hsize⟩) (fun j p hj he => by
                by_cases hk0 : kindC ρ' p.1 = 0
                · exact .inl hk0
                · have := hR.mm.lt hj hk0; omega) hh hk'
            rw [if_neg (by omega), d1] at key
            have key : K (a.put o.dst (.slice (some ⟨w.heap.size, 0, none⟩) (lx.den ρ).toNat (ly.den ρ).toNat)) W := key
            exact key
        · cases hT
    · cases hT
  · cases hT
end
end Go.Rx
