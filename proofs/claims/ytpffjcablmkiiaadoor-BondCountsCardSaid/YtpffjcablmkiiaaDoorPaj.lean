/- The contract of slices.Insert at a struct, out of its walks. -/
import Derived.Test.YtpffjcablmkiiaaDoorPai
import Derived.KernelRfl
import Derived.Lib.Overlaps
import Derived.Lib.AppendZerosOnto
import Derived.Test.YtpffjcablmkiiaaDoorPag
import Derived.Shelf.Vars
import Derived.Test.YtpffjcablmkiiaaDoorRows
import Derived.Test.YtpffjcablmkiiaaDoorTie
import Derived.Test.YtpffjcablmkiiaaDoorCards
import Derived.SevenTiedAt
import Derived.Lay

set_option linter.unusedVariables false
set_option linter.unusedSimpArgs false
set_option maxRecDepth 100000
namespace Go.Ad
open Go Go.Rx Go.Proofs Go.RowKit
theorem slNew_alloc (w : World) (o : Obj) (own : Option Nat) : SlNew w (w.drew.alloc o) own :=
  have h := (World.Extends.refl w.drew).alloc o
  ⟨h.os, h.tape, h.output, h.size, fun k hk _ => h.block k hk⟩
theorem SlNew.trans1 {w w1 w2 : World} {own : Option Nat} {g : Nat} (h : SlNew w w1 own) (h2 : SlNew w1 w2 (some g)) (hg : own = some g ∨ w.heap.size ≤ g) : SlNew w w2 own := by
  obtain ⟨a1, a2, a3, a4, a5⟩ := h
  obtain ⟨b1, b2, b3, b4, b5⟩ := h2
  refine ⟨b1.trans a1, b2.trans a2, b3.trans a3, Nat.le_trans a4 b4, fun k hk hne => ?_⟩
  rw [b5 k (Nat.lt_of_lt_of_le hk a4) (fun e => ?_), a5 k hk hne]
  cases e
  rcases hg with hg | hg
  · exact hne hg
  · omega
theorem SlNew.drew1 {w w1 : World} {own : Option Nat} (h : SlNew w w1 own) : SlNew w w1.drew own := h
/-- slices.overlaps: the second lies in a block of one's own. -/
theorem run_overlaps_own {P : Program} (w : World) (tS tR e : TypeId) (ht : P.underlying tS = some (.slice e)) (size : Nat) (hz : ∀ w, (Go.sizeOf e).run P w = .ok size w)
    (a b : Addr) (la ca lb cb : Nat) (hne : a.block ≠ b.block) (cA cB : Array Value) (tA tB : TypeId) (fA : Nat × Nat)
    (hA : w.heap[a.block]? = some (.cells cA tA fA)) (hB : w.heap[b.block]? = some (.cells cB tB (0, 0))) (h0 : cA.size ≠ 0) :
    (Extern.SlicesOverlaps.overlaps #[tS, tS] #[tR] #[.slice (some a) la ca, .slice (some b) lb cb]).run P w = .ok (.bool false) w := by
  have hnb : (a.block != b.block) = true := by simpa using hne
  have hnb' : (a.block == b.block) = false := by simpa using hne
  have hsa : w.shape? a.block = some (tA, cA.size) := by unfold World.shape?; rw [hA]
  have hsb : w.shape? b.block = some (tB, cB.size) := by unfold World.shape?; rw [hB]
  have hfb : ∀ o, w.frozen? ⟨b.block, o, none⟩ = false := fun o => by unfold World.frozen?; simp only [hB]; simp
  have hfb' : w.frozen? b = false := by unfold World.frozen?; simp only [hB]; simp
  change Sem.run P (α := Value) (do
    let some t := (#[tS, tS] : Array TypeId)[0]? | stuck "slices.overlaps: no parameter types"
    let .slice elem ← underlying t | stuck "slices.overlaps: slice type expected"
    let size ← Go.sizeOf elem
    match (some a : Option Addr), (some b : Option Addr) with
    | some a, some b =>
      if la = 0 ∨ lb = 0 ∨ size = 0 then pure (Value.bool false)
      else if a.block != b.block && (← frozen a) && (← frozen b) then unsupported .addressObserved
      else do
        if a.block != b.block then do
          noView a; noView b
          if ← mayBeOne a b then return Value.bool ((← choose (.extern "sameAddr.stringBytes" 2)) == 1)
        pure (Value.bool (a.block == b.block && a.off < b.off + lb * size && b.off < a.off + la * size))
    | _, _ => pure (Value.bool false)) w = _
  by_cases hl : la = 0 ∨ lb = 0 ∨ size = 0
  · simp [run_underlying ht, hz, hl]
  · obtain ⟨kA, hkA⟩ : ∃ k, cA.size = k + 1 := ⟨cA.size - 1, by omega⟩
    rw [hkA] at hsa
    cases h1 : w.frozen? a <;> cases h2 : w.frozen? ⟨a.block, kA + 1, none⟩ <;> simp [run_underlying ht, hz, hl, hnb, hnb', frozen, noView, viewAt, mayBeOne, stringish, shape, Sem.run, hsa, hsb, hfb, hfb', h1, h2]
theorem room_lists {α : Type} {cells L1 L2 N rest : List α} {x y z : Nat} (h : cells = L1 ++ L2 ++ rest) (h1 : L1.length = x) (hy : z ≤ cells.length) (hN : N = N) (hz : z = x + y) :
    (cells.take z ++ L2 ++ cells.drop (z + L2.length)).toArray.toList.take x ++ N ++ (cells.take z ++ L2 ++ cells.drop (z + L2.length)).toArray.toList.drop (x + y) = L1 ++ N ++ L2 ++ cells.drop (z + L2.length) := by
  simp only
  have e1 : (cells.take z ++ L2 ++ cells.drop (z + L2.length)).take x = L1 := by
    rw [List.append_assoc, List.take_append_of_le_length (by rw [List.length_take]; omega), List.take_take, Nat.min_eq_left (by omega), h, List.append_assoc, List.take_append_of_le_length (by omega), List.take_of_length_le (by omega)]
  have e2 : (cells.take z ++ L2 ++ cells.drop (z + L2.length)).drop (x + y) = L2 ++ cells.drop (z + L2.length) := by
    rw [List.append_assoc, ← hz]
    have : (cells.take z).length = z := by rw [List.length_take]; omega
    conv => lhs; arg 1; rw [← this]
    rw [List.drop_left]
  rw [e1, e2]
  simp
theorem grow_lists {α : Type} {L1 L2 N D : List α} {x y : Nat} (h1 : L1.length = x) (hN : N.length = y) :
    (L1 ++ N ++ D).toArray.toList.take (x + y) ++ L2 ++ (L1 ++ N ++ D).toArray.toList.drop (x + y + L2.length) = L1 ++ N ++ L2 ++ (L1 ++ N ++ D).toArray.toList.drop (x + y + L2.length) := by
  congr 2
  simp only
  rw [List.take_append_of_le_length (by rw [List.length_append]; omega), List.take_of_length_le (by rw [List.length_append]; omega)]
theorem ok_bins {wb : World} : k_bins.Ok Tryd.prog wb (flatS sh SB k_bins.id) := by
  refine ⟨fun args w => enters (by kernel_rfl) _ _, fun F w v0 code vs zs hw ho hc hz hpre hat hF => ?_⟩
  match zs, hz, vs, hat with
  | [i, r], hz, [vi, vv], hat =>
    obtain ⟨hvi, hvv, _⟩ := hat
    have hvi : vi = .int .i64 i := hvi
    have hvw : SlAt F w k_bins.sh (rOf r) vv := hvv
    clear hvv
    have hpre : (0 ≤ i ∧ i ≤ ((rOf code).length : Int)) ∧ (rOf r).length = 1 ∧ (rOf code).length + 1 ≤ 1073741824 := hpre
    obtain ⟨⟨p0, p1⟩, p2, p3⟩ := hpre
    obtain ⟨a, ha⟩ : ∃ a : Nat, i = a := ⟨i.toNat, by omega⟩
    subst ha
    have p1 : a ≤ (rOf code).length := by omega
    rcases hvw with ⟨_, h0⟩ | ⟨gA, oA, vc, cellsA, tA, fzA, hvv, ⟨hcA1, hcA2⟩, hFA, hgA, hrA⟩
    · rw [h0] at p2; simp at p2
    rw [p2] at hvv
    obtain ⟨i0, hi0, hiK, z, hiz, hzK, hiB⟩ : ∃ i0, Tryd.prog.info? 31 = some i0 ∧ i0.size = 4 ∧ ∃ z, i0.zero = some z ∧ z.cells.size = 4 ∧ i0.bytes ≤ 131072 := ⟨_, rfl, by kernel_rfl, _, rfl, by kernel_rfl, by decide +kernel⟩
    have hshl : k_bins.sh.length = 4 := rfl
    have hnone : ∀ row ∈ rOf r, RowOk k_bins.sh row := hrA.1
    have hnl : (flatV k_bins.sh (rOf r)).length = 4 := by rw [flatV_len hnone, p2, hshl, Nat.one_mul]
    have hone : ∀ (rows : List (List Int)), ∀ u ∈ flatV k_bins.sh rows, u.oneCell' = true := fun _ => flatV_one
    have hltA : gA < w.heap.size := (Array.getElem?_eq_some_iff.1 hgA).1
    have hAc : cellsA.size ≠ 0 := by
      obtain ⟨_, pre, post, h2, _⟩ := hrA
      have := congrArg List.length h2
      simp only [List.length_append, hnl, Array.length_toList] at this
      omega
    have hsrc : ∀ w1 : World, w1.heap[gA]? = w.heap[gA]? → ∀ j u, (flatV k_bins.sh (rOf r))[j]? = some u → w1.cell? ((⟨gA, oA, none⟩ : Addr).add j) = some u := fun w1 h1 j u hu => by
      rw [Addr.add_lit]
      have := hrA.flat hu
      simp only [World.cell?, h1, hgA, Option.isSome_none, Bool.false_eq_true, if_false]
      exact this
    have hsrcS : ∀ w1 : World, w1.heap[gA]? = w.heap[gA]? → Src Tryd.prog i0.size 24 (.slice (some ⟨gA, oA, none⟩) 1 vc) 1 (flatV k_bins.sh (rOf r)) w1 := fun w1 h1 =>
      Src.ofSlice w1 Tryd.underlying24 ⟨gA, oA, none⟩ 1 vc _ (by rw [hnl, hiK]) (hsrc w1 h1) (hone _)
    -- what is to be shown at the end
    have fin : ∀ (w' : World) (G C : Nat) (cells : Array Value) (post : List Value), SlNew w w' (ownOf v0) → (∀ row ∈ rOf code, RowOk k_bins.sh row) → w'.heap[G]? = some (.cells cells 31 (0, 0)) → cells.toList = flatV k_bins.sh ((rOf code).take a) ++ flatV k_bins.sh (rOf r) ++ flatV k_bins.sh ((rOf code).drop a) ++ post → cells.size = C * 4 →
        (rOf code).length + 1 ≤ C → (C : Int) ≤ 9223372036854775807 → (ownOf v0 = some G ∨ w.heap.size ≤ G) →
        SlNew w w' (ownOf v0) ∧ ∃ code' v', (0 ≤ code' ∧ code' ≤ RB) ∧ flatS sh SB k_bins.id (code :: [(a : Int), r]) [code'] ∧ SlOw (fun g => ownOf v0 = some g ∨ w.heap.size ≤ g) w' k_bins.sh k_bins.e (rOf code') v' ∧ Ending.returned (.slice (some ⟨G, 0, none⟩) ((rOf code).length + 1) C) = .returned v' := by
      intro w' G C cells post hnew hok hG hcells hsz hC1 hC2 hown
      have hall : ∀ row ∈ (rOf code).take a ++ rOf r ++ (rOf code).drop a, RowOk k_bins.sh row := fun row hr => by
        rcases List.mem_append.1 hr with hr | hr
        · rcases List.mem_append.1 hr with hr | hr
          · exact hok row (List.mem_of_mem_take hr)
          · exact hnone row hr
        · exact hok row (List.mem_of_mem_drop hr)
      have hlen' : ((rOf code).take a ++ rOf r ++ (rOf code).drop a).length = (rOf code).length + 1 := by
        rw [List.length_append, List.length_append, List.length_take, List.length_drop, p2, Nat.min_eq_left p1]; omega
      refine ⟨hnew, rc ((rOf code).take a ++ rOf r ++ (rOf code).drop a), _, ⟨rc_nonneg _, RB_rows (by kernel_rfl) (by rw [hlen']; omega) hall⟩, ?_, Or.inr ⟨G, C, cells, ?_, ⟨?_, hC2⟩, hown, hG, ⟨?_, [], post, ?_, rfl⟩, hsz⟩, rfl⟩
      · show rOf (rc _) = (rOf code).take ((a : Int)).toNat ++ rOf r ++ (rOf code).drop ((a : Int)).toNat
        rw [rOf_rc]; rfl
      · rw [rOf_rc, hlen']
      · rw [rOf_rc, hlen']; exact hC1
      · rw [rOf_rc]; exact hall
      · rw [rOf_rc, hcells, List.nil_append, flatV_append, flatV_append]
    rw [hvi, hvv]
    rcases ho with ⟨hv0, h0⟩ | ⟨g, cap, cells, hv0, ⟨hcap1, hcap2⟩, hwb, hg, hrows, hsz⟩
    · -- nothing there
      have ha0 : a = 0 := by rw [h0] at p1; simpa using p1
      subst ha0
      have hC := grown_le w (0 + 1) 0 31 (by omega)
      have happ : ∀ ty, (Builtin.append_ #[24, 24] ty #[.slice none 0 0, .slice (some ⟨gA, oA, none⟩) 1 vc]).run Tryd.prog w = _ := fun ty =>
        run_append_grow_src w 24 24 ty 31 i0 z Tryd.underlying24 hi0 hiz none 0 0 [] (firstCells_zero _ _ _ _) _ 1 _ (hsrcS w rfl) (by omega) (by omega) (growslice_fits (by omega) (by omega))
      rw [hv0]
      refine (Tryd.insert_nil ⟨gA, oA, none⟩ vc _ w _ happ).mono ?_
      rintro e w' ⟨rfl, rfl⟩
      have hC1 := hC.1
      have := fin _ w.heap.size (grownCap w (0 + 1) 0 31) (([] ++ flatV k_bins.sh (rOf r)).toArray ++ Builtin.zeroCells z.cells (grownCap w (0 + 1) 0 31 - (0 + 1))) (Builtin.zeroCells z.cells (grownCap w (0 + 1) 0 31 - (0 + 1))).toList (slNew_alloc w _ _) (by rw [h0]; intro _ h; cases h) (heap_alloc_new w.drew _) (by rw [h0]; simp [flatV]) (by
        simp only [Array.size_append, List.size_toArray, List.nil_append, hnl, zeroCells_size, hzK]; omega) (by rw [h0]; exact hC.1) (by omega) (.inr (Nat.le_refl _))
      rw [h0] at this
      rw [← hv0]; exact this
    · rw [hshl] at hsz
      obtain ⟨hok, pre, rest, hcells, hpre0⟩ := hrows
      have hpre0 : pre = [] := List.eq_nil_of_length_eq_zero hpre0
      subst hpre0
      rw [List.nil_append] at hcells
      obtain ⟨n, hn⟩ : ∃ n, (rOf code).length = n := ⟨_, rfl⟩
      rw [hn] at p1 p3 hcap1 hv0 fin
      have hsplit : flatV k_bins.sh (rOf code) = flatV k_bins.sh ((rOf code).take a) ++ flatV k_bins.sh ((rOf code).drop a) := by rw [← flatV_append, List.take_append_drop]
      have hl1 : (flatV k_bins.sh ((rOf code).take a)).length = a * 4 := by rw [flatV_len fun r h => hok r (List.mem_of_mem_take h), List.length_take, Nat.min_eq_left (by omega), hshl]
      have hl2 : (flatV k_bins.sh ((rOf code).drop a)).length = (n - a) * 4 := by rw [flatV_len fun r h => hok r (List.mem_of_mem_drop h), List.length_drop, hn, hshl]
      have hl0 : (flatV k_bins.sh (rOf code)).length = n * 4 := by rw [flatV_len hok, hn, hshl]
      have hcl : cells.toList.length = cap * 4 := by rw [Array.length_toList]; exact hsz
      have hne : gA ≠ g ∨ cap = 0 := by
        rcases Nat.eq_zero_or_pos cap with h | h
        · exact .inr h
        · refine .inl fun e => ?_
          obtain ⟨c', rfl⟩ : ∃ c', cap = c' + 1 := ⟨cap - 1, by omega⟩
          refine hF gA hFA ?_
          rw [hv0, e]; rfl
      have hown : cap ≠ 0 → ownOf v0 = some g := fun h => by
        obtain ⟨c', rfl⟩ : ∃ c', cap = c' + 1 := ⟨cap - 1, by omega⟩
        rw [hv0]; rfl
      have hlt : g < w.heap.size := (Array.getElem?_eq_some_iff.1 hg).1
      -- the cells of the rows
      have hcell : ∀ (w1 : World) (o : Nat) (l : List Value) (pre post : List Value), w1.heap[g]? = w.heap[g]? → cells.toList = pre ++ l ++ post → pre.length = o → ∀ j u, l[j]? = some u → w1.cell? ((⟨g, o, none⟩ : Addr).add j) = some u := fun w1 o l pre post h1 h2 h3 j u hu => by
        rw [Addr.add_lit]
        simp only [World.cell?, h1, hg, Option.isSome_none, Bool.false_eq_true, if_false]
        have hlt := (List.getElem?_eq_some_iff.1 hu).1
        rw [← Array.getElem?_toList, h2, List.append_assoc, List.getElem?_append_right (by omega), List.getElem?_append_left (by omega), ← h3]
        rw [show pre.length + j - pre.length = j by omega]; exact hu
      by_cases han : a = n
      · -- at the end
        subst han
        have hd0 : (rOf code).drop a = [] := List.drop_of_length_le (by omega)
        have ht0 : (rOf code).take a = rOf code := List.take_of_length_le (by omega)
        by_cases hroom : a + 1 ≤ cap
        · have happ : ∀ ty, (Builtin.append_ #[24, 24] ty #[.slice (some ⟨g, 0, none⟩) a cap, .slice (some ⟨gA, oA, none⟩) 1 vc]).run Tryd.prog w = _ := fun ty =>
            run_append_room_row (P := Tryd.prog) w 24 24 ty 31 i0 Tryd.underlying24 hi0 g a cap cells 31 hg _ 1 _ (hsrcS w rfl) hroom (by rw [hiK, hnl, hsz]; omega)
          rw [hv0]
          refine (Tryd.insert_end g a cap ⟨gA, oA, none⟩ vc _ w _ (by omega) (by omega) happ).mono ?_
          rintro e w' ⟨rfl, rfl⟩
          rw [← hv0]
          refine fin _ g cap _ (cells.toList.drop (a * 4 + 4)) (by rw [hown (by omega)]; exact slNew_row w g _) hok (setRow_heap w g _ _ _ _ hg) ?_ ?_ hroom hcap2 (.inl (hown (by omega)))
          · rw [hd0, ht0, hiK, hnl]
            simp only [hcells]
            rw [List.take_append_of_le_length (by omega), List.take_of_length_le (by omega)]
            simp [flatV]
          · simp only [List.size_toArray, List.length_append, List.length_take, List.length_drop, hcl, hnl, hiK]
            omega
        · have hC := grown_le w (a + 1) cap 31 (by omega)
          have happ : ∀ ty, (Builtin.append_ #[24, 24] ty #[.slice (some ⟨g, 0, none⟩) a cap, .slice (some ⟨gA, oA, none⟩) 1 vc]).run Tryd.prog w = _ := fun ty =>
            run_append_grow_src w 24 24 ty 31 i0 z Tryd.underlying24 hi0 hiz (some ⟨g, 0, none⟩) a cap (flatV k_bins.sh (rOf code)) (run_firstCells_some w.drew i0.size a ⟨g, 0, none⟩ a cap _ (by rw [hl0, hiK]) (hcell w.drew 0 _ [] rest rfl (by rw [hcells]; rfl) rfl)) _ 1 _ (hsrcS w rfl) (by omega) (by omega) (growslice_fits (by omega) (by
              have := Nat.mul_le_mul (show a + 1 ≤ 1073741824 by omega) hiB
              omega))
          rw [hv0]
          refine (Tryd.insert_end g a cap ⟨gA, oA, none⟩ vc _ w _ (by omega) (by omega) happ).mono ?_
          rintro e w' ⟨rfl, rfl⟩
          rw [← hv0]
          refine fin _ w.heap.size (grownCap w (a + 1) cap 31) _ (Builtin.zeroCells z.cells (grownCap w (a + 1) cap 31 - (a + 1))).toList (slNew_alloc w _ _) hok (heap_alloc_new w.drew _) ?_ ?_ hC.1 (by omega) (.inr (Nat.le_refl _))
          · rw [hd0, ht0]; simp [flatV]
          · simp only [Array.size_append, List.size_toArray, List.length_append, hl0, hnl, zeroCells_size, hzK]
            have := hC.1
            omega
      · have han : a < n := by omega
        have hcap0 : cap ≠ 0 := by omega
        have hne : gA ≠ g := hne.resolve_right hcap0
        have hown := hown hcap0
        by_cases hroom : n + 1 ≤ cap
        · -- room
          have hlr : rest.length = (cap - n) * 4 := by
            have := congrArg List.length hcells
            simp only [List.length_append, hl0, hcl] at this
            rw [Nat.sub_mul]; omega
          have hcs : cells.toList = flatV k_bins.sh ((rOf code).take a) ++ flatV k_bins.sh ((rOf code).drop a) ++ rest := by rw [hcells, hsplit]
          have hcp1 : ∀ ty, (Builtin.copy_ #[24, 24] ty #[.slice (some ⟨g, (a + 1) * 4, none⟩) (n + 1 - (a + 1)) (cap - (a + 1)), .slice (some ⟨g, a * 4, none⟩) (n + 1 - a) (cap - a)]).run Tryd.prog w.drew = _ := fun ty =>
            run_copy_rows w.drew 24 24 ty 31 i0 Tryd.underlying24 hi0 g ((a + 1) * 4) (n + 1 - (a + 1)) (cap - (a + 1)) ⟨g, a * 4, none⟩ (n + 1 - a) (cap - a) cells 31 (flatV k_bins.sh ((rOf code).drop a)) hg
              (by rw [hl2, hiK, show Nat.min (n + 1 - a) (n + 1 - (a + 1)) = n - a by show min _ _ = _; omega]) (hcell w.drew (a * 4) _ (flatV k_bins.sh ((rOf code).take a)) rest rfl hcs hl1) (by rw [hl2, hsz]; omega) (hone _)
          obtain ⟨c1, hc1⟩ : ∃ c1, c1 = (cells.toList.take ((a + 1) * 4) ++ flatV k_bins.sh ((rOf code).drop a) ++ cells.toList.drop ((a + 1) * 4 + (flatV k_bins.sh ((rOf code).drop a)).length)).toArray := ⟨_, rfl⟩
          rw [← hc1] at hcp1
          have hg1 : (w.drew.setRow g c1).heap[g]? = some (.cells c1 31 (0, 0)) := setRow_heap w.drew g _ _ _ _ hg
          have hc1s : c1.size = cap * 4 := by
            rw [hc1]; simp only [List.size_toArray, List.length_append, List.length_take, List.length_drop, hcl, hl2]; omega
          have hcp2 : ∀ ty, (Builtin.copy_ #[24, 24] ty #[.slice (some ⟨g, a * 4, none⟩) (n + 1 - a) (cap - a), .slice (some ⟨gA, oA, none⟩) 1 vc]).run Tryd.prog (w.drew.setRow g c1) = _ := fun ty =>
            run_copy_rows (w.drew.setRow g c1) 24 24 ty 31 i0 Tryd.underlying24 hi0 g (a * 4) (n + 1 - a) (cap - a) ⟨gA, oA, none⟩ 1 vc c1 31 (flatV k_bins.sh (rOf r)) hg1
              (by rw [hnl, hiK, show Nat.min 1 (n + 1 - a) = 1 by show min _ _ = _; omega]) (hsrc _ (setRow_other w.drew g gA c1 hne)) (by rw [hnl, hc1s]; omega) (hone _)
          have hov : (callFunc 22 #[.slice (some ⟨gA, oA, none⟩) 1 vc, .slice (some ⟨g, (a + 1) * 4, none⟩) (n - a) (cap - (a + 1))]).run Tryd.prog w = .ok (.value (.bool false)) w := by
            rw [run_callFunc_extern Tryd.func22 (by kernel_rfl) (by kernel_rfl) (by kernel_rfl) (e := Extern.SlicesOverlaps.overlaps #[24, 24] #[4]) (by kernel_rfl)]
            rw [run_overlaps_own w 24 4 31 Tryd.underlying24 i0.size (fun w => by simp [Go.sizeOf, typeInfo, hi0]) ⟨gA, oA, none⟩ ⟨g, (a + 1) * 4, none⟩ 1 vc (n - a) (cap - (a + 1)) hne cellsA cells tA 31 fzA hgA hg hAc]
            rfl
          rw [hv0]
          refine (Tryd.insert_room g n cap a ⟨gA, oA, none⟩ vc _ _ w _ _ han hroom (by omega) hov hcp1 hcp2).mono ?_
          rintro e w' ⟨rfl, rfl⟩
          rw [← hv0]
          refine fin _ g cap _ (cells.toList.drop ((a + 1) * 4 + (flatV k_bins.sh ((rOf code).drop a)).length)) (by rw [hown]; exact SlNew.trans1 (w := w) (w1 := w.drew.setRow g c1) (slNew_row w.drew g c1) (slNew_row _ g _) (.inl rfl)) hok (setRow_heap _ g _ _ _ _ hg1) ?_ ?_ hroom hcap2 (.inl hown)
          · simp only [hnl]
            rw [hc1]
            exact room_lists hcs hl1 (by simp only [hcl]; omega) rfl (by rw [Nat.succ_mul])
          · simp only [List.size_toArray, List.length_append, List.length_take, List.length_drop, Array.length_toList, hc1s, hnl]
            have : (a + 1) * 4 ≤ cap * 4 := Nat.mul_le_mul_right _ (by omega)
            omega
        · -- no room
          have hka : a + (n + 1 - a) = n + 1 := by omega
          have hki : ((n : Int) + 1 - (a : Int)) = ((n + 1 - a : Nat) : Int) := by omega
          have hC := grown_le w (n + 1) cap 31 (by omega)
          have happ0 := fun ty => Lib.run_append_grow_zeros (P := Tryd.prog) w 24 3 ty 31 i0 z .i64 .i64 Tryd.underlying24 Tryd.underlying3 hi0 hiz (some ⟨g, 0, none⟩) a cap (flatV k_bins.sh ((rOf code).take a))
            (run_firstCells_some w.drew i0.size a ⟨g, 0, none⟩ a cap _ (by rw [hl1, hiK]) (hcell w.drew 0 _ [] (flatV k_bins.sh ((rOf code).drop a) ++ rest) rfl (by rw [hcells, hsplit, List.nil_append, List.append_assoc]) rfl)) (n + 1 - a) (by omega) (by rw [hiK]; decide) (by omega) (by omega)
            (by
              have := Nat.mul_le_mul (show n + 1 - a ≤ 1073741824 by omega) hiB
              omega)
            (growslice_fits (by omega) (by
              have := Nat.mul_le_mul (show a + (n + 1 - a) ≤ 1073741824 by omega) hiB
              omega))
          rw [hka] at happ0
          obtain ⟨C, hCe⟩ : ∃ C, C = grownCap w (n + 1) cap 31 := ⟨_, rfl⟩
          rw [← hCe] at happ0 hC
          obtain ⟨c0, hc0⟩ : ∃ c0 : Array Value, c0 = (flatV k_bins.sh ((rOf code).take a)).toArray ++ Builtin.zeroCells z.cells (n + 1 - a) ++ Builtin.zeroCells z.cells (C - (n + 1)) := ⟨_, rfl⟩
          rw [← hc0, ← hki] at happ0
          have hc0s : c0.size = C * 4 := by
            rw [hc0]; simp only [Array.size_append, List.size_toArray, hl1, zeroCells_size, hzK]; omega
          have hc0t : c0.toList.take (a * 4) = flatV k_bins.sh ((rOf code).take a) := by
            rw [hc0, Array.toList_append, Array.toList_append, List.append_assoc, List.take_append_of_le_length (by simp only [hl1]; omega), List.take_of_length_le (by simp only [hl1]; omega)]
          have hG0 : (w.drew.alloc (.cells c0 31)).heap[w.heap.size]? = some (.cells c0 31 (0, 0)) := heap_alloc_new w.drew _
          have hold : ∀ k : Nat, k < w.heap.size → (w.drew.alloc (.cells c0 31)).heap[k]? = w.heap[k]? := fun k hk => ((World.Extends.refl w.drew).alloc _).block k hk
          have hcp1 : ∀ ty, (Builtin.copy_ #[24, 24] ty #[.slice (some ⟨w.heap.size, a * 4, none⟩) (n + 1 - a) (C - a), .slice (some ⟨gA, oA, none⟩) 1 vc]).run Tryd.prog (w.drew.alloc (.cells c0 31)) = _ := fun ty =>
            run_copy_rows _ 24 24 ty 31 i0 Tryd.underlying24 hi0 w.heap.size (a * 4) (n + 1 - a) (C - a) ⟨gA, oA, none⟩ 1 vc c0 31 (flatV k_bins.sh (rOf r)) hG0
              (by rw [hnl, hiK, show Nat.min 1 (n + 1 - a) = 1 by show min _ _ = _; omega]) (hsrc _ (hold gA hltA)) (by rw [hnl, hc0s]; omega) (hone _)
          obtain ⟨c1, hc1⟩ : ∃ c1, c1 = (c0.toList.take (a * 4) ++ flatV k_bins.sh (rOf r) ++ c0.toList.drop (a * 4 + (flatV k_bins.sh (rOf r)).length)).toArray := ⟨_, rfl⟩
          rw [← hc1] at hcp1
          have hc1s : c1.size = C * 4 := by
            rw [hc1]; simp only [List.size_toArray, List.length_append, List.length_take, List.length_drop, Array.length_toList, hc0s, hnl]; omega
          obtain ⟨W2, hW2⟩ : ∃ W2, W2 = (w.drew.alloc (.cells c0 31)).setRow w.heap.size c1 := ⟨_, rfl⟩
          have hG1 : W2.heap[w.heap.size]? = some (.cells c1 31 (0, 0)) := by rw [hW2]; exact setRow_heap _ _ _ _ _ _ hG0
          have hold2 : W2.drew.heap[g]? = w.heap[g]? := by
            rw [hW2]
            show ((w.drew.alloc (.cells c0 31)).setRow w.heap.size c1).heap[g]? = _
            rw [setRow_other _ _ _ _ (by omega), hold g hlt]
          have hcp2 : ∀ ty, (Builtin.copy_ #[24, 24] ty #[.slice (some ⟨w.heap.size, (a + 1) * 4, none⟩) (n + 1 - (a + 1)) (C - (a + 1)), .slice (some ⟨g, a * 4, none⟩) (n - a) (cap - a)]).run Tryd.prog W2.drew = _ := fun ty =>
            run_copy_rows W2.drew 24 24 ty 31 i0 Tryd.underlying24 hi0 w.heap.size ((a + 1) * 4) (n + 1 - (a + 1)) (C - (a + 1)) ⟨g, a * 4, none⟩ (n - a) (cap - a) c1 31 (flatV k_bins.sh ((rOf code).drop a)) hG1
              (by rw [hl2, hiK, show Nat.min (n - a) (n + 1 - (a + 1)) = n - a by show min _ _ = _; omega]) (hcell W2.drew (a * 4) _ (flatV k_bins.sh ((rOf code).take a)) rest hold2 (by rw [hcells, hsplit]) hl1) (by rw [hl2, hc1s]; omega) (hone _)
          rw [← hW2] at hcp1
          rw [hv0]
          refine (Tryd.insert_grow g n cap a w.heap.size C ⟨gA, oA, none⟩ vc _ _ w _ W2 _ han hcap1 (by omega) hC.1 (by omega) happ0 hcp1 hcp2).mono ?_
          rintro e w' ⟨rfl, rfl⟩
          rw [← hv0]
          refine fin _ w.heap.size C _ (c1.toList.drop ((a + 1) * 4 + (flatV k_bins.sh ((rOf code).drop a)).length)) ?_ hok (setRow_heap _ _ _ _ _ _ hG1) ?_ ?_ hC.1 (by omega) (.inr (Nat.le_refl _))
          · rw [hW2]
            have s1 := SlNew.trans1 (slNew_alloc w (.cells c0 31) (ownOf v0)) (slNew_row _ w.heap.size c1) (.inr (Nat.le_refl _))
            exact SlNew.trans1 (SlNew.drew1 s1) (slNew_row _ w.heap.size _) (.inr (Nat.le_refl _))
          · simp only
            rw [hc1, hnl]
            simp only
            rw [hc0t, Nat.succ_mul]
            exact grow_lists hl1 hnl
          · simp only [List.size_toArray, List.length_append, List.length_take, List.length_drop, Array.length_toList, hc1s, hl2]
            have : (a + 1) * 4 + (n - a) * 4 ≤ C * 4 := by rw [← Nat.add_mul]; exact Nat.mul_le_mul_right _ (by omega)
            omega
end Go.Ad

/- The rows of this seat: what the listed variables give, and a world that meets it. -/
set_option maxRecDepth 100000
namespace Go.Proofs.YtpffjcablmkiiaaDoor
open Go Go.Rx Go.Ad Go.ChangeShapes Go.RowKit
theorem own : ownKnob Tryd.prog.godebug = none := by kernel_rfl
theorem lo_b : laidOutB Tryd.prog = true := by kernel_rfl
def laid : List (String × DataW Unit) := [("unicode/utf8.acceptRanges", Rows.laid_unicode_utf8_acceptRanges), ("unicode/utf8.first", Rows.laid_unicode_utf8_first)]
theorem gl_ok (W : World) : GOk [] ⟨W, W, fun _ => False, fun _ => False⟩ := fun g cs hm => by cases hm
theorem laid_plain : (laid.filter fun x => x.2.handleName?.isNone) = laid := by kernel_rfl
theorem door_met (os : Os) (args : Array Value) : laidMetH Tryd.prog laid ((World.laidAll Tryd.prog os laid).forCall (fun _ _ => 0) ⟨#[], args, []⟩).memory :=
  laidMetH_of_parts3 (fuel := 8) (by rw [laid_plain]; exact laidMet_laidAll args (by kernel_rfl) (by kernel_rfl)) (by kernel_rfl) (by kernel_rfl)
theorem ty_str : BTy Tryd.prog 9 (.d (.str)) := Tryd.underlying9
theorem ty_lbb : BTy Tryd.prog 24 (.rd [.str, .str, .str, .int .i64 (-9223372036854775808) 9223372036854775807]) := ⟨31, Tryd.underlying24, by kernel_rfl, by kernel_rfl, by decide⟩
theorem cell0 {W : World} (h : W.ShapedOpen Tryd.prog) : ∃ m, W.cell? ⟨0, 0, none⟩ = some (.int .i64 m) :=
  cell_of_shapedOpen_int (zero := #[.int .i64 0]) (t := 3) h (of_decide_eq_true (by kernel_rfl)) (by kernel_rfl) rfl (by kernel_rfl) (by kernel_rfl) Tryd.underlying3
theorem heap0 {W : World} {m : Int} (h : W.cell? ⟨0, 0, none⟩ = some (.int .i64 m)) : 0 < W.heap.size := by
  rcases Nat.lt_or_ge 0 W.heap.size with h0 | h0
  · exact h0
  · have : W.heap[(0 : Nat)]? = none := Array.getElem?_eq_none h0
    simp [World.cell?, this] at h
theorem one_of {id : Nat} (hid : id = 311) (a : List (List Int)) (z : Int) (h : SB id a [[z]]) : z = 1 := by
  subst hid
  all_goals
    match a, h with
    | [], h => first | exact h | exact h.elim
    | [_], h => first | exact h | exact h.elim
    | [_, _], h => first | exact h | exact h.elim
    | [_, _, _], h => first | exact h | exact h.elim
    | _ :: _ :: _ :: _ :: _, h => exact h.elim
/-- What all laws lean on, at a world. -/
structure AllOk (W : World) : Prop where
  balive_ : OB W k_balive
  bRight_ : OB W k_bRight
  bOf_ : OB W k_bOf
  bFind_ : OB W k_bFind
theorem all_ok {W : World} (h : W.ShapedOpen Tryd.prog) : AllOk W := by
  have hg := gl_ok W
  obtain ⟨m, hm⟩ := cell0 h
  have ibs_ : OC W k_ibs := ok_ibs
  have tlb_ : OC W k_tlb := ok_tlb (hg := hg)
  have trb_ : OC W k_trb := ok_trb (hg := hg)
  have tsp_ : OC W k_tsp := ok_tsp (hg := hg) (h_tlb := tlb_) (h_trb := trb_)
  have tdot_ : OC W k_tdot := ok_tdot (hg := hg) (h_tlb := tlb_) (h_trb := trb_)
  have cdot_ : OC W k_cdot := ok_cdot (hg := hg) (h_ibs := ibs_)
  have tdm_ : OC W k_tdm := ok_tdm (hg := hg)
  have cutat_ : OC W k_cutat := ok_cutat (hg := hg) (h_ibs := ibs_)
  have cutcol_ : OC W k_cutcol := ok_cutcol (hg := hg) (h_ibs := ibs_)
  have only_ : OC W k_only := ok_only (hg := hg) (h_ibs := ibs_)
  have ionly_ : OC W k_ionly := ok_ionly (hg := hg) (h_ibs := ibs_)
  have low_ : OC W k_low := ok_low (hg := hg)
  have cdd_ : OQ W q_cdd := ok_cdd ⟨m, hm⟩ (heap0 hm)
  have thost_ : OC W k_thost := ok_thost (hg := hg)
  have tdig_ : OC W k_tdig := ok_tdig (hg := hg)
  have host_ : OC W k_host := ok_host (hg := hg) (h_thost := thost_) (h_tdm := tdm_) (h_ionly := ionly_) (h_cdd := cdd_)
  have server_ : OC W k_server := ok_server (hg := hg) (h_cutcol := cutcol_) (h_host := host_) (h_tdig := tdig_) (h_ionly := ionly_)
  have local_ : OC W k_local := ok_local (hg := hg) (h_only := only_) (h_tdot := tdot_) (h_cdd := cdd_)
  have country_ : OC W k_country := ok_country
  have bare_ : OC W k_bare := ok_bare
  have tpre_ : OC W k_tpre := ok_tpre (hg := hg)
  have email_ : OC W k_email := ok_email (hg := hg) (h_tsp := tsp_) (h_cutat := cutat_) (h_local := local_) (h_cdot := cdot_) (h_server := server_) (h_low := low_) (h_ibs := ibs_)
  have phone_ : OQ W q_phone := ok_phone (hg := hg) (h_country := country_) (h_bare := bare_) (h_tpre := tpre_)
  have make_ : OC W k_make := ok_make (hg := hg) (h_email := email_) (h_phone := phone_)
  have right_ : OC W k_right := ok_right (hg := hg) (h_make := make_)
  have less_ : OC W k_less := ok_less (hg := hg)
  have tus_ : OC W k_tus := ok_tus (hg := hg)
  have user_ : OC W k_user := ok_user (hg := hg) (h_cutcol := cutcol_) (h_tus := tus_) (h_ionly := ionly_) (h_server := server_)
  have bright_ : OC W k_bright := ok_bright (hg := hg) (h_right := right_) (h_user := user_)
  have bcmp_ : OC W k_bcmp := ok_bcmp (hg := hg) (h_less := less_)
  have bplace_ : OB W k_bplace := ok_bplace (hg := hg) (h_bcmp := bcmp_)
  have bRight_ : OB W k_bRight := ok_bRight (hg := hg) (h_bright := bright_) (h_bcmp := bcmp_)
  have bFind_ : OB W k_bFind := ok_bFind (hg := hg) (h_bRight := bRight_) (h_bplace := bplace_)
  have bOf_ : OB W k_bOf := ok_bOf (hg := hg) (h_bRight := bRight_)
  have bins_ : OI W k_bins := ok_bins
  have bdel_ : OI W k_bdel := ok_bdel
  have bBind_ : OB W k_bBind := ok_bBind (hg := hg) (h_bright := bright_) (h_bRight := bRight_) (h_bplace := bplace_) (h_bins := bins_)
  have bUnbind_ : OB W k_bUnbind := ok_bUnbind (hg := hg) (h_bRight := bRight_) (h_bplace := bplace_) (h_bdel := bdel_)
  have balive_ : OB W k_balive := ok_balive (hg := hg) (h_bBind := bBind_) (h_bUnbind := bUnbind_) (h_bFind := bFind_) (h_bOf := bOf_)
  exact ⟨balive_, bRight_, bOf_, bFind_⟩
end Go.Proofs.YtpffjcablmkiiaaDoor
