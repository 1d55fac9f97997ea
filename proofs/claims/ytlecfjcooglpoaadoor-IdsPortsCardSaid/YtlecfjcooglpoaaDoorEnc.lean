/- base.alphabet.encode, by a walk. -/
import Derived.Test.YtlecfjcooglpoaaDoorAdBase
import Derived.Test.YtlecfjcooglpoaaDoorSh2b
import Derived.WalkKit
import Derived.KernelRfl
import Derived.Deep.RegionLaw
import Derived.OwnWalk
import Derived.Laws.CopyOwn
namespace Go.Proofs
open Go.RowKit Go.Ad
theorem isB_keep {T e : TypeId} {B b : Nat} {bs : List Value} {w w' : World} (h : Lib.IsBuilder T e B b bs w) (hk : ∀ k, k < w.heap.size → w'.heap[k]? = w.heap[k]?) : Lib.IsBuilder T e B b bs w' := by
  have lt : ∀ {k : Nat} {x : Obj}, w.heap[k]? = some x → k < w.heap.size := fun {k x} hx => by
    rcases Nat.lt_or_ge k w.heap.size with h' | h'
    · exact h'
    · rw [Array.getElem?_eq_none h'] at hx; cases hx
  have one : ∀ {q : Value}, Lib.BuilderAt T e B b q bs w → Lib.BuilderAt T e B b q bs w' := fun {q} h => by
    obtain ⟨hB, v, hb, ⟨ho1, ho2⟩, hne⟩ := h
    refine ⟨hB, v, by rw [hk b (lt hb)]; exact hb, ⟨ho1, ?_⟩, hne⟩
    rcases ho2 with h | ⟨g, cap, cur, h1, h2, h3, h4⟩
    · exact .inl h
    · exact .inr ⟨g, cap, cur, h1, h2, by rw [hk g (lt h3)]; exact h3, h4⟩
  exact h.elim (fun x => .inl (one x)) fun x => .inr (one x)
theorem splice3 (l : Tx) (i n : Nat) (hn : n ≤ 3) (hnn : n = 3 ∨ n = l.length - i) : splice [Value.int .u8 0, Value.int .u8 0, Value.int .u8 0] 0 ((List.range n).map fun j => Value.int .u8 (l.getD (i + j) 0).toNat) = [Value.int .u8 (l.getD i 0).toNat, Value.int .u8 (l.getD (i + 1) 0).toNat, Value.int .u8 (l.getD (i + 2) 0).toNat] := by
  have z : ∀ j, l.length - i ≤ j → ((l.getD (i + j) 0).toNat : Int) = 0 := fun j hj => by
    rw [show l.getD (i + j) 0 = 0 by simp only [List.getD]; rw [List.getElem?_eq_none (by omega)]; rfl]; rfl
  match n, hn with
  | 0, _ => rcases hnn with h | h <;> first | omega | (have z0 := z 0 (by omega); have z1 := z 1 (by omega); have z2 := z 2 (by omega); rw [Nat.add_zero] at z0; rw [z0, z1, z2]; rfl)
  | 1, _ => rcases hnn with h | h <;> first | omega | (have z1 := z 1 (by omega); have z2 := z 2 (by omega); rw [z1, z2]; rfl)
  | 2, _ => rcases hnn with h | h <;> first | omega | (have z2 := z 2 (by omega); rw [z2]; rfl)
  | 3, _ => rfl
open Go.Rx in
theorem bits_or3 {x0 x1 x2 : Int} (a0 : 0 ≤ x0) (a1 : x0 ≤ 255) (b0 : 0 ≤ x1) (b1 : x1 ≤ 255) (c0 : 0 ≤ x2) (c1 : x2 ≤ 255) : bits BinOp.or IntKind.i64 (bits BinOp.or IntKind.i64 (wrap64 (wrap64 x0 * 65536)) (wrap64 (wrap64 x1 * 256))) (wrap64 x2) = 65536 * x0 + 256 * x1 + x2 := by
  have w : ∀ z : Int, 0 ≤ z → z < 9223372036854775808 → wrap64 z = z := fun z h0 h1 => by unfold wrap64; omega
  rw [w x0 a0 (by omega), w x1 b0 (by omega), w x2 c0 (by omega), w (x0 * 65536) (by omega) (by omega), w (x1 * 256) (by omega) (by omega)]
  have e1 : bits BinOp.or IntKind.i64 (x0 * 65536) (x1 * 256) = 65536 * x0 + 256 * x1 := by
    have h : bitI BinOp.or IntKind.i64 (x0 * 65536) (x1 * 256) = _ := bitI_or (k := .i64) (x := x0 * 65536) (y := x1 * 256) (by omega) (by omega) (show _ < (9223372036854775808 : Int) by omega) (show _ < (9223372036854775808 : Int) by omega)
    have h2 : bits BinOp.or IntKind.i64 (x0 * 65536) (x1 * 256) = bitI BinOp.or IntKind.i64 (x0 * 65536) (x1 * 256) := rfl
    rw [h2, h, or_apart (s := 65536) ⟨16, rfl⟩ (by omega) (by omega)]; omega
  rw [e1]
  have h : bitI BinOp.or IntKind.i64 (65536 * x0 + 256 * x1) x2 = _ := bitI_or (k := .i64) (x := 65536 * x0 + 256 * x1) (y := x2) (by omega) (by omega) (show _ < (9223372036854775808 : Int) by omega) (show _ < (9223372036854775808 : Int) by omega)
  have h2 : bits BinOp.or IntKind.i64 (65536 * x0 + 256 * x1) x2 = bitI BinOp.or IntKind.i64 (65536 * x0 + 256 * x1) x2 := rfl
  rw [h2, h, or_apart (s := 256) ⟨8, rfl⟩ (by omega) (by omega)]; omega
open Go.Rx in
theorem bits_and63 {x : Int} (h0 : 0 ≤ x) (h1 : x < 9223372036854775808) : bits BinOp.and IntKind.i64 x 63 = ((x.toNat % 64 : Nat) : Int) := by
  have h : bitI BinOp.and IntKind.i64 x 63 = _ := bitI_and (k := .i64) (x := x) (y := 63) h0 (by decide) (show _ < (9223372036854775808 : Int) by omega) (by decide)
  have h2 : bits BinOp.and IntKind.i64 x 63 = bitI BinOp.and IntKind.i64 x 63 := rfl
  rw [h2, h]
  exact congrArg Int.ofNat (Nat.and_two_pow_sub_one_eq_mod x.toNat 6)
theorem penc3' (a b c : UInt8) (r : Tx) : penc (a :: b :: c :: r) = lt64 (a.toNat / 4) :: lt64 (a.toNat % 4 * 16 + b.toNat / 16) :: lt64 (b.toNat % 16 * 4 + c.toNat / 64) :: lt64 (c.toNat % 64) :: penc r := by conv => lhs; unfold penc
theorem penc_grp {l : Tx} {i n : Nat} {x0 x1 x2 bt : Int} (hlt : i < l.length) (h1 : 1 ≤ n) (h3 : n ≤ 3) (hnl : n ≤ l.length - i) (hnn : n = 3 ∨ n = l.length - i) (hx0 : x0 = (l.getD i 0).toNat) (hx1 : x1 = (l.getD (i + 1) 0).toNat) (hx2 : x2 = (l.getD (i + 2) 0).toNat) (hb : bt = 65536 * x0 + 256 * x1 + x2) :
    penc (l.drop i) = (List.range (n + 1)).map (fun j => lt64 ((bt / 2 ^ (18 - 6 * j)).toNat % 64)) ++ penc (l.drop (i + n)) := by
  have z : ∀ j, l.length ≤ j → ((l.getD j 0).toNat : Int) = 0 := fun j hj => by
    rw [show l.getD j 0 = 0 by simp only [List.getD]; rw [List.getElem?_eq_none (by omega)]; rfl]; rfl
  have a1 := (l.getD i 0).toNat_lt
  have a2 := (l.getD (i + 1) 0).toNat_lt
  have a3 := (l.getD (i + 2) 0).toNat_lt
  have L : ∀ {u v : Nat}, u = v → lt64 u = lt64 v := fun h => congrArg lt64 h
  match n, h1, h3 with
  | 1, _, _ =>
    have hl : l.length = i + 1 := by omega
    have d1 : l.drop (i + 1) = [] := List.drop_eq_nil_of_le (by omega)
    rw [z (i + 1) (by omega)] at hx1
    rw [z (i + 2) (by omega)] at hx2
    rw [drop_cons_getD l i hlt, d1]
    show [_, _] = [_, _]
    rw [L (show (l.getD i 0).toNat / 4 = (bt / 2 ^ (18 - 6 * 0)).toNat % 64 by show _ = (bt / 262144).toNat % 64; omega), L (show (l.getD i 0).toNat % 4 * 16 = (bt / 2 ^ (18 - 6 * 1)).toNat % 64 by show _ = (bt / 4096).toNat % 64; omega)]
  | 2, _, _ =>
    have hl : l.length = i + 2 := by omega
    have d2 : l.drop (i + 2) = [] := List.drop_eq_nil_of_le (by omega)
    rw [z (i + 2) (by omega)] at hx2
    rw [drop_cons_getD l i hlt, drop_cons_getD l (i + 1) (by omega), d2]
    show [_, _, _] = [_, _, _]
    rw [L (show (l.getD i 0).toNat / 4 = (bt / 2 ^ (18 - 6 * 0)).toNat % 64 by show _ = (bt / 262144).toNat % 64; omega), L (show (l.getD i 0).toNat % 4 * 16 + (l.getD (i + 1) 0).toNat / 16 = (bt / 2 ^ (18 - 6 * 1)).toNat % 64 by show _ = (bt / 4096).toNat % 64; omega), L (show (l.getD (i + 1) 0).toNat % 16 * 4 = (bt / 2 ^ (18 - 6 * 2)).toNat % 64 by show _ = (bt / 64).toNat % 64; omega)]
  | 3, _, _ =>
    rw [drop_cons_getD l i hlt, drop_cons_getD l (i + 1) (by omega), drop_cons_getD l (i + 2) (by omega), penc3']
    show _ :: _ :: _ :: _ :: _ = _ :: _ :: _ :: _ :: _
    rw [L (show (l.getD i 0).toNat / 4 = (bt / 2 ^ (18 - 6 * 0)).toNat % 64 by show _ = (bt / 262144).toNat % 64; omega), L (show (l.getD i 0).toNat % 4 * 16 + (l.getD (i + 1) 0).toNat / 16 = (bt / 2 ^ (18 - 6 * 1)).toNat % 64 by show _ = (bt / 4096).toNat % 64; omega), L (show (l.getD (i + 1) 0).toNat % 16 * 4 + (l.getD (i + 2) 0).toNat / 64 = (bt / 2 ^ (18 - 6 * 2)).toNat % 64 by show _ = (bt / 64).toNat % 64; omega), L (show (l.getD (i + 2) 0).toNat % 64 = (bt / 2 ^ (18 - 6 * 3)).toNat % 64 by show _ = (bt / 1).toNat % 64; omega)]
    rfl
set_option maxHeartbeats 4000000 in
set_option maxRecDepth 1000000 in
theorem Tryd.enc_walk (al : ByteArray) (hal : al.data.toList = al64) (l : Tx) (p : Option Addr) (g o cap : Nat) (w : World) (hp : 0 < l.length → p = some ⟨g, o, none⟩ ∧ l.length ≤ cap ∧ ∀ j, j < l.length → w.cell? ⟨g, o + j, none⟩ = some (.int .u8 (l.getD j 0).toNat)) (hl : l.length ≤ 1099511627776) :
    Calls Tryd.prog 42 #[.string al, .slice p l.length cap] w fun e w' => e = .returned (.string ⟨(penc l).toArray⟩) ∧ Below w.heap.size w w' := by
  go_enter Tryd.func42, Tryd.ntmps42
  go_wp2
  go_loopw [1] (fun vs wr => ∃ (i c : Nat) (q : Option Addr) (d : List UInt8), vs = .slice q (l.length - i) c ∧ i ≤ l.length ∧ (i < l.length → q = some ⟨g, o + i, none⟩ ∧ l.length - i ≤ c) ∧ d.length ≤ 4 * i ∧ Hid (d ++ penc (l.drop i) = penc l) ∧ Lib.IsBuilder 66 5 w.heap.size w.heap.size (Lib.byteCells d) wr ∧ Below w.heap.size w wr) (fun vs _ => match vs with | .slice _ n _ => n | _ => 0)
  case atStart =>
    refine ⟨0, cap, p, [], rfl, Nat.zero_le _, fun h => ?_, Nat.zero_le _, rfl, Lib.fresh_isBuilder 66 5 w, (Below.refl _ w).alloc (Nat.le_refl _) _⟩
    obtain ⟨h1, h2, _⟩ := hp (by omega)
    exact ⟨h1, by omega⟩
  case round =>
    obtain ⟨i, c, q, d, rfl, hi, hq, hd, hb, hI, hbw⟩ := hrel
    by_cases hlt : i < l.length
    · obtain ⟨rfl, hc⟩ := hq hlt
      have hsz : (Tryd.prog.info? 5).map (·.size) = some 1 := by kernel_rfl
      obtain ⟨_, _, hcell⟩ := hp (by omega)
      obtain ⟨wo, rfl⟩ : ∃ wo : World, wo = wr := ⟨_, rfl⟩
      go_wp2
      obtain ⟨n, hn⟩ : ∃ n : Nat, n = min 3 (l.length - i) := ⟨_, rfl⟩
      have hmin : min 3 ((l.length - i : Nat) : Int) = (n : Int) := by omega
      rw [hmin]
      clear hmin
      have hn0 : 1 ≤ n := by omega
      have hn3 : n ≤ 3 := by omega
      have hnl : n ≤ l.length - i := by omega
      have hnn : Hid (n = 3 ∨ n = l.length - i) := show n = 3 ∨ n = l.length - i by omega
      clear hn
      have hnc : n ≤ c := by omega
      have hgw : g < w.heap.size := block_lt_of_cell (hcell 0 (by omega))
      have hgo : ¬ g = wo.heap.size := by have := hbw.size; omega
      have hrow : ∀ W : World, W.heap = (wo.alloc (.cells #[.int .u8 0, .int .u8 0, .int .u8 0] 62)).heap → W.heap[wo.heap.size]? = some (.cells [.int .u8 0, .int .u8 0, .int .u8 0].toArray 62 (0, 0)) := fun W h => by rw [h]; show (wo.heap.push _)[wo.heap.size]? = _; rw [Array.getElem?_push_size]
      have hsrc : ∀ W : World, W.heap = (wo.alloc (.cells #[.int .u8 0, .int .u8 0, .int .u8 0] 62)).heap → ∀ j v, ((List.range n).map fun j => Value.int .u8 (l.getD (i + j) 0).toNat)[j]? = some v → W.cell? ((⟨g, o + i, none⟩ : Addr).add j) = some v := fun W h j v hj => by
        rw [List.getElem?_map] at hj
        have hjn : j < n := by
          rcases Nat.lt_or_ge j n with h | h
          · exact h
          · rw [List.getElem?_eq_none (by simpa using h)] at hj; cases hj
        rw [List.getElem?_range hjn] at hj
        simp only [Option.map_some, Option.some.injEq] at hj
        subst hj
        have e1 := hcell (i + j) (by omega)
        have e2 : W.cell? ⟨g, o + (i + j), none⟩ = w.cell? ⟨g, o + (i + j), none⟩ := by
          unfold World.cell?
          simp only [h]
          have := Lib.alloc_old wo (.cells #[.int .u8 0, .int .u8 0, .int .u8 0] 62) g (by have := hbw.size; omega)
          rw [this, hbw.block g hgw]
        rw [Addr.add_lit, Nat.add_assoc, e2, e1]
      go_region_law (refine step_copy_splice rfl (.tmp 16) (.tmp 19) 32 32 rfl 5 Tryd.underlying32 hsz (some ⟨wo.heap.size, 0, none⟩) (some ⟨g, o + i, none⟩) 3 3 n c (by simp [Act.eval, Act.put]) (by simp [Act.eval, Act.put]) wo.heap.size 0 [.int .u8 0, .int .u8 0, .int .u8 0] 62 (hrow _ rfl) ((List.range n).map fun j => Value.int .u8 (l.getD (i + j) 0).toNat) (by simp only [List.length_map, List.length_range]; exact (Nat.min_eq_left hn3).symm) (fun _ => ⟨rfl, _, rfl, hsrc _ rfl⟩) (by simp; omega) (fun v hv => by simp at hv; obtain ⟨_, _, rfl⟩ := hv; rfl) wo.heap.size wo ((Below.refl _ wo).alloc (Nat.le_refl _) _).drew (Nat.le_refl _) ?_; intro w4 hg4 hb4)
      have hg4 : w4.heap[wo.heap.size]? = some (.cells (splice _ _ _).toArray 62 (0, 0)) := hg4
      rw [splice3 l i n hn3 hnn] at hg4
      obtain ⟨x0, hx0⟩ : ∃ x : Int, x = (l.getD i 0).toNat := ⟨_, rfl⟩
      obtain ⟨x1, hx1⟩ : ∃ x : Int, x = (l.getD (i + 1) 0).toNat := ⟨_, rfl⟩
      obtain ⟨x2, hx2⟩ : ∃ x : Int, x = (l.getD (i + 2) 0).toNat := ⟨_, rfl⟩
      rw [← hx0, ← hx1, ← hx2] at hg4
      have c0 : w4.cell? ⟨wo.heap.size, 0, none⟩ = some (.int .u8 x0) := by rw [Lib.cell_of_heap hg4]; rfl
      have c1 : w4.cell? ⟨wo.heap.size, 1, none⟩ = some (.int .u8 x1) := by rw [Lib.cell_of_heap hg4]; rfl
      have c2 : w4.cell? ⟨wo.heap.size, 2, none⟩ = some (.int .u8 x2) := by rw [Lib.cell_of_heap hg4]; rfl
      have hB4 : Below w.heap.size w w4 := hbw.trans (hb4.mono hbw.size)
      have hI4 := isB_keep hI (fun k hk => hb4.block k hk)
      obtain ⟨q', hq', hqq⟩ : ∃ q', (if c = n then some (⟨g, o + i, none⟩ : Addr) else some ⟨g, o + i + n, none⟩) = q' ∧ Hid (i + n < l.length → q' = some ⟨g, o + (i + n), none⟩) := ⟨_, rfl, fun h => by rw [if_neg (by omega), Nat.add_assoc]⟩
      replace hx0 : Hid _ := hx0
      replace hx1 : Hid _ := hx1
      replace hx2 : Hid _ := hx2
      clear hgo hrow hsrc
      go_wp2
      obtain ⟨bt, hbt⟩ : ∃ bt : Int, bits BinOp.or IntKind.i64 (bits BinOp.or IntKind.i64 (wrap64 (wrap64 x0 * 65536)) (wrap64 (wrap64 x1 * 256))) (wrap64 x2) = bt := ⟨_, rfl⟩
      rw [hbt]
      have y0 : x0 = (l.getD i 0).toNat := hx0
      have y1 : x1 = (l.getD (i + 1) 0).toNat := hx1
      have y2 : x2 = (l.getD (i + 2) 0).toNat := hx2
      have u0 := (l.getD i 0).toNat_lt
      have u1 := (l.getD (i + 1) 0).toNat_lt
      have u2 := (l.getD (i + 2) 0).toNat_lt
      have hbt2 : bt = 65536 * x0 + 256 * x1 + x2 := by rw [← hbt]; exact bits_or3 (by omega) (by omega) (by omega) (by omega) (by omega) (by omega)
      have hgrp : Hid (penc (l.drop i) = _) := penc_grp hlt hn0 hn3 hnl hnn y0 y1 y2 hbt2
      have hbl : 0 ≤ bt := by omega
      have hbh : bt < 16777216 := by omega
      have hal64 : al.size = 64 := by show al.data.size = 64; rw [← Array.length_toList, hal]; rfl
      clear hbt2 y0 y1 y2 u0 u1 u2
      clear hbt
      have hw4 : wo.heap.size ≤ w4.heap.size := hb4.size
      clear hg4 c0 c1 c2 hq' hcell hI hbw hb4
      go_loopw [39] (fun v w5 => ∃ k : Nat, v = .int .i64 k ∧ k ≤ n + 1 ∧ Lib.IsBuilder 66 5 w.heap.size w.heap.size (Lib.byteCells (d ++ (List.range k).map fun j => lt64 ((bt / 2 ^ (18 - 6 * j)).toNat % 64))) w5 ∧ Below w.heap.size w w5) (fun v _ => n + 1 - (RowKit.intOf v).toNat)
      case atStart =>
        refine ⟨0, rfl, by omega, by simpa using hI4, hB4⟩
      case round =>
        obtain ⟨k, rfl, hk, hI5, hB5⟩ := hrel
        by_cases hkn : k < n + 1
        · obtain ⟨m, hm⟩ : ∃ m : Nat, m = (bt / 2 ^ (18 - 6 * k)).toNat % 64 := ⟨_, rfl⟩
          have hpos : (0 : Int) < 2 ^ (18 - 6 * k) := Int.pow_pos (by decide)
          have hq0 : 0 ≤ bt / 2 ^ (18 - 6 * k) := Int.ediv_nonneg hbl (by omega)
          have hq1 : bt / 2 ^ (18 - 6 * k) ≤ bt := Int.ediv_le_self _ hbl
          have hand : bits BinOp.and IntKind.i64 (bt / 2 ^ (18 - 6 * k)) 63 = (m : Int) := by rw [hm]; exact bits_and63 hq0 (by omega)
          have hm64 : m < al.size := by rw [hal64, hm]; exact Nat.mod_lt _ (by decide)
          have hlet : ((al[m]).toNat : Int) = (lt64 m).toNat := by
            have : al[m] = lt64 m := by
              have e : al.data.toList.getD m 0 = al[m] := by
                simp only [List.getD, List.getElem?_eq_getElem (show m < al.data.toList.length by rw [Array.length_toList]; exact hm64), Option.getD_some]
                rfl
              rw [← e, hal]; rfl
            rw [this]
          replace hm : Hid _ := hm
          clear hpos hq0 hq1
          go_wp2_with (go_at_call 55; refine (Tryd.Builder_WriteByte w.heap.size w.heap.size _ _ _ hI5 (by rw [Lib.byteCells_length, List.length_append, List.length_map, List.length_range]; omega) hB5.size).mono ?_)
          rintro e w6 ⟨rfl, h1, b1⟩
          go_wp2
          go_roundw
          case rel =>
            refine ⟨k + 1, by simp, by omega, ?_, hB5.trans b1⟩
            have hm : m = (bt / 2 ^ (18 - 6 * k)).toNat % 64 := hm
            rw [List.range_succ, List.map_append, ← List.append_assoc, Lib.byteCells_append]
            rw [hm] at h1
            exact Or.inr h1
          case measure => simp [intOf]; omega
        · have hk2 : k = n + 1 := by omega
          subst hk2
          go_wp2
          go_roundw
          case rel =>
            have hgrp : penc (l.drop i) = _ := hgrp
            have hb : d ++ penc (l.drop i) = penc l := hb
            refine ⟨i + n, c - n, q', _, by rw [Nat.sub_sub], by omega, fun h => ⟨hqq h, by omega⟩, ?_, ?_, hI5, hB5⟩
            · rw [List.length_append, List.length_map, List.length_range]; omega
            · show _ = _
              rw [List.append_assoc, ← hgrp, hb]
          case measure => simp; omega
    · have hz : l.length - i = 0 := by omega
      have hI : Lib.IsBuilder 66 5 w.heap.size w.heap.size (Lib.byteCells d) wr := hI
      rw [hz]
      go_wp2_with (go_at_call 56; refine (Tryd.Builder_String_any w.heap.size w.heap.size d _ hI hbw.size).mono ?_)
      rintro e W1 ⟨rfl, b1⟩
      go_wp2
      go_ret
      have hb : d ++ penc (l.drop i) = penc l := hb
      rw [List.drop_of_length_le (by omega)] at hb
      have hb : d ++ [] = penc l := hb
      rw [List.append_nil] at hb
      exact ⟨by rw [← hb]; rfl, hbw.trans b1⟩
end Go.Proofs
