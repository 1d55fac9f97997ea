/- bytes.Join of one part that lies where it is known: its bytes, fresh. -/
import Derived.Test.YtkedgkbkibncgaaDoorPai
import Derived.Shelf.Lay
import Derived.Shelf.LaySoft
import Derived.Shelf.Bytes.SlJoin
import Derived.RangeFuncOwn
import Derived.Test.YtkedgkbkibncgaaDoorProg
import Derived.BigCall
import Derived.Test.YtkedgkbkibncgaaDoorPak
import Derived.Test.YtkedgkbkibncgaaDoorAdEqB
import Derived.Test.YtkedgkbkibncgaaDoorAdEqC
import Derived.Test.YtkedgkbkibncgaaDoorAdEqD
import Derived.Test.YtkedgkbkibncgaaDoorChunk
import Derived.Test.YtkedgkbkibncgaaDoorPah
import Derived.KernelRfl
import Derived.Shelf.Vars
import Derived.Test.YtkedgkbkibncgaaDoorRows
import Derived.Test.YtkedgkbkibncgaaDoorTie
import Derived.Test.YtkedgkbkibncgaaDoorCards
import Derived.SevenTiedAt
import Derived.Lay

set_option linter.unusedVariables false
set_option maxRecDepth 100000
namespace Go.Proofs
open Go.Shelf Go.RowKit
shelf_lay SlLaysJ.n14 Slb 14 at Tryd as Tryd.lays14
open Go.Rx Go.Lib
def u8sh : List CK := [.int .u8 0 255]
/-- The bytes of rows. -/
def u8s (rows : List (List Int)) : List UInt8 := rows.map fun r => UInt8.ofNat (r.getD 0 0).toNat
theorem u8_row {r : List Int} (h : RowOk u8sh r) : ∃ z : Int, r = [z] ∧ 0 ≤ z ∧ z ≤ 255 ∧ ((UInt8.ofNat z.toNat).toNat : Int) = z := by
  match r, h with
  | [z], h =>
    have h1 : 0 ≤ z ∧ z ≤ 255 := h.1
    refine ⟨z, rfl, h1.1, h1.2, ?_⟩
    have e : (UInt8.ofNat z.toNat).toNat = z.toNat % 256 := by simp
    rw [e]; omega
theorem u8s_len (rows : List (List Int)) : (u8s rows).length = rows.length := by simp [u8s]
theorem u8s_cell {w : World} {g o : Nat} {cells : Array Value} {t : TypeId} {fz : Nat × Nat} {rows : List (List Int)} (hg : w.heap[g]? = some (.cells cells t fz)) (h : RowsAt cells o u8sh rows) (i : Nat) (x : UInt8) (hx : (u8s rows)[i]? = some x) : w.cell? ((⟨g, o, none⟩ : Addr).add i) = some (.int .u8 (x.toNat : Int)) := by
  unfold u8s at hx
  rw [List.getElem?_map] at hx
  cases hr : rows[i]? with
  | none => rw [hr] at hx; cases hx
  | some r =>
    rw [hr] at hx
    simp only [Option.map_some, Option.some.injEq] at hx
    obtain ⟨z, rfl, h1, h2, h3⟩ := u8_row (h.1 r (List.mem_of_getElem? hr))
    have hv : (rowV u8sh [z])[0]? = some (Value.int .u8 z) := rfl
    have := h.get hr hv
    rw [addr_add]
    simp only [World.cell?, hg, Option.isSome_none, Bool.false_eq_true, if_false]
    simp only [u8sh, List.length_cons, List.length_nil, Nat.zero_add, Nat.mul_one, Nat.add_zero] at this
    rw [this, ← hx]
    simp only [List.getD_cons_zero]
    rw [h3]
theorem rows_of_bytes : ∀ (rows : List (List Int)) (zs : List Int), (∀ row ∈ rows, RowOk u8sh row) → (∀ x ∈ zs, 0 ≤ x ∧ x < 256) → bytesOf zs = u8s rows → flatV u8sh rows = zs.map (Value.int .u8)
  | [], zs, _, _, h => by
    have : zs.length = 0 := by have := congrArg List.length h; simpa [bytesOf, u8s] using this
    rw [List.eq_nil_of_length_eq_zero this]; rfl
  | r :: rows, [], _, _, h => by simp [bytesOf, u8s] at h
  | r :: rows, z :: zs, hr, hz, h => by
    obtain ⟨y, rfl, h1, h2, h3⟩ := u8_row (hr r (by simp))
    have hz1 := hz z (by simp)
    unfold bytesOf u8s at h
    simp only [List.map_cons, List.cons.injEq, List.getD_cons_zero] at h
    have ih := rows_of_bytes rows zs (fun x hx => hr x (List.mem_cons_of_mem _ hx)) (fun x hx => hz x (List.mem_cons_of_mem _ hx)) h.2
    have e : y = z := by
      have := congrArg (fun b : UInt8 => (b.toNat : Int)) h.1
      simp at this
      omega
    subst e
    show Value.int .u8 y :: flatV u8sh rows = _
    rw [ih]; rfl
theorem join_one {spec : List Int → List Int → Prop} {wb : World} {p : PCon} (hc : p.c.f = 26) (ha : p.c.args = [.rd u8sh]) (hr : p.c.res = [.rd u8sh]) (hp : p.c.pre = 71) (hn : p.nil = true) (hs : ∀ z r, 0 ≤ r → r ≤ RB → rOf r = rOf z → spec [z] [r]) (hf : ∀ args w, (callFunc 26 args).run Tryd.prog w = .ok (.enter 26 args) w) :
    p.Ok Tryd.prog wb spec := by
  refine ⟨by rw [hc]; exact hf, ?_⟩
  rw [hc, ha, hr, hp]
  intro F w vs zs g hw hz hpre hat hg hF hcell
  match zs, hz, vs, hat, hpre, hcell with
  | [z], hz, [v], hat, hpre, hcell =>
  have hat : SlAt F w u8sh (rOf z) v := hat.1
  have hpre : (rOf z).length ≤ 1000000000 := hpre
  have e : pargs p g [v].length = #[.slice (some ⟨g, 0, none⟩) 1 1, .slice none 0 0] := by unfold pargs; rw [hn]; rfl
  rw [e]
  have hc0 : w.cell? ⟨g, 0, none⟩ = some v := by simp [World.cell?, hcell]
  have empty : (∃ p0 c0, v = .slice p0 0 c0) → rOf z = [] → Calls Tryd.prog 26 #[.slice (some ⟨g, 0, none⟩) 1 1, .slice none 0 0] w fun e w' => w.Extends w' ∧ ∃ rs us, inB (bbds [BD.rd u8sh]) rs ∧ spec [z] rs ∧ atL (fun g => F g ∨ w.heap.size ≤ g) (fun g => w.heap.size ≤ g) w' [BD.rd u8sh] rs us ∧ e = .returned (tupV us) := fun ⟨p0, c0, hv⟩ h0 => by
    refine Calls.mono (Any.bytes_Join_one_empty Tryd.lays14 g 0 1 p0 c0 (.slice none 0 0) w (by rw [hc0, hv])) ?_
    rintro e w' ⟨rfl, rfl⟩
    exact ⟨World.Extends.refl _, [0], [.slice none 0 0], ⟨Int.le_refl _, RB_nonneg, trivial⟩, hs z 0 (Int.le_refl _) RB_nonneg (by rw [rOf_zero, h0]), ⟨.inl ⟨rfl, rOf_zero⟩, trivial⟩, rfl⟩
  rcases hat with ⟨rfl, h0⟩ | ⟨g1, o1, c1, cells, t, fz, rfl, ⟨h2, h3⟩, h4, h5, h6⟩
  · exact empty ⟨none, 0, rfl⟩ h0
  · rcases Nat.eq_zero_or_pos (rOf z).length with h0 | h0
    · exact empty ⟨some ⟨g1, o1, none⟩, c1, by rw [h0]⟩ (List.eq_nil_of_length_eq_zero h0)
    · refine Calls.mono (Any.bytes_Join_one Tryd.lays14 g 0 1 ⟨g1, o1, none⟩ c1 (u8s (rOf z)) (.slice none 0 0) w (by rw [hc0, u8s_len]) (fun i x hx => u8s_cell h5 h6 i x hx) (by rw [u8s_len]; exact h0) (by rw [u8s_len]; omega)) ?_
      rintro e w' ⟨v', rfl, ⟨g2, cap, zs', rfl, k1, k2, k3, k4, k5, k6, k7, _⟩, hb⟩
      have hsz := hb.size
      rw [u8s_len] at k2 k6 ⊢
      obtain ⟨cells', t', fz', hcl⟩ : ∃ cells' t' fz', w'.heap[g2]? = some (.cells cells' t' fz') := by
        have h7 := k7 0 (by omega)
        simp only [World.cell?] at h7
        cases hh : w'.heap[g2]? with
        | none => simp [hh] at h7
        | some ob =>
          cases ob <;> simp [hh] at h7
          exact ⟨_, _, _, rfl⟩
      have hci : ∀ i, i < cap → cells'[i]? = some (.int .u8 (zs'.getD i 0)) := fun i hi => by
        have h7 := k7 i hi
        simpa [World.cell?, hcl] using h7
      have hfl := rows_of_bytes (rOf z) (zs'.take (rOf z).length) h6.1 (fun x hx => k5 x (List.mem_of_mem_take hx)) k6
      refine ⟨ext_of_blocks (World.Extends.refl w) hb.os hb.tape hb.output hb.size hb.block, [z], [_], hz, hs z z hz.1 hz.2.1 rfl, ⟨.inr ⟨g2, 0, cap, cells', t', fz', rfl, ⟨k2, by simp only [maxLen] at k3; omega⟩, .inr k1, hcl, h6.1, [], cells'.toList.drop (rOf z).length, ?_, rfl⟩, trivial⟩, rfl⟩
      have htk : cells'.toList.take (rOf z).length = flatV u8sh (rOf z) := by
        rw [hfl]
        apply List.ext_getElem?
        intro i
        rw [List.getElem?_take, List.getElem?_map, List.getElem?_take]
        split
        · rename_i hi
          have := hci i (by omega)
          rw [Array.getElem?_toList, this, List.getD_eq_getElem?_getD]
          have hlt : i < zs'.length := by omega
          rw [List.getElem?_eq_getElem hlt]; rfl
        · rfl
      show cells'.toList = [] ++ flatV u8sh (rOf z) ++ _
      rw [List.nil_append, ← htk, List.take_append_drop]
end Go.Proofs

set_option linter.unusedVariables false
set_option maxRecDepth 100000
namespace Go.Ad
open Go Go.Rx Go.Proofs
abbrev OC (wb : World) (k : Con) : Prop := k.OkF Tryd.prog wb (flatS sh SB k.id)
abbrev OQ (wb : World) (q : QCon) : Prop := q.Ok Tryd.prog wb (flatS sh SB q.c.id)
abbrev OB (wb : World) (k : BCon) : Prop := k.Ok Tryd.prog wb (flatS sh SB k.id)
abbrev OI (wb : World) (k : ICon) : Prop := k.Ok Tryd.prog wb (flatS sh SB k.id)
abbrev OP (wb : World) (k : PCon) : Prop := k.Ok Tryd.prog wb (flatS sh SB k.c.id)
abbrev OR (wb : World) (k : RCon) : Prop := k.Ok Tryd.prog wb (flatS sh SB k.c.id)
theorem mx : Tryd.prog.follows .mixedOrders = true := by kernel_rfl
theorem nil0 {α : Type} {p : α → Prop} : ∀ x ∈ ([] : List α), p x := fun _ h => by cases h
theorem cons0 {α : Type} {p : α → Prop} {a : α} {l : List α} (h : p a) (hl : ∀ x ∈ l, p x) : ∀ x ∈ a :: l, p x := fun x hx => by
  rcases List.mem_cons.1 hx with rfl | hx
  · exact h
  · exact hl x hx
theorem hch43 : ChunkOk Tryd.prog 43 := ⟨enters (by kernel_rfl), Tryd.chunk_walk⟩
theorem rv0 {a0 b0 : Int} (h0 : a0 = b0) : resVal [.int .i64 (-9223372036854775808) 9223372036854775807] [a0] = resVal [.int .i64 (-9223372036854775808) 9223372036854775807] [b0] := by
  show (.int .i64 a0 : Value) = (.int .i64 b0 : Value)
  rw [h0]
theorem rv1 {a0 b0 : Int} (h0 : a0 = b0) : resVal [.int .u32 0 4294967295] [a0] = resVal [.int .u32 0 4294967295] [b0] := by
  show (.int .u32 a0 : Value) = (.int .u32 b0 : Value)
  rw [h0]
theorem rv2 {a0 b0 : Int} (h0 : a0 = b0) : resVal [.int .u64 0 18446744073709551615] [a0] = resVal [.int .u64 0 18446744073709551615] [b0] := by
  show (.int .u64 a0 : Value) = (.int .u64 b0 : Value)
  rw [h0]
theorem uv_spad : OneV k_spad.args k_spad.res (flatS sh SB 440) := by
  intro zs rs rs' hz hr hr' h h'
  match zs, rs, rs', hz, hr, hr', h, h' with
  | [z0, z1], [a0], [b0], _, _, _, h, h' =>
    first
      | exact rv0 (Eq.trans h (Eq.symm h'))
      | (have e : [[a0]] = [[b0]] := Eq.trans h (Eq.symm h')
         simp only [List.cons.injEq, and_true] at e
         exact rv0 e)
theorem ok_spad {wb : World} (hg : GOk gl07 ⟨wb, wb, fun _ => False, fun _ => False, []⟩)  : OC wb k_spad := by
  refine Con.Ok.f (ok_vcb (SB := SB) (sh := sh) (c := k_spad) (cal := (calQ [] [])) (li := li_none) (rounds := 600) (d := 6) (lsh := lsh_none) (lens := [1, 1]) mx (fun _ _ _ => calQ_ok nil0 nil0) hg (by kernel_rfl) uv_spad rfl rfl ?_)
  rw [u_spad]
  exact p_spad
theorem uv_g2_32 : OneV k_g2_32.args k_g2_32.res (flatS sh SB 444) := by
  intro zs rs rs' hz hr hr' h h'
  match zs, rs, rs', hz, hr, hr', h, h' with
  | [z0], [a0], [b0], _, _, _, h, h' =>
    first
      | exact rv1 (Eq.trans h (Eq.symm h'))
      | (have e : [[a0]] = [[b0]] := Eq.trans h (Eq.symm h')
         simp only [List.cons.injEq, and_true] at e
         exact rv1 e)
theorem ok_g2_32 {wb : World} (hg : GOk gl07 ⟨wb, wb, fun _ => False, fun _ => False, []⟩)  : OC wb k_g2_32 := by
  refine Con.Ok.f (ok_vcb (SB := SB) (sh := sh) (c := k_g2_32) (cal := (calQ [] [])) (li := li_none) (rounds := 600) (d := 6) (lsh := lsh_none) (lens := [1]) mx (fun _ _ _ => calQ_ok nil0 nil0) hg (by kernel_rfl) uv_g2_32 rfl rfl ?_)
  rw [u_g2_32]
  exact p_g2_32
theorem uv_g3_32 : OneV k_g3_32.args k_g3_32.res (flatS sh SB 445) := by
  intro zs rs rs' hz hr hr' h h'
  match zs, rs, rs', hz, hr, hr', h, h' with
  | [z0], [a0], [b0], _, _, _, h, h' =>
    first
      | exact rv1 (Eq.trans h (Eq.symm h'))
      | (have e : [[a0]] = [[b0]] := Eq.trans h (Eq.symm h')
         simp only [List.cons.injEq, and_true] at e
         exact rv1 e)
theorem ok_g3_32 {wb : World} (hg : GOk gl07 ⟨wb, wb, fun _ => False, fun _ => False, []⟩)  : OC wb k_g3_32 := by
  refine Con.Ok.f (ok_vcb (SB := SB) (sh := sh) (c := k_g3_32) (cal := (calQ [] [])) (li := li_none) (rounds := 600) (d := 6) (lsh := lsh_none) (lens := [1]) mx (fun _ _ _ => calQ_ok nil0 nil0) hg (by kernel_rfl) uv_g3_32 rfl rfl ?_)
  rw [u_g3_32]
  exact p_g3_32
theorem uv_g4_32 : OneV k_g4_32.args k_g4_32.res (flatS sh SB 446) := by
  intro zs rs rs' hz hr hr' h h'
  match zs, rs, rs', hz, hr, hr', h, h' with
  | [z0], [a0], [b0], _, _, _, h, h' =>
    first
      | exact rv1 (Eq.trans h (Eq.symm h'))
      | (have e : [[a0]] = [[b0]] := Eq.trans h (Eq.symm h')
         simp only [List.cons.injEq, and_true] at e
         exact rv1 e)
theorem ok_g4_32 {wb : World} (hg : GOk gl07 ⟨wb, wb, fun _ => False, fun _ => False, []⟩)  : OC wb k_g4_32 := by
  refine Con.Ok.f (ok_vcb (SB := SB) (sh := sh) (c := k_g4_32) (cal := (calQ [] [])) (li := li_none) (rounds := 600) (d := 6) (lsh := lsh_none) (lens := [1]) mx (fun _ _ _ => calQ_ok nil0 nil0) hg (by kernel_rfl) uv_g4_32 rfl rfl ?_)
  rw [u_g4_32]
  exact p_g4_32
theorem uv_g5_32 : OneV k_g5_32.args k_g5_32.res (flatS sh SB 447) := by
  intro zs rs rs' hz hr hr' h h'
  match zs, rs, rs', hz, hr, hr', h, h' with
  | [z0], [a0], [b0], _, _, _, h, h' =>
    first
      | exact rv1 (Eq.trans h (Eq.symm h'))
      | (have e : [[a0]] = [[b0]] := Eq.trans h (Eq.symm h')
         simp only [List.cons.injEq, and_true] at e
         exact rv1 e)
theorem ok_g5_32 {wb : World} (hg : GOk gl07 ⟨wb, wb, fun _ => False, fun _ => False, []⟩)  : OC wb k_g5_32 := by
  refine Con.Ok.f (ok_vcb (SB := SB) (sh := sh) (c := k_g5_32) (cal := (calQ [] [])) (li := li_none) (rounds := 600) (d := 6) (lsh := lsh_none) (lens := [1]) mx (fun _ _ _ => calQ_ok nil0 nil0) hg (by kernel_rfl) uv_g5_32 rfl rfl ?_)
  rw [u_g5_32]
  exact p_g5_32
theorem uv_g2_64 : OneV k_g2_64.args k_g2_64.res (flatS sh SB 448) := by
  intro zs rs rs' hz hr hr' h h'
  match zs, rs, rs', hz, hr, hr', h, h' with
  | [z0], [a0], [b0], _, _, _, h, h' =>
    first
      | exact rv2 (Eq.trans h (Eq.symm h'))
      | (have e : [[a0]] = [[b0]] := Eq.trans h (Eq.symm h')
         simp only [List.cons.injEq, and_true] at e
         exact rv2 e)
theorem ok_g2_64 {wb : World} (hg : GOk gl07 ⟨wb, wb, fun _ => False, fun _ => False, []⟩)  : OC wb k_g2_64 := by
  refine Con.Ok.f (ok_vcb (SB := SB) (sh := sh) (c := k_g2_64) (cal := (calQ [] [])) (li := li_none) (rounds := 600) (d := 6) (lsh := lsh_none) (lens := [1]) mx (fun _ _ _ => calQ_ok nil0 nil0) hg (by kernel_rfl) uv_g2_64 rfl rfl ?_)
  rw [u_g2_64]
  exact p_g2_64
theorem uv_g3_64 : OneV k_g3_64.args k_g3_64.res (flatS sh SB 449) := by
  intro zs rs rs' hz hr hr' h h'
  match zs, rs, rs', hz, hr, hr', h, h' with
  | [z0], [a0], [b0], _, _, _, h, h' =>
    first
      | exact rv2 (Eq.trans h (Eq.symm h'))
      | (have e : [[a0]] = [[b0]] := Eq.trans h (Eq.symm h')
         simp only [List.cons.injEq, and_true] at e
         exact rv2 e)
theorem ok_g3_64 {wb : World} (hg : GOk gl07 ⟨wb, wb, fun _ => False, fun _ => False, []⟩)  : OC wb k_g3_64 := by
  refine Con.Ok.f (ok_vcb (SB := SB) (sh := sh) (c := k_g3_64) (cal := (calQ [] [])) (li := li_none) (rounds := 600) (d := 6) (lsh := lsh_none) (lens := [1]) mx (fun _ _ _ => calQ_ok nil0 nil0) hg (by kernel_rfl) uv_g3_64 rfl rfl ?_)
  rw [u_g3_64]
  exact p_g3_64
theorem uv_g4_64 : OneV k_g4_64.args k_g4_64.res (flatS sh SB 450) := by
  intro zs rs rs' hz hr hr' h h'
  match zs, rs, rs', hz, hr, hr', h, h' with
  | [z0], [a0], [b0], _, _, _, h, h' =>
    first
      | exact rv2 (Eq.trans h (Eq.symm h'))
      | (have e : [[a0]] = [[b0]] := Eq.trans h (Eq.symm h')
         simp only [List.cons.injEq, and_true] at e
         exact rv2 e)
theorem ok_g4_64 {wb : World} (hg : GOk gl07 ⟨wb, wb, fun _ => False, fun _ => False, []⟩)  : OC wb k_g4_64 := by
  refine Con.Ok.f (ok_vcb (SB := SB) (sh := sh) (c := k_g4_64) (cal := (calQ [] [])) (li := li_none) (rounds := 600) (d := 6) (lsh := lsh_none) (lens := [1]) mx (fun _ _ _ => calQ_ok nil0 nil0) hg (by kernel_rfl) uv_g4_64 rfl rfl ?_)
  rw [u_g4_64]
  exact p_g4_64
theorem uv_g5_64 : OneV k_g5_64.args k_g5_64.res (flatS sh SB 451) := by
  intro zs rs rs' hz hr hr' h h'
  match zs, rs, rs', hz, hr, hr', h, h' with
  | [z0], [a0], [b0], _, _, _, h, h' =>
    first
      | exact rv2 (Eq.trans h (Eq.symm h'))
      | (have e : [[a0]] = [[b0]] := Eq.trans h (Eq.symm h')
         simp only [List.cons.injEq, and_true] at e
         exact rv2 e)
theorem ok_g5_64 {wb : World} (hg : GOk gl07 ⟨wb, wb, fun _ => False, fun _ => False, []⟩)  : OC wb k_g5_64 := by
  refine Con.Ok.f (ok_vcb (SB := SB) (sh := sh) (c := k_g5_64) (cal := (calQ [] [])) (li := li_none) (rounds := 600) (d := 6) (lsh := lsh_none) (lens := [1]) mx (fun _ _ _ => calQ_ok nil0 nil0) hg (by kernel_rfl) uv_g5_64 rfl rfl ?_)
  rw [u_g5_64]
  exact p_g5_64
theorem ok_spd32 {wb : World} (hg : GOk gl07 ⟨wb, wb, fun _ => False, fun _ => False, []⟩) (h_spad : OC wb k_spad) : OB wb k_spd32 := by
  refine bok_vcf (SB := SB) (sh := sh) (c := k_spd32) (bcs := []) (cal := (calQ [] [k_spad])) (li := li_spd32) (rounds := 600) (d := 6) (lsh := lsh_spd32) (lens := [1]) mx (fun _ _ _ => calQ_ok nil0 (cons0 h_spad nil0)) hg nil0 (by kernel_rfl) rfl rfl ?_
  rw [u_spd32]
  exact p_spd32
theorem ok_spd64 {wb : World} (hg : GOk gl07 ⟨wb, wb, fun _ => False, fun _ => False, []⟩) (h_spad : OC wb k_spad) : OB wb k_spd64 := by
  refine bok_vcf (SB := SB) (sh := sh) (c := k_spd64) (bcs := []) (cal := (calQ [] [k_spad])) (li := li_spd64) (rounds := 600) (d := 6) (lsh := lsh_spd64) (lens := [1]) mx (fun _ _ _ => calQ_ok nil0 (cons0 h_spad nil0)) hg nil0 (by kernel_rfl) rfl rfl ?_
  rw [u_spd64]
  exact p_spd64
theorem uv_gk_32 : OneV k_gk_32.args k_gk_32.res (flatS sh SB 466) := by
  intro zs rs rs' hz hr hr' h h'
  match zs, rs, rs', hz, hr, hr', h, h' with
  | [z0], [a0], [b0], _, _, _, h, h' =>
    first
      | exact rv1 (Eq.trans h (Eq.symm h'))
      | (have e : [[a0]] = [[b0]] := Eq.trans h (Eq.symm h')
         simp only [List.cons.injEq, and_true] at e
         exact rv1 e)
theorem ok_gk_32 {wb : World} (hg : GOk gl07 ⟨wb, wb, fun _ => False, fun _ => False, []⟩)  : OC wb k_gk_32 := by
  refine Con.Ok.f (ok_vcb (SB := SB) (sh := sh) (c := k_gk_32) (cal := (calQ [] [])) (li := li_none) (rounds := 600) (d := 6) (lsh := lsh_none) (lens := [1]) mx (fun _ _ _ => calQ_ok nil0 nil0) hg (by kernel_rfl) uv_gk_32 rfl rfl ?_)
  rw [u_gk_32]
  exact p_gk_32
theorem uv_gk_64 : OneV k_gk_64.args k_gk_64.res (flatS sh SB 467) := by
  intro zs rs rs' hz hr hr' h h'
  match zs, rs, rs', hz, hr, hr', h, h' with
  | [z0], [a0], [b0], _, _, _, h, h' =>
    first
      | exact rv2 (Eq.trans h (Eq.symm h'))
      | (have e : [[a0]] = [[b0]] := Eq.trans h (Eq.symm h')
         simp only [List.cons.injEq, and_true] at e
         exact rv2 e)
theorem ok_gk_64 {wb : World} (hg : GOk gl07 ⟨wb, wb, fun _ => False, fun _ => False, []⟩)  : OC wb k_gk_64 := by
  refine Con.Ok.f (ok_vcb (SB := SB) (sh := sh) (c := k_gk_64) (cal := (calQ [] [])) (li := li_none) (rounds := 600) (d := 6) (lsh := lsh_none) (lens := [1]) mx (fun _ _ _ => calQ_ok nil0 nil0) hg (by kernel_rfl) uv_gk_64 rfl rfl ?_)
  rw [u_gk_64]
  exact p_gk_64
theorem ok_cl32 {wb : World} (hg : GOk gl07 ⟨wb, wb, fun _ => False, fun _ => False, []⟩)  : OB wb k_cl32 := by
  refine bok_vcf (SB := SB) (sh := sh) (c := k_cl32) (bcs := []) (cal := (calQ [] [])) (li := li_none) (rounds := 600) (d := 6) (lsh := lsh_none) (lens := [1]) mx (fun _ _ _ => calQ_ok nil0 nil0) hg nil0 (by kernel_rfl) rfl rfl ?_
  rw [u_cl32]
  exact p_cl32
theorem ok_cl64 {wb : World} (hg : GOk gl07 ⟨wb, wb, fun _ => False, fun _ => False, []⟩)  : OB wb k_cl64 := by
  refine bok_vcf (SB := SB) (sh := sh) (c := k_cl64) (bcs := []) (cal := (calQ [] [])) (li := li_none) (rounds := 600) (d := 6) (lsh := lsh_none) (lens := [1]) mx (fun _ _ _ => calQ_ok nil0 nil0) hg nil0 (by kernel_rfl) rfl rfl ?_
  rw [u_cl64]
  exact p_cl64
theorem ok_all32 {wb : World} (hg : GOk gl07 ⟨wb, wb, fun _ => False, fun _ => False, []⟩) (h_gk_32 : OC wb k_gk_32) (h_g2_32 : OC wb k_g2_32) (h_g3_32 : OC wb k_g3_32) (h_g4_32 : OC wb k_g4_32) (h_g5_32 : OC wb k_g5_32) (h_cl32 : OB wb k_cl32) : OR wb r_all32 := by
  refine rok_inl (SB := SB) (sh := sh) (p := r_all32) (lsh := lsh_all32) (lens := [1]) (inl := (bodyR Tryd.prog gl07 (calQ [] [k_gk_32, k_g2_32, k_g3_32, k_g4_32, k_g5_32]) (callB (bcOf [k_cl32]) Tryd.prog gl07 (calQ [] [k_gk_32, k_g2_32, k_g3_32, k_g4_32, k_g5_32]) li_all32 600 6) li_all32 600 [(1, 0, 0, 4294967295), (1, 1, 0, 4294967295), (1, 2, 0, 4294967295), (1, 3, 0, 4294967295), (1, 4, 0, 4294967295), (1, 5, 0, 4294967295), (1, 6, 0, 4294967295), (1, 7, 0, 4294967295)] 43)) (fun L r ex ro => bodyR_ok hch43 mx (fun _ _ _ => calQ_ok nil0 (cons0 h_gk_32 (cons0 h_g2_32 (cons0 h_g3_32 (cons0 h_g4_32 (cons0 h_g5_32 nil0)))))) (fun g cs h => hg g cs h) (fun r ex ro => callB_ok (w0 := ⟨wb, r, ex, ro, []⟩) rfl mx ((fun _ _ _ => calQ_ok nil0 (cons0 h_gk_32 (cons0 h_g2_32 (cons0 h_g3_32 (cons0 h_g4_32 (cons0 h_g5_32 nil0)))))) r ex ro) (fun g cs h => hg g cs h) (bcOf_ok (cons0 h_cl32 nil0)) 6) rfl) (by kernel_rfl) rfl rfl ?_
  rw [show r_all32.c = k_all32 from rfl, u_all32]
  exact p_all32
theorem ok_all64 {wb : World} (hg : GOk gl07 ⟨wb, wb, fun _ => False, fun _ => False, []⟩) (h_gk_64 : OC wb k_gk_64) (h_g2_64 : OC wb k_g2_64) (h_g3_64 : OC wb k_g3_64) (h_g4_64 : OC wb k_g4_64) (h_g5_64 : OC wb k_g5_64) (h_cl64 : OB wb k_cl64) : OR wb r_all64 := by
  refine rok_inl (SB := SB) (sh := sh) (p := r_all64) (lsh := lsh_all64) (lens := [1]) (inl := (bodyR Tryd.prog gl07 (calQ [] [k_gk_64, k_g2_64, k_g3_64, k_g4_64, k_g5_64]) (callB (bcOf [k_cl64]) Tryd.prog gl07 (calQ [] [k_gk_64, k_g2_64, k_g3_64, k_g4_64, k_g5_64]) li_all64 600 6) li_all64 600 [(1, 0, 0, 18446744073709551615), (1, 1, 0, 18446744073709551615), (1, 2, 0, 18446744073709551615), (1, 3, 0, 18446744073709551615), (1, 4, 0, 18446744073709551615), (1, 5, 0, 18446744073709551615), (1, 6, 0, 18446744073709551615), (1, 7, 0, 18446744073709551615)] 43)) (fun L r ex ro => bodyR_ok hch43 mx (fun _ _ _ => calQ_ok nil0 (cons0 h_gk_64 (cons0 h_g2_64 (cons0 h_g3_64 (cons0 h_g4_64 (cons0 h_g5_64 nil0)))))) (fun g cs h => hg g cs h) (fun r ex ro => callB_ok (w0 := ⟨wb, r, ex, ro, []⟩) rfl mx ((fun _ _ _ => calQ_ok nil0 (cons0 h_gk_64 (cons0 h_g2_64 (cons0 h_g3_64 (cons0 h_g4_64 (cons0 h_g5_64 nil0)))))) r ex ro) (fun g cs h => hg g cs h) (bcOf_ok (cons0 h_cl64 nil0)) 6) rfl) (by kernel_rfl) rfl rfl ?_
  rw [show r_all64.c = k_all64 from rfl, u_all64]
  exact p_all64
theorem ok_sum32 {wb : World} (hg : GOk gl07 ⟨wb, wb, fun _ => False, fun _ => False, []⟩) (h_spd32 : OB wb k_spd32) (h_sj32 : OP wb pc_sj32) (h_all32 : OR wb r_all32) : OP wb pc_sum32 := by
  refine pok_bc (SB := SB) (sh := sh) (p := pc_sum32) (bc := (rcOf [r_all32] (pcOf [pc_sj32] (bcOf [k_spd32])))) (cal := (calQ [] [])) (li := li_none) (rounds := 600) (d := 6) (lsh := lsh_none) (lens := [1]) mx (fun _ _ _ => calQ_ok nil0 nil0) hg (fun _ _ _ _ => (rcOf_ok (pcOf_ok (bcOf_ok (cons0 h_spd32 nil0)) (cons0 h_sj32 nil0)) (cons0 h_all32 nil0))) (by kernel_rfl) rfl rfl ?_
  rw [show pc_sum32.c = k_sum32 from rfl, u_sum32]
  exact p_sum32
theorem ok_sum64 {wb : World} (hg : GOk gl07 ⟨wb, wb, fun _ => False, fun _ => False, []⟩) (h_spd64 : OB wb k_spd64) (h_sj64 : OP wb pc_sj64) (h_all64 : OR wb r_all64) : OP wb pc_sum64 := by
  refine pok_bc (SB := SB) (sh := sh) (p := pc_sum64) (bc := (rcOf [r_all64] (pcOf [pc_sj64] (bcOf [k_spd64])))) (cal := (calQ [] [])) (li := li_none) (rounds := 600) (d := 6) (lsh := lsh_none) (lens := [1]) mx (fun _ _ _ => calQ_ok nil0 nil0) hg (fun _ _ _ _ => (rcOf_ok (pcOf_ok (bcOf_ok (cons0 h_spd64 nil0)) (cons0 h_sj64 nil0)) (cons0 h_all64 nil0))) (by kernel_rfl) rfl rfl ?_
  rw [show pc_sum64.c = k_sum64 from rfl, u_sum64]
  exact p_sum64
theorem ok_shex {wb : World} (hg : GOk gl07 ⟨wb, wb, fun _ => False, fun _ => False, []⟩)  : OB wb k_shex := by
  refine bok_vcf (SB := SB) (sh := sh) (c := k_shex) (bcs := []) (cal := (calQ [] [])) (li := li_shex) (rounds := 600) (d := 6) (lsh := lsh_shex) (lens := [1]) mx (fun _ _ _ => calQ_ok nil0 nil0) hg nil0 (by kernel_rfl) rfl rfl ?_
  rw [u_shex]
  exact p_shex
theorem ok_aalive {wb : World} (hg : GOk gl07 ⟨wb, wb, fun _ => False, fun _ => False, []⟩) (h_shex : OB wb k_shex) (h_sum32 : OP wb pc_sum32) (h_sum64 : OP wb pc_sum64) : OB wb k_aalive := by
  refine bok_bc (SB := SB) (sh := sh) (c := k_aalive) (bc := (pcOf [pc_sum32, pc_sum64] (bcOf [k_shex]))) (cal := (calQ [] [])) (li := li_none) (rounds := 600) (d := 6) (lsh := lsh_none) (lens := []) mx (fun _ _ _ => calQ_ok nil0 nil0) hg (fun _ _ _ => (pcOf_ok (bcOf_ok (cons0 h_shex nil0)) (cons0 h_sum32 (cons0 h_sum64 nil0)))) (by kernel_rfl) rfl rfl ?_
  rw [u_aalive]
  exact p_aalive
theorem ok_sj32d {wb : World} (hg : GOk gl07 ⟨wb, wb, fun _ => False, fun _ => False, []⟩)  : OP wb pc_sj32d := by
  refine pok_bc (SB := SB) (sh := sh) (p := pc_sj32d) (bc := (bcOf [])) (cal := (calQ [] [])) (li := li_none) (rounds := 600) (d := 6) (lsh := lsh_none) (lens := [1, 1, 1, 1]) mx (fun _ _ _ => calQ_ok nil0 nil0) hg (fun _ _ _ _ => (bcOf_ok nil0)) (by kernel_rfl) rfl rfl ?_
  rw [show pc_sj32d.c = k_sj32d from rfl, u_sj32d]
  exact p_sj32d
theorem ok_sj64c {wb : World} (hg : GOk gl07 ⟨wb, wb, fun _ => False, fun _ => False, []⟩)  : OP wb pc_sj64c := by
  refine pok_bc (SB := SB) (sh := sh) (p := pc_sj64c) (bc := (bcOf [])) (cal := (calQ [] [])) (li := li_none) (rounds := 600) (d := 6) (lsh := lsh_none) (lens := [1, 1, 1]) mx (fun _ _ _ => calQ_ok nil0 nil0) hg (fun _ _ _ _ => (bcOf_ok nil0)) (by kernel_rfl) rfl rfl ?_
  rw [show pc_sj64c.c = k_sj64c from rfl, u_sj64c]
  exact p_sj64c
theorem ok_sum32d {wb : World} (hg : GOk gl07 ⟨wb, wb, fun _ => False, fun _ => False, []⟩) (h_spd32 : OB wb k_spd32) (h_sj32d : OP wb pc_sj32d) (h_all32 : OR wb r_all32) : OP wb pc_sum32d := by
  refine pok_bc (SB := SB) (sh := sh) (p := pc_sum32d) (bc := (rcOf [r_all32] (pcOf [pc_sj32d] (bcOf [k_spd32])))) (cal := (calQ [] [])) (li := li_none) (rounds := 600) (d := 6) (lsh := lsh_none) (lens := [1, 1, 1, 1]) mx (fun _ _ _ => calQ_ok nil0 nil0) hg (fun _ _ _ _ => (rcOf_ok (pcOf_ok (bcOf_ok (cons0 h_spd32 nil0)) (cons0 h_sj32d nil0)) (cons0 h_all32 nil0))) (by kernel_rfl) rfl rfl ?_
  rw [show pc_sum32d.c = k_sum32d from rfl, u_sum32d]
  exact p_sum32d
theorem ok_sum64c {wb : World} (hg : GOk gl07 ⟨wb, wb, fun _ => False, fun _ => False, []⟩) (h_spd64 : OB wb k_spd64) (h_sj64c : OP wb pc_sj64c) (h_all64 : OR wb r_all64) : OP wb pc_sum64c := by
  refine pok_bc (SB := SB) (sh := sh) (p := pc_sum64c) (bc := (rcOf [r_all64] (pcOf [pc_sj64c] (bcOf [k_spd64])))) (cal := (calQ [] [])) (li := li_none) (rounds := 600) (d := 6) (lsh := lsh_none) (lens := [1, 1, 1]) mx (fun _ _ _ => calQ_ok nil0 nil0) hg (fun _ _ _ _ => (rcOf_ok (pcOf_ok (bcOf_ok (cons0 h_spd64 nil0)) (cons0 h_sj64c nil0)) (cons0 h_all64 nil0))) (by kernel_rfl) rfl rfl ?_
  rw [show pc_sum64c.c = k_sum64c from rfl, u_sum64c]
  exact p_sum64c
theorem ok_lsparts {wb : World} (hg : GOk gl07 ⟨wb, wb, fun _ => False, fun _ => False, []⟩) (h_aalive : OB wb k_aalive) (h_sum32 : OP wb pc_sum32) (h_sum64 : OP wb pc_sum64) (h_sum32d : OP wb pc_sum32d) (h_sum64c : OP wb pc_sum64c) : OB wb k_lsparts := by
  refine bok_bc (SB := SB) (sh := sh) (c := k_lsparts) (bc := (pcOf [pc_sum32, pc_sum64, pc_sum32d, pc_sum64c] (bcOf [k_aalive]))) (cal := (calQ [] [])) (li := li_none) (rounds := 600) (d := 6) (lsh := lsh_none) (lens := [1, 1, 1]) mx (fun _ _ _ => calQ_ok nil0 nil0) hg (fun _ _ _ => (pcOf_ok (bcOf_ok (cons0 h_aalive nil0)) (cons0 h_sum32 (cons0 h_sum64 (cons0 h_sum32d (cons0 h_sum64c nil0)))))) (by kernel_rfl) rfl rfl ?_
  rw [u_lsparts]
  exact p_lsparts
end Go.Ad

/- The rows of this seat: what the listed variables give, and a world that meets it. -/
set_option linter.unusedVariables false
set_option maxRecDepth 100000
namespace Go.Proofs.YtkedgkbkibncgaaDoor
open Go Go.Rx Go.Ad Go.ChangeShapes Go.RowKit
theorem own : ownKnob Tryd.prog.godebug = none := by kernel_rfl
theorem lo_b : laidOutB Tryd.prog = true := by kernel_rfl
def laid : List (String × DataW Unit) := [("vouchsafe/sha.roots", Rows.laid_vouchsafe_sha_roots), ("vouchsafe/sha.begins", Rows.laid_vouchsafe_sha_begins)]
theorem g_0 : Tryd.prog.globalNamed "vouchsafe/sha.roots" = some 0 := by kernel_rfl
theorem t_0 : (Tryd.prog.globals[0]?).map (·.type) = some 42 := by kernel_rfl
theorem u_0 : Tryd.prog.underlying 42 = some (.array 80 41) := by kernel_rfl
theorem e_0 : Tryd.prog.underlying 41 = some (.int .u64) := by kernel_rfl
theorem ce_0 : Tryd.prog.cellsOf 41 = 1 := by kernel_rfl
theorem c_0 : Tryd.prog.cellsOf 42 = 80 := by kernel_rfl
theorem l_0 : (Rows.laid_vouchsafe_sha_roots : DataW Unit) = .agg (rootsL.map fun z => .lit (.int .u64 z)) := by kernel_rfl
theorem g_1 : Tryd.prog.globalNamed "vouchsafe/sha.begins" = some 1 := by kernel_rfl
theorem t_1 : (Tryd.prog.globals[1]?).map (·.type) = some 50 := by kernel_rfl
theorem u_1 : Tryd.prog.underlying 50 = some (.array 8 41) := by kernel_rfl
theorem e_1 : Tryd.prog.underlying 41 = some (.int .u64) := by kernel_rfl
theorem ce_1 : Tryd.prog.cellsOf 41 = 1 := by kernel_rfl
theorem c_1 : Tryd.prog.cellsOf 50 = 8 := by kernel_rfl
theorem l_1 : (Rows.laid_vouchsafe_sha_begins : DataW Unit) = .agg (beginsL.map fun z => .lit (.int .u64 z)) := by kernel_rfl
theorem gl_ok {W : World} (h : laidMetH Tryd.prog laid W) : GOk gl07 ⟨W, W, fun _ => False, fun _ => False, []⟩ := by
  rw [MakeChecks.laidMetH_plain _ _ _ (by kernel_rfl)] at h
  obtain ⟨ps, ⟨a0, b0, cs0, f0, p0, q0, hg0, ht0, hv0, hd0, ⟨a1, b1, cs1, f1, p1, q1, hg1, ht1, hv1, hd1, _, _⟩, _⟩, _, _⟩ := h
  obtain rfl := Option.some.inj (g_0.symm.trans hg0)
  obtain rfl := Option.some.inj (t_0.symm.trans ht0)
  rw [l_0] at hd0
  have x0 := gl_of_laid (zs := rootsL) g_0 u_0 e_0 ce_0 c_0 hv0 hd0
  obtain rfl := Option.some.inj (g_1.symm.trans hg1)
  obtain rfl := Option.some.inj (t_1.symm.trans ht1)
  rw [l_1] at hd1
  have x1 := gl_of_laid (zs := beginsL) g_1 u_1 e_1 ce_1 c_1 hv1 hd1
  intro g cs hm
  simp only [gl07, List.mem_cons, Prod.mk.injEq, List.not_mem_nil, or_false] at hm
  rcases hm with ⟨rfl, rfl⟩ | ⟨rfl, rfl⟩
  · rw [List.map_map]; exact x0
  · rw [List.map_map]; exact x1

theorem laid_plain : (laid.filter fun x => x.2.handleName?.isNone) = laid := by kernel_rfl
theorem door_met (os : Os) (args : Array Value) : laidMetH Tryd.prog laid ((World.laidAll Tryd.prog os laid).forCall (fun _ _ => 0) ⟨#[], args, []⟩).memory :=
  laidMetH_of_parts3 (fuel := 8) (by rw [laid_plain]; exact laidMet_laidAll args (by kernel_rfl) (by kernel_rfl)) (by kernel_rfl) (by kernel_rfl)
theorem ty_dint : BTy Tryd.prog 3 (.d (.int .i64 (-9223372036854775808) 9223372036854775807)) := ⟨Tryd.underlying3, by decide, by decide⟩
theorem ty_lu8 : BTy Tryd.prog 25 (.rd [.int .u8 0 255]) := ⟨5, Tryd.underlying25, by kernel_rfl, by kernel_rfl, by decide⟩
theorem ty_du16 : BTy Tryd.prog 33 (.d (.int .u16 0 65535)) := ⟨Tryd.underlying33, by decide, by decide⟩
theorem one_of {id : Nat} (hid : id = 459) (a : List (List Int)) (z : Int) (h : SB id a [[z]]) : z = 1 := by
  subst hid
  all_goals
    match a, h with
    | [], h => first | exact h | exact h.elim
    | [_], h => first | exact h | exact h.elim
    | [_, _], h => first | exact h | exact h.elim
    | [_, _, _], h => first | exact h | exact h.elim
    | _ :: _ :: _ :: _ :: _, h => exact h.elim
/-- What all laws lean on, at a world. -/
structure AllOk (W : World) : Prop where
  aalive_ : OB W k_aalive
  sum32_ : OP W pc_sum32
  sum64_ : OP W pc_sum64
  sum32d_ : OP W pc_sum32d
  sum64c_ : OP W pc_sum64c
theorem all_ok {W : World} (h : W.ShapedOpen Tryd.prog) (hL : laidMetH Tryd.prog laid W) : AllOk W := by
  have hg := gl_ok hL
  have spad_ : OC W k_spad := ok_spad (hg := hg)
  have g2_32_ : OC W k_g2_32 := ok_g2_32 (hg := hg)
  have g3_32_ : OC W k_g3_32 := ok_g3_32 (hg := hg)
  have g4_32_ : OC W k_g4_32 := ok_g4_32 (hg := hg)
  have g5_32_ : OC W k_g5_32 := ok_g5_32 (hg := hg)
  have g2_64_ : OC W k_g2_64 := ok_g2_64 (hg := hg)
  have g3_64_ : OC W k_g3_64 := ok_g3_64 (hg := hg)
  have g4_64_ : OC W k_g4_64 := ok_g4_64 (hg := hg)
  have g5_64_ : OC W k_g5_64 := ok_g5_64 (hg := hg)
  have spd32_ : OB W k_spd32 := ok_spd32 (hg := hg) (h_spad := spad_)
  have spd64_ : OB W k_spd64 := ok_spd64 (hg := hg) (h_spad := spad_)
  have sj32_ : OP W pc_sj32 := join_one (p := pc_sj32) rfl rfl rfl rfl rfl (fun z r h0 h1 h => h) (enters (by kernel_rfl))
  have sj64_ : OP W pc_sj64 := join_one (p := pc_sj64) rfl rfl rfl rfl rfl (fun z r h0 h1 h => h) (enters (by kernel_rfl))
  have gk_32_ : OC W k_gk_32 := ok_gk_32 (hg := hg)
  have gk_64_ : OC W k_gk_64 := ok_gk_64 (hg := hg)
  have cl32_ : OB W k_cl32 := ok_cl32 (hg := hg)
  have cl64_ : OB W k_cl64 := ok_cl64 (hg := hg)
  have all32_ : OR W r_all32 := ok_all32 (hg := hg) (h_cl32 := cl32_) (h_gk_32 := gk_32_) (h_g2_32 := g2_32_) (h_g3_32 := g3_32_) (h_g4_32 := g4_32_) (h_g5_32 := g5_32_)
  have all64_ : OR W r_all64 := ok_all64 (hg := hg) (h_cl64 := cl64_) (h_gk_64 := gk_64_) (h_g2_64 := g2_64_) (h_g3_64 := g3_64_) (h_g4_64 := g4_64_) (h_g5_64 := g5_64_)
  have sum32_ : OP W pc_sum32 := ok_sum32 (hg := hg) (h_spd32 := spd32_) (h_sj32 := sj32_) (h_all32 := all32_)
  have sum64_ : OP W pc_sum64 := ok_sum64 (hg := hg) (h_spd64 := spd64_) (h_sj64 := sj64_) (h_all64 := all64_)
  have shex_ : OB W k_shex := ok_shex (hg := hg)
  have aalive_ : OB W k_aalive := ok_aalive (hg := hg) (h_sum32 := sum32_) (h_sum64 := sum64_) (h_shex := shex_)
  have sj32d_ : OP W pc_sj32d := ok_sj32d (hg := hg)
  have sj64c_ : OP W pc_sj64c := ok_sj64c (hg := hg)
  have sum32d_ : OP W pc_sum32d := ok_sum32d (hg := hg) (h_spd32 := spd32_) (h_sj32d := sj32d_) (h_all32 := all32_)
  have sum64c_ : OP W pc_sum64c := ok_sum64c (hg := hg) (h_spd64 := spd64_) (h_sj64c := sj64c_) (h_all64 := all64_)
  exact ⟨aalive_, sum32_, sum64_, sum32d_, sum64c_⟩
end Go.Proofs.YtkedgkbkibncgaaDoor
