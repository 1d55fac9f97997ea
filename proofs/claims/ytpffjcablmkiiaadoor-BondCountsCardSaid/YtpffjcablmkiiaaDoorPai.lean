/- Pai: a part of the proof of statements of this seat. -/
import Derived.Test.YtpffjcablmkiiaaDoorPah
import Derived.Test.YtpffjcablmkiiaaDoorPag
import Derived.Test.YtpffjcablmkiiaaDoorProg
import Derived.KernelRfl
import Derived.Shelf.Lay
import Derived.Shelf.LaySoft
import Derived.Shelf.Strings.Search1
import Derived.Shelf.Strings.Search3
import Derived.Shelf.Small.Strs
import Derived.BigCall
import Derived.Shelf.Strings.Builder1
import Derived.Lib.IndexMore
import Derived.WalkKit
import Derived.WideMake
import Derived.Laws.ResultCell
import Derived.Laws.Rows
import Derived.Lib.IndexAny
import Derived.OwnWalk
import Derived.Deep.RegionLaw
import Derived.Laws.CopyOwn
import Derived.Lib.Builder
set_option maxRecDepth 100000
set_option linter.unusedVariables false
set_option linter.unusedSimpArgs false
namespace Go.Ad
open Go Go.Rx
def B_bBind (S : Nat → List (List Int) → List (List Int) → Prop) (K : List (List Int) → List (List Int) → Prop) : Prop :=
 ∀ z0 : Int, 0 ≤ z0 → z0 ≤ RB → ∀ r1 : List Int, inB [(0, HB), (0, HB), (0, HB), ((-9223372036854775808), 9223372036854775807)] r1 → 
 ∀ z5 : Int, 0 ≤ z5 →
 ∀ z6 : Int, (-1) ≤ z6 → z6 ≤ 9223372036854775807 → 
 ∀ z7 : Int, 0 ≤ z7 → z7 ≤ 9223372036854775807 → z7 = fnD 20 [z0] →
 ∀ z8 : Int, 0 ≤ z8 → z8 ≤ 1 → S 300 [r1] [[z8]] →
 ((((!(decide (z8 = 1)))) = true →
  chkD 22 [z0, 0, z7] ∧
  ∀ z9 : Int, 0 ≤ z9 → z9 ≤ RB → z9 = fnD 22 [z0, 0, z7] →
  K [[z0], r1] [[z9], [1]]
 ) ∧ (((!(decide (z8 = 1)))) = false →
  chkD 22 [z0, 0, z7] ∧
  ∀ z9 : Int, 0 ≤ z9 → z9 ≤ RB → z9 = fnD 22 [z0, 0, z7] →
  ∀ z10 : Int, 0 ≤ z10 → z10 ≤ 1 → S 303 [[z9]] [[z10]] →
  ((((!(decide (z10 = 1)))) = true →
   chkD 22 [z0, 0, z7] ∧
   ∀ z11 : Int, 0 ≤ z11 → z11 ≤ RB → z11 = fnD 22 [z0, 0, z7] →
   K [[z0], r1] [[z11], [1]]
  ) ∧ (((!(decide (z10 = 1)))) = false →
   chkD 22 [z0, 0, z7] ∧
   ∀ z11 : Int, 0 ≤ z11 → z11 ≤ RB → z11 = fnD 22 [z0, 0, z7] →
   ∀ z12 : Int, 0 ≤ z12 → z12 ≤ 9223372036854775807 → ∀ z13 : Int, 0 ≤ z13 → z13 ≤ 1 → S 302 [[z11], [(List.getD r1 0 0), (List.getD r1 1 0)]] [[z12], [z13]] →
   ((((!(decide (z13 = 1)))) = true →
    (((decide (z7 = 64)) = true →
     chkD 22 [z0, 0, z7] ∧
     ∀ z14 : Int, 0 ≤ z14 → z14 ≤ RB → z14 = fnD 22 [z0, 0, z7] →
     K [[z0], r1] [[z14], [10]]
    ) ∧ ((decide (z7 = 64)) = false →
     chkD 53 [z6, z7] →
     (((decide (z6 < 0)) = true →
      ((((!(decide (z13 = 1)))) = true →
       ∀ z14 : Int, 0 ≤ z14 → z14 ≤ RB → z14 = fnD 23 [0, (List.getD r1 0 0), (List.getD r1 1 0), (List.getD r1 2 0), (List.getD r1 3 0)] →
       chkD 51 [0, z12, z14] ∧
       ∀ z15 : Int, 0 ≤ z15 → z15 ≤ RB → S 306 [[0], [z12], [z14]] [[z15]] →
       ∀ z16 : Int, (-1) ≤ z16 → z16 ≤ 9223372036854775807 → 
       ∀ z17 : Int, 0 ≤ z17 → z17 ≤ 9223372036854775807 → z17 = fnD 20 [z15] →
       chkD 30 [z12, z17] ∧
       chkD 21 [z15, z12] ∧
       ∀ z18 : Int, 0 ≤ z18 → z18 ≤ RB → z18 = fnD 42 [z15, z12, 0, (List.getD r1 0 0), (List.getD r1 1 0), (List.getD r1 2 0), (List.getD r1 3 0)] →
       chkD 22 [z18, 0, z17] ∧
       ∀ z19 : Int, 0 ≤ z19 → z19 ≤ RB → z19 = fnD 22 [z18, 0, z17] →
       K [[z0], r1] [[z19], [0]]
      ) ∧ (((!(decide (z13 = 1)))) = false →
       False
      ))
     ) ∧ ((decide (z6 < 0)) = false →
      chkD 22 [z0, 0, z7] ∧
      chkD 23 [0, z7] ∧
      ∀ z14 : Int, 0 ≤ z14 → z14 ≤ RB → z14 = fnD 22 [z0, 0, z7] →
      ∀ z15 : Int, 0 ≤ z15 → z15 ≤ RB → z15 = fnD 24 [0, z14] →
      (((decide (z7 ≤ 0)) = true →
       ((((!(decide (z13 = 1)))) = true →
        ∀ z16 : Int, 0 ≤ z16 → z16 ≤ RB → z16 = fnD 23 [0, (List.getD r1 0 0), (List.getD r1 1 0), (List.getD r1 2 0), (List.getD r1 3 0)] →
        chkD 51 [0, z12, z16] ∧
        ∀ z17 : Int, 0 ≤ z17 → z17 ≤ RB → S 306 [[0], [z12], [z16]] [[z17]] →
        ∀ z18 : Int, (-1) ≤ z18 → z18 ≤ 9223372036854775807 → 
        ∀ z19 : Int, 0 ≤ z19 → z19 ≤ 9223372036854775807 → z19 = fnD 20 [z17] →
        chkD 30 [z12, z19] ∧
        chkD 21 [z17, z12] ∧
        ∀ z20 : Int, 0 ≤ z20 → z20 ≤ RB → z20 = fnD 42 [z17, z12, 0, (List.getD r1 0 0), (List.getD r1 1 0), (List.getD r1 2 0), (List.getD r1 3 0)] →
        chkD 22 [z20, 0, z19] ∧
        ∀ z21 : Int, 0 ≤ z21 → z21 ≤ RB → z21 = fnD 22 [z20, 0, z19] →
        K [[z0], r1] [[z21], [0]]
       ) ∧ (((!(decide (z13 = 1)))) = false →
        False
       ))
      ) ∧ ((decide (z7 ≤ 0)) = false →
       ∀ z16 : Int, (-1) ≤ z16 → z16 ≤ 9223372036854775807 → 
       ((((!(decide (z13 = 1)))) = true →
        chkD 31 [z15, z7] ∧
        ∀ z17 : Int, 0 ≤ z17 → z17 ≤ RB → z17 = fnD 23 [0, (List.getD r1 0 0), (List.getD r1 1 0), (List.getD r1 2 0), (List.getD r1 3 0)] →
        chkD 51 [z15, z12, z17] ∧
        ∀ z18 : Int, 0 ≤ z18 → z18 ≤ RB → S 306 [[z15], [z12], [z17]] [[z18]] →
        ∀ z19 : Int, (-1) ≤ z19 → z19 ≤ 9223372036854775807 → 
        ∀ z20 : Int, 0 ≤ z20 → z20 ≤ 9223372036854775807 → z20 = fnD 20 [z18] →
        chkD 30 [z12, z20] ∧
        chkD 21 [z18, z12] ∧
        ∀ z21 : Int, 0 ≤ z21 → z21 ≤ RB → z21 = fnD 42 [z18, z12, 0, (List.getD r1 0 0), (List.getD r1 1 0), (List.getD r1 2 0), (List.getD r1 3 0)] →
        chkD 22 [z21, 0, z20] ∧
        ∀ z22 : Int, 0 ≤ z22 → z22 ≤ RB → z22 = fnD 22 [z21, 0, z20] →
        K [[z0], r1] [[z22], [0]]
       ) ∧ (((!(decide (z13 = 1)))) = false →
        chkD 30 [z12, z7] ∧
        chkD 21 [z15, z12] ∧
        ∀ z17 : Int, 0 ≤ z17 → z17 ≤ RB → z17 = fnD 42 [z15, z12, 0, (List.getD r1 0 0), (List.getD r1 1 0), (List.getD r1 2 0), (List.getD r1 3 0)] →
        chkD 22 [z17, 0, z7] ∧
        ∀ z18 : Int, 0 ≤ z18 → z18 ≤ RB → z18 = fnD 22 [z17, 0, z7] →
        K [[z0], r1] [[z18], [0]]
       ))
      ))
     ))
    ))
   ) ∧ (((!(decide (z13 = 1)))) = false →
    chkD 53 [z6, z7] →
    (((decide (z6 < 0)) = true →
     ((((!(decide (z13 = 1)))) = true →
      ∀ z14 : Int, 0 ≤ z14 → z14 ≤ RB → z14 = fnD 23 [0, (List.getD r1 0 0), (List.getD r1 1 0), (List.getD r1 2 0), (List.getD r1 3 0)] →
      chkD 51 [0, z12, z14] ∧
      ∀ z15 : Int, 0 ≤ z15 → z15 ≤ RB → S 306 [[0], [z12], [z14]] [[z15]] →
      ∀ z16 : Int, (-1) ≤ z16 → z16 ≤ 9223372036854775807 → 
      ∀ z17 : Int, 0 ≤ z17 → z17 ≤ 9223372036854775807 → z17 = fnD 20 [z15] →
      chkD 30 [z12, z17] ∧
      chkD 21 [z15, z12] ∧
      ∀ z18 : Int, 0 ≤ z18 → z18 ≤ RB → z18 = fnD 42 [z15, z12, 0, (List.getD r1 0 0), (List.getD r1 1 0), (List.getD r1 2 0), (List.getD r1 3 0)] →
      chkD 22 [z18, 0, z17] ∧
      ∀ z19 : Int, 0 ≤ z19 → z19 ≤ RB → z19 = fnD 22 [z18, 0, z17] →
      K [[z0], r1] [[z19], [0]]
     ) ∧ (((!(decide (z13 = 1)))) = false →
      False
     ))
    ) ∧ ((decide (z6 < 0)) = false →
     chkD 22 [z0, 0, z7] ∧
     chkD 23 [0, z7] ∧
     ∀ z14 : Int, 0 ≤ z14 → z14 ≤ RB → z14 = fnD 22 [z0, 0, z7] →
     ∀ z15 : Int, 0 ≤ z15 → z15 ≤ RB → z15 = fnD 24 [0, z14] →
     (((decide (z7 ≤ 0)) = true →
      ((((!(decide (z13 = 1)))) = true →
       ∀ z16 : Int, 0 ≤ z16 → z16 ≤ RB → z16 = fnD 23 [0, (List.getD r1 0 0), (List.getD r1 1 0), (List.getD r1 2 0), (List.getD r1 3 0)] →
       chkD 51 [0, z12, z16] ∧
       ∀ z17 : Int, 0 ≤ z17 → z17 ≤ RB → S 306 [[0], [z12], [z16]] [[z17]] →
       ∀ z18 : Int, (-1) ≤ z18 → z18 ≤ 9223372036854775807 → 
       ∀ z19 : Int, 0 ≤ z19 → z19 ≤ 9223372036854775807 → z19 = fnD 20 [z17] →
       chkD 30 [z12, z19] ∧
       chkD 21 [z17, z12] ∧
       ∀ z20 : Int, 0 ≤ z20 → z20 ≤ RB → z20 = fnD 42 [z17, z12, 0, (List.getD r1 0 0), (List.getD r1 1 0), (List.getD r1 2 0), (List.getD r1 3 0)] →
       chkD 22 [z20, 0, z19] ∧
       ∀ z21 : Int, 0 ≤ z21 → z21 ≤ RB → z21 = fnD 22 [z20, 0, z19] →
       K [[z0], r1] [[z21], [0]]
      ) ∧ (((!(decide (z13 = 1)))) = false →
       False
      ))
     ) ∧ ((decide (z7 ≤ 0)) = false →
      ∀ z16 : Int, (-1) ≤ z16 → z16 ≤ 9223372036854775807 → 
      ((((!(decide (z13 = 1)))) = true →
       chkD 31 [z15, z7] ∧
       ∀ z17 : Int, 0 ≤ z17 → z17 ≤ RB → z17 = fnD 23 [0, (List.getD r1 0 0), (List.getD r1 1 0), (List.getD r1 2 0), (List.getD r1 3 0)] →
       chkD 51 [z15, z12, z17] ∧
       ∀ z18 : Int, 0 ≤ z18 → z18 ≤ RB → S 306 [[z15], [z12], [z17]] [[z18]] →
       ∀ z19 : Int, (-1) ≤ z19 → z19 ≤ 9223372036854775807 → 
       ∀ z20 : Int, 0 ≤ z20 → z20 ≤ 9223372036854775807 → z20 = fnD 20 [z18] →
       chkD 30 [z12, z20] ∧
       chkD 21 [z18, z12] ∧
       ∀ z21 : Int, 0 ≤ z21 → z21 ≤ RB → z21 = fnD 42 [z18, z12, 0, (List.getD r1 0 0), (List.getD r1 1 0), (List.getD r1 2 0), (List.getD r1 3 0)] →
       chkD 22 [z21, 0, z20] ∧
       ∀ z22 : Int, 0 ≤ z22 → z22 ≤ RB → z22 = fnD 22 [z21, 0, z20] →
       K [[z0], r1] [[z22], [0]]
      ) ∧ (((!(decide (z13 = 1)))) = false →
       chkD 30 [z12, z7] ∧
       chkD 21 [z15, z12] ∧
       ∀ z17 : Int, 0 ≤ z17 → z17 ≤ RB → z17 = fnD 42 [z15, z12, 0, (List.getD r1 0 0), (List.getD r1 1 0), (List.getD r1 2 0), (List.getD r1 3 0)] →
       chkD 22 [z17, 0, z7] ∧
       ∀ z18 : Int, 0 ≤ z18 → z18 ≤ RB → z18 = fnD 22 [z17, 0, z7] →
       K [[z0], r1] [[z18], [0]]
      ))
     ))
    ))
   ))
  ))
 ))
/-! ### Bonds bound -/
theorem filter_take {p : Bd → Bool} : ∀ {l : List Bd} {i : Nat}, i ≤ l.length → (∀ j, j < i → p (l.getD j bd0) = true) → (∀ j, i ≤ j → j < l.length → p (l.getD j bd0) = false) → l.filter p = l.take i
  | [], i, h, _, _ => by simp
  | a :: l, 0, h, _, h2 => by
    rw [List.take_zero, List.filter_eq_nil_iff]
    intro b hb
    obtain ⟨j, hj, rfl⟩ := List.mem_iff_getElem.1 hb
    have := h2 j (Nat.zero_le _) hj
    simp only [List.getD, List.getElem?_eq_getElem hj, Option.getD_some] at this
    rw [this]; decide
  | a :: l, i + 1, h, h1, h2 => by
    have h10 : p a = true := h1 0 (by omega)
    rw [List.filter_cons_of_pos h10, List.take_succ_cons, filter_take (i := i) (by simpa using h) (fun j hj => by have := h1 (j + 1) (by omega); simpa using this) (fun j hj hl => by have := h2 (j + 1) (by omega) (by simpa using hl); simpa using this)]
theorem filter_drop {p : Bd → Bool} : ∀ {l : List Bd} {i : Nat}, i ≤ l.length → (∀ j, j < i → p (l.getD j bd0) = false) → (∀ j, i ≤ j → j < l.length → p (l.getD j bd0) = true) → l.filter p = l.drop i
  | [], i, h, _, _ => by simp
  | a :: l, 0, h, _, h2 => by
    rw [List.drop_zero, List.filter_eq_self]
    intro b hb
    obtain ⟨j, hj, rfl⟩ := List.mem_iff_getElem.1 hb
    have := h2 j (Nat.zero_le _) hj
    simpa only [List.getD, List.getElem?_eq_getElem hj, Option.getD_some] using this
  | a :: l, i + 1, h, h1, h2 => by
    have h0 := h1 0 (by omega)
    rw [List.filter_cons_of_neg (by rw [show p a = false from h0]; decide), List.drop_succ_cons, filter_drop (i := i) (by simpa using h) (fun j hj => by have := h1 (j + 1) (by omega); simpa using this) (fun j hj hl => by have := h2 (j + 1) (by omega) (by simpa using hl); simpa using this)]
theorem set_map {w : Bd} : ∀ {l : List Bd} {i : Nat}, sortedB l = true → i < l.length → (l.getD i bd0).1 = w.1 → l.set i w = l.map (fun b => cond (b.1 == w.1) w b)
  | [], i, _, h, _ => by simp at h
  | a :: l, 0, hs, _, he => by
    have he : a.1 = w.1 := he
    rw [List.set_cons_zero, List.map_cons, he, beq_self_eq_true, cond_true]
    congr 1
    refine (List.map_id l).symm.trans (List.map_congr_left fun b hb => ?_)
    have h1 := sorted_head hs b hb
    have : ¬ b.1 = w.1 := fun e => by rw [e, ← he, lessA_irr] at h1; cases h1
    rw [beq_false_of_ne this]; rfl
  | a :: l, i + 1, hs, h, he => by
    have hi : i < l.length := by simpa using h
    have he : (l.getD i bd0).1 = w.1 := by simpa using he
    have hm : l.getD i bd0 ∈ l := by simp [List.getD, hi]
    have h1 := sorted_head hs _ hm
    have h2 : ¬ a.1 = w.1 := fun e => by rw [he, ← e, lessA_irr] at h1; cases h1
    rw [List.set_cons_succ, List.map_cons, beq_false_of_ne h2, set_map (sorted_tail hs) hi he]; rfl
theorem any_find {l : List Bd} {w : Tx × Tx} : l.any (·.1 == w) = (l.find? (fun b => b.1 == w)).isSome := by
  rw [Bool.eq_iff_iff, List.any_eq_true, List.find?_isSome]
abbrev rBB : BD := .rd [.str, .str, .str, .int .i64 (-9223372036854775808) 9223372036854775807]
theorem p_bBind : B_bBind SB (KBb SB [rBB, .d (.int .i64 0 21)] 308) := by
  intro z0 a0 a1 r1 hr1 z5 _ z6 _ _ z7 b0 b1 h7 z8 _ _ h8
  obtain ⟨w0, w1, w2, w3, rfl, _⟩ := inB4 hr1
  have h7 : z7 = ((rOf z0).length : Int) := h7
  have hlen := bds_len z0
  have W := fun y => whole_bds (z := z0) (y := y) h7
  have h8 : z8 = b01 (bOk (bdOf [w0, w1, w2, w3])) := h8
  have hd8 := b01_dec h8
  have kk : ∀ y e : Int, 0 ≤ y → y ≤ RB → 0 ≤ e → e ≤ 21 → (bds y, e) = bindF (bds z0) (bdOf [w0, w1, w2, w3]) → KBb SB [rBB, .d (.int .i64 0 21)] 308 [[z0], [w0, w1, w2, w3]] [[y], [e]] := fun y e y0 y1 e0 e1 h => K2 y0 y1 e0 e1 h
  have nt : ∀ {z : Int} {b : Bool}, decide (z = 1) = b → (!(decide (z = 1))) = true → b = false := fun h h2 => by rw [h] at h2; simpa using h2
  have nf : ∀ {z : Int} {b : Bool}, decide (z = 1) = b → (!(decide (z = 1))) = false → b = true := fun h h2 => by rw [h] at h2; simpa using h2
  refine ⟨fun hn => ⟨(W 0).1, fun z9 c0 c1 h9 => kk z9 1 c0 c1 (by decide) (by decide) ?_⟩, fun hn => ⟨(W 0).1, fun z9 _ _ h9 z10 _ _ h10 => ?_⟩⟩
  · unfold bindF; rw [nt hd8 hn, bds_same ((W z9).2 h9)]; rfl
  have hok := nf hd8 hn
  have h10 : z10 = b01 (rightL (bds z9)) := h10
  rw [bds_same ((W z9).2 h9)] at h10
  have hd := b01_dec h10
  refine ⟨fun hn => ⟨(W 0).1, fun z11 c0 c1 h11 => kk z11 1 c0 c1 (by decide) (by decide) ?_⟩, fun hn => ⟨(W 0).1, fun z11 _ _ h11 z12 c0 c1 z13 d0 d1 hS => ?_⟩⟩
  · unfold bindF; rw [nt hd hn, Bool.and_false, bds_same ((W z11).2 h11)]; rfl
  have hr := nf hd hn
  have hS : PlaceS (bds z11) (whoOf [w0, w1]) z12 z13 := hS
  rw [bds_same ((W z11).2 h11)] at hS
  obtain ⟨p1, p2⟩ := place_find hS hr
  have h64 := ((rightL_iff _).1 hr).1
  obtain ⟨⟨s1, s2⟩, s3, s4⟩ := hS
  obtain ⟨k1, k2, k3⟩ := s4 hr
  have ew : (bdOf [w0, w1, w2, w3]).1 = whoOf [w0, w1] := rfl
  have hB : bindF (bds z0) (bdOf [w0, w1, w2, w3]) = cond ((bds z0).find? (fun b => b.1 == whoOf [w0, w1])).isSome ((bds z0).map (fun b => cond (b.1 == whoOf [w0, w1]) (bdOf [w0, w1, w2, w3]) b), 0) (cond (decide ((bds z0).length = 64)) (bds z0, 10) ((bds z0).filter (fun b => lessA b.1 (whoOf [w0, w1])) ++ bdOf [w0, w1, w2, w3] :: (bds z0).filter (fun b => lessA (whoOf [w0, w1]) b.1), 0)) := by
    unfold bindF; rw [hok, hr, ← any_find]; rfl
  -- a bond more
  have INS : ∀ c : Int, z13 ≠ 1 → ¬ z7 = 64 → rOf c = rOf z0 → ∀ z14 : Int, 0 ≤ z14 → z14 ≤ RB → z14 = fnD 23 [0, w0, w1, w2, w3] → chkD 51 [c, z12, z14] ∧ ∀ z15 : Int, 0 ≤ z15 → z15 ≤ RB → SB 306 [[c], [z12], [z14]] [[z15]] → ∀ z16 : Int, (-1) ≤ z16 → z16 ≤ 9223372036854775807 → ∀ z17 : Int, 0 ≤ z17 → z17 ≤ 9223372036854775807 → z17 = fnD 20 [z15] → chkD 30 [z12, z17] ∧ chkD 21 [z15, z12] ∧ ∀ z18 : Int, 0 ≤ z18 → z18 ≤ RB → z18 = fnD 42 [z15, z12, 0, w0, w1, w2, w3] → chkD 22 [z18, 0, z17] ∧ ∀ z19 : Int, 0 ≤ z19 → z19 ≤ RB → z19 = fnD 22 [z18, 0, z17] → KBb SB [rBB, .d (.int .i64 0 21)] 308 [[z0], [w0, w1, w2, w3]] [[z19], [0]] := by
    intro c hnf hn64 hc z14 _ _ h14
    have hr14 : rOf z14 = [[w0, w1, w2, w3]] := by rw [h14]; simp only [fnD, rOf_rc, Go.Rx.rOf_zero, List.nil_append]
    refine ⟨⟨⟨c0, by rw [hc]; omega⟩, by rw [hr14]; rfl, by rw [hc]; omega⟩, fun z15 _ _ h15 z16 _ _ z17 _ _ h17 => ?_⟩
    have h15 : rOf z15 = (rOf c).take z12.toNat ++ rOf z14 ++ (rOf c).drop z12.toNat := h15
    rw [hc, hr14] at h15
    have h17 : z17 = ((rOf z15).length : Int) := h17
    have hl15 : (rOf z15).length = (rOf z0).length + 1 := by rw [h15]; simp; omega
    have hi0 : z12.toNat ≤ (rOf z0).length := by omega
    refine ⟨⟨c0, by omega⟩, ⟨c0, by omega⟩, fun z18 _ _ h18 => ?_⟩
    have hgi : (rOf z15).getD z12.toNat [] = [w0, w1, w2, w3] := by
      rw [h15, List.append_assoc]
      simp only [List.getD]
      rw [List.getElem?_append_right (by rw [List.length_take]; exact Nat.min_le_left _ _), List.length_take, Nat.min_eq_left hi0, Nat.sub_self]
      rfl
    have h18 : rOf z18 = rOf z15 := by
      rw [h18]
      simp only [fnD, rOf_rc, hgi]
      rw [show ([w0, w1, w2, w3].take (0 : Int).toNat ++ [w0, w1, w2, w3] ++ [w0, w1, w2, w3].drop ((0 : Int).toNat + [w0, w1, w2, w3].length)) = [w0, w1, w2, w3] from rfl]
      refine List.ext_getElem? fun j => ?_
      rw [List.getElem?_set]
      by_cases hj : z12.toNat = j
      · subst hj
        rw [if_pos rfl, if_pos (by omega)]
        have : (rOf z15)[z12.toNat]? = some ((rOf z15)[z12.toNat]'(by omega)) := List.getElem?_eq_getElem (by omega)
        rw [this]
        simp only [List.getD, this, Option.getD_some] at hgi
        rw [hgi]
      · rw [if_neg hj]
    have hw := whole_bds (z := z18) (n := z17) (y := 0) (by rw [h18]; exact h17)
    refine ⟨hw.1, fun z19 e0 e1 h19 => kk z19 0 e0 e1 (by decide) (by decide) ?_⟩
    have h19 := (whole_bds (z := z18) (n := z17) (y := z19) (by rw [h18]; exact h17)).2 h19
    have hlt : ∀ j, j < z12.toNat → lessA ((bds z0).getD j bd0).1 (whoOf [w0, w1]) = true := fun j hj => cmpA_neg.1 (k1 j (by omega))
    have hge : ∀ j, z12.toNat ≤ j → j < (bds z0).length → lessA ((bds z0).getD j bd0).1 (whoOf [w0, w1]) = false := fun j hj hl => cmpA_nn.1 (k2 j (by omega) hl)
    have hgt : ∀ j, z12.toNat ≤ j → j < (bds z0).length → lessA (whoOf [w0, w1]) ((bds z0).getD j bd0).1 = true := fun j hj hl => by
      rcases lessA_tot ((bds z0).getD j bd0).1 (whoOf [w0, w1]) with h | h | h
      · rw [hge j hj hl] at h; cases h
      · exact h
      · have hno := List.find?_eq_none.1 (p2 hnf) ((bds z0).getD j bd0) (by simp [List.getD, hl])
        exact absurd (by simpa using h) (by simpa using hno)
    rw [hB, p2 hnf]
    simp only [Option.isSome_none, cond_false]
    rw [decide_eq_false (by omega), cond_false, filter_take (p := fun b => lessA b.1 (whoOf [w0, w1])) (i := z12.toNat) (by omega) hlt hge, filter_drop (p := fun b => lessA (whoOf [w0, w1]) b.1) (i := z12.toNat) (by omega) (fun j hj => lessA_asym (hlt j hj)) hgt]
    unfold bds
    rw [h19, h18, h15]
    simp [List.map_take, List.map_drop]
  -- the same address
  have FND : ∀ c : Int, z13 = 1 → rOf c = rOf z0 → chkD 30 [z12, z7] ∧ chkD 21 [c, z12] ∧ ∀ z17 : Int, 0 ≤ z17 → z17 ≤ RB → z17 = fnD 42 [c, z12, 0, w0, w1, w2, w3] → chkD 22 [z17, 0, z7] ∧ ∀ z18 : Int, 0 ≤ z18 → z18 ≤ RB → z18 = fnD 22 [z17, 0, z7] → KBb SB [rBB, .d (.int .i64 0 21)] 308 [[z0], [w0, w1, w2, w3]] [[z18], [0]] := by
    intro c hf hc
    have hil := s3 hf
    have hfd := p1 hf
    refine ⟨⟨c0, by omega⟩, ⟨c0, by rw [hc]; omega⟩, fun z17 _ _ h17 => ?_⟩
    have h17 : rOf z17 = (rOf z0).set z12.toNat ([w0, w1, w2, w3] ++ ((rOf z0).getD z12.toNat []).drop 4) := by
      rw [h17]; simp only [fnD, rOf_rc, hc]; rfl
    have hw := whole_bds (z := z17) (n := z7) (y := 0) (by rw [h17]; simp; exact h7)
    refine ⟨hw.1, fun z18 e0 e1 h18 => kk z18 0 e0 e1 (by decide) (by decide) ?_⟩
    have h18 := (whole_bds (z := z17) (n := z7) (y := z18) (by rw [h17]; simp; exact h7)).2 h18
    rw [hB, hfd]
    simp only [Option.isSome_some, cond_true]
    have hs := set_map (w := bdOf [w0, w1, w2, w3]) (right_sorted hr) (i := z12.toNat) (by omega) (find_mem hfd)
    rw [ew] at hs
    rw [← hs]
    have : bds z18 = (bds z0).set z12.toNat (bdOf [w0, w1, w2, w3]) := by
      unfold bds
      rw [h18, h17, List.map_set]; rfl
    rw [this]
  have hz0 : z7 ≤ 0 → rOf 0 = rOf z0 := fun h => by rw [Go.Rx.rOf_zero]; exact (List.eq_nil_of_length_eq_zero (by omega)).symm
  have hcl : ∀ z14 z15 : Int, z14 = fnD 22 [z0, 0, z7] → z15 = fnD 24 [0, z14] → rOf z15 = rOf z0 := fun z14 z15 h14 h15 => by
    rw [h15]; simp only [fnD, rOf_rc, Go.Rx.rOf_zero, List.nil_append]; exact (W z14).2 h14
  have hck : chkD 23 [0, z7] := by show (rOf 0).length + z7 ≤ 1073741824; rw [Go.Rx.rOf_zero]; simp; omega
  have fal : ∀ {P : Prop}, (!(decide (z13 = 1))) = true → (!(decide (z13 = 1))) = false → P := fun h h2 => by rw [h] at h2; cases h2
  have n1 : (!(decide (z13 = 1))) = true → z13 ≠ 1 := fun h e => by rw [e] at h; cases h
  have y1 : (!(decide (z13 = 1))) = false → z13 = 1 := fun h => by
    cases hx : decide (z13 = 1) with
    | true => exact of_decide_eq_true hx
    | false => rw [hx] at h; cases h
  have ILEN : z13 = 1 → 0 < z7 := fun h => by have := s3 h; omega
  refine ⟨fun hf => ⟨fun h => ⟨(W 0).1, fun z14 e0 e1 h14 => kk z14 10 e0 e1 (by decide) (by decide) ?_⟩, fun h has => ?_⟩, fun hf has => ?_⟩
  · have h := of_decide_eq_true h
    rw [hB, p2 (n1 hf)]
    simp only [Option.isSome_none, cond_false]
    rw [decide_eq_true (by omega), cond_true, bds_same ((W z14).2 h14)]
  · have h := of_decide_eq_false h
    have has : z6 < 0 → z7 = 0 := has
    refine ⟨fun hneg => ⟨fun _ => INS 0 (n1 hf) h (hz0 (by have := has (of_decide_eq_true hneg); omega)), fun h2 => fal hf h2⟩, fun _ => ⟨(W 0).1, hck, fun z14 _ _ h14 z15 _ _ h15 => ⟨fun hz => ⟨fun _ => INS 0 (n1 hf) h (hz0 (of_decide_eq_true hz)), fun h2 => fal hf h2⟩, fun _ z16 _ _ => ⟨fun _ => ⟨by show z7 = _; rw [hcl z14 z15 h14 h15]; exact h7, INS z15 (n1 hf) h (hcl z14 z15 h14 h15)⟩, fun h2 => fal hf h2⟩⟩⟩⟩
  · have has : z6 < 0 → z7 = 0 := has
    have hl := ILEN (y1 hf)
    refine ⟨fun hneg => absurd (has (of_decide_eq_true hneg)) (by omega), fun _ => ⟨(W 0).1, hck, fun z14 _ _ h14 z15 _ _ h15 => ⟨fun hz => absurd (of_decide_eq_true hz) (by omega), fun _ z16 _ _ => ⟨fun h2 => fal h2 hf, fun _ => FND z15 (y1 hf) (hcl z14 z15 h14 h15)⟩⟩⟩⟩

end Go.Ad

set_option maxRecDepth 100000
set_option linter.unusedVariables false
set_option linter.unusedSimpArgs false
namespace Go.Ad
open Go Go.Rx
def B_balive (S : Nat → List (List Int) → List (List Int) → Prop) (K : List (List Int) → List (List Int) → Prop) : Prop :=
 
 ∀ z0 : Int, 0 ≤ z0 → z0 ≤ RB → ∀ z1 : Int, 0 ≤ z1 → z1 ≤ 21 → S 308 [[0], [477315081741, 437051401625, 1786254407, 0]] [[z0], [z1]] →
 ∀ z2 : Int, 0 ≤ z2 →
 ∀ z3 : Int, (-1) ≤ z3 → z3 ≤ 9223372036854775807 → 
 ∀ z4 : Int, 0 ≤ z4 → z4 ≤ 9223372036854775807 → z4 = fnD 20 [z0] →
 chkD 22 [z0, 0, z4] ∧
 ∀ z5 : Int, 0 ≤ z5 → z5 ≤ RB → z5 = fnD 22 [z0, 0, z4] →
 ∀ z6 : Int, 0 ≤ z6 → z6 ≤ RB → ∀ z7 : Int, 0 ≤ z7 → z7 ≤ 21 → S 308 [[z5], [477315081741, 437051401625, 1786254664, 5]] [[z6], [z7]] →
 ∀ z8 : Int, 0 ≤ z8 →
 ∀ z9 : Int, (-1) ≤ z9 → z9 ≤ 9223372036854775807 → 
 ∀ z10 : Int, 0 ≤ z10 → z10 ≤ 9223372036854775807 → z10 = fnD 20 [z6] →
 chkD 22 [z6, 0, z10] ∧
 ∀ z11 : Int, 0 ≤ z11 → z11 ≤ RB → z11 = fnD 22 [z6, 0, z10] →
 ∀ z12 : Int, 0 ≤ z12 → z12 ≤ RB → ∀ z13 : Int, 0 ≤ z13 → z13 ≤ 21 → S 309 [[z11], [477315081741, 437051401625, 1786254407, 0]] [[z12], [z13]] →
 ∀ z14 : Int, 0 ≤ z14 →
 ∀ z15 : Int, (-1) ≤ z15 → z15 ≤ 9223372036854775807 → 
 ∀ z16 : Int, 0 ≤ z16 → z16 ≤ 9223372036854775807 → z16 = fnD 20 [z12] →
 chkD 22 [z6, 0, z10] ∧
 ∀ z17 : Int, 0 ≤ z17 → z17 ≤ RB → z17 = fnD 22 [z6, 0, z10] →
 ∀ r18 : List Int, inB [(0, HB), (0, HB), (0, HB), ((-9223372036854775808), 9223372036854775807)] r18 → ∀ z22 : Int, 0 ≤ z22 → z22 ≤ 1 → S 304 [[z17], [477315081741, 437051401625]] [r18, [z22]] →
 (((decide (z1 = 0)) = true →
  (((decide (z7 = 0)) = true →
   (((decide (z13 = 14)) = true →
    (((decide (z22 = 1)) = true →
     ∀ z23 : Int, 0 ≤ z23 → z23 ≤ 1 → z23 = fnD 4 [(List.getD r18 2 0), 1786254664] →
     (((decide (z23 = 1)) = true →
      chkD 22 [z6, 0, z10] ∧
      ∀ z24 : Int, 0 ≤ z24 → z24 ≤ RB → z24 = fnD 22 [z6, 0, z10] →
      ∀ z25 : Int, 0 ≤ z25 → z25 ≤ RB → S 305 [[z24], [1786254664]] [[z25]] →
      ∀ z26 : Int, (-1) ≤ z26 → z26 ≤ 9223372036854775807 → 
      ∀ z27 : Int, 0 ≤ z27 → z27 ≤ 9223372036854775807 → z27 = fnD 20 [z25] →
      K [] [[(cond (decide (z27 = 1)) 1 0)]]
     ) ∧ ((decide (z23 = 1)) = false →
      K [] [[(cond (false) 1 0)]]
     ))
    ) ∧ ((decide (z22 = 1)) = false →
     K [] [[(cond (false) 1 0)]]
    ))
   ) ∧ ((decide (z13 = 14)) = false →
    K [] [[(cond (false) 1 0)]]
   ))
  ) ∧ ((decide (z7 = 0)) = false →
   K [] [[(cond (false) 1 0)]]
  ))
 ) ∧ ((decide (z1 = 0)) = false →
  K [] [[(cond (false) 1 0)]]
 ))
/-! ### A fixed fact -/
def aB1 : Bd := (([101, 109, 97, 105, 108], [97, 64, 98, 46, 99]), [64, 97, 58, 104], 0)
def aB2 : Bd := (([101, 109, 97, 105, 108], [97, 64, 98, 46, 99]), [64, 98, 58, 104], 5)
theorem bds_zero : bds 0 = [] := by unfold bds; rw [Go.Rx.rOf_zero]; rfl
theorem p_balive : B_balive SB (KBb SB [.d .bool] 310) := by
  have kk : ∀ b : Bool, b = true → KBb SB [.d .bool] 310 [] [[cond b 1 0]] := fun b h => by subst h; exact ⟨⟨by decide, by decide, trivial⟩, rfl⟩
  have e1 : bdOf [477315081741, 437051401625, 1786254407, 0] = aB1 := by decide +kernel
  have e2 : bdOf [477315081741, 437051401625, 1786254664, 5] = aB2 := by decide +kernel
  have ew : whoOf [477315081741, 437051401625] = aB1.1 := by decide +kernel
  intro z0 _ _ z1 _ _ hA z2 _ z3 _ _ z4 _ _ h4
  have hA : (bds z0, z1) = bindF (bds 0) (bdOf [477315081741, 437051401625, 1786254407, 0]) := hA
  rw [bds_zero, e1, show bindF [] aB1 = ([aB1], 0) by decide +kernel] at hA
  simp only [Prod.mk.injEq] at hA
  obtain ⟨a1, a2⟩ := hA
  have W := fun y => whole_bds (z := z0) (y := y) h4
  refine ⟨(W 0).1, fun z5 _ _ h5 z6 _ _ z7 _ _ hB z8 _ z9 _ _ z10 _ _ h10 => ?_⟩
  have hB : (bds z6, z7) = bindF (bds z5) (bdOf [477315081741, 437051401625, 1786254664, 5]) := hB
  rw [bds_same ((W z5).2 h5), a1, e2, show bindF [aB1] aB2 = ([aB2], 0) by decide +kernel] at hB
  simp only [Prod.mk.injEq] at hB
  obtain ⟨b1, b2⟩ := hB
  have V := fun y => whole_bds (z := z6) (y := y) h10
  refine ⟨(V 0).1, fun z11 _ _ h11 z12 _ _ z13 _ _ hC z14 _ z15 _ _ z16 _ _ h16 => ?_⟩
  have hC : (bds z12, z13) = unbindF (bds z11) (bdOf [477315081741, 437051401625, 1786254407, 0]) := hC
  rw [bds_same ((V z11).2 h11), b1, e1, show unbindF [aB2] aB1 = ([aB2], 14) by decide +kernel] at hC
  simp only [Prod.mk.injEq] at hC
  obtain ⟨c1, c2⟩ := hC
  refine ⟨(V 0).1, fun z17 _ _ h17 r18 _ z22 _ _ hD => ?_⟩
  have hD : (match findL (bds z17) (whoOf [477315081741, 437051401625]) with | some b => bdOf r18 = b ∧ z22 = 1 | none => bdOf r18 = bd0 ∧ z22 = 0) := hD
  rw [bds_same ((V z17).2 h17), b1, ew, show findL [aB2] aB1.1 = some aB2 by decide +kernel] at hD
  obtain ⟨d1, d2⟩ := hD
  have d3 : sOf (r18.getD 2 0) = [64, 98, 58, 104] := congrArg (fun b : Bd => b.2.1) d1
  refine ⟨fun _ => ⟨fun _ => ⟨fun _ => ⟨fun _ z23 _ _ h23 => ?_, fun h => absurd d2 (of_decide_eq_false h)⟩, fun h => absurd c2 (of_decide_eq_false h)⟩, fun h => absurd b2 (of_decide_eq_false h)⟩, fun h => absurd a2 (of_decide_eq_false h)⟩
  have h23 := eq_dec h23
  rw [show decide (sOf (r18.getD 2 0) = sOf 1786254664) = true from decide_eq_true (by rw [d3]; decide +kernel)] at h23
  refine ⟨fun _ => ⟨(V 0).1, fun z24 _ _ h24 z25 _ _ hE z26 _ _ z27 _ _ h27 => kk _ ?_⟩, fun h => by rw [h23] at h; cases h⟩
  have hE : whos z25 = ofL (bds z24) (sOf 1786254664) := hE
  rw [bds_same ((V z24).2 h24), b1, show ofL [aB2] (sOf 1786254664) = [aB2.1] by decide +kernel] at hE
  have hl := congrArg List.length hE
  have h27 : z27 = ((rOf z25).length : Int) := h27
  simp [whos] at hl
  exact decide_eq_true (by omega)

end Go.Ad

set_option maxRecDepth 100000
set_option linter.unusedVariables false
set_option linter.unusedSimpArgs false
namespace Go.Ad
open Go Go.Rx
def B_lcounts (S : Nat → List (List Int) → List (List Int) → Prop) (K : List (List Int) → List (List Int) → Prop) : Prop :=
 ∀ z0 : Int, 0 ≤ z0 → z0 ≤ RB → ∀ z1 : Int, 0 ≤ z1 → z1 ≤ HB → 
 ∀ z2 : Int, 0 ≤ z2 →
 ∀ z3 : Int, (-1) ≤ z3 → z3 ≤ 9223372036854775807 → 
 ∀ z4 : Int, 0 ≤ z4 → z4 ≤ 9223372036854775807 → z4 = fnD 20 [z0] →
 ∀ z5 : Int, 0 ≤ z5 → z5 ≤ 1 → S 310 [] [[z5]] →
 ((((!(decide (z5 = 1)))) = true →
  K [[z0], [z1]] [[(cond (false) 1 0)]]
 ) ∧ (((!(decide (z5 = 1)))) = false →
  (((decide (100 < z4)) = true →
   K [[z0], [z1]] [[(cond (true) 1 0)]]
  ) ∧ ((decide (100 < z4)) = false →
   chkD 22 [z0, 0, z4] ∧
   ∀ z6 : Int, 0 ≤ z6 → z6 ≤ RB → z6 = fnD 22 [z0, 0, z4] →
   ∀ z7 : Int, 0 ≤ z7 → z7 ≤ 1 → S 303 [[z6]] [[z7]] →
   ((((!(decide (z7 = 1)))) = true →
    K [[z0], [z1]] [[(cond (true) 1 0)]]
   ) ∧ (((!(decide (z7 = 1)))) = false →
    chkD 22 [z0, 0, z4] ∧
    ∀ z8 : Int, 0 ≤ z8 → z8 ≤ RB → z8 = fnD 22 [z0, 0, z4] →
    ∀ z9 : Int, 0 ≤ z9 → z9 ≤ RB → S 305 [[z8], [z1]] [[z9]] →
    ∀ z10 : Int, (-1) ≤ z10 → z10 ≤ 9223372036854775807 → 
    ∀ z11 : Int, 0 ≤ z11 → z11 ≤ 9223372036854775807 → z11 = fnD 20 [z9] →
    ∃ (I12 : List (List Int) → Prop) (μ12 : List (List Int) → Nat), I12 [[0], [0]] ∧ (∀ z13 : Int, 0 ≤ z13 → z13 ≤ 9223372036854775807 → ∀ z14 : Int, 0 ≤ z14 → z14 ≤ 9223372036854775807 → I12 [[z13], [z14]] →
     (((decide (z14 < z4)) = true →
      chkD 30 [z14, z4] ∧
      chkD 21 [z0, z14] ∧
      ∀ z15 : Int, 0 ≤ z15 → z15 ≤ HB → z15 = fnD 21 [z0, z14, 2] →
      ∀ z16 : Int, 0 ≤ z16 → z16 ≤ 1 → z16 = fnD 4 [z15, z1] →
      (((decide (z16 = 1)) = true →
       ∀ z17 : Int, 0 ≤ z17 → z17 ≤ 1 → 0 ≤ (z13 + 9223372036854775809) - 18446744073709551616 * z17 → (z13 + 9223372036854775809) - 18446744073709551616 * z17 < 18446744073709551616 →
       ∀ z18 : Int, 0 ≤ z18 → z18 ≤ 1 → 0 ≤ (z14 + 9223372036854775809) - 18446744073709551616 * z18 → (z14 + 9223372036854775809) - 18446744073709551616 * z18 < 18446744073709551616 →
       chkD 39 [((z13 + ((-18446744073709551616) * z17)) + 1), 0, 9223372036854775807] ∧
       chkD 39 [((z14 + ((-18446744073709551616) * z18)) + 1), 0, 9223372036854775807] ∧
       (I12 [[((z13 + ((-18446744073709551616) * z17)) + 1)], [((z14 + ((-18446744073709551616) * z18)) + 1)]] ∧ μ12 [[((z13 + ((-18446744073709551616) * z17)) + 1)], [((z14 + ((-18446744073709551616) * z18)) + 1)]] < μ12 [[z13], [z14]])
      ) ∧ ((decide (z16 = 1)) = false →
       ∀ z17 : Int, 0 ≤ z17 → z17 ≤ 1 → 0 ≤ (z14 + 9223372036854775809) - 18446744073709551616 * z17 → (z14 + 9223372036854775809) - 18446744073709551616 * z17 < 18446744073709551616 →
       chkD 39 [((z14 + ((-18446744073709551616) * z17)) + 1), 0, 9223372036854775807] ∧
       (I12 [[z13], [((z14 + ((-18446744073709551616) * z17)) + 1)]] ∧ μ12 [[z13], [((z14 + ((-18446744073709551616) * z17)) + 1)]] < μ12 [[z13], [z14]])
      ))
     ) ∧ ((decide (z14 < z4)) = false →
      ∃ (I15 : List (List Int) → Prop) (μ15 : List (List Int) → Nat), I15 [[0]] ∧ (∀ z16 : Int, 0 ≤ z16 → z16 ≤ 9223372036854775807 → I15 [[z16]] →
       (((decide (z16 < z11)) = true →
        chkD 30 [z16, z11] ∧
        chkD 21 [z9, z16] ∧
        ∀ z17 : Int, 0 ≤ z17 → z17 ≤ HB → z17 = fnD 21 [z9, z16, 0] →
        ∀ z18 : Int, 0 ≤ z18 → z18 ≤ HB → z18 = fnD 21 [z9, z16, 1] →
        chkD 22 [z0, 0, z4] ∧
        ∀ z19 : Int, 0 ≤ z19 → z19 ≤ RB → z19 = fnD 22 [z0, 0, z4] →
        ∀ r20 : List Int, inB [(0, HB), (0, HB), (0, HB), ((-9223372036854775808), 9223372036854775807)] r20 → ∀ z24 : Int, 0 ≤ z24 → z24 ≤ 1 → S 304 [[z19], [z17, z18]] [r20, [z24]] →
        ((((!(decide (z24 = 1)))) = true →
         K [[z0], [z1]] [[(cond (false) 1 0)]]
        ) ∧ (((!(decide (z24 = 1)))) = false →
         ∀ z25 : Int, 0 ≤ z25 → z25 ≤ 1 → z25 = fnD 4 [(List.getD r20 2 0), z1] →
         ((((!(decide (z25 = 1)))) = true →
          K [[z0], [z1]] [[(cond (false) 1 0)]]
         ) ∧ (((!(decide (z25 = 1)))) = false →
          ∀ z26 : Int, 0 ≤ z26 → z26 ≤ 1 → 0 ≤ (z16 + 9223372036854775809) - 18446744073709551616 * z26 → (z16 + 9223372036854775809) - 18446744073709551616 * z26 < 18446744073709551616 →
          chkD 39 [((z16 + ((-18446744073709551616) * z26)) + 1), 0, 9223372036854775807] ∧
          (I15 [[((z16 + ((-18446744073709551616) * z26)) + 1)]] ∧ μ15 [[((z16 + ((-18446744073709551616) * z26)) + 1)]] < μ15 [[z16]])
         ))
        ))
       ) ∧ ((decide (z16 < z11)) = false →
        K [[z0], [z1]] [[(cond (decide (z13 = z11)) 1 0)]]
       ))
      )
     ))
    )
   ))
  ))
 ))
/-! ### BondCounts -/
theorem find_self {l : List Bd} {b : Bd} (hr : rightL l = true) (hb : b ∈ l) : l.find? (fun c => c.1 == b.1) = some b := by
  obtain ⟨i, hi, rfl⟩ := List.mem_iff_getElem.1 hb
  have e : l.getD i bd0 = l[i] := by simp [List.getD, hi]
  have := find_at (l := l) (w := l[i].1) hi (by rw [e]) (fun j hj he => by
    have := sorted_get (right_sorted hr) j i hj hi
    rw [he, e, lessA_irr] at this; cases this)
  rw [this, e]
def CoI (z0 : Int) (x : Tx) (bl : List (List Int)) : Prop := ∃ (n i : Nat), bl = [[(n : Int)], [(i : Int)]] ∧ i ≤ (bds z0).length ∧ n = (((bds z0).take i).filter (·.2.1 == x)).length ∧ n ≤ i
def CoM (z0 : Int) (bl : List (List Int)) : Nat := (bds z0).length - ((bl.getD 1 []).getD 0 0).toNat
def CoJ (z9 : Int) (bl : List (List Int)) : Prop := ∃ (i : Nat), bl = [[(i : Int)]] ∧ i ≤ (rOf z9).length
def CoN (z9 : Int) (bl : List (List Int)) : Nat := (rOf z9).length - ((bl.getD 0 []).getD 0 0).toNat
theorem p_lcounts : B_lcounts SB (KBb SB [.d .bool] 311) := by
  intro z0 a0 a1 z1 _ _ z2 _ z3 _ _ z4 b0 b1 h4 z5 _ _ h5
  have kk : ∀ b : Bool, b = true → KBb SB [.d .bool] 311 [[z0], [z1]] [[cond b 1 0]] := fun b h => by subst h; exact ⟨⟨by decide, by decide, trivial⟩, rfl⟩
  have h4 : z4 = ((rOf z0).length : Int) := h4
  have hlen := bds_len z0
  have W := fun y => whole_bds (z := z0) (y := y) h4
  have h5 : z5 = 1 := h5
  refine ⟨fun h => (by rw [h5] at h; cases h), fun _ => ⟨fun _ => kk true rfl, fun h100 => ⟨(W 0).1, fun z6 _ _ h6 z7 _ _ h7 => ⟨fun _ => kk true rfl, fun hn => ⟨(W 0).1, fun z8 _ _ h8 z9 _ _ h9 z10 _ _ z11 c0 c1 h11 => ?_⟩⟩⟩⟩⟩
  have h7 : z7 = b01 (rightL (bds z6)) := h7
  rw [bds_same ((W z6).2 h6)] at h7
  have hd := b01_dec h7
  have hr : rightL (bds z0) = true := by
    rw [hd] at hn
    cases hx : rightL (bds z0) with
    | true => rfl
    | false => rw [hx] at hn; cases hn
  have h9 : whos z9 = ofL (bds z8) (sOf z1) := h9
  rw [bds_same ((W z8).2 h8)] at h9
  unfold ofL at h9
  rw [hr, cond_true] at h9
  have h11 : z11 = ((rOf z9).length : Int) := h11
  have hl9 : (rOf z9).length = ((bds z0).filter (·.2.1 == sOf z1)).length := by
    have := congrArg List.length h9
    simpa [whos] using this
  refine ⟨CoI z0 (sOf z1), CoM z0, ⟨0, 0, rfl, Nat.zero_le _, rfl, Nat.le_refl _⟩, ?_⟩
  rintro z13 d0 d1 z14 e0 e1 ⟨n, i, e, hi, hI, hni⟩
  obtain ⟨rfl, rfl⟩ : z13 = n ∧ z14 = i := by simpa using e
  refine ⟨fun hlt => ?_, fun hge => ?_⟩
  · have hlt := of_decide_eq_true hlt
    have hil : i < (rOf z0).length := by omega
    have htk : (bds z0).take (i + 1) = (bds z0).take i ++ [(bds z0).getD i bd0] := by
      rw [List.take_add_one, List.getElem?_eq_getElem (by omega)]; simp [List.getD, show i < (bds z0).length by omega]
    refine ⟨⟨by omega, by omega⟩, ⟨by omega, by omega⟩, fun z15 _ _ h15 z16 _ _ h16 => ?_⟩
    have hx : sOf z15 = ((bds z0).getD i bd0).2.1 := by rw [bds_get hil, h15]; rfl
    have h16 := eq_dec h16
    refine ⟨fun hq z17 f0 f1 f2 f3 z18 g0 g1 g2 g3 => ⟨⟨by omega, by omega⟩, ⟨by omega, by omega⟩, ⟨n + 1, i + 1, ?_, by omega, ?_, by omega⟩, ?_⟩, fun hq z17 f0 f1 f2 f3 => ⟨⟨by omega, by omega⟩, ⟨n, i + 1, ?_, by omega, ?_, by omega⟩, ?_⟩⟩
    · rw [show ((n : Int) + (-18446744073709551616) * z17) + 1 = ((n + 1 : Nat) : Int) by omega, show ((i : Int) + (-18446744073709551616) * z18) + 1 = ((i + 1 : Nat) : Int) by omega]
    · have hq' : (((bds z0).getD i bd0).2.1 == sOf z1) = true := by
        rw [hq] at h16
        have := of_decide_eq_true h16.symm
        rw [← hx, this]; exact beq_self_eq_true _
      rw [htk, List.filter_append, List.filter_cons_of_pos (by simpa using hq'), hI]; simp
    · show (bds z0).length - (((i : Int) + (-18446744073709551616) * z18) + 1).toNat < (bds z0).length - ((i : Int)).toNat; omega
    · rw [show ((i : Int) + (-18446744073709551616) * z17) + 1 = ((i + 1 : Nat) : Int) by omega]
    · have hq' : ¬ (((bds z0).getD i bd0).2.1 == sOf z1) = true := by
        rw [hq] at h16
        have := of_decide_eq_false h16.symm
        rw [← hx]; simpa using this
      rw [htk, List.filter_append, List.filter_cons_of_neg (by simpa using hq'), hI]; simp
    · show (bds z0).length - (((i : Int) + (-18446744073709551616) * z17) + 1).toNat < (bds z0).length - ((i : Int)).toNat; omega
  · have hge := of_decide_eq_false hge
    refine ⟨CoJ z9, CoN z9, ⟨0, rfl, Nat.zero_le _⟩, ?_⟩
    rintro z16 f0 f1 ⟨j, e, hj⟩
    obtain rfl : z16 = j := by simpa using e
    refine ⟨fun hlt => ?_, fun _ => kk _ ?_⟩
    · have hlt := of_decide_eq_true hlt
      have hjl : j < (rOf z9).length := by omega
      refine ⟨⟨by omega, by omega⟩, ⟨by omega, by omega⟩, fun z17 _ _ h17 z18 _ _ h18 => ⟨(W 0).1, fun z19 _ _ h19 r20 _ z24 _ _ hF => ?_⟩⟩
      have hw : whoOf [z17, z18] = whoOf ((rOf z9).getD j []) := by rw [h17, h18]; rfl
      have hm : whoOf [z17, z18] ∈ ((bds z0).filter (·.2.1 == sOf z1)).map (·.1) := by
        rw [← h9, hw]
        unfold whos
        refine List.mem_map.2 ⟨(rOf z9)[j], List.getElem_mem hjl, ?_⟩
        simp [List.getD, hjl]
      obtain ⟨b, hb, hbw⟩ := List.mem_map.1 hm
      obtain ⟨hb1, hb2⟩ := List.mem_filter.1 hb
      have hF : (match findL (bds z19) (whoOf [z17, z18]) with | some b => bdOf r20 = b ∧ z24 = 1 | none => bdOf r20 = bd0 ∧ z24 = 0) := hF
      have hfd := find_self hr hb1
      rw [hbw] at hfd
      rw [bds_same ((W z19).2 h19)] at hF
      unfold findL at hF
      rw [hr, cond_true, hfd] at hF
      obtain ⟨k1, k2⟩ := hF
      have k3 : sOf (r20.getD 2 0) = b.2.1 := congrArg (fun b : Bd => b.2.1) k1
      refine ⟨fun h => (by rw [k2] at h; cases h), fun _ z25 _ _ h25 => ?_⟩
      have h25 := eq_dec h25
      rw [show decide (sOf (r20.getD 2 0) = sOf z1) = true from decide_eq_true (by rw [k3]; simpa using hb2)] at h25
      refine ⟨fun h => (by rw [h25] at h; cases h), fun _ z26 g0 g1 g2 g3 => ⟨⟨by omega, by omega⟩, ⟨j + 1, by rw [show ((j : Int) + (-18446744073709551616) * z26) + 1 = ((j + 1 : Nat) : Int) by omega], by omega⟩, ?_⟩⟩
      show (rOf z9).length - (((j : Int) + (-18446744073709551616) * z26) + 1).toNat < (rOf z9).length - ((j : Int)).toNat; omega
    · refine decide_eq_true ?_
      rw [h11, hl9, hI, List.take_of_length_le (by omega)]

end Go.Ad

set_option maxRecDepth 100000
set_option linter.unusedVariables false
namespace Go.Ad
open Go Go.Rx
def li_none : FuncId → Nat → Option LoopI := fun _ _ => none
def lsh_none : Nat → List Nat := fun _ => []
def aa : D := .mix [.str, .str]
def du8 : D := .int .u8 0 255
def didx : D := .int .i64 (-1) 9223372036854775807
def derr : D := .int .i64 0 21
def ksp : D := .strk [32]
def kdot : D := .strk [46]
def kdd : D := .strk [46, 46]
def kdm : D := .strk [46, 45]
def kat : D := .strk [64]
def kcol : D := .strk [58]
def khost : D := .strk [97, 98, 99, 100, 101, 102, 103, 104, 105, 106, 107, 108, 109, 110, 111, 112, 113, 114, 115, 116, 117, 118, 119, 120, 121, 122, 65, 66, 67, 68, 69, 70, 71, 72, 73, 74, 75, 76, 77, 78, 79, 80, 81, 82, 83, 84, 85, 86, 87, 88, 89, 90, 48, 49, 50, 51, 52, 53, 54, 55, 56, 57, 46, 45]
def kdig : D := .strk [48, 49, 50, 51, 52, 53, 54, 55, 56, 57]
def kus : D := .strk [97, 98, 99, 100, 101, 102, 103, 104, 105, 106, 107, 108, 109, 110, 111, 112, 113, 114, 115, 116, 117, 118, 119, 120, 121, 122, 48, 49, 50, 51, 52, 53, 54, 55, 56, 57, 46, 95, 61, 47, 43, 45]
def bb : D := .mix [.str, .str, .str, .int .i64 (-9223372036854775808) 9223372036854775807]
def lbb : BD := .rd [.str, .str, .str, .int .i64 (-9223372036854775808) 9223372036854775807]
def obb : BD := .ow [.str, .str, .str, .int .i64 (-9223372036854775808) 9223372036854775807] 31
def dcmp : D := .int .i64 (-1) 1
def dpos : D := .int .i64 0 9223372036854775807
def oaa : BD := .ow [.str, .str] 29
def k_ibs : Con := ⟨76, 73, [.str, du8], [didx]⟩
def k_tlb : Con := ⟨48, 36, [.str, du8], [.str]⟩
def li_tlb : FuncId → Nat → Option LoopI := fun f r => match f, r with
  | 48, 1 => some ⟨[1], [(0, 0, 0)], [], [], []⟩
  | _, _ => none
def lsh_tlb : Nat → List Nat := fun n => [1]
def k_trb : Con := ⟨49, 37, [.str, du8], [.str]⟩
def li_trb : FuncId → Nat → Option LoopI := fun f r => match f, r with
  | 49, 1 => some ⟨[1], [(0, 0, 0)], [], [], []⟩
  | _, _ => none
def lsh_trb : Nat → List Nat := fun n => [1]
def k_tsp : Con := ⟨36, 120, [.str, ksp], [.str]⟩
def k_tdot : Con := ⟨36, 121, [.str, kdot], [.str]⟩
def k_cdot : Con := ⟨39, 127, [.str, kdot], [.bool]⟩
def k_tdm : Con := ⟨36, 122, [.str, kdm], [.str]⟩
def li_tdm : FuncId → Nat → Option LoopI := fun f r => match f, r with
  | 51, 1 => some ⟨[1], [(0, 0, 0)], [], [], []⟩
  | 52, 1 => some ⟨[1], [(0, 0, 0)], [], [], []⟩
  | _, _ => none
def lsh_tdm : Nat → List Nat := fun n => [1]
def k_cutat : Con := ⟨31, 125, [.str, kat], [.str, .str, .bool]⟩
def k_cutcol : Con := ⟨31, 126, [.str, kcol], [.str, .str, .bool]⟩
def k_only : Con := ⟨55, 44, [.str, .str], [.bool]⟩
def li_only : FuncId → Nat → Option LoopI := fun f r => match f, r with
  | 55, 2 => some ⟨[0, 1, 7], [(8, 0, 9223372036854775807)], [], [], []⟩
  | _, _ => none
def lsh_only : Nat → List Nat := fun n => [1]
def k_ionly : Con := ⟨46, 65, [.str, .str], [.bool]⟩
def li_ionly : FuncId → Nat → Option LoopI := fun f r => match f, r with
  | 46, 2 => some ⟨[0, 1, 7], [(8, 0, 9223372036854775807)], [], [], []⟩
  | _, _ => none
def lsh_ionly : Nat → List Nat := fun n => [1]
def k_low : Con := ⟨40, 28, [.str], [.str]⟩
def li_low : FuncId → Nat → Option LoopI := fun f r => match f, r with
  | 40, 3 => some ⟨[3, 8, 9], [(10, 0, 9223372036854775807)], [(0, 0, 0, 0)], [], []⟩
  | _, _ => none
def lsh_low : Nat → List Nat := fun n => [1, 1]
def k_cdd : Con := ⟨39, 128, [.str, kdd], [.bool]⟩
def q_cdd : QCon := ⟨k_cdd, 41⟩
def k_thost : Con := ⟨36, 123, [.str, khost], [.str]⟩
def li_thost : FuncId → Nat → Option LoopI := fun f r => match f, r with
  | 51, 1 => some ⟨[1], [(0, 0, 0)], [], [], []⟩
  | 52, 1 => some ⟨[1], [(0, 0, 0)], [], [], []⟩
  | _, _ => none
def lsh_thost : Nat → List Nat := fun n => [1]
def k_tdig : Con := ⟨36, 124, [.str, kdig], [.str]⟩
def li_tdig : FuncId → Nat → Option LoopI := fun f r => match f, r with
  | 51, 1 => some ⟨[1], [(0, 0, 0)], [], [], []⟩
  | 52, 1 => some ⟨[1], [(0, 0, 0)], [], [], []⟩
  | _, _ => none
def lsh_tdig : Nat → List Nat := fun n => [1]
def k_host : Con := ⟨47, 47, [.str], [.bool]⟩
def k_server : Con := ⟨34, 27, [.str], [.bool]⟩
def k_local : Con := ⟨37, 24, [.str], [.bool]⟩
def k_country : Con := ⟨41, 32, [.str], [aa, .bool]⟩
def k_bare : Con := ⟨42, 33, [.str], [.str, .bool, .bool]⟩
def k_tpre : Con := ⟨43, 34, [.str, .str], [.str]⟩
def k_email : Con := ⟨28, 10, [.str], [.str, derr]⟩
def k_phone : Con := ⟨29, 12, [.str, .str], [.str, derr]⟩
def q_phone : QCon := ⟨k_phone, 44⟩
def k_make : Con := ⟨25, 15, [.str, .str], [aa, derr]⟩
def k_right : Con := ⟨20, 16, [aa], [.bool]⟩
def k_less : Con := ⟨24, 14, [aa, aa], [.bool]⟩
def k_tus : Con := ⟨36, 202, [.str, kus], [.str]⟩
def li_tus : FuncId → Nat → Option LoopI := fun f r => match f, r with
  | 51, 1 => some ⟨[1], [(0, 0, 0)], [], [], []⟩
  | 52, 1 => some ⟨[1], [(0, 0, 0)], [], [], []⟩
  | _, _ => none
def lsh_tus : Nat → List Nat := fun n => [1]
def k_user : Con := ⟨21, 200, [.str], [.bool]⟩
def k_bright : Con := ⟨16, 300, [bb], [.bool]⟩
def k_bcmp : Con := ⟨18, 301, [bb, aa], [dcmp]⟩
def k_bplace : BCon := ⟨13, 302, [lbb, .d aa], [.d dpos, .d .bool], 0⟩
def li_bplace : FuncId → Nat → Option LoopI := fun f r => match f, r with
  | 19, 3 => some ⟨[0, 2, 4, 8], [(9, 0, 9223372036854775807), (10, 0, 9223372036854775807)], [], [], []⟩
  | _, _ => none
def lsh_bplace : Nat → List Nat := fun n => [1, 1]
def k_bRight : BCon := ⟨9, 303, [lbb], [.d .bool], 0⟩
def li_bRight : FuncId → Nat → Option LoopI := fun f r => match f, r with
  | 9, 4 => some ⟨[0, 8, 9], [(10, 0, 9223372036854775807)], [], [], []⟩
  | _, _ => none
def lsh_bRight : Nat → List Nat := fun n => [1]
def k_bFind : BCon := ⟨8, 304, [lbb, .d aa], [.d bb, .d .bool], 0⟩
def k_bOf : BCon := ⟨11, 305, [lbb, .d .str], [oaa], 0⟩
def li_bOf : FuncId → Nat → Option LoopI := fun f r => match f, r with
  | 11, 5 => some ⟨[0, 1, 11, 12], [(13, 0, 9223372036854775807)], [], [], [(5, [.str, .str], 29)]⟩
  | _, _ => none
def lsh_bOf : Nat → List Nat := fun n => [1, 1, 1, 1]
def k_bins : ICon := ⟨17, 306, [.str, .str, .str, .int .i64 (-9223372036854775808) 9223372036854775807], 31, [.d dpos, lbb], 51⟩
def k_bdel : ICon := ⟨14, 307, [.str, .str, .str, .int .i64 (-9223372036854775808) 9223372036854775807], 31, [.d dpos, .d dpos], 52⟩
def k_bBind : BCon := ⟨7, 308, [lbb, .d bb], [lbb, .d derr], 0⟩
def k_bUnbind : BCon := ⟨6, 309, [lbb, .d bb], [lbb, .d derr], 0⟩
def k_balive : BCon := ⟨5, 310, [], [.d .bool], 0⟩
def k_lcounts : BCon := ⟨4, 311, [lbb, .d .str], [.d .bool], 0⟩
def li_lcounts : FuncId → Nat → Option LoopI := fun f r => match f, r with
  | 4, 8 => some ⟨[0, 1, 5], [(6, 0, 9223372036854775807), (7, 0, 9223372036854775807)], [], [], []⟩
  | 4, 13 => some ⟨[0, 1, 5, 6], [(8, 0, 9223372036854775807)], [], [], []⟩
  | _, _ => none
def lsh_lcounts : Nat → List Nat := fun n => cond (Nat.beq n 12) [1, 1] [1]
def sh : Nat → List Nat × List Nat
  | 73 => ([1, 1], [1])
  | 36 => ([1, 1], [1])
  | 37 => ([1, 1], [1])
  | 120 => ([1], [1])
  | 121 => ([1], [1])
  | 127 => ([1], [1])
  | 122 => ([1], [1])
  | 125 => ([1], [1, 1, 1])
  | 126 => ([1], [1, 1, 1])
  | 44 => ([1, 1], [1])
  | 65 => ([1, 1], [1])
  | 28 => ([1], [1])
  | 128 => ([1], [1])
  | 123 => ([1], [1])
  | 124 => ([1], [1])
  | 47 => ([1], [1])
  | 27 => ([1], [1])
  | 24 => ([1], [1])
  | 32 => ([1], [2, 1])
  | 33 => ([1], [1, 1, 1])
  | 34 => ([1, 1], [1])
  | 10 => ([1], [1, 1])
  | 12 => ([1, 1], [1, 1])
  | 15 => ([1, 1], [2, 1])
  | 16 => ([2], [1])
  | 14 => ([2, 2], [1])
  | 202 => ([1], [1])
  | 200 => ([1], [1])
  | 300 => ([4], [1])
  | 301 => ([4, 2], [1])
  | 302 => ([1, 2], [1, 1])
  | 303 => ([1], [1])
  | 304 => ([1, 2], [4, 1])
  | 305 => ([1, 1], [1])
  | 306 => ([1, 1, 1], [1])
  | 307 => ([1, 1, 1], [1])
  | 308 => ([1, 4], [1, 1])
  | 309 => ([1, 4], [1, 1])
  | 310 => ([], [1])
  | 311 => ([1, 1], [1])
  | _ => ([], [])
end Go.Ad


set_option maxRecDepth 100000
namespace Go.Ad
open Go Go.Rx Go.Proofs
theorem u_tlb (S K) : VcB sh lsh_tlb S K [1, 1] (bdsL k_tlb.args) k_tlb.res (k_tlb.tree Tryd.prog [] (calQ [] []) li_tlb 600 6) = B_tlb S K := by kernel_rfl
theorem u_trb (S K) : VcB sh lsh_trb S K [1, 1] (bdsL k_trb.args) k_trb.res (k_trb.tree Tryd.prog [] (calQ [] []) li_trb 600 6) = B_trb S K := by kernel_rfl
theorem u_tsp (S K) : VcB sh lsh_none S K [1] (bdsL k_tsp.args) k_tsp.res (k_tsp.tree Tryd.prog [] (calQ [] [k_tlb, k_trb]) li_none 600 6) = B_tsp S K := by kernel_rfl
theorem u_tdot (S K) : VcB sh lsh_none S K [1] (bdsL k_tdot.args) k_tdot.res (k_tdot.tree Tryd.prog [] (calQ [] [k_tlb, k_trb]) li_none 600 6) = B_tdot S K := by kernel_rfl
theorem u_cdot (S K) : VcB sh lsh_none S K [1] (bdsL k_cdot.args) k_cdot.res (k_cdot.tree Tryd.prog [] (calQ [] [k_ibs]) li_none 600 6) = B_cdot S K := by kernel_rfl
theorem u_tdm (S K) : VcB sh lsh_tdm S K [1] (bdsL k_tdm.args) k_tdm.res (k_tdm.tree Tryd.prog [] (calQ [] []) li_tdm 600 6) = B_tdm S K := by kernel_rfl
theorem u_cutat (S K) : VcB sh lsh_none S K [1] (bdsL k_cutat.args) k_cutat.res (k_cutat.tree Tryd.prog [] (calQ [] [k_ibs]) li_none 600 6) = B_cutat S K := by kernel_rfl
theorem u_cutcol (S K) : VcB sh lsh_none S K [1] (bdsL k_cutcol.args) k_cutcol.res (k_cutcol.tree Tryd.prog [] (calQ [] [k_ibs]) li_none 600 6) = B_cutcol S K := by kernel_rfl
theorem u_only (S K) : VcB sh lsh_only S K [1, 1] (bdsL k_only.args) k_only.res (k_only.tree Tryd.prog [] (calQ [] [k_ibs]) li_only 600 6) = B_only S K := by kernel_rfl
theorem u_ionly (S K) : VcB sh lsh_ionly S K [1, 1] (bdsL k_ionly.args) k_ionly.res (k_ionly.tree Tryd.prog [] (calQ [] [k_ibs]) li_ionly 600 6) = B_ionly S K := by kernel_rfl
theorem u_thost (S K) : VcB sh lsh_thost S K [1] (bdsL k_thost.args) k_thost.res (k_thost.tree Tryd.prog [] (calQ [] []) li_thost 600 6) = B_thost S K := by kernel_rfl
theorem u_tdig (S K) : VcB sh lsh_tdig S K [1] (bdsL k_tdig.args) k_tdig.res (k_tdig.tree Tryd.prog [] (calQ [] []) li_tdig 600 6) = B_tdig S K := by kernel_rfl
end Go.Ad

set_option maxRecDepth 100000
namespace Go.Ad
open Go Go.Rx Go.Proofs
theorem u_host (S K) : VcB sh lsh_none S K [1] (bdsL k_host.args) k_host.res (k_host.tree Tryd.prog [] (calQ [q_cdd] [k_thost, k_tdm, k_ionly]) li_none 600 6) = B_host S K := by kernel_rfl
theorem u_server (S K) : VcB sh lsh_none S K [1] (bdsL k_server.args) k_server.res (k_server.tree Tryd.prog [] (calQ [] [k_cutcol, k_host, k_tdig, k_ionly]) li_none 600 6) = B_server S K := by kernel_rfl
theorem u_local (S K) : VcB sh lsh_none S K [1] (bdsL k_local.args) k_local.res (k_local.tree Tryd.prog [] (calQ [q_cdd] [k_only, k_tdot]) li_none 600 6) = B_local S K := by kernel_rfl
theorem u_email (S K) : VcB sh lsh_none S K [1] (bdsL k_email.args) k_email.res (k_email.tree Tryd.prog [] (calQ [] [k_tsp, k_cutat, k_local, k_cdot, k_server, k_low, k_ibs]) li_none 600 6) = B_email S K := by kernel_rfl
theorem u_tpre (S K) : VcB sh lsh_none S K [1, 1] (bdsL k_tpre.args) k_tpre.res (k_tpre.tree Tryd.prog [] (calQ [] []) li_none 600 6) = B_tpre S K := by kernel_rfl
theorem u_phone (S K) : VcB sh lsh_none S K [1, 1] (bdsL k_phone.args) k_phone.res (q_phone.tree Tryd.prog [] (calQ [] [k_country, k_bare, k_tpre]) li_none 600 6) = B_phone S K := by kernel_rfl
theorem u_make (S K) : VcB sh lsh_none S K [1, 1] (bdsL k_make.args) k_make.res (k_make.tree Tryd.prog [] (calQ [q_phone] [k_email]) li_none 600 6) = B_make S K := by kernel_rfl
theorem u_right (S K) : VcB sh lsh_none S K [2] (bdsL k_right.args) k_right.res (k_right.tree Tryd.prog [] (calQ [] [k_make]) li_none 600 6) = B_right S K := by kernel_rfl
theorem u_less (S K) : VcB sh lsh_none S K [2, 2] (bdsL k_less.args) k_less.res (k_less.tree Tryd.prog [] (calQ [] []) li_none 600 6) = B_less S K := by kernel_rfl
theorem u_tus (S K) : VcB sh lsh_tus S K [1] (bdsL k_tus.args) k_tus.res (k_tus.tree Tryd.prog [] (calQ [] []) li_tus 600 6) = B_tus S K := by kernel_rfl
theorem u_user (S K) : VcB sh lsh_none S K [1] (bdsL k_user.args) k_user.res (k_user.tree Tryd.prog [] (calQ [] [k_cutcol, k_tus, k_ionly, k_server]) li_none 600 6) = B_user S K := by kernel_rfl
end Go.Ad

set_option maxRecDepth 100000
namespace Go.Ad
open Go Go.Rx Go.Proofs
theorem u_low (S K) : VcB sh lsh_low S K [1] (bdsL k_low.args) k_low.res (k_low.tree Tryd.prog [] (calQ [] []) li_low 600 6) = B_low S K := by kernel_rfl
theorem u_bright (S K) : VcB sh lsh_none S K [4] (bdsL k_bright.args) k_bright.res (k_bright.tree Tryd.prog [] (calQ [] [k_right, k_user]) li_none 600 6) = B_bright S K := by kernel_rfl
theorem u_bcmp (S K) : VcB sh lsh_none S K [4, 2] (bdsL k_bcmp.args) k_bcmp.res (k_bcmp.tree Tryd.prog [] (calQ [] [k_less]) li_none 600 6) = B_bcmp S K := by kernel_rfl
theorem u_bplace (S K) : VcF sh lsh_bplace S K [1, 2] (bbds k_bplace.args) k_bplace.res (k_bplace.tree (bcOf []) Tryd.prog [] (calQ [] [k_bcmp]) li_bplace 600 6) = B_bplace S K := by kernel_rfl
theorem u_bRight (S K) : VcF sh lsh_bRight S K [1] (bbds k_bRight.args) k_bRight.res (k_bRight.tree (bcOf []) Tryd.prog [] (calQ [] [k_bright, k_bcmp]) li_bRight 600 6) = B_bRight S K := by kernel_rfl
theorem u_bFind (S K) : VcF sh lsh_none S K [1, 2] (bbds k_bFind.args) k_bFind.res (k_bFind.tree (bcOf [k_bRight, k_bplace]) Tryd.prog [] (calQ [] []) li_none 600 6) = B_bFind S K := by kernel_rfl
theorem u_bOf (S K) : VcF sh lsh_bOf S K [1, 1] (bbds k_bOf.args) k_bOf.res (k_bOf.tree (bcOf [k_bRight]) Tryd.prog [] (calQ [] []) li_bOf 600 6) = B_bOf S K := by kernel_rfl
theorem u_bBind (S K) : VcF sh lsh_none S K [1, 4] (bbds k_bBind.args) k_bBind.res (k_bBind.tree (icOf [k_bins] (bcOf [k_bRight, k_bplace])) Tryd.prog [] (calQ [] [k_bright]) li_none 600 6) = B_bBind S K := by kernel_rfl
theorem u_bUnbind (S K) : VcF sh lsh_none S K [1, 4] (bbds k_bUnbind.args) k_bUnbind.res (k_bUnbind.tree (icOf [k_bdel] (bcOf [k_bRight, k_bplace])) Tryd.prog [] (calQ [] []) li_none 600 6) = B_bUnbind S K := by kernel_rfl
theorem u_balive (S K) : VcF sh lsh_none S K [] (bbds k_balive.args) k_balive.res (k_balive.tree (bcOf [k_bBind, k_bUnbind, k_bFind, k_bOf]) Tryd.prog [] (calQ [] []) li_none 600 6) = B_balive S K := by kernel_rfl
theorem u_lcounts (S K) : VcF sh lsh_lcounts S K [1, 1] (bbds k_lcounts.args) k_lcounts.res (k_lcounts.tree (bcOf [k_balive, k_bRight, k_bOf, k_bFind]) Tryd.prog [] (calQ [] []) li_lcounts 600 6) = B_lcounts S K := by kernel_rfl
end Go.Ad

set_option linter.unusedVariables false
set_option maxRecDepth 100000
namespace Go.Ad
open Go Go.Rx Go.Proofs
abbrev OC (wb : World) (k : Con) : Prop := k.OkF Tryd.prog wb (flatS sh SB k.id)
abbrev OQ (wb : World) (q : QCon) : Prop := q.Ok Tryd.prog wb (flatS sh SB q.c.id)
abbrev OB (wb : World) (k : BCon) : Prop := k.Ok Tryd.prog wb (flatS sh SB k.id)
abbrev OI (wb : World) (k : ICon) : Prop := k.Ok Tryd.prog wb (flatS sh SB k.id)
theorem mx : Tryd.prog.follows .mixedOrders = true := by kernel_rfl
theorem nil0 {α : Type} {p : α → Prop} : ∀ x ∈ ([] : List α), p x := fun _ h => by cases h
theorem cons0 {α : Type} {p : α → Prop} {a : α} {l : List α} (h : p a) (hl : ∀ x ∈ l, p x) : ∀ x ∈ a :: l, p x := fun x hx => by
  rcases List.mem_cons.1 hx with rfl | hx
  · exact h
  · exact hl x hx
theorem rv0 {a0 b0 : Int} (h0 : a0 = b0) : resVal [.int .i64 (-1) 9223372036854775807] [a0] = resVal [.int .i64 (-1) 9223372036854775807] [b0] := by
  show (.int .i64 a0 : Value) = (.int .i64 b0 : Value)
  rw [h0]
theorem rv1 {a0 b0 : Int} (h0 : sOf a0 = sOf b0) : resVal [.str] [a0] = resVal [.str] [b0] := by
  show (.string (bA (sOf a0)) : Value) = (.string (bA (sOf b0)) : Value)
  rw [h0]
theorem rv2 {a0 b0 : Int} (h0 : a0 = b0) : resVal [.bool] [a0] = resVal [.bool] [b0] := by
  show (.bool (decide (a0 = 1)) : Value) = (.bool (decide (b0 = 1)) : Value)
  rw [h0]
theorem rv3 {a0 a1 a2 b0 b1 b2 : Int} (h0 : sOf a0 = sOf b0) (h1 : sOf a1 = sOf b1) (h2 : a2 = b2) : resVal [.str, .str, .bool] [a0, a1, a2] = resVal [.str, .str, .bool] [b0, b1, b2] := by
  show (.tuple #[.string (bA (sOf a0)), .string (bA (sOf a1)), .bool (decide (a2 = 1))] : Value) = (.tuple #[.string (bA (sOf b0)), .string (bA (sOf b1)), .bool (decide (b2 = 1))] : Value)
  rw [h0, h1, h2]
theorem rv4 {a0 a1 a2 b0 b1 b2 : Int} (h0 : sOf a0 = sOf b0) (h1 : sOf a1 = sOf b1) (h2 : a2 = b2) : resVal [.mix [.str, .str], .bool] [a0, a1, a2] = resVal [.mix [.str, .str], .bool] [b0, b1, b2] := by
  show (.tuple #[.agg #[.string (bA (sOf a0)), .string (bA (sOf a1))], .bool (decide (a2 = 1))] : Value) = (.tuple #[.agg #[.string (bA (sOf b0)), .string (bA (sOf b1))], .bool (decide (b2 = 1))] : Value)
  rw [h0, h1, h2]
theorem rv5 {a0 a1 a2 b0 b1 b2 : Int} (h0 : sOf a0 = sOf b0) (h1 : a1 = b1) (h2 : a2 = b2) : resVal [.str, .bool, .bool] [a0, a1, a2] = resVal [.str, .bool, .bool] [b0, b1, b2] := by
  show (.tuple #[.string (bA (sOf a0)), .bool (decide (a1 = 1)), .bool (decide (a2 = 1))] : Value) = (.tuple #[.string (bA (sOf b0)), .bool (decide (b1 = 1)), .bool (decide (b2 = 1))] : Value)
  rw [h0, h1, h2]
theorem rv6 {a0 a1 b0 b1 : Int} (h0 : sOf a0 = sOf b0) (h1 : a1 = b1) : resVal [.str, .int .i64 0 21] [a0, a1] = resVal [.str, .int .i64 0 21] [b0, b1] := by
  show (.tuple #[.string (bA (sOf a0)), .int .i64 a1] : Value) = (.tuple #[.string (bA (sOf b0)), .int .i64 b1] : Value)
  rw [h0, h1]
theorem rv7 {a0 a1 a2 b0 b1 b2 : Int} (h0 : sOf a0 = sOf b0) (h1 : sOf a1 = sOf b1) (h2 : a2 = b2) : resVal [.mix [.str, .str], .int .i64 0 21] [a0, a1, a2] = resVal [.mix [.str, .str], .int .i64 0 21] [b0, b1, b2] := by
  show (.tuple #[.agg #[.string (bA (sOf a0)), .string (bA (sOf a1))], .int .i64 a2] : Value) = (.tuple #[.agg #[.string (bA (sOf b0)), .string (bA (sOf b1))], .int .i64 b2] : Value)
  rw [h0, h1, h2]
theorem rv8 {a0 b0 : Int} (h0 : a0 = b0) : resVal [.int .i64 (-1) 1] [a0] = resVal [.int .i64 (-1) 1] [b0] := by
  show (.int .i64 a0 : Value) = (.int .i64 b0 : Value)
  rw [h0]
theorem uv_tlb : OneV k_tlb.args k_tlb.res (flatS sh SB 36) := by
  intro zs rs rs' hz hr hr' h h'
  match zs, rs, rs', hz, hr, hr', h, h' with
  | [z0, z1], [a0], [b0], _, _, _, h, h' =>
    exact rv1 (Eq.trans h (Eq.symm h'))
theorem ok_tlb {wb : World} (hg : GOk [] ⟨wb, wb, fun _ => False, fun _ => False⟩)  : OC wb k_tlb := by
  refine Con.Ok.f (ok_vcb (SB := SB) (sh := sh) (c := k_tlb) (cal := (calQ [] [])) (li := li_tlb) (rounds := 600) (d := 6) (lsh := lsh_tlb) (lens := [1, 1]) mx (fun _ _ _ => calQ_ok nil0 nil0) hg (by kernel_rfl) uv_tlb rfl rfl ?_)
  rw [u_tlb]
  exact p_tlb
theorem uv_trb : OneV k_trb.args k_trb.res (flatS sh SB 37) := by
  intro zs rs rs' hz hr hr' h h'
  match zs, rs, rs', hz, hr, hr', h, h' with
  | [z0, z1], [a0], [b0], _, _, _, h, h' =>
    exact rv1 (Eq.trans h (Eq.symm h'))
theorem ok_trb {wb : World} (hg : GOk [] ⟨wb, wb, fun _ => False, fun _ => False⟩)  : OC wb k_trb := by
  refine Con.Ok.f (ok_vcb (SB := SB) (sh := sh) (c := k_trb) (cal := (calQ [] [])) (li := li_trb) (rounds := 600) (d := 6) (lsh := lsh_trb) (lens := [1, 1]) mx (fun _ _ _ => calQ_ok nil0 nil0) hg (by kernel_rfl) uv_trb rfl rfl ?_)
  rw [u_trb]
  exact p_trb
theorem uv_tsp : OneV k_tsp.args k_tsp.res (flatS sh SB 120) := by
  intro zs rs rs' hz hr hr' h h'
  match zs, rs, rs', hz, hr, hr', h, h' with
  | [z0], [a0], [b0], _, _, _, h, h' =>
    exact rv1 (Eq.trans h (Eq.symm h'))
theorem ok_tsp {wb : World} (hg : GOk [] ⟨wb, wb, fun _ => False, fun _ => False⟩) (h_tlb : OC wb k_tlb) (h_trb : OC wb k_trb) : OC wb k_tsp := by
  refine Con.Ok.f (ok_vcb (SB := SB) (sh := sh) (c := k_tsp) (cal := (calQ [] [k_tlb, k_trb])) (li := li_none) (rounds := 600) (d := 6) (lsh := lsh_none) (lens := [1]) mx (fun _ _ _ => calQ_ok nil0 (cons0 h_tlb (cons0 h_trb nil0))) hg (by kernel_rfl) uv_tsp rfl rfl ?_)
  rw [u_tsp]
  exact p_tsp
theorem uv_tdot : OneV k_tdot.args k_tdot.res (flatS sh SB 121) := by
  intro zs rs rs' hz hr hr' h h'
  match zs, rs, rs', hz, hr, hr', h, h' with
  | [z0], [a0], [b0], _, _, _, h, h' =>
    exact rv1 (Eq.trans h (Eq.symm h'))
theorem ok_tdot {wb : World} (hg : GOk [] ⟨wb, wb, fun _ => False, fun _ => False⟩) (h_tlb : OC wb k_tlb) (h_trb : OC wb k_trb) : OC wb k_tdot := by
  refine Con.Ok.f (ok_vcb (SB := SB) (sh := sh) (c := k_tdot) (cal := (calQ [] [k_tlb, k_trb])) (li := li_none) (rounds := 600) (d := 6) (lsh := lsh_none) (lens := [1]) mx (fun _ _ _ => calQ_ok nil0 (cons0 h_tlb (cons0 h_trb nil0))) hg (by kernel_rfl) uv_tdot rfl rfl ?_)
  rw [u_tdot]
  exact p_tdot
theorem uv_cdot : OneV k_cdot.args k_cdot.res (flatS sh SB 127) := by
  intro zs rs rs' hz hr hr' h h'
  match zs, rs, rs', hz, hr, hr', h, h' with
  | [z0], [a0], [b0], _, _, _, h, h' =>
    exact rv2 (Eq.trans h (Eq.symm h'))
theorem ok_cdot {wb : World} (hg : GOk [] ⟨wb, wb, fun _ => False, fun _ => False⟩) (h_ibs : OC wb k_ibs) : OC wb k_cdot := by
  refine Con.Ok.f (ok_vcb (SB := SB) (sh := sh) (c := k_cdot) (cal := (calQ [] [k_ibs])) (li := li_none) (rounds := 600) (d := 6) (lsh := lsh_none) (lens := [1]) mx (fun _ _ _ => calQ_ok nil0 (cons0 h_ibs nil0)) hg (by kernel_rfl) uv_cdot rfl rfl ?_)
  rw [u_cdot]
  exact p_cdot
theorem uv_tdm : OneV k_tdm.args k_tdm.res (flatS sh SB 122) := by
  intro zs rs rs' hz hr hr' h h'
  match zs, rs, rs', hz, hr, hr', h, h' with
  | [z0], [a0], [b0], _, _, _, h, h' =>
    exact rv1 (Eq.trans h (Eq.symm h'))
theorem ok_tdm {wb : World} (hg : GOk [] ⟨wb, wb, fun _ => False, fun _ => False⟩)  : OC wb k_tdm := by
  refine Con.Ok.f (ok_vcb (SB := SB) (sh := sh) (c := k_tdm) (cal := (calQ [] [])) (li := li_tdm) (rounds := 600) (d := 6) (lsh := lsh_tdm) (lens := [1]) mx (fun _ _ _ => calQ_ok nil0 nil0) hg (by kernel_rfl) uv_tdm rfl rfl ?_)
  rw [u_tdm]
  exact p_tdm
theorem uv_cutat : OneV k_cutat.args k_cutat.res (flatS sh SB 125) := by
  intro zs rs rs' hz hr hr' h h'
  match zs, rs, rs', hz, hr, hr', h, h' with
  | [z0], [a0, a1, a2], [b0, b1, b2], _, _, _, h, h' =>
    have e : (sOf a0, sOf a1, a2) = (sOf b0, sOf b1, b2) := Eq.trans h (Eq.symm h')
    simp only [Prod.mk.injEq] at e
    exact rv3 e.1 e.2.1 e.2.2
theorem ok_cutat {wb : World} (hg : GOk [] ⟨wb, wb, fun _ => False, fun _ => False⟩) (h_ibs : OC wb k_ibs) : OC wb k_cutat := by
  refine Con.Ok.f (ok_vcb (SB := SB) (sh := sh) (c := k_cutat) (cal := (calQ [] [k_ibs])) (li := li_none) (rounds := 600) (d := 6) (lsh := lsh_none) (lens := [1]) mx (fun _ _ _ => calQ_ok nil0 (cons0 h_ibs nil0)) hg (by kernel_rfl) uv_cutat rfl rfl ?_)
  rw [u_cutat]
  exact p_cutat
theorem uv_cutcol : OneV k_cutcol.args k_cutcol.res (flatS sh SB 126) := by
  intro zs rs rs' hz hr hr' h h'
  match zs, rs, rs', hz, hr, hr', h, h' with
  | [z0], [a0, a1, a2], [b0, b1, b2], _, _, _, h, h' =>
    have e : (sOf a0, sOf a1, a2) = (sOf b0, sOf b1, b2) := Eq.trans h (Eq.symm h')
    simp only [Prod.mk.injEq] at e
    exact rv3 e.1 e.2.1 e.2.2
theorem ok_cutcol {wb : World} (hg : GOk [] ⟨wb, wb, fun _ => False, fun _ => False⟩) (h_ibs : OC wb k_ibs) : OC wb k_cutcol := by
  refine Con.Ok.f (ok_vcb (SB := SB) (sh := sh) (c := k_cutcol) (cal := (calQ [] [k_ibs])) (li := li_none) (rounds := 600) (d := 6) (lsh := lsh_none) (lens := [1]) mx (fun _ _ _ => calQ_ok nil0 (cons0 h_ibs nil0)) hg (by kernel_rfl) uv_cutcol rfl rfl ?_)
  rw [u_cutcol]
  exact p_cutcol
theorem uv_only : OneV k_only.args k_only.res (flatS sh SB 44) := by
  intro zs rs rs' hz hr hr' h h'
  match zs, rs, rs', hz, hr, hr', h, h' with
  | [z0, z1], [a0], [b0], _, _, _, h, h' =>
    exact rv2 (Eq.trans h (Eq.symm h'))
theorem ok_only {wb : World} (hg : GOk [] ⟨wb, wb, fun _ => False, fun _ => False⟩) (h_ibs : OC wb k_ibs) : OC wb k_only := by
  refine Con.Ok.f (ok_vcb (SB := SB) (sh := sh) (c := k_only) (cal := (calQ [] [k_ibs])) (li := li_only) (rounds := 600) (d := 6) (lsh := lsh_only) (lens := [1, 1]) mx (fun _ _ _ => calQ_ok nil0 (cons0 h_ibs nil0)) hg (by kernel_rfl) uv_only rfl rfl ?_)
  rw [u_only]
  exact p_only
theorem uv_ionly : OneV k_ionly.args k_ionly.res (flatS sh SB 65) := by
  intro zs rs rs' hz hr hr' h h'
  match zs, rs, rs', hz, hr, hr', h, h' with
  | [z0, z1], [a0], [b0], _, _, _, h, h' =>
    exact rv2 (Eq.trans h (Eq.symm h'))
theorem ok_ionly {wb : World} (hg : GOk [] ⟨wb, wb, fun _ => False, fun _ => False⟩) (h_ibs : OC wb k_ibs) : OC wb k_ionly := by
  refine Con.Ok.f (ok_vcb (SB := SB) (sh := sh) (c := k_ionly) (cal := (calQ [] [k_ibs])) (li := li_ionly) (rounds := 600) (d := 6) (lsh := lsh_ionly) (lens := [1, 1]) mx (fun _ _ _ => calQ_ok nil0 (cons0 h_ibs nil0)) hg (by kernel_rfl) uv_ionly rfl rfl ?_)
  rw [u_ionly]
  exact p_ionly
theorem uv_low : OneV k_low.args k_low.res (flatS sh SB 28) := by
  intro zs rs rs' hz hr hr' h h'
  match zs, rs, rs', hz, hr, hr', h, h' with
  | [z0], [a0], [b0], _, _, _, h, h' =>
    exact rv1 (Eq.trans h (Eq.symm h'))
theorem ok_low {wb : World} (hg : GOk [] ⟨wb, wb, fun _ => False, fun _ => False⟩)  : OC wb k_low := by
  refine Con.Ok.f (ok_vcb (SB := SB) (sh := sh) (c := k_low) (cal := (calQ [] [])) (li := li_low) (rounds := 600) (d := 6) (lsh := lsh_low) (lens := [1]) mx (fun _ _ _ => calQ_ok nil0 nil0) hg (by kernel_rfl) uv_low rfl rfl ?_)
  rw [u_low]
  exact p_low
theorem uv_thost : OneV k_thost.args k_thost.res (flatS sh SB 123) := by
  intro zs rs rs' hz hr hr' h h'
  match zs, rs, rs', hz, hr, hr', h, h' with
  | [z0], [a0], [b0], _, _, _, h, h' =>
    exact rv1 (Eq.trans h (Eq.symm h'))
theorem ok_thost {wb : World} (hg : GOk [] ⟨wb, wb, fun _ => False, fun _ => False⟩)  : OC wb k_thost := by
  refine Con.Ok.f (ok_vcb (SB := SB) (sh := sh) (c := k_thost) (cal := (calQ [] [])) (li := li_thost) (rounds := 600) (d := 6) (lsh := lsh_thost) (lens := [1]) mx (fun _ _ _ => calQ_ok nil0 nil0) hg (by kernel_rfl) uv_thost rfl rfl ?_)
  rw [u_thost]
  exact p_thost
theorem uv_tdig : OneV k_tdig.args k_tdig.res (flatS sh SB 124) := by
  intro zs rs rs' hz hr hr' h h'
  match zs, rs, rs', hz, hr, hr', h, h' with
  | [z0], [a0], [b0], _, _, _, h, h' =>
    exact rv1 (Eq.trans h (Eq.symm h'))
theorem ok_tdig {wb : World} (hg : GOk [] ⟨wb, wb, fun _ => False, fun _ => False⟩)  : OC wb k_tdig := by
  refine Con.Ok.f (ok_vcb (SB := SB) (sh := sh) (c := k_tdig) (cal := (calQ [] [])) (li := li_tdig) (rounds := 600) (d := 6) (lsh := lsh_tdig) (lens := [1]) mx (fun _ _ _ => calQ_ok nil0 nil0) hg (by kernel_rfl) uv_tdig rfl rfl ?_)
  rw [u_tdig]
  exact p_tdig
theorem uv_host : OneV k_host.args k_host.res (flatS sh SB 47) := by
  intro zs rs rs' hz hr hr' h h'
  match zs, rs, rs', hz, hr, hr', h, h' with
  | [z0], [a0], [b0], _, _, _, h, h' =>
    exact rv2 (Eq.trans h (Eq.symm h'))
theorem ok_host {wb : World} (hg : GOk [] ⟨wb, wb, fun _ => False, fun _ => False⟩) (h_cdd : OQ wb q_cdd) (h_thost : OC wb k_thost) (h_tdm : OC wb k_tdm) (h_ionly : OC wb k_ionly) : OC wb k_host := by
  refine Con.Ok.f (ok_vcb (SB := SB) (sh := sh) (c := k_host) (cal := (calQ [q_cdd] [k_thost, k_tdm, k_ionly])) (li := li_none) (rounds := 600) (d := 6) (lsh := lsh_none) (lens := [1]) mx (fun _ _ _ => calQ_ok (cons0 h_cdd nil0) (cons0 h_thost (cons0 h_tdm (cons0 h_ionly nil0)))) hg (by kernel_rfl) uv_host rfl rfl ?_)
  rw [u_host]
  exact p_host
theorem uv_server : OneV k_server.args k_server.res (flatS sh SB 27) := by
  intro zs rs rs' hz hr hr' h h'
  match zs, rs, rs', hz, hr, hr', h, h' with
  | [z0], [a0], [b0], _, _, _, h, h' =>
    exact rv2 (Eq.trans h (Eq.symm h'))
theorem ok_server {wb : World} (hg : GOk [] ⟨wb, wb, fun _ => False, fun _ => False⟩) (h_cutcol : OC wb k_cutcol) (h_host : OC wb k_host) (h_tdig : OC wb k_tdig) (h_ionly : OC wb k_ionly) : OC wb k_server := by
  refine Con.Ok.f (ok_vcb (SB := SB) (sh := sh) (c := k_server) (cal := (calQ [] [k_cutcol, k_host, k_tdig, k_ionly])) (li := li_none) (rounds := 600) (d := 6) (lsh := lsh_none) (lens := [1]) mx (fun _ _ _ => calQ_ok nil0 (cons0 h_cutcol (cons0 h_host (cons0 h_tdig (cons0 h_ionly nil0))))) hg (by kernel_rfl) uv_server rfl rfl ?_)
  rw [u_server]
  exact p_server
theorem uv_local : OneV k_local.args k_local.res (flatS sh SB 24) := by
  intro zs rs rs' hz hr hr' h h'
  match zs, rs, rs', hz, hr, hr', h, h' with
  | [z0], [a0], [b0], _, _, _, h, h' =>
    exact rv2 (Eq.trans h (Eq.symm h'))
theorem ok_local {wb : World} (hg : GOk [] ⟨wb, wb, fun _ => False, fun _ => False⟩) (h_cdd : OQ wb q_cdd) (h_only : OC wb k_only) (h_tdot : OC wb k_tdot) : OC wb k_local := by
  refine Con.Ok.f (ok_vcb (SB := SB) (sh := sh) (c := k_local) (cal := (calQ [q_cdd] [k_only, k_tdot])) (li := li_none) (rounds := 600) (d := 6) (lsh := lsh_none) (lens := [1]) mx (fun _ _ _ => calQ_ok (cons0 h_cdd nil0) (cons0 h_only (cons0 h_tdot nil0))) hg (by kernel_rfl) uv_local rfl rfl ?_)
  rw [u_local]
  exact p_local
theorem uv_tpre : OneV k_tpre.args k_tpre.res (flatS sh SB 34) := by
  intro zs rs rs' hz hr hr' h h'
  match zs, rs, rs', hz, hr, hr', h, h' with
  | [z0, z1], [a0], [b0], _, _, _, h, h' =>
    exact rv1 (Eq.trans h (Eq.symm h'))
theorem ok_tpre {wb : World} (hg : GOk [] ⟨wb, wb, fun _ => False, fun _ => False⟩)  : OC wb k_tpre := by
  refine Con.Ok.f (ok_vcb (SB := SB) (sh := sh) (c := k_tpre) (cal := (calQ [] [])) (li := li_none) (rounds := 600) (d := 6) (lsh := lsh_none) (lens := [1, 1]) mx (fun _ _ _ => calQ_ok nil0 nil0) hg (by kernel_rfl) uv_tpre rfl rfl ?_)
  rw [u_tpre]
  exact p_tpre
theorem uv_email : OneV k_email.args k_email.res (flatS sh SB 10) := by
  intro zs rs rs' hz hr hr' h h'
  match zs, rs, rs', hz, hr, hr', h, h' with
  | [z0], [a0, a1], [b0, b1], _, _, _, h, h' =>
    have e : (sOf a0, a1) = (sOf b0, b1) := Eq.trans h (Eq.symm h')
    simp only [Prod.mk.injEq] at e
    exact rv6 e.1 e.2
theorem ok_email {wb : World} (hg : GOk [] ⟨wb, wb, fun _ => False, fun _ => False⟩) (h_tsp : OC wb k_tsp) (h_cutat : OC wb k_cutat) (h_local : OC wb k_local) (h_cdot : OC wb k_cdot) (h_server : OC wb k_server) (h_low : OC wb k_low) (h_ibs : OC wb k_ibs) : OC wb k_email := by
  refine Con.Ok.f (ok_vcb (SB := SB) (sh := sh) (c := k_email) (cal := (calQ [] [k_tsp, k_cutat, k_local, k_cdot, k_server, k_low, k_ibs])) (li := li_none) (rounds := 600) (d := 6) (lsh := lsh_none) (lens := [1]) mx (fun _ _ _ => calQ_ok nil0 (cons0 h_tsp (cons0 h_cutat (cons0 h_local (cons0 h_cdot (cons0 h_server (cons0 h_low (cons0 h_ibs nil0)))))))) hg (by kernel_rfl) uv_email rfl rfl ?_)
  rw [u_email]
  exact p_email
theorem uv_phone : OneV k_phone.args k_phone.res (flatS sh SB 12) := by
  intro zs rs rs' hz hr hr' h h'
  match zs, rs, rs', hz, hr, hr', h, h' with
  | [z0, z1], [a0, a1], [b0, b1], _, _, _, h, h' =>
    have e : (sOf a0, a1) = (sOf b0, b1) := Eq.trans h (Eq.symm h')
    simp only [Prod.mk.injEq] at e
    exact rv6 e.1 e.2
theorem ok_phone {wb : World} (hg : GOk [] ⟨wb, wb, fun _ => False, fun _ => False⟩) (h_country : OC wb k_country) (h_bare : OC wb k_bare) (h_tpre : OC wb k_tpre) : OQ wb q_phone := by
  refine qok_vcb (SB := SB) (sh := sh) (q := q_phone) (cal := (calQ [] [k_country, k_bare, k_tpre])) (li := li_none) (rounds := 600) (d := 6) (lsh := lsh_none) (lens := [1, 1]) mx (fun _ _ _ => calQ_ok nil0 (cons0 h_country (cons0 h_bare (cons0 h_tpre nil0)))) hg (by kernel_rfl) uv_phone rfl rfl ?_
  rw [show q_phone.c = k_phone from rfl, u_phone]
  exact p_phone
theorem uv_make : OneV k_make.args k_make.res (flatS sh SB 15) := by
  intro zs rs rs' hz hr hr' h h'
  match zs, rs, rs', hz, hr, hr', h, h' with
  | [z0, z1], [a0, a1, a2], [b0, b1, b2], _, _, _, h, h' =>
    have e : (sOf a0, sOf a1, a2) = (sOf b0, sOf b1, b2) := Eq.trans h (Eq.symm h')
    simp only [Prod.mk.injEq] at e
    exact rv7 e.1 e.2.1 e.2.2
theorem ok_make {wb : World} (hg : GOk [] ⟨wb, wb, fun _ => False, fun _ => False⟩) (h_phone : OQ wb q_phone) (h_email : OC wb k_email) : OC wb k_make := by
  refine Con.Ok.f (ok_vcb (SB := SB) (sh := sh) (c := k_make) (cal := (calQ [q_phone] [k_email])) (li := li_none) (rounds := 600) (d := 6) (lsh := lsh_none) (lens := [1, 1]) mx (fun _ _ _ => calQ_ok (cons0 h_phone nil0) (cons0 h_email nil0)) hg (by kernel_rfl) uv_make rfl rfl ?_)
  rw [u_make]
  exact p_make
theorem uv_right : OneV k_right.args k_right.res (flatS sh SB 16) := by
  intro zs rs rs' hz hr hr' h h'
  match zs, rs, rs', hz, hr, hr', h, h' with
  | [z0, z1], [a0], [b0], _, _, _, h, h' =>
    exact rv2 (Eq.trans h (Eq.symm h'))
theorem ok_right {wb : World} (hg : GOk [] ⟨wb, wb, fun _ => False, fun _ => False⟩) (h_make : OC wb k_make) : OC wb k_right := by
  refine Con.Ok.f (ok_vcb (SB := SB) (sh := sh) (c := k_right) (cal := (calQ [] [k_make])) (li := li_none) (rounds := 600) (d := 6) (lsh := lsh_none) (lens := [2]) mx (fun _ _ _ => calQ_ok nil0 (cons0 h_make nil0)) hg (by kernel_rfl) uv_right rfl rfl ?_)
  rw [u_right]
  exact p_right
theorem uv_less : OneV k_less.args k_less.res (flatS sh SB 14) := by
  intro zs rs rs' hz hr hr' h h'
  match zs, rs, rs', hz, hr, hr', h, h' with
  | [z0, z1, z2, z3], [a0], [b0], _, _, _, h, h' =>
    exact rv2 (Eq.trans h (Eq.symm h'))
theorem ok_less {wb : World} (hg : GOk [] ⟨wb, wb, fun _ => False, fun _ => False⟩)  : OC wb k_less := by
  refine Con.Ok.f (ok_vcb (SB := SB) (sh := sh) (c := k_less) (cal := (calQ [] [])) (li := li_none) (rounds := 600) (d := 6) (lsh := lsh_none) (lens := [2, 2]) mx (fun _ _ _ => calQ_ok nil0 nil0) hg (by kernel_rfl) uv_less rfl rfl ?_)
  rw [u_less]
  exact p_less
theorem uv_tus : OneV k_tus.args k_tus.res (flatS sh SB 202) := by
  intro zs rs rs' hz hr hr' h h'
  match zs, rs, rs', hz, hr, hr', h, h' with
  | [z0], [a0], [b0], _, _, _, h, h' =>
    exact rv1 (Eq.trans h (Eq.symm h'))
theorem ok_tus {wb : World} (hg : GOk [] ⟨wb, wb, fun _ => False, fun _ => False⟩)  : OC wb k_tus := by
  refine Con.Ok.f (ok_vcb (SB := SB) (sh := sh) (c := k_tus) (cal := (calQ [] [])) (li := li_tus) (rounds := 600) (d := 6) (lsh := lsh_tus) (lens := [1]) mx (fun _ _ _ => calQ_ok nil0 nil0) hg (by kernel_rfl) uv_tus rfl rfl ?_)
  rw [u_tus]
  exact p_tus
theorem uv_user : OneV k_user.args k_user.res (flatS sh SB 200) := by
  intro zs rs rs' hz hr hr' h h'
  match zs, rs, rs', hz, hr, hr', h, h' with
  | [z0], [a0], [b0], _, _, _, h, h' =>
    exact rv2 (Eq.trans h (Eq.symm h'))
theorem ok_user {wb : World} (hg : GOk [] ⟨wb, wb, fun _ => False, fun _ => False⟩) (h_cutcol : OC wb k_cutcol) (h_tus : OC wb k_tus) (h_ionly : OC wb k_ionly) (h_server : OC wb k_server) : OC wb k_user := by
  refine Con.Ok.f (ok_vcb (SB := SB) (sh := sh) (c := k_user) (cal := (calQ [] [k_cutcol, k_tus, k_ionly, k_server])) (li := li_none) (rounds := 600) (d := 6) (lsh := lsh_none) (lens := [1]) mx (fun _ _ _ => calQ_ok nil0 (cons0 h_cutcol (cons0 h_tus (cons0 h_ionly (cons0 h_server nil0))))) hg (by kernel_rfl) uv_user rfl rfl ?_)
  rw [u_user]
  exact p_user
theorem uv_bright : OneV k_bright.args k_bright.res (flatS sh SB 300) := by
  intro zs rs rs' hz hr hr' h h'
  match zs, rs, rs', hz, hr, hr', h, h' with
  | [z0, z1, z2, z3], [a0], [b0], _, _, _, h, h' =>
    exact rv2 (Eq.trans h (Eq.symm h'))
theorem ok_bright {wb : World} (hg : GOk [] ⟨wb, wb, fun _ => False, fun _ => False⟩) (h_right : OC wb k_right) (h_user : OC wb k_user) : OC wb k_bright := by
  refine Con.Ok.f (ok_vcb (SB := SB) (sh := sh) (c := k_bright) (cal := (calQ [] [k_right, k_user])) (li := li_none) (rounds := 600) (d := 6) (lsh := lsh_none) (lens := [4]) mx (fun _ _ _ => calQ_ok nil0 (cons0 h_right (cons0 h_user nil0))) hg (by kernel_rfl) uv_bright rfl rfl ?_)
  rw [u_bright]
  exact p_bright
theorem uv_bcmp : OneV k_bcmp.args k_bcmp.res (flatS sh SB 301) := by
  intro zs rs rs' hz hr hr' h h'
  match zs, rs, rs', hz, hr, hr', h, h' with
  | [z0, z1, z2, z3, z4, z5], [a0], [b0], _, _, _, h, h' =>
    exact rv8 (Eq.trans h (Eq.symm h'))
theorem ok_bcmp {wb : World} (hg : GOk [] ⟨wb, wb, fun _ => False, fun _ => False⟩) (h_less : OC wb k_less) : OC wb k_bcmp := by
  refine Con.Ok.f (ok_vcb (SB := SB) (sh := sh) (c := k_bcmp) (cal := (calQ [] [k_less])) (li := li_none) (rounds := 600) (d := 6) (lsh := lsh_none) (lens := [4, 2]) mx (fun _ _ _ => calQ_ok nil0 (cons0 h_less nil0)) hg (by kernel_rfl) uv_bcmp rfl rfl ?_)
  rw [u_bcmp]
  exact p_bcmp
theorem ok_bplace {wb : World} (hg : GOk [] ⟨wb, wb, fun _ => False, fun _ => False⟩) (h_bcmp : OC wb k_bcmp) : OB wb k_bplace := by
  refine bok_vcf (SB := SB) (sh := sh) (c := k_bplace) (bcs := []) (cal := (calQ [] [k_bcmp])) (li := li_bplace) (rounds := 600) (d := 6) (lsh := lsh_bplace) (lens := [1, 2]) mx (fun _ _ _ => calQ_ok nil0 (cons0 h_bcmp nil0)) hg nil0 (by kernel_rfl) rfl rfl ?_
  rw [u_bplace]
  exact p_bplace
theorem ok_bRight {wb : World} (hg : GOk [] ⟨wb, wb, fun _ => False, fun _ => False⟩) (h_bright : OC wb k_bright) (h_bcmp : OC wb k_bcmp) : OB wb k_bRight := by
  refine bok_vcf (SB := SB) (sh := sh) (c := k_bRight) (bcs := []) (cal := (calQ [] [k_bright, k_bcmp])) (li := li_bRight) (rounds := 600) (d := 6) (lsh := lsh_bRight) (lens := [1]) mx (fun _ _ _ => calQ_ok nil0 (cons0 h_bright (cons0 h_bcmp nil0))) hg nil0 (by kernel_rfl) rfl rfl ?_
  rw [u_bRight]
  exact p_bRight
theorem ok_bFind {wb : World} (hg : GOk [] ⟨wb, wb, fun _ => False, fun _ => False⟩) (h_bRight : OB wb k_bRight) (h_bplace : OB wb k_bplace) : OB wb k_bFind := by
  refine bok_vcf (SB := SB) (sh := sh) (c := k_bFind) (bcs := [k_bRight, k_bplace]) (cal := (calQ [] [])) (li := li_none) (rounds := 600) (d := 6) (lsh := lsh_none) (lens := [1, 2]) mx (fun _ _ _ => calQ_ok nil0 nil0) hg (cons0 h_bRight (cons0 h_bplace nil0)) (by kernel_rfl) rfl rfl ?_
  rw [u_bFind]
  exact p_bFind
theorem ok_bOf {wb : World} (hg : GOk [] ⟨wb, wb, fun _ => False, fun _ => False⟩) (h_bRight : OB wb k_bRight) : OB wb k_bOf := by
  refine bok_vcf (SB := SB) (sh := sh) (c := k_bOf) (bcs := [k_bRight]) (cal := (calQ [] [])) (li := li_bOf) (rounds := 600) (d := 6) (lsh := lsh_bOf) (lens := [1, 1]) mx (fun _ _ _ => calQ_ok nil0 nil0) hg (cons0 h_bRight nil0) (by kernel_rfl) rfl rfl ?_
  rw [u_bOf]
  exact p_bOf
theorem ok_bBind {wb : World} (hg : GOk [] ⟨wb, wb, fun _ => False, fun _ => False⟩) (h_bright : OC wb k_bright) (h_bRight : OB wb k_bRight) (h_bplace : OB wb k_bplace) (h_bins : OI wb k_bins) : OB wb k_bBind := by
  refine bok_bc (SB := SB) (sh := sh) (c := k_bBind) (bc := (icOf [k_bins] (bcOf [k_bRight, k_bplace]))) (cal := (calQ [] [k_bright])) (li := li_none) (rounds := 600) (d := 6) (lsh := lsh_none) (lens := [1, 4]) mx (fun _ _ _ => calQ_ok nil0 (cons0 h_bright nil0)) hg (fun _ _ _ => icOf_ok (bcOf_ok (cons0 h_bRight (cons0 h_bplace nil0))) (cons0 h_bins nil0)) (by kernel_rfl) rfl rfl ?_
  rw [u_bBind]
  exact p_bBind
theorem ok_bUnbind {wb : World} (hg : GOk [] ⟨wb, wb, fun _ => False, fun _ => False⟩) (h_bRight : OB wb k_bRight) (h_bplace : OB wb k_bplace) (h_bdel : OI wb k_bdel) : OB wb k_bUnbind := by
  refine bok_bc (SB := SB) (sh := sh) (c := k_bUnbind) (bc := (icOf [k_bdel] (bcOf [k_bRight, k_bplace]))) (cal := (calQ [] [])) (li := li_none) (rounds := 600) (d := 6) (lsh := lsh_none) (lens := [1, 4]) mx (fun _ _ _ => calQ_ok nil0 nil0) hg (fun _ _ _ => icOf_ok (bcOf_ok (cons0 h_bRight (cons0 h_bplace nil0))) (cons0 h_bdel nil0)) (by kernel_rfl) rfl rfl ?_
  rw [u_bUnbind]
  exact p_bUnbind
theorem ok_balive {wb : World} (hg : GOk [] ⟨wb, wb, fun _ => False, fun _ => False⟩) (h_bBind : OB wb k_bBind) (h_bUnbind : OB wb k_bUnbind) (h_bFind : OB wb k_bFind) (h_bOf : OB wb k_bOf) : OB wb k_balive := by
  refine bok_vcf (SB := SB) (sh := sh) (c := k_balive) (bcs := [k_bBind, k_bUnbind, k_bFind, k_bOf]) (cal := (calQ [] [])) (li := li_none) (rounds := 600) (d := 6) (lsh := lsh_none) (lens := []) mx (fun _ _ _ => calQ_ok nil0 nil0) hg (cons0 h_bBind (cons0 h_bUnbind (cons0 h_bFind (cons0 h_bOf nil0)))) (by kernel_rfl) rfl rfl ?_
  rw [u_balive]
  exact p_balive
theorem ok_lcounts {wb : World} (hg : GOk [] ⟨wb, wb, fun _ => False, fun _ => False⟩) (h_balive : OB wb k_balive) (h_bRight : OB wb k_bRight) (h_bOf : OB wb k_bOf) (h_bFind : OB wb k_bFind) : OB wb k_lcounts := by
  refine bok_vcf (SB := SB) (sh := sh) (c := k_lcounts) (bcs := [k_balive, k_bRight, k_bOf, k_bFind]) (cal := (calQ [] [])) (li := li_lcounts) (rounds := 600) (d := 6) (lsh := lsh_lcounts) (lens := [1, 1]) mx (fun _ _ _ => calQ_ok nil0 nil0) hg (cons0 h_balive (cons0 h_bRight (cons0 h_bOf (cons0 h_bFind nil0)))) (by kernel_rfl) rfl rfl ?_
  rw [u_lcounts]
  exact p_lcounts
end Go.Ad

/- The address seat: contracts of the library that this seat lays, . -/
set_option linter.unusedVariables false
namespace Go.Proofs
open Go.Shelf Go.RowKit
shelf_lay Lays.n137 Nm 137 at Tryd as Tryd.lays137
theorem Tryd.strings_IndexByte (s : ByteArray) (c : Int) (w : World) :
    Calls Tryd.prog 60 #[.string s, .int .u8 c] w fun e w' => e = .returned (.int .i64 (Lib.indexByte s.data.toList c.toNat.toUInt8)) ∧ w' = w := Any.strings_IndexByte Tryd.lays137 s c w
shelf_lay Lays.n144 Nm 144 at Tryd as Tryd.lays144
theorem Tryd.strings_Contains (s sub : ByteArray) (m : Int) (w : World) (hs : s.size < 4294967281) (hm : w.cell? ⟨0, 0, none⟩ = some (.int .i64 m)) :
    Calls Tryd.prog 39 #[.string s, .string sub] w fun e w' => e = .returned (.bool (Lib.contains s.data.toList sub.data.toList)) ∧ w' = w := Any.strings_Contains Tryd.lays144 s sub m w hs hm
end Go.Proofs

/- The address seat: contracts of the library that this seat lays, and strings.Builder's WriteByte by a walk of its own. -/
set_option linter.unusedVariables false
namespace Go.Proofs
open Go.Shelf Go.RowKit
shelf_lay Lays.n169 Nm 169 at Tryd as Tryd.lays169
theorem Tryd.Builder_Extra_169 : Builder.Extra Tryd.prog Tryd.lays169_ren where
  sizeBuilder := by kernel_rfl
  liesBuilder := by kernel_rfl
  t5 := Tryd.underlying5
  a5 := Tryd.isAgg5
  z5 := Tryd.sizeOf5
  v5 := Tryd.zeroValue5
  infoByte := by kernel_rfl
  cellsByte := by kernel_rfl
  sizeByte := by kernel_rfl
  neB5 := by decide
theorem Tryd.Builder_String_any (B b : Nat) (l : List UInt8) (w : World) (h : Lib.IsBuilder 92 5 B b (Lib.byteCells l) w) (hBw : B ≤ w.heap.size) :
    Calls Tryd.prog 61 #[.pointer (some ⟨b, 0, none⟩)] w fun e w' => e = .returned (.string ⟨l.toArray⟩) ∧ Below B w w' := Any.Builder_String_any Tryd.lays169 Tryd.Builder_Extra_169 B b l w h hBw
shelf_lay Lays.n170 Nm 170 at Tryd as Tryd.lays170
theorem Tryd.Builder_Len (B b : Nat) (bs : List Value) (w : World) (h : Lib.IsBuilder 92 5 B b bs w) :
    Calls Tryd.prog 59 #[.pointer (some ⟨b, 0, none⟩)] w fun e w' => e = .returned (.int .i64 bs.length) ∧ w' = w := Any.Builder_Len Tryd.lays170 B b bs w h
set_option maxHeartbeats 1000000 in
set_option maxRecDepth 100000 in
theorem Tryd.Builder_copyCheck_used (b : Nat) (w : World) (h0 : w.cell? ⟨b, 0, none⟩ = some (.pointer (some ⟨b, 0, none⟩))) :
    Calls Tryd.prog 70 #[.pointer (some ⟨b, 0, none⟩)] w fun e w' => e = .returned (.tuple #[]) ∧ w' = w := by
  obtain ⟨j, hj, _⟩ := Option.map_eq_some_iff.1 Tryd.Builder_Extra_169.toX72.sizeBuilder
  go_enter Tryd.func70, Tryd.ntmps70
  go_wp2
  rw [Lib.run_neq_ptr_same w _ Tryd.underlying90 hj]
  go_wp2
  go_end0
  exact ⟨rfl, rfl⟩
set_option maxHeartbeats 1000000 in
set_option maxRecDepth 100000 in
theorem Tryd.Builder_copyCheck_fresh (b : Nat) (w : World) (h0 : w.cell? ⟨b, 0, none⟩ = some (.pointer none)) (hsh : w.shape? b = some (92, 2)) (hfz : w.frozen? ⟨b, 0, none⟩ = false) :
    Calls Tryd.prog 70 #[.pointer (some ⟨b, 0, none⟩)] w fun e w' => e = .returned (.tuple #[]) ∧ w' = w.setCell ⟨b, 0, none⟩ (.pointer (some ⟨b, 0, none⟩)) := by
  have X := Tryd.Builder_Extra_169.toX72
  obtain ⟨j, hj, hjs⟩ := Option.map_eq_some_iff.1 X.sizeBuilder
  go_enter Tryd.func70, Tryd.ntmps70
  go_wp2
  rw [Lib.run_to_unsafe w ⟨b, 0, none⟩ Tryd.underlying90 Tryd.underlying105 hj (by rw [hjs]; decide) hsh (Nat.zero_lt_succ 1)]
  simp only [Result.andThen]
  rw [Oper.upon_value]
  go_wp2
  rw [run_callFunc_extern Tryd.func75 (by kernel_rfl) (by kernel_rfl) (by kernel_rfl) (e := Extern.AbiNoEscape.same) (by kernel_rfl)]
  rw [Lib.run_noEscape]
  simp only [Result.andThen]
  rw [Oper.upon_value]
  go_wp2
  rw [Lib.run_from_unsafe w ⟨b, 0, none⟩ Tryd.underlying105 Tryd.underlying90 hj hsh X.liesBuilder]
  simp only [Result.andThen]
  rw [Oper.upon_value]
  go_wp2
  go_end0
  exact ⟨rfl, rfl⟩
theorem Tryd.Builder_copyCheck (B b : Nat) (bs : List Value) (w : World) (h : Lib.IsBuilder 92 5 B b bs w) :
    Calls Tryd.prog 70 #[.pointer (some ⟨b, 0, none⟩)] w fun e w' => e = .returned (.tuple #[]) ∧ (Lib.BuilderAt 92 5 B b (.pointer (some ⟨b, 0, none⟩)) bs w' ∧ Below B w w') := by
  rcases h with h | h
  · refine (Tryd.Builder_copyCheck_fresh b w h.cell0 h.shape h.frozen0).mono ?_
    rintro e w' ⟨rfl, rfl⟩
    exact ⟨rfl, h.used _, (Below.refl B w).setCell (p := ⟨b, 0, none⟩) h.1 _⟩
  · refine (Tryd.Builder_copyCheck_used b w h.cell0).mono ?_
    rintro e w' ⟨rfl, rfl⟩
    exact ⟨rfl, h, Below.refl B _⟩
set_option maxHeartbeats 2000000 in
set_option maxRecDepth 100000 in
theorem Tryd.Builder_WriteByte (B b : Nat) (bs : List Value) (c : Int) (w : World) (h : Lib.IsBuilder 92 5 B b bs w) (hlen : bs.length + 1 ≤ 140737488355328) (hBw : B ≤ w.heap.size) :
    Calls Tryd.prog 58 #[.pointer (some ⟨b, 0, none⟩), .int .u8 c] w fun e w' => e = .returned .nilIface ∧ (Lib.BuilderAt 92 5 B b (.pointer (some ⟨b, 0, none⟩)) (bs ++ [.int .u8 c]) w' ∧ Below B w w') := by
  have X := Tryd.Builder_Extra_169
  obtain ⟨i0, hi, hz0, hz1, hz2⟩ := info_parts X.infoByte
  go_enter Tryd.func58, Tryd.ntmps58
  go_wp2_with (go_at_call 70; refine (Tryd.Builder_copyCheck B b bs _ h).mono ?_)
  rintro e w1 ⟨rfl, h1, hb1⟩
  obtain ⟨hB, v, hbk, hown, hne⟩ := h1
  have c0 : w1.cell? ⟨b, 0, none⟩ = some (.pointer (some ⟨b, 0, none⟩)) := by rw [Lib.cell_of_heap hbk]; rfl
  have c1 : w1.cell? ⟨b, 1, none⟩ = some v := by rw [Lib.cell_of_heap hbk]; rfl
  go_wp2_with (at_builtin; refine wpList_append_own _ rfl _ _ 88 rfl B 5 i0 (.int .u8 0) 1 1 Tryd.underlying88 hi hz0 hz1 hz2 rfl (by decide) _ _ _ rfl (hown.alloc _) ⟨w1.heap.size, 0, none⟩ 1 1 [.int .u8 c] rfl rfl ?c1 ?c2 ?c3 ?c4 ?c5 ?_)
  case c1 =>
    intro j u hj
    match j, hj with
    | 0, hj => simp at hj; subst hj; simp [Addr.add]
  case c2 => intro u hu; simp at hu; subst hu; rfl
  case c3 => unfold maxLen; omega
  case c4 => omega
  case c5 => have := hb1.size; simp; omega
  intro v' w2 hown' hgrow _
  have hlt : b < w1.heap.size := by
    rcases Nat.lt_or_ge b w1.heap.size with h' | h'
    · exact h'
    · simp [Array.getElem?_eq_none h'] at hbk
  have hb2 : w2.heap[b]? = some (.cells #[.pointer (some ⟨b, 0, none⟩), v] 92 (0, 0)) := by
    rw [hgrow.block b (by simp; omega) (fun e => hne e.symm), Lib.alloc_old w1 _ b hlt]
    exact hbk
  have d0 : w2.cell? ⟨b, 0, none⟩ = some (.pointer (some ⟨b, 0, none⟩)) := by rw [Lib.cell_of_heap hb2]; rfl
  have d1 : w2.cell? ⟨b, 1, none⟩ = some v := by rw [Lib.cell_of_heap hb2]; rfl
  have f1 : w2.frozen? ⟨b, 1, none⟩ = false := Lib.frozen_of_heap hb2 1
  obtain ⟨g, cap, rfl⟩ : ∃ g cap, v' = .slice (some ⟨g, 0, none⟩) (bs.length + 1) cap := by
    rcases hown'.2 with ⟨_, h0⟩ | ⟨g, cap, cur, hv, _⟩
    · omega
    · exact ⟨g, cap, hv⟩
  go_wp2
  go_ret
  refine ⟨rfl, ?_, ?_⟩
  · exact Lib.BuilderAt.put (T := 92) (e := 5) hB hb2 (bs' := bs ++ [.int .u8 c]) (by simpa using hown') X.neB5
  · exact ((hb1.alloc (by have := hb1.size; omega) _).grown hgrow (by have := hb1.size; simp; omega) (fun k hk => (hown.lt k hk).1)).setCell (p := ⟨b, 1, none⟩) hB _
end Go.Proofs

/- Contracts that come from walks. -/
set_option linter.unusedVariables false
set_option maxRecDepth 100000
namespace Go.Ad
open Go Go.Rx Go.Proofs Go.RowKit
theorem ext_of {w w' : World} (h : Below w.heap.size w w') : w.Extends w' :=
  ⟨h.os, h.tape, h.output, h.size, fun a ha => by unfold World.cell?; rw [h.block a.block ha], fun a ha => by unfold World.frozen?; rw [h.block a.block ha], h.block⟩
theorem ok_ibs {wb : World} : OC wb k_ibs := by
  intro zs hz
  obtain ⟨rs, h1, h2, h3⟩ := ibs_ok (wb := wb) (f := 76) (id := 73) Tryd.func76 (by kernel_rfl) (by kernel_rfl) (by kernel_rfl) (by kernel_rfl) zs hz
  match zs, hz with
  | [s, c], hz =>
    refine ⟨rs, h1, ?_, h3⟩
    subst h2
    rfl
theorem dd_cons (b : UInt8) (l : Tx) : dd (b :: l) = ((b == 46 && l.getD 0 0 == 46) || dd l) := by
  unfold dd
  rw [List.length_cons, List.range_succ_eq_map, List.any_cons, List.any_map]
  rfl
theorem dd_index : ∀ l : Tx, Lib.contains l [46, 46] = dd l
  | [] => rfl
  | b :: l => by
    have ih := dd_index l
    unfold Lib.contains at ih ⊢
    rw [dd_cons, ← ih]
    have sym : ∀ x : UInt8, ((46 : UInt8) == x) = (x == 46) := fun x => by rw [Bool.eq_iff_iff, beq_iff_eq, beq_iff_eq]; exact eq_comm
    have hp : ([46, 46] : Tx).isPrefixOf (b :: l) = (b == 46 && l.getD 0 0 == 46) := by
      cases l with
      | nil =>
        show ((46 : UInt8) == b && false) = (b == 46 && ((0 : UInt8) == 46))
        rw [sym]; rfl
      | cons c r =>
        show ((46 : UInt8) == b && ((46 : UInt8) == c && true)) = (b == 46 && c == 46)
        rw [sym, sym, Bool.and_true]
    have he : Lib.index (b :: l) [46, 46] = if ([46, 46] : Tx).isPrefixOf (b :: l) = true then 0 else if (Lib.index l [46, 46] == -1) = true then -1 else Lib.index l [46, 46] + 1 := rfl
    rw [he, hp]
    cases (b == 46 && l.getD 0 0 == 46) with
    | true => rfl
    | false =>
      rw [if_neg (by decide), Bool.false_or]
      by_cases he : (Lib.index l [46, 46] == -1) = true
      · rw [if_pos he]
        have := beq_iff_eq.1 he
        rw [this]
      · rw [if_neg he]
        have he : ¬ Lib.index l [46, 46] = -1 := fun e => he (beq_iff_eq.2 e)
        have := Lib.index_ge [46, 46] l
        rw [Bool.eq_iff_iff, decide_eq_true_eq, decide_eq_true_eq]
        omega
theorem ok_cdd {wb : World} (hc : ∃ m, wb.cell? ⟨0, 0, none⟩ = some (.int .i64 m)) (h0 : 0 < wb.heap.size) : OQ wb q_cdd := by
  intro zs hz hp
  match zs, hz with
  | [z], hz =>
    refine ⟨[b01 (dd (sOf z))], ⟨(b01_bd _).1, (b01_bd _).2, trivial⟩, rfl, fun w hw => .inr ⟨enters (by kernel_rfl) _ _, ?_⟩⟩
    obtain ⟨m, hm⟩ := hc
    have hm' : w.cell? ⟨0, 0, none⟩ = some (.int .i64 m) := by rw [hw.cell ⟨0, 0, none⟩ h0]; exact hm
    have hl : (sOf z).length ≤ 4294967280 := hp
    refine (Tryd.strings_Contains (bA (sOf z)) (bA [46, 46]) m w (by show (sOf z).toArray.size < _; simp; omega) hm').mono ?_
    rintro e w' ⟨rfl, rfl⟩
    refine ⟨?_, World.Extends.refl _⟩
    have e1 : (bA (sOf z)).data.toList = sOf z := by simp [bA]
    have e2 : (bA [46, 46]).data.toList = [46, 46] := rfl
    rw [e1, e2, dd_index]
    show _ = Ending.returned (Value.bool (decide (b01 (dd (sOf z)) = 1)))
    rw [b01_one]
theorem HB_1 : (1 : Int) ≤ HB := HB_c (l := [0]) (by decide)
theorem c_bd {l : Tx} {n : Nat} (h : l.length ≤ n) (hn : n ≤ 140737488351232) : 0 ≤ cOf l ∧ cOf l ≤ HB := ⟨cOf_nonneg _, HB_c (by unfold mxL; omega)⟩
end Go.Ad

/- The address seat: the countries (a map), by a walk. -/
set_option linter.unusedSimpArgs false
namespace Go.Proofs
open Go.RowKit Go.Ad
def ctryR (s : Tx) : Value := match ctry s with | some (c, t) => .tuple #[.agg #[.string ⟨c.toArray⟩, .string ⟨t.toArray⟩], .bool true] | none => .tuple #[.agg #[.string ⟨#[]⟩, .string ⟨#[]⟩], .bool false]
theorem push_set {α : Type} (a : Array α) (x y : α) : (a.push x).setIfInBounds a.size y = a.push y := by
  apply Array.ext'
  simp
theorem ba_ne {s t : ByteArray} (h : ¬ s = t) : (s == t) = false := by
  cases h' : (s == t) with
  | false => rfl
  | true =>
    have h' : (s.data == t.data) = true := h'
    exact absurd (ByteArray.ext (eq_of_beq h')) h
def lookV (z : Value) : Option (Nat × Value) → Value
  | some (_, v) => .tuple #[v, .bool true]
  | none => .tuple #[z, .bool false]
theorem map_put {P : Program} {mty kt et : TypeId} (hm : P.underlying mty = some (.map kt et)) (hk : P.underlying kt = some .string) (W : World) (es : Array MapEntry) (clock : Nat) (s : ByteArray) (v : Value) (hf : Instr.findNow .string (.string s) es.toList 0 = some none) :
    (Instr.mapUpdate mty (.map (some W.heap.size)) (.string s) v).run P (W.alloc (.map es clock)) = .ok () (W.alloc (.map (es.push { key := .string s, val := v, born := clock }) (clock + 1))) := by
  have hb : (W.alloc (.map es clock)).heap[W.heap.size]? = some (.map es clock) := heap_alloc_new W _
  have hc : (Instr.checkKey false 10000 kt (.string s)).run P (W.alloc (.map es clock)) = .ok () (W.alloc (.map es clock)) := MapKept.run_checkKey (k := .string s) hk (by simp [MapKept.IsKey]) false 9999
  simp only [Instr.mapUpdate, Sem.run_bind, run_underlying hm, Result.andThen, MapKept.run_getObj_map hb, Sem.run_pure, hc, MapKept.run_findKey hk hf, MapKept.run_setObj_map _ hb]
  simp only [World.alloc, push_set]
theorem map_look {P : Program} {mty kt et : TypeId} {z : Value} (hm : P.underlying mty = some (.map kt et)) (hk : P.underlying kt = some .string) (hz : ∀ w, (zeroValue et).run P w = .ok z w) (W : World) (es : Array MapEntry) (clock : Nat) (s : ByteArray) (a : Option (Nat × Value)) (hf : Instr.findNow .string (.string s) es.toList 0 = some a) :
    (Instr.lookup mty (.map (some W.heap.size)) (.string s) true).run P (W.alloc (.map es clock)) = .ok (lookV z a) (W.alloc (.map es clock)) := by
  have hb : (W.alloc (.map es clock)).heap[W.heap.size]? = some (.map es clock) := heap_alloc_new W _
  have hc : (Instr.checkKey es.isEmpty 10000 kt (.string s)).run P (W.alloc (.map es clock)) = .ok () (W.alloc (.map es clock)) := MapKept.run_checkKey (k := .string s) hk (by simp [MapKept.IsKey]) _ 9999
  simp only [Instr.lookup, Sem.run_bind, run_underlying hm, Result.andThen, MapKept.run_getObj_map hb, Sem.run_pure, hc, MapKept.run_findKey hk hf]
  cases a with
  | none => simp [hz, lookV]
  | some p => simp [lookV]
theorem ba_eq {s t : ByteArray} : s = t ↔ s.data.toList = t.data.toList := ⟨fun h => by rw [h], fun h => ByteArray.ext (Array.toList_inj.1 h)⟩
def lands : Array MapEntry := #[{ key := Value.string { data := #[] }, val := Value.agg #[Value.string { data := #[] }, Value.string { data := #[] }], born := 0 }, { key := Value.string { data := #[71, 66] }, val := Value.agg #[Value.string { data := #[52, 52] }, Value.string { data := #[48] }], born := 1 }, { key := Value.string { data := #[85, 83] }, val := Value.agg #[Value.string { data := #[49] }, Value.string { data := #[] }], born := 2 }, { key := Value.string { data := #[68, 69] }, val := Value.agg #[Value.string { data := #[52, 57] }, Value.string { data := #[48] }], born := 3 }, { key := Value.string { data := #[70, 82] }, val := Value.agg #[Value.string { data := #[51, 51] }, Value.string { data := #[48] }], born := 4 }, { key := Value.string { data := #[67, 72] }, val := Value.agg #[Value.string { data := #[52, 49] }, Value.string { data := #[48] }], born := 5 }]
theorem lands_find (s : ByteArray) : ∃ a, Instr.findNow .string (.string s) lands.toList 0 = some a ∧ lookV (.agg #[.string ⟨#[]⟩, .string ⟨#[]⟩]) a = ctryR s.data.toList := by
  by_cases h0 : s = { data := #[] }
  · subst h0; exact ⟨_, rfl, rfl⟩
  by_cases h1 : s = { data := #[71, 66] }
  · subst h1; exact ⟨_, rfl, rfl⟩
  by_cases h2 : s = { data := #[85, 83] }
  · subst h2; exact ⟨_, rfl, rfl⟩
  by_cases h3 : s = { data := #[68, 69] }
  · subst h3; exact ⟨_, rfl, rfl⟩
  by_cases h4 : s = { data := #[70, 82] }
  · subst h4; exact ⟨_, rfl, rfl⟩
  by_cases h5 : s = { data := #[67, 72] }
  · subst h5; exact ⟨_, rfl, rfl⟩
  have n : ∀ t : ByteArray, ¬ s = t → (s == t) = false := fun t h => ba_ne h
  refine ⟨none, ?_, ?_⟩
  · simp only [lands, Instr.findNow, Instr.sameNow, n _ h0, n _ h1, n _ h2, n _ h3, n _ h4, n _ h5]
  · have m : ∀ t : Tx, ¬ s = ⟨t.toArray⟩ → (s.data.toList == t) = false := fun t h => by
      cases hh : (s.data.toList == t) with
      | false => rfl
      | true => exact absurd (ba_eq.2 (by rw [beq_iff_eq.1 hh])) h
    unfold ctryR ctry
    rw [m [] h0, m [71, 66] h1, m [85, 83] h2, m [68, 69] h3, m [70, 82] h4, m [67, 72] h5]
    rfl
set_option maxHeartbeats 4000000 in
set_option maxRecDepth 1000000 in
theorem Tryd.country_walk (s : ByteArray) (w : World) :
    Calls Tryd.prog 41 #[.string s] w fun e w' => e = .returned (ctryR s.data.toList) ∧ Below w.heap.size w w' := by
  go_enter Tryd.func41, Tryd.ntmps41
  have hmk : ∀ W : World, (Instr.makeMap 89 none).run Tryd.prog W = .ok (.map (some W.heap.size)) (W.alloc (.map #[] 0)) := fun W => run_makeMap 89 W
  have hp0 : (Instr.mapUpdate 89 (.map (some (w.heap.size + 1))) (.string { data := #[] }) (Value.agg #[Value.string { data := #[] }, Value.string { data := #[] }])).run Tryd.prog ((w.alloc (Obj.cells #[Value.string { data := #[] }, Value.string { data := #[] }] 74)).alloc (.map #[] 0)) = .ok () ((w.alloc (Obj.cells #[Value.string { data := #[] }, Value.string { data := #[] }] 74)).alloc (.map #[{ key := Value.string { data := #[] }, val := Value.agg #[Value.string { data := #[] }, Value.string { data := #[] }], born := 0 }] 1)) := by
    have := map_put Tryd.underlying89 Tryd.underlying9 (w.alloc (Obj.cells #[Value.string { data := #[] }, Value.string { data := #[] }] 74)) #[] 0 { data := #[] } (Value.agg #[Value.string { data := #[] }, Value.string { data := #[] }]) rfl
    simpa using this
  have hp1 : (Instr.mapUpdate 89 (.map (some (w.heap.size + 1))) (.string { data := #[71, 66] }) (Value.agg #[Value.string { data := #[52, 52] }, Value.string { data := #[48] }])).run Tryd.prog ((w.alloc (Obj.cells #[Value.string { data := #[] }, Value.string { data := #[] }] 74)).alloc (.map #[{ key := Value.string { data := #[] }, val := Value.agg #[Value.string { data := #[] }, Value.string { data := #[] }], born := 0 }] 1)) = .ok () ((w.alloc (Obj.cells #[Value.string { data := #[] }, Value.string { data := #[] }] 74)).alloc (.map #[{ key := Value.string { data := #[] }, val := Value.agg #[Value.string { data := #[] }, Value.string { data := #[] }], born := 0 }, { key := Value.string { data := #[71, 66] }, val := Value.agg #[Value.string { data := #[52, 52] }, Value.string { data := #[48] }], born := 1 }] 2)) := by
    have := map_put Tryd.underlying89 Tryd.underlying9 (w.alloc (Obj.cells #[Value.string { data := #[] }, Value.string { data := #[] }] 74)) #[{ key := Value.string { data := #[] }, val := Value.agg #[Value.string { data := #[] }, Value.string { data := #[] }], born := 0 }] 1 { data := #[71, 66] } (Value.agg #[Value.string { data := #[52, 52] }, Value.string { data := #[48] }]) rfl
    simpa using this
  have hp2 : (Instr.mapUpdate 89 (.map (some (w.heap.size + 1))) (.string { data := #[85, 83] }) (Value.agg #[Value.string { data := #[49] }, Value.string { data := #[] }])).run Tryd.prog ((w.alloc (Obj.cells #[Value.string { data := #[] }, Value.string { data := #[] }] 74)).alloc (.map #[{ key := Value.string { data := #[] }, val := Value.agg #[Value.string { data := #[] }, Value.string { data := #[] }], born := 0 }, { key := Value.string { data := #[71, 66] }, val := Value.agg #[Value.string { data := #[52, 52] }, Value.string { data := #[48] }], born := 1 }] 2)) = .ok () ((w.alloc (Obj.cells #[Value.string { data := #[] }, Value.string { data := #[] }] 74)).alloc (.map #[{ key := Value.string { data := #[] }, val := Value.agg #[Value.string { data := #[] }, Value.string { data := #[] }], born := 0 }, { key := Value.string { data := #[71, 66] }, val := Value.agg #[Value.string { data := #[52, 52] }, Value.string { data := #[48] }], born := 1 }, { key := Value.string { data := #[85, 83] }, val := Value.agg #[Value.string { data := #[49] }, Value.string { data := #[] }], born := 2 }] 3)) := by
    have := map_put Tryd.underlying89 Tryd.underlying9 (w.alloc (Obj.cells #[Value.string { data := #[] }, Value.string { data := #[] }] 74)) #[{ key := Value.string { data := #[] }, val := Value.agg #[Value.string { data := #[] }, Value.string { data := #[] }], born := 0 }, { key := Value.string { data := #[71, 66] }, val := Value.agg #[Value.string { data := #[52, 52] }, Value.string { data := #[48] }], born := 1 }] 2 { data := #[85, 83] } (Value.agg #[Value.string { data := #[49] }, Value.string { data := #[] }]) rfl
    simpa using this
  have hp3 : (Instr.mapUpdate 89 (.map (some (w.heap.size + 1))) (.string { data := #[68, 69] }) (Value.agg #[Value.string { data := #[52, 57] }, Value.string { data := #[48] }])).run Tryd.prog ((w.alloc (Obj.cells #[Value.string { data := #[] }, Value.string { data := #[] }] 74)).alloc (.map #[{ key := Value.string { data := #[] }, val := Value.agg #[Value.string { data := #[] }, Value.string { data := #[] }], born := 0 }, { key := Value.string { data := #[71, 66] }, val := Value.agg #[Value.string { data := #[52, 52] }, Value.string { data := #[48] }], born := 1 }, { key := Value.string { data := #[85, 83] }, val := Value.agg #[Value.string { data := #[49] }, Value.string { data := #[] }], born := 2 }] 3)) = .ok () ((w.alloc (Obj.cells #[Value.string { data := #[] }, Value.string { data := #[] }] 74)).alloc (.map #[{ key := Value.string { data := #[] }, val := Value.agg #[Value.string { data := #[] }, Value.string { data := #[] }], born := 0 }, { key := Value.string { data := #[71, 66] }, val := Value.agg #[Value.string { data := #[52, 52] }, Value.string { data := #[48] }], born := 1 }, { key := Value.string { data := #[85, 83] }, val := Value.agg #[Value.string { data := #[49] }, Value.string { data := #[] }], born := 2 }, { key := Value.string { data := #[68, 69] }, val := Value.agg #[Value.string { data := #[52, 57] }, Value.string { data := #[48] }], born := 3 }] 4)) := by
    have := map_put Tryd.underlying89 Tryd.underlying9 (w.alloc (Obj.cells #[Value.string { data := #[] }, Value.string { data := #[] }] 74)) #[{ key := Value.string { data := #[] }, val := Value.agg #[Value.string { data := #[] }, Value.string { data := #[] }], born := 0 }, { key := Value.string { data := #[71, 66] }, val := Value.agg #[Value.string { data := #[52, 52] }, Value.string { data := #[48] }], born := 1 }, { key := Value.string { data := #[85, 83] }, val := Value.agg #[Value.string { data := #[49] }, Value.string { data := #[] }], born := 2 }] 3 { data := #[68, 69] } (Value.agg #[Value.string { data := #[52, 57] }, Value.string { data := #[48] }]) rfl
    simpa using this
  have hp4 : (Instr.mapUpdate 89 (.map (some (w.heap.size + 1))) (.string { data := #[70, 82] }) (Value.agg #[Value.string { data := #[51, 51] }, Value.string { data := #[48] }])).run Tryd.prog ((w.alloc (Obj.cells #[Value.string { data := #[] }, Value.string { data := #[] }] 74)).alloc (.map #[{ key := Value.string { data := #[] }, val := Value.agg #[Value.string { data := #[] }, Value.string { data := #[] }], born := 0 }, { key := Value.string { data := #[71, 66] }, val := Value.agg #[Value.string { data := #[52, 52] }, Value.string { data := #[48] }], born := 1 }, { key := Value.string { data := #[85, 83] }, val := Value.agg #[Value.string { data := #[49] }, Value.string { data := #[] }], born := 2 }, { key := Value.string { data := #[68, 69] }, val := Value.agg #[Value.string { data := #[52, 57] }, Value.string { data := #[48] }], born := 3 }] 4)) = .ok () ((w.alloc (Obj.cells #[Value.string { data := #[] }, Value.string { data := #[] }] 74)).alloc (.map #[{ key := Value.string { data := #[] }, val := Value.agg #[Value.string { data := #[] }, Value.string { data := #[] }], born := 0 }, { key := Value.string { data := #[71, 66] }, val := Value.agg #[Value.string { data := #[52, 52] }, Value.string { data := #[48] }], born := 1 }, { key := Value.string { data := #[85, 83] }, val := Value.agg #[Value.string { data := #[49] }, Value.string { data := #[] }], born := 2 }, { key := Value.string { data := #[68, 69] }, val := Value.agg #[Value.string { data := #[52, 57] }, Value.string { data := #[48] }], born := 3 }, { key := Value.string { data := #[70, 82] }, val := Value.agg #[Value.string { data := #[51, 51] }, Value.string { data := #[48] }], born := 4 }] 5)) := by
    have := map_put Tryd.underlying89 Tryd.underlying9 (w.alloc (Obj.cells #[Value.string { data := #[] }, Value.string { data := #[] }] 74)) #[{ key := Value.string { data := #[] }, val := Value.agg #[Value.string { data := #[] }, Value.string { data := #[] }], born := 0 }, { key := Value.string { data := #[71, 66] }, val := Value.agg #[Value.string { data := #[52, 52] }, Value.string { data := #[48] }], born := 1 }, { key := Value.string { data := #[85, 83] }, val := Value.agg #[Value.string { data := #[49] }, Value.string { data := #[] }], born := 2 }, { key := Value.string { data := #[68, 69] }, val := Value.agg #[Value.string { data := #[52, 57] }, Value.string { data := #[48] }], born := 3 }] 4 { data := #[70, 82] } (Value.agg #[Value.string { data := #[51, 51] }, Value.string { data := #[48] }]) rfl
    simpa using this
  have hp5 : (Instr.mapUpdate 89 (.map (some (w.heap.size + 1))) (.string { data := #[67, 72] }) (Value.agg #[Value.string { data := #[52, 49] }, Value.string { data := #[48] }])).run Tryd.prog ((w.alloc (Obj.cells #[Value.string { data := #[] }, Value.string { data := #[] }] 74)).alloc (.map #[{ key := Value.string { data := #[] }, val := Value.agg #[Value.string { data := #[] }, Value.string { data := #[] }], born := 0 }, { key := Value.string { data := #[71, 66] }, val := Value.agg #[Value.string { data := #[52, 52] }, Value.string { data := #[48] }], born := 1 }, { key := Value.string { data := #[85, 83] }, val := Value.agg #[Value.string { data := #[49] }, Value.string { data := #[] }], born := 2 }, { key := Value.string { data := #[68, 69] }, val := Value.agg #[Value.string { data := #[52, 57] }, Value.string { data := #[48] }], born := 3 }, { key := Value.string { data := #[70, 82] }, val := Value.agg #[Value.string { data := #[51, 51] }, Value.string { data := #[48] }], born := 4 }] 5)) = .ok () ((w.alloc (Obj.cells #[Value.string { data := #[] }, Value.string { data := #[] }] 74)).alloc (.map #[{ key := Value.string { data := #[] }, val := Value.agg #[Value.string { data := #[] }, Value.string { data := #[] }], born := 0 }, { key := Value.string { data := #[71, 66] }, val := Value.agg #[Value.string { data := #[52, 52] }, Value.string { data := #[48] }], born := 1 }, { key := Value.string { data := #[85, 83] }, val := Value.agg #[Value.string { data := #[49] }, Value.string { data := #[] }], born := 2 }, { key := Value.string { data := #[68, 69] }, val := Value.agg #[Value.string { data := #[52, 57] }, Value.string { data := #[48] }], born := 3 }, { key := Value.string { data := #[70, 82] }, val := Value.agg #[Value.string { data := #[51, 51] }, Value.string { data := #[48] }], born := 4 }, { key := Value.string { data := #[67, 72] }, val := Value.agg #[Value.string { data := #[52, 49] }, Value.string { data := #[48] }], born := 5 }] 6)) := by
    have := map_put Tryd.underlying89 Tryd.underlying9 (w.alloc (Obj.cells #[Value.string { data := #[] }, Value.string { data := #[] }] 74)) #[{ key := Value.string { data := #[] }, val := Value.agg #[Value.string { data := #[] }, Value.string { data := #[] }], born := 0 }, { key := Value.string { data := #[71, 66] }, val := Value.agg #[Value.string { data := #[52, 52] }, Value.string { data := #[48] }], born := 1 }, { key := Value.string { data := #[85, 83] }, val := Value.agg #[Value.string { data := #[49] }, Value.string { data := #[] }], born := 2 }, { key := Value.string { data := #[68, 69] }, val := Value.agg #[Value.string { data := #[52, 57] }, Value.string { data := #[48] }], born := 3 }, { key := Value.string { data := #[70, 82] }, val := Value.agg #[Value.string { data := #[51, 51] }, Value.string { data := #[48] }], born := 4 }] 5 { data := #[67, 72] } (Value.agg #[Value.string { data := #[52, 49] }, Value.string { data := #[48] }]) rfl
    simpa using this
  obtain ⟨c, t, ok, hl, hv⟩ : ∃ (c t : ByteArray) (ok : Bool), (Instr.lookup 89 (.map (some (w.heap.size + 1))) (.string s) true).run Tryd.prog ((w.alloc (Obj.cells #[Value.string { data := #[] }, Value.string { data := #[] }] 74)).alloc (.map #[{ key := Value.string { data := #[] }, val := Value.agg #[Value.string { data := #[] }, Value.string { data := #[] }], born := 0 }, { key := Value.string { data := #[71, 66] }, val := Value.agg #[Value.string { data := #[52, 52] }, Value.string { data := #[48] }], born := 1 }, { key := Value.string { data := #[85, 83] }, val := Value.agg #[Value.string { data := #[49] }, Value.string { data := #[] }], born := 2 }, { key := Value.string { data := #[68, 69] }, val := Value.agg #[Value.string { data := #[52, 57] }, Value.string { data := #[48] }], born := 3 }, { key := Value.string { data := #[70, 82] }, val := Value.agg #[Value.string { data := #[51, 51] }, Value.string { data := #[48] }], born := 4 }, { key := Value.string { data := #[67, 72] }, val := Value.agg #[Value.string { data := #[52, 49] }, Value.string { data := #[48] }], born := 5 }] 6)) = .ok (.tuple #[.agg #[.string c, .string t], .bool ok]) ((w.alloc (Obj.cells #[Value.string { data := #[] }, Value.string { data := #[] }] 74)).alloc (.map #[{ key := Value.string { data := #[] }, val := Value.agg #[Value.string { data := #[] }, Value.string { data := #[] }], born := 0 }, { key := Value.string { data := #[71, 66] }, val := Value.agg #[Value.string { data := #[52, 52] }, Value.string { data := #[48] }], born := 1 }, { key := Value.string { data := #[85, 83] }, val := Value.agg #[Value.string { data := #[49] }, Value.string { data := #[] }], born := 2 }, { key := Value.string { data := #[68, 69] }, val := Value.agg #[Value.string { data := #[52, 57] }, Value.string { data := #[48] }], born := 3 }, { key := Value.string { data := #[70, 82] }, val := Value.agg #[Value.string { data := #[51, 51] }, Value.string { data := #[48] }], born := 4 }, { key := Value.string { data := #[67, 72] }, val := Value.agg #[Value.string { data := #[52, 49] }, Value.string { data := #[48] }], born := 5 }] 6)) ∧ Hid (Value.tuple #[.agg #[.string c, .string t], .bool ok] = ctryR s.data.toList) := by
    obtain ⟨a, hf, ha⟩ := lands_find s
    have := map_look (z := .agg #[.string ⟨#[]⟩, .string ⟨#[]⟩]) Tryd.underlying89 Tryd.underlying9 (fun w => Tryd.zeroValue74 w) (w.alloc (Obj.cells #[Value.string { data := #[] }, Value.string { data := #[] }] 74)) lands 6 s a hf
    have hsz : (w.alloc (Obj.cells #[Value.string { data := #[] }, Value.string { data := #[] }] 74)).heap.size = w.heap.size + 1 := by simp
    rw [hsz, ha] at this
    have hr : ∃ (c t : ByteArray) (ok : Bool), ctryR s.data.toList = Value.tuple #[.agg #[.string c, .string t], .bool ok] := by
      unfold ctryR
      cases ctry s.data.toList with
      | none => exact ⟨_, _, _, rfl⟩
      | some p => exact ⟨_, _, _, rfl⟩
    obtain ⟨c, t, ok, hr⟩ := hr
    rw [hr] at this
    exact ⟨c, t, ok, this, hr.symm⟩
  go_wp2
  refine bodyPost_ret (v := .tuple #[.agg #[.string c, .string t], .bool ok]) ?_ rfl ⟨congrArg _ hv, (((Below.refl _ w).alloc (Nat.le_refl _) _).alloc (by simp) _).alloc (by simp; omega) _⟩
  have hg : ∀ o1 o2 : Obj, (((w.alloc (Obj.cells #[Value.string c, Value.string t] 74)).alloc o1).alloc o2).heap[w.heap.size]? = some (.cells #[.string c, .string t] 74 (0, 0)) := fun o1 o2 => by
    rw [Lib.alloc_old _ _ _ (by simp; omega), Lib.alloc_old _ _ _ (by simp), heap_alloc_new]
  have h46 := run_loadVar_row (P := Tryd.prog) (((w.alloc (Obj.cells #[Value.string c, Value.string t] 74)).alloc (.map lands 6)).alloc (Obj.cells #[Value.string c, Value.string t] 74)) w.heap.size 74 74 #[.string c, .string t] (0, 0) _ (hg _ _) Tryd.underlying74 rfl (by kernel_rfl)
  rw [results_cell_tmp rfl]
  show ((loadVar 74 ⟨w.heap.size, 0, none⟩).run Tryd.prog (((w.alloc (Obj.cells #[Value.string c, Value.string t] 74)).alloc (.map lands 6)).alloc (Obj.cells #[Value.string c, Value.string t] 74))).andThen _ = _
  rw [h46]
  rfl
end Go.Proofs
set_option linter.unusedVariables false
set_option maxRecDepth 100000
namespace Go.Ad
open Go Go.Rx Go.Proofs Go.RowKit
theorem ok_country {wb : World} : OC wb k_country := by
  intro zs hz
  match zs, hz with
  | [z], hz =>
    have hw := fun w => Tryd.country_walk (bA (sOf z)) w
    have e1 : (bA (sOf z)).data.toList = sOf z := by simp [bA]
    cases hct : ctry (sOf z) with
    | none =>
      refine ⟨[0, 0, 0], ⟨Int.le_refl _, HB_pos, Int.le_refl _, HB_pos, by decide, by decide, trivial⟩, ?_, fun w _ => .inr ⟨enters (by kernel_rfl) _ _, ?_⟩⟩
      · show (match ctry (sOf z) with | some (code, trunk) => sOf 0 = code ∧ sOf 0 = trunk ∧ (0 : Int) = 1 | none => (0 : Int) = 0 ∧ sOf 0 = [] ∧ sOf 0 = [])
        rw [hct]; exact ⟨rfl, rfl, rfl⟩
      · refine (hw w).mono ?_
        rintro e w' ⟨rfl, hb⟩
        refine ⟨?_, ext_of hb⟩
        rw [e1]; unfold ctryR; rw [hct]; rfl
    | some ct =>
      obtain ⟨c, t⟩ := ct
      have h1 := c_bd (ctry_len hct) (by decide)
      have h2 : 0 ≤ cOf t ∧ cOf t ≤ HB := c_bd (n := 1) (by rcases ctry_trunk hct with h | h <;> rw [h] <;> decide) (by decide)
      refine ⟨[cOf c, cOf t, 1], ⟨h1.1, h1.2, h2.1, h2.2, by decide, by decide, trivial⟩, ?_, fun w _ => .inr ⟨enters (by kernel_rfl) _ _, ?_⟩⟩
      · show (match ctry (sOf z) with | some (code, trunk) => sOf (cOf c) = code ∧ sOf (cOf t) = trunk ∧ (1 : Int) = 1 | none => (1 : Int) = 0 ∧ sOf (cOf c) = [] ∧ sOf (cOf t) = [])
        rw [hct]; exact ⟨sOf_cOf _, sOf_cOf _, rfl⟩
      · refine (hw w).mono ?_
        rintro e w' ⟨rfl, hb⟩
        refine ⟨?_, ext_of hb⟩
        rw [e1]; unfold ctryR; rw [hct]
        show _ = Ending.returned (.tuple #[.agg #[.string (bA (sOf (cOf c))), .string (bA (sOf (cOf t)))], .bool true])
        rw [sOf_cOf, sOf_cOf]; rfl
end Go.Ad

/- The address seat: a number's digits (bare), by a walk. -/
namespace Go.Proofs
open Go.RowKit Go.Ad
theorem bsz (s : ByteArray) : s.data.toList.length = s.size := by rw [Array.length_toList]; rfl
def barR (s : Tx) : Value := match bareF s [] false with | some (d, p) => .tuple #[.string ⟨d.toArray⟩, .bool p, .bool true] | none => .tuple #[.string ⟨#[]⟩, .bool false, .bool false]
theorem isD_iff (c : UInt8) : isD c = true ↔ (48 : Int) ≤ c.toNat ∧ (c.toNat : Int) ≤ 57 := by
  unfold isD; rw [Bool.and_eq_true, Nat.ble_eq, Nat.ble_eq]; omega
theorem sep_call (c : UInt8) : ∃ R : Int, (R < 0 ↔ seps.contains c = false) ∧ ∀ w, Calls Tryd.prog 60 #[.string { data := #[32, 45, 46, 40, 41] }, .int .u8 c.toNat] w fun e w' => e = .returned (.int .i64 R) ∧ w' = w := by
  refine ⟨Lib.indexByte seps c, ?_, fun w => ?_⟩
  · rw [Lib.contains_iff_indexByte]; simp
  · have := Tryd.strings_IndexByte ⟨#[32, 45, 46, 40, 41]⟩ (c.toNat : Int) w
    have e : (c.toNat : Int).toNat.toUInt8 = c := by simp
    rw [e] at this
    exact this
theorem len_call (d : Tx) (b : Nat) (w : World) (h : Lib.IsBuilder 92 5 b b (Lib.byteCells d) w) : Calls Tryd.prog 59 #[.pointer (some ⟨b, 0, none⟩)] w fun e w' => e = .returned (.int .i64 d.length) ∧ w' = w := by
  have := Tryd.Builder_Len b b _ w h
  rwa [Lib.byteCells_length] at this
set_option maxHeartbeats 4000000 in
set_option maxRecDepth 1000000 in
theorem Tryd.bare_walk (s : ByteArray) (w : World) (hs : s.size ≤ 140737488351232) :
    Calls Tryd.prog 42 #[.string s] w fun e w' => e = .returned (barR s.data.toList) ∧ Below w.heap.size w w' := by
  go_enter Tryd.func42, Tryd.ntmps42
  go_wp2
  go_loopw [10, 3] (fun vi vp wr => ∃ (i : Nat) (d : List UInt8) (p : Bool), vi = .int .i64 i ∧ vp = .bool p ∧ i ≤ s.size ∧ d.length ≤ i ∧ Hid (bareF (s.data.toList.drop i) d p = bareF s.data.toList [] false) ∧ Lib.IsBuilder 92 5 w.heap.size w.heap.size (Lib.byteCells d) wr ∧ Below w.heap.size w wr) (fun vi _ _ => s.size - (RowKit.intOf vi).toNat)
  case atStart =>
    exact ⟨0, [], false, rfl, rfl, Nat.zero_le _, Nat.le_refl _, rfl, Lib.fresh_isBuilder 92 5 w, (Below.refl _ w).alloc (Nat.le_refl _) _⟩
  case round =>
    obtain ⟨i, d, p, rfl, rfl, hi, hd, hb, hI, hbw⟩ := hrel
    have hsz : s.data.toList.length = s.size := bsz s
    by_cases hlt : i < s.size
    · have hlt' : (i : Int) < (s.size : Int) := by omega
      have hnn : ¬ ((i : Int) < 0) := by omega
      have hc : s.data.toList.getD i 0 = s[i] := by
        simp only [List.getD, List.getElem?_eq_getElem (show i < s.data.toList.length by omega), Option.getD_some]
        rfl
      have hst := bare_step (s := s.data.toList) (d := d) (p := p) (i := i) (by omega)
      rw [hc] at hst
      have hD := isD_iff s[i]
      have fin : ∀ {d' : Tx} {p' : Bool}, bareF (List.drop i s.data.toList) d p = bareF (List.drop (i + 1) s.data.toList) d' p' → Hid (bareF (List.drop (i + 1) s.data.toList) d' p' = bareF s.data.toList [] false) := fun h => by
        have hb : bareF (List.drop i s.data.toList) d p = bareF s.data.toList [] false := hb
        show _ = _
        rw [← hb, h]
      have bad : bareF (List.drop i s.data.toList) d p = none → Value.tuple #[.string ⟨#[]⟩, .bool false, .bool false] = barR s.data.toList := fun h => by
        have hb : bareF (List.drop i s.data.toList) d p = bareF s.data.toList [] false := hb
        unfold barR
        rw [← hb, h]
      obtain ⟨R, hR, hcall⟩ := sep_call s[i]
      have hLen := fun W => len_call d w.heap.size W
      by_cases h48 : (48 : Int) ≤ s[i].toNat ∧ (s[i].toNat : Int) ≤ 57
      · have hdig := hD.2 h48
        obtain ⟨h48, h57⟩ := h48
        rw [hdig, cond_true] at hst
        clear hR hcall hLen bad
        go_wp2_with (go_at_call 58; refine (Tryd.Builder_WriteByte w.heap.size w.heap.size _ _ _ hI (by rw [Lib.byteCells_length]; omega) hbw.size).mono ?_)
        rintro e W1 rfl h1 b1
        go_wp2
        go_roundw
        case rel =>
          refine ⟨i + 1, d ++ [s[i]], p, by simp, rfl, by omega, by simp; omega, fin hst, ?_, hbw.trans b1⟩
          rw [Lib.byteCells_append]; exact Or.inr h1
        case measure => simp [intOf]; omega
      · have hnd : isD s[i] = false := by
          cases hh : isD s[i] with
          | false => rfl
          | true => exact absurd (hD.1 hh) h48
        rw [hnd, cond_false] at hst
        by_cases h43 : s[i] = 43
        · have e43 : (s[i].toNat : Int) = 43 := by rw [h43]; rfl
          have n48 : ¬ (48 : Int) ≤ s[i].toNat := by omega
          have hns : seps.contains s[i] = false := by rw [h43]; rfl
          have hRn := hR.2 hns
          rw [hns, cond_false] at hst
          by_cases hgo : d.length = 0 ∧ p = false
          · obtain ⟨hd0, rfl⟩ := hgo
            have hd0' : d = [] := List.length_eq_zero_iff.1 hd0
            have hst' : bareF (List.drop i s.data.toList) d false = bareF (List.drop (i + 1) s.data.toList) d true := by
              rw [hst, h43, hd0']; rfl
            have hd0i : (d.length : Int) = 0 := by omega
            rw [hd0i] at hLen
            go_wp2_with (go_at_call 59; refine (hLen _ hI).mono ?_)
            go_roundw
            case rel =>
              exact ⟨i + 1, d, true, by simp, rfl, by omega, by omega, fin hst', hI, hbw⟩
            case measure => simp [intOf]; omega
          · have hno : bareF (List.drop i s.data.toList) d p = none := by
              rw [hst]
              have : (d.isEmpty && !p) = false := by
                cases d with
                | nil =>
                  cases p with
                  | true => rfl
                  | false => exact absurd ⟨rfl, rfl⟩ hgo
                | cons x r => rfl
              rw [Bool.and_assoc, this, Bool.and_false]; rfl
            have hbad := bad hno
            clear hR
            rw [e43] at hcall
            by_cases hd0 : d.length = 0
            · have hp : p = true := by
                cases p with
                | true => rfl
                | false => exact absurd ⟨hd0, rfl⟩ hgo
              subst hp
              have hd0i : (d.length : Int) = 0 := by omega
              rw [hd0i] at hLen
              go_wp2_with (go_at_call 59; refine (hLen _ hI).mono ?_)
              go_wp2_with (go_at_call 60; refine (hcall _).mono ?_)
              rintro e W1 ⟨rfl, rfl⟩
              go_wp2
              go_ret3
              refine ⟨?_, hbw⟩
              rw [← hbad]
              rfl
            · have hd0i : ¬ (d.length : Int) = 0 := by omega
              go_wp2_with (go_at_call 59; refine (hLen _ hI).mono ?_)
              go_wp2_with (go_at_call 60; refine (hcall _).mono ?_)
              rintro e W1 ⟨rfl, rfl⟩
              go_wp2
              go_ret3
              refine ⟨?_, hbw⟩
              rw [← hbad]
              rfl
        · have n43 : ¬ (s[i].toNat : Int) = 43 := fun e => h43 (by rw [← UInt8.toNat_inj]; show s[i].toNat = 43; omega)
          have e43 : (s[i] == 43) = false := by simpa using h43
          rw [e43, Bool.false_and, Bool.false_and, cond_false] at hst
          have h48' : ¬ (48 : Int) ≤ s[i].toNat ∨ ((48 : Int) ≤ s[i].toNat ∧ ¬ (s[i].toNat : Int) ≤ 57) := by omega
          cases hsp : seps.contains s[i] with
          | false =>
            have hRn := hR.2 hsp
            rw [hsp, cond_false] at hst
            have hbad := bad hst
            clear hR
            rcases h48' with n48 | ⟨y48, n57⟩
            · go_wp2_with (go_at_call 60; refine (hcall _).mono ?_)
              go_ret3
              refine ⟨?_, hbw⟩
              rw [← hbad]
              rfl
            · go_wp2_with (go_at_call 60; refine (hcall _).mono ?_)
              go_ret3
              refine ⟨?_, hbw⟩
              rw [← hbad]
              rfl
          | true =>
            have hRn : ¬ R < 0 := fun h => by have := hR.1 h; rw [hsp] at this; cases this
            rw [hsp, cond_true] at hst
            clear hR
            rcases h48' with n48 | ⟨y48, n57⟩
            · go_wp2_with (go_at_call 60; refine (hcall _).mono ?_)
              go_roundw
              case rel => exact ⟨i + 1, d, p, by simp, rfl, by omega, by omega, fin hst, hI, hbw⟩
              case measure => simp [intOf]; omega
            · go_wp2_with (go_at_call 60; refine (hcall _).mono ?_)
              go_roundw
              case rel => exact ⟨i + 1, d, p, by simp, rfl, by omega, by omega, fin hst, hI, hbw⟩
              case measure => simp [intOf]; omega
    · have hge : ¬ (i : Int) < (s.size : Int) := by omega
      go_wp2_with (go_at_call 61; refine (Tryd.Builder_String_any w.heap.size w.heap.size d _ hI hbw.size).mono ?_)
      rintro e W1 rfl b1
      go_wp2
      go_ret3
      have hb : bareF (List.drop i s.data.toList) d p = bareF s.data.toList [] false := hb
      rw [List.drop_of_length_le (by omega), bareF] at hb
      refine ⟨?_, hbw.trans b1⟩
      unfold barR
      rw [← hb]
      rfl
end Go.Proofs
set_option linter.unusedVariables false
set_option maxRecDepth 100000
namespace Go.Ad
open Go Go.Rx Go.Proofs Go.RowKit
theorem ok_bare {wb : World} : OC wb k_bare := by
  intro zs hz
  match zs, hz with
  | [z], hz =>
    have hl : (sOf z).length ≤ 140737488351232 := HB_s hz.2.1
    have hw := fun w => Tryd.bare_walk (bA (sOf z)) w (by show (sOf z).toArray.size ≤ _; simpa using hl)
    have e1 : (bA (sOf z)).data.toList = sOf z := by simp [bA]
    cases hct : bareF (sOf z) [] false with
    | none =>
      refine ⟨[0, 0, 0], ⟨Int.le_refl _, HB_pos, by decide, by decide, by decide, by decide, trivial⟩, ?_, fun w _ => .inr ⟨enters (by kernel_rfl) _ _, ?_⟩⟩
      · show (match bareF (sOf z) [] false with | some (d', p') => sOf 0 = d' ∧ (0 : Int) = b01 p' ∧ (0 : Int) = 1 | none => sOf 0 = [] ∧ (0 : Int) = 0 ∧ (0 : Int) = 0)
        rw [hct]; exact ⟨rfl, rfl, rfl⟩
      · refine (hw w).mono ?_
        rintro e w' ⟨rfl, hb⟩
        refine ⟨?_, ext_of hb⟩
        rw [e1]; unfold barR; rw [hct]; rfl
    | some ct =>
      obtain ⟨c, t⟩ := ct
      have h1 := c_bd (bareF_len _ _ _ hct) (by simp; omega)
      refine ⟨[cOf c, b01 t, 1], ⟨h1.1, h1.2, (b01_bd t).1, (b01_bd t).2, by decide, by decide, trivial⟩, ?_, fun w _ => .inr ⟨enters (by kernel_rfl) _ _, ?_⟩⟩
      · show (match bareF (sOf z) [] false with | some (d', p') => sOf (cOf c) = d' ∧ b01 t = b01 p' ∧ (1 : Int) = 1 | none => sOf (cOf c) = [] ∧ b01 t = 0 ∧ (1 : Int) = 0)
        rw [hct]; exact ⟨sOf_cOf _, rfl, rfl⟩
      · refine (hw w).mono ?_
        rintro e w' ⟨rfl, hb⟩
        refine ⟨?_, ext_of hb⟩
        rw [e1]; unfold barR; rw [hct]
        show _ = Ending.returned (.tuple #[.string (bA (sOf (cOf c))), .bool (decide (b01 t = 1)), .bool true])
        rw [sOf_cOf, b01_one]; rfl
end Go.Ad

/- slices.Delete at a struct, by a walk (rows of an own block). NOT WHOLE YET: see NOTES. -/
set_option linter.unusedSimpArgs false
set_option linter.unusedVariables false
namespace Go.Proofs
open Go.RowKit Go.Rx
section
variable {P : Program}
theorem step_append_run {ops : Array Oper} {o : Oper} {a : Act} {w : World} {K : Act → World → Prop} {Q : Exit → Act → World → Prop} {E : Prop}
    (hg : o.guard = none) (s x : Operand) (t t' : TypeId) (hop : o.op = Op.call { callee := Callee.builtin Builtin.append, args := #[s, x], argTypes := #[t, t'] }) (u v : Value) (hs : a.eval s = u) (hx : a.eval x = v) {r : Value} {w' : World}
    (hr : (Builtin.append_ #[t, t'] o.type #[u, v]).run P w = .ok r w') (hK : K (a.put o.dst r) w') : if Region.wanted o (yielded ops a.tmps) = true then Oper.wp P o a w K Q else E := by
  have hw : Region.wanted o (yielded ops a.tmps) = true := by simp [Region.wanted, hg]
  rw [if_pos hw]
  unfold Oper.wp
  simp [execOp, hop, resolve, invoke, builtin, hs, hx, hr, Result.andThen]
  exact hK
theorem wpList_clear_run {w : World} {ops : Array Oper} {rest : List Oper} {o : Oper} {a : Act} {Q : Exit → Act → World → Prop} (hgd : o.guard = none) (s : Operand) (t : TypeId)
    (ho : o.op = .call { callee := .builtin .clear, args := #[s], argTypes := #[t] }) (v : Value) (hs : a.eval s = v) {w' : World}
    (hr : (Builtin.clear_ #[t] o.type #[v]).run P w = .ok (.tuple #[]) w') (h : wpList P ops Q rest (a.put o.dst (.tuple #[])) w') : wpList P ops Q (o :: rest) a w := by
  refine wpList_plain hgd fun K hK => ?_
  unfold Oper.wp
  simp [execOp, ho, resolve, invoke, builtin, hs, hr, Result.andThen]
  exact hK _ _ h
/-- clear at elements of so many cells. -/
theorem run_clear_rows (w : World) (t e ty : TypeId) (z : Value) (ht : P.underlying t = some (.slice e)) (hv : ∀ w, (zeroValue e).run P w = .ok z w) (h1 : ∀ v ∈ z.cells.toList, v.oneCell' = true) (g o n c : Nat) (hn : 0 < n) (cur : Array Value) (et : TypeId) (hg : w.heap[g]? = some (.cells cur et (0, 0))) (hfit : o + n * z.cells.size ≤ cur.size) :
    (Builtin.clear_ #[t] ty #[.slice (some ⟨g, o, none⟩) n c]).run P w = .ok (.tuple #[]) (w.setRow g (cur.toList.take o ++ (Builtin.zeroCells z.cells n).toList ++ cur.toList.drop (o + n * z.cells.size)).toArray) := by
  have hzs : (Builtin.zeroCells z.cells n).toList.length = n * z.cells.size := by rw [Array.length_toList, zeroCells_size]
  have hst := run_storeCells_at P g o et (Builtin.zeroCells z.cells n).toList 0 cur w hg (by rw [hzs]; omega) (fun v hv' => by
    simp only [Builtin.zeroCells] at hv'
    have hm : v ∈ z.cells.toList := by
      simp at hv'
      obtain ⟨k, hk1, hk⟩ := hv'
      have hs : 0 < z.cells.size := by
        rcases Nat.eq_zero_or_pos z.cells.size with h | h
        · rw [h, Nat.mul_zero] at hk1; omega
        · exact h
      rw [getElem!_pos z.cells (k % z.cells.size) (Nat.mod_lt _ hs)] at hk
      rw [← hk]
      exact Array.getElem_mem_toList _
    exact h1 v hm)
  rw [Nat.add_zero, hzs] at hst
  obtain ⟨m, rfl⟩ : ∃ m, n = m + 1 := ⟨n - 1, by omega⟩
  simp [Builtin.clear_, run_underlying ht, hv, hst]
end
theorem slNew_row (w : World) (g : Nat) (a : Array Value) : SlNew w (w.setRow g a) (some g) :=
  ⟨rfl, rfl, rfl, by simp [World.setRow], fun k hk hne => setRow_other w g k a (fun e => hne (by rw [e]))⟩
theorem slNew_rows (w : World) (g : Nat) (a b : Array Value) : SlNew w ((w.drew.setRow g a).setRow g b) (some g) := by
  obtain ⟨h1, h2, h3, h4, h5⟩ := slNew_row w.drew g a
  obtain ⟨k1, k2, k3, k4, k5⟩ := slNew_row (w.drew.setRow g a) g b
  exact ⟨k1.trans h1, k2.trans h2, k3.trans h3, Nat.le_trans h4 k4, fun k hk hne => (k5 k (Nat.lt_of_lt_of_le hk h4) hne).trans (h5 k hk hne)⟩
set_option maxHeartbeats 4000000 in
set_option maxRecDepth 1000000 in
theorem Tryd.delete_walk (g cap n i j : Nat) (cur : Array Value) (w : World) (hg : w.heap[g]? = some (.cells cur 31 (0, 0))) (hsz : cur.size = cap * 4) (hn : n ≤ cap) (hcap : cap ≤ 9223372036854775807) (hij : i < j) (hj : j ≤ n) (one : ∀ v ∈ (cur.toList.drop (j * 4)).take ((n - j) * 4), v.oneCell' = true) :
    Calls Tryd.prog 14 #[.slice (some ⟨g, 0, none⟩) n cap, .int .i64 i, .int .i64 j] w fun e w' => e = .returned (.slice (some ⟨g, 0, none⟩) (i + (n - j)) cap) ∧ ∃ cur' : Array Value, w'.heap[g]? = some (.cells cur' 31 (0, 0)) ∧ cur'.size = cap * 4 ∧ cur'.toList.take ((i + (n - j)) * 4) = cur.toList.take (i * 4) ++ (cur.toList.drop (j * 4)).take ((n - j) * 4) ∧ SlNew w w' (some g) := by
  have hic : i ≤ cap := by omega
  have hjc : j ≤ cap := by omega
  obtain ⟨i0, hi0, hi4⟩ : ∃ i0, Tryd.prog.info? 31 = some i0 ∧ i0.size = 4 := ⟨_, rfl, by kernel_rfl⟩
  obtain ⟨news, hnews⟩ : ∃ news, news = (cur.toList.drop (j * 4)).take ((n - j) * 4) := ⟨_, rfl⟩
  have hcl : cur.toList.length = cap * 4 := by rw [Array.length_toList]; exact hsz
  have hlen : news.length = (n - j) * 4 := by rw [hnews, List.length_take, List.length_drop, hcl]; omega
  obtain ⟨A, hA, hsrc⟩ : ∃ A : Addr, (if cap = j then some (⟨g, 0, none⟩ : Addr) else some ⟨g, j * 4, none⟩) = some A ∧ Hid (∀ t u, news[t]? = some u → w.drew.cell? (A.add t) = some u) := by
    by_cases h : cap = j
    · refine ⟨⟨g, 0, none⟩, by simp [h], fun t u hu => ?_⟩
      have h0 : news.length = 0 := by rw [hlen]; omega
      rw [List.length_eq_zero_iff.1 h0] at hu
      simp at hu
    · refine ⟨⟨g, j * 4, none⟩, by simp [h], fun t u hu => ?_⟩
      have ht := (List.getElem?_eq_some_iff.1 hu).1
      rw [hlen] at ht
      rw [hnews, List.getElem?_take, if_pos ht, List.getElem?_drop] at hu
      rw [Addr.add_lit]
      show w.cell? _ = _
      rw [Lib.cell_of_heap hg, ← Array.getElem?_toList]; exact hu
  obtain ⟨c1, hc1⟩ : ∃ c1 : Array Value, c1 = (cur.toList.take (i * 4) ++ news ++ cur.toList.drop (i * 4 + news.length)).toArray := ⟨_, rfl⟩
  have hc1s : c1.size = cap * 4 := by rw [hc1]; simp [hlen, hcl]; omega
  obtain ⟨W1, hW1⟩ : ∃ W1, W1 = w.drew.setRow g c1 := ⟨_, rfl⟩
  have hgd : w.drew.heap[g]? = some (.cells cur 31 (0, 0)) := hg
  have happ : Hid (∀ ty, (Builtin.append_ #[24, 24] ty #[.slice (some ⟨g, 0, none⟩) i cap, .slice (some A) (n - j) (cap - j)]).run Tryd.prog w.drew = .ok (.slice (some ⟨g, 0, none⟩) (i + (n - j)) cap) W1) := fun ty => by
    have := run_append_room_row (P := Tryd.prog) w.drew 24 24 ty 31 i0 Tryd.underlying24 hi0 g i cap cur 31 hgd (.slice (some A) (n - j) (cap - j)) (n - j) news (Src.ofSlice _ Tryd.underlying24 A (n - j) (cap - j) news (by rw [hi4]; exact hlen) hsrc (fun u hu => by
      rw [hnews] at hu
      exact one u hu)) (by omega) (by rw [hi4, hlen, hsz]; omega)
    rw [this, hW1, hc1, hi4]
  have hg1 : W1.heap[g]? = some (.cells c1 31 (0, 0)) := by rw [hW1]; exact setRow_heap w.drew g _ _ _ _ hgd
  obtain ⟨z, hz, hz4, hz1⟩ : ∃ z : Value, (∀ w, (zeroValue 31).run Tryd.prog w = .ok z w) ∧ z.cells.size = 4 ∧ ∀ v ∈ z.cells.toList, v.oneCell' = true := ⟨_, Tryd.zeroValue31, by kernel_rfl, by decide⟩
  obtain ⟨c2, hc2⟩ : ∃ c2 : Array Value, c2 = (c1.toList.take ((i + (n - j)) * 4) ++ (Builtin.zeroCells z.cells (n - (i + (n - j)))).toList ++ c1.toList.drop ((i + (n - j)) * 4 + (n - (i + (n - j))) * z.cells.size)).toArray := ⟨_, rfl⟩
  obtain ⟨W2, hW2⟩ : ∃ W2, W2 = W1.setRow g c2 := ⟨_, rfl⟩
  have hclr : ∀ ty, (Builtin.clear_ #[24] ty #[.slice (some ⟨g, (i + (n - j)) * 4, none⟩) (n - (i + (n - j))) (cap - (i + (n - j)))]).run Tryd.prog W1 = .ok (.tuple #[]) W2 := fun ty => by
    rw [run_clear_rows W1 24 31 ty z Tryd.underlying24 hz hz1 g ((i + (n - j)) * 4) (n - (i + (n - j))) _ (by omega) c1 31 hg1 (by rw [hz4, hc1s]; omega), hW2, hc2]
  have hg2 : W2.heap[g]? = some (.cells c2 31 (0, 0)) := by rw [hW2]; exact setRow_heap W1 g _ _ _ _ hg1
  have hc1l : c1.toList.length = cap * 4 := by rw [Array.length_toList]; exact hc1s
  have fin : Hid (∃ cur' : Array Value, W2.heap[g]? = some (.cells cur' 31 (0, 0)) ∧ cur'.size = cap * 4 ∧ cur'.toList.take ((i + (n - j)) * 4) = cur.toList.take (i * 4) ++ (cur.toList.drop (j * 4)).take ((n - j) * 4) ∧ SlNew w W2 (some g)) := by
    refine ⟨c2, hg2, ?_, ?_, ?_⟩
    · rw [hc2]; simp [zeroCells_size, hz4, hc1l]; omega
    · rw [hc2]
      simp only
      rw [List.append_assoc, List.take_append_of_le_length (by rw [List.length_take, hc1l]; omega), List.take_of_length_le (by rw [List.length_take]; omega), hc1]
      simp only
      rw [List.take_append_of_le_length (by rw [List.length_append, List.length_take, hlen, hcl]; omega), List.take_of_length_le (by rw [List.length_append, List.length_take, hlen, hcl]; omega), hnews]
    · rw [hW2, hW1]; exact slNew_rows w g _ _
  clear hnews hlen hsrc hc1 hc1s hW1 hgd hg1 hz hz4 hz1 hc2 hW2 hg2 hc1l hcl hg hsz one
  go_enter Tryd.func14, Tryd.ntmps14
  go_wp2_with fail
  go_region_law (refine step_append_run rfl (.tmp 22) (.tmp 25) 24 24 rfl (.slice (some ⟨g, 0, none⟩) i cap) (.slice (some A) (n - j) (cap - j)) (by simp [Act.eval, Act.put]) (by simp [Act.eval, Act.put]) (happ.out _) ?_)
  go_wp2
  go_ret
  exact ⟨rfl, fin.out⟩
end Go.Proofs

/- slices.Insert at a struct: run equations for its walk (the walk itself is still to do). -/
set_option linter.unusedVariables false
set_option linter.unusedSimpArgs false
namespace Go.Proofs
open Go.RowKit Go.Rx
section
variable {P : Program}
/-- copy at elements of so many cells: the cells are read first, so the two may overlap. -/
theorem run_copy_rows (w : World) (dT sT ty e : TypeId) (i : TypeInfo) (hu : P.underlying dT = some (.slice e)) (hi : P.info? e = some i) (g o dLen dCap : Nat) (a : Addr) (sLen sCap : Nat) (cur : Array Value) (t : TypeId) (cs : List Value)
    (hg : w.heap[g]? = some (.cells cur t (0, 0))) (hn : cs.length = Nat.min sLen dLen * i.size) (hsrc : ∀ j v, cs[j]? = some v → w.cell? (a.add j) = some v) (hfit : o + cs.length ≤ cur.size) (h1 : ∀ v ∈ cs, v.oneCell' = true) :
    (Builtin.copy_ #[dT, sT] ty #[.slice (some ⟨g, o, none⟩) dLen dCap, .slice (some a) sLen sCap]).run P w = .ok (goInt (Nat.min sLen dLen)) (w.setRow g (cur.toList.take o ++ cs ++ cur.toList.drop (o + cs.length)).toArray) := by
  have hst := run_storeCells_at P g o t cs 0 cur w hg (by simpa using hfit) h1
  rw [Nat.add_zero] at hst
  have hf := run_firstCells_some (P := P) w i.size (Nat.min sLen dLen) a sLen sCap cs hn hsrc
  simp [Builtin.copy_, run_underlying hu, Builtin.lenOf, sizeOf, typeInfo, hi, hf, hst]
theorem wpList_copy_runB {w : World} {ops : Array Oper} {rest : List Oper} {o : Oper} {a : Act} {Q : Exit → Act → World → Prop} (hgd : o.guard = none) (s x : Operand) (t t' : TypeId)
    (ho : o.op = .call { callee := .builtin .copy, args := #[s, x], argTypes := #[t, t'] }) (u v : Value) (hs : a.eval s = u) (hx : a.eval x = v) {r : Value} {w' : World}
    (hr : (Builtin.copy_ #[t, t'] o.type #[u, v]).run P w = .ok r w') (h : wpList P ops Q rest (a.put o.dst r) w') : wpList P ops Q (o :: rest) a w := by
  refine wpList_plain hgd fun K hK => ?_
  unfold Oper.wp
  simp [execOp, ho, resolve, invoke, builtin, hs, hx, hr, Result.andThen]
  exact hK _ _ h
theorem step_copy_run {ops : Array Oper} {o : Oper} {a : Act} {w : World} {K : Act → World → Prop} {Q : Exit → Act → World → Prop} {E : Prop}
    (hg : o.guard = none) (s x : Operand) (t t' : TypeId) (hop : o.op = Op.call { callee := Callee.builtin Builtin.copy, args := #[s, x], argTypes := #[t, t'] }) (u v : Value) (hs : a.eval s = u) (hx : a.eval x = v) {r : Value} {w' : World}
    (hr : (Builtin.copy_ #[t, t'] o.type #[u, v]).run P w = .ok r w') (hK : K (a.put o.dst r) w') : if Region.wanted o (yielded ops a.tmps) = true then Oper.wp P o a w K Q else E := by
  have hw : Region.wanted o (yielded ops a.tmps) = true := by simp [Region.wanted, hg]
  rw [if_pos hw]
  unfold Oper.wp
  simp [execOp, hop, resolve, invoke, builtin, hs, hx, hr, Result.andThen]
  exact hK
theorem wpList_append_runB {w : World} {ops : Array Oper} {rest : List Oper} {o : Oper} {a : Act} {Q : Exit → Act → World → Prop} (hgd : o.guard = none) (s x : Operand) (t t' : TypeId)
    (ho : o.op = .call { callee := .builtin .append, args := #[s, x], argTypes := #[t, t'] }) (u v : Value) (hs : a.eval s = u) (hx : a.eval x = v) {r : Value} {w' : World}
    (hr : (Builtin.append_ #[t, t'] o.type #[u, v]).run P w = .ok r w') (h : wpList P ops Q rest (a.put o.dst r) w') : wpList P ops Q (o :: rest) a w := by
  refine wpList_plain hgd fun K hK => ?_
  unfold Oper.wp
  simp [execOp, ho, resolve, invoke, builtin, hs, hx, hr, Result.andThen]
  exact hK _ _ h
end
set_option maxHeartbeats 4000000 in
set_option maxRecDepth 1000000 in
/-- Insert at the end: an append. -/
theorem Tryd.insert_end (g n cap : Nat) (A : Addr) (vc : Nat) (r : Value) (w W1 : World) (hn : n ≤ cap) (hcap : cap ≤ 9223372036854775807)
    (happ : ∀ ty, (Builtin.append_ #[24, 24] ty #[.slice (some ⟨g, 0, none⟩) n cap, .slice (some A) 1 vc]).run Tryd.prog w = .ok r W1) :
    Calls Tryd.prog 17 #[.slice (some ⟨g, 0, none⟩) n cap, .int .i64 n, .slice (some A) 1 vc] w fun e w' => e = .returned r ∧ w' = W1 := by
  obtain ⟨B, hB⟩ : ∃ B, (if cap = n then some (⟨g, 0, none⟩ : Addr) else some ⟨g, n * 4, none⟩) = B := ⟨_, rfl⟩
  go_enter Tryd.func17, Tryd.ntmps17
  go_wp2_with (at_builtin; refine wpList_append_runB rfl (.tmp 23) (.tmp 24) 24 24 rfl _ _ rfl rfl (happ _) ?_)
  go_wp2
  all_goals (go_ret; exact ⟨rfl, rfl⟩)
set_option maxHeartbeats 4000000 in
set_option maxRecDepth 1000000 in
theorem Tryd.insert_nil (A : Addr) (vc : Nat) (r : Value) (w W1 : World)
    (happ : ∀ ty, (Builtin.append_ #[24, 24] ty #[.slice none 0 0, .slice (some A) 1 vc]).run Tryd.prog w = .ok r W1) :
    Calls Tryd.prog 17 #[.slice none 0 0, .int .i64 0, .slice (some A) 1 vc] w fun e w' => e = .returned r ∧ w' = W1 := by
  go_enter Tryd.func17, Tryd.ntmps17
  go_wp2_with (at_builtin; refine wpList_append_runB rfl (.tmp 23) (.tmp 24) 24 24 rfl _ _ rfl rfl (happ _) ?_)
  go_wp2
  all_goals (go_ret; exact ⟨rfl, rfl⟩)
set_option maxHeartbeats 4000000 in
set_option maxRecDepth 1000000 in
theorem Tryd.insert_grow (g n cap i G C : Nat) (A : Addr) (vc : Nat) (r1 r2 : Value) (w W1 W2 W3 : World) (hin : i < n) (hn : n ≤ cap) (hroom : cap < n + 1) (hC : n + 1 ≤ C) (hn2 : n ≤ 1073741824)
    (happ : ∀ ty, (Builtin.append_ #[24, 3] ty #[.slice (some ⟨g, 0, none⟩) i cap, .int .i64 ((n : Int) + 1 - (i : Int))]).run Tryd.prog w = .ok (.slice (some ⟨G, 0, none⟩) (n + 1) C) W1)
    (hcp1 : ∀ ty, (Builtin.copy_ #[24, 24] ty #[.slice (some ⟨G, i * 4, none⟩) (n + 1 - i) (C - i), .slice (some A) 1 vc]).run Tryd.prog W1 = .ok r1 W2)
    (hcp2 : ∀ ty, (Builtin.copy_ #[24, 24] ty #[.slice (some ⟨G, (i + 1) * 4, none⟩) (n + 1 - (i + 1)) (C - (i + 1)), .slice (some ⟨g, i * 4, none⟩) (n - i) (cap - i)]).run Tryd.prog W2.drew = .ok r2 W3) :
    Calls Tryd.prog 17 #[.slice (some ⟨g, 0, none⟩) n cap, .int .i64 i, .slice (some A) 1 vc] w fun e w' => e = .returned (.slice (some ⟨G, 0, none⟩) (n + 1) C) ∧ w' = W3 := by
  have f1 : ¬ cap = i := by omega
  have f2 : ¬ C = i := by omega
  have f3 : ¬ C = i + 1 := by omega
  have f4 : i ≤ cap := by omega
  have f5 : ¬ ((i : Int) = (n : Int)) := by omega
  have f6 : (cap : Int) < (n : Int) + 1 := by omega
  have f7 : i ≤ C := by omega
  have f8 : i + 1 ≤ C := by omega
  have f9 : ((i : Int) + 1).toNat = i + 1 := by omega
  have f10 : (0 : Int) ≤ (i : Int) + 1 := by omega
  have f11 : (i : Int) + 1 ≤ (n : Int) + 1 := by omega
  have f12 : i ≤ n := by omega
  have f13 : IntKind.i64.wrap ((i : Int) + 1) = (i : Int) + 1 := by rw [IntKind.wrap_i64]; omega
  go_enter Tryd.func17, Tryd.ntmps17
  go_wp2_with (first
    | (at_builtin; refine wpList_append_runB rfl (.tmp 34) (.tmp 39) 24 3 rfl _ _ rfl rfl (happ _) ?_)
    | (at_builtin; refine wpList_copy_runB rfl (.tmp 43) (.tmp 44) 24 24 rfl _ _ rfl rfl (hcp1 _) ?_))
  go_region_law (refine step_copy_run rfl (.tmp 50) (.tmp 53) 24 24 rfl (.slice (some ⟨G, (i + 1) * 4, none⟩) (n + 1 - (i + 1)) (C - (i + 1))) (.slice (some ⟨g, i * 4, none⟩) (n - i) (cap - i)) (by simp [Act.eval, Act.put]) (by simp [Act.eval, Act.put]) (hcp2 _) ?_)
  go_wp2
  go_ret
  exact ⟨rfl, rfl⟩
set_option maxHeartbeats 4000000 in
set_option maxRecDepth 1000000 in
theorem Tryd.insert_room (g n cap i : Nat) (A : Addr) (vc : Nat) (r1 r2 : Value) (w W1 W2 : World) (hin : i < n) (hn : n + 1 ≤ cap) (hn2 : n ≤ 1073741824)
    (hov : (callFunc 22 #[.slice (some A) 1 vc, .slice (some ⟨g, (i + 1) * 4, none⟩) (n - i) (cap - (i + 1))]).run Tryd.prog w = .ok (.value (.bool false)) w)
    (hcp1 : ∀ ty, (Builtin.copy_ #[24, 24] ty #[.slice (some ⟨g, (i + 1) * 4, none⟩) (n + 1 - (i + 1)) (cap - (i + 1)), .slice (some ⟨g, i * 4, none⟩) (n + 1 - i) (cap - i)]).run Tryd.prog w.drew = .ok r1 W1)
    (hcp2 : ∀ ty, (Builtin.copy_ #[24, 24] ty #[.slice (some ⟨g, i * 4, none⟩) (n + 1 - i) (cap - i), .slice (some A) 1 vc]).run Tryd.prog W1 = .ok r2 W2) :
    Calls Tryd.prog 17 #[.slice (some ⟨g, 0, none⟩) n cap, .int .i64 i, .slice (some A) 1 vc] w fun e w' => e = .returned (.slice (some ⟨g, 0, none⟩) (n + 1) cap) ∧ w' = W2 := by
  have f1 : ¬ cap = i := by omega
  have f3 : ¬ cap = i + 1 := by omega
  have f4 : i ≤ cap := by omega
  have f5 : ¬ ((i : Int) = (n : Int)) := by omega
  have f6 : ¬ (cap : Int) < (n : Int) + 1 := by omega
  have f8 : i + 1 ≤ cap := by omega
  have f9 : ((i : Int) + 1).toNat = i + 1 := by omega
  have f10 : (0 : Int) ≤ (i : Int) + 1 := by omega
  have f11 : (i : Int) + 1 ≤ (n : Int) + 1 := by omega
  have f12 : i ≤ n := by omega
  have f13 : IntKind.i64.wrap ((i : Int) + 1) = (i : Int) + 1 := by rw [IntKind.wrap_i64]; omega
  have f14 : ((n : Int) + 1).toNat = n + 1 := by omega
  have f15 : (n : Int) + 1 ≤ (cap : Int) := by omega
  have f16 : i ≤ n + 1 := by omega
  have f17 : (i : Int) ≤ (n : Int) + 1 := by omega
  go_enter Tryd.func17, Tryd.ntmps17
  go_wp2
  go_region_law (refine step_copy_run rfl (.tmp 73) (.tmp 76) 24 24 rfl (.slice (some ⟨g, (i + 1) * 4, none⟩) (n + 1 - (i + 1)) (cap - (i + 1))) (.slice (some ⟨g, i * 4, none⟩) (n + 1 - i) (cap - i)) (by simp [Act.eval, Act.put]) (by simp [Act.eval, Act.put]) (hcp1 _) ?_)
  go_wp2_with (at_builtin; refine wpList_copy_runB rfl (.tmp 80) (.tmp 81) 24 24 rfl _ _ rfl rfl (hcp2 _) ?_)
  go_wp2
  go_ret
  exact ⟨rfl, rfl⟩
end Go.Proofs

/- Contracts of slices.Delete at bonds, out of its walk. -/
set_option linter.unusedVariables false
set_option maxRecDepth 100000
namespace Go.Ad
open Go Go.Rx Go.Proofs Go.RowKit
theorem ok_bdel {wb : World} : k_bdel.Ok Tryd.prog wb (flatS sh SB k_bdel.id) := by
  refine ⟨fun args w => enters (by kernel_rfl) _ _, fun F w v0 code vs zs hw ho hc hz hpre hat hF => ?_⟩
  match zs, hz, vs, hat with
  | [i, j], hz, [vi, vj], hat =>
    obtain ⟨hvi, hvj, _⟩ := hat
    have hvi : vi = .int .i64 i := hvi
    have hvj : vj = .int .i64 j := hvj
    have hpre : 0 ≤ i ∧ i < j ∧ j ≤ ((rOf code).length : Int) ∧ (rOf code).length ≤ 1073741824 := hpre
    obtain ⟨p0, p1, p2, p3⟩ := hpre
    rcases ho with ⟨_, h0⟩ | ⟨g, cap, cells, hv, ⟨hcap1, hcap2⟩, hwb, hg, hrows, hsz⟩
    · rw [h0] at p2; simp at p2; omega
    · obtain ⟨hok, pre, post, hcells, hpre0⟩ := hrows
      have hpre0 : pre = [] := List.eq_nil_of_length_eq_zero hpre0
      subst hpre0
      have hfl : ∀ rows : List (List Int), (∀ row ∈ rows, RowOk k_bdel.sh row) → (flatV k_bdel.sh rows).length = rows.length * 4 := fun rows h => flatV_len h
      obtain ⟨a, ha⟩ : ∃ a : Nat, i = a := ⟨i.toNat, by omega⟩
      obtain ⟨b, hb⟩ : ∃ b : Nat, j = b := ⟨j.toNat, by omega⟩
      subst ha hb
      have hsplit : flatV k_bdel.sh (rOf code) = flatV k_bdel.sh ((rOf code).take b) ++ flatV k_bdel.sh ((rOf code).drop b) := by rw [← flatV_append, List.take_append_drop]
      have hl1 := hfl ((rOf code).take b) fun r h => hok r (List.mem_of_mem_take h)
      have hl2 := hfl ((rOf code).drop b) fun r h => hok r (List.mem_of_mem_drop h)
      rw [List.length_take, Nat.min_eq_left (by omega)] at hl1
      rw [List.length_drop] at hl2
      have hnews : (cells.toList.drop (b * 4)).take (((rOf code).length - b) * 4) = flatV k_bdel.sh ((rOf code).drop b) := by
        rw [hcells, List.nil_append, hsplit, List.append_assoc, List.drop_append_of_le_length (by omega), List.drop_of_length_le (by omega), List.nil_append, List.take_append_of_le_length (by omega), List.take_of_length_le (by omega)]
      have hhead : cells.toList.take (a * 4) = flatV k_bdel.sh ((rOf code).take a) := by
        have hl3 := hfl ((rOf code).take a) fun r h => hok r (List.mem_of_mem_take h)
        rw [List.length_take, Nat.min_eq_left (by omega)] at hl3
        have : flatV k_bdel.sh (rOf code) = flatV k_bdel.sh ((rOf code).take a) ++ flatV k_bdel.sh ((rOf code).drop a) := by rw [← flatV_append, List.take_append_drop]
        rw [hcells, List.nil_append, this, List.append_assoc, List.take_append_of_le_length (by omega), List.take_of_length_le (by omega)]
      have hown : ownOf v0 = some g := by
        rw [hv]
        obtain ⟨c', rfl⟩ : ∃ c', cap = c' + 1 := ⟨cap - 1, by omega⟩
        rfl
      have hwalk := Tryd.delete_walk g cap (rOf code).length a b cells w hg hsz hcap1 (by omega) (by omega) (by omega) (by rw [hnews]; exact flatV_one)
      rw [hvi, hvj, hv]
      refine hwalk.mono ?_
      rintro e w' ⟨rfl, cur', hg', hs', ht', hnew⟩
      rw [hhead, hnews, ← flatV_append] at ht'
      have hall : ∀ row ∈ (rOf code).take a ++ (rOf code).drop b, RowOk k_bdel.sh row := fun row hr => (List.mem_append.1 hr).elim (fun h => hok row (List.mem_of_mem_take h)) fun h => hok row (List.mem_of_mem_drop h)
      have hlen' : ((rOf code).take a ++ (rOf code).drop b).length = a + ((rOf code).length - b) := by rw [List.length_append, List.length_take, List.length_drop, Nat.min_eq_left (by omega)]
      rw [← hv]
      refine ⟨by rw [hown]; exact hnew, rc ((rOf code).take a ++ (rOf code).drop b), _, ⟨rc_nonneg _, RB_rows (by kernel_rfl) (by rw [hlen']; omega) hall⟩, ?_, Or.inr ⟨g, cap, cur', ?_, ⟨?_, hcap2⟩, .inl hown, hg', ⟨?_, [], cur'.toList.drop ((a + ((rOf code).length - b)) * 4), ?_, rfl⟩, hs'⟩, rfl⟩
      · show rOf (rc _) = (rOf code).take ((a : Int)).toNat ++ (rOf code).drop ((b : Int)).toNat
        rw [rOf_rc]; rfl
      · rw [rOf_rc, hlen']
      · rw [rOf_rc, hlen']; omega
      · rw [rOf_rc]; exact hall
      · rw [rOf_rc, ← ht', List.nil_append, List.take_append_drop]
end Go.Ad
