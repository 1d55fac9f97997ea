/- Pai: a part of the proof of statements of this seat. -/
import Derived.Test.YtpffjcablmkiiaaDoorPah
import Derived.Test.YtpffjcablmkiiaaDoorPag
import Derived.Test.YtpffjcablmkiiaaDoorProg
import Derived.KernelRfl
import Derived.Shelf.Lay
import Derived.Shelf.LaySoft
import Derived.Shelf.Strings.Search1
import Derived.Shelf.Strings.Search3
import Derived.Shelf.Small.Strs
import Derived.BigCall
import Derived.Shelf.Strings.Builder1
import Derived.Lib.IndexMore
set_option maxRecDepth 100000
set_option linter.unusedVariables false
set_option linter.unusedSimpArgs false
namespace Go.Ad
open Go Go.Rx
def B_bBind (S : Nat → List (List Int) → List (List Int) → Prop) (K : List (List Int) → List (List Int) → Prop) : Prop :=
 ∀ z0 : Int, 0 ≤ z0 → z0 ≤ RB → ∀ r1 : List Int, inB [(0, HB), (0, HB), (0, HB), ((-9223372036854775808), 9223372036854775807)] r1 → 
 ∀ z5 : Int, 0 ≤ z5 →
 ∀ z6 : Int, (-1) ≤ z6 → z6 ≤ 9223372036854775807 → 
 ∀ z7 : Int, 0 ≤ z7 → z7 ≤ 9223372036854775807 → z7 = fnD 20 [z0] →
 ∀ z8 : Int, 0 ≤ z8 → z8 ≤ 1 → S 300 [r1] [[z8]] →
 ((((!(decide (z8 = 1)))) = true →
  chkD 22 [z0, 0, z7] ∧
  ∀ z9 : Int, 0 ≤ z9 → z9 ≤ RB → z9 = fnD 22 [z0, 0, z7] →
  K [[z0], r1] [[z9], [1]]
 ) ∧ (((!(decide (z8 = 1)))) = false →
  chkD 22 [z0, 0, z7] ∧
  ∀ z9 : Int, 0 ≤ z9 → z9 ≤ RB → z9 = fnD 22 [z0, 0, z7] →
  ∀ z10 : Int, 0 ≤ z10 → z10 ≤ 1 → S 303 [[z9]] [[z10]] →
  ((((!(decide (z10 = 1)))) = true →
   chkD 22 [z0, 0, z7] ∧
   ∀ z11 : Int, 0 ≤ z11 → z11 ≤ RB → z11 = fnD 22 [z0, 0, z7] →
   K [[z0], r1] [[z11], [1]]
  ) ∧ (((!(decide (z10 = 1)))) = false →
   chkD 22 [z0, 0, z7] ∧
   ∀ z11 : Int, 0 ≤ z11 → z11 ≤ RB → z11 = fnD 22 [z0, 0, z7] →
   ∀ z12 : Int, 0 ≤ z12 → z12 ≤ 9223372036854775807 → ∀ z13 : Int, 0 ≤ z13 → z13 ≤ 1 → S 302 [[z11], [(List.getD r1 0 0), (List.getD r1 1 0)]] [[z12], [z13]] →
   ((((!(decide (z13 = 1)))) = true →
    (((decide (z7 = 64)) = true →
     chkD 22 [z0, 0, z7] ∧
     ∀ z14 : Int, 0 ≤ z14 → z14 ≤ RB → z14 = fnD 22 [z0, 0, z7] →
     K [[z0], r1] [[z14], [10]]
    ) ∧ ((decide (z7 = 64)) = false →
     chkD 53 [z6, z7] →
     (((decide (z6 < 0)) = true →
      ((((!(decide (z13 = 1)))) = true →
       ∀ z14 : Int, 0 ≤ z14 → z14 ≤ RB → z14 = fnD 23 [0, (List.getD r1 0 0), (List.getD r1 1 0), (List.getD r1 2 0), (List.getD r1 3 0)] →
       chkD 51 [0, z12, z14] ∧
       ∀ z15 : Int, 0 ≤ z15 → z15 ≤ RB → S 306 [[0], [z12], [z14]] [[z15]] →
       ∀ z16 : Int, (-1) ≤ z16 → z16 ≤ 9223372036854775807 → 
       ∀ z17 : Int, 0 ≤ z17 → z17 ≤ 9223372036854775807 → z17 = fnD 20 [z15] →
       chkD 30 [z12, z17] ∧
       chkD 21 [z15, z12] ∧
       ∀ z18 : Int, 0 ≤ z18 → z18 ≤ RB → z18 = fnD 42 [z15, z12, 0, (List.getD r1 0 0), (List.getD r1 1 0), (List.getD r1 2 0), (List.getD r1 3 0)] →
       chkD 22 [z18, 0, z17] ∧
       ∀ z19 : Int, 0 ≤ z19 → z19 ≤ RB → z19 = fnD 22 [z18, 0, z17] →
       K [[z0], r1] [[z19], [0]]
      ) ∧ (((!(decide (z13 = 1)))) = false →
       False
      ))
     ) ∧ ((decide (z6 < 0)) = false →
      chkD 22 [z0, 0, z7] ∧
      chkD 23 [0, z7] ∧
      ∀ z14 : Int, 0 ≤ z14 → z14 ≤ RB → z14 = fnD 22 [z0, 0, z7] →
      ∀ z15 : Int, 0 ≤ z15 → z15 ≤ RB → z15 = fnD 24 [0, z14] →
      (((decide (z7 ≤ 0)) = true →
       ((((!(decide (z13 = 1)))) = true →
        ∀ z16 : Int, 0 ≤ z16 → z16 ≤ RB → z16 = fnD 23 [0, (List.getD r1 0 0), (List.getD r1 1 0), (List.getD r1 2 0), (List.getD r1 3 0)] →
        chkD 51 [0, z12, z16] ∧
        ∀ z17 : Int, 0 ≤ z17 → z17 ≤ RB → S 306 [[0], [z12], [z16]] [[z17]] →
        ∀ z18 : Int, (-1) ≤ z18 → z18 ≤ 9223372036854775807 → 
        ∀ z19 : Int, 0 ≤ z19 → z19 ≤ 9223372036854775807 → z19 = fnD 20 [z17] →
        chkD 30 [z12, z19] ∧
        chkD 21 [z17, z12] ∧
        ∀ z20 : Int, 0 ≤ z20 → z20 ≤ RB → z20 = fnD 42 [z17, z12, 0, (List.getD r1 0 0), (List.getD r1 1 0), (List.getD r1 2 0), (List.getD r1 3 0)] →
        chkD 22 [z20, 0, z19] ∧
        ∀ z21 : Int, 0 ≤ z21 → z21 ≤ RB → z21 = fnD 22 [z20, 0, z19] →
        K [[z0], r1] [[z21], [0]]
       ) ∧ (((!(decide (z13 = 1)))) = false →
        False
       ))
      ) ∧ ((decide (z7 ≤ 0)) = false →
       ∀ z16 : Int, (-1) ≤ z16 → z16 ≤ 9223372036854775807 → 
       ((((!(decide (z13 = 1)))) = true →
        chkD 31 [z15, z7] ∧
        ∀ z17 : Int, 0 ≤ z17 → z17 ≤ RB → z17 = fnD 23 [0, (List.getD r1 0 0), (List.getD r1 1 0), (List.getD r1 2 0), (List.getD r1 3 0)] →
        chkD 51 [z15, z12, z17] ∧
        ∀ z18 : Int, 0 ≤ z18 → z18 ≤ RB → S 306 [[z15], [z12], [z17]] [[z18]] →
        ∀ z19 : Int, (-1) ≤ z19 → z19 ≤ 9223372036854775807 → 
        ∀ z20 : Int, 0 ≤ z20 → z20 ≤ 9223372036854775807 → z20 = fnD 20 [z18] →
        chkD 30 [z12, z20] ∧
        chkD 21 [z18, z12] ∧
        ∀ z21 : Int, 0 ≤ z21 → z21 ≤ RB → z21 = fnD 42 [z18, z12, 0, (List.getD r1 0 0), (List.getD r1 1 0), (List.getD r1 2 0), (List.getD r1 3 0)] →
        chkD 22 [z21, 0, z20] ∧
        ∀ z22 : Int, 0 ≤ z22 → z22 ≤ RB → z22 = fnD 22 [z21, 0, z20] →
        K [[z0], r1] [[z22], [0]]
       ) ∧ (((!(decide (z13 = 1)))) = false →
        chkD 30 [z12, z7] ∧
        chkD 21 [z15, z12] ∧
        ∀ z17 : Int, 0 ≤ z17 → z17 ≤ RB → z17 = fnD 42 [z15, z12, 0, (List.getD r1 0 0), (List.getD r1 1 0), (List.getD r1 2 0), (List.getD r1 3 0)] →
        chkD 22 [z17, 0, z7] ∧
        ∀ z18 : Int, 0 ≤ z18 → z18 ≤ RB → z18 = fnD 22 [z17, 0, z7] →
        K [[z0], r1] [[z18], [0]]
       ))
      ))
     ))
    ))
   ) ∧ (((!(decide (z13 = 1)))) = false →
    chkD 53 [z6, z7] →
    (((decide (z6 < 0)) = true →
     ((((!(decide (z13 = 1)))) = true →
      ∀ z14 : Int, 0 ≤ z14 → z14 ≤ RB → z14 = fnD 23 [0, (List.getD r1 0 0), (List.getD r1 1 0), (List.getD r1 2 0), (List.getD r1 3 0)] →
      chkD 51 [0, z12, z14] ∧
      ∀ z15 : Int, 0 ≤ z15 → z15 ≤ RB → S 306 [[0], [z12], [z14]] [[z15]] →
      ∀ z16 : Int, (-1) ≤ z16 → z16 ≤ 9223372036854775807 → 
      ∀ z17 : Int, 0 ≤ z17 → z17 ≤ 9223372036854775807 → z17 = fnD 20 [z15] →
      chkD 30 [z12, z17] ∧
      chkD 21 [z15, z12] ∧
      ∀ z18 : Int, 0 ≤ z18 → z18 ≤ RB → z18 = fnD 42 [z15, z12, 0, (List.getD r1 0 0), (List.getD r1 1 0), (List.getD r1 2 0), (List.getD r1 3 0)] →
      chkD 22 [z18, 0, z17] ∧
      ∀ z19 : Int, 0 ≤ z19 → z19 ≤ RB → z19 = fnD 22 [z18, 0, z17] →
      K [[z0], r1] [[z19], [0]]
     ) ∧ (((!(decide (z13 = 1)))) = false →
      False
     ))
    ) ∧ ((decide (z6 < 0)) = false →
     chkD 22 [z0, 0, z7] ∧
     chkD 23 [0, z7] ∧
     ∀ z14 : Int, 0 ≤ z14 → z14 ≤ RB → z14 = fnD 22 [z0, 0, z7] →
     ∀ z15 : Int, 0 ≤ z15 → z15 ≤ RB → z15 = fnD 24 [0, z14] →
     (((decide (z7 ≤ 0)) = true →
      ((((!(decide (z13 = 1)))) = true →
       ∀ z16 : Int, 0 ≤ z16 → z16 ≤ RB → z16 = fnD 23 [0, (List.getD r1 0 0), (List.getD r1 1 0), (List.getD r1 2 0), (List.getD r1 3 0)] →
       chkD 51 [0, z12, z16] ∧
       ∀ z17 : Int, 0 ≤ z17 → z17 ≤ RB → S 306 [[0], [z12], [z16]] [[z17]] →
       ∀ z18 : Int, (-1) ≤ z18 → z18 ≤ 9223372036854775807 → 
       ∀ z19 : Int, 0 ≤ z19 → z19 ≤ 9223372036854775807 → z19 = fnD 20 [z17] →
       chkD 30 [z12, z19] ∧
       chkD 21 [z17, z12] ∧
       ∀ z20 : Int, 0 ≤ z20 → z20 ≤ RB → z20 = fnD 42 [z17, z12, 0, (List.getD r1 0 0), (List.getD r1 1 0), (List.getD r1 2 0), (List.getD r1 3 0)] →
       chkD 22 [z20, 0, z19] ∧
       ∀ z21 : Int, 0 ≤ z21 → z21 ≤ RB → z21 = fnD 22 [z20, 0, z19] →
       K [[z0], r1] [[z21], [0]]
      ) ∧ (((!(decide (z13 = 1)))) = false →
       False
      ))
     ) ∧ ((decide (z7 ≤ 0)) = false →
      ∀ z16 : Int, (-1) ≤ z16 → z16 ≤ 9223372036854775807 → 
      ((((!(decide (z13 = 1)))) = true →
       chkD 31 [z15, z7] ∧
       ∀ z17 : Int, 0 ≤ z17 → z17 ≤ RB → z17 = fnD 23 [0, (List.getD r1 0 0), (List.getD r1 1 0), (List.getD r1 2 0), (List.getD r1 3 0)] →
       chkD 51 [z15, z12, z17] ∧
       ∀ z18 : Int, 0 ≤ z18 → z18 ≤ RB → S 306 [[z15], [z12], [z17]] [[z18]] →
       ∀ z19 : Int, (-1) ≤ z19 → z19 ≤ 9223372036854775807 → 
       ∀ z20 : Int, 0 ≤ z20 → z20 ≤ 9223372036854775807 → z20 = fnD 20 [z18] →
       chkD 30 [z12, z20] ∧
       chkD 21 [z18, z12] ∧
       ∀ z21 : Int, 0 ≤ z21 → z21 ≤ RB → z21 = fnD 42 [z18, z12, 0, (List.getD r1 0 0), (List.getD r1 1 0), (List.getD r1 2 0), (List.getD r1 3 0)] →
       chkD 22 [z21, 0, z20] ∧
       ∀ z22 : Int, 0 ≤ z22 → z22 ≤ RB → z22 = fnD 22 [z21, 0, z20] →
       K [[z0], r1] [[z22], [0]]
      ) ∧ (((!(decide (z13 = 1)))) = false →
       chkD 30 [z12, z7] ∧
       chkD 21 [z15, z12] ∧
       ∀ z17 : Int, 0 ≤ z17 → z17 ≤ RB → z17 = fnD 42 [z15, z12, 0, (List.getD r1 0 0), (List.getD r1 1 0), (List.getD r1 2 0), (List.getD r1 3 0)] →
       chkD 22 [z17, 0, z7] ∧
       ∀ z18 : Int, 0 ≤ z18 → z18 ≤ RB → z18 = fnD 22 [z17, 0, z7] →
       K [[z0], r1] [[z18], [0]]
      ))
     ))
    ))
   ))
  ))
 ))
/-! ### Bonds bound -/
theorem filter_take {p : Bd → Bool} : ∀ {l : List Bd} {i : Nat}, i ≤ l.length → (∀ j, j < i → p (l.getD j bd0) = true) → (∀ j, i ≤ j → j < l.length → p (l.getD j bd0) = false) → l.filter p = l.take i
  | [], i, h, _, _ => by simp
  | a :: l, 0, h, _, h2 => by
    rw [List.take_zero, List.filter_eq_nil_iff]
    intro b hb
    obtain ⟨j, hj, rfl⟩ := List.mem_iff_getElem.1 hb
    have := h2 j (Nat.zero_le _) hj
    simp only [List.getD, List.getElem?_eq_getElem hj, Option.getD_some] at this
    rw [this]; decide
  | a :: l, i + 1, h, h1, h2 => by
    have h10 : p a = true := h1 0 (by omega)
    rw [List.filter_cons_of_pos h10, List.take_succ_cons, filter_take (i := i) (by simpa using h) (fun j hj => by have := h1 (j + 1) (by omega); simpa using this) (fun j hj hl => by have := h2 (j + 1) (by omega) (by simpa using hl); simpa using this)]
theorem filter_drop {p : Bd → Bool} : ∀ {l : List Bd} {i : Nat}, i ≤ l.length → (∀ j, j < i → p (l.getD j bd0) = false) → (∀ j, i ≤ j → j < l.length → p (l.getD j bd0) = true) → l.filter p = l.drop i
  | [], i, h, _, _ => by simp
  | a :: l, 0, h, _, h2 => by
    rw [List.drop_zero, List.filter_eq_self]
    intro b hb
    obtain ⟨j, hj, rfl⟩ := List.mem_iff_getElem.1 hb
    have := h2 j (Nat.zero_le _) hj
    simpa only [List.getD, List.getElem?_eq_getElem hj, Option.getD_some] using this
  | a :: l, i + 1, h, h1, h2 => by
    have h0 := h1 0 (by omega)
    rw [List.filter_cons_of_neg (by rw [show p a = false from h0]; decide), List.drop_succ_cons, filter_drop (i := i) (by simpa using h) (fun j hj => by have := h1 (j + 1) (by omega); simpa using this) (fun j hj hl => by have := h2 (j + 1) (by omega) (by simpa using hl); simpa using this)]
theorem set_map {w : Bd} : ∀ {l : List Bd} {i : Nat}, sortedB l = true → i < l.length → (l.getD i bd0).1 = w.1 → l.set i w = l.map (fun b => cond (b.1 == w.1) w b)
  | [], i, _, h, _ => by simp at h
  | a :: l, 0, hs, _, he => by
    have he : a.1 = w.1 := he
    rw [List.set_cons_zero, List.map_cons, he, beq_self_eq_true, cond_true]
    congr 1
    refine (List.map_id l).symm.trans (List.map_congr_left fun b hb => ?_)
    have h1 := sorted_head hs b hb
    have : ¬ b.1 = w.1 := fun e => by rw [e, ← he, lessA_irr] at h1; cases h1
    rw [beq_false_of_ne this]; rfl
  | a :: l, i + 1, hs, h, he => by
    have hi : i < l.length := by simpa using h
    have he : (l.getD i bd0).1 = w.1 := by simpa using he
    have hm : l.getD i bd0 ∈ l := by simp [List.getD, hi]
    have h1 := sorted_head hs _ hm
    have h2 : ¬ a.1 = w.1 := fun e => by rw [he, ← e, lessA_irr] at h1; cases h1
    rw [List.set_cons_succ, List.map_cons, beq_false_of_ne h2, set_map (sorted_tail hs) hi he]; rfl
theorem any_find {l : List Bd} {w : Tx × Tx} : l.any (·.1 == w) = (l.find? (fun b => b.1 == w)).isSome := by
  rw [Bool.eq_iff_iff, List.any_eq_true, List.find?_isSome]
abbrev rBB : BD := .rd [.str, .str, .str, .int .i64 (-9223372036854775808) 9223372036854775807]
theorem p_bBind : B_bBind SB (KBb SB [rBB, .d (.int .i64 0 21)] 308) := by
  intro z0 a0 a1 r1 hr1 z5 _ z6 _ _ z7 b0 b1 h7 z8 _ _ h8
  obtain ⟨w0, w1, w2, w3, rfl, _⟩ := inB4 hr1
  have h7 : z7 = ((rOf z0).length : Int) := h7
  have hlen := bds_len z0
  have W := fun y => whole_bds (z := z0) (y := y) h7
  have h8 : z8 = b01 (bOk (bdOf [w0, w1, w2, w3])) := h8
  have hd8 := b01_dec h8
  have kk : ∀ y e : Int, 0 ≤ y → y ≤ RB → 0 ≤ e → e ≤ 21 → (bds y, e) = bindF (bds z0) (bdOf [w0, w1, w2, w3]) → KBb SB [rBB, .d (.int .i64 0 21)] 308 [[z0], [w0, w1, w2, w3]] [[y], [e]] := fun y e y0 y1 e0 e1 h => K2 y0 y1 e0 e1 h
  have nt : ∀ {z : Int} {b : Bool}, decide (z = 1) = b → (!(decide (z = 1))) = true → b = false := fun h h2 => by rw [h] at h2; simpa using h2
  have nf : ∀ {z : Int} {b : Bool}, decide (z = 1) = b → (!(decide (z = 1))) = false → b = true := fun h h2 => by rw [h] at h2; simpa using h2
  refine ⟨fun hn => ⟨(W 0).1, fun z9 c0 c1 h9 => kk z9 1 c0 c1 (by decide) (by decide) ?_⟩, fun hn => ⟨(W 0).1, fun z9 _ _ h9 z10 _ _ h10 => ?_⟩⟩
  · unfold bindF; rw [nt hd8 hn, bds_same ((W z9).2 h9)]; rfl
  have hok := nf hd8 hn
  have h10 : z10 = b01 (rightL (bds z9)) := h10
  rw [bds_same ((W z9).2 h9)] at h10
  have hd := b01_dec h10
  refine ⟨fun hn => ⟨(W 0).1, fun z11 c0 c1 h11 => kk z11 1 c0 c1 (by decide) (by decide) ?_⟩, fun hn => ⟨(W 0).1, fun z11 _ _ h11 z12 c0 c1 z13 d0 d1 hS => ?_⟩⟩
  · unfold bindF; rw [nt hd hn, Bool.and_false, bds_same ((W z11).2 h11)]; rfl
  have hr := nf hd hn
  have hS : PlaceS (bds z11) (whoOf [w0, w1]) z12 z13 := hS
  rw [bds_same ((W z11).2 h11)] at hS
  obtain ⟨p1, p2⟩ := place_find hS hr
  have h64 := ((rightL_iff _).1 hr).1
  obtain ⟨⟨s1, s2⟩, s3, s4⟩ := hS
  obtain ⟨k1, k2, k3⟩ := s4 hr
  have ew : (bdOf [w0, w1, w2, w3]).1 = whoOf [w0, w1] := rfl
  have hB : bindF (bds z0) (bdOf [w0, w1, w2, w3]) = cond ((bds z0).find? (fun b => b.1 == whoOf [w0, w1])).isSome ((bds z0).map (fun b => cond (b.1 == whoOf [w0, w1]) (bdOf [w0, w1, w2, w3]) b), 0) (cond (decide ((bds z0).length = 64)) (bds z0, 10) ((bds z0).filter (fun b => lessA b.1 (whoOf [w0, w1])) ++ bdOf [w0, w1, w2, w3] :: (bds z0).filter (fun b => lessA (whoOf [w0, w1]) b.1), 0)) := by
    unfold bindF; rw [hok, hr, ← any_find]; rfl
  -- a bond more
  have INS : ∀ c : Int, z13 ≠ 1 → ¬ z7 = 64 → rOf c = rOf z0 → ∀ z14 : Int, 0 ≤ z14 → z14 ≤ RB → z14 = fnD 23 [0, w0, w1, w2, w3] → chkD 51 [c, z12, z14] ∧ ∀ z15 : Int, 0 ≤ z15 → z15 ≤ RB → SB 306 [[c], [z12], [z14]] [[z15]] → ∀ z16 : Int, (-1) ≤ z16 → z16 ≤ 9223372036854775807 → ∀ z17 : Int, 0 ≤ z17 → z17 ≤ 9223372036854775807 → z17 = fnD 20 [z15] → chkD 30 [z12, z17] ∧ chkD 21 [z15, z12] ∧ ∀ z18 : Int, 0 ≤ z18 → z18 ≤ RB → z18 = fnD 42 [z15, z12, 0, w0, w1, w2, w3] → chkD 22 [z18, 0, z17] ∧ ∀ z19 : Int, 0 ≤ z19 → z19 ≤ RB → z19 = fnD 22 [z18, 0, z17] → KBb SB [rBB, .d (.int .i64 0 21)] 308 [[z0], [w0, w1, w2, w3]] [[z19], [0]] := by
    intro c hnf hn64 hc z14 _ _ h14
    have hr14 : rOf z14 = [[w0, w1, w2, w3]] := by rw [h14]; simp only [fnD, rOf_rc, Go.Rx.rOf_zero, List.nil_append]
    refine ⟨⟨⟨c0, by rw [hc]; omega⟩, by rw [hr14]; rfl, by rw [hc]; omega⟩, fun z15 _ _ h15 z16 _ _ z17 _ _ h17 => ?_⟩
    have h15 : rOf z15 = (rOf c).take z12.toNat ++ rOf z14 ++ (rOf c).drop z12.toNat := h15
    rw [hc, hr14] at h15
    have h17 : z17 = ((rOf z15).length : Int) := h17
    have hl15 : (rOf z15).length = (rOf z0).length + 1 := by rw [h15]; simp; omega
    have hi0 : z12.toNat ≤ (rOf z0).length := by omega
    refine ⟨⟨c0, by omega⟩, ⟨c0, by omega⟩, fun z18 _ _ h18 => ?_⟩
    have hgi : (rOf z15).getD z12.toNat [] = [w0, w1, w2, w3] := by
      rw [h15, List.append_assoc]
      simp only [List.getD]
      rw [List.getElem?_append_right (by rw [List.length_take]; exact Nat.min_le_left _ _), List.length_take, Nat.min_eq_left hi0, Nat.sub_self]
      rfl
    have h18 : rOf z18 = rOf z15 := by
      rw [h18]
      simp only [fnD, rOf_rc, hgi]
      rw [show ([w0, w1, w2, w3].take (0 : Int).toNat ++ [w0, w1, w2, w3] ++ [w0, w1, w2, w3].drop ((0 : Int).toNat + [w0, w1, w2, w3].length)) = [w0, w1, w2, w3] from rfl]
      refine List.ext_getElem? fun j => ?_
      rw [List.getElem?_set]
      by_cases hj : z12.toNat = j
      · subst hj
        rw [if_pos rfl, if_pos (by omega)]
        have : (rOf z15)[z12.toNat]? = some ((rOf z15)[z12.toNat]'(by omega)) := List.getElem?_eq_getElem (by omega)
        rw [this]
        simp only [List.getD, this, Option.getD_some] at hgi
        rw [hgi]
      · rw [if_neg hj]
    have hw := whole_bds (z := z18) (n := z17) (y := 0) (by rw [h18]; exact h17)
    refine ⟨hw.1, fun z19 e0 e1 h19 => kk z19 0 e0 e1 (by decide) (by decide) ?_⟩
    have h19 := (whole_bds (z := z18) (n := z17) (y := z19) (by rw [h18]; exact h17)).2 h19
    have hlt : ∀ j, j < z12.toNat → lessA ((bds z0).getD j bd0).1 (whoOf [w0, w1]) = true := fun j hj => cmpA_neg.1 (k1 j (by omega))
    have hge : ∀ j, z12.toNat ≤ j → j < (bds z0).length → lessA ((bds z0).getD j bd0).1 (whoOf [w0, w1]) = false := fun j hj hl => cmpA_nn.1 (k2 j (by omega) hl)
    have hgt : ∀ j, z12.toNat ≤ j → j < (bds z0).length → lessA (whoOf [w0, w1]) ((bds z0).getD j bd0).1 = true := fun j hj hl => by
      rcases lessA_tot ((bds z0).getD j bd0).1 (whoOf [w0, w1]) with h | h | h
      · rw [hge j hj hl] at h; cases h
      · exact h
      · have hno := List.find?_eq_none.1 (p2 hnf) ((bds z0).getD j bd0) (by simp [List.getD, hl])
        exact absurd (by simpa using h) (by simpa using hno)
    rw [hB, p2 hnf]
    simp only [Option.isSome_none, cond_false]
    rw [decide_eq_false (by omega), cond_false, filter_take (p := fun b => lessA b.1 (whoOf [w0, w1])) (i := z12.toNat) (by omega) hlt hge, filter_drop (p := fun b => lessA (whoOf [w0, w1]) b.1) (i := z12.toNat) (by omega) (fun j hj => lessA_asym (hlt j hj)) hgt]
    unfold bds
    rw [h19, h18, h15]
    simp [List.map_take, List.map_drop]
  -- the same address
  have FND : ∀ c : Int, z13 = 1 → rOf c = rOf z0 → chkD 30 [z12, z7] ∧ chkD 21 [c, z12] ∧ ∀ z17 : Int, 0 ≤ z17 → z17 ≤ RB → z17 = fnD 42 [c, z12, 0, w0, w1, w2, w3] → chkD 22 [z17, 0, z7] ∧ ∀ z18 : Int, 0 ≤ z18 → z18 ≤ RB → z18 = fnD 22 [z17, 0, z7] → KBb SB [rBB, .d (.int .i64 0 21)] 308 [[z0], [w0, w1, w2, w3]] [[z18], [0]] := by
    intro c hf hc
    have hil := s3 hf
    have hfd := p1 hf
    refine ⟨⟨c0, by omega⟩, ⟨c0, by rw [hc]; omega⟩, fun z17 _ _ h17 => ?_⟩
    have h17 : rOf z17 = (rOf z0).set z12.toNat ([w0, w1, w2, w3] ++ ((rOf z0).getD z12.toNat []).drop 4) := by
      rw [h17]; simp only [fnD, rOf_rc, hc]; rfl
    have hw := whole_bds (z := z17) (n := z7) (y := 0) (by rw [h17]; simp; exact h7)
    refine ⟨hw.1, fun z18 e0 e1 h18 => kk z18 0 e0 e1 (by decide) (by decide) ?_⟩
    have h18 := (whole_bds (z := z17) (n := z7) (y := z18) (by rw [h17]; simp; exact h7)).2 h18
    rw [hB, hfd]
    simp only [Option.isSome_some, cond_true]
    have hs := set_map (w := bdOf [w0, w1, w2, w3]) (right_sorted hr) (i := z12.toNat) (by omega) (find_mem hfd)
    rw [ew] at hs
    rw [← hs]
    have : bds z18 = (bds z0).set z12.toNat (bdOf [w0, w1, w2, w3]) := by
      unfold bds
      rw [h18, h17, List.map_set]; rfl
    rw [this]
  have hz0 : z7 ≤ 0 → rOf 0 = rOf z0 := fun h => by rw [Go.Rx.rOf_zero]; exact (List.eq_nil_of_length_eq_zero (by omega)).symm
  have hcl : ∀ z14 z15 : Int, z14 = fnD 22 [z0, 0, z7] → z15 = fnD 24 [0, z14] → rOf z15 = rOf z0 := fun z14 z15 h14 h15 => by
    rw [h15]; simp only [fnD, rOf_rc, Go.Rx.rOf_zero, List.nil_append]; exact (W z14).2 h14
  have hck : chkD 23 [0, z7] := by show (rOf 0).length + z7 ≤ 1073741824; rw [Go.Rx.rOf_zero]; simp; omega
  have fal : ∀ {P : Prop}, (!(decide (z13 = 1))) = true → (!(decide (z13 = 1))) = false → P := fun h h2 => by rw [h] at h2; cases h2
  have n1 : (!(decide (z13 = 1))) = true → z13 ≠ 1 := fun h e => by rw [e] at h; cases h
  have y1 : (!(decide (z13 = 1))) = false → z13 = 1 := fun h => by
    cases hx : decide (z13 = 1) with
    | true => exact of_decide_eq_true hx
    | false => rw [hx] at h; cases h
  have ILEN : z13 = 1 → 0 < z7 := fun h => by have := s3 h; omega
  refine ⟨fun hf => ⟨fun h => ⟨(W 0).1, fun z14 e0 e1 h14 => kk z14 10 e0 e1 (by decide) (by decide) ?_⟩, fun h has => ?_⟩, fun hf has => ?_⟩
  · have h := of_decide_eq_true h
    rw [hB, p2 (n1 hf)]
    simp only [Option.isSome_none, cond_false]
    rw [decide_eq_true (by omega), cond_true, bds_same ((W z14).2 h14)]
  · have h := of_decide_eq_false h
    have has : z6 < 0 → z7 = 0 := has
    refine ⟨fun hneg => ⟨fun _ => INS 0 (n1 hf) h (hz0 (by have := has (of_decide_eq_true hneg); omega)), fun h2 => fal hf h2⟩, fun _ => ⟨(W 0).1, hck, fun z14 _ _ h14 z15 _ _ h15 => ⟨fun hz => ⟨fun _ => INS 0 (n1 hf) h (hz0 (of_decide_eq_true hz)), fun h2 => fal hf h2⟩, fun _ z16 _ _ => ⟨fun _ => ⟨by show z7 = _; rw [hcl z14 z15 h14 h15]; exact h7, INS z15 (n1 hf) h (hcl z14 z15 h14 h15)⟩, fun h2 => fal hf h2⟩⟩⟩⟩
  · have has : z6 < 0 → z7 = 0 := has
    have hl := ILEN (y1 hf)
    refine ⟨fun hneg => absurd (has (of_decide_eq_true hneg)) (by omega), fun _ => ⟨(W 0).1, hck, fun z14 _ _ h14 z15 _ _ h15 => ⟨fun hz => absurd (of_decide_eq_true hz) (by omega), fun _ z16 _ _ => ⟨fun h2 => fal h2 hf, fun _ => FND z15 (y1 hf) (hcl z14 z15 h14 h15)⟩⟩⟩⟩

end Go.Ad

set_option maxRecDepth 100000
set_option linter.unusedVariables false
set_option linter.unusedSimpArgs false
namespace Go.Ad
open Go Go.Rx
def B_balive (S : Nat → List (List Int) → List (List Int) → Prop) (K : List (List Int) → List (List Int) → Prop) : Prop :=
 
 ∀ z0 : Int, 0 ≤ z0 → z0 ≤ RB → ∀ z1 : Int, 0 ≤ z1 → z1 ≤ 21 → S 308 [[0], [477315081741, 437051401625, 1786254407, 0]] [[z0], [z1]] →
 ∀ z2 : Int, 0 ≤ z2 →
 ∀ z3 : Int, (-1) ≤ z3 → z3 ≤ 9223372036854775807 → 
 ∀ z4 : Int, 0 ≤ z4 → z4 ≤ 9223372036854775807 → z4 = fnD 20 [z0] →
 chkD 22 [z0, 0, z4] ∧
 ∀ z5 : Int, 0 ≤ z5 → z5 ≤ RB → z5 = fnD 22 [z0, 0, z4] →
 ∀ z6 : Int, 0 ≤ z6 → z6 ≤ RB → ∀ z7 : Int, 0 ≤ z7 → z7 ≤ 21 → S 308 [[z5], [477315081741, 437051401625, 1786254664, 5]] [[z6], [z7]] →
 ∀ z8 : Int, 0 ≤ z8 →
 ∀ z9 : Int, (-1) ≤ z9 → z9 ≤ 9223372036854775807 → 
 ∀ z10 : Int, 0 ≤ z10 → z10 ≤ 9223372036854775807 → z10 = fnD 20 [z6] →
 chkD 22 [z6, 0, z10] ∧
 ∀ z11 : Int, 0 ≤ z11 → z11 ≤ RB → z11 = fnD 22 [z6, 0, z10] →
 ∀ z12 : Int, 0 ≤ z12 → z12 ≤ RB → ∀ z13 : Int, 0 ≤ z13 → z13 ≤ 21 → S 309 [[z11], [477315081741, 437051401625, 1786254407, 0]] [[z12], [z13]] →
 ∀ z14 : Int, 0 ≤ z14 →
 ∀ z15 : Int, (-1) ≤ z15 → z15 ≤ 9223372036854775807 → 
 ∀ z16 : Int, 0 ≤ z16 → z16 ≤ 9223372036854775807 → z16 = fnD 20 [z12] →
 chkD 22 [z6, 0, z10] ∧
 ∀ z17 : Int, 0 ≤ z17 → z17 ≤ RB → z17 = fnD 22 [z6, 0, z10] →
 ∀ r18 : List Int, inB [(0, HB), (0, HB), (0, HB), ((-9223372036854775808), 9223372036854775807)] r18 → ∀ z22 : Int, 0 ≤ z22 → z22 ≤ 1 → S 304 [[z17], [477315081741, 437051401625]] [r18, [z22]] →
 (((decide (z1 = 0)) = true →
  (((decide (z7 = 0)) = true →
   (((decide (z13 = 14)) = true →
    (((decide (z22 = 1)) = true →
     ∀ z23 : Int, 0 ≤ z23 → z23 ≤ 1 → z23 = fnD 4 [(List.getD r18 2 0), 1786254664] →
     (((decide (z23 = 1)) = true →
      chkD 22 [z6, 0, z10] ∧
      ∀ z24 : Int, 0 ≤ z24 → z24 ≤ RB → z24 = fnD 22 [z6, 0, z10] →
      ∀ z25 : Int, 0 ≤ z25 → z25 ≤ RB → S 305 [[z24], [1786254664]] [[z25]] →
      ∀ z26 : Int, (-1) ≤ z26 → z26 ≤ 9223372036854775807 → 
      ∀ z27 : Int, 0 ≤ z27 → z27 ≤ 9223372036854775807 → z27 = fnD 20 [z25] →
      K [] [[(cond (decide (z27 = 1)) 1 0)]]
     ) ∧ ((decide (z23 = 1)) = false →
      K [] [[(cond (false) 1 0)]]
     ))
    ) ∧ ((decide (z22 = 1)) = false →
     K [] [[(cond (false) 1 0)]]
    ))
   ) ∧ ((decide (z13 = 14)) = false →
    K [] [[(cond (false) 1 0)]]
   ))
  ) ∧ ((decide (z7 = 0)) = false →
   K [] [[(cond (false) 1 0)]]
  ))
 ) ∧ ((decide (z1 = 0)) = false →
  K [] [[(cond (false) 1 0)]]
 ))
/-! ### A fixed fact -/
def aB1 : Bd := (([101, 109, 97, 105, 108], [97, 64, 98, 46, 99]), [64, 97, 58, 104], 0)
def aB2 : Bd := (([101, 109, 97, 105, 108], [97, 64, 98, 46, 99]), [64, 98, 58, 104], 5)
theorem bds_zero : bds 0 = [] := by unfold bds; rw [Go.Rx.rOf_zero]; rfl
theorem p_balive : B_balive SB (KBb SB [.d .bool] 310) := by
  have kk : ∀ b : Bool, b = true → KBb SB [.d .bool] 310 [] [[cond b 1 0]] := fun b h => by subst h; exact ⟨⟨by decide, by decide, trivial⟩, rfl⟩
  have e1 : bdOf [477315081741, 437051401625, 1786254407, 0] = aB1 := by decide +kernel
  have e2 : bdOf [477315081741, 437051401625, 1786254664, 5] = aB2 := by decide +kernel
  have ew : whoOf [477315081741, 437051401625] = aB1.1 := by decide +kernel
  intro z0 _ _ z1 _ _ hA z2 _ z3 _ _ z4 _ _ h4
  have hA : (bds z0, z1) = bindF (bds 0) (bdOf [477315081741, 437051401625, 1786254407, 0]) := hA
  rw [bds_zero, e1, show bindF [] aB1 = ([aB1], 0) by decide +kernel] at hA
  simp only [Prod.mk.injEq] at hA
  obtain ⟨a1, a2⟩ := hA
  have W := fun y => whole_bds (z := z0) (y := y) h4
  refine ⟨(W 0).1, fun z5 _ _ h5 z6 _ _ z7 _ _ hB z8 _ z9 _ _ z10 _ _ h10 => ?_⟩
  have hB : (bds z6, z7) = bindF (bds z5) (bdOf [477315081741, 437051401625, 1786254664, 5]) := hB
  rw [bds_same ((W z5).2 h5), a1, e2, show bindF [aB1] aB2 = ([aB2], 0) by decide +kernel] at hB
  simp only [Prod.mk.injEq] at hB
  obtain ⟨b1, b2⟩ := hB
  have V := fun y => whole_bds (z := z6) (y := y) h10
  refine ⟨(V 0).1, fun z11 _ _ h11 z12 _ _ z13 _ _ hC z14 _ z15 _ _ z16 _ _ h16 => ?_⟩
  have hC : (bds z12, z13) = unbindF (bds z11) (bdOf [477315081741, 437051401625, 1786254407, 0]) := hC
  rw [bds_same ((V z11).2 h11), b1, e1, show unbindF [aB2] aB1 = ([aB2], 14) by decide +kernel] at hC
  simp only [Prod.mk.injEq] at hC
  obtain ⟨c1, c2⟩ := hC
  refine ⟨(V 0).1, fun z17 _ _ h17 r18 _ z22 _ _ hD => ?_⟩
  have hD : (match findL (bds z17) (whoOf [477315081741, 437051401625]) with | some b => bdOf r18 = b ∧ z22 = 1 | none => bdOf r18 = bd0 ∧ z22 = 0) := hD
  rw [bds_same ((V z17).2 h17), b1, ew, show findL [aB2] aB1.1 = some aB2 by decide +kernel] at hD
  obtain ⟨d1, d2⟩ := hD
  have d3 : sOf (r18.getD 2 0) = [64, 98, 58, 104] := congrArg (fun b : Bd => b.2.1) d1
  refine ⟨fun _ => ⟨fun _ => ⟨fun _ => ⟨fun _ z23 _ _ h23 => ?_, fun h => absurd d2 (of_decide_eq_false h)⟩, fun h => absurd c2 (of_decide_eq_false h)⟩, fun h => absurd b2 (of_decide_eq_false h)⟩, fun h => absurd a2 (of_decide_eq_false h)⟩
  have h23 := eq_dec h23
  rw [show decide (sOf (r18.getD 2 0) = sOf 1786254664) = true from decide_eq_true (by rw [d3]; decide +kernel)] at h23
  refine ⟨fun _ => ⟨(V 0).1, fun z24 _ _ h24 z25 _ _ hE z26 _ _ z27 _ _ h27 => kk _ ?_⟩, fun h => by rw [h23] at h; cases h⟩
  have hE : whos z25 = ofL (bds z24) (sOf 1786254664) := hE
  rw [bds_same ((V z24).2 h24), b1, show ofL [aB2] (sOf 1786254664) = [aB2.1] by decide +kernel] at hE
  have hl := congrArg List.length hE
  have h27 : z27 = ((rOf z25).length : Int) := h27
  simp [whos] at hl
  exact decide_eq_true (by omega)

end Go.Ad

set_option maxRecDepth 100000
set_option linter.unusedVariables false
set_option linter.unusedSimpArgs false
namespace Go.Ad
open Go Go.Rx
def B_lcounts (S : Nat → List (List Int) → List (List Int) → Prop) (K : List (List Int) → List (List Int) → Prop) : Prop :=
 ∀ z0 : Int, 0 ≤ z0 → z0 ≤ RB → ∀ z1 : Int, 0 ≤ z1 → z1 ≤ HB → 
 ∀ z2 : Int, 0 ≤ z2 →
 ∀ z3 : Int, (-1) ≤ z3 → z3 ≤ 9223372036854775807 → 
 ∀ z4 : Int, 0 ≤ z4 → z4 ≤ 9223372036854775807 → z4 = fnD 20 [z0] →
 ∀ z5 : Int, 0 ≤ z5 → z5 ≤ 1 → S 310 [] [[z5]] →
 ((((!(decide (z5 = 1)))) = true →
  K [[z0], [z1]] [[(cond (false) 1 0)]]
 ) ∧ (((!(decide (z5 = 1)))) = false →
  (((decide (100 < z4)) = true →
   K [[z0], [z1]] [[(cond (true) 1 0)]]
  ) ∧ ((decide (100 < z4)) = false →
   chkD 22 [z0, 0, z4] ∧
   ∀ z6 : Int, 0 ≤ z6 → z6 ≤ RB → z6 = fnD 22 [z0, 0, z4] →
   ∀ z7 : Int, 0 ≤ z7 → z7 ≤ 1 → S 303 [[z6]] [[z7]] →
   ((((!(decide (z7 = 1)))) = true →
    K [[z0], [z1]] [[(cond (true) 1 0)]]
   ) ∧ (((!(decide (z7 = 1)))) = false →
    chkD 22 [z0, 0, z4] ∧
    ∀ z8 : Int, 0 ≤ z8 → z8 ≤ RB → z8 = fnD 22 [z0, 0, z4] →
    ∀ z9 : Int, 0 ≤ z9 → z9 ≤ RB → S 305 [[z8], [z1]] [[z9]] →
    ∀ z10 : Int, (-1) ≤ z10 → z10 ≤ 9223372036854775807 → 
    ∀ z11 : Int, 0 ≤ z11 → z11 ≤ 9223372036854775807 → z11 = fnD 20 [z9] →
    ∃ (I12 : List (List Int) → Prop) (μ12 : List (List Int) → Nat), I12 [[0], [0]] ∧ (∀ z13 : Int, 0 ≤ z13 → z13 ≤ 9223372036854775807 → ∀ z14 : Int, 0 ≤ z14 → z14 ≤ 9223372036854775807 → I12 [[z13], [z14]] →
     (((decide (z14 < z4)) = true →
      chkD 30 [z14, z4] ∧
      chkD 21 [z0, z14] ∧
      ∀ z15 : Int, 0 ≤ z15 → z15 ≤ HB → z15 = fnD 21 [z0, z14, 2] →
      ∀ z16 : Int, 0 ≤ z16 → z16 ≤ 1 → z16 = fnD 4 [z15, z1] →
      (((decide (z16 = 1)) = true →
       ∀ z17 : Int, 0 ≤ z17 → z17 ≤ 1 → 0 ≤ (z13 + 9223372036854775809) - 18446744073709551616 * z17 → (z13 + 9223372036854775809) - 18446744073709551616 * z17 < 18446744073709551616 →
       ∀ z18 : Int, 0 ≤ z18 → z18 ≤ 1 → 0 ≤ (z14 + 9223372036854775809) - 18446744073709551616 * z18 → (z14 + 9223372036854775809) - 18446744073709551616 * z18 < 18446744073709551616 →
       chkD 39 [((z13 + ((-18446744073709551616) * z17)) + 1), 0, 9223372036854775807] ∧
       chkD 39 [((z14 + ((-18446744073709551616) * z18)) + 1), 0, 9223372036854775807] ∧
       (I12 [[((z13 + ((-18446744073709551616) * z17)) + 1)], [((z14 + ((-18446744073709551616) * z18)) + 1)]] ∧ μ12 [[((z13 + ((-18446744073709551616) * z17)) + 1)], [((z14 + ((-18446744073709551616) * z18)) + 1)]] < μ12 [[z13], [z14]])
      ) ∧ ((decide (z16 = 1)) = false →
       ∀ z17 : Int, 0 ≤ z17 → z17 ≤ 1 → 0 ≤ (z14 + 9223372036854775809) - 18446744073709551616 * z17 → (z14 + 9223372036854775809) - 18446744073709551616 * z17 < 18446744073709551616 →
       chkD 39 [((z14 + ((-18446744073709551616) * z17)) + 1), 0, 9223372036854775807] ∧
       (I12 [[z13], [((z14 + ((-18446744073709551616) * z17)) + 1)]] ∧ μ12 [[z13], [((z14 + ((-18446744073709551616) * z17)) + 1)]] < μ12 [[z13], [z14]])
      ))
     ) ∧ ((decide (z14 < z4)) = false →
      ∃ (I15 : List (List Int) → Prop) (μ15 : List (List Int) → Nat), I15 [[0]] ∧ (∀ z16 : Int, 0 ≤ z16 → z16 ≤ 9223372036854775807 → I15 [[z16]] →
       (((decide (z16 < z11)) = true →
        chkD 30 [z16, z11] ∧
        chkD 21 [z9, z16] ∧
        ∀ z17 : Int, 0 ≤ z17 → z17 ≤ HB → z17 = fnD 21 [z9, z16, 0] →
        ∀ z18 : Int, 0 ≤ z18 → z18 ≤ HB → z18 = fnD 21 [z9, z16, 1] →
        chkD 22 [z0, 0, z4] ∧
        ∀ z19 : Int, 0 ≤ z19 → z19 ≤ RB → z19 = fnD 22 [z0, 0, z4] →
        ∀ r20 : List Int, inB [(0, HB), (0, HB), (0, HB), ((-9223372036854775808), 9223372036854775807)] r20 → ∀ z24 : Int, 0 ≤ z24 → z24 ≤ 1 → S 304 [[z19], [z17, z18]] [r20, [z24]] →
        ((((!(decide (z24 = 1)))) = true →
         K [[z0], [z1]] [[(cond (false) 1 0)]]
        ) ∧ (((!(decide (z24 = 1)))) = false →
         ∀ z25 : Int, 0 ≤ z25 → z25 ≤ 1 → z25 = fnD 4 [(List.getD r20 2 0), z1] →
         ((((!(decide (z25 = 1)))) = true →
          K [[z0], [z1]] [[(cond (false) 1 0)]]
         ) ∧ (((!(decide (z25 = 1)))) = false →
          ∀ z26 : Int, 0 ≤ z26 → z26 ≤ 1 → 0 ≤ (z16 + 9223372036854775809) - 18446744073709551616 * z26 → (z16 + 9223372036854775809) - 18446744073709551616 * z26 < 18446744073709551616 →
          chkD 39 [((z16 + ((-18446744073709551616) * z26)) + 1), 0, 9223372036854775807] ∧
          (I15 [[((z16 + ((-18446744073709551616) * z26)) + 1)]] ∧ μ15 [[((z16 + ((-18446744073709551616) * z26)) + 1)]] < μ15 [[z16]])
         ))
        ))
       ) ∧ ((decide (z16 < z11)) = false →
        K [[z0], [z1]] [[(cond (decide (z13 = z11)) 1 0)]]
       ))
      )
     ))
    )
   ))
  ))
 ))
/-! ### BondCounts -/
theorem find_self {l : List Bd} {b : Bd} (hr : rightL l = true) (hb : b ∈ l) : l.find? (fun c => c.1 == b.1) = some b := by
  obtain ⟨i, hi, rfl⟩ := List.mem_iff_getElem.1 hb
  have e : l.getD i bd0 = l[i] := by simp [List.getD, hi]
  have := find_at (l := l) (w := l[i].1) hi (by rw [e]) (fun j hj he => by
    have := sorted_get (right_sorted hr) j i hj hi
    rw [he, e, lessA_irr] at this; cases this)
  rw [this, e]
def CoI (z0 : Int) (x : Tx) (bl : List (List Int)) : Prop := ∃ (n i : Nat), bl = [[(n : Int)], [(i : Int)]] ∧ i ≤ (bds z0).length ∧ n = (((bds z0).take i).filter (·.2.1 == x)).length ∧ n ≤ i
def CoM (z0 : Int) (bl : List (List Int)) : Nat := (bds z0).length - ((bl.getD 1 []).getD 0 0).toNat
def CoJ (z9 : Int) (bl : List (List Int)) : Prop := ∃ (i : Nat), bl = [[(i : Int)]] ∧ i ≤ (rOf z9).length
def CoN (z9 : Int) (bl : List (List Int)) : Nat := (rOf z9).length - ((bl.getD 0 []).getD 0 0).toNat
theorem p_lcounts : B_lcounts SB (KBb SB [.d .bool] 311) := by
  intro z0 a0 a1 z1 _ _ z2 _ z3 _ _ z4 b0 b1 h4 z5 _ _ h5
  have kk : ∀ b : Bool, b = true → KBb SB [.d .bool] 311 [[z0], [z1]] [[cond b 1 0]] := fun b h => by subst h; exact ⟨⟨by decide, by decide, trivial⟩, rfl⟩
  have h4 : z4 = ((rOf z0).length : Int) := h4
  have hlen := bds_len z0
  have W := fun y => whole_bds (z := z0) (y := y) h4
  have h5 : z5 = 1 := h5
  refine ⟨fun h => (by rw [h5] at h; cases h), fun _ => ⟨fun _ => kk true rfl, fun h100 => ⟨(W 0).1, fun z6 _ _ h6 z7 _ _ h7 => ⟨fun _ => kk true rfl, fun hn => ⟨(W 0).1, fun z8 _ _ h8 z9 _ _ h9 z10 _ _ z11 c0 c1 h11 => ?_⟩⟩⟩⟩⟩
  have h7 : z7 = b01 (rightL (bds z6)) := h7
  rw [bds_same ((W z6).2 h6)] at h7
  have hd := b01_dec h7
  have hr : rightL (bds z0) = true := by
    rw [hd] at hn
    cases hx : rightL (bds z0) with
    | true => rfl
    | false => rw [hx] at hn; cases hn
  have h9 : whos z9 = ofL (bds z8) (sOf z1) := h9
  rw [bds_same ((W z8).2 h8)] at h9
  unfold ofL at h9
  rw [hr, cond_true] at h9
  have h11 : z11 = ((rOf z9).length : Int) := h11
  have hl9 : (rOf z9).length = ((bds z0).filter (·.2.1 == sOf z1)).length := by
    have := congrArg List.length h9
    simpa [whos] using this
  refine ⟨CoI z0 (sOf z1), CoM z0, ⟨0, 0, rfl, Nat.zero_le _, rfl, Nat.le_refl _⟩, ?_⟩
  rintro z13 d0 d1 z14 e0 e1 ⟨n, i, e, hi, hI, hni⟩
  obtain ⟨rfl, rfl⟩ : z13 = n ∧ z14 = i := by simpa using e
  refine ⟨fun hlt => ?_, fun hge => ?_⟩
  · have hlt := of_decide_eq_true hlt
    have hil : i < (rOf z0).length := by omega
    have htk : (bds z0).take (i + 1) = (bds z0).take i ++ [(bds z0).getD i bd0] := by
      rw [List.take_add_one, List.getElem?_eq_getElem (by omega)]; simp [List.getD, show i < (bds z0).length by omega]
    refine ⟨⟨by omega, by omega⟩, ⟨by omega, by omega⟩, fun z15 _ _ h15 z16 _ _ h16 => ?_⟩
    have hx : sOf z15 = ((bds z0).getD i bd0).2.1 := by rw [bds_get hil, h15]; rfl
    have h16 := eq_dec h16
    refine ⟨fun hq z17 f0 f1 f2 f3 z18 g0 g1 g2 g3 => ⟨⟨by omega, by omega⟩, ⟨by omega, by omega⟩, ⟨n + 1, i + 1, ?_, by omega, ?_, by omega⟩, ?_⟩, fun hq z17 f0 f1 f2 f3 => ⟨⟨by omega, by omega⟩, ⟨n, i + 1, ?_, by omega, ?_, by omega⟩, ?_⟩⟩
    · rw [show ((n : Int) + (-18446744073709551616) * z17) + 1 = ((n + 1 : Nat) : Int) by omega, show ((i : Int) + (-18446744073709551616) * z18) + 1 = ((i + 1 : Nat) : Int) by omega]
    · have hq' : (((bds z0).getD i bd0).2.1 == sOf z1) = true := by
        rw [hq] at h16
        have := of_decide_eq_true h16.symm
        rw [← hx, this]; exact beq_self_eq_true _
      rw [htk, List.filter_append, List.filter_cons_of_pos (by simpa using hq'), hI]; simp
    · show (bds z0).length - (((i : Int) + (-18446744073709551616) * z18) + 1).toNat < (bds z0).length - ((i : Int)).toNat; omega
    · rw [show ((i : Int) + (-18446744073709551616) * z17) + 1 = ((i + 1 : Nat) : Int) by omega]
    · have hq' : ¬ (((bds z0).getD i bd0).2.1 == sOf z1) = true := by
        rw [hq] at h16
        have := of_decide_eq_false h16.symm
        rw [← hx]; simpa using this
      rw [htk, List.filter_append, List.filter_cons_of_neg (by simpa using hq'), hI]; simp
    · show (bds z0).length - (((i : Int) + (-18446744073709551616) * z17) + 1).toNat < (bds z0).length - ((i : Int)).toNat; omega
  · have hge := of_decide_eq_false hge
    refine ⟨CoJ z9, CoN z9, ⟨0, rfl, Nat.zero_le _⟩, ?_⟩
    rintro z16 f0 f1 ⟨j, e, hj⟩
    obtain rfl : z16 = j := by simpa using e
    refine ⟨fun hlt => ?_, fun _ => kk _ ?_⟩
    · have hlt := of_decide_eq_true hlt
      have hjl : j < (rOf z9).length := by omega
      refine ⟨⟨by omega, by omega⟩, ⟨by omega, by omega⟩, fun z17 _ _ h17 z18 _ _ h18 => ⟨(W 0).1, fun z19 _ _ h19 r20 _ z24 _ _ hF => ?_⟩⟩
      have hw : whoOf [z17, z18] = whoOf ((rOf z9).getD j []) := by rw [h17, h18]; rfl
      have hm : whoOf [z17, z18] ∈ ((bds z0).filter (·.2.1 == sOf z1)).map (·.1) := by
        rw [← h9, hw]
        unfold whos
        refine List.mem_map.2 ⟨(rOf z9)[j], List.getElem_mem hjl, ?_⟩
        simp [List.getD, hjl]
      obtain ⟨b, hb, hbw⟩ := List.mem_map.1 hm
      obtain ⟨hb1, hb2⟩ := List.mem_filter.1 hb
      have hF : (match findL (bds z19) (whoOf [z17, z18]) with | some b => bdOf r20 = b ∧ z24 = 1 | none => bdOf r20 = bd0 ∧ z24 = 0) := hF
      have hfd := find_self hr hb1
      rw [hbw] at hfd
      rw [bds_same ((W z19).2 h19)] at hF
      unfold findL at hF
      rw [hr, cond_true, hfd] at hF
      obtain ⟨k1, k2⟩ := hF
      have k3 : sOf (r20.getD 2 0) = b.2.1 := congrArg (fun b : Bd => b.2.1) k1
      refine ⟨fun h => (by rw [k2] at h; cases h), fun _ z25 _ _ h25 => ?_⟩
      have h25 := eq_dec h25
      rw [show decide (sOf (r20.getD 2 0) = sOf z1) = true from decide_eq_true (by rw [k3]; simpa using hb2)] at h25
      refine ⟨fun h => (by rw [h25] at h; cases h), fun _ z26 g0 g1 g2 g3 => ⟨⟨by omega, by omega⟩, ⟨j + 1, by rw [show ((j : Int) + (-18446744073709551616) * z26) + 1 = ((j + 1 : Nat) : Int) by omega], by omega⟩, ?_⟩⟩
      show (rOf z9).length - (((j : Int) + (-18446744073709551616) * z26) + 1).toNat < (rOf z9).length - ((j : Int)).toNat; omega
    · refine decide_eq_true ?_
      rw [h11, hl9, hI, List.take_of_length_le (by omega)]

end Go.Ad

set_option maxRecDepth 100000
set_option linter.unusedVariables false
set_option linter.unusedSimpArgs false
namespace Go.Ad
open Go Go.Rx
/-! ### Bonds: what binding and freeing leave -/
theorem sorted_cons {a : Bd} {l : List Bd} (h : ∀ b ∈ l, lessA a.1 b.1 = true) (hl : sortedB l = true) : sortedB (a :: l) = true := by
  cases l with
  | nil => rfl
  | cons b r => show (lessA a.1 b.1 && sortedB (b :: r)) = true; rw [h b (by simp), hl]; rfl
theorem sorted_filter {p : Bd → Bool} : ∀ {l : List Bd}, sortedB l = true → sortedB (l.filter p) = true
  | [], _ => rfl
  | a :: l, h => by
    have ih := sorted_filter (p := p) (sorted_tail h)
    rw [List.filter_cons]
    split
    · exact sorted_cons (fun b hb => sorted_head h b (List.mem_filter.1 hb).1) ih
    · exact ih
theorem sorted_append : ∀ {l r : List Bd}, sortedB l = true → sortedB r = true → (∀ a ∈ l, ∀ b ∈ r, lessA a.1 b.1 = true) → sortedB (l ++ r) = true
  | [], r, _, hr, _ => hr
  | a :: l, r, hl, hr, h => by
    have ih := sorted_append (sorted_tail hl) hr fun x hx b hb => h x (List.mem_cons_of_mem _ hx) b hb
    exact sorted_cons (fun b hb => (List.mem_append.1 hb).elim (fun hb => sorted_head hl b hb) fun hb => h a (by simp) b hb) ih
theorem sorted_map {f : Bd → Bd} (hf : ∀ b, (f b).1 = b.1) : ∀ {l : List Bd}, sortedB l = true → sortedB (l.map f) = true
  | [], _ => rfl
  | a :: l, h => by
    refine sorted_cons (fun b hb => ?_) (sorted_map hf (sorted_tail h))
    obtain ⟨c, hc, rfl⟩ := List.mem_map.1 hb
    rw [hf, hf]; exact sorted_head h c hc
theorem find_iff {x : Tx × Tx} {b : Bd} : ∀ {l : List Bd}, sortedB l = true → (l.find? (fun c => c.1 == x) = some b ↔ b ∈ l ∧ b.1 = x)
  | [], _ => by simp
  | a :: l, h => by
    rw [List.find?_cons]
    have ih := find_iff (x := x) (b := b) (sorted_tail h)
    cases hx : (a.1 == x) with
    | true =>
      have hax : a.1 = x := by simpa using hx
      simp only [Option.some.injEq, List.mem_cons]
      constructor
      · rintro rfl; exact ⟨.inl rfl, hax⟩
      · rintro ⟨rfl | hb, he⟩
        · rfl
        · have := sorted_head h b hb
          rw [hax, he, lessA_irr] at this; cases this
    | false =>
      have hax : ¬ a.1 = x := by simpa using hx
      simp only [List.mem_cons]
      rw [ih]
      constructor
      · rintro ⟨h1, h2⟩; exact ⟨.inr h1, h2⟩
      · rintro ⟨rfl | h1, h2⟩
        · exact absurd h2 hax
        · exact ⟨h1, h2⟩
theorem find_none_iff {x : Tx × Tx} {l : List Bd} : l.find? (fun c => c.1 == x) = none ↔ ∀ b ∈ l, b.1 ≠ x := by
  rw [List.find?_eq_none]
  exact ⟨fun h b hb he => h b hb (by simpa using he), fun h b hb he => h b hb (by simpa using he)⟩
theorem filter_two {p q : Bd → Bool} (h : ∀ b, p b = true → q b = false) : ∀ l : List Bd, (l.filter p).length + (l.filter q).length ≤ l.length
  | [] => Nat.le_refl _
  | a :: l => by
    have ih := filter_two h l
    rw [List.filter_cons, List.filter_cons]
    have := h a
    cases hp : p a <;> cases hq : q a <;> simp <;> first | omega | (rw [hp, hq] at this; simp at this)
theorem rightL_parts {l : List Bd} : rightL l = true ↔ l.length ≤ 64 ∧ (∀ b ∈ l, bOk b = true) ∧ sortedB l = true := by
  unfold rightL
  rw [Bool.and_eq_true, Bool.and_eq_true, Nat.ble_eq, List.all_eq_true]
  exact ⟨fun h => ⟨h.1.1, h.1.2, h.2⟩, fun h => ⟨⟨h.1, h.2.1⟩, h.2.2⟩⟩
theorem bind_ok {l : List Bd} {w : Bd} (hr : rightL l = true) (hw : bOk w = true) (hl : l.length < 64) : (bindF l w).2 = 0 ∧ rightL (bindF l w).1 = true ∧ ∀ b, b ∈ (bindF l w).1 ↔ b = w ∨ (b ∈ l ∧ b.1 ≠ w.1) := by
  obtain ⟨r1, r2, r3⟩ := rightL_parts.1 hr
  unfold bindF
  rw [hw, hr]
  simp only [Bool.and_self, cond_true]
  cases ha : l.any (·.1 == w.1) with
  | true =>
    simp only [cond_true]
    obtain ⟨x, hx, hxw⟩ := List.any_eq_true.1 ha
    have hxw : x.1 = w.1 := by simpa using hxw
    refine ⟨by trivial, rightL_parts.2 ⟨by simpa using r1, fun b hb => ?_, sorted_map (fun b => ?_) r3⟩, fun b => ?_⟩
    · obtain ⟨c, hc, rfl⟩ := List.mem_map.1 hb
      cases hcw : (c.1 == w.1) with
      | true => exact hw
      | false => exact r2 c hc
    · cases hcw : (b.1 == w.1) with
      | true => simp only [cond_true]; exact (by simpa using hcw : b.1 = w.1).symm
      | false => rfl
    · rw [List.mem_map]
      constructor
      · rintro ⟨c, hc, rfl⟩
        cases hcw : (c.1 == w.1) with
        | true => exact .inl rfl
        | false => exact .inr ⟨hc, by simpa using hcw⟩
      · rintro (rfl | ⟨hb, hne⟩)
        · exact ⟨x, hx, by rw [show (x.1 == b.1) = true by simpa using hxw]; rfl⟩
        · exact ⟨b, hb, by rw [show (b.1 == w.1) = false by simpa using hne]; rfl⟩
  | false =>
    simp only [cond_false]
    have hn : ∀ b ∈ l, b.1 ≠ w.1 := fun b hb he => by
      have := List.any_eq_false.1 ha b hb
      exact this (by simpa using he)
    rw [show decide (l.length = 64) = false from decide_eq_false (by omega)]
    simp only [cond_false]
    refine ⟨by trivial, rightL_parts.2 ⟨?_, fun b hb => ?_, ?_⟩, fun b => ?_⟩
    · have := filter_two (p := fun b => lessA b.1 w.1) (q := fun b => lessA w.1 b.1) (fun b h => lessA_asym h) l
      simp only [List.length_append, List.length_cons]; omega
    · rcases List.mem_append.1 hb with hb | hb
      · exact r2 b (List.mem_filter.1 hb).1
      · rcases List.mem_cons.1 hb with rfl | hb
        · exact hw
        · exact r2 b (List.mem_filter.1 hb).1
    · refine sorted_append (sorted_filter r3) (sorted_cons (fun b hb => (List.mem_filter.1 hb).2) (sorted_filter r3)) fun a ha b hb => ?_
      have h1 := (List.mem_filter.1 ha).2
      rcases List.mem_cons.1 hb with rfl | hb
      · exact h1
      · exact lessA_trans h1 (List.mem_filter.1 hb).2
    · rw [List.mem_append, List.mem_cons, List.mem_filter, List.mem_filter]
      constructor
      · rintro (⟨h1, _⟩ | rfl | ⟨h1, _⟩)
        · exact .inr ⟨h1, hn b h1⟩
        · exact .inl rfl
        · exact .inr ⟨h1, hn b h1⟩
      · rintro (rfl | ⟨h1, h2⟩)
        · exact .inr (.inl rfl)
        · rcases lessA_tot b.1 w.1 with h3 | h3 | h3
          · exact .inl ⟨h1, h3⟩
          · exact .inr (.inr ⟨h1, h3⟩)
          · exact absurd h3 h2
theorem unbind_ok {l : List Bd} {w : Bd} (hr : rightL l = true) :
    ((∀ b ∈ l, b.1 ≠ w.1) ∧ unbindF l w = (l, 7)) ∨ (∃ b ∈ l, b.1 = w.1 ∧ b.2.1 ≠ w.2.1 ∧ unbindF l w = (l, 14)) ∨
    ∃ b ∈ l, b.1 = w.1 ∧ b.2.1 = w.2.1 ∧ (unbindF l w).2 = 0 ∧ rightL (unbindF l w).1 = true ∧ ∀ c, c ∈ (unbindF l w).1 ↔ c ∈ l ∧ c.1 ≠ w.1 := by
  obtain ⟨r1, r2, r3⟩ := rightL_parts.1 hr
  unfold unbindF
  rw [hr]
  simp only [cond_true]
  cases hf : l.find? (fun b => b.1 == w.1) with
  | none => exact .inl ⟨find_none_iff.1 hf, rfl⟩
  | some b =>
    obtain ⟨h1, h2⟩ := (find_iff r3).1 hf
    simp only
    cases hm : (b.2.1 == w.2.1) with
    | false => exact .inr (.inl ⟨b, h1, h2, by simpa using hm, rfl⟩)
    | true =>
      simp only [cond_true]
      refine .inr (.inr ⟨b, h1, h2, by simpa using hm, by trivial, rightL_parts.2 ⟨Nat.le_trans (List.length_filter_le _ _) r1, fun c hc => r2 c (List.mem_filter.1 hc).1, sorted_filter r3⟩, fun c => ?_⟩)
      rw [List.mem_filter]
      simp
/-! ### BondLast -/
def aK (k : Nat) : Tx × Tx := ([109, 115, 105, 115, 100, 110], [49, 50, 51, 52, 53] ++ [([54, 55, 56, 57, 48] : Tx).getD k 0])
def uK (k : Nat) : Tx := [64] ++ [([97, 98, 99] : Tx).getD k 0] ++ [58, 104]
theorem aK_inj' : ∀ i, i < 5 → ∀ j, j < 5 → aK i = aK j → i = j := by decide +kernel
theorem aK_inj {i j : Nat} (hi : i < 5) (hj : j < 5) (h : aK i = aK j) : i = j := aK_inj' i hi j hj h
theorem aK_right : ∀ k, k < 5 → rightF (aK k).1 (aK k).2 = true := by decide +kernel
theorem uK_user : ∀ k, k < 3 → userb (uK k) = true := by decide +kernel
theorem uK_ne (k : Nat) : uK k ≠ [] := by unfold uK; simp
/-- The bonds are those that are written down. -/
def LaR (l : List Bd) (W : List Tx) : Prop := rightL l = true ∧ W.length = 5 ∧ (∀ b ∈ l, ∃ k, k < 5 ∧ b.1 = aK k) ∧ (∀ k, k < 5 → ∀ b ∈ l, b.1 = aK k → b.2.1 = W.getD k [] ∧ W.getD k [] ≠ []) ∧ ∀ k, k < 5 → W.getD k [] ≠ [] → ∃ b ∈ l, b.1 = aK k
theorem few {S : List (Tx × Tx)} : ∀ {l : List Bd}, sortedB l = true → (∀ b ∈ l, b.1 ∈ S) → l.length ≤ S.length := by
  induction S with
  | nil =>
    intro l _ h
    cases l with
    | nil => exact Nat.le_refl _
    | cons b r => have := h b (by simp); simp at this
  | cons s S ih =>
    intro l hs h
    have h1 := ih (l := l.filter (fun b => !(b.1 == s))) (sorted_filter hs) fun b hb => by
      obtain ⟨g1, g2⟩ := List.mem_filter.1 hb
      rcases List.mem_cons.1 (h b g1) with h3 | h3
      · rw [h3] at g2; simp at g2
      · exact h3
    have h2 : l.length ≤ (l.filter (fun b => !(b.1 == s))).length + 1 := by
      clear h1 ih h
      induction l with
      | nil => simp
      | cons a r ih =>
        rw [List.filter_cons]
        cases ha : (a.1 == s) with
        | false => simp; have := ih (sorted_tail hs); omega
        | true =>
          have has : a.1 = s := by simpa using ha
          have : r.filter (fun b => !(b.1 == s)) = r := by
            rw [List.filter_eq_self]
            intro b hb
            have h4 := sorted_head hs b hb
            cases hbs : (b.1 == s) with
            | false => rfl
            | true =>
              have h5 : b.1 = s := by simpa using hbs
              rw [has, h5, lessA_irr] at h4
              cases h4
          simp [this]
    simp only [List.length_cons]; omega
theorem LaR.len {l : List Bd} {W : List Tx} (h : LaR l W) : l.length ≤ 5 := by
  obtain ⟨h1, _, h3, _⟩ := h
  have := few (S := [aK 0, aK 1, aK 2, aK 3, aK 4]) (right_sorted h1) fun b hb => by
    obtain ⟨k, hk, he⟩ := h3 b hb
    rw [he]
    match k, hk with
    | 0, _ => simp
    | 1, _ => simp
    | 2, _ => simp
    | 3, _ => simp
    | 4, _ => simp
  simpa using this
theorem getD_set_same {W : List Tx} {k : Nat} {x : Tx} (h : k < W.length) : (W.set k x).getD k [] = x := by simp [List.getD, h]
theorem getD_set_ne {W : List Tx} {k j : Nat} {x : Tx} (h : k ≠ j) : (W.set k x).getD j [] = W.getD j [] := by simp [List.getD, List.getElem?_set_ne h]
theorem LaR.bind {l : List Bd} {W : List Tx} {k j : Nat} {t : Int} (h : LaR l W) (hk : k < 5) (hj : j < 3) (ht : 0 ≤ t) (ht2 : t ≤ 200) : (bindF l (aK k, uK j, t)).2 = 0 ∧ LaR (bindF l (aK k, uK j, t)).1 (W.set k (uK j)) := by
  have hlen := h.len
  obtain ⟨h1, h2, h3, h4, h5⟩ := h
  have hok : bOk (aK k, uK j, t) = true := by
    unfold bOk
    rw [show (aK k, uK j, t).1 = aK k from rfl, aK_right k hk, show (aK k, uK j, t).2.1 = uK j from rfl, uK_user j hj]
    simp; omega
  obtain ⟨g1, g2, g3⟩ := bind_ok h1 hok (by omega)
  refine ⟨g1, g2, by simpa using h2, fun b hb => ?_, fun i hi b hb he => ?_, fun i hi hne => ?_⟩
  · rcases (g3 b).1 hb with rfl | ⟨hb, _⟩
    · exact ⟨k, hk, rfl⟩
    · exact h3 b hb
  · rcases (g3 b).1 hb with rfl | ⟨hb, hne⟩
    · have : i = k := (aK_inj hk hi he).symm
      subst this
      rw [getD_set_same (by omega)]
      exact ⟨rfl, uK_ne j⟩
    · have hki : k ≠ i := fun e => hne (by rw [he, e])
      rw [getD_set_ne hki]
      exact h4 i hi b hb he
  · by_cases hki : k = i
    · subst hki; exact ⟨_, (g3 _).2 (.inl rfl), rfl⟩
    · rw [getD_set_ne hki] at hne
      obtain ⟨b, hb, he⟩ := h5 i hi hne
      exact ⟨b, (g3 b).2 (.inr ⟨hb, fun e => hki (aK_inj hk hi (by rw [← he, e]))⟩), he⟩
theorem LaR.unbind {l : List Bd} {W : List Tx} {k j : Nat} {t : Int} (h : LaR l W) (hk : k < 5) :
    (W.getD k [] = [] ∧ unbindF l (aK k, uK j, t) = (l, 7)) ∨ (W.getD k [] ≠ [] ∧ W.getD k [] ≠ uK j ∧ unbindF l (aK k, uK j, t) = (l, 14)) ∨
    (W.getD k [] ≠ [] ∧ W.getD k [] = uK j ∧ (unbindF l (aK k, uK j, t)).2 = 0 ∧ LaR (unbindF l (aK k, uK j, t)).1 (W.set k [])) := by
  obtain ⟨h1, h2, h3, h4, h5⟩ := h
  rcases unbind_ok (w := (aK k, uK j, t)) h1 with ⟨g1, g2⟩ | ⟨b, g1, g2, g3, g4⟩ | ⟨b, g1, g2, g3, g4, g5, g6⟩
  · refine .inl ⟨?_, g2⟩
    by_cases h0 : W.getD k [] = []
    · exact h0
    · obtain ⟨b, hb, he⟩ := h5 k hk h0
      exact absurd he (g1 b hb)
  · obtain ⟨e1, e2⟩ := h4 k hk b g1 g2
    exact .inr (.inl ⟨e2, fun e => g3 (by rw [e1, e]), g4⟩)
  · obtain ⟨e1, e2⟩ := h4 k hk b g1 g2
    refine .inr (.inr ⟨e2, by rw [← e1, g3], g4, g5, by simpa using h2, fun c hc => h3 c ((g6 c).1 hc).1, fun i hi c hc he => ?_, fun i hi hne => ?_⟩)
    · obtain ⟨k1, k2⟩ := (g6 c).1 hc
      have hki : k ≠ i := fun e => k2 (by rw [he, e])
      rw [getD_set_ne hki]
      exact h4 i hi c k1 he
    · by_cases hki : k = i
      · subst hki
        rw [getD_set_same (by omega)] at hne
        exact absurd rfl hne
      · rw [getD_set_ne hki] at hne
        obtain ⟨c, hc, he⟩ := h5 i hi hne
        exact ⟨c, (g6 c).2 ⟨hc, fun e => hki (aK_inj hk hi (by rw [← he, e]))⟩, he⟩
theorem LaR.find {l : List Bd} {W : List Tx} {k : Nat} (h : LaR l W) (hk : k < 5) : (W.getD k [] = [] ∧ findL l (aK k) = none) ∨ (W.getD k [] ≠ [] ∧ ∃ b, findL l (aK k) = some b ∧ b.2.1 = W.getD k []) := by
  obtain ⟨h1, h2, h3, h4, h5⟩ := h
  unfold findL
  rw [h1, cond_true]
  cases hf : l.find? (fun b => b.1 == aK k) with
  | none =>
    refine .inl ⟨?_, rfl⟩
    by_cases h0 : W.getD k [] = []
    · exact h0
    · obtain ⟨b, hb, he⟩ := h5 k hk h0
      exact absurd he (find_none_iff.1 hf b hb)
  | some b =>
    obtain ⟨g1, g2⟩ := (find_iff (right_sorted h1)).1 hf
    obtain ⟨e1, e2⟩ := h4 k hk b g1 g2
    exact .inr ⟨e2, b, rfl, e1⟩

end Go.Ad

set_option maxRecDepth 100000
set_option linter.unusedVariables false
set_option linter.unusedSimpArgs false
namespace Go.Ad
open Go Go.Rx
def B_llast (S : Nat → List (List Int) → List (List Int) → Prop) (K : List (List Int) → List (List Int) → Prop) : Prop :=
 ∀ z0 : Int, 0 ≤ z0 → z0 ≤ RB → 
 ∀ z1 : Int, 0 ≤ z1 →
 ∀ z2 : Int, (-1) ≤ z2 → z2 ≤ 9223372036854775807 → 
 ∀ z3 : Int, 0 ≤ z3 → z3 ≤ 9223372036854775807 → z3 = fnD 20 [z0] →
 ∀ z4 : Int, 0 ≤ z4 → z4 ≤ 1 → S 310 [] [[z4]] →
 ((((!(decide (z4 = 1)))) = true →
  K [[z0]] [[(cond (false) 1 0)]]
 ) ∧ (((!(decide (z4 = 1)))) = false →
  (((decide (200 < z3)) = true →
   K [[z0]] [[(cond (true) 1 0)]]
  ) ∧ ((decide (200 < z3)) = false →
   ∀ z5 : Int, 0 ≤ z5 → z5 ≤ RB → z5 = fnD 23 [0, 0] →
   ∀ z6 : Int, 0 ≤ z6 → z6 ≤ RB → z6 = fnD 23 [z5, 0] →
   ∀ z7 : Int, 0 ≤ z7 → z7 ≤ RB → z7 = fnD 23 [z6, 0] →
   ∀ z8 : Int, 0 ≤ z8 → z8 ≤ RB → z8 = fnD 23 [z7, 0] →
   ∀ z9 : Int, 0 ≤ z9 → z9 ≤ RB → z9 = fnD 23 [z8, 0] →
   ∃ (I10 : List (List Int) → Prop) (μ10 : List (List Int) → Nat), I10 [[0], [z9], [0], [0], [(-1)]] ∧ (∀ z11 : Int, 0 ≤ z11 → z11 ≤ 200 → ∀ z12 : Int, 0 ≤ z12 → z12 ≤ RB → ∀ z13 : Int, 0 ≤ z13 → z13 ≤ RB → ∀ z14 : Int, 0 ≤ z14 → z14 ≤ 9223372036854775807 → ∀ z15 : Int, (-1) ≤ z15 → z15 ≤ 9223372036854775807 → I10 [[z11], [z12], [z13], [z14], [z15]] →
    ∀ z16 : Int, 0 ≤ z16 →
    (((decide (z11 < z3)) = true →
     chkD 30 [z11, z3] ∧
     chkD 21 [z0, z11] ∧
     ∀ z17 : Int, 0 ≤ z17 → z17 ≤ 255 → z17 = fnD 21 [z0, z11, 1] →
     ∀ z18 : Int, 0 ≤ z18 → z18 ≤ 51 → 0 ≤ z17 - 5 * z18 → z17 - 5 * z18 < 5 →
     chkD 2 [214749355283, (z17 + ((-5) * z18)), ((z17 + ((-5) * z18)) + 1)] ∧
     ∀ z19 : Int, 0 ≤ z19 → z19 ≤ HB → z19 = fnD 2 [214749355283, (z17 + ((-5) * z18)), ((z17 + ((-5) * z18)) + 1)] →
     chkD 3 [236476502788, z19] ∧
     ∀ z20 : Int, 0 ≤ z20 → z20 ≤ HB → z20 = fnD 3 [236476502788, z19] →
     chkD 30 [z11, z3] ∧
     chkD 21 [z0, z11] ∧
     ∀ z21 : Int, 0 ≤ z21 → z21 ≤ 255 → z21 = fnD 21 [z0, z11, 2] →
     ∀ z22 : Int, 0 ≤ z22 → z22 ≤ 85 → 0 ≤ z21 - 3 * z22 → z21 - 3 * z22 < 3 →
     chkD 30 [z11, z3] ∧
     chkD 21 [z0, z11] ∧
     ∀ z23 : Int, 0 ≤ z23 → z23 ≤ 255 → z23 = fnD 21 [z0, z11, 2] →
     ∀ z24 : Int, 0 ≤ z24 → z24 ≤ 85 → 0 ≤ z23 - 3 * z24 → z23 - 3 * z24 < 3 →
     chkD 2 [6630441, (z21 + ((-3) * z22)), ((z23 + ((-3) * z24)) + 1)] ∧
     ∀ z25 : Int, 0 ≤ z25 → z25 ≤ HB → z25 = fnD 2 [6630441, (z21 + ((-3) * z22)), ((z23 + ((-3) * z24)) + 1)] →
     chkD 3 [65, z25] ∧
     ∀ z26 : Int, 0 ≤ z26 → z26 ≤ HB → z26 = fnD 3 [65, z25] →
     chkD 3 [z26, 27044] ∧
     ∀ z27 : Int, 0 ≤ z27 → z27 ≤ HB → z27 = fnD 3 [z26, 27044] →
     chkD 30 [z11, z3] ∧
     chkD 21 [z0, z11] ∧
     ∀ z28 : Int, 0 ≤ z28 → z28 ≤ 1 → z28 = fnD 21 [z0, z11, 0] →
     (((decide (z28 = 1)) = true →
      chkD 22 [z13, 0, z14] ∧
      ∀ z29 : Int, 0 ≤ z29 → z29 ≤ RB → z29 = fnD 22 [z13, 0, z14] →
      ∀ z30 : Int, 0 ≤ z30 → z30 ≤ RB → ∀ z31 : Int, 0 ≤ z31 → z31 ≤ 21 → S 309 [[z29], [124890778723732, z20, z27, z11]] [[z30], [z31]] →
      ∀ z32 : Int, 0 ≤ z32 →
      ∀ z33 : Int, (-1) ≤ z33 → z33 ≤ 9223372036854775807 → 
      ∀ z34 : Int, 0 ≤ z34 → z34 ≤ 9223372036854775807 → z34 = fnD 20 [z30] →
      chkD 30 [(z17 + ((-5) * z18)), 5] ∧
      chkD 21 [z12, (z17 + ((-5) * z18))] ∧
      ∀ z35 : Int, 0 ≤ z35 → z35 ≤ HB → z35 = fnD 21 [z12, (z17 + ((-5) * z18)), 0] →
      ∀ z36 : Int, 0 ≤ z36 → z36 ≤ 1 → z36 = fnD 4 [z35, 0] →
      (((decide (z36 = 1)) = true →
       ((((!(decide (z31 = 7)))) = true →
        K [[z0]] [[(cond (false) 1 0)]]
       ) ∧ (((!(decide (z31 = 7)))) = false →
        ∃ (I37 : List (List Int) → Prop) (μ37 : List (List Int) → Nat), I37 [[0]] ∧ (∀ z38 : Int, 0 ≤ z38 → z38 ≤ 5 → I37 [[z38]] →
         (((decide (z38 < 5)) = true →
          chkD 2 [214749355283, z38, (z38 + 1)] ∧
          ∀ z39 : Int, 0 ≤ z39 → z39 ≤ HB → z39 = fnD 2 [214749355283, z38, (z38 + 1)] →
          chkD 3 [236476502788, z39] ∧
          ∀ z40 : Int, 0 ≤ z40 → z40 ≤ HB → z40 = fnD 3 [236476502788, z39] →
          chkD 22 [z30, 0, z34] ∧
          ∀ z41 : Int, 0 ≤ z41 → z41 ≤ RB → z41 = fnD 22 [z30, 0, z34] →
          ∀ r42 : List Int, inB [(0, HB), (0, HB), (0, HB), ((-9223372036854775808), 9223372036854775807)] r42 → ∀ z46 : Int, 0 ≤ z46 → z46 ≤ 1 → S 304 [[z41], [124890778723732, z40]] [r42, [z46]] →
          chkD 30 [z38, 5] ∧
          chkD 21 [z12, z38] ∧
          ∀ z47 : Int, 0 ≤ z47 → z47 ≤ HB → z47 = fnD 21 [z12, z38, 0] →
          ∀ z48 : Int, 0 ≤ z48 → z48 ≤ 1 → z48 = fnD 4 [z47, 0] →
          ((((!(((decide (z46 = 1)) == ((!(decide (z48 = 1)))))))) = true →
           K [[z0]] [[(cond (false) 1 0)]]
          ) ∧ (((!(((decide (z46 = 1)) == ((!(decide (z48 = 1)))))))) = false →
           chkD 30 [z38, 5] ∧
           chkD 21 [z12, z38] ∧
           ∀ z49 : Int, 0 ≤ z49 → z49 ≤ HB → z49 = fnD 21 [z12, z38, 0] →
           ∀ z50 : Int, 0 ≤ z50 → z50 ≤ 1 → z50 = fnD 4 [(List.getD r42 2 0), z49] →
           ((((!(decide (z50 = 1)))) = true →
            K [[z0]] [[(cond (false) 1 0)]]
           ) ∧ (((!(decide (z50 = 1)))) = false →
            (I37 [[(z38 + 1)]] ∧ μ37 [[(z38 + 1)]] < μ37 [[z38]])
           ))
          ))
         ) ∧ ((decide (z38 < 5)) = false →
          chkD 39 [(z11 + 1), 0, 200] ∧
          (I10 [[(z11 + 1)], [z12], [z30], [z34], [z33]] ∧ μ10 [[(z11 + 1)], [z12], [z30], [z34], [z33]] < μ10 [[z11], [z12], [z13], [z14], [z15]])
         ))
        )
       ))
      ) ∧ ((decide (z36 = 1)) = false →
       ∀ z37 : Int, 0 ≤ z37 → z37 ≤ 1 → z37 = fnD 4 [z35, z27] →
       (((decide (z37 = 1)) = true →
        chkD 30 [(z17 + ((-5) * z18)), 5] ∧
        chkD 21 [z12, (z17 + ((-5) * z18))] ∧
        ∀ z38 : Int, 0 ≤ z38 → z38 ≤ RB → z38 = fnD 42 [z12, (z17 + ((-5) * z18)), 0, 0] →
        ((((!(decide (z31 = 0)))) = true →
         K [[z0]] [[(cond (false) 1 0)]]
        ) ∧ (((!(decide (z31 = 0)))) = false →
         ∃ (I39 : List (List Int) → Prop) (μ39 : List (List Int) → Nat), I39 [[0]] ∧ (∀ z40 : Int, 0 ≤ z40 → z40 ≤ 5 → I39 [[z40]] →
          (((decide (z40 < 5)) = true →
           chkD 2 [214749355283, z40, (z40 + 1)] ∧
           ∀ z41 : Int, 0 ≤ z41 → z41 ≤ HB → z41 = fnD 2 [214749355283, z40, (z40 + 1)] →
           chkD 3 [236476502788, z41] ∧
           ∀ z42 : Int, 0 ≤ z42 → z42 ≤ HB → z42 = fnD 3 [236476502788, z41] →
           chkD 22 [z30, 0, z34] ∧
           ∀ z43 : Int, 0 ≤ z43 → z43 ≤ RB → z43 = fnD 22 [z30, 0, z34] →
           ∀ r44 : List Int, inB [(0, HB), (0, HB), (0, HB), ((-9223372036854775808), 9223372036854775807)] r44 → ∀ z48 : Int, 0 ≤ z48 → z48 ≤ 1 → S 304 [[z43], [124890778723732, z42]] [r44, [z48]] →
           chkD 30 [z40, 5] ∧
           chkD 21 [z38, z40] ∧
           ∀ z49 : Int, 0 ≤ z49 → z49 ≤ HB → z49 = fnD 21 [z38, z40, 0] →
           ∀ z50 : Int, 0 ≤ z50 → z50 ≤ 1 → z50 = fnD 4 [z49, 0] →
           ((((!(((decide (z48 = 1)) == ((!(decide (z50 = 1)))))))) = true →
            K [[z0]] [[(cond (false) 1 0)]]
           ) ∧ (((!(((decide (z48 = 1)) == ((!(decide (z50 = 1)))))))) = false →
            chkD 30 [z40, 5] ∧
            chkD 21 [z38, z40] ∧
            ∀ z51 : Int, 0 ≤ z51 → z51 ≤ HB → z51 = fnD 21 [z38, z40, 0] →
            ∀ z52 : Int, 0 ≤ z52 → z52 ≤ 1 → z52 = fnD 4 [(List.getD r44 2 0), z51] →
            ((((!(decide (z52 = 1)))) = true →
             K [[z0]] [[(cond (false) 1 0)]]
            ) ∧ (((!(decide (z52 = 1)))) = false →
             (I39 [[(z40 + 1)]] ∧ μ39 [[(z40 + 1)]] < μ39 [[z40]])
            ))
           ))
          ) ∧ ((decide (z40 < 5)) = false →
           chkD 39 [(z11 + 1), 0, 200] ∧
           (I10 [[(z11 + 1)], [z38], [z30], [z34], [z33]] ∧ μ10 [[(z11 + 1)], [z38], [z30], [z34], [z33]] < μ10 [[z11], [z12], [z13], [z14], [z15]])
          ))
         )
        ))
       ) ∧ ((decide (z37 = 1)) = false →
        ((((!(decide (z31 = 14)))) = true →
         K [[z0]] [[(cond (false) 1 0)]]
        ) ∧ (((!(decide (z31 = 14)))) = false →
         ∃ (I38 : List (List Int) → Prop) (μ38 : List (List Int) → Nat), I38 [[0]] ∧ (∀ z39 : Int, 0 ≤ z39 → z39 ≤ 5 → I38 [[z39]] →
          (((decide (z39 < 5)) = true →
           chkD 2 [214749355283, z39, (z39 + 1)] ∧
           ∀ z40 : Int, 0 ≤ z40 → z40 ≤ HB → z40 = fnD 2 [214749355283, z39, (z39 + 1)] →
           chkD 3 [236476502788, z40] ∧
           ∀ z41 : Int, 0 ≤ z41 → z41 ≤ HB → z41 = fnD 3 [236476502788, z40] →
           chkD 22 [z30, 0, z34] ∧
           ∀ z42 : Int, 0 ≤ z42 → z42 ≤ RB → z42 = fnD 22 [z30, 0, z34] →
           ∀ r43 : List Int, inB [(0, HB), (0, HB), (0, HB), ((-9223372036854775808), 9223372036854775807)] r43 → ∀ z47 : Int, 0 ≤ z47 → z47 ≤ 1 → S 304 [[z42], [124890778723732, z41]] [r43, [z47]] →
           chkD 30 [z39, 5] ∧
           chkD 21 [z12, z39] ∧
           ∀ z48 : Int, 0 ≤ z48 → z48 ≤ HB → z48 = fnD 21 [z12, z39, 0] →
           ∀ z49 : Int, 0 ≤ z49 → z49 ≤ 1 → z49 = fnD 4 [z48, 0] →
           ((((!(((decide (z47 = 1)) == ((!(decide (z49 = 1)))))))) = true →
            K [[z0]] [[(cond (false) 1 0)]]
           ) ∧ (((!(((decide (z47 = 1)) == ((!(decide (z49 = 1)))))))) = false →
            chkD 30 [z39, 5] ∧
            chkD 21 [z12, z39] ∧
            ∀ z50 : Int, 0 ≤ z50 → z50 ≤ HB → z50 = fnD 21 [z12, z39, 0] →
            ∀ z51 : Int, 0 ≤ z51 → z51 ≤ 1 → z51 = fnD 4 [(List.getD r43 2 0), z50] →
            ((((!(decide (z51 = 1)))) = true →
             K [[z0]] [[(cond (false) 1 0)]]
            ) ∧ (((!(decide (z51 = 1)))) = false →
             (I38 [[(z39 + 1)]] ∧ μ38 [[(z39 + 1)]] < μ38 [[z39]])
            ))
           ))
          ) ∧ ((decide (z39 < 5)) = false →
           chkD 39 [(z11 + 1), 0, 200] ∧
           (I10 [[(z11 + 1)], [z12], [z30], [z34], [z33]] ∧ μ10 [[(z11 + 1)], [z12], [z30], [z34], [z33]] < μ10 [[z11], [z12], [z13], [z14], [z15]])
          ))
         )
        ))
       ))
      ))
     ) ∧ ((decide (z28 = 1)) = false →
      chkD 22 [z13, 0, z14] ∧
      ∀ z29 : Int, 0 ≤ z29 → z29 ≤ RB → z29 = fnD 22 [z13, 0, z14] →
      ∀ z30 : Int, 0 ≤ z30 → z30 ≤ RB → ∀ z31 : Int, 0 ≤ z31 → z31 ≤ 21 → S 308 [[z29], [124890778723732, z20, z27, z11]] [[z30], [z31]] →
      ∀ z32 : Int, 0 ≤ z32 →
      ∀ z33 : Int, (-1) ≤ z33 → z33 ≤ 9223372036854775807 → 
      ∀ z34 : Int, 0 ≤ z34 → z34 ≤ 9223372036854775807 → z34 = fnD 20 [z30] →
      ((((!(decide (z31 = 0)))) = true →
       K [[z0]] [[(cond (false) 1 0)]]
      ) ∧ (((!(decide (z31 = 0)))) = false →
       chkD 30 [(z17 + ((-5) * z18)), 5] ∧
       chkD 21 [z12, (z17 + ((-5) * z18))] ∧
       ∀ z35 : Int, 0 ≤ z35 → z35 ≤ RB → z35 = fnD 42 [z12, (z17 + ((-5) * z18)), 0, z27] →
       ∃ (I36 : List (List Int) → Prop) (μ36 : List (List Int) → Nat), I36 [[0]] ∧ (∀ z37 : Int, 0 ≤ z37 → z37 ≤ 5 → I36 [[z37]] →
        (((decide (z37 < 5)) = true →
         chkD 2 [214749355283, z37, (z37 + 1)] ∧
         ∀ z38 : Int, 0 ≤ z38 → z38 ≤ HB → z38 = fnD 2 [214749355283, z37, (z37 + 1)] →
         chkD 3 [236476502788, z38] ∧
         ∀ z39 : Int, 0 ≤ z39 → z39 ≤ HB → z39 = fnD 3 [236476502788, z38] →
         chkD 22 [z30, 0, z34] ∧
         ∀ z40 : Int, 0 ≤ z40 → z40 ≤ RB → z40 = fnD 22 [z30, 0, z34] →
         ∀ r41 : List Int, inB [(0, HB), (0, HB), (0, HB), ((-9223372036854775808), 9223372036854775807)] r41 → ∀ z45 : Int, 0 ≤ z45 → z45 ≤ 1 → S 304 [[z40], [124890778723732, z39]] [r41, [z45]] →
         chkD 30 [z37, 5] ∧
         chkD 21 [z35, z37] ∧
         ∀ z46 : Int, 0 ≤ z46 → z46 ≤ HB → z46 = fnD 21 [z35, z37, 0] →
         ∀ z47 : Int, 0 ≤ z47 → z47 ≤ 1 → z47 = fnD 4 [z46, 0] →
         ((((!(((decide (z45 = 1)) == ((!(decide (z47 = 1)))))))) = true →
          K [[z0]] [[(cond (false) 1 0)]]
         ) ∧ (((!(((decide (z45 = 1)) == ((!(decide (z47 = 1)))))))) = false →
          chkD 30 [z37, 5] ∧
          chkD 21 [z35, z37] ∧
          ∀ z48 : Int, 0 ≤ z48 → z48 ≤ HB → z48 = fnD 21 [z35, z37, 0] →
          ∀ z49 : Int, 0 ≤ z49 → z49 ≤ 1 → z49 = fnD 4 [(List.getD r41 2 0), z48] →
          ((((!(decide (z49 = 1)))) = true →
           K [[z0]] [[(cond (false) 1 0)]]
          ) ∧ (((!(decide (z49 = 1)))) = false →
           (I36 [[(z37 + 1)]] ∧ μ36 [[(z37 + 1)]] < μ36 [[z37]])
          ))
         ))
        ) ∧ ((decide (z37 < 5)) = false →
         chkD 39 [(z11 + 1), 0, 200] ∧
         (I10 [[(z11 + 1)], [z35], [z30], [z34], [z33]] ∧ μ10 [[(z11 + 1)], [z35], [z30], [z34], [z33]] < μ10 [[z11], [z12], [z13], [z14], [z15]])
        ))
       )
      ))
     ))
    ) ∧ ((decide (z11 < z3)) = false →
     chkD 22 [z13, 0, z14] ∧
     ∀ z17 : Int, 0 ≤ z17 → z17 ≤ RB → z17 = fnD 22 [z13, 0, z14] →
     ∀ z18 : Int, 0 ≤ z18 → z18 ≤ 1 → S 303 [[z17]] [[z18]] →
     K [[z0]] [[(cond (decide (z18 = 1)) 1 0)]]
    ))
   )
  ))
 ))
/-! ### BondLast: the walk's condition -/
def wsOf (z : Int) : List Tx := (rOf z).map fun row => sOf (row.getD 0 0)
theorem ws_len (z : Int) : (wsOf z).length = (rOf z).length := by simp [wsOf]
theorem ws_get {z : Int} {k : Nat} (h : k < (rOf z).length) : sOf (((rOf z).getD k []).getD 0 0) = (wsOf z).getD k [] := by simp [wsOf, List.getD, h]
theorem t_digits : sOf 214749355283 = [54, 55, 56, 57, 48] := by decide +kernel
theorem t_12345 : sOf 236476502788 = [49, 50, 51, 52, 53] := by decide +kernel
theorem t_abc : sOf 6630441 = [97, 98, 99] := by decide +kernel
theorem t_at : sOf 65 = [64] := by decide +kernel
theorem t_ch : sOf 27044 = [58, 104] := by decide +kernel
theorem t_msisdn : sOf 124890778723732 = [109, 115, 105, 115, 100, 110] := by decide +kernel
theorem t_nil : sOf 0 = [] := by decide +kernel
theorem one_of_text {s k z : Int} {l : Tx} {n : Nat} (hs : sOf s = l) (hk : k = (n : Int)) (hn : n < l.length) (hz : z = fnD 2 [s, k, k + 1]) : sOf z = [l.getD n 0] := by
  rw [hz]
  show sOf (cOf (((sOf s).drop k.toNat).take ((k + 1).toNat - k.toNat))) = _
  rw [sOf_cOf, hs, hk, show ((n : Int)).toNat = n by omega, show ((n : Int) + 1).toNat = n + 1 by omega, show n + 1 - n = 1 by omega, List.drop_eq_getElem_cons hn, List.take_succ_cons, List.take_zero]
  simp [List.getD, hn]
theorem who_text {k z19 z20 : Int} {n : Nat} (hk : k = (n : Int)) (hn : n < 5) (h19 : z19 = fnD 2 [214749355283, k, k + 1]) (h20 : z20 = fnD 3 [236476502788, z19]) : whoOf [124890778723732, z20] = aK n := by
  have h1 := one_of_text t_digits hk hn h19
  have h2 : sOf z20 = [49, 50, 51, 52, 53] ++ [([54, 55, 56, 57, 48] : Tx).getD n 0] := by
    rw [h20]
    show sOf (cOf (sOf 236476502788 ++ sOf z19)) = _
    rw [sOf_cOf, t_12345, h1]
  show (sOf 124890778723732, sOf z20) = _
  rw [t_msisdn, h2]; rfl
theorem whose_one {k : Int} {l : Tx} {n : Nat} (hk : k = (n : Int)) (hn : n + 1 ≤ l.length) (hl : l.length ≤ 5) {s : Int} (hs : sOf s = l) : chkD 2 [s, k, k + 1] := by
  show 0 ≤ k ∧ k ≤ k + 1 ∧ k + 1 ≤ ((sOf s).length : Int)
  rw [hs]; omega
theorem chk3 {s z : Int} {l : Tx} (hs : sOf s = l) (hl : l.length ≤ 10) {r : Tx} (hz : sOf z = r) (hr : r.length ≤ 10) : chkD 3 [s, z] := by
  show (sOf s).length + (sOf z).length ≤ mxL
  rw [hs, hz]; unfold mxL; omega
/-- All five are looked at. -/
theorem la_inner {w c n : Int} (hw5 : (rOf w).length = 5) (hR : LaR (bds c) (wsOf w)) (hn : n = ((rOf c).length : Int)) {Kf Fin : Prop} (hFin : Fin) :
    ∃ (I37 : List (List Int) → Prop) (μ37 : List (List Int) → Nat), I37 [[0]] ∧ (∀ z38 : Int, 0 ≤ z38 → z38 ≤ 5 → I37 [[z38]] →
         (((decide (z38 < 5)) = true →
          chkD 2 [214749355283, z38, (z38 + 1)] ∧
          ∀ z39 : Int, 0 ≤ z39 → z39 ≤ HB → z39 = fnD 2 [214749355283, z38, (z38 + 1)] →
          chkD 3 [236476502788, z39] ∧
          ∀ z40 : Int, 0 ≤ z40 → z40 ≤ HB → z40 = fnD 3 [236476502788, z39] →
          chkD 22 [c, 0, n] ∧
          ∀ z41 : Int, 0 ≤ z41 → z41 ≤ RB → z41 = fnD 22 [c, 0, n] →
          ∀ r42 : List Int, inB [(0, HB), (0, HB), (0, HB), ((-9223372036854775808), 9223372036854775807)] r42 → ∀ z46 : Int, 0 ≤ z46 → z46 ≤ 1 → SB 304 [[z41], [124890778723732, z40]] [r42, [z46]] →
          chkD 30 [z38, 5] ∧
          chkD 21 [w, z38] ∧
          ∀ z47 : Int, 0 ≤ z47 → z47 ≤ HB → z47 = fnD 21 [w, z38, 0] →
          ∀ z48 : Int, 0 ≤ z48 → z48 ≤ 1 → z48 = fnD 4 [z47, 0] →
          ((((!(((decide (z46 = 1)) == ((!(decide (z48 = 1)))))))) = true →
           Kf
          ) ∧ (((!(((decide (z46 = 1)) == ((!(decide (z48 = 1)))))))) = false →
           chkD 30 [z38, 5] ∧
           chkD 21 [w, z38] ∧
           ∀ z49 : Int, 0 ≤ z49 → z49 ≤ HB → z49 = fnD 21 [w, z38, 0] →
           ∀ z50 : Int, 0 ≤ z50 → z50 ≤ 1 → z50 = fnD 4 [(List.getD r42 2 0), z49] →
           ((((!(decide (z50 = 1)))) = true →
            Kf
           ) ∧ (((!(decide (z50 = 1)))) = false →
            (I37 [[(z38 + 1)]] ∧ μ37 [[(z38 + 1)]] < μ37 [[z38]])
           ))
          ))
         ) ∧ ((decide (z38 < 5)) = false →
          Fin
         ))) := by
  refine ⟨fun bl => ∃ j : Nat, bl = [[(j : Int)]], fun bl => 5 - ((bl.getD 0 []).getD 0 0).toNat, ⟨0, rfl⟩, ?_⟩
  rintro z38 _ _ ⟨j, e⟩
  obtain rfl : z38 = j := by simpa using e
  refine ⟨fun hlt => ?_, fun _ => hFin⟩
  have hlt := of_decide_eq_true hlt
  have hj : j < 5 := by omega
  refine ⟨whose_one rfl (by simp; omega) (by simp) t_digits, fun z39 _ _ h39 => ?_⟩
  have h39' := one_of_text t_digits rfl (by simpa using hj) h39
  refine ⟨chk3 t_12345 (by simp) h39' (by simp), fun z40 _ _ h40 => ?_⟩
  have hwho := who_text rfl hj h39 h40
  refine ⟨(whole_bds (y := 0) hn).1, fun z41 _ _ h41 r42 _ z46 _ _ hF => ?_⟩
  have hF : (match findL (bds z41) (whoOf [124890778723732, z40]) with | some b => bdOf r42 = b ∧ z46 = 1 | none => bdOf r42 = bd0 ∧ z46 = 0) := hF
  rw [hwho, bds_same ((whole_bds (y := z41) hn).2 h41)] at hF
  refine ⟨⟨by omega, by omega⟩, ⟨by omega, by omega⟩, fun z47 _ _ h47 z48 _ _ h48 => ?_⟩
  have hx : sOf z47 = (wsOf w).getD j [] := by
    rw [← ws_get (by omega), h47]; rfl
  have h48 := eq_dec h48
  rw [t_nil, hx] at h48
  have key : z46 = b01 (decide ((wsOf w).getD j [] ≠ [])) ∧ sOf (r42.getD 2 0) = (wsOf w).getD j [] := by
    rcases hR.find hj with ⟨g1, g2⟩ | ⟨g1, b, g2, g3⟩
    · rw [g2] at hF
      obtain ⟨k1, k2⟩ := hF
      refine ⟨by rw [k2, g1]; rfl, ?_⟩
      rw [g1]
      exact congrArg (fun b : Bd => b.2.1) k1
    · rw [g2] at hF
      obtain ⟨k1, k2⟩ := hF
      refine ⟨by rw [k2, decide_eq_true g1]; rfl, ?_⟩
      rw [← g3]
      exact congrArg (fun b : Bd => b.2.1) k1
  obtain ⟨k1, k2⟩ := key
  have e1 : decide (z46 = 1) = decide ((wsOf w).getD j [] ≠ []) := by rw [k1, b01_one]
  refine ⟨fun h => ?_, fun _ => ⟨⟨by omega, by omega⟩, ⟨by omega, by omega⟩, fun z49 _ _ h49 z50 _ _ h50 => ?_⟩⟩
  · exfalso
    rw [e1, h48] at h
    by_cases hc : (wsOf w).getD j [] = []
    · simp [hc] at h
    · simp [hc] at h
  · have h50 := eq_dec h50
    have hx9 : sOf z49 = (wsOf w).getD j [] := by rw [← hx, h49, h47]
    rw [show decide (sOf (r42.getD 2 0) = sOf z49) = true from decide_eq_true (by rw [k2, hx9])] at h50
    refine ⟨fun h => (by rw [h50] at h; cases h), fun _ => ⟨⟨j + 1, by simp⟩, ?_⟩⟩
    show 5 - ((j : Int) + 1).toNat < 5 - ((j : Int)).toNat; omega
def LaI (n : Nat) (bl : List (List Int)) : Prop := ∃ (i : Nat) (w c m p : Int), bl = [[(i : Int)], [w], [c], [m], [p]] ∧ i ≤ n ∧ (rOf w).length = 5 ∧ LaR (bds c) (wsOf w) ∧ m = ((rOf c).length : Int)
def LaM (n : Nat) (bl : List (List Int)) : Nat := n - ((bl.getD 0 []).getD 0 0).toNat
theorem ws_set {w y k v : Int} {n : Nat} {x : Tx} (hk : k = (n : Int)) (hn : n < (rOf w).length) (hx : sOf v = x) (hy : y = fnD 42 [w, k, 0, v]) : (rOf y).length = (rOf w).length ∧ wsOf y = (wsOf w).set n x := by
  have e : rOf y = (rOf w).set n (((rOf w).getD n []).take 0 ++ [v] ++ ((rOf w).getD n []).drop (0 + 1)) := by
    rw [hy]
    show rOf (rc ((rOf w).set k.toNat (((rOf w).getD k.toNat []).take ((0 : Int)).toNat ++ [v] ++ ((rOf w).getD k.toNat []).drop (((0 : Int)).toNat + [v].length)))) = _
    rw [rOf_rc, hk, show ((n : Int)).toNat = n by omega]; rfl
  refine ⟨by rw [e]; simp, ?_⟩
  unfold wsOf
  rw [e, List.map_set]
  simp [hx]
theorem p_llast : B_llast SB (KBb SB [.d .bool] 312) := by
  intro z0 a0 a1 z1 _ z2 _ _ z3 _ _ h3 z4 b0 b1 h4
  have kk : ∀ b : Bool, b = true → KBb SB [.d .bool] 312 [[z0]] [[cond b 1 0]] := fun b h => by subst h; exact ⟨⟨by decide, by decide, trivial⟩, rfl⟩
  have h3 : z3 = ((rOf z0).length : Int) := h3
  have h4 : z4 = 1 := h4
  refine ⟨fun h => (by rw [h4] at h; cases h), fun _ => ⟨fun _ => kk true rfl, fun h200 z5 _ _ h5 z6 _ _ h6 z7 _ _ h7 z8 _ _ h8 z9 _ _ h9 => ?_⟩⟩
  have h200 := of_decide_eq_false h200
  have f23 : ∀ {y c : Int}, y = fnD 23 [c, 0] → rOf y = rOf c ++ [[0]] := fun {y c} h => by
    rw [h]; show rOf (rc (rOf c ++ [[0]])) = _; exact rOf_rc _
  have h9' : rOf z9 = [[0], [0], [0], [0], [0]] := by rw [f23 h9, f23 h8, f23 h7, f23 h6, f23 h5, Go.Rx.rOf_zero]; rfl
  have hw9 : wsOf z9 = [[], [], [], [], []] := by unfold wsOf; rw [h9']; simp [t_nil]
  refine ⟨LaI (rOf z0).length, LaM (rOf z0).length, ⟨0, z9, 0, 0, -1, rfl, Nat.zero_le _, by rw [h9']; rfl, ?_, by rw [Go.Rx.rOf_zero]; rfl⟩, ?_⟩
  · rw [bds_zero, hw9]
    refine ⟨by rfl, rfl, fun b h => (by cases h), fun k _ b h => (by cases h), fun k hk h => ?_⟩
    match k, hk with
    | 0, _ => exact absurd rfl h
    | 1, _ => exact absurd rfl h
    | 2, _ => exact absurd rfl h
    | 3, _ => exact absurd rfl h
    | 4, _ => exact absurd rfl h
  rintro z11 c0 c1 z12 _ _ z13 _ _ z14 _ _ z15 _ _ ⟨i, w, c, m, p, e, hi, hw5, hR, hm⟩
  obtain ⟨rfl, rfl, rfl, rfl, rfl⟩ : z11 = i ∧ z12 = w ∧ z13 = c ∧ z14 = m ∧ z15 = p := by simpa using e
  intro z16 _
  have W := fun y => whole_bds (z := z13) (y := y) hm
  refine ⟨fun hlt => ?_, fun hge => ⟨(W 0).1, fun z17 _ _ h17 z18 _ _ h18 => ?_⟩⟩
  rotate_left
  · have h18 : z18 = b01 (rightL (bds z17)) := h18
    rw [bds_same ((W z17).2 h17), hR.1] at h18
    exact kk _ (by rw [h18]; rfl)
  have hlt := of_decide_eq_true hlt
  have hil : i < (rOf z0).length := by omega
  refine ⟨⟨by omega, by omega⟩, ⟨by omega, by omega⟩, fun z17 d0 d1 h17 z18 d2 d3 d4 d5 => ?_⟩
  obtain ⟨k, hk⟩ : ∃ k : Nat, z17 + (-5) * z18 = (k : Int) := ⟨(z17 + (-5) * z18).toNat, by omega⟩
  have hk5 : k < 5 := by omega
  rw [hk]
  refine ⟨whose_one rfl (by simp; omega) (by simp) t_digits, fun z19 _ _ h19 => ?_⟩
  have h19' := one_of_text t_digits rfl (by simpa using hk5) h19
  refine ⟨chk3 t_12345 (by simp) h19' (by simp), fun z20 _ _ h20 => ?_⟩
  have hwho := who_text rfl hk5 h19 h20
  refine ⟨⟨by omega, by omega⟩, ⟨by omega, by omega⟩, fun z21 e0 e1 h21 z22 e2 e3 e4 e5 => ⟨⟨by omega, by omega⟩, ⟨by omega, by omega⟩, fun z23 f0 f1 h23 z24 f2 f3 f4 f5 => ?_⟩⟩
  have h2123 : z21 = z23 := by rw [h21, h23]
  obtain ⟨j, hj⟩ : ∃ j : Nat, z21 + (-3) * z22 = (j : Int) := ⟨(z21 + (-3) * z22).toNat, by omega⟩
  have hj' : z23 + (-3) * z24 = (j : Int) := by omega
  have hj3 : j < 3 := by omega
  rw [hj, hj']
  refine ⟨whose_one rfl (by simp; omega) (by simp) t_abc, fun z25 _ _ h25 => ?_⟩
  have h25' := one_of_text t_abc rfl (by simpa using hj3) h25
  refine ⟨chk3 t_at (by simp) h25' (by simp), fun z26 _ _ h26 => ?_⟩
  have h26' : sOf z26 = [64] ++ [([97, 98, 99] : Tx).getD j 0] := by
    rw [h26]
    show sOf (cOf (sOf 65 ++ sOf z25)) = _
    rw [sOf_cOf, t_at, h25']
  refine ⟨chk3 h26' (by simp) t_ch (by simp), fun z27 _ _ h27 => ?_⟩
  have h27' : sOf z27 = uK j := by
    rw [h27]
    show sOf (cOf (sOf z26 ++ sOf 27044)) = _
    rw [sOf_cOf, t_ch, h26']; rfl
  have hbd : bdOf [124890778723732, z20, z27, (i : Int)] = (aK k, uK j, (i : Int)) := by
    have e1 : whoOf [124890778723732, z20, z27, (i : Int)] = aK k := hwho
    show (whoOf [124890778723732, z20, z27, (i : Int)], sOf z27, (i : Int)) = _
    rw [e1, h27']
  refine ⟨⟨by omega, by omega⟩, ⟨by omega, by omega⟩, fun z28 _ _ _ => ⟨fun _ => ⟨(W 0).1, fun z29 _ _ h29 z30 _ _ z31 _ _ h309 z32 _ z33 _ _ z34 _ _ h34 => ?_⟩, fun _ => ⟨(W 0).1, fun z29 _ _ h29 z30 _ _ z31 _ _ h308 z32 _ z33 _ _ z34 _ _ h34 => ?_⟩⟩⟩
  · have h309 : (bds z30, z31) = unbindF (bds z29) (bdOf [124890778723732, z20, z27, (i : Int)]) := h309
    rw [hbd, bds_same ((W z29).2 h29)] at h309
    have h34 : z34 = ((rOf z30).length : Int) := h34
    refine ⟨⟨by omega, by omega⟩, ⟨by omega, by omega⟩, fun z35 _ _ h35 z36 _ _ h36 => ?_⟩
    have hx : sOf z35 = (wsOf z12).getD k [] := by
      rw [← ws_get (by omega), h35]; rfl
    have h36 := eq_dec h36
    rw [t_nil, hx] at h36
    have again : ∀ (w' : Int), (rOf w').length = 5 → LaR (bds z30) (wsOf w') → ∀ q : Int, chkD 39 [(i : Int) + 1, 0, 200] ∧ (LaI (rOf z0).length [[(i : Int) + 1], [w'], [z30], [z34], [q]] ∧ LaM (rOf z0).length [[(i : Int) + 1], [w'], [z30], [z34], [q]] < LaM (rOf z0).length [[(i : Int)], [z12], [z13], [z14], [z15]]) := fun w' g1 g2 q =>
      ⟨⟨by omega, by omega⟩, ⟨i + 1, w', z30, z34, q, by simp, by omega, g1, g2, h34⟩, by show (rOf z0).length - ((i : Int) + 1).toNat < (rOf z0).length - ((i : Int)).toNat; omega⟩
    rcases hR.unbind (k := k) (j := j) (t := (i : Int)) hk5 with ⟨g1, g2⟩ | ⟨g1, g2, g3⟩ | ⟨g1, g2, g3, g4⟩
    · rw [g2] at h309
      obtain ⟨e1, e2⟩ := Prod.mk.inj h309
      refine ⟨fun _ => ⟨fun h => (by rw [e2] at h; cases h), fun _ => la_inner hw5 (by rw [e1]; exact hR) h34 (again z12 hw5 (by rw [e1]; exact hR) _)⟩, fun h => ?_⟩
      rw [g1] at h36; rw [h36] at h; cases h
    · rw [g3] at h309
      obtain ⟨e1, e2⟩ := Prod.mk.inj h309
      refine ⟨fun h => ?_, fun _ z37 _ _ h37 => ?_⟩
      · rw [h36] at h; exact absurd (of_decide_eq_true h) g1
      · have h37 := eq_dec h37
        rw [hx, h27', decide_eq_false g2] at h37
        refine ⟨fun h => (by rw [h37] at h; cases h), fun _ => ⟨fun h => (by rw [e2] at h; cases h), fun _ => la_inner hw5 (by rw [e1]; exact hR) h34 (again z12 hw5 (by rw [e1]; exact hR) _)⟩⟩
    · have e2 : z31 = 0 := by rw [← g3, ← h309]
      have e1 : bds z30 = (unbindF (bds z13) (aK k, uK j, (i : Int))).1 := by rw [← h309]
      refine ⟨fun h => ?_, fun _ z37 _ _ h37 => ?_⟩
      · rw [h36] at h; exact absurd (of_decide_eq_true h) g1
      · have h37 := eq_dec h37
        rw [hx, h27', decide_eq_true g2] at h37
        refine ⟨fun _ => ⟨⟨by omega, by omega⟩, ⟨by omega, by omega⟩, fun z38 _ _ h38 => ?_⟩, fun h => (by rw [h37] at h; cases h)⟩
        obtain ⟨q1, q2⟩ := ws_set rfl (by omega) t_nil h38
        have hR' : LaR (bds z30) (wsOf z38) := by rw [e1, q2]; exact g4
        exact ⟨fun h => (by rw [e2] at h; cases h), fun _ => la_inner (by rw [q1]; exact hw5) hR' h34 (again z38 (by rw [q1]; exact hw5) hR' _)⟩
  · have h308 : (bds z30, z31) = bindF (bds z29) (bdOf [124890778723732, z20, z27, (i : Int)]) := h308
    rw [hbd, bds_same ((W z29).2 h29)] at h308
    have h34 : z34 = ((rOf z30).length : Int) := h34
    obtain ⟨g1, g2⟩ := hR.bind (k := k) (j := j) (t := (i : Int)) hk5 hj3 (by omega) (by omega)
    have e2 : z31 = 0 := by rw [← g1, ← h308]
    have e1 : bds z30 = (bindF (bds z13) (aK k, uK j, (i : Int))).1 := by rw [← h308]
    refine ⟨fun h => (by rw [e2] at h; cases h), fun _ => ⟨⟨by omega, by omega⟩, ⟨by omega, by omega⟩, fun z35 _ _ h35 => ?_⟩⟩
    obtain ⟨q1, q2⟩ := ws_set rfl (by omega) h27' h35
    have hR' : LaR (bds z30) (wsOf z35) := by rw [e1, q2]; exact g2
    exact la_inner (by rw [q1]; exact hw5) hR' h34 ⟨⟨by omega, by omega⟩, ⟨i + 1, z35, z30, z34, z33, by simp, by omega, by rw [q1]; exact hw5, hR', h34⟩, by show (rOf z0).length - ((i : Int) + 1).toNat < (rOf z0).length - ((i : Int)).toNat; omega⟩

end Go.Ad

set_option maxRecDepth 100000
set_option linter.unusedVariables false
namespace Go.Ad
open Go Go.Rx
def li_none : FuncId → Nat → Option LoopI := fun _ _ => none
def lsh_none : Nat → List Nat := fun _ => []
def aa : D := .mix [.str, .str]
def du8 : D := .int .u8 0 255
def didx : D := .int .i64 (-1) 9223372036854775807
def derr : D := .int .i64 0 21
def ksp : D := .strk [32]
def kdot : D := .strk [46]
def kdd : D := .strk [46, 46]
def kdm : D := .strk [46, 45]
def kat : D := .strk [64]
def kcol : D := .strk [58]
def khost : D := .strk [97, 98, 99, 100, 101, 102, 103, 104, 105, 106, 107, 108, 109, 110, 111, 112, 113, 114, 115, 116, 117, 118, 119, 120, 121, 122, 65, 66, 67, 68, 69, 70, 71, 72, 73, 74, 75, 76, 77, 78, 79, 80, 81, 82, 83, 84, 85, 86, 87, 88, 89, 90, 48, 49, 50, 51, 52, 53, 54, 55, 56, 57, 46, 45]
def kdig : D := .strk [48, 49, 50, 51, 52, 53, 54, 55, 56, 57]
def kus : D := .strk [97, 98, 99, 100, 101, 102, 103, 104, 105, 106, 107, 108, 109, 110, 111, 112, 113, 114, 115, 116, 117, 118, 119, 120, 121, 122, 48, 49, 50, 51, 52, 53, 54, 55, 56, 57, 46, 95, 61, 47, 43, 45]
def bb : D := .mix [.str, .str, .str, .int .i64 (-9223372036854775808) 9223372036854775807]
def lbb : BD := .rd [.str, .str, .str, .int .i64 (-9223372036854775808) 9223372036854775807]
def obb : BD := .ow [.str, .str, .str, .int .i64 (-9223372036854775808) 9223372036854775807] 31
def dcmp : D := .int .i64 (-1) 1
def dpos : D := .int .i64 0 9223372036854775807
def oaa : BD := .ow [.str, .str] 29
def lact : BD := .rd [.bool, .int .u8 0 255, .int .u8 0 255]
def k_ibs : Con := ⟨76, 73, [.str, du8], [didx]⟩
def k_tlb : Con := ⟨48, 36, [.str, du8], [.str]⟩
def li_tlb : FuncId → Nat → Option LoopI := fun f r => match f, r with
  | 48, 1 => some ⟨[1], [(0, 0, 0)], [], [], [], [], []⟩
  | _, _ => none
def lsh_tlb : Nat → List Nat := fun n => [1]
def k_trb : Con := ⟨49, 37, [.str, du8], [.str]⟩
def li_trb : FuncId → Nat → Option LoopI := fun f r => match f, r with
  | 49, 1 => some ⟨[1], [(0, 0, 0)], [], [], [], [], []⟩
  | _, _ => none
def lsh_trb : Nat → List Nat := fun n => [1]
def k_tsp : Con := ⟨36, 120, [.str, ksp], [.str]⟩
def k_tdot : Con := ⟨36, 121, [.str, kdot], [.str]⟩
def k_cdot : Con := ⟨39, 127, [.str, kdot], [.bool]⟩
def k_tdm : Con := ⟨36, 122, [.str, kdm], [.str]⟩
def li_tdm : FuncId → Nat → Option LoopI := fun f r => match f, r with
  | 51, 1 => some ⟨[1], [(0, 0, 0)], [], [], [], [], []⟩
  | 52, 1 => some ⟨[1], [(0, 0, 0)], [], [], [], [], []⟩
  | _, _ => none
def lsh_tdm : Nat → List Nat := fun n => [1]
def k_cutat : Con := ⟨31, 125, [.str, kat], [.str, .str, .bool]⟩
def k_cutcol : Con := ⟨31, 126, [.str, kcol], [.str, .str, .bool]⟩
def k_only : Con := ⟨55, 44, [.str, .str], [.bool]⟩
def li_only : FuncId → Nat → Option LoopI := fun f r => match f, r with
  | 55, 2 => some ⟨[0, 1, 7], [(8, 0, 9223372036854775807)], [], [], [], [], []⟩
  | _, _ => none
def lsh_only : Nat → List Nat := fun n => [1]
def k_ionly : Con := ⟨46, 65, [.str, .str], [.bool]⟩
def li_ionly : FuncId → Nat → Option LoopI := fun f r => match f, r with
  | 46, 2 => some ⟨[0, 1, 7], [(8, 0, 9223372036854775807)], [], [], [], [], []⟩
  | _, _ => none
def lsh_ionly : Nat → List Nat := fun n => [1]
def k_low : Con := ⟨40, 28, [.str], [.str]⟩
def li_low : FuncId → Nat → Option LoopI := fun f r => match f, r with
  | 40, 3 => some ⟨[3, 8, 9], [(10, 0, 9223372036854775807)], [(0, 0, 0, 0)], [], [], [], []⟩
  | _, _ => none
def lsh_low : Nat → List Nat := fun n => [1, 1]
def k_cdd : Con := ⟨39, 128, [.str, kdd], [.bool]⟩
def q_cdd : QCon := ⟨k_cdd, 41⟩
def k_thost : Con := ⟨36, 123, [.str, khost], [.str]⟩
def li_thost : FuncId → Nat → Option LoopI := fun f r => match f, r with
  | 51, 1 => some ⟨[1], [(0, 0, 0)], [], [], [], [], []⟩
  | 52, 1 => some ⟨[1], [(0, 0, 0)], [], [], [], [], []⟩
  | _, _ => none
def lsh_thost : Nat → List Nat := fun n => [1]
def k_tdig : Con := ⟨36, 124, [.str, kdig], [.str]⟩
def li_tdig : FuncId → Nat → Option LoopI := fun f r => match f, r with
  | 51, 1 => some ⟨[1], [(0, 0, 0)], [], [], [], [], []⟩
  | 52, 1 => some ⟨[1], [(0, 0, 0)], [], [], [], [], []⟩
  | _, _ => none
def lsh_tdig : Nat → List Nat := fun n => [1]
def k_host : Con := ⟨47, 47, [.str], [.bool]⟩
def k_server : Con := ⟨34, 27, [.str], [.bool]⟩
def k_local : Con := ⟨37, 24, [.str], [.bool]⟩
def k_country : Con := ⟨41, 32, [.str], [aa, .bool]⟩
def k_bare : Con := ⟨42, 33, [.str], [.str, .bool, .bool]⟩
def k_tpre : Con := ⟨43, 34, [.str, .str], [.str]⟩
def k_email : Con := ⟨28, 10, [.str], [.str, derr]⟩
def k_phone : Con := ⟨29, 12, [.str, .str], [.str, derr]⟩
def q_phone : QCon := ⟨k_phone, 44⟩
def k_make : Con := ⟨25, 15, [.str, .str], [aa, derr]⟩
def k_right : Con := ⟨20, 16, [aa], [.bool]⟩
def k_less : Con := ⟨24, 14, [aa, aa], [.bool]⟩
def k_tus : Con := ⟨36, 202, [.str, kus], [.str]⟩
def li_tus : FuncId → Nat → Option LoopI := fun f r => match f, r with
  | 51, 1 => some ⟨[1], [(0, 0, 0)], [], [], [], [], []⟩
  | 52, 1 => some ⟨[1], [(0, 0, 0)], [], [], [], [], []⟩
  | _, _ => none
def lsh_tus : Nat → List Nat := fun n => [1]
def k_user : Con := ⟨21, 200, [.str], [.bool]⟩
def k_bright : Con := ⟨16, 300, [bb], [.bool]⟩
def k_bcmp : Con := ⟨18, 301, [bb, aa], [dcmp]⟩
def k_bplace : BCon := ⟨13, 302, [lbb, .d aa], [.d dpos, .d .bool], 0⟩
def li_bplace : FuncId → Nat → Option LoopI := fun f r => match f, r with
  | 19, 3 => some ⟨[0, 2, 4, 8], [(9, 0, 9223372036854775807), (10, 0, 9223372036854775807)], [], [], [], [], []⟩
  | _, _ => none
def lsh_bplace : Nat → List Nat := fun n => [1, 1]
def k_bRight : BCon := ⟨9, 303, [lbb], [.d .bool], 0⟩
def li_bRight : FuncId → Nat → Option LoopI := fun f r => match f, r with
  | 9, 4 => some ⟨[0, 8, 9], [(10, 0, 9223372036854775807)], [], [], [], [], []⟩
  | _, _ => none
def lsh_bRight : Nat → List Nat := fun n => [1]
def k_bFind : BCon := ⟨8, 304, [lbb, .d aa], [.d bb, .d .bool], 0⟩
def k_bOf : BCon := ⟨11, 305, [lbb, .d .str], [oaa], 0⟩
def li_bOf : FuncId → Nat → Option LoopI := fun f r => match f, r with
  | 11, 5 => some ⟨[0, 1, 11, 12], [(13, 0, 9223372036854775807)], [], [], [(5, [.str, .str], 29)], [], []⟩
  | _, _ => none
def lsh_bOf : Nat → List Nat := fun n => [1, 1, 1, 1]
def k_bins : ICon := ⟨17, 306, [.str, .str, .str, .int .i64 (-9223372036854775808) 9223372036854775807], 31, [.d dpos, lbb], 51⟩
def k_bdel : ICon := ⟨14, 307, [.str, .str, .str, .int .i64 (-9223372036854775808) 9223372036854775807], 31, [.d dpos, .d dpos], 52⟩
def k_bBind : BCon := ⟨7, 308, [lbb, .d bb], [lbb, .d derr], 0⟩
def k_bUnbind : BCon := ⟨6, 309, [lbb, .d bb], [lbb, .d derr], 0⟩
def k_balive : BCon := ⟨5, 310, [], [.d .bool], 0⟩
def k_lcounts : BCon := ⟨4, 311, [lbb, .d .str], [.d .bool], 0⟩
def li_lcounts : FuncId → Nat → Option LoopI := fun f r => match f, r with
  | 4, 8 => some ⟨[0, 1, 5], [(6, 0, 9223372036854775807), (7, 0, 9223372036854775807)], [], [], [], [], []⟩
  | 4, 13 => some ⟨[0, 1, 5, 6], [(8, 0, 9223372036854775807)], [], [], [], [], []⟩
  | _, _ => none
def lsh_lcounts : Nat → List Nat := fun n => cond (Nat.beq n 12) [1, 1] [1]
def k_llast : BCon := ⟨3, 312, [lact], [.d .bool], 0⟩
def li_llast : FuncId → Nat → Option LoopI := fun f r => match f, r with
  | 3, 8 => some ⟨[0, 4], [(5, 0, 200)], [(1, 0, 0, 0)], [], [], [(1, [.str], 5)], [(3, [.str, .str, .str, .int .i64 (-9223372036854775808) 9223372036854775807])]⟩
  | 3, 29 => some ⟨[0, 3, 4, 5], [(13, 0, 5)], [], [], [], [], []⟩
  | _, _ => none
def lsh_llast : Nat → List Nat := fun n => cond (Nat.beq n 10) [1, 1, 1, 1, 1] [1]
def sh : Nat → List Nat × List Nat
  | 73 => ([1, 1], [1])
  | 36 => ([1, 1], [1])
  | 37 => ([1, 1], [1])
  | 120 => ([1], [1])
  | 121 => ([1], [1])
  | 127 => ([1], [1])
  | 122 => ([1], [1])
  | 125 => ([1], [1, 1, 1])
  | 126 => ([1], [1, 1, 1])
  | 44 => ([1, 1], [1])
  | 65 => ([1, 1], [1])
  | 28 => ([1], [1])
  | 128 => ([1], [1])
  | 123 => ([1], [1])
  | 124 => ([1], [1])
  | 47 => ([1], [1])
  | 27 => ([1], [1])
  | 24 => ([1], [1])
  | 32 => ([1], [2, 1])
  | 33 => ([1], [1, 1, 1])
  | 34 => ([1, 1], [1])
  | 10 => ([1], [1, 1])
  | 12 => ([1, 1], [1, 1])
  | 15 => ([1, 1], [2, 1])
  | 16 => ([2], [1])
  | 14 => ([2, 2], [1])
  | 202 => ([1], [1])
  | 200 => ([1], [1])
  | 300 => ([4], [1])
  | 301 => ([4, 2], [1])
  | 302 => ([1, 2], [1, 1])
  | 303 => ([1], [1])
  | 304 => ([1, 2], [4, 1])
  | 305 => ([1, 1], [1])
  | 306 => ([1, 1, 1], [1])
  | 307 => ([1, 1, 1], [1])
  | 308 => ([1, 4], [1, 1])
  | 309 => ([1, 4], [1, 1])
  | 310 => ([], [1])
  | 311 => ([1, 1], [1])
  | 312 => ([1], [1])
  | _ => ([], [])
end Go.Ad


set_option maxRecDepth 100000
namespace Go.Ad
open Go Go.Rx Go.Proofs
theorem u_tlb (S K) : VcB sh lsh_tlb S K [1, 1] (bdsL k_tlb.args) k_tlb.res (k_tlb.tree Tryd.prog [] (calQ [] []) li_tlb 600 6) = B_tlb S K := by kernel_rfl
theorem u_trb (S K) : VcB sh lsh_trb S K [1, 1] (bdsL k_trb.args) k_trb.res (k_trb.tree Tryd.prog [] (calQ [] []) li_trb 600 6) = B_trb S K := by kernel_rfl
theorem u_tsp (S K) : VcB sh lsh_none S K [1] (bdsL k_tsp.args) k_tsp.res (k_tsp.tree Tryd.prog [] (calQ [] [k_tlb, k_trb]) li_none 600 6) = B_tsp S K := by kernel_rfl
theorem u_tdot (S K) : VcB sh lsh_none S K [1] (bdsL k_tdot.args) k_tdot.res (k_tdot.tree Tryd.prog [] (calQ [] [k_tlb, k_trb]) li_none 600 6) = B_tdot S K := by kernel_rfl
theorem u_cdot (S K) : VcB sh lsh_none S K [1] (bdsL k_cdot.args) k_cdot.res (k_cdot.tree Tryd.prog [] (calQ [] [k_ibs]) li_none 600 6) = B_cdot S K := by kernel_rfl
theorem u_tdm (S K) : VcB sh lsh_tdm S K [1] (bdsL k_tdm.args) k_tdm.res (k_tdm.tree Tryd.prog [] (calQ [] []) li_tdm 600 6) = B_tdm S K := by kernel_rfl
theorem u_cutat (S K) : VcB sh lsh_none S K [1] (bdsL k_cutat.args) k_cutat.res (k_cutat.tree Tryd.prog [] (calQ [] [k_ibs]) li_none 600 6) = B_cutat S K := by kernel_rfl
theorem u_cutcol (S K) : VcB sh lsh_none S K [1] (bdsL k_cutcol.args) k_cutcol.res (k_cutcol.tree Tryd.prog [] (calQ [] [k_ibs]) li_none 600 6) = B_cutcol S K := by kernel_rfl
theorem u_only (S K) : VcB sh lsh_only S K [1, 1] (bdsL k_only.args) k_only.res (k_only.tree Tryd.prog [] (calQ [] [k_ibs]) li_only 600 6) = B_only S K := by kernel_rfl
theorem u_ionly (S K) : VcB sh lsh_ionly S K [1, 1] (bdsL k_ionly.args) k_ionly.res (k_ionly.tree Tryd.prog [] (calQ [] [k_ibs]) li_ionly 600 6) = B_ionly S K := by kernel_rfl
theorem u_thost (S K) : VcB sh lsh_thost S K [1] (bdsL k_thost.args) k_thost.res (k_thost.tree Tryd.prog [] (calQ [] []) li_thost 600 6) = B_thost S K := by kernel_rfl
theorem u_tdig (S K) : VcB sh lsh_tdig S K [1] (bdsL k_tdig.args) k_tdig.res (k_tdig.tree Tryd.prog [] (calQ [] []) li_tdig 600 6) = B_tdig S K := by kernel_rfl
end Go.Ad

set_option maxRecDepth 100000
namespace Go.Ad
open Go Go.Rx Go.Proofs
theorem u_host (S K) : VcB sh lsh_none S K [1] (bdsL k_host.args) k_host.res (k_host.tree Tryd.prog [] (calQ [q_cdd] [k_thost, k_tdm, k_ionly]) li_none 600 6) = B_host S K := by kernel_rfl
theorem u_server (S K) : VcB sh lsh_none S K [1] (bdsL k_server.args) k_server.res (k_server.tree Tryd.prog [] (calQ [] [k_cutcol, k_host, k_tdig, k_ionly]) li_none 600 6) = B_server S K := by kernel_rfl
theorem u_local (S K) : VcB sh lsh_none S K [1] (bdsL k_local.args) k_local.res (k_local.tree Tryd.prog [] (calQ [q_cdd] [k_only, k_tdot]) li_none 600 6) = B_local S K := by kernel_rfl
theorem u_email (S K) : VcB sh lsh_none S K [1] (bdsL k_email.args) k_email.res (k_email.tree Tryd.prog [] (calQ [] [k_tsp, k_cutat, k_local, k_cdot, k_server, k_low, k_ibs]) li_none 600 6) = B_email S K := by kernel_rfl
theorem u_tpre (S K) : VcB sh lsh_none S K [1, 1] (bdsL k_tpre.args) k_tpre.res (k_tpre.tree Tryd.prog [] (calQ [] []) li_none 600 6) = B_tpre S K := by kernel_rfl
theorem u_phone (S K) : VcB sh lsh_none S K [1, 1] (bdsL k_phone.args) k_phone.res (q_phone.tree Tryd.prog [] (calQ [] [k_country, k_bare, k_tpre]) li_none 600 6) = B_phone S K := by kernel_rfl
theorem u_make (S K) : VcB sh lsh_none S K [1, 1] (bdsL k_make.args) k_make.res (k_make.tree Tryd.prog [] (calQ [q_phone] [k_email]) li_none 600 6) = B_make S K := by kernel_rfl
theorem u_right (S K) : VcB sh lsh_none S K [2] (bdsL k_right.args) k_right.res (k_right.tree Tryd.prog [] (calQ [] [k_make]) li_none 600 6) = B_right S K := by kernel_rfl
theorem u_less (S K) : VcB sh lsh_none S K [2, 2] (bdsL k_less.args) k_less.res (k_less.tree Tryd.prog [] (calQ [] []) li_none 600 6) = B_less S K := by kernel_rfl
theorem u_tus (S K) : VcB sh lsh_tus S K [1] (bdsL k_tus.args) k_tus.res (k_tus.tree Tryd.prog [] (calQ [] []) li_tus 600 6) = B_tus S K := by kernel_rfl
theorem u_user (S K) : VcB sh lsh_none S K [1] (bdsL k_user.args) k_user.res (k_user.tree Tryd.prog [] (calQ [] [k_cutcol, k_tus, k_ionly, k_server]) li_none 600 6) = B_user S K := by kernel_rfl
end Go.Ad

set_option maxRecDepth 100000
namespace Go.Ad
open Go Go.Rx Go.Proofs
theorem u_low (S K) : VcB sh lsh_low S K [1] (bdsL k_low.args) k_low.res (k_low.tree Tryd.prog [] (calQ [] []) li_low 600 6) = B_low S K := by kernel_rfl
theorem u_bright (S K) : VcB sh lsh_none S K [4] (bdsL k_bright.args) k_bright.res (k_bright.tree Tryd.prog [] (calQ [] [k_right, k_user]) li_none 600 6) = B_bright S K := by kernel_rfl
theorem u_bcmp (S K) : VcB sh lsh_none S K [4, 2] (bdsL k_bcmp.args) k_bcmp.res (k_bcmp.tree Tryd.prog [] (calQ [] [k_less]) li_none 600 6) = B_bcmp S K := by kernel_rfl
theorem u_bplace (S K) : VcF sh lsh_bplace S K [1, 2] (bbds k_bplace.args) k_bplace.res (k_bplace.tree (bcOf []) Tryd.prog [] (calQ [] [k_bcmp]) li_bplace 600 6) = B_bplace S K := by kernel_rfl
theorem u_bRight (S K) : VcF sh lsh_bRight S K [1] (bbds k_bRight.args) k_bRight.res (k_bRight.tree (bcOf []) Tryd.prog [] (calQ [] [k_bright, k_bcmp]) li_bRight 600 6) = B_bRight S K := by kernel_rfl
theorem u_bFind (S K) : VcF sh lsh_none S K [1, 2] (bbds k_bFind.args) k_bFind.res (k_bFind.tree (bcOf [k_bRight, k_bplace]) Tryd.prog [] (calQ [] []) li_none 600 6) = B_bFind S K := by kernel_rfl
theorem u_bOf (S K) : VcF sh lsh_bOf S K [1, 1] (bbds k_bOf.args) k_bOf.res (k_bOf.tree (bcOf [k_bRight]) Tryd.prog [] (calQ [] []) li_bOf 600 6) = B_bOf S K := by kernel_rfl
theorem u_bBind (S K) : VcF sh lsh_none S K [1, 4] (bbds k_bBind.args) k_bBind.res (k_bBind.tree (icOf [k_bins] (bcOf [k_bRight, k_bplace])) Tryd.prog [] (calQ [] [k_bright]) li_none 600 6) = B_bBind S K := by kernel_rfl
theorem u_bUnbind (S K) : VcF sh lsh_none S K [1, 4] (bbds k_bUnbind.args) k_bUnbind.res (k_bUnbind.tree (icOf [k_bdel] (bcOf [k_bRight, k_bplace])) Tryd.prog [] (calQ [] []) li_none 600 6) = B_bUnbind S K := by kernel_rfl
theorem u_balive (S K) : VcF sh lsh_none S K [] (bbds k_balive.args) k_balive.res (k_balive.tree (bcOf [k_bBind, k_bUnbind, k_bFind, k_bOf]) Tryd.prog [] (calQ [] []) li_none 600 6) = B_balive S K := by kernel_rfl
theorem u_lcounts (S K) : VcF sh lsh_lcounts S K [1, 1] (bbds k_lcounts.args) k_lcounts.res (k_lcounts.tree (bcOf [k_balive, k_bRight, k_bOf, k_bFind]) Tryd.prog [] (calQ [] []) li_lcounts 600 6) = B_lcounts S K := by kernel_rfl
theorem u_llast (S K) : VcF sh lsh_llast S K [1] (bbds k_llast.args) k_llast.res (k_llast.tree (bcOf [k_balive, k_bBind, k_bUnbind, k_bFind, k_bRight]) Tryd.prog [] (calQ [] []) li_llast 600 6) = B_llast S K := by kernel_rfl
end Go.Ad

set_option linter.unusedVariables false
set_option maxRecDepth 100000
namespace Go.Ad
open Go Go.Rx Go.Proofs
abbrev OC (wb : World) (k : Con) : Prop := k.OkF Tryd.prog wb (flatS sh SB k.id)
abbrev OQ (wb : World) (q : QCon) : Prop := q.Ok Tryd.prog wb (flatS sh SB q.c.id)
abbrev OB (wb : World) (k : BCon) : Prop := k.Ok Tryd.prog wb (flatS sh SB k.id)
abbrev OI (wb : World) (k : ICon) : Prop := k.Ok Tryd.prog wb (flatS sh SB k.id)
theorem mx : Tryd.prog.follows .mixedOrders = true := by kernel_rfl
theorem nil0 {α : Type} {p : α → Prop} : ∀ x ∈ ([] : List α), p x := fun _ h => by cases h
theorem cons0 {α : Type} {p : α → Prop} {a : α} {l : List α} (h : p a) (hl : ∀ x ∈ l, p x) : ∀ x ∈ a :: l, p x := fun x hx => by
  rcases List.mem_cons.1 hx with rfl | hx
  · exact h
  · exact hl x hx
theorem rv0 {a0 b0 : Int} (h0 : a0 = b0) : resVal [.int .i64 (-1) 9223372036854775807] [a0] = resVal [.int .i64 (-1) 9223372036854775807] [b0] := by
  show (.int .i64 a0 : Value) = (.int .i64 b0 : Value)
  rw [h0]
theorem rv1 {a0 b0 : Int} (h0 : sOf a0 = sOf b0) : resVal [.str] [a0] = resVal [.str] [b0] := by
  show (.string (bA (sOf a0)) : Value) = (.string (bA (sOf b0)) : Value)
  rw [h0]
theorem rv2 {a0 b0 : Int} (h0 : a0 = b0) : resVal [.bool] [a0] = resVal [.bool] [b0] := by
  show (.bool (decide (a0 = 1)) : Value) = (.bool (decide (b0 = 1)) : Value)
  rw [h0]
theorem rv3 {a0 a1 a2 b0 b1 b2 : Int} (h0 : sOf a0 = sOf b0) (h1 : sOf a1 = sOf b1) (h2 : a2 = b2) : resVal [.str, .str, .bool] [a0, a1, a2] = resVal [.str, .str, .bool] [b0, b1, b2] := by
  show (.tuple #[.string (bA (sOf a0)), .string (bA (sOf a1)), .bool (decide (a2 = 1))] : Value) = (.tuple #[.string (bA (sOf b0)), .string (bA (sOf b1)), .bool (decide (b2 = 1))] : Value)
  rw [h0, h1, h2]
theorem rv4 {a0 a1 a2 b0 b1 b2 : Int} (h0 : sOf a0 = sOf b0) (h1 : sOf a1 = sOf b1) (h2 : a2 = b2) : resVal [.mix [.str, .str], .bool] [a0, a1, a2] = resVal [.mix [.str, .str], .bool] [b0, b1, b2] := by
  show (.tuple #[.agg #[.string (bA (sOf a0)), .string (bA (sOf a1))], .bool (decide (a2 = 1))] : Value) = (.tuple #[.agg #[.string (bA (sOf b0)), .string (bA (sOf b1))], .bool (decide (b2 = 1))] : Value)
  rw [h0, h1, h2]
theorem rv5 {a0 a1 a2 b0 b1 b2 : Int} (h0 : sOf a0 = sOf b0) (h1 : a1 = b1) (h2 : a2 = b2) : resVal [.str, .bool, .bool] [a0, a1, a2] = resVal [.str, .bool, .bool] [b0, b1, b2] := by
  show (.tuple #[.string (bA (sOf a0)), .bool (decide (a1 = 1)), .bool (decide (a2 = 1))] : Value) = (.tuple #[.string (bA (sOf b0)), .bool (decide (b1 = 1)), .bool (decide (b2 = 1))] : Value)
  rw [h0, h1, h2]
theorem rv6 {a0 a1 b0 b1 : Int} (h0 : sOf a0 = sOf b0) (h1 : a1 = b1) : resVal [.str, .int .i64 0 21] [a0, a1] = resVal [.str, .int .i64 0 21] [b0, b1] := by
  show (.tuple #[.string (bA (sOf a0)), .int .i64 a1] : Value) = (.tuple #[.string (bA (sOf b0)), .int .i64 b1] : Value)
  rw [h0, h1]
theorem rv7 {a0 a1 a2 b0 b1 b2 : Int} (h0 : sOf a0 = sOf b0) (h1 : sOf a1 = sOf b1) (h2 : a2 = b2) : resVal [.mix [.str, .str], .int .i64 0 21] [a0, a1, a2] = resVal [.mix [.str, .str], .int .i64 0 21] [b0, b1, b2] := by
  show (.tuple #[.agg #[.string (bA (sOf a0)), .string (bA (sOf a1))], .int .i64 a2] : Value) = (.tuple #[.agg #[.string (bA (sOf b0)), .string (bA (sOf b1))], .int .i64 b2] : Value)
  rw [h0, h1, h2]
theorem rv8 {a0 b0 : Int} (h0 : a0 = b0) : resVal [.int .i64 (-1) 1] [a0] = resVal [.int .i64 (-1) 1] [b0] := by
  show (.int .i64 a0 : Value) = (.int .i64 b0 : Value)
  rw [h0]
theorem uv_tlb : OneV k_tlb.args k_tlb.res (flatS sh SB 36) := by
  intro zs rs rs' hz hr hr' h h'
  match zs, rs, rs', hz, hr, hr', h, h' with
  | [z0, z1], [a0], [b0], _, _, _, h, h' =>
    exact rv1 (Eq.trans h (Eq.symm h'))
theorem ok_tlb {wb : World} (hg : GOk [] ⟨wb, wb, fun _ => False, fun _ => False⟩)  : OC wb k_tlb := by
  refine Con.Ok.f (ok_vcb (SB := SB) (sh := sh) (c := k_tlb) (cal := (calQ [] [])) (li := li_tlb) (rounds := 600) (d := 6) (lsh := lsh_tlb) (lens := [1, 1]) mx (fun _ _ _ => calQ_ok nil0 nil0) hg (by kernel_rfl) uv_tlb rfl rfl ?_)
  rw [u_tlb]
  exact p_tlb
theorem uv_trb : OneV k_trb.args k_trb.res (flatS sh SB 37) := by
  intro zs rs rs' hz hr hr' h h'
  match zs, rs, rs', hz, hr, hr', h, h' with
  | [z0, z1], [a0], [b0], _, _, _, h, h' =>
    exact rv1 (Eq.trans h (Eq.symm h'))
theorem ok_trb {wb : World} (hg : GOk [] ⟨wb, wb, fun _ => False, fun _ => False⟩)  : OC wb k_trb := by
  refine Con.Ok.f (ok_vcb (SB := SB) (sh := sh) (c := k_trb) (cal := (calQ [] [])) (li := li_trb) (rounds := 600) (d := 6) (lsh := lsh_trb) (lens := [1, 1]) mx (fun _ _ _ => calQ_ok nil0 nil0) hg (by kernel_rfl) uv_trb rfl rfl ?_)
  rw [u_trb]
  exact p_trb
theorem uv_tsp : OneV k_tsp.args k_tsp.res (flatS sh SB 120) := by
  intro zs rs rs' hz hr hr' h h'
  match zs, rs, rs', hz, hr, hr', h, h' with
  | [z0], [a0], [b0], _, _, _, h, h' =>
    exact rv1 (Eq.trans h (Eq.symm h'))
theorem ok_tsp {wb : World} (hg : GOk [] ⟨wb, wb, fun _ => False, fun _ => False⟩) (h_tlb : OC wb k_tlb) (h_trb : OC wb k_trb) : OC wb k_tsp := by
  refine Con.Ok.f (ok_vcb (SB := SB) (sh := sh) (c := k_tsp) (cal := (calQ [] [k_tlb, k_trb])) (li := li_none) (rounds := 600) (d := 6) (lsh := lsh_none) (lens := [1]) mx (fun _ _ _ => calQ_ok nil0 (cons0 h_tlb (cons0 h_trb nil0))) hg (by kernel_rfl) uv_tsp rfl rfl ?_)
  rw [u_tsp]
  exact p_tsp
theorem uv_tdot : OneV k_tdot.args k_tdot.res (flatS sh SB 121) := by
  intro zs rs rs' hz hr hr' h h'
  match zs, rs, rs', hz, hr, hr', h, h' with
  | [z0], [a0], [b0], _, _, _, h, h' =>
    exact rv1 (Eq.trans h (Eq.symm h'))
theorem ok_tdot {wb : World} (hg : GOk [] ⟨wb, wb, fun _ => False, fun _ => False⟩) (h_tlb : OC wb k_tlb) (h_trb : OC wb k_trb) : OC wb k_tdot := by
  refine Con.Ok.f (ok_vcb (SB := SB) (sh := sh) (c := k_tdot) (cal := (calQ [] [k_tlb, k_trb])) (li := li_none) (rounds := 600) (d := 6) (lsh := lsh_none) (lens := [1]) mx (fun _ _ _ => calQ_ok nil0 (cons0 h_tlb (cons0 h_trb nil0))) hg (by kernel_rfl) uv_tdot rfl rfl ?_)
  rw [u_tdot]
  exact p_tdot
theorem uv_cdot : OneV k_cdot.args k_cdot.res (flatS sh SB 127) := by
  intro zs rs rs' hz hr hr' h h'
  match zs, rs, rs', hz, hr, hr', h, h' with
  | [z0], [a0], [b0], _, _, _, h, h' =>
    exact rv2 (Eq.trans h (Eq.symm h'))
theorem ok_cdot {wb : World} (hg : GOk [] ⟨wb, wb, fun _ => False, fun _ => False⟩) (h_ibs : OC wb k_ibs) : OC wb k_cdot := by
  refine Con.Ok.f (ok_vcb (SB := SB) (sh := sh) (c := k_cdot) (cal := (calQ [] [k_ibs])) (li := li_none) (rounds := 600) (d := 6) (lsh := lsh_none) (lens := [1]) mx (fun _ _ _ => calQ_ok nil0 (cons0 h_ibs nil0)) hg (by kernel_rfl) uv_cdot rfl rfl ?_)
  rw [u_cdot]
  exact p_cdot
theorem uv_tdm : OneV k_tdm.args k_tdm.res (flatS sh SB 122) := by
  intro zs rs rs' hz hr hr' h h'
  match zs, rs, rs', hz, hr, hr', h, h' with
  | [z0], [a0], [b0], _, _, _, h, h' =>
    exact rv1 (Eq.trans h (Eq.symm h'))
theorem ok_tdm {wb : World} (hg : GOk [] ⟨wb, wb, fun _ => False, fun _ => False⟩)  : OC wb k_tdm := by
  refine Con.Ok.f (ok_vcb (SB := SB) (sh := sh) (c := k_tdm) (cal := (calQ [] [])) (li := li_tdm) (rounds := 600) (d := 6) (lsh := lsh_tdm) (lens := [1]) mx (fun _ _ _ => calQ_ok nil0 nil0) hg (by kernel_rfl) uv_tdm rfl rfl ?_)
  rw [u_tdm]
  exact p_tdm
theorem uv_cutat : OneV k_cutat.args k_cutat.res (flatS sh SB 125) := by
  intro zs rs rs' hz hr hr' h h'
  match zs, rs, rs', hz, hr, hr', h, h' with
  | [z0], [a0, a1, a2], [b0, b1, b2], _, _, _, h, h' =>
    have e : (sOf a0, sOf a1, a2) = (sOf b0, sOf b1, b2) := Eq.trans h (Eq.symm h')
    simp only [Prod.mk.injEq] at e
    exact rv3 e.1 e.2.1 e.2.2
theorem ok_cutat {wb : World} (hg : GOk [] ⟨wb, wb, fun _ => False, fun _ => False⟩) (h_ibs : OC wb k_ibs) : OC wb k_cutat := by
  refine Con.Ok.f (ok_vcb (SB := SB) (sh := sh) (c := k_cutat) (cal := (calQ [] [k_ibs])) (li := li_none) (rounds := 600) (d := 6) (lsh := lsh_none) (lens := [1]) mx (fun _ _ _ => calQ_ok nil0 (cons0 h_ibs nil0)) hg (by kernel_rfl) uv_cutat rfl rfl ?_)
  rw [u_cutat]
  exact p_cutat
theorem uv_cutcol : OneV k_cutcol.args k_cutcol.res (flatS sh SB 126) := by
  intro zs rs rs' hz hr hr' h h'
  match zs, rs, rs', hz, hr, hr', h, h' with
  | [z0], [a0, a1, a2], [b0, b1, b2], _, _, _, h, h' =>
    have e : (sOf a0, sOf a1, a2) = (sOf b0, sOf b1, b2) := Eq.trans h (Eq.symm h')
    simp only [Prod.mk.injEq] at e
    exact rv3 e.1 e.2.1 e.2.2
theorem ok_cutcol {wb : World} (hg : GOk [] ⟨wb, wb, fun _ => False, fun _ => False⟩) (h_ibs : OC wb k_ibs) : OC wb k_cutcol := by
  refine Con.Ok.f (ok_vcb (SB := SB) (sh := sh) (c := k_cutcol) (cal := (calQ [] [k_ibs])) (li := li_none) (rounds := 600) (d := 6) (lsh := lsh_none) (lens := [1]) mx (fun _ _ _ => calQ_ok nil0 (cons0 h_ibs nil0)) hg (by kernel_rfl) uv_cutcol rfl rfl ?_)
  rw [u_cutcol]
  exact p_cutcol
theorem uv_only : OneV k_only.args k_only.res (flatS sh SB 44) := by
  intro zs rs rs' hz hr hr' h h'
  match zs, rs, rs', hz, hr, hr', h, h' with
  | [z0, z1], [a0], [b0], _, _, _, h, h' =>
    exact rv2 (Eq.trans h (Eq.symm h'))
theorem ok_only {wb : World} (hg : GOk [] ⟨wb, wb, fun _ => False, fun _ => False⟩) (h_ibs : OC wb k_ibs) : OC wb k_only := by
  refine Con.Ok.f (ok_vcb (SB := SB) (sh := sh) (c := k_only) (cal := (calQ [] [k_ibs])) (li := li_only) (rounds := 600) (d := 6) (lsh := lsh_only) (lens := [1, 1]) mx (fun _ _ _ => calQ_ok nil0 (cons0 h_ibs nil0)) hg (by kernel_rfl) uv_only rfl rfl ?_)
  rw [u_only]
  exact p_only
theorem uv_ionly : OneV k_ionly.args k_ionly.res (flatS sh SB 65) := by
  intro zs rs rs' hz hr hr' h h'
  match zs, rs, rs', hz, hr, hr', h, h' with
  | [z0, z1], [a0], [b0], _, _, _, h, h' =>
    exact rv2 (Eq.trans h (Eq.symm h'))
theorem ok_ionly {wb : World} (hg : GOk [] ⟨wb, wb, fun _ => False, fun _ => False⟩) (h_ibs : OC wb k_ibs) : OC wb k_ionly := by
  refine Con.Ok.f (ok_vcb (SB := SB) (sh := sh) (c := k_ionly) (cal := (calQ [] [k_ibs])) (li := li_ionly) (rounds := 600) (d := 6) (lsh := lsh_ionly) (lens := [1, 1]) mx (fun _ _ _ => calQ_ok nil0 (cons0 h_ibs nil0)) hg (by kernel_rfl) uv_ionly rfl rfl ?_)
  rw [u_ionly]
  exact p_ionly
theorem uv_low : OneV k_low.args k_low.res (flatS sh SB 28) := by
  intro zs rs rs' hz hr hr' h h'
  match zs, rs, rs', hz, hr, hr', h, h' with
  | [z0], [a0], [b0], _, _, _, h, h' =>
    exact rv1 (Eq.trans h (Eq.symm h'))
theorem ok_low {wb : World} (hg : GOk [] ⟨wb, wb, fun _ => False, fun _ => False⟩)  : OC wb k_low := by
  refine Con.Ok.f (ok_vcb (SB := SB) (sh := sh) (c := k_low) (cal := (calQ [] [])) (li := li_low) (rounds := 600) (d := 6) (lsh := lsh_low) (lens := [1]) mx (fun _ _ _ => calQ_ok nil0 nil0) hg (by kernel_rfl) uv_low rfl rfl ?_)
  rw [u_low]
  exact p_low
theorem uv_thost : OneV k_thost.args k_thost.res (flatS sh SB 123) := by
  intro zs rs rs' hz hr hr' h h'
  match zs, rs, rs', hz, hr, hr', h, h' with
  | [z0], [a0], [b0], _, _, _, h, h' =>
    exact rv1 (Eq.trans h (Eq.symm h'))
theorem ok_thost {wb : World} (hg : GOk [] ⟨wb, wb, fun _ => False, fun _ => False⟩)  : OC wb k_thost := by
  refine Con.Ok.f (ok_vcb (SB := SB) (sh := sh) (c := k_thost) (cal := (calQ [] [])) (li := li_thost) (rounds := 600) (d := 6) (lsh := lsh_thost) (lens := [1]) mx (fun _ _ _ => calQ_ok nil0 nil0) hg (by kernel_rfl) uv_thost rfl rfl ?_)
  rw [u_thost]
  exact p_thost
theorem uv_tdig : OneV k_tdig.args k_tdig.res (flatS sh SB 124) := by
  intro zs rs rs' hz hr hr' h h'
  match zs, rs, rs', hz, hr, hr', h, h' with
  | [z0], [a0], [b0], _, _, _, h, h' =>
    exact rv1 (Eq.trans h (Eq.symm h'))
theorem ok_tdig {wb : World} (hg : GOk [] ⟨wb, wb, fun _ => False, fun _ => False⟩)  : OC wb k_tdig := by
  refine Con.Ok.f (ok_vcb (SB := SB) (sh := sh) (c := k_tdig) (cal := (calQ [] [])) (li := li_tdig) (rounds := 600) (d := 6) (lsh := lsh_tdig) (lens := [1]) mx (fun _ _ _ => calQ_ok nil0 nil0) hg (by kernel_rfl) uv_tdig rfl rfl ?_)
  rw [u_tdig]
  exact p_tdig
theorem uv_host : OneV k_host.args k_host.res (flatS sh SB 47) := by
  intro zs rs rs' hz hr hr' h h'
  match zs, rs, rs', hz, hr, hr', h, h' with
  | [z0], [a0], [b0], _, _, _, h, h' =>
    exact rv2 (Eq.trans h (Eq.symm h'))
theorem ok_host {wb : World} (hg : GOk [] ⟨wb, wb, fun _ => False, fun _ => False⟩) (h_cdd : OQ wb q_cdd) (h_thost : OC wb k_thost) (h_tdm : OC wb k_tdm) (h_ionly : OC wb k_ionly) : OC wb k_host := by
  refine Con.Ok.f (ok_vcb (SB := SB) (sh := sh) (c := k_host) (cal := (calQ [q_cdd] [k_thost, k_tdm, k_ionly])) (li := li_none) (rounds := 600) (d := 6) (lsh := lsh_none) (lens := [1]) mx (fun _ _ _ => calQ_ok (cons0 h_cdd nil0) (cons0 h_thost (cons0 h_tdm (cons0 h_ionly nil0)))) hg (by kernel_rfl) uv_host rfl rfl ?_)
  rw [u_host]
  exact p_host
theorem uv_server : OneV k_server.args k_server.res (flatS sh SB 27) := by
  intro zs rs rs' hz hr hr' h h'
  match zs, rs, rs', hz, hr, hr', h, h' with
  | [z0], [a0], [b0], _, _, _, h, h' =>
    exact rv2 (Eq.trans h (Eq.symm h'))
theorem ok_server {wb : World} (hg : GOk [] ⟨wb, wb, fun _ => False, fun _ => False⟩) (h_cutcol : OC wb k_cutcol) (h_host : OC wb k_host) (h_tdig : OC wb k_tdig) (h_ionly : OC wb k_ionly) : OC wb k_server := by
  refine Con.Ok.f (ok_vcb (SB := SB) (sh := sh) (c := k_server) (cal := (calQ [] [k_cutcol, k_host, k_tdig, k_ionly])) (li := li_none) (rounds := 600) (d := 6) (lsh := lsh_none) (lens := [1]) mx (fun _ _ _ => calQ_ok nil0 (cons0 h_cutcol (cons0 h_host (cons0 h_tdig (cons0 h_ionly nil0))))) hg (by kernel_rfl) uv_server rfl rfl ?_)
  rw [u_server]
  exact p_server
theorem uv_local : OneV k_local.args k_local.res (flatS sh SB 24) := by
  intro zs rs rs' hz hr hr' h h'
  match zs, rs, rs', hz, hr, hr', h, h' with
  | [z0], [a0], [b0], _, _, _, h, h' =>
    exact rv2 (Eq.trans h (Eq.symm h'))
theorem ok_local {wb : World} (hg : GOk [] ⟨wb, wb, fun _ => False, fun _ => False⟩) (h_cdd : OQ wb q_cdd) (h_only : OC wb k_only) (h_tdot : OC wb k_tdot) : OC wb k_local := by
  refine Con.Ok.f (ok_vcb (SB := SB) (sh := sh) (c := k_local) (cal := (calQ [q_cdd] [k_only, k_tdot])) (li := li_none) (rounds := 600) (d := 6) (lsh := lsh_none) (lens := [1]) mx (fun _ _ _ => calQ_ok (cons0 h_cdd nil0) (cons0 h_only (cons0 h_tdot nil0))) hg (by kernel_rfl) uv_local rfl rfl ?_)
  rw [u_local]
  exact p_local
theorem uv_tpre : OneV k_tpre.args k_tpre.res (flatS sh SB 34) := by
  intro zs rs rs' hz hr hr' h h'
  match zs, rs, rs', hz, hr, hr', h, h' with
  | [z0, z1], [a0], [b0], _, _, _, h, h' =>
    exact rv1 (Eq.trans h (Eq.symm h'))
theorem ok_tpre {wb : World} (hg : GOk [] ⟨wb, wb, fun _ => False, fun _ => False⟩)  : OC wb k_tpre := by
  refine Con.Ok.f (ok_vcb (SB := SB) (sh := sh) (c := k_tpre) (cal := (calQ [] [])) (li := li_none) (rounds := 600) (d := 6) (lsh := lsh_none) (lens := [1, 1]) mx (fun _ _ _ => calQ_ok nil0 nil0) hg (by kernel_rfl) uv_tpre rfl rfl ?_)
  rw [u_tpre]
  exact p_tpre
theorem uv_email : OneV k_email.args k_email.res (flatS sh SB 10) := by
  intro zs rs rs' hz hr hr' h h'
  match zs, rs, rs', hz, hr, hr', h, h' with
  | [z0], [a0, a1], [b0, b1], _, _, _, h, h' =>
    have e : (sOf a0, a1) = (sOf b0, b1) := Eq.trans h (Eq.symm h')
    simp only [Prod.mk.injEq] at e
    exact rv6 e.1 e.2
theorem ok_email {wb : World} (hg : GOk [] ⟨wb, wb, fun _ => False, fun _ => False⟩) (h_tsp : OC wb k_tsp) (h_cutat : OC wb k_cutat) (h_local : OC wb k_local) (h_cdot : OC wb k_cdot) (h_server : OC wb k_server) (h_low : OC wb k_low) (h_ibs : OC wb k_ibs) : OC wb k_email := by
  refine Con.Ok.f (ok_vcb (SB := SB) (sh := sh) (c := k_email) (cal := (calQ [] [k_tsp, k_cutat, k_local, k_cdot, k_server, k_low, k_ibs])) (li := li_none) (rounds := 600) (d := 6) (lsh := lsh_none) (lens := [1]) mx (fun _ _ _ => calQ_ok nil0 (cons0 h_tsp (cons0 h_cutat (cons0 h_local (cons0 h_cdot (cons0 h_server (cons0 h_low (cons0 h_ibs nil0)))))))) hg (by kernel_rfl) uv_email rfl rfl ?_)
  rw [u_email]
  exact p_email
theorem uv_phone : OneV k_phone.args k_phone.res (flatS sh SB 12) := by
  intro zs rs rs' hz hr hr' h h'
  match zs, rs, rs', hz, hr, hr', h, h' with
  | [z0, z1], [a0, a1], [b0, b1], _, _, _, h, h' =>
    have e : (sOf a0, a1) = (sOf b0, b1) := Eq.trans h (Eq.symm h')
    simp only [Prod.mk.injEq] at e
    exact rv6 e.1 e.2
theorem ok_phone {wb : World} (hg : GOk [] ⟨wb, wb, fun _ => False, fun _ => False⟩) (h_country : OC wb k_country) (h_bare : OC wb k_bare) (h_tpre : OC wb k_tpre) : OQ wb q_phone := by
  refine qok_vcb (SB := SB) (sh := sh) (q := q_phone) (cal := (calQ [] [k_country, k_bare, k_tpre])) (li := li_none) (rounds := 600) (d := 6) (lsh := lsh_none) (lens := [1, 1]) mx (fun _ _ _ => calQ_ok nil0 (cons0 h_country (cons0 h_bare (cons0 h_tpre nil0)))) hg (by kernel_rfl) uv_phone rfl rfl ?_
  rw [show q_phone.c = k_phone from rfl, u_phone]
  exact p_phone
theorem uv_make : OneV k_make.args k_make.res (flatS sh SB 15) := by
  intro zs rs rs' hz hr hr' h h'
  match zs, rs, rs', hz, hr, hr', h, h' with
  | [z0, z1], [a0, a1, a2], [b0, b1, b2], _, _, _, h, h' =>
    have e : (sOf a0, sOf a1, a2) = (sOf b0, sOf b1, b2) := Eq.trans h (Eq.symm h')
    simp only [Prod.mk.injEq] at e
    exact rv7 e.1 e.2.1 e.2.2
theorem ok_make {wb : World} (hg : GOk [] ⟨wb, wb, fun _ => False, fun _ => False⟩) (h_phone : OQ wb q_phone) (h_email : OC wb k_email) : OC wb k_make := by
  refine Con.Ok.f (ok_vcb (SB := SB) (sh := sh) (c := k_make) (cal := (calQ [q_phone] [k_email])) (li := li_none) (rounds := 600) (d := 6) (lsh := lsh_none) (lens := [1, 1]) mx (fun _ _ _ => calQ_ok (cons0 h_phone nil0) (cons0 h_email nil0)) hg (by kernel_rfl) uv_make rfl rfl ?_)
  rw [u_make]
  exact p_make
theorem uv_right : OneV k_right.args k_right.res (flatS sh SB 16) := by
  intro zs rs rs' hz hr hr' h h'
  match zs, rs, rs', hz, hr, hr', h, h' with
  | [z0, z1], [a0], [b0], _, _, _, h, h' =>
    exact rv2 (Eq.trans h (Eq.symm h'))
theorem ok_right {wb : World} (hg : GOk [] ⟨wb, wb, fun _ => False, fun _ => False⟩) (h_make : OC wb k_make) : OC wb k_right := by
  refine Con.Ok.f (ok_vcb (SB := SB) (sh := sh) (c := k_right) (cal := (calQ [] [k_make])) (li := li_none) (rounds := 600) (d := 6) (lsh := lsh_none) (lens := [2]) mx (fun _ _ _ => calQ_ok nil0 (cons0 h_make nil0)) hg (by kernel_rfl) uv_right rfl rfl ?_)
  rw [u_right]
  exact p_right
theorem uv_less : OneV k_less.args k_less.res (flatS sh SB 14) := by
  intro zs rs rs' hz hr hr' h h'
  match zs, rs, rs', hz, hr, hr', h, h' with
  | [z0, z1, z2, z3], [a0], [b0], _, _, _, h, h' =>
    exact rv2 (Eq.trans h (Eq.symm h'))
theorem ok_less {wb : World} (hg : GOk [] ⟨wb, wb, fun _ => False, fun _ => False⟩)  : OC wb k_less := by
  refine Con.Ok.f (ok_vcb (SB := SB) (sh := sh) (c := k_less) (cal := (calQ [] [])) (li := li_none) (rounds := 600) (d := 6) (lsh := lsh_none) (lens := [2, 2]) mx (fun _ _ _ => calQ_ok nil0 nil0) hg (by kernel_rfl) uv_less rfl rfl ?_)
  rw [u_less]
  exact p_less
theorem uv_tus : OneV k_tus.args k_tus.res (flatS sh SB 202) := by
  intro zs rs rs' hz hr hr' h h'
  match zs, rs, rs', hz, hr, hr', h, h' with
  | [z0], [a0], [b0], _, _, _, h, h' =>
    exact rv1 (Eq.trans h (Eq.symm h'))
theorem ok_tus {wb : World} (hg : GOk [] ⟨wb, wb, fun _ => False, fun _ => False⟩)  : OC wb k_tus := by
  refine Con.Ok.f (ok_vcb (SB := SB) (sh := sh) (c := k_tus) (cal := (calQ [] [])) (li := li_tus) (rounds := 600) (d := 6) (lsh := lsh_tus) (lens := [1]) mx (fun _ _ _ => calQ_ok nil0 nil0) hg (by kernel_rfl) uv_tus rfl rfl ?_)
  rw [u_tus]
  exact p_tus
theorem uv_user : OneV k_user.args k_user.res (flatS sh SB 200) := by
  intro zs rs rs' hz hr hr' h h'
  match zs, rs, rs', hz, hr, hr', h, h' with
  | [z0], [a0], [b0], _, _, _, h, h' =>
    exact rv2 (Eq.trans h (Eq.symm h'))
theorem ok_user {wb : World} (hg : GOk [] ⟨wb, wb, fun _ => False, fun _ => False⟩) (h_cutcol : OC wb k_cutcol) (h_tus : OC wb k_tus) (h_ionly : OC wb k_ionly) (h_server : OC wb k_server) : OC wb k_user := by
  refine Con.Ok.f (ok_vcb (SB := SB) (sh := sh) (c := k_user) (cal := (calQ [] [k_cutcol, k_tus, k_ionly, k_server])) (li := li_none) (rounds := 600) (d := 6) (lsh := lsh_none) (lens := [1]) mx (fun _ _ _ => calQ_ok nil0 (cons0 h_cutcol (cons0 h_tus (cons0 h_ionly (cons0 h_server nil0))))) hg (by kernel_rfl) uv_user rfl rfl ?_)
  rw [u_user]
  exact p_user
theorem uv_bright : OneV k_bright.args k_bright.res (flatS sh SB 300) := by
  intro zs rs rs' hz hr hr' h h'
  match zs, rs, rs', hz, hr, hr', h, h' with
  | [z0, z1, z2, z3], [a0], [b0], _, _, _, h, h' =>
    exact rv2 (Eq.trans h (Eq.symm h'))
theorem ok_bright {wb : World} (hg : GOk [] ⟨wb, wb, fun _ => False, fun _ => False⟩) (h_right : OC wb k_right) (h_user : OC wb k_user) : OC wb k_bright := by
  refine Con.Ok.f (ok_vcb (SB := SB) (sh := sh) (c := k_bright) (cal := (calQ [] [k_right, k_user])) (li := li_none) (rounds := 600) (d := 6) (lsh := lsh_none) (lens := [4]) mx (fun _ _ _ => calQ_ok nil0 (cons0 h_right (cons0 h_user nil0))) hg (by kernel_rfl) uv_bright rfl rfl ?_)
  rw [u_bright]
  exact p_bright
theorem uv_bcmp : OneV k_bcmp.args k_bcmp.res (flatS sh SB 301) := by
  intro zs rs rs' hz hr hr' h h'
  match zs, rs, rs', hz, hr, hr', h, h' with
  | [z0, z1, z2, z3, z4, z5], [a0], [b0], _, _, _, h, h' =>
    exact rv8 (Eq.trans h (Eq.symm h'))
theorem ok_bcmp {wb : World} (hg : GOk [] ⟨wb, wb, fun _ => False, fun _ => False⟩) (h_less : OC wb k_less) : OC wb k_bcmp := by
  refine Con.Ok.f (ok_vcb (SB := SB) (sh := sh) (c := k_bcmp) (cal := (calQ [] [k_less])) (li := li_none) (rounds := 600) (d := 6) (lsh := lsh_none) (lens := [4, 2]) mx (fun _ _ _ => calQ_ok nil0 (cons0 h_less nil0)) hg (by kernel_rfl) uv_bcmp rfl rfl ?_)
  rw [u_bcmp]
  exact p_bcmp
theorem ok_bplace {wb : World} (hg : GOk [] ⟨wb, wb, fun _ => False, fun _ => False⟩) (h_bcmp : OC wb k_bcmp) : OB wb k_bplace := by
  refine bok_vcf (SB := SB) (sh := sh) (c := k_bplace) (bcs := []) (cal := (calQ [] [k_bcmp])) (li := li_bplace) (rounds := 600) (d := 6) (lsh := lsh_bplace) (lens := [1, 2]) mx (fun _ _ _ => calQ_ok nil0 (cons0 h_bcmp nil0)) hg nil0 (by kernel_rfl) rfl rfl ?_
  rw [u_bplace]
  exact p_bplace
theorem ok_bRight {wb : World} (hg : GOk [] ⟨wb, wb, fun _ => False, fun _ => False⟩) (h_bright : OC wb k_bright) (h_bcmp : OC wb k_bcmp) : OB wb k_bRight := by
  refine bok_vcf (SB := SB) (sh := sh) (c := k_bRight) (bcs := []) (cal := (calQ [] [k_bright, k_bcmp])) (li := li_bRight) (rounds := 600) (d := 6) (lsh := lsh_bRight) (lens := [1]) mx (fun _ _ _ => calQ_ok nil0 (cons0 h_bright (cons0 h_bcmp nil0))) hg nil0 (by kernel_rfl) rfl rfl ?_
  rw [u_bRight]
  exact p_bRight
theorem ok_bFind {wb : World} (hg : GOk [] ⟨wb, wb, fun _ => False, fun _ => False⟩) (h_bRight : OB wb k_bRight) (h_bplace : OB wb k_bplace) : OB wb k_bFind := by
  refine bok_vcf (SB := SB) (sh := sh) (c := k_bFind) (bcs := [k_bRight, k_bplace]) (cal := (calQ [] [])) (li := li_none) (rounds := 600) (d := 6) (lsh := lsh_none) (lens := [1, 2]) mx (fun _ _ _ => calQ_ok nil0 nil0) hg (cons0 h_bRight (cons0 h_bplace nil0)) (by kernel_rfl) rfl rfl ?_
  rw [u_bFind]
  exact p_bFind
theorem ok_bOf {wb : World} (hg : GOk [] ⟨wb, wb, fun _ => False, fun _ => False⟩) (h_bRight : OB wb k_bRight) : OB wb k_bOf := by
  refine bok_vcf (SB := SB) (sh := sh) (c := k_bOf) (bcs := [k_bRight]) (cal := (calQ [] [])) (li := li_bOf) (rounds := 600) (d := 6) (lsh := lsh_bOf) (lens := [1, 1]) mx (fun _ _ _ => calQ_ok nil0 nil0) hg (cons0 h_bRight nil0) (by kernel_rfl) rfl rfl ?_
  rw [u_bOf]
  exact p_bOf
theorem ok_bBind {wb : World} (hg : GOk [] ⟨wb, wb, fun _ => False, fun _ => False⟩) (h_bright : OC wb k_bright) (h_bRight : OB wb k_bRight) (h_bplace : OB wb k_bplace) (h_bins : OI wb k_bins) : OB wb k_bBind := by
  refine bok_bc (SB := SB) (sh := sh) (c := k_bBind) (bc := (icOf [k_bins] (bcOf [k_bRight, k_bplace]))) (cal := (calQ [] [k_bright])) (li := li_none) (rounds := 600) (d := 6) (lsh := lsh_none) (lens := [1, 4]) mx (fun _ _ _ => calQ_ok nil0 (cons0 h_bright nil0)) hg (fun _ _ _ => icOf_ok (bcOf_ok (cons0 h_bRight (cons0 h_bplace nil0))) (cons0 h_bins nil0)) (by kernel_rfl) rfl rfl ?_
  rw [u_bBind]
  exact p_bBind
theorem ok_bUnbind {wb : World} (hg : GOk [] ⟨wb, wb, fun _ => False, fun _ => False⟩) (h_bRight : OB wb k_bRight) (h_bplace : OB wb k_bplace) (h_bdel : OI wb k_bdel) : OB wb k_bUnbind := by
  refine bok_bc (SB := SB) (sh := sh) (c := k_bUnbind) (bc := (icOf [k_bdel] (bcOf [k_bRight, k_bplace]))) (cal := (calQ [] [])) (li := li_none) (rounds := 600) (d := 6) (lsh := lsh_none) (lens := [1, 4]) mx (fun _ _ _ => calQ_ok nil0 nil0) hg (fun _ _ _ => icOf_ok (bcOf_ok (cons0 h_bRight (cons0 h_bplace nil0))) (cons0 h_bdel nil0)) (by kernel_rfl) rfl rfl ?_
  rw [u_bUnbind]
  exact p_bUnbind
theorem ok_balive {wb : World} (hg : GOk [] ⟨wb, wb, fun _ => False, fun _ => False⟩) (h_bBind : OB wb k_bBind) (h_bUnbind : OB wb k_bUnbind) (h_bFind : OB wb k_bFind) (h_bOf : OB wb k_bOf) : OB wb k_balive := by
  refine bok_vcf (SB := SB) (sh := sh) (c := k_balive) (bcs := [k_bBind, k_bUnbind, k_bFind, k_bOf]) (cal := (calQ [] [])) (li := li_none) (rounds := 600) (d := 6) (lsh := lsh_none) (lens := []) mx (fun _ _ _ => calQ_ok nil0 nil0) hg (cons0 h_bBind (cons0 h_bUnbind (cons0 h_bFind (cons0 h_bOf nil0)))) (by kernel_rfl) rfl rfl ?_
  rw [u_balive]
  exact p_balive
theorem ok_lcounts {wb : World} (hg : GOk [] ⟨wb, wb, fun _ => False, fun _ => False⟩) (h_balive : OB wb k_balive) (h_bRight : OB wb k_bRight) (h_bOf : OB wb k_bOf) (h_bFind : OB wb k_bFind) : OB wb k_lcounts := by
  refine bok_vcf (SB := SB) (sh := sh) (c := k_lcounts) (bcs := [k_balive, k_bRight, k_bOf, k_bFind]) (cal := (calQ [] [])) (li := li_lcounts) (rounds := 600) (d := 6) (lsh := lsh_lcounts) (lens := [1, 1]) mx (fun _ _ _ => calQ_ok nil0 nil0) hg (cons0 h_balive (cons0 h_bRight (cons0 h_bOf (cons0 h_bFind nil0)))) (by kernel_rfl) rfl rfl ?_
  rw [u_lcounts]
  exact p_lcounts
theorem ok_llast {wb : World} (hg : GOk [] ⟨wb, wb, fun _ => False, fun _ => False⟩) (h_balive : OB wb k_balive) (h_bBind : OB wb k_bBind) (h_bUnbind : OB wb k_bUnbind) (h_bFind : OB wb k_bFind) (h_bRight : OB wb k_bRight) : OB wb k_llast := by
  refine bok_vcf (SB := SB) (sh := sh) (c := k_llast) (bcs := [k_balive, k_bBind, k_bUnbind, k_bFind, k_bRight]) (cal := (calQ [] [])) (li := li_llast) (rounds := 600) (d := 6) (lsh := lsh_llast) (lens := [1]) mx (fun _ _ _ => calQ_ok nil0 nil0) hg (cons0 h_balive (cons0 h_bBind (cons0 h_bUnbind (cons0 h_bFind (cons0 h_bRight nil0))))) (by kernel_rfl) rfl rfl ?_
  rw [u_llast]
  exact p_llast
end Go.Ad

/- The address seat: contracts of the library that this seat lays, . -/
set_option linter.unusedVariables false
namespace Go.Proofs
open Go.Shelf Go.RowKit
shelf_lay Lays.n137 Nm 137 at Tryd as Tryd.lays137
theorem Tryd.strings_IndexByte (s : ByteArray) (c : Int) (w : World) :
    Calls Tryd.prog 60 #[.string s, .int .u8 c] w fun e w' => e = .returned (.int .i64 (Lib.indexByte s.data.toList c.toNat.toUInt8)) ∧ w' = w := Any.strings_IndexByte Tryd.lays137 s c w
shelf_lay Lays.n144 Nm 144 at Tryd as Tryd.lays144
theorem Tryd.strings_Contains (s sub : ByteArray) (m : Int) (w : World) (hs : s.size < 4294967281) (hm : w.cell? ⟨0, 0, none⟩ = some (.int .i64 m)) :
    Calls Tryd.prog 39 #[.string s, .string sub] w fun e w' => e = .returned (.bool (Lib.contains s.data.toList sub.data.toList)) ∧ w' = w := Any.strings_Contains Tryd.lays144 s sub m w hs hm
end Go.Proofs

/- The address seat: contracts of the library that this seat lays, and strings.Builder's WriteByte by a walk of its own. -/
set_option linter.unusedVariables false
namespace Go.Proofs
open Go.Shelf Go.RowKit
shelf_lay Lays.n169 Nm 169 at Tryd as Tryd.lays169
theorem Tryd.Builder_Extra_169 : Builder.Extra Tryd.prog Tryd.lays169_ren where
  sizeBuilder := by kernel_rfl
  liesBuilder := by kernel_rfl
  t5 := Tryd.underlying5
  a5 := Tryd.isAgg5
  z5 := Tryd.sizeOf5
  v5 := Tryd.zeroValue5
  infoByte := by kernel_rfl
  cellsByte := by kernel_rfl
  sizeByte := by kernel_rfl
  neB5 := by decide
theorem Tryd.Builder_String_any (B b : Nat) (l : List UInt8) (w : World) (h : Lib.IsBuilder 92 5 B b (Lib.byteCells l) w) (hBw : B ≤ w.heap.size) :
    Calls Tryd.prog 61 #[.pointer (some ⟨b, 0, none⟩)] w fun e w' => e = .returned (.string ⟨l.toArray⟩) ∧ Below B w w' := Any.Builder_String_any Tryd.lays169 Tryd.Builder_Extra_169 B b l w h hBw
shelf_lay Lays.n170 Nm 170 at Tryd as Tryd.lays170
theorem Tryd.Builder_Len (B b : Nat) (bs : List Value) (w : World) (h : Lib.IsBuilder 92 5 B b bs w) :
    Calls Tryd.prog 59 #[.pointer (some ⟨b, 0, none⟩)] w fun e w' => e = .returned (.int .i64 bs.length) ∧ w' = w := Any.Builder_Len Tryd.lays170 B b bs w h
set_option maxHeartbeats 1000000 in
set_option maxRecDepth 100000 in
theorem Tryd.Builder_copyCheck_used (b : Nat) (w : World) (h0 : w.cell? ⟨b, 0, none⟩ = some (.pointer (some ⟨b, 0, none⟩))) :
    Calls Tryd.prog 70 #[.pointer (some ⟨b, 0, none⟩)] w fun e w' => e = .returned (.tuple #[]) ∧ w' = w := by
  obtain ⟨j, hj, _⟩ := Option.map_eq_some_iff.1 Tryd.Builder_Extra_169.toX72.sizeBuilder
  go_enter Tryd.func70, Tryd.ntmps70
  go_wp2
  rw [Lib.run_neq_ptr_same w _ Tryd.underlying90 hj]
  go_wp2
  go_end0
  exact ⟨rfl, rfl⟩
set_option maxHeartbeats 1000000 in
set_option maxRecDepth 100000 in
theorem Tryd.Builder_copyCheck_fresh (b : Nat) (w : World) (h0 : w.cell? ⟨b, 0, none⟩ = some (.pointer none)) (hsh : w.shape? b = some (92, 2)) (hfz : w.frozen? ⟨b, 0, none⟩ = false) :
    Calls Tryd.prog 70 #[.pointer (some ⟨b, 0, none⟩)] w fun e w' => e = .returned (.tuple #[]) ∧ w' = w.setCell ⟨b, 0, none⟩ (.pointer (some ⟨b, 0, none⟩)) := by
  have X := Tryd.Builder_Extra_169.toX72
  obtain ⟨j, hj, hjs⟩ := Option.map_eq_some_iff.1 X.sizeBuilder
  go_enter Tryd.func70, Tryd.ntmps70
  go_wp2
  rw [Lib.run_to_unsafe w ⟨b, 0, none⟩ Tryd.underlying90 Tryd.underlying105 hj (by rw [hjs]; decide) hsh (Nat.zero_lt_succ 1)]
  simp only [Result.andThen]
  rw [Oper.upon_value]
  go_wp2
  rw [run_callFunc_extern Tryd.func75 (by kernel_rfl) (by kernel_rfl) (by kernel_rfl) (e := Extern.AbiNoEscape.same) (by kernel_rfl)]
  rw [Lib.run_noEscape]
  simp only [Result.andThen]
  rw [Oper.upon_value]
  go_wp2
  rw [Lib.run_from_unsafe w ⟨b, 0, none⟩ Tryd.underlying105 Tryd.underlying90 hj hsh X.liesBuilder]
  simp only [Result.andThen]
  rw [Oper.upon_value]
  go_wp2
  go_end0
  exact ⟨rfl, rfl⟩
theorem Tryd.Builder_copyCheck (B b : Nat) (bs : List Value) (w : World) (h : Lib.IsBuilder 92 5 B b bs w) :
    Calls Tryd.prog 70 #[.pointer (some ⟨b, 0, none⟩)] w fun e w' => e = .returned (.tuple #[]) ∧ (Lib.BuilderAt 92 5 B b (.pointer (some ⟨b, 0, none⟩)) bs w' ∧ Below B w w') := by
  rcases h with h | h
  · refine (Tryd.Builder_copyCheck_fresh b w h.cell0 h.shape h.frozen0).mono ?_
    rintro e w' ⟨rfl, rfl⟩
    exact ⟨rfl, h.used _, (Below.refl B w).setCell (p := ⟨b, 0, none⟩) h.1 _⟩
  · refine (Tryd.Builder_copyCheck_used b w h.cell0).mono ?_
    rintro e w' ⟨rfl, rfl⟩
    exact ⟨rfl, h, Below.refl B _⟩
set_option maxHeartbeats 2000000 in
set_option maxRecDepth 100000 in
theorem Tryd.Builder_WriteByte (B b : Nat) (bs : List Value) (c : Int) (w : World) (h : Lib.IsBuilder 92 5 B b bs w) (hlen : bs.length + 1 ≤ 140737488355328) (hBw : B ≤ w.heap.size) :
    Calls Tryd.prog 58 #[.pointer (some ⟨b, 0, none⟩), .int .u8 c] w fun e w' => e = .returned .nilIface ∧ (Lib.BuilderAt 92 5 B b (.pointer (some ⟨b, 0, none⟩)) (bs ++ [.int .u8 c]) w' ∧ Below B w w') := by
  have X := Tryd.Builder_Extra_169
  obtain ⟨i0, hi, hz0, hz1, hz2⟩ := info_parts X.infoByte
  go_enter Tryd.func58, Tryd.ntmps58
  go_wp2_with (go_at_call 70; refine (Tryd.Builder_copyCheck B b bs _ h).mono ?_)
  rintro e w1 ⟨rfl, h1, hb1⟩
  obtain ⟨hB, v, hbk, hown, hne⟩ := h1
  have c0 : w1.cell? ⟨b, 0, none⟩ = some (.pointer (some ⟨b, 0, none⟩)) := by rw [Lib.cell_of_heap hbk]; rfl
  have c1 : w1.cell? ⟨b, 1, none⟩ = some v := by rw [Lib.cell_of_heap hbk]; rfl
  go_wp2_with (at_builtin; refine wpList_append_own _ rfl _ _ 88 rfl B 5 i0 (.int .u8 0) 1 1 Tryd.underlying88 hi hz0 hz1 hz2 rfl (by decide) _ _ _ rfl (hown.alloc _) ⟨w1.heap.size, 0, none⟩ 1 1 [.int .u8 c] rfl rfl ?c1 ?c2 ?c3 ?c4 ?c5 ?_)
  case c1 =>
    intro j u hj
    match j, hj with
    | 0, hj => simp at hj; subst hj; simp [Addr.add]
  case c2 => intro u hu; simp at hu; subst hu; rfl
  case c3 => unfold maxLen; omega
  case c4 => omega
  case c5 => have := hb1.size; simp; omega
  intro v' w2 hown' hgrow _
  have hlt : b < w1.heap.size := by
    rcases Nat.lt_or_ge b w1.heap.size with h' | h'
    · exact h'
    · simp [Array.getElem?_eq_none h'] at hbk
  have hb2 : w2.heap[b]? = some (.cells #[.pointer (some ⟨b, 0, none⟩), v] 92 (0, 0)) := by
    rw [hgrow.block b (by simp; omega) (fun e => hne e.symm), Lib.alloc_old w1 _ b hlt]
    exact hbk
  have d0 : w2.cell? ⟨b, 0, none⟩ = some (.pointer (some ⟨b, 0, none⟩)) := by rw [Lib.cell_of_heap hb2]; rfl
  have d1 : w2.cell? ⟨b, 1, none⟩ = some v := by rw [Lib.cell_of_heap hb2]; rfl
  have f1 : w2.frozen? ⟨b, 1, none⟩ = false := Lib.frozen_of_heap hb2 1
  obtain ⟨g, cap, rfl⟩ : ∃ g cap, v' = .slice (some ⟨g, 0, none⟩) (bs.length + 1) cap := by
    rcases hown'.2 with ⟨_, h0⟩ | ⟨g, cap, cur, hv, _⟩
    · omega
    · exact ⟨g, cap, hv⟩
  go_wp2
  go_ret
  refine ⟨rfl, ?_, ?_⟩
  · exact Lib.BuilderAt.put (T := 92) (e := 5) hB hb2 (bs' := bs ++ [.int .u8 c]) (by simpa using hown') X.neB5
  · exact ((hb1.alloc (by have := hb1.size; omega) _).grown hgrow (by have := hb1.size; simp; omega) (fun k hk => (hown.lt k hk).1)).setCell (p := ⟨b, 1, none⟩) hB _
end Go.Proofs

/- Contracts that come from walks. -/
set_option linter.unusedVariables false
set_option maxRecDepth 100000
namespace Go.Ad
open Go Go.Rx Go.Proofs Go.RowKit
theorem ext_of {w w' : World} (h : Below w.heap.size w w') : w.Extends w' :=
  ⟨h.os, h.tape, h.output, h.size, fun a ha => by unfold World.cell?; rw [h.block a.block ha], fun a ha => by unfold World.frozen?; rw [h.block a.block ha], h.block⟩
theorem ok_ibs {wb : World} : OC wb k_ibs := by
  intro zs hz
  obtain ⟨rs, h1, h2, h3⟩ := ibs_ok (wb := wb) (f := 76) (id := 73) Tryd.func76 (by kernel_rfl) (by kernel_rfl) (by kernel_rfl) (by kernel_rfl) zs hz
  match zs, hz with
  | [s, c], hz =>
    refine ⟨rs, h1, ?_, h3⟩
    subst h2
    rfl
theorem dd_cons (b : UInt8) (l : Tx) : dd (b :: l) = ((b == 46 && l.getD 0 0 == 46) || dd l) := by
  unfold dd
  rw [List.length_cons, List.range_succ_eq_map, List.any_cons, List.any_map]
  rfl
theorem dd_index : ∀ l : Tx, Lib.contains l [46, 46] = dd l
  | [] => rfl
  | b :: l => by
    have ih := dd_index l
    unfold Lib.contains at ih ⊢
    rw [dd_cons, ← ih]
    have sym : ∀ x : UInt8, ((46 : UInt8) == x) = (x == 46) := fun x => by rw [Bool.eq_iff_iff, beq_iff_eq, beq_iff_eq]; exact eq_comm
    have hp : ([46, 46] : Tx).isPrefixOf (b :: l) = (b == 46 && l.getD 0 0 == 46) := by
      cases l with
      | nil =>
        show ((46 : UInt8) == b && false) = (b == 46 && ((0 : UInt8) == 46))
        rw [sym]; rfl
      | cons c r =>
        show ((46 : UInt8) == b && ((46 : UInt8) == c && true)) = (b == 46 && c == 46)
        rw [sym, sym, Bool.and_true]
    have he : Lib.index (b :: l) [46, 46] = if ([46, 46] : Tx).isPrefixOf (b :: l) = true then 0 else if (Lib.index l [46, 46] == -1) = true then -1 else Lib.index l [46, 46] + 1 := rfl
    rw [he, hp]
    cases (b == 46 && l.getD 0 0 == 46) with
    | true => rfl
    | false =>
      rw [if_neg (by decide), Bool.false_or]
      by_cases he : (Lib.index l [46, 46] == -1) = true
      · rw [if_pos he]
        have := beq_iff_eq.1 he
        rw [this]
      · rw [if_neg he]
        have he : ¬ Lib.index l [46, 46] = -1 := fun e => he (beq_iff_eq.2 e)
        have := Lib.index_ge [46, 46] l
        rw [Bool.eq_iff_iff, decide_eq_true_eq, decide_eq_true_eq]
        omega
theorem ok_cdd {wb : World} (hc : ∃ m, wb.cell? ⟨0, 0, none⟩ = some (.int .i64 m)) (h0 : 0 < wb.heap.size) : OQ wb q_cdd := by
  intro zs hz hp
  match zs, hz with
  | [z], hz =>
    refine ⟨[b01 (dd (sOf z))], ⟨(b01_bd _).1, (b01_bd _).2, trivial⟩, rfl, fun w hw => .inr ⟨enters (by kernel_rfl) _ _, ?_⟩⟩
    obtain ⟨m, hm⟩ := hc
    have hm' : w.cell? ⟨0, 0, none⟩ = some (.int .i64 m) := by rw [hw.cell ⟨0, 0, none⟩ h0]; exact hm
    have hl : (sOf z).length ≤ 4294967280 := hp
    refine (Tryd.strings_Contains (bA (sOf z)) (bA [46, 46]) m w (by show (sOf z).toArray.size < _; simp; omega) hm').mono ?_
    rintro e w' ⟨rfl, rfl⟩
    refine ⟨?_, World.Extends.refl _⟩
    have e1 : (bA (sOf z)).data.toList = sOf z := by simp [bA]
    have e2 : (bA [46, 46]).data.toList = [46, 46] := rfl
    rw [e1, e2, dd_index]
    show _ = Ending.returned (Value.bool (decide (b01 (dd (sOf z)) = 1)))
    rw [b01_one]
theorem HB_1 : (1 : Int) ≤ HB := HB_c (l := [0]) (by decide)
theorem c_bd {l : Tx} {n : Nat} (h : l.length ≤ n) (hn : n ≤ 140737488351232) : 0 ≤ cOf l ∧ cOf l ≤ HB := ⟨cOf_nonneg _, HB_c (by unfold mxL; omega)⟩
end Go.Ad
