/- AdVcG: a part of the proof of statements of this seat. -/
import Derived.Test.YtcellhafdgmkjaaDoorAdVcF
import Derived.Test.YtcellhafdgmkjaaDoorAdBase
set_option maxRecDepth 100000
set_option linter.unusedVariables false
set_option linter.unusedSimpArgs false
namespace Go.Ad
open Go Go.Rx
def B_tpre (S : Nat → List (List Int) → List (List Int) → Prop) (K : List (List Int) → List (List Int) → Prop) : Prop :=
 ∀ z0 : Int, 0 ≤ z0 → z0 ≤ HB → ∀ z1 : Int, 0 ≤ z1 → z1 ≤ HB → 
 ∀ z2 : Int, 0 ≤ z2 → z2 ≤ 9223372036854775807 → z2 = fnD 0 [z0] →
 ∀ z3 : Int, 0 ≤ z3 → z3 ≤ 9223372036854775807 → z3 = fnD 0 [z1] →
 (((decide (z3 ≤ z2)) = true →
  ∀ z4 : Int, 0 ≤ z4 → z4 ≤ 9223372036854775807 → z4 = fnD 0 [z1] →
  chkD 2 [z0, 0, z4] ∧
  ∀ z5 : Int, 0 ≤ z5 → z5 ≤ HB → z5 = fnD 2 [z0, 0, z4] →
  ∀ z6 : Int, 0 ≤ z6 → z6 ≤ 1 → z6 = fnD 4 [z5, z1] →
  (((decide (z6 = 1)) = true →
   ∀ z7 : Int, 0 ≤ z7 → z7 ≤ 9223372036854775807 → z7 = fnD 0 [z1] →
   ∀ z8 : Int, 0 ≤ z8 → z8 ≤ 9223372036854775807 → z8 = fnD 0 [z0] →
   chkD 2 [z0, z7, z8] ∧
   ∀ z9 : Int, 0 ≤ z9 → z9 ≤ HB → z9 = fnD 2 [z0, z7, z8] →
   K [[z0], [z1]] [[z9]]
  ) ∧ ((decide (z6 = 1)) = false →
   K [[z0], [z1]] [[z0]]
  ))
 ) ∧ ((decide (z3 ≤ z2)) = false →
  K [[z0], [z1]] [[z0]]
 ))
def B_rcountry (S : Nat → List (List Int) → List (List Int) → Prop) (K : List (List Int) → List (List Int) → Prop) : Prop :=
 ∀ z0 : Int, 0 ≤ z0 → z0 ≤ HB → 
 ∀ z1 : Int, 0 ≤ z1 → z1 ≤ 1 → z1 = fnD 4 [z0, 17291] →
 (((decide (z1 = 1)) = true →
  K [[z0]] [[13674], [(cond (true) 1 0)], [(cond (true) 1 0)]]
 ) ∧ ((decide (z1 = 1)) = false →
  ∀ z2 : Int, 0 ≤ z2 → z2 ≤ 1 → z2 = fnD 4 [z0, 21674] →
  (((decide (z2 = 1)) = true →
   K [[z0]] [[50], [(cond (false) 1 0)], [(cond (true) 1 0)]]
  ) ∧ ((decide (z2 = 1)) = false →
   ∀ z3 : Int, 0 ≤ z3 → z3 ≤ 1 → z3 = fnD 4 [z0, 18059] →
   (((decide (z3 = 1)) = true →
    K [[z0]] [[14959], [(cond (true) 1 0)], [(cond (true) 1 0)]]
   ) ∧ ((decide (z3 = 1)) = false →
    ∀ z4 : Int, 0 ≤ z4 → z4 ≤ 1 → z4 = fnD 4 [z0, 21402] →
    (((decide (z4 = 1)) = true →
     K [[z0]] [[13416], [(cond (true) 1 0)], [(cond (true) 1 0)]]
    ) ∧ ((decide (z4 = 1)) = false →
     ∀ z5 : Int, 0 ≤ z5 → z5 ≤ 1 → z5 = fnD 4 [z0, 18829] →
     (((decide (z5 = 1)) = true →
      K [[z0]] [[12903], [(cond (true) 1 0)], [(cond (true) 1 0)]]
     ) ∧ ((decide (z5 = 1)) = false →
      ∀ z6 : Int, 0 ≤ z6 → z6 ≤ 1 → z6 = fnD 4 [z0, 0] →
      K [[z0]] [[0], [(cond (false) 1 0)], [(cond (decide (z6 = 1)) 1 0)]]
     ))
    ))
   ))
  ))
 ))
def B_phone (S : Nat → List (List Int) → List (List Int) → Prop) (K : List (List Int) → List (List Int) → Prop) : Prop :=
 ∀ z0 : Int, 0 ≤ z0 → z0 ≤ HB → ∀ z1 : Int, 0 ≤ z1 → z1 ≤ HB → 
 chkD 44 [z0, z1] →
 ∀ r2 : List Int, inB (repB 0 HB 2) r2 → ∀ z4 : Int, 0 ≤ z4 → z4 ≤ 1 → S 32 [[z0]] [r2, [z4]] →
 ((((!(decide (z4 = 1)))) = true →
  K [[z0], [z1]] [[0], [7]]
 ) ∧ (((!(decide (z4 = 1)))) = false →
  chkD 41 [z1] ∧
  ∀ z5 : Int, 0 ≤ z5 → z5 ≤ HB → ∀ z6 : Int, 0 ≤ z6 → z6 ≤ 1 → ∀ z7 : Int, 0 ≤ z7 → z7 ≤ 1 → S 33 [[z1]] [[z5], [z6], [z7]] →
  ((((!(decide (z7 = 1)))) = true →
   K [[z0], [z1]] [[0], [2]]
  ) ∧ (((!(decide (z7 = 1)))) = false →
   ((((!(decide (z6 = 1)))) = true →
    ∀ z8 : Int, 0 ≤ z8 → z8 ≤ 1 → z8 = fnD 4 [z0, 0] →
    ((((!(decide (z8 = 1)))) = true →
     ∀ z9 : Int, 0 ≤ z9 → z9 ≤ HB → S 34 [[z5], [(List.getD r2 1 0)]] [[z9]] →
     chkD 3 [(List.getD r2 0 0), z9] ∧
     ∀ z10 : Int, 0 ≤ z10 → z10 ≤ HB → z10 = fnD 3 [(List.getD r2 0 0), z9] →
     ∀ z11 : Int, 0 ≤ z11 → z11 ≤ 9223372036854775807 → z11 = fnD 0 [z10] →
     (((decide (z11 < 6)) = true →
      K [[z0], [z1]] [[0], [2]]
     ) ∧ ((decide (z11 < 6)) = false →
      ∀ z12 : Int, 0 ≤ z12 → z12 ≤ 9223372036854775807 → z12 = fnD 0 [z10] →
      (((decide (15 < z12)) = true →
       K [[z0], [z1]] [[0], [2]]
      ) ∧ ((decide (15 < z12)) = false →
       chkD 1 [z10, 0] ∧
       ∀ z13 : Int, 0 ≤ z13 → z13 ≤ 255 → z13 = fnD 1 [z10, 0] →
       (((decide (z13 = 48)) = true →
        K [[z0], [z1]] [[0], [2]]
       ) ∧ ((decide (z13 = 48)) = false →
        K [[z0], [z1]] [[z10], [0]]
       ))
      ))
     ))
    ) ∧ (((!(decide (z8 = 1)))) = false →
     ∀ z9 : Int, 0 ≤ z9 → z9 ≤ 9223372036854775807 → z9 = fnD 0 [z5] →
     (((decide (z9 < 6)) = true →
      K [[z0], [z1]] [[0], [2]]
     ) ∧ ((decide (z9 < 6)) = false →
      ∀ z10 : Int, 0 ≤ z10 → z10 ≤ 9223372036854775807 → z10 = fnD 0 [z5] →
      (((decide (15 < z10)) = true →
       K [[z0], [z1]] [[0], [2]]
      ) ∧ ((decide (15 < z10)) = false →
       chkD 1 [z5, 0] ∧
       ∀ z11 : Int, 0 ≤ z11 → z11 ≤ 255 → z11 = fnD 1 [z5, 0] →
       (((decide (z11 = 48)) = true →
        K [[z0], [z1]] [[0], [2]]
       ) ∧ ((decide (z11 = 48)) = false →
        K [[z0], [z1]] [[z5], [0]]
       ))
      ))
     ))
    ))
   ) ∧ (((!(decide (z6 = 1)))) = false →
    ∀ z8 : Int, 0 ≤ z8 → z8 ≤ 9223372036854775807 → z8 = fnD 0 [z5] →
    (((decide (z8 < 6)) = true →
     K [[z0], [z1]] [[0], [2]]
    ) ∧ ((decide (z8 < 6)) = false →
     ∀ z9 : Int, 0 ≤ z9 → z9 ≤ 9223372036854775807 → z9 = fnD 0 [z5] →
     (((decide (15 < z9)) = true →
      K [[z0], [z1]] [[0], [2]]
     ) ∧ ((decide (15 < z9)) = false →
      chkD 1 [z5, 0] ∧
      ∀ z10 : Int, 0 ≤ z10 → z10 ≤ 255 → z10 = fnD 1 [z5, 0] →
      (((decide (z10 = 48)) = true →
       K [[z0], [z1]] [[0], [2]]
      ) ∧ ((decide (z10 = 48)) = false →
       K [[z0], [z1]] [[z5], [0]]
      ))
     ))
    ))
   ))
  ))
 ))
theorem p_tpre : B_tpre SB (KBv SB [.str] 34) := by
  intro z0 a0 a1 z1 b0 b1 z2 c0 c1 h2 z3 d0 d1 h3
  have kk : ∀ x : Int, 0 ≤ x → x ≤ HB → sOf x = cond ((sOf z1).isPrefixOf (sOf z0)) ((sOf z0).drop (sOf z1).length) (sOf z0) → KBv SB [.str] 34 [[z0], [z1]] [[x]] := fun x h0 h1 h => ⟨⟨h0, h1, trivial⟩, h⟩
  simp only [fnD] at h2 h3
  refine ⟨fun hp z4 e0 e1 h4 => ⟨?_, fun z5 f0 f1 h5 z6 g0 g1 h6 => ?_⟩, fun hp => kk _ a0 a1 ?_⟩
  · simp only [fnD] at h4
    have hp : z3 ≤ z2 := by simpa using hp
    exact ⟨by omega, by omega, by omega⟩
  · simp only [fnD] at h4
    have hp : z3 ≤ z2 := by simpa using hp
    have e5 : sOf z5 = (sOf z0).take (sOf z1).length := by rw [h5]; simp [fnD, sOf_cOf, h4]
    have hpre : (sOf z1).isPrefixOf (sOf z0) = decide (sOf z5 = sOf z1) := by
      rw [Bool.eq_iff_iff, List.isPrefixOf_iff_prefix, List.prefix_iff_eq_take, decide_eq_true_eq, e5]
      exact eq_comm
    rw [eq_dec h6, ← hpre]
    refine ⟨fun hq z7 i0 i1 h7 z8 j0 j1 h8 => ?_, fun hq => kk _ a0 a1 (by rw [hq]; rfl)⟩
    simp only [fnD] at h7 h8
    refine ⟨⟨by omega, by omega, by omega⟩, fun z9 k0 k1 h9 => kk _ k0 k1 ?_⟩
    rw [hq, h9]; simp only [fnD, sOf_cOf, cond_true]
    rw [show z7.toNat = (sOf z1).length by omega]
    exact List.take_of_length_le (by simp; omega)
  · have hp : ¬ z3 ≤ z2 := by simpa using hp
    cases hc : (sOf z1).isPrefixOf (sOf z0) with
    | false => rfl
    | true =>
      have := (List.isPrefixOf_iff_prefix.1 hc).length_le
      omega
theorem kGB : sOf 17291 = [71, 66] := by decide
theorem kUS : sOf 21674 = [85, 83] := by decide
theorem kDE : sOf 18059 = [68, 69] := by decide
theorem kFR : sOf 21402 = [70, 82] := by decide
theorem kCH : sOf 18829 = [67, 72] := by decide
theorem p_rcountry : B_rcountry SB (KBv SB [.str, .bool, .bool] 35) := by
  intro z0 a0 a1 z1 b0 b1 h1
  have kk : ∀ (w c t : Tx) (x y z : Int), sOf z0 = w → ctry w = some (c, t) → 0 ≤ x → x ≤ 17291 → sOf x = c → y = b01 (!t.isEmpty) → z = 1 → KBv SB [.str, .bool, .bool] 35 [[z0]] [[x], [y], [z]] := fun w c t x y z hw hc hx0 hx1 hx hy hz => by
    have hb : (17291 : Int) ≤ HB := HB_c (l := [71, 66]) (by decide)
    subst hy hz
    refine ⟨⟨hx0, Int.le_trans hx1 hb, (b01_bd _).1, (b01_bd _).2, by decide, by decide, trivial⟩, ?_⟩
    show (match ctry (sOf z0) with | some (code, trunk) => sOf x = code ∧ _ = b01 (!trunk.isEmpty) ∧ _ | none => _)
    rw [hw, hc]
    exact ⟨hx, rfl, rfl⟩
  rw [eq_dec h1, kGB]
  refine ⟨fun h => kk [71, 66] [52, 52] [48] _ _ _ (by simpa using h) rfl (by decide) (by decide) (by decide) rfl rfl, fun h z2 b0 b1 h2 => ?_⟩
  have n1 : ¬ sOf z0 = [71, 66] := by simpa using h
  rw [eq_dec h2, kUS]
  refine ⟨fun h => kk [85, 83] [49] [] _ _ _ (by simpa using h) rfl (by decide) (by decide) (by decide) rfl rfl, fun h z2 b0 b1 h2 => ?_⟩
  have n2 : ¬ sOf z0 = [85, 83] := by simpa using h
  rw [eq_dec h2, kDE]
  refine ⟨fun h => kk [68, 69] [52, 57] [48] _ _ _ (by simpa using h) rfl (by decide) (by decide) (by decide) rfl rfl, fun h z2 b0 b1 h2 => ?_⟩
  have n3 : ¬ sOf z0 = [68, 69] := by simpa using h
  rw [eq_dec h2, kFR]
  refine ⟨fun h => kk [70, 82] [51, 51] [48] _ _ _ (by simpa using h) rfl (by decide) (by decide) (by decide) rfl rfl, fun h z2 b0 b1 h2 => ?_⟩
  have n4 : ¬ sOf z0 = [70, 82] := by simpa using h
  rw [eq_dec h2, kCH]
  refine ⟨fun h => kk [67, 72] [52, 49] [48] _ _ _ (by simpa using h) rfl (by decide) (by decide) (by decide) rfl rfl, fun h z2 b0 b1 h2 => ?_⟩
  have n5 : ¬ sOf z0 = [67, 72] := by simpa using h
  rw [eq_nil h2]
  cases he : (sOf z0 == []) with
  | true => exact kk [] [] [] _ _ _ (by simpa using he) rfl (by decide) (by decide) (by decide) rfl rfl
  | false =>
    refine ⟨⟨Int.le_refl _, HB_pos, by decide, by decide, by decide, by decide, trivial⟩, ?_⟩
    have hn : ctry (sOf z0) = none := by
      unfold ctry
      rw [he, show (sOf z0 == [71, 66]) = false by simpa using n1, show (sOf z0 == [85, 83]) = false by simpa using n2, show (sOf z0 == [68, 69]) = false by simpa using n3, show (sOf z0 == [70, 82]) = false by simpa using n4, show (sOf z0 == [67, 72]) = false by simpa using n5]
      rfl
    show (match ctry (sOf z0) with | some (code, trunk) => _ | none => sOf 0 = [] ∧ _ ∧ _)
    rw [hn]
    exact ⟨rfl, rfl, rfl⟩
theorem bareF_len : ∀ (s d : Tx) (p : Bool) {d' : Tx} {p' : Bool}, bareF s d p = some (d', p') → d'.length ≤ d.length + s.length
  | [], d, p, d', p', h => by
    simp only [bareF, Option.some.injEq, Prod.mk.injEq] at h
    rw [h.1]; simp
  | c :: r, d, p, d', p', h => by
    unfold bareF at h
    cases h1 : isD c with
    | true =>
      rw [h1, cond_true] at h
      have := bareF_len r _ _ h
      simp at this ⊢; omega
    | false =>
      rw [h1, cond_false] at h
      cases h2 : (c == 43 && d.isEmpty && !p) with
      | true =>
        rw [h2, cond_true] at h
        have := bareF_len r _ _ h
        simp at this ⊢; omega
      | false =>
        rw [h2, cond_false] at h
        cases h3 : seps.contains c with
        | true =>
          rw [h3, cond_true] at h
          have := bareF_len r _ _ h
          simp at this ⊢; omega
        | false => rw [h3, cond_false] at h; cases h
theorem ctry_len {w c t : Tx} (h : ctry w = some (c, t)) : c.length ≤ 2 := by
  unfold ctry at h
  cases h0 : (w == []) with
  | true => rw [h0, cond_true] at h; simp only [Option.some.injEq, Prod.mk.injEq] at h; rw [← h.1]; decide
  | false =>
    rw [h0, cond_false] at h
    cases h1 : (w == [71, 66]) with
    | true => rw [h1, cond_true] at h; simp only [Option.some.injEq, Prod.mk.injEq] at h; rw [← h.1]; decide
    | false =>
      rw [h1, cond_false] at h
      cases h2 : (w == [85, 83]) with
      | true => rw [h2, cond_true] at h; simp only [Option.some.injEq, Prod.mk.injEq] at h; rw [← h.1]; decide
      | false =>
        rw [h2, cond_false] at h
        cases h3 : (w == [68, 69]) with
        | true => rw [h3, cond_true] at h; simp only [Option.some.injEq, Prod.mk.injEq] at h; rw [← h.1]; decide
        | false =>
          rw [h3, cond_false] at h
          cases h4 : (w == [70, 82]) with
          | true => rw [h4, cond_true] at h; simp only [Option.some.injEq, Prod.mk.injEq] at h; rw [← h.1]; decide
          | false =>
            rw [h4, cond_false] at h
            cases h5 : (w == [67, 72]) with
            | true => rw [h5, cond_true] at h; simp only [Option.some.injEq, Prod.mk.injEq] at h; rw [← h.1]; decide
            | false =>
              rw [h5, cond_false] at h
              cases h
/-- A number's end: too short, too long, or with a nought ahead. -/
theorem phoneEnd {w s : Tx} {z n : Int} (zs : List (List Int)) (id : Nat) (hid : ∀ a e, (sOf a, e) = phoneF w s → SB id zs [[a], [e]]) (n0 : 0 ≤ n) (n1 : n ≤ HB) (hf : phoneF w s = phoneE (sOf n)) :
   ∀ z11 : Int, 0 ≤ z11 → z11 ≤ 9223372036854775807 → z11 = fnD 0 [n] →
     (((decide (z11 < 6)) = true →
      KBv SB [.str, .int .i64 0 21] id zs [[0], [2]]
     ) ∧ ((decide (z11 < 6)) = false →
      ∀ z12 : Int, 0 ≤ z12 → z12 ≤ 9223372036854775807 → z12 = fnD 0 [n] →
      (((decide (15 < z12)) = true →
       KBv SB [.str, .int .i64 0 21] id zs [[0], [2]]
      ) ∧ ((decide (15 < z12)) = false →
       chkD 1 [n, 0] ∧
       ∀ z13 : Int, 0 ≤ z13 → z13 ≤ 255 → z13 = fnD 1 [n, 0] →
       (((decide (z13 = 48)) = true →
        KBv SB [.str, .int .i64 0 21] id zs [[0], [2]]
       ) ∧ ((decide (z13 = 48)) = false →
        KBv SB [.str, .int .i64 0 21] id zs [[n], [0]]
       ))
      ))
     )) := by
  intro z1 a0 a1 h1
  have e1 : decide (z1 < 6) = Nat.blt (sOf n).length 6 := by
    rw [h1]; simp only [fnD]; rw [Bool.eq_iff_iff, decide_eq_true_eq, Nat.blt_eq]; omega
  have kk : phoneE (sOf n) = ([], 2) → KBv SB [.str, .int .i64 0 21] id zs [[0], [2]] := fun h => kse (Int.le_refl _) HB_pos (by decide) (by decide) (hid _ _ (by rw [hf, h]; rfl))
  rw [e1]
  refine ⟨fun h => kk (by unfold phoneE; rw [h]; rfl), fun h z2 b0 b1 h2 => ?_⟩
  have e2 : decide (15 < z2) = Nat.blt 15 (sOf n).length := by
    rw [h2]; simp only [fnD]; rw [Bool.eq_iff_iff, decide_eq_true_eq, Nat.blt_eq]; omega
  rw [e2]
  refine ⟨fun h' => kk (by unfold phoneE; rw [h, h']; rfl), fun h' => ⟨⟨Int.le_refl _, ?_⟩, fun z3 c0 c1 h3 => ?_⟩⟩
  · have : ¬ Nat.blt (sOf n).length 6 = true := by rw [h]; simp
    rw [Nat.blt_eq] at this; omega
  · have e3 : decide (z3 = 48) = ((sOf n).getD 0 0 == 48) := by
      rw [h3]; simp only [fnD, Int.toNat_zero]
      rw [Bool.eq_iff_iff, decide_eq_true_eq, u8_eq (by decide) (by decide)]; rfl
    rw [e3]
    refine ⟨fun h3 => kk (by unfold phoneE; rw [h, h', h3]; rfl), fun h3 => kse n0 n1 (by decide) (by decide) (hid _ _ ?_)⟩
    rw [hf]; unfold phoneE; rw [h, h', h3]; rfl
theorem p_phone : B_phone SB (KBv SB [.str, .int .i64 0 21] 12) := by
  intro z0 a0 a1 z1 b0 b1 hq r2 h2 z4 c0 c1 hc
  obtain ⟨c, t, rfl, x0, x1, y0, y1⟩ := two_of h2
  have hid : ∀ a e, (sOf a, e) = phoneF (sOf z0) (sOf z1) → SB 12 [[z0], [z1]] [[a], [e]] := fun _ _ h => h
  have hq : (sOf z1).length ≤ 4294967280 := hq
  have hc : (match ctry (sOf z0) with | some (code, trunk) => sOf c = code ∧ sOf t = trunk ∧ z4 = 1 | none => z4 = 0 ∧ sOf c = [] ∧ sOf t = []) := hc
  have kk : ∀ e : Int, 0 ≤ e → e ≤ 21 → phoneF (sOf z0) (sOf z1) = ([], e) → KBv SB [.str, .int .i64 0 21] 12 [[z0], [z1]] [[0], [e]] := fun e e0 e1 h => kse (Int.le_refl _) HB_pos e0 e1 (hid _ _ (by rw [h]; rfl))
  cases hct : ctry (sOf z0) with
  | none =>
    rw [hct] at hc
    obtain ⟨rfl, _⟩ := hc
    exact ⟨fun _ => kk 7 (by decide) (by decide) (by unfold phoneF; rw [hct]), fun h => by simp at h⟩
  | some ct =>
    obtain ⟨code, trunk⟩ := ct
    rw [hct] at hc
    obtain ⟨hcc, htt, rfl⟩ := hc
    refine ⟨fun h => by simp at h, fun _ => ⟨hq, fun z5 d0 d1 z6 e0 e1 z7 f0 f1 hb => ?_⟩⟩
    have hb : (match bareF (sOf z1) [] false with | some (d', p') => sOf z5 = d' ∧ z6 = b01 p' ∧ z7 = 1 | none => sOf z5 = [] ∧ z6 = 0 ∧ z7 = 0) := hb
    cases hbf : bareF (sOf z1) [] false with
    | none =>
      rw [hbf] at hb
      obtain ⟨_, _, rfl⟩ := hb
      exact ⟨fun _ => kk 2 (by decide) (by decide) (by unfold phoneF; rw [hct]; simp only [hbf]), fun h => by simp at h⟩
    | some dp =>
      obtain ⟨d, p⟩ := dp
      rw [hbf] at hb
      obtain ⟨hd, hp, rfl⟩ := hb
      have hf : phoneF (sOf z0) (sOf z1) = phoneE (phoneN (sOf z0) code trunk d p) := by unfold phoneF; rw [hct]; simp only [hbf]
      have hlen := bareF_len _ _ _ hbf
      refine ⟨fun h => by simp at h, fun _ => ?_⟩
      rw [b01_dec hp]
      refine ⟨fun hp => fun z8 g0 g1 h8 => ?_, fun hp => phoneEnd (z := 0) _ 12 hid d0 d1 ?_⟩
      · rw [eq_nil h8]
        refine ⟨fun hw z9 i0 i1 h9 => ?_, fun hw => phoneEnd (z := 0) _ 12 hid d0 d1 ?_⟩
        · have h9 : sOf z9 = cond ((sOf t).isPrefixOf (sOf z5)) ((sOf z5).drop (sOf t).length) (sOf z5) := h9
          have hl9 : (sOf z9).length ≤ (sOf z5).length := by
            rw [h9]; cases (sOf t).isPrefixOf (sOf z5) <;> simp
          refine ⟨?_, fun z10 j0 j1 h10 => phoneEnd (z := 0) _ 12 hid j0 j1 ?_⟩
          · show (sOf c).length + (sOf z9).length ≤ maxLen
            have := ctry_len hct
            rw [hcc]; rw [hd] at hl9; unfold maxLen; simp at hlen; omega
          · rw [hf]
            have : sOf z10 = sOf c ++ sOf z9 := by rw [h10]; simp only [fnD, sOf_cOf]; rfl
            rw [this, h9, hcc, htt, hd]
            unfold phoneN
            have hw : (!(sOf z0 == [])) = true := hw
            rw [hp, hw]; rfl
        · rw [hf, hd]; unfold phoneN
          have hw : (!(sOf z0 == [])) = false := hw
          rw [hp, hw]; rfl
      · rw [hf, hd]; unfold phoneN; rw [hp]; rfl
end Go.Ad
