/- AdVcB: a part of the proof of statements of this seat. -/
import Derived.Test.YtcellhafdgmkjaaDoorAdVcA
import Derived.Test.YtcellhafdgmkjaaDoorAdBase
set_option maxRecDepth 100000
set_option linter.unusedVariables false
set_option linter.unusedSimpArgs false
namespace Go.Ad
open Go Go.Rx
def B_cutat (S : Nat → List (List Int) → List (List Int) → Prop) (K : List (List Int) → List (List Int) → Prop) : Prop :=
 ∀ z0 : Int, 0 ≤ z0 → z0 ≤ HB → 
 ∀ z1 : Int, 0 ≤ z1 → z1 ≤ 1 → z1 = fnD 4 [65, z0] →
 (((decide (z1 = 1)) = true →
  chkD 2 [z0, 0, 0] ∧
  ∀ z2 : Int, 0 ≤ z2 → z2 ≤ HB → z2 = fnD 2 [z0, 0, 0] →
  ∀ z3 : Int, 0 ≤ z3 → z3 ≤ 9223372036854775807 → z3 = fnD 0 [z0] →
  chkD 2 [z0, 1, z3] ∧
  ∀ z4 : Int, 0 ≤ z4 → z4 ≤ HB → z4 = fnD 2 [z0, 1, z3] →
  K [[z0]] [[z2], [z4], [(cond (true) 1 0)]]
 ) ∧ ((decide (z1 = 1)) = false →
  ∀ z2 : Int, (-1) ≤ z2 → z2 ≤ 9223372036854775807 → S 73 [[z0], [64]] [[z2]] →
  (((decide (0 ≤ z2)) = true →
   chkD 2 [z0, 0, z2] ∧
   ∀ z3 : Int, 0 ≤ z3 → z3 ≤ HB → z3 = fnD 2 [z0, 0, z2] →
   ∀ z4 : Int, 0 ≤ z4 → z4 ≤ 1 → 0 ≤ (z2 + 9223372036854775809) - 18446744073709551616 * z4 → (z2 + 9223372036854775809) - 18446744073709551616 * z4 < 18446744073709551616 →
   ∀ z5 : Int, 0 ≤ z5 → z5 ≤ 9223372036854775807 → z5 = fnD 0 [z0] →
   chkD 2 [z0, ((z2 + ((-18446744073709551616) * z4)) + 1), z5] ∧
   ∀ z6 : Int, 0 ≤ z6 → z6 ≤ HB → z6 = fnD 2 [z0, ((z2 + ((-18446744073709551616) * z4)) + 1), z5] →
   K [[z0]] [[z3], [z6], [(cond (true) 1 0)]]
  ) ∧ ((decide (0 ≤ z2)) = false →
   K [[z0]] [[z0], [0], [(cond (false) 1 0)]]
  ))
 ))
def B_cutcol (S : Nat → List (List Int) → List (List Int) → Prop) (K : List (List Int) → List (List Int) → Prop) : Prop :=
 ∀ z0 : Int, 0 ≤ z0 → z0 ≤ HB → 
 ∀ z1 : Int, 0 ≤ z1 → z1 ≤ 1 → z1 = fnD 4 [59, z0] →
 (((decide (z1 = 1)) = true →
  chkD 2 [z0, 0, 0] ∧
  ∀ z2 : Int, 0 ≤ z2 → z2 ≤ HB → z2 = fnD 2 [z0, 0, 0] →
  ∀ z3 : Int, 0 ≤ z3 → z3 ≤ 9223372036854775807 → z3 = fnD 0 [z0] →
  chkD 2 [z0, 1, z3] ∧
  ∀ z4 : Int, 0 ≤ z4 → z4 ≤ HB → z4 = fnD 2 [z0, 1, z3] →
  K [[z0]] [[z2], [z4], [(cond (true) 1 0)]]
 ) ∧ ((decide (z1 = 1)) = false →
  ∀ z2 : Int, (-1) ≤ z2 → z2 ≤ 9223372036854775807 → S 73 [[z0], [58]] [[z2]] →
  (((decide (0 ≤ z2)) = true →
   chkD 2 [z0, 0, z2] ∧
   ∀ z3 : Int, 0 ≤ z3 → z3 ≤ HB → z3 = fnD 2 [z0, 0, z2] →
   ∀ z4 : Int, 0 ≤ z4 → z4 ≤ 1 → 0 ≤ (z2 + 9223372036854775809) - 18446744073709551616 * z4 → (z2 + 9223372036854775809) - 18446744073709551616 * z4 < 18446744073709551616 →
   ∀ z5 : Int, 0 ≤ z5 → z5 ≤ 9223372036854775807 → z5 = fnD 0 [z0] →
   chkD 2 [z0, ((z2 + ((-18446744073709551616) * z4)) + 1), z5] ∧
   ∀ z6 : Int, 0 ≤ z6 → z6 ≤ HB → z6 = fnD 2 [z0, ((z2 + ((-18446744073709551616) * z4)) + 1), z5] →
   K [[z0]] [[z3], [z6], [(cond (true) 1 0)]]
  ) ∧ ((decide (0 ≤ z2)) = false →
   K [[z0]] [[z0], [0], [(cond (false) 1 0)]]
  ))
 ))
def B_only (S : Nat → List (List Int) → List (List Int) → Prop) (K : List (List Int) → List (List Int) → Prop) : Prop :=
 ∀ z0 : Int, 0 ≤ z0 → z0 ≤ HB → ∀ z1 : Int, 0 ≤ z1 → z1 ≤ HB → 
 ∀ z2 : Int, 0 ≤ z2 → z2 ≤ 9223372036854775807 → z2 = fnD 0 [z0] →
 ∃ (I3 : List (List Int) → Prop) (μ3 : List (List Int) → Nat), I3 [[0]] ∧ (∀ z4 : Int, 0 ≤ z4 → z4 ≤ 9223372036854775807 → I3 [[z4]] →
  (((decide (z4 < z2)) = true →
   chkD 1 [z0, z4] ∧
   ∀ z5 : Int, 0 ≤ z5 → z5 ≤ 255 → z5 = fnD 1 [z0, z4] →
   ∀ z6 : Int, (-1) ≤ z6 → z6 ≤ 9223372036854775807 → S 73 [[z1], [z5]] [[z6]] →
   (((decide (z6 < 0)) = true →
    K [[z0], [z1]] [[(cond (false) 1 0)]]
   ) ∧ ((decide (z6 < 0)) = false →
    ∀ z7 : Int, 0 ≤ z7 → z7 ≤ 1 → 0 ≤ (z4 + 9223372036854775809) - 18446744073709551616 * z7 → (z4 + 9223372036854775809) - 18446744073709551616 * z7 < 18446744073709551616 →
    chkD 39 [((z4 + ((-18446744073709551616) * z7)) + 1), 0, 9223372036854775807] ∧
    (I3 [[((z4 + ((-18446744073709551616) * z7)) + 1)]] ∧ μ3 [[((z4 + ((-18446744073709551616) * z7)) + 1)]] < μ3 [[z4]])
   ))
  ) ∧ ((decide (z4 < z2)) = false →
   K [[z0], [z1]] [[(cond (true) 1 0)]]
  ))
 )
def B_ionly (S : Nat → List (List Int) → List (List Int) → Prop) (K : List (List Int) → List (List Int) → Prop) : Prop :=
 ∀ z0 : Int, 0 ≤ z0 → z0 ≤ HB → ∀ z1 : Int, 0 ≤ z1 → z1 ≤ HB → 
 ∀ z2 : Int, 0 ≤ z2 → z2 ≤ 9223372036854775807 → z2 = fnD 0 [z0] →
 ∃ (I3 : List (List Int) → Prop) (μ3 : List (List Int) → Nat), I3 [[0]] ∧ (∀ z4 : Int, 0 ≤ z4 → z4 ≤ 9223372036854775807 → I3 [[z4]] →
  (((decide (z4 < z2)) = true →
   chkD 1 [z0, z4] ∧
   ∀ z5 : Int, 0 ≤ z5 → z5 ≤ 255 → z5 = fnD 1 [z0, z4] →
   ∀ z6 : Int, (-1) ≤ z6 → z6 ≤ 9223372036854775807 → S 73 [[z1], [z5]] [[z6]] →
   (((decide (z6 < 0)) = true →
    K [[z0], [z1]] [[(cond (false) 1 0)]]
   ) ∧ ((decide (z6 < 0)) = false →
    ∀ z7 : Int, 0 ≤ z7 → z7 ≤ 1 → 0 ≤ (z4 + 9223372036854775809) - 18446744073709551616 * z7 → (z4 + 9223372036854775809) - 18446744073709551616 * z7 < 18446744073709551616 →
    chkD 39 [((z4 + ((-18446744073709551616) * z7)) + 1), 0, 9223372036854775807] ∧
    (I3 [[((z4 + ((-18446744073709551616) * z7)) + 1)]] ∧ μ3 [[((z4 + ((-18446744073709551616) * z7)) + 1)]] < μ3 [[z4]])
   ))
  ) ∧ ((decide (z4 < z2)) = false →
   K [[z0], [z1]] [[(cond (true) 1 0)]]
  ))
 )
def B_rhas (S : Nat → List (List Int) → List (List Int) → Prop) (K : List (List Int) → List (List Int) → Prop) : Prop :=
 ∀ z0 : Int, 0 ≤ z0 → z0 ≤ HB → ∀ z1 : Int, 0 ≤ z1 → z1 ≤ 255 → 
 ∃ (I2 : List (List Int) → Prop) (μ2 : List (List Int) → Nat), I2 [[0]] ∧ (∀ z3 : Int, 0 ≤ z3 → z3 ≤ 9223372036854775807 → I2 [[z3]] →
  ∀ z4 : Int, 0 ≤ z4 → z4 ≤ 9223372036854775807 → z4 = fnD 0 [z0] →
  (((decide (z3 < z4)) = true →
   chkD 1 [z0, z3] ∧
   ∀ z5 : Int, 0 ≤ z5 → z5 ≤ 255 → z5 = fnD 1 [z0, z3] →
   (((decide (z5 = z1)) = true →
    K [[z0], [z1]] [[(cond (true) 1 0)]]
   ) ∧ ((decide (z5 = z1)) = false →
    ∀ z6 : Int, 0 ≤ z6 → z6 ≤ 1 → 0 ≤ (z3 + 9223372036854775809) - 18446744073709551616 * z6 → (z3 + 9223372036854775809) - 18446744073709551616 * z6 < 18446744073709551616 →
    chkD 39 [((z3 + ((-18446744073709551616) * z6)) + 1), 0, 9223372036854775807] ∧
    (I2 [[((z3 + ((-18446744073709551616) * z6)) + 1)]] ∧ μ2 [[((z3 + ((-18446744073709551616) * z6)) + 1)]] < μ2 [[z3]])
   ))
  ) ∧ ((decide (z3 < z4)) = false →
   K [[z0], [z1]] [[(cond (false) 1 0)]]
  ))
 )
theorem p_cut {c n : Int} (h0 : 0 ≤ c) (h1 : c ≤ 255) (hn : sOf n = [u8 c]) {id : Nat} (hid : ∀ z a b r, SB id [[z]] [[a], [b], [r]] = ((sOf a, sOf b, r) = cutF c (sOf z))) :
 (∀ z0 : Int, 0 ≤ z0 → z0 ≤ HB → 
 ∀ z1 : Int, 0 ≤ z1 → z1 ≤ 1 → z1 = fnD 4 [n, z0] →
 (((decide (z1 = 1)) = true →
  chkD 2 [z0, 0, 0] ∧
  ∀ z2 : Int, 0 ≤ z2 → z2 ≤ HB → z2 = fnD 2 [z0, 0, 0] →
  ∀ z3 : Int, 0 ≤ z3 → z3 ≤ 9223372036854775807 → z3 = fnD 0 [z0] →
  chkD 2 [z0, 1, z3] ∧
  ∀ z4 : Int, 0 ≤ z4 → z4 ≤ HB → z4 = fnD 2 [z0, 1, z3] →
  KBv SB [.str, .str, .bool] id [[z0]] [[z2], [z4], [(cond (true) 1 0)]]
 ) ∧ ((decide (z1 = 1)) = false →
  ∀ z2 : Int, (-1) ≤ z2 → z2 ≤ 9223372036854775807 → SB 73 [[z0], [c]] [[z2]] →
  (((decide (0 ≤ z2)) = true →
   chkD 2 [z0, 0, z2] ∧
   ∀ z3 : Int, 0 ≤ z3 → z3 ≤ HB → z3 = fnD 2 [z0, 0, z2] →
   ∀ z4 : Int, 0 ≤ z4 → z4 ≤ 1 → 0 ≤ (z2 + 9223372036854775809) - 18446744073709551616 * z4 → (z2 + 9223372036854775809) - 18446744073709551616 * z4 < 18446744073709551616 →
   ∀ z5 : Int, 0 ≤ z5 → z5 ≤ 9223372036854775807 → z5 = fnD 0 [z0] →
   chkD 2 [z0, ((z2 + ((-18446744073709551616) * z4)) + 1), z5] ∧
   ∀ z6 : Int, 0 ≤ z6 → z6 ≤ HB → z6 = fnD 2 [z0, ((z2 + ((-18446744073709551616) * z4)) + 1), z5] →
   KBv SB [.str, .str, .bool] id [[z0]] [[z3], [z6], [(cond (true) 1 0)]]
  ) ∧ ((decide (0 ≤ z2)) = false →
   KBv SB [.str, .str, .bool] id [[z0]] [[z0], [0], [(cond (false) 1 0)]]
  ))
 ))) := by
  intro z0 a0 a1 z1 b0 b1 hz1
  simp only [fnD, hn] at hz1
  refine ⟨fun h => ?_, fun h z2 c0 c1 h2 => ?_⟩
  · have hs : sOf z0 = [u8 c] := by
      by_cases h' : [u8 c] = sOf z0
      · exact h'.symm
      · rw [if_neg h'] at hz1; subst hz1; simp at h
    refine ⟨⟨by omega, by omega, by omega⟩, fun z2 c0 c1 h2 z3 d0 d1 h3 => ?_⟩
    simp only [fnD, hs, List.length_singleton] at h3
    refine ⟨⟨by omega, by omega, by rw [hs]; simp only [List.length_singleton]; omega⟩, fun z4 e0 e1 h4 => ⟨⟨c0, c1, e0, e1, by decide, by decide, trivial⟩, ?_⟩⟩
    rw [hid]
    have e2 : sOf z2 = [] := by rw [h2]; simp [fnD, sOf_cOf]
    have e4 : sOf z4 = [] := by rw [h4]; simp [fnD, sOf_cOf, hs]
    have ei : idx c [u8 c] = 0 := by simp [idx, u8_toNat h0 h1]
    rw [e2, e4, hs]
    simp [cutF, ei]
  · have h2 : z2 = idx c (sOf z0) := h2
    refine ⟨fun hp => ?_, fun hp => ⟨⟨a0, a1, Int.le_refl _, HB_pos, by decide, by decide, trivial⟩, ?_⟩⟩
    · have hp : 0 ≤ z2 := by simpa using hp
      have hr := idx_range c (sOf z0)
      have hL := len_lt a1
      refine ⟨⟨by omega, by omega, by omega⟩, fun z3 d0 d1 h3 z4 e0 e1 e2 e3 z5 f0 f1 h5 => ?_⟩
      simp only [fnD] at h5
      have ez : z2 + -18446744073709551616 * z4 + 1 = z2 + 1 := by omega
      rw [ez]
      refine ⟨⟨by omega, by omega, by omega⟩, fun z6 g0 g1 h6 => ⟨⟨d0, d1, g0, g1, by decide, by decide, trivial⟩, ?_⟩⟩
      rw [hid]
      have e3 : sOf z3 = (sOf z0).take z2.toNat := by rw [h3]; simp [fnD, sOf_cOf]
      have e6 : sOf z6 = (sOf z0).drop (z2.toNat + 1) := by
        rw [h6]; simp only [fnD, sOf_cOf]
        rw [show (z2 + 1).toNat = z2.toNat + 1 by omega]
        exact List.take_of_length_le (by simp; omega)
      rw [e3, e6]
      unfold cutF
      rw [← h2, show decide (0 ≤ z2) = true by simpa using hp]
      rfl
    · rw [hid]
      unfold cutF
      rw [← h2, hp]
      rfl
theorem p_cutat : B_cutat SB (KBv SB [.str, .str, .bool] 125) := p_cut (c := 64) (n := 65) (by decide) (by decide) (by decide) fun _ _ _ _ => rfl
theorem p_cutcol : B_cutcol SB (KBv SB [.str, .str, .bool] 126) := p_cut (c := 58) (n := 59) (by decide) (by decide) (by decide) fun _ _ _ _ => rfl
theorem all_take (p : UInt8 → Bool) (l : Tx) (i : Nat) (h : i < l.length) : (l.take (i + 1)).all p = ((l.take i).all p && p (l.getD i 0)) := by
  rw [take_succ_getD l i h]; simp
theorem all_false_of (p : UInt8 → Bool) (l : Tx) (i : Nat) (h : i < l.length) (hp : p (l.getD i 0) = false) : l.all p = false := by
  rw [List.all_eq_false]
  refine ⟨l.getD i 0, ?_, fun e => by rw [hp] at e; cases e⟩
  simp [List.getD, h]
theorem wrap1 {z q L : Int} (h : z < L) (hL : L ≤ 9223372036854775807) (h0 : 0 ≤ z) (q0 : 0 ≤ q) (e2 : 0 ≤ (z + 9223372036854775809) - 18446744073709551616 * q) : z + -18446744073709551616 * q + 1 = z + 1 := by omega
theorem p_only' {id : Nat} (hid : ∀ s b r, SB id [[s], [b]] [[r]] = (r = b01 ((sOf s).all fun c => (sOf b).contains c))) :
 (∀ z0 : Int, 0 ≤ z0 → z0 ≤ HB → ∀ z1 : Int, 0 ≤ z1 → z1 ≤ HB → 
 ∀ z2 : Int, 0 ≤ z2 → z2 ≤ 9223372036854775807 → z2 = fnD 0 [z0] →
 ∃ (I3 : List (List Int) → Prop) (μ3 : List (List Int) → Nat), I3 [[0]] ∧ (∀ z4 : Int, 0 ≤ z4 → z4 ≤ 9223372036854775807 → I3 [[z4]] →
  (((decide (z4 < z2)) = true →
   chkD 1 [z0, z4] ∧
   ∀ z5 : Int, 0 ≤ z5 → z5 ≤ 255 → z5 = fnD 1 [z0, z4] →
   ∀ z6 : Int, (-1) ≤ z6 → z6 ≤ 9223372036854775807 → SB 73 [[z1], [z5]] [[z6]] →
   (((decide (z6 < 0)) = true →
    KBv SB [.bool] id [[z0], [z1]] [[(cond (false) 1 0)]]
   ) ∧ ((decide (z6 < 0)) = false →
    ∀ z7 : Int, 0 ≤ z7 → z7 ≤ 1 → 0 ≤ (z4 + 9223372036854775809) - 18446744073709551616 * z7 → (z4 + 9223372036854775809) - 18446744073709551616 * z7 < 18446744073709551616 →
    chkD 39 [((z4 + ((-18446744073709551616) * z7)) + 1), 0, 9223372036854775807] ∧
    (I3 [[((z4 + ((-18446744073709551616) * z7)) + 1)]] ∧ μ3 [[((z4 + ((-18446744073709551616) * z7)) + 1)]] < μ3 [[z4]])
   ))
  ) ∧ ((decide (z4 < z2)) = false →
   KBv SB [.bool] id [[z0], [z1]] [[(cond (true) 1 0)]]
  ))
 )) := by
  intro z0 a0 a1 z1 b0 b1 z2 c0 c1 h2
  simp only [fnD] at h2
  refine ⟨fun bl => ∃ i : Nat, bl = [[(i : Int)]] ∧ i ≤ (sOf z0).length ∧ ((sOf z0).take i).all (fun c => (sOf z1).contains c) = true, fun bl => (sOf z0).length - ((bl.getD 0 []).getD 0 0).toNat, ⟨0, rfl, Nat.zero_le _, rfl⟩, ?_⟩
  rintro z4 d0 d1 ⟨i, e, hi, hall⟩
  obtain rfl : z4 = i := by simpa using e
  refine ⟨fun hp => ?_, fun hp => ⟨⟨by decide, by decide, trivial⟩, ?_⟩⟩
  · have hp : (i : Int) < z2 := by simpa using hp
    refine ⟨⟨d0, by omega⟩, fun z5 e0 e1 h5 z6 f0 f1 h6 => ?_⟩
    have h6 : z6 = idx z5 (sOf z1) := h6
    simp only [fnD, Int.toNat_natCast] at h5
    have hu : u8 z5 = (sOf z0).getD i 0 := by rw [h5, u8_of]
    have hm := idx_mem e0 e1 (sOf z1)
    rw [hu, ← h6] at hm
    refine ⟨fun hq => ⟨⟨by decide, by decide, trivial⟩, ?_⟩, fun hq z7 g0 g1 g2 g3 => ?_⟩
    · rw [hid, all_false_of _ _ i (by omega) (by rw [← hm]; simpa using hq)]; rfl
    · have hq : 0 ≤ z6 := by simpa using hq
      rw [wrap1 (L := z2) hp c1 d0 g0 g2]
      refine ⟨⟨by omega, by omega⟩, ⟨i + 1, by simp, by omega, ?_⟩, ?_⟩
      · rw [all_take _ _ _ (by omega), hall, ← hm]; simpa using hq
      · show (sOf z0).length - ((i : Int) + 1).toNat < (sOf z0).length - (i : Int).toNat
        omega
  · have hp : ¬ (i : Int) < z2 := by simpa using hp
    rw [List.take_of_length_le (by omega)] at hall
    rw [hid, hall]; rfl
theorem p_only : B_only SB (KBv SB [.bool] 44) := p_only' fun _ _ _ => rfl
theorem p_ionly : B_ionly SB (KBv SB [.bool] 65) := p_only' fun _ _ _ => rfl
theorem contains_take (l : Tx) (c : UInt8) (i : Nat) (h : i < l.length) : (l.take (i + 1)).contains c = ((l.take i).contains c || l.getD i 0 == c) := by
  rw [take_succ_getD l i h, Bool.eq_iff_iff]; simp; exact or_congr Iff.rfl ⟨fun h => h.symm, fun h => h.symm⟩
theorem p_rhas : B_rhas SB (KBv SB [.bool] 31) := by
  intro z0 a0 a1 z1 b0 b1
  refine ⟨fun bl => ∃ i : Nat, bl = [[(i : Int)]] ∧ i ≤ (sOf z0).length ∧ ((sOf z0).take i).contains (u8 z1) = false, fun bl => (sOf z0).length - ((bl.getD 0 []).getD 0 0).toNat, ⟨0, rfl, Nat.zero_le _, rfl⟩, ?_⟩
  rintro z4 d0 d1 ⟨i, e, hi, hall⟩
  obtain rfl : z4 = i := by simpa using e
  intro z2 c0 c1 h2
  simp only [fnD] at h2
  refine ⟨fun hp => ?_, fun hp => ⟨⟨by decide, by decide, trivial⟩, ?_⟩⟩
  · have hp : (i : Int) < z2 := by simpa using hp
    refine ⟨⟨d0, by omega⟩, fun z5 e0 e1 h5 => ?_⟩
    simp only [fnD, Int.toNat_natCast] at h5
    have hu := u8_eq (b := (sOf z0).getD i 0) b0 b1
    rw [← h5] at hu
    refine ⟨fun hq => ⟨⟨by decide, by decide, trivial⟩, ?_⟩, fun hq z7 g0 g1 g2 g3 => ?_⟩
    · have := hu.1 (by simpa using hq)
      show (1 : Int) = b01 ((sOf z0).contains (u8 z1))
      have hm : (sOf z0).contains (u8 z1) = true := by
        rw [← beq_iff_eq.1 this]; simp [List.getD, show i < (sOf z0).length by omega]
      rw [hm]; rfl
    · rw [wrap1 (L := z2) hp c1 d0 g0 g2]
      refine ⟨⟨by omega, by omega⟩, ⟨i + 1, by simp, by omega, ?_⟩, ?_⟩
      · rw [contains_take _ _ _ (by omega), hall, Bool.false_or]
        cases h : ((sOf z0).getD i 0 == u8 z1) with
        | false => rfl
        | true => have := hu.2 h; simp [this] at hq
      · show (sOf z0).length - ((i : Int) + 1).toNat < (sOf z0).length - (i : Int).toNat
        omega
  · have hp : ¬ (i : Int) < z2 := by simpa using hp
    rw [List.take_of_length_le (by omega)] at hall
    show (0 : Int) = b01 ((sOf z0).contains (u8 z1))
    rw [hall]; rfl
end Go.Ad
