/- AdV1: a part of the proof of statements of this seat. -/
import Derived.Test.YtlecfjcooglpoaaDoorAdBase
set_option maxRecDepth 100000
set_option linter.unusedVariables false
set_option linter.unusedSimpArgs false
namespace Go.Ad
open Go Go.Rx
def B_tlb (S : Nat → List (List Int) → List (List Int) → Prop) (K : List (List Int) → List (List Int) → Prop) : Prop :=
 ∀ z0 : Int, 0 ≤ z0 → z0 ≤ HB → ∀ z1 : Int, 0 ≤ z1 → z1 ≤ 255 → 
 ∃ (I2 : List (List Int) → Prop) (μ2 : List (List Int) → Nat), I2 [[z0]] ∧ (∀ z3 : Int, 0 ≤ z3 → z3 ≤ HB → I2 [[z3]] →
  ∀ z4 : Int, 0 ≤ z4 → z4 ≤ 9223372036854775807 → z4 = fnD 0 [z3] →
  (((decide (0 < z4)) = true →
   chkD 1 [z3, 0] ∧
   ∀ z5 : Int, 0 ≤ z5 → z5 ≤ 255 → z5 = fnD 1 [z3, 0] →
   (((decide (z5 = z1)) = true →
    ∀ z6 : Int, 0 ≤ z6 → z6 ≤ 9223372036854775807 → z6 = fnD 0 [z3] →
    chkD 2 [z3, 1, z6] ∧
    ∀ z7 : Int, 0 ≤ z7 → z7 ≤ HB → z7 = fnD 2 [z3, 1, z6] →
    (I2 [[z7]] ∧ μ2 [[z7]] < μ2 [[z3]])
   ) ∧ ((decide (z5 = z1)) = false →
    K [[z0], [z1]] [[z3]]
   ))
  ) ∧ ((decide (0 < z4)) = false →
   K [[z0], [z1]] [[z3]]
  ))
 )
def B_trb (S : Nat → List (List Int) → List (List Int) → Prop) (K : List (List Int) → List (List Int) → Prop) : Prop :=
 ∀ z0 : Int, 0 ≤ z0 → z0 ≤ HB → ∀ z1 : Int, 0 ≤ z1 → z1 ≤ 255 → 
 ∃ (I2 : List (List Int) → Prop) (μ2 : List (List Int) → Nat), I2 [[z0]] ∧ (∀ z3 : Int, 0 ≤ z3 → z3 ≤ HB → I2 [[z3]] →
  ∀ z4 : Int, 0 ≤ z4 → z4 ≤ 9223372036854775807 → z4 = fnD 0 [z3] →
  (((decide (0 < z4)) = true →
   ∀ z5 : Int, 0 ≤ z5 → z5 ≤ 9223372036854775807 → z5 = fnD 0 [z3] →
   chkD 1 [z3, (z5 + (-1))] ∧
   ∀ z6 : Int, 0 ≤ z6 → z6 ≤ 255 → z6 = fnD 1 [z3, (z5 + (-1))] →
   (((decide (z6 = z1)) = true →
    ∀ z7 : Int, 0 ≤ z7 → z7 ≤ 9223372036854775807 → z7 = fnD 0 [z3] →
    chkD 2 [z3, 0, (z7 + (-1))] ∧
    ∀ z8 : Int, 0 ≤ z8 → z8 ≤ HB → z8 = fnD 2 [z3, 0, (z7 + (-1))] →
    (I2 [[z8]] ∧ μ2 [[z8]] < μ2 [[z3]])
   ) ∧ ((decide (z6 = z1)) = false →
    K [[z0], [z1]] [[z3]]
   ))
  ) ∧ ((decide (0 < z4)) = false →
   K [[z0], [z1]] [[z3]]
  ))
 )
def B_tsp (S : Nat → List (List Int) → List (List Int) → Prop) (K : List (List Int) → List (List Int) → Prop) : Prop :=
 ∀ z0 : Int, 0 ≤ z0 → z0 ≤ HB → 
 ∀ z1 : Int, 0 ≤ z1 → z1 ≤ 1 → z1 = fnD 4 [z0, 0] →
 (((decide (z1 = 1)) = true →
  K [[z0]] [[z0]]
 ) ∧ ((decide (z1 = 1)) = false →
  ∀ z2 : Int, 0 ≤ z2 → z2 ≤ HB → S 37 [[z0], [32]] [[z2]] →
  ∀ z3 : Int, 0 ≤ z3 → z3 ≤ HB → S 36 [[z2], [32]] [[z3]] →
  K [[z0]] [[z3]]
 ))
def B_tdot (S : Nat → List (List Int) → List (List Int) → Prop) (K : List (List Int) → List (List Int) → Prop) : Prop :=
 ∀ z0 : Int, 0 ≤ z0 → z0 ≤ HB → 
 ∀ z1 : Int, 0 ≤ z1 → z1 ≤ 1 → z1 = fnD 4 [z0, 0] →
 (((decide (z1 = 1)) = true →
  K [[z0]] [[z0]]
 ) ∧ ((decide (z1 = 1)) = false →
  ∀ z2 : Int, 0 ≤ z2 → z2 ≤ HB → S 37 [[z0], [46]] [[z2]] →
  ∀ z3 : Int, 0 ≤ z3 → z3 ≤ HB → S 36 [[z2], [46]] [[z3]] →
  K [[z0]] [[z3]]
 ))
def B_cdot (S : Nat → List (List Int) → List (List Int) → Prop) (K : List (List Int) → List (List Int) → Prop) : Prop :=
 ∀ z0 : Int, 0 ≤ z0 → z0 ≤ HB → 
 ∀ z1 : Int, 0 ≤ z1 → z1 ≤ 1 → z1 = fnD 4 [47, z0] →
 (((decide (z1 = 1)) = true →
  K [[z0]] [[(cond (true) 1 0)]]
 ) ∧ ((decide (z1 = 1)) = false →
  ∀ z2 : Int, (-1) ≤ z2 → z2 ≤ 9223372036854775807 → S 73 [[z0], [46]] [[z2]] →
  K [[z0]] [[(cond (decide (0 ≤ z2)) 1 0)]]
 ))
theorem p_tlb : B_tlb SB (KBv SB [.str] 36) := by
  intro z0 a0 a1 z1 b0 b1
  refine ⟨fun bl => ∃ z, bl = [[z]] ∧ ltr (· == u8 z1) (sOf z) = ltr (· == u8 z1) (sOf z0), fun bl => (sOf ((bl.getD 0 []).getD 0 0)).length, ⟨z0, rfl, rfl⟩, ?_⟩
  rintro z3 c0 c1 ⟨z, e, hz⟩
  obtain rfl : z3 = z := by simpa using e
  intro z4 d0 d1 hz4
  simp only [fnD] at hz4
  cases hl : sOf z3 with
  | nil =>
    rw [hl] at hz4 hz
    simp only [List.length_nil] at hz4
    subst hz4
    refine ⟨fun hp => by simp at hp, fun _ => ⟨⟨c0, c1, trivial⟩, ?_⟩⟩
    show sOf z3 = _
    rw [hl, ← hz]
    rfl
  | cons x r =>
    rw [hl] at hz4 hz
    simp only [List.length_cons] at hz4
    refine ⟨fun _ => ⟨⟨Int.le_refl _, by rw [hl]; simp only [List.length_cons]; omega⟩, ?_⟩, fun hp => by simp at hp; omega⟩
    intro z5 e0 e1 hz5
    simp only [fnD, hl, Int.toNat_zero, List.getD_cons_zero] at hz5
    have hx := u8_eq (b := x) b0 b1
    rw [← hz5] at hx
    refine ⟨fun he => ?_, fun he => ⟨⟨c0, c1, trivial⟩, ?_⟩⟩
    · have he' := hx.1 (by simpa using he)
      intro z6 f0 f1 hz6
      simp only [fnD, hl, List.length_cons] at hz6
      refine ⟨⟨by omega, by omega, by rw [hl]; simp only [List.length_cons]; omega⟩, ?_⟩
      intro z7 g0 g1 hz7
      have hr : sOf z7 = r := by
        rw [hz7]; simp only [fnD, sOf_cOf, hl]
        rw [show (1 : Int).toNat = 1 from rfl, List.drop_one, List.tail_cons]
        exact List.take_of_length_le (by omega)
      refine ⟨⟨z7, rfl, ?_⟩, ?_⟩
      · rw [hr, ← hz]; simp only [ltr, List.dropWhile_cons, he', if_true]
      · show (sOf z7).length < (sOf z3).length
        rw [hr, hl]; simp
    · show sOf z3 = _
      have he' : ¬ (x == u8 z1) = true := fun h => by have := hx.2 h; simp [this] at he
      rw [hl, ← hz]; simp only [ltr, List.dropWhile_cons, he', if_false]; rfl
theorem snoc_of {l : Tx} (h : l ≠ []) : ∃ r x, l = r ++ [x] := ⟨_, _, (List.dropLast_concat_getLast h).symm⟩
theorem p_trb : B_trb SB (KBv SB [.str] 37) := by
  intro z0 a0 a1 z1 b0 b1
  refine ⟨fun bl => ∃ z, bl = [[z]] ∧ rtr (· == u8 z1) (sOf z) = rtr (· == u8 z1) (sOf z0), fun bl => (sOf ((bl.getD 0 []).getD 0 0)).length, ⟨z0, rfl, rfl⟩, ?_⟩
  rintro z3 c0 c1 ⟨z, e, hz⟩
  obtain rfl : z3 = z := by simpa using e
  intro z4 d0 d1 hz4
  simp only [fnD] at hz4
  by_cases hl : sOf z3 = []
  · rw [hl] at hz4 hz
    simp only [List.length_nil] at hz4
    subst hz4
    refine ⟨fun hp => by simp at hp, fun _ => ⟨⟨c0, c1, trivial⟩, ?_⟩⟩
    show sOf z3 = _
    rw [hl, ← hz]
    rfl
  · obtain ⟨r, x, hl⟩ := snoc_of hl
    rw [hl] at hz4 hz
    simp only [List.length_append, List.length_cons, List.length_nil] at hz4
    refine ⟨fun _ => ?_, fun hp => by simp at hp; omega⟩
    intro z5 e0 e1 hz5
    simp only [fnD, hl, List.length_append, List.length_cons, List.length_nil] at hz5
    refine ⟨⟨by omega, by rw [hl]; simp only [List.length_append, List.length_cons, List.length_nil]; omega⟩, ?_⟩
    intro z6 f0 f1 hz6
    have ht : (z5 + -1).toNat = r.length := by omega
    simp only [fnD, hl, ht] at hz6
    have hx := u8_eq (b := x) b0 b1
    rw [show ((r ++ [x]).getD r.length 0) = x by simp [List.getD]] at hz6
    rw [← hz6] at hx
    refine ⟨fun he => ?_, fun he => ⟨⟨c0, c1, trivial⟩, ?_⟩⟩
    · have he' := hx.1 (by simpa using he)
      intro z7 f0 f1 hz7
      simp only [fnD, hl, List.length_append, List.length_cons, List.length_nil] at hz7
      have ht7 : (z7 + -1).toNat = r.length := by omega
      refine ⟨⟨by omega, by omega, by rw [hl]; simp only [List.length_append, List.length_cons, List.length_nil]; omega⟩, ?_⟩
      intro z8 g0 g1 hz8
      have hr : sOf z8 = r := by
        rw [hz8]; simp only [fnD, sOf_cOf, hl, ht7]
        simp
      refine ⟨⟨z8, rfl, ?_⟩, ?_⟩
      · rw [hr, ← hz, rtr_snoc, he', cond_true]
      · show (sOf z8).length < (sOf z3).length
        rw [hr, hl]; simp
    · show sOf z3 = _
      have he' : (x == u8 z1) = false := by
        cases h : (x == u8 z1) with
        | false => rfl
        | true => have := hx.2 h; simp [this] at he
      rw [hl, ← hz, rtr_snoc, he', cond_false]
theorem sOf_zero : sOf 0 = [] := rfl
theorem eq_nil {z z1 : Int} (h : z1 = fnD 4 [z, 0]) : decide (z1 = 1) = (sOf z == []) := by
  rw [h]; simp only [fnD, sOf_zero]
  cases hz : sOf z with
  | nil => rfl
  | cons x r => simp
theorem p_trim1 {c : Int} {p : UInt8 → Bool} (hc : p = (· == u8 c)) {id : Nat} (hid : ∀ z r, SB id [[z]] [[r]] = (sOf r = trimS p (sOf z))) :
    (∀ z0 : Int, 0 ≤ z0 → z0 ≤ HB → 
 ∀ z1 : Int, 0 ≤ z1 → z1 ≤ 1 → z1 = fnD 4 [z0, 0] →
 (((decide (z1 = 1)) = true →
  KBv SB [.str] id [[z0]] [[z0]]
 ) ∧ ((decide (z1 = 1)) = false →
  ∀ z2 : Int, 0 ≤ z2 → z2 ≤ HB → SB 37 [[z0], [c]] [[z2]] →
  ∀ z3 : Int, 0 ≤ z3 → z3 ≤ HB → SB 36 [[z2], [c]] [[z3]] →
  KBv SB [.str] id [[z0]] [[z3]]
 ))) := by
  intro z0 a0 a1 z1 b0 b1 hz1
  rw [eq_nil hz1]
  refine ⟨fun h => ⟨⟨a0, a1, trivial⟩, ?_⟩, fun h z2 c0 c1 h2 z3 d0 d1 h3 => ⟨⟨d0, d1, trivial⟩, ?_⟩⟩
  · rw [hid]
    have : sOf z0 = [] := by simpa using h
    rw [this]; rfl
  · rw [hid]
    have h2 : sOf z2 = rtr (· == u8 c) (sOf z0) := h2
    have h3 : sOf z3 = ltr (· == u8 c) (sOf z2) := h3
    rw [h3, h2, hc]; rfl
theorem p_tsp : B_tsp SB (KBv SB [.str] 120) := p_trim1 (c := 32) (p := (· == 32)) rfl fun _ _ => rfl
theorem p_tdot : B_tdot SB (KBv SB [.str] 121) := p_trim1 (c := 46) (p := (· == 46)) rfl fun _ _ => rfl
theorem p_cdot : B_cdot SB (KBv SB [.bool] 127) := by
  intro z0 a0 a1 z1 b0 b1 hz1
  simp only [fnD] at hz1
  refine ⟨fun h => ⟨⟨by decide, by decide, trivial⟩, ?_⟩, fun h z2 c0 c1 h2 => ⟨⟨(b01_bd _).1, (b01_bd _).2, trivial⟩, ?_⟩⟩
  · have : sOf z0 = [46] := by
      have e : sOf 47 = [46] := by decide
      rw [e] at hz1
      by_cases h' : [46] = sOf z0
      · exact h'.symm
      · rw [if_neg h'] at hz1; subst hz1; simp at h
    show (1 : Int) = b01 ((sOf z0).contains 46)
    rw [this]; rfl
  · have h2 : z2 = idx 46 (sOf z0) := h2
    show (cond (decide (0 ≤ z2)) 1 0 : Int) = b01 ((sOf z0).contains 46)
    rw [h2, idx_mem (by decide) (by decide)]; rfl
def B_cutat (S : Nat → List (List Int) → List (List Int) → Prop) (K : List (List Int) → List (List Int) → Prop) : Prop :=
 ∀ z0 : Int, 0 ≤ z0 → z0 ≤ HB → 
 ∀ z1 : Int, 0 ≤ z1 → z1 ≤ 1 → z1 = fnD 4 [65, z0] →
 (((decide (z1 = 1)) = true →
  chkD 2 [z0, 0, 0] ∧
  ∀ z2 : Int, 0 ≤ z2 → z2 ≤ HB → z2 = fnD 2 [z0, 0, 0] →
  ∀ z3 : Int, 0 ≤ z3 → z3 ≤ 9223372036854775807 → z3 = fnD 0 [z0] →
  chkD 2 [z0, 1, z3] ∧
  ∀ z4 : Int, 0 ≤ z4 → z4 ≤ HB → z4 = fnD 2 [z0, 1, z3] →
  K [[z0]] [[z2], [z4], [(cond (true) 1 0)]]
 ) ∧ ((decide (z1 = 1)) = false →
  ∀ z2 : Int, (-1) ≤ z2 → z2 ≤ 9223372036854775807 → S 73 [[z0], [64]] [[z2]] →
  (((decide (0 ≤ z2)) = true →
   chkD 2 [z0, 0, z2] ∧
   ∀ z3 : Int, 0 ≤ z3 → z3 ≤ HB → z3 = fnD 2 [z0, 0, z2] →
   ∀ z4 : Int, 0 ≤ z4 → z4 ≤ 1 → 0 ≤ (z2 + 9223372036854775809) - 18446744073709551616 * z4 → (z2 + 9223372036854775809) - 18446744073709551616 * z4 < 18446744073709551616 →
   ∀ z5 : Int, 0 ≤ z5 → z5 ≤ 9223372036854775807 → z5 = fnD 0 [z0] →
   chkD 2 [z0, ((z2 + ((-18446744073709551616) * z4)) + 1), z5] ∧
   ∀ z6 : Int, 0 ≤ z6 → z6 ≤ HB → z6 = fnD 2 [z0, ((z2 + ((-18446744073709551616) * z4)) + 1), z5] →
   K [[z0]] [[z3], [z6], [(cond (true) 1 0)]]
  ) ∧ ((decide (0 ≤ z2)) = false →
   K [[z0]] [[z0], [0], [(cond (false) 1 0)]]
  ))
 ))
def B_cutcol (S : Nat → List (List Int) → List (List Int) → Prop) (K : List (List Int) → List (List Int) → Prop) : Prop :=
 ∀ z0 : Int, 0 ≤ z0 → z0 ≤ HB → 
 ∀ z1 : Int, 0 ≤ z1 → z1 ≤ 1 → z1 = fnD 4 [59, z0] →
 (((decide (z1 = 1)) = true →
  chkD 2 [z0, 0, 0] ∧
  ∀ z2 : Int, 0 ≤ z2 → z2 ≤ HB → z2 = fnD 2 [z0, 0, 0] →
  ∀ z3 : Int, 0 ≤ z3 → z3 ≤ 9223372036854775807 → z3 = fnD 0 [z0] →
  chkD 2 [z0, 1, z3] ∧
  ∀ z4 : Int, 0 ≤ z4 → z4 ≤ HB → z4 = fnD 2 [z0, 1, z3] →
  K [[z0]] [[z2], [z4], [(cond (true) 1 0)]]
 ) ∧ ((decide (z1 = 1)) = false →
  ∀ z2 : Int, (-1) ≤ z2 → z2 ≤ 9223372036854775807 → S 73 [[z0], [58]] [[z2]] →
  (((decide (0 ≤ z2)) = true →
   chkD 2 [z0, 0, z2] ∧
   ∀ z3 : Int, 0 ≤ z3 → z3 ≤ HB → z3 = fnD 2 [z0, 0, z2] →
   ∀ z4 : Int, 0 ≤ z4 → z4 ≤ 1 → 0 ≤ (z2 + 9223372036854775809) - 18446744073709551616 * z4 → (z2 + 9223372036854775809) - 18446744073709551616 * z4 < 18446744073709551616 →
   ∀ z5 : Int, 0 ≤ z5 → z5 ≤ 9223372036854775807 → z5 = fnD 0 [z0] →
   chkD 2 [z0, ((z2 + ((-18446744073709551616) * z4)) + 1), z5] ∧
   ∀ z6 : Int, 0 ≤ z6 → z6 ≤ HB → z6 = fnD 2 [z0, ((z2 + ((-18446744073709551616) * z4)) + 1), z5] →
   K [[z0]] [[z3], [z6], [(cond (true) 1 0)]]
  ) ∧ ((decide (0 ≤ z2)) = false →
   K [[z0]] [[z0], [0], [(cond (false) 1 0)]]
  ))
 ))
def B_only (S : Nat → List (List Int) → List (List Int) → Prop) (K : List (List Int) → List (List Int) → Prop) : Prop :=
 ∀ z0 : Int, 0 ≤ z0 → z0 ≤ HB → ∀ z1 : Int, 0 ≤ z1 → z1 ≤ HB → 
 ∀ z2 : Int, 0 ≤ z2 → z2 ≤ 9223372036854775807 → z2 = fnD 0 [z0] →
 ∃ (I3 : List (List Int) → Prop) (μ3 : List (List Int) → Nat), I3 [[0]] ∧ (∀ z4 : Int, 0 ≤ z4 → z4 ≤ 9223372036854775807 → I3 [[z4]] →
  (((decide (z4 < z2)) = true →
   chkD 1 [z0, z4] ∧
   ∀ z5 : Int, 0 ≤ z5 → z5 ≤ 255 → z5 = fnD 1 [z0, z4] →
   ∀ z6 : Int, (-1) ≤ z6 → z6 ≤ 9223372036854775807 → S 73 [[z1], [z5]] [[z6]] →
   (((decide (z6 < 0)) = true →
    K [[z0], [z1]] [[(cond (false) 1 0)]]
   ) ∧ ((decide (z6 < 0)) = false →
    ∀ z7 : Int, 0 ≤ z7 → z7 ≤ 1 → 0 ≤ (z4 + 9223372036854775809) - 18446744073709551616 * z7 → (z4 + 9223372036854775809) - 18446744073709551616 * z7 < 18446744073709551616 →
    chkD 39 [((z4 + ((-18446744073709551616) * z7)) + 1), 0, 9223372036854775807] ∧
    (I3 [[((z4 + ((-18446744073709551616) * z7)) + 1)]] ∧ μ3 [[((z4 + ((-18446744073709551616) * z7)) + 1)]] < μ3 [[z4]])
   ))
  ) ∧ ((decide (z4 < z2)) = false →
   K [[z0], [z1]] [[(cond (true) 1 0)]]
  ))
 )
def B_ionly (S : Nat → List (List Int) → List (List Int) → Prop) (K : List (List Int) → List (List Int) → Prop) : Prop :=
 ∀ z0 : Int, 0 ≤ z0 → z0 ≤ HB → ∀ z1 : Int, 0 ≤ z1 → z1 ≤ HB → 
 ∀ z2 : Int, 0 ≤ z2 → z2 ≤ 9223372036854775807 → z2 = fnD 0 [z0] →
 ∃ (I3 : List (List Int) → Prop) (μ3 : List (List Int) → Nat), I3 [[0]] ∧ (∀ z4 : Int, 0 ≤ z4 → z4 ≤ 9223372036854775807 → I3 [[z4]] →
  (((decide (z4 < z2)) = true →
   chkD 1 [z0, z4] ∧
   ∀ z5 : Int, 0 ≤ z5 → z5 ≤ 255 → z5 = fnD 1 [z0, z4] →
   ∀ z6 : Int, (-1) ≤ z6 → z6 ≤ 9223372036854775807 → S 73 [[z1], [z5]] [[z6]] →
   (((decide (z6 < 0)) = true →
    K [[z0], [z1]] [[(cond (false) 1 0)]]
   ) ∧ ((decide (z6 < 0)) = false →
    ∀ z7 : Int, 0 ≤ z7 → z7 ≤ 1 → 0 ≤ (z4 + 9223372036854775809) - 18446744073709551616 * z7 → (z4 + 9223372036854775809) - 18446744073709551616 * z7 < 18446744073709551616 →
    chkD 39 [((z4 + ((-18446744073709551616) * z7)) + 1), 0, 9223372036854775807] ∧
    (I3 [[((z4 + ((-18446744073709551616) * z7)) + 1)]] ∧ μ3 [[((z4 + ((-18446744073709551616) * z7)) + 1)]] < μ3 [[z4]])
   ))
  ) ∧ ((decide (z4 < z2)) = false →
   K [[z0], [z1]] [[(cond (true) 1 0)]]
  ))
 )
def B_rhas (S : Nat → List (List Int) → List (List Int) → Prop) (K : List (List Int) → List (List Int) → Prop) : Prop :=
 ∀ z0 : Int, 0 ≤ z0 → z0 ≤ HB → ∀ z1 : Int, 0 ≤ z1 → z1 ≤ 255 → 
 ∃ (I2 : List (List Int) → Prop) (μ2 : List (List Int) → Nat), I2 [[0]] ∧ (∀ z3 : Int, 0 ≤ z3 → z3 ≤ 9223372036854775807 → I2 [[z3]] →
  ∀ z4 : Int, 0 ≤ z4 → z4 ≤ 9223372036854775807 → z4 = fnD 0 [z0] →
  (((decide (z3 < z4)) = true →
   chkD 1 [z0, z3] ∧
   ∀ z5 : Int, 0 ≤ z5 → z5 ≤ 255 → z5 = fnD 1 [z0, z3] →
   (((decide (z5 = z1)) = true →
    K [[z0], [z1]] [[(cond (true) 1 0)]]
   ) ∧ ((decide (z5 = z1)) = false →
    ∀ z6 : Int, 0 ≤ z6 → z6 ≤ 1 → 0 ≤ (z3 + 9223372036854775809) - 18446744073709551616 * z6 → (z3 + 9223372036854775809) - 18446744073709551616 * z6 < 18446744073709551616 →
    chkD 39 [((z3 + ((-18446744073709551616) * z6)) + 1), 0, 9223372036854775807] ∧
    (I2 [[((z3 + ((-18446744073709551616) * z6)) + 1)]] ∧ μ2 [[((z3 + ((-18446744073709551616) * z6)) + 1)]] < μ2 [[z3]])
   ))
  ) ∧ ((decide (z3 < z4)) = false →
   K [[z0], [z1]] [[(cond (false) 1 0)]]
  ))
 )
theorem p_cut {c n : Int} (h0 : 0 ≤ c) (h1 : c ≤ 255) (hn : sOf n = [u8 c]) {id : Nat} (hid : ∀ z a b r, SB id [[z]] [[a], [b], [r]] = ((sOf a, sOf b, r) = cutF c (sOf z))) :
 (∀ z0 : Int, 0 ≤ z0 → z0 ≤ HB → 
 ∀ z1 : Int, 0 ≤ z1 → z1 ≤ 1 → z1 = fnD 4 [n, z0] →
 (((decide (z1 = 1)) = true →
  chkD 2 [z0, 0, 0] ∧
  ∀ z2 : Int, 0 ≤ z2 → z2 ≤ HB → z2 = fnD 2 [z0, 0, 0] →
  ∀ z3 : Int, 0 ≤ z3 → z3 ≤ 9223372036854775807 → z3 = fnD 0 [z0] →
  chkD 2 [z0, 1, z3] ∧
  ∀ z4 : Int, 0 ≤ z4 → z4 ≤ HB → z4 = fnD 2 [z0, 1, z3] →
  KBv SB [.str, .str, .bool] id [[z0]] [[z2], [z4], [(cond (true) 1 0)]]
 ) ∧ ((decide (z1 = 1)) = false →
  ∀ z2 : Int, (-1) ≤ z2 → z2 ≤ 9223372036854775807 → SB 73 [[z0], [c]] [[z2]] →
  (((decide (0 ≤ z2)) = true →
   chkD 2 [z0, 0, z2] ∧
   ∀ z3 : Int, 0 ≤ z3 → z3 ≤ HB → z3 = fnD 2 [z0, 0, z2] →
   ∀ z4 : Int, 0 ≤ z4 → z4 ≤ 1 → 0 ≤ (z2 + 9223372036854775809) - 18446744073709551616 * z4 → (z2 + 9223372036854775809) - 18446744073709551616 * z4 < 18446744073709551616 →
   ∀ z5 : Int, 0 ≤ z5 → z5 ≤ 9223372036854775807 → z5 = fnD 0 [z0] →
   chkD 2 [z0, ((z2 + ((-18446744073709551616) * z4)) + 1), z5] ∧
   ∀ z6 : Int, 0 ≤ z6 → z6 ≤ HB → z6 = fnD 2 [z0, ((z2 + ((-18446744073709551616) * z4)) + 1), z5] →
   KBv SB [.str, .str, .bool] id [[z0]] [[z3], [z6], [(cond (true) 1 0)]]
  ) ∧ ((decide (0 ≤ z2)) = false →
   KBv SB [.str, .str, .bool] id [[z0]] [[z0], [0], [(cond (false) 1 0)]]
  ))
 ))) := by
  intro z0 a0 a1 z1 b0 b1 hz1
  simp only [fnD, hn] at hz1
  refine ⟨fun h => ?_, fun h z2 c0 c1 h2 => ?_⟩
  · have hs : sOf z0 = [u8 c] := by
      by_cases h' : [u8 c] = sOf z0
      · exact h'.symm
      · rw [if_neg h'] at hz1; subst hz1; simp at h
    refine ⟨⟨by omega, by omega, by omega⟩, fun z2 c0 c1 h2 z3 d0 d1 h3 => ?_⟩
    simp only [fnD, hs, List.length_singleton] at h3
    refine ⟨⟨by omega, by omega, by rw [hs]; simp only [List.length_singleton]; omega⟩, fun z4 e0 e1 h4 => ⟨⟨c0, c1, e0, e1, by decide, by decide, trivial⟩, ?_⟩⟩
    rw [hid]
    have e2 : sOf z2 = [] := by rw [h2]; simp [fnD, sOf_cOf]
    have e4 : sOf z4 = [] := by rw [h4]; simp [fnD, sOf_cOf, hs]
    have ei : idx c [u8 c] = 0 := by simp [idx, u8_toNat h0 h1]
    rw [e2, e4, hs]
    simp [cutF, ei]
  · have h2 : z2 = idx c (sOf z0) := h2
    refine ⟨fun hp => ?_, fun hp => ⟨⟨a0, a1, Int.le_refl _, HB_pos, by decide, by decide, trivial⟩, ?_⟩⟩
    · have hp : 0 ≤ z2 := by simpa using hp
      have hr := idx_range c (sOf z0)
      have hL := len_lt a1
      refine ⟨⟨by omega, by omega, by omega⟩, fun z3 d0 d1 h3 z4 e0 e1 e2 e3 z5 f0 f1 h5 => ?_⟩
      simp only [fnD] at h5
      have ez : z2 + -18446744073709551616 * z4 + 1 = z2 + 1 := by omega
      rw [ez]
      refine ⟨⟨by omega, by omega, by omega⟩, fun z6 g0 g1 h6 => ⟨⟨d0, d1, g0, g1, by decide, by decide, trivial⟩, ?_⟩⟩
      rw [hid]
      have e3 : sOf z3 = (sOf z0).take z2.toNat := by rw [h3]; simp [fnD, sOf_cOf]
      have e6 : sOf z6 = (sOf z0).drop (z2.toNat + 1) := by
        rw [h6]; simp only [fnD, sOf_cOf]
        rw [show (z2 + 1).toNat = z2.toNat + 1 by omega]
        exact List.take_of_length_le (by simp; omega)
      rw [e3, e6]
      unfold cutF
      rw [← h2, show decide (0 ≤ z2) = true by simpa using hp]
      rfl
    · rw [hid]
      unfold cutF
      rw [← h2, hp]
      rfl
theorem p_cutat : B_cutat SB (KBv SB [.str, .str, .bool] 125) := p_cut (c := 64) (n := 65) (by decide) (by decide) (by decide) fun _ _ _ _ => rfl
theorem p_cutcol : B_cutcol SB (KBv SB [.str, .str, .bool] 126) := p_cut (c := 58) (n := 59) (by decide) (by decide) (by decide) fun _ _ _ _ => rfl
theorem all_take (p : UInt8 → Bool) (l : Tx) (i : Nat) (h : i < l.length) : (l.take (i + 1)).all p = ((l.take i).all p && p (l.getD i 0)) := by
  rw [take_succ_getD l i h]; simp
theorem all_false_of (p : UInt8 → Bool) (l : Tx) (i : Nat) (h : i < l.length) (hp : p (l.getD i 0) = false) : l.all p = false := by
  rw [List.all_eq_false]
  refine ⟨l.getD i 0, ?_, fun e => by rw [hp] at e; cases e⟩
  simp [List.getD, h]
theorem wrap1 {z q L : Int} (h : z < L) (hL : L ≤ 9223372036854775807) (h0 : 0 ≤ z) (q0 : 0 ≤ q) (e2 : 0 ≤ (z + 9223372036854775809) - 18446744073709551616 * q) : z + -18446744073709551616 * q + 1 = z + 1 := by omega
theorem p_only' {id : Nat} (hid : ∀ s b r, SB id [[s], [b]] [[r]] = (r = b01 ((sOf s).all fun c => (sOf b).contains c))) :
 (∀ z0 : Int, 0 ≤ z0 → z0 ≤ HB → ∀ z1 : Int, 0 ≤ z1 → z1 ≤ HB → 
 ∀ z2 : Int, 0 ≤ z2 → z2 ≤ 9223372036854775807 → z2 = fnD 0 [z0] →
 ∃ (I3 : List (List Int) → Prop) (μ3 : List (List Int) → Nat), I3 [[0]] ∧ (∀ z4 : Int, 0 ≤ z4 → z4 ≤ 9223372036854775807 → I3 [[z4]] →
  (((decide (z4 < z2)) = true →
   chkD 1 [z0, z4] ∧
   ∀ z5 : Int, 0 ≤ z5 → z5 ≤ 255 → z5 = fnD 1 [z0, z4] →
   ∀ z6 : Int, (-1) ≤ z6 → z6 ≤ 9223372036854775807 → SB 73 [[z1], [z5]] [[z6]] →
   (((decide (z6 < 0)) = true →
    KBv SB [.bool] id [[z0], [z1]] [[(cond (false) 1 0)]]
   ) ∧ ((decide (z6 < 0)) = false →
    ∀ z7 : Int, 0 ≤ z7 → z7 ≤ 1 → 0 ≤ (z4 + 9223372036854775809) - 18446744073709551616 * z7 → (z4 + 9223372036854775809) - 18446744073709551616 * z7 < 18446744073709551616 →
    chkD 39 [((z4 + ((-18446744073709551616) * z7)) + 1), 0, 9223372036854775807] ∧
    (I3 [[((z4 + ((-18446744073709551616) * z7)) + 1)]] ∧ μ3 [[((z4 + ((-18446744073709551616) * z7)) + 1)]] < μ3 [[z4]])
   ))
  ) ∧ ((decide (z4 < z2)) = false →
   KBv SB [.bool] id [[z0], [z1]] [[(cond (true) 1 0)]]
  ))
 )) := by
  intro z0 a0 a1 z1 b0 b1 z2 c0 c1 h2
  simp only [fnD] at h2
  refine ⟨fun bl => ∃ i : Nat, bl = [[(i : Int)]] ∧ i ≤ (sOf z0).length ∧ ((sOf z0).take i).all (fun c => (sOf z1).contains c) = true, fun bl => (sOf z0).length - ((bl.getD 0 []).getD 0 0).toNat, ⟨0, rfl, Nat.zero_le _, rfl⟩, ?_⟩
  rintro z4 d0 d1 ⟨i, e, hi, hall⟩
  obtain rfl : z4 = i := by simpa using e
  refine ⟨fun hp => ?_, fun hp => ⟨⟨by decide, by decide, trivial⟩, ?_⟩⟩
  · have hp : (i : Int) < z2 := by simpa using hp
    refine ⟨⟨d0, by omega⟩, fun z5 e0 e1 h5 z6 f0 f1 h6 => ?_⟩
    have h6 : z6 = idx z5 (sOf z1) := h6
    simp only [fnD, Int.toNat_natCast] at h5
    have hu : u8 z5 = (sOf z0).getD i 0 := by rw [h5, u8_of]
    have hm := idx_mem e0 e1 (sOf z1)
    rw [hu, ← h6] at hm
    refine ⟨fun hq => ⟨⟨by decide, by decide, trivial⟩, ?_⟩, fun hq z7 g0 g1 g2 g3 => ?_⟩
    · rw [hid, all_false_of _ _ i (by omega) (by rw [← hm]; simpa using hq)]; rfl
    · have hq : 0 ≤ z6 := by simpa using hq
      rw [wrap1 (L := z2) hp c1 d0 g0 g2]
      refine ⟨⟨by omega, by omega⟩, ⟨i + 1, by simp, by omega, ?_⟩, ?_⟩
      · rw [all_take _ _ _ (by omega), hall, ← hm]; simpa using hq
      · show (sOf z0).length - ((i : Int) + 1).toNat < (sOf z0).length - (i : Int).toNat
        omega
  · have hp : ¬ (i : Int) < z2 := by simpa using hp
    rw [List.take_of_length_le (by omega)] at hall
    rw [hid, hall]; rfl
theorem p_only : B_only SB (KBv SB [.bool] 44) := p_only' fun _ _ _ => rfl
theorem p_ionly : B_ionly SB (KBv SB [.bool] 65) := p_only' fun _ _ _ => rfl
theorem contains_take (l : Tx) (c : UInt8) (i : Nat) (h : i < l.length) : (l.take (i + 1)).contains c = ((l.take i).contains c || l.getD i 0 == c) := by
  rw [take_succ_getD l i h, Bool.eq_iff_iff]; simp; exact or_congr Iff.rfl ⟨fun h => h.symm, fun h => h.symm⟩
theorem p_rhas : B_rhas SB (KBv SB [.bool] 31) := by
  intro z0 a0 a1 z1 b0 b1
  refine ⟨fun bl => ∃ i : Nat, bl = [[(i : Int)]] ∧ i ≤ (sOf z0).length ∧ ((sOf z0).take i).contains (u8 z1) = false, fun bl => (sOf z0).length - ((bl.getD 0 []).getD 0 0).toNat, ⟨0, rfl, Nat.zero_le _, rfl⟩, ?_⟩
  rintro z4 d0 d1 ⟨i, e, hi, hall⟩
  obtain rfl : z4 = i := by simpa using e
  intro z2 c0 c1 h2
  simp only [fnD] at h2
  refine ⟨fun hp => ?_, fun hp => ⟨⟨by decide, by decide, trivial⟩, ?_⟩⟩
  · have hp : (i : Int) < z2 := by simpa using hp
    refine ⟨⟨d0, by omega⟩, fun z5 e0 e1 h5 => ?_⟩
    simp only [fnD, Int.toNat_natCast] at h5
    have hu := u8_eq (b := (sOf z0).getD i 0) b0 b1
    rw [← h5] at hu
    refine ⟨fun hq => ⟨⟨by decide, by decide, trivial⟩, ?_⟩, fun hq z7 g0 g1 g2 g3 => ?_⟩
    · have := hu.1 (by simpa using hq)
      show (1 : Int) = b01 ((sOf z0).contains (u8 z1))
      have hm : (sOf z0).contains (u8 z1) = true := by
        rw [← beq_iff_eq.1 this]; simp [List.getD, show i < (sOf z0).length by omega]
      rw [hm]; rfl
    · rw [wrap1 (L := z2) hp c1 d0 g0 g2]
      refine ⟨⟨by omega, by omega⟩, ⟨i + 1, by simp, by omega, ?_⟩, ?_⟩
      · rw [contains_take _ _ _ (by omega), hall, Bool.false_or]
        cases h : ((sOf z0).getD i 0 == u8 z1) with
        | false => rfl
        | true => have := hu.2 h; simp [this] at hq
      · show (sOf z0).length - ((i : Int) + 1).toNat < (sOf z0).length - (i : Int).toNat
        omega
  · have hp : ¬ (i : Int) < z2 := by simpa using hp
    rw [List.take_of_length_le (by omega)] at hall
    show (0 : Int) = b01 ((sOf z0).contains (u8 z1))
    rw [hall]; rfl
def B_tdm (S : Nat → List (List Int) → List (List Int) → Prop) (K : List (List Int) → List (List Int) → Prop) : Prop :=
 ∀ z0 : Int, 0 ≤ z0 → z0 ≤ HB → 
 ∀ z1 : Int, 0 ≤ z1 → z1 ≤ 1 → z1 = fnD 4 [z0, 0] →
 (((decide (z1 = 1)) = true →
  K [[z0]] [[z0]]
 ) ∧ ((decide (z1 = 1)) = false →
  ∃ (I2 : List (List Int) → Prop) (μ2 : List (List Int) → Nat), I2 [[z0]] ∧ (∀ z3 : Int, 0 ≤ z3 → z3 ≤ HB → I2 [[z3]] →
   ∀ z4 : Int, 0 ≤ z4 → z4 ≤ 9223372036854775807 → z4 = fnD 0 [z3] →
   (((decide (0 < z4)) = true →
    ∀ z5 : Int, 0 ≤ z5 → z5 ≤ 9223372036854775807 → z5 = fnD 0 [z3] →
    chkD 1 [z3, (z5 + (-1))] ∧
    ∀ z6 : Int, 0 ≤ z6 → z6 ≤ 255 → z6 = fnD 1 [z3, (z5 + (-1))] →
    ∀ z7 : Int, 0 ≤ z7 → z7 ≤ 1 → z7 = fnD 43 [12125, z6] →
    ((((!(decide (z7 = 1)))) = true →
     ∃ (I8 : List (List Int) → Prop) (μ8 : List (List Int) → Nat), I8 [[z3]] ∧ (∀ z9 : Int, 0 ≤ z9 → z9 ≤ HB → I8 [[z9]] →
      ∀ z10 : Int, 0 ≤ z10 → z10 ≤ 9223372036854775807 → z10 = fnD 0 [z9] →
      (((decide (0 < z10)) = true →
       chkD 1 [z9, 0] ∧
       ∀ z11 : Int, 0 ≤ z11 → z11 ≤ 255 → z11 = fnD 1 [z9, 0] →
       ∀ z12 : Int, 0 ≤ z12 → z12 ≤ 1 → z12 = fnD 43 [12125, z11] →
       ((((!(decide (z12 = 1)))) = true →
        K [[z0]] [[z9]]
       ) ∧ (((!(decide (z12 = 1)))) = false →
        ∀ z13 : Int, 0 ≤ z13 → z13 ≤ 9223372036854775807 → z13 = fnD 0 [z9] →
        chkD 2 [z9, 1, z13] ∧
        ∀ z14 : Int, 0 ≤ z14 → z14 ≤ HB → z14 = fnD 2 [z9, 1, z13] →
        (I8 [[z14]] ∧ μ8 [[z14]] < μ8 [[z9]])
       ))
      ) ∧ ((decide (0 < z10)) = false →
       K [[z0]] [[z9]]
      ))
     )
    ) ∧ (((!(decide (z7 = 1)))) = false →
     ∀ z8 : Int, 0 ≤ z8 → z8 ≤ 9223372036854775807 → z8 = fnD 0 [z3] →
     chkD 2 [z3, 0, (z8 + (-1))] ∧
     ∀ z9 : Int, 0 ≤ z9 → z9 ≤ HB → z9 = fnD 2 [z3, 0, (z8 + (-1))] →
     (I2 [[z9]] ∧ μ2 [[z9]] < μ2 [[z3]])
    ))
   ) ∧ ((decide (0 < z4)) = false →
    ∃ (I5 : List (List Int) → Prop) (μ5 : List (List Int) → Nat), I5 [[z3]] ∧ (∀ z6 : Int, 0 ≤ z6 → z6 ≤ HB → I5 [[z6]] →
     ∀ z7 : Int, 0 ≤ z7 → z7 ≤ 9223372036854775807 → z7 = fnD 0 [z6] →
     (((decide (0 < z7)) = true →
      chkD 1 [z6, 0] ∧
      ∀ z8 : Int, 0 ≤ z8 → z8 ≤ 255 → z8 = fnD 1 [z6, 0] →
      ∀ z9 : Int, 0 ≤ z9 → z9 ≤ 1 → z9 = fnD 43 [12125, z8] →
      ((((!(decide (z9 = 1)))) = true →
       K [[z0]] [[z6]]
      ) ∧ (((!(decide (z9 = 1)))) = false →
       ∀ z10 : Int, 0 ≤ z10 → z10 ≤ 9223372036854775807 → z10 = fnD 0 [z6] →
       chkD 2 [z6, 1, z10] ∧
       ∀ z11 : Int, 0 ≤ z11 → z11 ≤ HB → z11 = fnD 2 [z6, 1, z10] →
       (I5 [[z11]] ∧ μ5 [[z11]] < μ5 [[z6]])
      ))
     ) ∧ ((decide (0 < z7)) = false →
      K [[z0]] [[z6]]
     ))
    )
   ))
  )
 ))
def B_thost (S : Nat → List (List Int) → List (List Int) → Prop) (K : List (List Int) → List (List Int) → Prop) : Prop :=
 ∀ z0 : Int, 0 ≤ z0 → z0 ≤ HB → 
 ∀ z1 : Int, 0 ≤ z1 → z1 ≤ 1 → z1 = fnD 4 [z0, 0] →
 (((decide (z1 = 1)) = true →
  K [[z0]] [[z0]]
 ) ∧ ((decide (z1 = 1)) = false →
  ∃ (I2 : List (List Int) → Prop) (μ2 : List (List Int) → Nat), I2 [[z0]] ∧ (∀ z3 : Int, 0 ≤ z3 → z3 ≤ HB → I2 [[z3]] →
   ∀ z4 : Int, 0 ≤ z4 → z4 ≤ 9223372036854775807 → z4 = fnD 0 [z3] →
   (((decide (0 < z4)) = true →
    ∀ z5 : Int, 0 ≤ z5 → z5 ≤ 9223372036854775807 → z5 = fnD 0 [z3] →
    chkD 1 [z3, (z5 + (-1))] ∧
    ∀ z6 : Int, 0 ≤ z6 → z6 ≤ 255 → z6 = fnD 1 [z3, (z5 + (-1))] →
    ∀ z7 : Int, 0 ≤ z7 → z7 ≤ 1 → z7 = fnD 43 [8267443711659794979134808499087199072256874527605039863196959864303977456569186565734100443375465041388132907546406408792979960403300126342849461211344038, z6] →
    ((((!(decide (z7 = 1)))) = true →
     ∃ (I8 : List (List Int) → Prop) (μ8 : List (List Int) → Nat), I8 [[z3]] ∧ (∀ z9 : Int, 0 ≤ z9 → z9 ≤ HB → I8 [[z9]] →
      ∀ z10 : Int, 0 ≤ z10 → z10 ≤ 9223372036854775807 → z10 = fnD 0 [z9] →
      (((decide (0 < z10)) = true →
       chkD 1 [z9, 0] ∧
       ∀ z11 : Int, 0 ≤ z11 → z11 ≤ 255 → z11 = fnD 1 [z9, 0] →
       ∀ z12 : Int, 0 ≤ z12 → z12 ≤ 1 → z12 = fnD 43 [8267443711659794979134808499087199072256874527605039863196959864303977456569186565734100443375465041388132907546406408792979960403300126342849461211344038, z11] →
       ((((!(decide (z12 = 1)))) = true →
        K [[z0]] [[z9]]
       ) ∧ (((!(decide (z12 = 1)))) = false →
        ∀ z13 : Int, 0 ≤ z13 → z13 ≤ 9223372036854775807 → z13 = fnD 0 [z9] →
        chkD 2 [z9, 1, z13] ∧
        ∀ z14 : Int, 0 ≤ z14 → z14 ≤ HB → z14 = fnD 2 [z9, 1, z13] →
        (I8 [[z14]] ∧ μ8 [[z14]] < μ8 [[z9]])
       ))
      ) ∧ ((decide (0 < z10)) = false →
       K [[z0]] [[z9]]
      ))
     )
    ) ∧ (((!(decide (z7 = 1)))) = false →
     ∀ z8 : Int, 0 ≤ z8 → z8 ≤ 9223372036854775807 → z8 = fnD 0 [z3] →
     chkD 2 [z3, 0, (z8 + (-1))] ∧
     ∀ z9 : Int, 0 ≤ z9 → z9 ≤ HB → z9 = fnD 2 [z3, 0, (z8 + (-1))] →
     (I2 [[z9]] ∧ μ2 [[z9]] < μ2 [[z3]])
    ))
   ) ∧ ((decide (0 < z4)) = false →
    ∃ (I5 : List (List Int) → Prop) (μ5 : List (List Int) → Nat), I5 [[z3]] ∧ (∀ z6 : Int, 0 ≤ z6 → z6 ≤ HB → I5 [[z6]] →
     ∀ z7 : Int, 0 ≤ z7 → z7 ≤ 9223372036854775807 → z7 = fnD 0 [z6] →
     (((decide (0 < z7)) = true →
      chkD 1 [z6, 0] ∧
      ∀ z8 : Int, 0 ≤ z8 → z8 ≤ 255 → z8 = fnD 1 [z6, 0] →
      ∀ z9 : Int, 0 ≤ z9 → z9 ≤ 1 → z9 = fnD 43 [8267443711659794979134808499087199072256874527605039863196959864303977456569186565734100443375465041388132907546406408792979960403300126342849461211344038, z8] →
      ((((!(decide (z9 = 1)))) = true →
       K [[z0]] [[z6]]
      ) ∧ (((!(decide (z9 = 1)))) = false →
       ∀ z10 : Int, 0 ≤ z10 → z10 ≤ 9223372036854775807 → z10 = fnD 0 [z6] →
       chkD 2 [z6, 1, z10] ∧
       ∀ z11 : Int, 0 ≤ z11 → z11 ≤ HB → z11 = fnD 2 [z6, 1, z10] →
       (I5 [[z11]] ∧ μ5 [[z11]] < μ5 [[z6]])
      ))
     ) ∧ ((decide (0 < z7)) = false →
      K [[z0]] [[z6]]
     ))
    )
   ))
  )
 ))
def B_tdig (S : Nat → List (List Int) → List (List Int) → Prop) (K : List (List Int) → List (List Int) → Prop) : Prop :=
 ∀ z0 : Int, 0 ≤ z0 → z0 ≤ HB → 
 ∀ z1 : Int, 0 ≤ z1 → z1 ≤ 1 → z1 = fnD 4 [z0, 0] →
 (((decide (z1 = 1)) = true →
  K [[z0]] [[z0]]
 ) ∧ ((decide (z1 = 1)) = false →
  ∃ (I2 : List (List Int) → Prop) (μ2 : List (List Int) → Nat), I2 [[z0]] ∧ (∀ z3 : Int, 0 ≤ z3 → z3 ≤ HB → I2 [[z3]] →
   ∀ z4 : Int, 0 ≤ z4 → z4 ≤ 9223372036854775807 → z4 = fnD 0 [z3] →
   (((decide (0 < z4)) = true →
    ∀ z5 : Int, 0 ≤ z5 → z5 ≤ 9223372036854775807 → z5 = fnD 0 [z3] →
    chkD 1 [z3, (z5 + (-1))] ∧
    ∀ z6 : Int, 0 ≤ z6 → z6 ≤ 255 → z6 = fnD 1 [z3, (z5 + (-1))] →
    ∀ z7 : Int, 0 ≤ z7 → z7 ≤ 1 → z7 = fnD 43 [284767230291263911083031, z6] →
    ((((!(decide (z7 = 1)))) = true →
     ∃ (I8 : List (List Int) → Prop) (μ8 : List (List Int) → Nat), I8 [[z3]] ∧ (∀ z9 : Int, 0 ≤ z9 → z9 ≤ HB → I8 [[z9]] →
      ∀ z10 : Int, 0 ≤ z10 → z10 ≤ 9223372036854775807 → z10 = fnD 0 [z9] →
      (((decide (0 < z10)) = true →
       chkD 1 [z9, 0] ∧
       ∀ z11 : Int, 0 ≤ z11 → z11 ≤ 255 → z11 = fnD 1 [z9, 0] →
       ∀ z12 : Int, 0 ≤ z12 → z12 ≤ 1 → z12 = fnD 43 [284767230291263911083031, z11] →
       ((((!(decide (z12 = 1)))) = true →
        K [[z0]] [[z9]]
       ) ∧ (((!(decide (z12 = 1)))) = false →
        ∀ z13 : Int, 0 ≤ z13 → z13 ≤ 9223372036854775807 → z13 = fnD 0 [z9] →
        chkD 2 [z9, 1, z13] ∧
        ∀ z14 : Int, 0 ≤ z14 → z14 ≤ HB → z14 = fnD 2 [z9, 1, z13] →
        (I8 [[z14]] ∧ μ8 [[z14]] < μ8 [[z9]])
       ))
      ) ∧ ((decide (0 < z10)) = false →
       K [[z0]] [[z9]]
      ))
     )
    ) ∧ (((!(decide (z7 = 1)))) = false →
     ∀ z8 : Int, 0 ≤ z8 → z8 ≤ 9223372036854775807 → z8 = fnD 0 [z3] →
     chkD 2 [z3, 0, (z8 + (-1))] ∧
     ∀ z9 : Int, 0 ≤ z9 → z9 ≤ HB → z9 = fnD 2 [z3, 0, (z8 + (-1))] →
     (I2 [[z9]] ∧ μ2 [[z9]] < μ2 [[z3]])
    ))
   ) ∧ ((decide (0 < z4)) = false →
    ∃ (I5 : List (List Int) → Prop) (μ5 : List (List Int) → Nat), I5 [[z3]] ∧ (∀ z6 : Int, 0 ≤ z6 → z6 ≤ HB → I5 [[z6]] →
     ∀ z7 : Int, 0 ≤ z7 → z7 ≤ 9223372036854775807 → z7 = fnD 0 [z6] →
     (((decide (0 < z7)) = true →
      chkD 1 [z6, 0] ∧
      ∀ z8 : Int, 0 ≤ z8 → z8 ≤ 255 → z8 = fnD 1 [z6, 0] →
      ∀ z9 : Int, 0 ≤ z9 → z9 ≤ 1 → z9 = fnD 43 [284767230291263911083031, z8] →
      ((((!(decide (z9 = 1)))) = true →
       K [[z0]] [[z6]]
      ) ∧ (((!(decide (z9 = 1)))) = false →
       ∀ z10 : Int, 0 ≤ z10 → z10 ≤ 9223372036854775807 → z10 = fnD 0 [z6] →
       chkD 2 [z6, 1, z10] ∧
       ∀ z11 : Int, 0 ≤ z11 → z11 ≤ HB → z11 = fnD 2 [z6, 1, z10] →
       (I5 [[z11]] ∧ μ5 [[z11]] < μ5 [[z6]])
      ))
     ) ∧ ((decide (0 < z7)) = false →
      K [[z0]] [[z6]]
     ))
    )
   ))
  )
 ))
theorem fn43 {n z q : Int} {p : UInt8 → Bool} (hn : ∀ c, (sOf n).contains c = p c) (h : q = fnD 43 [n, z]) : decide (q = 1) = p (u8 z) := by
  rw [h]; simp only [fnD]
  have := hn (u8 z)
  unfold u8 at this ⊢
  rw [← this]
  by_cases hm : UInt8.ofNat z.toNat ∈ sOf n
  · simp [hm]
  · simp [hm]
theorem p_trimB {n : Int} {p : UInt8 → Bool} (hn : ∀ c, (sOf n).contains c = p c) {id : Nat} (hid : ∀ z r, SB id [[z]] [[r]] = (sOf r = trimS p (sOf z))) :
 ( ∀ z0 : Int, 0 ≤ z0 → z0 ≤ HB → 
 ∀ z1 : Int, 0 ≤ z1 → z1 ≤ 1 → z1 = fnD 4 [z0, 0] →
 (((decide (z1 = 1)) = true →
   KBv SB [.str] id [[z0]] [[z0]]
 ) ∧ ((decide (z1 = 1)) = false →
  ∃ (I2 : List (List Int) → Prop) (μ2 : List (List Int) → Nat), I2 [[z0]] ∧ (∀ z3 : Int, 0 ≤ z3 → z3 ≤ HB → I2 [[z3]] →
   ∀ z4 : Int, 0 ≤ z4 → z4 ≤ 9223372036854775807 → z4 = fnD 0 [z3] →
   (((decide (0 < z4)) = true →
    ∀ z5 : Int, 0 ≤ z5 → z5 ≤ 9223372036854775807 → z5 = fnD 0 [z3] →
    chkD 1 [z3, (z5 + (-1))] ∧
    ∀ z6 : Int, 0 ≤ z6 → z6 ≤ 255 → z6 = fnD 1 [z3, (z5 + (-1))] →
    ∀ z7 : Int, 0 ≤ z7 → z7 ≤ 1 → z7 = fnD 43 [n, z6] →
    ((((!(decide (z7 = 1)))) = true →
     ∃ (I8 : List (List Int) → Prop) (μ8 : List (List Int) → Nat), I8 [[z3]] ∧ (∀ z9 : Int, 0 ≤ z9 → z9 ≤ HB → I8 [[z9]] →
      ∀ z10 : Int, 0 ≤ z10 → z10 ≤ 9223372036854775807 → z10 = fnD 0 [z9] →
      (((decide (0 < z10)) = true →
       chkD 1 [z9, 0] ∧
       ∀ z11 : Int, 0 ≤ z11 → z11 ≤ 255 → z11 = fnD 1 [z9, 0] →
       ∀ z12 : Int, 0 ≤ z12 → z12 ≤ 1 → z12 = fnD 43 [n, z11] →
       ((((!(decide (z12 = 1)))) = true →
         KBv SB [.str] id [[z0]] [[z9]]
       ) ∧ (((!(decide (z12 = 1)))) = false →
        ∀ z13 : Int, 0 ≤ z13 → z13 ≤ 9223372036854775807 → z13 = fnD 0 [z9] →
        chkD 2 [z9, 1, z13] ∧
        ∀ z14 : Int, 0 ≤ z14 → z14 ≤ HB → z14 = fnD 2 [z9, 1, z13] →
        (I8 [[z14]] ∧ μ8 [[z14]] < μ8 [[z9]])
       ))
      ) ∧ ((decide (0 < z10)) = false →
        KBv SB [.str] id [[z0]] [[z9]]
      ))
     )
    ) ∧ (((!(decide (z7 = 1)))) = false →
     ∀ z8 : Int, 0 ≤ z8 → z8 ≤ 9223372036854775807 → z8 = fnD 0 [z3] →
     chkD 2 [z3, 0, (z8 + (-1))] ∧
     ∀ z9 : Int, 0 ≤ z9 → z9 ≤ HB → z9 = fnD 2 [z3, 0, (z8 + (-1))] →
     (I2 [[z9]] ∧ μ2 [[z9]] < μ2 [[z3]])
    ))
   ) ∧ ((decide (0 < z4)) = false →
    ∃ (I5 : List (List Int) → Prop) (μ5 : List (List Int) → Nat), I5 [[z3]] ∧ (∀ z6 : Int, 0 ≤ z6 → z6 ≤ HB → I5 [[z6]] →
     ∀ z7 : Int, 0 ≤ z7 → z7 ≤ 9223372036854775807 → z7 = fnD 0 [z6] →
     (((decide (0 < z7)) = true →
      chkD 1 [z6, 0] ∧
      ∀ z8 : Int, 0 ≤ z8 → z8 ≤ 255 → z8 = fnD 1 [z6, 0] →
      ∀ z9 : Int, 0 ≤ z9 → z9 ≤ 1 → z9 = fnD 43 [n, z8] →
      ((((!(decide (z9 = 1)))) = true →
        KBv SB [.str] id [[z0]] [[z6]]
      ) ∧ (((!(decide (z9 = 1)))) = false →
       ∀ z10 : Int, 0 ≤ z10 → z10 ≤ 9223372036854775807 → z10 = fnD 0 [z6] →
       chkD 2 [z6, 1, z10] ∧
       ∀ z11 : Int, 0 ≤ z11 → z11 ≤ HB → z11 = fnD 2 [z6, 1, z10] →
       (I5 [[z11]] ∧ μ5 [[z11]] < μ5 [[z6]])
      ))
     ) ∧ ((decide (0 < z7)) = false →
       KBv SB [.str] id [[z0]] [[z6]]
     ))
    )
   ))
  )
 ))) := by
  intro z0 a0 a1 z1 b0 b1 hz1
  rw [eq_nil hz1]
  have inner : ∀ z3 : Int, 0 ≤ z3 → z3 ≤ HB → sOf z3 = rtr p (sOf z0) → ∃ (I8 : List (List Int) → Prop) (μ8 : List (List Int) → Nat), I8 [[z3]] ∧ (∀ z9 : Int, 0 ≤ z9 → z9 ≤ HB → I8 [[z9]] →
      ∀ z10 : Int, 0 ≤ z10 → z10 ≤ 9223372036854775807 → z10 = fnD 0 [z9] →
      (((decide (0 < z10)) = true →
       chkD 1 [z9, 0] ∧
       ∀ z11 : Int, 0 ≤ z11 → z11 ≤ 255 → z11 = fnD 1 [z9, 0] →
       ∀ z12 : Int, 0 ≤ z12 → z12 ≤ 1 → z12 = fnD 43 [n, z11] →
       ((((!(decide (z12 = 1)))) = true →
        KBv SB [.str] id [[z0]] [[z9]]
       ) ∧ (((!(decide (z12 = 1)))) = false →
        ∀ z13 : Int, 0 ≤ z13 → z13 ≤ 9223372036854775807 → z13 = fnD 0 [z9] →
        chkD 2 [z9, 1, z13] ∧
        ∀ z14 : Int, 0 ≤ z14 → z14 ≤ HB → z14 = fnD 2 [z9, 1, z13] →
        (I8 [[z14]] ∧ μ8 [[z14]] < μ8 [[z9]])
       ))
      ) ∧ ((decide (0 < z10)) = false →
       KBv SB [.str] id [[z0]] [[z9]]
      ))) := by
    intro z3 a0 a1 h3
    refine ⟨fun bl => ∃ z, bl = [[z]] ∧ ltr p (sOf z) = ltr p (rtr p (sOf z0)), fun bl => (sOf ((bl.getD 0 []).getD 0 0)).length, ⟨z3, rfl, by rw [h3]⟩, ?_⟩
    rintro z9 c0 c1 ⟨z, e, hz⟩
    obtain rfl : z9 = z := by simpa using e
    intro z4 d0 d1 hz4
    simp only [fnD] at hz4
    cases hl : sOf z9 with
    | nil =>
      rw [hl] at hz4 hz
      simp only [List.length_nil] at hz4
      subst hz4
      refine ⟨fun hp => by simp at hp, fun _ => ⟨⟨c0, c1, trivial⟩, ?_⟩⟩
      rw [hid, hl]; exact hz
    | cons x r =>
      rw [hl] at hz4 hz
      simp only [List.length_cons] at hz4
      refine ⟨fun _ => ⟨⟨Int.le_refl _, by rw [hl]; simp only [List.length_cons]; omega⟩, ?_⟩, fun hp => by simp at hp; omega⟩
      intro z5 e0 e1 hz5
      simp only [fnD, hl, Int.toNat_zero, List.getD_cons_zero] at hz5
      intro z6 f0 f1 hz6
      rw [fn43 hn hz6, hz5, u8_of]
      refine ⟨fun he => ⟨⟨c0, c1, trivial⟩, ?_⟩, fun he => ?_⟩
      · rw [hid, hl]
        have he : p x = false := by simpa using he
        show x :: r = ltr p (rtr p (sOf z0))
        rw [← hz]
        simp [ltr, List.dropWhile_cons, he]
      · have he : p x = true := by simpa using he
        intro z13 f0 f1 hz6
        simp only [fnD, hl, List.length_cons] at hz6
        refine ⟨⟨by omega, by omega, by rw [hl]; simp only [List.length_cons]; omega⟩, ?_⟩
        intro z7 g0 g1 hz7
        have hr : sOf z7 = r := by
          rw [hz7]; simp only [fnD, sOf_cOf, hl]
          rw [show (1 : Int).toNat = 1 from rfl, List.drop_one, List.tail_cons]
          exact List.take_of_length_le (by omega)
        refine ⟨⟨z7, rfl, ?_⟩, ?_⟩
        · rw [hr, ← hz]; simp only [ltr, List.dropWhile_cons, he, if_true]
        · show (sOf z7).length < (sOf z9).length
          rw [hr, hl]; simp
  refine ⟨fun h => ⟨⟨a0, a1, trivial⟩, ?_⟩, fun h => ?_⟩
  · rw [hid]
    have : sOf z0 = [] := by simpa using h
    rw [this]; rfl
  · refine ⟨fun bl => ∃ z, bl = [[z]] ∧ rtr p (sOf z) = rtr p (sOf z0), fun bl => (sOf ((bl.getD 0 []).getD 0 0)).length, ⟨z0, rfl, rfl⟩, ?_⟩
    rintro z3 c0 c1 ⟨z, e, hz⟩
    obtain rfl : z3 = z := by simpa using e
    intro z4 d0 d1 hz4
    simp only [fnD] at hz4
    by_cases hl : sOf z3 = []
    · have hz4' := hz4
      rw [hl] at hz4
      simp only [List.length_nil] at hz4
      subst hz4
      refine ⟨fun hp => by simp at hp, fun _ => inner z3 c0 c1 ?_⟩
      rw [hl] at hz ⊢
      exact hz
    · obtain ⟨r, x, hl⟩ := snoc_of hl
      rw [hl] at hz4 hz
      simp only [List.length_append, List.length_cons, List.length_nil] at hz4
      refine ⟨fun _ => ?_, fun hp => by simp at hp; omega⟩
      intro z5 d0 d1 hz5
      simp only [fnD, hl, List.length_append, List.length_cons, List.length_nil] at hz5
      refine ⟨⟨by omega, by rw [hl]; simp only [List.length_append, List.length_cons, List.length_nil]; omega⟩, ?_⟩
      intro z6 f0 f1 hz6
      have ht : (z5 + -1).toNat = r.length := by omega
      simp only [fnD, hl, ht] at hz6
      rw [show ((r ++ [x]).getD r.length 0) = x by simp [List.getD]] at hz6
      intro z7 g0 g1 hz7
      rw [fn43 hn hz7, hz6, u8_of]
      refine ⟨fun he => inner z3 c0 c1 ?_, fun he => ?_⟩
      · have he : p x = false := by simpa using he
        rw [hl, ← hz, rtr_snoc, he, cond_false]
      · have he : p x = true := by simpa using he
        intro z7 f0 f1 hz7
        simp only [fnD, hl, List.length_append, List.length_cons, List.length_nil] at hz7
        have ht7 : (z7 + -1).toNat = r.length := by omega
        refine ⟨⟨by omega, by omega, by rw [hl]; simp only [List.length_append, List.length_cons, List.length_nil]; omega⟩, ?_⟩
        intro z8 g0 g1 hz8
        have hr : sOf z8 = r := by
          rw [hz8]; simp only [fnD, sOf_cOf, hl, ht7]
          simp
        refine ⟨⟨z8, rfl, ?_⟩, ?_⟩
        · rw [hr, ← hz, rtr_snoc, he, cond_true]
        · show (sOf z8).length < (sOf z3).length
          rw [hr, hl]; simp
theorem allB256 {q p : UInt8 → Bool} (h : ((List.range 256).all fun i => q (UInt8.ofNat i) == p (UInt8.ofNat i)) = true) (c : UInt8) : q c = p c := by
  have := List.all_eq_true.1 h c.toNat (List.mem_range.2 c.toNat_lt)
  simpa using this
theorem p_tdm : B_tdm SB (KBv SB [.str] 122) := p_trimB (n := 12125) (p := edgeH) (allB256 (by decide +kernel)) fun _ _ => rfl
theorem p_thost : B_thost SB (KBv SB [.str] 123) := p_trimB (n := 8267443711659794979134808499087199072256874527605039863196959864303977456569186565734100443375465041388132907546406408792979960403300126342849461211344038) (p := inHost) (allB256 (by decide +kernel)) fun _ _ => rfl
theorem p_tdig : B_tdig SB (KBv SB [.str] 124) := p_trimB (n := 284767230291263911083031) (p := isD) (allB256 (by decide +kernel)) fun _ _ => rfl
def B_low (S : Nat → List (List Int) → List (List Int) → Prop) (K : List (List Int) → List (List Int) → Prop) : Prop :=
 ∀ z0 : Int, 0 ≤ z0 → z0 ≤ HB → 
 ∀ z1 : Int, 0 ≤ z1 → z1 ≤ RB → z1 = fnD 27 [z0] →
 ∀ z2 : Int, 0 ≤ z2 → z2 ≤ 9223372036854775807 → z2 = fnD 0 [z0] →
 ∀ z3 : Int, (-1) ≤ z3 → z3 ≤ 9223372036854775807 → 
 ∃ (I4 : List (List Int) → Prop) (μ4 : List (List Int) → Nat), I4 [[0], [z1]] ∧ (∀ z5 : Int, 0 ≤ z5 → z5 ≤ 9223372036854775807 → ∀ z6 : Int, 0 ≤ z6 → z6 ≤ RB → I4 [[z5], [z6]] →
  (((decide (z5 < z2)) = true →
   chkD 30 [z5, z2] ∧
   chkD 21 [z6, z5] ∧
   ∀ z7 : Int, 0 ≤ z7 → z7 ≤ 255 → z7 = fnD 21 [z6, z5, 0] →
   (((decide (65 ≤ z7)) = true →
    (((decide (z7 ≤ 90)) = true →
     ∀ z8 : Int, 0 ≤ z8 → z8 ≤ IntKind.max .u8 → z8 = bitI .or .u8 z7 32 →
     chkD 30 [z5, z2] ∧
     chkD 21 [z6, z5] ∧
     ∀ z9 : Int, 0 ≤ z9 → z9 ≤ RB → z9 = fnD 42 [z6, z5, 0, z8] →
     ∀ z10 : Int, 0 ≤ z10 → z10 ≤ 1 → 0 ≤ (z5 + 9223372036854775809) - 18446744073709551616 * z10 → (z5 + 9223372036854775809) - 18446744073709551616 * z10 < 18446744073709551616 →
     chkD 39 [((z5 + ((-18446744073709551616) * z10)) + 1), 0, 9223372036854775807] ∧
     (I4 [[((z5 + ((-18446744073709551616) * z10)) + 1)], [z9]] ∧ μ4 [[((z5 + ((-18446744073709551616) * z10)) + 1)], [z9]] < μ4 [[z5], [z6]])
    ) ∧ ((decide (z7 ≤ 90)) = false →
     ∀ z8 : Int, 0 ≤ z8 → z8 ≤ 1 → 0 ≤ (z5 + 9223372036854775809) - 18446744073709551616 * z8 → (z5 + 9223372036854775809) - 18446744073709551616 * z8 < 18446744073709551616 →
     chkD 39 [((z5 + ((-18446744073709551616) * z8)) + 1), 0, 9223372036854775807] ∧
     (I4 [[((z5 + ((-18446744073709551616) * z8)) + 1)], [z6]] ∧ μ4 [[((z5 + ((-18446744073709551616) * z8)) + 1)], [z6]] < μ4 [[z5], [z6]])
    ))
   ) ∧ ((decide (65 ≤ z7)) = false →
    ∀ z8 : Int, 0 ≤ z8 → z8 ≤ 1 → 0 ≤ (z5 + 9223372036854775809) - 18446744073709551616 * z8 → (z5 + 9223372036854775809) - 18446744073709551616 * z8 < 18446744073709551616 →
    chkD 39 [((z5 + ((-18446744073709551616) * z8)) + 1), 0, 9223372036854775807] ∧
    (I4 [[((z5 + ((-18446744073709551616) * z8)) + 1)], [z6]] ∧ μ4 [[((z5 + ((-18446744073709551616) * z8)) + 1)], [z6]] < μ4 [[z5], [z6]])
   ))
  ) ∧ ((decide (z5 < z2)) = false →
   chkD 35 [z6, 0, z2] ∧
   ∀ z7 : Int, 0 ≤ z7 → z7 ≤ HB → z7 = fnD 34 [z6, 0, z2] →
   K [[z0]] [[z7]]
  ))
 )
def B_rlow (S : Nat → List (List Int) → List (List Int) → Prop) (K : List (List Int) → List (List Int) → Prop) : Prop :=
 ∀ z0 : Int, 0 ≤ z0 → z0 ≤ HB → 
 ∀ z1 : Int, 0 ≤ z1 → z1 ≤ RB → z1 = fnD 27 [z0] →
 ∀ z2 : Int, 0 ≤ z2 → z2 ≤ 9223372036854775807 → z2 = fnD 0 [z0] →
 ∀ z3 : Int, (-1) ≤ z3 → z3 ≤ 9223372036854775807 → 
 ∃ (I4 : List (List Int) → Prop) (μ4 : List (List Int) → Nat), I4 [[0], [z1]] ∧ (∀ z5 : Int, 0 ≤ z5 → z5 ≤ 9223372036854775807 → ∀ z6 : Int, 0 ≤ z6 → z6 ≤ RB → I4 [[z5], [z6]] →
  (((decide (z5 < z2)) = true →
   chkD 30 [z5, z2] ∧
   chkD 21 [z6, z5] ∧
   ∀ z7 : Int, 0 ≤ z7 → z7 ≤ 255 → z7 = fnD 21 [z6, z5, 0] →
   (((decide (65 ≤ z7)) = true →
    chkD 30 [z5, z2] ∧
    chkD 21 [z6, z5] ∧
    ∀ z8 : Int, 0 ≤ z8 → z8 ≤ 255 → z8 = fnD 21 [z6, z5, 0] →
    (((decide (z8 ≤ 90)) = true →
     chkD 30 [z5, z2] ∧
     chkD 21 [z6, z5] ∧
     ∀ z9 : Int, 0 ≤ z9 → z9 ≤ 255 → z9 = fnD 21 [z6, z5, 0] →
     ∀ z10 : Int, 0 ≤ z10 → z10 ≤ 1 → 0 ≤ (z9 + 32) - 256 * z10 → (z9 + 32) - 256 * z10 < 256 →
     chkD 30 [z5, z2] ∧
     chkD 21 [z6, z5] ∧
     ∀ z11 : Int, 0 ≤ z11 → z11 ≤ RB → z11 = fnD 42 [z6, z5, 0, ((z9 + ((-256) * z10)) + 32)] →
     ∀ z12 : Int, 0 ≤ z12 → z12 ≤ 1 → 0 ≤ (z5 + 9223372036854775809) - 18446744073709551616 * z12 → (z5 + 9223372036854775809) - 18446744073709551616 * z12 < 18446744073709551616 →
     chkD 39 [((z5 + ((-18446744073709551616) * z12)) + 1), 0, 9223372036854775807] ∧
     (I4 [[((z5 + ((-18446744073709551616) * z12)) + 1)], [z11]] ∧ μ4 [[((z5 + ((-18446744073709551616) * z12)) + 1)], [z11]] < μ4 [[z5], [z6]])
    ) ∧ ((decide (z8 ≤ 90)) = false →
     ∀ z9 : Int, 0 ≤ z9 → z9 ≤ 1 → 0 ≤ (z5 + 9223372036854775809) - 18446744073709551616 * z9 → (z5 + 9223372036854775809) - 18446744073709551616 * z9 < 18446744073709551616 →
     chkD 39 [((z5 + ((-18446744073709551616) * z9)) + 1), 0, 9223372036854775807] ∧
     (I4 [[((z5 + ((-18446744073709551616) * z9)) + 1)], [z6]] ∧ μ4 [[((z5 + ((-18446744073709551616) * z9)) + 1)], [z6]] < μ4 [[z5], [z6]])
    ))
   ) ∧ ((decide (65 ≤ z7)) = false →
    ∀ z8 : Int, 0 ≤ z8 → z8 ≤ 1 → 0 ≤ (z5 + 9223372036854775809) - 18446744073709551616 * z8 → (z5 + 9223372036854775809) - 18446744073709551616 * z8 < 18446744073709551616 →
    chkD 39 [((z5 + ((-18446744073709551616) * z8)) + 1), 0, 9223372036854775807] ∧
    (I4 [[((z5 + ((-18446744073709551616) * z8)) + 1)], [z6]] ∧ μ4 [[((z5 + ((-18446744073709551616) * z8)) + 1)], [z6]] < μ4 [[z5], [z6]])
   ))
  ) ∧ ((decide (z5 < z2)) = false →
   chkD 35 [z6, 0, z2] ∧
   ∀ z7 : Int, 0 ≤ z7 → z7 ≤ HB → z7 = fnD 34 [z6, 0, z2] →
   K [[z0]] [[z7]]
  ))
 )
def rowsL (l : Tx) : List (List Int) := l.map fun b => [(b.toNat : Int)]
theorem rowsL_len (l : Tx) : (rowsL l).length = l.length := by simp [rowsL]
theorem rowsL_get (l : Tx) (i : Nat) (h : i < l.length) : (rowsL l).getD i [] = [((l.getD i 0).toNat : Int)] := by
  simp [rowsL, List.getD, h]
theorem rowsL_set (l : Tx) (i : Nat) (c : UInt8) : (rowsL l).set i [(c.toNat : Int)] = rowsL (l.set i c) := by
  simp [rowsL, List.map_set]
theorem rowsL_back (l : Tx) : (rowsL l).map (fun row => UInt8.ofNat (row.getD 0 0).toNat) = l := by
  unfold rowsL
  rw [List.map_map]
  conv => rhs; rw [← List.map_id l]
  exact List.map_congr_left fun b _ => by simp
def mixL (s : Tx) (i : Nat) : Tx := (s.take i).map lo ++ s.drop i
theorem mixL_len (s : Tx) (i : Nat) (h : i ≤ s.length) : (mixL s i).length = s.length := by
  simp [mixL]; omega
theorem mixL_get (s : Tx) (i : Nat) (h : i < s.length) : (mixL s i).getD i 0 = s.getD i 0 := by
  unfold mixL
  rw [drop_cons_getD s i h]
  simp only [List.getD]
  rw [List.getElem?_append_right (by simp; omega)]
  simp [show min i s.length = i by omega]
theorem mixL_succ (s : Tx) (i : Nat) (h : i < s.length) : mixL s (i + 1) = (mixL s i).set i (lo (s.getD i 0)) := by
  unfold mixL
  rw [take_succ_getD s i h, drop_cons_getD s i h, List.map_append]
  have : ((s.take i).map lo).length = i := by simp; omega
  rw [List.set_append_right _ _ (by omega), this]
  simp
theorem mixL_same (s : Tx) (i : Nat) (h : i < s.length) (hl : isG (s.getD i 0) = false) : mixL s (i + 1) = mixL s i := by
  unfold mixL
  have e : lo (s.getD i 0) = s.getD i 0 := by unfold lo; rw [hl]; rfl
  rw [take_succ_getD s i h, drop_cons_getD s i h, List.map_append, List.map_singleton, e]
  simp
theorem mixL_end (s : Tx) (i : Nat) (h : s.length ≤ i) : mixL s i = lower s := by
  unfold mixL lower
  rw [List.take_of_length_le h, List.drop_of_length_le h, List.append_nil]
theorem isG_iff {z : Int} {c : UInt8} (h : z = (c.toNat : Int)) : isG c = (decide (65 ≤ z) && decide (z ≤ 90)) := by
  rw [h]; unfold isG
  rw [Bool.eq_iff_iff]
  simp [Nat.ble_eq]
  omega
theorem lo_toNat {z : Int} {c : UInt8} (h : z = (c.toNat : Int)) (h1 : 65 ≤ z) (h2 : z ≤ 90) : z + 32 = ((lo c).toNat : Int) := by
  have := isG_iff h
  unfold lo
  rw [this, show decide (65 ≤ z) = true by simpa using h1, show decide (z ≤ 90) = true by simpa using h2]
  simp
  omega
theorem or32 {z : Int} (h1 : 65 ≤ z) (h2 : z ≤ 90) : bitI .or .u8 z 32 = z + 32 := by
  have h : ∀ i : Fin 26, bitI .or .u8 (65 + (i.val : Int)) 32 = 65 + (i.val : Int) + 32 := by decide +kernel
  have := h ⟨(z - 65).toNat, by omega⟩
  simp only at this
  rw [show (65 + ((z - 65).toNat : Int)) = z by omega] at this
  exact this
/-- Where the rows stand at a place. -/
def LowI (z0 z1 : Int) (bl : List (List Int)) : Prop := ∃ (i : Nat) (r : Int), bl = [[(i : Int)], [r]] ∧ i ≤ (sOf z0).length ∧ rOf r = rowsL (mixL (sOf z0) i)
theorem LowI.start {z0 z1 : Int} (h : z1 = fnD 27 [z0]) : LowI z0 z1 [[0], [z1]] := by
  refine ⟨0, z1, rfl, Nat.zero_le _, ?_⟩
  rw [h]; simp only [fnD, rOf_rc]
  simp [mixL, rowsL]
theorem LowI.get {z0 z2 r z7 : Int} {i : Nat} (h2 : z2 = fnD 0 [z0]) (hr : rOf r = rowsL (mixL (sOf z0) i)) (hi : i ≤ (sOf z0).length) (hp : (i : Int) < z2) : chkD 30 [(i : Int), z2] ∧ chkD 21 [r, (i : Int)] ∧ (z7 = fnD 21 [r, (i : Int), 0] → z7 = (((sOf z0).getD i 0).toNat : Int)) := by
  simp only [fnD] at h2
  refine ⟨⟨Int.natCast_nonneg _, hp⟩, ⟨Int.natCast_nonneg _, ?_⟩, fun h => ?_⟩
  · rw [hr, rowsL_len, mixL_len _ _ hi]; omega
  · rw [h]; simp only [fnD]
    rw [hr, Int.toNat_natCast, rowsL_get _ _ (by rw [mixL_len _ _ hi]; omega), mixL_get _ _ (by omega)]
    rfl
theorem LowI.set {z0 z1 z2 r z9 v : Int} {i : Nat} (h2 : z2 = fnD 0 [z0]) (hr : rOf r = rowsL (mixL (sOf z0) i)) (hi : i ≤ (sOf z0).length) (hp : (i : Int) < z2) (hv : v = ((lo ((sOf z0).getD i 0)).toNat : Int)) (h : z9 = fnD 42 [r, (i : Int), 0, v]) : LowI z0 z1 [[(i : Int) + 1], [z9]] := by
  simp only [fnD] at h2
  refine ⟨i + 1, z9, by simp, by omega, ?_⟩
  rw [h]; simp only [fnD, rOf_rc]
  have hl : i < (mixL (sOf z0) i).length := by rw [mixL_len _ _ hi]; omega
  rw [hr, Int.toNat_natCast, rowsL_get _ _ hl, mixL_succ _ _ (by omega), ← rowsL_set, hv]
  rfl
theorem LowI.same {z0 z1 z2 r : Int} {i : Nat} (h2 : z2 = fnD 0 [z0]) (hr : rOf r = rowsL (mixL (sOf z0) i)) (hi : i ≤ (sOf z0).length) (hp : (i : Int) < z2) (hg : isG ((sOf z0).getD i 0) = false) : LowI z0 z1 [[(i : Int) + 1], [r]] := by
  simp only [fnD] at h2
  refine ⟨i + 1, r, by simp, by omega, ?_⟩
  rw [mixL_same _ _ (by omega) hg, hr]
theorem LowI.done {z0 z2 r : Int} {i : Nat} (h2 : z2 = fnD 0 [z0]) (hL : z0 ≤ HB) (hr : rOf r = rowsL (mixL (sOf z0) i)) (hi : i ≤ (sOf z0).length) (hp : ¬ (i : Int) < z2) : chkD 35 [r, 0, z2] ∧ ∀ z7, z7 = fnD 34 [r, 0, z2] → sOf z7 = lower (sOf z0) := by
  have hmx := HB_s hL
  unfold mxL at hmx
  simp only [fnD] at h2
  have hm := mixL_end (sOf z0) i (by omega)
  rw [hm] at hr
  have hlen : (lower (sOf z0)).length = (sOf z0).length := by simp [lower]
  refine ⟨⟨⟨by omega, by omega, by rw [hr, rowsL_len, hlen]; omega⟩, by omega⟩, fun z7 h => ?_⟩
  rw [h]; simp only [fnD, sOf_cOf]
  rw [hr, show ((rowsL (lower (sOf z0))).drop (0 : Int).toNat) = rowsL (lower (sOf z0)) from rfl, List.take_of_length_le (by rw [rowsL_len, hlen]; omega), rowsL_back]
def lowμ (z0 : Int) (bl : List (List Int)) : Nat := (sOf z0).length - ((bl.getD 0 []).getD 0 0).toNat
theorem lowμ_lt {z0 z2 r r' : Int} {i : Nat} (h2 : z2 = fnD 0 [z0]) (hp : (i : Int) < z2) : lowμ z0 [[(i : Int) + 1], [r]] < lowμ z0 [[(i : Int)], [r']] := by
  simp only [fnD] at h2
  show (sOf z0).length - ((i : Int) + 1).toNat < (sOf z0).length - (i : Int).toNat
  omega
theorem p_low : B_low SB (KBv SB [.str] 28) := by
  intro z0 a0 a1 z1 b0 b1 h1 z2 c0 c1 h2 z3 d0 d1
  refine ⟨LowI z0 z1, lowμ z0, LowI.start h1, ?_⟩
  rintro z5 e0 e1 z6 f0 f1 ⟨i, r, e, hi, hr⟩
  obtain ⟨rfl, rfl⟩ : z5 = i ∧ z6 = r := by simpa using e
  refine ⟨fun hp => ?_, fun hp => ?_⟩
  · have hp : (i : Int) < z2 := by simpa using hp
    have hg := fun z7 => LowI.get (z7 := z7) h2 hr hi hp
    refine ⟨(hg 0).1, (hg 0).2.1, fun z7 g0 g1 h7 => ?_⟩
    have h7 := (hg z7).2.2 h7
    have hG := isG_iff h7
    refine ⟨fun hA => ⟨fun hB z8 k0 k1 h8 => ?_, fun hB z8 k0 k1 k2 k3 => ?_⟩, fun hA z8 k0 k1 k2 k3 => ?_⟩
    · have hA' : 65 ≤ z7 := by simpa using hA
      have hB' : z7 ≤ 90 := by simpa using hB
      refine ⟨(hg 0).1, (hg 0).2.1, fun z9 l0 l1 h9 z10 m0 m1 m2 m3 => ?_⟩
      rw [wrap1 (L := z2) hp c1 e0 m0 m2]
      refine ⟨⟨by omega, by omega⟩, LowI.set h2 hr hi hp ?_ h9, lowμ_lt h2 hp⟩
      rw [h8, or32 hA' hB', lo_toNat h7 hA' hB']
    · rw [wrap1 (L := z2) hp c1 e0 k0 k2]
      refine ⟨⟨by omega, by omega⟩, LowI.same h2 hr hi hp ?_, lowμ_lt h2 hp⟩
      rw [hG, hB]; simp
    · rw [wrap1 (L := z2) hp c1 e0 k0 k2]
      refine ⟨⟨by omega, by omega⟩, LowI.same h2 hr hi hp ?_, lowμ_lt h2 hp⟩
      rw [hG, hA]; simp
  · have hp : ¬ (i : Int) < z2 := by simpa using hp
    have hd := LowI.done h2 a1 hr hi hp
    exact ⟨hd.1, fun z7 g0 g1 h7 => ⟨⟨g0, g1, trivial⟩, hd.2 z7 h7⟩⟩
theorem p_rlow : B_rlow SB (KBv SB [.str] 17) := by
  intro z0 a0 a1 z1 b0 b1 h1 z2 c0 c1 h2 z3 d0 d1
  refine ⟨LowI z0 z1, lowμ z0, LowI.start h1, ?_⟩
  rintro z5 e0 e1 z6 f0 f1 ⟨i, r, e, hi, hr⟩
  obtain ⟨rfl, rfl⟩ : z5 = i ∧ z6 = r := by simpa using e
  refine ⟨fun hp => ?_, fun hp => ?_⟩
  · have hp : (i : Int) < z2 := by simpa using hp
    have hg := fun z7 => LowI.get (z7 := z7) h2 hr hi hp
    refine ⟨(hg 0).1, (hg 0).2.1, fun z7 g0 g1 h7 => ?_⟩
    have h7 := (hg z7).2.2 h7
    have hG := isG_iff h7
    refine ⟨fun hA => ⟨(hg 0).1, (hg 0).2.1, fun z8 n0 n1 h8 => ⟨fun hB => ⟨(hg 0).1, (hg 0).2.1, fun z9 o0 o1 h9 z10 k0 k1 k2 k3 => ?_⟩, fun hB z9 k0 k1 k2 k3 => ?_⟩⟩, fun hA z8 k0 k1 k2 k3 => ?_⟩
    · have h8 := (hg z8).2.2 h8
      have h9 := (hg z9).2.2 h9
      have hA' : 65 ≤ z7 := by simpa using hA
      have hB' : z8 ≤ 90 := by simpa using hB
      refine ⟨(hg 0).1, (hg 0).2.1, fun z11 l0 l1 h11 z12 m0 m1 m2 m3 => ?_⟩
      rw [wrap1 (L := z2) hp c1 e0 m0 m2]
      refine ⟨⟨by omega, by omega⟩, LowI.set h2 hr hi hp ?_ h11, lowμ_lt h2 hp⟩
      have := lo_toNat h9 (by omega) (by omega)
      omega
    · have h8 := (hg z8).2.2 h8
      rw [wrap1 (L := z2) hp c1 e0 k0 k2]
      refine ⟨⟨by omega, by omega⟩, LowI.same h2 hr hi hp ?_, lowμ_lt h2 hp⟩
      rw [hG, h7.trans h8.symm, hB]; simp
    · rw [wrap1 (L := z2) hp c1 e0 k0 k2]
      refine ⟨⟨by omega, by omega⟩, LowI.same h2 hr hi hp ?_, lowμ_lt h2 hp⟩
      rw [hG, hA]; simp
  · have hp : ¬ (i : Int) < z2 := by simpa using hp
    have hd := LowI.done h2 a1 hr hi hp
    exact ⟨hd.1, fun z7 g0 g1 h7 => ⟨⟨g0, g1, trivial⟩, hd.2 z7 h7⟩⟩
end Go.Ad
