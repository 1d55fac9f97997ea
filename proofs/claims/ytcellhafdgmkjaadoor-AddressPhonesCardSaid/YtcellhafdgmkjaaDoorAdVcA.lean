/- AdVcA: a part of the proof of statements of this seat. -/
import Derived.Test.YtcellhafdgmkjaaDoorAdBase
set_option maxRecDepth 100000
set_option linter.unusedVariables false
set_option linter.unusedSimpArgs false
namespace Go.Ad
open Go Go.Rx
def B_tlb (S : Nat → List (List Int) → List (List Int) → Prop) (K : List (List Int) → List (List Int) → Prop) : Prop :=
 ∀ z0 : Int, 0 ≤ z0 → z0 ≤ HB → ∀ z1 : Int, 0 ≤ z1 → z1 ≤ 255 → 
 ∃ (I2 : List (List Int) → Prop) (μ2 : List (List Int) → Nat), I2 [[z0]] ∧ (∀ z3 : Int, 0 ≤ z3 → z3 ≤ HB → I2 [[z3]] →
  ∀ z4 : Int, 0 ≤ z4 → z4 ≤ 9223372036854775807 → z4 = fnD 0 [z3] →
  (((decide (0 < z4)) = true →
   chkD 1 [z3, 0] ∧
   ∀ z5 : Int, 0 ≤ z5 → z5 ≤ 255 → z5 = fnD 1 [z3, 0] →
   (((decide (z5 = z1)) = true →
    ∀ z6 : Int, 0 ≤ z6 → z6 ≤ 9223372036854775807 → z6 = fnD 0 [z3] →
    chkD 2 [z3, 1, z6] ∧
    ∀ z7 : Int, 0 ≤ z7 → z7 ≤ HB → z7 = fnD 2 [z3, 1, z6] →
    (I2 [[z7]] ∧ μ2 [[z7]] < μ2 [[z3]])
   ) ∧ ((decide (z5 = z1)) = false →
    K [[z0], [z1]] [[z3]]
   ))
  ) ∧ ((decide (0 < z4)) = false →
   K [[z0], [z1]] [[z3]]
  ))
 )
def B_trb (S : Nat → List (List Int) → List (List Int) → Prop) (K : List (List Int) → List (List Int) → Prop) : Prop :=
 ∀ z0 : Int, 0 ≤ z0 → z0 ≤ HB → ∀ z1 : Int, 0 ≤ z1 → z1 ≤ 255 → 
 ∃ (I2 : List (List Int) → Prop) (μ2 : List (List Int) → Nat), I2 [[z0]] ∧ (∀ z3 : Int, 0 ≤ z3 → z3 ≤ HB → I2 [[z3]] →
  ∀ z4 : Int, 0 ≤ z4 → z4 ≤ 9223372036854775807 → z4 = fnD 0 [z3] →
  (((decide (0 < z4)) = true →
   ∀ z5 : Int, 0 ≤ z5 → z5 ≤ 9223372036854775807 → z5 = fnD 0 [z3] →
   chkD 1 [z3, (z5 + (-1))] ∧
   ∀ z6 : Int, 0 ≤ z6 → z6 ≤ 255 → z6 = fnD 1 [z3, (z5 + (-1))] →
   (((decide (z6 = z1)) = true →
    ∀ z7 : Int, 0 ≤ z7 → z7 ≤ 9223372036854775807 → z7 = fnD 0 [z3] →
    chkD 2 [z3, 0, (z7 + (-1))] ∧
    ∀ z8 : Int, 0 ≤ z8 → z8 ≤ HB → z8 = fnD 2 [z3, 0, (z7 + (-1))] →
    (I2 [[z8]] ∧ μ2 [[z8]] < μ2 [[z3]])
   ) ∧ ((decide (z6 = z1)) = false →
    K [[z0], [z1]] [[z3]]
   ))
  ) ∧ ((decide (0 < z4)) = false →
   K [[z0], [z1]] [[z3]]
  ))
 )
def B_tsp (S : Nat → List (List Int) → List (List Int) → Prop) (K : List (List Int) → List (List Int) → Prop) : Prop :=
 ∀ z0 : Int, 0 ≤ z0 → z0 ≤ HB → 
 ∀ z1 : Int, 0 ≤ z1 → z1 ≤ 1 → z1 = fnD 4 [z0, 0] →
 (((decide (z1 = 1)) = true →
  K [[z0]] [[z0]]
 ) ∧ ((decide (z1 = 1)) = false →
  ∀ z2 : Int, 0 ≤ z2 → z2 ≤ HB → S 37 [[z0], [32]] [[z2]] →
  ∀ z3 : Int, 0 ≤ z3 → z3 ≤ HB → S 36 [[z2], [32]] [[z3]] →
  K [[z0]] [[z3]]
 ))
def B_tdot (S : Nat → List (List Int) → List (List Int) → Prop) (K : List (List Int) → List (List Int) → Prop) : Prop :=
 ∀ z0 : Int, 0 ≤ z0 → z0 ≤ HB → 
 ∀ z1 : Int, 0 ≤ z1 → z1 ≤ 1 → z1 = fnD 4 [z0, 0] →
 (((decide (z1 = 1)) = true →
  K [[z0]] [[z0]]
 ) ∧ ((decide (z1 = 1)) = false →
  ∀ z2 : Int, 0 ≤ z2 → z2 ≤ HB → S 37 [[z0], [46]] [[z2]] →
  ∀ z3 : Int, 0 ≤ z3 → z3 ≤ HB → S 36 [[z2], [46]] [[z3]] →
  K [[z0]] [[z3]]
 ))
def B_cdot (S : Nat → List (List Int) → List (List Int) → Prop) (K : List (List Int) → List (List Int) → Prop) : Prop :=
 ∀ z0 : Int, 0 ≤ z0 → z0 ≤ HB → 
 ∀ z1 : Int, 0 ≤ z1 → z1 ≤ 1 → z1 = fnD 4 [47, z0] →
 (((decide (z1 = 1)) = true →
  K [[z0]] [[(cond (true) 1 0)]]
 ) ∧ ((decide (z1 = 1)) = false →
  ∀ z2 : Int, (-1) ≤ z2 → z2 ≤ 9223372036854775807 → S 73 [[z0], [46]] [[z2]] →
  K [[z0]] [[(cond (decide (0 ≤ z2)) 1 0)]]
 ))
theorem p_tlb : B_tlb SB (KBv SB [.str] 36) := by
  intro z0 a0 a1 z1 b0 b1
  refine ⟨fun bl => ∃ z, bl = [[z]] ∧ ltr (· == u8 z1) (sOf z) = ltr (· == u8 z1) (sOf z0), fun bl => (sOf ((bl.getD 0 []).getD 0 0)).length, ⟨z0, rfl, rfl⟩, ?_⟩
  rintro z3 c0 c1 ⟨z, e, hz⟩
  obtain rfl : z3 = z := by simpa using e
  intro z4 d0 d1 hz4
  simp only [fnD] at hz4
  cases hl : sOf z3 with
  | nil =>
    rw [hl] at hz4 hz
    simp only [List.length_nil] at hz4
    subst hz4
    refine ⟨fun hp => by simp at hp, fun _ => ⟨⟨c0, c1, trivial⟩, ?_⟩⟩
    show sOf z3 = _
    rw [hl, ← hz]
    rfl
  | cons x r =>
    rw [hl] at hz4 hz
    simp only [List.length_cons] at hz4
    refine ⟨fun _ => ⟨⟨Int.le_refl _, by rw [hl]; simp only [List.length_cons]; omega⟩, ?_⟩, fun hp => by simp at hp; omega⟩
    intro z5 e0 e1 hz5
    simp only [fnD, hl, Int.toNat_zero, List.getD_cons_zero] at hz5
    have hx := u8_eq (b := x) b0 b1
    rw [← hz5] at hx
    refine ⟨fun he => ?_, fun he => ⟨⟨c0, c1, trivial⟩, ?_⟩⟩
    · have he' := hx.1 (by simpa using he)
      intro z6 f0 f1 hz6
      simp only [fnD, hl, List.length_cons] at hz6
      refine ⟨⟨by omega, by omega, by rw [hl]; simp only [List.length_cons]; omega⟩, ?_⟩
      intro z7 g0 g1 hz7
      have hr : sOf z7 = r := by
        rw [hz7]; simp only [fnD, sOf_cOf, hl]
        rw [show (1 : Int).toNat = 1 from rfl, List.drop_one, List.tail_cons]
        exact List.take_of_length_le (by omega)
      refine ⟨⟨z7, rfl, ?_⟩, ?_⟩
      · rw [hr, ← hz]; simp only [ltr, List.dropWhile_cons, he', if_true]
      · show (sOf z7).length < (sOf z3).length
        rw [hr, hl]; simp
    · show sOf z3 = _
      have he' : ¬ (x == u8 z1) = true := fun h => by have := hx.2 h; simp [this] at he
      rw [hl, ← hz]; simp only [ltr, List.dropWhile_cons, he', if_false]; rfl
theorem snoc_of {l : Tx} (h : l ≠ []) : ∃ r x, l = r ++ [x] := ⟨_, _, (List.dropLast_concat_getLast h).symm⟩
theorem p_trb : B_trb SB (KBv SB [.str] 37) := by
  intro z0 a0 a1 z1 b0 b1
  refine ⟨fun bl => ∃ z, bl = [[z]] ∧ rtr (· == u8 z1) (sOf z) = rtr (· == u8 z1) (sOf z0), fun bl => (sOf ((bl.getD 0 []).getD 0 0)).length, ⟨z0, rfl, rfl⟩, ?_⟩
  rintro z3 c0 c1 ⟨z, e, hz⟩
  obtain rfl : z3 = z := by simpa using e
  intro z4 d0 d1 hz4
  simp only [fnD] at hz4
  by_cases hl : sOf z3 = []
  · rw [hl] at hz4 hz
    simp only [List.length_nil] at hz4
    subst hz4
    refine ⟨fun hp => by simp at hp, fun _ => ⟨⟨c0, c1, trivial⟩, ?_⟩⟩
    show sOf z3 = _
    rw [hl, ← hz]
    rfl
  · obtain ⟨r, x, hl⟩ := snoc_of hl
    rw [hl] at hz4 hz
    simp only [List.length_append, List.length_cons, List.length_nil] at hz4
    refine ⟨fun _ => ?_, fun hp => by simp at hp; omega⟩
    intro z5 e0 e1 hz5
    simp only [fnD, hl, List.length_append, List.length_cons, List.length_nil] at hz5
    refine ⟨⟨by omega, by rw [hl]; simp only [List.length_append, List.length_cons, List.length_nil]; omega⟩, ?_⟩
    intro z6 f0 f1 hz6
    have ht : (z5 + -1).toNat = r.length := by omega
    simp only [fnD, hl, ht] at hz6
    have hx := u8_eq (b := x) b0 b1
    rw [show ((r ++ [x]).getD r.length 0) = x by simp [List.getD]] at hz6
    rw [← hz6] at hx
    refine ⟨fun he => ?_, fun he => ⟨⟨c0, c1, trivial⟩, ?_⟩⟩
    · have he' := hx.1 (by simpa using he)
      intro z7 f0 f1 hz7
      simp only [fnD, hl, List.length_append, List.length_cons, List.length_nil] at hz7
      have ht7 : (z7 + -1).toNat = r.length := by omega
      refine ⟨⟨by omega, by omega, by rw [hl]; simp only [List.length_append, List.length_cons, List.length_nil]; omega⟩, ?_⟩
      intro z8 g0 g1 hz8
      have hr : sOf z8 = r := by
        rw [hz8]; simp only [fnD, sOf_cOf, hl, ht7]
        simp
      refine ⟨⟨z8, rfl, ?_⟩, ?_⟩
      · rw [hr, ← hz, rtr_snoc, he', cond_true]
      · show (sOf z8).length < (sOf z3).length
        rw [hr, hl]; simp
    · show sOf z3 = _
      have he' : (x == u8 z1) = false := by
        cases h : (x == u8 z1) with
        | false => rfl
        | true => have := hx.2 h; simp [this] at he
      rw [hl, ← hz, rtr_snoc, he', cond_false]
theorem sOf_zero : sOf 0 = [] := rfl
theorem eq_nil {z z1 : Int} (h : z1 = fnD 4 [z, 0]) : decide (z1 = 1) = (sOf z == []) := by
  rw [h]; simp only [fnD, sOf_zero]
  cases hz : sOf z with
  | nil => rfl
  | cons x r => simp
theorem p_trim1 {c : Int} {p : UInt8 → Bool} (hc : p = (· == u8 c)) {id : Nat} (hid : ∀ z r, SB id [[z]] [[r]] = (sOf r = trimS p (sOf z))) :
    (∀ z0 : Int, 0 ≤ z0 → z0 ≤ HB → 
 ∀ z1 : Int, 0 ≤ z1 → z1 ≤ 1 → z1 = fnD 4 [z0, 0] →
 (((decide (z1 = 1)) = true →
  KBv SB [.str] id [[z0]] [[z0]]
 ) ∧ ((decide (z1 = 1)) = false →
  ∀ z2 : Int, 0 ≤ z2 → z2 ≤ HB → SB 37 [[z0], [c]] [[z2]] →
  ∀ z3 : Int, 0 ≤ z3 → z3 ≤ HB → SB 36 [[z2], [c]] [[z3]] →
  KBv SB [.str] id [[z0]] [[z3]]
 ))) := by
  intro z0 a0 a1 z1 b0 b1 hz1
  rw [eq_nil hz1]
  refine ⟨fun h => ⟨⟨a0, a1, trivial⟩, ?_⟩, fun h z2 c0 c1 h2 z3 d0 d1 h3 => ⟨⟨d0, d1, trivial⟩, ?_⟩⟩
  · rw [hid]
    have : sOf z0 = [] := by simpa using h
    rw [this]; rfl
  · rw [hid]
    have h2 : sOf z2 = rtr (· == u8 c) (sOf z0) := h2
    have h3 : sOf z3 = ltr (· == u8 c) (sOf z2) := h3
    rw [h3, h2, hc]; rfl
theorem p_tsp : B_tsp SB (KBv SB [.str] 120) := p_trim1 (c := 32) (p := (· == 32)) rfl fun _ _ => rfl
theorem p_tdot : B_tdot SB (KBv SB [.str] 121) := p_trim1 (c := 46) (p := (· == 46)) rfl fun _ _ => rfl
theorem p_cdot : B_cdot SB (KBv SB [.bool] 127) := by
  intro z0 a0 a1 z1 b0 b1 hz1
  simp only [fnD] at hz1
  refine ⟨fun h => ⟨⟨by decide, by decide, trivial⟩, ?_⟩, fun h z2 c0 c1 h2 => ⟨⟨(b01_bd _).1, (b01_bd _).2, trivial⟩, ?_⟩⟩
  · have : sOf z0 = [46] := by
      have e : sOf 47 = [46] := by decide
      rw [e] at hz1
      by_cases h' : [46] = sOf z0
      · exact h'.symm
      · rw [if_neg h'] at hz1; subst hz1; simp at h
    show (1 : Int) = b01 ((sOf z0).contains 46)
    rw [this]; rfl
  · have h2 : z2 = idx 46 (sOf z0) := h2
    show (cond (decide (0 ≤ z2)) 1 0 : Int) = b01 ((sOf z0).contains 46)
    rw [h2, idx_mem (by decide) (by decide)]; rfl
end Go.Ad
