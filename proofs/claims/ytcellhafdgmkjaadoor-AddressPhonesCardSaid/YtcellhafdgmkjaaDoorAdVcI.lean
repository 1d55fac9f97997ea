/- AdVcI: a part of the proof of statements of this seat. -/
import Derived.Test.YtcellhafdgmkjaaDoorAdVcH
import Derived.Test.YtcellhafdgmkjaaDoorAdBase
set_option maxRecDepth 100000
set_option linter.unusedVariables false
set_option linter.unusedSimpArgs false
namespace Go.Ad
open Go Go.Rx
def B_rlocal (S : Nat → List (List Int) → List (List Int) → Prop) (K : List (List Int) → List (List Int) → Prop) : Prop :=
 ∀ z0 : Int, 0 ≤ z0 → z0 ≤ HB → 
 ∀ z1 : Int, 0 ≤ z1 → z1 ≤ 9223372036854775807 → z1 = fnD 0 [z0] →
 (((decide (z1 < 1)) = true →
  K [[z0]] [[(cond (false) 1 0)]]
 ) ∧ ((decide (z1 < 1)) = false →
  ∀ z2 : Int, 0 ≤ z2 → z2 ≤ 9223372036854775807 → z2 = fnD 0 [z0] →
  (((decide (64 < z2)) = true →
   K [[z0]] [[(cond (false) 1 0)]]
  ) ∧ ((decide (64 < z2)) = false →
   ∃ (I3 : List (List Int) → Prop) (μ3 : List (List Int) → Nat), I3 [[0]] ∧ (∀ z4 : Int, 0 ≤ z4 → z4 ≤ 9223372036854775807 → I3 [[z4]] →
    ∀ z5 : Int, 0 ≤ z5 → z5 ≤ 9223372036854775807 → z5 = fnD 0 [z0] →
    (((decide (z4 < z5)) = true →
     chkD 1 [z0, z4] ∧
     ∀ z6 : Int, 0 ≤ z6 → z6 ≤ 255 → z6 = fnD 1 [z0, z4] →
     (((decide (97 ≤ z6)) = true →
      (((decide (z6 ≤ 122)) = true →
       ∃ (I7 : List (List Int) → Prop) (μ7 : List (List Int) → Nat), I7 [[0], [1]] ∧ (∀ z8 : Int, 0 ≤ z8 → z8 ≤ 9223372036854775807 → ∀ z9 : Int, 0 ≤ z9 → z9 ≤ 1 → I7 [[z8], [z9]] →
        (((decide (z8 < 19)) = true →
         (((decide (z9 = 1)) = true →
          (I7 [[(z8 + 1)], [1]] ∧ μ7 [[(z8 + 1)], [1]] < μ7 [[z8], [z9]])
         ) ∧ ((decide (z9 = 1)) = false →
          chkD 1 [1112275947084288557575193961879115365961291049, z8] ∧
          ∀ z10 : Int, 0 ≤ z10 → z10 ≤ 255 → z10 = fnD 1 [1112275947084288557575193961879115365961291049, z8] →
          ∀ z11 : Int, 0 ≤ z11 → z11 ≤ 1 → decide (z10 = z6) = decide (z11 = 1) →
          (I7 [[(z8 + 1)], [z11]] ∧ μ7 [[(z8 + 1)], [z11]] < μ7 [[z8], [z9]])
         ))
        ) ∧ ((decide (z8 < 19)) = false →
         ((((!(decide (z9 = 1)))) = true →
          K [[z0]] [[(cond (false) 1 0)]]
         ) ∧ (((!(decide (z9 = 1)))) = false →
          ∀ z10 : Int, 0 ≤ z10 → z10 ≤ 1 → 0 ≤ (z4 + 9223372036854775809) - 18446744073709551616 * z10 → (z4 + 9223372036854775809) - 18446744073709551616 * z10 < 18446744073709551616 →
          chkD 39 [((z4 + ((-18446744073709551616) * z10)) + 1), 0, 9223372036854775807] ∧
          (I3 [[((z4 + ((-18446744073709551616) * z10)) + 1)]] ∧ μ3 [[((z4 + ((-18446744073709551616) * z10)) + 1)]] < μ3 [[z4]])
         ))
        ))
       )
      ) ∧ ((decide (z6 ≤ 122)) = false →
       ∃ (I7 : List (List Int) → Prop) (μ7 : List (List Int) → Nat), I7 [[0], [0]] ∧ (∀ z8 : Int, 0 ≤ z8 → z8 ≤ 9223372036854775807 → ∀ z9 : Int, 0 ≤ z9 → z9 ≤ 1 → I7 [[z8], [z9]] →
        (((decide (z8 < 19)) = true →
         (((decide (z9 = 1)) = true →
          (I7 [[(z8 + 1)], [1]] ∧ μ7 [[(z8 + 1)], [1]] < μ7 [[z8], [z9]])
         ) ∧ ((decide (z9 = 1)) = false →
          chkD 1 [1112275947084288557575193961879115365961291049, z8] ∧
          ∀ z10 : Int, 0 ≤ z10 → z10 ≤ 255 → z10 = fnD 1 [1112275947084288557575193961879115365961291049, z8] →
          ∀ z11 : Int, 0 ≤ z11 → z11 ≤ 1 → decide (z10 = z6) = decide (z11 = 1) →
          (I7 [[(z8 + 1)], [z11]] ∧ μ7 [[(z8 + 1)], [z11]] < μ7 [[z8], [z9]])
         ))
        ) ∧ ((decide (z8 < 19)) = false →
         ((((!(decide (z9 = 1)))) = true →
          K [[z0]] [[(cond (false) 1 0)]]
         ) ∧ (((!(decide (z9 = 1)))) = false →
          ∀ z10 : Int, 0 ≤ z10 → z10 ≤ 1 → 0 ≤ (z4 + 9223372036854775809) - 18446744073709551616 * z10 → (z4 + 9223372036854775809) - 18446744073709551616 * z10 < 18446744073709551616 →
          chkD 39 [((z4 + ((-18446744073709551616) * z10)) + 1), 0, 9223372036854775807] ∧
          (I3 [[((z4 + ((-18446744073709551616) * z10)) + 1)]] ∧ μ3 [[((z4 + ((-18446744073709551616) * z10)) + 1)]] < μ3 [[z4]])
         ))
        ))
       )
      ))
     ) ∧ ((decide (97 ≤ z6)) = false →
      (((decide (65 ≤ z6)) = true →
       (((decide (z6 ≤ 90)) = true →
        ∃ (I7 : List (List Int) → Prop) (μ7 : List (List Int) → Nat), I7 [[0], [1]] ∧ (∀ z8 : Int, 0 ≤ z8 → z8 ≤ 9223372036854775807 → ∀ z9 : Int, 0 ≤ z9 → z9 ≤ 1 → I7 [[z8], [z9]] →
         (((decide (z8 < 19)) = true →
          (((decide (z9 = 1)) = true →
           (I7 [[(z8 + 1)], [1]] ∧ μ7 [[(z8 + 1)], [1]] < μ7 [[z8], [z9]])
          ) ∧ ((decide (z9 = 1)) = false →
           chkD 1 [1112275947084288557575193961879115365961291049, z8] ∧
           ∀ z10 : Int, 0 ≤ z10 → z10 ≤ 255 → z10 = fnD 1 [1112275947084288557575193961879115365961291049, z8] →
           ∀ z11 : Int, 0 ≤ z11 → z11 ≤ 1 → decide (z10 = z6) = decide (z11 = 1) →
           (I7 [[(z8 + 1)], [z11]] ∧ μ7 [[(z8 + 1)], [z11]] < μ7 [[z8], [z9]])
          ))
         ) ∧ ((decide (z8 < 19)) = false →
          ((((!(decide (z9 = 1)))) = true →
           K [[z0]] [[(cond (false) 1 0)]]
          ) ∧ (((!(decide (z9 = 1)))) = false →
           ∀ z10 : Int, 0 ≤ z10 → z10 ≤ 1 → 0 ≤ (z4 + 9223372036854775809) - 18446744073709551616 * z10 → (z4 + 9223372036854775809) - 18446744073709551616 * z10 < 18446744073709551616 →
           chkD 39 [((z4 + ((-18446744073709551616) * z10)) + 1), 0, 9223372036854775807] ∧
           (I3 [[((z4 + ((-18446744073709551616) * z10)) + 1)]] ∧ μ3 [[((z4 + ((-18446744073709551616) * z10)) + 1)]] < μ3 [[z4]])
          ))
         ))
        )
       ) ∧ ((decide (z6 ≤ 90)) = false →
        ∃ (I7 : List (List Int) → Prop) (μ7 : List (List Int) → Nat), I7 [[0], [0]] ∧ (∀ z8 : Int, 0 ≤ z8 → z8 ≤ 9223372036854775807 → ∀ z9 : Int, 0 ≤ z9 → z9 ≤ 1 → I7 [[z8], [z9]] →
         (((decide (z8 < 19)) = true →
          (((decide (z9 = 1)) = true →
           (I7 [[(z8 + 1)], [1]] ∧ μ7 [[(z8 + 1)], [1]] < μ7 [[z8], [z9]])
          ) ∧ ((decide (z9 = 1)) = false →
           chkD 1 [1112275947084288557575193961879115365961291049, z8] ∧
           ∀ z10 : Int, 0 ≤ z10 → z10 ≤ 255 → z10 = fnD 1 [1112275947084288557575193961879115365961291049, z8] →
           ∀ z11 : Int, 0 ≤ z11 → z11 ≤ 1 → decide (z10 = z6) = decide (z11 = 1) →
           (I7 [[(z8 + 1)], [z11]] ∧ μ7 [[(z8 + 1)], [z11]] < μ7 [[z8], [z9]])
          ))
         ) ∧ ((decide (z8 < 19)) = false →
          ((((!(decide (z9 = 1)))) = true →
           K [[z0]] [[(cond (false) 1 0)]]
          ) ∧ (((!(decide (z9 = 1)))) = false →
           ∀ z10 : Int, 0 ≤ z10 → z10 ≤ 1 → 0 ≤ (z4 + 9223372036854775809) - 18446744073709551616 * z10 → (z4 + 9223372036854775809) - 18446744073709551616 * z10 < 18446744073709551616 →
           chkD 39 [((z4 + ((-18446744073709551616) * z10)) + 1), 0, 9223372036854775807] ∧
           (I3 [[((z4 + ((-18446744073709551616) * z10)) + 1)]] ∧ μ3 [[((z4 + ((-18446744073709551616) * z10)) + 1)]] < μ3 [[z4]])
          ))
         ))
        )
       ))
      ) ∧ ((decide (65 ≤ z6)) = false →
       (((decide (48 ≤ z6)) = true →
        ∀ z7 : Int, 0 ≤ z7 → z7 ≤ 1 → decide (z6 ≤ 57) = decide (z7 = 1) →
        ∃ (I8 : List (List Int) → Prop) (μ8 : List (List Int) → Nat), I8 [[0], [z7]] ∧ (∀ z9 : Int, 0 ≤ z9 → z9 ≤ 9223372036854775807 → ∀ z10 : Int, 0 ≤ z10 → z10 ≤ 1 → I8 [[z9], [z10]] →
         (((decide (z9 < 19)) = true →
          (((decide (z10 = 1)) = true →
           (I8 [[(z9 + 1)], [1]] ∧ μ8 [[(z9 + 1)], [1]] < μ8 [[z9], [z10]])
          ) ∧ ((decide (z10 = 1)) = false →
           chkD 1 [1112275947084288557575193961879115365961291049, z9] ∧
           ∀ z11 : Int, 0 ≤ z11 → z11 ≤ 255 → z11 = fnD 1 [1112275947084288557575193961879115365961291049, z9] →
           ∀ z12 : Int, 0 ≤ z12 → z12 ≤ 1 → decide (z11 = z6) = decide (z12 = 1) →
           (I8 [[(z9 + 1)], [z12]] ∧ μ8 [[(z9 + 1)], [z12]] < μ8 [[z9], [z10]])
          ))
         ) ∧ ((decide (z9 < 19)) = false →
          ((((!(decide (z10 = 1)))) = true →
           K [[z0]] [[(cond (false) 1 0)]]
          ) ∧ (((!(decide (z10 = 1)))) = false →
           ∀ z11 : Int, 0 ≤ z11 → z11 ≤ 1 → 0 ≤ (z4 + 9223372036854775809) - 18446744073709551616 * z11 → (z4 + 9223372036854775809) - 18446744073709551616 * z11 < 18446744073709551616 →
           chkD 39 [((z4 + ((-18446744073709551616) * z11)) + 1), 0, 9223372036854775807] ∧
           (I3 [[((z4 + ((-18446744073709551616) * z11)) + 1)]] ∧ μ3 [[((z4 + ((-18446744073709551616) * z11)) + 1)]] < μ3 [[z4]])
          ))
         ))
        )
       ) ∧ ((decide (48 ≤ z6)) = false →
        ∃ (I7 : List (List Int) → Prop) (μ7 : List (List Int) → Nat), I7 [[0], [0]] ∧ (∀ z8 : Int, 0 ≤ z8 → z8 ≤ 9223372036854775807 → ∀ z9 : Int, 0 ≤ z9 → z9 ≤ 1 → I7 [[z8], [z9]] →
         (((decide (z8 < 19)) = true →
          (((decide (z9 = 1)) = true →
           (I7 [[(z8 + 1)], [1]] ∧ μ7 [[(z8 + 1)], [1]] < μ7 [[z8], [z9]])
          ) ∧ ((decide (z9 = 1)) = false →
           chkD 1 [1112275947084288557575193961879115365961291049, z8] ∧
           ∀ z10 : Int, 0 ≤ z10 → z10 ≤ 255 → z10 = fnD 1 [1112275947084288557575193961879115365961291049, z8] →
           ∀ z11 : Int, 0 ≤ z11 → z11 ≤ 1 → decide (z10 = z6) = decide (z11 = 1) →
           (I7 [[(z8 + 1)], [z11]] ∧ μ7 [[(z8 + 1)], [z11]] < μ7 [[z8], [z9]])
          ))
         ) ∧ ((decide (z8 < 19)) = false →
          (((decide (z6 = 46)) = true →
           (((decide (0 < z4)) = true →
            ∀ z10 : Int, 0 ≤ z10 → z10 ≤ 9223372036854775807 → z10 = fnD 0 [z0] →
            (((decide (z4 < (z10 + (-1)))) = true →
             chkD 1 [z0, (z4 + (-1))] ∧
             ∀ z11 : Int, 0 ≤ z11 → z11 ≤ 255 → z11 = fnD 1 [z0, (z4 + (-1))] →
             (((decide (z11 = 46)) = true →
              K [[z0]] [[(cond (false) 1 0)]]
             ) ∧ ((decide (z11 = 46)) = false →
              ∀ z12 : Int, 0 ≤ z12 → z12 ≤ 1 → 0 ≤ (z4 + 9223372036854775809) - 18446744073709551616 * z12 → (z4 + 9223372036854775809) - 18446744073709551616 * z12 < 18446744073709551616 →
              chkD 39 [((z4 + ((-18446744073709551616) * z12)) + 1), 0, 9223372036854775807] ∧
              (I3 [[((z4 + ((-18446744073709551616) * z12)) + 1)]] ∧ μ3 [[((z4 + ((-18446744073709551616) * z12)) + 1)]] < μ3 [[z4]])
             ))
            ) ∧ ((decide (z4 < (z10 + (-1)))) = false →
             K [[z0]] [[(cond (false) 1 0)]]
            ))
           ) ∧ ((decide (0 < z4)) = false →
            K [[z0]] [[(cond (false) 1 0)]]
           ))
          ) ∧ ((decide (z6 = 46)) = false →
           ((((!(decide (z9 = 1)))) = true →
            K [[z0]] [[(cond (false) 1 0)]]
           ) ∧ (((!(decide (z9 = 1)))) = false →
            ∀ z10 : Int, 0 ≤ z10 → z10 ≤ 1 → 0 ≤ (z4 + 9223372036854775809) - 18446744073709551616 * z10 → (z4 + 9223372036854775809) - 18446744073709551616 * z10 < 18446744073709551616 →
            chkD 39 [((z4 + ((-18446744073709551616) * z10)) + 1), 0, 9223372036854775807] ∧
            (I3 [[((z4 + ((-18446744073709551616) * z10)) + 1)]] ∧ μ3 [[((z4 + ((-18446744073709551616) * z10)) + 1)]] < μ3 [[z4]])
           ))
          ))
         ))
        )
       ))
      ))
     ))
    ) ∧ ((decide (z4 < z5)) = false →
     K [[z0]] [[(cond (true) 1 0)]]
    ))
   )
  ))
 ))
def cls (c : UInt8) : Bool := isS c || isG c || isD c
theorem clsZ {z : Int} {c : UInt8} (h : z = (c.toNat : Int)) : cls c = decide ((97 ≤ z ∧ z ≤ 122) ∨ (65 ≤ z ∧ z ≤ 90) ∨ (48 ≤ z ∧ z ≤ 57)) := by
  rw [h]; unfold cls isS isG isD
  rw [Bool.eq_iff_iff]
  simp only [Bool.or_eq_true, Bool.and_eq_true, Nat.ble_eq, decide_eq_true_eq]
  omega
theorem kSigns : sOf 1112275947084288557575193961879115365961291049 = signs := by decide +kernel
theorem signsLoop {c : UInt8} {z6 z7 : Int} (h6 : z6 = (c.toNat : Int)) (z70 : 0 ≤ z7) (z71 : z7 ≤ 1) {E : Int → Prop} (hE : ∀ z9, 0 ≤ z9 → z9 ≤ 1 → z9 = b01 (decide (z7 = 1) || signs.contains c) → E z9) :
       ∃ (I7 : List (List Int) → Prop) (μ7 : List (List Int) → Nat), I7 [[0], [z7]] ∧ (∀ z8 : Int, 0 ≤ z8 → z8 ≤ 9223372036854775807 → ∀ z9 : Int, 0 ≤ z9 → z9 ≤ 1 → I7 [[z8], [z9]] →
        (((decide (z8 < 19)) = true →
         (((decide (z9 = 1)) = true →
          (I7 [[(z8 + 1)], [1]] ∧ μ7 [[(z8 + 1)], [1]] < μ7 [[z8], [z9]])
         ) ∧ ((decide (z9 = 1)) = false →
          chkD 1 [1112275947084288557575193961879115365961291049, z8] ∧
          ∀ z10 : Int, 0 ≤ z10 → z10 ≤ 255 → z10 = fnD 1 [1112275947084288557575193961879115365961291049, z8] →
          ∀ z11 : Int, 0 ≤ z11 → z11 ≤ 1 → decide (z10 = z6) = decide (z11 = 1) →
          (I7 [[(z8 + 1)], [z11]] ∧ μ7 [[(z8 + 1)], [z11]] < μ7 [[z8], [z9]])
         ))
        ) ∧ ((decide (z8 < 19)) = false →
         E z9
        ))
       ) := by
  have dz : ∀ z : Int, 0 ≤ z → z ≤ 1 → z = b01 (decide (z = 1)) := fun z h0 h1 => by
    rcases (show z = 0 ∨ z = 1 by omega) with rfl | rfl <;> rfl
  refine ⟨fun bl => ∃ (k : Nat) (z : Int), bl = [[(k : Int)], [z]] ∧ k ≤ 19 ∧ decide (z = 1) = (decide (z7 = 1) || (signs.take k).contains c), fun bl => 19 - ((bl.getD 0 []).getD 0 0).toNat, ⟨0, z7, rfl, by omega, by simp⟩, ?_⟩
  rintro z8 a0 a1 z9 b0 b1 ⟨k, z, e, hk, hz⟩
  obtain ⟨rfl, rfl⟩ : z8 = k ∧ z9 = z := by simpa using e
  have hsl : signs.length = 19 := by decide
  refine ⟨fun hp => ?_, fun hp => hE z9 b0 b1 ?_⟩
  · have hp : (k : Int) < 19 := by simpa using hp
    have hlt : k < signs.length := by omega
    refine ⟨fun h1 => ⟨⟨k + 1, 1, by simp, by omega, ?_⟩, by show 19 - ((k : Int) + 1).toNat < 19 - (k : Int).toNat; omega⟩, fun h1 => ⟨⟨a0, by rw [kSigns]; omega⟩, fun z10 c0 c1 h10 z11 d0 d1 h11 => ⟨⟨k + 1, z11, by simp, by omega, ?_⟩, by show 19 - ((k : Int) + 1).toNat < 19 - (k : Int).toNat; omega⟩⟩⟩
    · rw [contains_take _ _ _ hlt, ← Bool.or_assoc, ← hz, h1]; rfl
    · rw [contains_take _ _ _ hlt, ← Bool.or_assoc, ← hz, h1, Bool.false_or, ← h11, h10, h6]
      simp only [fnD, kSigns, Int.toNat_natCast]
      rw [Bool.eq_iff_iff, decide_eq_true_eq, beq_iff_eq, ← UInt8.toNat_inj]
      omega
  · have hp : ¬ (k : Int) < 19 := by simpa using hp
    rw [List.take_of_length_le (by omega)] at hz
    rw [dz z9 b0 b1, hz]
theorem p_rlocal : B_rlocal SB (KBv SB [.bool] 29) := by
  intro z0 a0 a1 z1 b0 b1 h1
  have kk : ∀ b : Bool, localb (sOf z0) = b → KBv SB [.bool] 29 [[z0]] [[b01 b]] := fun b h => kb (by show b01 b = b01 (localb (sOf z0)); rw [h])
  rw [one_le h1]
  refine ⟨fun h => kk false ?_, fun h z2 c0 c1 h2 => ?_⟩
  · rw [Bool.not_eq_true'] at h; unfold localb; rw [h]; rfl
  rw [Bool.not_eq_false'] at h
  rw [len_gt (n := 64) 64 rfl h2]
  refine ⟨fun h' => kk false ?_, fun h' => ⟨PI inLocal (· == 46) z0, PM z0, ⟨0, rfl, Nat.zero_le _, fun j hj => by omega⟩, ?_⟩⟩
  · rw [Bool.not_eq_true'] at h'; unfold localb; rw [h']; simp
  rw [Bool.not_eq_false'] at h'
  rintro z4 d0 d1 ⟨i, e, hi, hall⟩ z5 e0 e1 h5
  obtain rfl : z4 = i := by simpa using e
  simp only [fnD] at h5
  refine ⟨fun hp => ?_, fun hp => kk true ?_⟩
  · have hp : (i : Int) < z5 := by simpa using hp
    have hlt : i < (sOf z0).length := by omega
    have hc1 : chkD 1 [z0, (i : Int)] := ⟨d0, by omega⟩
    have hK : ¬ okAt inLocal (· == 46) (sOf z0) i → KBv SB [.bool] 29 [[z0]] [[b01 false]] := fun hn => kk false (by unfold localb; rw [okP_bad hlt hn]; simp)
    have hA : okAt inLocal (· == 46) (sOf z0) i → AdvT (PI inLocal (· == 46) z0) (PM z0) i := adv a1 hlt hall
    refine ⟨hc1, fun z6 f0 f1 h6 => ?_⟩
    have h6 : z6 = (((sOf z0).getD i 0).toNat : Int) := by rw [h6]; simp only [fnD, Int.toNat_natCast]
    have e46 := u8_eq (b := (sOf z0).getD i 0) (z := 46) (by decide) (by decide)
    have hE : ¬ z6 = 46 → ∀ z9 : Int, z9 = b01 (cls ((sOf z0).getD i 0) || signs.contains ((sOf z0).getD i 0)) → (((!decide (z9 = 1)) = true → KBv SB [.bool] 29 [[z0]] [[b01 false]]) ∧ ((!decide (z9 = 1)) = false → AdvT (PI inLocal (· == 46) z0) (PM z0) i)) := fun n46 z9 h9 => by
      have n46' : ((sOf z0).getD i 0 == 46) = false := by
        cases hh : ((sOf z0).getD i 0 == 46) with
        | false => rfl
        | true => exact absurd (h6.trans (e46.2 hh)) n46
      rw [b01_dec h9]
      refine ⟨fun hx => hK fun ho => ?_, fun hx => hA ⟨?_, fun he => ?_, fun hh => ?_⟩⟩
      · have hin := ho.1
        rw [Bool.not_eq_true'] at hx
        unfold inLocal at hin; unfold cls at hx
        rw [hx, n46'] at hin; cases hin
      · rw [Bool.not_eq_false'] at hx
        unfold inLocal; unfold cls at hx; rw [hx]; rfl
      · have he : ((sOf z0).getD i 0 == 46) = true := he
        rw [n46'] at he; cases he
      · rw [hh.1] at n46'; cases n46'
    have hcz := clsZ h6
    refine ⟨fun hA1 => ⟨fun hA2 => ?_, fun hA2 => ?_⟩, fun hA1 => ⟨fun hB1 => ⟨fun hB2 => ?_, fun hB2 => ?_⟩, fun hB1 => ⟨fun hC1 z7 g0 g1 h7 => ?_, fun hC1 => ?_⟩⟩⟩
    · have hA1 : 97 ≤ z6 := by simpa using hA1
      have hA2 : z6 ≤ 122 := by simpa using hA2
      refine signsLoop h6 (by decide) (by decide) fun z9 i0 i1 h9 => hE (by omega) z9 ?_
      rw [h9, hcz]; congr 2; simp; omega
    · have hA1 : 97 ≤ z6 := by simpa using hA1
      have hA2 : ¬ z6 ≤ 122 := by simpa using hA2
      refine signsLoop h6 (by decide) (by decide) fun z9 i0 i1 h9 => hE (by omega) z9 ?_
      rw [h9, hcz]; congr 2; simp; omega
    · have hA1 : ¬ 97 ≤ z6 := by simpa using hA1
      have hB1 : 65 ≤ z6 := by simpa using hB1
      have hB2 : z6 ≤ 90 := by simpa using hB2
      refine signsLoop h6 (by decide) (by decide) fun z9 i0 i1 h9 => hE (by omega) z9 ?_
      rw [h9, hcz]; congr 2; simp; omega
    · have hA1 : ¬ 97 ≤ z6 := by simpa using hA1
      have hB1 : 65 ≤ z6 := by simpa using hB1
      have hB2 : ¬ z6 ≤ 90 := by simpa using hB2
      refine signsLoop h6 (by decide) (by decide) fun z9 i0 i1 h9 => hE (by omega) z9 ?_
      rw [h9, hcz]; congr 2; simp; omega
    · have hA1 : ¬ 97 ≤ z6 := by simpa using hA1
      have hB1 : ¬ 65 ≤ z6 := by simpa using hB1
      have hC1 : 48 ≤ z6 := by simpa using hC1
      refine signsLoop h6 g0 g1 fun z9 i0 i1 h9 => hE (by omega) z9 ?_
      rw [h9, hcz, ← h7]; congr 2; rw [Bool.eq_iff_iff, decide_eq_true_eq, decide_eq_true_eq]; omega
    · have hA1 : ¬ 97 ≤ z6 := by simpa using hA1
      have hB1 : ¬ 65 ≤ z6 := by simpa using hB1
      have hC1 : ¬ 48 ≤ z6 := by simpa using hC1
      refine signsLoop h6 (by decide) (by decide) fun z9 i0 i1 h9 => ⟨fun h46 => ?_, fun h46 => ?_⟩
      · have h46 : z6 = 46 := by simpa using h46
        have hc : (sOf z0).getD i 0 = 46 := beq_iff_eq.1 (e46.1 (by omega))
        have hin : inLocal ((sOf z0).getD i 0) = true := by rw [hc]; decide
        refine ⟨fun hi0 z10 j0 j1 h10 => ?_, fun hi0 => hK fun ho => ?_⟩
        · have hi0 : 0 < (i : Int) := by simpa using hi0
          simp only [fnD] at h10
          refine ⟨fun hl => ⟨⟨by omega, by omega⟩, fun z11 k0 k1 h11 => ?_⟩, fun hl => hK fun ho => ?_⟩
          · have hl : (i : Int) < z10 + -1 := by simpa using hl
            rw [byte_eq (n := 46) (k := i - 1) (by omega) (by decide) (by decide) h11]
            refine ⟨fun hq => hK fun ho => ho.2.2 ⟨hc, by omega, beq_iff_eq.1 hq⟩, fun hq => hA ⟨hin, fun _ => ⟨by omega, by omega⟩, fun hh => ?_⟩⟩
            have : ((sOf z0).getD (i - 1) 0 == u8 46) = true := beq_iff_eq.2 hh.2.2
            rw [this] at hq; cases hq
          · have hl : ¬ (i : Int) < z10 + -1 := by simpa using hl
            have := (ho.2.1 (beq_iff_eq.2 hc)).2
            omega
        · have hi0 : ¬ 0 < (i : Int) := by simpa using hi0
          have := (ho.2.1 (beq_iff_eq.2 hc)).1
          omega
      · have h46 : ¬ z6 = 46 := by simpa using h46
        refine hE h46 z9 ?_
        rw [h9, hcz]; congr 2; simp; omega
  · have hp : ¬ (i : Int) < z5 := by simpa using hp
    unfold localb
    rw [h, h', (okP_at inLocal (· == 46) (sOf z0)).2 fun j hj => hall j (by omega)]; rfl
end Go.Ad
