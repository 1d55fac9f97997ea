/- Pak: a part of the proof of statements of this seat. -/
import Derived.Test.YtpffjcablmkiiaaGreatDoorPaj
import Derived.Test.YtpffjcablmkiiaaGreatDoorPag
import Derived.Test.YtpffjcablmkiiaaGreatDoorProg
import Derived.KernelRfl
set_option maxRecDepth 100000
set_option linter.unusedVariables false
set_option linter.unusedSimpArgs false
namespace Go.Ad
open Go Go.Rx
def B_xr (S : Nat → List (List Int) → List (List Int) → Prop) (K : List (List Int) → List (List Int) → Prop) : Prop :=
 ∀ r0 : List Int, inB [(0, HB), (0, HB), (0, HB), ((-9223372036854775808), 9223372036854775807)] r0 → 
 ∀ z4 : Int, 0 ≤ z4 → z4 ≤ 1 → S 19 [[(List.getD r0 0 0), (List.getD r0 1 0)]] [[z4]] →
 (((decide (z4 = 1)) = true →
  ∀ z5 : Int, 0 ≤ z5 → z5 ≤ 1 → S 207 [[(List.getD r0 2 0)]] [[z5]] →
  (((decide (z5 = 1)) = true →
   (((decide (0 ≤ (List.getD r0 3 0))) = true →
    K [r0] [[(cond (decide ((List.getD r0 3 0) ≤ 1099511627776)) 1 0)]]
   ) ∧ ((decide (0 ≤ (List.getD r0 3 0))) = false →
    K [r0] [[(cond (false) 1 0)]]
   ))
  ) ∧ ((decide (z5 = 1)) = false →
   K [r0] [[(cond (false) 1 0)]]
  ))
 ) ∧ ((decide (z4 = 1)) = false →
  K [r0] [[(cond (false) 1 0)]]
 ))
def B_xR (S : Nat → List (List Int) → List (List Int) → Prop) (K : List (List Int) → List (List Int) → Prop) : Prop :=
 ∀ z0 : Int, 0 ≤ z0 → z0 ≤ RB → 
 ∀ z1 : Int, 0 ≤ z1 →
 ∀ z2 : Int, (-1) ≤ z2 → z2 ≤ 9223372036854775807 → 
 ∀ z3 : Int, 0 ≤ z3 → z3 ≤ 9223372036854775807 → z3 = fnD 20 [z0] →
 (((decide (64 < z3)) = true →
  K [[z0]] [[(cond (false) 1 0)]]
 ) ∧ ((decide (64 < z3)) = false →
  ∃ (I4 : List (List Int) → Prop) (μ4 : List (List Int) → Nat), I4 [[0]] ∧ (∀ z5 : Int, 0 ≤ z5 → z5 ≤ 9223372036854775807 → I4 [[z5]] →
   (((decide (z5 < z3)) = true →
    chkD 30 [z5, z3] ∧
    chkD 21 [z0, z5] ∧
    ∀ z6 : Int, 0 ≤ z6 → z6 ≤ HB → z6 = fnD 21 [z0, z5, 0] →
    ∀ z7 : Int, 0 ≤ z7 → z7 ≤ HB → z7 = fnD 21 [z0, z5, 1] →
    ∀ z8 : Int, 0 ≤ z8 → z8 ≤ HB → z8 = fnD 21 [z0, z5, 2] →
    ∀ z9 : Int, (-9223372036854775808) ≤ z9 → z9 ≤ 9223372036854775807 → z9 = fnD 21 [z0, z5, 3] →
    ∀ z10 : Int, 0 ≤ z10 → z10 ≤ 1 → S 320 [[z6, z7, z8, z9]] [[z10]] →
    ((((!(decide (z10 = 1)))) = true →
     K [[z0]] [[(cond (false) 1 0)]]
    ) ∧ (((!(decide (z10 = 1)))) = false →
     (((decide (0 < z5)) = true →
      chkD 30 [(z5 + (-1)), z3] ∧
      chkD 21 [z0, (z5 + (-1))] ∧
      ∀ z11 : Int, 0 ≤ z11 → z11 ≤ HB → z11 = fnD 21 [z0, (z5 + (-1)), 0] →
      ∀ z12 : Int, 0 ≤ z12 → z12 ≤ HB → z12 = fnD 21 [z0, (z5 + (-1)), 1] →
      chkD 30 [z5, z3] ∧
      chkD 21 [z0, z5] ∧
      ∀ z13 : Int, 0 ≤ z13 → z13 ≤ HB → z13 = fnD 21 [z0, z5, 0] →
      ∀ z14 : Int, 0 ≤ z14 → z14 ≤ HB → z14 = fnD 21 [z0, z5, 1] →
      ∀ z15 : Int, 0 ≤ z15 → z15 ≤ 1 → S 21 [[z11, z12], [z13, z14]] [[z15]] →
      ((((!(decide (z15 = 1)))) = true →
       K [[z0]] [[(cond (false) 1 0)]]
      ) ∧ (((!(decide (z15 = 1)))) = false →
       ∀ z16 : Int, 0 ≤ z16 → z16 ≤ 1 → 0 ≤ (z5 + 9223372036854775809) - 18446744073709551616 * z16 → (z5 + 9223372036854775809) - 18446744073709551616 * z16 < 18446744073709551616 →
       chkD 39 [((z5 + ((-18446744073709551616) * z16)) + 1), 0, 9223372036854775807] ∧
       (I4 [[((z5 + ((-18446744073709551616) * z16)) + 1)]] ∧ μ4 [[((z5 + ((-18446744073709551616) * z16)) + 1)]] < μ4 [[z5]])
      ))
     ) ∧ ((decide (0 < z5)) = false →
      (I4 [[1]] ∧ μ4 [[1]] < μ4 [[z5]])
     ))
    ))
   ) ∧ ((decide (z5 < z3)) = false →
    K [[z0]] [[(cond (true) 1 0)]]
   ))
  )
 ))
def B_xF (S : Nat → List (List Int) → List (List Int) → Prop) (K : List (List Int) → List (List Int) → Prop) : Prop :=
 ∀ z0 : Int, 0 ≤ z0 → z0 ≤ RB → ∀ r1 : List Int, inB (repB 0 HB 2) r1 → 
 ∀ z3 : Int, 0 ≤ z3 →
 ∀ z4 : Int, (-1) ≤ z4 → z4 ≤ 9223372036854775807 → 
 ∀ z5 : Int, 0 ≤ z5 → z5 ≤ 9223372036854775807 → z5 = fnD 20 [z0] →
 ∃ (I6 : List (List Int) → Prop) (μ6 : List (List Int) → Nat), I6 [[0]] ∧ (∀ z7 : Int, 0 ≤ z7 → z7 ≤ 9223372036854775807 → I6 [[z7]] →
  (((decide (z7 < z5)) = true →
   chkD 22 [z0, 0, z5] ∧
   ∀ z8 : Int, 0 ≤ z8 → z8 ≤ RB → z8 = fnD 22 [z0, 0, z5] →
   ∀ z9 : Int, 0 ≤ z9 → z9 ≤ 1 → S 321 [[z8]] [[z9]] →
   (((decide (z9 = 1)) = true →
    chkD 30 [z7, z5] ∧
    chkD 21 [z0, z7] ∧
    ∀ z10 : Int, 0 ≤ z10 → z10 ≤ HB → z10 = fnD 21 [z0, z7, 0] →
    ∀ z11 : Int, 0 ≤ z11 → z11 ≤ HB → z11 = fnD 21 [z0, z7, 1] →
    ∀ z12 : Int, 0 ≤ z12 → z12 ≤ 1 → z12 = fnD 4 [z10, (List.getD r1 0 0)] →
    ∀ z13 : Int, 0 ≤ z13 → z13 ≤ 1 → z13 = fnD 4 [z11, (List.getD r1 1 0)] →
    (((decide ([z12, z13] = [1, 1])) = true →
     chkD 30 [z7, z5] ∧
     chkD 21 [z0, z7] ∧
     ∀ z14 : Int, 0 ≤ z14 → z14 ≤ HB → z14 = fnD 21 [z0, z7, 0] →
     ∀ z15 : Int, 0 ≤ z15 → z15 ≤ HB → z15 = fnD 21 [z0, z7, 1] →
     ∀ z16 : Int, 0 ≤ z16 → z16 ≤ HB → z16 = fnD 21 [z0, z7, 2] →
     ∀ z17 : Int, (-9223372036854775808) ≤ z17 → z17 ≤ 9223372036854775807 → z17 = fnD 21 [z0, z7, 3] →
     K [[z0], r1] [[z14, z15, z16, z17], [(cond (true) 1 0)]]
    ) ∧ ((decide ([z12, z13] = [1, 1])) = false →
     ∀ z14 : Int, 0 ≤ z14 → z14 ≤ 1 → 0 ≤ (z7 + 9223372036854775809) - 18446744073709551616 * z14 → (z7 + 9223372036854775809) - 18446744073709551616 * z14 < 18446744073709551616 →
     chkD 39 [((z7 + ((-18446744073709551616) * z14)) + 1), 0, 9223372036854775807] ∧
     (I6 [[((z7 + ((-18446744073709551616) * z14)) + 1)]] ∧ μ6 [[((z7 + ((-18446744073709551616) * z14)) + 1)]] < μ6 [[z7]])
    ))
   ) ∧ ((decide (z9 = 1)) = false →
    K [[z0], r1] [[0, 0, 0, 0], [(cond (false) 1 0)]]
   ))
  ) ∧ ((decide (z7 < z5)) = false →
   K [[z0], r1] [[0, 0, 0, 0], [(cond (false) 1 0)]]
  ))
 )
def B_xw (S : Nat → List (List Int) → List (List Int) → Prop) (K : List (List Int) → List (List Int) → Prop) : Prop :=
 ∀ z0 : Int, 0 ≤ z0 → z0 ≤ RB → ∀ r1 : List Int, inB (repB 0 HB 2) r1 → 
 chkD 66 [z0, (List.getD r1 0 0), (List.getD r1 1 0)] →
 ∀ z3 : Int, 0 ≤ z3 →
 ∀ z4 : Int, (-1) ≤ z4 → z4 ≤ 9223372036854775807 → 
 ∀ z5 : Int, 0 ≤ z5 → z5 ≤ 9223372036854775807 → z5 = fnD 20 [z0] →
 ∃ (I6 : List (List Int) → Prop) (μ6 : List (List Int) → Nat), I6 [[0], [0], [0], [(-1)]] ∧ (∀ z7 : Int, 0 ≤ z7 → z7 ≤ 9223372036854775807 → ∀ z8 : Int, 0 ≤ z8 → z8 ≤ RB → ∀ z9 : Int, 0 ≤ z9 → z9 ≤ 9223372036854775807 → ∀ z10 : Int, (-1) ≤ z10 → z10 ≤ 9223372036854775807 → I6 [[z7], [z8], [z9], [z10]] →
  (((decide (z7 < z5)) = true →
   chkD 30 [z7, z5] ∧
   chkD 21 [z0, z7] ∧
   ∀ z11 : Int, 0 ≤ z11 → z11 ≤ HB → z11 = fnD 21 [z0, z7, 0] →
   ∀ z12 : Int, 0 ≤ z12 → z12 ≤ HB → z12 = fnD 21 [z0, z7, 1] →
   ∀ z13 : Int, 0 ≤ z13 → z13 ≤ 1 → z13 = fnD 4 [z11, (List.getD r1 0 0)] →
   ∀ z14 : Int, 0 ≤ z14 → z14 ≤ 1 → z14 = fnD 4 [z12, (List.getD r1 1 0)] →
   ((((!(decide ([z13, z14] = [1, 1])))) = true →
    chkD 30 [z7, z5] ∧
    chkD 21 [z0, z7] ∧
    ∀ z15 : Int, 0 ≤ z15 → z15 ≤ HB → z15 = fnD 21 [z0, z7, 0] →
    ∀ z16 : Int, 0 ≤ z16 → z16 ≤ HB → z16 = fnD 21 [z0, z7, 1] →
    ∀ z17 : Int, 0 ≤ z17 → z17 ≤ HB → z17 = fnD 21 [z0, z7, 2] →
    ∀ z18 : Int, (-9223372036854775808) ≤ z18 → z18 ≤ 9223372036854775807 → z18 = fnD 21 [z0, z7, 3] →
    chkD 31 [z8, z9] ∧
    chkD 23 [z8, 1] ∧
    ∀ z19 : Int, 0 ≤ z19 → z19 ≤ RB → z19 = fnD 23 [z8, z15, z16, z17, z18] →
    ∀ z20 : Int, (-1) ≤ z20 → z20 ≤ 9223372036854775807 → 
    ∀ z21 : Int, 0 ≤ z21 → z21 ≤ 1 → 0 ≤ (z7 + 9223372036854775809) - 18446744073709551616 * z21 → (z7 + 9223372036854775809) - 18446744073709551616 * z21 < 18446744073709551616 →
    chkD 39 [((z7 + ((-18446744073709551616) * z21)) + 1), 0, 9223372036854775807] ∧
    (I6 [[((z7 + ((-18446744073709551616) * z21)) + 1)], [z19], [(z9 + 1)], [z20]] ∧ μ6 [[((z7 + ((-18446744073709551616) * z21)) + 1)], [z19], [(z9 + 1)], [z20]] < μ6 [[z7], [z8], [z9], [z10]])
   ) ∧ (((!(decide ([z13, z14] = [1, 1])))) = false →
    ∀ z15 : Int, 0 ≤ z15 → z15 ≤ 1 → 0 ≤ (z7 + 9223372036854775809) - 18446744073709551616 * z15 → (z7 + 9223372036854775809) - 18446744073709551616 * z15 < 18446744073709551616 →
    chkD 39 [((z7 + ((-18446744073709551616) * z15)) + 1), 0, 9223372036854775807] ∧
    (I6 [[((z7 + ((-18446744073709551616) * z15)) + 1)], [z8], [z9], [z10]] ∧ μ6 [[((z7 + ((-18446744073709551616) * z15)) + 1)], [z8], [z9], [z10]] < μ6 [[z7], [z8], [z9], [z10]])
   ))
  ) ∧ ((decide (z7 < z5)) = false →
   chkD 22 [z8, 0, z9] ∧
   ∀ z11 : Int, 0 ≤ z11 → z11 ≤ RB → z11 = fnD 22 [z8, 0, z9] →
   K [[z0], r1] [[z11]]
  ))
 )
/-! ### Bonds: the document's functions -/
theorem bd_dec {r s : List Int} {x y z : Int} (hx : x = fnD 4 [r.getD 0 0, s.getD 0 0]) (hy : y = fnD 4 [r.getD 1 0, s.getD 1 0]) (hz : z = fnD 4 [r.getD 2 0, s.getD 2 0]) : (decide ([x, y] = [1, 1]) && decide ([z, r.getD 3 0] = [1, s.getD 3 0])) = decide (bdOf r = bdOf s) := by
  have hx := eq_dec hx
  have hy := eq_dec hy
  have hz := eq_dec hz
  have e : decide (bdOf r = bdOf s) = ((decide (sOf (r.getD 0 0) = sOf (s.getD 0 0)) && decide (sOf (r.getD 1 0) = sOf (s.getD 1 0))) && (decide (sOf (r.getD 2 0) = sOf (s.getD 2 0)) && decide (r.getD 3 0 = s.getD 3 0))) := by
    rw [Bool.eq_iff_iff]
    simp [bdOf, whoOf, Prod.ext_iff]
  rw [e, ← hx, ← hy, ← hz, Bool.eq_iff_iff]
  simp
theorem who_dec {r s : List Int} {x y : Int} (hx : x = fnD 4 [r.getD 0 0, s.getD 0 0]) (hy : y = fnD 4 [r.getD 1 0, s.getD 1 0]) : decide ([x, y] = [1, 1]) = decide (whoOf r = whoOf s) := by
  have hx := eq_dec hx
  have hy := eq_dec hy
  have e : decide (whoOf r = whoOf s) = (decide (sOf (r.getD 0 0) = sOf (s.getD 0 0)) && decide (sOf (r.getD 1 0) = sOf (s.getD 1 0))) := by
    rw [Bool.eq_iff_iff]
    simp [whoOf, Prod.ext_iff]
  rw [e, ← hx, ← hy, Bool.eq_iff_iff]
  simp
theorem p_xr : B_xr SB (KBv SB [.bool] 320) := by
  intro r0 hr
  have kk : ∀ b : Bool, bOk (bdOf r0) = b → KBv SB [.bool] 320 [r0] [[b01 b]] := fun b h => kb (by show b01 b = b01 (bOk (bdOf r0)); rw [h])
  have e0 : bOk (bdOf r0) = (decide (0 ≤ r0.getD 3 0) && (decide (r0.getD 3 0 ≤ 1099511627776) && (rightF (sOf (r0.getD 0 0)) (sOf (r0.getD 1 0)) && userb (sOf (r0.getD 2 0))))) := rfl
  intro z4 _ _ hS
  have hS : z4 = b01 (rightF (sOf (r0.getD 0 0)) (sOf (r0.getD 1 0))) := hS
  have hS := b01_dec hS
  refine ⟨fun h1 z5 _ _ hT => ?_, fun h1 => kk false (by rw [e0, ← hS, h1]; simp)⟩
  have hT : z5 = b01 (userb (sOf (r0.getD 2 0))) := hT
  have hT := b01_dec hT
  refine ⟨fun h2 => ⟨fun h3 => kk (decide (r0.getD 3 0 ≤ 1099511627776)) (by rw [e0, ← hS, ← hT, h1, h2, h3]; simp), fun h3 => kk false (by rw [e0, h3]; simp)⟩, fun h2 => kk false (by rw [e0, ← hT, h2]; simp)⟩
theorem p_xR : B_xR SB (KBb SB [.d .bool] 321) := by
  intro z0 a0 a1 z1 _ z2 _ _ z3 b0 b1 h3
  have h3 : z3 = ((rOf z0).length : Int) := h3
  have hlen := bds_len z0
  have kk : ∀ b : Bool, rightL (bds z0) = b → KBb SB [.d .bool] 321 [[z0]] [[cond b 1 0]] := fun b h => ⟨by cases b <;> exact ⟨by decide, by decide, trivial⟩, by show cond b (1 : Int) 0 = b01 (rightL (bds z0)); rw [h]; rfl⟩
  have kno : (¬ ((bds z0).length ≤ 64 ∧ ∀ j, j < (bds z0).length → bOk ((bds z0).getD j bd0) = true ∧ (0 < j → lessA ((bds z0).getD (j - 1) bd0).1 ((bds z0).getD j bd0).1 = true))) → KBb SB [.d .bool] 321 [[z0]] [[cond false 1 0]] := fun h => kk false (by
    cases hr : rightL (bds z0) with
    | false => rfl
    | true => exact absurd ((rightL_iff _).1 hr) h)
  refine ⟨fun h => kno (fun h2 => by have := of_decide_eq_true h; have := h2.1; omega), fun h64 => ?_⟩
  have h64 := of_decide_eq_false h64
  refine ⟨RiI z0, RiM z0, ⟨0, rfl, Nat.zero_le _, fun j h => absurd h (Nat.not_lt_zero j)⟩, ?_⟩
  rintro z5 c0 c1 ⟨i, e, hi, hI⟩
  obtain rfl : z5 = i := by simpa using e
  refine ⟨fun hlt => ?_, fun hge => kk true ((rightL_iff _).2 ⟨by omega, fun j hj => hI j (by have := of_decide_eq_false hge; omega)⟩)⟩
  have hlt := of_decide_eq_true hlt
  have hil : i < (rOf z0).length := by omega
  refine ⟨⟨by omega, by omega⟩, ⟨by omega, by omega⟩, fun z6 _ _ h6 z7 _ _ h7 z8 _ _ h8 z9 _ _ h9 z10 _ _ h10 => ?_⟩
  have hrow := row_bd (k := i) rfl h6 h7 h8 h9 hil
  have h10 : z10 = b01 (bOk (bdOf [z6, z7, z8, z9])) := h10
  rw [hrow] at h10
  have hd := b01_dec h10
  refine ⟨fun hb => kno (fun h2 => ?_), fun hb => ?_⟩
  · rw [hd, (h2.2 i (by omega)).1] at hb; cases hb
  have hok : bOk ((bds z0).getD i bd0) = true := by
    rw [hd] at hb
    cases hx : bOk ((bds z0).getD i bd0) with
    | true => rfl
    | false => rw [hx] at hb; cases hb
  refine ⟨fun hp => ?_, fun hp => ?_⟩
  · have hp := of_decide_eq_true hp
    have hi1 : (i : Int) + (-1) = ((i - 1 : Nat) : Int) := by omega
    refine ⟨⟨by omega, by omega⟩, ⟨by omega, by omega⟩, fun z11 _ _ h11 z12 _ _ h12 => ⟨⟨by omega, by omega⟩, ⟨by omega, by omega⟩, fun z13 _ _ h13 z14 _ _ h14 z15 _ _ h15 => ?_⟩⟩
    have h15 : z15 = b01 (lessA (whoOf [z11, z12]) (whoOf [z13, z14])) := h15
    rw [row_who (k := i - 1) hi1 h11 h12 (by omega), row_who (k := i) rfl h13 h14 hil] at h15
    have hd := b01_dec h15
    refine ⟨fun hc => kno (fun h2 => ?_), fun hc z16 d0 d1 d2 d3 => ⟨⟨by omega, by omega⟩, ⟨i + 1, by rw [show ((i : Int) + (-18446744073709551616) * z16) + 1 = ((i + 1 : Nat) : Int) by omega], by omega, fun j hj => ?_⟩, ?_⟩⟩
    · rw [hd, (h2.2 i (by omega)).2 (by omega)] at hc; cases hc
    · rcases Nat.lt_or_ge j i with h | h
      · exact hI j h
      · obtain rfl : j = i := by omega
        refine ⟨hok, fun _ => ?_⟩
        rw [hd] at hc
        simpa using hc
    · show (bds z0).length - (((i : Int) + (-18446744073709551616) * z16) + 1).toNat < (bds z0).length - ((i : Int)).toNat; omega
  · have hp := of_decide_eq_false hp
    obtain rfl : i = 0 := by omega
    refine ⟨⟨1, rfl, by omega, fun j hj => ?_⟩, ?_⟩
    · obtain rfl : j = 0 := by omega
      exact ⟨hok, fun h => absurd h (Nat.lt_irrefl 0)⟩
    · show (bds z0).length - (1 : Int).toNat < (bds z0).length - ((0 : Nat) : Int).toNat; omega
theorem right_of {z : Int} {l : List Bd} (h : z = b01 (rightL l)) : (decide (z = 1) = true → rightL l = true) ∧ (decide (z = 1) = false → rightL l = false) := by
  have hd := b01_dec h
  exact ⟨fun h => by rw [← hd]; exact h, fun h => by rw [← hd]; exact h⟩
def FiI (z0 : Int) (w : Tx × Tx) (bl : List (List Int)) : Prop := ∃ i : Nat, bl = [[(i : Int)]] ∧ i ≤ (bds z0).length ∧ ∀ j, j < i → ((bds z0).getD j bd0).1 ≠ w
theorem p_xF : B_xF SB (KBb SB [dBB, .d .bool] 322) := by
  intro z0 a0 a1 r1 hr1 z3 _ z4 _ _ z5 b0 b1 h5
  have h5 : z5 = ((rOf z0).length : Int) := h5
  have hlen := bds_len z0
  have kno : findL (bds z0) (whoOf r1) = none → KBb SB [dBB, .d .bool] 322 [[z0], r1] [[0, 0, 0, 0], [cond false 1 0]] := fun h => by
    refine ⟨⟨Int.le_refl _, HB_pos, Int.le_refl _, HB_pos, Int.le_refl _, HB_pos, by decide, by decide, by decide, by decide, trivial⟩, ?_⟩
    show (match findL (bds z0) (whoOf r1) with | some b => bdOf [0, 0, 0, 0] = b ∧ (0 : Int) = 1 | none => bdOf [0, 0, 0, 0] = bd0 ∧ (0 : Int) = 0)
    rw [h]; exact ⟨by decide, rfl⟩
  refine ⟨FiI z0 (whoOf r1), RiM z0, ⟨0, rfl, Nat.zero_le _, fun j h => absurd h (Nat.not_lt_zero j)⟩, ?_⟩
  rintro z7 c0 c1 ⟨i, e, hi, hI⟩
  obtain rfl : z7 = i := by simpa using e
  have W := fun y => whole_bds (z := z0) (y := y) h5
  refine ⟨fun hlt => ⟨(W 0).1, fun z8 _ _ h8 z9 _ _ h9 => ?_⟩, fun hge => kno ?_⟩
  rotate_left
  · have hge := of_decide_eq_false hge
    unfold findL
    rw [find_no fun j hj => hI j (by omega)]
    cases rightL (bds z0) <;> rfl
  have hlt := of_decide_eq_true hlt
  have hil : i < (rOf z0).length := by omega
  have h9 : z9 = b01 (rightL (bds z8)) := h9
  rw [bds_same ((W z8).2 h8)] at h9
  refine ⟨fun hr => ?_, fun hr => kno (by unfold findL; rw [(right_of h9).2 hr]; rfl)⟩
  have hr := (right_of h9).1 hr
  refine ⟨⟨by omega, by omega⟩, ⟨by omega, by omega⟩, fun z10 _ _ h10 z11 _ _ h11 z12 _ _ h12 z13 _ _ h13 => ?_⟩
  have hw := who_dec (r := [z10, z11]) (s := r1) h12 h13
  rw [row_who (k := i) rfl h10 h11 hil] at hw
  refine ⟨fun hq => ⟨⟨by omega, by omega⟩, ⟨by omega, by omega⟩, fun z14 e0 e1 h14 z15 f0 f1 h15 z16 g0 g1 h16 z17 i0 i1 h17 => ⟨⟨e0, e1, f0, f1, g0, g1, i0, i1, by decide, by decide, trivial⟩, ?_⟩⟩, fun hq z14 d0 d1 d2 d3 => ⟨⟨by omega, by omega⟩, ⟨i + 1, by rw [show ((i : Int) + (-18446744073709551616) * z14) + 1 = ((i + 1 : Nat) : Int) by omega], by omega, fun j hj => ?_⟩, ?_⟩⟩
  · rw [hw] at hq
    have hq := of_decide_eq_true hq
    show (match findL (bds z0) (whoOf r1) with | some b => bdOf [z14, z15, z16, z17] = b ∧ (1 : Int) = 1 | none => bdOf [z14, z15, z16, z17] = bd0 ∧ (1 : Int) = 0)
    unfold findL
    rw [hr, cond_true, find_at (i := i) (by omega) hq hI]
    exact ⟨row_bd (k := i) rfl h14 h15 h16 h17 hil, rfl⟩
  · rw [hw] at hq
    have hq := of_decide_eq_false hq
    rcases Nat.lt_or_ge j i with h | h
    · exact hI j h
    · obtain rfl : j = i := by omega
      exact hq
  · show (bds z0).length - (((i : Int) + (-18446744073709551616) * z14) + 1).toNat < (bds z0).length - ((i : Int)).toNat; omega
theorem bds_push {c y : Int} {row : List Int} (h : y = fnD 23 (c :: row)) : rOf y = rOf c ++ [row] ∧ bds y = bds c ++ [bdOf row] := by
  have e : rOf y = rOf c ++ [row] := by rw [h]; show rOf (rc _) = _; exact rOf_rc _
  exact ⟨e, by unfold bds; rw [e]; simp⟩
theorem take_bds {z : Int} {i : Nat} (h : i < (bds z).length) : (bds z).take (i + 1) = (bds z).take i ++ [(bds z).getD i bd0] := by
  rw [List.take_add_one, List.getElem?_eq_getElem h]; simp [List.getD, h]
def WiI (z0 : Int) (w : Tx × Tx) (bl : List (List Int)) : Prop := ∃ (i : Nat) (r n c : Int), bl = [[(i : Int)], [r], [n], [c]] ∧ i ≤ (bds z0).length ∧ n = ((rOf r).length : Int) ∧ (rOf r).length ≤ i ∧ bds r = ((bds z0).take i).filter (fun b => !(b.1 == w))
theorem p_xw : B_xw SB (KBb SB [.ow [.str, .str, .str, .int .i64 (-9223372036854775808) 9223372036854775807] 0] 323) := by
  intro z0 a0 a1 r1 hr1 hpre z3 _ z4 _ _ z5 b0 b1 h5
  have h5 : z5 = ((rOf z0).length : Int) := h5
  have hpre : (rOf z0).length ≤ 1000000 := hpre
  have hlen := bds_len z0
  refine ⟨WiI z0 (whoOf r1), RiM z0, ⟨0, 0, 0, -1, rfl, Nat.zero_le _, by rw [Go.Rx.rOf_zero]; rfl, by rw [Go.Rx.rOf_zero]; exact Nat.le_refl _, by rw [bds_zero]; rfl⟩, ?_⟩
  rintro z7 c0 c1 z8 d0 d1 z9 _ _ z10 _ _ ⟨i, r, n, c, e, hi, hn, hni, hI⟩
  obtain ⟨rfl, rfl, rfl, rfl⟩ : z7 = i ∧ z8 = r ∧ z9 = n ∧ z10 = c := by simpa using e
  refine ⟨fun hlt => ?_, fun hge => ⟨(whole_bds (y := 0) hn).1, fun z11 e0 e1 h11 => ⟨⟨e0, e1, trivial⟩, ?_⟩⟩⟩
  rotate_left
  · have hge := of_decide_eq_false hge
    show bds z11 = (bds z0).filter (fun b => !(b.1 == whoOf r1))
    rw [bds_same ((whole_bds (y := z11) hn).2 h11), hI, List.take_of_length_le (by omega)]
  have hlt := of_decide_eq_true hlt
  have hil : i < (rOf z0).length := by omega
  refine ⟨⟨by omega, by omega⟩, ⟨by omega, by omega⟩, fun z11 _ _ h11 z12 _ _ h12 z13 _ _ h13 z14 _ _ h14 => ?_⟩
  have hw := who_dec (r := [z11, z12]) (s := r1) h13 h14
  rw [row_who (k := i) rfl h11 h12 hil] at hw
  refine ⟨fun hq => ⟨⟨by omega, by omega⟩, ⟨by omega, by omega⟩, fun z15 _ _ h15 z16 _ _ h16 z17 _ _ h17 z18 _ _ h18 => ⟨hn, ⟨by show (rOf z8).length + (1 : Int) ≤ 1073741824; omega, fun z19 _ _ h19 z20 _ _ z21 _ _ _ _ => ⟨⟨by omega, by omega⟩, ⟨i + 1, z19, z9 + 1, z20, ?_, by omega, ?_, ?_, ?_⟩, ?_⟩⟩⟩⟩, fun hq z15 _ _ _ _ => ⟨⟨by omega, by omega⟩, ⟨i + 1, z8, z9, z10, ?_, by omega, hn, by omega, ?_⟩, ?_⟩⟩
  · rw [show ((i : Int) + (-18446744073709551616) * z21) + 1 = ((i + 1 : Nat) : Int) by omega]
  · rw [(bds_push h19).1]; simp; omega
  · rw [(bds_push h19).1]; simp; omega
  · rw [(bds_push h19).2, row_bd (k := i) rfl h15 h16 h17 h18 hil, take_bds (by omega), List.filter_append, hI]
    congr 1
    rw [hw] at hq
    rw [List.filter_cons_of_pos (by simpa using hq)]
    rfl
  · show (bds z0).length - (((i : Int) + (-18446744073709551616) * z21) + 1).toNat < (bds z0).length - ((i : Int)).toNat; omega
  · rw [show ((i : Int) + (-18446744073709551616) * z15) + 1 = ((i + 1 : Nat) : Int) by omega]
  · rw [take_bds (by omega), List.filter_append, hI]
    rw [hw] at hq
    rw [List.filter_cons_of_neg (by simpa using hq)]
    simp
  · show (bds z0).length - (((i : Int) + (-18446744073709551616) * z15) + 1).toNat < (bds z0).length - ((i : Int)).toNat; omega

end Go.Ad

set_option maxRecDepth 100000
set_option linter.unusedVariables false
set_option linter.unusedSimpArgs false
namespace Go.Ad
open Go Go.Rx
def B_xB (S : Nat → List (List Int) → List (List Int) → Prop) (K : List (List Int) → List (List Int) → Prop) : Prop :=
 ∀ z0 : Int, 0 ≤ z0 → z0 ≤ RB → ∀ r1 : List Int, inB [(0, HB), (0, HB), (0, HB), ((-9223372036854775808), 9223372036854775807)] r1 → 
 ∀ z5 : Int, 0 ≤ z5 →
 ∀ z6 : Int, (-1) ≤ z6 → z6 ≤ 9223372036854775807 → 
 ∀ z7 : Int, 0 ≤ z7 → z7 ≤ 9223372036854775807 → z7 = fnD 20 [z0] →
 chkD 22 [z0, 0, z7] ∧
 ∀ z8 : Int, 0 ≤ z8 → z8 ≤ RB → z8 = fnD 22 [z0, 0, z7] →
 ∀ z9 : Int, 0 ≤ z9 → z9 ≤ 1 → S 321 [[z8]] [[z9]] →
 ((((!(decide (z9 = 1)))) = true →
  chkD 22 [z0, 0, z7] ∧
  ∀ z10 : Int, 0 ≤ z10 → z10 ≤ RB → z10 = fnD 22 [z0, 0, z7] →
  K [[z0], r1] [[z10], [1]]
 ) ∧ (((!(decide (z9 = 1)))) = false →
  ∀ z10 : Int, 0 ≤ z10 → z10 ≤ 1 → S 320 [r1] [[z10]] →
  ((((!(decide (z10 = 1)))) = true →
   chkD 22 [z0, 0, z7] ∧
   ∀ z11 : Int, 0 ≤ z11 → z11 ≤ RB → z11 = fnD 22 [z0, 0, z7] →
   K [[z0], r1] [[z11], [1]]
  ) ∧ (((!(decide (z10 = 1)))) = false →
   chkD 22 [z0, 0, z7] ∧
   ∀ z11 : Int, 0 ≤ z11 → z11 ≤ RB → z11 = fnD 22 [z0, 0, z7] →
   chkD 66 [z11, (List.getD r1 0 0), (List.getD r1 1 0)] ∧
   ∀ z12 : Int, 0 ≤ z12 → z12 ≤ RB → S 323 [[z11], [(List.getD r1 0 0), (List.getD r1 1 0)]] [[z12]] →
   ∀ z13 : Int, (-1) ≤ z13 → z13 ≤ 9223372036854775807 → 
   ∀ z14 : Int, 0 ≤ z14 → z14 ≤ 9223372036854775807 → z14 = fnD 20 [z12] →
   (((decide (z14 = 64)) = true →
    chkD 22 [z0, 0, z7] ∧
    ∀ z15 : Int, 0 ≤ z15 → z15 ≤ RB → z15 = fnD 22 [z0, 0, z7] →
    K [[z0], r1] [[z15], [10]]
   ) ∧ ((decide (z14 = 64)) = false →
    ∃ (I15 : List (List Int) → Prop) (μ15 : List (List Int) → Nat), I15 [[0], [0], [0], [0], [(-1)]] ∧ (∀ z16 : Int, 0 ≤ z16 → z16 ≤ 9223372036854775807 → ∀ z17 : Int, 0 ≤ z17 → z17 ≤ 1 → ∀ z18 : Int, 0 ≤ z18 → z18 ≤ RB → ∀ z19 : Int, 0 ≤ z19 → z19 ≤ 9223372036854775807 → ∀ z20 : Int, (-1) ≤ z20 → z20 ≤ 9223372036854775807 → I15 [[z16], [z17], [z18], [z19], [z20]] →
     (((decide (z16 < z14)) = true →
      ((((!(decide (z17 = 1)))) = true →
       chkD 30 [z16, z14] ∧
       chkD 21 [z12, z16] ∧
       ∀ z21 : Int, 0 ≤ z21 → z21 ≤ HB → z21 = fnD 21 [z12, z16, 0] →
       ∀ z22 : Int, 0 ≤ z22 → z22 ≤ HB → z22 = fnD 21 [z12, z16, 1] →
       ∀ z23 : Int, 0 ≤ z23 → z23 ≤ 1 → S 21 [[(List.getD r1 0 0), (List.getD r1 1 0)], [z21, z22]] [[z23]] →
       (((decide (z23 = 1)) = true →
        chkD 31 [z18, z19] ∧
        chkD 23 [z18, 1] ∧
        ∀ z24 : Int, 0 ≤ z24 → z24 ≤ RB → z24 = fnD 23 [z18, (List.getD r1 0 0), (List.getD r1 1 0), (List.getD r1 2 0), (List.getD r1 3 0)] →
        ∀ z25 : Int, (-1) ≤ z25 → z25 ≤ 9223372036854775807 → 
        chkD 30 [z16, z14] ∧
        chkD 21 [z12, z16] ∧
        ∀ z26 : Int, 0 ≤ z26 → z26 ≤ HB → z26 = fnD 21 [z12, z16, 0] →
        ∀ z27 : Int, 0 ≤ z27 → z27 ≤ HB → z27 = fnD 21 [z12, z16, 1] →
        ∀ z28 : Int, 0 ≤ z28 → z28 ≤ HB → z28 = fnD 21 [z12, z16, 2] →
        ∀ z29 : Int, (-9223372036854775808) ≤ z29 → z29 ≤ 9223372036854775807 → z29 = fnD 21 [z12, z16, 3] →
        chkD 31 [z24, (z19 + 1)] ∧
        chkD 23 [z24, 1] ∧
        ∀ z30 : Int, 0 ≤ z30 → z30 ≤ RB → z30 = fnD 23 [z24, z26, z27, z28, z29] →
        ∀ z31 : Int, (-1) ≤ z31 → z31 ≤ 9223372036854775807 → 
        ∀ z32 : Int, 0 ≤ z32 → z32 ≤ 1 → 0 ≤ (z16 + 9223372036854775809) - 18446744073709551616 * z32 → (z16 + 9223372036854775809) - 18446744073709551616 * z32 < 18446744073709551616 →
        chkD 39 [((z16 + ((-18446744073709551616) * z32)) + 1), 0, 9223372036854775807] ∧
        (I15 [[((z16 + ((-18446744073709551616) * z32)) + 1)], [1], [z30], [(z19 + 2)], [z31]] ∧ μ15 [[((z16 + ((-18446744073709551616) * z32)) + 1)], [1], [z30], [(z19 + 2)], [z31]] < μ15 [[z16], [z17], [z18], [z19], [z20]])
       ) ∧ ((decide (z23 = 1)) = false →
        chkD 30 [z16, z14] ∧
        chkD 21 [z12, z16] ∧
        ∀ z24 : Int, 0 ≤ z24 → z24 ≤ HB → z24 = fnD 21 [z12, z16, 0] →
        ∀ z25 : Int, 0 ≤ z25 → z25 ≤ HB → z25 = fnD 21 [z12, z16, 1] →
        ∀ z26 : Int, 0 ≤ z26 → z26 ≤ HB → z26 = fnD 21 [z12, z16, 2] →
        ∀ z27 : Int, (-9223372036854775808) ≤ z27 → z27 ≤ 9223372036854775807 → z27 = fnD 21 [z12, z16, 3] →
        chkD 31 [z18, z19] ∧
        chkD 23 [z18, 1] ∧
        ∀ z28 : Int, 0 ≤ z28 → z28 ≤ RB → z28 = fnD 23 [z18, z24, z25, z26, z27] →
        ∀ z29 : Int, (-1) ≤ z29 → z29 ≤ 9223372036854775807 → 
        ∀ z30 : Int, 0 ≤ z30 → z30 ≤ 1 → 0 ≤ (z16 + 9223372036854775809) - 18446744073709551616 * z30 → (z16 + 9223372036854775809) - 18446744073709551616 * z30 < 18446744073709551616 →
        chkD 39 [((z16 + ((-18446744073709551616) * z30)) + 1), 0, 9223372036854775807] ∧
        ∀ z31 : Int, 0 ≤ z31 → z31 ≤ 1 → decide (z17 = 1) = decide (z31 = 1) →
        (I15 [[((z16 + ((-18446744073709551616) * z30)) + 1)], [z31], [z28], [(z19 + 1)], [z29]] ∧ μ15 [[((z16 + ((-18446744073709551616) * z30)) + 1)], [z31], [z28], [(z19 + 1)], [z29]] < μ15 [[z16], [z17], [z18], [z19], [z20]])
       ))
      ) ∧ (((!(decide (z17 = 1)))) = false →
       chkD 30 [z16, z14] ∧
       chkD 21 [z12, z16] ∧
       ∀ z21 : Int, 0 ≤ z21 → z21 ≤ HB → z21 = fnD 21 [z12, z16, 0] →
       ∀ z22 : Int, 0 ≤ z22 → z22 ≤ HB → z22 = fnD 21 [z12, z16, 1] →
       ∀ z23 : Int, 0 ≤ z23 → z23 ≤ HB → z23 = fnD 21 [z12, z16, 2] →
       ∀ z24 : Int, (-9223372036854775808) ≤ z24 → z24 ≤ 9223372036854775807 → z24 = fnD 21 [z12, z16, 3] →
       chkD 31 [z18, z19] ∧
       chkD 23 [z18, 1] ∧
       ∀ z25 : Int, 0 ≤ z25 → z25 ≤ RB → z25 = fnD 23 [z18, z21, z22, z23, z24] →
       ∀ z26 : Int, (-1) ≤ z26 → z26 ≤ 9223372036854775807 → 
       ∀ z27 : Int, 0 ≤ z27 → z27 ≤ 1 → 0 ≤ (z16 + 9223372036854775809) - 18446744073709551616 * z27 → (z16 + 9223372036854775809) - 18446744073709551616 * z27 < 18446744073709551616 →
       chkD 39 [((z16 + ((-18446744073709551616) * z27)) + 1), 0, 9223372036854775807] ∧
       ∀ z28 : Int, 0 ≤ z28 → z28 ≤ 1 → decide (z17 = 1) = decide (z28 = 1) →
       (I15 [[((z16 + ((-18446744073709551616) * z27)) + 1)], [z28], [z25], [(z19 + 1)], [z26]] ∧ μ15 [[((z16 + ((-18446744073709551616) * z27)) + 1)], [z28], [z25], [(z19 + 1)], [z26]] < μ15 [[z16], [z17], [z18], [z19], [z20]])
      ))
     ) ∧ ((decide (z16 < z14)) = false →
      ((((!(decide (z17 = 1)))) = true →
       chkD 31 [z18, z19] ∧
       chkD 23 [z18, 1] ∧
       ∀ z21 : Int, 0 ≤ z21 → z21 ≤ RB → z21 = fnD 23 [z18, (List.getD r1 0 0), (List.getD r1 1 0), (List.getD r1 2 0), (List.getD r1 3 0)] →
       ∀ z22 : Int, (-1) ≤ z22 → z22 ≤ 9223372036854775807 → 
       chkD 22 [z21, 0, (z19 + 1)] ∧
       ∀ z23 : Int, 0 ≤ z23 → z23 ≤ RB → z23 = fnD 22 [z21, 0, (z19 + 1)] →
       K [[z0], r1] [[z23], [0]]
      ) ∧ (((!(decide (z17 = 1)))) = false →
       chkD 22 [z18, 0, z19] ∧
       ∀ z21 : Int, 0 ≤ z21 → z21 ≤ RB → z21 = fnD 22 [z18, 0, z19] →
       K [[z0], r1] [[z21], [0]]
      ))
     ))
    )
   ))
  ))
 ))
def B_xU (S : Nat → List (List Int) → List (List Int) → Prop) (K : List (List Int) → List (List Int) → Prop) : Prop :=
 ∀ z0 : Int, 0 ≤ z0 → z0 ≤ RB → ∀ r1 : List Int, inB [(0, HB), (0, HB), (0, HB), ((-9223372036854775808), 9223372036854775807)] r1 → 
 ∀ z5 : Int, 0 ≤ z5 →
 ∀ z6 : Int, (-1) ≤ z6 → z6 ≤ 9223372036854775807 → 
 ∀ z7 : Int, 0 ≤ z7 → z7 ≤ 9223372036854775807 → z7 = fnD 20 [z0] →
 chkD 22 [z0, 0, z7] ∧
 ∀ z8 : Int, 0 ≤ z8 → z8 ≤ RB → z8 = fnD 22 [z0, 0, z7] →
 ∀ z9 : Int, 0 ≤ z9 → z9 ≤ 1 → S 321 [[z8]] [[z9]] →
 ((((!(decide (z9 = 1)))) = true →
  chkD 22 [z0, 0, z7] ∧
  ∀ z10 : Int, 0 ≤ z10 → z10 ≤ RB → z10 = fnD 22 [z0, 0, z7] →
  K [[z0], r1] [[z10], [1]]
 ) ∧ (((!(decide (z9 = 1)))) = false →
  chkD 22 [z0, 0, z7] ∧
  ∀ z10 : Int, 0 ≤ z10 → z10 ≤ RB → z10 = fnD 22 [z0, 0, z7] →
  ∀ r11 : List Int, inB [(0, HB), (0, HB), (0, HB), ((-9223372036854775808), 9223372036854775807)] r11 → ∀ z15 : Int, 0 ≤ z15 → z15 ≤ 1 → S 322 [[z10], [(List.getD r1 0 0), (List.getD r1 1 0)]] [r11, [z15]] →
  ((((!(decide (z15 = 1)))) = true →
   chkD 22 [z0, 0, z7] ∧
   ∀ z16 : Int, 0 ≤ z16 → z16 ≤ RB → z16 = fnD 22 [z0, 0, z7] →
   K [[z0], r1] [[z16], [7]]
  ) ∧ (((!(decide (z15 = 1)))) = false →
   ∀ z16 : Int, 0 ≤ z16 → z16 ≤ 1 → z16 = fnD 4 [(List.getD r11 2 0), (List.getD r1 2 0)] →
   ((((!(decide (z16 = 1)))) = true →
    chkD 22 [z0, 0, z7] ∧
    ∀ z17 : Int, 0 ≤ z17 → z17 ≤ RB → z17 = fnD 22 [z0, 0, z7] →
    K [[z0], r1] [[z17], [14]]
   ) ∧ (((!(decide (z16 = 1)))) = false →
    chkD 22 [z0, 0, z7] ∧
    ∀ z17 : Int, 0 ≤ z17 → z17 ≤ RB → z17 = fnD 22 [z0, 0, z7] →
    chkD 66 [z17, (List.getD r1 0 0), (List.getD r1 1 0)] ∧
    ∀ z18 : Int, 0 ≤ z18 → z18 ≤ RB → S 323 [[z17], [(List.getD r1 0 0), (List.getD r1 1 0)]] [[z18]] →
    ∀ z19 : Int, (-1) ≤ z19 → z19 ≤ 9223372036854775807 → 
    ∀ z20 : Int, 0 ≤ z20 → z20 ≤ 9223372036854775807 → z20 = fnD 20 [z18] →
    chkD 22 [z18, 0, z20] ∧
    ∀ z21 : Int, 0 ≤ z21 → z21 ≤ RB → z21 = fnD 22 [z18, 0, z20] →
    K [[z0], r1] [[z21], [0]]
   ))
  ))
 ))
def B_xO (S : Nat → List (List Int) → List (List Int) → Prop) (K : List (List Int) → List (List Int) → Prop) : Prop :=
 ∀ z0 : Int, 0 ≤ z0 → z0 ≤ RB → ∀ z1 : Int, 0 ≤ z1 → z1 ≤ HB → 
 ∀ z2 : Int, 0 ≤ z2 →
 ∀ z3 : Int, (-1) ≤ z3 → z3 ≤ 9223372036854775807 → 
 ∀ z4 : Int, 0 ≤ z4 → z4 ≤ 9223372036854775807 → z4 = fnD 20 [z0] →
 ∃ (I5 : List (List Int) → Prop) (μ5 : List (List Int) → Nat), I5 [[0], [0], [0], [(-1)]] ∧ (∀ z6 : Int, 0 ≤ z6 → z6 ≤ 9223372036854775807 → ∀ z7 : Int, 0 ≤ z7 → z7 ≤ RB → ∀ z8 : Int, 0 ≤ z8 → z8 ≤ 9223372036854775807 → ∀ z9 : Int, (-1) ≤ z9 → z9 ≤ 9223372036854775807 → I5 [[z6], [z7], [z8], [z9]] →
  (((decide (z6 < z4)) = true →
   chkD 22 [z0, 0, z4] ∧
   ∀ z10 : Int, 0 ≤ z10 → z10 ≤ RB → z10 = fnD 22 [z0, 0, z4] →
   ∀ z11 : Int, 0 ≤ z11 → z11 ≤ 1 → S 321 [[z10]] [[z11]] →
   (((decide (z11 = 1)) = true →
    chkD 30 [z6, z4] ∧
    chkD 21 [z0, z6] ∧
    ∀ z12 : Int, 0 ≤ z12 → z12 ≤ HB → z12 = fnD 21 [z0, z6, 2] →
    ∀ z13 : Int, 0 ≤ z13 → z13 ≤ 1 → z13 = fnD 4 [z12, z1] →
    (((decide (z13 = 1)) = true →
     chkD 30 [z6, z4] ∧
     chkD 21 [z0, z6] ∧
     ∀ z14 : Int, 0 ≤ z14 → z14 ≤ HB → z14 = fnD 21 [z0, z6, 0] →
     ∀ z15 : Int, 0 ≤ z15 → z15 ≤ HB → z15 = fnD 21 [z0, z6, 1] →
     chkD 31 [z7, z8] ∧
     chkD 23 [z7, 1] ∧
     ∀ z16 : Int, 0 ≤ z16 → z16 ≤ RB → z16 = fnD 23 [z7, z14, z15] →
     ∀ z17 : Int, (-1) ≤ z17 → z17 ≤ 9223372036854775807 → 
     ∀ z18 : Int, 0 ≤ z18 → z18 ≤ 1 → 0 ≤ (z6 + 9223372036854775809) - 18446744073709551616 * z18 → (z6 + 9223372036854775809) - 18446744073709551616 * z18 < 18446744073709551616 →
     chkD 39 [((z6 + ((-18446744073709551616) * z18)) + 1), 0, 9223372036854775807] ∧
     (I5 [[((z6 + ((-18446744073709551616) * z18)) + 1)], [z16], [(z8 + 1)], [z17]] ∧ μ5 [[((z6 + ((-18446744073709551616) * z18)) + 1)], [z16], [(z8 + 1)], [z17]] < μ5 [[z6], [z7], [z8], [z9]])
    ) ∧ ((decide (z13 = 1)) = false →
     ∀ z14 : Int, 0 ≤ z14 → z14 ≤ 1 → 0 ≤ (z6 + 9223372036854775809) - 18446744073709551616 * z14 → (z6 + 9223372036854775809) - 18446744073709551616 * z14 < 18446744073709551616 →
     chkD 39 [((z6 + ((-18446744073709551616) * z14)) + 1), 0, 9223372036854775807] ∧
     (I5 [[((z6 + ((-18446744073709551616) * z14)) + 1)], [z7], [z8], [z9]] ∧ μ5 [[((z6 + ((-18446744073709551616) * z14)) + 1)], [z7], [z8], [z9]] < μ5 [[z6], [z7], [z8], [z9]])
    ))
   ) ∧ ((decide (z11 = 1)) = false →
    chkD 22 [z7, 0, z8] ∧
    ∀ z12 : Int, 0 ≤ z12 → z12 ≤ RB → z12 = fnD 22 [z7, 0, z8] →
    K [[z0], [z1]] [[z12]]
   ))
  ) ∧ ((decide (z6 < z4)) = false →
   chkD 22 [z7, 0, z8] ∧
   ∀ z10 : Int, 0 ≤ z10 → z10 ≤ RB → z10 = fnD 22 [z7, 0, z8] →
   K [[z0], [z1]] [[z10]]
  ))
 )
def B_xS (S : Nat → List (List Int) → List (List Int) → Prop) (K : List (List Int) → List (List Int) → Prop) : Prop :=
 ∀ z0 : Int, 0 ≤ z0 → z0 ≤ RB → ∀ z1 : Int, 0 ≤ z1 → z1 ≤ RB → 
 ∀ z2 : Int, 0 ≤ z2 →
 ∀ z3 : Int, (-1) ≤ z3 → z3 ≤ 9223372036854775807 → 
 ∀ z4 : Int, 0 ≤ z4 → z4 ≤ 9223372036854775807 → z4 = fnD 20 [z0] →
 ∀ z5 : Int, 0 ≤ z5 →
 ∀ z6 : Int, (-1) ≤ z6 → z6 ≤ 9223372036854775807 → 
 ∀ z7 : Int, 0 ≤ z7 → z7 ≤ 9223372036854775807 → z7 = fnD 20 [z1] →
 ((((!(decide (z4 = z7)))) = true →
  K [[z0], [z1]] [[(cond (false) 1 0)]]
 ) ∧ (((!(decide (z4 = z7)))) = false →
  ∃ (I8 : List (List Int) → Prop) (μ8 : List (List Int) → Nat), I8 [[0]] ∧ (∀ z9 : Int, 0 ≤ z9 → z9 ≤ 9223372036854775807 → I8 [[z9]] →
   (((decide (z9 < z4)) = true →
    chkD 30 [z9, z4] ∧
    chkD 21 [z0, z9] ∧
    ∀ z10 : Int, 0 ≤ z10 → z10 ≤ HB → z10 = fnD 21 [z0, z9, 0] →
    ∀ z11 : Int, 0 ≤ z11 → z11 ≤ HB → z11 = fnD 21 [z0, z9, 1] →
    ∀ z12 : Int, 0 ≤ z12 → z12 ≤ HB → z12 = fnD 21 [z0, z9, 2] →
    ∀ z13 : Int, (-9223372036854775808) ≤ z13 → z13 ≤ 9223372036854775807 → z13 = fnD 21 [z0, z9, 3] →
    chkD 30 [z9, z7] ∧
    chkD 21 [z1, z9] ∧
    ∀ z14 : Int, 0 ≤ z14 → z14 ≤ HB → z14 = fnD 21 [z1, z9, 0] →
    ∀ z15 : Int, 0 ≤ z15 → z15 ≤ HB → z15 = fnD 21 [z1, z9, 1] →
    ∀ z16 : Int, 0 ≤ z16 → z16 ≤ HB → z16 = fnD 21 [z1, z9, 2] →
    ∀ z17 : Int, (-9223372036854775808) ≤ z17 → z17 ≤ 9223372036854775807 → z17 = fnD 21 [z1, z9, 3] →
    ∀ z18 : Int, 0 ≤ z18 → z18 ≤ 1 → z18 = fnD 4 [z10, z14] →
    ∀ z19 : Int, 0 ≤ z19 → z19 ≤ 1 → z19 = fnD 4 [z11, z15] →
    ∀ z20 : Int, 0 ≤ z20 → z20 ≤ 1 → z20 = fnD 4 [z12, z16] →
    ((((!(((decide ([z18, z19] = [1, 1])) && (decide ([z20, z13] = [1, z17])))))) = true →
     K [[z0], [z1]] [[(cond (false) 1 0)]]
    ) ∧ (((!(((decide ([z18, z19] = [1, 1])) && (decide ([z20, z13] = [1, z17])))))) = false →
     ∀ z21 : Int, 0 ≤ z21 → z21 ≤ 1 → 0 ≤ (z9 + 9223372036854775809) - 18446744073709551616 * z21 → (z9 + 9223372036854775809) - 18446744073709551616 * z21 < 18446744073709551616 →
     chkD 39 [((z9 + ((-18446744073709551616) * z21)) + 1), 0, 9223372036854775807] ∧
     (I8 [[((z9 + ((-18446744073709551616) * z21)) + 1)]] ∧ μ8 [[((z9 + ((-18446744073709551616) * z21)) + 1)]] < μ8 [[z9]])
    ))
   ) ∧ ((decide (z9 < z4)) = false →
    K [[z0], [z1]] [[(cond (true) 1 0)]]
   ))
  )
 ))
def B_xA (S : Nat → List (List Int) → List (List Int) → Prop) (K : List (List Int) → List (List Int) → Prop) : Prop :=
 ∀ z0 : Int, 0 ≤ z0 → z0 ≤ RB → ∀ z1 : Int, 0 ≤ z1 → z1 ≤ RB → 
 ∀ z2 : Int, 0 ≤ z2 →
 ∀ z3 : Int, (-1) ≤ z3 → z3 ≤ 9223372036854775807 → 
 ∀ z4 : Int, 0 ≤ z4 → z4 ≤ 9223372036854775807 → z4 = fnD 20 [z0] →
 ∀ z5 : Int, 0 ≤ z5 →
 ∀ z6 : Int, (-1) ≤ z6 → z6 ≤ 9223372036854775807 → 
 ∀ z7 : Int, 0 ≤ z7 → z7 ≤ 9223372036854775807 → z7 = fnD 20 [z1] →
 ((((!(decide (z4 = z7)))) = true →
  K [[z0], [z1]] [[(cond (false) 1 0)]]
 ) ∧ (((!(decide (z4 = z7)))) = false →
  ∃ (I8 : List (List Int) → Prop) (μ8 : List (List Int) → Nat), I8 [[0]] ∧ (∀ z9 : Int, 0 ≤ z9 → z9 ≤ 9223372036854775807 → I8 [[z9]] →
   (((decide (z9 < z4)) = true →
    chkD 30 [z9, z4] ∧
    chkD 21 [z0, z9] ∧
    ∀ z10 : Int, 0 ≤ z10 → z10 ≤ HB → z10 = fnD 21 [z0, z9, 0] →
    ∀ z11 : Int, 0 ≤ z11 → z11 ≤ HB → z11 = fnD 21 [z0, z9, 1] →
    chkD 30 [z9, z7] ∧
    chkD 21 [z1, z9] ∧
    ∀ z12 : Int, 0 ≤ z12 → z12 ≤ HB → z12 = fnD 21 [z1, z9, 0] →
    ∀ z13 : Int, 0 ≤ z13 → z13 ≤ HB → z13 = fnD 21 [z1, z9, 1] →
    ∀ z14 : Int, 0 ≤ z14 → z14 ≤ 1 → z14 = fnD 4 [z10, z12] →
    ∀ z15 : Int, 0 ≤ z15 → z15 ≤ 1 → z15 = fnD 4 [z11, z13] →
    ((((!(decide ([z14, z15] = [1, 1])))) = true →
     K [[z0], [z1]] [[(cond (false) 1 0)]]
    ) ∧ (((!(decide ([z14, z15] = [1, 1])))) = false →
     ∀ z16 : Int, 0 ≤ z16 → z16 ≤ 1 → 0 ≤ (z9 + 9223372036854775809) - 18446744073709551616 * z16 → (z9 + 9223372036854775809) - 18446744073709551616 * z16 < 18446744073709551616 →
     chkD 39 [((z9 + ((-18446744073709551616) * z16)) + 1), 0, 9223372036854775807] ∧
     (I8 [[((z9 + ((-18446744073709551616) * z16)) + 1)]] ∧ μ8 [[((z9 + ((-18446744073709551616) * z16)) + 1)]] < μ8 [[z9]])
    ))
   ) ∧ ((decide (z9 < z4)) = false →
    K [[z0], [z1]] [[(cond (true) 1 0)]]
   ))
  )
 ))
theorem sorted_ext : ∀ {a b : List Bd}, sortedB a = true → sortedB b = true → (∀ x, x ∈ a ↔ x ∈ b) → a = b
  | [], [], _, _, _ => rfl
  | [], y :: b, _, _, h => by have := (h y).2 (by simp); simp at this
  | x :: a, [], _, _, h => by have := (h x).1 (by simp); simp at this
  | x :: a, y :: b, ha, hb, h => by
    have hxy : x = y := by
      rcases List.mem_cons.1 ((h x).1 (by simp)) with h1 | h1
      · exact h1
      · rcases List.mem_cons.1 ((h y).2 (by simp)) with h2 | h2
        · exact h2.symm
        · have g1 := sorted_head hb x h1
          have g2 := sorted_head ha y h2
          rw [lessA_asym g1] at g2; cases g2
    subst hxy
    have hne : ∀ {l : List Bd}, sortedB (x :: l) = true → ∀ z ∈ l, z ≠ x := fun hl z hz e => by
      have := sorted_head hl z hz
      rw [e, lessA_irr] at this; cases this
    rw [sorted_ext (sorted_tail ha) (sorted_tail hb) fun z => ⟨fun hz => ?_, fun hz => ?_⟩]
    · rcases List.mem_cons.1 ((h z).1 (List.mem_cons_of_mem _ hz)) with h1 | h1
      · exact absurd h1 (hne ha z hz)
      · exact h1
    · rcases List.mem_cons.1 ((h z).2 (List.mem_cons_of_mem _ hz)) with h1 | h1
      · exact absurd h1 (hne hb z hz)
      · exact h1
/-- What the document's Bind makes of the others. -/
def insF (w : Bd) (T : List Bd) : List Bd := cond (T.any fun b => lessA w.1 b.1) (T.filter (fun b => !lessA w.1 b.1) ++ w :: T.filter (fun b => lessA w.1 b.1)) T
def insE (w : Bd) (T : List Bd) : List Bd := T.filter (fun b => !lessA w.1 b.1) ++ w :: T.filter (fun b => lessA w.1 b.1)
theorem insF_no {w : Bd} {T : List Bd} (h : (T.any fun b => lessA w.1 b.1) = false) : insF w T = T ∧ insE w T = T ++ [w] := by
  have hn : ∀ b ∈ T, lessA w.1 b.1 = false := fun b hb => by
    cases hx : lessA w.1 b.1 with
    | false => rfl
    | true => rw [List.any_eq_true.2 ⟨b, hb, hx⟩] at h; cases h
  refine ⟨by unfold insF; rw [h]; rfl, ?_⟩
  unfold insE
  rw [List.filter_eq_self.2 fun b hb => by rw [hn b hb]; rfl, List.filter_eq_nil_iff.2 fun b hb => by rw [hn b hb]; simp]
theorem insF_step {w b : Bd} {T : List Bd} (hs : (T.any fun b => lessA w.1 b.1) = true → lessA w.1 b.1 = true) :
    insF w (T ++ [b]) = (cond (!(T.any fun b => lessA w.1 b.1) && lessA w.1 b.1) (insF w T ++ [w]) (insF w T)) ++ [b] := by
  cases ha : (T.any fun b => lessA w.1 b.1) with
  | true =>
    have hb := hs ha
    unfold insF
    rw [List.any_append, ha]
    simp [hb]
  | false =>
    obtain ⟨h1, h2⟩ := insF_no ha
    cases hb : lessA w.1 b.1 with
    | false =>
      rw [h1]
      have : ((T ++ [b]).any fun b => lessA w.1 b.1) = false := by rw [List.any_append, ha]; simp [hb]
      rw [(insF_no this).1]; rfl
    | true =>
      rw [h1]
      have hn : ∀ b ∈ T, lessA w.1 b.1 = false := fun b hb => by
        cases hx : lessA w.1 b.1 with
        | false => rfl
        | true => rw [List.any_eq_true.2 ⟨b, hb, hx⟩] at ha; cases ha
      unfold insF
      rw [List.any_append, ha]
      simp only [List.any_cons, List.any_nil, hb, Bool.or_false, Bool.false_or, cond_true, List.filter_append, List.filter_cons, Bool.not_true, List.filter_nil]
      rw [List.filter_eq_self.2 fun b hb => by rw [hn b hb]; rfl, List.filter_eq_nil_iff.2 fun b hb => by rw [hn b hb]; simp]
      simp
theorem without_sorted {l : List Bd} {w : Tx × Tx} (h : rightL l = true) : sortedB (l.filter (fun b => !(b.1 == w))) = true := sorted_filter (right_sorted h)
theorem without_len {l : List Bd} {w : Tx × Tx} (h : l.any (·.1 == w) = true) : (l.filter (fun b => !(b.1 == w))).length < l.length := by
  obtain ⟨b, hb, he⟩ := List.any_eq_true.1 h
  exact List.length_filter_lt_length_iff_exists.2 ⟨b, hb, by simp [he]⟩
theorem without_all {l : List Bd} {w : Tx × Tx} (h : l.any (·.1 == w) = false) : l.filter (fun b => !(b.1 == w)) = l :=
  List.filter_eq_self.2 fun b hb => by
    have := List.any_eq_false.1 h b hb
    simpa using this
theorem bind_ins {l : List Bd} {w : Bd} (hr : rightL l = true) (hw : bOk w = true) (h64 : (l.filter (fun b => !(b.1 == w.1))).length ≠ 64) : bindF l w = (insE w (l.filter (fun b => !(b.1 == w.1))), 0) := by
  have hl : l.any (·.1 == w.1) = true ∨ l.length < 64 := by
    cases ha : l.any (·.1 == w.1) with
    | true => exact .inl rfl
    | false =>
      have := (rightL_parts.1 hr).1
      rw [without_all ha] at h64
      exact .inr (by omega)
  obtain ⟨g1, g2, g3⟩ := bind_ok hr hw hl
  have hs : sortedB (insE w (l.filter (fun b => !(b.1 == w.1)))) = true := by
    have h0 := without_sorted (w := w.1) hr
    unfold insE
    refine sorted_append (sorted_filter h0) (sorted_cons (fun b hb => (List.mem_filter.1 hb).2) (sorted_filter h0)) fun a ha b hb => ?_
    obtain ⟨a1, a2⟩ := List.mem_filter.1 ha
    obtain ⟨_, a3⟩ := List.mem_filter.1 a1
    have haw : lessA a.1 w.1 = true := by
      rcases lessA_tot a.1 w.1 with h | h | h
      · exact h
      · rw [h] at a2; cases a2
      · rw [h] at a3; simp at a3
    rcases List.mem_cons.1 hb with rfl | hb
    · exact haw
    · exact lessA_trans haw (List.mem_filter.1 hb).2
  refine Prod.ext_iff.2 ⟨sorted_ext (right_sorted g2) hs fun x => ?_, g1⟩
  rw [g3]
  unfold insE
  simp only [List.mem_append, List.mem_cons, List.mem_filter]
  have e : ((!(x.1 == w.1)) = true) ↔ x.1 ≠ w.1 := by simp
  rw [e]
  constructor
  · rintro (h | ⟨h1, h2⟩)
    · exact .inr (.inl h)
    · cases hx : lessA w.1 x.1 with
      | true => exact .inr (.inr ⟨⟨h1, h2⟩, rfl⟩)
      | false => exact .inl ⟨⟨h1, h2⟩, rfl⟩
  · rintro (⟨⟨h1, h2⟩, _⟩ | h | ⟨⟨h1, h2⟩, _⟩)
    · exact .inr ⟨h1, h2⟩
    · exact .inl h
    · exact .inr ⟨h1, h2⟩
theorem bind_full {l : List Bd} {w : Bd} (hr : rightL l = true) (hw : bOk w = true) (h64 : (l.filter (fun b => !(b.1 == w.1))).length = 64) : bindF l w = (l, 10) := by
  have hl := (rightL_parts.1 hr).1
  have ha : l.any (·.1 == w.1) = false := by
    cases ha : l.any (·.1 == w.1) with
    | false => rfl
    | true => have := without_len ha; omega
  rw [without_all ha] at h64
  unfold bindF
  rw [hw, hr, ha, decide_eq_true h64]
  rfl
def XbI (R : List Bd) (w : Bd) (bl : List (List Int)) : Prop := ∃ (i : Nat) (p r n c : Int), bl = [[(i : Int)], [p], [r], [n], [c]] ∧ i ≤ R.length ∧ p = b01 ((R.take i).any fun b => lessA w.1 b.1) ∧ n = ((rOf r).length : Int) ∧ ((rOf r).length : Int) ≤ (i : Int) + p ∧ bds r = insF w (R.take i)
theorem any_take {R : List Bd} {w : Bd} (hs : sortedB R = true) {i : Nat} (hi : i < R.length) (h : ((R.take i).any fun b => lessA w.1 b.1) = true) : lessA w.1 (R.getD i bd0).1 = true := by
  obtain ⟨b, hb, hl⟩ := List.any_eq_true.1 h
  obtain ⟨j, hj, rfl⟩ := List.mem_iff_getElem.1 hb
  have hj' : j < i := by simp at hj; omega
  have := sorted_get hs j i hj' hi
  rw [List.getElem_take] at hl
  rw [show R.getD j bd0 = R[j] by simp [List.getD, show j < R.length by omega]] at this
  exact lessA_trans hl this
theorem p_xB : B_xB SB (KBb SB [rBB, .d (.int .i64 0 21)] 324) := by
  intro z0 a0 a1 r1 hr1 z5 _ z6 _ _ z7 b0 b1 h7
  have h7 : z7 = ((rOf z0).length : Int) := h7
  have hlen := bds_len z0
  have W := fun y => whole_bds (z := z0) (y := y) h7
  obtain ⟨x0, x1, x2, x3, er, _, _, _, _⟩ := inB4 hr1
  have hK : ∀ {y e : Int}, 0 ≤ y → y ≤ RB → 0 ≤ e → e ≤ 21 → (bds y, e) = bindF (bds z0) (bdOf r1) → KBb SB [rBB, .d (.int .i64 0 21)] 324 [[z0], r1] [[y], [e]] := fun {y e} y0 y1 e0 e1 h => ⟨⟨y0, y1, e0, e1, trivial⟩, h⟩
  refine ⟨(W 0).1, fun z8 _ _ h8 z9 _ _ h9 => ?_⟩
  have h9 : z9 = b01 (rightL (bds z8)) := h9
  rw [bds_same ((W z8).2 h8)] at h9
  have hd9 := b01_dec h9
  refine ⟨fun h => ⟨(W 0).1, fun z10 c0 c1 h10 => hK c0 c1 (by decide) (by decide) ?_⟩, fun h z10 _ _ h10 => ?_⟩
  · have hr : rightL (bds z0) = false := by
      rw [hd9] at h; simpa using h
    unfold bindF
    rw [hr, Bool.and_false, cond_false, bds_same ((W z10).2 h10)]
  have hr : rightL (bds z0) = true := by
    rw [hd9] at h; simpa using h
  have h10 : z10 = b01 (bOk (bdOf r1)) := h10
  have hd10 := b01_dec h10
  refine ⟨fun h => ⟨(W 0).1, fun z11 c0 c1 h11 => hK c0 c1 (by decide) (by decide) ?_⟩, fun h => ⟨(W 0).1, fun z11 _ _ h11 => ⟨?_, fun z12 _ _ h12 z13 _ _ z14 _ _ h14 => ?_⟩⟩⟩
  · have hw : bOk (bdOf r1) = false := by
      rw [hd10] at h; simpa using h
    unfold bindF
    rw [hw, Bool.false_and, cond_false, bds_same ((W z11).2 h11)]
  · show (rOf z11).length ≤ 1000000
    rw [(W z11).2 h11]
    have := (rightL_parts.1 hr).1
    omega
  have hw : bOk (bdOf r1) = true := by
    rw [hd10] at h; simpa using h
  have h12 : bds z12 = (bds z11).filter (fun b => !(b.1 == whoOf r1)) := by
    rw [er] at h12 ⊢; exact h12
  rw [bds_same ((W z11).2 h11)] at h12
  have h14 : z14 = ((rOf z12).length : Int) := h14
  have hl12 := bds_len z12
  have hwho : (bdOf r1).1 = whoOf r1 := rfl
  refine ⟨fun h => ⟨(W 0).1, fun z15 c0 c1 h15 => hK c0 c1 (by decide) (by decide) ?_⟩, fun h => ?_⟩
  · have h := of_decide_eq_true h
    rw [bind_full hr hw (by rw [hwho, ← h12]; omega), bds_same ((W z15).2 h15)]
  have h := of_decide_eq_false h
  have hbi := bind_ins hr hw (by rw [hwho, ← h12]; omega)
  rw [hwho, ← h12] at hbi
  have hsR : sortedB (bds z12) = true := by rw [h12]; exact without_sorted hr
  have hlR : (bds z12).length ≤ 64 := by
    have := (rightL_parts.1 hr).1
    rw [h12]
    exact Nat.le_trans (List.length_filter_le _ _) this
  refine ⟨XbI (bds z12) (bdOf r1), RiM z12, ⟨0, 0, 0, 0, -1, rfl, Nat.zero_le _, rfl, by rw [Go.Rx.rOf_zero]; rfl, by rw [Go.Rx.rOf_zero]; exact Int.le_refl _, by rw [bds_zero]; rfl⟩, ?_⟩
  rintro z16 c0 c1 z17 d0 d1 z18 e0 e1 z19 f0 f1 z20 g0 g1 ⟨i, p, r, n, c, e, hi, hp, hn, hni, hI⟩
  obtain ⟨rfl, rfl, rfl, rfl, rfl⟩ : z16 = i ∧ z17 = p ∧ z18 = r ∧ z19 = n ∧ z20 = c := by simpa using e
  have hpd := b01_dec hp
  have hrow : bdOf [r1.getD 0 0, r1.getD 1 0, r1.getD 2 0, r1.getD 3 0] = bdOf r1 := rfl
  refine ⟨fun hlt => ?_, fun hge => ?_⟩
  · have hlt := of_decide_eq_true hlt
    have hil : i < (rOf z12).length := by omega
    have htk := take_bds (z := z12) (i := i) (by omega)
    have hmeas : ∀ q : Int, ((i : Int) + (-18446744073709551616) * q) + 1 = ((i + 1 : Nat) : Int) → ∀ s : List (List Int), RiM z12 ([((i : Int) + (-18446744073709551616) * q) + 1] :: s) < RiM z12 [[(i : Int)], [z17], [z18], [z19], [z20]] := fun q hq s => by
      show (bds z12).length - (((i : Int) + (-18446744073709551616) * q) + 1).toNat < (bds z12).length - ((i : Int)).toNat; omega
    refine ⟨fun hb => ⟨⟨by omega, by omega⟩, ⟨by omega, by omega⟩, fun z21 _ _ h21 z22 _ _ h22 z23 _ _ h23 => ?_⟩, fun hb => ⟨⟨by omega, by omega⟩, ⟨by omega, by omega⟩, fun z21 _ _ h21 z22 _ _ h22 z23 _ _ h23 z24 _ _ h24 => ⟨hn, ⟨by show (rOf z18).length + (1 : Int) ≤ 1073741824; omega, fun z25 _ _ h25 z26 _ _ z27 q0 q1 q2 q3 => ?_⟩⟩⟩⟩
    · have hany : ((bds z12).take i).any (fun b => lessA (bdOf r1).1 b.1) = false := by
        rw [hpd] at hb; simpa using hb
      have hz17 : z17 = 0 := by rw [hp, hany]; rfl
      have h23 : z23 = b01 (lessA (whoOf r1) (whoOf [z21, z22])) := by rw [er] at h23 ⊢; exact h23
      rw [row_who (k := i) rfl h21 h22 hil] at h23
      have hd23 := b01_dec h23
      have hst := insF_step (w := bdOf r1) (b := (bds z12).getD i bd0) (T := (bds z12).take i) (fun h => by rw [hany] at h; cases h)
      rw [hany, hwho, ← hd23, ← hI, ← htk] at hst
      refine ⟨fun hl => ⟨hn, ⟨by show (rOf z18).length + (1 : Int) ≤ 1073741824; omega, fun z24 _ _ h24 z25 _ _ => ⟨⟨by omega, by omega⟩, ⟨by omega, by omega⟩, fun z26 _ _ h26 z27 _ _ h27 z28 _ _ h28 z29 _ _ h29 => ⟨?_, ?_, fun z30 _ _ h30 z31 _ _ z32 q0 q1 q2 q3 => ⟨⟨by omega, by omega⟩, ⟨i + 1, 1, z30, z19 + 2, z31, ?_, by omega, ?_, ?_, ?_, ?_⟩, ?_⟩⟩⟩⟩⟩, fun hl => ⟨⟨by omega, by omega⟩, ⟨by omega, by omega⟩, fun z24 _ _ h24 z25 _ _ h25 z26 _ _ h26 z27 _ _ h27 => ⟨hn, ⟨by show (rOf z18).length + (1 : Int) ≤ 1073741824; omega, fun z28 _ _ h28 z29 _ _ z30 q0 q1 q2 q3 => ⟨⟨by omega, by omega⟩, fun z31 s0 s1 hs => ⟨⟨i + 1, z31, z28, z19 + 1, z29, ?_, by omega, ?_, ?_, ?_, ?_⟩, ?_⟩⟩⟩⟩⟩⟩
      · show z19 + 1 = ((rOf z24).length : Int); rw [(bds_push h24).1]; simp; omega
      · show (rOf z24).length + (1 : Int) ≤ 1073741824; rw [(bds_push h24).1]; simp; omega
      · rw [show ((i : Int) + (-18446744073709551616) * z32) + 1 = ((i + 1 : Nat) : Int) by omega]
      · rw [htk, List.any_append, hany, hwho]
        simp only [List.any_cons, List.any_nil, ← hd23, hl, Bool.or_false]; rfl
      · rw [(bds_push h30).1, (bds_push h24).1]; simp; omega
      · rw [(bds_push h30).1, (bds_push h24).1]; simp; omega
      · rw [(bds_push h30).2, (bds_push h24).2, hrow, row_bd (k := i) rfl h26 h27 h28 h29 hil, hst, hl]; rfl
      · exact hmeas _ (by omega) _
      · rw [show ((i : Int) + (-18446744073709551616) * z30) + 1 = ((i + 1 : Nat) : Int) by omega]
      · rw [htk, List.any_append, hany, hwho]
        simp only [List.any_cons, List.any_nil, ← hd23, hl, Bool.or_false]
        rw [hpd, hany] at hs
        have := of_decide_eq_false hs.symm
        show z31 = 0; omega
      · rw [(bds_push h28).1]; simp; omega
      · have hz31 : decide (z31 = 1) = false := by rw [← hs, hz17]; rfl
        have hz31 := of_decide_eq_false hz31
        rw [(bds_push h28).1]; simp; omega
      · rw [(bds_push h28).2, row_bd (k := i) rfl h24 h25 h26 h27 hil, hst, hl]; rfl
      · exact hmeas _ (by omega) _
    · have hany : ((bds z12).take i).any (fun b => lessA (bdOf r1).1 b.1) = true := by
        rw [hpd] at hb; simpa using hb
      have hz17 : z17 = 1 := by rw [hp, hany]; rfl
      have hst := insF_step (w := bdOf r1) (b := (bds z12).getD i bd0) (T := (bds z12).take i) (fun h => any_take hsR (by omega) h)
      rw [hany, ← hI, ← htk] at hst
      refine ⟨⟨by omega, by omega⟩, fun z28 s0 s1 hs => ⟨⟨i + 1, z28, z25, z19 + 1, z26, ?_, by omega, ?_, ?_, ?_, ?_⟩, ?_⟩⟩
      · rw [show ((i : Int) + (-18446744073709551616) * z27) + 1 = ((i + 1 : Nat) : Int) by omega]
      · rw [htk, List.any_append, hany]
        rw [hpd, hany] at hs
        have := of_decide_eq_true hs.symm
        rw [this]; rfl
      · rw [(bds_push h25).1]; simp; omega
      · have hz28 : decide (z28 = 1) = true := by rw [← hs, hz17]; rfl
        have hz28 := of_decide_eq_true hz28
        rw [(bds_push h25).1]; simp; omega
      · rw [(bds_push h25).2, row_bd (k := i) rfl h21 h22 h23 h24 hil, hst]; rfl
      · exact hmeas _ (by omega) _
  · have hge := of_decide_eq_false hge
    have hall : (bds z12).take i = bds z12 := List.take_of_length_le (by omega)
    rw [hall] at hI hp hpd
    refine ⟨fun hb => ⟨hn, ⟨by show (rOf z18).length + (1 : Int) ≤ 1073741824; omega, fun z21 _ _ h21 z22 _ _ => ?_⟩⟩, fun hb => ⟨(whole_bds (y := 0) hn).1, fun z21 m0 m1 h21 => hK m0 m1 (by decide) (by decide) ?_⟩⟩
    · have hany : ((bds z12).any (fun b => lessA (bdOf r1).1 b.1)) = false := by
        rw [hpd] at hb; simpa using hb
      have hn2 : z19 + 1 = ((rOf z21).length : Int) := by rw [(bds_push h21).1]; simp; omega
      refine ⟨(whole_bds (y := 0) hn2).1, fun z23 m0 m1 h23 => hK m0 m1 (by decide) (by decide) ?_⟩
      obtain ⟨k1, k2⟩ := insF_no hany
      rw [hbi, k2, bds_same ((whole_bds (y := z23) hn2).2 h23), (bds_push h21).2, hrow, hI, k1]
    · have hany : ((bds z12).any (fun b => lessA (bdOf r1).1 b.1)) = true := by
        rw [hpd] at hb; simpa using hb
      rw [hbi, bds_same ((whole_bds (y := z21) hn).2 h21), hI]
      unfold insF insE
      rw [hany]; rfl
theorem p_xU : B_xU SB (KBb SB [rBB, .d (.int .i64 0 21)] 325) := by
  intro z0 a0 a1 r1 hr1 z5 _ z6 _ _ z7 b0 b1 h7
  have h7 : z7 = ((rOf z0).length : Int) := h7
  have hlen := bds_len z0
  have W := fun y => whole_bds (z := z0) (y := y) h7
  obtain ⟨x0, x1, x2, x3, er, _, _, _, _⟩ := inB4 hr1
  have hK : ∀ {y e : Int}, 0 ≤ y → y ≤ RB → 0 ≤ e → e ≤ 21 → (bds y, e) = unbindF (bds z0) (bdOf r1) → KBb SB [rBB, .d (.int .i64 0 21)] 325 [[z0], r1] [[y], [e]] := fun {y e} y0 y1 e0 e1 h => ⟨⟨y0, y1, e0, e1, trivial⟩, h⟩
  refine ⟨(W 0).1, fun z8 _ _ h8 z9 _ _ h9 => ?_⟩
  have h9 : z9 = b01 (rightL (bds z8)) := h9
  rw [bds_same ((W z8).2 h8)] at h9
  have hd9 := b01_dec h9
  refine ⟨fun h => ⟨(W 0).1, fun z10 c0 c1 h10 => hK c0 c1 (by decide) (by decide) ?_⟩, fun h => ⟨(W 0).1, fun z10 _ _ h10 r11 _ z15 _ _ hF => ?_⟩⟩
  · have hr : rightL (bds z0) = false := by
      rw [hd9] at h; simpa using h
    unfold unbindF
    rw [hr, cond_false, bds_same ((W z10).2 h10)]
  have hr : rightL (bds z0) = true := by
    rw [hd9] at h; simpa using h
  have hF : (match findL (bds z10) (whoOf r1) with | some b => bdOf r11 = b ∧ z15 = 1 | none => bdOf r11 = bd0 ∧ z15 = 0) := by
    rw [er] at hF ⊢; exact hF
  rw [bds_same ((W z10).2 h10)] at hF
  unfold findL at hF
  rw [hr, cond_true] at hF
  have hU : unbindF (bds z0) (bdOf r1) = (match (bds z0).find? (·.1 == (bdOf r1).1) with | none => (bds z0, 7) | some b => cond (b.2.1 == (bdOf r1).2.1) ((bds z0).filter (fun b => !(b.1 == (bdOf r1).1)), 0) (bds z0, 14)) := by
    unfold unbindF; rw [hr]; rfl
  have hwho : (bdOf r1).1 = whoOf r1 := rfl
  rw [hwho] at hU
  cases hf : (bds z0).find? (fun b => b.1 == whoOf r1) with
  | none =>
    rw [hf] at hF hU
    obtain ⟨k1, k2⟩ := hF
    refine ⟨fun _ => ⟨(W 0).1, fun z16 c0 c1 h16 => hK c0 c1 (by decide) (by decide) (by rw [hU, bds_same ((W z16).2 h16)])⟩, fun h => (by rw [k2] at h; cases h)⟩
  | some b =>
    rw [hf] at hF hU
    obtain ⟨k1, k2⟩ := hF
    refine ⟨fun h => (by rw [k2] at h; cases h), fun _ z16 _ _ h16 => ?_⟩
    have h16 := eq_dec h16
    have e1 : sOf (r11.getD 2 0) = b.2.1 := congrArg (fun b : Bd => b.2.1) k1
    have e2 : sOf (r1.getD 2 0) = (bdOf r1).2.1 := rfl
    rw [e1, e2] at h16
    refine ⟨fun h => ⟨(W 0).1, fun z17 c0 c1 h17 => hK c0 c1 (by decide) (by decide) ?_⟩, fun h => ⟨(W 0).1, fun z17 _ _ h17 => ⟨?_, fun z18 _ _ h18 z19 _ _ z20 _ _ h20 => ⟨(whole_bds (y := 0) h20).1, fun z21 c0 c1 h21 => hK c0 c1 (by decide) (by decide) ?_⟩⟩⟩⟩
    · have hne : ¬ b.2.1 = (bdOf r1).2.1 := by
        rw [h16] at h; simpa using h
      rw [hU, bds_same ((W z17).2 h17)]
      simp only
      rw [show (b.2.1 == (bdOf r1).2.1) = false by simpa using hne]; rfl
    · show (rOf z17).length ≤ 1000000
      rw [(W z17).2 h17]
      have := (rightL_parts.1 hr).1
      omega
    · have he : b.2.1 = (bdOf r1).2.1 := by
        rw [h16] at h; simpa using h
      have h18 : bds z18 = (bds z17).filter (fun b => !(b.1 == whoOf r1)) := by rw [er] at h18 ⊢; exact h18
      rw [hU, bds_same ((whole_bds (y := z21) h20).2 h21), h18, bds_same ((W z17).2 h17)]
      simp only
      rw [show (b.2.1 == (bdOf r1).2.1) = true by simpa using he]; rfl
theorem whos_push {c y : Int} {row : List Int} (h : y = fnD 23 (c :: row)) : rOf y = rOf c ++ [row] ∧ whos y = whos c ++ [whoOf row] := by
  have e : rOf y = rOf c ++ [row] := by rw [h]; show rOf (rc _) = _; exact rOf_rc _
  exact ⟨e, by unfold whos; rw [e]; simp⟩
def OxI (z0 : Int) (x : Tx) (bl : List (List Int)) : Prop := ∃ (i : Nat) (r n c : Int), bl = [[(i : Int)], [r], [n], [c]] ∧ i ≤ (bds z0).length ∧ n = ((rOf r).length : Int) ∧ (rOf r).length ≤ i ∧ whos r = (((bds z0).take i).filter (·.2.1 == x)).map (·.1) ∧ (i = 0 ∨ rightL (bds z0) = true)
theorem p_xO : B_xO SB (KBb SB [.ow [.str, .str] 0] 326) := by
  intro z0 a0 a1 z1 _ _ z2 _ z3 _ _ z4 b0 b1 h4
  have h4 : z4 = ((rOf z0).length : Int) := h4
  have hlen := bds_len z0
  have W := fun y => whole_bds (z := z0) (y := y) h4
  have kz : whos 0 = [] := by unfold whos; rw [Go.Rx.rOf_zero]; rfl
  refine ⟨OxI z0 (sOf z1), RiM z0, ⟨0, 0, 0, -1, rfl, Nat.zero_le _, by rw [Go.Rx.rOf_zero]; rfl, by rw [Go.Rx.rOf_zero]; exact Nat.le_refl _, by rw [kz]; rfl, .inl rfl⟩, ?_⟩
  rintro z6 c0 c1 z7 d0 d1 z8 _ _ z9 _ _ ⟨i, r, n, c, e, hi, hn, hni, hI, hb0⟩
  obtain ⟨rfl, rfl, rfl, rfl⟩ : z6 = i ∧ z7 = r ∧ z8 = n ∧ z9 = c := by simpa using e
  have stop : (rightL (bds z0) = false ∧ i = 0 ∨ (rightL (bds z0) = true ∨ (bds z0).length = 0) ∧ (bds z0).length ≤ i) → ∀ y : Int, 0 ≤ y → y ≤ RB → y = fnD 22 [z7, 0, z8] → KBb SB [.ow [.str, .str] 0] 326 [[z0], [z1]] [[y]] := fun hc y y0 y1 hy => by
    refine ⟨⟨y0, y1, trivial⟩, ?_⟩
    show whos y = ofL (bds z0) (sOf z1)
    have e1 : whos y = whos z7 := by unfold whos; rw [(whole_bds (y := y) hn).2 hy]
    rw [e1, hI]
    unfold ofL
    rcases hc with ⟨h1, h2⟩ | ⟨h1, h2⟩
    · rw [h1, h2]; rfl
    · rw [List.take_of_length_le h2]
      rcases h1 with h1 | h1
      · rw [h1]; rfl
      · rw [List.length_eq_zero_iff.1 h1]
        cases rightL [] <;> rfl
  refine ⟨fun hlt => ⟨(W 0).1, fun z10 _ _ h10 z11 _ _ h11 => ?_⟩, fun hge => ⟨(whole_bds (y := 0) hn).1, fun y y0 y1 hy => ?_⟩⟩
  rotate_left
  · have hge := of_decide_eq_false hge
    rcases hb0 with hb0 | hb0
    · exact stop (.inr ⟨.inr (by omega), by omega⟩) y y0 y1 hy
    · exact stop (.inr ⟨.inl hb0, by omega⟩) y y0 y1 hy
  have hlt := of_decide_eq_true hlt
  have hil : i < (rOf z0).length := by omega
  have h11 : z11 = b01 (rightL (bds z10)) := h11
  rw [bds_same ((W z10).2 h10)] at h11
  refine ⟨fun hr => ?_, fun hr => ⟨(whole_bds (y := 0) hn).1, fun y y0 y1 hy => stop (.inl ⟨(right_of h11).2 hr, ?_⟩) y y0 y1 hy⟩⟩
  rotate_left
  · rcases hb0 with hb0 | hb0
    · exact hb0
    · rw [(right_of h11).2 hr] at hb0; cases hb0
  have hr := (right_of h11).1 hr
  have h64 := (rightL_parts.1 hr).1
  refine ⟨⟨by omega, by omega⟩, ⟨by omega, by omega⟩, fun z12 _ _ h12 z13 _ _ h13 => ?_⟩
  have hx : sOf z12 = ((bds z0).getD i bd0).2.1 := by rw [bds_get hil, h12]; rfl
  have h13 := eq_dec h13
  rw [hx] at h13
  refine ⟨fun hq => ⟨⟨by omega, by omega⟩, ⟨by omega, by omega⟩, fun z14 _ _ h14 z15 _ _ h15 => ⟨hn, ⟨by show (rOf z7).length + (1 : Int) ≤ 1073741824; omega, fun z16 _ _ h16 z17 _ _ z18 _ _ _ _ => ⟨⟨by omega, by omega⟩, ⟨i + 1, z16, z8 + 1, z17, ?_, by omega, ?_, ?_, ?_, .inr hr⟩, ?_⟩⟩⟩⟩, fun hq z14 _ _ _ _ => ⟨⟨by omega, by omega⟩, ⟨i + 1, z7, z8, z9, ?_, by omega, hn, by omega, ?_, .inr hr⟩, ?_⟩⟩
  · rw [show ((i : Int) + (-18446744073709551616) * z18) + 1 = ((i + 1 : Nat) : Int) by omega]
  · rw [(whos_push h16).1]; simp; omega
  · rw [(whos_push h16).1]; simp; omega
  · rw [(whos_push h16).2, row_who (k := i) rfl h14 h15 hil, take_bds (by omega), List.filter_append, List.map_append, hI]
    congr 1
    rw [h13] at hq
    have hq := of_decide_eq_true hq
    rw [List.filter_cons_of_pos (by simpa using hq)]
    rfl
  · show (bds z0).length - (((i : Int) + (-18446744073709551616) * z18) + 1).toNat < (bds z0).length - ((i : Int)).toNat; omega
  · rw [show ((i : Int) + (-18446744073709551616) * z14) + 1 = ((i + 1 : Nat) : Int) by omega]
  · rw [take_bds (by omega), List.filter_append, hI]
    rw [h13] at hq
    have hq := of_decide_eq_false hq
    rw [List.filter_cons_of_neg (by simpa using hq)]
    simp
  · show (bds z0).length - (((i : Int) + (-18446744073709551616) * z14) + 1).toNat < (bds z0).length - ((i : Int)).toNat; omega
theorem list_eq_getD {α : Type} {d : α} {a b : List α} (hl : a.length = b.length) (h : ∀ j, j < a.length → a.getD j d = b.getD j d) : a = b := by
  refine List.ext_getElem hl fun j h1 h2 => ?_
  have := h j h1
  simpa [List.getD, h1, h2] using this
def SmI {α : Type} (d : α) (a b : List α) (bl : List (List Int)) : Prop := ∃ i : Nat, bl = [[(i : Int)]] ∧ i ≤ a.length ∧ ∀ j, j < i → a.getD j d = b.getD j d
theorem p_xS : B_xS SB (KBb SB [.d .bool] 327) := by
  intro z0 a0 a1 z1 _ _ z2 _ z3 _ _ z4 _ _ h4 z5 _ z6 _ _ z7 _ _ h7
  have h4 : z4 = ((rOf z0).length : Int) := h4
  have h7 : z7 = ((rOf z1).length : Int) := h7
  have hl0 := bds_len z0
  have hl1 := bds_len z1
  have kk : ∀ b : Bool, decide (bds z0 = bds z1) = b → KBb SB [.d .bool] 327 [[z0], [z1]] [[cond b 1 0]] := fun b h => ⟨by cases b <;> exact ⟨by decide, by decide, trivial⟩, by show cond b (1 : Int) 0 = b01 (decide (bds z0 = bds z1)); rw [h]; rfl⟩
  refine ⟨fun h => kk false (decide_eq_false fun e => ?_), fun h => ?_⟩
  · have : ¬ z4 = z7 := by simpa using h
    rw [e] at hl0
    exact this (by omega)
  have h : z4 = z7 := by simpa using h
  refine ⟨SmI bd0 (bds z0) (bds z1), RiM z0, ⟨0, rfl, Nat.zero_le _, fun j h => absurd h (Nat.not_lt_zero j)⟩, ?_⟩
  rintro z9 c0 c1 ⟨i, e, hi, hI⟩
  obtain rfl : z9 = i := by simpa using e
  refine ⟨fun hlt => ?_, fun hge => kk true (decide_eq_true (list_eq_getD (by omega) fun j hj => hI j (by have := of_decide_eq_false hge; omega)))⟩
  have hlt := of_decide_eq_true hlt
  have hil : i < (rOf z0).length := by omega
  refine ⟨⟨by omega, by omega⟩, ⟨by omega, by omega⟩, fun z10 _ _ h10 z11 _ _ h11 z12 _ _ h12 z13 _ _ h13 => ⟨⟨by omega, by omega⟩, ⟨by omega, by omega⟩, fun z14 _ _ h14 z15 _ _ h15 z16 _ _ h16 z17 _ _ h17 z18 _ _ h18 z19 _ _ h19 z20 _ _ h20 => ?_⟩⟩
  have hd := bd_dec (r := [z10, z11, z12, z13]) (s := [z14, z15, z16, z17]) h18 h19 h20
  rw [row_bd (k := i) rfl h10 h11 h12 h13 hil, row_bd (k := i) rfl h14 h15 h16 h17 (by omega)] at hd
  have hd : (decide ([z18, z19] = [1, 1]) && decide ([z20, z13] = [1, z17])) = decide ((bds z0).getD i bd0 = (bds z1).getD i bd0) := hd
  refine ⟨fun hb => kk false (decide_eq_false fun e => ?_), fun hb z21 _ _ _ _ => ⟨⟨by omega, by omega⟩, ⟨i + 1, by rw [show ((i : Int) + (-18446744073709551616) * z21) + 1 = ((i + 1 : Nat) : Int) by omega], by omega, fun j hj => ?_⟩, ?_⟩⟩
  · rw [hd] at hb
    rw [e] at hb
    simp at hb
  · rw [hd] at hb
    rcases Nat.lt_or_ge j i with h | h
    · exact hI j h
    · obtain rfl : j = i := by omega
      simpa using hb
  · show (bds z0).length - (((i : Int) + (-18446744073709551616) * z21) + 1).toNat < (bds z0).length - ((i : Int)).toNat; omega
theorem whos_len (z : Int) : (whos z).length = (rOf z).length := by simp [whos]
theorem row_whos {z0 i a b : Int} {k : Nat} (hi : i = (k : Int)) (ha : a = fnD 21 [z0, i, 0]) (hb : b = fnD 21 [z0, i, 1]) (hk : k < (rOf z0).length) : whoOf [a, b] = (whos z0).getD k ([], []) := by
  have e : (whos z0).getD k ([], []) = whoOf ((rOf z0).getD k []) := by simp [whos, List.getD, hk]
  rw [e, ha, hb, hi]
  rfl
theorem p_xA : B_xA SB (KBb SB [.d .bool] 328) := by
  intro z0 a0 a1 z1 _ _ z2 _ z3 _ _ z4 _ _ h4 z5 _ z6 _ _ z7 _ _ h7
  have h4 : z4 = ((rOf z0).length : Int) := h4
  have h7 : z7 = ((rOf z1).length : Int) := h7
  have hl0 := whos_len z0
  have hl1 := whos_len z1
  have kk : ∀ b : Bool, decide (whos z0 = whos z1) = b → KBb SB [.d .bool] 328 [[z0], [z1]] [[cond b 1 0]] := fun b h => ⟨by cases b <;> exact ⟨by decide, by decide, trivial⟩, by show cond b (1 : Int) 0 = b01 (decide (whos z0 = whos z1)); rw [h]; rfl⟩
  refine ⟨fun h => kk false (decide_eq_false fun e => ?_), fun h => ?_⟩
  · have : ¬ z4 = z7 := by simpa using h
    rw [e] at hl0
    exact this (by omega)
  have h : z4 = z7 := by simpa using h
  refine ⟨SmI ([], []) (whos z0) (whos z1), fun bl => (whos z0).length - ((bl.getD 0 []).getD 0 0).toNat, ⟨0, rfl, Nat.zero_le _, fun j h => absurd h (Nat.not_lt_zero j)⟩, ?_⟩
  rintro z9 c0 c1 ⟨i, e, hi, hI⟩
  obtain rfl : z9 = i := by simpa using e
  refine ⟨fun hlt => ?_, fun hge => kk true (decide_eq_true (list_eq_getD (by omega) fun j hj => hI j (by have := of_decide_eq_false hge; omega)))⟩
  have hlt := of_decide_eq_true hlt
  have hil : i < (rOf z0).length := by omega
  refine ⟨⟨by omega, by omega⟩, ⟨by omega, by omega⟩, fun z10 _ _ h10 z11 _ _ h11 => ⟨⟨by omega, by omega⟩, ⟨by omega, by omega⟩, fun z12 _ _ h12 z13 _ _ h13 z14 _ _ h14 z15 _ _ h15 => ?_⟩⟩
  have hd := who_dec (r := [z10, z11]) (s := [z12, z13]) h14 h15
  rw [row_whos (k := i) rfl h10 h11 hil, row_whos (k := i) rfl h12 h13 (by omega)] at hd
  refine ⟨fun hb => kk false (decide_eq_false fun e => ?_), fun hb z21 _ _ _ _ => ⟨⟨by omega, by omega⟩, ⟨i + 1, by rw [show ((i : Int) + (-18446744073709551616) * z21) + 1 = ((i + 1 : Nat) : Int) by omega], by omega, fun j hj => ?_⟩, ?_⟩⟩
  · rw [hd] at hb
    rw [e] at hb
    simp at hb
  · rw [hd] at hb
    rcases Nat.lt_or_ge j i with h | h
    · exact hI j h
    · obtain rfl : j = i := by omega
      simpa using hb
  · show (whos z0).length - (((i : Int) + (-18446744073709551616) * z21) + 1).toNat < (whos z0).length - ((i : Int)).toNat; omega

end Go.Ad

set_option maxRecDepth 100000
set_option linter.unusedVariables false
set_option linter.unusedSimpArgs false
namespace Go.Ad
open Go Go.Rx
def B_lbinds (S : Nat → List (List Int) → List (List Int) → Prop) (K : List (List Int) → List (List Int) → Prop) : Prop :=
 ∀ z0 : Int, 0 ≤ z0 → z0 ≤ RB → ∀ r1 : List Int, inB [(0, HB), (0, HB), (0, HB), ((-9223372036854775808), 9223372036854775807)] r1 → ∀ z5 : Int, 0 ≤ z5 → z5 ≤ HB → 
 ∀ z6 : Int, 0 ≤ z6 →
 ∀ z7 : Int, (-1) ≤ z7 → z7 ≤ 9223372036854775807 → 
 ∀ z8 : Int, 0 ≤ z8 → z8 ≤ 9223372036854775807 → z8 = fnD 20 [z0] →
 ∀ z9 : Int, 0 ≤ z9 → z9 ≤ 1 → S 310 [] [[z9]] →
 ((((!(decide (z9 = 1)))) = true →
  K [[z0], r1, [z5]] [[(cond (false) 1 0)]]
 ) ∧ (((!(decide (z9 = 1)))) = false →
  (((decide (100 < z8)) = true →
   K [[z0], r1, [z5]] [[(cond (true) 1 0)]]
  ) ∧ ((decide (100 < z8)) = false →
   ∀ z10 : Int, 0 ≤ z10 → z10 ≤ 9223372036854775807 → z10 = fnD 0 [(List.getD r1 1 0)] →
   (((decide (2000 < z10)) = true →
    K [[z0], r1, [z5]] [[(cond (true) 1 0)]]
   ) ∧ ((decide (2000 < z10)) = false →
    ∀ z11 : Int, 0 ≤ z11 → z11 ≤ 9223372036854775807 → z11 = fnD 0 [(List.getD r1 2 0)] →
    (((decide (2000 < z11)) = true →
     K [[z0], r1, [z5]] [[(cond (true) 1 0)]]
    ) ∧ ((decide (2000 < z11)) = false →
     chkD 22 [z0, 0, z8] ∧
     chkD 23 [0, z8] ∧
     ∀ z12 : Int, 0 ≤ z12 → z12 ≤ RB → z12 = fnD 22 [z0, 0, z8] →
     ∀ z13 : Int, 0 ≤ z13 → z13 ≤ RB → z13 = fnD 24 [0, z12] →
     (((decide (z8 ≤ 0)) = true →
      chkD 22 [0, 0, 0] ∧
      ∀ z14 : Int, 0 ≤ z14 → z14 ≤ RB → z14 = fnD 22 [0, 0, 0] →
      ∀ z15 : Int, 0 ≤ z15 → z15 ≤ RB → ∀ z16 : Int, 0 ≤ z16 → z16 ≤ 21 → S 308 [[z14], r1] [[z15], [z16]] →
      ∀ z17 : Int, 0 ≤ z17 →
      ∀ z18 : Int, (-1) ≤ z18 → z18 ≤ 9223372036854775807 → 
      ∀ z19 : Int, 0 ≤ z19 → z19 ≤ 9223372036854775807 → z19 = fnD 20 [z15] →
      chkD 22 [z0, 0, z8] ∧
      ∀ z20 : Int, 0 ≤ z20 → z20 ≤ RB → z20 = fnD 22 [z0, 0, z8] →
      ∀ z21 : Int, 0 ≤ z21 → z21 ≤ RB → ∀ z22 : Int, 0 ≤ z22 → z22 ≤ 21 → S 324 [[z20], r1] [[z21], [z22]] →
      ∀ z23 : Int, 0 ≤ z23 →
      ∀ z24 : Int, (-1) ≤ z24 → z24 ≤ 9223372036854775807 → 
      ∀ z25 : Int, 0 ≤ z25 → z25 ≤ 9223372036854775807 → z25 = fnD 20 [z21] →
      chkD 22 [0, 0, 0] ∧
      ∀ z26 : Int, 0 ≤ z26 → z26 ≤ RB → z26 = fnD 22 [0, 0, 0] →
      ∀ z27 : Int, 0 ≤ z27 → z27 ≤ RB → ∀ z28 : Int, 0 ≤ z28 → z28 ≤ 21 → S 309 [[z26], r1] [[z27], [z28]] →
      ∀ z29 : Int, 0 ≤ z29 →
      ∀ z30 : Int, (-1) ≤ z30 → z30 ≤ 9223372036854775807 → 
      ∀ z31 : Int, 0 ≤ z31 → z31 ≤ 9223372036854775807 → z31 = fnD 20 [z27] →
      chkD 22 [z0, 0, z8] ∧
      ∀ z32 : Int, 0 ≤ z32 → z32 ≤ RB → z32 = fnD 22 [z0, 0, z8] →
      ∀ z33 : Int, 0 ≤ z33 → z33 ≤ RB → ∀ z34 : Int, 0 ≤ z34 → z34 ≤ 21 → S 325 [[z32], r1] [[z33], [z34]] →
      ∀ z35 : Int, 0 ≤ z35 →
      ∀ z36 : Int, (-1) ≤ z36 → z36 ≤ 9223372036854775807 → 
      ∀ z37 : Int, 0 ≤ z37 → z37 ≤ 9223372036854775807 → z37 = fnD 20 [z33] →
      chkD 22 [0, 0, 0] ∧
      ∀ z38 : Int, 0 ≤ z38 → z38 ≤ RB → z38 = fnD 22 [0, 0, 0] →
      ∀ r39 : List Int, inB [(0, HB), (0, HB), (0, HB), ((-9223372036854775808), 9223372036854775807)] r39 → ∀ z43 : Int, 0 ≤ z43 → z43 ≤ 1 → S 304 [[z38], [(List.getD r1 0 0), (List.getD r1 1 0)]] [r39, [z43]] →
      chkD 22 [z0, 0, z8] ∧
      ∀ z44 : Int, 0 ≤ z44 → z44 ≤ RB → z44 = fnD 22 [z0, 0, z8] →
      ∀ r45 : List Int, inB [(0, HB), (0, HB), (0, HB), ((-9223372036854775808), 9223372036854775807)] r45 → ∀ z49 : Int, 0 ≤ z49 → z49 ≤ 1 → S 322 [[z44], [(List.getD r1 0 0), (List.getD r1 1 0)]] [r45, [z49]] →
      chkD 22 [z15, 0, z19] ∧
      ∀ z50 : Int, 0 ≤ z50 → z50 ≤ RB → z50 = fnD 22 [z15, 0, z19] →
      chkD 22 [z21, 0, z25] ∧
      ∀ z51 : Int, 0 ≤ z51 → z51 ≤ RB → z51 = fnD 22 [z21, 0, z25] →
      ∀ z52 : Int, 0 ≤ z52 → z52 ≤ 1 → S 327 [[z50], [z51]] [[z52]] →
      (((decide (z52 = 1)) = true →
       (((decide (z16 = z22)) = true →
        chkD 22 [z27, 0, z31] ∧
        ∀ z53 : Int, 0 ≤ z53 → z53 ≤ RB → z53 = fnD 22 [z27, 0, z31] →
        chkD 22 [z33, 0, z37] ∧
        ∀ z54 : Int, 0 ≤ z54 → z54 ≤ RB → z54 = fnD 22 [z33, 0, z37] →
        ∀ z55 : Int, 0 ≤ z55 → z55 ≤ 1 → S 327 [[z53], [z54]] [[z55]] →
        (((decide (z55 = 1)) = true →
         (((decide (z28 = z34)) = true →
          ∀ z56 : Int, 0 ≤ z56 → z56 ≤ 1 → z56 = fnD 4 [(List.getD r39 0 0), (List.getD r45 0 0)] →
          ∀ z57 : Int, 0 ≤ z57 → z57 ≤ 1 → z57 = fnD 4 [(List.getD r39 1 0), (List.getD r45 1 0)] →
          ∀ z58 : Int, 0 ≤ z58 → z58 ≤ 1 → z58 = fnD 4 [(List.getD r39 2 0), (List.getD r45 2 0)] →
          (((((decide ([z56, z57] = [1, 1])) && (decide ([z58, (List.getD r39 3 0)] = [1, (List.getD r45 3 0)])))) = true →
           (((((decide (z43 = 1)) == (decide (z49 = 1)))) = true →
            chkD 22 [0, 0, 0] ∧
            ∀ z59 : Int, 0 ≤ z59 → z59 ≤ RB → z59 = fnD 22 [0, 0, 0] →
            ∀ z60 : Int, 0 ≤ z60 → z60 ≤ 1 → S 303 [[z59]] [[z60]] →
            chkD 22 [z0, 0, z8] ∧
            ∀ z61 : Int, 0 ≤ z61 → z61 ≤ RB → z61 = fnD 22 [z0, 0, z8] →
            ∀ z62 : Int, 0 ≤ z62 → z62 ≤ 1 → S 321 [[z61]] [[z62]] →
            (((((decide (z60 = 1)) == (decide (z62 = 1)))) = true →
             chkD 22 [0, 0, 0] ∧
             ∀ z63 : Int, 0 ≤ z63 → z63 ≤ RB → z63 = fnD 22 [0, 0, 0] →
             ∀ z64 : Int, 0 ≤ z64 → z64 ≤ RB → S 305 [[z63], [z5]] [[z64]] →
             ∀ z65 : Int, (-1) ≤ z65 → z65 ≤ 9223372036854775807 → 
             ∀ z66 : Int, 0 ≤ z66 → z66 ≤ 9223372036854775807 → z66 = fnD 20 [z64] →
             chkD 22 [z0, 0, z8] ∧
             ∀ z67 : Int, 0 ≤ z67 → z67 ≤ RB → z67 = fnD 22 [z0, 0, z8] →
             ∀ z68 : Int, 0 ≤ z68 → z68 ≤ RB → S 326 [[z67], [z5]] [[z68]] →
             ∀ z69 : Int, (-1) ≤ z69 → z69 ≤ 9223372036854775807 → 
             ∀ z70 : Int, 0 ≤ z70 → z70 ≤ 9223372036854775807 → z70 = fnD 20 [z68] →
             chkD 22 [z64, 0, z66] ∧
             ∀ z71 : Int, 0 ≤ z71 → z71 ≤ RB → z71 = fnD 22 [z64, 0, z66] →
             chkD 22 [z68, 0, z70] ∧
             ∀ z72 : Int, 0 ≤ z72 → z72 ≤ RB → z72 = fnD 22 [z68, 0, z70] →
             ∀ z73 : Int, 0 ≤ z73 → z73 ≤ 1 → S 328 [[z71], [z72]] [[z73]] →
             (((decide (z73 = 1)) = true →
              chkD 22 [0, 0, 0] ∧
              ∀ z74 : Int, 0 ≤ z74 → z74 ≤ RB → z74 = fnD 22 [0, 0, 0] →
              chkD 22 [z0, 0, z8] ∧
              ∀ z75 : Int, 0 ≤ z75 → z75 ≤ RB → z75 = fnD 22 [z0, 0, z8] →
              ∀ z76 : Int, 0 ≤ z76 → z76 ≤ 1 → S 327 [[z74], [z75]] [[z76]] →
              K [[z0], r1, [z5]] [[(cond (decide (z76 = 1)) 1 0)]]
             ) ∧ ((decide (z73 = 1)) = false →
              K [[z0], r1, [z5]] [[(cond (false) 1 0)]]
             ))
            ) ∧ ((((decide (z60 = 1)) == (decide (z62 = 1)))) = false →
             K [[z0], r1, [z5]] [[(cond (false) 1 0)]]
            ))
           ) ∧ ((((decide (z43 = 1)) == (decide (z49 = 1)))) = false →
            K [[z0], r1, [z5]] [[(cond (false) 1 0)]]
           ))
          ) ∧ ((((decide ([z56, z57] = [1, 1])) && (decide ([z58, (List.getD r39 3 0)] = [1, (List.getD r45 3 0)])))) = false →
           K [[z0], r1, [z5]] [[(cond (false) 1 0)]]
          ))
         ) ∧ ((decide (z28 = z34)) = false →
          K [[z0], r1, [z5]] [[(cond (false) 1 0)]]
         ))
        ) ∧ ((decide (z55 = 1)) = false →
         K [[z0], r1, [z5]] [[(cond (false) 1 0)]]
        ))
       ) ∧ ((decide (z16 = z22)) = false →
        K [[z0], r1, [z5]] [[(cond (false) 1 0)]]
       ))
      ) ∧ ((decide (z52 = 1)) = false →
       K [[z0], r1, [z5]] [[(cond (false) 1 0)]]
      ))
     ) ∧ ((decide (z8 ≤ 0)) = false →
      ∀ z14 : Int, (-1) ≤ z14 → z14 ≤ 9223372036854775807 → 
      chkD 22 [z13, 0, z8] ∧
      ∀ z15 : Int, 0 ≤ z15 → z15 ≤ RB → z15 = fnD 22 [z13, 0, z8] →
      ∀ z16 : Int, 0 ≤ z16 → z16 ≤ RB → ∀ z17 : Int, 0 ≤ z17 → z17 ≤ 21 → S 308 [[z15], r1] [[z16], [z17]] →
      ∀ z18 : Int, 0 ≤ z18 →
      ∀ z19 : Int, (-1) ≤ z19 → z19 ≤ 9223372036854775807 → 
      ∀ z20 : Int, 0 ≤ z20 → z20 ≤ 9223372036854775807 → z20 = fnD 20 [z16] →
      chkD 22 [z0, 0, z8] ∧
      ∀ z21 : Int, 0 ≤ z21 → z21 ≤ RB → z21 = fnD 22 [z0, 0, z8] →
      ∀ z22 : Int, 0 ≤ z22 → z22 ≤ RB → ∀ z23 : Int, 0 ≤ z23 → z23 ≤ 21 → S 324 [[z21], r1] [[z22], [z23]] →
      ∀ z24 : Int, 0 ≤ z24 →
      ∀ z25 : Int, (-1) ≤ z25 → z25 ≤ 9223372036854775807 → 
      ∀ z26 : Int, 0 ≤ z26 → z26 ≤ 9223372036854775807 → z26 = fnD 20 [z22] →
      chkD 22 [z13, 0, z8] ∧
      ∀ z27 : Int, 0 ≤ z27 → z27 ≤ RB → z27 = fnD 22 [z13, 0, z8] →
      ∀ z28 : Int, 0 ≤ z28 → z28 ≤ RB → ∀ z29 : Int, 0 ≤ z29 → z29 ≤ 21 → S 309 [[z27], r1] [[z28], [z29]] →
      ∀ z30 : Int, 0 ≤ z30 →
      ∀ z31 : Int, (-1) ≤ z31 → z31 ≤ 9223372036854775807 → 
      ∀ z32 : Int, 0 ≤ z32 → z32 ≤ 9223372036854775807 → z32 = fnD 20 [z28] →
      chkD 22 [z0, 0, z8] ∧
      ∀ z33 : Int, 0 ≤ z33 → z33 ≤ RB → z33 = fnD 22 [z0, 0, z8] →
      ∀ z34 : Int, 0 ≤ z34 → z34 ≤ RB → ∀ z35 : Int, 0 ≤ z35 → z35 ≤ 21 → S 325 [[z33], r1] [[z34], [z35]] →
      ∀ z36 : Int, 0 ≤ z36 →
      ∀ z37 : Int, (-1) ≤ z37 → z37 ≤ 9223372036854775807 → 
      ∀ z38 : Int, 0 ≤ z38 → z38 ≤ 9223372036854775807 → z38 = fnD 20 [z34] →
      chkD 22 [z13, 0, z8] ∧
      ∀ z39 : Int, 0 ≤ z39 → z39 ≤ RB → z39 = fnD 22 [z13, 0, z8] →
      ∀ r40 : List Int, inB [(0, HB), (0, HB), (0, HB), ((-9223372036854775808), 9223372036854775807)] r40 → ∀ z44 : Int, 0 ≤ z44 → z44 ≤ 1 → S 304 [[z39], [(List.getD r1 0 0), (List.getD r1 1 0)]] [r40, [z44]] →
      chkD 22 [z0, 0, z8] ∧
      ∀ z45 : Int, 0 ≤ z45 → z45 ≤ RB → z45 = fnD 22 [z0, 0, z8] →
      ∀ r46 : List Int, inB [(0, HB), (0, HB), (0, HB), ((-9223372036854775808), 9223372036854775807)] r46 → ∀ z50 : Int, 0 ≤ z50 → z50 ≤ 1 → S 322 [[z45], [(List.getD r1 0 0), (List.getD r1 1 0)]] [r46, [z50]] →
      chkD 22 [z16, 0, z20] ∧
      ∀ z51 : Int, 0 ≤ z51 → z51 ≤ RB → z51 = fnD 22 [z16, 0, z20] →
      chkD 22 [z22, 0, z26] ∧
      ∀ z52 : Int, 0 ≤ z52 → z52 ≤ RB → z52 = fnD 22 [z22, 0, z26] →
      ∀ z53 : Int, 0 ≤ z53 → z53 ≤ 1 → S 327 [[z51], [z52]] [[z53]] →
      (((decide (z53 = 1)) = true →
       (((decide (z17 = z23)) = true →
        chkD 22 [z28, 0, z32] ∧
        ∀ z54 : Int, 0 ≤ z54 → z54 ≤ RB → z54 = fnD 22 [z28, 0, z32] →
        chkD 22 [z34, 0, z38] ∧
        ∀ z55 : Int, 0 ≤ z55 → z55 ≤ RB → z55 = fnD 22 [z34, 0, z38] →
        ∀ z56 : Int, 0 ≤ z56 → z56 ≤ 1 → S 327 [[z54], [z55]] [[z56]] →
        (((decide (z56 = 1)) = true →
         (((decide (z29 = z35)) = true →
          ∀ z57 : Int, 0 ≤ z57 → z57 ≤ 1 → z57 = fnD 4 [(List.getD r40 0 0), (List.getD r46 0 0)] →
          ∀ z58 : Int, 0 ≤ z58 → z58 ≤ 1 → z58 = fnD 4 [(List.getD r40 1 0), (List.getD r46 1 0)] →
          ∀ z59 : Int, 0 ≤ z59 → z59 ≤ 1 → z59 = fnD 4 [(List.getD r40 2 0), (List.getD r46 2 0)] →
          (((((decide ([z57, z58] = [1, 1])) && (decide ([z59, (List.getD r40 3 0)] = [1, (List.getD r46 3 0)])))) = true →
           (((((decide (z44 = 1)) == (decide (z50 = 1)))) = true →
            chkD 22 [z13, 0, z8] ∧
            ∀ z60 : Int, 0 ≤ z60 → z60 ≤ RB → z60 = fnD 22 [z13, 0, z8] →
            ∀ z61 : Int, 0 ≤ z61 → z61 ≤ 1 → S 303 [[z60]] [[z61]] →
            chkD 22 [z0, 0, z8] ∧
            ∀ z62 : Int, 0 ≤ z62 → z62 ≤ RB → z62 = fnD 22 [z0, 0, z8] →
            ∀ z63 : Int, 0 ≤ z63 → z63 ≤ 1 → S 321 [[z62]] [[z63]] →
            (((((decide (z61 = 1)) == (decide (z63 = 1)))) = true →
             chkD 22 [z13, 0, z8] ∧
             ∀ z64 : Int, 0 ≤ z64 → z64 ≤ RB → z64 = fnD 22 [z13, 0, z8] →
             ∀ z65 : Int, 0 ≤ z65 → z65 ≤ RB → S 305 [[z64], [z5]] [[z65]] →
             ∀ z66 : Int, (-1) ≤ z66 → z66 ≤ 9223372036854775807 → 
             ∀ z67 : Int, 0 ≤ z67 → z67 ≤ 9223372036854775807 → z67 = fnD 20 [z65] →
             chkD 22 [z0, 0, z8] ∧
             ∀ z68 : Int, 0 ≤ z68 → z68 ≤ RB → z68 = fnD 22 [z0, 0, z8] →
             ∀ z69 : Int, 0 ≤ z69 → z69 ≤ RB → S 326 [[z68], [z5]] [[z69]] →
             ∀ z70 : Int, (-1) ≤ z70 → z70 ≤ 9223372036854775807 → 
             ∀ z71 : Int, 0 ≤ z71 → z71 ≤ 9223372036854775807 → z71 = fnD 20 [z69] →
             chkD 22 [z65, 0, z67] ∧
             ∀ z72 : Int, 0 ≤ z72 → z72 ≤ RB → z72 = fnD 22 [z65, 0, z67] →
             chkD 22 [z69, 0, z71] ∧
             ∀ z73 : Int, 0 ≤ z73 → z73 ≤ RB → z73 = fnD 22 [z69, 0, z71] →
             ∀ z74 : Int, 0 ≤ z74 → z74 ≤ 1 → S 328 [[z72], [z73]] [[z74]] →
             (((decide (z74 = 1)) = true →
              chkD 22 [z13, 0, z8] ∧
              ∀ z75 : Int, 0 ≤ z75 → z75 ≤ RB → z75 = fnD 22 [z13, 0, z8] →
              chkD 22 [z0, 0, z8] ∧
              ∀ z76 : Int, 0 ≤ z76 → z76 ≤ RB → z76 = fnD 22 [z0, 0, z8] →
              ∀ z77 : Int, 0 ≤ z77 → z77 ≤ 1 → S 327 [[z75], [z76]] [[z77]] →
              K [[z0], r1, [z5]] [[(cond (decide (z77 = 1)) 1 0)]]
             ) ∧ ((decide (z74 = 1)) = false →
              K [[z0], r1, [z5]] [[(cond (false) 1 0)]]
             ))
            ) ∧ ((((decide (z61 = 1)) == (decide (z63 = 1)))) = false →
             K [[z0], r1, [z5]] [[(cond (false) 1 0)]]
            ))
           ) ∧ ((((decide (z44 = 1)) == (decide (z50 = 1)))) = false →
            K [[z0], r1, [z5]] [[(cond (false) 1 0)]]
           ))
          ) ∧ ((((decide ([z57, z58] = [1, 1])) && (decide ([z59, (List.getD r40 3 0)] = [1, (List.getD r46 3 0)])))) = false →
           K [[z0], r1, [z5]] [[(cond (false) 1 0)]]
          ))
         ) ∧ ((decide (z29 = z35)) = false →
          K [[z0], r1, [z5]] [[(cond (false) 1 0)]]
         ))
        ) ∧ ((decide (z56 = 1)) = false →
         K [[z0], r1, [z5]] [[(cond (false) 1 0)]]
        ))
       ) ∧ ((decide (z17 = z23)) = false →
        K [[z0], r1, [z5]] [[(cond (false) 1 0)]]
       ))
      ) ∧ ((decide (z53 = 1)) = false →
       K [[z0], r1, [z5]] [[(cond (false) 1 0)]]
      ))
     ))
    ))
   ))
  ))
 ))
/-- One's own list, and the list that was handed in. -/
theorem lb_arm {z0 z5 z8 o q : Int} {r1 : List Int} (hr1 : inB [(0, HB), (0, HB), (0, HB), ((-9223372036854775808), 9223372036854775807)] r1) (h8 : z8 = ((rOf z0).length : Int)) (hq : q = ((rOf o).length : Int)) (ho : bds o = bds z0) :
      chkD 22 [o, 0, q] ∧
      ∀ z15 : Int, 0 ≤ z15 → z15 ≤ RB → z15 = fnD 22 [o, 0, q] →
      ∀ z16 : Int, 0 ≤ z16 → z16 ≤ RB → ∀ z17 : Int, 0 ≤ z17 → z17 ≤ 21 → SB 308 [[z15], r1] [[z16], [z17]] →
      ∀ z18 : Int, 0 ≤ z18 →
      ∀ z19 : Int, (-1) ≤ z19 → z19 ≤ 9223372036854775807 → 
      ∀ z20 : Int, 0 ≤ z20 → z20 ≤ 9223372036854775807 → z20 = fnD 20 [z16] →
      chkD 22 [z0, 0, z8] ∧
      ∀ z21 : Int, 0 ≤ z21 → z21 ≤ RB → z21 = fnD 22 [z0, 0, z8] →
      ∀ z22 : Int, 0 ≤ z22 → z22 ≤ RB → ∀ z23 : Int, 0 ≤ z23 → z23 ≤ 21 → SB 324 [[z21], r1] [[z22], [z23]] →
      ∀ z24 : Int, 0 ≤ z24 →
      ∀ z25 : Int, (-1) ≤ z25 → z25 ≤ 9223372036854775807 → 
      ∀ z26 : Int, 0 ≤ z26 → z26 ≤ 9223372036854775807 → z26 = fnD 20 [z22] →
      chkD 22 [o, 0, q] ∧
      ∀ z27 : Int, 0 ≤ z27 → z27 ≤ RB → z27 = fnD 22 [o, 0, q] →
      ∀ z28 : Int, 0 ≤ z28 → z28 ≤ RB → ∀ z29 : Int, 0 ≤ z29 → z29 ≤ 21 → SB 309 [[z27], r1] [[z28], [z29]] →
      ∀ z30 : Int, 0 ≤ z30 →
      ∀ z31 : Int, (-1) ≤ z31 → z31 ≤ 9223372036854775807 → 
      ∀ z32 : Int, 0 ≤ z32 → z32 ≤ 9223372036854775807 → z32 = fnD 20 [z28] →
      chkD 22 [z0, 0, z8] ∧
      ∀ z33 : Int, 0 ≤ z33 → z33 ≤ RB → z33 = fnD 22 [z0, 0, z8] →
      ∀ z34 : Int, 0 ≤ z34 → z34 ≤ RB → ∀ z35 : Int, 0 ≤ z35 → z35 ≤ 21 → SB 325 [[z33], r1] [[z34], [z35]] →
      ∀ z36 : Int, 0 ≤ z36 →
      ∀ z37 : Int, (-1) ≤ z37 → z37 ≤ 9223372036854775807 → 
      ∀ z38 : Int, 0 ≤ z38 → z38 ≤ 9223372036854775807 → z38 = fnD 20 [z34] →
      chkD 22 [o, 0, q] ∧
      ∀ z39 : Int, 0 ≤ z39 → z39 ≤ RB → z39 = fnD 22 [o, 0, q] →
      ∀ r40 : List Int, inB [(0, HB), (0, HB), (0, HB), ((-9223372036854775808), 9223372036854775807)] r40 → ∀ z44 : Int, 0 ≤ z44 → z44 ≤ 1 → SB 304 [[z39], [(List.getD r1 0 0), (List.getD r1 1 0)]] [r40, [z44]] →
      chkD 22 [z0, 0, z8] ∧
      ∀ z45 : Int, 0 ≤ z45 → z45 ≤ RB → z45 = fnD 22 [z0, 0, z8] →
      ∀ r46 : List Int, inB [(0, HB), (0, HB), (0, HB), ((-9223372036854775808), 9223372036854775807)] r46 → ∀ z50 : Int, 0 ≤ z50 → z50 ≤ 1 → SB 322 [[z45], [(List.getD r1 0 0), (List.getD r1 1 0)]] [r46, [z50]] →
      chkD 22 [z16, 0, z20] ∧
      ∀ z51 : Int, 0 ≤ z51 → z51 ≤ RB → z51 = fnD 22 [z16, 0, z20] →
      chkD 22 [z22, 0, z26] ∧
      ∀ z52 : Int, 0 ≤ z52 → z52 ≤ RB → z52 = fnD 22 [z22, 0, z26] →
      ∀ z53 : Int, 0 ≤ z53 → z53 ≤ 1 → SB 327 [[z51], [z52]] [[z53]] →
      (((decide (z53 = 1)) = true →
       (((decide (z17 = z23)) = true →
        chkD 22 [z28, 0, z32] ∧
        ∀ z54 : Int, 0 ≤ z54 → z54 ≤ RB → z54 = fnD 22 [z28, 0, z32] →
        chkD 22 [z34, 0, z38] ∧
        ∀ z55 : Int, 0 ≤ z55 → z55 ≤ RB → z55 = fnD 22 [z34, 0, z38] →
        ∀ z56 : Int, 0 ≤ z56 → z56 ≤ 1 → SB 327 [[z54], [z55]] [[z56]] →
        (((decide (z56 = 1)) = true →
         (((decide (z29 = z35)) = true →
          ∀ z57 : Int, 0 ≤ z57 → z57 ≤ 1 → z57 = fnD 4 [(List.getD r40 0 0), (List.getD r46 0 0)] →
          ∀ z58 : Int, 0 ≤ z58 → z58 ≤ 1 → z58 = fnD 4 [(List.getD r40 1 0), (List.getD r46 1 0)] →
          ∀ z59 : Int, 0 ≤ z59 → z59 ≤ 1 → z59 = fnD 4 [(List.getD r40 2 0), (List.getD r46 2 0)] →
          (((((decide ([z57, z58] = [1, 1])) && (decide ([z59, (List.getD r40 3 0)] = [1, (List.getD r46 3 0)])))) = true →
           (((((decide (z44 = 1)) == (decide (z50 = 1)))) = true →
            chkD 22 [o, 0, q] ∧
            ∀ z60 : Int, 0 ≤ z60 → z60 ≤ RB → z60 = fnD 22 [o, 0, q] →
            ∀ z61 : Int, 0 ≤ z61 → z61 ≤ 1 → SB 303 [[z60]] [[z61]] →
            chkD 22 [z0, 0, z8] ∧
            ∀ z62 : Int, 0 ≤ z62 → z62 ≤ RB → z62 = fnD 22 [z0, 0, z8] →
            ∀ z63 : Int, 0 ≤ z63 → z63 ≤ 1 → SB 321 [[z62]] [[z63]] →
            (((((decide (z61 = 1)) == (decide (z63 = 1)))) = true →
             chkD 22 [o, 0, q] ∧
             ∀ z64 : Int, 0 ≤ z64 → z64 ≤ RB → z64 = fnD 22 [o, 0, q] →
             ∀ z65 : Int, 0 ≤ z65 → z65 ≤ RB → SB 305 [[z64], [z5]] [[z65]] →
             ∀ z66 : Int, (-1) ≤ z66 → z66 ≤ 9223372036854775807 → 
             ∀ z67 : Int, 0 ≤ z67 → z67 ≤ 9223372036854775807 → z67 = fnD 20 [z65] →
             chkD 22 [z0, 0, z8] ∧
             ∀ z68 : Int, 0 ≤ z68 → z68 ≤ RB → z68 = fnD 22 [z0, 0, z8] →
             ∀ z69 : Int, 0 ≤ z69 → z69 ≤ RB → SB 326 [[z68], [z5]] [[z69]] →
             ∀ z70 : Int, (-1) ≤ z70 → z70 ≤ 9223372036854775807 → 
             ∀ z71 : Int, 0 ≤ z71 → z71 ≤ 9223372036854775807 → z71 = fnD 20 [z69] →
             chkD 22 [z65, 0, z67] ∧
             ∀ z72 : Int, 0 ≤ z72 → z72 ≤ RB → z72 = fnD 22 [z65, 0, z67] →
             chkD 22 [z69, 0, z71] ∧
             ∀ z73 : Int, 0 ≤ z73 → z73 ≤ RB → z73 = fnD 22 [z69, 0, z71] →
             ∀ z74 : Int, 0 ≤ z74 → z74 ≤ 1 → SB 328 [[z72], [z73]] [[z74]] →
             (((decide (z74 = 1)) = true →
              chkD 22 [o, 0, q] ∧
              ∀ z75 : Int, 0 ≤ z75 → z75 ≤ RB → z75 = fnD 22 [o, 0, q] →
              chkD 22 [z0, 0, z8] ∧
              ∀ z76 : Int, 0 ≤ z76 → z76 ≤ RB → z76 = fnD 22 [z0, 0, z8] →
              ∀ z77 : Int, 0 ≤ z77 → z77 ≤ 1 → SB 327 [[z75], [z76]] [[z77]] →
              KBb SB [.d .bool] 329 [[z0], r1, [z5]] [[(cond (decide (z77 = 1)) 1 0)]]
             ) ∧ ((decide (z74 = 1)) = false →
              KBb SB [.d .bool] 329 [[z0], r1, [z5]] [[(cond (false) 1 0)]]
             ))
            ) ∧ ((((decide (z61 = 1)) == (decide (z63 = 1)))) = false →
             KBb SB [.d .bool] 329 [[z0], r1, [z5]] [[(cond (false) 1 0)]]
            ))
           ) ∧ ((((decide (z44 = 1)) == (decide (z50 = 1)))) = false →
            KBb SB [.d .bool] 329 [[z0], r1, [z5]] [[(cond (false) 1 0)]]
           ))
          ) ∧ ((((decide ([z57, z58] = [1, 1])) && (decide ([z59, (List.getD r40 3 0)] = [1, (List.getD r46 3 0)])))) = false →
           KBb SB [.d .bool] 329 [[z0], r1, [z5]] [[(cond (false) 1 0)]]
          ))
         ) ∧ ((decide (z29 = z35)) = false →
          KBb SB [.d .bool] 329 [[z0], r1, [z5]] [[(cond (false) 1 0)]]
         ))
        ) ∧ ((decide (z56 = 1)) = false →
         KBb SB [.d .bool] 329 [[z0], r1, [z5]] [[(cond (false) 1 0)]]
        ))
       ) ∧ ((decide (z17 = z23)) = false →
        KBb SB [.d .bool] 329 [[z0], r1, [z5]] [[(cond (false) 1 0)]]
       ))
      ) ∧ ((decide (z53 = 1)) = false →
       KBb SB [.d .bool] 329 [[z0], r1, [z5]] [[(cond (false) 1 0)]]
      )) := by
  have kk : ∀ b : Bool, b = true → KBb SB [.d .bool] 329 [[z0], r1, [z5]] [[cond b 1 0]] := fun b h => by subst h; exact ⟨⟨by decide, by decide, trivial⟩, rfl⟩
  obtain ⟨x0, x1, x2, x3, er, _, _, _, _⟩ := inB4 hr1
  have W0 := fun y => whole_bds (z := z0) (y := y) h8
  have WO := fun y => whole_bds (z := o) (y := y) hq
  have B0 : ∀ y, y = fnD 22 [z0, 0, z8] → bds y = bds z0 := fun y h => bds_same ((W0 y).2 h)
  have BO : ∀ y, y = fnD 22 [o, 0, q] → bds y = bds z0 := fun y h => (bds_same ((WO y).2 h)).trans ho
  refine ⟨(WO 0).1, fun z15 _ _ h15 z16 _ _ z17 _ _ h308 z18 _ z19 _ _ z20 _ _ h20 => ⟨(W0 0).1, fun z21 _ _ h21 z22 _ _ z23 _ _ h324 z24 _ z25 _ _ z26 _ _ h26 => ⟨(WO 0).1, fun z27 _ _ h27 z28 _ _ z29 _ _ h309 z30 _ z31 _ _ z32 _ _ h32 => ⟨(W0 0).1, fun z33 _ _ h33 z34 _ _ z35 _ _ h325 z36 _ z37 _ _ z38 _ _ h38 => ⟨(WO 0).1, fun z39 _ _ h39 r40 hr40 z44 _ _ h304 => ⟨(W0 0).1, fun z45 _ _ h45 r46 hr46 z50 _ _ h322 => ⟨(whole_bds (y := 0) h20).1, fun z51 _ _ h51 => ⟨(whole_bds (y := 0) h26).1, fun z52 _ _ h52 z53 _ _ h327 => ?_⟩⟩⟩⟩⟩⟩⟩⟩
  have h308 : (bds z16, z17) = bindF (bds z15) (bdOf r1) := h308
  have h324 : (bds z22, z23) = bindF (bds z21) (bdOf r1) := h324
  have h309 : (bds z28, z29) = unbindF (bds z27) (bdOf r1) := h309
  have h325 : (bds z34, z35) = unbindF (bds z33) (bdOf r1) := h325
  rw [BO _ h15] at h308
  rw [B0 _ h21] at h324
  rw [BO _ h27] at h309
  rw [B0 _ h33] at h325
  obtain ⟨e1, e2⟩ := Prod.mk.inj (h308.trans h324.symm)
  obtain ⟨e3, e4⟩ := Prod.mk.inj (h309.trans h325.symm)
  have h327 : z53 = b01 (decide (bds z51 = bds z52)) := h327
  rw [bds_same ((whole_bds (y := z51) h20).2 h51), bds_same ((whole_bds (y := z52) h26).2 h52), decide_eq_true e1] at h327
  refine ⟨fun _ => ⟨fun _ => ⟨(whole_bds (y := 0) h32).1, fun z54 _ _ h54 => ⟨(whole_bds (y := 0) h38).1, fun z55 _ _ h55 z56 _ _ h327' => ?_⟩⟩, fun h => absurd e2 (of_decide_eq_false h)⟩, fun h => (by rw [h327] at h; cases h)⟩
  have h327' : z56 = b01 (decide (bds z54 = bds z55)) := h327'
  rw [bds_same ((whole_bds (y := z54) h32).2 h54), bds_same ((whole_bds (y := z55) h38).2 h55), decide_eq_true e3] at h327'
  refine ⟨fun _ => ⟨fun _ z57 _ _ h57 z58 _ _ h58 z59 _ _ h59 => ?_, fun h => absurd e4 (of_decide_eq_false h)⟩, fun h => (by rw [h327'] at h; cases h)⟩
  have hd := bd_dec (r := r40) (s := r46) h57 h58 h59
  have hF : (match findL (bds z39) (whoOf r1) with | some b => bdOf r40 = b ∧ z44 = 1 | none => bdOf r40 = bd0 ∧ z44 = 0) := by rw [er] at h304 ⊢; exact h304
  have hG : (match findL (bds z45) (whoOf r1) with | some b => bdOf r46 = b ∧ z50 = 1 | none => bdOf r46 = bd0 ∧ z50 = 0) := by rw [er] at h322 ⊢; exact h322
  rw [BO _ h39] at hF
  rw [B0 _ h45] at hG
  have hFG : bdOf r40 = bdOf r46 ∧ z44 = z50 := by
    cases hf : findL (bds z0) (whoOf r1) with
    | none => rw [hf] at hF hG; exact ⟨hF.1.trans hG.1.symm, hF.2.trans hG.2.symm⟩
    | some b => rw [hf] at hF hG; exact ⟨hF.1.trans hG.1.symm, hF.2.trans hG.2.symm⟩
  rw [decide_eq_true hFG.1] at hd
  refine ⟨fun _ => ⟨fun _ => ⟨(WO 0).1, fun z60 _ _ h60 z61 _ _ h303 => ⟨(W0 0).1, fun z62 _ _ h62 z63 _ _ h321 => ?_⟩⟩, fun h => (by rw [hFG.2] at h; simp at h)⟩, fun h => (by rw [hd] at h; cases h)⟩
  have h303 : z61 = b01 (rightL (bds z60)) := h303
  have h321 : z63 = b01 (rightL (bds z62)) := h321
  rw [BO _ h60] at h303
  rw [B0 _ h62] at h321
  refine ⟨fun _ => ⟨(WO 0).1, fun z64 _ _ h64 z65 _ _ h305 z66 _ _ z67 _ _ h67 => ⟨(W0 0).1, fun z68 _ _ h68 z69 _ _ h326 z70 _ _ z71 _ _ h71 => ⟨(whole_bds (y := 0) h67).1, fun z72 _ _ h72 => ⟨(whole_bds (y := 0) h71).1, fun z73 _ _ h73 z74 _ _ h328 => ?_⟩⟩⟩⟩, fun h => (by rw [h303, h321] at h; simp at h)⟩
  have h305 : whos z65 = ofL (bds z64) (sOf z5) := h305
  have h326 : whos z69 = ofL (bds z68) (sOf z5) := h326
  rw [BO _ h64] at h305
  rw [B0 _ h68] at h326
  have h328 : z74 = b01 (decide (whos z72 = whos z73)) := h328
  have ew : ∀ {y c n : Int}, n = ((rOf c).length : Int) → y = fnD 22 [c, 0, n] → whos y = whos c := fun {y c n} hn h => by unfold whos; rw [(whole_bds (y := y) hn).2 h]
  rw [ew h67 h72, ew h71 h73, decide_eq_true (h305.trans h326.symm)] at h328
  refine ⟨fun _ => ⟨(WO 0).1, fun z75 _ _ h75 => ⟨(W0 0).1, fun z76 _ _ h76 z77 _ _ h327'' => kk _ ?_⟩⟩, fun h => (by rw [h328] at h; cases h)⟩
  have h327'' : z77 = b01 (decide (bds z75 = bds z76)) := h327''
  rw [BO _ h75, B0 _ h76] at h327''
  rw [h327'']; simp [b01_one]
theorem p_lbinds : B_lbinds SB (KBb SB [.d .bool] 329) := by
  intro z0 a0 a1 r1 hr1 z5 _ _ z6 _ z7 _ _ z8 _ _ h8 z9 b0 b1 h9
  have kk : ∀ b : Bool, b = true → KBb SB [.d .bool] 329 [[z0], r1, [z5]] [[cond b 1 0]] := fun b h => by subst h; exact ⟨⟨by decide, by decide, trivial⟩, rfl⟩
  have h8 : z8 = ((rOf z0).length : Int) := h8
  have h9 : z9 = 1 := h9
  refine ⟨fun h => (by rw [h9] at h; cases h), fun _ => ⟨fun _ => kk true rfl, fun h100 z10 _ _ h10 => ⟨fun _ => kk true rfl, fun _ z11 _ _ h11 => ⟨fun _ => kk true rfl, fun _ => ⟨(whole_bds (y := 0) h8).1, ⟨?_, fun z12 _ _ h12 z13 _ _ h13 => ?_⟩⟩⟩⟩⟩⟩
  · have := of_decide_eq_false h100
    show (rOf 0).length + z8 ≤ 1073741824
    rw [Go.Rx.rOf_zero]; simp; omega
  have h12 := (whole_bds (y := z12) h8).2 h12
  have h13 : rOf z13 = rOf z0 := by
    rw [h13]
    show rOf (rc (rOf 0 ++ rOf z12)) = _
    rw [rOf_rc, Go.Rx.rOf_zero, List.nil_append, h12]
  refine ⟨fun h => ?_, fun h => fun z14 _ _ => ?_⟩
  · have h := of_decide_eq_true h
    have h0 : rOf z0 = [] := List.eq_nil_of_length_eq_zero (by omega)
    exact lb_arm hr1 h8 (by rw [Go.Rx.rOf_zero]; rfl) (by unfold bds; rw [Go.Rx.rOf_zero, h0])
  · exact lb_arm hr1 h8 (by rw [h13]; exact h8) (bds_same h13)

end Go.Ad

set_option maxRecDepth 100000
set_option linter.unusedVariables false
namespace Go.Ad
open Go Go.Rx
def li_none : FuncId → Nat → Option LoopI := fun _ _ => none
def lsh_none : Nat → List Nat := fun _ => []
def aa : D := .mix [.str, .str]
def du8 : D := .int .u8 0 255
def didx : D := .int .i64 (-1) 9223372036854775807
def derr : D := .int .i64 0 21
def ksp : D := .strk [32]
def kdot : D := .strk [46]
def kdd : D := .strk [46, 46]
def kdm : D := .strk [46, 45]
def kat : D := .strk [64]
def kcol : D := .strk [58]
def khost : D := .strk [97, 98, 99, 100, 101, 102, 103, 104, 105, 106, 107, 108, 109, 110, 111, 112, 113, 114, 115, 116, 117, 118, 119, 120, 121, 122, 65, 66, 67, 68, 69, 70, 71, 72, 73, 74, 75, 76, 77, 78, 79, 80, 81, 82, 83, 84, 85, 86, 87, 88, 89, 90, 48, 49, 50, 51, 52, 53, 54, 55, 56, 57, 46, 45]
def kdig : D := .strk [48, 49, 50, 51, 52, 53, 54, 55, 56, 57]
def kus : D := .strk [97, 98, 99, 100, 101, 102, 103, 104, 105, 106, 107, 108, 109, 110, 111, 112, 113, 114, 115, 116, 117, 118, 119, 120, 121, 122, 48, 49, 50, 51, 52, 53, 54, 55, 56, 57, 46, 95, 61, 47, 43, 45]
def d64 : D := .int .u8 64 64
def bb : D := .mix [.str, .str, .str, .int .i64 (-9223372036854775808) 9223372036854775807]
def lbb : BD := .rd [.str, .str, .str, .int .i64 (-9223372036854775808) 9223372036854775807]
def obb : BD := .ow [.str, .str, .str, .int .i64 (-9223372036854775808) 9223372036854775807] 26
def dcmp : D := .int .i64 (-1) 1
def dpos : D := .int .i64 0 9223372036854775807
def oaa : BD := .ow [.str, .str] 24
def laa : BD := .rd [.str, .str]
def k_ibs : Con := ⟨101, 73, [.str, du8], [didx]⟩
def k_tlb : Con := ⟨72, 36, [.str, du8], [.str]⟩
def li_tlb : FuncId → Nat → Option LoopI := fun f r => match f, r with
  | 72, 1 => some ⟨[1], [(0, 0, 0)], [], [], [], [], []⟩
  | _, _ => none
def lsh_tlb : Nat → List Nat := fun n => [1]
def k_trb : Con := ⟨73, 37, [.str, du8], [.str]⟩
def li_trb : FuncId → Nat → Option LoopI := fun f r => match f, r with
  | 73, 1 => some ⟨[1], [(0, 0, 0)], [], [], [], [], []⟩
  | _, _ => none
def lsh_trb : Nat → List Nat := fun n => [1]
def k_tsp : Con := ⟨55, 120, [.str, ksp], [.str]⟩
def k_tdot : Con := ⟨55, 121, [.str, kdot], [.str]⟩
def k_cdot : Con := ⟨58, 127, [.str, kdot], [.bool]⟩
def k_tdm : Con := ⟨55, 122, [.str, kdm], [.str]⟩
def li_tdm : FuncId → Nat → Option LoopI := fun f r => match f, r with
  | 75, 1 => some ⟨[1], [(0, 0, 0)], [], [], [], [], []⟩
  | 76, 1 => some ⟨[1], [(0, 0, 0)], [], [], [], [], []⟩
  | _, _ => none
def lsh_tdm : Nat → List Nat := fun n => [1]
def k_cutat : Con := ⟨46, 125, [.str, kat], [.str, .str, .bool]⟩
def k_cutcol : Con := ⟨46, 126, [.str, kcol], [.str, .str, .bool]⟩
def k_only : Con := ⟨79, 44, [.str, .str], [.bool]⟩
def li_only : FuncId → Nat → Option LoopI := fun f r => match f, r with
  | 79, 2 => some ⟨[0, 1, 7], [(8, 0, 9223372036854775807)], [], [], [], [], []⟩
  | _, _ => none
def lsh_only : Nat → List Nat := fun n => [1]
def k_ionly : Con := ⟨65, 65, [.str, .str], [.bool]⟩
def li_ionly : FuncId → Nat → Option LoopI := fun f r => match f, r with
  | 65, 2 => some ⟨[0, 1, 7], [(8, 0, 9223372036854775807)], [], [], [], [], []⟩
  | _, _ => none
def lsh_ionly : Nat → List Nat := fun n => [1]
def k_low : Con := ⟨59, 28, [.str], [.str]⟩
def li_low : FuncId → Nat → Option LoopI := fun f r => match f, r with
  | 59, 3 => some ⟨[3, 8, 9], [(10, 0, 9223372036854775807)], [(0, 0, 0, 0)], [], [], [], []⟩
  | _, _ => none
def lsh_low : Nat → List Nat := fun n => [1, 1]
def k_rlow : Con := ⟨70, 17, [.str], [.str]⟩
def li_rlow : FuncId → Nat → Option LoopI := fun f r => match f, r with
  | 70, 3 => some ⟨[3], [(4, 0, 9223372036854775807)], [(0, 0, 0, 0)], [], [], [], []⟩
  | _, _ => none
def lsh_rlow : Nat → List Nat := fun n => [1, 1]
def k_rhas : Con := ⟨69, 31, [.str, du8], [.bool]⟩
def li_rhas : FuncId → Nat → Option LoopI := fun f r => match f, r with
  | 69, 2 => some ⟨[0, 1], [(5, 0, 9223372036854775807)], [], [], [], [], []⟩
  | _, _ => none
def lsh_rhas : Nat → List Nat := fun n => [1]
def k_cdd : Con := ⟨58, 128, [.str, kdd], [.bool]⟩
def q_cdd : QCon := ⟨k_cdd, 41⟩
def k_thost : Con := ⟨55, 123, [.str, khost], [.str]⟩
def li_thost : FuncId → Nat → Option LoopI := fun f r => match f, r with
  | 75, 1 => some ⟨[1], [(0, 0, 0)], [], [], [], [], []⟩
  | 76, 1 => some ⟨[1], [(0, 0, 0)], [], [], [], [], []⟩
  | _, _ => none
def lsh_thost : Nat → List Nat := fun n => [1]
def k_tdig : Con := ⟨55, 124, [.str, kdig], [.str]⟩
def li_tdig : FuncId → Nat → Option LoopI := fun f r => match f, r with
  | 75, 1 => some ⟨[1], [(0, 0, 0)], [], [], [], [], []⟩
  | 76, 1 => some ⟨[1], [(0, 0, 0)], [], [], [], [], []⟩
  | _, _ => none
def lsh_tdig : Nat → List Nat := fun n => [1]
def k_host : Con := ⟨66, 47, [.str], [.bool]⟩
def k_server : Con := ⟨49, 27, [.str], [.bool]⟩
def k_local : Con := ⟨56, 24, [.str], [.bool]⟩
def k_rlocal : Con := ⟨67, 29, [.str], [.bool]⟩
def li_rlocal : FuncId → Nat → Option LoopI := fun f r => match f, r with
  | 67, 5 => some ⟨[0, 3], [(4, 0, 9223372036854775807)], [], [], [], [], []⟩
  | 67, 10 => some ⟨[0, 3, 4, 5], [(7, 0, 9223372036854775807)], [], [6], [], [], []⟩
  | _, _ => none
def lsh_rlocal : Nat → List Nat := fun n => cond (Nat.beq n 3) [1] [1, 1]
def k_small : Con := ⟨41, 50, [du8], [.bool]⟩
def k_great : Con := ⟨88, 51, [du8], [.bool]⟩
def k_digit : Con := ⟨42, 52, [du8], [.bool]⟩
def k_rhost : Con := ⟨68, 30, [.str], [.bool]⟩
def li_rhost : FuncId → Nat → Option LoopI := fun f r => match f, r with
  | 68, 4 => some ⟨[0], [(3, 0, 9223372036854775807)], [], [], [], [], []⟩
  | _, _ => none
def lsh_rhost : Nat → List Nat := fun n => [1]
def k_rcountry : Con := ⟨71, 35, [.str], [.str, .bool, .bool]⟩
def k_rphone : Con := ⟨52, 13, [.str, .str], [.str, derr]⟩
def q_rphone : QCon := ⟨k_rphone, 44⟩
def li_rphone : FuncId → Nat → Option LoopI := fun f r => match f, r with
  | 52, 7 => some ⟨[0, 1, 6, 7, 8], [(9, 0, 0), (11, 0, 9223372036854775807)], [], [10], [], [], []⟩
  | _, _ => none
def lsh_rphone : Nat → List Nat := fun n => [1, 1, 1]
def k_remail : Con := ⟨51, 11, [.str], [.str, derr]⟩
def li_remail : FuncId → Nat → Option LoopI := fun f r => match f, r with
  | 51, 1 => some ⟨[], [(0, 0, 0)], [], [], [], [], []⟩
  | 51, 3 => some ⟨[], [(0, 0, 0)], [], [], [], [], []⟩
  | 51, 6 => some ⟨[0], [(4, 0, 9223372036854775807)], [], [], [], [], []⟩
  | _, _ => none
def lsh_remail : Nat → List Nat := fun n => [1]
def k_country : Con := ⟨60, 32, [.str], [aa, .bool]⟩
def k_bare : Con := ⟨61, 33, [.str], [.str, .bool, .bool]⟩
def k_tpre : Con := ⟨62, 34, [.str, .str], [.str]⟩
def k_email : Con := ⟨43, 10, [.str], [.str, derr]⟩
def k_phone : Con := ⟨44, 12, [.str, .str], [.str, derr]⟩
def q_phone : QCon := ⟨k_phone, 44⟩
def k_make : Con := ⟨36, 15, [.str, .str], [aa, derr]⟩
def k_rmake : Con := ⟨39, 18, [.str, .str], [aa, derr]⟩
def k_right : Con := ⟨28, 16, [aa], [.bool]⟩
def k_rright : Con := ⟨33, 19, [aa], [.bool]⟩
def k_less : Con := ⟨35, 14, [aa, aa], [.bool]⟩
def k_rless : Con := ⟨25, 21, [aa, aa], [.bool]⟩
def k_tus : Con := ⟨55, 202, [.str, kus], [.str]⟩
def li_tus : FuncId → Nat → Option LoopI := fun f r => match f, r with
  | 75, 1 => some ⟨[1], [(0, 0, 0)], [], [], [], [], []⟩
  | 76, 1 => some ⟨[1], [(0, 0, 0)], [], [], [], [], []⟩
  | _, _ => none
def lsh_tus : Nat → List Nat := fun n => [1]
def k_colon : Con := ⟨53, 204, [.str], [didx]⟩
def li_colon : FuncId → Nat → Option LoopI := fun f r => match f, r with
  | 53, 2 => some ⟨[0], [(3, 0, 9223372036854775807)], [], [], [], [], []⟩
  | _, _ => none
def lsh_colon : Nat → List Nat := fun n => [1]
def k_rserver : Con := ⟨54, 205, [.str], [.bool]⟩
def li_rserver : FuncId → Nat → Option LoopI := fun f r => match f, r with
  | 54, 6 => some ⟨[0, 3, 4], [(5, 0, 9223372036854775807)], [], [], [], [], []⟩
  | _, _ => none
def lsh_rserver : Nat → List Nat := fun n => [1]
def k_partsu : Con := ⟨40, 206, [.str, d64], [.str, .str, .bool]⟩
def k_ruser : Con := ⟨34, 207, [.str], [.bool]⟩
def li_ruser : FuncId → Nat → Option LoopI := fun f r => match f, r with
  | 34, 3 => some ⟨[3, 5], [(6, 0, 9223372036854775807)], [], [], [], [], []⟩
  | _, _ => none
def lsh_ruser : Nat → List Nat := fun n => [1]
def k_user : Con := ⟨29, 200, [.str], [.bool]⟩
def k_bright : Con := ⟨19, 300, [bb], [.bool]⟩
def k_bcmp : Con := ⟨27, 301, [bb, aa], [dcmp]⟩
def k_bplace : BCon := ⟨20, 302, [lbb, .d aa], [.d dpos, .d .bool], 0⟩
def li_bplace : FuncId → Nat → Option LoopI := fun f r => match f, r with
  | 30, 3 => some ⟨[0, 2, 4, 8], [(9, 0, 9223372036854775807), (10, 0, 9223372036854775807)], [], [], [], [], []⟩
  | _, _ => none
def lsh_bplace : Nat → List Nat := fun n => [1, 1]
def k_bRight : BCon := ⟨13, 303, [lbb], [.d .bool], 0⟩
def li_bRight : FuncId → Nat → Option LoopI := fun f r => match f, r with
  | 13, 4 => some ⟨[0, 8, 9], [(10, 0, 9223372036854775807)], [], [], [], [], []⟩
  | _, _ => none
def lsh_bRight : Nat → List Nat := fun n => [1]
def k_bFind : BCon := ⟨10, 304, [lbb, .d aa], [.d bb, .d .bool], 0⟩
def k_bOf : BCon := ⟨16, 305, [lbb, .d .str], [oaa], 0⟩
def li_bOf : FuncId → Nat → Option LoopI := fun f r => match f, r with
  | 16, 5 => some ⟨[0, 1, 11, 12], [(13, 0, 9223372036854775807)], [], [], [(5, [.str, .str], 24)], [], []⟩
  | _, _ => none
def lsh_bOf : Nat → List Nat := fun n => [1, 1, 1, 1]
def k_bins : ICon := ⟨22, 306, [.str, .str, .str, .int .i64 (-9223372036854775808) 9223372036854775807], 26, [.d dpos, lbb], 51⟩
def k_bdel : ICon := ⟨26, 307, [.str, .str, .str, .int .i64 (-9223372036854775808) 9223372036854775807], 26, [.d dpos, .d dpos], 52⟩
def k_bBind : BCon := ⟨6, 308, [lbb, .d bb], [lbb, .d derr], 0⟩
def k_bUnbind : BCon := ⟨8, 309, [lbb, .d bb], [lbb, .d derr], 0⟩
def k_balive : BCon := ⟨4, 310, [], [.d .bool], 0⟩
def k_xr : Con := ⟨23, 320, [bb], [.bool]⟩
def k_xR : BCon := ⟨14, 321, [lbb], [.d .bool], 0⟩
def li_xR : FuncId → Nat → Option LoopI := fun f r => match f, r with
  | 14, 4 => some ⟨[0], [(3, 0, 9223372036854775807)], [], [], [], [], []⟩
  | _, _ => none
def lsh_xR : Nat → List Nat := fun n => [1]
def k_xF : BCon := ⟨11, 322, [lbb, .d aa], [.d bb, .d .bool], 0⟩
def li_xF : FuncId → Nat → Option LoopI := fun f r => match f, r with
  | 11, 2 => some ⟨[0, 3, 4, 5], [(6, 0, 9223372036854775807)], [], [], [], [], []⟩
  | _, _ => none
def lsh_xF : Nat → List Nat := fun n => [1]
def k_xw : BCon := ⟨24, 323, [lbb, .d aa], [obb], 66⟩
def li_xw : FuncId → Nat → Option LoopI := fun f r => match f, r with
  | 24, 3 => some ⟨[0, 3], [(6, 0, 9223372036854775807)], [], [], [(5, [.str, .str, .str, .int .i64 (-9223372036854775808) 9223372036854775807], 26)], [], []⟩
  | _, _ => none
def lsh_xw : Nat → List Nat := fun n => [1, 1, 1, 1]
def k_xB : BCon := ⟨7, 324, [lbb, .d bb], [lbb, .d derr], 0⟩
def li_xB : FuncId → Nat → Option LoopI := fun f r => match f, r with
  | 7, 9 => some ⟨[0, 3, 6], [(9, 0, 9223372036854775807)], [], [8], [(7, [.str, .str, .str, .int .i64 (-9223372036854775808) 9223372036854775807], 26)], [], []⟩
  | _, _ => none
def lsh_xB : Nat → List Nat := fun n => [1, 1, 1, 1, 1]
def k_xU : BCon := ⟨9, 325, [lbb, .d bb], [lbb, .d derr], 0⟩
def k_xO : BCon := ⟨17, 326, [lbb, .d .str], [oaa], 0⟩
def li_xO : FuncId → Nat → Option LoopI := fun f r => match f, r with
  | 17, 3 => some ⟨[0, 1], [(6, 0, 9223372036854775807)], [], [], [(5, [.str, .str], 24)], [], []⟩
  | _, _ => none
def lsh_xO : Nat → List Nat := fun n => [1, 1, 1, 1]
def k_xS : BCon := ⟨12, 327, [lbb, lbb], [.d .bool], 0⟩
def li_xS : FuncId → Nat → Option LoopI := fun f r => match f, r with
  | 12, 4 => some ⟨[0, 1], [(5, 0, 9223372036854775807)], [], [], [], [], []⟩
  | _, _ => none
def lsh_xS : Nat → List Nat := fun n => [1]
def k_xA : BCon := ⟨15, 328, [laa, laa], [.d .bool], 0⟩
def li_xA : FuncId → Nat → Option LoopI := fun f r => match f, r with
  | 15, 4 => some ⟨[0, 1], [(5, 0, 9223372036854775807)], [], [], [], [], []⟩
  | _, _ => none
def lsh_xA : Nat → List Nat := fun n => [1]
def k_lbinds : BCon := ⟨3, 329, [lbb, .d bb, .d .str], [.d .bool], 0⟩
def sh : Nat → List Nat × List Nat
  | 73 => ([1, 1], [1])
  | 36 => ([1, 1], [1])
  | 37 => ([1, 1], [1])
  | 120 => ([1], [1])
  | 121 => ([1], [1])
  | 127 => ([1], [1])
  | 122 => ([1], [1])
  | 125 => ([1], [1, 1, 1])
  | 126 => ([1], [1, 1, 1])
  | 44 => ([1, 1], [1])
  | 65 => ([1, 1], [1])
  | 28 => ([1], [1])
  | 17 => ([1], [1])
  | 31 => ([1, 1], [1])
  | 128 => ([1], [1])
  | 123 => ([1], [1])
  | 124 => ([1], [1])
  | 47 => ([1], [1])
  | 27 => ([1], [1])
  | 24 => ([1], [1])
  | 29 => ([1], [1])
  | 50 => ([1], [1])
  | 51 => ([1], [1])
  | 52 => ([1], [1])
  | 30 => ([1], [1])
  | 35 => ([1], [1, 1, 1])
  | 13 => ([1, 1], [1, 1])
  | 11 => ([1], [1, 1])
  | 32 => ([1], [2, 1])
  | 33 => ([1], [1, 1, 1])
  | 34 => ([1, 1], [1])
  | 10 => ([1], [1, 1])
  | 12 => ([1, 1], [1, 1])
  | 15 => ([1, 1], [2, 1])
  | 18 => ([1, 1], [2, 1])
  | 16 => ([2], [1])
  | 19 => ([2], [1])
  | 14 => ([2, 2], [1])
  | 21 => ([2, 2], [1])
  | 202 => ([1], [1])
  | 204 => ([1], [1])
  | 205 => ([1], [1])
  | 206 => ([1, 1], [1, 1, 1])
  | 207 => ([1], [1])
  | 200 => ([1], [1])
  | 300 => ([4], [1])
  | 301 => ([4, 2], [1])
  | 302 => ([1, 2], [1, 1])
  | 303 => ([1], [1])
  | 304 => ([1, 2], [4, 1])
  | 305 => ([1, 1], [1])
  | 306 => ([1, 1, 1], [1])
  | 307 => ([1, 1, 1], [1])
  | 308 => ([1, 4], [1, 1])
  | 309 => ([1, 4], [1, 1])
  | 310 => ([], [1])
  | 320 => ([4], [1])
  | 321 => ([1], [1])
  | 322 => ([1, 2], [4, 1])
  | 323 => ([1, 2], [1])
  | 324 => ([1, 4], [1, 1])
  | 325 => ([1, 4], [1, 1])
  | 326 => ([1, 1], [1])
  | 327 => ([1, 1], [1])
  | 328 => ([1, 1], [1])
  | 329 => ([1, 4, 1], [1])
  | _ => ([], [])
end Go.Ad


set_option maxRecDepth 100000
namespace Go.Ad
open Go Go.Rx Go.Proofs
theorem u_tlb (S K) : VcB sh lsh_tlb S K [1, 1] (bdsL k_tlb.args) k_tlb.res (k_tlb.tree Tryz.prog [] (calQ [] []) li_tlb 600 6) = B_tlb S K := by kernel_rfl
theorem u_trb (S K) : VcB sh lsh_trb S K [1, 1] (bdsL k_trb.args) k_trb.res (k_trb.tree Tryz.prog [] (calQ [] []) li_trb 600 6) = B_trb S K := by kernel_rfl
theorem u_tsp (S K) : VcB sh lsh_none S K [1] (bdsL k_tsp.args) k_tsp.res (k_tsp.tree Tryz.prog [] (calQ [] [k_tlb, k_trb]) li_none 600 6) = B_tsp S K := by kernel_rfl
theorem u_tdot (S K) : VcB sh lsh_none S K [1] (bdsL k_tdot.args) k_tdot.res (k_tdot.tree Tryz.prog [] (calQ [] [k_tlb, k_trb]) li_none 600 6) = B_tdot S K := by kernel_rfl
theorem u_cdot (S K) : VcB sh lsh_none S K [1] (bdsL k_cdot.args) k_cdot.res (k_cdot.tree Tryz.prog [] (calQ [] [k_ibs]) li_none 600 6) = B_cdot S K := by kernel_rfl
theorem u_tdm (S K) : VcB sh lsh_tdm S K [1] (bdsL k_tdm.args) k_tdm.res (k_tdm.tree Tryz.prog [] (calQ [] []) li_tdm 600 6) = B_tdm S K := by kernel_rfl
theorem u_cutat (S K) : VcB sh lsh_none S K [1] (bdsL k_cutat.args) k_cutat.res (k_cutat.tree Tryz.prog [] (calQ [] [k_ibs]) li_none 600 6) = B_cutat S K := by kernel_rfl
theorem u_cutcol (S K) : VcB sh lsh_none S K [1] (bdsL k_cutcol.args) k_cutcol.res (k_cutcol.tree Tryz.prog [] (calQ [] [k_ibs]) li_none 600 6) = B_cutcol S K := by kernel_rfl
theorem u_only (S K) : VcB sh lsh_only S K [1, 1] (bdsL k_only.args) k_only.res (k_only.tree Tryz.prog [] (calQ [] [k_ibs]) li_only 600 6) = B_only S K := by kernel_rfl
theorem u_ionly (S K) : VcB sh lsh_ionly S K [1, 1] (bdsL k_ionly.args) k_ionly.res (k_ionly.tree Tryz.prog [] (calQ [] [k_ibs]) li_ionly 600 6) = B_ionly S K := by kernel_rfl
theorem u_thost (S K) : VcB sh lsh_thost S K [1] (bdsL k_thost.args) k_thost.res (k_thost.tree Tryz.prog [] (calQ [] []) li_thost 600 6) = B_thost S K := by kernel_rfl
theorem u_tdig (S K) : VcB sh lsh_tdig S K [1] (bdsL k_tdig.args) k_tdig.res (k_tdig.tree Tryz.prog [] (calQ [] []) li_tdig 600 6) = B_tdig S K := by kernel_rfl
theorem u_low (S K) : VcB sh lsh_low S K [1] (bdsL k_low.args) k_low.res (k_low.tree Tryz.prog [] (calQ [] []) li_low 600 6) = B_low S K := by kernel_rfl
theorem u_rlow (S K) : VcB sh lsh_rlow S K [1] (bdsL k_rlow.args) k_rlow.res (k_rlow.tree Tryz.prog [] (calQ [] []) li_rlow 600 6) = B_rlow S K := by kernel_rfl
end Go.Ad

set_option maxRecDepth 100000
namespace Go.Ad
open Go Go.Rx Go.Proofs
theorem u_host (S K) : VcB sh lsh_none S K [1] (bdsL k_host.args) k_host.res (k_host.tree Tryz.prog [] (calQ [q_cdd] [k_thost, k_tdm, k_ionly]) li_none 600 6) = B_host S K := by kernel_rfl
theorem u_server (S K) : VcB sh lsh_none S K [1] (bdsL k_server.args) k_server.res (k_server.tree Tryz.prog [] (calQ [] [k_cutcol, k_host, k_tdig, k_ionly]) li_none 600 6) = B_server S K := by kernel_rfl
theorem u_local (S K) : VcB sh lsh_none S K [1] (bdsL k_local.args) k_local.res (k_local.tree Tryz.prog [] (calQ [q_cdd] [k_only, k_tdot]) li_none 600 6) = B_local S K := by kernel_rfl
theorem u_rlocal (S K) : VcB sh lsh_rlocal S K [1] (bdsL k_rlocal.args) k_rlocal.res (k_rlocal.tree Tryz.prog [] (calQ [] []) li_rlocal 600 6) = B_rlocal S K := by kernel_rfl
theorem u_small (S K) : VcB sh lsh_none S K [1] (bdsL k_small.args) k_small.res (k_small.tree Tryz.prog [] (calQ [] []) li_none 600 6) = B_small S K := by kernel_rfl
theorem u_great (S K) : VcB sh lsh_none S K [1] (bdsL k_great.args) k_great.res (k_great.tree Tryz.prog [] (calQ [] []) li_none 600 6) = B_great S K := by kernel_rfl
theorem u_digit (S K) : VcB sh lsh_none S K [1] (bdsL k_digit.args) k_digit.res (k_digit.tree Tryz.prog [] (calQ [] []) li_none 600 6) = B_digit S K := by kernel_rfl
theorem u_rhost (S K) : VcB sh lsh_rhost S K [1] (bdsL k_rhost.args) k_rhost.res (k_rhost.tree Tryz.prog [] (calQ [] [k_small, k_great, k_digit]) li_rhost 600 6) = B_rhost S K := by kernel_rfl
theorem u_rcountry (S K) : VcB sh lsh_none S K [1] (bdsL k_rcountry.args) k_rcountry.res (k_rcountry.tree Tryz.prog [] (calQ [] []) li_none 600 6) = B_rcountry S K := by kernel_rfl
theorem u_rphone (S K) : VcB sh lsh_rphone S K [1, 1] (bdsL k_rphone.args) k_rphone.res (q_rphone.tree Tryz.prog [] (calQ [] [k_rcountry]) li_rphone 600 6) = B_rphone S K := by kernel_rfl
theorem u_remail (S K) : VcB sh lsh_remail S K [1] (bdsL k_remail.args) k_remail.res (k_remail.tree Tryz.prog [] (calQ [] [k_rlocal, k_rhost, k_rhas, k_rlow]) li_remail 600 6) = B_remail S K := by kernel_rfl
theorem u_email (S K) : VcB sh lsh_none S K [1] (bdsL k_email.args) k_email.res (k_email.tree Tryz.prog [] (calQ [] [k_tsp, k_cutat, k_local, k_cdot, k_server, k_low, k_ibs]) li_none 600 6) = B_email S K := by kernel_rfl
theorem u_tpre (S K) : VcB sh lsh_none S K [1, 1] (bdsL k_tpre.args) k_tpre.res (k_tpre.tree Tryz.prog [] (calQ [] []) li_none 600 6) = B_tpre S K := by kernel_rfl
theorem u_phone (S K) : VcB sh lsh_none S K [1, 1] (bdsL k_phone.args) k_phone.res (q_phone.tree Tryz.prog [] (calQ [] [k_country, k_bare, k_tpre]) li_none 600 6) = B_phone S K := by kernel_rfl
end Go.Ad

set_option maxRecDepth 100000
namespace Go.Ad
open Go Go.Rx Go.Proofs
theorem u_make (S K) : VcB sh lsh_none S K [1, 1] (bdsL k_make.args) k_make.res (k_make.tree Tryz.prog [] (calQ [q_phone] [k_email]) li_none 600 6) = B_make S K := by kernel_rfl
theorem u_rmake (S K) : VcB sh lsh_none S K [1, 1] (bdsL k_rmake.args) k_rmake.res (k_rmake.tree Tryz.prog [] (calQ [q_rphone] [k_remail]) li_none 600 6) = B_rmake S K := by kernel_rfl
theorem u_right (S K) : VcB sh lsh_none S K [2] (bdsL k_right.args) k_right.res (k_right.tree Tryz.prog [] (calQ [] [k_make]) li_none 600 6) = B_right S K := by kernel_rfl
theorem u_rright (S K) : VcB sh lsh_none S K [2] (bdsL k_rright.args) k_rright.res (k_rright.tree Tryz.prog [] (calQ [] [k_rmake]) li_none 600 6) = B_rright S K := by kernel_rfl
theorem u_less (S K) : VcB sh lsh_none S K [2, 2] (bdsL k_less.args) k_less.res (k_less.tree Tryz.prog [] (calQ [] []) li_none 600 6) = B_less S K := by kernel_rfl
theorem u_rless (S K) : VcB sh lsh_none S K [2, 2] (bdsL k_rless.args) k_rless.res (k_rless.tree Tryz.prog [] (calQ [] []) li_none 600 6) = B_rless S K := by kernel_rfl
theorem u_tus (S K) : VcB sh lsh_tus S K [1] (bdsL k_tus.args) k_tus.res (k_tus.tree Tryz.prog [] (calQ [] []) li_tus 600 6) = B_tus S K := by kernel_rfl
theorem u_user (S K) : VcB sh lsh_none S K [1] (bdsL k_user.args) k_user.res (k_user.tree Tryz.prog [] (calQ [] [k_cutcol, k_tus, k_ionly, k_server]) li_none 600 6) = B_user S K := by kernel_rfl
theorem u_colon (S K) : VcB sh lsh_colon S K [1] (bdsL k_colon.args) k_colon.res (k_colon.tree Tryz.prog [] (calQ [] []) li_colon 600 6) = B_colon S K := by kernel_rfl
theorem u_rserver (S K) : VcB sh lsh_rserver S K [1] (bdsL k_rserver.args) k_rserver.res (k_rserver.tree Tryz.prog [] (calQ [] [k_colon, k_rhost, k_digit]) li_rserver 600 6) = B_rserver S K := by kernel_rfl
theorem u_partsu (S K) : VcB sh lsh_none S K [1, 1] (bdsL k_partsu.args) k_partsu.res (k_partsu.tree Tryz.prog [] (calQ [] [k_colon, k_rserver]) li_none 600 6) = B_partsu S K := by kernel_rfl
theorem u_ruser (S K) : VcB sh lsh_ruser S K [1] (bdsL k_ruser.args) k_ruser.res (k_ruser.tree Tryz.prog [] (calQ [] [k_partsu, k_small, k_digit]) li_ruser 600 6) = B_ruser S K := by kernel_rfl
end Go.Ad

set_option maxRecDepth 100000
namespace Go.Ad
open Go Go.Rx Go.Proofs
theorem u_rhas (S K) : VcB sh lsh_rhas S K [1, 1] (bdsL k_rhas.args) k_rhas.res (k_rhas.tree Tryz.prog [] (calQ [] []) li_rhas 600 6) = B_rhas S K := by kernel_rfl
theorem u_bright (S K) : VcB sh lsh_none S K [4] (bdsL k_bright.args) k_bright.res (k_bright.tree Tryz.prog [] (calQ [] [k_right, k_user]) li_none 600 6) = B_bright S K := by kernel_rfl
theorem u_bcmp (S K) : VcB sh lsh_none S K [4, 2] (bdsL k_bcmp.args) k_bcmp.res (k_bcmp.tree Tryz.prog [] (calQ [] [k_less]) li_none 600 6) = B_bcmp S K := by kernel_rfl
theorem u_bplace (S K) : VcF sh lsh_bplace S K [1, 2] (bbds k_bplace.args) k_bplace.res (k_bplace.tree (bcOf []) Tryz.prog [] (calQ [] [k_bcmp]) li_bplace 600 6) = B_bplace S K := by kernel_rfl
theorem u_bRight (S K) : VcF sh lsh_bRight S K [1] (bbds k_bRight.args) k_bRight.res (k_bRight.tree (bcOf []) Tryz.prog [] (calQ [] [k_bright, k_bcmp]) li_bRight 600 6) = B_bRight S K := by kernel_rfl
theorem u_bFind (S K) : VcF sh lsh_none S K [1, 2] (bbds k_bFind.args) k_bFind.res (k_bFind.tree (bcOf [k_bRight, k_bplace]) Tryz.prog [] (calQ [] []) li_none 600 6) = B_bFind S K := by kernel_rfl
theorem u_bOf (S K) : VcF sh lsh_bOf S K [1, 1] (bbds k_bOf.args) k_bOf.res (k_bOf.tree (bcOf [k_bRight]) Tryz.prog [] (calQ [] []) li_bOf 600 6) = B_bOf S K := by kernel_rfl
theorem u_bBind (S K) : VcF sh lsh_none S K [1, 4] (bbds k_bBind.args) k_bBind.res (k_bBind.tree (icOf [k_bins] (bcOf [k_bRight, k_bplace])) Tryz.prog [] (calQ [] [k_bright]) li_none 600 6) = B_bBind S K := by kernel_rfl
theorem u_bUnbind (S K) : VcF sh lsh_none S K [1, 4] (bbds k_bUnbind.args) k_bUnbind.res (k_bUnbind.tree (icOf [k_bdel] (bcOf [k_bRight, k_bplace])) Tryz.prog [] (calQ [] []) li_none 600 6) = B_bUnbind S K := by kernel_rfl
theorem u_balive (S K) : VcF sh lsh_none S K [] (bbds k_balive.args) k_balive.res (k_balive.tree (bcOf [k_bBind, k_bUnbind, k_bFind, k_bOf]) Tryz.prog [] (calQ [] []) li_none 600 6) = B_balive S K := by kernel_rfl
theorem u_xr (S K) : VcB sh lsh_none S K [4] (bdsL k_xr.args) k_xr.res (k_xr.tree Tryz.prog [] (calQ [] [k_rright, k_ruser]) li_none 600 6) = B_xr S K := by kernel_rfl
theorem u_xR (S K) : VcF sh lsh_xR S K [1] (bbds k_xR.args) k_xR.res (k_xR.tree (bcOf []) Tryz.prog [] (calQ [] [k_xr, k_rless]) li_xR 600 6) = B_xR S K := by kernel_rfl
theorem u_xF (S K) : VcF sh lsh_xF S K [1, 2] (bbds k_xF.args) k_xF.res (k_xF.tree (bcOf [k_xR]) Tryz.prog [] (calQ [] []) li_xF 600 6) = B_xF S K := by kernel_rfl
theorem u_xw (S K) : VcF sh lsh_xw S K [1, 2] (bbds k_xw.args) k_xw.res (k_xw.tree (bcOf []) Tryz.prog [] (calQ [] []) li_xw 600 6) = B_xw S K := by kernel_rfl
theorem u_xB (S K) : VcF sh lsh_xB S K [1, 4] (bbds k_xB.args) k_xB.res (k_xB.tree (bcOf [k_xR, k_xw]) Tryz.prog [] (calQ [] [k_xr, k_rless]) li_xB 600 6) = B_xB S K := by kernel_rfl
theorem u_xU (S K) : VcF sh lsh_none S K [1, 4] (bbds k_xU.args) k_xU.res (k_xU.tree (bcOf [k_xR, k_xF, k_xw]) Tryz.prog [] (calQ [] []) li_none 600 6) = B_xU S K := by kernel_rfl
theorem u_xO (S K) : VcF sh lsh_xO S K [1, 1] (bbds k_xO.args) k_xO.res (k_xO.tree (bcOf [k_xR]) Tryz.prog [] (calQ [] []) li_xO 600 6) = B_xO S K := by kernel_rfl
theorem u_xS (S K) : VcF sh lsh_xS S K [1, 1] (bbds k_xS.args) k_xS.res (k_xS.tree (bcOf []) Tryz.prog [] (calQ [] []) li_xS 600 6) = B_xS S K := by kernel_rfl
theorem u_xA (S K) : VcF sh lsh_xA S K [1, 1] (bbds k_xA.args) k_xA.res (k_xA.tree (bcOf []) Tryz.prog [] (calQ [] []) li_xA 600 6) = B_xA S K := by kernel_rfl
theorem u_lbinds (S K) : VcF sh lsh_none S K [1, 4, 1] (bbds k_lbinds.args) k_lbinds.res (k_lbinds.tree (bcOf [k_balive, k_bBind, k_xB, k_bUnbind, k_xU, k_bFind, k_xF, k_xS, k_bRight, k_xR, k_bOf, k_xO, k_xA]) Tryz.prog [] (calQ [] []) li_none 600 6) = B_lbinds S K := by kernel_rfl
end Go.Ad
