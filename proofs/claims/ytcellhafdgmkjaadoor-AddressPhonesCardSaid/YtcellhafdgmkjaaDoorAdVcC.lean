/- AdVcC: a part of the proof of statements of this seat. -/
import Derived.Test.YtcellhafdgmkjaaDoorAdVcA
import Derived.Test.YtcellhafdgmkjaaDoorAdBase
set_option maxRecDepth 100000
set_option linter.unusedVariables false
set_option linter.unusedSimpArgs false
namespace Go.Ad
open Go Go.Rx
def B_tdm (S : Nat → List (List Int) → List (List Int) → Prop) (K : List (List Int) → List (List Int) → Prop) : Prop :=
 ∀ z0 : Int, 0 ≤ z0 → z0 ≤ HB → 
 ∀ z1 : Int, 0 ≤ z1 → z1 ≤ 1 → z1 = fnD 4 [z0, 0] →
 (((decide (z1 = 1)) = true →
  K [[z0]] [[z0]]
 ) ∧ ((decide (z1 = 1)) = false →
  ∃ (I2 : List (List Int) → Prop) (μ2 : List (List Int) → Nat), I2 [[z0]] ∧ (∀ z3 : Int, 0 ≤ z3 → z3 ≤ HB → I2 [[z3]] →
   ∀ z4 : Int, 0 ≤ z4 → z4 ≤ 9223372036854775807 → z4 = fnD 0 [z3] →
   (((decide (0 < z4)) = true →
    ∀ z5 : Int, 0 ≤ z5 → z5 ≤ 9223372036854775807 → z5 = fnD 0 [z3] →
    chkD 1 [z3, (z5 + (-1))] ∧
    ∀ z6 : Int, 0 ≤ z6 → z6 ≤ 255 → z6 = fnD 1 [z3, (z5 + (-1))] →
    ∀ z7 : Int, 0 ≤ z7 → z7 ≤ 1 → z7 = fnD 43 [12125, z6] →
    ((((!(decide (z7 = 1)))) = true →
     ∃ (I8 : List (List Int) → Prop) (μ8 : List (List Int) → Nat), I8 [[z3]] ∧ (∀ z9 : Int, 0 ≤ z9 → z9 ≤ HB → I8 [[z9]] →
      ∀ z10 : Int, 0 ≤ z10 → z10 ≤ 9223372036854775807 → z10 = fnD 0 [z9] →
      (((decide (0 < z10)) = true →
       chkD 1 [z9, 0] ∧
       ∀ z11 : Int, 0 ≤ z11 → z11 ≤ 255 → z11 = fnD 1 [z9, 0] →
       ∀ z12 : Int, 0 ≤ z12 → z12 ≤ 1 → z12 = fnD 43 [12125, z11] →
       ((((!(decide (z12 = 1)))) = true →
        K [[z0]] [[z9]]
       ) ∧ (((!(decide (z12 = 1)))) = false →
        ∀ z13 : Int, 0 ≤ z13 → z13 ≤ 9223372036854775807 → z13 = fnD 0 [z9] →
        chkD 2 [z9, 1, z13] ∧
        ∀ z14 : Int, 0 ≤ z14 → z14 ≤ HB → z14 = fnD 2 [z9, 1, z13] →
        (I8 [[z14]] ∧ μ8 [[z14]] < μ8 [[z9]])
       ))
      ) ∧ ((decide (0 < z10)) = false →
       K [[z0]] [[z9]]
      ))
     )
    ) ∧ (((!(decide (z7 = 1)))) = false →
     ∀ z8 : Int, 0 ≤ z8 → z8 ≤ 9223372036854775807 → z8 = fnD 0 [z3] →
     chkD 2 [z3, 0, (z8 + (-1))] ∧
     ∀ z9 : Int, 0 ≤ z9 → z9 ≤ HB → z9 = fnD 2 [z3, 0, (z8 + (-1))] →
     (I2 [[z9]] ∧ μ2 [[z9]] < μ2 [[z3]])
    ))
   ) ∧ ((decide (0 < z4)) = false →
    ∃ (I5 : List (List Int) → Prop) (μ5 : List (List Int) → Nat), I5 [[z3]] ∧ (∀ z6 : Int, 0 ≤ z6 → z6 ≤ HB → I5 [[z6]] →
     ∀ z7 : Int, 0 ≤ z7 → z7 ≤ 9223372036854775807 → z7 = fnD 0 [z6] →
     (((decide (0 < z7)) = true →
      chkD 1 [z6, 0] ∧
      ∀ z8 : Int, 0 ≤ z8 → z8 ≤ 255 → z8 = fnD 1 [z6, 0] →
      ∀ z9 : Int, 0 ≤ z9 → z9 ≤ 1 → z9 = fnD 43 [12125, z8] →
      ((((!(decide (z9 = 1)))) = true →
       K [[z0]] [[z6]]
      ) ∧ (((!(decide (z9 = 1)))) = false →
       ∀ z10 : Int, 0 ≤ z10 → z10 ≤ 9223372036854775807 → z10 = fnD 0 [z6] →
       chkD 2 [z6, 1, z10] ∧
       ∀ z11 : Int, 0 ≤ z11 → z11 ≤ HB → z11 = fnD 2 [z6, 1, z10] →
       (I5 [[z11]] ∧ μ5 [[z11]] < μ5 [[z6]])
      ))
     ) ∧ ((decide (0 < z7)) = false →
      K [[z0]] [[z6]]
     ))
    )
   ))
  )
 ))
def B_thost (S : Nat → List (List Int) → List (List Int) → Prop) (K : List (List Int) → List (List Int) → Prop) : Prop :=
 ∀ z0 : Int, 0 ≤ z0 → z0 ≤ HB → 
 ∀ z1 : Int, 0 ≤ z1 → z1 ≤ 1 → z1 = fnD 4 [z0, 0] →
 (((decide (z1 = 1)) = true →
  K [[z0]] [[z0]]
 ) ∧ ((decide (z1 = 1)) = false →
  ∃ (I2 : List (List Int) → Prop) (μ2 : List (List Int) → Nat), I2 [[z0]] ∧ (∀ z3 : Int, 0 ≤ z3 → z3 ≤ HB → I2 [[z3]] →
   ∀ z4 : Int, 0 ≤ z4 → z4 ≤ 9223372036854775807 → z4 = fnD 0 [z3] →
   (((decide (0 < z4)) = true →
    ∀ z5 : Int, 0 ≤ z5 → z5 ≤ 9223372036854775807 → z5 = fnD 0 [z3] →
    chkD 1 [z3, (z5 + (-1))] ∧
    ∀ z6 : Int, 0 ≤ z6 → z6 ≤ 255 → z6 = fnD 1 [z3, (z5 + (-1))] →
    ∀ z7 : Int, 0 ≤ z7 → z7 ≤ 1 → z7 = fnD 43 [8267443711659794979134808499087199072256874527605039863196959864303977456569186565734100443375465041388132907546406408792979960403300126342849461211344038, z6] →
    ((((!(decide (z7 = 1)))) = true →
     ∃ (I8 : List (List Int) → Prop) (μ8 : List (List Int) → Nat), I8 [[z3]] ∧ (∀ z9 : Int, 0 ≤ z9 → z9 ≤ HB → I8 [[z9]] →
      ∀ z10 : Int, 0 ≤ z10 → z10 ≤ 9223372036854775807 → z10 = fnD 0 [z9] →
      (((decide (0 < z10)) = true →
       chkD 1 [z9, 0] ∧
       ∀ z11 : Int, 0 ≤ z11 → z11 ≤ 255 → z11 = fnD 1 [z9, 0] →
       ∀ z12 : Int, 0 ≤ z12 → z12 ≤ 1 → z12 = fnD 43 [8267443711659794979134808499087199072256874527605039863196959864303977456569186565734100443375465041388132907546406408792979960403300126342849461211344038, z11] →
       ((((!(decide (z12 = 1)))) = true →
        K [[z0]] [[z9]]
       ) ∧ (((!(decide (z12 = 1)))) = false →
        ∀ z13 : Int, 0 ≤ z13 → z13 ≤ 9223372036854775807 → z13 = fnD 0 [z9] →
        chkD 2 [z9, 1, z13] ∧
        ∀ z14 : Int, 0 ≤ z14 → z14 ≤ HB → z14 = fnD 2 [z9, 1, z13] →
        (I8 [[z14]] ∧ μ8 [[z14]] < μ8 [[z9]])
       ))
      ) ∧ ((decide (0 < z10)) = false →
       K [[z0]] [[z9]]
      ))
     )
    ) ∧ (((!(decide (z7 = 1)))) = false →
     ∀ z8 : Int, 0 ≤ z8 → z8 ≤ 9223372036854775807 → z8 = fnD 0 [z3] →
     chkD 2 [z3, 0, (z8 + (-1))] ∧
     ∀ z9 : Int, 0 ≤ z9 → z9 ≤ HB → z9 = fnD 2 [z3, 0, (z8 + (-1))] →
     (I2 [[z9]] ∧ μ2 [[z9]] < μ2 [[z3]])
    ))
   ) ∧ ((decide (0 < z4)) = false →
    ∃ (I5 : List (List Int) → Prop) (μ5 : List (List Int) → Nat), I5 [[z3]] ∧ (∀ z6 : Int, 0 ≤ z6 → z6 ≤ HB → I5 [[z6]] →
     ∀ z7 : Int, 0 ≤ z7 → z7 ≤ 9223372036854775807 → z7 = fnD 0 [z6] →
     (((decide (0 < z7)) = true →
      chkD 1 [z6, 0] ∧
      ∀ z8 : Int, 0 ≤ z8 → z8 ≤ 255 → z8 = fnD 1 [z6, 0] →
      ∀ z9 : Int, 0 ≤ z9 → z9 ≤ 1 → z9 = fnD 43 [8267443711659794979134808499087199072256874527605039863196959864303977456569186565734100443375465041388132907546406408792979960403300126342849461211344038, z8] →
      ((((!(decide (z9 = 1)))) = true →
       K [[z0]] [[z6]]
      ) ∧ (((!(decide (z9 = 1)))) = false →
       ∀ z10 : Int, 0 ≤ z10 → z10 ≤ 9223372036854775807 → z10 = fnD 0 [z6] →
       chkD 2 [z6, 1, z10] ∧
       ∀ z11 : Int, 0 ≤ z11 → z11 ≤ HB → z11 = fnD 2 [z6, 1, z10] →
       (I5 [[z11]] ∧ μ5 [[z11]] < μ5 [[z6]])
      ))
     ) ∧ ((decide (0 < z7)) = false →
      K [[z0]] [[z6]]
     ))
    )
   ))
  )
 ))
def B_tdig (S : Nat → List (List Int) → List (List Int) → Prop) (K : List (List Int) → List (List Int) → Prop) : Prop :=
 ∀ z0 : Int, 0 ≤ z0 → z0 ≤ HB → 
 ∀ z1 : Int, 0 ≤ z1 → z1 ≤ 1 → z1 = fnD 4 [z0, 0] →
 (((decide (z1 = 1)) = true →
  K [[z0]] [[z0]]
 ) ∧ ((decide (z1 = 1)) = false →
  ∃ (I2 : List (List Int) → Prop) (μ2 : List (List Int) → Nat), I2 [[z0]] ∧ (∀ z3 : Int, 0 ≤ z3 → z3 ≤ HB → I2 [[z3]] →
   ∀ z4 : Int, 0 ≤ z4 → z4 ≤ 9223372036854775807 → z4 = fnD 0 [z3] →
   (((decide (0 < z4)) = true →
    ∀ z5 : Int, 0 ≤ z5 → z5 ≤ 9223372036854775807 → z5 = fnD 0 [z3] →
    chkD 1 [z3, (z5 + (-1))] ∧
    ∀ z6 : Int, 0 ≤ z6 → z6 ≤ 255 → z6 = fnD 1 [z3, (z5 + (-1))] →
    ∀ z7 : Int, 0 ≤ z7 → z7 ≤ 1 → z7 = fnD 43 [284767230291263911083031, z6] →
    ((((!(decide (z7 = 1)))) = true →
     ∃ (I8 : List (List Int) → Prop) (μ8 : List (List Int) → Nat), I8 [[z3]] ∧ (∀ z9 : Int, 0 ≤ z9 → z9 ≤ HB → I8 [[z9]] →
      ∀ z10 : Int, 0 ≤ z10 → z10 ≤ 9223372036854775807 → z10 = fnD 0 [z9] →
      (((decide (0 < z10)) = true →
       chkD 1 [z9, 0] ∧
       ∀ z11 : Int, 0 ≤ z11 → z11 ≤ 255 → z11 = fnD 1 [z9, 0] →
       ∀ z12 : Int, 0 ≤ z12 → z12 ≤ 1 → z12 = fnD 43 [284767230291263911083031, z11] →
       ((((!(decide (z12 = 1)))) = true →
        K [[z0]] [[z9]]
       ) ∧ (((!(decide (z12 = 1)))) = false →
        ∀ z13 : Int, 0 ≤ z13 → z13 ≤ 9223372036854775807 → z13 = fnD 0 [z9] →
        chkD 2 [z9, 1, z13] ∧
        ∀ z14 : Int, 0 ≤ z14 → z14 ≤ HB → z14 = fnD 2 [z9, 1, z13] →
        (I8 [[z14]] ∧ μ8 [[z14]] < μ8 [[z9]])
       ))
      ) ∧ ((decide (0 < z10)) = false →
       K [[z0]] [[z9]]
      ))
     )
    ) ∧ (((!(decide (z7 = 1)))) = false →
     ∀ z8 : Int, 0 ≤ z8 → z8 ≤ 9223372036854775807 → z8 = fnD 0 [z3] →
     chkD 2 [z3, 0, (z8 + (-1))] ∧
     ∀ z9 : Int, 0 ≤ z9 → z9 ≤ HB → z9 = fnD 2 [z3, 0, (z8 + (-1))] →
     (I2 [[z9]] ∧ μ2 [[z9]] < μ2 [[z3]])
    ))
   ) ∧ ((decide (0 < z4)) = false →
    ∃ (I5 : List (List Int) → Prop) (μ5 : List (List Int) → Nat), I5 [[z3]] ∧ (∀ z6 : Int, 0 ≤ z6 → z6 ≤ HB → I5 [[z6]] →
     ∀ z7 : Int, 0 ≤ z7 → z7 ≤ 9223372036854775807 → z7 = fnD 0 [z6] →
     (((decide (0 < z7)) = true →
      chkD 1 [z6, 0] ∧
      ∀ z8 : Int, 0 ≤ z8 → z8 ≤ 255 → z8 = fnD 1 [z6, 0] →
      ∀ z9 : Int, 0 ≤ z9 → z9 ≤ 1 → z9 = fnD 43 [284767230291263911083031, z8] →
      ((((!(decide (z9 = 1)))) = true →
       K [[z0]] [[z6]]
      ) ∧ (((!(decide (z9 = 1)))) = false →
       ∀ z10 : Int, 0 ≤ z10 → z10 ≤ 9223372036854775807 → z10 = fnD 0 [z6] →
       chkD 2 [z6, 1, z10] ∧
       ∀ z11 : Int, 0 ≤ z11 → z11 ≤ HB → z11 = fnD 2 [z6, 1, z10] →
       (I5 [[z11]] ∧ μ5 [[z11]] < μ5 [[z6]])
      ))
     ) ∧ ((decide (0 < z7)) = false →
      K [[z0]] [[z6]]
     ))
    )
   ))
  )
 ))
theorem fn43 {n z q : Int} {p : UInt8 → Bool} (hn : ∀ c, (sOf n).contains c = p c) (h : q = fnD 43 [n, z]) : decide (q = 1) = p (u8 z) := by
  rw [h]; simp only [fnD]
  have := hn (u8 z)
  unfold u8 at this ⊢
  rw [← this]
  by_cases hm : UInt8.ofNat z.toNat ∈ sOf n
  · simp [hm]
  · simp [hm]
theorem p_trimB {n : Int} {p : UInt8 → Bool} (hn : ∀ c, (sOf n).contains c = p c) {id : Nat} (hid : ∀ z r, SB id [[z]] [[r]] = (sOf r = trimS p (sOf z))) :
 ( ∀ z0 : Int, 0 ≤ z0 → z0 ≤ HB → 
 ∀ z1 : Int, 0 ≤ z1 → z1 ≤ 1 → z1 = fnD 4 [z0, 0] →
 (((decide (z1 = 1)) = true →
   KBv SB [.str] id [[z0]] [[z0]]
 ) ∧ ((decide (z1 = 1)) = false →
  ∃ (I2 : List (List Int) → Prop) (μ2 : List (List Int) → Nat), I2 [[z0]] ∧ (∀ z3 : Int, 0 ≤ z3 → z3 ≤ HB → I2 [[z3]] →
   ∀ z4 : Int, 0 ≤ z4 → z4 ≤ 9223372036854775807 → z4 = fnD 0 [z3] →
   (((decide (0 < z4)) = true →
    ∀ z5 : Int, 0 ≤ z5 → z5 ≤ 9223372036854775807 → z5 = fnD 0 [z3] →
    chkD 1 [z3, (z5 + (-1))] ∧
    ∀ z6 : Int, 0 ≤ z6 → z6 ≤ 255 → z6 = fnD 1 [z3, (z5 + (-1))] →
    ∀ z7 : Int, 0 ≤ z7 → z7 ≤ 1 → z7 = fnD 43 [n, z6] →
    ((((!(decide (z7 = 1)))) = true →
     ∃ (I8 : List (List Int) → Prop) (μ8 : List (List Int) → Nat), I8 [[z3]] ∧ (∀ z9 : Int, 0 ≤ z9 → z9 ≤ HB → I8 [[z9]] →
      ∀ z10 : Int, 0 ≤ z10 → z10 ≤ 9223372036854775807 → z10 = fnD 0 [z9] →
      (((decide (0 < z10)) = true →
       chkD 1 [z9, 0] ∧
       ∀ z11 : Int, 0 ≤ z11 → z11 ≤ 255 → z11 = fnD 1 [z9, 0] →
       ∀ z12 : Int, 0 ≤ z12 → z12 ≤ 1 → z12 = fnD 43 [n, z11] →
       ((((!(decide (z12 = 1)))) = true →
         KBv SB [.str] id [[z0]] [[z9]]
       ) ∧ (((!(decide (z12 = 1)))) = false →
        ∀ z13 : Int, 0 ≤ z13 → z13 ≤ 9223372036854775807 → z13 = fnD 0 [z9] →
        chkD 2 [z9, 1, z13] ∧
        ∀ z14 : Int, 0 ≤ z14 → z14 ≤ HB → z14 = fnD 2 [z9, 1, z13] →
        (I8 [[z14]] ∧ μ8 [[z14]] < μ8 [[z9]])
       ))
      ) ∧ ((decide (0 < z10)) = false →
        KBv SB [.str] id [[z0]] [[z9]]
      ))
     )
    ) ∧ (((!(decide (z7 = 1)))) = false →
     ∀ z8 : Int, 0 ≤ z8 → z8 ≤ 9223372036854775807 → z8 = fnD 0 [z3] →
     chkD 2 [z3, 0, (z8 + (-1))] ∧
     ∀ z9 : Int, 0 ≤ z9 → z9 ≤ HB → z9 = fnD 2 [z3, 0, (z8 + (-1))] →
     (I2 [[z9]] ∧ μ2 [[z9]] < μ2 [[z3]])
    ))
   ) ∧ ((decide (0 < z4)) = false →
    ∃ (I5 : List (List Int) → Prop) (μ5 : List (List Int) → Nat), I5 [[z3]] ∧ (∀ z6 : Int, 0 ≤ z6 → z6 ≤ HB → I5 [[z6]] →
     ∀ z7 : Int, 0 ≤ z7 → z7 ≤ 9223372036854775807 → z7 = fnD 0 [z6] →
     (((decide (0 < z7)) = true →
      chkD 1 [z6, 0] ∧
      ∀ z8 : Int, 0 ≤ z8 → z8 ≤ 255 → z8 = fnD 1 [z6, 0] →
      ∀ z9 : Int, 0 ≤ z9 → z9 ≤ 1 → z9 = fnD 43 [n, z8] →
      ((((!(decide (z9 = 1)))) = true →
        KBv SB [.str] id [[z0]] [[z6]]
      ) ∧ (((!(decide (z9 = 1)))) = false →
       ∀ z10 : Int, 0 ≤ z10 → z10 ≤ 9223372036854775807 → z10 = fnD 0 [z6] →
       chkD 2 [z6, 1, z10] ∧
       ∀ z11 : Int, 0 ≤ z11 → z11 ≤ HB → z11 = fnD 2 [z6, 1, z10] →
       (I5 [[z11]] ∧ μ5 [[z11]] < μ5 [[z6]])
      ))
     ) ∧ ((decide (0 < z7)) = false →
       KBv SB [.str] id [[z0]] [[z6]]
     ))
    )
   ))
  )
 ))) := by
  intro z0 a0 a1 z1 b0 b1 hz1
  rw [eq_nil hz1]
  have inner : ∀ z3 : Int, 0 ≤ z3 → z3 ≤ HB → sOf z3 = rtr p (sOf z0) → ∃ (I8 : List (List Int) → Prop) (μ8 : List (List Int) → Nat), I8 [[z3]] ∧ (∀ z9 : Int, 0 ≤ z9 → z9 ≤ HB → I8 [[z9]] →
      ∀ z10 : Int, 0 ≤ z10 → z10 ≤ 9223372036854775807 → z10 = fnD 0 [z9] →
      (((decide (0 < z10)) = true →
       chkD 1 [z9, 0] ∧
       ∀ z11 : Int, 0 ≤ z11 → z11 ≤ 255 → z11 = fnD 1 [z9, 0] →
       ∀ z12 : Int, 0 ≤ z12 → z12 ≤ 1 → z12 = fnD 43 [n, z11] →
       ((((!(decide (z12 = 1)))) = true →
        KBv SB [.str] id [[z0]] [[z9]]
       ) ∧ (((!(decide (z12 = 1)))) = false →
        ∀ z13 : Int, 0 ≤ z13 → z13 ≤ 9223372036854775807 → z13 = fnD 0 [z9] →
        chkD 2 [z9, 1, z13] ∧
        ∀ z14 : Int, 0 ≤ z14 → z14 ≤ HB → z14 = fnD 2 [z9, 1, z13] →
        (I8 [[z14]] ∧ μ8 [[z14]] < μ8 [[z9]])
       ))
      ) ∧ ((decide (0 < z10)) = false →
       KBv SB [.str] id [[z0]] [[z9]]
      ))) := by
    intro z3 a0 a1 h3
    refine ⟨fun bl => ∃ z, bl = [[z]] ∧ ltr p (sOf z) = ltr p (rtr p (sOf z0)), fun bl => (sOf ((bl.getD 0 []).getD 0 0)).length, ⟨z3, rfl, by rw [h3]⟩, ?_⟩
    rintro z9 c0 c1 ⟨z, e, hz⟩
    obtain rfl : z9 = z := by simpa using e
    intro z4 d0 d1 hz4
    simp only [fnD] at hz4
    cases hl : sOf z9 with
    | nil =>
      rw [hl] at hz4 hz
      simp only [List.length_nil] at hz4
      subst hz4
      refine ⟨fun hp => by simp at hp, fun _ => ⟨⟨c0, c1, trivial⟩, ?_⟩⟩
      rw [hid, hl]; exact hz
    | cons x r =>
      rw [hl] at hz4 hz
      simp only [List.length_cons] at hz4
      refine ⟨fun _ => ⟨⟨Int.le_refl _, by rw [hl]; simp only [List.length_cons]; omega⟩, ?_⟩, fun hp => by simp at hp; omega⟩
      intro z5 e0 e1 hz5
      simp only [fnD, hl, Int.toNat_zero, List.getD_cons_zero] at hz5
      intro z6 f0 f1 hz6
      rw [fn43 hn hz6, hz5, u8_of]
      refine ⟨fun he => ⟨⟨c0, c1, trivial⟩, ?_⟩, fun he => ?_⟩
      · rw [hid, hl]
        have he : p x = false := by simpa using he
        show x :: r = ltr p (rtr p (sOf z0))
        rw [← hz]
        simp [ltr, List.dropWhile_cons, he]
      · have he : p x = true := by simpa using he
        intro z13 f0 f1 hz6
        simp only [fnD, hl, List.length_cons] at hz6
        refine ⟨⟨by omega, by omega, by rw [hl]; simp only [List.length_cons]; omega⟩, ?_⟩
        intro z7 g0 g1 hz7
        have hr : sOf z7 = r := by
          rw [hz7]; simp only [fnD, sOf_cOf, hl]
          rw [show (1 : Int).toNat = 1 from rfl, List.drop_one, List.tail_cons]
          exact List.take_of_length_le (by omega)
        refine ⟨⟨z7, rfl, ?_⟩, ?_⟩
        · rw [hr, ← hz]; simp only [ltr, List.dropWhile_cons, he, if_true]
        · show (sOf z7).length < (sOf z9).length
          rw [hr, hl]; simp
  refine ⟨fun h => ⟨⟨a0, a1, trivial⟩, ?_⟩, fun h => ?_⟩
  · rw [hid]
    have : sOf z0 = [] := by simpa using h
    rw [this]; rfl
  · refine ⟨fun bl => ∃ z, bl = [[z]] ∧ rtr p (sOf z) = rtr p (sOf z0), fun bl => (sOf ((bl.getD 0 []).getD 0 0)).length, ⟨z0, rfl, rfl⟩, ?_⟩
    rintro z3 c0 c1 ⟨z, e, hz⟩
    obtain rfl : z3 = z := by simpa using e
    intro z4 d0 d1 hz4
    simp only [fnD] at hz4
    by_cases hl : sOf z3 = []
    · have hz4' := hz4
      rw [hl] at hz4
      simp only [List.length_nil] at hz4
      subst hz4
      refine ⟨fun hp => by simp at hp, fun _ => inner z3 c0 c1 ?_⟩
      rw [hl] at hz ⊢
      exact hz
    · obtain ⟨r, x, hl⟩ := snoc_of hl
      rw [hl] at hz4 hz
      simp only [List.length_append, List.length_cons, List.length_nil] at hz4
      refine ⟨fun _ => ?_, fun hp => by simp at hp; omega⟩
      intro z5 d0 d1 hz5
      simp only [fnD, hl, List.length_append, List.length_cons, List.length_nil] at hz5
      refine ⟨⟨by omega, by rw [hl]; simp only [List.length_append, List.length_cons, List.length_nil]; omega⟩, ?_⟩
      intro z6 f0 f1 hz6
      have ht : (z5 + -1).toNat = r.length := by omega
      simp only [fnD, hl, ht] at hz6
      rw [show ((r ++ [x]).getD r.length 0) = x by simp [List.getD]] at hz6
      intro z7 g0 g1 hz7
      rw [fn43 hn hz7, hz6, u8_of]
      refine ⟨fun he => inner z3 c0 c1 ?_, fun he => ?_⟩
      · have he : p x = false := by simpa using he
        rw [hl, ← hz, rtr_snoc, he, cond_false]
      · have he : p x = true := by simpa using he
        intro z7 f0 f1 hz7
        simp only [fnD, hl, List.length_append, List.length_cons, List.length_nil] at hz7
        have ht7 : (z7 + -1).toNat = r.length := by omega
        refine ⟨⟨by omega, by omega, by rw [hl]; simp only [List.length_append, List.length_cons, List.length_nil]; omega⟩, ?_⟩
        intro z8 g0 g1 hz8
        have hr : sOf z8 = r := by
          rw [hz8]; simp only [fnD, sOf_cOf, hl, ht7]
          simp
        refine ⟨⟨z8, rfl, ?_⟩, ?_⟩
        · rw [hr, ← hz, rtr_snoc, he, cond_true]
        · show (sOf z8).length < (sOf z3).length
          rw [hr, hl]; simp
theorem allB256 {q p : UInt8 → Bool} (h : ((List.range 256).all fun i => q (UInt8.ofNat i) == p (UInt8.ofNat i)) = true) (c : UInt8) : q c = p c := by
  have := List.all_eq_true.1 h c.toNat (List.mem_range.2 c.toNat_lt)
  simpa using this
theorem p_tdm : B_tdm SB (KBv SB [.str] 122) := p_trimB (n := 12125) (p := edgeH) (allB256 (by decide +kernel)) fun _ _ => rfl
theorem p_thost : B_thost SB (KBv SB [.str] 123) := p_trimB (n := 8267443711659794979134808499087199072256874527605039863196959864303977456569186565734100443375465041388132907546406408792979960403300126342849461211344038) (p := inHost) (allB256 (by decide +kernel)) fun _ _ => rfl
theorem p_tdig : B_tdig SB (KBv SB [.str] 124) := p_trimB (n := 284767230291263911083031) (p := isD) (allB256 (by decide +kernel)) fun _ _ => rfl
end Go.Ad
