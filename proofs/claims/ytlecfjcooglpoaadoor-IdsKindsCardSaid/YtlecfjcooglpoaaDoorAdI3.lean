/- AdI3: a part of the proof of statements of this seat. -/
import Derived.Test.YtlecfjcooglpoaaDoorAdI2
set_option maxRecDepth 100000
set_option linter.unusedVariables false
set_option linter.unusedSimpArgs false
namespace Go.Ad
open Go Go.Rx
def B_idec (S : Nat → List (List Int) → List (List Int) → Prop) (K : List (List Int) → List (List Int) → Prop) : Prop :=
 ∀ z0 : Int, 0 ≤ z0 → z0 ≤ HB → 
 chkD 50 [z0] →
 ∃ (I1 : List (List Int) → Prop) (μ1 : List (List Int) → Nat), I1 [[z0], [0], [0], [(-1)]] ∧ (∀ z2 : Int, 0 ≤ z2 → z2 ≤ HB → ∀ z3 : Int, 0 ≤ z3 → z3 ≤ RB → ∀ z4 : Int, 0 ≤ z4 → z4 ≤ 9223372036854775807 → ∀ z5 : Int, (-1) ≤ z5 → z5 ≤ 9223372036854775807 → I1 [[z2], [z3], [z4], [z5]] →
  ∀ z6 : Int, 0 ≤ z6 → z6 ≤ 1 → z6 = fnD 4 [z2, 0] →
  ((((!(decide (z6 = 1)))) = true →
   ∀ z7 : Int, 0 ≤ z7 → z7 ≤ 9223372036854775807 → z7 = fnD 0 [z2] →
   (((decide (z7 < 4)) = true →
    (((decide (0 < z7)) = true →
     chkD 1 [z2, 0] ∧
     ∀ z8 : Int, 0 ≤ z8 → z8 ≤ 255 → z8 = fnD 1 [z2, 0] →
     ∀ z9 : Int, (-1) ≤ z9 → z9 ≤ 63 → S 230 [[z8]] [[z9]] →
     (((decide (z9 < 0)) = true →
      K [[z0]] [[0], [2]]
     ) ∧ ((decide (z9 < 0)) = false →
      (((decide (1 < z7)) = true →
       chkD 1 [z2, 1] ∧
       ∀ z10 : Int, 0 ≤ z10 → z10 ≤ 255 → z10 = fnD 1 [z2, 1] →
       ∀ z11 : Int, (-1) ≤ z11 → z11 ≤ 63 → S 230 [[z10]] [[z11]] →
       (((decide (z11 < 0)) = true →
        K [[z0]] [[0], [2]]
       ) ∧ ((decide (z11 < 0)) = false →
        (((decide (2 < z7)) = true →
         chkD 1 [z2, 2] ∧
         ∀ z12 : Int, 0 ≤ z12 → z12 ≤ 255 → z12 = fnD 1 [z2, 2] →
         ∀ z13 : Int, (-1) ≤ z13 → z13 ≤ 63 → S 230 [[z12]] [[z13]] →
         (((decide (z13 < 0)) = true →
          K [[z0]] [[0], [2]]
         ) ∧ ((decide (z13 < 0)) = false →
          (((decide (3 < z7)) = true →
           chkD 1 [z2, 3] ∧
           ∀ z14 : Int, 0 ≤ z14 → z14 ≤ 255 → z14 = fnD 1 [z2, 3] →
           ∀ z15 : Int, (-1) ≤ z15 → z15 ≤ 63 → S 230 [[z14]] [[z15]] →
           (((decide (z15 < 0)) = true →
            K [[z0]] [[0], [2]]
           ) ∧ ((decide (z15 < 0)) = false →
            ∀ z16 : Int, 0 ≤ z16 → z16 ≤ 9223372036854775807 → z16 = fnD 0 [z2] →
            chkD 2 [z2, z7, z16] ∧
            ∀ z17 : Int, 0 ≤ z17 → z17 ≤ HB → z17 = fnD 2 [z2, z7, z16] →
            ∀ z18 : Int, (-4) ≤ z18 → z18 ≤ 0 → 0 ≤ (((-8) * z7) + 9223372036854775840) - 18446744073709551616 * z18 → (((-8) * z7) + 9223372036854775840) - 18446744073709551616 * z18 < 18446744073709551616 →
            False
           ))
          ) ∧ ((decide (3 < z7)) = false →
           ∀ z14 : Int, 0 ≤ z14 → z14 ≤ 9223372036854775807 → z14 = fnD 0 [z2] →
           chkD 2 [z2, 3, z14] ∧
           ∀ z15 : Int, 0 ≤ z15 → z15 ≤ HB → z15 = fnD 2 [z2, 3, z14] →
           ∀ z16 : Int, 0 ≤ z16 → z16 ≤ 65535 → 0 ≤ ((262144 * z9) + ((4096 * z11) + (64 * z13))) - 256 * z16 → ((262144 * z9) + ((4096 * z11) + (64 * z13))) - 256 * z16 < 256 →
           ((((!(decide (((262144 * z9) + ((4096 * z11) + ((64 * z13) + ((-256) * z16)))) = 0)))) = true →
            K [[z0]] [[0], [2]]
           ) ∧ (((!(decide (((262144 * z9) + ((4096 * z11) + ((64 * z13) + ((-256) * z16)))) = 0)))) = false →
            ∀ z17 : Int, 0 ≤ z17 → z17 ≤ 255 → 0 ≤ ((262144 * z9) + ((4096 * z11) + (64 * z13))) - 65536 * z17 → ((262144 * z9) + ((4096 * z11) + (64 * z13))) - 65536 * z17 < 65536 →
            ∀ z18 : Int, 0 ≤ z18 → z18 ≤ 65535 → 0 ≤ ((262144 * z9) + ((4096 * z11) + (64 * z13))) - 256 * z18 → ((262144 * z9) + ((4096 * z11) + (64 * z13))) - 256 * z18 < 256 →
            ∀ z19 : Int, 0 ≤ z19 → z19 ≤ 255 → 0 ≤ z18 - 256 * z19 → z18 - 256 * z19 < 256 →
            ∀ z20 : Int, 0 ≤ z20 → z20 ≤ 65535 → 0 ≤ ((262144 * z9) + ((4096 * z11) + (64 * z13))) - 256 * z20 → ((262144 * z9) + ((4096 * z11) + (64 * z13))) - 256 * z20 < 256 →
            chkD 31 [z3, z4] ∧
            chkD 23 [z3, 2] ∧
            ∀ z21 : Int, 0 ≤ z21 → z21 ≤ RB → z21 = fnD 23 [z3, z17] →
            ∀ z22 : Int, 0 ≤ z22 → z22 ≤ RB → z22 = fnD 23 [z21, (z18 + ((-256) * z19))] →
            ∀ z23 : Int, (-1) ≤ z23 → z23 ≤ 9223372036854775807 → 
            (I1 [[z15], [z22], [(z4 + 2)], [z23]] ∧ μ1 [[z15], [z22], [(z4 + 2)], [z23]] < μ1 [[z2], [z3], [z4], [z5]])
           ))
          ))
         ))
        ) ∧ ((decide (2 < z7)) = false →
         ∀ z12 : Int, 0 ≤ z12 → z12 ≤ 9223372036854775807 → z12 = fnD 0 [z2] →
         chkD 2 [z2, 2, z12] ∧
         ∀ z13 : Int, 0 ≤ z13 → z13 ≤ HB → z13 = fnD 2 [z2, 2, z12] →
         ∀ z14 : Int, 0 ≤ z14 → z14 ≤ 255 → 0 ≤ ((262144 * z9) + (4096 * z11)) - 65536 * z14 → ((262144 * z9) + (4096 * z11)) - 65536 * z14 < 65536 →
         ((((!(decide (((262144 * z9) + ((4096 * z11) + ((-65536) * z14))) = 0)))) = true →
          K [[z0]] [[0], [2]]
         ) ∧ (((!(decide (((262144 * z9) + ((4096 * z11) + ((-65536) * z14))) = 0)))) = false →
          ∀ z15 : Int, 0 ≤ z15 → z15 ≤ 255 → 0 ≤ ((262144 * z9) + (4096 * z11)) - 65536 * z15 → ((262144 * z9) + (4096 * z11)) - 65536 * z15 < 65536 →
          ∀ z16 : Int, 0 ≤ z16 → z16 ≤ 65520 → 0 ≤ ((262144 * z9) + (4096 * z11)) - 256 * z16 → ((262144 * z9) + (4096 * z11)) - 256 * z16 < 256 →
          ∀ z17 : Int, 0 ≤ z17 → z17 ≤ 255 → 0 ≤ z16 - 256 * z17 → z16 - 256 * z17 < 256 →
          ∀ z18 : Int, 0 ≤ z18 → z18 ≤ 65520 → 0 ≤ ((262144 * z9) + (4096 * z11)) - 256 * z18 → ((262144 * z9) + (4096 * z11)) - 256 * z18 < 256 →
          chkD 31 [z3, z4] ∧
          chkD 23 [z3, 1] ∧
          ∀ z19 : Int, 0 ≤ z19 → z19 ≤ RB → z19 = fnD 23 [z3, z15] →
          ∀ z20 : Int, (-1) ≤ z20 → z20 ≤ 9223372036854775807 → 
          (I1 [[z13], [z19], [(z4 + 1)], [z20]] ∧ μ1 [[z13], [z19], [(z4 + 1)], [z20]] < μ1 [[z2], [z3], [z4], [z5]])
         ))
        ))
       ))
      ) ∧ ((decide (1 < z7)) = false →
       ∀ z10 : Int, 0 ≤ z10 → z10 ≤ 9223372036854775807 → z10 = fnD 0 [z2] →
       chkD 2 [z2, 1, z10] ∧
       ∀ z11 : Int, 0 ≤ z11 → z11 ≤ HB → z11 = fnD 2 [z2, 1, z10] →
       K [[z0]] [[0], [2]]
      ))
     ))
    ) ∧ ((decide (0 < z7)) = false →
     ∀ z8 : Int, 0 ≤ z8 → z8 ≤ 9223372036854775807 → z8 = fnD 0 [z2] →
     chkD 2 [z2, 0, z8] ∧
     ∀ z9 : Int, 0 ≤ z9 → z9 ≤ HB → z9 = fnD 2 [z2, 0, z8] →
     False
    ))
   ) ∧ ((decide (z7 < 4)) = false →
    chkD 1 [z2, 0] ∧
    ∀ z8 : Int, 0 ≤ z8 → z8 ≤ 255 → z8 = fnD 1 [z2, 0] →
    ∀ z9 : Int, (-1) ≤ z9 → z9 ≤ 63 → S 230 [[z8]] [[z9]] →
    (((decide (z9 < 0)) = true →
     K [[z0]] [[0], [2]]
    ) ∧ ((decide (z9 < 0)) = false →
     chkD 1 [z2, 1] ∧
     ∀ z10 : Int, 0 ≤ z10 → z10 ≤ 255 → z10 = fnD 1 [z2, 1] →
     ∀ z11 : Int, (-1) ≤ z11 → z11 ≤ 63 → S 230 [[z10]] [[z11]] →
     (((decide (z11 < 0)) = true →
      K [[z0]] [[0], [2]]
     ) ∧ ((decide (z11 < 0)) = false →
      chkD 1 [z2, 2] ∧
      ∀ z12 : Int, 0 ≤ z12 → z12 ≤ 255 → z12 = fnD 1 [z2, 2] →
      ∀ z13 : Int, (-1) ≤ z13 → z13 ≤ 63 → S 230 [[z12]] [[z13]] →
      (((decide (z13 < 0)) = true →
       K [[z0]] [[0], [2]]
      ) ∧ ((decide (z13 < 0)) = false →
       chkD 1 [z2, 3] ∧
       ∀ z14 : Int, 0 ≤ z14 → z14 ≤ 255 → z14 = fnD 1 [z2, 3] →
       ∀ z15 : Int, (-1) ≤ z15 → z15 ≤ 63 → S 230 [[z14]] [[z15]] →
       (((decide (z15 < 0)) = true →
        K [[z0]] [[0], [2]]
       ) ∧ ((decide (z15 < 0)) = false →
        ∀ z16 : Int, 0 ≤ z16 → z16 ≤ 9223372036854775807 → z16 = fnD 0 [z2] →
        chkD 2 [z2, 4, z16] ∧
        ∀ z17 : Int, 0 ≤ z17 → z17 ≤ HB → z17 = fnD 2 [z2, 4, z16] →
        ∀ z18 : Int, 0 ≤ z18 → z18 ≤ 255 → 0 ≤ ((262144 * z9) + ((4096 * z11) + ((64 * z13) + z15))) - 65536 * z18 → ((262144 * z9) + ((4096 * z11) + ((64 * z13) + z15))) - 65536 * z18 < 65536 →
        ∀ z19 : Int, 0 ≤ z19 → z19 ≤ 65535 → 0 ≤ ((262144 * z9) + ((4096 * z11) + ((64 * z13) + z15))) - 256 * z19 → ((262144 * z9) + ((4096 * z11) + ((64 * z13) + z15))) - 256 * z19 < 256 →
        ∀ z20 : Int, 0 ≤ z20 → z20 ≤ 255 → 0 ≤ z19 - 256 * z20 → z19 - 256 * z20 < 256 →
        ∀ z21 : Int, 0 ≤ z21 → z21 ≤ 65535 → 0 ≤ ((262144 * z9) + ((4096 * z11) + ((64 * z13) + z15))) - 256 * z21 → ((262144 * z9) + ((4096 * z11) + ((64 * z13) + z15))) - 256 * z21 < 256 →
        chkD 31 [z3, z4] ∧
        chkD 23 [z3, 3] ∧
        ∀ z22 : Int, 0 ≤ z22 → z22 ≤ RB → z22 = fnD 23 [z3, z18] →
        ∀ z23 : Int, 0 ≤ z23 → z23 ≤ RB → z23 = fnD 23 [z22, (z19 + ((-256) * z20))] →
        ∀ z24 : Int, 0 ≤ z24 → z24 ≤ RB → z24 = fnD 23 [z23, ((262144 * z9) + ((4096 * z11) + ((64 * z13) + (z15 + ((-256) * z21)))))] →
        ∀ z25 : Int, (-1) ≤ z25 → z25 ≤ 9223372036854775807 → 
        (I1 [[z17], [z24], [(z4 + 3)], [z25]] ∧ μ1 [[z17], [z24], [(z4 + 3)], [z25]] < μ1 [[z2], [z3], [z4], [z5]])
       ))
      ))
     ))
    ))
   ))
  ) ∧ (((!(decide (z6 = 1)))) = false →
   chkD 22 [z3, 0, z4] ∧
   ∀ z7 : Int, 0 ≤ z7 → z7 ≤ RB → z7 = fnD 22 [z3, 0, z4] →
   K [[z0]] [[z7], [0]]
  ))
 )
/-! ### Letters -/
theorem vb_hi (c : UInt8) : vb c ≤ 63 := by have := idx_range (c.toNat : Int) al64; unfold vb; have h : al64.length = 64 := rfl; omega
theorem b256' {q : UInt8 → Bool} (h : ((List.range 256).all fun i => q (UInt8.ofNat i)) = true) (c : UInt8) : q c = true := by
  have h2 := List.all_eq_true.1 h c.toNat (List.mem_range.2 c.toNat_lt)
  simpa using h2
theorem lt_vb {c : UInt8} (h : 0 ≤ vb c) : lt64 (vb c).toNat = c := by
  have := b256' (q := fun c => !decide (0 ≤ vb c) || lt64 (vb c).toNat == c) (by decide +kernel) c
  rw [show decide (0 ≤ vb c) = true from decide_eq_true h] at this
  simpa using this
theorem vb_lt {n : Nat} (h : n < 64) : vb (lt64 n) = n := by
  have h2 := List.all_eq_true.1 (show ((List.range 64).all fun i => vb (lt64 i) == (i : Int)) = true by decide +kernel) n (List.mem_range.2 h)
  simpa using h2
theorem lt64_inj {a b : Nat} (ha : a < 64) (hb : b < 64) (h : lt64 a = lt64 b) : a = b := by
  have := vb_lt ha; rw [h, vb_lt hb] at this; omega
theorem u8_nat {z : Int} (h0 : 0 ≤ z) (h1 : z ≤ 255) : (u8 z).toNat = z.toNat := by have := u8_toNat h0 h1; omega
theorem pdec_len : ∀ (s out : Tx) {l : Tx}, pdec out s = some l → l.length = out.length + s.length * 3 / 4
  | [], out, l, h => by simp only [pdec, Option.some.injEq] at h; subst h; simp
  | [_], out, l, h => by simp [pdec] at h
  | [a, b], out, l, h => by
    unfold pdec at h
    cases hc : (decide (0 ≤ vb a) && decide (0 ≤ vb b) && decide (dv (vb a) (vb b) 0 0 % 65536 = 0)) with
    | false => rw [hc] at h; cases h
    | true => rw [hc] at h; simp only [cond_true, Option.some.injEq] at h; subst h; simp
  | [a, b, c], out, l, h => by
    unfold pdec at h
    cases hc : (decide (0 ≤ vb a) && decide (0 ≤ vb b) && decide (0 ≤ vb c) && decide (dv (vb a) (vb b) (vb c) 0 % 256 = 0)) with
    | false => rw [hc] at h; cases h
    | true => rw [hc] at h; simp only [cond_true, Option.some.injEq] at h; subst h; simp
  | a :: b :: c :: d :: r, out, l, h => by
    unfold pdec at h
    cases hc : (decide (0 ≤ vb a) && decide (0 ≤ vb b) && decide (0 ≤ vb c) && decide (0 ≤ vb d)) with
    | false => rw [hc] at h; cases h
    | true =>
      rw [hc] at h
      simp only [cond_true] at h
      have := pdec_len r _ h
      rw [this]; simp; omega
/-! ### The program's decode -/
theorem rows_app {z v : Int} {l : Tx} (h : rOf z = rowsL l) (v0 : 0 ≤ v) (v1 : v ≤ 255) {y : Int} (hy : y = fnD 23 [z, v]) : rOf y = rowsL (l ++ [u8 v]) := by
  rw [hy]; simp only [fnD, rOf_rc, h]
  have := u8_toNat v0 v1
  simp [rowsL, this]
theorem bytesR_rows {z : Int} {l : Tx} (h : rOf z = rowsL l) : bytesR z = l := by unfold bytesR; rw [h]; exact rowsL_back l
theorem bytesR_zero : bytesR 0 = [] := by unfold bytesR; rw [Go.Rx.rOf_zero]; rfl
theorem kdec {id : Nat} {zs : List (List Int)} {r e : Int} (r0 : 0 ≤ r) (r1 : r ≤ RB) (e0 : 0 ≤ e) (e1 : e ≤ 21) (h : SB id zs [[r], [e]]) : KBb SB [.ow [.int .u8 0 255] 5, .d (.int .i64 0 21)] id zs [[r], [e]] := ⟨⟨r0, r1, e0, e1, trivial⟩, h⟩
theorem whole_rows {z n y : Int} {l : Tx} (h : rOf z = rowsL l) (hn : n = (l.length : Int)) : (0 ≤ (0 : Int) ∧ 0 ≤ n ∧ n ≤ ((rOf z).length : Int)) ∧ (y = fnD 22 [z, 0, n] → rOf y = rowsL l) := by
  have hl : (rowsL l).length = l.length := by simp [rowsL]
  refine ⟨⟨Int.le_refl _, by omega, by rw [h, hl]; omega⟩, fun hy => ?_⟩
  rw [hy]; simp only [fnD, rOf_rc, h]
  rw [show (0 : Int).toNat = 0 from rfl, List.drop_zero, List.take_of_length_le (by rw [hl]; omega)]
def DecI (z0 : Int) (bl : List (List Int)) : Prop := ∃ (s r n c : Int) (out : Tx), bl = [[s], [r], [n], [c]] ∧ rOf r = rowsL out ∧ n = (out.length : Int) ∧ out.length + (sOf s).length ≤ (sOf z0).length ∧ pdec out (sOf s) = pdec [] (sOf z0)
def DecM (bl : List (List Int)) : Nat := (sOf ((bl.getD 0 []).getD 0 0)).length
theorem byte_is {z i : Int} {n : Nat} {y : Int} (hi : i = (n : Int)) {l r : Tx} {c : UInt8} (hs : sOf z = l ++ c :: r) (hn : l.length = n) : (0 ≤ i ∧ i < ((sOf z).length : Int)) ∧ (y = fnD 1 [z, i] → y = (c.toNat : Int)) := by
  subst hi
  refine ⟨⟨by omega, by rw [hs]; simp; omega⟩, fun hy => ?_⟩
  rw [hy]; simp only [fnD, Int.toNat_natCast, hs]
  rw [← hn]; simp [List.getD]
theorem vb_of {c : UInt8} {y z : Int} (hy : y = (c.toNat : Int)) (h : SB 230 [[y]] [[z]]) : z = vb c := by
  have h : z = idx y al64 := h
  rw [h, hy]; rfl

theorem p_idec : B_idec SB (KBb SB [.ow [.int .u8 0 255] 5, .d (.int .i64 0 21)] 220) := by
  intro z0 a0 a1 hpre
  have hpre : (sOf z0).length ≤ 1073741824 := hpre
  refine ⟨DecI z0, DecM, ⟨z0, 0, 0, -1, [], rfl, rfl, rfl, by simp, rfl⟩, ?_⟩
  rintro z2 b0 b1 z3 c0 c1 z4 d0 d1 z5 e0 e1 ⟨s, r, n, c, out, e, hr, hn, hlen, hI⟩ z6 f0 f1 h6
  obtain ⟨rfl, rfl, rfl, rfl⟩ : z2 = s ∧ z3 = r ∧ z4 = n ∧ z5 = c := by simpa using e
  have hI : pdec out (sOf z2) = pdec [] (sOf z0) := hI
  have rl : (rOf z3).length = out.length := by rw [hr]; simp [rowsL]
  have kfail : pdec out (sOf z2) = none → KBb SB [.ow [.int .u8 0 255] 5, .d (.int .i64 0 21)] 220 [[z0]] [[0], [2]] := fun h => kdec (Int.le_refl _) RB_nonneg (by decide) (by decide) (by
    show (match pdec [] (sOf z0) with | some l => bytesR 0 = l ∧ (2 : Int) = 0 | none => bytesR 0 = [] ∧ (2 : Int) = 2)
    rw [← hI, h]; exact ⟨bytesR_zero, rfl⟩)
  rw [eq_nil h6]
  refine ⟨fun hne z7 g0 g1 h7 => ?_, fun he => ?_⟩
  · simp only [fnD] at h7
    have hne : ¬ sOf z2 = [] := by simpa using hne
    match hs : sOf z2, hne with
    | [], hne => exact absurd rfl hne
    | [a], _ =>
      rw [hs] at h7 kfail
      have h7 : z7 = 1 := by simpa using h7
      obtain ⟨p0, q0⟩ := byte_is (y := 0) (z := z2) (i := 0) (n := 0) rfl (l := []) (c := a) (r := []) hs rfl
      refine ⟨fun _ => ⟨fun _ => ⟨p0, fun z8 _ _ h8 z9 _ _ h9 => ?_⟩, fun h => absurd (of_decide_eq_false h) (by omega)⟩, fun h => absurd (of_decide_eq_false h) (by omega)⟩
      refine ⟨fun _ => kfail rfl, fun _ => ⟨fun h => absurd (of_decide_eq_true h) (by omega), fun _ z10 _ _ h10 => ?_⟩⟩
      obtain ⟨t1, t2⟩ := sub_to (s := z2) (z := 1) (L := z10) (n := 1) rfl (by rw [hs]; simp) h10
      exact ⟨t1, fun _ _ _ _ => kfail rfl⟩
    | [a, b], _ =>
      rw [hs] at h7 kfail hlen
      have h7 : z7 = 2 := by simpa using h7
      have B0 := fun y => byte_is (y := y) (z := z2) (i := 0) (n := 0) rfl (l := []) (c := a) (r := [b]) hs rfl
      have B1 := fun y => byte_is (y := y) (z := z2) (i := 1) (n := 1) rfl (l := [a]) (c := b) (r := []) hs rfl
      refine ⟨fun _ => ⟨fun _ => ⟨(B0 0).1, fun z8 _ _ h8 z9 _ _ h9 => ?_⟩, fun h => absurd (of_decide_eq_false h) (by omega)⟩, fun h => absurd (of_decide_eq_false h) (by omega)⟩
      have v9 := vb_of ((B0 _).2 h8) h9
      refine ⟨fun hv => kfail (by unfold pdec; rw [show decide (0 ≤ vb a) = false from decide_eq_false (by have := of_decide_eq_true hv; omega)]; rfl), fun hv9 => ⟨fun _ => ⟨(B1 0).1, fun z10 _ _ h10 z11 _ _ h11 => ?_⟩, fun h => absurd (of_decide_eq_false h) (by omega)⟩⟩
      have v11 := vb_of ((B1 _).2 h10) h11
      refine ⟨fun hv => kfail (by unfold pdec; rw [show decide (0 ≤ vb b) = false from decide_eq_false (by have := of_decide_eq_true hv; omega)]; simp), fun hv11 => ⟨fun h => absurd (of_decide_eq_true h) (by omega), fun _ z12 _ _ h12 => ?_⟩⟩
      have hv9 := of_decide_eq_false hv9
      have hv11 := of_decide_eq_false hv11
      have w9 := vb_hi a; have w11 := vb_hi b
      obtain ⟨t1, t2⟩ := sub_to (s := z2) (z := 2) (L := z12) (n := 2) rfl (by rw [hs]; simp) h12
      refine ⟨t1, fun z13 _ _ h13 z14 _ _ m0 m1 => ?_⟩
      have e13 : sOf z13 = [] := by rw [t2 z13 h13, hs]; rfl
      have hD : dv (vb a) (vb b) 0 0 = 262144 * z9 + 4096 * z11 := by unfold dv; omega
      refine ⟨fun hz => kfail ?_, fun hz z15 _ _ n0 n1 z16 _ _ _ _ z17 _ _ _ _ z18 _ _ _ _ => ⟨by show z4 = _; omega, by show ((rOf z3).length : Int) + 1 ≤ 1073741824; simp at hlen; omega, fun z19 _ _ h19 z20 _ _ => ?_⟩⟩
      · have hz : ¬ (262144 * z9 + (4096 * z11 + -65536 * z14) = 0) := by simpa using hz
        unfold pdec
        rw [hD, show decide ((262144 * z9 + 4096 * z11) % 65536 = 0) = false from decide_eq_false (by omega)]; simp
      · have hz : 262144 * z9 + (4096 * z11 + -65536 * z14) = 0 := by simpa using hz
        have hp : pdec out [a, b] = some (out ++ [u8 z15]) := by
          unfold pdec
          rw [hD, show decide ((262144 * z9 + 4096 * z11) % 65536 = 0) = true from decide_eq_true (by omega), show decide (0 ≤ vb a) = true from decide_eq_true (by omega), show decide (0 ≤ vb b) = true from decide_eq_true (by omega), show (262144 * z9 + 4096 * z11) / 65536 = z15 by omega]; rfl
        refine ⟨⟨z13, z19, z4 + 1, z20, out ++ [u8 z15], rfl, rows_app hr (by omega) (by omega) h19, by rw [hn]; simp, by rw [e13]; simp at hlen ⊢; omega, ?_⟩, ?_⟩
        · show pdec (out ++ [u8 z15]) (sOf z13) = pdec [] (sOf z0)
          rw [← hI, hs, hp, e13]; rfl
        · show (sOf z13).length < (sOf z2).length
          rw [e13, hs]; simp
    | [a, b, c], _ =>
      rw [hs] at h7 kfail hlen
      have h7 : z7 = 3 := by simpa using h7
      have B0 := fun y => byte_is (y := y) (z := z2) (i := 0) (n := 0) rfl (l := []) (c := a) (r := [b, c]) hs rfl
      have B1 := fun y => byte_is (y := y) (z := z2) (i := 1) (n := 1) rfl (l := [a]) (c := b) (r := [c]) hs rfl
      have B2 := fun y => byte_is (y := y) (z := z2) (i := 2) (n := 2) rfl (l := [a, b]) (c := c) (r := []) hs rfl
      refine ⟨fun _ => ⟨fun _ => ⟨(B0 0).1, fun z8 _ _ h8 z9 _ _ h9 => ?_⟩, fun h => absurd (of_decide_eq_false h) (by omega)⟩, fun h => absurd (of_decide_eq_false h) (by omega)⟩
      have v9 := vb_of ((B0 _).2 h8) h9
      refine ⟨fun hv => kfail (by unfold pdec; rw [show decide (0 ≤ vb a) = false from decide_eq_false (by have := of_decide_eq_true hv; omega)]; rfl), fun hv9 => ⟨fun _ => ⟨(B1 0).1, fun z10 _ _ h10 z11 _ _ h11 => ?_⟩, fun h => absurd (of_decide_eq_false h) (by omega)⟩⟩
      have v11 := vb_of ((B1 _).2 h10) h11
      refine ⟨fun hv => kfail (by unfold pdec; rw [show decide (0 ≤ vb b) = false from decide_eq_false (by have := of_decide_eq_true hv; omega)]; simp), fun hv11 => ⟨fun _ => ⟨(B2 0).1, fun z12 _ _ h12 z13 _ _ h13 => ?_⟩, fun h => absurd (of_decide_eq_false h) (by omega)⟩⟩
      have v13 := vb_of ((B2 _).2 h12) h13
      refine ⟨fun hv => kfail (by unfold pdec; rw [show decide (0 ≤ vb c) = false from decide_eq_false (by have := of_decide_eq_true hv; omega)]; simp), fun hv13 => ⟨fun h => absurd (of_decide_eq_true h) (by omega), fun _ z14 _ _ h14 => ?_⟩⟩
      have hv9 := of_decide_eq_false hv9
      have hv11 := of_decide_eq_false hv11
      have hv13 := of_decide_eq_false hv13
      have w9 := vb_hi a; have w11 := vb_hi b; have w13 := vb_hi c
      obtain ⟨t1, t2⟩ := sub_to (s := z2) (z := 3) (L := z14) (n := 3) rfl (by rw [hs]; simp) h14
      refine ⟨t1, fun z15 _ _ h15 z16 _ _ m0 m1 => ?_⟩
      have e15 : sOf z15 = [] := by rw [t2 z15 h15, hs]; rfl
      have hD : dv (vb a) (vb b) (vb c) 0 = 262144 * z9 + (4096 * z11 + 64 * z13) := by unfold dv; omega
      refine ⟨fun hz => kfail ?_, fun hz z17 _ _ n0 n1 z18 _ _ o0 o1 z19 _ _ x0 x1 z20 _ _ _ _ => ⟨by show z4 = _; omega, by show ((rOf z3).length : Int) + 2 ≤ 1073741824; simp at hlen; omega, fun z21 _ _ h21 z22 _ _ h22 z23 _ _ => ?_⟩⟩
      · have hz : ¬ (262144 * z9 + (4096 * z11 + (64 * z13 + -256 * z16)) = 0) := by simpa using hz
        unfold pdec
        rw [hD, show decide ((262144 * z9 + (4096 * z11 + 64 * z13)) % 256 = 0) = false from decide_eq_false (by omega)]; simp
      · have hz : 262144 * z9 + (4096 * z11 + (64 * z13 + -256 * z16)) = 0 := by simpa using hz
        have hp : pdec out [a, b, c] = some (out ++ [u8 z17] ++ [u8 (z18 + -256 * z19)]) := by
          unfold pdec
          rw [hD, show decide ((262144 * z9 + (4096 * z11 + 64 * z13)) % 256 = 0) = true from decide_eq_true (by omega), show decide (0 ≤ vb a) = true from decide_eq_true (by omega), show decide (0 ≤ vb b) = true from decide_eq_true (by omega), show decide (0 ≤ vb c) = true from decide_eq_true (by omega), show (262144 * z9 + (4096 * z11 + 64 * z13)) / 65536 = z17 by omega, show (262144 * z9 + (4096 * z11 + 64 * z13)) / 256 % 256 = z18 + -256 * z19 by omega]; rfl
        refine ⟨⟨z15, z22, z4 + 2, z23, out ++ [u8 z17] ++ [u8 (z18 + -256 * z19)], rfl, rows_app (rows_app hr (by omega) (by omega) h21) (by omega) (by omega) h22, by rw [hn]; simp, by rw [e15]; simp at hlen ⊢; omega, ?_⟩, ?_⟩
        · show pdec (out ++ [u8 z17] ++ [u8 (z18 + -256 * z19)]) (sOf z15) = pdec [] (sOf z0)
          rw [← hI, hs, hp, e15]; rfl
        · show (sOf z15).length < (sOf z2).length
          rw [e15, hs]; simp
    | a :: b :: c :: d :: r, _ =>
      rw [hs] at h7 kfail hlen
      have h7 : 4 ≤ z7 := by simp at h7; omega
      have B0 := fun y => byte_is (y := y) (z := z2) (i := 0) (n := 0) rfl (l := []) (c := a) (r := b :: c :: d :: r) hs rfl
      have B1 := fun y => byte_is (y := y) (z := z2) (i := 1) (n := 1) rfl (l := [a]) (c := b) (r := c :: d :: r) hs rfl
      have B2 := fun y => byte_is (y := y) (z := z2) (i := 2) (n := 2) rfl (l := [a, b]) (c := c) (r := d :: r) hs rfl
      have B3 := fun y => byte_is (y := y) (z := z2) (i := 3) (n := 3) rfl (l := [a, b, c]) (c := d) (r := r) hs rfl
      refine ⟨fun h => absurd (of_decide_eq_true h) (by omega), fun _ => ⟨(B0 0).1, fun z8 _ _ h8 z9 _ _ h9 => ?_⟩⟩
      have v9 := vb_of ((B0 _).2 h8) h9
      refine ⟨fun hv => kfail (by unfold pdec; rw [show decide (0 ≤ vb a) = false from decide_eq_false (by have := of_decide_eq_true hv; omega)]; rfl), fun hv9 => ⟨(B1 0).1, fun z10 _ _ h10 z11 _ _ h11 => ?_⟩⟩
      have v11 := vb_of ((B1 _).2 h10) h11
      refine ⟨fun hv => kfail (by unfold pdec; rw [show decide (0 ≤ vb b) = false from decide_eq_false (by have := of_decide_eq_true hv; omega)]; simp), fun hv11 => ⟨(B2 0).1, fun z12 _ _ h12 z13 _ _ h13 => ?_⟩⟩
      have v13 := vb_of ((B2 _).2 h12) h13
      refine ⟨fun hv => kfail (by unfold pdec; rw [show decide (0 ≤ vb c) = false from decide_eq_false (by have := of_decide_eq_true hv; omega)]; simp), fun hv13 => ⟨(B3 0).1, fun z14 _ _ h14 z15 _ _ h15 => ?_⟩⟩
      have v15 := vb_of ((B3 _).2 h14) h15
      refine ⟨fun hv => kfail (by unfold pdec; rw [show decide (0 ≤ vb d) = false from decide_eq_false (by have := of_decide_eq_true hv; omega)]; simp), fun hv15 z16 _ _ h16 => ?_⟩
      have hv9 := of_decide_eq_false hv9
      have hv11 := of_decide_eq_false hv11
      have hv13 := of_decide_eq_false hv13
      have hv15 := of_decide_eq_false hv15
      have w9 := vb_hi a; have w11 := vb_hi b; have w13 := vb_hi c; have w15 := vb_hi d
      obtain ⟨t1, t2⟩ := sub_to (s := z2) (z := 4) (L := z16) (n := 4) rfl (by rw [hs]; simp) h16
      refine ⟨t1, fun z17 _ _ h17 z18 _ _ n0 n1 z19 _ _ o0 o1 z20 _ _ x0 x1 z21 _ _ y0 y1 => ⟨by show z4 = _; omega, by show ((rOf z3).length : Int) + 3 ≤ 1073741824; simp at hlen; omega, fun z22 _ _ h22 z23 _ _ h23 z24 _ _ h24 z25 _ _ => ?_⟩⟩
      have e17 : sOf z17 = r := by rw [t2 z17 h17, hs]; rfl
      have hD : dv (vb a) (vb b) (vb c) (vb d) = 262144 * z9 + (4096 * z11 + (64 * z13 + z15)) := by unfold dv; omega
      have hp : pdec out (a :: b :: c :: d :: r) = pdec (out ++ [u8 z18] ++ [u8 (z19 + -256 * z20)] ++ [u8 (262144 * z9 + (4096 * z11 + (64 * z13 + (z15 + -256 * z21))))]) r := by
        conv => lhs; unfold pdec
        rw [hD, show decide (0 ≤ vb a) = true from decide_eq_true (by omega), show decide (0 ≤ vb b) = true from decide_eq_true (by omega), show decide (0 ≤ vb c) = true from decide_eq_true (by omega), show decide (0 ≤ vb d) = true from decide_eq_true (by omega), show (262144 * z9 + (4096 * z11 + (64 * z13 + z15))) / 65536 = z18 by omega, show (262144 * z9 + (4096 * z11 + (64 * z13 + z15))) / 256 % 256 = z19 + -256 * z20 by omega, show (262144 * z9 + (4096 * z11 + (64 * z13 + z15))) % 256 = 262144 * z9 + (4096 * z11 + (64 * z13 + (z15 + -256 * z21))) by omega]; rfl
      refine ⟨⟨z17, z24, z4 + 3, z25, _, rfl, rows_app (rows_app (rows_app hr (by omega) (by omega) h22) (by omega) (by omega) h23) (by omega) (by omega) h24, by rw [hn]; simp, by rw [e17]; simp at hlen ⊢; omega, ?_⟩, ?_⟩
      · show pdec _ (sOf z17) = pdec [] (sOf z0)
        rw [← hI, hs, hp, e17]
      · show (sOf z17).length < (sOf z2).length
        rw [e17, hs]; simp; omega
  · have he : sOf z2 = [] := by simpa using he
    have W := fun y => whole_rows (y := y) hr hn
    refine ⟨(W 0).1, fun z7 g0 g1 h7 => kdec g0 g1 (by decide) (by decide) ?_⟩
    show (match pdec [] (sOf z0) with | some l => bytesR z7 = l ∧ (0 : Int) = 0 | none => bytesR z7 = [] ∧ (0 : Int) = 2)
    rw [← hI, he]
    exact ⟨bytesR_rows ((W _).2 h7), rfl⟩
/-! ### The document's encode, bit by bit -/
def bitA (l : Tx) (i : Nat) : Nat := (l.getD (i / 8) 0).toNat / 2 ^ (7 - i % 8) % 2
def ebit (st : Tx × Nat × Nat) (b : Nat) : Tx × Nat × Nat := cond (decide (st.2.2 + 1 = 6)) (st.1 ++ [lt64 (2 * st.2.1 + b)], 0, 0) (st.1, 2 * st.2.1 + b, st.2.2 + 1)
def est (l : Tx) : Nat → Tx × Nat × Nat
  | 0 => ([], 0, 0)
  | i + 1 => ebit (est l i) (bitA l i)
def rencF (l : Tx) : Tx := cond (decide ((est l (8 * l.length)).2.2 = 0)) (est l (8 * l.length)).1 ((est l (8 * l.length)).1 ++ [lt64 ((est l (8 * l.length)).2.1 * 2 ^ (6 - (est l (8 * l.length)).2.2))])
theorem bitA_lt (l : Tx) (i : Nat) : bitA l i < 2 := Nat.mod_lt _ (by decide)
theorem est_bd (l : Tx) : ∀ i, (est l i).2.1 < 2 ^ (est l i).2.2 ∧ (est l i).2.2 < 6 ∧ (est l i).1.length ≤ i
  | 0 => by simp [est]
  | i + 1 => by
    obtain ⟨h1, h2, h3⟩ := est_bd l i
    have hb := bitA_lt l i
    unfold est ebit
    cases hc : decide ((est l i).2.2 + 1 = 6) with
    | true => simp; omega
    | false =>
      have hc := of_decide_eq_false hc
      simp only [cond_false]
      refine ⟨?_, by omega, by omega⟩
      rw [Nat.pow_succ]; omega
theorem bitA_shift (a b c : UInt8) (r : Tx) (i : Nat) : bitA (a :: b :: c :: r) (24 + i) = bitA r i := by
  unfold bitA
  rw [show (24 + i) / 8 = i / 8 + 3 by omega, show (24 + i) % 8 = i % 8 by omega]
  rfl
theorem ebit_pre (p : Tx) (st : Tx × Nat × Nat) (b : Nat) : ebit (p ++ st.1, st.2.1, st.2.2) b = (p ++ (ebit st b).1, (ebit st b).2.1, (ebit st b).2.2) := by
  unfold ebit
  simp only
  cases decide (st.2.2 + 1 = 6) with
  | true => simp
  | false => simp
theorem est_shift (a b c : UInt8) (r : Tx) (p : Tx) (h : est (a :: b :: c :: r) 24 = (p, 0, 0)) : ∀ i, est (a :: b :: c :: r) (24 + i) = (p ++ (est r i).1, (est r i).2.1, (est r i).2.2)
  | 0 => by rw [Nat.add_zero, h]; simp [est]
  | i + 1 => by
    rw [← Nat.add_assoc]
    show ebit (est (a :: b :: c :: r) (24 + i)) (bitA (a :: b :: c :: r) (24 + i)) = _
    rw [est_shift a b c r p h i, bitA_shift, ebit_pre]
    rfl
theorem est8 (a : UInt8) (r : Tx) : est (a :: r) 8 = ([lt64 (a.toNat / 4)], a.toNat % 4, 2) := by
  have ha := a.toNat_lt
  simp only [est, ebit, bitA, List.getD_cons_zero, List.getD_cons_succ, Nat.reduceDiv, Nat.reduceMod, Nat.reduceSub, Nat.reduceAdd, Nat.reducePow, Nat.reduceEqDiff, decide_true, decide_false, cond_true, cond_false, List.cons_append, List.nil_append]
  simp only [Prod.mk.injEq, List.cons.injEq, and_true]
  exact ⟨congrArg lt64 (by omega), by omega⟩
theorem est_succ (l : Tx) (i : Nat) : est l (i + 1) = ebit (est l i) (bitA l i) := rfl
theorem eb0 {s : Tx} {n k b : Nat} (h : k + 1 ≠ 6) : ebit (s, n, k) b = (s, 2 * n + b, k + 1) := by unfold ebit; rw [decide_eq_false h]; rfl
theorem eb1 {s : Tx} {n b : Nat} : ebit (s, n, 5) b = (s ++ [lt64 (2 * n + b)], 0, 0) := rfl
theorem bitB (p : Tx) (c : UInt8) (r : Tx) (k : Nat) (h : k < 8) : bitA (p ++ c :: r) (8 * p.length + k) = c.toNat / 2 ^ (7 - k) % 2 := by
  unfold bitA
  rw [show (8 * p.length + k) / 8 = p.length by omega, show (8 * p.length + k) % 8 = k by omega]
  simp [List.getD]
theorem est16 (a b : UInt8) (r : Tx) : est (a :: b :: r) 16 = ([lt64 (a.toNat / 4), lt64 (a.toNat % 4 * 16 + b.toNat / 16)], b.toNat % 16, 4) := by
  have hb := b.toNat_lt
  have hB := fun k h => bitB [a] b r k h
  rw [est_succ _ 15, est_succ _ 14, est_succ _ 13, est_succ _ 12, est_succ _ 11, est_succ _ 10, est_succ _ 9, est_succ _ 8, est8]
  rw [show bitA (a :: b :: r) 8 = _ from hB 0 (by decide), show bitA (a :: b :: r) 9 = _ from hB 1 (by decide), show bitA (a :: b :: r) 10 = _ from hB 2 (by decide), show bitA (a :: b :: r) 11 = _ from hB 3 (by decide), show bitA (a :: b :: r) 12 = _ from hB 4 (by decide), show bitA (a :: b :: r) 13 = _ from hB 5 (by decide), show bitA (a :: b :: r) 14 = _ from hB 6 (by decide), show bitA (a :: b :: r) 15 = _ from hB 7 (by decide)]
  have e0 := fun s n b => eb0 (s := s) (n := n) (k := 0) (b := b) (by decide)
  have e1 := fun s n b => eb0 (s := s) (n := n) (k := 1) (b := b) (by decide)
  have e2 := fun s n b => eb0 (s := s) (n := n) (k := 2) (b := b) (by decide)
  have e3 := fun s n b => eb0 (s := s) (n := n) (k := 3) (b := b) (by decide)
  have e4 := fun s n b => eb0 (s := s) (n := n) (k := 4) (b := b) (by decide)
  simp only [eb1, e0, e1, e2, e3, e4, Nat.reduceAdd]
  simp only [Nat.reduceSub, Nat.reducePow, List.cons_append, List.nil_append, Prod.mk.injEq, List.cons.injEq, and_true, true_and]
  exact ⟨congrArg lt64 (by omega), by omega⟩
theorem est24 (a b c : UInt8) (r : Tx) : est (a :: b :: c :: r) 24 = ([lt64 (a.toNat / 4), lt64 (a.toNat % 4 * 16 + b.toNat / 16), lt64 (b.toNat % 16 * 4 + c.toNat / 64), lt64 (c.toNat % 64)], 0, 0) := by
  have hc := c.toNat_lt
  have hB := fun k h => bitB [a, b] c r k h
  rw [est_succ _ 23, est_succ _ 22, est_succ _ 21, est_succ _ 20, est_succ _ 19, est_succ _ 18, est_succ _ 17, est_succ _ 16, est16]
  rw [show bitA (a :: b :: c :: r) 16 = _ from hB 0 (by decide), show bitA (a :: b :: c :: r) 17 = _ from hB 1 (by decide), show bitA (a :: b :: c :: r) 18 = _ from hB 2 (by decide), show bitA (a :: b :: c :: r) 19 = _ from hB 3 (by decide), show bitA (a :: b :: c :: r) 20 = _ from hB 4 (by decide), show bitA (a :: b :: c :: r) 21 = _ from hB 5 (by decide), show bitA (a :: b :: c :: r) 22 = _ from hB 6 (by decide), show bitA (a :: b :: c :: r) 23 = _ from hB 7 (by decide)]
  have e0 := fun s n b => eb0 (s := s) (n := n) (k := 0) (b := b) (by decide)
  have e1 := fun s n b => eb0 (s := s) (n := n) (k := 1) (b := b) (by decide)
  have e2 := fun s n b => eb0 (s := s) (n := n) (k := 2) (b := b) (by decide)
  have e3 := fun s n b => eb0 (s := s) (n := n) (k := 3) (b := b) (by decide)
  have e4 := fun s n b => eb0 (s := s) (n := n) (k := 4) (b := b) (by decide)
  simp only [eb1, e0, e1, e2, e3, e4, Nat.reduceAdd]
  simp only [Nat.reduceSub, Nat.reducePow, List.cons_append, List.nil_append, Prod.mk.injEq, List.cons.injEq, and_true, true_and]
  exact ⟨congrArg lt64 (by omega), congrArg lt64 (by omega)⟩
theorem rencF_eq : ∀ l : Tx, rencF l = penc l
  | [] => rfl
  | [a] => by
    unfold rencF
    rw [show 8 * [a].length = 8 from rfl, est8]; rfl
  | [a, b] => by
    unfold rencF
    rw [show 8 * [a, b].length = 16 from rfl, est16]; rfl
  | a :: b :: c :: r => by
    have ih := rencF_eq r
    unfold rencF at ih ⊢
    rw [show 8 * (a :: b :: c :: r).length = 24 + 8 * r.length by simp; omega, est_shift a b c r _ (est24 a b c r)]
    simp only
    unfold penc
    rw [← ih]
    cases decide ((est r (8 * r.length)).2.2 = 0) <;> simp
def B_renc (S : Nat → List (List Int) → List (List Int) → Prop) (K : List (List Int) → List (List Int) → Prop) : Prop :=
 ∀ z0 : Int, 0 ≤ z0 → z0 ≤ RB → 
 chkD 48 [z0] →
 ∀ z1 : Int, 0 ≤ z1 →
 ∀ z2 : Int, (-1) ≤ z2 → z2 ≤ 9223372036854775807 → 
 ∀ z3 : Int, 0 ≤ z3 → z3 ≤ 9223372036854775807 → z3 = fnD 20 [z0] →
 ∃ (I4 : List (List Int) → Prop) (μ4 : List (List Int) → Nat), I4 [[0], [0], [0], [0]] ∧ (∀ z5 : Int, 0 ≤ z5 → z5 ≤ HB → ∀ z6 : Int, 0 ≤ z6 → z6 ≤ 63 → ∀ z7 : Int, 0 ≤ z7 → z7 ≤ 5 → ∀ z8 : Int, 0 ≤ z8 → z8 ≤ 9223372036854775807 → I4 [[z5], [z6], [z7], [z8]] →
  ∀ z9 : Int, 0 ≤ z9 → z9 ≤ 4 → 0 ≤ ((8 * z3) + 9223372036854775808) - 18446744073709551616 * z9 → ((8 * z3) + 9223372036854775808) - 18446744073709551616 * z9 < 18446744073709551616 →
  (((decide (z8 < ((8 * z3) + ((-18446744073709551616) * z9)))) = true →
   ∀ z10 : Int, 0 ≤ z10 → z10 ≤ 1152921504606846975 → 0 ≤ z8 - 8 * z10 → z8 - 8 * z10 < 8 →
   chkD 30 [z10, z3] ∧
   chkD 21 [z0, z10] ∧
   ∀ z11 : Int, 0 ≤ z11 → z11 ≤ 255 → z11 = fnD 21 [z0, z10, 0] →
   ∀ z12 : Int, 0 ≤ z12 → z12 ≤ 1152921504606846975 → 0 ≤ z8 - 8 * z12 → z8 - 8 * z12 < 8 →
   ∀ z13 : Int, 0 ≤ z13 → z13 ≤ 255 → z13 = z11 / 2 ^ (((((-1) * z8) + (8 * z12)) + 7)).toNat →
   ∀ z14 : Int, 0 ≤ z14 → z14 ≤ 127 → 0 ≤ z13 - 2 * z14 → z13 - 2 * z14 < 2 →
   (((decide ((z7 + 1) = 6)) = true →
    chkD 2 [6439778871455663551411970937238106184867635049510729706117061206185421053633325175573859605394632369959718122663627376643761666518446848593321555565570007, ((2 * z6) + (z13 + ((-2) * z14))), (((2 * z6) + (z13 + ((-2) * z14))) + 1)] ∧
    ∀ z15 : Int, 0 ≤ z15 → z15 ≤ HB → z15 = fnD 2 [6439778871455663551411970937238106184867635049510729706117061206185421053633325175573859605394632369959718122663627376643761666518446848593321555565570007, ((2 * z6) + (z13 + ((-2) * z14))), (((2 * z6) + (z13 + ((-2) * z14))) + 1)] →
    chkD 3 [z5, z15] ∧
    ∀ z16 : Int, 0 ≤ z16 → z16 ≤ HB → z16 = fnD 3 [z5, z15] →
    ∀ z17 : Int, 0 ≤ z17 → z17 ≤ 1 → 0 ≤ (z8 + 9223372036854775809) - 18446744073709551616 * z17 → (z8 + 9223372036854775809) - 18446744073709551616 * z17 < 18446744073709551616 →
    chkD 39 [((z8 + ((-18446744073709551616) * z17)) + 1), 0, 9223372036854775807] ∧
    (I4 [[z16], [0], [0], [((z8 + ((-18446744073709551616) * z17)) + 1)]] ∧ μ4 [[z16], [0], [0], [((z8 + ((-18446744073709551616) * z17)) + 1)]] < μ4 [[z5], [z6], [z7], [z8]])
   ) ∧ ((decide ((z7 + 1) = 6)) = false →
    ∀ z15 : Int, 0 ≤ z15 → z15 ≤ 1 → 0 ≤ (z8 + 9223372036854775809) - 18446744073709551616 * z15 → (z8 + 9223372036854775809) - 18446744073709551616 * z15 < 18446744073709551616 →
    chkD 39 [((2 * z6) + (z13 + ((-2) * z14))), 0, 63] ∧
    chkD 39 [(z7 + 1), 0, 5] ∧
    chkD 39 [((z8 + ((-18446744073709551616) * z15)) + 1), 0, 9223372036854775807] ∧
    (I4 [[z5], [((2 * z6) + (z13 + ((-2) * z14)))], [(z7 + 1)], [((z8 + ((-18446744073709551616) * z15)) + 1)]] ∧ μ4 [[z5], [((2 * z6) + (z13 + ((-2) * z14)))], [(z7 + 1)], [((z8 + ((-18446744073709551616) * z15)) + 1)]] < μ4 [[z5], [z6], [z7], [z8]])
   ))
  ) ∧ ((decide (z8 < ((8 * z3) + ((-18446744073709551616) * z9)))) = false →
   (((decide (0 < z7)) = true →
    (((decide ((z7 + 1) < 6)) = true →
     (((decide ((z7 + 2) < 6)) = true →
      (((decide ((z7 + 3) < 6)) = true →
       (((decide ((z7 + 4) < 6)) = true →
        chkD 2 [6439778871455663551411970937238106184867635049510729706117061206185421053633325175573859605394632369959718122663627376643761666518446848593321555565570007, (32 * z6), ((32 * z6) + 1)] ∧
        ∀ z10 : Int, 0 ≤ z10 → z10 ≤ HB → z10 = fnD 2 [6439778871455663551411970937238106184867635049510729706117061206185421053633325175573859605394632369959718122663627376643761666518446848593321555565570007, (32 * z6), ((32 * z6) + 1)] →
        chkD 3 [z5, z10] ∧
        ∀ z11 : Int, 0 ≤ z11 → z11 ≤ HB → z11 = fnD 3 [z5, z10] →
        K [[z0]] [[z11]]
       ) ∧ ((decide ((z7 + 4) < 6)) = false →
        chkD 2 [6439778871455663551411970937238106184867635049510729706117061206185421053633325175573859605394632369959718122663627376643761666518446848593321555565570007, (16 * z6), ((16 * z6) + 1)] ∧
        ∀ z10 : Int, 0 ≤ z10 → z10 ≤ HB → z10 = fnD 2 [6439778871455663551411970937238106184867635049510729706117061206185421053633325175573859605394632369959718122663627376643761666518446848593321555565570007, (16 * z6), ((16 * z6) + 1)] →
        chkD 3 [z5, z10] ∧
        ∀ z11 : Int, 0 ≤ z11 → z11 ≤ HB → z11 = fnD 3 [z5, z10] →
        K [[z0]] [[z11]]
       ))
      ) ∧ ((decide ((z7 + 3) < 6)) = false →
       chkD 2 [6439778871455663551411970937238106184867635049510729706117061206185421053633325175573859605394632369959718122663627376643761666518446848593321555565570007, (8 * z6), ((8 * z6) + 1)] ∧
       ∀ z10 : Int, 0 ≤ z10 → z10 ≤ HB → z10 = fnD 2 [6439778871455663551411970937238106184867635049510729706117061206185421053633325175573859605394632369959718122663627376643761666518446848593321555565570007, (8 * z6), ((8 * z6) + 1)] →
       chkD 3 [z5, z10] ∧
       ∀ z11 : Int, 0 ≤ z11 → z11 ≤ HB → z11 = fnD 3 [z5, z10] →
       K [[z0]] [[z11]]
      ))
     ) ∧ ((decide ((z7 + 2) < 6)) = false →
      chkD 2 [6439778871455663551411970937238106184867635049510729706117061206185421053633325175573859605394632369959718122663627376643761666518446848593321555565570007, (4 * z6), ((4 * z6) + 1)] ∧
      ∀ z10 : Int, 0 ≤ z10 → z10 ≤ HB → z10 = fnD 2 [6439778871455663551411970937238106184867635049510729706117061206185421053633325175573859605394632369959718122663627376643761666518446848593321555565570007, (4 * z6), ((4 * z6) + 1)] →
      chkD 3 [z5, z10] ∧
      ∀ z11 : Int, 0 ≤ z11 → z11 ≤ HB → z11 = fnD 3 [z5, z10] →
      K [[z0]] [[z11]]
     ))
    ) ∧ ((decide ((z7 + 1) < 6)) = false →
     chkD 2 [6439778871455663551411970937238106184867635049510729706117061206185421053633325175573859605394632369959718122663627376643761666518446848593321555565570007, (2 * z6), ((2 * z6) + 1)] ∧
     ∀ z10 : Int, 0 ≤ z10 → z10 ≤ HB → z10 = fnD 2 [6439778871455663551411970937238106184867635049510729706117061206185421053633325175573859605394632369959718122663627376643761666518446848593321555565570007, (2 * z6), ((2 * z6) + 1)] →
     chkD 3 [z5, z10] ∧
     ∀ z11 : Int, 0 ≤ z11 → z11 ≤ HB → z11 = fnD 3 [z5, z10] →
     K [[z0]] [[z11]]
    ))
   ) ∧ ((decide (0 < z7)) = false →
    K [[z0]] [[z5]]
   ))
  ))
 )
theorem cL_al : sOf 6439778871455663551411970937238106184867635049510729706117061206185421053633325175573859605394632369959718122663627376643761666518446848593321555565570007 = al64 := by decide +kernel
theorem bytesR_len (z : Int) : (bytesR z).length = (rOf z).length := by simp [bytesR]
theorem bytesR_get {z : Int} {i : Nat} {v : Int} (v0 : 0 ≤ v) (v1 : v ≤ 255) (h : v = ((rOf z).getD i []).getD 0 0) : ((bytesR z).getD i 0).toNat = v.toNat := by
  unfold bytesR
  by_cases hi : i < (rOf z).length
  · simp only [List.getD, List.getElem?_map, List.getElem?_eq_getElem hi, Option.map_some, Option.getD_some] at h ⊢
    rw [← h]; simp; omega
  · have e : (rOf z)[i]? = none := List.getElem?_eq_none (by omega)
    simp only [List.getD, List.getElem?_map, e, Option.map_none, Option.getD_none] at h ⊢
    have : v = 0 := by rw [h]; rfl
    rw [this]; rfl
def RenI (z0 : Int) (bl : List (List Int)) : Prop := ∃ (i : Nat) (s n b : Int), bl = [[s], [n], [b], [(i : Int)]] ∧ i ≤ 8 * (rOf z0).length ∧ sOf s = (est (bytesR z0) i).1 ∧ n = ((est (bytesR z0) i).2.1 : Nat) ∧ b = ((est (bytesR z0) i).2.2 : Nat)
def RenM (z0 : Int) (bl : List (List Int)) : Nat := 8 * (rOf z0).length - ((bl.getD 3 []).getD 0 0).toNat
theorem letter_at {n : Nat} {i : Int} (hi : i = (n : Int)) (h : n < 64) : chkD 2 [6439778871455663551411970937238106184867635049510729706117061206185421053633325175573859605394632369959718122663627376643761666518446848593321555565570007, i, i + 1] ∧ ∀ z, z = fnD 2 [6439778871455663551411970937238106184867635049510729706117061206185421053633325175573859605394632369959718122663627376643761666518446848593321555565570007, i, i + 1] → sOf z = [lt64 n] := by
  obtain ⟨h1, h2⟩ := sub1' (s := 6439778871455663551411970937238106184867635049510729706117061206185421053633325175573859605394632369959718122663627376643761666518446848593321555565570007) hi (by rw [cL_al]; exact h)
  refine ⟨h1, fun z hz => ?_⟩
  rw [h2 z hz, cL_al]; rfl
where
  sub1' {s i : Int} {n : Nat} (hi : i = (n : Int)) (h : n < (sOf s).length) : (0 ≤ i ∧ i ≤ i + 1 ∧ i + 1 ≤ ((sOf s).length : Int)) ∧ ∀ z, z = fnD 2 [s, i, i + 1] → sOf z = [(sOf s).getD n 0] := by
    subst hi
    refine ⟨⟨by omega, by omega, by omega⟩, fun z hz => ?_⟩
    rw [hz]; simp only [fnD, sOf_cOf]
    rw [show ((n : Int)).toNat = n by omega, show ((n : Int) + 1).toNat - n = 1 by omega, drop_cons_getD _ _ h]
    rfl
theorem pow_lt32 {n b : Nat} (h : n < 2 ^ b) (hb : b ≤ 5) : n < 32 := Nat.lt_of_lt_of_le h (Nat.pow_le_pow_right (by decide) hb)
theorem p_renc : B_renc SB (KBb SB [.d .str] 222) := by
  intro z0 a0 a1 hpre z1 _ z2 _ _ z3 b0 b1 h3
  have hpre : (rOf z0).length ≤ 1099511627776 := hpre
  simp only [fnD] at h3
  refine ⟨RenI z0, RenM z0, ⟨0, 0, 0, 0, rfl, Nat.zero_le _, rfl, rfl, rfl⟩, ?_⟩
  rintro z5 c0 c1 z6 d0 d1 z7 e0 e1 z8 f0 f1 ⟨i, s, n, b, e, hi, hs, hn, hb⟩ z9 g0 g1 g2 g3
  obtain ⟨rfl, rfl, rfl, rfl⟩ : z5 = s ∧ z6 = n ∧ z7 = b ∧ z8 = i := by simpa using e
  obtain ⟨q1, q2, q3⟩ := est_bd (bytesR z0) i
  have hz9 : z9 = 0 := by omega
  subst hz9
  have hkey : ∀ r : Int, 0 ≤ r → r ≤ HB → sOf r = rencF (bytesR z0) → KBb SB [.d .str] 222 [[z0]] [[r]] := fun r r0 r1 h => ⟨⟨r0, r1, trivial⟩, by show sOf r = penc (bytesR z0); rw [h, rencF_eq]⟩
  refine ⟨fun hlt z10 _ _ i0 i1 => ?_, fun hge => ?_⟩
  · have hlt : (i : Int) < 8 * z3 + -18446744073709551616 * 0 := of_decide_eq_true hlt
    have h10 : z10 = ((i / 8 : Nat) : Int) := by omega
    refine ⟨⟨by omega, by omega⟩, ⟨by omega, by omega⟩, fun z11 j0 j1 h11 z12 _ _ k0 k1 z13 l0 l1 h13 z14 _ _ m0 m1 => ?_⟩
    have h12 : z12 = ((i / 8 : Nat) : Int) := by omega
    have hexp : (((-1) * (i : Int) + 8 * z12 + 7)).toNat = 7 - i % 8 := by omega
    rw [hexp] at h13
    have h11 : z11 = ((rOf z0).getD (i / 8) []).getD 0 0 := by rw [h11, h10]; simp only [fnD, Int.toNat_natCast]; rfl
    have hget := bytesR_get j0 j1 h11
    have hbit : z13 + -2 * z14 = ((bitA (bytesR z0) i : Nat) : Int) := by
      have e1 : z13 = ((((bytesR z0).getD (i / 8) 0).toNat / 2 ^ (7 - i % 8) : Nat) : Int) := by
        rw [h13, hget]
        have : z11 = ((z11.toNat : Nat) : Int) := by omega
        conv => lhs; rw [this]
        simp
      unfold bitA
      omega
    have hb2 := bitA_lt (bytesR z0) i
    rw [hbit]
    have hst : est (bytesR z0) (i + 1) = ebit (est (bytesR z0) i) (bitA (bytesR z0) i) := rfl
    have hn32 := pow_lt32 q1 (by omega)
    refine ⟨fun h6 => ?_, fun h6 z15 p0 p1 p2 p3 => ?_⟩
    · have h6 : z7 + 1 = 6 := of_decide_eq_true h6
      obtain ⟨t1, t2⟩ := letter_at (n := 2 * (est (bytesR z0) i).2.1 + bitA (bytesR z0) i) (i := 2 * z6 + ((bitA (bytesR z0) i : Nat) : Int)) (by omega) (by omega)
      refine ⟨t1, fun z15 p0 p1 h15 => ?_⟩
      have e15 := t2 z15 h15
      refine ⟨by show (sOf z5).length + (sOf z15).length ≤ mxL; rw [e15, hs]; unfold mxL; simp; omega, fun z16 r0 r1 h16 z17 s0 s1 s2 s3 => ?_⟩
      rw [wrap1 (L := 8 * z3) (by omega) (by omega) f0 s0 s2]
      have hst2 : est (bytesR z0) (i + 1) = ((est (bytesR z0) i).1 ++ [lt64 (2 * (est (bytesR z0) i).2.1 + bitA (bytesR z0) i)], 0, 0) := by
        rw [hst]; unfold ebit; rw [decide_eq_true (by omega)]; rfl
      refine ⟨⟨by omega, by omega⟩, ⟨i + 1, z16, 0, 0, by simp, by omega, ?_, by rw [hst2]; rfl, by rw [hst2]; rfl⟩, ?_⟩
      · rw [h16]; simp only [fnD, sOf_cOf]; rw [hst2, hs, e15]
      · show 8 * (rOf z0).length - ((i : Int) + 1).toNat < 8 * (rOf z0).length - ((i : Int)).toNat
        omega
    · have h6 : ¬ z7 + 1 = 6 := of_decide_eq_false h6
      rw [wrap1 (L := 8 * z3) (by omega) (by omega) f0 p0 p2]
      have hst2 : est (bytesR z0) (i + 1) = ((est (bytesR z0) i).1, 2 * (est (bytesR z0) i).2.1 + bitA (bytesR z0) i, (est (bytesR z0) i).2.2 + 1) := by
        rw [hst]; unfold ebit; rw [decide_eq_false (by omega)]; rfl
      refine ⟨⟨by omega, by omega⟩, ⟨by omega, by omega⟩, ⟨by omega, by omega⟩, ⟨i + 1, z5, 2 * z6 + ((bitA (bytesR z0) i : Nat) : Int), z7 + 1, by simp, by omega, by rw [hst2]; exact hs, by rw [hst2]; simp; omega, by rw [hst2]; simp; omega⟩, ?_⟩
      show 8 * (rOf z0).length - ((i : Int) + 1).toNat < 8 * (rOf z0).length - ((i : Int)).toNat
      omega
  · have hge : ¬ (i : Int) < 8 * z3 + -18446744073709551616 * 0 := of_decide_eq_false hge
    have hie : i = 8 * (bytesR z0).length := by rw [bytesR_len]; omega
    have hfin : rencF (bytesR z0) = cond (decide ((est (bytesR z0) i).2.2 = 0)) (est (bytesR z0) i).1 ((est (bytesR z0) i).1 ++ [lt64 ((est (bytesR z0) i).2.1 * 2 ^ (6 - (est (bytesR z0) i).2.2))]) := by rw [hie]; rfl
    have pad : ∀ (k : Nat) (x : Int), 0 < (est (bytesR z0) i).2.2 → (est (bytesR z0) i).2.2 + k = 6 → x = (((est (bytesR z0) i).2.1 * 2 ^ k : Nat) : Int) →
        chkD 2 [6439778871455663551411970937238106184867635049510729706117061206185421053633325175573859605394632369959718122663627376643761666518446848593321555565570007, x, x + 1] ∧
        ∀ z10 : Int, 0 ≤ z10 → z10 ≤ HB → z10 = fnD 2 [6439778871455663551411970937238106184867635049510729706117061206185421053633325175573859605394632369959718122663627376643761666518446848593321555565570007, x, x + 1] →
        chkD 3 [z5, z10] ∧
        ∀ z11 : Int, 0 ≤ z11 → z11 ≤ HB → z11 = fnD 3 [z5, z10] →
        KBb SB [.d .str] 222 [[z0]] [[z11]] := fun k x hp hk hx => by
      have hlt : (est (bytesR z0) i).2.1 * 2 ^ k < 64 := by
        have : 2 ^ (est (bytesR z0) i).2.2 * 2 ^ k = 64 := by rw [← Nat.pow_add, hk]
        rw [← this]
        exact Nat.mul_lt_mul_of_pos_right q1 (Nat.two_pow_pos k)
      obtain ⟨t1, t2⟩ := letter_at hx hlt
      refine ⟨t1, fun z10 _ _ h10 => ?_⟩
      have e10 := t2 z10 h10
      refine ⟨by show (sOf z5).length + (sOf z10).length ≤ mxL; rw [e10, hs]; unfold mxL; simp; omega, fun z11 r0 r1 h11 => hkey z11 r0 r1 ?_⟩
      rw [hfin, decide_eq_false (by omega), h11]
      simp only [fnD, sOf_cOf, cond_false]
      rw [hs, e10, show 6 - (est (bytesR z0) i).2.2 = k by omega]
    refine ⟨fun hp => ?_, fun hp => hkey z5 c0 c1 ?_⟩
    · have hp : 0 < z7 := of_decide_eq_true hp
      refine ⟨fun h => ⟨fun h => ⟨fun h => ⟨fun h => pad 5 _ (by omega) (by have := of_decide_eq_true h; omega) (by omega), fun h' => pad 4 _ (by omega) (by have := of_decide_eq_true h; have := of_decide_eq_false h'; omega) (by omega)⟩, fun h' => pad 3 _ (by omega) (by have := of_decide_eq_true h; have := of_decide_eq_false h'; omega) (by omega)⟩, fun h' => pad 2 _ (by omega) (by have := of_decide_eq_true h; have := of_decide_eq_false h'; omega) (by omega)⟩, fun h' => pad 1 _ (by omega) (by have := of_decide_eq_false h'; omega) (by omega)⟩
    · have hp : ¬ 0 < z7 := of_decide_eq_false hp
      rw [hfin, decide_eq_true (by omega), hs]; rfl
end Go.Ad
