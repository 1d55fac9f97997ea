/- AdVcD: a part of the proof of statements of this seat. -/
import Derived.Test.YtcellhafdgmkjaaDoorAdVcB
import Derived.Test.YtcellhafdgmkjaaDoorAdBase
set_option maxRecDepth 100000
set_option linter.unusedVariables false
set_option linter.unusedSimpArgs false
namespace Go.Ad
open Go Go.Rx
def B_low (S : Nat → List (List Int) → List (List Int) → Prop) (K : List (List Int) → List (List Int) → Prop) : Prop :=
 ∀ z0 : Int, 0 ≤ z0 → z0 ≤ HB → 
 ∀ z1 : Int, 0 ≤ z1 → z1 ≤ RB → z1 = fnD 27 [z0] →
 ∀ z2 : Int, 0 ≤ z2 → z2 ≤ 9223372036854775807 → z2 = fnD 0 [z0] →
 ∀ z3 : Int, (-1) ≤ z3 → z3 ≤ 9223372036854775807 → 
 ∃ (I4 : List (List Int) → Prop) (μ4 : List (List Int) → Nat), I4 [[0], [z1]] ∧ (∀ z5 : Int, 0 ≤ z5 → z5 ≤ 9223372036854775807 → ∀ z6 : Int, 0 ≤ z6 → z6 ≤ RB → I4 [[z5], [z6]] →
  (((decide (z5 < z2)) = true →
   chkD 30 [z5, z2] ∧
   chkD 21 [z6, z5] ∧
   ∀ z7 : Int, 0 ≤ z7 → z7 ≤ 255 → z7 = fnD 21 [z6, z5, 0] →
   (((decide (65 ≤ z7)) = true →
    (((decide (z7 ≤ 90)) = true →
     ∀ z8 : Int, 0 ≤ z8 → z8 ≤ IntKind.max .u8 → z8 = bitI .or .u8 z7 32 →
     chkD 30 [z5, z2] ∧
     chkD 21 [z6, z5] ∧
     ∀ z9 : Int, 0 ≤ z9 → z9 ≤ RB → z9 = fnD 42 [z6, z5, 0, z8] →
     ∀ z10 : Int, 0 ≤ z10 → z10 ≤ 1 → 0 ≤ (z5 + 9223372036854775809) - 18446744073709551616 * z10 → (z5 + 9223372036854775809) - 18446744073709551616 * z10 < 18446744073709551616 →
     chkD 39 [((z5 + ((-18446744073709551616) * z10)) + 1), 0, 9223372036854775807] ∧
     (I4 [[((z5 + ((-18446744073709551616) * z10)) + 1)], [z9]] ∧ μ4 [[((z5 + ((-18446744073709551616) * z10)) + 1)], [z9]] < μ4 [[z5], [z6]])
    ) ∧ ((decide (z7 ≤ 90)) = false →
     ∀ z8 : Int, 0 ≤ z8 → z8 ≤ 1 → 0 ≤ (z5 + 9223372036854775809) - 18446744073709551616 * z8 → (z5 + 9223372036854775809) - 18446744073709551616 * z8 < 18446744073709551616 →
     chkD 39 [((z5 + ((-18446744073709551616) * z8)) + 1), 0, 9223372036854775807] ∧
     (I4 [[((z5 + ((-18446744073709551616) * z8)) + 1)], [z6]] ∧ μ4 [[((z5 + ((-18446744073709551616) * z8)) + 1)], [z6]] < μ4 [[z5], [z6]])
    ))
   ) ∧ ((decide (65 ≤ z7)) = false →
    ∀ z8 : Int, 0 ≤ z8 → z8 ≤ 1 → 0 ≤ (z5 + 9223372036854775809) - 18446744073709551616 * z8 → (z5 + 9223372036854775809) - 18446744073709551616 * z8 < 18446744073709551616 →
    chkD 39 [((z5 + ((-18446744073709551616) * z8)) + 1), 0, 9223372036854775807] ∧
    (I4 [[((z5 + ((-18446744073709551616) * z8)) + 1)], [z6]] ∧ μ4 [[((z5 + ((-18446744073709551616) * z8)) + 1)], [z6]] < μ4 [[z5], [z6]])
   ))
  ) ∧ ((decide (z5 < z2)) = false →
   chkD 35 [z6, 0, z2] ∧
   ∀ z7 : Int, 0 ≤ z7 → z7 ≤ HB → z7 = fnD 34 [z6, 0, z2] →
   K [[z0]] [[z7]]
  ))
 )
def B_rlow (S : Nat → List (List Int) → List (List Int) → Prop) (K : List (List Int) → List (List Int) → Prop) : Prop :=
 ∀ z0 : Int, 0 ≤ z0 → z0 ≤ HB → 
 ∀ z1 : Int, 0 ≤ z1 → z1 ≤ RB → z1 = fnD 27 [z0] →
 ∀ z2 : Int, 0 ≤ z2 → z2 ≤ 9223372036854775807 → z2 = fnD 0 [z0] →
 ∀ z3 : Int, (-1) ≤ z3 → z3 ≤ 9223372036854775807 → 
 ∃ (I4 : List (List Int) → Prop) (μ4 : List (List Int) → Nat), I4 [[0], [z1]] ∧ (∀ z5 : Int, 0 ≤ z5 → z5 ≤ 9223372036854775807 → ∀ z6 : Int, 0 ≤ z6 → z6 ≤ RB → I4 [[z5], [z6]] →
  (((decide (z5 < z2)) = true →
   chkD 30 [z5, z2] ∧
   chkD 21 [z6, z5] ∧
   ∀ z7 : Int, 0 ≤ z7 → z7 ≤ 255 → z7 = fnD 21 [z6, z5, 0] →
   (((decide (65 ≤ z7)) = true →
    chkD 30 [z5, z2] ∧
    chkD 21 [z6, z5] ∧
    ∀ z8 : Int, 0 ≤ z8 → z8 ≤ 255 → z8 = fnD 21 [z6, z5, 0] →
    (((decide (z8 ≤ 90)) = true →
     chkD 30 [z5, z2] ∧
     chkD 21 [z6, z5] ∧
     ∀ z9 : Int, 0 ≤ z9 → z9 ≤ 255 → z9 = fnD 21 [z6, z5, 0] →
     ∀ z10 : Int, 0 ≤ z10 → z10 ≤ 1 → 0 ≤ (z9 + 32) - 256 * z10 → (z9 + 32) - 256 * z10 < 256 →
     chkD 30 [z5, z2] ∧
     chkD 21 [z6, z5] ∧
     ∀ z11 : Int, 0 ≤ z11 → z11 ≤ RB → z11 = fnD 42 [z6, z5, 0, ((z9 + ((-256) * z10)) + 32)] →
     ∀ z12 : Int, 0 ≤ z12 → z12 ≤ 1 → 0 ≤ (z5 + 9223372036854775809) - 18446744073709551616 * z12 → (z5 + 9223372036854775809) - 18446744073709551616 * z12 < 18446744073709551616 →
     chkD 39 [((z5 + ((-18446744073709551616) * z12)) + 1), 0, 9223372036854775807] ∧
     (I4 [[((z5 + ((-18446744073709551616) * z12)) + 1)], [z11]] ∧ μ4 [[((z5 + ((-18446744073709551616) * z12)) + 1)], [z11]] < μ4 [[z5], [z6]])
    ) ∧ ((decide (z8 ≤ 90)) = false →
     ∀ z9 : Int, 0 ≤ z9 → z9 ≤ 1 → 0 ≤ (z5 + 9223372036854775809) - 18446744073709551616 * z9 → (z5 + 9223372036854775809) - 18446744073709551616 * z9 < 18446744073709551616 →
     chkD 39 [((z5 + ((-18446744073709551616) * z9)) + 1), 0, 9223372036854775807] ∧
     (I4 [[((z5 + ((-18446744073709551616) * z9)) + 1)], [z6]] ∧ μ4 [[((z5 + ((-18446744073709551616) * z9)) + 1)], [z6]] < μ4 [[z5], [z6]])
    ))
   ) ∧ ((decide (65 ≤ z7)) = false →
    ∀ z8 : Int, 0 ≤ z8 → z8 ≤ 1 → 0 ≤ (z5 + 9223372036854775809) - 18446744073709551616 * z8 → (z5 + 9223372036854775809) - 18446744073709551616 * z8 < 18446744073709551616 →
    chkD 39 [((z5 + ((-18446744073709551616) * z8)) + 1), 0, 9223372036854775807] ∧
    (I4 [[((z5 + ((-18446744073709551616) * z8)) + 1)], [z6]] ∧ μ4 [[((z5 + ((-18446744073709551616) * z8)) + 1)], [z6]] < μ4 [[z5], [z6]])
   ))
  ) ∧ ((decide (z5 < z2)) = false →
   chkD 35 [z6, 0, z2] ∧
   ∀ z7 : Int, 0 ≤ z7 → z7 ≤ HB → z7 = fnD 34 [z6, 0, z2] →
   K [[z0]] [[z7]]
  ))
 )
def rowsL (l : Tx) : List (List Int) := l.map fun b => [(b.toNat : Int)]
theorem rowsL_len (l : Tx) : (rowsL l).length = l.length := by simp [rowsL]
theorem rowsL_get (l : Tx) (i : Nat) (h : i < l.length) : (rowsL l).getD i [] = [((l.getD i 0).toNat : Int)] := by
  simp [rowsL, List.getD, h]
theorem rowsL_set (l : Tx) (i : Nat) (c : UInt8) : (rowsL l).set i [(c.toNat : Int)] = rowsL (l.set i c) := by
  simp [rowsL, List.map_set]
theorem rowsL_back (l : Tx) : (rowsL l).map (fun row => UInt8.ofNat (row.getD 0 0).toNat) = l := by
  unfold rowsL
  rw [List.map_map]
  conv => rhs; rw [← List.map_id l]
  exact List.map_congr_left fun b _ => by simp
def mixL (s : Tx) (i : Nat) : Tx := (s.take i).map lo ++ s.drop i
theorem mixL_len (s : Tx) (i : Nat) (h : i ≤ s.length) : (mixL s i).length = s.length := by
  simp [mixL]; omega
theorem mixL_get (s : Tx) (i : Nat) (h : i < s.length) : (mixL s i).getD i 0 = s.getD i 0 := by
  unfold mixL
  rw [drop_cons_getD s i h]
  simp only [List.getD]
  rw [List.getElem?_append_right (by simp; omega)]
  simp [show min i s.length = i by omega]
theorem mixL_succ (s : Tx) (i : Nat) (h : i < s.length) : mixL s (i + 1) = (mixL s i).set i (lo (s.getD i 0)) := by
  unfold mixL
  rw [take_succ_getD s i h, drop_cons_getD s i h, List.map_append]
  have : ((s.take i).map lo).length = i := by simp; omega
  rw [List.set_append_right _ _ (by omega), this]
  simp
theorem mixL_same (s : Tx) (i : Nat) (h : i < s.length) (hl : isG (s.getD i 0) = false) : mixL s (i + 1) = mixL s i := by
  unfold mixL
  have e : lo (s.getD i 0) = s.getD i 0 := by unfold lo; rw [hl]; rfl
  rw [take_succ_getD s i h, drop_cons_getD s i h, List.map_append, List.map_singleton, e]
  simp
theorem mixL_end (s : Tx) (i : Nat) (h : s.length ≤ i) : mixL s i = lower s := by
  unfold mixL lower
  rw [List.take_of_length_le h, List.drop_of_length_le h, List.append_nil]
theorem isG_iff {z : Int} {c : UInt8} (h : z = (c.toNat : Int)) : isG c = (decide (65 ≤ z) && decide (z ≤ 90)) := by
  rw [h]; unfold isG
  rw [Bool.eq_iff_iff]
  simp [Nat.ble_eq]
  omega
theorem lo_toNat {z : Int} {c : UInt8} (h : z = (c.toNat : Int)) (h1 : 65 ≤ z) (h2 : z ≤ 90) : z + 32 = ((lo c).toNat : Int) := by
  have := isG_iff h
  unfold lo
  rw [this, show decide (65 ≤ z) = true by simpa using h1, show decide (z ≤ 90) = true by simpa using h2]
  simp
  omega
theorem or32 {z : Int} (h1 : 65 ≤ z) (h2 : z ≤ 90) : bitI .or .u8 z 32 = z + 32 := by
  have h : ∀ i : Fin 26, bitI .or .u8 (65 + (i.val : Int)) 32 = 65 + (i.val : Int) + 32 := by decide +kernel
  have := h ⟨(z - 65).toNat, by omega⟩
  simp only at this
  rw [show (65 + ((z - 65).toNat : Int)) = z by omega] at this
  exact this
/-- Where the rows stand at a place. -/
def LowI (z0 z1 : Int) (bl : List (List Int)) : Prop := ∃ (i : Nat) (r : Int), bl = [[(i : Int)], [r]] ∧ i ≤ (sOf z0).length ∧ rOf r = rowsL (mixL (sOf z0) i)
theorem LowI.start {z0 z1 : Int} (h : z1 = fnD 27 [z0]) : LowI z0 z1 [[0], [z1]] := by
  refine ⟨0, z1, rfl, Nat.zero_le _, ?_⟩
  rw [h]; simp only [fnD, rOf_rc]
  simp [mixL, rowsL]
theorem LowI.get {z0 z2 r z7 : Int} {i : Nat} (h2 : z2 = fnD 0 [z0]) (hr : rOf r = rowsL (mixL (sOf z0) i)) (hi : i ≤ (sOf z0).length) (hp : (i : Int) < z2) : chkD 30 [(i : Int), z2] ∧ chkD 21 [r, (i : Int)] ∧ (z7 = fnD 21 [r, (i : Int), 0] → z7 = (((sOf z0).getD i 0).toNat : Int)) := by
  simp only [fnD] at h2
  refine ⟨⟨Int.natCast_nonneg _, hp⟩, ⟨Int.natCast_nonneg _, ?_⟩, fun h => ?_⟩
  · rw [hr, rowsL_len, mixL_len _ _ hi]; omega
  · rw [h]; simp only [fnD]
    rw [hr, Int.toNat_natCast, rowsL_get _ _ (by rw [mixL_len _ _ hi]; omega), mixL_get _ _ (by omega)]
    rfl
theorem LowI.set {z0 z1 z2 r z9 v : Int} {i : Nat} (h2 : z2 = fnD 0 [z0]) (hr : rOf r = rowsL (mixL (sOf z0) i)) (hi : i ≤ (sOf z0).length) (hp : (i : Int) < z2) (hv : v = ((lo ((sOf z0).getD i 0)).toNat : Int)) (h : z9 = fnD 42 [r, (i : Int), 0, v]) : LowI z0 z1 [[(i : Int) + 1], [z9]] := by
  simp only [fnD] at h2
  refine ⟨i + 1, z9, by simp, by omega, ?_⟩
  rw [h]; simp only [fnD, rOf_rc]
  have hl : i < (mixL (sOf z0) i).length := by rw [mixL_len _ _ hi]; omega
  rw [hr, Int.toNat_natCast, rowsL_get _ _ hl, mixL_succ _ _ (by omega), ← rowsL_set, hv]
  rfl
theorem LowI.same {z0 z1 z2 r : Int} {i : Nat} (h2 : z2 = fnD 0 [z0]) (hr : rOf r = rowsL (mixL (sOf z0) i)) (hi : i ≤ (sOf z0).length) (hp : (i : Int) < z2) (hg : isG ((sOf z0).getD i 0) = false) : LowI z0 z1 [[(i : Int) + 1], [r]] := by
  simp only [fnD] at h2
  refine ⟨i + 1, r, by simp, by omega, ?_⟩
  rw [mixL_same _ _ (by omega) hg, hr]
theorem LowI.done {z0 z2 r : Int} {i : Nat} (h2 : z2 = fnD 0 [z0]) (hL : z2 ≤ 9223372036854775807) (hr : rOf r = rowsL (mixL (sOf z0) i)) (hi : i ≤ (sOf z0).length) (hp : ¬ (i : Int) < z2) : chkD 35 [r, 0, z2] ∧ ∀ z7, z7 = fnD 34 [r, 0, z2] → sOf z7 = lower (sOf z0) := by
  simp only [fnD] at h2
  have hm := mixL_end (sOf z0) i (by omega)
  rw [hm] at hr
  have hlen : (lower (sOf z0)).length = (sOf z0).length := by simp [lower]
  refine ⟨⟨⟨by omega, by omega, by rw [hr, rowsL_len, hlen]; omega⟩, by omega⟩, fun z7 h => ?_⟩
  rw [h]; simp only [fnD, sOf_cOf]
  rw [hr, show ((rowsL (lower (sOf z0))).drop (0 : Int).toNat) = rowsL (lower (sOf z0)) from rfl, List.take_of_length_le (by rw [rowsL_len, hlen]; omega), rowsL_back]
def lowμ (z0 : Int) (bl : List (List Int)) : Nat := (sOf z0).length - ((bl.getD 0 []).getD 0 0).toNat
theorem lowμ_lt {z0 z2 r r' : Int} {i : Nat} (h2 : z2 = fnD 0 [z0]) (hp : (i : Int) < z2) : lowμ z0 [[(i : Int) + 1], [r]] < lowμ z0 [[(i : Int)], [r']] := by
  simp only [fnD] at h2
  show (sOf z0).length - ((i : Int) + 1).toNat < (sOf z0).length - (i : Int).toNat
  omega
theorem p_low : B_low SB (KBv SB [.str] 28) := by
  intro z0 a0 a1 z1 b0 b1 h1 z2 c0 c1 h2 z3 d0 d1
  refine ⟨LowI z0 z1, lowμ z0, LowI.start h1, ?_⟩
  rintro z5 e0 e1 z6 f0 f1 ⟨i, r, e, hi, hr⟩
  obtain ⟨rfl, rfl⟩ : z5 = i ∧ z6 = r := by simpa using e
  refine ⟨fun hp => ?_, fun hp => ?_⟩
  · have hp : (i : Int) < z2 := by simpa using hp
    have hg := fun z7 => LowI.get (z7 := z7) h2 hr hi hp
    refine ⟨(hg 0).1, (hg 0).2.1, fun z7 g0 g1 h7 => ?_⟩
    have h7 := (hg z7).2.2 h7
    have hG := isG_iff h7
    refine ⟨fun hA => ⟨fun hB z8 k0 k1 h8 => ?_, fun hB z8 k0 k1 k2 k3 => ?_⟩, fun hA z8 k0 k1 k2 k3 => ?_⟩
    · have hA' : 65 ≤ z7 := by simpa using hA
      have hB' : z7 ≤ 90 := by simpa using hB
      refine ⟨(hg 0).1, (hg 0).2.1, fun z9 l0 l1 h9 z10 m0 m1 m2 m3 => ?_⟩
      rw [wrap1 (L := z2) hp c1 e0 m0 m2]
      refine ⟨⟨by omega, by omega⟩, LowI.set h2 hr hi hp ?_ h9, lowμ_lt h2 hp⟩
      rw [h8, or32 hA' hB', lo_toNat h7 hA' hB']
    · rw [wrap1 (L := z2) hp c1 e0 k0 k2]
      refine ⟨⟨by omega, by omega⟩, LowI.same h2 hr hi hp ?_, lowμ_lt h2 hp⟩
      rw [hG, hB]; simp
    · rw [wrap1 (L := z2) hp c1 e0 k0 k2]
      refine ⟨⟨by omega, by omega⟩, LowI.same h2 hr hi hp ?_, lowμ_lt h2 hp⟩
      rw [hG, hA]; simp
  · have hp : ¬ (i : Int) < z2 := by simpa using hp
    have hd := LowI.done h2 c1 hr hi hp
    exact ⟨hd.1, fun z7 g0 g1 h7 => ⟨⟨g0, g1, trivial⟩, hd.2 z7 h7⟩⟩
theorem p_rlow : B_rlow SB (KBv SB [.str] 17) := by
  intro z0 a0 a1 z1 b0 b1 h1 z2 c0 c1 h2 z3 d0 d1
  refine ⟨LowI z0 z1, lowμ z0, LowI.start h1, ?_⟩
  rintro z5 e0 e1 z6 f0 f1 ⟨i, r, e, hi, hr⟩
  obtain ⟨rfl, rfl⟩ : z5 = i ∧ z6 = r := by simpa using e
  refine ⟨fun hp => ?_, fun hp => ?_⟩
  · have hp : (i : Int) < z2 := by simpa using hp
    have hg := fun z7 => LowI.get (z7 := z7) h2 hr hi hp
    refine ⟨(hg 0).1, (hg 0).2.1, fun z7 g0 g1 h7 => ?_⟩
    have h7 := (hg z7).2.2 h7
    have hG := isG_iff h7
    refine ⟨fun hA => ⟨(hg 0).1, (hg 0).2.1, fun z8 n0 n1 h8 => ⟨fun hB => ⟨(hg 0).1, (hg 0).2.1, fun z9 o0 o1 h9 z10 k0 k1 k2 k3 => ?_⟩, fun hB z9 k0 k1 k2 k3 => ?_⟩⟩, fun hA z8 k0 k1 k2 k3 => ?_⟩
    · have h8 := (hg z8).2.2 h8
      have h9 := (hg z9).2.2 h9
      have hA' : 65 ≤ z7 := by simpa using hA
      have hB' : z8 ≤ 90 := by simpa using hB
      refine ⟨(hg 0).1, (hg 0).2.1, fun z11 l0 l1 h11 z12 m0 m1 m2 m3 => ?_⟩
      rw [wrap1 (L := z2) hp c1 e0 m0 m2]
      refine ⟨⟨by omega, by omega⟩, LowI.set h2 hr hi hp ?_ h11, lowμ_lt h2 hp⟩
      have := lo_toNat h9 (by omega) (by omega)
      omega
    · have h8 := (hg z8).2.2 h8
      rw [wrap1 (L := z2) hp c1 e0 k0 k2]
      refine ⟨⟨by omega, by omega⟩, LowI.same h2 hr hi hp ?_, lowμ_lt h2 hp⟩
      rw [hG, h7.trans h8.symm, hB]; simp
    · rw [wrap1 (L := z2) hp c1 e0 k0 k2]
      refine ⟨⟨by omega, by omega⟩, LowI.same h2 hr hi hp ?_, lowμ_lt h2 hp⟩
      rw [hG, hA]; simp
  · have hp : ¬ (i : Int) < z2 := by simpa using hp
    have hd := LowI.done h2 c1 hr hi hp
    exact ⟨hd.1, fun z7 g0 g1 h7 => ⟨⟨g0, g1, trivial⟩, hd.2 z7 h7⟩⟩
end Go.Ad
