/- AdI2: a part of the proof of statements of this seat. -/
import Derived.Test.YtlecfjcooglpoaaDoorAdI1
set_option maxRecDepth 100000
set_option linter.unusedVariables false
set_option linter.unusedSimpArgs false
namespace Go.Ad
open Go Go.Rx
def B_user (S : Nat → List (List Int) → List (List Int) → Prop) (K : List (List Int) → List (List Int) → Prop) : Prop :=
 ∀ z0 : Int, 0 ≤ z0 → z0 ≤ HB → 
 ∀ z1 : Int, 0 ≤ z1 → z1 ≤ 9223372036854775807 → z1 = fnD 0 [z0] →
 (((decide (255 < z1)) = true →
  K [[z0]] [[(cond (false) 1 0)]]
 ) ∧ ((decide (255 < z1)) = false →
  ∀ z2 : Int, 0 ≤ z2 → z2 ≤ 9223372036854775807 → z2 = fnD 0 [z0] →
  (((decide (1 ≤ z2)) = true →
   chkD 2 [z0, 0, 1] ∧
   ∀ z3 : Int, 0 ≤ z3 → z3 ≤ HB → z3 = fnD 2 [z0, 0, 1] →
   ∀ z4 : Int, 0 ≤ z4 → z4 ≤ 1 → z4 = fnD 4 [z3, 65] →
   ((((!(decide (z4 = 1)))) = true →
    K [[z0]] [[(cond (false) 1 0)]]
   ) ∧ (((!(decide (z4 = 1)))) = false →
    ∀ z5 : Int, 0 ≤ z5 → z5 ≤ 9223372036854775807 → z5 = fnD 0 [z0] →
    chkD 2 [z0, 1, z5] ∧
    ∀ z6 : Int, 0 ≤ z6 → z6 ≤ HB → z6 = fnD 2 [z0, 1, z5] →
    ∀ z7 : Int, 0 ≤ z7 → z7 ≤ HB → ∀ z8 : Int, 0 ≤ z8 → z8 ≤ HB → ∀ z9 : Int, 0 ≤ z9 → z9 ≤ 1 → S 126 [[z6]] [[z7], [z8], [z9]] →
    (((decide (z9 = 1)) = true →
     ∀ z10 : Int, 0 ≤ z10 → z10 ≤ 1 → z10 = fnD 4 [z7, 0] →
     ((((!(decide (z10 = 1)))) = true →
      ∀ z11 : Int, 0 ≤ z11 → z11 ≤ 9223372036854775807 → z11 = fnD 0 [z7] →
      (((decide (z11 ≤ 200)) = true →
       ∀ z12 : Int, 0 ≤ z12 → z12 ≤ HB → S 202 [[z7]] [[z12]] →
       ∀ z13 : Int, 0 ≤ z13 → z13 ≤ 1 → z13 = fnD 4 [z12, 0] →
       (((decide (z13 = 1)) = true →
        ∀ z14 : Int, 0 ≤ z14 → z14 ≤ 1 → S 65 [[z7], [29623484903295033747957742255491238963424329677582429956179748554116486405127370353604394274421496743]] [[z14]] →
        (((decide (z14 = 1)) = true →
         ∀ z15 : Int, 0 ≤ z15 → z15 ≤ 1 → S 27 [[z8]] [[z15]] →
         K [[z0]] [[(cond (decide (z15 = 1)) 1 0)]]
        ) ∧ ((decide (z14 = 1)) = false →
         K [[z0]] [[(cond (false) 1 0)]]
        ))
       ) ∧ ((decide (z13 = 1)) = false →
        K [[z0]] [[(cond (false) 1 0)]]
       ))
      ) ∧ ((decide (z11 ≤ 200)) = false →
       K [[z0]] [[(cond (false) 1 0)]]
      ))
     ) ∧ (((!(decide (z10 = 1)))) = false →
      K [[z0]] [[(cond (false) 1 0)]]
     ))
    ) ∧ ((decide (z9 = 1)) = false →
     K [[z0]] [[(cond (false) 1 0)]]
    ))
   ))
  ) ∧ ((decide (1 ≤ z2)) = false →
   K [[z0]] [[(cond (false) 1 0)]]
  ))
 ))
def B_room (S : Nat → List (List Int) → List (List Int) → Prop) (K : List (List Int) → List (List Int) → Prop) : Prop :=
 ∀ z0 : Int, 0 ≤ z0 → z0 ≤ HB → 
 ∀ z1 : Int, 0 ≤ z1 → z1 ≤ 9223372036854775807 → z1 = fnD 0 [z0] →
 (((decide (255 < z1)) = true →
  K [[z0]] [[(cond (false) 1 0)]]
 ) ∧ ((decide (255 < z1)) = false →
  ∀ z2 : Int, 0 ≤ z2 → z2 ≤ 9223372036854775807 → z2 = fnD 0 [z0] →
  (((decide (1 ≤ z2)) = true →
   chkD 2 [z0, 0, 1] ∧
   ∀ z3 : Int, 0 ≤ z3 → z3 ≤ HB → z3 = fnD 2 [z0, 0, 1] →
   ∀ z4 : Int, 0 ≤ z4 → z4 ≤ 1 → z4 = fnD 4 [z3, 34] →
   ((((!(decide (z4 = 1)))) = true →
    K [[z0]] [[(cond (false) 1 0)]]
   ) ∧ (((!(decide (z4 = 1)))) = false →
    ∀ z5 : Int, 0 ≤ z5 → z5 ≤ 9223372036854775807 → z5 = fnD 0 [z0] →
    chkD 2 [z0, 1, z5] ∧
    ∀ z6 : Int, 0 ≤ z6 → z6 ≤ HB → z6 = fnD 2 [z0, 1, z5] →
    ∀ z7 : Int, 0 ≤ z7 → z7 ≤ HB → ∀ z8 : Int, 0 ≤ z8 → z8 ≤ HB → ∀ z9 : Int, 0 ≤ z9 → z9 ≤ 1 → S 126 [[z6]] [[z7], [z8], [z9]] →
    (((decide (z9 = 1)) = true →
     ∀ z10 : Int, 0 ≤ z10 → z10 ≤ 1 → z10 = fnD 4 [z7, 0] →
     ((((!(decide (z10 = 1)))) = true →
      ∀ z11 : Int, 0 ≤ z11 → z11 ≤ 9223372036854775807 → z11 = fnD 0 [z7] →
      (((decide (z11 ≤ 64)) = true →
       ∀ z12 : Int, 0 ≤ z12 → z12 ≤ HB → S 203 [[z7]] [[z12]] →
       ∀ z13 : Int, 0 ≤ z13 → z13 ≤ 1 → z13 = fnD 4 [z12, 0] →
       (((decide (z13 = 1)) = true →
        ∀ z14 : Int, 0 ≤ z14 → z14 ≤ 1 → S 65 [[z7], [59021796509086278835513442974745904212600941011016939989148970812876304133997797978309942486398772379401228430519331053062583050832400642881753195337]] [[z14]] →
        (((decide (z14 = 1)) = true →
         ∀ z15 : Int, 0 ≤ z15 → z15 ≤ 1 → S 27 [[z8]] [[z15]] →
         K [[z0]] [[(cond (decide (z15 = 1)) 1 0)]]
        ) ∧ ((decide (z14 = 1)) = false →
         K [[z0]] [[(cond (false) 1 0)]]
        ))
       ) ∧ ((decide (z13 = 1)) = false →
        K [[z0]] [[(cond (false) 1 0)]]
       ))
      ) ∧ ((decide (z11 ≤ 64)) = false →
       K [[z0]] [[(cond (false) 1 0)]]
      ))
     ) ∧ (((!(decide (z10 = 1)))) = false →
      K [[z0]] [[(cond (false) 1 0)]]
     ))
    ) ∧ ((decide (z9 = 1)) = false →
     K [[z0]] [[(cond (false) 1 0)]]
    ))
   ))
  ) ∧ ((decide (1 ≤ z2)) = false →
   K [[z0]] [[(cond (false) 1 0)]]
  ))
 ))
def B_split (S : Nat → List (List Int) → List (List Int) → Prop) (K : List (List Int) → List (List Int) → Prop) : Prop :=
 ∀ z0 : Int, 0 ≤ z0 → z0 ≤ HB → 
 ∀ z1 : Int, 0 ≤ z1 → z1 ≤ 1 → S 200 [[z0]] [[z1]] →
 ((((!(decide (z1 = 1)))) = true →
  ∀ z2 : Int, 0 ≤ z2 → z2 ≤ 1 → S 201 [[z0]] [[z2]] →
  ((((!(decide (z2 = 1)))) = true →
   K [[z0]] [[0], [0], [2]]
  ) ∧ (((!(decide (z2 = 1)))) = false →
   ∀ z3 : Int, 0 ≤ z3 → z3 ≤ 9223372036854775807 → z3 = fnD 0 [z0] →
   chkD 2 [z0, 1, z3] ∧
   ∀ z4 : Int, 0 ≤ z4 → z4 ≤ HB → z4 = fnD 2 [z0, 1, z3] →
   ∀ z5 : Int, 0 ≤ z5 → z5 ≤ HB → ∀ z6 : Int, 0 ≤ z6 → z6 ≤ HB → ∀ z7 : Int, 0 ≤ z7 → z7 ≤ 1 → S 126 [[z4]] [[z5], [z6], [z7]] →
   K [[z0]] [[z5], [z6], [0]]
  ))
 ) ∧ (((!(decide (z1 = 1)))) = false →
  ∀ z2 : Int, 0 ≤ z2 → z2 ≤ 9223372036854775807 → z2 = fnD 0 [z0] →
  chkD 2 [z0, 1, z2] ∧
  ∀ z3 : Int, 0 ≤ z3 → z3 ≤ HB → z3 = fnD 2 [z0, 1, z2] →
  ∀ z4 : Int, 0 ≤ z4 → z4 ≤ HB → ∀ z5 : Int, 0 ≤ z5 → z5 ≤ HB → ∀ z6 : Int, 0 ≤ z6 → z6 ≤ 1 → S 126 [[z3]] [[z4], [z5], [z6]] →
  K [[z0]] [[z4], [z5], [0]]
 ))
def B_rsplit (S : Nat → List (List Int) → List (List Int) → Prop) (K : List (List Int) → List (List Int) → Prop) : Prop :=
 ∀ z0 : Int, 0 ≤ z0 → z0 ≤ HB → 
 ∀ z1 : Int, 0 ≤ z1 → z1 ≤ 1 → S 207 [[z0]] [[z1]] →
 ((((!(decide (z1 = 1)))) = true →
  ∀ z2 : Int, 0 ≤ z2 → z2 ≤ 1 → S 208 [[z0]] [[z2]] →
  ((((!(decide (z2 = 1)))) = true →
   K [[z0]] [[0], [0], [2]]
  ) ∧ (((!(decide (z2 = 1)))) = false →
   ∀ z3 : Int, (-1) ≤ z3 → z3 ≤ 9223372036854775807 → S 204 [[z0]] [[z3]] →
   chkD 2 [z0, 1, z3] ∧
   ∀ z4 : Int, 0 ≤ z4 → z4 ≤ HB → z4 = fnD 2 [z0, 1, z3] →
   ∀ z5 : Int, (-1) ≤ z5 → z5 ≤ 9223372036854775807 → S 204 [[z0]] [[z5]] →
   ∀ z6 : Int, 0 ≤ z6 → z6 ≤ 1 → 0 ≤ (z5 + 9223372036854775809) - 18446744073709551616 * z6 → (z5 + 9223372036854775809) - 18446744073709551616 * z6 < 18446744073709551616 →
   ∀ z7 : Int, 0 ≤ z7 → z7 ≤ 9223372036854775807 → z7 = fnD 0 [z0] →
   chkD 2 [z0, ((z5 + ((-18446744073709551616) * z6)) + 1), z7] ∧
   ∀ z8 : Int, 0 ≤ z8 → z8 ≤ HB → z8 = fnD 2 [z0, ((z5 + ((-18446744073709551616) * z6)) + 1), z7] →
   K [[z0]] [[z4], [z8], [0]]
  ))
 ) ∧ (((!(decide (z1 = 1)))) = false →
  ∀ z2 : Int, (-1) ≤ z2 → z2 ≤ 9223372036854775807 → S 204 [[z0]] [[z2]] →
  chkD 2 [z0, 1, z2] ∧
  ∀ z3 : Int, 0 ≤ z3 → z3 ≤ HB → z3 = fnD 2 [z0, 1, z2] →
  ∀ z4 : Int, (-1) ≤ z4 → z4 ≤ 9223372036854775807 → S 204 [[z0]] [[z4]] →
  ∀ z5 : Int, 0 ≤ z5 → z5 ≤ 1 → 0 ≤ (z4 + 9223372036854775809) - 18446744073709551616 * z5 → (z4 + 9223372036854775809) - 18446744073709551616 * z5 < 18446744073709551616 →
  ∀ z6 : Int, 0 ≤ z6 → z6 ≤ 9223372036854775807 → z6 = fnD 0 [z0] →
  chkD 2 [z0, ((z4 + ((-18446744073709551616) * z5)) + 1), z6] ∧
  ∀ z7 : Int, 0 ≤ z7 → z7 ≤ HB → z7 = fnD 2 [z0, ((z4 + ((-18446744073709551616) * z5)) + 1), z6] →
  K [[z0]] [[z3], [z7], [0]]
 ))
theorem idx_cons58 {c : UInt8} {t : Tx} (h : c ≠ 58) : idx 58 (c :: t) = if idx 58 t < 0 then -1 else idx 58 t + 1 := by
  have : ¬ (c.toNat : Int) = 58 := fun e => h (by rw [← UInt8.toNat_inj]; show c.toNat = 58; omega)
  show (if (c.toNat : Int) = 58 then 0 else if idx 58 t < 0 then -1 else idx 58 t + 1) = _
  rw [if_neg this]
theorem partsF_cons {k : UInt8} (hk : k ≠ 58) {t : Tx} (hl : t.length + 1 ≤ 255) : partsF k (k :: t) = cond (decide (0 ≤ idx 58 t) && serverb (t.drop ((idx 58 t).toNat + 1))) (t.take (idx 58 t).toNat, t.drop ((idx 58 t).toNat + 1), 1) ([], [], 0) := by
  unfold partsF
  rw [idx_cons58 hk, show Nat.blt 0 (k :: t).length = true by rw [Nat.blt_eq]; simp, show Nat.ble (k :: t).length 255 = true by rw [Nat.ble_eq]; simpa using hl]
  have hr := idx_range 58 t
  have hb : ((k :: t).getD 0 0 == k) = true := by show (k == k) = true; simp
  rw [hb]
  by_cases hn : idx 58 t < 0
  · rw [if_pos hn, show decide (0 ≤ idx 58 t) = false from decide_eq_false (by omega)]
    simp
  · rw [if_neg hn, show decide (0 ≤ idx 58 t) = true from decide_eq_true (by omega), show decide (0 ≤ idx 58 t + 1) = true from decide_eq_true (by omega), show (idx 58 t + 1).toNat = (idx 58 t).toNat + 1 by omega]
    simp
theorem partsF_ne {k : UInt8} {s : Tx} (h : s.getD 0 0 ≠ k ∨ s = []) : (partsF k s).2.2 = 0 := by
  rw [partsF_no]
  rcases h with h | h
  · rw [show (s.getD 0 0 == k) = false by simpa using h]; simp
  · rw [h]; rfl
theorem partsF_long {k : UInt8} {s : Tx} (h : Nat.ble s.length 255 = false) : (partsF k s).2.2 = 0 := by
  rw [partsF_no]
  rw [h]; simp
theorem nameb_no {k : UInt8} {inn : UInt8 → Bool} {most : Nat} {s : Tx} (h : (partsF k s).2.2 = 0) : nameb k inn most s = false := by unfold nameb; rw [h]; rfl
theorem only_in (inn : UInt8 → Bool) (s : Tx) {n : Int} (hn : ∀ c, (sOf n).contains c = inn c) : (s.all fun c => (sOf n).contains c) = s.all inn := by
  congr 1; funext c; exact hn c
theorem p_name {k : UInt8} {kc cn mz : Int} {inn : UInt8 → Bool} {most tid : Nat} (hk : k ≠ 58) (hkc : sOf kc = [k]) (hcn : ∀ c, (sOf cn).contains c = inn c) (hm : mz = (most : Int)) (ht : ∀ z r, SB tid [[z]] [[r]] = (sOf r = trimS inn (sOf z))) {id : Nat} (hid : ∀ z r, SB id [[z]] [[r]] = (r = b01 (nameb k inn most (sOf z)))) :
( ∀ z0 : Int, 0 ≤ z0 → z0 ≤ HB → 
 ∀ z1 : Int, 0 ≤ z1 → z1 ≤ 9223372036854775807 → z1 = fnD 0 [z0] →
 (((decide (255 < z1)) = true →
  KBv SB [.bool] id [[z0]] [[(cond (false) 1 0)]]
 ) ∧ ((decide (255 < z1)) = false →
  ∀ z2 : Int, 0 ≤ z2 → z2 ≤ 9223372036854775807 → z2 = fnD 0 [z0] →
  (((decide (1 ≤ z2)) = true →
   chkD 2 [z0, 0, 1] ∧
   ∀ z3 : Int, 0 ≤ z3 → z3 ≤ HB → z3 = fnD 2 [z0, 0, 1] →
   ∀ z4 : Int, 0 ≤ z4 → z4 ≤ 1 → z4 = fnD 4 [z3, kc] →
   ((((!(decide (z4 = 1)))) = true →
    KBv SB [.bool] id [[z0]] [[(cond (false) 1 0)]]
   ) ∧ (((!(decide (z4 = 1)))) = false →
    ∀ z5 : Int, 0 ≤ z5 → z5 ≤ 9223372036854775807 → z5 = fnD 0 [z0] →
    chkD 2 [z0, 1, z5] ∧
    ∀ z6 : Int, 0 ≤ z6 → z6 ≤ HB → z6 = fnD 2 [z0, 1, z5] →
    ∀ z7 : Int, 0 ≤ z7 → z7 ≤ HB → ∀ z8 : Int, 0 ≤ z8 → z8 ≤ HB → ∀ z9 : Int, 0 ≤ z9 → z9 ≤ 1 → SB 126 [[z6]] [[z7], [z8], [z9]] →
    (((decide (z9 = 1)) = true →
     ∀ z10 : Int, 0 ≤ z10 → z10 ≤ 1 → z10 = fnD 4 [z7, 0] →
     ((((!(decide (z10 = 1)))) = true →
      ∀ z11 : Int, 0 ≤ z11 → z11 ≤ 9223372036854775807 → z11 = fnD 0 [z7] →
      (((decide (z11 ≤ mz)) = true →
       ∀ z12 : Int, 0 ≤ z12 → z12 ≤ HB → SB tid [[z7]] [[z12]] →
       ∀ z13 : Int, 0 ≤ z13 → z13 ≤ 1 → z13 = fnD 4 [z12, 0] →
       (((decide (z13 = 1)) = true →
        ∀ z14 : Int, 0 ≤ z14 → z14 ≤ 1 → SB 65 [[z7], [cn]] [[z14]] →
        (((decide (z14 = 1)) = true →
         ∀ z15 : Int, 0 ≤ z15 → z15 ≤ 1 → SB 27 [[z8]] [[z15]] →
         KBv SB [.bool] id [[z0]] [[(cond (decide (z15 = 1)) 1 0)]]
        ) ∧ ((decide (z14 = 1)) = false →
         KBv SB [.bool] id [[z0]] [[(cond (false) 1 0)]]
        ))
       ) ∧ ((decide (z13 = 1)) = false →
        KBv SB [.bool] id [[z0]] [[(cond (false) 1 0)]]
       ))
      ) ∧ ((decide (z11 ≤ mz)) = false →
       KBv SB [.bool] id [[z0]] [[(cond (false) 1 0)]]
      ))
     ) ∧ (((!(decide (z10 = 1)))) = false →
      KBv SB [.bool] id [[z0]] [[(cond (false) 1 0)]]
     ))
    ) ∧ ((decide (z9 = 1)) = false →
     KBv SB [.bool] id [[z0]] [[(cond (false) 1 0)]]
    ))
   ))
  ) ∧ ((decide (1 ≤ z2)) = false →
   KBv SB [.bool] id [[z0]] [[(cond (false) 1 0)]]
  ))
 ))) := by
  intro z0 a0 a1 z1 b0 b1 h1
  have kk : ∀ b : Bool, nameb k inn most (sOf z0) = b → KBv SB [.bool] id [[z0]] [[b01 b]] := fun b h => kb (by rw [hid, h])
  have h255 := len_gt (n := 255) 255 rfl h1
  refine ⟨fun hb => kk false (nameb_no (partsF_long (by rw [hb] at h255; simpa using h255.symm))), fun hb z2 c0 c1 h2 => ?_⟩
  rw [hb] at h255
  have hlen : (sOf z0).length ≤ 255 := by
    have : Nat.ble (sOf z0).length 255 = true := by simpa using h255.symm
    exact Nat.le_of_ble_eq_true this
  simp only [fnD] at h2
  refine ⟨fun hp => ⟨⟨Int.le_refl _, by decide, by have := of_decide_eq_true hp; omega⟩, fun z3 d0 d1 h3 z4 e0 e1 h4 => ?_⟩, fun hp => kk false (nameb_no (partsF_ne (.inr ?_)))⟩
  · cases hs : sOf z0 with
    | nil => rw [hs] at h2; have := of_decide_eq_true hp; simp at h2; omega
    | cons c t =>
      have e3 : sOf z3 = [c] := by rw [h3]; simp only [fnD, sOf_cOf, hs]; rfl
      rw [eq_dec h4, e3, hkc]
      refine ⟨fun hne => kk false (nameb_no (partsF_ne (.inl ?_))), fun heq z5 f0 f1 h5 => ?_⟩
      · rw [hs]; intro h
        have h : c = k := h
        rw [h] at hne; simp at hne
      · have hck : c = k := by simpa using heq
        subst hck
        have hl' : t.length + 1 ≤ 255 := by rw [hs] at hlen; simpa using hlen
        obtain ⟨s1, s2⟩ := sub_to (s := z0) (z := 1) (L := z5) (n := 1) rfl (by rw [hs]; simp) h5
        refine ⟨s1, fun z6 g0 g1 h6 z7 i0 i1 z8 j0 j1 z9 k0 k1 hC => ?_⟩
        have e6 : sOf z6 = t := by rw [s2 z6 h6, hs]; rfl
        have hC : (sOf z7, sOf z8, z9) = cutF 58 (sOf z6) := hC
        rw [e6] at hC
        have hP := partsF_cons hk hl'
        unfold cutF at hC
        cases hi : decide (0 ≤ idx 58 t) with
        | false =>
          rw [hi] at hC hP
          simp only [cond_false, Prod.mk.injEq] at hC
          obtain ⟨_, _, rfl⟩ := hC
          exact ⟨fun h => by simp at h, fun _ => kk false (nameb_no (by rw [hs, hP]; rfl))⟩
        | true =>
          rw [hi] at hC hP
          simp only [cond_true, Prod.mk.injEq] at hC
          obtain ⟨e7, e8, rfl⟩ := hC
          rw [Bool.true_and] at hP
          have hv : nameb c inn most (sOf z0) = (serverb (sOf z8) && Nat.blt 0 (sOf z7).length && Nat.ble (sOf z7).length most && (sOf z7).all inn) := by
            unfold nameb
            rw [hs, hP, ← e7, ← e8]
            cases serverb (sOf z8) <;> rfl
          refine ⟨fun _ z10 l0 l1 h10 => ?_, fun h => by simp at h⟩
          have hn := nn_dec h10
          refine ⟨fun hq z11 m0 m1 h11 => ?_, fun hq => kk false (by rw [hq] at hn; rw [hv, ← hn]; simp)⟩
          rw [hq] at hn
          rw [len_dec most hm h11]
          refine ⟨fun hr z12 n0 n1 h12 z13 o0 o1 h13 => ?_, fun hr => kk false (by rw [hv, hr]; simp)⟩
          rw [ht] at h12
          rw [eq_nil h13, h12]
          refine ⟨fun hs z14 p0 p1 h14 => ?_, fun hs => kk false ?_⟩
          · have h14 : z14 = b01 ((sOf z7).all fun c => (sOf cn).contains c) := h14
            rw [only_in inn _ hcn] at h14
            rw [b01_dec h14]
            refine ⟨fun ha z15 q0 q1 h15 => ?_, fun ha => kk false (by rw [hv, ha]; simp)⟩
            have h15 : z15 = b01 (serverb (sOf z8)) := h15
            rw [b01_dec h15]
            refine kk _ ?_
            rw [hv, ← hn, hr, ha]; simp
          · rw [hv]
            cases ha : (sOf z7).all inn with
            | false => simp
            | true => rw [trimS_all ha] at hs; simp at hs
  · have hp : ¬ 1 ≤ z2 := of_decide_eq_false hp
    exact List.length_eq_zero_iff.1 (by omega)
theorem p_user : B_user SB (KBv SB [.bool] 200) := p_name (k := 64) (inn := inUser) (most := 200) (tid := 202) (by decide) (by decide) (allB256 (by decide +kernel)) rfl (fun _ _ => rfl) (fun _ _ => rfl)
theorem p_room : B_room SB (KBv SB [.bool] 201) := p_name (k := 33) (inn := inRoom) (most := 64) (tid := 203) (by decide) (by decide) (allB256 (by decide +kernel)) rfl (fun _ _ => rfl) (fun _ _ => rfl)
theorem nameb_head {k : UInt8} {inn : UInt8 → Bool} {most : Nat} {s : Tx} (h : nameb k inn most s = true) : ∃ t, s = k :: t ∧ t.length + 1 ≤ 255 ∧ 0 ≤ idx 58 t := by
  unfold nameb at h
  simp only [Bool.and_eq_true, decide_eq_true_eq] at h
  have h1 := h.1.1.1
  unfold partsF at h1
  cases hc : (Nat.blt 0 s.length && Nat.ble s.length 255 && s.getD 0 0 == k && decide (0 ≤ idx 58 s) && serverb (s.drop ((idx 58 s).toNat + 1))) with
  | false => rw [hc] at h1; simp at h1
  | true =>
    simp only [Bool.and_eq_true, decide_eq_true_eq, beq_iff_eq, Nat.blt_eq] at hc
    obtain ⟨⟨⟨⟨q1, q2⟩, q3⟩, q4⟩, _⟩ := hc
    have q2 := Nat.le_of_ble_eq_true q2
    cases s with
    | nil => simp at q1
    | cons c t =>
      have q3 : c = k := q3
      subst q3
      refine ⟨t, rfl, by simpa using q2, ?_⟩
      rcases Int.lt_or_le (idx 58 t) 0 with hn | hn
      · exfalso
        have hp : 58 = c ∨ c ≠ 58 := by by_cases e : c = 58; exact .inl e.symm; exact .inr e
        rcases hp with e | e
        · subst e
          have h2 := h.1.1.2
          unfold partsF at h2
          have : idx 58 (58 :: t) = 0 := rfl
          rw [this] at h2
          cases hcc : (Nat.blt 0 (58 :: t).length && Nat.ble (58 :: t).length 255 && (58 :: t).getD 0 0 == 58 && decide ((0 : Int) ≤ 0) && serverb ((58 :: t).drop ((0 : Int).toNat + 1))) with
          | false => rw [hcc] at h2; simp at h2
          | true => rw [hcc] at h2; simp at h2
        · rw [idx_cons58 e, if_pos hn] at q4
          omega
      · exact hn
theorem splitF_yes {s : Tx} (h : (userb s || roomb s) = true) : splitF s = ((s.take (idx 58 s).toNat).drop 1, s.drop ((idx 58 s).toNat + 1), 0) := by unfold splitF; rw [h]; rfl
theorem split_head {s : Tx} (h : (userb s || roomb s) = true) : ∃ c t, s = c :: t ∧ c ≠ 58 ∧ 0 ≤ idx 58 t := by
  rw [Bool.or_eq_true] at h
  rcases h with h | h
  · obtain ⟨t, h1, _, h2⟩ := nameb_head (k := 64) (inn := inUser) (most := 200) h
    exact ⟨64, t, h1, by decide, h2⟩
  · obtain ⟨t, h1, _, h2⟩ := nameb_head (k := 33) (inn := inRoom) (most := 64) h
    exact ⟨33, t, h1, by decide, h2⟩
theorem kse2 {id : Nat} {zs : List (List Int)} {a b e : Int} (a0 : 0 ≤ a) (a1 : a ≤ HB) (b0 : 0 ≤ b) (b1 : b ≤ HB) (e0 : 0 ≤ e) (e1 : e ≤ 21) (h : SB id zs [[a], [b], [e]]) : KBv SB [.str, .str, .int .i64 0 21] id zs [[a], [b], [e]] := ⟨⟨a0, a1, b0, b1, e0, e1, trivial⟩, h⟩
theorem split_end {z0 : Int} (h : (userb (sOf z0) || roomb (sOf z0)) = true) : ∀ z2 : Int, 0 ≤ z2 → z2 ≤ 9223372036854775807 → z2 = fnD 0 [z0] →
  chkD 2 [z0, 1, z2] ∧
  ∀ z3 : Int, 0 ≤ z3 → z3 ≤ HB → z3 = fnD 2 [z0, 1, z2] →
  ∀ z4 : Int, 0 ≤ z4 → z4 ≤ HB → ∀ z5 : Int, 0 ≤ z5 → z5 ≤ HB → ∀ z6 : Int, 0 ≤ z6 → z6 ≤ 1 → SB 126 [[z3]] [[z4], [z5], [z6]] →
  KBv SB [.str, .str, .int .i64 0 21] 209 [[z0]] [[z4], [z5], [0]] := by
  intro z2 a0 a1 h2
  obtain ⟨c, t, hs, hc, ht⟩ := split_head h
  obtain ⟨s1, s2⟩ := sub_to (s := z0) (z := 1) (L := z2) (n := 1) rfl (by rw [hs]; simp) h2
  refine ⟨s1, fun z3 b0 b1 h3 z4 c0 c1 z5 d0 d1 z6 e0 e1 h6 => kse2 c0 c1 d0 d1 (by decide) (by decide) ?_⟩
  have e3 : sOf z3 = t := by rw [s2 z3 h3, hs]; rfl
  have h6 : (sOf z4, sOf z5, z6) = cutF 58 (sOf z3) := h6
  rw [e3] at h6
  unfold cutF at h6
  rw [show decide (0 ≤ idx 58 t) = true from decide_eq_true ht, cond_true, Prod.mk.injEq, Prod.mk.injEq] at h6
  show (sOf z4, sOf z5, (0 : Int)) = splitF (sOf z0)
  rw [splitF_yes h, hs, idx_cons58 hc, if_neg (by omega), show (idx 58 t + 1).toNat = (idx 58 t).toNat + 1 by omega, h6.1, h6.2.1]
  rfl
theorem p_split : B_split SB (KBv SB [.str, .str, .int .i64 0 21] 209) := by
  intro z0 a0 a1 z1 b0 b1 h1
  have h1 : z1 = b01 (userb (sOf z0)) := h1
  rw [b01_dec h1]
  refine ⟨fun hu z2 c0 c1 h2 => ?_, fun hu => split_end (by rw [show userb (sOf z0) = true by simpa using hu]; rfl)⟩
  have hu : userb (sOf z0) = false := by simpa using hu
  have h2 : z2 = b01 (roomb (sOf z0)) := h2
  rw [b01_dec h2]
  refine ⟨fun hr => kse2 (Int.le_refl _) HB_pos (Int.le_refl _) HB_pos (by decide) (by decide) ?_, fun hr => split_end (by rw [hu, show roomb (sOf z0) = true by simpa using hr]; rfl)⟩
  show (sOf 0, sOf 0, (2 : Int)) = splitF (sOf z0)
  unfold splitF; rw [hu, show roomb (sOf z0) = false by simpa using hr]; rfl
theorem rsplit_end {z0 : Int} (a1 : z0 ≤ HB) (h : (userb (sOf z0) || roomb (sOf z0)) = true) : ∀ z2 : Int, (-1) ≤ z2 → z2 ≤ 9223372036854775807 → SB 204 [[z0]] [[z2]] →
  chkD 2 [z0, 1, z2] ∧
  ∀ z3 : Int, 0 ≤ z3 → z3 ≤ HB → z3 = fnD 2 [z0, 1, z2] →
  ∀ z4 : Int, (-1) ≤ z4 → z4 ≤ 9223372036854775807 → SB 204 [[z0]] [[z4]] →
  ∀ z5 : Int, 0 ≤ z5 → z5 ≤ 1 → 0 ≤ (z4 + 9223372036854775809) - 18446744073709551616 * z5 → (z4 + 9223372036854775809) - 18446744073709551616 * z5 < 18446744073709551616 →
  ∀ z6 : Int, 0 ≤ z6 → z6 ≤ 9223372036854775807 → z6 = fnD 0 [z0] →
  chkD 2 [z0, ((z4 + ((-18446744073709551616) * z5)) + 1), z6] ∧
  ∀ z7 : Int, 0 ≤ z7 → z7 ≤ HB → z7 = fnD 2 [z0, ((z4 + ((-18446744073709551616) * z5)) + 1), z6] →
  KBv SB [.str, .str, .int .i64 0 21] 210 [[z0]] [[z3], [z7], [0]] := by
  intro z2 b0 b1 h2
  have hL := len_lt a1
  have h2 : z2 = idx 58 (sOf z0) := h2
  obtain ⟨c, t, hs, hc, ht⟩ := split_head h
  have hi : idx 58 (sOf z0) = idx 58 t + 1 := by rw [hs, idx_cons58 hc, if_neg (by omega)]
  have hr := idx_range 58 (sOf z0)
  refine ⟨⟨by decide, by omega, by omega⟩, fun z3 c0 c1 h3 z4 d0 d1 h4 z5 e0 e1 e2 e3 z6 f0 f1 h6 => ?_⟩
  have h4 : z4 = idx 58 (sOf z0) := h4
  rw [show z4 + -18446744073709551616 * z5 + 1 = ((z4.toNat + 1 : Nat) : Int) by omega]
  obtain ⟨s1, s2⟩ := sub_to (s := z0) (z := ((z4.toNat + 1 : Nat) : Int)) (L := z6) (n := z4.toNat + 1) rfl (by omega) h6
  refine ⟨s1, fun z7 g0 g1 h7 => kse2 c0 c1 g0 g1 (by decide) (by decide) ?_⟩
  show (sOf z3, sOf z7, (0 : Int)) = splitF (sOf z0)
  rw [splitF_yes h, s2 z7 h7, ← h4]
  have e3 : sOf z3 = ((sOf z0).take z4.toNat).drop 1 := by
    rw [h3]; simp only [fnD, sOf_cOf]
    rw [List.drop_take, h2, ← h4]; rfl
  rw [e3]
theorem p_rsplit : B_rsplit SB (KBv SB [.str, .str, .int .i64 0 21] 210) := by
  intro z0 a0 a1 z1 b0 b1 h1
  have h1 : z1 = b01 (userb (sOf z0)) := h1
  rw [b01_dec h1]
  refine ⟨fun hu z2 c0 c1 h2 => ?_, fun hu => rsplit_end a1 (by rw [show userb (sOf z0) = true by simpa using hu]; rfl)⟩
  have hu : userb (sOf z0) = false := by simpa using hu
  have h2 : z2 = b01 (roomb (sOf z0)) := h2
  rw [b01_dec h2]
  refine ⟨fun hr => kse2 (Int.le_refl _) HB_pos (Int.le_refl _) HB_pos (by decide) (by decide) ?_, fun hr => rsplit_end a1 (by rw [hu, show roomb (sOf z0) = true by simpa using hr]; rfl)⟩
  show (sOf 0, sOf 0, (2 : Int)) = splitF (sOf z0)
  unfold splitF; rw [hu, show roomb (sOf z0) = false by simpa using hr]; rfl
end Go.Ad
