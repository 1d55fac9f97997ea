/- AdV2: a part of the proof of statements of this seat. -/
import Derived.Test.YtpffjcablmkiiaaGreatDoorPag
set_option maxRecDepth 100000
set_option linter.unusedVariables false
set_option linter.unusedSimpArgs false
namespace Go.Ad
open Go Go.Rx
def B_host (S : Nat → List (List Int) → List (List Int) → Prop) (K : List (List Int) → List (List Int) → Prop) : Prop :=
 ∀ z0 : Int, 0 ≤ z0 → z0 ≤ HB → 
 ∀ z1 : Int, 0 ≤ z1 → z1 ≤ 1 → z1 = fnD 4 [z0, 0] →
 ((((!(decide (z1 = 1)))) = true →
  ∀ z2 : Int, 0 ≤ z2 → z2 ≤ 9223372036854775807 → z2 = fnD 0 [z0] →
  (((decide (z2 ≤ 230)) = true →
   ∀ z3 : Int, 0 ≤ z3 → z3 ≤ HB → S 123 [[z0]] [[z3]] →
   ∀ z4 : Int, 0 ≤ z4 → z4 ≤ 1 → z4 = fnD 4 [z3, 0] →
   (((decide (z4 = 1)) = true →
    ∀ z5 : Int, 0 ≤ z5 → z5 ≤ 1 → S 65 [[z0], [3092260449727753699381237987134896180985020549865866695797500355328521677512090486983914513878993150076419119825652852662229468458769751959831595687466918]] [[z5]] →
    (((decide (z5 = 1)) = true →
     ∀ z6 : Int, 0 ≤ z6 → z6 ≤ HB → S 122 [[z0]] [[z6]] →
     ∀ z7 : Int, 0 ≤ z7 → z7 ≤ 1 → z7 = fnD 4 [z6, z0] →
     (((decide (z7 = 1)) = true →
      chkD 41 [z0] ∧
      ∀ z8 : Int, 0 ≤ z8 → z8 ≤ 1 → S 128 [[z0]] [[z8]] →
      K [[z0]] [[(cond ((!(decide (z8 = 1)))) 1 0)]]
     ) ∧ ((decide (z7 = 1)) = false →
      K [[z0]] [[(cond (false) 1 0)]]
     ))
    ) ∧ ((decide (z5 = 1)) = false →
     K [[z0]] [[(cond (false) 1 0)]]
    ))
   ) ∧ ((decide (z4 = 1)) = false →
    K [[z0]] [[(cond (false) 1 0)]]
   ))
  ) ∧ ((decide (z2 ≤ 230)) = false →
   K [[z0]] [[(cond (false) 1 0)]]
  ))
 ) ∧ (((!(decide (z1 = 1)))) = false →
  K [[z0]] [[(cond (false) 1 0)]]
 ))
def B_local (S : Nat → List (List Int) → List (List Int) → Prop) (K : List (List Int) → List (List Int) → Prop) : Prop :=
 ∀ z0 : Int, 0 ≤ z0 → z0 ≤ HB → 
 ∀ z1 : Int, 0 ≤ z1 → z1 ≤ 1 → z1 = fnD 4 [z0, 0] →
 (((decide (z1 = 1)) = true →
  K [[z0]] [[(cond (false) 1 0)]]
 ) ∧ ((decide (z1 = 1)) = false →
  ∀ z2 : Int, 0 ≤ z2 → z2 ≤ 9223372036854775807 → z2 = fnD 0 [z0] →
  (((decide (64 < z2)) = true →
   K [[z0]] [[(cond (false) 1 0)]]
  ) ∧ ((decide (64 < z2)) = false →
   ∀ z3 : Int, 0 ≤ z3 → z3 ≤ 1 → S 44 [[z0], [74473080028620518966381883429228484808440201678127597570840141201138927665149786990616077870556514776478160775702785383470653111892427074463158448094822482491594731032954821022169486867841687777697]] [[z3]] →
   ((((!(decide (z3 = 1)))) = true →
    K [[z0]] [[(cond (false) 1 0)]]
   ) ∧ (((!(decide (z3 = 1)))) = false →
    ∀ z4 : Int, 0 ≤ z4 → z4 ≤ HB → S 121 [[z0]] [[z4]] →
    ∀ z5 : Int, 0 ≤ z5 → z5 ≤ 1 → z5 = fnD 4 [z4, z0] →
    (((decide (z5 = 1)) = true →
     chkD 41 [z0] ∧
     ∀ z6 : Int, 0 ≤ z6 → z6 ≤ 1 → S 128 [[z0]] [[z6]] →
     K [[z0]] [[(cond ((!(decide (z6 = 1)))) 1 0)]]
    ) ∧ ((decide (z5 = 1)) = false →
     K [[z0]] [[(cond (false) 1 0)]]
    ))
   ))
  ))
 ))
theorem ltr_len (p : UInt8 → Bool) (l : Tx) : (ltr p l).length ≤ l.length := (List.dropWhile_sublist p).length_le
theorem rtr_len (p : UInt8 → Bool) (l : Tx) : (rtr p l).length ≤ l.length := by
  unfold rtr; rw [List.length_reverse]
  have := ltr_len p l.reverse
  rwa [List.length_reverse] at this
theorem ltr_full {p : UInt8 → Bool} {l : Tx} (h : l.length ≤ (ltr p l).length) : ltr p l = l := (List.dropWhile_suffix p).eq_of_length (Nat.le_antisymm (ltr_len p l) h)
theorem rtr_full {p : UInt8 → Bool} {l : Tx} (h : l.length ≤ (rtr p l).length) : rtr p l = l := by
  have : ltr p l.reverse = l.reverse := ltr_full (by unfold rtr at h; rw [List.length_reverse] at h; rw [List.length_reverse]; exact h)
  unfold rtr; unfold ltr at this; rw [this, List.reverse_reverse]
theorem getD_last (r : Tx) (x : UInt8) : (r ++ [x]).getD r.length 0 = x := by simp [List.getD]
theorem trimS_eq (p : UInt8 → Bool) (s : Tx) : trimS p s = s ↔ ∀ i, i < s.length → p (s.getD i 0) = true → 0 < i ∧ i + 1 < s.length := by
  by_cases hs : s = []
  · subst hs; exact ⟨fun _ i h => by simp at h, fun _ => rfl⟩
  · constructor
    · intro h i hi hp
      have hl : s.length ≤ (trimS p s).length := by rw [h]; exact Nat.le_refl _
      have h1 := ltr_len p (rtr p s)
      have hr : rtr p s = s := rtr_full (Nat.le_trans hl h1)
      have ht : ltr p s = s := by unfold trimS at h; rwa [hr] at h
      refine ⟨Nat.pos_of_ne_zero fun h0 => ?_, Nat.lt_of_le_of_ne hi fun h0 => ?_⟩
      · subst h0
        cases s with
        | nil => exact hs rfl
        | cons x r =>
          have hp : p x = true := hp
          have h2 : ltr p (x :: r) = ltr p r := by simp [ltr, List.dropWhile_cons, hp]
          have := ltr_len p r
          rw [h2] at ht
          rw [ht] at this
          simp at this
          omega
      · obtain ⟨r, x, rfl⟩ := snoc_of hs
        have : i = r.length := by simp at h0; omega
        subst this
        rw [getD_last] at hp
        rw [rtr_snoc, hp, cond_true] at hr
        have := rtr_len p r
        rw [hr] at this
        simp at this
        omega
    · intro h
      have hr : rtr p s = s := by
        obtain ⟨r, x, rfl⟩ := snoc_of hs
        rw [rtr_snoc]
        cases hx : p x with
        | false => rfl
        | true => have := (h r.length (by simp) (by rw [getD_last]; exact hx)).2; simp at this
      unfold trimS; rw [hr]
      cases s with
      | nil => rfl
      | cons x r =>
        cases hx : p x with
        | false => simp [ltr, List.dropWhile_cons, hx]
        | true => have := (h 0 (by simp) hx).1; omega
theorem all_iff (p : UInt8 → Bool) (s : Tx) : s.all p = true ↔ ∀ i, i < s.length → p (s.getD i 0) = true := by
  rw [List.all_eq_true]
  constructor
  · intro h i hi
    refine h _ ?_
    simp [List.getD, hi]
  · intro h x hx
    obtain ⟨i, hi, rfl⟩ := List.getElem_of_mem hx
    have := h i hi
    simpa [List.getD, hi] using this
theorem dd_iff (s : Tx) : dd s = false ↔ ∀ i, i < s.length → ¬ (s.getD i 0 = 46 ∧ s.getD (i + 1) 0 = 46) := by
  unfold dd
  rw [List.any_eq_false]
  constructor
  · intro h i hi hh
    exact h i (List.mem_range.2 hi) (by rw [hh.1, hh.2]; rfl)
  · intro h i hi hh
    rw [Bool.and_eq_true, beq_iff_eq, beq_iff_eq] at hh
    exact h i (List.mem_range.1 hi) hh
theorem okP_iff (inn edge : UInt8 → Bool) (s : Tx) : okP inn edge s = true ↔ ∀ i, i < s.length → inn (s.getD i 0) = true ∧ (edge (s.getD i 0) = true → 0 < i ∧ i + 1 < s.length) ∧ ¬ (s.getD i 0 = 46 ∧ 0 < i ∧ s.getD (i - 1) 0 = 46) := by
  unfold okP
  rw [List.all_eq_true]
  constructor
  · intro h i hi
    have := h i (List.mem_range.2 hi)
    simp only [Bool.and_eq_true, Bool.or_eq_true, Bool.not_eq_true', Nat.blt_eq, Bool.and_eq_false_iff, beq_eq_false_iff_ne] at this
    refine ⟨this.1.1, fun he => ?_, fun hh => ?_⟩
    · rcases this.1.2 with h1 | h1
      · rw [h1] at he; cases he
      · exact h1
    · have h3 : Nat.blt 0 i = true := by rw [Nat.blt_eq]; exact hh.2.1
      rcases this.2 with (h1 | h1) | h1
      · exact h1 hh.1
      · rw [h3] at h1; cases h1
      · exact h1 hh.2.2
  · intro h i hi
    obtain ⟨h1, h2, h3⟩ := h i (List.mem_range.1 hi)
    simp only [Bool.and_eq_true, Bool.or_eq_true, Bool.not_eq_true', Nat.blt_eq, Bool.and_eq_false_iff, beq_eq_false_iff_ne]
    refine ⟨⟨h1, ?_⟩, ?_⟩
    · cases he : edge (s.getD i 0) with
      | false => exact .inl rfl
      | true => exact .inr (h2 he)
    · by_cases e1 : s.getD i 0 = 46
      · by_cases e2 : s.getD (i - 1) 0 = 46
        · left; right
          cases hb : Nat.blt 0 i with
          | false => rfl
          | true => rw [Nat.blt_eq] at hb; exact absurd ⟨e1, hb, e2⟩ h3
        · exact .inr e2
      · exact .inl (.inl e1)
theorem okP_eq (inn edge : UInt8 → Bool) (s : Tx) : okP inn edge s = (s.all inn && decide (trimS edge s = s) && !dd s) := by
  rw [Bool.eq_iff_iff, okP_iff, Bool.and_eq_true, Bool.and_eq_true, all_iff, decide_eq_true_eq, trimS_eq, Bool.not_eq_true', dd_iff]
  constructor
  · intro h
    refine ⟨⟨fun i hi => (h i hi).1, fun i hi => (h i hi).2.1⟩, fun i hi hh => ?_⟩
    by_cases hj : i + 1 < s.length
    · exact (h (i + 1) hj).2.2 ⟨hh.2, by omega, by simpa using hh.1⟩
    · have : s.getD (i + 1) 0 = 0 := by simp [List.getD, show s.length ≤ i + 1 by omega]
      rw [this] at hh; exact absurd hh.2 (by decide)
  · rintro ⟨⟨h1, h2⟩, h3⟩ i hi
    refine ⟨h1 i hi, h2 i hi, fun hh => ?_⟩
    exact h3 (i - 1) (by omega) ⟨hh.2.2, by rw [show i - 1 + 1 = i by omega]; exact hh.1⟩
theorem dropWhile_all {p : UInt8 → Bool} : ∀ {l : Tx}, l.all p = true → l.dropWhile p = []
  | [], _ => rfl
  | x :: r, h => by
    simp only [List.all_cons, Bool.and_eq_true] at h
    rw [List.dropWhile_cons, if_pos h.1]
    exact dropWhile_all h.2
theorem trimS_all {p : UInt8 → Bool} {s : Tx} (h : s.all p = true) : trimS p s = [] := by
  have : rtr p s = [] := by
    unfold rtr
    have : s.reverse.all p = true := by rw [List.all_reverse]; exact h
    rw [dropWhile_all this]; rfl
  unfold trimS; rw [this]; rfl
theorem eq_dec {z a b : Int} (h : z = fnD 4 [a, b]) : decide (z = 1) = decide (sOf a = sOf b) := by
  rw [h]; simp only [fnD]
  by_cases e : sOf a = sOf b <;> simp [e]
theorem nn_dec {z a : Int} (h : z = fnD 4 [a, 0]) : (!decide (z = 1)) = Nat.blt 0 (sOf a).length := by
  rw [eq_nil h]
  cases sOf a with
  | nil => rfl
  | cons x r => simp
theorem len_dec {z a n : Int} (m : Nat) (hm : n = (m : Int)) (h : z = fnD 0 [a]) : decide (z ≤ n) = Nat.ble (sOf a).length m := by
  rw [h, hm]; simp only [fnD]
  rw [Bool.eq_iff_iff, decide_eq_true_eq, Nat.ble_eq]; omega
theorem len_gt {z a n : Int} (m : Nat) (hm : n = (m : Int)) (h : z = fnD 0 [a]) : decide (n < z) = !Nat.ble (sOf a).length m := by
  rw [h, hm]; simp only [fnD]
  rw [Bool.eq_iff_iff, decide_eq_true_eq, Bool.not_eq_true', ← Bool.not_eq_true, Nat.ble_eq]; omega
theorem b01_dec {z : Int} {b : Bool} (h : z = b01 b) : decide (z = 1) = b := by rw [h, b01_one]
theorem kb {id : Nat} {zs : List (List Int)} {b : Bool} (h : SB id zs [[b01 b]]) : KBv SB [.bool] id zs [[b01 b]] := ⟨⟨(b01_bd b).1, (b01_bd b).2, trivial⟩, h⟩
theorem only_host (s : Tx) {n : Int} (hn : ∀ c, (sOf n).contains c = inHost c) : (s.all fun c => (sOf n).contains c) = s.all inHost := by
  congr 1; funext c; exact hn c
theorem p_host : B_host SB (KBv SB [.bool] 47) := by
  intro z0 a0 a1 z1 b0 b1 h1
  have kk : ∀ b : Bool, hostb (sOf z0) = b → KBv SB [.bool] 47 [[z0]] [[b01 b]] := fun b h => kb (by show b01 b = b01 (hostb (sOf z0)); rw [h])
  refine ⟨fun hp z2 c0 c1 h2 => ⟨fun hq z3 d0 d1 h3 z4 e0 e1 h4 => ⟨fun hr z5 f0 f1 h5 => ?_, fun hr => kk false ?_⟩, fun hq => kk false ?_⟩, fun hp => kk false ?_⟩
  · rw [nn_dec h1] at hp
    rw [len_dec (n := 230) 230 rfl h2] at hq
    have h5 : z5 = b01 ((sOf z0).all fun c => (sOf _).contains c) := h5
    rw [only_host (sOf z0) (allB256 (by decide +kernel))] at h5
    rw [b01_dec h5]
    refine ⟨fun hs z6 g0 g1 h6 z7 i0 i1 h7 => ?_, fun hs => kk false ?_⟩
    · have h6 : sOf z6 = trimS edgeH (sOf z0) := h6
      rw [eq_dec h7, h6]
      refine ⟨fun ht => ⟨?_, fun z8 j0 j1 h8 => ?_⟩, fun ht => kk false ?_⟩
      · show (sOf z0).length ≤ 4294967280
        rw [Nat.ble_eq] at hq; omega
      · have h8 : z8 = b01 (dd (sOf z0)) := h8
        rw [b01_dec h8]
        refine kk _ ?_
        unfold hostb; rw [hp, hq, okP_eq, hs, ht]; rfl
      · unfold hostb; rw [okP_eq, ht]; simp
    · unfold hostb; rw [okP_eq, hs]; simp
  · have h3 : sOf z3 = trimS inHost (sOf z0) := h3
    rw [eq_nil h4, h3] at hr
    unfold hostb; rw [okP_eq]
    cases ha : (sOf z0).all inHost with
    | false => simp
    | true => rw [trimS_all ha] at hr; simp at hr
  · rw [len_dec (n := 230) 230 rfl h2] at hq
    unfold hostb; rw [hq]; simp
  · rw [nn_dec h1] at hp
    unfold hostb; rw [hp]; rfl
theorem p_local : B_local SB (KBv SB [.bool] 24) := by
  intro z0 a0 a1 z1 b0 b1 h1
  have kk : ∀ b : Bool, localb (sOf z0) = b → KBv SB [.bool] 24 [[z0]] [[b01 b]] := fun b h => kb (by show b01 b = b01 (localb (sOf z0)); rw [h])
  have hn := nn_dec h1
  refine ⟨fun hp => kk false ?_, fun hp z2 c0 c1 h2 => ⟨fun hq => kk false ?_, fun hq z3 d0 d1 h3 => ?_⟩⟩
  · rw [hp] at hn; unfold localb; rw [← hn]; rfl
  · rw [len_gt (n := 64) 64 rfl h2, Bool.not_eq_true'] at hq
    unfold localb; rw [hq]; simp
  · rw [len_gt (n := 64) 64 rfl h2, Bool.not_eq_false'] at hq
    rw [hp] at hn
    have h3 : z3 = b01 ((sOf z0).all fun c => (sOf _).contains c) := h3
    have e : ((sOf z0).all fun c => (sOf 74473080028620518966381883429228484808440201678127597570840141201138927665149786990616077870556514776478160775702785383470653111892427074463158448094822482491594731032954821022169486867841687777697).contains c) = (sOf z0).all inLocal := congrArg (List.all (sOf z0)) (funext (allB256 (p := inLocal) (by decide +kernel)))
    rw [e] at h3
    rw [b01_dec h3]
    refine ⟨fun hs => kk false ?_, fun hs z4 e0 e1 h4 z5 f0 f1 h5 => ?_⟩
    · have hs : (sOf z0).all inLocal = false := by simpa using hs
      unfold localb; rw [okP_eq, hs]; simp
    · have hs : (sOf z0).all inLocal = true := by simpa using hs
      have h4 : sOf z4 = trimS (· == 46) (sOf z0) := h4
      rw [eq_dec h5, h4]
      refine ⟨fun ht => ⟨?_, fun z8 j0 j1 h8 => ?_⟩, fun ht => kk false ?_⟩
      · show (sOf z0).length ≤ 4294967280
        rw [Nat.ble_eq] at hq; omega
      · have h8 : z8 = b01 (dd (sOf z0)) := h8
        rw [b01_dec h8]
        refine kk _ ?_
        unfold localb; rw [← hn, hq, okP_eq, hs, ht]; rfl
      · unfold localb; rw [okP_eq, ht]; simp

def B_server (S : Nat → List (List Int) → List (List Int) → Prop) (K : List (List Int) → List (List Int) → Prop) : Prop :=
 ∀ z0 : Int, 0 ≤ z0 → z0 ≤ HB → 
 ∀ z1 : Int, 0 ≤ z1 → z1 ≤ HB → ∀ z2 : Int, 0 ≤ z2 → z2 ≤ HB → ∀ z3 : Int, 0 ≤ z3 → z3 ≤ 1 → S 126 [[z0]] [[z1], [z2], [z3]] →
 ∀ z4 : Int, 0 ≤ z4 → z4 ≤ 1 → S 47 [[z1]] [[z4]] →
 (((decide (z4 = 1)) = true →
  ((((!(decide (z3 = 1)))) = true →
   K [[z0]] [[(cond (true) 1 0)]]
  ) ∧ (((!(decide (z3 = 1)))) = false →
   ∀ z5 : Int, 0 ≤ z5 → z5 ≤ 1 → z5 = fnD 4 [z2, 0] →
   ((((!(decide (z5 = 1)))) = true →
    ∀ z6 : Int, 0 ≤ z6 → z6 ≤ 9223372036854775807 → z6 = fnD 0 [z2] →
    (((decide (z6 ≤ 5)) = true →
     ∀ z7 : Int, 0 ≤ z7 → z7 ≤ HB → S 124 [[z2]] [[z7]] →
     ∀ z8 : Int, 0 ≤ z8 → z8 ≤ 1 → z8 = fnD 4 [z7, 0] →
     (((decide (z8 = 1)) = true →
      ∀ z9 : Int, 0 ≤ z9 → z9 ≤ 1 → S 65 [[z2], [284767230291263911083031]] [[z9]] →
      K [[z0]] [[(cond (decide (z9 = 1)) 1 0)]]
     ) ∧ ((decide (z8 = 1)) = false →
      K [[z0]] [[(cond (false) 1 0)]]
     ))
    ) ∧ ((decide (z6 ≤ 5)) = false →
     K [[z0]] [[(cond (false) 1 0)]]
    ))
   ) ∧ (((!(decide (z5 = 1)))) = false →
    K [[z0]] [[(cond (false) 1 0)]]
   ))
  ))
 ) ∧ ((decide (z4 = 1)) = false →
  K [[z0]] [[(cond (false) 1 0)]]
 ))
def B_email (S : Nat → List (List Int) → List (List Int) → Prop) (K : List (List Int) → List (List Int) → Prop) : Prop :=
 ∀ z0 : Int, 0 ≤ z0 → z0 ≤ HB → 
 ∀ z1 : Int, 0 ≤ z1 → z1 ≤ HB → S 120 [[z0]] [[z1]] →
 ∀ z2 : Int, 0 ≤ z2 → z2 ≤ HB → ∀ z3 : Int, 0 ≤ z3 → z3 ≤ HB → ∀ z4 : Int, 0 ≤ z4 → z4 ≤ 1 → S 125 [[z1]] [[z2], [z3], [z4]] →
 ((((!(decide (z4 = 1)))) = true →
  K [[z0]] [[0], [2]]
 ) ∧ (((!(decide (z4 = 1)))) = false →
  ∀ z5 : Int, 0 ≤ z5 → z5 ≤ 9223372036854775807 → z5 = fnD 0 [z1] →
  (((decide (254 < z5)) = true →
   K [[z0]] [[0], [2]]
  ) ∧ ((decide (254 < z5)) = false →
   ∀ z6 : Int, 0 ≤ z6 → z6 ≤ 1 → S 24 [[z2]] [[z6]] →
   ((((!(decide (z6 = 1)))) = true →
    K [[z0]] [[0], [2]]
   ) ∧ (((!(decide (z6 = 1)))) = false →
    ∀ z7 : Int, (-1) ≤ z7 → z7 ≤ 9223372036854775807 → S 73 [[z3], [58]] [[z7]] →
    (((decide (0 ≤ z7)) = true →
     K [[z0]] [[0], [2]]
    ) ∧ ((decide (0 ≤ z7)) = false →
     ∀ z8 : Int, 0 ≤ z8 → z8 ≤ 1 → S 127 [[z3]] [[z8]] →
     ((((!(decide (z8 = 1)))) = true →
      K [[z0]] [[0], [2]]
     ) ∧ (((!(decide (z8 = 1)))) = false →
      ∀ z9 : Int, 0 ≤ z9 → z9 ≤ 1 → S 27 [[z3]] [[z9]] →
      ((((!(decide (z9 = 1)))) = true →
       K [[z0]] [[0], [2]]
      ) ∧ (((!(decide (z9 = 1)))) = false →
       ∀ z10 : Int, 0 ≤ z10 → z10 ≤ HB → S 28 [[z1]] [[z10]] →
       K [[z0]] [[z10], [0]]
      ))
     ))
    ))
   ))
  ))
 ))
def B_small (S : Nat → List (List Int) → List (List Int) → Prop) (K : List (List Int) → List (List Int) → Prop) : Prop :=
 ∀ z0 : Int, 0 ≤ z0 → z0 ≤ 255 → 
 (((decide (97 ≤ z0)) = true →
  K [[z0]] [[(cond (decide (z0 ≤ 122)) 1 0)]]
 ) ∧ ((decide (97 ≤ z0)) = false →
  K [[z0]] [[(cond (false) 1 0)]]
 ))
def B_great (S : Nat → List (List Int) → List (List Int) → Prop) (K : List (List Int) → List (List Int) → Prop) : Prop :=
 ∀ z0 : Int, 0 ≤ z0 → z0 ≤ 255 → 
 (((decide (65 ≤ z0)) = true →
  K [[z0]] [[(cond (decide (z0 ≤ 90)) 1 0)]]
 ) ∧ ((decide (65 ≤ z0)) = false →
  K [[z0]] [[(cond (false) 1 0)]]
 ))
def B_digit (S : Nat → List (List Int) → List (List Int) → Prop) (K : List (List Int) → List (List Int) → Prop) : Prop :=
 ∀ z0 : Int, 0 ≤ z0 → z0 ≤ 255 → 
 (((decide (48 ≤ z0)) = true →
  K [[z0]] [[(cond (decide (z0 ≤ 57)) 1 0)]]
 ) ∧ ((decide (48 ≤ z0)) = false →
  K [[z0]] [[(cond (false) 1 0)]]
 ))
def B_less (S : Nat → List (List Int) → List (List Int) → Prop) (K : List (List Int) → List (List Int) → Prop) : Prop :=
 ∀ r0 : List Int, inB (repB 0 HB 2) r0 → ∀ r2 : List Int, inB (repB 0 HB 2) r2 → 
 ∀ z4 : Int, 0 ≤ z4 → z4 ≤ 1 → z4 = fnD 4 [(List.getD r0 0 0), (List.getD r2 0 0)] →
 ((((!(decide (z4 = 1)))) = true →
  ∀ z5 : Int, 0 ≤ z5 → z5 ≤ 1 → z5 = fnD 5 [(List.getD r0 0 0), (List.getD r2 0 0)] →
  K [r0, r2] [[(cond (decide (z5 = 1)) 1 0)]]
 ) ∧ (((!(decide (z4 = 1)))) = false →
  ∀ z5 : Int, 0 ≤ z5 → z5 ≤ 1 → z5 = fnD 5 [(List.getD r0 1 0), (List.getD r2 1 0)] →
  K [r0, r2] [[(cond (decide (z5 = 1)) 1 0)]]
 ))
def B_rless (S : Nat → List (List Int) → List (List Int) → Prop) (K : List (List Int) → List (List Int) → Prop) : Prop :=
 ∀ r0 : List Int, inB (repB 0 HB 2) r0 → ∀ r2 : List Int, inB (repB 0 HB 2) r2 → 
 ∀ z4 : Int, 0 ≤ z4 → z4 ≤ 1 → z4 = fnD 5 [(List.getD r0 0 0), (List.getD r2 0 0)] →
 (((decide (z4 = 1)) = true →
  K [r0, r2] [[(cond (true) 1 0)]]
 ) ∧ ((decide (z4 = 1)) = false →
  ∀ z5 : Int, 0 ≤ z5 → z5 ≤ 1 → z5 = fnD 4 [(List.getD r0 0 0), (List.getD r2 0 0)] →
  (((decide (z5 = 1)) = true →
   ∀ z6 : Int, 0 ≤ z6 → z6 ≤ 1 → z6 = fnD 5 [(List.getD r0 1 0), (List.getD r2 1 0)] →
   K [r0, r2] [[(cond (decide (z6 = 1)) 1 0)]]
  ) ∧ ((decide (z5 = 1)) = false →
   K [r0, r2] [[(cond (false) 1 0)]]
  ))
 ))
theorem mem58 : inHost 58 = false := by decide
theorem hostb_no58 {s : Tx} (h : hostb s = true) : ¬ (58 : UInt8) ∈ s := fun hm => by
  unfold hostb at h
  rw [okP_eq] at h
  simp only [Bool.and_eq_true] at h
  have := List.all_eq_true.1 h.2.1.1 58 hm
  rw [mem58] at this; cases this
theorem idx_neg {c : Int} (h0 : 0 ≤ c) (h1 : c ≤ 255) {l : Tx} (h : ¬ u8 c ∈ l) : idx c l = -1 := by
  rcases idx_cases h0 h1 l with ⟨h2, _⟩ | ⟨_, _, _, h2, _⟩
  · exact h2
  · exact absurd h2 h
theorem serverb_host {s : Tx} (h : idx 58 s < 0) : serverb s = hostb s := by
  have : decide (0 ≤ idx 58 s) = false := by simpa using h
  unfold serverb cutF
  rw [this]
  simp
theorem p_server : B_server SB (KBv SB [.bool] 27) := by
  intro z0 a0 a1 z1 b0 b1 z2 c0 c1 z3 d0 d1 hS z4 e0 e1 h4
  have hS : (sOf z1, sOf z2, z3) = cutF 58 (sOf z0) := hS
  have h4 : z4 = b01 (hostb (sOf z1)) := h4
  have hv : serverb (sOf z0) = (hostb (sOf z1) && (decide (z3 = 0) || portb (sOf z2))) := by unfold serverb; rw [← hS]
  have kk : ∀ b : Bool, serverb (sOf z0) = b → KBv SB [.bool] 27 [[z0]] [[b01 b]] := fun b h => kb (by show b01 b = b01 (serverb (sOf z0)); rw [h])
  have h3 : (!decide (z3 = 1)) = decide (z3 = 0) := by
    rcases (show z3 = 0 ∨ z3 = 1 by omega) with rfl | rfl <;> rfl
  rw [b01_dec h4, h3]
  refine ⟨fun hp => ⟨fun hq => kk true ?_, fun hq z5 f0 f1 h5 => ?_⟩, fun hp => kk false ?_⟩
  · rw [hv, hp, hq]; rfl
  · have hn := nn_dec h5
    refine ⟨fun hr z6 g0 g1 h6 => ⟨fun hs z7 i0 i1 h7 z8 j0 j1 h8 => ?_, fun hs => kk false ?_⟩, fun hr => kk false ?_⟩
    · rw [hr] at hn
      rw [len_dec (n := 5) 5 rfl h6] at hs
      have h7 : sOf z7 = trimS isD (sOf z2) := h7
      rw [eq_nil h8, h7]
      refine ⟨fun ht z9 k0 k1 h9 => ?_, fun ht => kk false ?_⟩
      · have h9 : z9 = b01 ((sOf z2).all fun c => (sOf 284767230291263911083031).contains c) := h9
        have e : ((sOf z2).all fun c => (sOf 284767230291263911083031).contains c) = (sOf z2).all isD := congrArg (List.all (sOf z2)) (funext (allB256 (p := isD) (by decide +kernel)))
        rw [e] at h9
        rw [b01_dec h9]
        refine kk _ ?_
        rw [hv, hp, hq]; unfold portb; rw [← hn, hs]; simp
      · rw [hv, hp, hq]; unfold portb
        cases ha : (sOf z2).all isD with
        | false => simp
        | true => rw [trimS_all ha] at ht; simp at ht
    · rw [len_dec (n := 5) 5 rfl h6] at hs
      rw [hv, hp, hq]; unfold portb; rw [hs]; simp
    · rw [hr] at hn
      rw [hv, hp, hq]; unfold portb; rw [← hn]; rfl
  · rw [hv, hp]; rfl
theorem kse {id : Nat} {zs : List (List Int)} {a e : Int} (h0 : 0 ≤ a) (h1 : a ≤ HB) (e0 : 0 ≤ e) (e1 : e ≤ 21) (h : SB id zs [[a], [e]]) : KBv SB [.str, .int .i64 0 21] id zs [[a], [e]] := ⟨⟨h0, h1, e0, e1, trivial⟩, h⟩
theorem emailT_no {t : Tx} (h : (decide (0 ≤ idx 64 t) && Nat.ble t.length 254 && localb (t.take (idx 64 t).toNat) && hostb (t.drop ((idx 64 t).toNat + 1)) && (t.drop ((idx 64 t).toNat + 1)).contains 46) = false) : emailT t = ([], 2) := by unfold emailT; rw [h]; rfl
theorem p_email : B_email SB (KBv SB [.str, .int .i64 0 21] 10) := by
  intro z0 a0 a1 z1 b0 b1 h1 z2 c0 c1 z3 d0 d1 z4 e0 e1 hS
  have h1 : sOf z1 = trimS (· == 32) (sOf z0) := h1
  have hS : (sOf z2, sOf z3, z4) = cutF 64 (sOf z1) := hS
  have kk : emailT (sOf z1) = ([], 2) → KBv SB [.str, .int .i64 0 21] 10 [[z0]] [[0], [2]] := fun h => kse (Int.le_refl _) HB_pos (by decide) (by decide) (by
    show (sOf 0, (2 : Int)) = emailF (sOf z0)
    unfold emailF; rw [← h1, h]; rfl)
  unfold cutF at hS
  cases hi : decide (0 ≤ idx 64 (sOf z1)) with
  | false =>
    rw [hi] at hS
    simp only [cond_false, Prod.mk.injEq] at hS
    obtain ⟨_, _, rfl⟩ := hS
    exact ⟨fun _ => kk (emailT_no (by rw [hi]; rfl)), fun h => by simp at h⟩
  | true =>
    rw [hi] at hS
    simp only [cond_true, Prod.mk.injEq] at hS
    obtain ⟨h2, h3, rfl⟩ := hS
    refine ⟨fun h => by simp at h, fun _ z5 f0 f1 h5 => ⟨fun hq => kk (emailT_no ?_), fun hq z6 g0 g1 h6 => ?_⟩⟩
    · rw [len_gt (n := 254) 254 rfl h5, Bool.not_eq_true'] at hq
      rw [hq]; simp
    · rw [len_gt (n := 254) 254 rfl h5, Bool.not_eq_false'] at hq
      have h6 : z6 = b01 (localb (sOf z2)) := h6
      rw [b01_dec h6, h2]
      refine ⟨fun hl => kk (emailT_no ?_), fun hl z7 i0 i1 h7 => ?_⟩
      · rw [Bool.not_eq_true'] at hl
        rw [hl]; simp
      · rw [Bool.not_eq_false'] at hl
        have h7 : z7 = idx 58 (sOf z3) := h7
        refine ⟨fun hc => kk (emailT_no ?_), fun hc z8 j0 j1 h8 => ?_⟩
        · have hc' : u8 58 ∈ sOf z3 := by
            have := idx_mem (c := 58) (by decide) (by decide) (sOf z3)
            rw [← h7, hc] at this
            simpa using this.symm
          have : hostb (sOf z3) = false := by
            cases hh : hostb (sOf z3) with
            | false => rfl
            | true => exact absurd hc' (hostb_no58 hh)
          rw [← h3, this]; simp
        · have hlt : idx 58 (sOf z3) < 0 := by rw [← h7]; simpa using hc
          have h8 : z8 = b01 ((sOf z3).contains 46) := h8
          rw [b01_dec h8]
          refine ⟨fun hd => kk (emailT_no ?_), fun hd z9 k0 k1 h9 => ?_⟩
          · rw [Bool.not_eq_true'] at hd
            rw [← h3, hd]; simp
          · rw [Bool.not_eq_false'] at hd
            have h9 : z9 = b01 (serverb (sOf z3)) := h9
            rw [b01_dec h9, serverb_host hlt]
            refine ⟨fun hh => kk (emailT_no ?_), fun hh z10 l0 l1 h10 => ?_⟩
            · rw [Bool.not_eq_true'] at hh
              rw [← h3, hh]; simp
            · rw [Bool.not_eq_false'] at hh
              have h10 : sOf z10 = lower (sOf z1) := h10
              refine kse l0 l1 (by decide) (by decide) ?_
              show (sOf z10, (0 : Int)) = emailF (sOf z0)
              unfold emailF emailT
              rw [← h1, hi, hq, hl, ← h3, hh, hd, h10]
              rfl
theorem isR {lo hi : Nat} {z : Int} (h0 : 0 ≤ z) (h1 : z ≤ 255) : (Nat.ble lo (u8 z).toNat && Nat.ble (u8 z).toNat hi) = (decide ((lo : Int) ≤ z) && decide (z ≤ (hi : Int))) := by
  have := u8_toNat h0 h1
  rw [Bool.eq_iff_iff]
  simp [Nat.ble_eq]
  omega
theorem p_small : B_small SB (KBv SB [.bool] 50) := by
  intro z0 a0 a1
  have e := isR (lo := 97) (hi := 122) a0 a1
  have kk : ∀ b : Bool, isS (u8 z0) = b → KBv SB [.bool] 50 [[z0]] [[b01 b]] := fun b h => kb (by show b01 b = b01 (isS (u8 z0)); rw [h])
  refine ⟨fun h => kk _ ?_, fun h => kk false ?_⟩
  · unfold isS; rw [e]; have h : decide (((97 : Nat) : Int) ≤ z0) = true := h; rw [h]; rfl
  · unfold isS; rw [e]; have h : decide (((97 : Nat) : Int) ≤ z0) = false := h; rw [h]; rfl
theorem p_great : B_great SB (KBv SB [.bool] 51) := by
  intro z0 a0 a1
  have e := isR (lo := 65) (hi := 90) a0 a1
  have kk : ∀ b : Bool, isG (u8 z0) = b → KBv SB [.bool] 51 [[z0]] [[b01 b]] := fun b h => kb (by show b01 b = b01 (isG (u8 z0)); rw [h])
  refine ⟨fun h => kk _ ?_, fun h => kk false ?_⟩
  · unfold isG; rw [e]; have h : decide (((65 : Nat) : Int) ≤ z0) = true := h; rw [h]; rfl
  · unfold isG; rw [e]; have h : decide (((65 : Nat) : Int) ≤ z0) = false := h; rw [h]; rfl
theorem p_digit : B_digit SB (KBv SB [.bool] 52) := by
  intro z0 a0 a1
  have e := isR (lo := 48) (hi := 57) a0 a1
  have kk : ∀ b : Bool, isD (u8 z0) = b → KBv SB [.bool] 52 [[z0]] [[b01 b]] := fun b h => kb (by show b01 b = b01 (isD (u8 z0)); rw [h])
  refine ⟨fun h => kk _ ?_, fun h => kk false ?_⟩
  · unfold isD; rw [e]; have h : decide (((48 : Nat) : Int) ≤ z0) = true := h; rw [h]; rfl
  · unfold isD; rw [e]; have h : decide (((48 : Nat) : Int) ≤ z0) = false := h; rw [h]; rfl
theorem two_of {r : List Int} (h : inB (repB 0 HB 2) r) : ∃ a b, r = [a, b] ∧ 0 ≤ a ∧ a ≤ HB ∧ 0 ≤ b ∧ b ≤ HB := by
  match r, h with
  | [a, b], h => exact ⟨a, b, rfl, h.1, h.2.1, h.2.2.1, h.2.2.2.1⟩
theorem less_dec {z a b : Int} (h : z = fnD 5 [a, b]) : decide (z = 1) = Op.bytesLess (sOf a) (sOf b) := by
  rw [h]; simp only [fnD]
  cases Op.bytesLess (sOf a) (sOf b) <;> simp
theorem less_irr : ∀ l : Tx, Op.bytesLess l l = false
  | [] => rfl
  | x :: r => by
    have := less_irr r
    simp [Op.bytesLess, this]
theorem p_less : B_less SB (KBv SB [.bool] 14) := by
  intro r0 h0 r2 h2 z4 a0 a1 h4
  obtain ⟨a, b, rfl, _⟩ := two_of h0
  obtain ⟨c, d, rfl, _⟩ := two_of h2
  have h4 : z4 = fnD 4 [a, c] := h4
  rw [eq_dec h4]
  have kk : ∀ x : Bool, lessF (sOf a) (sOf b) (sOf c) (sOf d) = x → KBv SB [.bool] 14 [[a, b], [c, d]] [[b01 x]] := fun x h => kb (by show b01 x = b01 (lessF (sOf a) (sOf b) (sOf c) (sOf d)); rw [h])
  refine ⟨fun hp z5 b0 b1 h5 => ?_, fun hp z5 b0 b1 h5 => ?_⟩
  · have h5 : z5 = fnD 5 [a, c] := h5
    rw [less_dec h5]
    refine kk _ ?_
    have : ¬ sOf a = sOf c := by simpa using hp
    unfold lessF
    rw [show (sOf a == sOf c) = false by simpa using this]; rfl
  · have h5 : z5 = fnD 5 [b, d] := h5
    rw [less_dec h5]
    refine kk _ ?_
    have : sOf a = sOf c := by simpa using hp
    unfold lessF
    rw [this]; simp
theorem p_rless : B_rless SB (KBv SB [.bool] 21) := by
  intro r0 h0 r2 h2 z4 a0 a1 h4
  obtain ⟨a, b, rfl, _⟩ := two_of h0
  obtain ⟨c, d, rfl, _⟩ := two_of h2
  have h4 : z4 = fnD 5 [a, c] := h4
  rw [less_dec h4]
  have kk : ∀ x : Bool, lessF (sOf a) (sOf b) (sOf c) (sOf d) = x → KBv SB [.bool] 21 [[a, b], [c, d]] [[b01 x]] := fun x h => kb (by show b01 x = b01 (lessF (sOf a) (sOf b) (sOf c) (sOf d)); rw [h])
  refine ⟨fun hp => kk true ?_, fun hp z5 b0 b1 h5 => ?_⟩
  · unfold lessF
    cases he : (sOf a == sOf c) with
    | false => exact hp
    | true => rw [beq_iff_eq] at he; rw [he, less_irr] at hp; cases hp
  · have h5 : z5 = fnD 4 [a, c] := h5
    rw [eq_dec h5]
    refine ⟨fun hq z6 c0 c1 h6 => ?_, fun hq => kk false ?_⟩
    · have h6 : z6 = fnD 5 [b, d] := h6
      rw [less_dec h6]
      refine kk _ ?_
      have : sOf a = sOf c := by simpa using hq
      unfold lessF
      rw [this]; simp
    · have : ¬ sOf a = sOf c := by simpa using hq
      unfold lessF
      rw [show (sOf a == sOf c) = false by simpa using this]; exact hp

def B_tpre (S : Nat → List (List Int) → List (List Int) → Prop) (K : List (List Int) → List (List Int) → Prop) : Prop :=
 ∀ z0 : Int, 0 ≤ z0 → z0 ≤ HB → ∀ z1 : Int, 0 ≤ z1 → z1 ≤ HB → 
 ∀ z2 : Int, 0 ≤ z2 → z2 ≤ 9223372036854775807 → z2 = fnD 0 [z0] →
 ∀ z3 : Int, 0 ≤ z3 → z3 ≤ 9223372036854775807 → z3 = fnD 0 [z1] →
 (((decide (z3 ≤ z2)) = true →
  ∀ z4 : Int, 0 ≤ z4 → z4 ≤ 9223372036854775807 → z4 = fnD 0 [z1] →
  chkD 2 [z0, 0, z4] ∧
  ∀ z5 : Int, 0 ≤ z5 → z5 ≤ HB → z5 = fnD 2 [z0, 0, z4] →
  ∀ z6 : Int, 0 ≤ z6 → z6 ≤ 1 → z6 = fnD 4 [z5, z1] →
  (((decide (z6 = 1)) = true →
   ∀ z7 : Int, 0 ≤ z7 → z7 ≤ 9223372036854775807 → z7 = fnD 0 [z1] →
   ∀ z8 : Int, 0 ≤ z8 → z8 ≤ 9223372036854775807 → z8 = fnD 0 [z0] →
   chkD 2 [z0, z7, z8] ∧
   ∀ z9 : Int, 0 ≤ z9 → z9 ≤ HB → z9 = fnD 2 [z0, z7, z8] →
   K [[z0], [z1]] [[z9]]
  ) ∧ ((decide (z6 = 1)) = false →
   K [[z0], [z1]] [[z0]]
  ))
 ) ∧ ((decide (z3 ≤ z2)) = false →
  K [[z0], [z1]] [[z0]]
 ))
def B_rcountry (S : Nat → List (List Int) → List (List Int) → Prop) (K : List (List Int) → List (List Int) → Prop) : Prop :=
 ∀ z0 : Int, 0 ≤ z0 → z0 ≤ HB → 
 ∀ z1 : Int, 0 ≤ z1 → z1 ≤ 1 → z1 = fnD 4 [z0, 17291] →
 (((decide (z1 = 1)) = true →
  K [[z0]] [[13674], [(cond (true) 1 0)], [(cond (true) 1 0)]]
 ) ∧ ((decide (z1 = 1)) = false →
  ∀ z2 : Int, 0 ≤ z2 → z2 ≤ 1 → z2 = fnD 4 [z0, 21674] →
  (((decide (z2 = 1)) = true →
   K [[z0]] [[50], [(cond (false) 1 0)], [(cond (true) 1 0)]]
  ) ∧ ((decide (z2 = 1)) = false →
   ∀ z3 : Int, 0 ≤ z3 → z3 ≤ 1 → z3 = fnD 4 [z0, 18059] →
   (((decide (z3 = 1)) = true →
    K [[z0]] [[14959], [(cond (true) 1 0)], [(cond (true) 1 0)]]
   ) ∧ ((decide (z3 = 1)) = false →
    ∀ z4 : Int, 0 ≤ z4 → z4 ≤ 1 → z4 = fnD 4 [z0, 21402] →
    (((decide (z4 = 1)) = true →
     K [[z0]] [[13416], [(cond (true) 1 0)], [(cond (true) 1 0)]]
    ) ∧ ((decide (z4 = 1)) = false →
     ∀ z5 : Int, 0 ≤ z5 → z5 ≤ 1 → z5 = fnD 4 [z0, 18829] →
     (((decide (z5 = 1)) = true →
      K [[z0]] [[12903], [(cond (true) 1 0)], [(cond (true) 1 0)]]
     ) ∧ ((decide (z5 = 1)) = false →
      ∀ z6 : Int, 0 ≤ z6 → z6 ≤ 1 → z6 = fnD 4 [z0, 0] →
      K [[z0]] [[0], [(cond (false) 1 0)], [(cond (decide (z6 = 1)) 1 0)]]
     ))
    ))
   ))
  ))
 ))
def B_phone (S : Nat → List (List Int) → List (List Int) → Prop) (K : List (List Int) → List (List Int) → Prop) : Prop :=
 ∀ z0 : Int, 0 ≤ z0 → z0 ≤ HB → ∀ z1 : Int, 0 ≤ z1 → z1 ≤ HB → 
 chkD 44 [z0, z1] →
 ∀ r2 : List Int, inB (repB 0 HB 2) r2 → ∀ z4 : Int, 0 ≤ z4 → z4 ≤ 1 → S 32 [[z0]] [r2, [z4]] →
 ((((!(decide (z4 = 1)))) = true →
  K [[z0], [z1]] [[0], [7]]
 ) ∧ (((!(decide (z4 = 1)))) = false →
  ∀ z5 : Int, 0 ≤ z5 → z5 ≤ HB → ∀ z6 : Int, 0 ≤ z6 → z6 ≤ 1 → ∀ z7 : Int, 0 ≤ z7 → z7 ≤ 1 → S 33 [[z1]] [[z5], [z6], [z7]] →
  ((((!(decide (z7 = 1)))) = true →
   K [[z0], [z1]] [[0], [2]]
  ) ∧ (((!(decide (z7 = 1)))) = false →
   ((((!(decide (z6 = 1)))) = true →
    ∀ z8 : Int, 0 ≤ z8 → z8 ≤ 1 → z8 = fnD 4 [z0, 0] →
    ((((!(decide (z8 = 1)))) = true →
     ∀ z9 : Int, 0 ≤ z9 → z9 ≤ HB → S 34 [[z5], [(List.getD r2 1 0)]] [[z9]] →
     chkD 3 [(List.getD r2 0 0), z9] ∧
     ∀ z10 : Int, 0 ≤ z10 → z10 ≤ HB → z10 = fnD 3 [(List.getD r2 0 0), z9] →
     ∀ z11 : Int, 0 ≤ z11 → z11 ≤ 9223372036854775807 → z11 = fnD 0 [z10] →
     (((decide (z11 < 6)) = true →
      K [[z0], [z1]] [[0], [2]]
     ) ∧ ((decide (z11 < 6)) = false →
      ∀ z12 : Int, 0 ≤ z12 → z12 ≤ 9223372036854775807 → z12 = fnD 0 [z10] →
      (((decide (15 < z12)) = true →
       K [[z0], [z1]] [[0], [2]]
      ) ∧ ((decide (15 < z12)) = false →
       chkD 1 [z10, 0] ∧
       ∀ z13 : Int, 0 ≤ z13 → z13 ≤ 255 → z13 = fnD 1 [z10, 0] →
       (((decide (z13 = 48)) = true →
        K [[z0], [z1]] [[0], [2]]
       ) ∧ ((decide (z13 = 48)) = false →
        K [[z0], [z1]] [[z10], [0]]
       ))
      ))
     ))
    ) ∧ (((!(decide (z8 = 1)))) = false →
     ∀ z9 : Int, 0 ≤ z9 → z9 ≤ 9223372036854775807 → z9 = fnD 0 [z5] →
     (((decide (z9 < 6)) = true →
      K [[z0], [z1]] [[0], [2]]
     ) ∧ ((decide (z9 < 6)) = false →
      ∀ z10 : Int, 0 ≤ z10 → z10 ≤ 9223372036854775807 → z10 = fnD 0 [z5] →
      (((decide (15 < z10)) = true →
       K [[z0], [z1]] [[0], [2]]
      ) ∧ ((decide (15 < z10)) = false →
       chkD 1 [z5, 0] ∧
       ∀ z11 : Int, 0 ≤ z11 → z11 ≤ 255 → z11 = fnD 1 [z5, 0] →
       (((decide (z11 = 48)) = true →
        K [[z0], [z1]] [[0], [2]]
       ) ∧ ((decide (z11 = 48)) = false →
        K [[z0], [z1]] [[z5], [0]]
       ))
      ))
     ))
    ))
   ) ∧ (((!(decide (z6 = 1)))) = false →
    ∀ z8 : Int, 0 ≤ z8 → z8 ≤ 9223372036854775807 → z8 = fnD 0 [z5] →
    (((decide (z8 < 6)) = true →
     K [[z0], [z1]] [[0], [2]]
    ) ∧ ((decide (z8 < 6)) = false →
     ∀ z9 : Int, 0 ≤ z9 → z9 ≤ 9223372036854775807 → z9 = fnD 0 [z5] →
     (((decide (15 < z9)) = true →
      K [[z0], [z1]] [[0], [2]]
     ) ∧ ((decide (15 < z9)) = false →
      chkD 1 [z5, 0] ∧
      ∀ z10 : Int, 0 ≤ z10 → z10 ≤ 255 → z10 = fnD 1 [z5, 0] →
      (((decide (z10 = 48)) = true →
       K [[z0], [z1]] [[0], [2]]
      ) ∧ ((decide (z10 = 48)) = false →
       K [[z0], [z1]] [[z5], [0]]
      ))
     ))
    ))
   ))
  ))
 ))
theorem p_tpre : B_tpre SB (KBv SB [.str] 34) := by
  intro z0 a0 a1 z1 b0 b1 z2 c0 c1 h2 z3 d0 d1 h3
  have kk : ∀ x : Int, 0 ≤ x → x ≤ HB → sOf x = cond ((sOf z1).isPrefixOf (sOf z0)) ((sOf z0).drop (sOf z1).length) (sOf z0) → KBv SB [.str] 34 [[z0], [z1]] [[x]] := fun x h0 h1 h => ⟨⟨h0, h1, trivial⟩, h⟩
  simp only [fnD] at h2 h3
  refine ⟨fun hp z4 e0 e1 h4 => ⟨?_, fun z5 f0 f1 h5 z6 g0 g1 h6 => ?_⟩, fun hp => kk _ a0 a1 ?_⟩
  · simp only [fnD] at h4
    have hp : z3 ≤ z2 := by simpa using hp
    exact ⟨by omega, by omega, by omega⟩
  · simp only [fnD] at h4
    have hp : z3 ≤ z2 := by simpa using hp
    have e5 : sOf z5 = (sOf z0).take (sOf z1).length := by rw [h5]; simp [fnD, sOf_cOf, h4]
    have hpre : (sOf z1).isPrefixOf (sOf z0) = decide (sOf z5 = sOf z1) := by
      rw [Bool.eq_iff_iff, List.isPrefixOf_iff_prefix, List.prefix_iff_eq_take, decide_eq_true_eq, e5]
      exact eq_comm
    rw [eq_dec h6, ← hpre]
    refine ⟨fun hq z7 i0 i1 h7 z8 j0 j1 h8 => ?_, fun hq => kk _ a0 a1 (by rw [hq]; rfl)⟩
    simp only [fnD] at h7 h8
    refine ⟨⟨by omega, by omega, by omega⟩, fun z9 k0 k1 h9 => kk _ k0 k1 ?_⟩
    rw [hq, h9]; simp only [fnD, sOf_cOf, cond_true]
    rw [show z7.toNat = (sOf z1).length by omega]
    exact List.take_of_length_le (by simp; omega)
  · have hp : ¬ z3 ≤ z2 := by simpa using hp
    cases hc : (sOf z1).isPrefixOf (sOf z0) with
    | false => rfl
    | true =>
      have := (List.isPrefixOf_iff_prefix.1 hc).length_le
      omega
theorem kGB : sOf 17291 = [71, 66] := by decide
theorem kUS : sOf 21674 = [85, 83] := by decide
theorem kDE : sOf 18059 = [68, 69] := by decide
theorem kFR : sOf 21402 = [70, 82] := by decide
theorem kCH : sOf 18829 = [67, 72] := by decide
theorem p_rcountry : B_rcountry SB (KBv SB [.str, .bool, .bool] 35) := by
  intro z0 a0 a1 z1 b0 b1 h1
  have kk : ∀ (w c t : Tx) (x y z : Int), sOf z0 = w → ctry w = some (c, t) → 0 ≤ x → x ≤ 17291 → sOf x = c → y = b01 (!t.isEmpty) → z = 1 → KBv SB [.str, .bool, .bool] 35 [[z0]] [[x], [y], [z]] := fun w c t x y z hw hc hx0 hx1 hx hy hz => by
    have hb : (17291 : Int) ≤ HB := HB_c (l := [71, 66]) (by decide)
    subst hy hz
    refine ⟨⟨hx0, Int.le_trans hx1 hb, (b01_bd _).1, (b01_bd _).2, by decide, by decide, trivial⟩, ?_⟩
    show (match ctry (sOf z0) with | some (code, trunk) => sOf x = code ∧ _ = b01 (!trunk.isEmpty) ∧ _ | none => _)
    rw [hw, hc]
    exact ⟨hx, rfl, rfl⟩
  rw [eq_dec h1, kGB]
  refine ⟨fun h => kk [71, 66] [52, 52] [48] _ _ _ (by simpa using h) rfl (by decide) (by decide) (by decide) rfl rfl, fun h z2 b0 b1 h2 => ?_⟩
  have n1 : ¬ sOf z0 = [71, 66] := by simpa using h
  rw [eq_dec h2, kUS]
  refine ⟨fun h => kk [85, 83] [49] [] _ _ _ (by simpa using h) rfl (by decide) (by decide) (by decide) rfl rfl, fun h z2 b0 b1 h2 => ?_⟩
  have n2 : ¬ sOf z0 = [85, 83] := by simpa using h
  rw [eq_dec h2, kDE]
  refine ⟨fun h => kk [68, 69] [52, 57] [48] _ _ _ (by simpa using h) rfl (by decide) (by decide) (by decide) rfl rfl, fun h z2 b0 b1 h2 => ?_⟩
  have n3 : ¬ sOf z0 = [68, 69] := by simpa using h
  rw [eq_dec h2, kFR]
  refine ⟨fun h => kk [70, 82] [51, 51] [48] _ _ _ (by simpa using h) rfl (by decide) (by decide) (by decide) rfl rfl, fun h z2 b0 b1 h2 => ?_⟩
  have n4 : ¬ sOf z0 = [70, 82] := by simpa using h
  rw [eq_dec h2, kCH]
  refine ⟨fun h => kk [67, 72] [52, 49] [48] _ _ _ (by simpa using h) rfl (by decide) (by decide) (by decide) rfl rfl, fun h z2 b0 b1 h2 => ?_⟩
  have n5 : ¬ sOf z0 = [67, 72] := by simpa using h
  rw [eq_nil h2]
  cases he : (sOf z0 == []) with
  | true => exact kk [] [] [] _ _ _ (by simpa using he) rfl (by decide) (by decide) (by decide) rfl rfl
  | false =>
    refine ⟨⟨Int.le_refl _, HB_pos, by decide, by decide, by decide, by decide, trivial⟩, ?_⟩
    have hn : ctry (sOf z0) = none := by
      unfold ctry
      rw [he, show (sOf z0 == [71, 66]) = false by simpa using n1, show (sOf z0 == [85, 83]) = false by simpa using n2, show (sOf z0 == [68, 69]) = false by simpa using n3, show (sOf z0 == [70, 82]) = false by simpa using n4, show (sOf z0 == [67, 72]) = false by simpa using n5]
      rfl
    show (match ctry (sOf z0) with | some (code, trunk) => _ | none => sOf 0 = [] ∧ _ ∧ _)
    rw [hn]
    exact ⟨rfl, rfl, rfl⟩
theorem bareF_len : ∀ (s d : Tx) (p : Bool) {d' : Tx} {p' : Bool}, bareF s d p = some (d', p') → d'.length ≤ d.length + s.length
  | [], d, p, d', p', h => by
    simp only [bareF, Option.some.injEq, Prod.mk.injEq] at h
    rw [h.1]; simp
  | c :: r, d, p, d', p', h => by
    unfold bareF at h
    cases h1 : isD c with
    | true =>
      rw [h1, cond_true] at h
      have := bareF_len r _ _ h
      simp at this ⊢; omega
    | false =>
      rw [h1, cond_false] at h
      cases h2 : (c == 43 && d.isEmpty && !p) with
      | true =>
        rw [h2, cond_true] at h
        have := bareF_len r _ _ h
        simp at this ⊢; omega
      | false =>
        rw [h2, cond_false] at h
        cases h3 : seps.contains c with
        | true =>
          rw [h3, cond_true] at h
          have := bareF_len r _ _ h
          simp at this ⊢; omega
        | false => rw [h3, cond_false] at h; cases h
theorem ctry_len {w c t : Tx} (h : ctry w = some (c, t)) : c.length ≤ 2 := by
  unfold ctry at h
  cases h0 : (w == []) with
  | true => rw [h0, cond_true] at h; simp only [Option.some.injEq, Prod.mk.injEq] at h; rw [← h.1]; decide
  | false =>
    rw [h0, cond_false] at h
    cases h1 : (w == [71, 66]) with
    | true => rw [h1, cond_true] at h; simp only [Option.some.injEq, Prod.mk.injEq] at h; rw [← h.1]; decide
    | false =>
      rw [h1, cond_false] at h
      cases h2 : (w == [85, 83]) with
      | true => rw [h2, cond_true] at h; simp only [Option.some.injEq, Prod.mk.injEq] at h; rw [← h.1]; decide
      | false =>
        rw [h2, cond_false] at h
        cases h3 : (w == [68, 69]) with
        | true => rw [h3, cond_true] at h; simp only [Option.some.injEq, Prod.mk.injEq] at h; rw [← h.1]; decide
        | false =>
          rw [h3, cond_false] at h
          cases h4 : (w == [70, 82]) with
          | true => rw [h4, cond_true] at h; simp only [Option.some.injEq, Prod.mk.injEq] at h; rw [← h.1]; decide
          | false =>
            rw [h4, cond_false] at h
            cases h5 : (w == [67, 72]) with
            | true => rw [h5, cond_true] at h; simp only [Option.some.injEq, Prod.mk.injEq] at h; rw [← h.1]; decide
            | false =>
              rw [h5, cond_false] at h
              cases h
/-- A number's end: too short, too long, or with a nought ahead. -/
theorem phoneEnd {w s : Tx} {z n : Int} (zs : List (List Int)) (id : Nat) (hid : ∀ a e, (sOf a, e) = phoneF w s → SB id zs [[a], [e]]) (n0 : 0 ≤ n) (n1 : n ≤ HB) (hf : phoneF w s = phoneE (sOf n)) :
   ∀ z11 : Int, 0 ≤ z11 → z11 ≤ 9223372036854775807 → z11 = fnD 0 [n] →
     (((decide (z11 < 6)) = true →
      KBv SB [.str, .int .i64 0 21] id zs [[0], [2]]
     ) ∧ ((decide (z11 < 6)) = false →
      ∀ z12 : Int, 0 ≤ z12 → z12 ≤ 9223372036854775807 → z12 = fnD 0 [n] →
      (((decide (15 < z12)) = true →
       KBv SB [.str, .int .i64 0 21] id zs [[0], [2]]
      ) ∧ ((decide (15 < z12)) = false →
       chkD 1 [n, 0] ∧
       ∀ z13 : Int, 0 ≤ z13 → z13 ≤ 255 → z13 = fnD 1 [n, 0] →
       (((decide (z13 = 48)) = true →
        KBv SB [.str, .int .i64 0 21] id zs [[0], [2]]
       ) ∧ ((decide (z13 = 48)) = false →
        KBv SB [.str, .int .i64 0 21] id zs [[n], [0]]
       ))
      ))
     )) := by
  intro z1 a0 a1 h1
  have e1 : decide (z1 < 6) = Nat.blt (sOf n).length 6 := by
    rw [h1]; simp only [fnD]; rw [Bool.eq_iff_iff, decide_eq_true_eq, Nat.blt_eq]; omega
  have kk : phoneE (sOf n) = ([], 2) → KBv SB [.str, .int .i64 0 21] id zs [[0], [2]] := fun h => kse (Int.le_refl _) HB_pos (by decide) (by decide) (hid _ _ (by rw [hf, h]; rfl))
  rw [e1]
  refine ⟨fun h => kk (by unfold phoneE; rw [h]; rfl), fun h z2 b0 b1 h2 => ?_⟩
  have e2 : decide (15 < z2) = Nat.blt 15 (sOf n).length := by
    rw [h2]; simp only [fnD]; rw [Bool.eq_iff_iff, decide_eq_true_eq, Nat.blt_eq]; omega
  rw [e2]
  refine ⟨fun h' => kk (by unfold phoneE; rw [h, h']; rfl), fun h' => ⟨⟨Int.le_refl _, ?_⟩, fun z3 c0 c1 h3 => ?_⟩⟩
  · have : ¬ Nat.blt (sOf n).length 6 = true := by rw [h]; simp
    rw [Nat.blt_eq] at this; omega
  · have e3 : decide (z3 = 48) = ((sOf n).getD 0 0 == 48) := by
      rw [h3]; simp only [fnD, Int.toNat_zero]
      rw [Bool.eq_iff_iff, decide_eq_true_eq, u8_eq (by decide) (by decide)]; rfl
    rw [e3]
    refine ⟨fun h3 => kk (by unfold phoneE; rw [h, h', h3]; rfl), fun h3 => kse n0 n1 (by decide) (by decide) (hid _ _ ?_)⟩
    rw [hf]; unfold phoneE; rw [h, h', h3]; rfl
theorem p_phone : B_phone SB (KBv SB [.str, .int .i64 0 21] 12) := by
  intro z0 a0 a1 z1 b0 b1 hq r2 h2 z4 c0 c1 hc
  obtain ⟨c, t, rfl, x0, x1, y0, y1⟩ := two_of h2
  have hid : ∀ a e, (sOf a, e) = phoneF (sOf z0) (sOf z1) → SB 12 [[z0], [z1]] [[a], [e]] := fun _ _ h => h
  have hq : sOf z0 = [] ∨ (sOf z1).length ≤ 4294967280 := hq
  have hc : (match ctry (sOf z0) with | some (code, trunk) => sOf c = code ∧ sOf t = trunk ∧ z4 = 1 | none => z4 = 0 ∧ sOf c = [] ∧ sOf t = []) := hc
  have kk : ∀ e : Int, 0 ≤ e → e ≤ 21 → phoneF (sOf z0) (sOf z1) = ([], e) → KBv SB [.str, .int .i64 0 21] 12 [[z0], [z1]] [[0], [e]] := fun e e0 e1 h => kse (Int.le_refl _) HB_pos e0 e1 (hid _ _ (by rw [h]; rfl))
  cases hct : ctry (sOf z0) with
  | none =>
    rw [hct] at hc
    obtain ⟨rfl, _⟩ := hc
    exact ⟨fun _ => kk 7 (by decide) (by decide) (by unfold phoneF; rw [hct]), fun h => by simp at h⟩
  | some ct =>
    obtain ⟨code, trunk⟩ := ct
    rw [hct] at hc
    obtain ⟨hcc, htt, rfl⟩ := hc
    refine ⟨fun h => by simp at h, fun _ z5 d0 d1 z6 e0 e1 z7 f0 f1 hb => ?_⟩
    have hb : (match bareF (sOf z1) [] false with | some (d', p') => sOf z5 = d' ∧ z6 = b01 p' ∧ z7 = 1 | none => sOf z5 = [] ∧ z6 = 0 ∧ z7 = 0) := hb
    cases hbf : bareF (sOf z1) [] false with
    | none =>
      rw [hbf] at hb
      obtain ⟨_, _, rfl⟩ := hb
      exact ⟨fun _ => kk 2 (by decide) (by decide) (by unfold phoneF; rw [hct]; simp only [hbf]), fun h => by simp at h⟩
    | some dp =>
      obtain ⟨d, p⟩ := dp
      rw [hbf] at hb
      obtain ⟨hd, hp, rfl⟩ := hb
      have hf : phoneF (sOf z0) (sOf z1) = phoneE (phoneN (sOf z0) code trunk d p) := by unfold phoneF; rw [hct]; simp only [hbf]
      have hlen := bareF_len _ _ _ hbf
      refine ⟨fun h => by simp at h, fun _ => ?_⟩
      rw [b01_dec hp]
      refine ⟨fun hp => fun z8 g0 g1 h8 => ?_, fun hp => phoneEnd (z := 0) _ 12 hid d0 d1 ?_⟩
      · rw [eq_nil h8]
        refine ⟨fun hw z9 i0 i1 h9 => ?_, fun hw => phoneEnd (z := 0) _ 12 hid d0 d1 ?_⟩
        · have h9 : sOf z9 = cond ((sOf t).isPrefixOf (sOf z5)) ((sOf z5).drop (sOf t).length) (sOf z5) := h9
          have hl9 : (sOf z9).length ≤ (sOf z5).length := by
            rw [h9]; cases (sOf t).isPrefixOf (sOf z5) <;> simp
          refine ⟨?_, fun z10 j0 j1 h10 => phoneEnd (z := 0) _ 12 hid j0 j1 ?_⟩
          · show (sOf c).length + (sOf z9).length ≤ mxL
            have := ctry_len hct
            have hq : (sOf z1).length ≤ 4294967280 := by
              rcases hq with h | h
              · have hw : (!(sOf z0 == [])) = true := hw
                rw [h] at hw; cases hw
              · exact h
            rw [hcc]; rw [hd] at hl9; unfold mxL; simp at hlen; omega
          · rw [hf]
            have : sOf z10 = sOf c ++ sOf z9 := by rw [h10]; simp only [fnD, sOf_cOf]; rfl
            rw [this, h9, hcc, htt, hd]
            unfold phoneN
            have hw : (!(sOf z0 == [])) = true := hw
            rw [hp, hw]; rfl
        · rw [hf, hd]; unfold phoneN
          have hw : (!(sOf z0 == [])) = false := hw
          rw [hp, hw]; rfl
      · rw [hf, hd]; unfold phoneN; rw [hp]; rfl

end Go.Ad
