/- AdVcE: a part of the proof of statements of this seat. -/
import Derived.Test.YtcellhafdgmkjaaDoorAdVcD
import Derived.Test.YtcellhafdgmkjaaDoorAdVcC
import Derived.Test.YtcellhafdgmkjaaDoorAdBase
set_option maxRecDepth 100000
set_option linter.unusedVariables false
set_option linter.unusedSimpArgs false
namespace Go.Ad
open Go Go.Rx
def B_host (S : Nat → List (List Int) → List (List Int) → Prop) (K : List (List Int) → List (List Int) → Prop) : Prop :=
 ∀ z0 : Int, 0 ≤ z0 → z0 ≤ HB → 
 ∀ z1 : Int, 0 ≤ z1 → z1 ≤ 1 → z1 = fnD 4 [z0, 0] →
 ((((!(decide (z1 = 1)))) = true →
  ∀ z2 : Int, 0 ≤ z2 → z2 ≤ 9223372036854775807 → z2 = fnD 0 [z0] →
  (((decide (z2 ≤ 230)) = true →
   ∀ z3 : Int, 0 ≤ z3 → z3 ≤ HB → S 123 [[z0]] [[z3]] →
   ∀ z4 : Int, 0 ≤ z4 → z4 ≤ 1 → z4 = fnD 4 [z3, 0] →
   (((decide (z4 = 1)) = true →
    ∀ z5 : Int, 0 ≤ z5 → z5 ≤ 1 → S 65 [[z0], [3092260449727753699381237987134896180985020549865866695797500355328521677512090486983914513878993150076419119825652852662229468458769751959831595687466918]] [[z5]] →
    (((decide (z5 = 1)) = true →
     ∀ z6 : Int, 0 ≤ z6 → z6 ≤ HB → S 122 [[z0]] [[z6]] →
     ∀ z7 : Int, 0 ≤ z7 → z7 ≤ 1 → z7 = fnD 4 [z6, z0] →
     (((decide (z7 = 1)) = true →
      chkD 41 [z0] ∧
      ∀ z8 : Int, 0 ≤ z8 → z8 ≤ 1 → S 128 [[z0]] [[z8]] →
      K [[z0]] [[(cond ((!(decide (z8 = 1)))) 1 0)]]
     ) ∧ ((decide (z7 = 1)) = false →
      K [[z0]] [[(cond (false) 1 0)]]
     ))
    ) ∧ ((decide (z5 = 1)) = false →
     K [[z0]] [[(cond (false) 1 0)]]
    ))
   ) ∧ ((decide (z4 = 1)) = false →
    K [[z0]] [[(cond (false) 1 0)]]
   ))
  ) ∧ ((decide (z2 ≤ 230)) = false →
   K [[z0]] [[(cond (false) 1 0)]]
  ))
 ) ∧ (((!(decide (z1 = 1)))) = false →
  K [[z0]] [[(cond (false) 1 0)]]
 ))
def B_local (S : Nat → List (List Int) → List (List Int) → Prop) (K : List (List Int) → List (List Int) → Prop) : Prop :=
 ∀ z0 : Int, 0 ≤ z0 → z0 ≤ HB → 
 ∀ z1 : Int, 0 ≤ z1 → z1 ≤ 1 → z1 = fnD 4 [z0, 0] →
 (((decide (z1 = 1)) = true →
  K [[z0]] [[(cond (false) 1 0)]]
 ) ∧ ((decide (z1 = 1)) = false →
  ∀ z2 : Int, 0 ≤ z2 → z2 ≤ 9223372036854775807 → z2 = fnD 0 [z0] →
  (((decide (64 < z2)) = true →
   K [[z0]] [[(cond (false) 1 0)]]
  ) ∧ ((decide (64 < z2)) = false →
   ∀ z3 : Int, 0 ≤ z3 → z3 ≤ 1 → S 44 [[z0], [74473080028620518966381883429228484808440201678127597570840141201138927665149786990616077870556514776478160775702785383470653111892427074463158448094822482491594731032954821022169486867841687777697]] [[z3]] →
   ((((!(decide (z3 = 1)))) = true →
    K [[z0]] [[(cond (false) 1 0)]]
   ) ∧ (((!(decide (z3 = 1)))) = false →
    ∀ z4 : Int, 0 ≤ z4 → z4 ≤ HB → S 121 [[z0]] [[z4]] →
    ∀ z5 : Int, 0 ≤ z5 → z5 ≤ 1 → z5 = fnD 4 [z4, z0] →
    (((decide (z5 = 1)) = true →
     chkD 41 [z0] ∧
     ∀ z6 : Int, 0 ≤ z6 → z6 ≤ 1 → S 128 [[z0]] [[z6]] →
     K [[z0]] [[(cond ((!(decide (z6 = 1)))) 1 0)]]
    ) ∧ ((decide (z5 = 1)) = false →
     K [[z0]] [[(cond (false) 1 0)]]
    ))
   ))
  ))
 ))
theorem ltr_len (p : UInt8 → Bool) (l : Tx) : (ltr p l).length ≤ l.length := (List.dropWhile_sublist p).length_le
theorem rtr_len (p : UInt8 → Bool) (l : Tx) : (rtr p l).length ≤ l.length := by
  unfold rtr; rw [List.length_reverse]
  have := ltr_len p l.reverse
  rwa [List.length_reverse] at this
theorem ltr_full {p : UInt8 → Bool} {l : Tx} (h : l.length ≤ (ltr p l).length) : ltr p l = l := (List.dropWhile_suffix p).eq_of_length (Nat.le_antisymm (ltr_len p l) h)
theorem rtr_full {p : UInt8 → Bool} {l : Tx} (h : l.length ≤ (rtr p l).length) : rtr p l = l := by
  have : ltr p l.reverse = l.reverse := ltr_full (by unfold rtr at h; rw [List.length_reverse] at h; rw [List.length_reverse]; exact h)
  unfold rtr; unfold ltr at this; rw [this, List.reverse_reverse]
theorem getD_last (r : Tx) (x : UInt8) : (r ++ [x]).getD r.length 0 = x := by simp [List.getD]
theorem trimS_eq (p : UInt8 → Bool) (s : Tx) : trimS p s = s ↔ ∀ i, i < s.length → p (s.getD i 0) = true → 0 < i ∧ i + 1 < s.length := by
  by_cases hs : s = []
  · subst hs; exact ⟨fun _ i h => by simp at h, fun _ => rfl⟩
  · constructor
    · intro h i hi hp
      have hl : s.length ≤ (trimS p s).length := by rw [h]; exact Nat.le_refl _
      have h1 := ltr_len p (rtr p s)
      have hr : rtr p s = s := rtr_full (Nat.le_trans hl h1)
      have ht : ltr p s = s := by unfold trimS at h; rwa [hr] at h
      refine ⟨Nat.pos_of_ne_zero fun h0 => ?_, Nat.lt_of_le_of_ne hi fun h0 => ?_⟩
      · subst h0
        cases s with
        | nil => exact hs rfl
        | cons x r =>
          have hp : p x = true := hp
          have h2 : ltr p (x :: r) = ltr p r := by simp [ltr, List.dropWhile_cons, hp]
          have := ltr_len p r
          rw [h2] at ht
          rw [ht] at this
          simp at this
          omega
      · obtain ⟨r, x, rfl⟩ := snoc_of hs
        have : i = r.length := by simp at h0; omega
        subst this
        rw [getD_last] at hp
        rw [rtr_snoc, hp, cond_true] at hr
        have := rtr_len p r
        rw [hr] at this
        simp at this
        omega
    · intro h
      have hr : rtr p s = s := by
        obtain ⟨r, x, rfl⟩ := snoc_of hs
        rw [rtr_snoc]
        cases hx : p x with
        | false => rfl
        | true => have := (h r.length (by simp) (by rw [getD_last]; exact hx)).2; simp at this
      unfold trimS; rw [hr]
      cases s with
      | nil => rfl
      | cons x r =>
        cases hx : p x with
        | false => simp [ltr, List.dropWhile_cons, hx]
        | true => have := (h 0 (by simp) hx).1; omega
theorem all_iff (p : UInt8 → Bool) (s : Tx) : s.all p = true ↔ ∀ i, i < s.length → p (s.getD i 0) = true := by
  rw [List.all_eq_true]
  constructor
  · intro h i hi
    refine h _ ?_
    simp [List.getD, hi]
  · intro h x hx
    obtain ⟨i, hi, rfl⟩ := List.getElem_of_mem hx
    have := h i hi
    simpa [List.getD, hi] using this
theorem dd_iff (s : Tx) : dd s = false ↔ ∀ i, i < s.length → ¬ (s.getD i 0 = 46 ∧ s.getD (i + 1) 0 = 46) := by
  unfold dd
  rw [List.any_eq_false]
  constructor
  · intro h i hi hh
    exact h i (List.mem_range.2 hi) (by rw [hh.1, hh.2]; rfl)
  · intro h i hi hh
    rw [Bool.and_eq_true, beq_iff_eq, beq_iff_eq] at hh
    exact h i (List.mem_range.1 hi) hh
theorem okP_iff (inn edge : UInt8 → Bool) (s : Tx) : okP inn edge s = true ↔ ∀ i, i < s.length → inn (s.getD i 0) = true ∧ (edge (s.getD i 0) = true → 0 < i ∧ i + 1 < s.length) ∧ ¬ (s.getD i 0 = 46 ∧ 0 < i ∧ s.getD (i - 1) 0 = 46) := by
  unfold okP
  rw [List.all_eq_true]
  constructor
  · intro h i hi
    have := h i (List.mem_range.2 hi)
    simp only [Bool.and_eq_true, Bool.or_eq_true, Bool.not_eq_true', Nat.blt_eq, Bool.and_eq_false_iff, beq_eq_false_iff_ne] at this
    refine ⟨this.1.1, fun he => ?_, fun hh => ?_⟩
    · rcases this.1.2 with h1 | h1
      · rw [h1] at he; cases he
      · exact h1
    · have h3 : Nat.blt 0 i = true := by rw [Nat.blt_eq]; exact hh.2.1
      rcases this.2 with (h1 | h1) | h1
      · exact h1 hh.1
      · rw [h3] at h1; cases h1
      · exact h1 hh.2.2
  · intro h i hi
    obtain ⟨h1, h2, h3⟩ := h i (List.mem_range.1 hi)
    simp only [Bool.and_eq_true, Bool.or_eq_true, Bool.not_eq_true', Nat.blt_eq, Bool.and_eq_false_iff, beq_eq_false_iff_ne]
    refine ⟨⟨h1, ?_⟩, ?_⟩
    · cases he : edge (s.getD i 0) with
      | false => exact .inl rfl
      | true => exact .inr (h2 he)
    · by_cases e1 : s.getD i 0 = 46
      · by_cases e2 : s.getD (i - 1) 0 = 46
        · left; right
          cases hb : Nat.blt 0 i with
          | false => rfl
          | true => rw [Nat.blt_eq] at hb; exact absurd ⟨e1, hb, e2⟩ h3
        · exact .inr e2
      · exact .inl (.inl e1)
theorem okP_eq (inn edge : UInt8 → Bool) (s : Tx) : okP inn edge s = (s.all inn && decide (trimS edge s = s) && !dd s) := by
  rw [Bool.eq_iff_iff, okP_iff, Bool.and_eq_true, Bool.and_eq_true, all_iff, decide_eq_true_eq, trimS_eq, Bool.not_eq_true', dd_iff]
  constructor
  · intro h
    refine ⟨⟨fun i hi => (h i hi).1, fun i hi => (h i hi).2.1⟩, fun i hi hh => ?_⟩
    by_cases hj : i + 1 < s.length
    · exact (h (i + 1) hj).2.2 ⟨hh.2, by omega, by simpa using hh.1⟩
    · have : s.getD (i + 1) 0 = 0 := by simp [List.getD, show s.length ≤ i + 1 by omega]
      rw [this] at hh; exact absurd hh.2 (by decide)
  · rintro ⟨⟨h1, h2⟩, h3⟩ i hi
    refine ⟨h1 i hi, h2 i hi, fun hh => ?_⟩
    exact h3 (i - 1) (by omega) ⟨hh.2.2, by rw [show i - 1 + 1 = i by omega]; exact hh.1⟩
theorem dropWhile_all {p : UInt8 → Bool} : ∀ {l : Tx}, l.all p = true → l.dropWhile p = []
  | [], _ => rfl
  | x :: r, h => by
    simp only [List.all_cons, Bool.and_eq_true] at h
    rw [List.dropWhile_cons, if_pos h.1]
    exact dropWhile_all h.2
theorem trimS_all {p : UInt8 → Bool} {s : Tx} (h : s.all p = true) : trimS p s = [] := by
  have : rtr p s = [] := by
    unfold rtr
    have : s.reverse.all p = true := by rw [List.all_reverse]; exact h
    rw [dropWhile_all this]; rfl
  unfold trimS; rw [this]; rfl
theorem eq_dec {z a b : Int} (h : z = fnD 4 [a, b]) : decide (z = 1) = decide (sOf a = sOf b) := by
  rw [h]; simp only [fnD]
  by_cases e : sOf a = sOf b <;> simp [e]
theorem nn_dec {z a : Int} (h : z = fnD 4 [a, 0]) : (!decide (z = 1)) = Nat.blt 0 (sOf a).length := by
  rw [eq_nil h]
  cases sOf a with
  | nil => rfl
  | cons x r => simp
theorem len_dec {z a n : Int} (m : Nat) (hm : n = (m : Int)) (h : z = fnD 0 [a]) : decide (z ≤ n) = Nat.ble (sOf a).length m := by
  rw [h, hm]; simp only [fnD]
  rw [Bool.eq_iff_iff, decide_eq_true_eq, Nat.ble_eq]; omega
theorem len_gt {z a n : Int} (m : Nat) (hm : n = (m : Int)) (h : z = fnD 0 [a]) : decide (n < z) = !Nat.ble (sOf a).length m := by
  rw [h, hm]; simp only [fnD]
  rw [Bool.eq_iff_iff, decide_eq_true_eq, Bool.not_eq_true', ← Bool.not_eq_true, Nat.ble_eq]; omega
theorem b01_dec {z : Int} {b : Bool} (h : z = b01 b) : decide (z = 1) = b := by rw [h, b01_one]
theorem kb {id : Nat} {zs : List (List Int)} {b : Bool} (h : SB id zs [[b01 b]]) : KBv SB [.bool] id zs [[b01 b]] := ⟨⟨(b01_bd b).1, (b01_bd b).2, trivial⟩, h⟩
theorem only_host (s : Tx) {n : Int} (hn : ∀ c, (sOf n).contains c = inHost c) : (s.all fun c => (sOf n).contains c) = s.all inHost := by
  congr 1; funext c; exact hn c
theorem p_host : B_host SB (KBv SB [.bool] 47) := by
  intro z0 a0 a1 z1 b0 b1 h1
  have kk : ∀ b : Bool, hostb (sOf z0) = b → KBv SB [.bool] 47 [[z0]] [[b01 b]] := fun b h => kb (by show b01 b = b01 (hostb (sOf z0)); rw [h])
  refine ⟨fun hp z2 c0 c1 h2 => ⟨fun hq z3 d0 d1 h3 z4 e0 e1 h4 => ⟨fun hr z5 f0 f1 h5 => ?_, fun hr => kk false ?_⟩, fun hq => kk false ?_⟩, fun hp => kk false ?_⟩
  · rw [nn_dec h1] at hp
    rw [len_dec (n := 230) 230 rfl h2] at hq
    have h5 : z5 = b01 ((sOf z0).all fun c => (sOf _).contains c) := h5
    rw [only_host (sOf z0) (allB256 (by decide +kernel))] at h5
    rw [b01_dec h5]
    refine ⟨fun hs z6 g0 g1 h6 z7 i0 i1 h7 => ?_, fun hs => kk false ?_⟩
    · have h6 : sOf z6 = trimS edgeH (sOf z0) := h6
      rw [eq_dec h7, h6]
      refine ⟨fun ht => ⟨?_, fun z8 j0 j1 h8 => ?_⟩, fun ht => kk false ?_⟩
      · show (sOf z0).length ≤ 4294967280
        rw [Nat.ble_eq] at hq; omega
      · have h8 : z8 = b01 (dd (sOf z0)) := h8
        rw [b01_dec h8]
        refine kk _ ?_
        unfold hostb; rw [hp, hq, okP_eq, hs, ht]; rfl
      · unfold hostb; rw [okP_eq, ht]; simp
    · unfold hostb; rw [okP_eq, hs]; simp
  · have h3 : sOf z3 = trimS inHost (sOf z0) := h3
    rw [eq_nil h4, h3] at hr
    unfold hostb; rw [okP_eq]
    cases ha : (sOf z0).all inHost with
    | false => simp
    | true => rw [trimS_all ha] at hr; simp at hr
  · rw [len_dec (n := 230) 230 rfl h2] at hq
    unfold hostb; rw [hq]; simp
  · rw [nn_dec h1] at hp
    unfold hostb; rw [hp]; rfl
theorem p_local : B_local SB (KBv SB [.bool] 24) := by
  intro z0 a0 a1 z1 b0 b1 h1
  have kk : ∀ b : Bool, localb (sOf z0) = b → KBv SB [.bool] 24 [[z0]] [[b01 b]] := fun b h => kb (by show b01 b = b01 (localb (sOf z0)); rw [h])
  have hn := nn_dec h1
  refine ⟨fun hp => kk false ?_, fun hp z2 c0 c1 h2 => ⟨fun hq => kk false ?_, fun hq z3 d0 d1 h3 => ?_⟩⟩
  · rw [hp] at hn; unfold localb; rw [← hn]; rfl
  · rw [len_gt (n := 64) 64 rfl h2, Bool.not_eq_true'] at hq
    unfold localb; rw [hq]; simp
  · rw [len_gt (n := 64) 64 rfl h2, Bool.not_eq_false'] at hq
    rw [hp] at hn
    have h3 : z3 = b01 ((sOf z0).all fun c => (sOf _).contains c) := h3
    have e : ((sOf z0).all fun c => (sOf 74473080028620518966381883429228484808440201678127597570840141201138927665149786990616077870556514776478160775702785383470653111892427074463158448094822482491594731032954821022169486867841687777697).contains c) = (sOf z0).all inLocal := congrArg (List.all (sOf z0)) (funext (allB256 (p := inLocal) (by decide +kernel)))
    rw [e] at h3
    rw [b01_dec h3]
    refine ⟨fun hs => kk false ?_, fun hs z4 e0 e1 h4 z5 f0 f1 h5 => ?_⟩
    · have hs : (sOf z0).all inLocal = false := by simpa using hs
      unfold localb; rw [okP_eq, hs]; simp
    · have hs : (sOf z0).all inLocal = true := by simpa using hs
      have h4 : sOf z4 = trimS (· == 46) (sOf z0) := h4
      rw [eq_dec h5, h4]
      refine ⟨fun ht => ⟨?_, fun z8 j0 j1 h8 => ?_⟩, fun ht => kk false ?_⟩
      · show (sOf z0).length ≤ 4294967280
        rw [Nat.ble_eq] at hq; omega
      · have h8 : z8 = b01 (dd (sOf z0)) := h8
        rw [b01_dec h8]
        refine kk _ ?_
        unfold localb; rw [← hn, hq, okP_eq, hs, ht]; rfl
      · unfold localb; rw [okP_eq, ht]; simp
end Go.Ad
