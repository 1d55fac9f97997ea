/- Numbers: a number whose remainders are the powers of one of them; Fermat's law for it; the modulus and the order. -/
set_option linter.unusedVariables false
set_option linter.unusedSimpArgs false
namespace Go.Nt

/-- Each remainder but 0 has an inverse. -/
def Fld (n : Nat) : Prop := 1 < n ∧ ∀ a, a % n ≠ 0 → ∃ b, a * b % n = 1
/-- Each remainder but 0 is a power of g, and the (n - 1)th power of g is 1. -/
def Gen (n g : Nat) : Prop := 1 < n ∧ g ^ (n - 1) % n = 1 ∧ ∀ a, a % n ≠ 0 → ∃ k, g ^ k % n = a % n

def pm : Nat → Nat → Nat → Nat → Nat
  | 0, _, _, n => 1 % n
  | f + 1, b, e, n => bif e % 2 == 1 then pm f (b * b % n) (e / 2) n * b % n else pm f (b * b % n) (e / 2) n
theorem pm_eq : ∀ (f b e n : Nat), e < 2 ^ f → pm f b e n = b ^ e % n
  | 0, b, e, n, h => by
    have : e = 0 := by simpa using h
    subst this; rfl
  | f + 1, b, e, n, h => by
    have ih := pm_eq f (b * b % n) (e / 2) n (by rw [Nat.pow_succ] at h; omega)
    have e1 : (b * b % n) ^ (e / 2) % n = b ^ (2 * (e / 2)) % n := by
      rw [← Nat.pow_mod, Nat.pow_mul, Nat.pow_two]
    rw [e1] at ih
    unfold pm
    rw [ih]
    cases hh : (e % 2 == 1) with
    | true =>
      have h1 : e % 2 = 1 := by simpa using hh
      simp only [cond_true]
      conv => rhs; rw [show e = 2 * (e / 2) + 1 by omega, Nat.pow_succ]
      rw [Nat.mul_mod, Nat.mod_mod, ← Nat.mul_mod]
    | false =>
      have h1 : ¬ e % 2 = 1 := by simpa using hh
      simp only [cond_false]
      conv => rhs; rw [show e = 2 * (e / 2) by omega]

theorem php : ∀ (N : Nat) (f : Nat → Nat), (∀ i, i < N → f i < N) → (∀ i, i < N → ∀ j, j < N → f i = f j → i = j) → ∀ y, y < N → ∃ i, i < N ∧ f i = y
  | 0, _, _, _, y, h => by omega
  | N + 1, f, hr, hi, y, hy => by
    have hv : ∀ i, i < N → f i ≠ f N := fun i h e => by have := hi i (by omega) N (by omega) e; omega
    have key := php N (fun i => if f i = N then f N else f i) (fun i h => by
      have h1 := hr i (by omega)
      have h2 := hr N (by omega)
      have h3 := hv i h
      show (if f i = N then f N else f i) < N
      split <;> omega) (fun i h j h' e => by
      have h3 := hv i h
      have h4 := hv j h'
      apply hi i (by omega) j (by omega)
      split at e <;> split at e <;> omega)
    by_cases hyN : y = N
    · by_cases hN : f N = N
      · exact ⟨N, by omega, by omega⟩
      · obtain ⟨i, h1, h2⟩ := key (f N) (by have := hr N (by omega); omega)
        split at h2
        · rename_i h3
          exact ⟨i, by omega, by omega⟩
        · exact absurd h2 (hv i h1)
    · obtain ⟨i, h1, h2⟩ := key y (by omega)
      split at h2
      · exact ⟨N, by omega, h2⟩
      · exact ⟨i, by omega, h2⟩

theorem least {p : Nat → Prop} : ∀ n, p n → ∃ m, m ≤ n ∧ p m ∧ ∀ k, k < m → ¬ p k := by
  intro n
  induction n using Nat.strongRecOn with
  | _ n ih =>
    intro hn
    by_cases h : ∃ k, k < n ∧ p k
    · obtain ⟨k, hk, hp⟩ := h
      obtain ⟨m, h1, h2, h3⟩ := ih k hk hp
      exact ⟨m, by omega, h2, h3⟩
    · exact ⟨n, Nat.le_refl _, hn, fun k hk hp => h ⟨k, hk, hp⟩⟩

theorem pow_one_mod {n g d : Nat} (hn : 1 < n) (h : g ^ d % n = 1) (k : Nat) : g ^ (d * k) % n = 1 := by
  rw [Nat.pow_mul, Nat.pow_mod, h, Nat.one_pow, Nat.mod_eq_of_lt hn]
theorem coprime_of_fld {q m : Nat} (hq : Fld q) (hm : ¬ q ∣ m) : Nat.Coprime m q := by
  obtain ⟨b, hb⟩ := hq.2 m (fun h => hm (Nat.dvd_of_mod_eq_zero h))
  have h1 : Nat.gcd m q ∣ m * b := Nat.dvd_trans (Nat.gcd_dvd_left m q) (Nat.dvd_mul_right m b)
  have h2 : Nat.gcd m q ∣ m * b % q := (Nat.dvd_mod_iff (Nat.gcd_dvd_right m q)).2 h1
  rw [hb] at h2
  exact Nat.dvd_one.1 h2
def prodL : List Nat → Nat
  | [] => 1
  | q :: r => q * prodL r
theorem coprime_prod {m : Nat} : ∀ (fs : List Nat), (∀ q ∈ fs, Fld q) → (∀ q ∈ fs, ¬ q ∣ m) → Nat.Coprime m (prodL fs)
  | [], _, _ => Nat.coprime_one_right m
  | q :: r, h1, h2 => Nat.Coprime.mul_right (coprime_of_fld (h1 q (by simp)) (h2 q (by simp))) (coprime_prod r (fun x hx => h1 x (List.mem_cons_of_mem _ hx)) (fun x hx => h2 x (List.mem_cons_of_mem _ hx)))

/-- **A generator, out of its certificate.** -/
theorem gen_of {n g : Nat} {fs : List Nat} (hn : 2 < n) (hp : prodL fs = n - 1) (hf : ∀ q ∈ fs, Fld q) (h1 : g ^ (n - 1) % n = 1) (h2 : ∀ q ∈ fs, g ^ ((n - 1) / q) % n ≠ 1) : Gen n g := by
  have hn1 : 1 < n := by omega
  obtain ⟨d, hd1, ⟨hd2, hd3⟩, hd4⟩ := least (p := fun d => 0 < d ∧ g ^ d % n = 1) (n - 1) ⟨by omega, h1⟩
  -- the least exponent divides n - 1
  have hdvd : d ∣ n - 1 := by
    have hr : g ^ ((n - 1) % d) % n = 1 := by
      have e : g ^ (n - 1) % n = g ^ ((n - 1) % d) % n := by
        conv => lhs; rw [← Nat.div_add_mod (n - 1) d, Nat.pow_add, Nat.mul_mod, pow_one_mod hn1 hd3]
        rw [Nat.one_mul, Nat.mod_mod]
      rw [← e]; exact h1
    by_cases h0 : (n - 1) % d = 0
    · exact Nat.dvd_of_mod_eq_zero h0
    · exact absurd ⟨by omega, hr⟩ (hd4 ((n - 1) % d) (Nat.mod_lt _ hd2))
  obtain ⟨m, hm⟩ := hdvd
  have hd : d = n - 1 := by
    by_cases hm1 : m = 1
    · rw [hm, hm1, Nat.mul_one]
    · exfalso
      have hex : ∃ q, q ∈ fs ∧ q ∣ m := by
        apply Classical.byContradiction
        intro hno
        have hc := coprime_prod fs hf (fun q hq hqm => hno ⟨q, hq, hqm⟩)
        rw [hp] at hc
        have : m ∣ n - 1 := ⟨d, by rw [hm, Nat.mul_comm]⟩
        exact hm1 (Nat.Coprime.eq_one_of_dvd hc this)
      obtain ⟨q, hq, x, hx⟩ := hex
      have hq1 := (hf q hq).1
      apply h2 q hq
      have e : (n - 1) / q = d * x := by
        rw [hm, hx, show d * (q * x) = (d * x) * q by rw [Nat.mul_comm q x, Nat.mul_assoc]]
        exact Nat.mul_div_cancel _ (by omega)
      rw [e]
      exact pow_one_mod hn1 hd3 x
  subst hd
  refine ⟨hn1, h1, fun a ha => ?_⟩
  -- the powers below n - 1 are all different
  have hnz : ∀ i, i ≤ n - 1 → g ^ i % n ≠ 0 := fun i hi h0 => by
    have : g ^ (n - 1) % n = 0 := by
      rw [show n - 1 = i + (n - 1 - i) by omega, Nat.pow_add, Nat.mul_mod, h0, Nat.zero_mul, Nat.zero_mod]
    omega
  have hinj : ∀ i j, i < j → j < n - 1 → g ^ i % n ≠ g ^ j % n := fun i j hij hj he => by
    have : g ^ (j - i) % n = 1 := by
      have e1 : g ^ (j + (n - 1 - i)) % n = g ^ (i + (n - 1 - i)) % n := by
        rw [Nat.pow_add, Nat.pow_add, Nat.mul_mod, ← he, ← Nat.mul_mod]
      rw [show i + (n - 1 - i) = n - 1 by omega, h1, show j + (n - 1 - i) = (j - i) + (n - 1) by omega, Nat.pow_add, Nat.mul_mod, h1, Nat.mul_one, Nat.mod_mod] at e1
      exact e1
    exact hd4 (j - i) (by omega) ⟨by omega, this⟩
  obtain ⟨i, hi, he⟩ := php (n - 1) (fun i => g ^ i % n - 1) (fun i hi => by
    have := Nat.mod_lt (g ^ i) (show n > 0 by omega)
    have := hnz i (by omega)
    show g ^ i % n - 1 < n - 1
    omega) (fun i hi j hj e => by
    have h3 := hnz i (by omega)
    have h4 := hnz j (by omega)
    have e' : g ^ i % n = g ^ j % n := by omega
    rcases Nat.lt_trichotomy i j with h | h | h
    · exact absurd e' (hinj i j h hj)
    · exact h
    · exact absurd e'.symm (hinj j i h hi)) (a % n - 1) (by have := Nat.mod_lt a (show n > 0 by omega); omega)
  refine ⟨i, ?_⟩
  have := hnz i (by omega)
  omega
theorem Gen.fermat {n g a : Nat} (h : Gen n g) (ha : a % n ≠ 0) : a ^ (n - 1) % n = 1 := by
  obtain ⟨k, hk⟩ := h.2.2 a ha
  rw [Nat.pow_mod, ← hk, ← Nat.pow_mod, ← Nat.pow_mul, Nat.mul_comm]
  exact pow_one_mod h.1 h.2.1 k
theorem Gen.fld {n g : Nat} (hn : 2 < n) (h : Gen n g) : Fld n :=
  ⟨h.1, fun a ha => ⟨a ^ (n - 2), by
    have := h.fermat ha
    rw [show n - 1 = (n - 2) + 1 by omega, Nat.pow_succ, Nat.mul_comm] at this
    exact this⟩⟩
theorem fld_2 : Fld 2 := ⟨by decide, fun a h => ⟨1, by omega⟩⟩
theorem fld_3 : Fld 3 := ⟨by decide, fun a h => ⟨a % 3, by
  have : a % 3 = 1 ∨ a % 3 = 2 := by omega
  rcases this with h | h <;> rw [h] <;> omega⟩⟩
/-- A certificate that the kernel can look through. -/
def okB (n g : Nat) (fs : List Nat) : Bool := decide (2 < n) && decide (n - 1 < 2 ^ 256) && decide (prodL fs = n - 1) && decide (pm 256 g (n - 1) n = 1) && fs.all fun q => decide (1 < q) && decide (pm 256 g ((n - 1) / q) n ≠ 1)
theorem gen_ok {n g : Nat} {fs : List Nat} (h : okB n g fs = true) (hf : ∀ q ∈ fs, Fld q) : Gen n g := by
  simp only [okB, Bool.and_eq_true, decide_eq_true_eq, List.all_eq_true] at h
  obtain ⟨⟨⟨⟨h1, h2⟩, h3⟩, h4⟩, h5⟩ := h
  refine gen_of h1 h3 hf ?_ fun q hq => ?_
  · rw [← pm_eq 256 g (n - 1) n h2]; exact h4
  · have := (h5 q hq).2
    rwa [pm_eq 256 g ((n - 1) / q) n (Nat.lt_of_le_of_lt (Nat.div_le_self _ _) h2)] at this
theorem fld_ok {n g : Nat} {fs : List Nat} (h : okB n g fs = true) (hf : ∀ q ∈ fs, Fld q) : Fld n := by
  have h1 : 2 < n := by
    simp only [okB, Bool.and_eq_true, decide_eq_true_eq] at h
    exact h.1.1.1.1
  exact (gen_ok h hf).fld h1
theorem all_nil : ∀ q ∈ ([] : List Nat), Fld q := fun _ h => by cases h
theorem all_cons {x : Nat} {l : List Nat} (h : Fld x) (h' : ∀ q ∈ l, Fld q) : ∀ q ∈ x :: l, Fld q := fun q hq => by
  rcases List.mem_cons.1 hq with rfl | hq
  · exact h
  · exact h' q hq
theorem fld_5 : Fld 5 := fld_ok (g := 2) (fs := [2, 2]) (by decide +kernel) (all_cons fld_2 (all_cons fld_2 all_nil))
theorem fld_7 : Fld 7 := fld_ok (g := 3) (fs := [2, 3]) (by decide +kernel) (all_cons fld_2 (all_cons fld_3 all_nil))
theorem fld_11 : Fld 11 := fld_ok (g := 2) (fs := [2, 5]) (by decide +kernel) (all_cons fld_2 (all_cons fld_5 all_nil))
theorem fld_13 : Fld 13 := fld_ok (g := 2) (fs := [2, 2, 3]) (by decide +kernel) (all_cons fld_2 (all_cons fld_2 (all_cons fld_3 all_nil)))
theorem fld_17 : Fld 17 := fld_ok (g := 3) (fs := [2, 2, 2, 2]) (by decide +kernel) (all_cons fld_2 (all_cons fld_2 (all_cons fld_2 (all_cons fld_2 all_nil))))
theorem fld_19 : Fld 19 := fld_ok (g := 2) (fs := [2, 3, 3]) (by decide +kernel) (all_cons fld_2 (all_cons fld_3 (all_cons fld_3 all_nil)))
theorem fld_23 : Fld 23 := fld_ok (g := 5) (fs := [2, 11]) (by decide +kernel) (all_cons fld_2 (all_cons fld_11 all_nil))
theorem fld_29 : Fld 29 := fld_ok (g := 2) (fs := [2, 2, 7]) (by decide +kernel) (all_cons fld_2 (all_cons fld_2 (all_cons fld_7 all_nil)))
theorem fld_31 : Fld 31 := fld_ok (g := 3) (fs := [2, 3, 5]) (by decide +kernel) (all_cons fld_2 (all_cons fld_3 (all_cons fld_5 all_nil)))
theorem fld_37 : Fld 37 := fld_ok (g := 2) (fs := [2, 2, 3, 3]) (by decide +kernel) (all_cons fld_2 (all_cons fld_2 (all_cons fld_3 (all_cons fld_3 all_nil))))
theorem fld_41 : Fld 41 := fld_ok (g := 6) (fs := [2, 2, 2, 5]) (by decide +kernel) (all_cons fld_2 (all_cons fld_2 (all_cons fld_2 (all_cons fld_5 all_nil))))
theorem fld_43 : Fld 43 := fld_ok (g := 3) (fs := [2, 3, 7]) (by decide +kernel) (all_cons fld_2 (all_cons fld_3 (all_cons fld_7 all_nil)))
theorem fld_47 : Fld 47 := fld_ok (g := 5) (fs := [2, 23]) (by decide +kernel) (all_cons fld_2 (all_cons fld_23 all_nil))
theorem fld_53 : Fld 53 := fld_ok (g := 2) (fs := [2, 2, 13]) (by decide +kernel) (all_cons fld_2 (all_cons fld_2 (all_cons fld_13 all_nil)))
theorem fld_59 : Fld 59 := fld_ok (g := 2) (fs := [2, 29]) (by decide +kernel) (all_cons fld_2 (all_cons fld_29 all_nil))
theorem fld_67 : Fld 67 := fld_ok (g := 2) (fs := [2, 3, 11]) (by decide +kernel) (all_cons fld_2 (all_cons fld_3 (all_cons fld_11 all_nil)))
theorem fld_73 : Fld 73 := fld_ok (g := 5) (fs := [2, 2, 2, 3, 3]) (by decide +kernel) (all_cons fld_2 (all_cons fld_2 (all_cons fld_2 (all_cons fld_3 (all_cons fld_3 all_nil)))))
theorem fld_79 : Fld 79 := fld_ok (g := 3) (fs := [2, 3, 13]) (by decide +kernel) (all_cons fld_2 (all_cons fld_3 (all_cons fld_13 all_nil)))
theorem fld_83 : Fld 83 := fld_ok (g := 2) (fs := [2, 41]) (by decide +kernel) (all_cons fld_2 (all_cons fld_41 all_nil))
theorem fld_97 : Fld 97 := fld_ok (g := 5) (fs := [2, 2, 2, 2, 2, 3]) (by decide +kernel) (all_cons fld_2 (all_cons fld_2 (all_cons fld_2 (all_cons fld_2 (all_cons fld_2 (all_cons fld_3 all_nil))))))
theorem fld_103 : Fld 103 := fld_ok (g := 5) (fs := [2, 3, 17]) (by decide +kernel) (all_cons fld_2 (all_cons fld_3 (all_cons fld_17 all_nil)))
theorem fld_107 : Fld 107 := fld_ok (g := 2) (fs := [2, 53]) (by decide +kernel) (all_cons fld_2 (all_cons fld_53 all_nil))
theorem fld_113 : Fld 113 := fld_ok (g := 3) (fs := [2, 2, 2, 2, 7]) (by decide +kernel) (all_cons fld_2 (all_cons fld_2 (all_cons fld_2 (all_cons fld_2 (all_cons fld_7 all_nil)))))
theorem fld_127 : Fld 127 := fld_ok (g := 3) (fs := [2, 3, 3, 7]) (by decide +kernel) (all_cons fld_2 (all_cons fld_3 (all_cons fld_3 (all_cons fld_7 all_nil))))
theorem fld_131 : Fld 131 := fld_ok (g := 2) (fs := [2, 5, 13]) (by decide +kernel) (all_cons fld_2 (all_cons fld_5 (all_cons fld_13 all_nil)))
theorem fld_173 : Fld 173 := fld_ok (g := 2) (fs := [2, 2, 43]) (by decide +kernel) (all_cons fld_2 (all_cons fld_2 (all_cons fld_43 all_nil)))
theorem fld_223 : Fld 223 := fld_ok (g := 3) (fs := [2, 3, 37]) (by decide +kernel) (all_cons fld_2 (all_cons fld_3 (all_cons fld_37 all_nil)))
theorem fld_239 : Fld 239 := fld_ok (g := 7) (fs := [2, 7, 17]) (by decide +kernel) (all_cons fld_2 (all_cons fld_7 (all_cons fld_17 all_nil)))
theorem fld_269 : Fld 269 := fld_ok (g := 2) (fs := [2, 2, 67]) (by decide +kernel) (all_cons fld_2 (all_cons fld_2 (all_cons fld_67 all_nil)))
theorem fld_307 : Fld 307 := fld_ok (g := 5) (fs := [2, 3, 3, 17]) (by decide +kernel) (all_cons fld_2 (all_cons fld_3 (all_cons fld_3 (all_cons fld_17 all_nil))))
theorem fld_353 : Fld 353 := fld_ok (g := 3) (fs := [2, 2, 2, 2, 2, 11]) (by decide +kernel) (all_cons fld_2 (all_cons fld_2 (all_cons fld_2 (all_cons fld_2 (all_cons fld_2 (all_cons fld_11 all_nil))))))
theorem fld_419 : Fld 419 := fld_ok (g := 2) (fs := [2, 11, 19]) (by decide +kernel) (all_cons fld_2 (all_cons fld_11 (all_cons fld_19 all_nil)))
theorem fld_479 : Fld 479 := fld_ok (g := 13) (fs := [2, 239]) (by decide +kernel) (all_cons fld_2 (all_cons fld_239 all_nil))
theorem fld_487 : Fld 487 := fld_ok (g := 3) (fs := [2, 3, 3, 3, 3, 3]) (by decide +kernel) (all_cons fld_2 (all_cons fld_3 (all_cons fld_3 (all_cons fld_3 (all_cons fld_3 (all_cons fld_3 all_nil))))))
theorem fld_991 : Fld 991 := fld_ok (g := 6) (fs := [2, 3, 3, 5, 11]) (by decide +kernel) (all_cons fld_2 (all_cons fld_3 (all_cons fld_3 (all_cons fld_5 (all_cons fld_11 all_nil)))))
theorem fld_1361 : Fld 1361 := fld_ok (g := 3) (fs := [2, 2, 2, 2, 5, 17]) (by decide +kernel) (all_cons fld_2 (all_cons fld_2 (all_cons fld_2 (all_cons fld_2 (all_cons fld_5 (all_cons fld_17 all_nil))))))
theorem fld_1723 : Fld 1723 := fld_ok (g := 3) (fs := [2, 3, 7, 41]) (by decide +kernel) (all_cons fld_2 (all_cons fld_3 (all_cons fld_7 (all_cons fld_41 all_nil))))
theorem fld_2437 : Fld 2437 := fld_ok (g := 2) (fs := [2, 2, 3, 7, 29]) (by decide +kernel) (all_cons fld_2 (all_cons fld_2 (all_cons fld_3 (all_cons fld_7 (all_cons fld_29 all_nil)))))
theorem fld_2551 : Fld 2551 := fld_ok (g := 6) (fs := [2, 3, 5, 5, 17]) (by decide +kernel) (all_cons fld_2 (all_cons fld_3 (all_cons fld_5 (all_cons fld_5 (all_cons fld_17 all_nil)))))
theorem fld_2851 : Fld 2851 := fld_ok (g := 2) (fs := [2, 3, 5, 5, 19]) (by decide +kernel) (all_cons fld_2 (all_cons fld_3 (all_cons fld_5 (all_cons fld_5 (all_cons fld_19 all_nil)))))
theorem fld_2939 : Fld 2939 := fld_ok (g := 2) (fs := [2, 13, 113]) (by decide +kernel) (all_cons fld_2 (all_cons fld_13 (all_cons fld_113 all_nil)))
theorem fld_3727 : Fld 3727 := fld_ok (g := 3) (fs := [2, 3, 3, 3, 3, 23]) (by decide +kernel) (all_cons fld_2 (all_cons fld_3 (all_cons fld_3 (all_cons fld_3 (all_cons fld_3 (all_cons fld_23 all_nil))))))
theorem fld_3797 : Fld 3797 := fld_ok (g := 2) (fs := [2, 2, 13, 73]) (by decide +kernel) (all_cons fld_2 (all_cons fld_2 (all_cons fld_13 (all_cons fld_73 all_nil))))
theorem fld_4153 : Fld 4153 := fld_ok (g := 5) (fs := [2, 2, 2, 3, 173]) (by decide +kernel) (all_cons fld_2 (all_cons fld_2 (all_cons fld_2 (all_cons fld_3 (all_cons fld_173 all_nil)))))
theorem fld_5879 : Fld 5879 := fld_ok (g := 11) (fs := [2, 2939]) (by decide +kernel) (all_cons fld_2 (all_cons fld_2939 all_nil))
theorem fld_9463 : Fld 9463 := fld_ok (g := 3) (fs := [2, 3, 19, 83]) (by decide +kernel) (all_cons fld_2 (all_cons fld_3 (all_cons fld_19 (all_cons fld_83 all_nil))))
theorem fld_17231 : Fld 17231 := fld_ok (g := 13) (fs := [2, 5, 1723]) (by decide +kernel) (all_cons fld_2 (all_cons fld_5 (all_cons fld_1723 all_nil)))
theorem fld_22111 : Fld 22111 := fld_ok (g := 6) (fs := [2, 3, 5, 11, 67]) (by decide +kernel) (all_cons fld_2 (all_cons fld_3 (all_cons fld_5 (all_cons fld_11 (all_cons fld_67 all_nil)))))
theorem fld_30703 : Fld 30703 := fld_ok (g := 3) (fs := [2, 3, 7, 17, 43]) (by decide +kernel) (all_cons fld_2 (all_cons fld_3 (all_cons fld_7 (all_cons fld_17 (all_cons fld_43 all_nil)))))
theorem fld_32573 : Fld 32573 := fld_ok (g := 2) (fs := [2, 2, 17, 479]) (by decide +kernel) (all_cons fld_2 (all_cons fld_2 (all_cons fld_17 (all_cons fld_479 all_nil))))
theorem fld_34123 : Fld 34123 := fld_ok (g := 2) (fs := [2, 3, 11, 11, 47]) (by decide +kernel) (all_cons fld_2 (all_cons fld_3 (all_cons fld_11 (all_cons fld_11 (all_cons fld_47 all_nil)))))
theorem fld_37853 : Fld 37853 := fld_ok (g := 2) (fs := [2, 2, 9463]) (by decide +kernel) (all_cons fld_2 (all_cons fld_2 (all_cons fld_9463 all_nil)))
theorem fld_41081 : Fld 41081 := fld_ok (g := 3) (fs := [2, 2, 2, 5, 13, 79]) (by decide +kernel) (all_cons fld_2 (all_cons fld_2 (all_cons fld_2 (all_cons fld_5 (all_cons fld_13 (all_cons fld_79 all_nil))))))
theorem fld_57467 : Fld 57467 := fld_ok (g := 2) (fs := [2, 59, 487]) (by decide +kernel) (all_cons fld_2 (all_cons fld_59 (all_cons fld_487 all_nil)))
theorem fld_65147 : Fld 65147 := fld_ok (g := 2) (fs := [2, 32573]) (by decide +kernel) (all_cons fld_2 (all_cons fld_32573 all_nil))
theorem fld_75707 : Fld 75707 := fld_ok (g := 2) (fs := [2, 37853]) (by decide +kernel) (all_cons fld_2 (all_cons fld_37853 all_nil))
theorem fld_82163 : Fld 82163 := fld_ok (g := 2) (fs := [2, 41081]) (by decide +kernel) (all_cons fld_2 (all_cons fld_41081 all_nil))
theorem fld_132049 : Fld 132049 := fld_ok (g := 26) (fs := [2, 2, 2, 2, 3, 3, 7, 131]) (by decide +kernel) (all_cons fld_2 (all_cons fld_2 (all_cons fld_2 (all_cons fld_2 (all_cons fld_3 (all_cons fld_3 (all_cons fld_7 (all_cons fld_131 all_nil))))))))
theorem fld_132667 : Fld 132667 := fld_ok (g := 5) (fs := [2, 3, 22111]) (by decide +kernel) (all_cons fld_2 (all_cons fld_3 (all_cons fld_22111 all_nil)))
theorem fld_137849 : Fld 137849 := fld_ok (g := 3) (fs := [2, 2, 2, 17231]) (by decide +kernel) (all_cons fld_2 (all_cons fld_2 (all_cons fld_2 (all_cons fld_17231 all_nil))))
theorem fld_409477 : Fld 409477 := fld_ok (g := 2) (fs := [2, 2, 3, 34123]) (by decide +kernel) (all_cons fld_2 (all_cons fld_2 (all_cons fld_3 (all_cons fld_34123 all_nil))))
theorem fld_430751 : Fld 430751 := fld_ok (g := 17) (fs := [2, 5, 5, 5, 1723]) (by decide +kernel) (all_cons fld_2 (all_cons fld_5 (all_cons fld_5 (all_cons fld_5 (all_cons fld_1723 all_nil)))))
theorem fld_531581 : Fld 531581 := fld_ok (g := 2) (fs := [2, 2, 5, 7, 3797]) (by decide +kernel) (all_cons fld_2 (all_cons fld_2 (all_cons fld_5 (all_cons fld_7 (all_cons fld_3797 all_nil)))))
theorem fld_569003 : Fld 569003 := fld_ok (g := 2) (fs := [2, 7, 97, 419]) (by decide +kernel) (all_cons fld_2 (all_cons fld_7 (all_cons fld_97 (all_cons fld_419 all_nil))))
theorem fld_1224481 : Fld 1224481 := fld_ok (g := 13) (fs := [2, 2, 2, 2, 2, 3, 5, 2551]) (by decide +kernel) (all_cons fld_2 (all_cons fld_2 (all_cons fld_2 (all_cons fld_2 (all_cons fld_2 (all_cons fld_3 (all_cons fld_5 (all_cons fld_2551 all_nil))))))))
theorem fld_1923133 : Fld 1923133 := fld_ok (g := 2) (fs := [2, 2, 3, 43, 3727]) (by decide +kernel) (all_cons fld_2 (all_cons fld_2 (all_cons fld_3 (all_cons fld_43 (all_cons fld_3727 all_nil)))))
theorem fld_8574133 : Fld 8574133 := fld_ok (g := 2) (fs := [2, 2, 3, 7, 103, 991]) (by decide +kernel) (all_cons fld_2 (all_cons fld_2 (all_cons fld_3 (all_cons fld_7 (all_cons fld_103 (all_cons fld_991 all_nil))))))
theorem fld_14741173 : Fld 14741173 := fld_ok (g := 2) (fs := [2, 2, 3, 3, 409477]) (by decide +kernel) (all_cons fld_2 (all_cons fld_2 (all_cons fld_3 (all_cons fld_3 (all_cons fld_409477 all_nil)))))
theorem fld_58964693 : Fld 58964693 := fld_ok (g := 2) (fs := [2, 2, 14741173]) (by decide +kernel) (all_cons fld_2 (all_cons fld_2 (all_cons fld_14741173 all_nil)))
theorem fld_292386187 : Fld 292386187 := fld_ok (g := 2) (fs := [2, 3, 3, 3, 3, 307, 5879]) (by decide +kernel) (all_cons fld_2 (all_cons fld_3 (all_cons fld_3 (all_cons fld_3 (all_cons fld_3 (all_cons fld_307 (all_cons fld_5879 all_nil)))))))
theorem fld_2773320623 : Fld 2773320623 := fld_ok (g := 5) (fs := [2, 2437, 569003]) (by decide +kernel) (all_cons fld_2 (all_cons fld_2437 (all_cons fld_569003 all_nil)))
theorem fld_72106336199 : Fld 72106336199 := fld_ok (g := 7) (fs := [2, 13, 2773320623]) (by decide +kernel) (all_cons fld_2 (all_cons fld_13 (all_cons fld_2773320623 all_nil)))
theorem fld_213441916511 : Fld 213441916511 := fld_ok (g := 13) (fs := [2, 5, 73, 292386187]) (by decide +kernel) (all_cons fld_2 (all_cons fld_5 (all_cons fld_73 (all_cons fld_292386187 all_nil))))
theorem fld_1257559732178653 : Fld 1257559732178653 := fld_ok (g := 2) (fs := [2, 2, 3, 7, 23, 531581, 1224481]) (by decide +kernel) (all_cons fld_2 (all_cons fld_2 (all_cons fld_3 (all_cons fld_7 (all_cons fld_23 (all_cons fld_531581 (all_cons fld_1224481 all_nil)))))))
theorem fld_1919519569386763 : Fld 1919519569386763 := fld_ok (g := 2) (fs := [2, 3, 7, 19, 47, 47, 127, 8574133]) (by decide +kernel) (all_cons fld_2 (all_cons fld_3 (all_cons fld_7 (all_cons fld_19 (all_cons fld_47 (all_cons fld_47 (all_cons fld_127 (all_cons fld_8574133 all_nil))))))))
theorem fld_31757755568855353 : Fld 31757755568855353 := fld_ok (g := 10) (fs := [2, 2, 2, 3, 31, 107, 223, 4153, 430751]) (by decide +kernel) (all_cons fld_2 (all_cons fld_2 (all_cons fld_2 (all_cons fld_3 (all_cons fld_31 (all_cons fld_107 (all_cons fld_223 (all_cons fld_4153 (all_cons fld_430751 all_nil)))))))))
theorem fld_4434155615661930479 : Fld 4434155615661930479 := fld_ok (g := 17) (fs := [2, 41, 43, 1257559732178653]) (by decide +kernel) (all_cons fld_2 (all_cons fld_41 (all_cons fld_43 (all_cons fld_1257559732178653 all_nil))))
theorem fld_3044861653679985063343 : Fld 3044861653679985063343 := fld_ok (g := 5) (fs := [2, 3, 11, 30703, 82163, 132667, 137849]) (by decide +kernel) (all_cons fld_2 (all_cons fld_3 (all_cons fld_11 (all_cons fld_30703 (all_cons fld_82163 (all_cons fld_132667 (all_cons fld_137849 all_nil)))))))
theorem fld_172054593956031949258510691 : Fld 172054593956031949258510691 := fld_ok (g := 2) (fs := [2, 5, 1361, 2851, 4434155615661930479]) (by decide +kernel) (all_cons fld_2 (all_cons fld_5 (all_cons fld_1361 (all_cons fld_2851 (all_cons fld_4434155615661930479 all_nil)))))
theorem fld_198211423230930754013084525763697 : Fld 198211423230930754013084525763697 := fld_ok (g := 5) (fs := [2, 2, 2, 2, 3, 23, 58964693, 3044861653679985063343]) (by decide +kernel) (all_cons fld_2 (all_cons fld_2 (all_cons fld_2 (all_cons fld_2 (all_cons fld_3 (all_cons fld_23 (all_cons fld_58964693 (all_cons fld_3044861653679985063343 all_nil))))))))
theorem fld_75445702479781427272750846543864801 : Fld 75445702479781427272750846543864801 := fld_ok (g := 7) (fs := [2, 2, 2, 2, 2, 3, 3, 5, 5, 75707, 72106336199, 1919519569386763]) (by decide +kernel) (all_cons fld_2 (all_cons fld_2 (all_cons fld_2 (all_cons fld_2 (all_cons fld_2 (all_cons fld_3 (all_cons fld_3 (all_cons fld_5 (all_cons fld_5 (all_cons fld_75707 (all_cons fld_72106336199 (all_cons fld_1919519569386763 all_nil))))))))))))
theorem fld_19757330305831588566944191468367130476339 : Fld 19757330305831588566944191468367130476339 := fld_ok (g := 2) (fs := [2, 269, 213441916511, 172054593956031949258510691]) (by decide +kernel) (all_cons fld_2 (all_cons fld_269 (all_cons fld_213441916511 (all_cons fld_172054593956031949258510691 all_nil))))
theorem fld_276602624281642239937218680557139826668747 : Fld 276602624281642239937218680557139826668747 := fld_ok (g := 2) (fs := [2, 7, 19757330305831588566944191468367130476339]) (by decide +kernel) (all_cons fld_2 (all_cons fld_7 (all_cons fld_19757330305831588566944191468367130476339 all_nil)))
theorem fld_74058212732561358302231226437062788676166966415465897661863160754340907 : Fld 74058212732561358302231226437062788676166966415465897661863160754340907 := fld_ok (g := 2) (fs := [2, 3, 353, 57467, 132049, 1923133, 31757755568855353, 75445702479781427272750846543864801]) (by decide +kernel) (all_cons fld_2 (all_cons fld_3 (all_cons fld_353 (all_cons fld_57467 (all_cons fld_132049 (all_cons fld_1923133 (all_cons fld_31757755568855353 (all_cons fld_75445702479781427272750846543864801 all_nil))))))))
theorem gen_7237005577332262213973186563042994240857116359379907606001950938285454250989 : Gen 7237005577332262213973186563042994240857116359379907606001950938285454250989 2 := gen_ok (fs := [2, 2, 3, 11, 198211423230930754013084525763697, 276602624281642239937218680557139826668747]) (by decide +kernel) (all_cons fld_2 (all_cons fld_2 (all_cons fld_3 (all_cons fld_11 (all_cons fld_198211423230930754013084525763697 (all_cons fld_276602624281642239937218680557139826668747 all_nil))))))
theorem gen_57896044618658097711785492504343953926634992332820282019728792003956564819949 : Gen 57896044618658097711785492504343953926634992332820282019728792003956564819949 2 := gen_ok (fs := [2, 2, 3, 65147, 74058212732561358302231226437062788676166966415465897661863160754340907]) (by decide +kernel) (all_cons fld_2 (all_cons fld_2 (all_cons fld_3 (all_cons fld_65147 (all_cons fld_74058212732561358302231226437062788676166966415465897661863160754340907 all_nil)))))
abbrev P : Nat := 57896044618658097711785492504343953926634992332820282019728792003956564819949
abbrev Lo : Nat := 7237005577332262213973186563042994240857116359379907606001950938285454250989
theorem genP : Gen 57896044618658097711785492504343953926634992332820282019728792003956564819949 2 := gen_57896044618658097711785492504343953926634992332820282019728792003956564819949
theorem genL : Gen 7237005577332262213973186563042994240857116359379907606001950938285454250989 2 := gen_7237005577332262213973186563042994240857116359379907606001950938285454250989
end Go.Nt

