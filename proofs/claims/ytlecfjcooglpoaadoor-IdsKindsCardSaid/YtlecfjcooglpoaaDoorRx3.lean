/- Integer operators of the model, as trees. -/
import Derived.Test.YtlecfjcooglpoaaDoorRx2
set_option linter.unusedVariables false
set_option linter.unusedSimpArgs false
namespace Go.Rx
open M

def A.den (ρ : Env) (m : Nat → Nat) : A → Value
  | .int k x => .int k (x.l.den ρ)
  | .bool b => .bool (b.den ρ)
  | .ptr b off => .pointer (some ⟨m b, off, none⟩)
  | .pix b off ix => .pointer (some ⟨m b, off + (ix.l.den ρ).toNat, none⟩)
  | .gptr g off => .pointer (some ⟨g, off, none⟩)
  | .slc b off len cap => .slice (some ⟨m b, off, none⟩) len cap
  | .con v => v
  | .str l => .string (bA (sOf (l.den ρ)))
  | .rows _ _ code _ _ => .int .u8 (code.den ρ)
  | .sl b sz o ro len cap => if cap.den ρ < 0 then .slice none 0 0 else .slice (some ⟨m b, (o.den ρ).toNat + (ro.den ρ).toNat * sz, none⟩) (len.den ρ).toNat (cap.den ρ).toNat
  | .ep b sz o i j => .pointer (some ⟨m b, (o.den ρ).toNat + (i.den ρ).toNat * sz + j, none⟩)
/-- What holds of a slice's numbers. A capacity below 0: it is nil. -/
def slOk (o ro len cap : Int) : Prop := (0 ≤ o ∧ 0 ≤ ro ∧ 0 ≤ len ∧ len ≤ 9223372036854775807) ∧ (-1 ≤ cap ∧ ro + cap ≤ 9223372036854775807) ∧ (cap < 0 → len = 0) ∧ (0 ≤ cap → len ≤ cap)
def A.ok (n nb : Nat) (ρ : Env) : A → Prop
  | .int _ x => x.ok n ρ
  | .bool b => b.sc n
  | .ptr b _ => b < nb
  | .pix b _ ix => b < nb ∧ ix.ok n ρ ∧ 0 ≤ ix.lo
  | .gptr .. => True
  | .slc b .. => b < nb
  | .con v => v.oneCell' = true
  | .str l => l.sc n ∧ 0 ≤ l.den ρ ∧ l.den ρ ≤ HB
  | .rows _ off code cap _ => (off.sc n ∧ code.sc n ∧ cap.sc n) ∧ (0 ≤ code.den ρ ∧ code.den ρ ≤ RB) ∧ -1 ≤ cap.den ρ ∧ cap.den ρ ≤ 9223372036854775807
  | .sl b _ o ro len cap => b < nb ∧ (o.sc n ∧ ro.sc n ∧ len.sc n ∧ cap.sc n) ∧ slOk (o.den ρ) (ro.den ρ) (len.den ρ) (cap.den ρ)
  | .ep b _ o i _ => b < nb ∧ (o.sc n ∧ i.sc n) ∧ 0 ≤ o.den ρ ∧ 0 ≤ i.den ρ
theorem A.ok.ext {n n' nb nb' : Nat} {ρ ρ' : Env} {a : A} (h : a.ok n nb ρ) (ha : agree n ρ ρ') (hn : n ≤ n') (hb : nb ≤ nb') : a.ok n' nb' ρ' := by
  cases a <;> simp only [A.ok] at h ⊢
  · exact h.agree ha hn
  · exact BE.sc.mono hn h
  · omega
  · exact ⟨by omega, h.2.1.agree ha hn, h.2.2⟩
  · omega
  · exact h
  · exact ⟨h.1.mono hn, by rw [Lin.den_agree ha h.1]; exact h.2⟩
  · obtain ⟨⟨h1, h2, h3⟩, h4⟩ := h
    exact ⟨⟨h1.mono hn, h2.mono hn, h3.mono hn⟩, by rw [Lin.den_agree ha h2, Lin.den_agree ha h3]; exact h4⟩
  · obtain ⟨h1, ⟨h2, h3, h4, h5⟩, h6⟩ := h
    exact ⟨by omega, ⟨h2.mono hn, h3.mono hn, h4.mono hn, h5.mono hn⟩, by rw [Lin.den_agree ha h2, Lin.den_agree ha h3, Lin.den_agree ha h4, Lin.den_agree ha h5]; exact h6⟩
  · obtain ⟨h1, ⟨h2, h3⟩, h4⟩ := h
    exact ⟨by omega, ⟨h2.mono hn, h3.mono hn⟩, by rw [Lin.den_agree ha h2, Lin.den_agree ha h3]; exact h4⟩
theorem A.den_ext {n nb : Nat} {ρ ρ' : Env} {m m' : Nat → Nat} {a : A} (h : a.ok n nb ρ) (ha : agree n ρ ρ') (hm : ∀ b, b < nb → m' b = m b) : a.den ρ' m' = a.den ρ m := by
  cases a <;> simp only [A.ok] at h <;> simp only [A.den]
  · rw [Lin.den_agree ha h.1]
  · rw [BE.den_agree ha h]
  · rw [hm _ h]
  · rw [hm _ h.1, Lin.den_agree ha h.2.1.1]
  · rw [hm _ h]
  · rw [Lin.den_agree ha h.1]
  · rw [Lin.den_agree ha h.1.2.1]
  · obtain ⟨h1, ⟨h2, h3, h4, h5⟩, h6⟩ := h
    rw [hm _ h1, Lin.den_agree ha h2, Lin.den_agree ha h3, Lin.den_agree ha h4, Lin.den_agree ha h5]
  · rw [hm _ h.1, Lin.den_agree ha h.2.1.1, Lin.den_agree ha h.2.1.2]
theorem A.oneCell {n nb : Nat} {ρ : Env} {m : Nat → Nat} {a : A} (h : a.ok n nb ρ) : (a.den ρ m).oneCell' = true := by
  cases a <;> first | rfl | exact h | (simp only [A.den]; split <;> rfl)

def W.den (ρ : Env) (m : Nat → Nat) : W → Value
  | .one a => a.den ρ m
  | .agg l => .agg (l.map (A.den ρ m)).toArray
def W.ok (n nb : Nat) (ρ : Env) : W → Prop
  | .one a => a.ok n nb ρ
  | .agg l => ∀ a ∈ l, a.ok n nb ρ
theorem W.ok.ext {n n' nb nb' : Nat} {ρ ρ' : Env} {x : W} (h : x.ok n nb ρ) (ha : agree n ρ ρ') (hn : n ≤ n') (hb : nb ≤ nb') : x.ok n' nb' ρ' := by
  cases x with
  | one a => exact A.ok.ext h ha hn hb
  | agg l => exact fun a h' => (h a h').ext ha hn hb
theorem map_den_ext {n nb : Nat} {ρ ρ' : Env} {m m' : Nat → Nat} {l : List A} (h : ∀ a ∈ l, a.ok n nb ρ) (ha : agree n ρ ρ') (hm : ∀ b, b < nb → m' b = m b) : l.map (A.den ρ' m') = l.map (A.den ρ m) :=
  List.map_congr_left fun a h' => A.den_ext (h a h') ha hm
theorem W.den_ext {n nb : Nat} {ρ ρ' : Env} {m m' : Nat → Nat} {x : W} (h : x.ok n nb ρ) (ha : agree n ρ ρ') (hm : ∀ b, b < nb → m' b = m b) : x.den ρ' m' = x.den ρ m := by
  cases x with
  | one a => exact A.den_ext h ha hm
  | agg l => simp only [W.den, map_den_ext h ha hm]
def V.rel (ρ : Env) (m : Nat → Nat) : V → Value → Prop
  | .w x, v => v = x.den ρ m
  | .tup l, v => v = .tuple (l.map (W.den ρ m)).toArray
  | .any, _ => True
  | .osl b len lo, v => ∃ c : Nat, lo ≤ c ∧ v = .slice (some ⟨m b, 0, none⟩) len c
  | .clo f caps, v => v = .func (.func f) #[] (caps.map (A.den ρ m)).toArray
def V.ok (n nb : Nat) (ρ : Env) : V → Prop
  | .w x => x.ok n nb ρ
  | .tup l => ∀ x ∈ l, x.ok n nb ρ
  | .any => True
  | .osl b _ _ => b < nb
  | .clo _ caps => ∀ a ∈ caps, A.ok n nb ρ a
theorem V.ok.ext {n n' nb nb' : Nat} {ρ ρ' : Env} {x : V} (h : x.ok n nb ρ) (ha : agree n ρ ρ') (hn : n ≤ n') (hb : nb ≤ nb') : x.ok n' nb' ρ' := by
  cases x with
  | w x => exact W.ok.ext h ha hn hb
  | tup l => exact fun a h' => (h a h').ext ha hn hb
  | any => trivial
  | osl b len lo => exact Nat.lt_of_lt_of_le h hb
  | clo f caps => exact fun a h' => (h a h').ext ha hn hb
theorem V.rel.ext {n nb : Nat} {ρ ρ' : Env} {m m' : Nat → Nat} {x : V} {v : Value} (hr : x.rel ρ m v) (h : x.ok n nb ρ) (ha : agree n ρ ρ') (hm : ∀ b, b < nb → m' b = m b) : x.rel ρ' m' v := by
  cases x with
  | w x => simp only [V.rel] at hr ⊢; rw [W.den_ext h ha hm]; exact hr
  | tup l => simp only [V.rel] at hr ⊢; rw [hr]; congr 2; exact (List.map_congr_left fun a h' => W.den_ext (h a h') ha hm).symm
  | any => trivial
  | osl b len lo => obtain ⟨c, h1, h2⟩ := hr; exact ⟨c, h1, by rw [hm b h]; exact h2⟩
  | clo f caps => simp only [V.rel] at hr ⊢; rw [hr]; congr 2; exact (List.map_congr_left fun a h' => A.den_ext (h a h') ha hm).symm

section
variable {S : Nat → List Int → List Int → Prop} {L : V → Env → Prop} {n : Nat} {ρ : Env}

/-- A multiple of s in every place? -/
def algnT (s : Int) : List (Int × Nat) → Bool
  | [] => true
  | (k, _) :: r => k % s == 0 && algnT s r
theorem algnT_spec {s : Int} (ρ : Env) : ∀ {l}, algnT s l = true → denT ρ l % s = 0
  | [], _ => by simp [denT]
  | (k, i) :: r, h => by
    simp only [algnT, Bool.and_eq_true, beq_iff_eq] at h
    have h1 := algnT_spec ρ h.2
    obtain ⟨c, hc⟩ := Int.dvd_of_emod_eq_zero h.1
    obtain ⟨d, hd⟩ := Int.dvd_of_emod_eq_zero h1
    simp only [denT, hc, hd, Int.mul_assoc]
    rw [← Int.mul_add]; exact Int.mul_emod_right _ _
def Lin.algn (s : Int) (l : Lin) : Bool := l.c % s == 0 && algnT s l.ts
theorem Lin.algn_spec {s : Int} (ρ : Env) {l : Lin} (h : l.algn s = true) : l.den ρ % s = 0 := by
  simp only [algn, Bool.and_eq_true, beq_iff_eq] at h
  have h1 := algnT_spec ρ h.2
  obtain ⟨c, hc⟩ := Int.dvd_of_emod_eq_zero h.1
  obtain ⟨d, hd⟩ := Int.dvd_of_emod_eq_zero h1
  simp only [den, hc, hd]
  rw [← Int.mul_add]; exact Int.mul_emod_right _ _

/-- The power of two above a number. -/
def above (h : Int) : Nat := 2 ^ (Nat.log2 h.toNat + 1)
theorem above_spec {x h : Int} (hx : x ≤ h) (h0 : 0 ≤ x) : x < (above h : Int) := by
  have : h.toNat < 2 ^ (Nat.log2 h.toNat + 1) := Nat.lt_log2_self
  unfold above; omega

theorem snd_guard {c : Bool} {α : Type} {x : M α} {R : Env → Nat → α → Prop} (h : c = true → Snd S L x n ρ R) : Snd S L (cond c x fail) n ρ R := by
  cases c with
  | true => exact h rfl
  | false => exact Snd.fail
def lim (k : IntKind) : Int := two k - half k
theorem lim_le (k : IntKind) : lim k ≤ two k := by cases k <;> decide
theorem lim_pow (k : IntKind) : ∃ i : Nat, lim k = 2 ^ i ∧ i ≤ k.bits := by cases k <;> first | exact ⟨7, by decide, by decide⟩ | exact ⟨8, by decide, by decide⟩ | exact ⟨15, by decide, by decide⟩ | exact ⟨16, by decide, by decide⟩ | exact ⟨31, by decide, by decide⟩ | exact ⟨32, by decide, by decide⟩ | exact ⟨63, by decide, by decide⟩ | exact ⟨64, by decide, by decide⟩
/-- The greatest power of two, of some, that divides a form. -/
def algnOf (x : Lin) : List Nat → Nat
  | [] => 1
  | i :: r => cond (x.algn (2 ^ i)) (2 ^ i) (algnOf x r)
/-- '|': of what lies apart a sum. -/
def orM (k : IntKind) (x y : IV) : M IV :=
  cond (!(decide (0 ≤ x.lo) && decide (0 ≤ y.lo) && decide (x.hi < lim k) && decide (y.hi < lim k))) (cond (decide (0 ≤ x.lo) && decide (x.hi < lim k)) (
    let s := algnOf x.l [24, 18, 16, 12, 8, 6, 4]
    cond (x.l.algn s && decide (y.hi < lim k) && decide (x.hi + s < lim k)) (bind (chkM 30 [y.l, .const s]) fun _ => pure ⟨x.l.add y.l, x.lo, x.hi + s⟩) fail) fail) <|
  cond (x.l.algn (above y.hi)) (pure ⟨x.l.add y.l, x.lo + y.lo, cond (decide (x.hi + y.hi < two k)) (x.hi + y.hi) (two k - 1)⟩) <|
  cond (y.l.algn (above x.hi)) (pure ⟨x.l.add y.l, x.lo + y.lo, cond (decide (x.hi + y.hi < two k)) (x.hi + y.hi) (two k - 1)⟩) (bitM .or k x y)

theorem or_apart {X Y s : Nat} (hs : ∃ i, s = 2 ^ i) (hx : X % s = 0) (hy : Y < s) : X ||| Y = X + Y := by
  obtain ⟨i, rfl⟩ := hs
  have e := Nat.div_add_mod X (2 ^ i)
  rw [hx, Nat.add_zero] at e
  rw [← e, ← Nat.two_pow_add_eq_or_of_lt hy]
theorem wrap_lim {k : IntKind} {z : Int} (h0 : 0 ≤ z) (h1 : z < lim k) : k.wrap z = z := by
  rw [wrap_eq]
  have hh : 0 ≤ half k := by cases k <;> decide
  unfold lim at h1
  rw [Int.emod_eq_of_lt (by omega) (by omega)]
  omega
theorem bitI_or {k : IntKind} {x y : Int} (hx : 0 ≤ x) (hy : 0 ≤ y) (hx2 : x < lim k) (hy2 : y < lim k) : bitI .or k x y = ((x.toNat ||| y.toNat : Nat) : Int) := by
  have hl := lim_le k
  have hx3 : x < 2 ^ k.bits := by rw [← two_eq]; omega
  have hy3 : y < 2 ^ k.bits := by rw [← two_eq]; omega
  obtain ⟨i, hi, _⟩ := lim_pow k
  obtain ⟨X, rfl⟩ := Int.eq_ofNat_of_zero_le hx
  obtain ⟨Y, rfl⟩ := Int.eq_ofNat_of_zero_le hy
  have hX : X < 2 ^ i := by rw [hi] at hx2; exact_mod_cast hx2
  have hY : Y < 2 ^ i := by rw [hi] at hy2; exact_mod_cast hy2
  have h1 : X ||| Y < 2 ^ i := Nat.or_lt_two_pow hX hY
  unfold bitI
  simp only
  rw [bv_or, Int.emod_eq_of_lt hx hx3, Int.emod_eq_of_lt hy hy3]
  simp only [Int.toNat_natCast]
  exact wrap_lim (by omega) (by rw [hi]; exact_mod_cast h1)
theorem bitI_and {k : IntKind} {x y : Int} (hx : 0 ≤ x) (hy : 0 ≤ y) (hx2 : x < lim k) (hy2 : y < two k) : bitI .and k x y = ((x.toNat &&& y.toNat : Nat) : Int) := by
  have hl := lim_le k
  have hx3 : x < 2 ^ k.bits := by rw [← two_eq]; omega
  have hy3 : y < 2 ^ k.bits := by rw [← two_eq]; omega
  obtain ⟨X, rfl⟩ := Int.eq_ofNat_of_zero_le hx
  obtain ⟨Y, rfl⟩ := Int.eq_ofNat_of_zero_le hy
  have h1 : X &&& Y ≤ X := Nat.and_le_left
  unfold bitI
  simp only
  rw [bv_and, Int.emod_eq_of_lt hx hx3, Int.emod_eq_of_lt hy hy3]
  simp only [Int.toNat_natCast]
  exact wrap_lim (by omega) (by omega)

theorem toNat_mod {x : Int} {s : Nat} (hx : 0 ≤ x) (h : x % (s : Int) = 0) : x.toNat % s = 0 := by
  obtain ⟨X, rfl⟩ := Int.eq_ofNat_of_zero_le hx
  simp only [Int.toNat_natCast]
  exact_mod_cast h
theorem orM_snd {k : IntKind} {x y : IV} (hx : x.ok n ρ) (hy : y.ok n ρ) : Snd S L (orM k x y) n ρ fun ρ' n' q => q.ok n' ρ' ∧ q.l.den ρ' = bitI .or k (x.l.den ρ) (y.l.den ρ) := by
  unfold orM
  cases hc : (!(decide (0 ≤ x.lo) && decide (0 ≤ y.lo) && decide (x.hi < lim k) && decide (y.hi < lim k))) with
  | true =>
    simp only [cond_true]
    refine snd_guard fun h1 => snd_guard fun h2 => chkM_snd fun h3 => Snd.pure ?_
    simp only [Bool.and_eq_true, decide_eq_true_eq] at h1 h2
    simp only [List.map_cons, List.map_nil, chkD, Lin.den_const] at h3
    obtain ⟨⟨h4, h6⟩, h5⟩ := h2
    have bx := hx.2; have by' := hy.2
    generalize hs : algnOf x.l [24, 18, 16, 12, 8, 6, 4] = s at *
    have hm := Lin.algn_spec ρ h4
    have hpow : ∃ i, s = 2 ^ i := by
      rw [← hs]
      generalize [24, 18, 16, 12, 8, 6, 4] = l
      induction l with
      | nil => exact ⟨0, rfl⟩
      | cons i r ih =>
        unfold algnOf
        cases x.l.algn (2 ^ i) with
        | true => exact ⟨i, rfl⟩
        | false => exact ih
    have e : x.l.den ρ + y.l.den ρ = bitI .or k (x.l.den ρ) (y.l.den ρ) := by
      rw [bitI_or (by omega) h3.1 (by omega) (by omega), or_apart hpow (toNat_mod (by omega) hm) (by omega)]; omega
    exact ⟨⟨Lin.sc_add hx.1 hy.1, by simp only [Lin.den_add]; omega, by simp only [Lin.den_add]; omega⟩, by rw [Lin.den_add]; exact e⟩
  | false =>
    simp only [Bool.not_eq_false', Bool.and_eq_true, decide_eq_true_eq] at hc
    obtain ⟨⟨⟨h1, h2⟩, h3'⟩, h4'⟩ := hc
    have hll := lim_le k
    have h3 : x.hi < two k := by omega
    have h4 : y.hi < two k := by omega
    have bx := hx.2; have by' := hy.2
    have hb := bitI_or (k := k) (x := x.l.den ρ) (y := y.l.den ρ) (by omega) (by omega) (by omega) (by omega)
    have hlt : bitI .or k (x.l.den ρ) (y.l.den ρ) < two k := by
      have e1 : x.l.den ρ < 2 ^ k.bits := by rw [← two_eq]; omega
      have e2 : y.l.den ρ < 2 ^ k.bits := by rw [← two_eq]; omega
      have h1 : (x.l.den ρ).toNat ||| (y.l.den ρ).toNat < 2 ^ k.bits := Nat.or_lt_two_pow (by
        have : (x.l.den ρ).toNat = x.l.den ρ := by omega
        exact_mod_cast (show ((x.l.den ρ).toNat : Int) < 2 ^ k.bits by omega)) (by exact_mod_cast (show ((y.l.den ρ).toNat : Int) < 2 ^ k.bits by omega))
      rw [hb, two_eq]
      exact_mod_cast h1
    have ok : ∀ q : Int, q = bitI .or k (x.l.den ρ) (y.l.den ρ) → x.l.den ρ + y.l.den ρ = q → (IV.mk (x.l.add y.l) (x.lo + y.lo) (cond (decide (x.hi + y.hi < two k)) (x.hi + y.hi) (two k - 1))).ok n ρ := fun q hq1 hq2 => ⟨Lin.sc_add hx.1 hy.1, by simp only [Lin.den_add]; omega, by
      simp only [Lin.den_add]
      cases hd : decide (x.hi + y.hi < two k) with
      | true => simp only [cond_true]; omega
      | false => simp only [cond_false]; omega⟩
    simp only [cond_false]
    cases h5 : x.l.algn (above y.hi) with
    | true =>
      have hm := Lin.algn_spec ρ h5
      have hl := above_spec by'.2 (by omega)
      have hs : x.l.den ρ + y.l.den ρ = bitI .or k (x.l.den ρ) (y.l.den ρ) := by
        rw [hb, or_apart (s := above y.hi) ⟨_, rfl⟩ (toNat_mod (by omega) hm) (by omega)]; omega
      exact Snd.pure ⟨ok _ rfl hs, by rw [Lin.den_add]; exact hs⟩
    | false =>
      simp only [cond_false]
      cases h6 : y.l.algn (above x.hi) with
      | true =>
        have hm := Lin.algn_spec ρ h6
        have hl := above_spec bx.2 (by omega)
        have hs : x.l.den ρ + y.l.den ρ = bitI .or k (x.l.den ρ) (y.l.den ρ) := by
          rw [hb, Nat.or_comm, or_apart (s := above x.hi) ⟨_, rfl⟩ (toNat_mod (by omega) hm) (by omega)]; omega
        exact Snd.pure ⟨ok _ rfl hs, by rw [Lin.den_add]; exact hs⟩
      | false => exact bitM_snd

/-- '&'. -/
def andC (k : IntKind) (x : IV) (c : Int) : M IV :=
  match maskOf c with
  | some (a, b) => cond (!(decide (0 ≤ x.lo) && decide (x.hi < lim k) && decide (c < two k) && decide (0 ≤ c))) fail (andM x a b)
  | none => cond (c == 0 && decide (0 ≤ x.lo) && decide (x.hi < lim k)) (pure (.const 0)) fail
theorem andC_snd {k : IntKind} {x : IV} {c : Int} (hx : x.ok n ρ) : Snd S L (andC k x c) n ρ fun ρ' n' q => q.ok n' ρ' ∧ q.l.den ρ' = bitI .and k (x.l.den ρ) c := by
  unfold andC
  have bx := hx.2
  cases hm : maskOf c with
  | some p =>
    obtain ⟨a, b⟩ := p
    simp only
    cases hc : (!(decide (0 ≤ x.lo) && decide (x.hi < lim k) && decide (c < two k) && decide (0 ≤ c))) with
    | true => exact Snd.fail
    | false =>
      simp only [Bool.not_eq_false', Bool.and_eq_true, decide_eq_true_eq] at hc
      obtain ⟨⟨⟨h1, h2⟩, h3⟩, h4⟩ := hc
      obtain ⟨i, j, hij, rfl, rfl, hce, _, _⟩ := maskOf_spec hm
      refine (andM_snd hij hx h1).mono fun ρ' n' q _ _ ⟨ho, he⟩ => ⟨ho, ?_⟩
      rw [he, bitI_and (by omega) h4 (by omega) h3]
      congr 2
      have h3 : 2 ^ i ≤ 2 ^ j := Nat.pow_le_pow_right (by omega) hij
      have h5 : ((2 ^ j - 2 ^ i : Nat) : Int) = 2 ^ j - 2 ^ i := by rw [Int.ofNat_sub h3]; simp
      omega
  | none =>
    simp only
    cases hc : (c == 0 && decide (0 ≤ x.lo) && decide (x.hi < lim k)) with
    | false => exact Snd.fail
    | true =>
      simp only [Bool.and_eq_true, beq_iff_eq, decide_eq_true_eq] at hc
      obtain ⟨⟨rfl, h1⟩, h2⟩ := hc
      refine Snd.pure ⟨IV.const_ok _ _ _, ?_⟩
      rw [bitI_and (by omega) (Int.le_refl _) (by omega) (by cases k <;> decide)]
      simp [IV.const, Lin.den_const]
theorem bitI_and_comm (k : IntKind) (x y : Int) : bitI .and k x y = bitI .and k y x := by simp only [bitI, BitVec.and_comm]
def andI (k : IntKind) (x y : IV) : M IV :=
  match y.l.isC, x.l.isC with
  | some c, _ => andC k x c
  | none, some c => andC k y c
  | none, none => bitM .and k x y
theorem andI_snd {k : IntKind} {x y : IV} (hx : x.ok n ρ) (hy : y.ok n ρ) : Snd S L (andI k x y) n ρ fun ρ' n' q => q.ok n' ρ' ∧ q.l.den ρ' = bitI .and k (x.l.den ρ) (y.l.den ρ) := by
  unfold andI
  cases h1 : y.l.isC with
  | some c => simp only [Lin.den_isC h1]; exact andC_snd hx
  | none =>
    cases h2 : x.l.isC with
    | some c => simp only [Lin.den_isC h2]; rw [bitI_and_comm]; exact andC_snd hy
    | none => exact bitM_snd

/-- A shift to the right by an unknown. -/
def shrM (x y : IV) : M IV := fun n k => .shr n x.l y.l 0 x.hi (k ⟨.var n, 0, x.hi⟩ (n + 1))
theorem shrM_snd {x y : IV} (hx : x.ok n ρ) (h0 : 0 ≤ x.lo) : Snd S L (shrM x y) n ρ fun ρ' n' q => q.ok n' ρ' ∧ q.l.den ρ' = x.l.den ρ / 2 ^ (y.l.den ρ).toNat := by
  intro A k hk
  simp only [shrM, T.holds] at hk
  have hp : (0 : Int) < 2 ^ (y.l.den ρ).toNat := by have := Nat.two_pow_pos (y.l.den ρ).toNat; exact_mod_cast this
  have b0 : 0 ≤ x.l.den ρ := by have := hx.2; omega
  have a1 : 0 ≤ x.l.den ρ / 2 ^ (y.l.den ρ).toNat := Int.ediv_nonneg b0 (Int.le_of_lt hp)
  have a2 : x.l.den ρ / 2 ^ (y.l.den ρ).toNat ≤ x.hi := Int.le_trans (Int.ediv_le_self _ b0) hx.2.2
  exact ⟨_, n + 1, _, Nat.le_succ _, agree.upd _ _ _, ⟨⟨Lin.sc_var (Nat.lt_succ_self n), by simp only [Lin.den_var, upd_same]; exact a1, by simp only [Lin.den_var, upd_same]; exact a2⟩, by simp only [Lin.den_var, upd_same]⟩, hk _ a1 a2 rfl⟩

def isInt (k : IntKind) (x : M IV) : M A := bind x fun r => pure (.int k r)
def binI (op : BinOp) (k : IntKind) (x : IV) (k' : IntKind) (y : IV) : M A :=
  match op with
  | .shl => match y.l.isC with
    | some c => cond (decide (0 ≤ c)) (let s : Int := 2 ^ min c.toNat k.bits; isInt k (wrapM k ⟨x.l.smul s, x.lo * s, x.hi * s⟩)) fail
    | none => cond (decide (0 ≤ x.lo) && decide (0 ≤ y.lo) && decide (y.hi ≤ 62) && decide (x.hi * 2 ^ y.hi.toNat < lim k)) (isInt k (bind (fnM 37 [x.l, y.l] 0 (x.hi * 2 ^ y.hi.toNat)) fun l => pure ⟨l, 0, x.hi * 2 ^ y.hi.toNat⟩)) fail
  | .shr => match y.l.isC with
    | some c => cond (decide (0 ≤ c)) (isInt k (divM x (2 ^ min c.toNat k.bits))) fail
    | none => cond (decide (0 ≤ x.lo) && decide (0 ≤ y.lo) && decide (y.hi ≤ (k.bits : Int))) (isInt k (shrM x y)) fail
  | .add => cond (decide (k = k')) (isInt k (wrapM k ⟨x.l.add y.l, x.lo + y.lo, x.hi + y.hi⟩)) fail
  | .sub => cond (decide (k = k')) (isInt k (wrapM k ⟨x.l.sub y.l, x.lo - y.hi, x.hi - y.lo⟩)) fail
  | .mul => cond (decide (k = k')) (isInt k (bind (mulM x y) (wrapM k))) fail
  | .quo => match y.l.isC with
    | some c => cond (decide (k = k') && decide (0 < c) && decide (0 ≤ x.lo)) (isInt k (bind (divM x c) (wrapM k))) fail
    | none => fail
  | .rem => match y.l.isC with
    | some c => cond (decide (k = k') && decide (0 < c) && decide (0 ≤ x.lo)) (isInt k (modM x c)) fail
    | none => cond (decide (k = k') && decide (0 ≤ x.lo)) (bind (chkM 36 [y.l]) fun _ => isInt k (bind (fnM 38 [x.l, y.l] 0 (cond (decide (y.hi - 1 ≤ x.hi)) (y.hi - 1) x.hi)) fun l => pure ⟨l, 0, cond (decide (y.hi - 1 ≤ x.hi)) (y.hi - 1) x.hi⟩)) fail
  | .and => cond (decide (k = k')) (isInt k (andI k x y)) fail
  | .or => cond (decide (k = k')) (isInt k (orM k x y)) fail
  | .xor => cond (decide (k = k')) (isInt k (bitM .xor k x y)) fail
  | .andNot => cond (decide (k = k')) (isInt k (bitM .andNot k x y)) fail
  | .eql => cond (decide (k = k')) (pure (.bool (.mkEq x y))) fail
  | .neq => cond (decide (k = k')) (pure (.bool (.mkNot (.mkEq x y)))) fail
  | .lss => cond (decide (k = k')) (pure (.bool (.mkLt x y))) fail
  | .leq => cond (decide (k = k')) (pure (.bool (.mkLe x y))) fail
  | .gtr => cond (decide (k = k')) (pure (.bool (.mkLt y x))) fail
  | .geq => cond (decide (k = k')) (pure (.bool (.mkLe y x))) fail

theorem isInt_snd {k : IntKind} {x : M IV} {R : Env → Nat → A → Prop} {v : Int} (h : Snd S L x n ρ fun ρ' n' q => q.ok n' ρ' ∧ q.l.den ρ' = v)
    (hR : ∀ ρ' n' (q : IV), n ≤ n' → agree n ρ ρ' → q.ok n' ρ' → q.l.den ρ' = v → R ρ' n' (.int k q)) : Snd S L (isInt k x) n ρ R :=
  h.bind fun ρ' n' q hn ha ⟨ho, he⟩ => Snd.pure (hR ρ' n' q hn ha ho he)

theorem binI_snd {nb : Nat} {m : Nat → Nat} (P : Program) {op : BinOp} {k k' : IntKind} {x y : IV} (t : TypeId) (hx : x.ok n ρ) (hy : y.ok n ρ) :
    Snd S L (binI op k x k' y) n ρ fun ρ' n' a => a.ok n' nb ρ' ∧ ∀ w, (binOp op t (.int k (x.l.den ρ)) (.int k' (y.l.den ρ))).run P w = .ok (a.den ρ' m) w := by
  have p2 : ∀ s : Nat, (0 : Int) < 2 ^ s := fun s => by have := Nat.two_pow_pos s; exact_mod_cast this
  cases op <;> simp only [binI]
  case shl =>
    cases hc : y.l.isC with
    | none =>
      refine snd_guard fun h0 => ?_
      simp only [Bool.and_eq_true, decide_eq_true_eq] at h0
      obtain ⟨⟨⟨h1, h2⟩, h3⟩, h4⟩ := h0
      have hxb := hx.2; have hyb := hy.2
      have hp := p2 (y.l.den ρ).toNat
      have e1 : (0 : Int) ≤ x.l.den ρ * 2 ^ (y.l.den ρ).toNat := Int.mul_nonneg (by omega) (Int.le_of_lt hp)
      have e2 : x.l.den ρ * 2 ^ (y.l.den ρ).toNat ≤ x.hi * 2 ^ y.hi.toNat := Int.mul_le_mul hxb.2 (by
        have := Nat.pow_le_pow_right (n := 2) (by decide) (show (y.l.den ρ).toNat ≤ y.hi.toNat by omega)
        exact_mod_cast this) (Int.le_of_lt hp) (by omega)
      have hf : fnD 37 ([x.l, y.l].map (·.den ρ)) = x.l.den ρ * 2 ^ (y.l.den ρ).toNat := rfl
      refine isInt_snd (v := x.l.den ρ * 2 ^ (y.l.den ρ).toNat) ((fnM_snd (by rw [hf]; exact e1) (by rw [hf]; exact e2)).bind fun ρ1 n1 l _ _ ⟨g1, g2⟩ => Snd.pure ⟨⟨g1, by simp only; rw [g2, hf]; exact e1, by simp only; rw [g2, hf]; exact e2⟩, by simp only; rw [g2, hf]⟩) fun ρ' n' q _ _ ho he => ⟨ho, fun w => ?_⟩
      simp only [A.den, he, binOp, Op.shift]
      have hbits : (y.l.den ρ).toNat ≤ k.bits ∨ x.l.den ρ = 0 := by
        rcases Nat.le_total (y.l.den ρ).toNat k.bits with h | h
        · exact .inl h
        · refine .inr ?_
          have h5 : x.l.den ρ * 2 ^ (y.l.den ρ).toNat < lim k := by omega
          have h6 := lim_le k
          rw [two_eq] at h6
          have h7 : (2 : Int) ^ k.bits ≤ 2 ^ (y.l.den ρ).toNat := by
            have := Nat.pow_le_pow_right (n := 2) (by decide) h
            exact_mod_cast this
          rcases Int.lt_or_le 0 (x.l.den ρ) with h8 | h8
          · have : (1 : Int) * 2 ^ (y.l.den ρ).toNat ≤ x.l.den ρ * 2 ^ (y.l.den ρ).toNat := Int.mul_le_mul_of_nonneg_right (by omega) (Int.le_of_lt hp)
            omega
          · omega
      rw [if_neg (by omega)]
      rcases hbits with h | h
      · rw [show min (y.l.den ρ).toNat k.bits = (y.l.den ρ).toNat by omega]
        simp [wrap_lim e1 (show x.l.den ρ * 2 ^ (y.l.den ρ).toNat < lim k by omega)]
      · have hw : k.wrap 0 = 0 := by cases k <;> decide
        simp [h, hw]
    | some c =>
      refine snd_guard fun h0 => ?_
      simp only [decide_eq_true_eq] at h0
      have hp := p2 (min c.toNat k.bits)
      refine isInt_snd (wrapM_snd (x := ⟨x.l.smul (2 ^ min c.toNat k.bits), x.lo * 2 ^ min c.toNat k.bits, x.hi * 2 ^ min c.toNat k.bits⟩) ⟨Lin.sc_smul hx.1, ?_, ?_⟩) fun ρ' n' q _ _ ho he => ⟨ho, fun w => ?_⟩
      · simp only [Lin.den_smul]; rw [Int.mul_comm]; exact Int.mul_le_mul_of_nonneg_left hx.2.1 (Int.le_of_lt hp)
      · simp only [Lin.den_smul]; rw [Int.mul_comm x.hi]; exact Int.mul_le_mul_of_nonneg_left hx.2.2 (Int.le_of_lt hp)
      · simp only [A.den, he, Lin.den_smul, Lin.den_isC hc, binOp, Op.shift]
        rw [if_neg (by omega)]
        simp [Int.mul_comm]
  case shr =>
    cases hc : y.l.isC with
    | some c =>
      refine snd_guard fun h0 => ?_
      simp only [decide_eq_true_eq] at h0
      have hp := p2 (min c.toNat k.bits)
      refine isInt_snd ((divM_snd hp hx).mono fun _ _ q _ _ h => ⟨h.1, h.2.1⟩) fun ρ' n' q _ _ ho he => ⟨ho, fun w => ?_⟩
      simp only [A.den, he, Lin.den_isC hc, binOp, Op.shift]
      rw [if_neg (by omega)]
      simp [Int.fdiv_eq_ediv_of_nonneg _ (Int.le_of_lt hp)]
    | none =>
      refine snd_guard fun h0 => ?_
      simp only [Bool.and_eq_true, decide_eq_true_eq] at h0
      refine isInt_snd (shrM_snd hx h0.1.1) fun ρ' n' q _ _ ho he => ⟨ho, fun w => ?_⟩
      have hyb := hy.2
      simp only [A.den, he, binOp, Op.shift]
      rw [if_neg (by omega), show min (y.l.den ρ).toNat k.bits = (y.l.den ρ).toNat by omega]
      simp [Int.fdiv_eq_ediv_of_nonneg _ (Int.le_of_lt (p2 _))]
  case add =>
    refine snd_guard fun h0 => ?_
    simp only [decide_eq_true_eq] at h0; subst h0
    have hxb := hx.2; have hyb := hy.2
    refine isInt_snd (wrapM_snd (x := ⟨x.l.add y.l, x.lo + y.lo, x.hi + y.hi⟩) ⟨Lin.sc_add hx.1 hy.1, by simp only [Lin.den_add]; omega, by simp only [Lin.den_add]; omega⟩) fun ρ' n' q _ _ ho he => ⟨ho, fun w => ?_⟩
    simp [A.den, he, Lin.den_add, binOp, Op.intArith]
  case sub =>
    refine snd_guard fun h0 => ?_
    simp only [decide_eq_true_eq] at h0; subst h0
    have hxb := hx.2; have hyb := hy.2
    refine isInt_snd (wrapM_snd (x := ⟨x.l.sub y.l, x.lo - y.hi, x.hi - y.lo⟩) ⟨Lin.sc_sub hx.1 hy.1, by simp only [Lin.den_sub]; omega, by simp only [Lin.den_sub]; omega⟩) fun ρ' n' q _ _ ho he => ⟨ho, fun w => ?_⟩
    simp [A.den, he, Lin.den_sub, binOp, Op.intArith]
  case mul =>
    refine snd_guard fun h0 => ?_
    simp only [decide_eq_true_eq] at h0; subst h0
    refine isInt_snd (v := k.wrap (x.l.den ρ * y.l.den ρ)) ((mulM_snd hx hy).bind fun ρ1 n1 p _ _ ⟨hp, ep⟩ => by rw [← ep]; exact wrapM_snd hp) fun ρ' n' q _ _ ho he => ⟨ho, fun w => ?_⟩
    simp [A.den, he, binOp, Op.intArith]
  case quo =>
    cases hc : y.l.isC with
    | none => exact Snd.fail
    | some c =>
      refine snd_guard fun h0 => ?_
      simp only [Bool.and_eq_true, decide_eq_true_eq] at h0
      obtain ⟨⟨h0, h1⟩, h2⟩ := h0
      subst h0
      have hxb := hx.2
      refine isInt_snd (v := k.wrap (x.l.den ρ / c)) ((divM_snd h1 hx).bind fun ρ1 n1 p _ _ ⟨hp, ep, _⟩ => by rw [← ep]; exact wrapM_snd hp) fun ρ' n' q _ _ ho he => ⟨ho, fun w => ?_⟩
      simp only [A.den, he, Lin.den_isC hc, binOp, Op.intDiv]
      rw [if_neg (by simp), if_neg (by omega), Int.tdiv_eq_ediv_of_nonneg (by omega)]
      simp
  case rem =>
    cases hc : y.l.isC with
    | none =>
      refine snd_guard fun h0 => chkM_snd fun hk => ?_
      simp only [Bool.and_eq_true, decide_eq_true_eq] at h0
      simp only [List.map_cons, List.map_nil, chkD] at hk
      obtain ⟨h0, h2⟩ := h0
      subst h0
      have hxb := hx.2; have hyb := hy.2
      have e1 := Int.emod_nonneg (x.l.den ρ) (show y.l.den ρ ≠ 0 by omega)
      have e2 := Int.emod_lt_of_pos (x.l.den ρ) hk
      have e3 : x.l.den ρ % y.l.den ρ ≤ x.l.den ρ := by
        have h5 := Int.mul_ediv_add_emod (x.l.den ρ) (y.l.den ρ)
        have h6 := Int.mul_nonneg (Int.le_of_lt hk) (Int.ediv_nonneg (show 0 ≤ x.l.den ρ by omega) (Int.le_of_lt hk))
        omega
      have hf : fnD 38 ([x.l, y.l].map (·.den ρ)) = x.l.den ρ % y.l.den ρ := rfl
      have e4 : x.l.den ρ % y.l.den ρ ≤ cond (decide (y.hi - 1 ≤ x.hi)) (y.hi - 1) x.hi := by
        cases decide (y.hi - 1 ≤ x.hi) with
        | true => simp only [cond_true]; omega
        | false => simp only [cond_false]; omega
      refine isInt_snd (v := x.l.den ρ % y.l.den ρ) ((fnM_snd (by rw [hf]; exact e1) (by rw [hf]; exact e4)).bind fun ρ1 n1 l _ _ ⟨g1, g2⟩ => Snd.pure ⟨⟨g1, by simp only; rw [g2, hf]; exact e1, by simp only; rw [g2, hf]; exact e4⟩, by simp only; rw [g2, hf]⟩) fun ρ' n' q _ _ ho he => ⟨ho, fun w => ?_⟩
      simp only [A.den, he, binOp, Op.intDiv]
      rw [if_neg (by simp), if_neg (by omega), Int.tmod_eq_emod_of_nonneg (by omega)]
      simp
    | some c =>
      refine snd_guard fun h0 => ?_
      simp only [Bool.and_eq_true, decide_eq_true_eq] at h0
      obtain ⟨⟨h0, h1⟩, h2⟩ := h0
      subst h0
      have hxb := hx.2
      refine isInt_snd (modM_snd h1 hx) fun ρ' n' q _ _ ho he => ⟨ho, fun w => ?_⟩
      simp only [A.den, he, Lin.den_isC hc, binOp, Op.intDiv]
      rw [if_neg (by simp), if_neg (by omega), Int.tmod_eq_emod_of_nonneg (by omega)]
      simp
  case and =>
    refine snd_guard fun h0 => ?_
    simp only [decide_eq_true_eq] at h0; subst h0
    refine isInt_snd (andI_snd hx hy) fun ρ' n' q _ _ ho he => ⟨ho, fun w => ?_⟩
    simp [A.den, he, binOp, Op.intBits, bitI]
  case or =>
    refine snd_guard fun h0 => ?_
    simp only [decide_eq_true_eq] at h0; subst h0
    refine isInt_snd (orM_snd hx hy) fun ρ' n' q _ _ ho he => ⟨ho, fun w => ?_⟩
    simp [A.den, he, binOp, Op.intBits, bitI]
  case xor =>
    refine snd_guard fun h0 => ?_
    simp only [decide_eq_true_eq] at h0; subst h0
    refine isInt_snd bitM_snd fun ρ' n' q _ _ ho he => ⟨ho, fun w => ?_⟩
    simp [A.den, he, binOp, Op.intBits, bitI]
  case andNot =>
    refine snd_guard fun h0 => ?_
    simp only [decide_eq_true_eq] at h0; subst h0
    refine isInt_snd bitM_snd fun ρ' n' q _ _ ho he => ⟨ho, fun w => ?_⟩
    simp [A.den, he, binOp, Op.intBits, bitI]
  all_goals
    refine snd_guard fun h0 => ?_
    simp only [decide_eq_true_eq] at h0; subst h0
    have e1 := BE.den_mkEq hx hy
    have e2 := BE.den_mkLt hx hy
    have e3 := BE.den_mkLe hx hy
    have e4 := BE.den_mkLt hy hx
    have e5 := BE.den_mkLe hy hx
    refine Snd.pure ⟨?_, fun w => ?_⟩
    · first | exact e1.2 | exact BE.sc_mkNot e1.2 | exact e2.2 | exact e3.2 | exact e4.2 | exact e5.2
    · simp [A.den, BE.den_mkNot, e1.1, e2.1, e3.1, e4.1, e5.1, binOp, Op.intCmp]
      try rfl
end
end Go.Rx
