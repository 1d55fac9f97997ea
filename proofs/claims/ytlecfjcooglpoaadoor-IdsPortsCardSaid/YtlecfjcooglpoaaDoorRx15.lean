/- Conditions by blocks: an array that a call hands back is one list; what is handed on whole is that list. -/
import Derived.Test.YtlecfjcooglpoaaDoorRx14
set_option linter.unusedVariables false
set_option linter.unusedSimpArgs false
namespace Go.Rx

/-- Where the blocks lie, the newest first; and what they hold. -/
abbrev BSt := List (Nat × Nat)
abbrev BDy := List (List Int)
def lookB : BSt → BDy → Nat → Int
  | (s, k) :: st, l :: dy, i => cond (Nat.ble s i && Nat.blt i (s + k)) (l.getD (i - s) 0) (lookB st dy i)
  | _, _, _ => 0
def lensB : BSt → BDy → Prop
  | (_, k) :: st, l :: dy => l.length = k ∧ lensB st dy
  | [], [] => True
  | _, _ => False
/-- The blocks tell the unknowns. -/
def Tells (ρ : Env) (st : BSt) (dy : BDy) : Prop := lensB st dy ∧ ∀ i, ρ i = lookB st dy i

def denTB (st : BSt) (dy : BDy) : List (Int × Nat) → Int
  | [] => 0
  | (k, i) :: r => match r with
    | [] => cond (k == 1) (lookB st dy i) (k * lookB st dy i)
    | _ => cond (k == 1) (lookB st dy i) (k * lookB st dy i) + denTB st dy r
def Lin.denB (st : BSt) (dy : BDy) (l : Lin) : Int :=
  match l.ts with
  | [] => l.c
  | ts => cond (l.c == 0) (denTB st dy ts) (denTB st dy ts + l.c)
theorem denTB_eq {ρ : Env} {st : BSt} {dy : BDy} (h : ∀ i, ρ i = lookB st dy i) : ∀ ts, denTB st dy ts = denT ρ ts
  | [] => rfl
  | (k, i) :: [] => by
    simp only [denTB, denT, ← h i]
    cases hk : (k == 1) with
    | true => have : k = 1 := by simpa using hk
              subst this; simp
    | false => simp
  | (k, i) :: t :: r => by
    have ih := denTB_eq h (t :: r)
    rw [denTB, denT, ih, ← h i]
    · cases hk : (k == 1) with
      | true => have : k = 1 := by simpa using hk
                subst this; simp
      | false => simp
    · intro hc; cases hc
theorem Lin.denB_eq {ρ : Env} {st : BSt} {dy : BDy} (h : ∀ i, ρ i = lookB st dy i) (l : Lin) : l.denB st dy = l.den ρ := by
  unfold Lin.denB Lin.den
  cases hl : l.ts with
  | nil => simp [denT]
  | cons t r =>
    simp only [denTB_eq h]
    cases hc : (l.c == 0) with
    | true => have : l.c = 0 := by simpa using hc
              rw [this]; simp
    | false => simp

def findBlk : BSt → BDy → Nat → Nat → Option (List Int)
  | (s, k) :: st, l :: dy, i, len => cond (Nat.beq s i && Nat.beq k len) (some l) (cond (Nat.ble (i + len) s || Nat.ble (s + k) i) (findBlk st dy i len) none)
  | _, _, _, _ => none
theorem findBlk_spec : ∀ {st : BSt} {dy : BDy} {i len : Nat} {l : List Int}, findBlk st dy i len = some l → lensB st dy → l.length = len ∧ ∀ j, j < len → lookB st dy (i + j) = l.getD j 0
  | [], _, _, _, _, h, _ => by simp [findBlk] at h
  | _ :: _, [], _, _, _, h, _ => by simp [findBlk] at h
  | (s, k) :: st, l' :: dy, i, len, l, h, hl => by
    unfold findBlk at h
    cases h1 : (Nat.beq s i && Nat.beq k len) with
    | true =>
      simp only [h1, cond_true, Option.some.injEq] at h
      subst h
      simp only [Bool.and_eq_true] at h1
      have e1 := Nat.eq_of_beq_eq_true h1.1
      have e2 := Nat.eq_of_beq_eq_true h1.2
      subst e1; subst e2
      refine ⟨hl.1, fun j hj => ?_⟩
      unfold lookB
      have : (Nat.ble s (s + j) && Nat.blt (s + j) (s + k)) = true := by simp [Nat.blt]; omega
      rw [this, cond_true, Nat.add_sub_cancel_left]
    | false =>
      simp only [h1, cond_false] at h
      cases h2 : (Nat.ble (i + len) s || Nat.ble (s + k) i) with
      | false => simp [h2] at h
      | true =>
        simp only [h2, cond_true] at h
        obtain ⟨g1, g2⟩ := findBlk_spec h hl.2
        refine ⟨g1, fun j hj => ?_⟩
        rw [← g2 j hj]
        conv => lhs; unfold lookB
        have : (Nat.ble s (i + j) && Nat.blt (i + j) (s + k)) = false := by
          simp only [Bool.or_eq_true, Nat.ble_eq] at h2
          cases h3 : (Nat.ble s (i + j) && Nat.blt (i + j) (s + k)) with
          | false => rfl
          | true => simp [Nat.blt] at h3; omega
        rw [this, cond_false]
def isVars : Nat → List Lin → Bool
  | _, [] => true
  | i, l :: r => (l.c == 0 && (match l.ts with | [(k, j)] => k == 1 && Nat.beq i j | _ => false)) && isVars (i + 1) r
def firstVar : List Lin → Nat
  | [] => 0
  | l :: _ => match l.ts with | [(_, j)] => j | _ => 0
theorem isVars_spec {ρ : Env} : ∀ {ls : List Lin} {i : Nat}, isVars i ls = true → ∀ j, j < ls.length → (ls.map (·.den ρ)).getD j 0 = ρ (i + j)
  | [], _, _, j, hj => by simp at hj
  | l :: r, i, h, j, hj => by
    simp only [isVars, Bool.and_eq_true] at h
    cases j with
    | zero =>
      obtain ⟨⟨h1, h2⟩, _⟩ := h
      have hc : l.c = 0 := by simpa using h1
      cases hl : l.ts with
      | nil => simp [hl] at h2
      | cons t s =>
        cases s with
        | cons t' s' => simp [hl] at h2
        | nil =>
          obtain ⟨k, q⟩ := t
          simp only [hl, Bool.and_eq_true] at h2
          have e1 : k = 1 := by simpa using h2.1
          have e2 := Nat.eq_of_beq_eq_true h2.2
          subst e1; subst e2
          simp [Lin.den, hl, denT, hc]
    | succ j =>
      have := isVars_spec (ρ := ρ) h.2 j (by simpa using hj)
      simp only [List.map_cons, List.getD_cons_succ]
      rw [this]
      congr 1; omega
/-- What linear forms stand for: a block whole, if they are its unknowns. -/
def segB (st : BSt) (dy : BDy) (ls : List Lin) : List Int :=
  cond (Nat.blt 1 ls.length && isVars (firstVar ls) ls) (match findBlk st dy (firstVar ls) ls.length with | some l => l | none => ls.map (Lin.denB st dy)) (ls.map (Lin.denB st dy))
theorem list_ext_getD {l l' : List Int} (hl : l.length = l'.length) (h : ∀ j, j < l.length → l.getD j 0 = l'.getD j 0) : l = l' := by
  apply List.ext_getElem hl
  intro j h1 h2
  have := h j h1
  simpa [List.getD_eq_getElem?_getD, List.getElem?_eq_getElem h1, List.getElem?_eq_getElem h2] using this
theorem segB_eq {ρ : Env} {st : BSt} {dy : BDy} (h : Tells ρ st dy) (ls : List Lin) : segB st dy ls = ls.map (·.den ρ) := by
  have e0 : ls.map (Lin.denB st dy) = ls.map (·.den ρ) := List.map_congr_left fun l _ => Lin.denB_eq h.2 l
  unfold segB
  cases h1 : (Nat.blt 1 ls.length && isVars (firstVar ls) ls) with
  | false => simpa using e0
  | true =>
    simp only [cond_true]
    simp only [Bool.and_eq_true] at h1
    cases h2 : findBlk st dy (firstVar ls) ls.length with
    | none => exact e0
    | some l =>
      obtain ⟨g1, g2⟩ := findBlk_spec h2 h.1
      show l = _
      refine list_ext_getD (by simp [g1]) fun j hj => ?_
      rw [isVars_spec h1.2 j (by omega), h.2, g2 j (by omega)]

def eqsB : BE → Option (List Lin × List Lin)
  | .eq a b => some ([a], [b])
  | .and (.eq a b) r => match eqsB r with | some (x, y) => some (a :: x, b :: y) | none => none
  | _ => none
def BE.denB (st : BSt) (dy : BDy) : BE → Bool
  | lit b => b
  | eq a b => decide (a.denB st dy = b.denB st dy)
  | lt a b => decide (a.denB st dy < b.denB st dy)
  | le a b => decide (a.denB st dy ≤ b.denB st dy)
  | not a => !a.denB st dy
  | and a b => match eqsB (.and a b) with
    | some (x, y) => decide (segB st dy x = segB st dy y)
    | none => a.denB st dy && b.denB st dy
  | iff a b => a.denB st dy == b.denB st dy
theorem eqsB_spec {ρ : Env} : ∀ {b : BE} {x y : List Lin}, eqsB b = some (x, y) → b.den ρ = decide (x.map (·.den ρ) = y.map (·.den ρ))
  | .eq a b, x, y, h => by
    simp only [eqsB, Option.some.injEq, Prod.mk.injEq] at h
    obtain ⟨rfl, rfl⟩ := h
    simp [BE.den]
  | .and (.eq a b) r, x, y, h => by
    simp only [eqsB] at h
    cases hr : eqsB r with
    | none => simp [hr] at h
    | some p =>
      obtain ⟨x', y'⟩ := p
      simp only [hr, Option.some.injEq, Prod.mk.injEq] at h
      obtain ⟨rfl, rfl⟩ := h
      have ih := eqsB_spec (ρ := ρ) hr
      simp only [BE.den, ih, List.map_cons, List.cons.injEq]
      simp
  | .lit _, _, _, h => by simp [eqsB] at h
  | .lt _ _, _, _, h => by simp [eqsB] at h
  | .le _ _, _, _, h => by simp [eqsB] at h
  | .not _, _, _, h => by simp [eqsB] at h
  | .iff _ _, _, _, h => by simp [eqsB] at h
  | .and (.lit _) _, _, _, h => by simp [eqsB] at h
  | .and (.lt _ _) _, _, _, h => by simp [eqsB] at h
  | .and (.le _ _) _, _, _, h => by simp [eqsB] at h
  | .and (.not _) _, _, _, h => by simp [eqsB] at h
  | .and (.and _ _) _, _, _, h => by simp [eqsB] at h
  | .and (.iff _ _) _, _, _, h => by simp [eqsB] at h
theorem BE.denB_eq {ρ : Env} {st : BSt} {dy : BDy} (h : Tells ρ st dy) : ∀ b : BE, b.denB st dy = b.den ρ
  | lit _ => rfl
  | eq a b => by simp only [denB, den, Lin.denB_eq h.2]
  | lt a b => by simp only [denB, den, Lin.denB_eq h.2]
  | le a b => by simp only [denB, den, Lin.denB_eq h.2]
  | not a => by simp only [denB, den, BE.denB_eq h a]
  | and a b => by
    have e1 := BE.denB_eq h a
    have e2 := BE.denB_eq h b
    unfold denB
    cases hq : eqsB (.and a b) with
    | none => simp only [den, e1, e2]
    | some p =>
      obtain ⟨x, y⟩ := p
      simp only [eqsB_spec (ρ := ρ) hq, segB_eq h]
  | iff a b => by simp only [denB, den, BE.denB_eq h a, BE.denB_eq h b]

/-- A list by pieces of these lengths. -/
def splitL {α : Type} : List Nat → List α → List (List α)
  | [], [] => []
  | [], x :: l => [x :: l]
  | k :: ks, l => l.take k :: splitL ks (l.drop k)
theorem splitL_map {α β : Type} (f : α → β) : ∀ (ks : List Nat) (l : List α), splitL ks (l.map f) = (splitL ks l).map (List.map f)
  | [], [] => rfl
  | [], _ :: _ => rfl
  | k :: ks, l => by simp only [splitL, List.map_cons, ← List.map_take, ← List.map_drop, splitL_map f ks]
def sumL : List Nat → Nat
  | [] => 0
  | k :: ks => k + sumL ks
theorem splitL_flat {α : Type} : ∀ {ks : List Nat} {l : List α}, l.length = sumL ks → (splitL ks l).flatten = l
  | [], [], _ => rfl
  | [], _ :: _, h => by simp [sumL] at h
  | k :: ks, l, h => by
    simp only [sumL] at h
    simp only [splitL, List.flatten_cons]
    rw [splitL_flat (by simp; omega), List.take_append_drop]

/-- New unknowns, by pieces of these lengths. -/
def allBl : List Nat → Nat → List (Int × Int) → (BSt → BDy → List (List Int) → Prop) → BSt → BDy → Prop
  | [], _, [], P, st, dy => P st dy []
  | [], _, _ :: _, _, _, _ => False
  | k :: ks, n, bds, P, st, dy => cond (Nat.beq k 1)
      (match bds with
      | (lo, hi) :: bds' => ∀ z : Int, lo ≤ z → z ≤ hi → allBl ks (n + 1) bds' (fun st' dy' ls => P st' dy' ([z] :: ls)) ((n, 1) :: st) ([z] :: dy)
      | [] => False)
      (cond (Nat.ble k bds.length) (∀ r : List Int, inB (bds.take k) r → allBl ks (n + k) (bds.drop k) (fun st' dy' ls => P st' dy' (r :: ls)) ((n, k) :: st) (r :: dy)) False)
theorem updL_app : ∀ (a b : List Int) (n : Nat) (ρ : Env), updL ρ n (a ++ b) = updL (updL ρ n a) (n + a.length) b
  | [], b, n, ρ => rfl
  | z :: a, b, n, ρ => by
    simp only [List.cons_append, updL, List.length_cons]
    rw [updL_app a b]
    congr 1; omega
theorem updL_get : ∀ (l : List Int) (n : Nat) (ρ : Env) (i : Nat), updL ρ n l i = cond (Nat.ble n i && Nat.blt i (n + l.length)) (l.getD (i - n) 0) (ρ i)
  | [], n, ρ, i => by
    have : (Nat.ble n i && Nat.blt i (n + 0)) = false := by
      cases h : (Nat.ble n i && Nat.blt i (n + 0)) with
      | false => rfl
      | true => simp [Nat.blt] at h; omega
    simp only [updL, List.length_nil, this, cond_false]
  | z :: l, n, ρ, i => by
    simp only [updL]
    rw [updL_get l (n + 1)]
    by_cases h1 : i = n
    · subst h1
      have e1 : (Nat.ble (i + 1) i && Nat.blt i (i + 1 + l.length)) = false := by
        have : Nat.ble (i + 1) i = false := by
          cases h : Nat.ble (i + 1) i with
          | false => rfl
          | true => exact absurd (Nat.le_of_ble_eq_true h) (by omega)
        simp [this]
      have e2 : (Nat.ble i i && Nat.blt i (i + (z :: l).length)) = true := by simp [Nat.blt]
      rw [e1, e2]
      simp [upd]
    · have hu : upd ρ n z i = ρ i := upd_ne ρ z h1
      by_cases h2 : n ≤ i ∧ i < n + 1 + l.length
      · have e1 : (Nat.ble (n + 1) i && Nat.blt i (n + 1 + l.length)) = true := by simp [Nat.blt]; omega
        have e2 : (Nat.ble n i && Nat.blt i (n + (z :: l).length)) = true := by simp [Nat.blt]; omega
        rw [e1, e2]
        simp only [cond_true]
        rw [show i - n = (i - (n + 1)) + 1 by omega, List.getD_cons_succ]
      · have e1 : (Nat.ble (n + 1) i && Nat.blt i (n + 1 + l.length)) = false := by
          cases h : (Nat.ble (n + 1) i && Nat.blt i (n + 1 + l.length)) with
          | false => rfl
          | true => simp [Nat.blt] at h; omega
        have e2 : (Nat.ble n i && Nat.blt i (n + (z :: l).length)) = false := by
          cases h : (Nat.ble n i && Nat.blt i (n + (z :: l).length)) with
          | false => rfl
          | true => simp [Nat.blt] at h; omega
        rw [e1, e2]
        simp [hu]
theorem Tells.push {ρ : Env} {st : BSt} {dy : BDy} (h : Tells ρ st dy) (n : Nat) (l : List Int) : Tells (updL ρ n l) ((n, l.length) :: st) (l :: dy) :=
  ⟨⟨rfl, h.1⟩, fun i => by rw [updL_get, lookB, ← h.2 i]⟩
theorem inB_take_drop : ∀ {bds : List (Int × Int)} {zs : List Int} (k : Nat), inB bds zs → inB (bds.take k) (zs.take k) ∧ inB (bds.drop k) (zs.drop k)
  | [], [], k, _ => by simp [inB]
  | [], _ :: _, _, h => h.elim
  | (_, _) :: _, [], _, h => h.elim
  | (l, u) :: b, z :: zs, 0, h => by simpa [inB] using h
  | (l, u) :: b, z :: zs, k + 1, h => by
    obtain ⟨h1, h2, h3⟩ := h
    obtain ⟨g1, g2⟩ := inB_take_drop (bds := b) (zs := zs) k h3
    exact ⟨⟨h1, h2, g1⟩, g2⟩
theorem allBl_elim : ∀ {ks : List Nat} {n : Nat} {bds : List (Int × Int)} {P : BSt → BDy → List (List Int) → Prop} {st : BSt} {dy : BDy} {ρ : Env} {zs : List Int}, allBl ks n bds P st dy → Tells ρ st dy → inB bds zs → ∃ st' dy', Tells (updL ρ n zs) st' dy' ∧ P st' dy' (splitL ks zs)
  | [], n, [], P, st, dy, ρ, [], h, ht, _ => ⟨st, dy, ht, h⟩
  | [], _, [], _, _, _, _, _ :: _, _, _, hi => hi.elim
  | [], _, _ :: _, _, _, _, _, _, h, _, _ => h.elim
  | k :: ks, n, bds, P, st, dy, ρ, zs, h, ht, hi => by
    unfold allBl at h
    cases hk : Nat.beq k 1 with
    | true =>
      have e := Nat.eq_of_beq_eq_true hk
      subst e
      simp only [hk, cond_true] at h
      cases bds with
      | nil => exact h.elim
      | cons b bds' =>
        obtain ⟨lo, hi'⟩ := b
        cases zs with
        | nil => exact hi.elim
        | cons z zs =>
          obtain ⟨h1, h2, h3⟩ := hi
          have := allBl_elim (h z h1 h2) (ht.push n [z]) h3
          obtain ⟨st', dy', g1, g2⟩ := this
          refine ⟨st', dy', g1, ?_⟩
          simpa [splitL] using g2
    | false =>
      simp only [hk, cond_false] at h
      cases hb : Nat.ble k bds.length with
      | false => simp only [hb, cond_false] at h
      | true =>
        simp only [hb, cond_true] at h
        have hb' : k ≤ bds.length := by simpa using hb
        have hlen := inB_len hi
        obtain ⟨i1, i2⟩ := inB_take_drop k hi
        have e : (zs.take k).length = k := by simp; omega
        have ht' := ht.push n (zs.take k)
        rw [e] at ht'
        obtain ⟨st', dy', g1, g2⟩ := allBl_elim (h _ i1) ht' i2
        refine ⟨st', dy', ?_, g2⟩
        have e2 := updL_app (zs.take k) (zs.drop k) n ρ
        rw [List.take_append_drop, e] at e2
        rw [e2]; exact g1

abbrev AgainB := Nat → List (List Int) → Prop
def AgainB.set (A : AgainB) (lid : Nat) (p : List (List Int) → Prop) : AgainB := fun i => cond (Nat.beq i lid) p (A i)
/-- What a tree says, by blocks. -/
def T.holdsB (sh : Nat → List Nat × List Nat) (lsh : Nat → List Nat) (S : Nat → List (List Int) → List (List Int) → Prop) (L : V → BSt → BDy → Prop) : T → AgainB → BSt → BDy → Prop
  | stuck, _, _, _ => False
  | leaf v, _, st, dy => L v st dy
  | div n x d lo hi r, A, st, dy => ∀ q : Int, lo ≤ q → q ≤ hi → 0 ≤ x.denB st dy - d * q → x.denB st dy - d * q < d → r.holdsB sh lsh S L A ((n, 1) :: st) ([q] :: dy)
  | mul n x y lo hi r, A, st, dy => ∀ p : Int, lo ≤ p → p ≤ hi → p = x.denB st dy * y.denB st dy → r.holdsB sh lsh S L A ((n, 1) :: st) ([p] :: dy)
  | bit n op k x y r, A, st, dy => ∀ z : Int, 0 ≤ z → z ≤ k.max → z = bitI op k (x.denB st dy) (y.denB st dy) → r.holdsB sh lsh S L A ((n, 1) :: st) ([z] :: dy)
  | shr n x y lo hi r, A, st, dy => ∀ z : Int, lo ≤ z → z ≤ hi → z = x.denB st dy / 2 ^ (y.denB st dy).toNat → r.holdsB sh lsh S L A ((n, 1) :: st) ([z] :: dy)
  | sel n cs ix lo hi r, A, st, dy => ∀ z : Int, lo ≤ z → z ≤ hi → z = (segB st dy cs).getD (ix.denB st dy).toNat 0 → r.holdsB sh lsh S L A ((n, 1) :: st) ([z] :: dy)
  | br b t e, A, st, dy => (b.denB st dy = true → t.holdsB sh lsh S L A st dy) ∧ (b.denB st dy = false → e.holdsB sh lsh S L A st dy)
  | call id args n bds r, A, st, dy => allBl (sh id).2 n bds (fun st' dy' rs => S id ((splitL (sh id).1 args).map (segB st dy)) rs → r.holdsB sh lsh S L A st' dy') st dy
  | loop lid init n bds r, A, st, dy => ∃ (I : List (List Int) → Prop) (μ : List (List Int) → Nat), I ((splitL (lsh lid) init).map (segB st dy)) ∧
      allBl (lsh lid) n bds (fun st' dy' zs => I zs → r.holdsB sh lsh S L (A.set lid fun vs => I vs ∧ μ vs < μ zs) st' dy') st dy
  | again lid vals, A, st, dy => A lid ((splitL (lsh lid) vals).map (segB st dy))
  | both a b, A, st, dy => a.holdsB sh lsh S L A st dy ∧ b.holdsB sh lsh S L A st dy
  | fn n op args lo hi r, A, st, dy => ∀ z : Int, lo ≤ z → z ≤ hi → z = fnD op (args.map (Lin.denB st dy)) → r.holdsB sh lsh S L A ((n, 1) :: st) ([z] :: dy)
  | ind n b r, A, st, dy => ∀ z : Int, 0 ≤ z → z ≤ 1 → b.denB st dy = decide (z = 1) → r.holdsB sh lsh S L A ((n, 1) :: st) ([z] :: dy)
  | unk n lo hi r, A, st, dy => ∀ z : Int, lo ≤ z → z ≤ hi → r.holdsB sh lsh S L A ((n, 1) :: st) ([z] :: dy)
  | nat n r, A, st, dy => ∀ z : Int, 0 ≤ z → r.holdsB sh lsh S L A ((n, 1) :: st) ([z] :: dy)
  | asm op args r, A, st, dy => chkD op (args.map (Lin.denB st dy)) → r.holdsB sh lsh S L A st dy
  | chk op args r, A, st, dy => chkD op (args.map (Lin.denB st dy)) ∧ r.holdsB sh lsh S L A st dy

theorem seg_split {ρ : Env} {st : BSt} {dy : BDy} (h : Tells ρ st dy) (ks : List Nat) (l : List Lin) : (splitL ks l).map (segB st dy) = splitL ks (l.map (·.den ρ)) := by
  rw [splitL_map]; exact List.map_congr_left fun x _ => segB_eq h x
def flatS (sh : Nat → List Nat × List Nat) (S : Nat → List (List Int) → List (List Int) → Prop) : Nat → List Int → List Int → Prop := fun id zs rs => S id (splitL (sh id).1 zs) (splitL (sh id).2 rs)
theorem map_denB {ρ : Env} {st : BSt} {dy : BDy} (h : Tells ρ st dy) (l : List Lin) : l.map (Lin.denB st dy) = l.map (·.den ρ) := List.map_congr_left fun x _ => Lin.denB_eq h.2 x
theorem holdsB_sound {sh : Nat → List Nat × List Nat} {lsh : Nat → List Nat} {S : Nat → List (List Int) → List (List Int) → Prop} {LB : V → BSt → BDy → Prop} {L : V → Env → Prop} (hL : ∀ v ρ st dy, Tells ρ st dy → LB v st dy → L v ρ) :
    ∀ (t : T) (AB : AgainB) (A : Again) (ρ : Env) (st : BSt) (dy : BDy), (∀ lid vs, AB lid (splitL (lsh lid) vs) → A lid vs) → Tells ρ st dy → t.holdsB sh lsh S LB AB st dy → t.holds (flatS sh S) L A ρ
  | .stuck, _, _, _, _, _, _, _, h => h
  | .leaf v, _, _, ρ, st, dy, _, ht, h => hL v ρ st dy ht h
  | .div n x d lo hi r, AB, A, ρ, st, dy, hA, ht, h => fun q h1 h2 h3 h4 => holdsB_sound hL r AB A _ _ _ hA (ht.push n [q]) (h q h1 h2 (by rw [Lin.denB_eq ht.2]; exact h3) (by rw [Lin.denB_eq ht.2]; exact h4))
  | .mul n x y lo hi r, AB, A, ρ, st, dy, hA, ht, h => fun q h1 h2 h3 => holdsB_sound hL r AB A _ _ _ hA (ht.push n [q]) (h q h1 h2 (by rw [Lin.denB_eq ht.2, Lin.denB_eq ht.2]; exact h3))
  | .bit n op k x y r, AB, A, ρ, st, dy, hA, ht, h => fun q h1 h2 h3 => holdsB_sound hL r AB A _ _ _ hA (ht.push n [q]) (h q h1 h2 (by rw [Lin.denB_eq ht.2, Lin.denB_eq ht.2]; exact h3))
  | .shr n x y lo hi r, AB, A, ρ, st, dy, hA, ht, h => fun q h1 h2 h3 => holdsB_sound hL r AB A _ _ _ hA (ht.push n [q]) (h q h1 h2 (by rw [Lin.denB_eq ht.2, Lin.denB_eq ht.2]; exact h3))
  | .sel n cs ix lo hi r, AB, A, ρ, st, dy, hA, ht, h => fun q h1 h2 h3 => holdsB_sound hL r AB A _ _ _ hA (ht.push n [q]) (h q h1 h2 (by rw [segB_eq ht, Lin.denB_eq ht.2]; exact h3))
  | .br b t e, AB, A, ρ, st, dy, hA, ht, h => ⟨fun hb => holdsB_sound hL t AB A _ _ _ hA ht (h.1 (by rw [BE.denB_eq ht]; exact hb)), fun hb => holdsB_sound hL e AB A _ _ _ hA ht (h.2 (by rw [BE.denB_eq ht]; exact hb))⟩
  | .call id args n bds r, AB, A, ρ, st, dy, hA, ht, h => by
    refine allB_intro fun rs hi hs => ?_
    obtain ⟨st', dy', h1, h2⟩ := allBl_elim h ht hi
    exact holdsB_sound hL r AB A _ _ _ hA h1 (h2 (by rw [seg_split ht]; exact hs))
  | .loop lid init n bds r, AB, A, ρ, st, dy, hA, ht, h => by
    obtain ⟨I, μ, h1, h2⟩ := h
    refine ⟨fun zs => I (splitL (lsh lid) zs), fun zs => μ (splitL (lsh lid) zs), ?_, ?_⟩
    · rw [seg_split ht] at h1; exact h1
    · refine allB_intro fun zs hi hI => ?_
      obtain ⟨st', dy', g1, g2⟩ := allBl_elim h2 ht hi
      refine holdsB_sound hL r _ _ _ _ _ (fun lid' vs hv => ?_) g1 (g2 hI)
      unfold AgainB.set at hv
      unfold Again.set
      cases hq : Nat.beq lid' lid with
      | true =>
        rw [hq] at hv
        have e := Nat.eq_of_beq_eq_true hq
        subst e
        exact hv
      | false => rw [hq] at hv; exact hA _ _ hv
  | .again lid vals, AB, A, ρ, st, dy, hA, ht, h => hA lid _ (by rw [← seg_split ht]; exact h)
  | .both x y, AB, A, ρ, st, dy, hA, ht, h => ⟨holdsB_sound hL x AB A ρ st dy hA ht h.1, holdsB_sound hL y AB A ρ st dy hA ht h.2⟩
  | .fn n op args lo hi r, AB, A, ρ, st, dy, hA, ht, h => fun q h1 h2 h3 => holdsB_sound hL r AB A _ _ _ hA (ht.push n [q]) (h q h1 h2 (by rw [map_denB ht]; exact h3))
  | .ind n b r, AB, A, ρ, st, dy, hA, ht, h => fun q h1 h2 h3 => holdsB_sound hL r AB A _ _ _ hA (ht.push n [q]) (h q h1 h2 (by rw [BE.denB_eq ht]; exact h3))
  | .unk n lo hi r, AB, A, ρ, st, dy, hA, ht, h => fun q h1 h2 => holdsB_sound hL r AB A _ _ _ hA (ht.push n [q]) (h q h1 h2)
  | .nat n r, AB, A, ρ, st, dy, hA, ht, h => fun q h1 => holdsB_sound hL r AB A _ _ _ hA (ht.push n [q]) (h q h1)
  | .asm op args r, AB, A, ρ, st, dy, hA, ht, h => fun h1 => holdsB_sound hL r AB A ρ st dy hA ht (h (by rw [map_denB ht]; exact h1))
  | .chk op args r, AB, A, ρ, st, dy, hA, ht, h => ⟨by rw [← map_denB ht]; exact h.1, holdsB_sound hL r AB A _ _ _ hA ht h.2⟩

/-! ### Leaves -/
def linsO : List O → Option (List Lin)
  | [] => some []
  | .l x :: r => match linsO r with | some l => some (x :: l) | none => none
  | .b _ :: _ => none
def O.denB (st : BSt) (dy : BDy) : O → Int
  | l x => x.denB st dy
  | b x => cond (x.denB st dy) 1 0
def segO (st : BSt) (dy : BDy) (os : List O) : List Int :=
  match linsO os with
  | some ls => segB st dy ls
  | none => os.map (O.denB st dy)
theorem linsO_spec {ρ : Env} : ∀ {os : List O} {ls : List Lin}, linsO os = some ls → ls.map (·.den ρ) = os.map (O.den ρ)
  | [], ls, h => by simp [linsO] at h; subst h; rfl
  | .l x :: r, ls, h => by
    simp only [linsO] at h
    cases hr : linsO r with
    | none => simp [hr] at h
    | some l =>
      simp only [hr, Option.some.injEq] at h
      subst h
      simp only [List.map_cons, linsO_spec hr, O.den]
  | .b _ :: _, _, h => by simp [linsO] at h
theorem O.denB_eq {ρ : Env} {st : BSt} {dy : BDy} (h : Tells ρ st dy) : ∀ o : O, o.denB st dy = o.den ρ
  | .l x => Lin.denB_eq h.2 x
  | .b x => by simp only [denB, den, BE.denB_eq h]
theorem segO_eq {ρ : Env} {st : BSt} {dy : BDy} (h : Tells ρ st dy) (os : List O) : segO st dy os = os.map (O.den ρ) := by
  unfold segO
  cases hl : linsO os with
  | some ls => exact (segB_eq h ls).trans (linsO_spec hl)
  | none => exact List.map_congr_left fun o _ => O.denB_eq h o
/-- How a record of field numbers falls into numbers. -/
def mixNums (k : Nat) : List Nat := match k with
  | 12 => [4, 4, 4]
  | 15 => [5, 5, 5]
  | 20 => [5, 5, 5, 5]
  | k => [k]
def D.nums : D → List Nat
  | .mix l => mixNums l.length
  | .strk _ => []
  | d => [d.num]
def numsD (ds : List D) : List Nat := ds.flatMap D.nums
/-- At a leaf, by blocks. -/
def LeafB (ds : List D) (K : List (List Int) → Prop) (v : V) (st : BSt) (dy : BDy) : Prop :=
  match outs ds v with
  | some os => K ((splitL (numsD ds) os).map (segO st dy))
  | none => False
theorem LeafB_sound {ds : List D} {K : List (List Int) → Prop} (v : V) (ρ : Env) (st : BSt) (dy : BDy) (ht : Tells ρ st dy) (h : LeafB ds K v st dy) : LeafK ds (fun rs => K (splitL (numsD ds) rs)) v ρ := by
  unfold LeafB at h
  unfold LeafK
  cases ho : outs ds v with
  | none => simp [ho] at h
  | some os =>
    simp only [ho] at h ⊢
    rw [splitL_map]
    rwa [show (splitL (numsD ds) os).map (segO st dy) = (splitL (numsD ds) os).map (List.map (O.den ρ)) from List.map_congr_left fun o _ => segO_eq ht o] at h

/-- **A condition, by blocks.** -/
def VcB (sh : Nat → List Nat × List Nat) (lsh : Nat → List Nat) (S : Nat → List (List Int) → List (List Int) → Prop) (K : List (List Int) → List (List Int) → Prop) (lens : List Nat) (bds : List (Int × Int)) (ds : List D) (t : T) : Prop :=
  allBl lens 0 bds (fun st dy zs => t.holdsB sh lsh S (LeafB ds (K zs)) (fun _ _ => False) st dy) [] []
theorem VcB_sound {sh : Nat → List Nat × List Nat} {lsh : Nat → List Nat} {S : Nat → List (List Int) → List (List Int) → Prop} {K : List (List Int) → List (List Int) → Prop} {lens : List Nat} {bds : List (Int × Int)} {ds : List D} {t : T}
    (h : VcB sh lsh S K lens bds ds t) : allB bds fun zs => t.holds (flatS sh S) (LeafK ds fun rs => K (splitL lens zs) (splitL (numsD ds) rs)) (fun _ _ => False) (updL (fun _ => 0) 0 zs) := by
  refine allB_intro fun zs hi => ?_
  obtain ⟨st, dy, h1, h2⟩ := allBl_elim h (show Tells (fun _ => 0) [] [] from ⟨trivial, fun _ => rfl⟩) hi
  exact holdsB_sound (fun v ρ st dy ht hl => LeafB_sound v ρ st dy ht hl) t _ _ _ st dy (fun _ _ hf => hf.elim) h1 h2
end Go.Rx
