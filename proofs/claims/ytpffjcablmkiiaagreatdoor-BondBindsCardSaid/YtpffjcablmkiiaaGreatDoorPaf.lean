/- Contracts of functions that read a slice of a block of one's own. -/
import Derived.Test.YtpffjcablmkiiaaGreatDoorPae
import Derived.Laws.Externs
import Derived.ChangeMaps5
import Derived.ChangeSame
import Derived.OpenShut
import Derived.Handed
import Derived.ProofKit
import Derived.LaidMore
import Derived.Stop.Joined

set_option linter.unusedVariables false
set_option linter.unusedSimpArgs false
namespace Go.Rx
open M

structure SCon where
  f : FuncId
  id : Nat
  k : IntKind
  N : Nat
  lo : Int
  hi : Int
  ty : TypeId
  off : Nat
  len : Nat
  cap : Nat
  args : List D
  res : List D
noncomputable def SCon.M (c : SCon) : List Blk → List V → M V := fun bl vs n k =>
  match vs with
  | .w (.one (.slc b off len cap)) :: rest => match bl[b]? with
    | some (cs, t) => cond (Nat.beq off c.off && Nat.beq len c.len && Nat.beq cap c.cap && Nat.beq t.1 c.ty && !t.2 && Nat.beq cs.length c.N && isOrd cs) (match flatA c.k c.lo c.hi cs, flatL c.args rest with
      | some l1, some l2 => .call c.id (l1 ++ l2) n (bdsL c.res) (k (resV c.res n) (n + (bdsL c.res).length))
      | _, _ => .stuck) .stuck
    | none => .stuck
  | _ => .stuck
section
variable {S : Nat → List Int → List Int → Prop} {P : Program} {gl : Glo} {w0 : Base}



/-- Contracts, those with a slice too, and math/bits. -/
noncomputable def calS (scons : List SCon) (cons : List Con) (mulF addF subF : FuncId) : Cal := fun f =>
  match scons.filter (fun c => Nat.beq f c.f) with
  | [] => calOf cons mulF addF subF f
  | l => some fun bl vs n k => match l.find? (fun c => match vs with | .w (.one (.slc b off len cap)) :: _ => (match bl[b]? with | some (cs, t) => Nat.beq off c.off && Nat.beq len c.len && Nat.beq cap c.cap && Nat.beq t.1 c.ty && !t.2 && Nat.beq cs.length c.N | none => false) | _ => false) with
    | some c => c.M bl vs n k
    | none => .stuck
end
end Go.Rx

/- The entries of math/bits; contracts out of conditions; digits. -/
set_option linter.unusedVariables false
set_option linter.unusedSimpArgs false
namespace Go.Rx


/-- Go code of one's own. -/
def goB (P : Program) (f : FuncId) : Bool := match P.funcs[f]? with
  | some fn => !(fn.name == "runtime.NumGoroutine") && fn.body.isSome
  | none => false
theorem enters {P : Program} {f : FuncId} (h : goB P f = true) (args : Array Value) (w : World) : (callFunc f args).run P w = .ok (.enter f args) w := by
  unfold goB at h
  cases hf : P.funcs[f]? with
  | none => simp [hf] at h
  | some fn =>
    simp only [hf, Bool.and_eq_true, Bool.not_eq_true'] at h
    have h1 : fn.name ≠ "runtime.NumGoroutine" := by simpa using h.1
    obtain ⟨c, hc⟩ := Option.isSome_iff_exists.1 h.2
    simp [callFunc, hf, h1, hc, Sem.run]
section
variable {S : Nat → List Int → List Int → Prop} {P : Program} {gl : Glo} {wb : World}
end

/-! ### Digits -/

/-! ### math/bits.Mul64, out of its own tree -/
end Go.Rx

/- Conditions by blocks: an array that a call hands back is one list; what is handed on whole is that list. -/
set_option linter.unusedVariables false
set_option linter.unusedSimpArgs false
namespace Go.Rx

/-- Where the blocks lie, the newest first; and what they hold. -/
abbrev BSt := List (Nat × Nat)
abbrev BDy := List (List Int)
def lookB : BSt → BDy → Nat → Int
  | (s, k) :: st, l :: dy, i => cond (Nat.ble s i && Nat.blt i (s + k)) (l.getD (i - s) 0) (lookB st dy i)
  | _, _, _ => 0
def lensB : BSt → BDy → Prop
  | (_, k) :: st, l :: dy => l.length = k ∧ lensB st dy
  | [], [] => True
  | _, _ => False
/-- The blocks tell the unknowns. -/
def Tells (ρ : Env) (st : BSt) (dy : BDy) : Prop := lensB st dy ∧ ∀ i, ρ i = lookB st dy i

def denTB (st : BSt) (dy : BDy) : List (Int × Nat) → Int
  | [] => 0
  | (k, i) :: r => match r with
    | [] => cond (k == 1) (lookB st dy i) (k * lookB st dy i)
    | _ => cond (k == 1) (lookB st dy i) (k * lookB st dy i) + denTB st dy r
def Lin.denB (st : BSt) (dy : BDy) (l : Lin) : Int :=
  match l.ts with
  | [] => l.c
  | ts => cond (l.c == 0) (denTB st dy ts) (denTB st dy ts + l.c)
theorem denTB_eq {ρ : Env} {st : BSt} {dy : BDy} (h : ∀ i, ρ i = lookB st dy i) : ∀ ts, denTB st dy ts = denT ρ ts
  | [] => rfl
  | (k, i) :: [] => by
    simp only [denTB, denT, ← h i]
    cases hk : (k == 1) with
    | true => have : k = 1 := by simpa using hk
              subst this; simp
    | false => simp
  | (k, i) :: t :: r => by
    have ih := denTB_eq h (t :: r)
    rw [denTB, denT, ih, ← h i]
    · cases hk : (k == 1) with
      | true => have : k = 1 := by simpa using hk
                subst this; simp
      | false => simp
    · intro hc; cases hc
theorem Lin.denB_eq {ρ : Env} {st : BSt} {dy : BDy} (h : ∀ i, ρ i = lookB st dy i) (l : Lin) : l.denB st dy = l.den ρ := by
  unfold Lin.denB Lin.den
  cases hl : l.ts with
  | nil => simp [denT]
  | cons t r =>
    simp only [denTB_eq h]
    cases hc : (l.c == 0) with
    | true => have : l.c = 0 := by simpa using hc
              rw [this]; simp
    | false => simp

def findBlk : BSt → BDy → Nat → Nat → Option (List Int)
  | (s, k) :: st, l :: dy, i, len => cond (Nat.beq s i && Nat.beq k len) (some l) (cond (Nat.ble (i + len) s || Nat.ble (s + k) i) (findBlk st dy i len) none)
  | _, _, _, _ => none
theorem findBlk_spec : ∀ {st : BSt} {dy : BDy} {i len : Nat} {l : List Int}, findBlk st dy i len = some l → lensB st dy → l.length = len ∧ ∀ j, j < len → lookB st dy (i + j) = l.getD j 0
  | [], _, _, _, _, h, _ => by simp [findBlk] at h
  | _ :: _, [], _, _, _, h, _ => by simp [findBlk] at h
  | (s, k) :: st, l' :: dy, i, len, l, h, hl => by
    unfold findBlk at h
    cases h1 : (Nat.beq s i && Nat.beq k len) with
    | true =>
      simp only [h1, cond_true, Option.some.injEq] at h
      subst h
      simp only [Bool.and_eq_true] at h1
      have e1 := Nat.eq_of_beq_eq_true h1.1
      have e2 := Nat.eq_of_beq_eq_true h1.2
      subst e1; subst e2
      refine ⟨hl.1, fun j hj => ?_⟩
      unfold lookB
      have : (Nat.ble s (s + j) && Nat.blt (s + j) (s + k)) = true := by simp [Nat.blt]; omega
      rw [this, cond_true, Nat.add_sub_cancel_left]
    | false =>
      simp only [h1, cond_false] at h
      cases h2 : (Nat.ble (i + len) s || Nat.ble (s + k) i) with
      | false => simp [h2] at h
      | true =>
        simp only [h2, cond_true] at h
        obtain ⟨g1, g2⟩ := findBlk_spec h hl.2
        refine ⟨g1, fun j hj => ?_⟩
        rw [← g2 j hj]
        conv => lhs; unfold lookB
        have : (Nat.ble s (i + j) && Nat.blt (i + j) (s + k)) = false := by
          simp only [Bool.or_eq_true, Nat.ble_eq] at h2
          cases h3 : (Nat.ble s (i + j) && Nat.blt (i + j) (s + k)) with
          | false => rfl
          | true => simp [Nat.blt] at h3; omega
        rw [this, cond_false]
def isVars : Nat → List Lin → Bool
  | _, [] => true
  | i, l :: r => (l.c == 0 && (match l.ts with | [(k, j)] => k == 1 && Nat.beq i j | _ => false)) && isVars (i + 1) r
def firstVar : List Lin → Nat
  | [] => 0
  | l :: _ => match l.ts with | [(_, j)] => j | _ => 0
theorem isVars_spec {ρ : Env} : ∀ {ls : List Lin} {i : Nat}, isVars i ls = true → ∀ j, j < ls.length → (ls.map (·.den ρ)).getD j 0 = ρ (i + j)
  | [], _, _, j, hj => by simp at hj
  | l :: r, i, h, j, hj => by
    simp only [isVars, Bool.and_eq_true] at h
    cases j with
    | zero =>
      obtain ⟨⟨h1, h2⟩, _⟩ := h
      have hc : l.c = 0 := by simpa using h1
      cases hl : l.ts with
      | nil => simp [hl] at h2
      | cons t s =>
        cases s with
        | cons t' s' => simp [hl] at h2
        | nil =>
          obtain ⟨k, q⟩ := t
          simp only [hl, Bool.and_eq_true] at h2
          have e1 : k = 1 := by simpa using h2.1
          have e2 := Nat.eq_of_beq_eq_true h2.2
          subst e1; subst e2
          simp [Lin.den, hl, denT, hc]
    | succ j =>
      have := isVars_spec (ρ := ρ) h.2 j (by simpa using hj)
      simp only [List.map_cons, List.getD_cons_succ]
      rw [this]
      congr 1; omega
/-- What linear forms stand for: a block whole, if they are its unknowns. -/
def segB (st : BSt) (dy : BDy) (ls : List Lin) : List Int :=
  cond (Nat.blt 1 ls.length && isVars (firstVar ls) ls) (match findBlk st dy (firstVar ls) ls.length with | some l => l | none => ls.map (Lin.denB st dy)) (ls.map (Lin.denB st dy))
theorem list_ext_getD {l l' : List Int} (hl : l.length = l'.length) (h : ∀ j, j < l.length → l.getD j 0 = l'.getD j 0) : l = l' := by
  apply List.ext_getElem hl
  intro j h1 h2
  have := h j h1
  simpa [List.getD_eq_getElem?_getD, List.getElem?_eq_getElem h1, List.getElem?_eq_getElem h2] using this
theorem segB_eq {ρ : Env} {st : BSt} {dy : BDy} (h : Tells ρ st dy) (ls : List Lin) : segB st dy ls = ls.map (·.den ρ) := by
  have e0 : ls.map (Lin.denB st dy) = ls.map (·.den ρ) := List.map_congr_left fun l _ => Lin.denB_eq h.2 l
  unfold segB
  cases h1 : (Nat.blt 1 ls.length && isVars (firstVar ls) ls) with
  | false => simpa using e0
  | true =>
    simp only [cond_true]
    simp only [Bool.and_eq_true] at h1
    cases h2 : findBlk st dy (firstVar ls) ls.length with
    | none => exact e0
    | some l =>
      obtain ⟨g1, g2⟩ := findBlk_spec h2 h.1
      show l = _
      refine list_ext_getD (by simp [g1]) fun j hj => ?_
      rw [isVars_spec h1.2 j (by omega), h.2, g2 j (by omega)]

def eqsB : BE → Option (List Lin × List Lin)
  | .eq a b => some ([a], [b])
  | .and (.eq a b) r => match eqsB r with | some (x, y) => some (a :: x, b :: y) | none => none
  | _ => none
def BE.denB (st : BSt) (dy : BDy) : BE → Bool
  | lit b => b
  | eq a b => decide (a.denB st dy = b.denB st dy)
  | lt a b => decide (a.denB st dy < b.denB st dy)
  | le a b => decide (a.denB st dy ≤ b.denB st dy)
  | not a => !a.denB st dy
  | and a b => match eqsB (.and a b) with
    | some (x, y) => decide (segB st dy x = segB st dy y)
    | none => a.denB st dy && b.denB st dy
  | iff a b => a.denB st dy == b.denB st dy
theorem eqsB_spec {ρ : Env} : ∀ {b : BE} {x y : List Lin}, eqsB b = some (x, y) → b.den ρ = decide (x.map (·.den ρ) = y.map (·.den ρ))
  | .eq a b, x, y, h => by
    simp only [eqsB, Option.some.injEq, Prod.mk.injEq] at h
    obtain ⟨rfl, rfl⟩ := h
    simp [BE.den]
  | .and (.eq a b) r, x, y, h => by
    simp only [eqsB] at h
    cases hr : eqsB r with
    | none => simp [hr] at h
    | some p =>
      obtain ⟨x', y'⟩ := p
      simp only [hr, Option.some.injEq, Prod.mk.injEq] at h
      obtain ⟨rfl, rfl⟩ := h
      have ih := eqsB_spec (ρ := ρ) hr
      simp only [BE.den, ih, List.map_cons, List.cons.injEq]
      simp
  | .lit _, _, _, h => by simp [eqsB] at h
  | .lt _ _, _, _, h => by simp [eqsB] at h
  | .le _ _, _, _, h => by simp [eqsB] at h
  | .not _, _, _, h => by simp [eqsB] at h
  | .iff _ _, _, _, h => by simp [eqsB] at h
  | .and (.lit _) _, _, _, h => by simp [eqsB] at h
  | .and (.lt _ _) _, _, _, h => by simp [eqsB] at h
  | .and (.le _ _) _, _, _, h => by simp [eqsB] at h
  | .and (.not _) _, _, _, h => by simp [eqsB] at h
  | .and (.and _ _) _, _, _, h => by simp [eqsB] at h
  | .and (.iff _ _) _, _, _, h => by simp [eqsB] at h
theorem BE.denB_eq {ρ : Env} {st : BSt} {dy : BDy} (h : Tells ρ st dy) : ∀ b : BE, b.denB st dy = b.den ρ
  | lit _ => rfl
  | eq a b => by simp only [denB, den, Lin.denB_eq h.2]
  | lt a b => by simp only [denB, den, Lin.denB_eq h.2]
  | le a b => by simp only [denB, den, Lin.denB_eq h.2]
  | not a => by simp only [denB, den, BE.denB_eq h a]
  | and a b => by
    have e1 := BE.denB_eq h a
    have e2 := BE.denB_eq h b
    unfold denB
    cases hq : eqsB (.and a b) with
    | none => simp only [den, e1, e2]
    | some p =>
      obtain ⟨x, y⟩ := p
      simp only [eqsB_spec (ρ := ρ) hq, segB_eq h]
  | iff a b => by simp only [denB, den, BE.denB_eq h a, BE.denB_eq h b]

/-- A list by pieces of these lengths. -/
def splitL {α : Type} : List Nat → List α → List (List α)
  | [], [] => []
  | [], x :: l => [x :: l]
  | k :: ks, l => l.take k :: splitL ks (l.drop k)
theorem splitL_map {α β : Type} (f : α → β) : ∀ (ks : List Nat) (l : List α), splitL ks (l.map f) = (splitL ks l).map (List.map f)
  | [], [] => rfl
  | [], _ :: _ => rfl
  | k :: ks, l => by simp only [splitL, List.map_cons, ← List.map_take, ← List.map_drop, splitL_map f ks]

/-- New unknowns, by pieces of these lengths. -/
def allBl : List Nat → Nat → List (Int × Int) → (BSt → BDy → List (List Int) → Prop) → BSt → BDy → Prop
  | [], _, [], P, st, dy => P st dy []
  | [], _, _ :: _, _, _, _ => False
  | k :: ks, n, bds, P, st, dy => cond (Nat.beq k 1)
      (match bds with
      | (lo, hi) :: bds' => ∀ z : Int, lo ≤ z → z ≤ hi → allBl ks (n + 1) bds' (fun st' dy' ls => P st' dy' ([z] :: ls)) ((n, 1) :: st) ([z] :: dy)
      | [] => False)
      (cond (Nat.ble k bds.length) (∀ r : List Int, inB (bds.take k) r → allBl ks (n + k) (bds.drop k) (fun st' dy' ls => P st' dy' (r :: ls)) ((n, k) :: st) (r :: dy)) False)
theorem updL_app : ∀ (a b : List Int) (n : Nat) (ρ : Env), updL ρ n (a ++ b) = updL (updL ρ n a) (n + a.length) b
  | [], b, n, ρ => rfl
  | z :: a, b, n, ρ => by
    simp only [List.cons_append, updL, List.length_cons]
    rw [updL_app a b]
    congr 1; omega
theorem updL_get : ∀ (l : List Int) (n : Nat) (ρ : Env) (i : Nat), updL ρ n l i = cond (Nat.ble n i && Nat.blt i (n + l.length)) (l.getD (i - n) 0) (ρ i)
  | [], n, ρ, i => by
    have : (Nat.ble n i && Nat.blt i (n + 0)) = false := by
      cases h : (Nat.ble n i && Nat.blt i (n + 0)) with
      | false => rfl
      | true => simp [Nat.blt] at h; omega
    simp only [updL, List.length_nil, this, cond_false]
  | z :: l, n, ρ, i => by
    simp only [updL]
    rw [updL_get l (n + 1)]
    by_cases h1 : i = n
    · subst h1
      have e1 : (Nat.ble (i + 1) i && Nat.blt i (i + 1 + l.length)) = false := by
        have : Nat.ble (i + 1) i = false := by
          cases h : Nat.ble (i + 1) i with
          | false => rfl
          | true => exact absurd (Nat.le_of_ble_eq_true h) (by omega)
        simp [this]
      have e2 : (Nat.ble i i && Nat.blt i (i + (z :: l).length)) = true := by simp [Nat.blt]
      rw [e1, e2]
      simp [upd]
    · have hu : upd ρ n z i = ρ i := upd_ne ρ z h1
      by_cases h2 : n ≤ i ∧ i < n + 1 + l.length
      · have e1 : (Nat.ble (n + 1) i && Nat.blt i (n + 1 + l.length)) = true := by simp [Nat.blt]; omega
        have e2 : (Nat.ble n i && Nat.blt i (n + (z :: l).length)) = true := by simp [Nat.blt]; omega
        rw [e1, e2]
        simp only [cond_true]
        rw [show i - n = (i - (n + 1)) + 1 by omega, List.getD_cons_succ]
      · have e1 : (Nat.ble (n + 1) i && Nat.blt i (n + 1 + l.length)) = false := by
          cases h : (Nat.ble (n + 1) i && Nat.blt i (n + 1 + l.length)) with
          | false => rfl
          | true => simp [Nat.blt] at h; omega
        have e2 : (Nat.ble n i && Nat.blt i (n + (z :: l).length)) = false := by
          cases h : (Nat.ble n i && Nat.blt i (n + (z :: l).length)) with
          | false => rfl
          | true => simp [Nat.blt] at h; omega
        rw [e1, e2]
        simp [hu]
theorem Tells.push {ρ : Env} {st : BSt} {dy : BDy} (h : Tells ρ st dy) (n : Nat) (l : List Int) : Tells (updL ρ n l) ((n, l.length) :: st) (l :: dy) :=
  ⟨⟨rfl, h.1⟩, fun i => by rw [updL_get, lookB, ← h.2 i]⟩
theorem inB_take_drop : ∀ {bds : List (Int × Int)} {zs : List Int} (k : Nat), inB bds zs → inB (bds.take k) (zs.take k) ∧ inB (bds.drop k) (zs.drop k)
  | [], [], k, _ => by simp [inB]
  | [], _ :: _, _, h => h.elim
  | (_, _) :: _, [], _, h => h.elim
  | (l, u) :: b, z :: zs, 0, h => by simpa [inB] using h
  | (l, u) :: b, z :: zs, k + 1, h => by
    obtain ⟨h1, h2, h3⟩ := h
    obtain ⟨g1, g2⟩ := inB_take_drop (bds := b) (zs := zs) k h3
    exact ⟨⟨h1, h2, g1⟩, g2⟩
theorem allBl_elim : ∀ {ks : List Nat} {n : Nat} {bds : List (Int × Int)} {P : BSt → BDy → List (List Int) → Prop} {st : BSt} {dy : BDy} {ρ : Env} {zs : List Int}, allBl ks n bds P st dy → Tells ρ st dy → inB bds zs → ∃ st' dy', Tells (updL ρ n zs) st' dy' ∧ P st' dy' (splitL ks zs)
  | [], n, [], P, st, dy, ρ, [], h, ht, _ => ⟨st, dy, ht, h⟩
  | [], _, [], _, _, _, _, _ :: _, _, _, hi => hi.elim
  | [], _, _ :: _, _, _, _, _, _, h, _, _ => h.elim
  | k :: ks, n, bds, P, st, dy, ρ, zs, h, ht, hi => by
    unfold allBl at h
    cases hk : Nat.beq k 1 with
    | true =>
      have e := Nat.eq_of_beq_eq_true hk
      subst e
      simp only [hk, cond_true] at h
      cases bds with
      | nil => exact h.elim
      | cons b bds' =>
        obtain ⟨lo, hi'⟩ := b
        cases zs with
        | nil => exact hi.elim
        | cons z zs =>
          obtain ⟨h1, h2, h3⟩ := hi
          have := allBl_elim (h z h1 h2) (ht.push n [z]) h3
          obtain ⟨st', dy', g1, g2⟩ := this
          refine ⟨st', dy', g1, ?_⟩
          simpa [splitL] using g2
    | false =>
      simp only [hk, cond_false] at h
      cases hb : Nat.ble k bds.length with
      | false => simp only [hb, cond_false] at h
      | true =>
        simp only [hb, cond_true] at h
        have hb' : k ≤ bds.length := by simpa using hb
        have hlen := inB_len hi
        obtain ⟨i1, i2⟩ := inB_take_drop k hi
        have e : (zs.take k).length = k := by simp; omega
        have ht' := ht.push n (zs.take k)
        rw [e] at ht'
        obtain ⟨st', dy', g1, g2⟩ := allBl_elim (h _ i1) ht' i2
        refine ⟨st', dy', ?_, g2⟩
        have e2 := updL_app (zs.take k) (zs.drop k) n ρ
        rw [List.take_append_drop, e] at e2
        rw [e2]; exact g1

abbrev AgainB := Nat → List (List Int) → Prop
def AgainB.set (A : AgainB) (lid : Nat) (p : List (List Int) → Prop) : AgainB := fun i => cond (Nat.beq i lid) p (A i)
/-- What a tree says, by blocks. -/
def T.holdsB (sh : Nat → List Nat × List Nat) (lsh : Nat → List Nat) (S : Nat → List (List Int) → List (List Int) → Prop) (L : V → BSt → BDy → Prop) : T → AgainB → BSt → BDy → Prop
  | stuck, _, _, _ => False
  | leaf v, _, st, dy => L v st dy
  | div n x d lo hi r, A, st, dy => ∀ q : Int, lo ≤ q → q ≤ hi → 0 ≤ x.denB st dy - d * q → x.denB st dy - d * q < d → r.holdsB sh lsh S L A ((n, 1) :: st) ([q] :: dy)
  | mul n x y lo hi r, A, st, dy => ∀ p : Int, lo ≤ p → p ≤ hi → p = x.denB st dy * y.denB st dy → r.holdsB sh lsh S L A ((n, 1) :: st) ([p] :: dy)
  | bit n op k x y r, A, st, dy => ∀ z : Int, 0 ≤ z → z ≤ k.max → z = bitI op k (x.denB st dy) (y.denB st dy) → r.holdsB sh lsh S L A ((n, 1) :: st) ([z] :: dy)
  | shr n x y lo hi r, A, st, dy => ∀ z : Int, lo ≤ z → z ≤ hi → z = x.denB st dy / 2 ^ (y.denB st dy).toNat → r.holdsB sh lsh S L A ((n, 1) :: st) ([z] :: dy)
  | sel n cs ix lo hi r, A, st, dy => ∀ z : Int, lo ≤ z → z ≤ hi → z = (segB st dy cs).getD (ix.denB st dy).toNat 0 → r.holdsB sh lsh S L A ((n, 1) :: st) ([z] :: dy)
  | br b t e, A, st, dy => (b.denB st dy = true → t.holdsB sh lsh S L A st dy) ∧ (b.denB st dy = false → e.holdsB sh lsh S L A st dy)
  | call id args n bds r, A, st, dy => allBl (sh id).2 n bds (fun st' dy' rs => S id ((splitL (sh id).1 args).map (segB st dy)) rs → r.holdsB sh lsh S L A st' dy') st dy
  | loop lid init n bds r, A, st, dy => ∃ (I : List (List Int) → Prop) (μ : List (List Int) → Nat), I ((splitL (lsh lid) init).map (segB st dy)) ∧
      allBl (lsh lid) n bds (fun st' dy' zs => I zs → r.holdsB sh lsh S L (A.set lid fun vs => I vs ∧ μ vs < μ zs) st' dy') st dy
  | again lid vals, A, st, dy => A lid ((splitL (lsh lid) vals).map (segB st dy))
  | both a b, A, st, dy => a.holdsB sh lsh S L A st dy ∧ b.holdsB sh lsh S L A st dy
  | fn n op args lo hi r, A, st, dy => ∀ z : Int, lo ≤ z → z ≤ hi → z = fnD op (args.map (Lin.denB st dy)) → r.holdsB sh lsh S L A ((n, 1) :: st) ([z] :: dy)
  | ind n b r, A, st, dy => ∀ z : Int, 0 ≤ z → z ≤ 1 → b.denB st dy = decide (z = 1) → r.holdsB sh lsh S L A ((n, 1) :: st) ([z] :: dy)
  | unk n lo hi r, A, st, dy => ∀ z : Int, lo ≤ z → z ≤ hi → r.holdsB sh lsh S L A ((n, 1) :: st) ([z] :: dy)
  | nat n r, A, st, dy => ∀ z : Int, 0 ≤ z → r.holdsB sh lsh S L A ((n, 1) :: st) ([z] :: dy)
  | asm op args r, A, st, dy => chkD op (args.map (Lin.denB st dy)) → r.holdsB sh lsh S L A st dy
  | chk op args r, A, st, dy => chkD op (args.map (Lin.denB st dy)) ∧ r.holdsB sh lsh S L A st dy

theorem seg_split {ρ : Env} {st : BSt} {dy : BDy} (h : Tells ρ st dy) (ks : List Nat) (l : List Lin) : (splitL ks l).map (segB st dy) = splitL ks (l.map (·.den ρ)) := by
  rw [splitL_map]; exact List.map_congr_left fun x _ => segB_eq h x
def flatS (sh : Nat → List Nat × List Nat) (S : Nat → List (List Int) → List (List Int) → Prop) : Nat → List Int → List Int → Prop := fun id zs rs => S id (splitL (sh id).1 zs) (splitL (sh id).2 rs)
theorem map_denB {ρ : Env} {st : BSt} {dy : BDy} (h : Tells ρ st dy) (l : List Lin) : l.map (Lin.denB st dy) = l.map (·.den ρ) := List.map_congr_left fun x _ => Lin.denB_eq h.2 x
theorem holdsB_sound {sh : Nat → List Nat × List Nat} {lsh : Nat → List Nat} {S : Nat → List (List Int) → List (List Int) → Prop} {LB : V → BSt → BDy → Prop} {L : V → Env → Prop} (hL : ∀ v ρ st dy, Tells ρ st dy → LB v st dy → L v ρ) :
    ∀ (t : T) (AB : AgainB) (A : Again) (ρ : Env) (st : BSt) (dy : BDy), (∀ lid vs, AB lid (splitL (lsh lid) vs) → A lid vs) → Tells ρ st dy → t.holdsB sh lsh S LB AB st dy → t.holds (flatS sh S) L A ρ
  | .stuck, _, _, _, _, _, _, _, h => h
  | .leaf v, _, _, ρ, st, dy, _, ht, h => hL v ρ st dy ht h
  | .div n x d lo hi r, AB, A, ρ, st, dy, hA, ht, h => fun q h1 h2 h3 h4 => holdsB_sound hL r AB A _ _ _ hA (ht.push n [q]) (h q h1 h2 (by rw [Lin.denB_eq ht.2]; exact h3) (by rw [Lin.denB_eq ht.2]; exact h4))
  | .mul n x y lo hi r, AB, A, ρ, st, dy, hA, ht, h => fun q h1 h2 h3 => holdsB_sound hL r AB A _ _ _ hA (ht.push n [q]) (h q h1 h2 (by rw [Lin.denB_eq ht.2, Lin.denB_eq ht.2]; exact h3))
  | .bit n op k x y r, AB, A, ρ, st, dy, hA, ht, h => fun q h1 h2 h3 => holdsB_sound hL r AB A _ _ _ hA (ht.push n [q]) (h q h1 h2 (by rw [Lin.denB_eq ht.2, Lin.denB_eq ht.2]; exact h3))
  | .shr n x y lo hi r, AB, A, ρ, st, dy, hA, ht, h => fun q h1 h2 h3 => holdsB_sound hL r AB A _ _ _ hA (ht.push n [q]) (h q h1 h2 (by rw [Lin.denB_eq ht.2, Lin.denB_eq ht.2]; exact h3))
  | .sel n cs ix lo hi r, AB, A, ρ, st, dy, hA, ht, h => fun q h1 h2 h3 => holdsB_sound hL r AB A _ _ _ hA (ht.push n [q]) (h q h1 h2 (by rw [segB_eq ht, Lin.denB_eq ht.2]; exact h3))
  | .br b t e, AB, A, ρ, st, dy, hA, ht, h => ⟨fun hb => holdsB_sound hL t AB A _ _ _ hA ht (h.1 (by rw [BE.denB_eq ht]; exact hb)), fun hb => holdsB_sound hL e AB A _ _ _ hA ht (h.2 (by rw [BE.denB_eq ht]; exact hb))⟩
  | .call id args n bds r, AB, A, ρ, st, dy, hA, ht, h => by
    refine allB_intro fun rs hi hs => ?_
    obtain ⟨st', dy', h1, h2⟩ := allBl_elim h ht hi
    exact holdsB_sound hL r AB A _ _ _ hA h1 (h2 (by rw [seg_split ht]; exact hs))
  | .loop lid init n bds r, AB, A, ρ, st, dy, hA, ht, h => by
    obtain ⟨I, μ, h1, h2⟩ := h
    refine ⟨fun zs => I (splitL (lsh lid) zs), fun zs => μ (splitL (lsh lid) zs), ?_, ?_⟩
    · rw [seg_split ht] at h1; exact h1
    · refine allB_intro fun zs hi hI => ?_
      obtain ⟨st', dy', g1, g2⟩ := allBl_elim h2 ht hi
      refine holdsB_sound hL r _ _ _ _ _ (fun lid' vs hv => ?_) g1 (g2 hI)
      unfold AgainB.set at hv
      unfold Again.set
      cases hq : Nat.beq lid' lid with
      | true =>
        rw [hq] at hv
        have e := Nat.eq_of_beq_eq_true hq
        subst e
        exact hv
      | false => rw [hq] at hv; exact hA _ _ hv
  | .again lid vals, AB, A, ρ, st, dy, hA, ht, h => hA lid _ (by rw [← seg_split ht]; exact h)
  | .both x y, AB, A, ρ, st, dy, hA, ht, h => ⟨holdsB_sound hL x AB A ρ st dy hA ht h.1, holdsB_sound hL y AB A ρ st dy hA ht h.2⟩
  | .fn n op args lo hi r, AB, A, ρ, st, dy, hA, ht, h => fun q h1 h2 h3 => holdsB_sound hL r AB A _ _ _ hA (ht.push n [q]) (h q h1 h2 (by rw [map_denB ht]; exact h3))
  | .ind n b r, AB, A, ρ, st, dy, hA, ht, h => fun q h1 h2 h3 => holdsB_sound hL r AB A _ _ _ hA (ht.push n [q]) (h q h1 h2 (by rw [BE.denB_eq ht]; exact h3))
  | .unk n lo hi r, AB, A, ρ, st, dy, hA, ht, h => fun q h1 h2 => holdsB_sound hL r AB A _ _ _ hA (ht.push n [q]) (h q h1 h2)
  | .nat n r, AB, A, ρ, st, dy, hA, ht, h => fun q h1 => holdsB_sound hL r AB A _ _ _ hA (ht.push n [q]) (h q h1)
  | .asm op args r, AB, A, ρ, st, dy, hA, ht, h => fun h1 => holdsB_sound hL r AB A ρ st dy hA ht (h (by rw [map_denB ht]; exact h1))
  | .chk op args r, AB, A, ρ, st, dy, hA, ht, h => ⟨by rw [← map_denB ht]; exact h.1, holdsB_sound hL r AB A _ _ _ hA ht h.2⟩

/-! ### Leaves -/
def linsO : List O → Option (List Lin)
  | [] => some []
  | .l x :: r => match linsO r with | some l => some (x :: l) | none => none
  | .b _ :: _ => none
def O.denB (st : BSt) (dy : BDy) : O → Int
  | l x => x.denB st dy
  | b x => cond (x.denB st dy) 1 0
def segO (st : BSt) (dy : BDy) (os : List O) : List Int :=
  match linsO os with
  | some ls => segB st dy ls
  | none => os.map (O.denB st dy)
theorem linsO_spec {ρ : Env} : ∀ {os : List O} {ls : List Lin}, linsO os = some ls → ls.map (·.den ρ) = os.map (O.den ρ)
  | [], ls, h => by simp [linsO] at h; subst h; rfl
  | .l x :: r, ls, h => by
    simp only [linsO] at h
    cases hr : linsO r with
    | none => simp [hr] at h
    | some l =>
      simp only [hr, Option.some.injEq] at h
      subst h
      simp only [List.map_cons, linsO_spec hr, O.den]
  | .b _ :: _, _, h => by simp [linsO] at h
theorem O.denB_eq {ρ : Env} {st : BSt} {dy : BDy} (h : Tells ρ st dy) : ∀ o : O, o.denB st dy = o.den ρ
  | .l x => Lin.denB_eq h.2 x
  | .b x => by simp only [denB, den, BE.denB_eq h]
theorem segO_eq {ρ : Env} {st : BSt} {dy : BDy} (h : Tells ρ st dy) (os : List O) : segO st dy os = os.map (O.den ρ) := by
  unfold segO
  cases hl : linsO os with
  | some ls => exact (segB_eq h ls).trans (linsO_spec hl)
  | none => exact List.map_congr_left fun o _ => O.denB_eq h o
/-- How a record of field numbers falls into numbers. -/
def mixNums (k : Nat) : List Nat := match k with
  | 12 => [4, 4, 4]
  | 15 => [5, 5, 5]
  | 20 => [5, 5, 5, 5]
  | k => [k]
def D.nums : D → List Nat
  | .mix l => mixNums l.length
  | .strk _ => []
  | d => [d.num]
def numsD (ds : List D) : List Nat := ds.flatMap D.nums
/-- At a leaf, by blocks. -/
def LeafB (ds : List D) (K : List (List Int) → Prop) (v : V) (st : BSt) (dy : BDy) : Prop :=
  match outs ds v with
  | some os => K ((splitL (numsD ds) os).map (segO st dy))
  | none => False
theorem LeafB_sound {ds : List D} {K : List (List Int) → Prop} (v : V) (ρ : Env) (st : BSt) (dy : BDy) (ht : Tells ρ st dy) (h : LeafB ds K v st dy) : LeafK ds (fun rs => K (splitL (numsD ds) rs)) v ρ := by
  unfold LeafB at h
  unfold LeafK
  cases ho : outs ds v with
  | none => simp [ho] at h
  | some os =>
    simp only [ho] at h ⊢
    rw [splitL_map]
    rwa [show (splitL (numsD ds) os).map (segO st dy) = (splitL (numsD ds) os).map (List.map (O.den ρ)) from List.map_congr_left fun o _ => segO_eq ht o] at h

/-- **A condition, by blocks.** -/
def VcB (sh : Nat → List Nat × List Nat) (lsh : Nat → List Nat) (S : Nat → List (List Int) → List (List Int) → Prop) (K : List (List Int) → List (List Int) → Prop) (lens : List Nat) (bds : List (Int × Int)) (ds : List D) (t : T) : Prop :=
  allBl lens 0 bds (fun st dy zs => t.holdsB sh lsh S (LeafB ds (K zs)) (fun _ _ => False) st dy) [] []
theorem VcB_sound {sh : Nat → List Nat × List Nat} {lsh : Nat → List Nat} {S : Nat → List (List Int) → List (List Int) → Prop} {K : List (List Int) → List (List Int) → Prop} {lens : List Nat} {bds : List (Int × Int)} {ds : List D} {t : T}
    (h : VcB sh lsh S K lens bds ds t) : allB bds fun zs => t.holds (flatS sh S) (LeafK ds fun rs => K (splitL lens zs) (splitL (numsD ds) rs)) (fun _ _ => False) (updL (fun _ => 0) 0 zs) := by
  refine allB_intro fun zs hi => ?_
  obtain ⟨st, dy, h1, h2⟩ := allBl_elim h (show Tells (fun _ => 0) [] [] from ⟨trivial, fun _ => rfl⟩) hi
  exact holdsB_sound (fun v ρ st dy ht hl => LeafB_sound v ρ st dy ht hl) t _ _ _ st dy (fun _ _ hf => hf.elim) h1 h2
end Go.Rx

/- Rows of laws whose parameters are integers, truth values and arrays of integers: opened, shut, and the row out of a contract. -/
set_option linter.unusedVariables false
set_option linter.unusedSimpArgs false
namespace Go.Rx
open Go.ChangeShapes Go.WideShapes Go.RowKit
variable {H : Type} {enc : TypeId × Value → H} {P : Program}

theorem wf_iff {k : IntKind} {z : Int} : (Lit.int k z).wf = true ↔ k.min ≤ z ∧ z ≤ k.max := by simp [Lit.wf]
theorem inB_app : ∀ {b b' : List (Int × Int)} {l l' : List Int}, inB b l → inB b' l' → inB (b ++ b') (l ++ l')
  | [], _, [], _, _, h => h
  | _ :: _, _, _ :: _, _, h, h' => ⟨h.1, h.2.1, inB_app h.2.2 h'⟩
  | [], _, _ :: _, _, h, _ => h.elim
  | _ :: _, _, [], _, h, _ => h.elim
theorem D.val_app (d : D) {zs l : List Int} (h : zs.length = d.num) : d.val (zs ++ l) = d.val zs := by
  cases d with
  | str => match zs, h with | [z], _ => rfl
  | int k lo hi => match zs, h with | [z], _ => rfl
  | bool => match zs, h with | [z], _ => rfl
  | agg k n lo hi => simp only [D.num] at h; simp only [D.val, ← h]; simp
  | strk p => rfl
  | mix p =>
    simp only [D.num] at h
    simp only [D.val]
    congr 2
    revert zs
    induction p with
    | nil => intro zs h; simp
    | cons a p ih =>
      intro zs h
      match zs, h with
      | z :: zs, h => simp only [List.cons_append, List.zipWith_cons_cons, ih (zs := zs) (by simpa using h)]
theorem keptBut_extends {w w' : World} (h : w.Extends w') (may : MemPlace → Prop) : w.keptBut w' may :=
  Below.frame (W := w) ⟨h.os, h.tape, h.output, h.size, fun i hi => h.block i hi⟩ may
end Go.Rx


/- Contracts of functions that take slices and hand slices back. -/
set_option linter.unusedVariables false
set_option linter.unusedSimpArgs false
namespace Go.Rx
open M

/-- What a function takes or hands back: a value of numbers, rows to be read, rows of one's own. -/
inductive BD where
  | d (x : D)
  | rd (sh : List CK)
  | ow (sh : List CK) (e : TypeId)
def BD.num : BD → Nat
  | d x => x.num
  | _ => 1
noncomputable def BD.bds : BD → List (Int × Int)
  | d x => x.bds
  | _ => [(0, RB)]
noncomputable def bbds : List BD → List (Int × Int)
  | [] => []
  | x :: r => x.bds ++ bbds r
def BD.isD : BD → Bool
  | d _ => true
  | _ => false
def BD.isOw : BD → Bool
  | ow _ _ => true
  | _ => false
def BD.isRd : BD → Bool
  | rd _ => true
  | _ => false
/-- One slice of one's own alone, or slices for reading. -/
def bdOk : List BD → Bool
  | [] => true
  | .d _ :: r => bdOk r
  | .rd _ :: r => r.all (fun b => !b.isOw) && bdOk r
  | .ow _ _ :: r => r.all BD.isD && bdOk r

/-- A slice that reads as rows; it lies where F says. -/
def SlAt (F : Nat → Prop) (w : World) (sh : List CK) (rows : List (List Int)) (v : Value) : Prop :=
  (v = .slice none 0 0 ∧ rows = []) ∨ ∃ (g o cap : Nat) (cells : Array Value) (t : TypeId) (fz : Nat × Nat), v = .slice (some ⟨g, o, none⟩) rows.length cap ∧ (rows.length ≤ cap ∧ (cap : Int) ≤ 9223372036854775807) ∧ F g ∧ w.heap[g]? = some (.cells cells t fz) ∧ RowsAt cells o sh rows
def SlOw (N : Nat → Prop) (w : World) (sh : List CK) (e : TypeId) (rows : List (List Int)) (v : Value) : Prop :=
  (v = .slice none 0 0 ∧ rows = []) ∨ ∃ (g cap : Nat) (cells : Array Value), v = .slice (some ⟨g, 0, none⟩) rows.length cap ∧ (rows.length ≤ cap ∧ (cap : Int) ≤ 9223372036854775807) ∧ N g ∧ w.heap[g]? = some (.cells cells e (0, 0)) ∧ RowsAt cells 0 sh rows ∧ cells.size = cap * sh.length
def BD.at (F N : Nat → Prop) (w : World) : BD → List Int → Value → Prop
  | d x, zs, v => v = x.val zs
  | rd sh, zs, v => SlAt F w sh (rOf (zs.getD 0 0)) v
  | ow sh e, zs, v => SlOw N w sh e (rOf (zs.getD 0 0)) v
def atL (F N : Nat → Prop) (w : World) : List BD → List Int → List Value → Prop
  | [], _, [] => True
  | b :: r, zs, v :: vs => b.at F N w zs v ∧ atL F N w r (zs.drop b.num) vs
  | _, _, _ => False
def tupV (us : List Value) : Value := match us with | [x] => x | l => .tuple l.toArray

/-- A contract. -/
structure BCon where
  f : FuncId
  id : Nat
  args : List BD
  res : List BD
  pre : Nat := 0
/-- What a contract asks of its arguments' numbers. -/
def preD : Nat → List Int → Prop
  | 0, _ => True
  | p + 1, l => chkD (p + 1) l
def preM : Nat → List Lin → T → T
  | 0, _, r => r
  | p + 1, ls, r => .chk (p + 1) ls r
def preA : Nat → List Lin → T → T
  | 0, _, r => r
  | p + 1, ls, r => .asm (p + 1) ls r
theorem preM_holds {S : Nat → List Int → List Int → Prop} {L : V → Env → Prop} {A : Again} {ρ : Env} {p : Nat} {ls : List Lin} {r : T} (h : (preM p ls r).holds S L A ρ) : preD p (ls.map (·.den ρ)) ∧ r.holds S L A ρ := by
  cases p with
  | zero => exact ⟨trivial, h⟩
  | succ p => exact h
theorem preA_holds {S : Nat → List Int → List Int → Prop} {L : V → Env → Prop} {A : Again} {ρ : Env} {p : Nat} {ls : List Lin} {r : T} (h : (preA p ls r).holds S L A ρ) (hp : preD p (ls.map (·.den ρ))) : r.holds S L A ρ := by
  cases p with
  | zero => exact h
  | succ p => exact h hp
def BCon.Ok (P : Program) (wb : World) (c : BCon) (spec : List Int → List Int → Prop) : Prop :=
  (∀ args w, (callFunc c.f args).run P w = .ok (.enter c.f args) w) ∧
  ∀ (F : Nat → Prop) (w : World) (vs : List Value) (zs : List Int), wb.Extends w → inB (bbds c.args) zs → preD c.pre zs → atL F (fun _ => False) w c.args zs vs →
    Calls P c.f vs.toArray w fun e w' => w.Extends w' ∧ ∃ rs us, inB (bbds c.res) rs ∧ spec zs rs ∧ atL (fun g => F g ∨ w.heap.size ≤ g) (fun g => w.heap.size ≤ g) w' c.res rs us ∧ e = .returned (tupV us)

/-! ### New symbols for what comes in -/
noncomputable def argE : List BD → Nat → Nat → List W → List Blk → (Nat → List W → List Blk → T) → T
  | [], _, n, us, bl, k => k n us bl
  | .d x :: r, s, n, us, bl, k => argE r (s + x.num) n (us ++ [x.sym s]) bl k
  | .rd sh :: r, s, n, us, bl, k => .nat n (.unk (n + 1) (-1) 9223372036854775807 (.fn (n + 2) 20 [.var s] 0 9223372036854775807
      (argE r (s + 1) (n + 3) (us ++ [.one (.sl bl.length sh.length (.var n) (.const 0) (.var (n + 2)) (.var (n + 1)))]) (bl ++ [([.rows sh (.var n) (.var s) (.var (n + 1)) 1], (0, false))]) k)))
  | .ow sh e :: r, s, n, us, bl, k => .unk n (-1) 9223372036854775807 (.fn (n + 1) 20 [.var s] 0 9223372036854775807
      (argE r (s + 1) (n + 2) (us ++ [.one (.sl bl.length sh.length (.const 0) (.const 0) (.var (n + 1)) (.var n))]) (bl ++ [([.rows sh (.const 0) (.var s) (.var n) 2], (e, false))]) k))

section
variable {S : Nat → List Int → List Int → Prop} {L : V → Env → Prop} {w0 : Base} {P : Program} {gl : Glo} {cal : Cal}
theorem At.agree {ρ ρ' : Env} {s n : Nat} {zs : List Int} (h : At ρ s zs) (ha : agree n ρ ρ') (hn : s + zs.length ≤ n) : At ρ' s zs := fun j hj => by rw [ha (s + j) (by omega)]; exact h j hj
theorem upd_lt {ρ : Env} {n i : Nat} {z : Int} (h : i < n) : upd ρ n z i = ρ i := upd_ne ρ z (by omega)

theorem argE_ok {F N : Nat → Prop} (hF : ∀ g, F g → w0.ex g ∨ w0.ro g ∨ w0.r.heap.size ≤ g) (hN : ∀ g, N g → w0.b.heap.size ≤ g ∧ w0.r.heap.size ≤ g) : ∀ {l : List BD} {s n : Nat} {us : List W} {bl : List Blk} {k : Nat → List W → List Blk → T} {G : Again} {ρ : Env} {m : Nat → Nat} {w : World} {zs : List Int} {vals : List Value},
    bdOk l = true → BlOk n bl.length ρ bl → Mem w0 ρ m bl w → At ρ s zs → inB (bbds l) zs → s + (bbds l).length ≤ n → atL F N w l zs vals →
    ((l.all fun b => !b.isRd) = true ∨ ∀ (i : Nat) (p : Blk), bl[i]? = some p → F (m i) → kindC ρ p.1 ≤ 1) → ((l.all fun b => !b.isOw) = true ∨ ∀ (i : Nat) (p : Blk), bl[i]? = some p → N (m i) → kindC ρ p.1 = 0) →
    (∀ u ∈ us, W.ok n bl.length ρ u) →
    (argE l s n us bl k).holds S L G ρ → ∃ n' ρ' m' us' bl', Later n bl.length ρ m n' (List.length bl') ρ' m' ∧ BlOk n' bl'.length ρ' bl' ∧ Mem w0 ρ' m' bl' w ∧ us'.map (W.den ρ' m') = us.map (W.den ρ m) ++ vals ∧ (∀ u ∈ us', W.ok n' bl'.length ρ' u) ∧ (k n' us' bl').holds S L G ρ'
  | [], s, n, us, bl, k, G, ρ, m, w, zs, vals, _, hb, hm, _, _, _, hat, _, _, hus, hh => by
    match vals, hat with
    | [], _ => exact ⟨n, ρ, m, us, bl, Later.refl _ _ _ _, hb, hm, by simp, hus, hh⟩
  | .d x :: r, s, n, us, bl, k, G, ρ, m, w, zs, vals, hok, hb, hm, hA, hz, hn, hat, h1, h2, hus, hh => by
    match vals, hat with
    | v :: vs, hat =>
      obtain ⟨hv, hat⟩ := hat
      have hv : v = x.val zs := hv
      simp only [bbds, BD.bds] at hz hn
      simp only [List.length_append] at hn
      obtain ⟨i1, i2⟩ := inB_split hz
      rw [D.bds_len] at i1 i2 hn
      have hs := D.sym_spec (ρ := ρ) (m := m) (N := n) (nb := bl.length) x i1 hA (by omega)
      obtain ⟨n', ρ', m', us', bl', g1, g2, g3, g4, g5, g6⟩ := argE_ok hF hN (l := r) (s := s + x.num) (us := us ++ [x.sym s]) (zs := zs.drop x.num) hok hb hm (hA.drop x.num) i2 (by omega) hat (by
        rcases h1 with h1 | h1
        · left; simpa [BD.isRd] using h1
        · exact .inr h1) (by
        rcases h2 with h2 | h2
        · left; simpa [BD.isOw] using h2
        · exact .inr h2) (fun u hu => by
        rcases List.mem_append.1 hu with hu | hu
        · exact hus u hu
        · simp at hu; subst hu; exact hs.1) hh
      exact ⟨n', ρ', m', us', bl', g1, g2, g3, by rw [g4, List.map_append, hv]; simp [hs.2], g5, g6⟩
  | .rd sh :: r, s, n, us, bl, k, G, ρ, m, w, zs, vals, hok, hb, hm, hA, hz, hn, hat, h1, h2, hus, hh => by
    match vals, hat with
    | v :: vs, hat =>
      obtain ⟨hv, hat⟩ := hat
      match zs, hz with
      | z :: zs, hz =>
        obtain ⟨z1, z2, hz⟩ := hz
        have hv : SlAt F w sh (rOf z) v := hv
        obtain ⟨hA0, hA1⟩ := hA.tail
        have h1 : ∀ (i : Nat) (p : Blk), bl[i]? = some p → F (m i) → kindC ρ p.1 ≤ 1 := by
          rcases h1 with h1 | h1
          · simp [BD.isRd] at h1
          · exact h1
        simp only [bbds, BD.bds, List.length_append, List.length_cons, List.length_nil] at hn
        simp only [bdOk, Bool.and_eq_true] at hok
        have hlen : (rOf z).length ≤ 9223372036854775807 := by
          rcases hv with ⟨_, h⟩ | ⟨_, _, cap, _, _, _, _, ⟨h3, h4⟩, _⟩
          · simp [h]
          · omega
        have hzl : zs.length = (bbds r).length := inB_len hz
        -- where it lies
        obtain ⟨g, o, cap, hg1, hg2, hg3, hg4, hg5⟩ : ∃ (g : Nat) (o : Nat) (cap : Int), (-1 ≤ cap ∧ cap ≤ 9223372036854775807) ∧ (cap < 0 → rOf z = []) ∧ (0 ≤ cap → ((rOf z).length : Int) ≤ cap) ∧
            (v = if cap < 0 then Value.slice none 0 0 else .slice (some ⟨g, o, none⟩) (rOf z).length cap.toNat) ∧
            (0 ≤ cap → F g ∧ ∃ cells t fz, w.heap[g]? = some (.cells cells t fz) ∧ RowsAt cells o sh (rOf z)) := by
          rcases hv with ⟨h3, h4⟩ | ⟨g, o, cap, cells, t, fz, h3, ⟨h4, h5⟩, h6, h7, h8⟩
          · exact ⟨0, 0, -1, by omega, fun _ => h4, fun h => by omega, by simp [h3], fun h => by omega⟩
          · exact ⟨g, o, cap, by omega, fun h => by omega, fun _ => by omega, by rw [if_neg (by omega)]; simpa using h3, fun _ => ⟨h6, cells, t, fz, h7, h8⟩⟩
        have hh3 := hh (o : Int) (by omega) cap hg1.1 hg1.2 (rOf z).length (by omega) (by omega) (by
          simp only [List.map_cons, List.map_nil, fnD, Lin.den_var]
          rw [upd_lt (by omega), upd_lt (by omega), hA0])
        generalize hρ : upd (upd (upd ρ n (o : Int)) (n + 1) cap) (n + 2) ((rOf z).length : Int) = ρ3 at hh3
        have ha : agree n ρ ρ3 := by
          rw [← hρ]
          intro i hi
          rw [upd_lt (by omega), upd_lt (by omega), upd_lt hi]
        have e0 : ρ3 n = o := by rw [← hρ, upd_lt (by omega), upd_lt (by omega), upd_same]
        have e1 : ρ3 (n + 1) = cap := by rw [← hρ, upd_lt (by omega), upd_same]
        have e2 : ρ3 (n + 2) = (rOf z).length := by rw [← hρ, upd_same]
        have e3 : ρ3 s = z := by rw [ha s (by omega)]; exact hA0
        have hm3 := hm.rho hb ha
        have hb3 := hb.ext ha (show n ≤ n + 3 by omega) (Nat.le_refl bl.length)
        have hAk : (A.rows sh (.var n) (.var s) (.var (n + 1)) 1).ok (n + 3) bl.length ρ3 := ⟨⟨Lin.sc_var (by omega), Lin.sc_var (by omega), Lin.sc_var (by omega)⟩, by rw [Lin.den_var, e3]; exact ⟨z1, z2⟩, by rw [Lin.den_var, e1]; exact hg1⟩
        have hM := hm3.push (x := ([.rows sh (.var n) (.var s) (.var (n + 1)) 1], (0, false))) (g := g) hb3 (fun y hy => by simp at hy; subst hy; exact hAk) (fun ho => by cases ho) (fun sh' off' code' cap' kind' he => by
            cases he
            intro _
            refine ⟨fun h => by rw [Lin.den_var, e1] at h; rw [Lin.den_var, e3]; exact hg2 h, fun h => ?_⟩
            rw [Lin.den_var, e1] at h
            obtain ⟨hFg, cells, t, fz, k1, k2⟩ := hg5 h
            exact ⟨hF g hFg, cells, t, fz, k1, ⟨by rw [Lin.den_var, e0]; omega, by rw [Lin.den_var, Lin.den_var, e0, e3]; exact k2⟩, fun h2 => by omega⟩) (fun i p hi he => by
              by_cases hc : 0 ≤ cap
              · refine .inl ⟨?_, ?_⟩
                · rw [kindC_agree (hb _ (List.mem_of_getElem? hi)) ha]
                  exact h1 i p hi (by rw [he]; exact (hg5 hc).1)
                · rw [kindC_rows (by decide) (by rw [Lin.den_var, e1]; exact hc)]; exact Nat.le_refl 1
              · refine .inr (.inr ?_)
                simp only [kindC, Lin.den_var, e1]
                rw [if_pos (by omega)])
        have hlat : Later n bl.length ρ m (n + 3) (bl ++ [([A.rows sh (.var n) (.var s) (.var (n + 1)) 1], ((0 : TypeId), false))]).length ρ3 (updM m bl.length g) := ⟨by omega, ha, by simp, fun b hb => updM_lt hb⟩
        have hbl3 : BlOk (n + 3) (bl ++ [([A.rows sh (.var n) (.var s) (.var (n + 1)) 1], ((0 : TypeId), false))]).length ρ3 (bl ++ [([.rows sh (.var n) (.var s) (.var (n + 1)) 1], (0, false))]) := fun p hp a ha' => by
          rcases List.mem_append.1 hp with hp | hp
          · exact (hb3 p hp a ha').ext (agree.refl _ _) (Nat.le_refl _) (by simp)
          · simp at hp; subst hp; simp at ha'; subst ha'
            exact hAk.ext (agree.refl _ _) (Nat.le_refl _) (by simp)
        have hu0 : W.ok (n + 3) (bl ++ [([A.rows sh (.var n) (.var s) (.var (n + 1)) 1], ((0 : TypeId), false))]).length ρ3 (.one (.sl bl.length sh.length (.var n) (.const 0) (.var (n + 2)) (.var (n + 1)))) := by
          refine ⟨by simp, ⟨Lin.sc_var (by omega), Lin.sc_const _ _, Lin.sc_var (by omega), Lin.sc_var (by omega)⟩, ?_⟩
          simp only [Lin.den_var, Lin.den_const, e0, e1, e2]
          exact ⟨by omega, by omega, fun h => by rw [hg2 h]; rfl, hg3⟩
        obtain ⟨n', ρ', m', us', bl', g1, g2, g3, g4, g5, g6⟩ := argE_ok hF hN (l := r) (s := s + 1) (us := us ++ [.one (.sl bl.length sh.length (.var n) (.const 0) (.var (n + 2)) (.var (n + 1)))]) (zs := zs) (vals := vs) hok.2 hbl3 hM (hA1.agree ha (by omega)) hz (by omega) hat (.inr fun i p hi hf => by
            rw [List.getElem?_append] at hi
            split at hi
            · rename_i hil
              rw [updM_lt hil] at hf
              rw [kindC_agree (hb _ (List.mem_of_getElem? hi)) ha]
              exact h1 i p hi hf
            · have : i = bl.length := by
                have := (List.getElem?_eq_some_iff.1 hi).1
                simp at this; omega
              subst this
              simp at hi
              subst hi
              simp only [kindC]; split <;> omega) (.inl hok.1) (fun u hu => by
            rcases List.mem_append.1 hu with hu | hu
            · exact (hus u hu).ext ha (by omega) (by simp)
            · simp at hu; subst hu; exact hu0) hh3
        refine ⟨n', ρ', m', us', bl', hlat.trans g1, g2, g3, ?_, g5, g6⟩
        rw [g4, List.map_append, List.append_assoc]
        congr 1
        · exact List.map_congr_left fun u hu => W.den_ext (hus u hu) ha (fun b hb => updM_lt hb)
        · simp only [List.map_cons, List.map_nil, List.cons_append, List.nil_append, W.den, A.den, Lin.den_var, Lin.den_const, e0, e1, e2, updM_same]
          rw [hg4]
          simp
  | .ow sh e :: r, s, n, us, bl, k, G, ρ, m, w, zs, vals, hok, hb, hm, hA, hz, hn, hat, h1, h2, hus, hh => by
    match vals, hat with
    | v :: vs, hat =>
      obtain ⟨hv, hat⟩ := hat
      match zs, hz with
      | z :: zs, hz =>
        obtain ⟨z1, z2, hz⟩ := hz
        have hv : SlOw N w sh e (rOf z) v := hv
        obtain ⟨hA0, hA1⟩ := hA.tail
        simp only [bbds, BD.bds, List.length_append, List.length_cons, List.length_nil] at hn
        simp only [bdOk, Bool.and_eq_true] at hok
        have h2 : ∀ (i : Nat) (p : Blk), bl[i]? = some p → N (m i) → kindC ρ p.1 = 0 := by
          rcases h2 with h2 | h2
          · simp [BD.isOw] at h2
          · exact h2
        have hlen : (rOf z).length ≤ 9223372036854775807 := by
          rcases hv with ⟨_, h⟩ | ⟨_, cap, _, _, ⟨h3, h4⟩, _⟩
          · simp [h]
          · omega
        have hzl : zs.length = (bbds r).length := inB_len hz
        obtain ⟨g, cap, hg1, hg2, hg3, hg4, hg5⟩ : ∃ (g : Nat) (cap : Int), (-1 ≤ cap ∧ cap ≤ 9223372036854775807) ∧ (cap < 0 → rOf z = []) ∧ (0 ≤ cap → ((rOf z).length : Int) ≤ cap) ∧
            (v = if cap < 0 then Value.slice none 0 0 else .slice (some ⟨g, 0, none⟩) (rOf z).length cap.toNat) ∧
            (0 ≤ cap → N g ∧ ∃ cells, w.heap[g]? = some (.cells cells e (0, 0)) ∧ RowsAt cells 0 sh (rOf z) ∧ cells.size = cap.toNat * sh.length) := by
          rcases hv with ⟨h3, h4⟩ | ⟨g, cap, cells, h3, ⟨h4, h5⟩, h6, h7, h8, h9⟩
          · exact ⟨0, -1, by omega, fun _ => h4, fun h => by omega, by simp [h3], fun h => by omega⟩
          · exact ⟨g, cap, by omega, fun h => by omega, fun _ => by omega, by rw [if_neg (by omega)]; simpa using h3, fun _ => ⟨h6, cells, h7, h8, by simpa using h9⟩⟩
        have hh3 := hh cap hg1.1 hg1.2 (rOf z).length (by omega) (by omega) (by
          simp only [List.map_cons, List.map_nil, fnD, Lin.den_var]
          rw [upd_lt (by omega), hA0])
        generalize hρ : upd (upd ρ n cap) (n + 1) ((rOf z).length : Int) = ρ3 at hh3
        have ha : agree n ρ ρ3 := by
          rw [← hρ]
          intro i hi
          rw [upd_lt (by omega), upd_lt hi]
        have e1 : ρ3 n = cap := by rw [← hρ, upd_lt (by omega), upd_same]
        have e2 : ρ3 (n + 1) = (rOf z).length := by rw [← hρ, upd_same]
        have e3 : ρ3 s = z := by rw [ha s (by omega)]; exact hA0
        have hm3 := hm.rho hb ha
        have hb3 := hb.ext ha (show n ≤ n + 2 by omega) (Nat.le_refl bl.length)
        have hAk : (A.rows sh (.const 0) (.var s) (.var n) 2).ok (n + 2) bl.length ρ3 := ⟨⟨Lin.sc_const _ _, Lin.sc_var (by omega), Lin.sc_var (by omega)⟩, by rw [Lin.den_var, e3]; exact ⟨z1, z2⟩, by rw [Lin.den_var, e1]; exact hg1⟩
        have hM := hm3.push (x := ([.rows sh (.const 0) (.var s) (.var n) 2], (e, false))) (g := g) hb3 (fun y hy => by simp at hy; subst hy; exact hAk) (fun ho => by cases ho) (fun sh' off' code' cap' kind' he => by
            cases he
            intro _
            refine ⟨fun h => by rw [Lin.den_var, e1] at h; rw [Lin.den_var, e3]; exact hg2 h, fun h => ?_⟩
            rw [Lin.den_var, e1] at h
            obtain ⟨hNg, cells, k1, k2, k3⟩ := hg5 h
            have hn2 := hN g hNg
            exact ⟨.inr (.inr hn2.2), cells, e, (0, 0), k1, ⟨by rw [Lin.den_const]; exact Int.le_refl _, by rw [Lin.den_const, Lin.den_var, e3]; exact k2⟩, fun _ => ⟨rfl, Lin.den_const _ _, .mk2, by rw [Lin.den_var, e1]; exact k3, hn2.1, .inr hn2.2⟩⟩) (fun i p hi he => by
              by_cases hc : 0 ≤ cap
              · refine .inr (.inl ?_)
                rw [kindC_agree (hb _ (List.mem_of_getElem? hi)) ha]
                exact h2 i p hi (by rw [he]; exact (hg5 hc).1)
              · refine .inr (.inr ?_)
                simp only [kindC, Lin.den_var, e1]
                rw [if_pos (by omega)])
        have hlat : Later n bl.length ρ m (n + 2) (bl ++ [([A.rows sh (.const 0) (.var s) (.var n) 2], (e, false))]).length ρ3 (updM m bl.length g) := ⟨by omega, ha, by simp, fun b hb => updM_lt hb⟩
        have hbl3 : BlOk (n + 2) (bl ++ [([A.rows sh (.const 0) (.var s) (.var n) 2], (e, false))]).length ρ3 (bl ++ [([.rows sh (.const 0) (.var s) (.var n) 2], (e, false))]) := fun p hp a ha' => by
          rcases List.mem_append.1 hp with hp | hp
          · exact (hb3 p hp a ha').ext (agree.refl _ _) (Nat.le_refl _) (by simp)
          · simp at hp; subst hp; simp at ha'; subst ha'
            exact hAk.ext (agree.refl _ _) (Nat.le_refl _) (by simp)
        have hu0 : W.ok (n + 2) (bl ++ [([A.rows sh (.const 0) (.var s) (.var n) 2], (e, false))]).length ρ3 (.one (.sl bl.length sh.length (.const 0) (.const 0) (.var (n + 1)) (.var n))) := by
          refine ⟨by simp, ⟨Lin.sc_const _ _, Lin.sc_const _ _, Lin.sc_var (by omega), Lin.sc_var (by omega)⟩, ?_⟩
          simp only [Lin.den_var, Lin.den_const, e1, e2]
          exact ⟨by omega, by omega, fun h => by rw [hg2 h]; rfl, hg3⟩
        obtain ⟨n', ρ', m', us', bl', g1, g2, g3, g4, g5, g6⟩ := argE_plain (w0 := w0) (l := r) (s := s + 1) (us := us ++ [.one (.sl bl.length sh.length (.const 0) (.const 0) (.var (n + 1)) (.var n))]) (zs := zs) (vals := vs) hok.1 hbl3 hM (hA1.agree ha (by omega)) hz (by omega) hat (fun u hu => by
            rcases List.mem_append.1 hu with hu | hu
            · exact (hus u hu).ext ha (by omega) (by simp)
            · simp at hu; subst hu; exact hu0) hh3
        refine ⟨n', ρ', m', us', bl', hlat.trans g1, g2, g3, ?_, g5, g6⟩
        rw [g4, List.map_append, List.append_assoc]
        congr 1
        · exact List.map_congr_left fun u hu => W.den_ext (hus u hu) ha (fun b hb => updM_lt hb)
        · simp only [List.map_cons, List.map_nil, List.cons_append, List.nil_append, W.den, A.den, Lin.den_var, Lin.den_const, e1, e2, updM_same]
          rw [hg4]
          simp
where
  argE_plain {w0 : Base} {F N : Nat → Prop} : ∀ {l : List BD} {s n : Nat} {us : List W} {bl : List Blk} {k : Nat → List W → List Blk → T} {G : Again} {ρ : Env} {m : Nat → Nat} {w : World} {zs : List Int} {vals : List Value},
    (l.all BD.isD) = true → BlOk n bl.length ρ bl → Mem w0 ρ m bl w → At ρ s zs → inB (bbds l) zs → s + (bbds l).length ≤ n → atL F N w l zs vals →
    (∀ u ∈ us, W.ok n bl.length ρ u) →
    (argE l s n us bl k).holds S L G ρ → ∃ n' ρ' m' us' bl', Later n bl.length ρ m n' (List.length bl') ρ' m' ∧ BlOk n' bl'.length ρ' bl' ∧ Mem w0 ρ' m' bl' w ∧ us'.map (W.den ρ' m') = us.map (W.den ρ m) ++ vals ∧ (∀ u ∈ us', W.ok n' bl'.length ρ' u) ∧ (k n' us' bl').holds S L G ρ'
  | [], s, n, us, bl, k, G, ρ, m, w, zs, vals, _, hb, hm, _, _, _, hat, hus, hh => by
    match vals, hat with
    | [], _ => exact ⟨n, ρ, m, us, bl, Later.refl _ _ _ _, hb, hm, by simp, hus, hh⟩
  | .d x :: r, s, n, us, bl, k, G, ρ, m, w, zs, vals, hok, hb, hm, hA, hz, hn, hat, hus, hh => by
    match vals, hat with
    | v :: vs, hat =>
      obtain ⟨hv, hat⟩ := hat
      have hv : v = x.val zs := hv
      simp only [bbds, BD.bds] at hz hn
      simp only [List.length_append] at hn
      obtain ⟨i1, i2⟩ := inB_split hz
      rw [D.bds_len] at i1 i2 hn
      have hs := D.sym_spec (ρ := ρ) (m := m) (N := n) (nb := bl.length) x i1 hA (by omega)
      obtain ⟨n', ρ', m', us', bl', g1, g2, g3, g4, g5, g6⟩ := argE_plain (l := r) (s := s + x.num) (us := us ++ [x.sym s]) (zs := zs.drop x.num) (by simpa [BD.isD] using hok) hb hm (hA.drop x.num) i2 (by omega) hat (fun u hu => by
        rcases List.mem_append.1 hu with hu | hu
        · exact hus u hu
        · simp at hu; subst hu; exact hs.1) hh
      exact ⟨n', ρ', m', us', bl', g1, g2, g3, by rw [g4, List.map_append, hv]; simp [hs.2], g5, g6⟩
  | .rd _ :: _, _, _, _, _, _, _, _, _, _, _, _, hok, _, _, _, _, _, _, _, _ => by simp [BD.isD] at hok
  | .ow _ _ :: _, _, _, _, _, _, _, _, _, _, _, _, hok, _, _, _, _, _, _, _, _ => by simp [BD.isD] at hok
end
end Go.Rx

/- Contracts with slices: at a call, and out of a tree. -/
set_option linter.unusedVariables false
set_option linter.unusedSimpArgs false
namespace Go.Rx
open M

/-! ### Rows within rows -/
theorem lc_cons (x : Nat) (r : List Nat) : lc (x :: r) = 2 ^ x * (2 * lc r + 1) := rfl
theorem lc_tail (x : Nat) (r : List Nat) : lc r ≤ lc (x :: r) := by
  rw [lc_cons]
  have h1 : 1 ≤ 2 ^ x := Nat.one_le_two_pow
  have h2 : 2 * lc r + 1 ≤ 2 ^ x * (2 * lc r + 1) := Nat.le_mul_of_pos_left _ h1
  omega
theorem lc_drop : ∀ (a : Nat) (l : List Nat), lc (l.drop a) ≤ lc l
  | 0, l => by simp
  | a + 1, [] => by simp
  | a + 1, x :: r => by rw [List.drop_succ_cons]; exact Nat.le_trans (lc_drop a r) (lc_tail x r)
theorem lc_take : ∀ (k : Nat) (l : List Nat), lc (l.take k) ≤ lc l
  | 0, l => by simp [lc]
  | k + 1, [] => by simp
  | k + 1, x :: r => by
    rw [List.take_succ_cons, lc_cons, lc_cons]
    exact Nat.mul_le_mul_left _ (by have := lc_take k r; omega)
theorem rc_sub (l : List (List Int)) (a k : Nat) : rc ((l.drop a).take k) ≤ rc l := by
  unfold rc
  rw [List.map_take, List.map_drop]
  exact_mod_cast Nat.le_trans (lc_take k _) (lc_drop a _)
theorem zz_uz (n : Nat) : zz (uz n) = n := by
  unfold zz uz
  by_cases h : n % 2 = 0
  · rw [if_pos h, if_pos (by omega)]; omega
  · rw [if_neg h, if_neg (by omega)]; omega
theorem tz_spec : ∀ (f n : Nat), 0 < n → n ≤ f → n = 2 ^ tz f n * (2 * (n / 2 ^ tz f n / 2) + 1)
  | 0, n, h, h' => by omega
  | f + 1, n, h, h' => by
    unfold tz
    by_cases hn : n % 2 = 0
    · rw [if_pos hn]
      have ih := tz_spec f (n / 2) (by omega) (by omega)
      have e : n / 2 ^ (tz f (n / 2) + 1) = n / 2 / 2 ^ tz f (n / 2) := by rw [Nat.pow_succ, Nat.mul_comm, Nat.div_div_eq_div_mul]
      rw [e, Nat.pow_succ, Nat.mul_comm (2 ^ _) 2, Nat.mul_assoc, ← ih]; omega
    · rw [if_neg hn]; simp; omega
theorem lc_ld : ∀ (f n : Nat), n ≤ f → lc (ld f n) = n
  | 0, n, h => by
    have : n = 0 := by omega
    subst this; rfl
  | f + 1, n, h => by
    unfold ld
    by_cases hn : n = 0
    · rw [if_pos hn, hn]; rfl
    · rw [if_neg hn, lc_cons]
      have hp : 0 < 2 ^ tz n n := Nat.two_pow_pos _
      have hd : n / 2 ^ tz n n / 2 ≤ f := by
        have h1 : n / 2 ^ tz n n ≤ n := Nat.div_le_self _ _
        omega
      rw [lc_ld f _ hd]
      exact (tz_spec n n (by omega) (Nat.le_refl _)).symm
theorem rc_rOf {z : Int} (h : 0 ≤ z) : rc (rOf z) = z := by
  unfold rc rOf
  rw [List.map_map]
  have e : ((fun row : List Int => lc (row.map zz)) ∘ fun n => (ld n n).map uz) = id := by
    funext n
    simp only [Function.comp, List.map_map, id]
    have : (zz ∘ uz) = id := by funext k; exact zz_uz k
    rw [this, List.map_id, lc_ld n n (Nat.le_refl _)]
  rw [e, List.map_id, lc_ld _ _ (Nat.le_refl _)]
  omega
/-- The slice's blocks. -/
def baseV : V → List Nat
  | .w (.one (.sl b _ _ _ _ _)) => [b]
  | .w (.one (.slc b _ _ _)) => [b]
  | _ => []
def capM (cap capb : Lin) : M Unit := cond (Lin.beq cap capb) (pure ()) (chkM 40 [cap, capb])
noncomputable def rdM (sh : List CK) (bl : List Blk) (v : V) : M Lin :=
  match v with
  | .w (.one (.con (.slice none 0 0))) => pure (.const 0)
  | .w (.one (.sl b sz o ro len cap)) => match bl[b]? with
    | some ([.rows sh' off code capb kind], _) => cond (Nat.blt 0 kind && shBeq sh sh' && Lin.beq o off && Nat.beq sz sh.length) (bind (chkM 22 [code, ro, ro.add len]) fun _ => bind (capM cap capb) fun _ => fnM 22 [code, ro, ro.add len] 0 RB) fail
    | _ => fail
  | .w (.one (.slc b off len cap)) => match headC bl b off (len * sh.length) with
    | some cs => cond (shOk sh && Nat.ble len 1073741824 && Nat.ble len cap && Nat.ble cap 9223372036854775807) (appRowsM sh (chunkA sh.length len cs) (.const 0)) fail
    | none => fail
  | _ => fail
noncomputable def owM (sh : List CK) (e : TypeId) (bl : List Blk) (v : V) : M Lin :=
  match v with
  | .w (.one (.con (.slice none 0 0))) => pure (.const 0)
  | .w (.one (.sl b sz o ro len cap)) => match bl[b]? with
    | some ([.rows sh' off code capb kind], t) => cond (Nat.beq kind 2 && shBeq sh sh' && Lin.beq o (.const 0) && Lin.beq off (.const 0) && Lin.beq ro (.const 0) && Lin.beq cap capb && Nat.beq sz sh.length && Nat.beq t.1 e) (bind (chkM 22 [code, .const 0, len]) fun _ => fnM 22 [code, .const 0, len] 0 RB) fail
    | _ => fail
  | .w (.one (.slc b off len cap)) => match bl[b]? with
    | some (C, t) => match headC bl b off (len * sh.length) with
      | some cs => cond (shOk sh && Nat.ble len 1073741824 && Nat.ble len cap && Nat.ble cap 9223372036854775807 && Nat.beq off 0 && Nat.beq C.length (cap * sh.length) && !t.2 && Nat.beq t.1 e) (appRowsM sh (chunkA sh.length len cs) (.const 0)) fail
      | none => fail
    | none => fail
  | _ => fail
def slcV : V → List Nat
  | .w (.one (.slc b _ _ _)) => [b]
  | _ => []
def BF (w0 : Base) (ρ : Env) (m : Nat → Nat) (bl : List Blk) (bs os : List Nat) (g : Nat) : Prop :=
  (∃ b ∈ bs, m b = g ∧ ∃ p, bl[b]? = some p ∧ kindC ρ p.1 ≠ 0 ∧ (isOrd p.1 = true → b ∈ os)) ∧ (w0.ex g ∨ w0.ro g ∨ w0.r.heap.size ≤ g)
section
variable {S : Nat → List Int → List Int → Prop} {L : V → Env → Prop} {n : Nat} {ρ : Env} {m : Nat → Nat} {bl : List Blk} {gl : Glo} {w0 : Base} {P : Program} {w : World}

theorem SlAt.mono {F F' : Nat → Prop} {sh : List CK} {rows : List (List Int)} {v : Value} (h : SlAt F w sh rows v) (hF : ∀ g, F g → F' g) : SlAt F' w sh rows v := by
  rcases h with h | ⟨g, o, cap, cells, t, fz, h1, h2, h3, h4⟩
  · exact .inl h
  · exact .inr ⟨g, o, cap, cells, t, fz, h1, h2, hF g h3, h4⟩
/-- Cells of an ordinary block as rows. -/
theorem slc_rows {b off len : Nat} {C : List A} {t : TypeId × Bool} {cs : List A} {sh : List CK} {rows : List (List Int)} (hb : BlOk n bl.length ρ bl) (hw : Mem w0 ρ m bl w) (hbl : bl[b]? = some (C, t)) (hcs : headC bl b off (len * sh.length) = some cs)
    (hrk : ∀ row ∈ rows, RowOk sh row) (hfl : flatV sh rows = cs.map (A.den ρ m)) : w0.b.heap.size ≤ m b ∧ (w0.ex (m b) ∨ w0.r.heap.size ≤ m b) ∧ ∃ cells : Array Value, w.heap[m b]? = some (.cells cells t.1 (0, 0)) ∧ RowsAt cells off sh rows ∧ (t.2 = false → cells.size = C.length) := by
  unfold headC at hcs
  rw [hbl] at hcs
  simp only at hcs
  cases hc : (Nat.ble (off + len * sh.length) C.length && isOrd C) with
  | false => rw [hc] at hcs; cases hcs
  | true =>
    rw [hc] at hcs
    simp only [cond_true, Option.some.injEq] at hcs
    simp only [Bool.and_eq_true] at hc
    have hle := Nat.le_of_ble_eq_true hc.1
    obtain ⟨g1, g2, r, hr, g3⟩ := hw.blk b C t hbl hc.2
    refine ⟨g1, g2, _, g3, ⟨hrk, (C.take off).map (A.den ρ m), ((C.drop off).drop (len * sh.length)).map (A.den ρ m) ++ r, ?_, by simp; omega⟩, fun ht => by rw [hr ht]; simp⟩
    rw [hfl, ← hcs]
    show C.map (A.den ρ m) ++ r = _
    have e : C = C.take off ++ ((C.drop off).take (len * sh.length) ++ (C.drop off).drop (len * sh.length)) := by rw [List.take_append_drop, List.take_append_drop]
    conv => lhs; rw [e]
    simp only [List.map_append, List.append_assoc]
theorem rOf_const0 : rOf ((Lin.const 0).den ρ) = [] := by rw [Lin.den_const]; exact rOf_zero
theorem RB_nonneg : (0 : Int) ≤ RB := Int.le_trans (rc_nonneg []) (RB_c (l := []) (by simp) (by simp))

theorem slc_M {sh : List CK} {len : Nat} {cs : List A} (hsh : shOk sh = true) (hl : len ≤ 1073741824) (hok : ∀ a ∈ cs, A.ok n bl.length ρ a) (hcl : cs.length = len * sh.length) :
    Snd S L (appRowsM sh (chunkA sh.length len cs) (.const 0)) n ρ fun ρ' n' l => l.sc n' ∧ (0 ≤ l.den ρ' ∧ l.den ρ' ≤ RB) ∧ (rOf (l.den ρ')).length = len ∧ (∀ row ∈ rOf (l.den ρ'), RowOk sh row) ∧ flatV sh (rOf (l.den ρ')) = cs.map (A.den ρ m) := by
  have hch := chunkA_flat (w := sh.length) (k := len) hcl
  refine (appRowsM_snd (nb := bl.length) (m := m) hsh (rs := chunkA sh.length len cs) (c := .const 0) (fun row hr a ha => hok a (chunkA_mem row hr a ha)) (Lin.sc_const _ _) (by rw [Lin.den_const]; exact ⟨Int.le_refl _, RB_nonneg⟩) (by rw [rOf_const0]; intro _ h; simp at h) (by rw [rOf_const0, hch.1]; simpa using hl)).mono fun ρ1 n1 l hn ha ⟨p1, p2, rows', p3, p4, p5, p6⟩ => ?_
  rw [rOf_const0, List.nil_append] at p3
  rw [p3]
  exact ⟨p1, p2, by rw [p4, hch.1], p5, by rw [p6, hch.2]⟩
theorem capM_snd {cap capb : Lin} {α : Type} {x : M α} {R : Env → Nat → α → Prop} (h : (0 ≤ cap.den ρ → 0 ≤ capb.den ρ) → Snd S L x n ρ R) : Snd S L (bind (capM cap capb) fun _ => x) n ρ R := by
  unfold capM
  cases hc : Lin.beq cap capb with
  | true => exact h (by rw [Lin.beq_eq hc]; exact id)
  | false => exact chkM_snd h
theorem rdM_snd {sh : List CK} {v : V} {X : Value} (hb : BlOk n bl.length ρ bl) (hw : Mem w0 ρ m bl w) (hv : v.ok n bl.length ρ) (hX : v.rel ρ m X) :
    Snd S L (rdM sh bl v) n ρ fun ρ' n' l => l.sc n' ∧ (0 ≤ l.den ρ' ∧ l.den ρ' ≤ RB) ∧ SlAt (BF w0 ρ m bl (baseV v) (slcV v)) w sh (rOf (l.den ρ')) X := by
  unfold rdM
  split
  · refine Snd.pure ⟨Lin.sc_const _ _, by rw [Lin.den_const]; exact ⟨Int.le_refl _, RB_nonneg⟩, .inl ⟨hX, rOf_const0⟩⟩
  · rename_i b sz o ro len cap
    split
    · rename_i sh' off code capb kind t hbl
      refine snd_guard fun hc => chkM_snd fun hk => ?_
      simp only [Bool.and_eq_true] at hc
      obtain ⟨⟨⟨c1, c2⟩, c3⟩, c4⟩ := hc
      have c1 : 0 < kind := Nat.le_of_ble_eq_true c1
      have c2 := shBeq_eq c2; have c3 := Lin.beq_eq c3; have c4 := Nat.eq_of_beq_eq_true c4
      subst c2; subst c3; subst c4
      simp only [List.map_cons, List.map_nil, chkD, Lin.den_add] at hk
      have hvo : (A.sl b sh.length o ro len cap).ok n bl.length ρ := hv
      obtain ⟨ptr, e1, e2, e3⟩ := sl_den (m := m) hvo
      have hX : X = (A.sl b sh.length o ro len cap).den ρ m := hX
      obtain ⟨x1, ⟨x2, x3, x4, x5⟩, ⟨x6, x7, x8, x9⟩, ⟨x10, x13⟩, x11, x12⟩ := hvo
      have hAok : (A.rows sh o code capb kind).ok n bl.length ρ := hb _ (List.mem_of_getElem? hbl) _ (by simp)
      have hf : fnD 22 ([code, ro, ro.add len].map (·.den ρ)) = rc (((rOf (code.den ρ)).drop (ro.den ρ).toNat).take (len.den ρ).toNat) := by
        simp only [List.map_cons, List.map_nil, fnD, Lin.den_add]
        congr 2; omega
      have hbd : rc (((rOf (code.den ρ)).drop (ro.den ρ).toNat).take (len.den ρ).toNat) ≤ RB := by
        have h1 := rc_sub (rOf (code.den ρ)) (ro.den ρ).toNat (len.den ρ).toNat
        rw [rc_rOf hAok.2.1.1] at h1
        exact Int.le_trans h1 hAok.2.1.2
      refine capM_snd fun hcc => ?_
      refine (fnM_snd (by rw [hf]; exact rc_nonneg _) (by rw [hf]; exact hbd)).mono fun ρ1 n1 l hn ha ⟨k1, k2⟩ => ?_
      rw [hf] at k2
      refine ⟨k1, by rw [k2]; exact ⟨rc_nonneg _, hbd⟩, ?_⟩
      rw [k2, rOf_rc]
      have hlen : (((rOf (code.den ρ)).drop (ro.den ρ).toNat).take (len.den ρ).toNat).length = (len.den ρ).toNat := by simp; omega
      rcases Int.lt_or_le (cap.den ρ) 0 with hcap | hcap
      · left
        have := x11 hcap
        refine ⟨by rw [hX, e1, e2 hcap, if_pos hcap, this]; rfl, by rw [this]; simp⟩
      · right
        clear hbd
        rcases Int.lt_or_le (capb.den ρ) 0 with hcb | hcb
        · have := hcc hcap; omega
        · obtain ⟨q0, cells, tq, fz, q1, ⟨q2, q3⟩, _⟩ := (hw.rws b sh o code capb kind t hbl (by omega)).2 hcb
          refine ⟨m b, (o.den ρ).toNat + (ro.den ρ).toNat * sh.length, (cap.den ρ).toNat, cells, tq, fz, ?_, ⟨by rw [hlen]; have := x12 hcap; omega, by omega⟩, ⟨⟨b, by simp [baseV], rfl, _, hbl, by rw [kindC_rows (by omega) hcb]; omega, fun h => by cases h⟩, q0⟩, q1, ?_⟩
          · rw [hX, e1, e3 hcap, hlen, if_neg (by omega)]
          · exact q3.sub _ _ (by omega)
    · exact Snd.fail
  · rename_i b off len cap
    split
    · rename_i cs hcs
      refine snd_guard fun hc => ?_
      simp only [Bool.and_eq_true] at hc
      obtain ⟨⟨⟨c1, c2⟩, c3⟩, c4⟩ := hc
      have c2 := Nat.le_of_ble_eq_true c2; have c3 := Nat.le_of_ble_eq_true c3; have c4 := Nat.le_of_ble_eq_true c4
      obtain ⟨d1, d2, d3⟩ := headC_spec hw hb hcs
      refine (slc_M (m := m) c1 c2 d2 d1).mono fun ρ1 n1 l hn ha ⟨k1, k2, k3, k4, k5⟩ => ⟨k1, k2, .inr ?_⟩
      have hX : X = .slice (some ⟨m b, off, none⟩) len cap := hX
      cases hbl : bl[b]? with
      | none => unfold headC at hcs; rw [hbl] at hcs; cases hcs
      | some q =>
        obtain ⟨C, t⟩ := q
        obtain ⟨g1, g2, cells, g3, g4, _⟩ := slc_rows hb hw hbl hcs k4 k5
        have hord : isOrd C = true := by
          unfold headC at hcs
          rw [hbl] at hcs
          simp only at hcs
          cases hc : (Nat.ble (off + len * sh.length) C.length && isOrd C) with
          | false => rw [hc] at hcs; cases hcs
          | true => simp only [Bool.and_eq_true] at hc; exact hc.2
        exact ⟨m b, off, cap, cells, t.1, (0, 0), by rw [hX, k3], ⟨by omega, by omega⟩, ⟨⟨b, by simp [baseV], rfl, _, hbl, by rw [kind_ord hord]; decide, fun _ => by simp [slcV]⟩, g2.elim .inl fun h => .inr (.inr h)⟩, g3, g4⟩
    · exact Snd.fail
  · exact Snd.fail
theorem owM_snd {sh : List CK} {e : TypeId} {v : V} {X : Value} (hex : ∀ g, ¬ w0.ex g) (hb : BlOk n bl.length ρ bl) (hw : Mem w0 ρ m bl w) (hv : v.ok n bl.length ρ) (hX : v.rel ρ m X) :
    Snd S L (owM sh e bl v) n ρ fun ρ' n' l => l.sc n' ∧ (0 ≤ l.den ρ' ∧ l.den ρ' ≤ RB) ∧ SlOw (fun g => w0.r.heap.size ≤ g) w sh e (rOf (l.den ρ')) X := by
  unfold owM
  split
  · refine Snd.pure ⟨Lin.sc_const _ _, by rw [Lin.den_const]; exact ⟨Int.le_refl _, RB_nonneg⟩, .inl ⟨hX, rOf_const0⟩⟩
  · rename_i b sz o ro len cap
    split
    · rename_i sh' off code capb kind t hbl
      refine snd_guard fun hc => chkM_snd fun hk => ?_
      simp only [Bool.and_eq_true] at hc
      obtain ⟨⟨⟨⟨⟨⟨⟨c1, c2⟩, c3⟩, c3'⟩, c3''⟩, c6⟩, c4⟩, c5⟩ := hc
      have c1 := Nat.eq_of_beq_eq_true c1
      have c2 := shBeq_eq c2; have c3 := Lin.beq_eq c3; have c3' := Lin.beq_eq c3'; have c3'' := Lin.beq_eq c3''; have c6 := Lin.beq_eq c6; have c4 := Nat.eq_of_beq_eq_true c4; have c5 := Nat.eq_of_beq_eq_true c5
      subst c2; subst c3; subst c4; subst c3'; subst c3''; subst c6; subst c5; subst c1
      simp only [List.map_cons, List.map_nil, chkD, Lin.den_const] at hk
      have hvo : (A.sl b sh.length (.const 0) (.const 0) len cap).ok n bl.length ρ := hv
      obtain ⟨ptr, e1, e2, e3⟩ := sl_den (m := m) hvo
      have hX : X = (A.sl b sh.length (.const 0) (.const 0) len cap).den ρ m := hX
      obtain ⟨x1, ⟨x2, x3, x4, x5⟩, ⟨x6, x7, x8, x9⟩, ⟨x10, x13⟩, x11, x12⟩ := hvo
      rw [Lin.den_const] at x13
      have hAok : (A.rows sh (.const 0) code cap 2).ok n bl.length ρ := hb _ (List.mem_of_getElem? hbl) _ (by simp)
      have hf : fnD 22 ([code, .const 0, len].map (·.den ρ)) = rc (((rOf (code.den ρ)).drop 0).take (len.den ρ).toNat) := by
        simp only [List.map_cons, List.map_nil, fnD, Lin.den_const]
        congr 2
      have hbd : rc (((rOf (code.den ρ)).drop 0).take (len.den ρ).toNat) ≤ RB := by
        have h1 := rc_sub (rOf (code.den ρ)) 0 (len.den ρ).toNat
        rw [rc_rOf hAok.2.1.1] at h1
        exact Int.le_trans h1 hAok.2.1.2
      refine (fnM_snd (by rw [hf]; exact rc_nonneg _) (by rw [hf]; exact hbd)).mono fun ρ1 n1 l hn ha ⟨k1, k2⟩ => ?_
      rw [hf] at k2
      refine ⟨k1, by rw [k2]; exact ⟨rc_nonneg _, hbd⟩, ?_⟩
      rw [k2, rOf_rc]
      have hlen : (((rOf (code.den ρ)).drop 0).take (len.den ρ).toNat).length = (len.den ρ).toNat := by simp; omega
      rcases Int.lt_or_le (cap.den ρ) 0 with hcap | hcap
      · left
        have := x11 hcap
        refine ⟨by rw [hX, e1, e2 hcap, if_pos hcap, this]; rfl, by rw [this]; simp⟩
      · right
        clear hbd
        obtain ⟨q0, cells, tq, fz, q1, ⟨q2, q3⟩, q4⟩ := (hw.rws b sh (.const 0) code cap 2 t hbl (by omega)).2 hcap
        obtain ⟨p0, p1, p2, p3, p4, p5⟩ := q4 (by omega)
        have p2 := p2.two
        subst p0; subst p2
        rw [Lin.den_const] at q3
        refine ⟨m b, (cap.den ρ).toNat, cells, ?_, ⟨by rw [hlen]; have := x12 hcap; omega, by omega⟩, p5.elim (fun h => absurd h (hex _)) id, q1, ?_, p3⟩
        · rw [hX, e1, e3 hcap, hlen, if_neg (by omega)]; simp [Lin.den_const]
        · have := q3.sub 0 (len.den ρ).toNat (by omega)
          simpa using this
    · exact Snd.fail
  · rename_i b off len cap
    split
    · rename_i C t hbl
      split
      · rename_i cs hcs
        refine snd_guard fun hc => ?_
        simp only [Bool.and_eq_true] at hc
        obtain ⟨⟨⟨⟨⟨⟨⟨c1, c2⟩, c3⟩, c4⟩, c5⟩, c6⟩, c7⟩, c8⟩ := hc
        have c2 := Nat.le_of_ble_eq_true c2; have c3 := Nat.le_of_ble_eq_true c3; have c4 := Nat.le_of_ble_eq_true c4
        have c5 := Nat.eq_of_beq_eq_true c5; have c6 := Nat.eq_of_beq_eq_true c6; have c8 := Nat.eq_of_beq_eq_true c8
        subst c5; subst c8
        obtain ⟨d1, d2, d3⟩ := headC_spec hw hb hcs
        refine (slc_M (m := m) c1 c2 d2 d1).mono fun ρ1 n1 l hn ha ⟨k1, k2, k3, k4, k5⟩ => ⟨k1, k2, .inr ?_⟩
        have hX : X = .slice (some ⟨m b, 0, none⟩) len cap := hX
        obtain ⟨g1, g2, cells, g3, g4, g5⟩ := slc_rows hb hw hbl hcs k4 k5
        exact ⟨m b, cap, cells, by rw [hX, k3], ⟨by omega, by omega⟩, g2.elim (fun h => absurd h (hex _)) id, g3, g4, by rw [g5 (by simpa using c7), c6]⟩
      · exact Snd.fail
    · exact Snd.fail
  · exact Snd.fail
end

/-! ### Arguments -/
def flatDM (d : D) (v : V) : M (List Lin) :=
  match d, v with
  | .bool, .w (.one (.bool e)) => match e with
    | .lit v => pure [.const (cond v 1 0)]
    | e => bind (indM e) fun l => pure [l]
  | .int k lo hi, .w (.one (.int k' x)) => cond (decide (k = k')) (cond (fitI lo hi x) (pure [x.l]) (bind (chkM 39 [x.l, .const lo, .const hi]) fun _ => pure [x.l])) fail
  | .mix l, .w (.agg s) => rowLinM l s
  | .str, .w (.one (.str l)) => pure [l]
  | .strk l, .w (.one (.str x)) => match x.isC with | some c => cond (decide (c = cOf (kL l))) (pure []) fail | none => fail
  | .agg k n lo hi, .w (.agg l) => cond (Nat.beq l.length n) (match flatA k lo hi l with | some r => pure r | none => fail) fail
  | _, _ => fail
noncomputable def flatBM (bl : List Blk) : List BD → List V → M (List Lin)
  | [], [] => pure []
  | .d x :: r, v :: s => bind (flatDM x v) fun a => bind (flatBM bl r s) fun b => pure (a ++ b)
  | .rd sh :: r, v :: s => bind (rdM sh bl v) fun a => bind (flatBM bl r s) fun b => pure (a :: b)
  | _, _ => fail
section
variable {S : Nat → List Int → List Int → Prop} {L : V → Env → Prop} {w0 : Base} {P : Program} {w : World}
theorem rowOk_inB : ∀ {sh : List CK} {zs : List Int}, RowOk sh zs → inB (sh.map CK.bd) zs ∧ List.zipWith CK.val sh zs = rowV sh zs
  | [], [], _ => ⟨trivial, rfl⟩
  | c :: sh, z :: zs, h => ⟨⟨h.1.1, h.1.2, (rowOk_inB h.2).1⟩, by simp [rowV, (rowOk_inB h.2).2]⟩
  | [], _ :: _, h => h.elim
  | _ :: _, [], h => h.elim
theorem flatDM_snd {d : D} {v : V} {X : Value} {n nb : Nat} {ρ : Env} {m : Nat → Nat} (hv : v.ok n nb ρ) (hX : v.rel ρ m X) : Snd S L (flatDM d v) n ρ fun ρ' n' ls => (∀ x ∈ ls, Lin.sc n' x) ∧ inB d.bds (ls.map (·.den ρ')) ∧ X = d.val (ls.map (·.den ρ')) := by
  unfold flatDM
  split
  · rename_i e
    have hX : X = .bool (e.den ρ) := hX
    have key : Snd S L (bind (indM e) fun l => pure [l]) n ρ fun ρ' n' ls => (∀ x ∈ ls, Lin.sc n' x) ∧ inB D.bool.bds (ls.map (·.den ρ')) ∧ X = D.bool.val (ls.map (·.den ρ')) :=
      indM_snd.bind fun ρ1 n1 l hn ha ⟨g1, g2, g3⟩ => Snd.pure ⟨fun x hx => by simp at hx; subst hx; exact g1, ⟨g2.1, g2.2, trivial⟩, by rw [hX, g3]; rfl⟩
    cases e with
    | lit b =>
      refine Snd.pure ⟨fun x hx => by simp at hx; subst hx; exact Lin.sc_const _ _, ?_, ?_⟩
      · simp only [List.map_cons, List.map_nil, Lin.den_const, D.bds]; cases b <;> exact ⟨by decide, by decide, trivial⟩
      · rw [hX]; simp only [List.map_cons, List.map_nil, Lin.den_const]; cases b <;> rfl
    | _ => exact key
  · rename_i k lo hi k' x
    refine snd_guard fun hk => ?_
    have hk : k = k' := by simpa using hk
    subst hk
    have hv : x.ok n ρ := hv
    have hX : X = .int k (x.l.den ρ) := hX
    cases hf : fitI lo hi x with
    | true =>
      have := fitI_spec hf hv
      exact Snd.pure ⟨fun y hy => by simp at hy; subst hy; exact hv.1, ⟨this.1, this.2, trivial⟩, hX⟩
    | false =>
      refine chkM_snd fun hk => Snd.pure ?_
      simp only [List.map_cons, List.map_nil, chkD, Lin.den_const] at hk
      exact ⟨fun y hy => by simp at hy; subst hy; exact hv.1, ⟨hk.1, hk.2, trivial⟩, hX⟩
  · rename_i l s
    have hX : X = .agg (s.map (A.den ρ m)).toArray := hX
    refine (rowLinM_snd (nb := nb) (m := m) hv).mono fun ρ1 n1 ls hn ha ⟨g1, g2, g3⟩ => ?_
    have := rowOk_inB g2
    refine ⟨g1, this.1, ?_⟩
    rw [hX, ← g3]
    simp only [D.val, this.2]
  · rename_i l
    have hX : X = .string (bA (sOf (l.den ρ))) := hX
    have hv : l.sc n ∧ 0 ≤ l.den ρ ∧ l.den ρ ≤ HB := hv
    exact Snd.pure ⟨fun y hy => by simp at hy; subst hy; exact hv.1, ⟨hv.2.1, hv.2.2, trivial⟩, hX⟩
  · rename_i l x
    have hX : X = .string (bA (sOf (x.den ρ))) := hX
    cases hc : x.isC with
    | none => exact Snd.fail
    | some c =>
      refine snd_guard fun hd => Snd.pure ⟨fun y hy => by simp at hy, trivial, ?_⟩
      rw [hX, strk_den (n := n) hc (by simpa using hd)]; rfl
  · rename_i k n' lo hi l
    refine snd_guard fun hk => ?_
    have hk := Nat.eq_of_beq_eq_true hk
    have hX : X = .agg (l.map (A.den ρ m)).toArray := hX
    cases hf : flatA k lo hi l with
    | none => exact Snd.fail
    | some r =>
      obtain ⟨g1, g2, g3⟩ := flatA_spec (m := m) hf hv
      rw [hk] at g2
      refine Snd.pure ⟨flatA_sc hf hv, g2, ?_⟩
      rw [hX, g3]
      simp only [D.val]
      rw [List.take_of_length_le (by simp [g1, hk])]
  · exact Snd.fail
where
  flatA_sc {k : IntKind} {lo hi : Int} {n nb : Nat} {ρ : Env} : ∀ {l : List A} {r : List Lin}, flatA k lo hi l = some r → (∀ a ∈ l, A.ok n nb ρ a) → ∀ x ∈ r, Lin.sc n x
  | [], r, h, _ => by simp [flatA] at h; subst h; intro x hx; simp at hx
  | .int k' x :: s, r, h, hok => by
    simp only [flatA] at h
    cases hc : (decide (k = k') && fitI lo hi x) with
    | false => simp [hc] at h
    | true =>
      cases hr : flatA k lo hi s with
      | none => simp [hc, hr] at h
      | some r' =>
        simp only [hc, hr, cond_true, Option.some.injEq] at h
        subst h
        intro y hy
        rcases List.mem_cons.1 hy with hy | hy
        · rw [hy]
          have h0 : A.ok n nb ρ (.int k' x) := hok _ (List.mem_cons_self ..)
          have h0 : x.ok n ρ := h0
          exact h0.1
        · exact flatA_sc hr (fun a ha => hok a (List.mem_cons_of_mem _ ha)) y hy
  | .bool _ :: _, _, h, _ => by simp [flatA] at h
  | .ptr .. :: _, _, h, _ => by simp [flatA] at h
  | .pix .. :: _, _, h, _ => by simp [flatA] at h
  | .gptr .. :: _, _, h, _ => by simp [flatA] at h
  | .slc .. :: _, _, h, _ => by simp [flatA] at h
  | .con _ :: _, _, h, _ => by simp [flatA] at h
  | .str _ :: _, _, h, _ => by simp [flatA] at h
  | .rows .. :: _, _, h, _ => by simp [flatA] at h
  | .sl .. :: _, _, h, _ => by simp [flatA] at h
  | .ep .. :: _, _, h, _ => by simp [flatA] at h
theorem map_den_sc {n : Nat} {ρ ρ' : Env} {ls : List Lin} (h : ∀ x ∈ ls, Lin.sc n x) (ha : agree n ρ ρ') : ls.map (·.den ρ') = ls.map (·.den ρ) := List.map_congr_left fun x hx => Lin.den_agree ha (h x hx)
theorem BF.later {n nb : Nat} {ρ ρ' : Env} {m : Nat → Nat} {bl : List Blk} {bs os : List Nat} {g : Nat} (hb : BlOk n nb ρ bl) (ha : agree n ρ ρ') (h : BF w0 ρ' m bl bs os g) : BF w0 ρ m bl bs os g := by
  obtain ⟨⟨b, h1, h2, p, h3, h4, h6⟩, h5⟩ := h
  exact ⟨⟨b, h1, h2, p, h3, by rw [← kindC_agree (hb p (List.mem_of_getElem? h3)) ha]; exact h4, h6⟩, h5⟩
theorem flatBM_snd {bl : List Blk} {m : Nat → Nat} : ∀ {ds : List BD} {vs : List V} {xs : List Value} {n : Nat} {ρ : Env}, BlOk n bl.length ρ bl → Mem w0 ρ m bl w → (∀ v ∈ vs, V.ok n bl.length ρ v) → LRel ρ m vs xs →
    Snd S L (flatBM bl ds vs) n ρ fun ρ' n' ls => (∀ x ∈ ls, Lin.sc n' x) ∧ inB (bbds ds) (ls.map (·.den ρ')) ∧ ∀ F : Nat → Prop, (∀ g, BF w0 ρ m bl (vs.flatMap baseV) (vs.flatMap slcV) g → F g) → atL F (fun _ => False) w ds (ls.map (·.den ρ')) xs
  | [], [], [], n, ρ, _, _, _, _ => Snd.pure ⟨fun _ h => by simp at h, trivial, fun _ _ => trivial⟩
  | .d x :: r, v :: s, X :: xs, n, ρ, hb, hw, hv, hr => by
    unfold flatBM
    refine (flatDM_snd (hv v (by simp)) hr.1).bind fun ρ1 n1 a hn ha ⟨g1, g2, g3⟩ => ?_
    refine (flatBM_snd (ds := r) (vs := s) (xs := xs) (hb.ext ha hn (Nat.le_refl _)) (hw.rho hb ha) (fun u hu => (hv u (List.mem_cons_of_mem _ hu)).ext ha hn (Nat.le_refl _)) (LRel.later (fun u hu => hv u (List.mem_cons_of_mem _ hu)) ha hr.2)).bind fun ρ2 n2 b hn2 ha2 ⟨k1, k2, k3⟩ => Snd.pure ⟨fun y hy => ?_, ?_, fun F hF => ?_⟩
    · rcases List.mem_append.1 hy with hy | hy
      · exact (g1 y hy).mono hn2
      · exact k1 y hy
    · rw [List.map_append, map_den_sc g1 ha2]
      exact inB_append g2 k2
    · have hl : (a.map (·.den ρ1)).length = x.num := by rw [inB_len g2, D.bds_len]
      rw [List.map_append, map_den_sc g1 ha2]
      refine ⟨?_, ?_⟩
      · show X = x.val _
        rw [D.val_app x hl]; exact g3
      · show atL F _ w r (List.drop x.num _) xs
        rw [← hl, List.drop_left]
        exact k3 F fun g hg => hF g (by
          have := BF.later hb ha hg
          obtain ⟨⟨b', h1, h2, p, h4, h5, h6⟩, h3⟩ := this
          exact ⟨⟨b', by simp only [List.flatMap_cons, List.mem_append]; exact .inr h1, h2, p, h4, h5, fun h => by simp only [List.flatMap_cons, List.mem_append]; exact .inr (h6 h)⟩, h3⟩)
  | .rd sh :: r, v :: s, X :: xs, n, ρ, hb, hw, hv, hr => by
    unfold flatBM
    refine (rdM_snd hb hw (hv v (by simp)) hr.1).bind fun ρ1 n1 a hn ha ⟨g1, g2, g3⟩ => ?_
    refine (flatBM_snd (ds := r) (vs := s) (xs := xs) (hb.ext ha hn (Nat.le_refl _)) (hw.rho hb ha) (fun u hu => (hv u (List.mem_cons_of_mem _ hu)).ext ha hn (Nat.le_refl _)) (LRel.later (fun u hu => hv u (List.mem_cons_of_mem _ hu)) ha hr.2)).bind fun ρ2 n2 b hn2 ha2 ⟨k1, k2, k3⟩ => Snd.pure ⟨fun y hy => ?_, ?_, fun F hF => ?_⟩
    · rcases List.mem_cons.1 hy with rfl | hy
      · exact g1.mono hn2
      · exact k1 y hy
    · simp only [List.map_cons, Lin.den_agree ha2 g1]
      exact ⟨g2.1, g2.2, k2⟩
    · simp only [List.map_cons, Lin.den_agree ha2 g1]
      refine ⟨?_, ?_⟩
      · show SlAt F w sh (rOf _) X
        exact g3.mono fun g hg => hF g (by
          obtain ⟨⟨b', h1, h2, p, h4, h5, h6⟩, h3⟩ := hg
          exact ⟨⟨b', by simp only [List.flatMap_cons, List.mem_append]; exact .inl h1, h2, p, h4, h5, fun h => by simp only [List.flatMap_cons, List.mem_append]; exact .inl (h6 h)⟩, h3⟩)
      · exact k3 F fun g hg => hF g (by
          have := BF.later hb ha hg
          obtain ⟨⟨b', h1, h2, p, h4, h5, h6⟩, h3⟩ := this
          exact ⟨⟨b', by simp only [List.flatMap_cons, List.mem_append]; exact .inr h1, h2, p, h4, h5, fun h => by simp only [List.flatMap_cons, List.mem_append]; exact .inr (h6 h)⟩, h3⟩)
  | [], _ :: _, _, _, _, _, _, _, _ => Snd.fail
  | .d _ :: _, [], _, _, _, _, _, _, _ => Snd.fail
  | .rd _ :: _, [], _, _, _, _, _, _, _ => Snd.fail
  | .ow _ _ :: _, [], _, _, _, _, _, _, _ => Snd.fail
  | .ow _ _ :: _, _ :: _, _, _, _, _, _, _, _ => Snd.fail
  | _, [], _ :: _, _, _, _, _, _, hr => hr.elim
  | _, _ :: _, [], _, _, _, _, _, hr => hr.elim
where
  LRel.later {n nb : Nat} {ρ ρ' : Env} {m : Nat → Nat} : ∀ {vs : List V} {xs : List Value}, (∀ v ∈ vs, V.ok n nb ρ v) → agree n ρ ρ' → LRel ρ m vs xs → LRel ρ' m vs xs
  | [], [], _, _, _ => trivial
  | v :: vs, x :: xs, hv, ha, hr => ⟨V.rel.ext hr.1 (hv v (by simp)) ha (fun _ _ => rfl), LRel.later (fun u hu => hv u (List.mem_cons_of_mem _ hu)) ha hr.2⟩
  | [], _ :: _, _, _, hr => hr.elim
  | _ :: _, [], _, _, hr => hr.elim
end
end Go.Rx

/- Contracts with slices: the call, the tree, the condition. -/
set_option linter.unusedVariables false
set_option linter.unusedSimpArgs false
namespace Go.Rx
open M

/-- From now on for reading alone. -/
def frz : List Nat → List Blk → List Blk
  | [], bl => bl
  | b :: r, bl => match bl[b]? with
    | some ([.rows sh off code cap (k + 1)], t) => frz r (setB bl b ([.rows sh off code cap 1], t))
    | _ => frz r bl
def resWs (us : List W) : V := match us with | [u] => .w u | l => .tup l
/-- No slice of an ordinary block. -/
def noSlc : List V → Bool
  | [] => true
  | .w (.one (.slc ..)) :: _ => false
  | _ :: r => noSlc r
noncomputable def BCon.E0 (c : BCon) (n : Nat) (vs : List V) (bl : List Blk) (k : RK) : T :=
  flatBM bl c.args vs n fun ls n1 => cond (bdOk c.res && (!(c.res.any BD.isRd) || noSlc vs)) (preM c.pre ls (.call c.id ls n1 (bbds c.res) (argE c.res n1 (n1 + (bbds c.res).length) [] (cond (c.res.any BD.isRd) (frz (vs.flatMap baseV) bl) bl) fun n2 us bl2 => k n2 (resWs us) bl2))) .stuck

/-- A slice without rows and without room, of an ordinary block without cells: told as rows. -/
def zsl (sh : List CK) (b : Nat) : V := .w (.one (.sl b sh.length (.const 0) (.const 0) (.const 0) (.const 0)))
def zcase (rd : Bool) (sh : List CK) (b : Nat) (bl : List Blk) : Option (List Blk) :=
  match bl[b]? with
  | some ([], (t, false)) => cond rd (some (setB bl b ([.rows sh (.const 0) (.const 0) (.const 0) 1], (t, false)))) none
  | some ([.rows sh' off code cap kind], t) => cond (shBeq sh sh' && Lin.beq off (.const 0) && Lin.beq cap (.const 0) && Nat.blt 0 kind) (some bl) none
  | _ => none
def zconv (rd : Bool) : List BD → List V → List Blk → List V × List Blk
  | .rd sh :: r, v :: s, bl => match v with
    | .w (.one (.slc b 0 0 0)) => match zcase rd sh b bl with
      | some bl1 => (zsl sh b :: (zconv rd r s bl1).1, (zconv rd r s bl1).2)
      | none => (v :: (zconv rd r s bl).1, (zconv rd r s bl).2)
    | _ => (v :: (zconv rd r s bl).1, (zconv rd r s bl).2)
  | _ :: r, v :: s, bl => (v :: (zconv rd r s bl).1, (zconv rd r s bl).2)
  | _, vs, bl => (vs, bl)
noncomputable def BCon.E (c : BCon) (n : Nat) (vs : List V) (bl : List Blk) (k : RK) : T :=
  c.E0 n (zconv (c.res.any BD.isRd) c.args vs bl).1 (zconv (c.res.any BD.isRd) c.args vs bl).2 k

section
variable {S : Nat → List Int → List Int → Prop} {L : V → Env → Prop} {w0 : Base} {P : Program}
theorem Mem.zero {ρ : Env} {m : Nat → Nat} {bl : List Blk} {w : World} {b : Nat} {sh : List CK} {t : TypeId} (h : Mem w0 ρ m bl w) (hbl : bl[b]? = some ([], (t, false))) : Mem w0 ρ m (setB bl b ([.rows sh (.const 0) (.const 0) (.const 0) 1], (t, false))) w := by
  have hblen : b < bl.length := (List.getElem?_eq_some_iff.1 hbl).1
  obtain ⟨q1, q2, r, hr, q3⟩ := h.blk b [] (t, false) hbl rfl
  have hr := hr rfl
  subst hr
  have hset : ∀ (i : Nat) (p : Blk), (setB bl b ([.rows sh (.const 0) (.const 0) (.const 0) 1], (t, false)))[i]? = some p → (i = b ∧ p = ([.rows sh (.const 0) (.const 0) (.const 0) 1], (t, false))) ∨ (i ≠ b ∧ bl[i]? = some p) := fun i p hi => by
    rw [setB_eq, List.getElem?_set] at hi
    split at hi
    · rename_i hbi
      subst hbi
      simp only [hblen, if_true, Option.some.injEq] at hi
      exact .inl ⟨rfl, hi.symm⟩
    · rename_i hbi; exact .inr ⟨fun e => hbi e.symm, hi⟩
  have hold : kindC ρ ([] : List A) = 2 := kind_ord rfl
  refine ⟨h.ext, h.hos, h.htape, h.hout, h.hsize, h.frm, fun i cs' t' hi ho' => ?_, fun i sh' off' code' cap' kind' t' hi => ?_, fun i j p q hi hj he => ?_⟩
  · rcases hset i _ hi with ⟨rfl, hi2⟩ | ⟨hne, hi⟩
    · cases hi2; cases ho'
    · exact h.blk i cs' t' hi ho'
  · rcases hset i _ hi with ⟨rfl, hi2⟩ | ⟨hne, hi⟩
    · cases hi2
      intro _
      simp only [Lin.den_const]
      exact ⟨fun h0 => by omega, fun _ => ⟨q2.elim .inl fun h => .inr (.inr h), _, _, _, q3, ⟨Int.le_refl _, by rw [rOf_zero]; intro _ h; simp at h, [], [], by simp [rOf_zero, flatV], rfl⟩, fun h9 => by omega⟩⟩
    · exact h.rws i sh' off' _ cap' kind' t' hi
  · rcases hset i _ hi with ⟨rfl, hi2⟩ | ⟨hne, hi'⟩
    · rcases hset j _ hj with ⟨rfl, hj2⟩ | ⟨hne2, hj⟩
      · exact .inl rfl
      · rcases h.inj i j _ q hbl hj he with h1 | h1 | h1 | h1
        · exact .inl h1
        · simp only [hold] at h1; omega
        · simp only [hold] at h1; omega
        · exact .inr (.inr (.inr h1))
    · rcases hset j _ hj with ⟨hjb, hj2⟩ | ⟨hne2, hj⟩
      · subst hjb
        rcases h.inj i j p _ hi' hbl he with h1 | h1 | h1 | h1
        · exact .inl h1
        · simp only [hold] at h1; omega
        · exact .inr (.inr (.inl h1))
        · simp only [hold] at h1; omega
      · exact h.inj i j p q hi' hj he
theorem zcase_spec {n : Nat} {ρ : Env} {m : Nat → Nat} {w : World} {rd : Bool} {sh : List CK} {b : Nat} {bl bl1 : List Blk} (h : zcase rd sh b bl = some bl1) (hm : Mem w0 ρ m bl w) (hb : BlOk n bl.length ρ bl) : Mem w0 ρ m bl1 w ∧ BlOk n bl1.length ρ bl1 ∧ bl1.length = bl.length ∧ b < bl.length := by
  unfold zcase at h
  split at h
  · rename_i t hbl
    cases rd with
    | false => cases h
    | true =>
      simp only [cond_true, Option.some.injEq] at h
      subst h
      refine ⟨hm.zero hbl, hb.set (fun a ha => ?_), setB_length _ _ _, (List.getElem?_eq_some_iff.1 hbl).1⟩
      have ha : a = .rows sh (.const 0) (.const 0) (.const 0) 1 := by simpa using ha
      subst ha
      refine ⟨⟨Lin.sc_const _ _, Lin.sc_const _ _, Lin.sc_const _ _⟩, ?_, ?_⟩
      · simp only [Lin.den_const]; exact ⟨Int.le_refl _, RB_nonneg⟩
      · simp only [Lin.den_const]; omega
  · rename_i sh' off code cap kind t hbl
    cases hc : (shBeq sh sh' && Lin.beq off (.const 0) && Lin.beq cap (.const 0) && Nat.blt 0 kind) with
    | false => rw [hc] at h; cases h
    | true =>
      rw [hc] at h
      simp only [cond_true, Option.some.injEq] at h
      subst h
      exact ⟨hm, hb, rfl, (List.getElem?_eq_some_iff.1 hbl).1⟩
  · cases h
theorem zconv_spec {n : Nat} {ρ : Env} {m : Nat → Nat} {w : World} {rd : Bool} : ∀ {ds : List BD} {vs : List V} {bl : List Blk} {xs : List Value}, Mem w0 ρ m bl w → BlOk n bl.length ρ bl → (∀ v ∈ vs, V.ok n bl.length ρ v) → LRel ρ m vs xs →
    Mem w0 ρ m (zconv rd ds vs bl).2 w ∧ BlOk n (zconv rd ds vs bl).2.length ρ (zconv rd ds vs bl).2 ∧ (zconv rd ds vs bl).2.length = bl.length ∧ (∀ v ∈ (zconv rd ds vs bl).1, V.ok n bl.length ρ v) ∧ LRel ρ m (zconv rd ds vs bl).1 xs
  | [], vs, bl, xs, hm, hb, hv, hr => ⟨hm, hb, rfl, hv, hr⟩
  | d :: r, [], bl, xs, hm, hb, hv, hr => by
    cases d <;> exact ⟨hm, hb, rfl, hv, hr⟩
  | d :: r, v :: s, bl, xs, hm, hb, hv, hr => by
    match xs, hr with
    | x :: xs, hr =>
    have keep : Mem w0 ρ m (zconv rd r s bl).2 w ∧ BlOk n (zconv rd r s bl).2.length ρ (zconv rd r s bl).2 ∧ (zconv rd r s bl).2.length = bl.length ∧ (∀ u ∈ (v :: (zconv rd r s bl).1), V.ok n bl.length ρ u) ∧ LRel ρ m (v :: (zconv rd r s bl).1) (x :: xs) := by
      obtain ⟨g1, g2, g3, g4, g5⟩ := zconv_spec (rd := rd) (ds := r) (vs := s) hm hb (fun u hu => hv u (List.mem_cons_of_mem _ hu)) hr.2
      exact ⟨g1, g2, g3, fun u hu => by
        rcases List.mem_cons.1 hu with rfl | hu
        · exact hv u (by simp)
        · exact g4 u hu, hr.1, g5⟩
    cases d with
    | d y => exact keep
    | ow sh e => exact keep
    | rd sh =>
      unfold zconv
      split
      · rename_i b _
        split
        · rename_i bl1 hz
          obtain ⟨q1, q2, q3, q4⟩ := zcase_spec hz hm hb
          obtain ⟨g1, g2, g3, g4, g5⟩ := zconv_spec (rd := rd) (ds := r) (vs := s) q1 q2 (fun u hu => by rw [q3]; exact hv u (List.mem_cons_of_mem _ hu)) hr.2
          refine ⟨g1, g2, by rw [g3, q3], fun u hu => ?_, ?_, g5⟩
          · rcases List.mem_cons.1 hu with rfl | hu
            · refine ⟨q4, ⟨Lin.sc_const _ _, Lin.sc_const _ _, Lin.sc_const _ _, Lin.sc_const _ _⟩, ?_⟩
              simp only [Lin.den_const]
              exact ⟨⟨by omega, by omega, by omega, by omega⟩, ⟨by omega, by omega⟩, fun h => by omega, fun _ => by omega⟩
            · rw [← q3]; exact g4 u hu
          · have h0 : x = .slice (some ⟨m b, 0, none⟩) 0 0 := hr.1
            rw [h0]
            simp [zsl, V.rel, W.den, A.den, Lin.den_const]
        · exact keep
      · exact keep
/-- A block's kind is made smaller. -/
theorem Mem.low {ρ : Env} {m : Nat → Nat} {bl : List Blk} {w : World} {b k : Nat} {sh : List CK} {off code cap : Lin} {t : TypeId × Bool} (h : Mem w0 ρ m bl w) (hbl : bl[b]? = some ([.rows sh off code cap (k + 1)], t)) : Mem w0 ρ m (setB bl b ([.rows sh off code cap 1], t)) w := by
  have hblen : b < bl.length := (List.getElem?_eq_some_iff.1 hbl).1
  have hset : ∀ (i : Nat) (p : Blk), (setB bl b ([.rows sh off code cap 1], t))[i]? = some p → (i = b ∧ p = ([.rows sh off code cap 1], t)) ∨ (i ≠ b ∧ bl[i]? = some p) := fun i p hi => by
    rw [setB_eq, List.getElem?_set] at hi
    split at hi
    · rename_i hbi
      subst hbi
      simp only [hblen, if_true, Option.some.injEq] at hi
      exact .inl ⟨rfl, hi.symm⟩
    · rename_i hbi; exact .inr ⟨fun e => hbi e.symm, hi⟩
  have hk : ∀ (i : Nat) (p : Blk), (setB bl b ([.rows sh off code cap 1], t))[i]? = some p → ∃ p', bl[i]? = some p' ∧ kindC ρ p.1 ≤ kindC ρ p'.1 ∧ (kindC ρ p'.1 ≠ 0 → True) := fun i p hi => by
    rcases hset i p hi with ⟨rfl, rfl⟩ | ⟨hne, hi⟩
    · refine ⟨_, hbl, ?_, fun _ => trivial⟩
      simp only [kindC]; split <;> omega
    · exact ⟨p, hi, Nat.le_refl _, fun _ => trivial⟩
  refine ⟨h.ext, h.hos, h.htape, h.hout, h.hsize, h.frm, fun i cs' t' hi ho => ?_, fun i sh' off' code' cap' kind' t' hi => ?_, fun i j p q hi hj he => ?_⟩
  · rcases hset i _ hi with ⟨rfl, hi2⟩ | ⟨hne, hi⟩
    · cases hi2; cases ho
    · exact h.blk i cs' t' hi ho
  · rcases hset i _ hi with ⟨rfl, hi2⟩ | ⟨hne, hi⟩
    · cases hi2
      intro _
      obtain ⟨g1, g2⟩ := h.rws i _ _ _ _ (k + 1) _ hbl (by omega)
      refine ⟨g1, fun hc => ?_⟩
      obtain ⟨g3, cells, tq, fz, g4, g5, _⟩ := g2 hc
      exact ⟨g3, cells, tq, fz, g4, g5, fun h2 => by omega⟩
    · exact h.rws i sh' off' _ cap' kind' t' hi
  · obtain ⟨p', h1, h2, _⟩ := hk i p hi
    obtain ⟨q', h3, h4, _⟩ := hk j q hj
    rcases h.inj i j p' q' h1 h3 he with h5 | h5 | h5 | h5
    · exact .inl h5
    · exact .inr (.inl ⟨by omega, by omega⟩)
    · exact .inr (.inr (.inl (by omega)))
    · exact .inr (.inr (.inr (by omega)))
theorem frz_spec {n nb : Nat} {ρ : Env} {m : Nat → Nat} {w : World} : ∀ {bs : List Nat} {bl : List Blk}, Mem w0 ρ m bl w → BlOk n nb ρ bl → Mem w0 ρ m (frz bs bl) w ∧ BlOk n nb ρ (frz bs bl) ∧ (frz bs bl).length = bl.length ∧
    ∀ (i : Nat) (p : Blk), (frz bs bl)[i]? = some p → ∃ p', bl[i]? = some p' ∧ kindC ρ p.1 ≤ kindC ρ p'.1 ∧ (i ∈ bs → isOrd p'.1 = false → kindC ρ p.1 ≤ 1)
  | [], bl, h, hb => ⟨h, hb, rfl, fun i p hi => ⟨p, hi, Nat.le_refl _, fun h => by simp at h⟩⟩
  | b :: r, bl, h, hb => by
    unfold frz
    split
    · rename_i sh off code cap k t hbl
      have hblen : b < bl.length := (List.getElem?_eq_some_iff.1 hbl).1
      have hb' : BlOk n nb ρ (setB bl b ([.rows sh off code cap 1], t)) := fun p hp a ha => by
        rw [setB_eq] at hp
        rcases List.mem_or_eq_of_mem_set hp with hp | hp
        · exact hb p hp a ha
        · subst hp
          simp at ha; subst ha
          have h0 : A.ok n nb ρ (.rows sh off code cap (k + 1)) := hb _ (List.mem_of_getElem? hbl) _ (by simp)
          exact h0
      obtain ⟨g1, g2, g3, g4⟩ := frz_spec (bs := r) (h.low hbl) hb'
      refine ⟨g1, g2, by rw [g3, setB_length], fun i p hp => ?_⟩
      obtain ⟨p', h1, h2, h3⟩ := g4 i p hp
      by_cases hib : i = b
      · subst hib
        rw [setB_eq, List.getElem?_set_self hblen] at h1
        cases h1
        refine ⟨_, hbl, Nat.le_trans h2 (by simp only [kindC]; split <;> omega), fun _ _ => Nat.le_trans h2 (by simp only [kindC]; split <;> omega)⟩
      · rw [setB_eq, List.getElem?_set_ne (fun e => hib e.symm)] at h1
        exact ⟨p', h1, h2, fun hi ho => h3 (by simpa [hib] using hi) ho⟩
    · rename_i hno
      obtain ⟨g1, g2, g3, g4⟩ := frz_spec (bs := r) h hb
      refine ⟨g1, g2, g3, fun i p hp => ?_⟩
      obtain ⟨p', h1, h2, h3⟩ := g4 i p hp
      refine ⟨p', h1, h2, fun hi ho => ?_⟩
      rcases List.mem_cons.1 hi with rfl | hi
      · obtain ⟨C, t⟩ := p'
        obtain ⟨sh, off, code, cap, k, rfl⟩ := ord_false ho
        cases k with
        | zero =>
          have : kindC ρ [A.rows sh off code cap 0] = 0 := by simp [kindC]
          simp only [this] at h2; omega
        | succ k => exact absurd h1 (hno _ _ _ _ _ _)
      · exact h3 hi ho
theorem resWs_spec {n nb : Nat} {ρ : Env} {m : Nat → Nat} {us : List W} {vals : List Value} (h : ∀ u ∈ us, W.ok n nb ρ u) (hm : us.map (W.den ρ m) = vals) : (resWs us).ok n nb ρ ∧ (resWs us).rel ρ m (tupV vals) := by
  subst hm
  unfold resWs tupV
  split
  · exact ⟨h _ (by simp), rfl⟩
  · rename_i hne
    refine ⟨h, ?_⟩
    split
    · rename_i x hx
      match us, hne, hx with
      | [u], hne, _ => exact absurd rfl (hne u)
    · rfl
theorem noSlc_nil : ∀ {vs : List V}, noSlc vs = true → vs.flatMap slcV = []
  | [], _ => rfl
  | v :: r, h => by
    unfold noSlc at h
    split at h
    · rename_i heq; cases heq
    · cases h
    · rename_i hne heq
      cases heq
      rw [List.flatMap_cons, noSlc_nil h, List.append_nil]
      unfold slcV
      split
      · exact (hne _ _ _ _ rfl).elim
      · rfl
theorem noSlc_spec : ∀ {vs : List V} {b : Nat}, noSlc vs = true → b ∈ vs.flatMap baseV → ∃ sz o ro len cap, V.w (.one (.sl b sz o ro len cap)) ∈ vs
  | [], b, _, h => by simp at h
  | v :: r, b, h, hb => by
    simp only [List.flatMap_cons, List.mem_append] at hb
    rcases hb with hb | hb
    · unfold baseV at hb
      split at hb
      · simp at hb; subst hb; exact ⟨_, _, _, _, _, List.mem_cons_self ..⟩
      · simp [noSlc] at h
      · simp at hb
    · have h' : noSlc r = true := by
        unfold noSlc at h
        split at h
        · rename_i heq; cases heq
        · cases h
        · rename_i heq; cases heq; exact h
      obtain ⟨sz, o, ro, len, cap, h1⟩ := noSlc_spec h' hb
      exact ⟨sz, o, ro, len, cap, List.mem_cons_of_mem _ h1⟩

theorem BCon.E0_ok {c : BCon} {spec : List Int → List Int → Prop} (hc : c.Ok P w0.b spec) (hS : ∀ zs rs, spec zs rs → S c.id zs rs) (n : Nat) (vs : List V) (bl : List Blk) (k : RK) (G : Again) (ρ : Env) (m : Nat → Nat) (w : World) (xs : List Value) (R' : Ending → World → Prop)
    (hb : BlOk n bl.length ρ bl) (hw : Mem w0 ρ m bl w) (hv : ∀ v ∈ vs, V.ok n bl.length ρ v) (hr : LRel ρ m vs xs) (hh : (c.E0 n vs bl k).holds S L G ρ) (hk : RKok S L w0 k n bl.length ρ m G R') :
    (callFunc c.f xs.toArray).run P w = .ok (.enter c.f xs.toArray) w ∧ Calls P c.f xs.toArray w R' := by
  refine ⟨hc.1 _ _, ?_⟩
  unfold BCon.E0 at hh
  obtain ⟨ρ1, n1, ls, hn1, ha1, ⟨g1, g2, g3⟩, hh⟩ := flatBM_snd (S := S) (L := L) hb hw hv hr G _ hh
  cases hq : (bdOk c.res && (!(c.res.any BD.isRd) || noSlc vs)) with
  | false => rw [hq] at hh; exact hh.elim
  | true =>
    rw [hq] at hh
    simp only [cond_true] at hh
    obtain ⟨hpre, hh⟩ := preM_holds hh
    simp only [T.holds] at hh
    simp only [Bool.and_eq_true, Bool.or_eq_true, Bool.not_eq_true'] at hq
    refine (hc.2 (BF w0 ρ m bl (vs.flatMap baseV) (vs.flatMap slcV)) w xs _ hw.ext g2 hpre (g3 _ fun _ h => h)).mono ?_
    rintro e w' ⟨he, rs, us, r1, r2, r3, rfl⟩
    have hh := allB_elim hh r1 (hS _ _ r2)
    have hb1 := hb.ext ha1 hn1 (Nat.le_refl bl.length)
    have hw1 := (hw.grow he).rho hb ha1
    have ha2 : agree n1 ρ1 (updL ρ1 n1 rs) := agree.updL rs n1 ρ1
    have hb2 := hb1.ext ha2 (Nat.le_add_right n1 (bbds c.res).length) (Nat.le_refl bl.length)
    have hw2 := hw1.rho hb1 ha2
    have hA : At (updL ρ1 n1 rs) n1 rs := At.updL ρ1 n1 rs
    have hrl : rs.length = (bbds c.res).length := inB_len r1
    have haa := ha1.trans ha2 hn1
    have hLat : Later n bl.length ρ m (n1 + (bbds c.res).length) bl.length (updL ρ1 n1 rs) m := ⟨by omega, haa, Nat.le_refl _, fun _ _ => rfl⟩
    have hkd : ∀ (i : Nat) (p : Blk), bl[i]? = some p → kindC (updL ρ1 n1 rs) p.1 = kindC ρ p.1 := fun i p hi => kindC_agree (hb p (List.mem_of_getElem? hi)) haa
    have hdead : ∀ (i : Nat) (p : Blk), bl[i]? = some p → w.heap.size ≤ m i → kindC ρ p.1 = 0 := fun i p hi hge => by
      by_cases h0 : kindC ρ p.1 = 0
      · exact h0
      · have := hw.lt hi h0; omega
    -- the state behind the call
    have fin : ∀ bl' : List Blk, BlOk (n1 + (bbds c.res).length) bl'.length (updL ρ1 n1 rs) bl' → Mem w0 (updL ρ1 n1 rs) m bl' w' → bl'.length = bl.length →
        (∀ (i : Nat) (p : Blk), bl'[i]? = some p → (BF w0 ρ m bl (vs.flatMap baseV) (vs.flatMap slcV) (m i) ∨ w.heap.size ≤ m i) → (c.res.any BD.isRd) = true → kindC (updL ρ1 n1 rs) p.1 ≤ 1) →
        (∀ (i : Nat) (p : Blk), bl'[i]? = some p → w.heap.size ≤ m i → kindC (updL ρ1 n1 rs) p.1 = 0) →
        (argE c.res n1 (n1 + (bbds c.res).length) [] bl' fun n2 us bl2 => k n2 (resWs us) bl2).holds S L G (updL ρ1 n1 rs) → R' (.returned (tupV us)) w' := fun bl' hb' hw' hlen hal hal2 hh => by
      have hF : ∀ g, (BF w0 ρ m bl (vs.flatMap baseV) (vs.flatMap slcV) g ∨ w.heap.size ≤ g) → w0.ex g ∨ w0.ro g ∨ w0.r.heap.size ≤ g := fun g hg => by
        rcases hg with hg | hg
        · exact hg.2
        · exact .inr (.inr (Nat.le_trans hw.hsize hg))
      have hN : ∀ g, w.heap.size ≤ g → w0.b.heap.size ≤ g ∧ w0.r.heap.size ≤ g := fun g hg => ⟨Nat.le_trans hw.ext.size hg, Nat.le_trans hw.hsize hg⟩
      have h1 : (c.res.all fun b => !b.isRd) = true ∨ ∀ (i : Nat) (p : Blk), bl'[i]? = some p → (BF w0 ρ m bl (vs.flatMap baseV) (vs.flatMap slcV) (m i) ∨ w.heap.size ≤ m i) → kindC (updL ρ1 n1 rs) p.1 ≤ 1 := by
        cases hrd : c.res.any BD.isRd with
        | true => exact .inr fun i p hi hf => hal i p hi hf hrd
        | false =>
          left
          rw [List.all_eq_true]
          intro b hb
          cases hbd : b.isRd with
          | false => rfl
          | true => rw [List.any_eq_true.2 ⟨b, hb, hbd⟩] at hrd; cases hrd
      obtain ⟨n', ρ', m', us', bl2, p1, p2, p3, p4, p5, p6⟩ := argE_ok (S := S) (L := L) hF hN (l := c.res) (us := []) (vals := us) hq.1 hb' hw' hA r1 (Nat.le_refl _) r3 h1 (.inr hal2) (fun u hu => by simp at hu) hh
      have hres := resWs_spec (m := m') p5 (by simpa using p4)
      exact hk n' (resWs us') bl2 G ρ' m' w' (tupV us) (hLat.trans (hlen ▸ p1)) (AgA.refl _ _) hres.1 hres.2 p2 p3 p6
    cases hrd : c.res.any BD.isRd with
    | false =>
      rw [hrd] at hh
      exact fin bl hb2 hw2 rfl (fun _ _ _ _ h => by rw [hrd] at h; cases h) (fun i p hi hge => by rw [hkd i p hi]; exact hdead i p hi hge) hh
    | true =>
      rw [hrd] at hh hq
      obtain ⟨f1, f2, f3, f4⟩ := frz_spec (bs := vs.flatMap baseV) hw2 hb2
      have hns : noSlc vs = true := by
        rcases hq.2 with h | h
        · cases h
        · exact h
      refine fin _ (by rw [f3]; exact f2) f1 f3 (fun i p hi hf _ => ?_) (fun i p hi hge => ?_) hh
      · obtain ⟨p', h1, h2, h3⟩ := f4 i p hi
        rw [hkd i p' h1] at h2
        rcases hf with ⟨⟨b, hbm, hbe, q, hq1, hq2, hq3⟩, _⟩ | hge
        · obtain ⟨sz, o, ro, len, cap, hmem⟩ := noSlc_spec hns hbm
          rcases hw.inj i b p' q h1 hq1 (by rw [hbe]) with h5 | h5 | h5 | h5
          · subst h5
            rw [h1] at hq1; cases hq1
            cases ho : isOrd p'.1 with
            | false => exact h3 hbm ho
            | true =>
              have := hq3 ho
              rw [noSlc_nil hns] at this
              simp at this
          · omega
          · omega
          · exact absurd h5 hq2
        · have := hdead i p' h1 hge; omega
      · obtain ⟨p', h1, h2, _⟩ := f4 i p hi
        rw [hkd i p' h1] at h2
        have := hdead i p' h1 hge; omega
theorem BCon.E_ok {c : BCon} {spec : List Int → List Int → Prop} (hc : c.Ok P w0.b spec) (hS : ∀ zs rs, spec zs rs → S c.id zs rs) (n : Nat) (vs : List V) (bl : List Blk) (k : RK) (G : Again) (ρ : Env) (m : Nat → Nat) (w : World) (xs : List Value) (R' : Ending → World → Prop)
    (hb : BlOk n bl.length ρ bl) (hw : Mem w0 ρ m bl w) (hv : ∀ v ∈ vs, V.ok n bl.length ρ v) (hr : LRel ρ m vs xs) (hh : (c.E n vs bl k).holds S L G ρ) (hk : RKok S L w0 k n bl.length ρ m G R') :
    (callFunc c.f xs.toArray).run P w = .ok (.enter c.f xs.toArray) w ∧ Calls P c.f xs.toArray w R' := by
  obtain ⟨g1, g2, g3, g4, g5⟩ := zconv_spec (rd := c.res.any BD.isRd) (ds := c.args) hw hb hv hr
  exact c.E0_ok hc hS n _ _ k G ρ m w xs R' g2 g1 (fun v hv => by rw [g3]; exact g4 v hv) g5 hh (by rw [g3]; exact hk)
end
end Go.Rx

/- Contracts with slices out of trees and conditions. -/
set_option linter.unusedVariables false
set_option linter.unusedSimpArgs false
namespace Go.Rx
open M

/-! ### Results -/
def O.sc (n : Nat) : O → Prop
  | l x => x.sc n
  | b x => x.sc n
theorem O.den_agree {n : Nat} {ρ ρ' : Env} (ha : agree n ρ ρ') : ∀ {o : O}, o.sc n → o.den ρ' = o.den ρ
  | .l x, h => Lin.den_agree ha h
  | .b x, h => by simp only [O.den]; rw [BE.den_agree ha h]
theorem outA_sc {k : IntKind} {n nb : Nat} {ρ : Env} : ∀ {l : List A} {os : List O}, outA k l = some os → (∀ a ∈ l, A.ok n nb ρ a) → ∀ o ∈ os, O.sc n o
  | [], os, h, _ => by simp [outA] at h; subst h; intro x hx; simp at hx
  | .int k' x :: s, os, h, hok => by
    simp only [outA] at h
    cases hc : decide (k = k') with
    | false => simp [hc] at h
    | true =>
      cases hr : outA k s with
      | none => simp [hc, hr] at h
      | some r' =>
        simp only [hc, hr, cond_true, Option.some.injEq] at h
        subst h
        intro y hy
        rcases List.mem_cons.1 hy with hy | hy
        · rw [hy]
          have h0 : A.ok n nb ρ (.int k' x) := hok _ (List.mem_cons_self ..)
          have h0 : x.ok n ρ := h0
          exact h0.1
        · exact outA_sc hr (fun a ha => hok a (List.mem_cons_of_mem _ ha)) y hy
  | .bool _ :: _, _, h, _ => by simp [outA] at h
  | .ptr .. :: _, _, h, _ => by simp [outA] at h
  | .pix .. :: _, _, h, _ => by simp [outA] at h
  | .gptr .. :: _, _, h, _ => by simp [outA] at h
  | .slc .. :: _, _, h, _ => by simp [outA] at h
  | .con _ :: _, _, h, _ => by simp [outA] at h
  | .str _ :: _, _, h, _ => by simp [outA] at h
  | .rows .. :: _, _, h, _ => by simp [outA] at h
  | .sl .. :: _, _, h, _ => by simp [outA] at h
  | .ep .. :: _, _, h, _ => by simp [outA] at h
theorem CK.out_sc {c : CK} {a : A} {o : O} {n nb : Nat} {ρ : Env} (h : c.out a = some o) (ha : a.ok n nb ρ) : o.sc n := by
  unfold CK.out at h
  split at h
  · rename_i k _ _ k' x
    cases hk : decide (k = k') with
    | false => simp [hk] at h
    | true =>
      simp only [hk, cond_true, Option.some.injEq] at h
      subst h
      have ha : x.ok n ρ := ha
      exact ha.1
  · simp only [Option.some.injEq] at h; subst h
    exact ha.1
  · simp only [Option.some.injEq] at h; subst h
    exact ha
  · cases h
theorem outM_sc {n nb : Nat} {ρ : Env} : ∀ {d : List CK} {l : List A} {os : List O}, outM d l = some os → (∀ a ∈ l, A.ok n nb ρ a) → ∀ o ∈ os, O.sc n o
  | [], [], os, h, _ => by simp [outM] at h; subst h; intro x hx; simp at hx
  | c :: d, a :: s, os, h, hok => by
    simp only [outM] at h
    cases h1 : c.out a with
    | none => simp [h1] at h
    | some o =>
      cases h2 : outM d s with
      | none => simp [h1, h2] at h
      | some os' =>
        simp only [h1, h2, Option.some.injEq] at h
        subst h
        intro y hy
        rcases List.mem_cons.1 hy with hy | hy
        · rw [hy]; exact CK.out_sc h1 (hok a (List.mem_cons_self ..))
        · exact outM_sc h2 (fun b hb => hok b (List.mem_cons_of_mem _ hb)) y hy
  | [], _ :: _, _, h, _ => by simp [outM] at h
  | _ :: _, [], _, h, _ => by simp [outM] at h
theorem outD_sc {d : D} {u : W} {os : List O} {n nb : Nat} {ρ : Env} (h : outD d u = some os) (hu : u.ok n nb ρ) : ∀ o ∈ os, O.sc n o := by
  unfold outD at h
  split at h
  · rename_i k _ _ k' x
    cases hk : decide (k = k') with
    | false => simp [hk] at h
    | true =>
      simp only [hk, cond_true, Option.some.injEq] at h
      subst h
      have hu : x.ok n ρ := hu
      intro o ho; simp at ho; subst ho; exact hu.1
  · simp only [Option.some.injEq] at h; subst h
    intro o ho; simp at ho; subst ho; exact hu
  · rename_i k n' _ _ l
    cases hk : Nat.beq l.length n' with
    | false => simp [hk] at h
    | true =>
      simp only [hk, cond_true] at h
      exact outA_sc h hu
  · simp only [Option.some.injEq] at h; subst h
    intro o ho; simp at ho; subst ho; exact hu.1
  · exact outM_sc h hu
  · cases h
noncomputable def resM1 (bl : List Blk) : BD → W → M (List O)
  | .d x, u => match outD x u with | some os => pure os | none => fail
  | .rd sh, u => bind (rdM sh bl (.w u)) fun l => pure [.l l]
  | .ow sh e, u => bind (owM sh e bl (.w u)) fun l => pure [.l l]
noncomputable def resMs (bl : List Blk) : List BD → List W → M (List O)
  | [], [] => pure []
  | b :: r, u :: s => bind (resM1 bl b u) fun a => bind (resMs bl r s) fun c => pure (a ++ c)
  | _, _ => fail
noncomputable def resM (bl : List Blk) (ds : List BD) (v : V) : M (List O) :=
  match v with
  | .w u => match ds with | [d] => resM1 bl d u | _ => fail
  | .tup l => match ds with | [_] => fail | _ => resMs bl ds l
  | _ => fail
def O.toW : O → W
  | l x => .one (.int .u8 ⟨x, 0, 0⟩)
  | b x => .one (.bool x)
def W.toO : W → O
  | .one (.int _ x) => .l x.l
  | .one (.bool e) => .b e
  | _ => .l (.const 0)
theorem O.toW_toO (o : O) : o.toW.toO = o := by cases o <;> rfl
def osV (os : List O) : V := .tup (os.map O.toW)
def LeafF (K : List Int → Prop) (v : V) (ρ : Env) : Prop :=
  match v with
  | .tup l => K (l.map fun u => u.toO.den ρ)
  | _ => False
theorem LeafF_osV {K : List Int → Prop} {os : List O} {ρ : Env} : LeafF K (osV os) ρ = K (os.map (O.den ρ)) := by
  unfold LeafF osV
  simp only [List.map_map]
  congr 1
  exact List.map_congr_left fun o _ => by simp [Function.comp, O.toW_toO]
section
variable {S : Nat → List Int → List Int → Prop} {L : V → Env → Prop} {w0 : Base} {P : Program} {w : World}
theorem SlOw.mono {N N' : Nat → Prop} {sh : List CK} {e : TypeId} {rows : List (List Int)} {v : Value} (h : SlOw N w sh e rows v) (hN : ∀ g, N g → N' g) : SlOw N' w sh e rows v := by
  rcases h with h | ⟨g, cap, cells, h1, h2, h3, h4⟩
  · exact .inl h
  · exact .inr ⟨g, cap, cells, h1, h2, hN g h3, h4⟩
def F0 (w0 : Base) (g : Nat) : Prop := w0.ex g ∨ w0.ro g ∨ w0.r.heap.size ≤ g
theorem resM1_snd {d : BD} {u : W} {n : Nat} {ρ : Env} {m : Nat → Nat} {bl : List Blk} (hex : ∀ g, ¬ w0.ex g) (hb : BlOk n bl.length ρ bl) (hw : Mem w0 ρ m bl w) (hu : u.ok n bl.length ρ) :
    Snd S L (resM1 bl d u) n ρ fun ρ' n' os => (∀ o ∈ os, O.sc n' o) ∧ os.length = d.num ∧ (d.isD = false → inB d.bds (os.map (O.den ρ'))) ∧ ∀ zs, d.at (F0 w0) (fun g => w0.r.heap.size ≤ g) w (os.map (O.den ρ') ++ zs) (u.den ρ m) := by
  cases d with
  | d x =>
    unfold resM1
    cases ho : outD x u with
    | none => simp only [ho]; exact Snd.fail
    | some os =>
      simp only [ho]
      have := outD_spec (ρ := ρ) (m := m) ho
      exact Snd.pure ⟨outD_sc ho hu, this.1, fun h => (by simp [BD.isD] at h), fun zs => (this.2 zs).symm⟩
  | rd sh =>
    unfold resM1
    refine (rdM_snd (v := .w u) hb hw hu rfl).bind fun ρ1 n1 l hn ha ⟨g1, g2, g3⟩ => Snd.pure ⟨fun o ho => by simp at ho; subst ho; exact g1, rfl, fun _ => ⟨g2.1, g2.2, trivial⟩, fun zs => ?_⟩
    exact g3.mono fun g hg => hg.2
  | ow sh e =>
    unfold resM1
    refine (owM_snd (v := .w u) hex hb hw hu rfl).bind fun ρ1 n1 l hn ha ⟨g1, g2, g3⟩ => Snd.pure ⟨fun o ho => by simp at ho; subst ho; exact g1, rfl, fun _ => ⟨g2.1, g2.2, trivial⟩, fun zs => g3⟩
theorem map_O_sc {n : Nat} {ρ ρ' : Env} {os : List O} (h : ∀ x ∈ os, O.sc n x) (ha : agree n ρ ρ') : os.map (O.den ρ') = os.map (O.den ρ) := List.map_congr_left fun x hx => O.den_agree ha (h x hx)
theorem resMs_snd {m : Nat → Nat} {bl : List Blk} (hex : ∀ g, ¬ w0.ex g) : ∀ {ds : List BD} {us : List W} {n : Nat} {ρ : Env}, BlOk n bl.length ρ bl → Mem w0 ρ m bl w → (∀ u ∈ us, W.ok n bl.length ρ u) →
    Snd S L (resMs bl ds us) n ρ fun ρ' n' os => (∀ o ∈ os, O.sc n' o) ∧ atL (F0 w0) (fun g => w0.r.heap.size ≤ g) w ds (os.map (O.den ρ')) (us.map (W.den ρ m))
  | [], [], n, ρ, _, _, _ => Snd.pure ⟨fun _ h => by simp at h, trivial⟩
  | b :: r, u :: s, n, ρ, hb, hw, hu => by
    unfold resMs
    refine (resM1_snd hex hb hw (hu u (by simp))).bind fun ρ1 n1 a hn ha ⟨g1, g2, _, g3⟩ => ?_
    refine (resMs_snd (ds := r) (us := s) hex (hb.ext ha hn (Nat.le_refl _)) (hw.rho hb ha) (fun x hx => (hu x (List.mem_cons_of_mem _ hx)).ext ha hn (Nat.le_refl _))).bind fun ρ2 n2 c hn2 ha2 ⟨k1, k2⟩ => Snd.pure ⟨fun o ho => ?_, ?_⟩
    · rcases List.mem_append.1 ho with ho | ho
      · have := g1 o ho
        cases o with
        | l x => exact Lin.sc.mono this hn2
        | b x => exact BE.sc.mono hn2 this
      · exact k1 o ho
    · rw [List.map_append, map_O_sc g1 ha2]
      refine ⟨g3 _, ?_⟩
      rw [← g2, ← List.length_map (f := O.den ρ1) (as := a), List.drop_left]
      have e : s.map (W.den ρ m) = s.map (W.den ρ1 m) := List.map_congr_left fun x hx => (W.den_ext (hu x (List.mem_cons_of_mem _ hx)) ha (fun _ _ => rfl)).symm
      rw [e]; exact k2
  | [], _ :: _, _, _, _, _, _ => Snd.fail
  | _ :: _, [], _, _, _, _, _ => Snd.fail
theorem resM_snd {ds : List BD} {v : V} {val : Value} {n : Nat} {ρ : Env} {m : Nat → Nat} {bl : List Blk} (hex : ∀ g, ¬ w0.ex g) (hb : BlOk n bl.length ρ bl) (hw : Mem w0 ρ m bl w) (hv : v.ok n bl.length ρ) (hr : v.rel ρ m val) :
    Snd S L (resM bl ds v) n ρ fun ρ' n' os => ∃ us, val = tupV us ∧ atL (F0 w0) (fun g => w0.r.heap.size ≤ g) w ds (os.map (O.den ρ')) us := by
  unfold resM
  split
  · rename_i u
    split
    · rename_i d
      refine (resM1_snd hex hb hw hv).mono fun ρ1 n1 os hn ha ⟨g1, g2, _, g3⟩ => ⟨[u.den ρ m], hr, ?_, trivial⟩
      have := g3 []
      rwa [List.append_nil] at this
    · exact Snd.fail
  · rename_i l
    split
    · exact Snd.fail
    · rename_i hne
      refine (resMs_snd (ds := ds) hex hb hw hv).mono fun ρ1 n1 os hn ha ⟨g1, g2⟩ => ⟨l.map (W.den ρ m), ?_, g2⟩
      have hr : val = .tuple (l.map (W.den ρ m)).toArray := hr
      rw [hr]
      unfold tupV
      split
      · rename_i x hx
        exfalso
        have hl : l.length = 1 := by have := congrArg List.length hx; simpa using this
        match ds, l, hl, g2, hne with
        | [d], [u], _, _, hne => exact hne d rfl
        | [], [u], _, g2, _ => simp [atL] at g2
        | _ :: _ :: _, [u], _, g2, _ => simp [atL] at g2
      · rfl
  · exact Snd.fail

/-! ### The tree -/
def lvar (i : Nat) : Lin := ⟨0, [(1, i)]⟩
theorem lvars_den (ρ : Env) (zs : List Int) : ((List.range zs.length).map lvar).map (·.den (updL ρ 0 zs)) = zs := by
  refine list_ext_getD (by simp) fun j hj => ?_
  have hj : j < zs.length := by simpa using hj
  have := At.updL ρ 0 zs j hj
  rw [Nat.zero_add] at this
  simp [lvar, Lin.den, denT, List.getD, hj] at this ⊢
  exact this
noncomputable def BCon.tree (bc : BC) (P : Program) (gl : Glo) (cal : Cal) (li : FuncId → Nat → Option LoopI) (rounds d : Nat) (c : BCon) : T :=
  cond (bdOk c.args && !(c.args.any BD.isOw)) (preA c.pre ((List.range (bbds c.args).length).map lvar) (argE c.args 0 (bbds c.args).length [] [] fun n us bl => callB bc P gl cal li rounds d c.f n (us.map V.w) bl fun n' v bl' => resM bl' c.res v n' fun os _ => .leaf (osV os))) .stuck
theorem LRel_W {ρ : Env} {m : Nat → Nat} : ∀ {us : List W} {xs : List Value}, us.map (W.den ρ m) = xs → LRel ρ m (us.map V.w) xs
  | [], [], _ => trivial
  | u :: us, x :: xs, h => by
    simp only [List.map_cons, List.cons.injEq] at h
    exact ⟨h.1.symm, LRel_W h.2⟩
  | [], _ :: _, h => by simp at h
  | _ :: _, [], h => by simp at h
/-- What is known of the callees. -/
noncomputable def bcOf : List BCon → BC
  | [], _ => none
  | c :: r, f => cond (Nat.beq c.f f) (some c.E) (bcOf r f)
theorem bcOf_ok {wb : World} {r : World} {ex ro : Nat → Prop} : ∀ {l : List BCon}, (∀ c ∈ l, c.Ok P wb (S c.id)) → BcOk S L ⟨wb, r, ex, ro⟩ P (bcOf l)
  | [], _ => fun f g h => by cases h
  | c :: l, h => fun f g hf => by
    unfold bcOf at hf
    cases hb : Nat.beq c.f f with
    | true =>
      rw [hb] at hf
      simp only [cond_true, Option.some.injEq] at hf
      have := Nat.eq_of_beq_eq_true hb
      subst this; subst hf
      intro n vs bl k G ρ m w xs R' h1 h2 h3 h4 h5 h6
      exact BCon.E_ok (w0 := ⟨wb, r, ex, ro⟩) (h c (by simp)) (fun _ _ h => h) n vs bl k G ρ m w xs R' h1 h2 h3 h4 h5 h6
    | false =>
      rw [hb] at hf
      exact bcOf_ok (fun c hc => h c (List.mem_cons_of_mem _ hc)) f g hf
/-- **A contract, out of its condition**: whatever is known of the callees. -/
theorem BCon.of_bc {wb : World} {gl : Glo} {c : BCon} {bc : BC} {cal : Cal} {li : FuncId → Nat → Option LoopI} {rounds d : Nat} {spec : List Int → List Int → Prop} (hm : P.follows .mixedOrders = true) (hcal : ∀ r ex ro, CalOk S P gl ⟨wb, r, ex, ro⟩ cal) (hg : GOk gl ⟨wb, wb, fun _ => False, fun _ => False⟩)
    (hbc : ∀ (L : V → Env → Prop) (r : World) (ro : Nat → Prop), BcOk S L ⟨wb, r, fun _ => False, ro⟩ P bc) (hf : ∀ args w, (callFunc c.f args).run P w = .ok (.enter c.f args) w)
    (ht : allB (bbds c.args) fun zs => (c.tree bc P gl cal li rounds d).holds S (LeafF fun rs => inB (bbds c.res) rs ∧ spec zs rs) (fun _ _ => False) (updL (fun _ => 0) 0 zs)) : c.Ok P wb spec := by
  refine ⟨hf, fun F w vs zs hw hz hpz hat => ?_⟩
  have hh := allB_elim ht hz
  have hzl := inB_len hz
  unfold BCon.tree at hh
  cases hq : (bdOk c.args && !(c.args.any BD.isOw)) with
  | false => rw [hq] at hh; exact hh.elim
  | true =>
    rw [hq] at hh
    simp only [cond_true] at hh
    have hh := preA_holds hh (by rw [← hzl, lvars_den]; exact hpz)
    simp only [Bool.and_eq_true, Bool.not_eq_true'] at hq
    have hmem : Mem ⟨wb, w, fun _ => False, F⟩ (updL (fun _ => 0) 0 zs) (fun _ => 0) [] w := ⟨hw, rfl, rfl, rfl, Nat.le_refl _, fun _ _ _ => rfl, fun i cs t h => by simp at h, fun i sh off code cap kind t h => by simp at h, fun i j p q h => by simp at h⟩
    have hall : (c.args.all fun b => !b.isOw) = true := by
      rw [List.all_eq_true]
      intro b hb
      cases hbd : b.isOw with
      | false => rfl
      | true => rw [List.any_eq_true.2 ⟨b, hb, hbd⟩] at hq; cases hq.2
    obtain ⟨n', ρ', m', us, bl, p1, p2, p3, p4, p5, p6⟩ := argE_ok (S := S) (L := _) (w0 := ⟨wb, w, fun _ => False, F⟩) (F := F) (N := fun _ => False) (fun g hg => .inr (.inl hg)) (fun g hg => hg.elim) (l := c.args) (s := 0) (us := []) (bl := []) (m := fun _ => 0) hq.1 (fun p hp => by simp at hp) hmem (At.updL _ 0 zs) hz (by omega) hat (.inr fun i p h => by simp at h) (.inl hall) (fun u hu => by simp at hu) hh
    have hgl : GOk gl ⟨wb, w, fun _ => False, F⟩ := hg
    refine (callB_ok (S := S) (w0 := ⟨wb, w, fun _ => False, F⟩) hm (hcal w (fun _ => False) F) hgl (hbc _ _ _) d c.f n' (us.map V.w) bl _ _ ρ' m' w vs _ p2 p3 (fun v hv => by
      obtain ⟨u, hu, rfl⟩ := List.mem_map.1 hv
      exact p5 u hu) (LRel_W (by simpa using p4)) p6 ?_).2
    intro n2 v bl' G' ρ2 m2 w' val h1 h2 h3 h4 h5 h6 h7
    obtain ⟨ρ3, n3, os, hn3, ha3, ⟨xs, hx1, hx2⟩, hl⟩ := resM_snd (S := S) (w0 := ⟨wb, w, fun _ => False, F⟩) (fun g hg => hg) h5 h6 h3 h4 G' _ h7
    have hl : LeafF _ (osV os) ρ3 := hl
    rw [LeafF_osV] at hl
    refine ⟨?_, os.map (O.den ρ3), xs, hl.1, hl.2, ?_, by rw [hx1]⟩
    · have hblk : ∀ i : Nat, i < w.heap.size → w'.heap[i]? = w.heap[i]? := fun i hi => h6.frm i hi fun h => h
      exact ⟨h6.hos, h6.htape, h6.hout, h6.hsize, fun a ha => by simp only [World.cell?, hblk a.block ha], fun a ha => by simp only [World.frozen?, hblk a.block ha], hblk⟩
    · exact atL_mono (fun g hg => by
        rcases hg with hg | hg | hg
        · exact hg.elim
        · exact .inl hg
        · exact .inr hg) (fun g hg => hg) hx2
where
  atL_mono {F F' N N' : Nat → Prop} {w : World} (hF : ∀ g, F g → F' g) (hN : ∀ g, N g → N' g) : ∀ {ds : List BD} {zs : List Int} {vs : List Value}, atL F N w ds zs vs → atL F' N' w ds zs vs
  | [], _, [], _ => trivial
  | .d x :: r, zs, v :: vs, h => ⟨h.1, atL_mono hF hN h.2⟩
  | .rd sh :: r, zs, v :: vs, h => ⟨SlAt.mono h.1 hF, atL_mono hF hN h.2⟩
  | .ow sh e :: r, zs, v :: vs, h => ⟨SlOw.mono h.1 hN, atL_mono hF hN h.2⟩
  | [], _, _ :: _, h => h.elim
  | _ :: _, _, [], h => by simp [atL] at h
/-- The same, with contracts of one kind. -/
theorem BCon.of_vc {wb : World} {gl : Glo} {c : BCon} {bcs : List BCon} {cal : Cal} {li : FuncId → Nat → Option LoopI} {rounds d : Nat} {spec : List Int → List Int → Prop} (hm : P.follows .mixedOrders = true) (hcal : ∀ r ex ro, CalOk S P gl ⟨wb, r, ex, ro⟩ cal) (hg : GOk gl ⟨wb, wb, fun _ => False, fun _ => False⟩)
    (hbc : ∀ b ∈ bcs, b.Ok P wb (S b.id)) (hf : ∀ args w, (callFunc c.f args).run P w = .ok (.enter c.f args) w)
    (ht : allB (bbds c.args) fun zs => (c.tree (bcOf bcs) P gl cal li rounds d).holds S (LeafF fun rs => inB (bbds c.res) rs ∧ spec zs rs) (fun _ _ => False) (updL (fun _ => 0) 0 zs)) : c.Ok P wb spec :=
  BCon.of_bc (bc := bcOf bcs) hm hcal hg (fun _ _ _ => bcOf_ok hbc) hf ht
end

/-! ### By blocks -/
def BD.nums : BD → List Nat
  | .d x => x.nums
  | _ => [1]
def numsBD (ds : List BD) : List Nat := ds.flatMap BD.nums
def LeafFB (ds : List BD) (K : List (List Int) → Prop) (v : V) (st : BSt) (dy : BDy) : Prop :=
  match v with
  | .tup l => K ((splitL (numsBD ds) (l.map W.toO)).map (segO st dy))
  | _ => False
theorem LeafFB_sound {ds : List BD} {K : List (List Int) → Prop} (v : V) (ρ : Env) (st : BSt) (dy : BDy) (ht : Tells ρ st dy) (h : LeafFB ds K v st dy) : LeafF (fun rs => K (splitL (numsBD ds) rs)) v ρ := by
  unfold LeafFB at h
  unfold LeafF
  split at h
  · rename_i l
    have e : l.map (fun u => u.toO.den ρ) = (l.map W.toO).map (O.den ρ) := by simp
    simp only [e]
    rw [splitL_map]
    rwa [show (splitL (numsBD ds) (l.map W.toO)).map (segO st dy) = (splitL (numsBD ds) (l.map W.toO)).map (List.map (O.den ρ)) from List.map_congr_left fun o _ => segO_eq ht o] at h
  · exact h.elim
/-- **A condition, by blocks.** -/
def VcF (sh : Nat → List Nat × List Nat) (lsh : Nat → List Nat) (S : Nat → List (List Int) → List (List Int) → Prop) (K : List (List Int) → List (List Int) → Prop) (lens : List Nat) (bds : List (Int × Int)) (ds : List BD) (t : T) : Prop :=
  allBl lens 0 bds (fun st dy zs => t.holdsB sh lsh S (LeafFB ds (K zs)) (fun _ _ => False) st dy) [] []
theorem VcF_sound {sh : Nat → List Nat × List Nat} {lsh : Nat → List Nat} {S : Nat → List (List Int) → List (List Int) → Prop} {K : List (List Int) → List (List Int) → Prop} {lens : List Nat} {bds : List (Int × Int)} {ds : List BD} {t : T}
    (h : VcF sh lsh S K lens bds ds t) : allB bds fun zs => t.holds (flatS sh S) (LeafF fun rs => K (splitL lens zs) (splitL (numsBD ds) rs)) (fun _ _ => False) (updL (fun _ => 0) 0 zs) := by
  refine allB_intro fun zs hi => ?_
  obtain ⟨st, dy, h1, h2⟩ := allBl_elim h (show Tells (fun _ => 0) [] [] from ⟨trivial, fun _ => rfl⟩) hi
  exact holdsB_sound (fun v ρ st dy ht hl => LeafFB_sound v ρ st dy ht hl) t _ _ _ st dy (fun _ _ hf => hf.elim) h1 h2
end Go.Rx
