/- Contracts under a condition; functions of the library without a body. -/
import Derived.Test.YtlecfjcooglpoaaDoorRxG
set_option linter.unusedVariables false
set_option linter.unusedSimpArgs false
namespace Go.Rx
open M

/-- A contract that asks something of its arguments' numbers. -/
structure QCon where
  c : Con
  pre : Nat
def QCon.Ok (P : Program) (wb : World) (q : QCon) (spec : List Int → List Int → Prop) : Prop :=
  ∀ zs, inB (bdsL q.c.args) zs → chkD q.pre zs → ∃ rs, inB (bdsL q.c.res) rs ∧ spec zs rs ∧ ∀ w, wb.Extends w → FRes P q.c.f (valL q.c.args zs).toArray w (resVal q.c.res rs)
noncomputable def QCon.M (q : QCon) : List Blk → List V → M V := fun _ vs n k =>
  match flatL q.c.args vs with
  | some l => .chk q.pre l (.call q.c.id l n (bdsL q.c.res) (k (resV q.c.res n) (n + (bdsL q.c.res).length)))
  | none => .stuck
noncomputable def calQ (qs : List QCon) (cons : List Con) : Cal := fun f =>
  match qs.filter (fun q => Nat.beq f q.c.f) with
  | [] => calC cons f
  | l => some fun bl vs n k => match l.find? (fun q => (flatL q.c.args vs).isSome) with
    | some q => q.M bl vs n k
    | none => match calC cons f with
      | some g => g bl vs n k
      | none => .stuck
section
variable {S : Nat → List Int → List Int → Prop} {P : Program} {gl : Glo} {w0 : Base}
theorem QCon.snd {q : QCon} {spec : List Int → List Int → Prop} (hc : q.Ok P w0.b spec) (hS : ∀ zs rs, spec zs rs → S q.c.id zs rs) (L : V → Env → Prop) (n : Nat) (ρ : Env) (m : Nat → Nat) (bl : List Blk) (vs : List V) (xs : List Value)
    (hvs : ∀ v ∈ vs, V.ok n bl.length ρ v) (hr : LRel ρ m vs xs) : Snd S L (q.M bl vs) n ρ fun ρ' n' v => v.ok n' bl.length ρ' ∧ ∃ val, v.rel ρ' m val ∧ ∀ w, Mem w0 ρ m bl w → FRes P q.c.f xs.toArray w val := by
  intro G k hk
  unfold QCon.M at hk
  cases hl : flatL q.c.args vs with
  | none => simp [hl, T.holds] at hk
  | some l =>
    simp only [hl] at hk
    obtain ⟨hk0, hk⟩ := hk
    obtain ⟨h1, h2⟩ := flatL_spec hl hvs hr
    obtain ⟨rs, r1, r2, r3⟩ := hc _ h1 hk0
    have hh := callL hk r1 (hS _ _ r2)
    have hlen := inB_len r1
    have hres := resV_spec (m := m) (nb := bl.length) (N := n + (bdsL q.c.res).length) r1 (At.updL ρ n rs) (Nat.le_refl _)
    refine ⟨_, _, _, Nat.le_add_right _ _, agree.updL rs n ρ, ⟨hres.1, _, hres.2, fun w hw => ?_⟩, hh⟩
    rw [h2] at r3
    exact r3 w hw.ext
theorem calQ_ok {qs : List QCon} {cons : List Con} (hq : ∀ q ∈ qs, q.Ok P w0.b (S q.c.id)) (hc : ∀ c ∈ cons, c.OkF P w0.b (S c.id)) : CalOk S P gl w0 (calQ qs cons) := by
  intro f g hfg L n ρ m bl vs xs h1 h2 h3 h4
  unfold calQ at hfg
  split at hfg
  · exact calC_ok (gl := gl) hc f g hfg L n ρ m bl vs xs h1 h2 h3 h4
  · rename_i l hl
    simp only [Option.some.injEq] at hfg
    subst hfg
    intro G k hk
    simp only at hk
    split at hk
    · rename_i q hcf
      have hin := List.mem_filter.1 (List.mem_of_find?_eq_some hcf)
      have hff := Nat.eq_of_beq_eq_true hin.2
      subst hff
      exact QCon.snd (hq q hin.1) (fun _ _ h => h) L n ρ m bl vs xs h3 h4 G k hk
    · split at hk
      · rename_i g' hg'
        exact calC_ok (gl := gl) hc f g' hg' L n ρ m bl vs xs h1 h2 h3 h4 G k hk
      · exact hk.elim

/-! ### IndexByteString -/
/-- The place of the first byte c; below 0: there is none. -/
def idx (c : Int) : List UInt8 → Int
  | [] => -1
  | b :: r => if (b.toNat : Int) = c then 0 else if idx c r < 0 then -1 else idx c r + 1
theorem idx_range (c : Int) : ∀ l : List UInt8, -1 ≤ idx c l ∧ idx c l < l.length
  | [] => by simp [idx]
  | b :: r => by
    have := idx_range c r
    simp only [idx, List.length_cons]
    split
    · omega
    · split <;> omega
theorem find_range (p : Nat → Bool) : ∀ n : Nat, (List.range (n + 1)).find? p = if p 0 = true then some 0 else ((List.range n).find? fun i => p (i + 1)).map (· + 1) := fun n => by
  rw [List.range_succ_eq_map, List.find?_cons]
  cases h : p 0 with
  | true => simp
  | false =>
    simp only [Bool.false_eq_true, if_false]
    rw [List.find?_map]; rfl
theorem idx_find (c : Int) : ∀ l : List UInt8, (match (List.range l.length).find? fun i => decide (((l.getD i 0).toNat : Int) = c) with | some i => (i : Int) | none => -1) = idx c l
  | [] => rfl
  | b :: r => by
    have ih := idx_find c r
    rw [List.length_cons, find_range]
    simp only [List.getD_cons_zero, List.getD_cons_succ, decide_eq_true_eq, idx]
    by_cases h : (b.toNat : Int) = c
    · simp [h]
    · simp only [if_neg h]
      have hr := idx_range c r
      cases hf : (List.range r.length).find? fun i => decide (((r.getD i 0).toNat : Int) = c) with
      | none => rw [hf] at ih; simp only [Option.map_none] at ih ⊢; rw [← ih]; simp
      | some i => rw [hf] at ih; simp only [Option.map_some] at ih ⊢; rw [← ih, if_neg (by omega)]; rfl
theorem find_congr {α : Type} {p q : α → Bool} : ∀ {l : List α}, (∀ x ∈ l, p x = q x) → l.find? p = l.find? q
  | [], _ => rfl
  | x :: r, h => by
    rw [List.find?_cons, List.find?_cons, h x (by simp), find_congr fun y hy => h y (List.mem_cons_of_mem _ hy)]
theorem run_indexByte (l : List UInt8) (c : Int) (h0 : 0 ≤ c) (h1 : c ≤ 255) (w : World) : (Extern.BytealgIndexByte.indexByte #[.string (bA l), .int .u8 c]).run P w = .ok (.int .i64 (idx c l)) w := by
  have hsz : (bA l).size = l.length := bA_size l
  have hget : ∀ i, i < l.length → (bA l)[i]! = l.getD i 0 := fun i hi => by
    have : i < (bA l).size := by omega
    rw [getElem!_pos (bA l) i this]
    simp only [List.getD, List.getElem?_eq_getElem hi, Option.getD_some]
    rfl
  have e : ((List.range (bA l).size).find? fun i => (bA l)[i]! == c.toNat.toUInt8) = (List.range l.length).find? fun i => decide (((l.getD i 0).toNat : Int) = c) := by
    rw [hsz]
    refine find_congr fun i hi => ?_
    have hi := List.mem_range.1 hi
    rw [hget i hi]
    have hc : c.toNat.toUInt8.toNat = c.toNat := by simp; omega
    rw [Bool.eq_iff_iff]
    simp only [beq_iff_eq, decide_eq_true_eq]
    rw [← UInt8.toNat_inj, hc]
    omega
  have hf := idx_find c l
  have hd : Extern.BytealgIndexByte.indexByte #[.string (bA l), .int .u8 c] = (match (List.range (bA l).size).find? (fun i => (bA l)[i]! == c.toNat.toUInt8) with
    | some i => Pure.pure (goInt i)
    | none => Pure.pure (goInt (-1)) : Sem Value) := rfl
  rw [hd, e, ← hf]
  cases (List.range l.length).find? fun i => decide (((l.getD i 0).toNat : Int) = c) <;> rfl
theorem ibs_ok {f : FuncId} {fn : Func} {id : Nat} {wb : World} (hf : P.funcs[f]? = some fn) (hname : (fn.name == "runtime.NumGoroutine") = false) (hb : fn.body.isNone = true) (hn : Extern.findNext fn = none) (he : Extern.find fn = some Extern.BytealgIndexByte.indexByte) :
    (⟨f, id, [.str, .int .u8 0 255], [.int .i64 (-1) 9223372036854775807]⟩ : Con).OkF P wb fun zs rs => rs = [idx (zs.getD 1 0) (sOf (zs.getD 0 0))] := by
  intro zs hz
  match zs, hz with
  | [s, c], hz =>
    obtain ⟨s1, s2, c1, c2, _⟩ := hz
    have hr := idx_range c (sOf s)
    have hl : (sOf s).length ≤ 9223372036854775807 := by have := HB_s s2; unfold mxL at this; omega
    refine ⟨[idx c (sOf s)], (show inB [((-1 : Int), 9223372036854775807)] _ from ⟨by omega, by omega, trivial⟩), rfl, fun w _ => .inl ?_⟩
    rw [run_callFunc_extern hf hname hb hn he]
    have := run_indexByte (P := P) (sOf s) c c1 c2 w
    show ((Extern.BytealgIndexByte.indexByte #[.string (bA (sOf s)), .int .u8 c]).run P w).andThen _ = _
    rw [this]; rfl
  | [], h => exact h.elim
  | [_], h => exact (h.2.2).elim
  | _ :: _ :: _ :: _, h => exact (h.2.2.2.2).elim
end
end Go.Rx
