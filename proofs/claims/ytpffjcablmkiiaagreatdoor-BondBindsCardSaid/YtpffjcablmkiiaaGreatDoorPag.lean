/- Contracts under a condition; functions of the library without a body. -/
import Derived.Test.YtpffjcablmkiiaaGreatDoorPaf
import Derived.HandedShaped
import Derived.SizedLaws
import Derived.Carry

set_option linter.unusedVariables false
set_option linter.unusedSimpArgs false
namespace Go.Rx
open M

/-- A contract that asks something of its arguments' numbers. -/
structure QCon where
  c : Con
  pre : Nat
def QCon.Ok (P : Program) (wb : World) (q : QCon) (spec : List Int → List Int → Prop) : Prop :=
  ∀ zs, inB (bdsL q.c.args) zs → chkD q.pre zs → ∃ rs, inB (bdsL q.c.res) rs ∧ spec zs rs ∧ ∀ w, wb.Extends w → FRes P q.c.f (valL q.c.args zs).toArray w (resVal q.c.res rs)
noncomputable def QCon.M (q : QCon) : List Blk → List V → M V := fun _ vs n k =>
  match flatL q.c.args vs with
  | some l => .chk q.pre l (.call q.c.id l n (bdsL q.c.res) (k (resV q.c.res n) (n + (bdsL q.c.res).length)))
  | none => .stuck
noncomputable def calQ (qs : List QCon) (cons : List Con) : Cal := fun f =>
  match qs.filter (fun q => Nat.beq f q.c.f) with
  | [] => calC cons f
  | l => some fun bl vs n k => match l.find? (fun q => (flatL q.c.args vs).isSome) with
    | some q => q.M bl vs n k
    | none => match calC cons f with
      | some g => g bl vs n k
      | none => .stuck
section
variable {S : Nat → List Int → List Int → Prop} {P : Program} {gl : Glo} {w0 : Base}
theorem QCon.snd {q : QCon} {spec : List Int → List Int → Prop} (hc : q.Ok P w0.b spec) (hS : ∀ zs rs, spec zs rs → S q.c.id zs rs) (L : V → Env → Prop) (n : Nat) (ρ : Env) (m : Nat → Nat) (bl : List Blk) (vs : List V) (xs : List Value)
    (hvs : ∀ v ∈ vs, V.ok n bl.length ρ v) (hr : LRel ρ m vs xs) : Snd S L (q.M bl vs) n ρ fun ρ' n' v => v.ok n' bl.length ρ' ∧ ∃ val, v.rel ρ' m val ∧ ∀ w, Mem w0 ρ m bl w → FRes P q.c.f xs.toArray w val := by
  intro G k hk
  unfold QCon.M at hk
  cases hl : flatL q.c.args vs with
  | none => simp [hl, T.holds] at hk
  | some l =>
    simp only [hl] at hk
    obtain ⟨hk0, hk⟩ := hk
    obtain ⟨h1, h2⟩ := flatL_spec hl hvs hr
    obtain ⟨rs, r1, r2, r3⟩ := hc _ h1 hk0
    have hh := callL hk r1 (hS _ _ r2)
    have hlen := inB_len r1
    have hres := resV_spec (m := m) (nb := bl.length) (N := n + (bdsL q.c.res).length) r1 (At.updL ρ n rs) (Nat.le_refl _)
    refine ⟨_, _, _, Nat.le_add_right _ _, agree.updL rs n ρ, ⟨hres.1, _, hres.2, fun w hw => ?_⟩, hh⟩
    rw [h2] at r3
    exact r3 w hw.ext
theorem calQ_ok {qs : List QCon} {cons : List Con} (hq : ∀ q ∈ qs, q.Ok P w0.b (S q.c.id)) (hc : ∀ c ∈ cons, c.OkF P w0.b (S c.id)) : CalOk S P gl w0 (calQ qs cons) := by
  intro f g hfg L n ρ m bl vs xs h1 h2 h3 h4
  unfold calQ at hfg
  split at hfg
  · exact calC_ok (gl := gl) hc f g hfg L n ρ m bl vs xs h1 h2 h3 h4
  · rename_i l hl
    simp only [Option.some.injEq] at hfg
    subst hfg
    intro G k hk
    simp only at hk
    split at hk
    · rename_i q hcf
      have hin := List.mem_filter.1 (List.mem_of_find?_eq_some hcf)
      have hff := Nat.eq_of_beq_eq_true hin.2
      subst hff
      exact QCon.snd (hq q hin.1) (fun _ _ h => h) L n ρ m bl vs xs h3 h4 G k hk
    · split at hk
      · rename_i g' hg'
        exact calC_ok (gl := gl) hc f g' hg' L n ρ m bl vs xs h1 h2 h3 h4 G k hk
      · exact hk.elim

/-! ### IndexByteString -/
/-- The place of the first byte c; below 0: there is none. -/
def idx (c : Int) : List UInt8 → Int
  | [] => -1
  | b :: r => if (b.toNat : Int) = c then 0 else if idx c r < 0 then -1 else idx c r + 1
theorem idx_range (c : Int) : ∀ l : List UInt8, -1 ≤ idx c l ∧ idx c l < l.length
  | [] => by simp [idx]
  | b :: r => by
    have := idx_range c r
    simp only [idx, List.length_cons]
    split
    · omega
    · split <;> omega
theorem find_range (p : Nat → Bool) : ∀ n : Nat, (List.range (n + 1)).find? p = if p 0 = true then some 0 else ((List.range n).find? fun i => p (i + 1)).map (· + 1) := fun n => by
  rw [List.range_succ_eq_map, List.find?_cons]
  cases h : p 0 with
  | true => simp
  | false =>
    simp only [Bool.false_eq_true, if_false]
    rw [List.find?_map]; rfl
theorem idx_find (c : Int) : ∀ l : List UInt8, (match (List.range l.length).find? fun i => decide (((l.getD i 0).toNat : Int) = c) with | some i => (i : Int) | none => -1) = idx c l
  | [] => rfl
  | b :: r => by
    have ih := idx_find c r
    rw [List.length_cons, find_range]
    simp only [List.getD_cons_zero, List.getD_cons_succ, decide_eq_true_eq, idx]
    by_cases h : (b.toNat : Int) = c
    · simp [h]
    · simp only [if_neg h]
      have hr := idx_range c r
      cases hf : (List.range r.length).find? fun i => decide (((r.getD i 0).toNat : Int) = c) with
      | none => rw [hf] at ih; simp only [Option.map_none] at ih ⊢; rw [← ih]; simp
      | some i => rw [hf] at ih; simp only [Option.map_some] at ih ⊢; rw [← ih, if_neg (by omega)]; rfl
theorem find_congr {α : Type} {p q : α → Bool} : ∀ {l : List α}, (∀ x ∈ l, p x = q x) → l.find? p = l.find? q
  | [], _ => rfl
  | x :: r, h => by
    rw [List.find?_cons, List.find?_cons, h x (by simp), find_congr fun y hy => h y (List.mem_cons_of_mem _ hy)]
theorem run_indexByte (l : List UInt8) (c : Int) (h0 : 0 ≤ c) (h1 : c ≤ 255) (w : World) : (Extern.BytealgIndexByte.indexByte #[.string (bA l), .int .u8 c]).run P w = .ok (.int .i64 (idx c l)) w := by
  have hsz : (bA l).size = l.length := bA_size l
  have hget : ∀ i, i < l.length → (bA l)[i]! = l.getD i 0 := fun i hi => by
    have : i < (bA l).size := by omega
    rw [getElem!_pos (bA l) i this]
    simp only [List.getD, List.getElem?_eq_getElem hi, Option.getD_some]
    rfl
  have e : ((List.range (bA l).size).find? fun i => (bA l)[i]! == c.toNat.toUInt8) = (List.range l.length).find? fun i => decide (((l.getD i 0).toNat : Int) = c) := by
    rw [hsz]
    refine find_congr fun i hi => ?_
    have hi := List.mem_range.1 hi
    rw [hget i hi]
    have hc : c.toNat.toUInt8.toNat = c.toNat := by simp; omega
    rw [Bool.eq_iff_iff]
    simp only [beq_iff_eq, decide_eq_true_eq]
    rw [← UInt8.toNat_inj, hc]
    omega
  have hf := idx_find c l
  have hd : Extern.BytealgIndexByte.indexByte #[.string (bA l), .int .u8 c] = (match (List.range (bA l).size).find? (fun i => (bA l)[i]! == c.toNat.toUInt8) with
    | some i => Pure.pure (goInt i)
    | none => Pure.pure (goInt (-1)) : Sem Value) := rfl
  rw [hd, e, ← hf]
  cases (List.range l.length).find? fun i => decide (((l.getD i 0).toNat : Int) = c) <;> rfl
theorem ibs_ok {f : FuncId} {fn : Func} {id : Nat} {wb : World} (hf : P.funcs[f]? = some fn) (hname : (fn.name == "runtime.NumGoroutine") = false) (hb : fn.body.isNone = true) (hn : Extern.findNext fn = none) (he : Extern.find fn = some Extern.BytealgIndexByte.indexByte) :
    (⟨f, id, [.str, .int .u8 0 255], [.int .i64 (-1) 9223372036854775807]⟩ : Con).OkF P wb fun zs rs => rs = [idx (zs.getD 1 0) (sOf (zs.getD 0 0))] := by
  intro zs hz
  match zs, hz with
  | [s, c], hz =>
    obtain ⟨s1, s2, c1, c2, _⟩ := hz
    have hr := idx_range c (sOf s)
    have hl : (sOf s).length ≤ 9223372036854775807 := by have := HB_s s2; unfold mxL at this; omega
    refine ⟨[idx c (sOf s)], (show inB [((-1 : Int), 9223372036854775807)] _ from ⟨by omega, by omega, trivial⟩), rfl, fun w _ => .inl ?_⟩
    rw [run_callFunc_extern hf hname hb hn he]
    have := run_indexByte (P := P) (sOf s) c c1 c2 w
    show ((Extern.BytealgIndexByte.indexByte #[.string (bA (sOf s)), .int .u8 c]).run P w).andThen _ = _
    rw [this]; rfl
  | [], h => exact h.elim
  | [_], h => exact (h.2.2).elim
  | _ :: _ :: _ :: _, h => exact (h.2.2.2.2).elim
end
end Go.Rx

/- Contracts whose results are one as values; contracts under a condition, out of a tree. -/
set_option linter.unusedVariables false
set_option linter.unusedSimpArgs false
namespace Go.Rx
section
variable {S : Nat → List Int → List Int → Prop} {P : Program} {gl : Glo} {wb : World}
/-- The specification leaves one value. -/
def OneV (args res : List D) (spec : List Int → List Int → Prop) : Prop := ∀ zs rs rs', inB (bdsL args) zs → inB (bdsL res) rs → inB (bdsL res) rs' → spec zs rs → spec zs rs' → resVal res rs = resVal res rs'
theorem Con.of_vcv {c : Con} {cal : Cal} {li : FuncId → Nat → Option LoopI} {rounds d : Nat} {spec : List Int → List Int → Prop} (hm : P.follows .mixedOrders = true) (hcal : ∀ r ex ro, CalOk S P gl ⟨wb, r, ex, ro⟩ cal) (hg : GOk gl ⟨wb, wb, fun _ => False, fun _ => False⟩)
    (hf : ∀ args w, (callFunc c.f args).run P w = .ok (.enter c.f args) w) (hu : OneV c.args c.res spec)
    (ht : allB (bdsL c.args) fun zs => (c.tree P gl cal li rounds d).holds S (LeafK c.res fun rs => inB (bdsL c.res) rs ∧ spec zs rs) (fun _ _ => False) (updL (fun _ => 0) 0 zs)) : c.Ok P wb spec := by
  refine ⟨hf, fun zs hz => ?_⟩
  have h0 := Con.calls hm hcal hg hz (allB_elim ht hz) wb (World.Extends.refl wb)
  obtain ⟨e, w', v, ρ', m, val, h1, h2, h3, h4⟩ := Calls.some h0
  obtain ⟨rs, ⟨hb, hs⟩, hv⟩ := LeafK_spec h3 h2
  refine ⟨rs, hb, hs, fun w hw => ?_⟩
  refine (Con.calls hm hcal hg hz (allB_elim ht hz) w hw).mono fun e w' ⟨v, ρ', m, val, h1, h2, h3, h4⟩ => ?_
  obtain ⟨rs', ⟨hb', hs'⟩, hv'⟩ := LeafK_spec h3 h2
  rw [hu zs rs' rs hz hb' hb hs' hs] at hv'
  exact ⟨by rw [h1, hv'], h4⟩
noncomputable def QCon.tree (P : Program) (gl : Glo) (cal : Cal) (li : FuncId → Nat → Option LoopI) (rounds d : Nat) (q : QCon) : T :=
  .asm q.pre ((List.range (bdsL q.c.args).length).map lvar) (q.c.tree P gl cal li rounds d)
theorem QCon.of_vcv {q : QCon} {cal : Cal} {li : FuncId → Nat → Option LoopI} {rounds d : Nat} {spec : List Int → List Int → Prop} (hm : P.follows .mixedOrders = true) (hcal : ∀ r ex ro, CalOk S P gl ⟨wb, r, ex, ro⟩ cal) (hg : GOk gl ⟨wb, wb, fun _ => False, fun _ => False⟩)
    (hf : ∀ args w, (callFunc q.c.f args).run P w = .ok (.enter q.c.f args) w) (hu : OneV q.c.args q.c.res spec)
    (ht : allB (bdsL q.c.args) fun zs => (q.tree P gl cal li rounds d).holds S (LeafK q.c.res fun rs => inB (bdsL q.c.res) rs ∧ spec zs rs) (fun _ _ => False) (updL (fun _ => 0) 0 zs)) : q.Ok P wb spec := by
  intro zs hz hp
  have ht' := allB_elim ht hz
  have hl := inB_len hz
  unfold QCon.tree at ht'
  rw [← hl] at ht'
  have ht' := ht' (by rw [lvars_den]; exact hp)
  have h0 := Con.calls hm hcal hg hz ht' wb (World.Extends.refl wb)
  obtain ⟨e, w', v, ρ', m, val, h1, h2, h3, h4⟩ := Calls.some h0
  obtain ⟨rs, ⟨hb, hs⟩, hv⟩ := LeafK_spec h3 h2
  refine ⟨rs, hb, hs, fun w hw => .inr ⟨hf _ _, ?_⟩⟩
  refine (Con.calls hm hcal hg hz ht' w hw).mono fun e w' ⟨v, ρ', m, val, h1, h2, h3, h4⟩ => ?_
  obtain ⟨rs', ⟨hb', hs'⟩, hv'⟩ := LeafK_spec h3 h2
  rw [hu zs rs' rs hz hb' hb hs' hs] at hv'
  exact ⟨by rw [h1, hv'], h4⟩
end
/-! ### By blocks -/
theorem splitL_flatten {α : Type} : ∀ (ks : List Nat) (l : List α), (splitL ks l).flatten = l
  | [], [] => rfl
  | [], _ :: _ => by simp [splitL]
  | k :: ks, l => by simp only [splitL, List.flatten_cons, splitL_flatten ks, List.take_append_drop]
section
variable {P : Program} {gl : Glo} {wb : World} {sh : Nat → List Nat × List Nat} {SB : Nat → List (List Int) → List (List Int) → Prop}
/-- What is to be shown at a function's end. -/
def KBv (SB : Nat → List (List Int) → List (List Int) → Prop) (res : List D) (id : Nat) : List (List Int) → List (List Int) → Prop := fun zs rs => inB (bdsL res) rs.flatten ∧ SB id zs rs
theorem vcb_flatv {lsh : Nat → List Nat} {id : Nat} {lens : List Nat} {bds : List (Int × Int)} {ds : List D} {t : T} (hl : lens = (sh id).1) (hd : numsD ds = (sh id).2) (h : VcB sh lsh SB (KBv SB ds id) lens bds ds t) :
    allB bds fun zs => t.holds (flatS sh SB) (LeafK ds fun rs => inB (bdsL ds) rs ∧ flatS sh SB id zs rs) (fun _ _ => False) (updL (fun _ => 0) 0 zs) := by
  refine allB_intro fun zs hz => ?_
  have h := allB_elim (VcB_sound h) hz
  simp only [KBv, splitL_flatten] at h
  rw [hl, hd] at h
  exact h
theorem ok_vcb {c : Con} {cal : Cal} {li : FuncId → Nat → Option LoopI} {rounds d : Nat} {lsh : Nat → List Nat} {lens : List Nat} (hm : P.follows .mixedOrders = true) (hcal : ∀ r ex ro, CalOk (flatS sh SB) P gl ⟨wb, r, ex, ro⟩ cal) (hg : GOk gl ⟨wb, wb, fun _ => False, fun _ => False⟩)
    (hf : goB P c.f = true) (hu : OneV c.args c.res (flatS sh SB c.id)) (hl : lens = (sh c.id).1) (hd : numsD c.res = (sh c.id).2)
    (hv : VcB sh lsh SB (KBv SB c.res c.id) lens (bdsL c.args) c.res (c.tree P gl cal li rounds d)) : c.Ok P wb (flatS sh SB c.id) :=
  Con.of_vcv hm hcal hg (enters hf) hu (vcb_flatv hl hd hv)
theorem qok_vcb {q : QCon} {cal : Cal} {li : FuncId → Nat → Option LoopI} {rounds d : Nat} {lsh : Nat → List Nat} {lens : List Nat} (hm : P.follows .mixedOrders = true) (hcal : ∀ r ex ro, CalOk (flatS sh SB) P gl ⟨wb, r, ex, ro⟩ cal) (hg : GOk gl ⟨wb, wb, fun _ => False, fun _ => False⟩)
    (hf : goB P q.c.f = true) (hu : OneV q.c.args q.c.res (flatS sh SB q.c.id)) (hl : lens = (sh q.c.id).1) (hd : numsD q.c.res = (sh q.c.id).2)
    (hv : VcB sh lsh SB (KBv SB q.c.res q.c.id) lens (bdsL q.c.args) q.c.res (q.tree P gl cal li rounds d)) : q.Ok P wb (flatS sh SB q.c.id) :=
  QCon.of_vcv hm hcal hg (enters hf) hu (vcb_flatv hl hd hv)
end
end Go.Rx

/- The row of a law: its parameters opened (words, texts, structs, arrays, slices of such), and carried over the call. -/
set_option linter.unusedVariables false
set_option linter.unusedSimpArgs false
namespace Go.Rx
open Go.ChangeShapes Go.WideShapes Go.RowKit
variable {H : Type} {enc : TypeId × Value → H} {P : Program}
/-- The cells of fields, one behind the other. -/
def shFs (g : TypeId → Option (List CK)) (cells : TypeId → Nat) : List Field → Nat → Option (List CK)
  | [], _ => some []
  | f :: r, o => match g f.type, shFs g cells r (o + cells f.type) with
    | some l, some m => cond (Nat.beq f.offset o && Nat.beq (cells f.type) l.length) (some (l ++ m)) none
    | _, _ => none
/-- The cells of a type. -/
def shT (P : Program) : Nat → TypeId → Option (List CK)
  | 0, _ => none
  | d + 1, t => match P.underlying t with
    | some (.int k) => some [.int k k.min k.max]
    | some .string => some [.str]
    | some .bool => some [.bool]
    | some (.struct fs) => shFs (shT P d) P.cellsOf fs.toList 0
    | some (.array n e) => match shT P d e with
      | some l => cond (Nat.beq (P.cellsOf e) l.length) (some (List.replicate n l).flatten) none
      | none => none
    | _ => none
theorem RowOk.append : ∀ {a b : List CK} {x y : List Int}, RowOk a x → RowOk b y → RowOk (a ++ b) (x ++ y) ∧ rowV (a ++ b) (x ++ y) = rowV a x ++ rowV b y
  | [], _, [], _, _, h => ⟨h, rfl⟩
  | _ :: _, _, _ :: _, _, h, h' => by
    have := RowOk.append h.2 h'
    exact ⟨⟨h.1, this.1⟩, by simp only [List.cons_append, rowV, this.2]⟩
  | [], _, _ :: _, _, h, _ => h.elim
  | _ :: _, _, [], _, h, _ => h.elim
/-- What opening one type says. -/
def OpenAt (enc : TypeId × Value → H) (P : Program) (w : World) (base : Nat) (spare : Nat → Bool) (held : Bool) (t : TypeId) (sh : List CK) : Prop :=
  ∀ (n : Nat) (cs : List Value) (x : DataW H × List MemPlace), DataW.trod enc P w base spare held n t cs = some x → cs.length = sh.length → (∀ m ∈ x.1.weights P t, m ≤ reachBytes) →
    ∃ zs, RowOk sh zs ∧ cs = rowV sh zs ∧ x.2 = []
theorem open_fs {base n : Nat} {w : World} {spare : Nat → Bool} {held : Bool} {g : TypeId → Option (List CK)} (hg : ∀ t sh, g t = some sh → OpenAt enc P w base spare held t sh) {cs : List Value} : ∀ (fs : List Field) (o : Nat) (sh : List CK) (xs : List (DataW H × List MemPlace)), shFs g P.cellsOf fs o = some sh → cs.length = o + sh.length → xs.length = fs.length →
    (∀ (j : Nat) (f : Field), fs[j]? = some f → DataW.trod enc P w base spare held n f.type ((cs.drop f.offset).take (P.cellsOf f.type)) = xs[j]?) →
    (∀ m ∈ DataW.weightsEach P (fs.map (·.type)) (xs.map (·.1)), m ≤ reachBytes) →
    ∃ zs, RowOk sh zs ∧ cs.drop o = rowV sh zs ∧ xs.flatMap (·.2) = []
  | [], o, sh, xs, h, hl, hx, _, _ => by
    simp only [shFs, Option.some.injEq] at h
    subst h
    have : xs = [] := List.length_eq_zero_iff.1 (by simpa using hx)
    subst this
    exact ⟨[], trivial, List.drop_of_length_le (by simp at hl; omega), rfl⟩
  | f :: fs, o, sh, [], _, _, hx, _, _ => by simp at hx
  | f :: fs, o, sh, x :: xs, h, hl, hx, hf, hw => by
    unfold shFs at h
    cases h1 : g f.type with
    | none => simp [h1] at h
    | some l =>
      cases h2 : shFs g P.cellsOf fs (o + P.cellsOf f.type) with
      | none => simp [h1, h2] at h
      | some m =>
        simp only [h1, h2] at h
        cases hc : (Nat.beq f.offset o && Nat.beq (P.cellsOf f.type) l.length) with
        | false => simp [hc] at h
        | true =>
          simp only [hc, cond_true, Option.some.injEq] at h
          subst h
          simp only [Bool.and_eq_true] at hc
          have e1 := Nat.eq_of_beq_eq_true hc.1
          have e2 := Nat.eq_of_beq_eq_true hc.2
          have h0 := hf 0 f rfl
          simp only [List.getElem?_cons_zero] at h0
          simp only [List.map_cons, DataW.weightsEach, List.mem_append] at hw
          simp only [List.length_append] at hl
          obtain ⟨zs, a1, a2, a3⟩ := hg f.type l h1 n ((cs.drop f.offset).take (P.cellsOf f.type)) x h0 (by rw [List.length_take, List.length_drop, e1, e2]; omega) fun m' hm => hw m' (.inl hm)
          obtain ⟨ys, b1, b2, b3⟩ := open_fs (cs := cs) hg fs (o + P.cellsOf f.type) m xs h2 (by omega) (by simpa using hx) (fun j f' hj => by simpa using hf (j + 1) f' (by simpa using hj)) fun m' hm => hw m' (.inr hm)
          have hap := RowOk.append a1 b1
          refine ⟨zs ++ ys, hap.1, ?_, by simp [a3, b3]⟩
          rw [hap.2, ← a2, ← b2, e1, ← List.drop_drop]
          exact (List.take_append_drop _ _).symm
theorem open_arr {base n : Nat} {w : World} {spare : Nat → Bool} {held : Bool} {e : TypeId} {l : List CK} (hg : OpenAt enc P w base spare held e l) (hc : P.cellsOf e = l.length) {cs : List Value} : ∀ (k i : Nat) (xs : List (DataW H × List MemPlace)), cs.length = (i + k) * l.length → xs.length = k →
    (∀ j, j < k → DataW.trod enc P w base spare held n e ((cs.drop ((i + j) * P.cellsOf e)).take (P.cellsOf e)) = xs[j]?) →
    (∀ m ∈ DataW.weightsAll P e (xs.map (·.1)), m ≤ reachBytes) →
    ∃ zs, RowOk (List.replicate k l).flatten zs ∧ cs.drop (i * l.length) = rowV (List.replicate k l).flatten zs ∧ xs.flatMap (·.2) = []
  | 0, i, xs, hl, hx, _, _ => by
    have : xs = [] := List.length_eq_zero_iff.1 hx
    subst this
    exact ⟨[], trivial, List.drop_of_length_le (by rw [hl]; exact Nat.le_refl _), rfl⟩
  | k + 1, i, [], _, hx, _, _ => by simp at hx
  | k + 1, i, x :: xs, hl, hx, hf, hw => by
    have h0 := hf 0 (Nat.succ_pos k)
    simp only [List.getElem?_cons_zero, Nat.add_zero] at h0
    simp only [List.map_cons, DataW.weightsAll, List.mem_append] at hw
    have hl2 : cs.length = i * l.length + (l.length + k * l.length) := by rw [hl, Nat.add_mul, Nat.succ_mul]; omega
    obtain ⟨zs, a1, a2, a3⟩ := hg n _ x h0 (by rw [List.length_take, List.length_drop, hc]; omega) fun m' hm => hw m' (.inl hm)
    obtain ⟨ys, b1, b2, b3⟩ := open_arr hg hc k (i + 1) xs (by rw [hl]; congr 1; omega) (by simpa using hx) (fun j hj => by
      have := hf (j + 1) (by omega)
      rw [show i + (j + 1) = i + 1 + j by omega] at this
      simpa using this) fun m' hm => hw m' (.inr hm)
    have hap := RowOk.append a1 b1
    refine ⟨zs ++ ys, by rw [List.replicate_succ, List.flatten_cons]; exact hap.1, ?_, by simp [a3, b3]⟩
    rw [List.replicate_succ, List.flatten_cons, hap.2, ← a2, ← b2, hc, Nat.succ_mul, ← List.drop_drop]
    exact (List.take_append_drop _ _).symm
/-- A type of words and texts is opened. -/
theorem open_sh {base : Nat} {w : World} {spare : Nat → Bool} {held : Bool} : ∀ (d : Nat) (t : TypeId) (sh : List CK), shT P d t = some sh → OpenAt enc P w base spare held t sh
  | 0, t, sh, h => by simp [shT] at h
  | d + 1, t, sh, h => by
    have ih := open_sh (base := base) (w := w) (spare := spare) (held := held) d
    intro n cs x hx hl hw
    unfold shT at h
    split at h
    · rename_i k hu
      simp only [Option.some.injEq] at h
      subst h
      obtain ⟨z, rfl, rfl, hwf⟩ := DataW.trod_int hu hx
      have := wf_iff.1 hwf
      exact ⟨[z], ⟨this, trivial⟩, rfl, rfl⟩
    · rename_i hu
      simp only [Option.some.injEq] at h
      subst h
      obtain ⟨s, rfl, rfl, hs⟩ := DataW.trod_string hu hx
      have hb : s.data.toList.length ≤ mxL := hw _ (by simp [DataW.weights])
      refine ⟨[cOf s.data.toList], ⟨⟨cOf_nonneg _, HB_c hb⟩, trivial⟩, ?_, rfl⟩
      simp [rowV, CK.val, sOf_cOf, bA]
    · rename_i hu
      simp only [Option.some.injEq] at h
      subst h
      obtain ⟨b, rfl, rfl⟩ := DataW.trod_bool hu hx
      refine ⟨[cond b 1 0], ⟨?_, trivial⟩, ?_, rfl⟩
      · cases b <;> simp [CK.bd]
      · cases b <;> simp [rowV, CK.val]
    · rename_i fs hu
      obtain ⟨xs, m, rfl, rfl, hlen, hn, hel⟩ := DataW.trod_struct hu hx
      simp only [DataW.weights, hu] at hw
      obtain ⟨zs, a1, a2, a3⟩ := open_fs (n := m) ih fs.toList 0 sh xs h (by omega) (by rw [hn]; simp) (fun j f hj => hel j f (by simpa using hj)) hw
      exact ⟨zs, a1, by simpa using a2, a3⟩
    · rename_i k e hu
      cases h1 : shT P d e with
      | none => simp [h1] at h
      | some l =>
        simp only [h1] at h
        cases hc : Nat.beq (P.cellsOf e) l.length with
        | false => simp [hc] at h
        | true =>
          simp only [hc, cond_true, Option.some.injEq] at h
          subst h
          have hc := Nat.eq_of_beq_eq_true hc
          obtain ⟨xs, m, rfl, rfl, hlen, hn, hel⟩ := DataW.trod_array hu hx
          simp only [DataW.weights, hu] at hw
          have hfl : (List.replicate k l).flatten.length = k * l.length := by simp
          obtain ⟨zs, a1, a2, a3⟩ := open_arr (n := m) (ih e l h1) hc k 0 xs (by rw [hl, hfl]; simp) hn (fun j hj => by
            have := hel j hj
            simpa using this) hw
          exact ⟨zs, a1, by simpa using a2, a3⟩
    · cases h

/-! ### Slices -/
theorem rowAt_le {fits : TypeId → Bool} : ∀ (d : Nat) (e : TypeId) (count off n : Nat), rowAt P fits d e count off n = true → off ≤ count * P.cellsOf e
  | 0, _, _, _, _, h => by simp [rowAt] at h
  | d + 1, e, count, off, n, h => by
    unfold rowAt at h
    dsimp only at h
    split at h
    · cases h
    · rename_i hs
      have hdm := Nat.div_add_mod off (P.cellsOf e)
      have hlt := Nat.mod_lt off (Nat.pos_of_ne_zero hs)
      rw [Bool.or_eq_true] at h
      rcases h with h | h
      · simp only [Bool.and_eq_true, beq_iff_eq, decide_eq_true_eq] at h
        have h1 : off / P.cellsOf e ≤ count := by omega
        have := Nat.mul_le_mul_left (P.cellsOf e) h1
        rw [Nat.mul_comm count]; omega
      · rw [Bool.and_eq_true] at h
        have h1 : off / P.cellsOf e < count := by simpa using h.1
        have h1 : off / P.cellsOf e + 1 ≤ count := h1
        have := Nat.mul_le_mul_left (P.cellsOf e) h1
        rw [Nat.mul_add, Nat.mul_one] at this
        rw [Nat.mul_comm count]; omega
theorem liesAt_le : ∀ (d : Nat) (e : TypeId) (count off : Nat) (u : TypeId) (n : Nat), liesAt P d e count off u n = true → off ≤ count * P.cellsOf e
  | 0, _, _, _, _, _, h => by simp [liesAt] at h
  | d + 1, e, count, off, u, n, h => by
    unfold liesAt at h
    rw [Bool.or_eq_true] at h
    rcases h with h | h
    · exact rowAt_le _ _ _ _ _ h
    · split at h
      · exact liesAt_le d e count off _ _ h
      · cases h
theorem cells_get {base : Nat} {w : World} {a : Addr} {n : Nat} {cs : List Value} (h : w.cells? base a n = some cs) : cs.length = n ∧ ∀ j, j < n → w.cell? (a.add j) = cs[j]? := by
  unfold World.cells? at h
  split at h
  · have hl := List.length_of_mapM_some' h
    refine ⟨by simpa using hl, fun j hj => ?_⟩
    have := List.get_of_mapM_some' h j j (by simp [hj])
    exact this
  · cases h
where
  List.length_of_mapM_some' {α β : Type} {f : α → Option β} : ∀ {l : List α} {r : List β}, l.mapM f = some r → r.length = l.length
    | [], r, h => by simp at h; subst h; rfl
    | x :: l, r, h => by
      rw [List.mapM_cons] at h
      cases hx : f x with
      | none => simp [hx] at h
      | some y =>
        cases hl : l.mapM f with
        | none => simp [hx, hl] at h
        | some s =>
          simp [hx, hl] at h
          subst h
          simp [List.length_of_mapM_some' hl]
  List.get_of_mapM_some' {α β : Type} {f : α → Option β} : ∀ {l : List α} {r : List β}, l.mapM f = some r → ∀ (j : Nat) (x : α), l[j]? = some x → f x = r[j]?
    | [], r, h, j, x, hx => by simp at hx
    | y :: l, r, h, j, x, hx => by
      rw [List.mapM_cons] at h
      cases hy : f y with
      | none => simp [hy] at h
      | some z =>
        cases hl : l.mapM f with
        | none => simp [hy, hl] at h
        | some s =>
          simp [hy, hl] at h
          subst h
          cases j with
          | zero => simp at hx; subst hx; simp [hy]
          | succ j => simpa using List.get_of_mapM_some' hl j x (by simpa using hx)
theorem rows_of {cells : Array Value} {sh : List CK} : ∀ (len o : Nat), o ≤ cells.size → (∀ i, i < len → ∃ zs, RowOk sh zs ∧ ∀ j, j < sh.length → cells[o + i * sh.length + j]? = (rowV sh zs)[j]?) → (0 < len → 0 < sh.length) →
    ∃ rows : List (List Int), rows.length = len ∧ RowsAt cells o sh rows
  | 0, o, ho, _, _ => ⟨[], rfl, fun _ h => by simp at h, cells.toList.take o, cells.toList.drop o, by simp [flatV], by simp; omega⟩
  | len + 1, o, ho, h, hp => by
    obtain ⟨zs, a1, a2⟩ := h 0 (Nat.succ_pos _)
    have hp := hp (Nat.succ_pos _)
    have hv := rowV_len a1
    have hlast := a2 (sh.length - 1) (by omega)
    have hsz : o + sh.length ≤ cells.size := by
      have : (rowV sh zs)[sh.length - 1]? ≠ none := by rw [List.getElem?_eq_getElem (by omega)]; simp
      rw [← hlast] at this
      have := Array.getElem?_ne_none_iff'.1 this
      omega
    obtain ⟨rows, b1, b2, pre, post, b3, b4⟩ := rows_of len (o + sh.length) hsz (fun i hi => by
      obtain ⟨ys, c1, c2⟩ := h (i + 1) (by omega)
      refine ⟨ys, c1, fun j hj => ?_⟩
      rw [← c2 j hj]
      congr 1
      rw [Nat.succ_mul]; omega) fun _ => hp
    refine ⟨zs :: rows, by simp [b1], fun row hr => ?_, cells.toList.take o, post, ?_, by simp; omega⟩
    · rcases List.mem_cons.1 hr with rfl | hr
      · exact a1
      · exact b2 row hr
    · have e1 : pre = cells.toList.take (o + sh.length) := by
        rw [b3, List.append_assoc, List.take_left' b4]
      have e2 : pre = cells.toList.take o ++ rowV sh zs := by
        rw [e1, List.take_add]
        congr 1
        refine List.ext_getElem? fun j => ?_
        by_cases hj : j < sh.length
        · have := a2 j hj
          rw [List.getElem?_take, if_pos hj, List.getElem?_drop, ← this]
          simp
        · rw [List.getElem?_eq_none (by simp; omega), List.getElem?_eq_none (by omega)]
      have e3 : cells.toList = cells.toList.take o ++ rowV sh zs ++ flatV sh rows ++ post := by rw [← e2]; exact b3
      have e4 : flatV sh (zs :: rows) = rowV sh zs ++ flatV sh rows := by simp [flatV]
      rw [e4, ← List.append_assoc]; exact e3
where
  Array.getElem?_ne_none_iff' {α : Type} {a : Array α} {i : Nat} : a[i]? ≠ none ↔ i < a.size := by simp

/-! ### Parameters -/
/-- The type of a parameter. -/
def BTy (P : Program) (t : TypeId) : BD → Prop
  | .d (.int k lo hi) => P.underlying t = some (.int k) ∧ lo = k.min ∧ hi = k.max
  | .d .bool => P.underlying t = some .bool
  | .d .str => P.underlying t = some .string
  | .d (.agg k n lo hi) => ∃ e, P.underlying t = some (.array n e) ∧ shT P 8 t = some (List.replicate n (.int k lo hi)) ∧ P.cellsOf t = n
  | .d (.mix l) => ((∃ fs, P.underlying t = some (.struct fs)) ∨ ∃ n e, P.underlying t = some (.array n e)) ∧ shT P 8 t = some l ∧ P.cellsOf t = l.length
  | .d (.strk _) => False
  | .rd sh => ∃ e, P.underlying t = some (.slice e) ∧ shT P 8 e = some sh ∧ P.cellsOf e = sh.length ∧ shOk sh = true
  | .ow _ _ => False
theorem RowOk.inB : ∀ {sh : List CK} {zs : List Int}, RowOk sh zs → inB (sh.map CK.bd) zs
  | [], [], _ => trivial
  | _ :: _, _ :: _, h => ⟨h.1.1, h.1.2, RowOk.inB h.2⟩
  | [], _ :: _, h => h.elim
  | _ :: _, [], h => h.elim
theorem rowV_zip : ∀ (sh : List CK) (zs : List Int), rowV sh zs = List.zipWith CK.val sh zs
  | [], _ => by simp [rowV]
  | _ :: _, [] => by simp [rowV]
  | c :: sh, z :: zs => by simp only [rowV, List.zipWith_cons_cons, rowV_zip sh zs]
theorem rowV_rep (k : IntKind) (lo hi : Int) : ∀ (n : Nat) (zs : List Int), zs.length = n → rowV (List.replicate n (.int k lo hi)) zs = zs.map (Value.int k)
  | 0, [], _ => rfl
  | n + 1, z :: zs, h => by
    rw [List.replicate_succ]
    simp only [rowV, List.map_cons, rowV_rep k lo hi n zs (by simpa using h)]
    rfl
  | 0, _ :: _, h => by simp at h
  | n + 1, [], h => by simp at h
theorem map_rep (k : IntKind) (lo hi : Int) : ∀ n : Nat, (List.replicate n (CK.int k lo hi)).map CK.bd = repB lo hi n
  | 0 => rfl
  | n + 1 => by rw [List.replicate_succ, List.map_cons, map_rep k lo hi n]; rfl
theorem open_B {b0 : Nat} {w : World} {t : TypeId} {b : BD} {v : Value} {x : DataW H} {ps : List MemPlace} (ht : BTy P t b) (hval : Value.okWide P w .any b0 t v) (hd : DataW.Trod enc P w 0 (fun _ => true) true t v x ps) (hw : ∀ m ∈ x.weights P t, m ≤ reachBytes) :
    ∃ zs, inB b.bds zs ∧ zs.length = b.num ∧ b.at (fun g => g < w.heap.size) (fun _ => False) w zs v := by
  obtain ⟨fuel, hf⟩ := hd
  have agg : ((∃ fs, P.underlying t = some (.struct fs)) ∨ ∃ n e, P.underlying t = some (.array n e)) → ∃ cs, v = .agg cs ∧ cs.size = P.cellsOf t := fun h => by
    unfold Value.okWide at hval
    rcases h with ⟨fs, h⟩ | ⟨n, e, h⟩
    · rw [h] at hval; obtain ⟨cs, a, b, _⟩ := hval; exact ⟨cs, a, b⟩
    · rw [h] at hval; obtain ⟨cs, a, b, _⟩ := hval; exact ⟨cs, a, b⟩
  cases b with
  | ow _ _ => exact ht.elim
  | d y =>
    cases y with
    | strk l => exact ht.elim
    | int k lo hi =>
      obtain ⟨h1, rfl, rfl⟩ := ht
      obtain ⟨n, rfl⟩ := okWide_int h1 hval
      obtain ⟨n', h, hx, hwf⟩ := DataW.trod_int h1 hf
      simp [Value.cells] at h
      subst h
      have := wf_iff.1 hwf
      exact ⟨[n], ⟨this.1, this.2, trivial⟩, rfl, rfl⟩
    | bool =>
      obtain ⟨c, rfl⟩ := okWide_bool ht hval
      refine ⟨[cond c 1 0], ?_, rfl, ?_⟩
      · cases c <;> simp [BD.bds, D.bds, inB]
      · cases c <;> simp [BD.at, D.val]
    | str =>
      obtain ⟨s, rfl⟩ := okWide_string ht hval
      obtain ⟨s', h, hx, hs⟩ := DataW.trod_string ht hf
      simp [Value.cells] at h
      subst h
      simp only [Prod.mk.injEq] at hx
      have hb : s.data.toList.length ≤ mxL := hw _ (by rw [hx.1]; simp [DataW.weights])
      exact ⟨[cOf s.data.toList], ⟨cOf_nonneg _, HB_c hb, trivial⟩, rfl, by simp [BD.at, D.val, sOf_cOf, bA]⟩
    | agg k n lo hi =>
      obtain ⟨e, h1, h2, h3⟩ := ht
      obtain ⟨cs, rfl, hsz⟩ := agg (.inr ⟨n, e, h1⟩)
      obtain ⟨zs, a1, a2, _⟩ := open_sh 8 t _ h2 fuel _ _ hf (by show cs.toList.length = _; simp [hsz, h3]) hw
      have hl : zs.length = n := by have := a1.len; simpa using this
      have hcs : cs = (rowV (List.replicate n (.int k lo hi)) zs).toArray := by rw [← a2]; simp [Value.cells]
      refine ⟨zs, ?_, hl, ?_⟩
      · have := a1.inB; rw [map_rep] at this; exact this
      · show Value.agg cs = _
        rw [hcs, rowV_rep k lo hi n zs hl]
        simp only [D.val, ← hl, List.take_length]
    | mix l =>
      obtain ⟨h1, h2, h3⟩ := ht
      obtain ⟨cs, rfl, hsz⟩ := agg h1
      obtain ⟨zs, a1, a2, _⟩ := open_sh 8 t _ h2 fuel _ _ hf (by show cs.toList.length = _; simp [hsz, h3]) hw
      have hl : zs.length = l.length := a1.len
      have hcs : cs = (rowV l zs).toArray := by rw [← a2]; simp [Value.cells]
      refine ⟨zs, a1.inB, hl, ?_⟩
      show Value.agg cs = _
      rw [hcs, rowV_zip]; rfl
  | rd sh =>
    obtain ⟨e, h1, h2, h3, hsok⟩ := ht
    have h4 : 0 < sh.length := by
      unfold shOk at hsok
      simp only [Bool.and_eq_true, Nat.blt_eq] at hsok
      exact hsok.1.2
    obtain ⟨a, len, cap, rfl⟩ := okWide_slice h1 hval
    rcases DataW.trod_slice h1 hf with ⟨h, _⟩ | ⟨ad, len', cap', elems, rest, n, rfl, h, hx, _, hlc, hcm, hel, helem, hsp, hns⟩
    · simp [Value.cells] at h
      obtain ⟨rfl, rfl, rfl⟩ := h
      exact ⟨[0], ⟨Int.le_refl _, RB_nonneg, trivial⟩, rfl, .inl ⟨rfl, rOf_zero⟩⟩
    · simp [Value.cells] at h
      obtain ⟨rfl, rfl, rfl⟩ := h
      have hhas : w.has P .any b0 ad e cap := by
        unfold Value.okWide at hval
        rw [h1] at hval
        simp only [Cell.okWide, Cell.ok, h1] at hval
        exact hval.2.2
      obtain ⟨_, hspot, row, cells0, hsh, hlies⟩ := hhas
      obtain ⟨g, o, sp⟩ := ad
      simp only at hspot
      subst hspot
      obtain ⟨cells, tt, fz, hheap, hcz⟩ : ∃ cells tt fz, w.heap[g]? = some (.cells cells tt fz) ∧ cells.size = cells0 ∧ tt = row := by
        unfold World.shape? at hsh
        split at hsh
        · rename_i c el fz hb
          simp only [Option.some.injEq, Prod.mk.injEq] at hsh
          exact ⟨c, el, fz, hb, hsh.2, hsh.1⟩
        · cases hsh
      have ho : o ≤ cells.size := by
        have := liesAt_le _ _ _ _ _ _ hlies
        have h6 := Nat.div_mul_le_self cells0 (P.cellsOf row)
        have h7 : o ≤ cells0 / P.cellsOf row * P.cellsOf row := this
        omega
      simp only [Prod.mk.injEq] at hx
      obtain ⟨hx1, hx2⟩ := hx
      rw [hx1] at hw
      simp only [DataW.weights, h1, List.mem_cons, List.mem_append] at hw
      obtain ⟨rows, r1, r2⟩ := rows_of (cells := cells) (sh := sh) len o ho (fun i hi => by
        have := helem i hi
        cases hy : elems[i]? with
        | none => rw [List.getElem?_eq_none_iff] at hy; omega
        | some y =>
          rw [hy, Option.bind_eq_some_iff] at this
          obtain ⟨cs, g1, g2⟩ := this
          obtain ⟨l1, l2⟩ := cells_get g1
          obtain ⟨zs, z1, z2, _⟩ := open_sh 8 e sh h2 n cs y g2 (by rw [l1, h3]) fun m hm => by
            refine hw m (.inr (.inl ?_))
            exact mem_all hy hm
          refine ⟨zs, z1, fun j hj => ?_⟩
          have := l2 j (by rw [h3]; exact hj)
          rw [addr_add, addr_add] at this
          simp only [World.cell?, hheap, Option.isSome_none, Bool.false_eq_true, if_false] at this
          rw [← z2, ← this, h3]) fun _ => h4
      have hcap : (cap : Int) ≤ 9223372036854775807 := by unfold maxLen at hcm; omega
      have hrl : rows.length ≤ maxLen := by omega
      have hRB : rc rows ≤ RB := RB_c hrl fun r hr => (r2.1 r hr).row hsok
      refine ⟨[rc rows], ⟨rc_nonneg _, hRB, trivial⟩, rfl, .inr ⟨g, o, cap, cells, tt, fz, ?_, ?_, ?_, hheap, ?_⟩⟩
      · simp [rOf_rc, r1]
      · simp only [List.getD_cons_zero, rOf_rc, r1]; exact ⟨hlc, hcap⟩
      · exact (Array.getElem?_eq_some_iff.1 hheap).1
      · simp only [List.getD_cons_zero, rOf_rc]; exact r2
where
  mem_all {e : TypeId} : ∀ {l : List (DataW H × List MemPlace)} {i : Nat} {y : DataW H × List MemPlace} {m : Nat}, l[i]? = some y → m ∈ y.1.weights P e → m ∈ DataW.weightsAll P e (l.map (·.1))
    | x :: l, 0, y, m, h, hm => by
      simp only [List.getElem?_cons_zero, Option.some.injEq] at h
      subst h
      simp only [List.map_cons, DataW.weightsAll, List.mem_append]
      exact .inl hm
    | x :: l, i + 1, y, m, h, hm => by
      simp only [List.map_cons, DataW.weightsAll, List.mem_append]
      exact .inr (mem_all (by simpa using h) hm)
    | [], _, _, _, h, _ => by simp at h

/-- All parameters. -/
def BTys (P : Program) : List TypeId → List BD → Prop
  | [], [] => True
  | t :: ts, b :: bs => BTy P t b ∧ BTys P ts bs
  | _, _ => False
theorem BD.at_app {F N : Nat → Prop} {w : World} (b : BD) {zs l : List Int} {v : Value} (h : zs.length = b.num) (ha : b.at F N w zs v) : b.at F N w (zs ++ l) v := by
  cases b with
  | d x =>
    show v = x.val (zs ++ l)
    rw [D.val_app x (l := l) h]; exact ha
  | rd sh => match zs, h with | [z], _ => exact ha
  | ow sh e => match zs, h with | [z], _ => exact ha
theorem open_Bs {b0 : Nat} {w : World} : ∀ {ts : List TypeId} {bs : List BD} {vs : List Value} {xs : List (DataW H)} {ps : List MemPlace}, BTys P ts bs → (∀ (j : Nat) t v, ts[j]? = some t → vs[j]? = some v → Value.okWide P w .any b0 t v) → DataW.TrodAll enc P w 0 (fun _ => true) true ts vs xs ps →
    (∀ m ∈ DataW.weightsEach P ts xs, m ≤ reachBytes) → ∃ zs, inB (bbds bs) zs ∧ atL (fun g => g < w.heap.size) (fun _ => False) w bs zs vs ∧ xs.length = bs.length
  | [], [], [], [], ps, _, _, h, _ => ⟨[], trivial, trivial, rfl⟩
  | [], [], _ :: _, _, _, _, _, h, _ => h.elim
  | [], [], [], _ :: _, _, _, _, h, _ => h.elim
  | [], _ :: _, _, _, _, h, _, _, _ => h.elim
  | _ :: _, [], _, _, _, h, _, _, _ => h.elim
  | _ :: _, _ :: _, [], _, _, _, _, h, _ => by cases h
  | _ :: _, _ :: _, _ :: _, [], _, _, _, h, _ => by cases h
  | t :: ts, b :: bs, v :: vs, x :: xs, ps, ht, hv, h, hw => by
    obtain ⟨p, q, h1, h2, rfl⟩ := h
    simp only [DataW.weightsEach, List.mem_append] at hw
    obtain ⟨zs, a1, a2, a3⟩ := open_B ht.1 (hv 0 t v rfl rfl) h1 fun m hm => hw m (.inl hm)
    obtain ⟨ys, b1, b2, b3⟩ := open_Bs ht.2 (fun j t v h1 h2 => hv (j + 1) t v (by simpa using h1) (by simpa using h2)) h2 fun m hm => hw m (.inr hm)
    refine ⟨zs ++ ys, inB_app a1 b1, ⟨BD.at_app b a2 a3, ?_⟩, by simp [b3]⟩
    rw [← a2, List.drop_left]; exact b2
theorem trodAll_below (hl : laidOutB P = true) {W W' : World} (hb : Below W.heap.size W W') : ∀ {ts : List TypeId} {vs : List Value} {xs : List (DataW H)} {ps : List MemPlace}, (∀ t ∈ ts, P.readableRec t = true ∧ t < P.types.size) → DataW.TrodAll enc P W 0 (fun _ => true) true ts vs xs ps → (∀ x ∈ ps, x.block < W.heap.size) →
    DataW.TrodAll enc P W' 0 (fun b => decide (b < W.heap.size)) true ts vs xs ps
  | [], [], [], _, _, h, _ => h
  | [], _ :: _, _, _, _, h, _ => h.elim
  | [], [], _ :: _, _, _, h, _ => h.elim
  | _ :: _, [], _, _, _, h, _ => by cases h
  | _ :: _, _ :: _, [], _, _, h, _ => by cases h
  | t :: ts, v :: vs, x :: xs, ps, hr, h, hlt => by
    obtain ⟨p, q, h1, h2, rfl⟩ := h
    exact ⟨p, q, Below.trod hl (hr t (by simp)).1 (hr t (by simp)).2 h1 hb fun x hx => hlt x (List.mem_append.2 (.inl hx)), trodAll_below hl hb (fun t ht => hr t (List.mem_cons_of_mem _ ht)) h2 fun x hx => hlt x (List.mem_append.2 (.inr hx)), rfl⟩
theorem change_and_sh {C : Checked} {os : Os} {f : FuncId} {fn : Func} {s : ChangeSpec} {apart : Bool} {X : World → Array Value → Prop}
    (hX : ∀ (w w' : World) (args : Array Value), w.heap = w'.heap → X w args → X w' args)
    (own : ownKnob C.prog.godebug = none) (started : os.Started) (noInit : C.prog.inits.idxOf? f = none) (hfn : C.prog.funcs[f]? = some fn)
    (witness : ∃ (w : World) (tape : Tape) (i : Input), w.os = os ∧ (w.forCall tape i).Shaped C.prog ∧ i.vars = [] ∧ Input.okWide C.prog (w.forCall tape i) .any w.heap.size f i ∧
      ((s.pre enc C.prog fn [] apart (w.forCall tape i).memory i.args ∧ X (w.forCall tape i).memory i.args) ∧ sizedMet enc C.prog fn (OpenSpec.ofChange s) apart (w.forCall tape i).memory i.args) ∧ ({} : Assume).holds C.prog (lone (Frame.enter C.prog f i.args .normal) [] (w.forCall tape i)))
    (contract : ∀ (W : World) (base : Nat) (args : Array Value) (ds gs : List (DataW H)) (before : List MemPlace),
      (∀ (j : Nat) t v, fn.params[j]? = some t → args[j]? = some v → Value.okWide C.prog W .any base t v) →
      DataW.Whole enc C.prog fn.params.toList s.vars apart W args.toList ds gs before → (DataW.weightsEach C.prog (fn.params.toList ++ s.plain.varTypes C.prog) (ds ++ gs)).all (· ≤ reachBytes) = true → X W args → W.ShapedOpen C.prog →
      Calls C.prog f args W fun e W' => ∃ v, e = .returned v ∧ s.post enc C.prog fn apart true false false W args v W') :
    ReturnsInHanded {} C os f .any (fun w args => (s.pre enc C.prog fn [] apart w args ∧ X w args) ∧ sizedMet enc C.prog fn (OpenSpec.ofChange s) apart w args) (s.post enc C.prog fn apart true false false) := by
  refine returnsInHanded_of_calls own started noInit witness ?_
  intro w tape i _ hsh _ hok hpre hholds
  obtain ⟨_, _, _, fn', hfn', _, _, _, _, hval⟩ := hok
  have e : fn' = fn := Option.some.inj (hfn'.symm.trans hfn)
  subst e
  obtain ⟨⟨⟨ds, gs, before, hw, hc⟩, hx⟩, hz⟩ := hpre
  have hw' := DataW.Whole.of_heap (w' := w.forCall tape i) (by rfl) hw
  refine (contract (w.forCall tape i) w.heap.size i.args ds gs before hval hw' (hz.weights hw) (hX _ _ _ (by rfl) hx) hsh).mono fun e W' ⟨v, he, hp⟩ => ?_
  subst he
  exact ChangeSpec.post_blind hp
/-- **The row of a law, out of its call.** -/
theorem law_lift {C : Checked} {os : Os} {f : FuncId} {fn : Func} {s : ChangeSpec} {X : World → Array Value → Prop} {apart : Bool} {ts : List TypeId} {tb : TypeId} {bs : List BD}
    (hX : ∀ (w w' : World) (args : Array Value), w.heap = w'.heap → X w args → X w' args)
    (own : ownKnob C.prog.godebug = none) (started : os.Started) (noInit : C.prog.inits.idxOf? f = none) (hfn : C.prog.funcs[f]? = some fn)
    (witness : ∃ (w : World) (tape : Tape) (i : Input), w.os = os ∧ (w.forCall tape i).Shaped C.prog ∧ i.vars = [] ∧ Input.okWide C.prog (w.forCall tape i) .any w.heap.size f i ∧
      ((s.pre enc C.prog fn [] apart (w.forCall tape i).memory i.args ∧ X (w.forCall tape i).memory i.args) ∧ sizedMet enc C.prog fn (OpenSpec.ofChange s) apart (w.forCall tape i).memory i.args) ∧ ({} : Assume).holds C.prog (lone (Frame.enter C.prog f i.args .normal) [] (w.forCall tape i)))
    (hp : fn.params.toList = ts) (hr : fn.resultTypes.toList = [tb]) (hr1 : fn.resultTypes.size = 1) (htb : C.prog.underlying tb = some .bool) (hty : BTys C.prog ts bs) (hlo : laidOutB C.prog = true) (hrd : (ts.all fun t => C.prog.readableRec t && decide (t < C.prog.types.size)) = true) (hvars : s.vars = [])
    (hs : ∀ xs : List (DataW H), xs.length = bs.length → s.fn H xs = { results := [.lit (.bool true)], args := xs, vars := [] })
    (contract : ∀ (W : World) (zs : List Int) (vs : List Value), inB (bbds bs) zs → atL (fun g => g < W.heap.size) (fun _ => False) W bs zs vs → X W vs.toArray → W.ShapedOpen C.prog → Calls C.prog f vs.toArray W fun e W' => e = .returned (.bool true) ∧ W.Extends W') :
    ReturnsInHanded {} C os f .any (fun w args => (s.pre enc C.prog fn [] apart w args ∧ X w args) ∧ sizedMet enc C.prog fn (OpenSpec.ofChange s) apart w args) (s.post enc C.prog fn apart true false false) := by
  refine change_and_sh hX own started noInit hfn witness ?_
  intro W base args xs gs before hval0 hW hsz hx hsh
  have hW' := hW
  have hlt := hW.lt
  obtain ⟨p, q, hA, hV, rfl, hfz, hnd⟩ := hW
  rw [hp] at hA
  rw [hvars] at hV
  obtain ⟨rfl, rfl⟩ : gs = [] ∧ q = [] := by
    cases gs with
    | nil => exact ⟨rfl, hV⟩
    | cons g r => exact absurd hV (by intro h; cases h)
  have hval : ∀ (j : Nat) t v, ts[j]? = some t → args.toList[j]? = some v → Value.okWide C.prog W .any base t v := fun j t v h1 h2 => hval0 j t v (by rw [← hp] at h1; simpa using h1) (by simpa using h2)
  have e : (fn.params.toList ++ s.plain.varTypes C.prog) = ts := by rw [hp]; simp [DataSpec.varTypes, ChangeSpec.plain, hvars]
  rw [e, List.append_nil, List.all_eq_true] at hsz
  obtain ⟨zs, hz, hat, hlen⟩ := open_Bs hty hval hA fun n hn => by simpa using hsz n hn
  have hargs : args = args.toList.toArray := by simp
  rw [hargs] at hx
  have hcall : Calls C.prog f args W fun e W' => e = .returned (.bool true) ∧ W.Extends W' := by
    have := contract W zs args.toList hz hat hx hsh
    rwa [← hargs] at this
  refine hcall.mono fun e W' ⟨he, hw⟩ => ?_
  subst he
  have hfn' := hs (xs ++ []) (by simp [hlen])
  have hbelow : Below W.heap.size W W' := ⟨hw.os, hw.tape, hw.output, hw.size, fun i hi => hw.block i hi⟩
  refine ⟨_, rfl, _, _, _, [], p, [], hW', ?_, ?_, ?_, keptBut_extends hw _, fun h => by cases h⟩
  · rw [hfn', hr, hr1]; exact trodAll_mk1 (shut_bool htb true)
  · rw [hfn', hp, List.append_nil]
    exact trodAll_below hlo hbelow (fun t ht => by
      have := List.all_eq_true.1 hrd t ht
      simpa using this) hA fun x hx => hlt x (by simp [hx])
  · rw [hfn', hvars]; rfl
/-! ### Contracts with slices, by blocks -/
section
variable {gl : Glo} {wb : World} {sh : Nat → List Nat × List Nat} {SB : Nat → List (List Int) → List (List Int) → Prop}
/-- What is to be shown at a function's end. -/
def KBb (SB : Nat → List (List Int) → List (List Int) → Prop) (res : List BD) (id : Nat) : List (List Int) → List (List Int) → Prop := fun zs rs => inB (bbds res) rs.flatten ∧ SB id zs rs
theorem bok_vcf {c : BCon} {bcs : List BCon} {cal : Cal} {li : FuncId → Nat → Option LoopI} {rounds d : Nat} {lsh : Nat → List Nat} {lens : List Nat} (hm : P.follows .mixedOrders = true) (hcal : ∀ r ex ro, CalOk (flatS sh SB) P gl ⟨wb, r, ex, ro⟩ cal) (hg : GOk gl ⟨wb, wb, fun _ => False, fun _ => False⟩)
    (hbc : ∀ b ∈ bcs, b.Ok P wb (flatS sh SB b.id)) (hf : goB P c.f = true) (hl : lens = (sh c.id).1) (hd : numsBD c.res = (sh c.id).2)
    (hv : VcF sh lsh SB (KBb SB c.res c.id) lens (bbds c.args) c.res (c.tree (bcOf bcs) P gl cal li rounds d)) : c.Ok P wb (flatS sh SB c.id) := by
  refine BCon.of_vc (li := li) (rounds := rounds) (d := d) hm hcal hg hbc (enters hf) (allB_intro fun zs hz => ?_)
  have h := allB_elim (VcF_sound hv) hz
  simp only [KBb, splitL_flatten] at h
  rw [hl, hd] at h
  exact h
theorem bok_bc {c : BCon} {bc : BC} {cal : Cal} {li : FuncId → Nat → Option LoopI} {rounds d : Nat} {lsh : Nat → List Nat} {lens : List Nat} (hm : P.follows .mixedOrders = true) (hcal : ∀ r ex ro, CalOk (flatS sh SB) P gl ⟨wb, r, ex, ro⟩ cal) (hg : GOk gl ⟨wb, wb, fun _ => False, fun _ => False⟩)
    (hbc : ∀ (L : V → Env → Prop) (r : World) (ro : Nat → Prop), BcOk (flatS sh SB) L ⟨wb, r, fun _ => False, ro⟩ P bc) (hf : goB P c.f = true) (hl : lens = (sh c.id).1) (hd : numsBD c.res = (sh c.id).2)
    (hv : VcF sh lsh SB (KBb SB c.res c.id) lens (bbds c.args) c.res (c.tree bc P gl cal li rounds d)) : c.Ok P wb (flatS sh SB c.id) := by
  refine BCon.of_bc (li := li) (rounds := rounds) (d := d) hm hcal hg hbc (enters hf) (allB_intro fun zs hz => ?_)
  have h := allB_elim (VcF_sound hv) hz
  simp only [KBb, splitL_flatten] at h
  rw [hl, hd] at h
  exact h
/-- A law with slices, called. -/
theorem law_b {c : BCon} {W : World} {vs : List Value} {zs : List Int} (hc : c.Ok P W (flatS sh SB c.id)) (hres : c.res = [.d .bool]) (hpre : c.pre = 0) (hz : inB (bbds c.args) zs) (hat : atL (fun g => g < W.heap.size) (fun _ => False) W c.args zs vs) (h1 : ∀ a z, SB c.id a [[z]] → z = 1) (h2 : (sh c.id).2 = [1]) :
    Calls P c.f vs.toArray W fun e W' => e = .returned (.bool true) ∧ W.Extends W' := by
  refine (hc.2 _ W vs zs (World.Extends.refl W) hz (by rw [hpre]; trivial) hat).mono fun e W' ⟨hx, rs, us, hb, hs, hr, he⟩ => ⟨?_, hx⟩
  rw [hres] at hb hr
  match rs, hb, us, hr, hs, he with
  | [z], hb, [u], hr, hs, he =>
    unfold flatS at hs
    rw [h2] at hs
    have e1 : z = 1 := h1 _ z hs
    subst e1
    have : u = .bool true := hr.1
    subst this
    rw [he]; rfl
  | [z], hb, [], hr, hs, he => exact hr.elim
  | [z], hb, _ :: _ :: _, hr, hs, he => exact hr.2.elim
  | [], hb, _, _, _, _ => exact hb.elim
  | _ :: _ :: _, hb, _, _, _, _ => exact hb.2.2.elim
end
end Go.Rx

/- Contracts of functions that change a slice of one's own: what was handed in is told anew. -/
set_option linter.unusedVariables false
set_option linter.unusedSimpArgs false
namespace Go.Rx
open M

/-- All is as it was, but one block. -/
def SlNew (w w' : World) (own : Option Nat) : Prop :=
  w'.os = w.os ∧ w'.tape = w.tape ∧ w'.output = w.output ∧ w.heap.size ≤ w'.heap.size ∧ ∀ k : Nat, k < w.heap.size → own ≠ some k → w'.heap[k]? = w.heap[k]?
structure ICon where
  f : FuncId
  id : Nat
  sh : List CK
  e : TypeId
  args : List BD
  pre : Nat := 0
/-- The block that may be written: none where there is no room at all. -/
def ownOf : Value → Option Nat
  | .slice (some a) _ (_ + 1) => some a.block
  | _ => none
def ICon.Ok (P : Program) (wb : World) (c : ICon) (spec : List Int → List Int → Prop) : Prop :=
  (∀ args w, (callFunc c.f args).run P w = .ok (.enter c.f args) w) ∧
  ∀ (F : Nat → Prop) (w : World) (v0 : Value) (code : Int) (vs : List Value) (zs : List Int), wb.Extends w → SlOw (fun g => wb.heap.size ≤ g) w c.sh c.e (rOf code) v0 → (0 ≤ code ∧ code ≤ RB) → inB (bbds c.args) zs → preD c.pre (code :: zs) → atL F (fun _ => False) w c.args zs vs → (∀ g, F g → ownOf v0 ≠ some g) →
    Calls P c.f (v0 :: vs).toArray w fun e w' => SlNew w w' (ownOf v0) ∧ ∃ code' v', (0 ≤ code' ∧ code' ≤ RB) ∧ spec (code :: zs) [code'] ∧ SlOw (fun g => ownOf v0 = some g ∨ w.heap.size ≤ g) w' c.sh c.e (rOf code') v' ∧ e = .returned v'
noncomputable def ICon.R (c : ICon) (n : Nat) (code : Lin) (r : List V) (bl : List Blk) (k : RK) : T :=
  flatBM bl c.args r n fun ls n1 => preM c.pre (code :: ls) (.call c.id (code :: ls) n1 [(0, RB)] (argE [.ow c.sh c.e] n1 (n1 + 1) [] bl fun n2 us bl2 => k n2 (resWs us) bl2))
noncomputable def ICon.E (c : ICon) (n : Nat) (vs : List V) (bl : List Blk) (k : RK) : T :=
  match vs with
  | .w (.one (.sl b sz o ro len cap)) :: r => match bl[b]? with
    | some ([.rows sh off code capb kind], bt) => cond (shBeq c.sh sh && Nat.beq kind 2 && Lin.beq o (.const 0) && Lin.beq off (.const 0) && Lin.beq ro (.const 0) && Lin.beq cap capb && Nat.beq bt.1 c.e)
        (.chk 31 [code, len] (c.R n code r (setB bl b ([.rows sh off code capb 0], bt)) k)) .stuck
    | _ => .stuck
  | .w (.one (.con (.slice none 0 0))) :: r => c.R n (.const 0) r bl k
  | .w (.one (.slc b 0 0 0)) :: r => match bl[b]? with
    | some ([], (t, false)) => cond (Nat.beq t c.e) (c.R n (.const 0) r bl k) .stuck
    | _ => .stuck
  | _ => .stuck
section
variable {S : Nat → List Int → List Int → Prop} {L : V → Env → Prop} {w0 : Base} {P : Program}
theorem Mem.lose {ρ : Env} {m : Nat → Nat} {bl : List Blk} {w w' : World} {b : Nat} {sh : List CK} {off code cap : Lin} {t : TypeId × Bool} (h : Mem w0 ρ m bl w) (hbl : bl[b]? = some ([.rows sh off code cap 2], t)) {own : Option Nat} (hown : ∀ g, own = some g → 0 ≤ cap.den ρ ∧ g = m b) (hn : SlNew w w' own) : Mem w0 ρ m (setB bl b ([.rows sh off code cap 0], t)) w' := by
  have h1 := h.kill hbl
  obtain ⟨n1, n2, n3, n4, n5⟩ := hn
  have hrr := h.rws b sh off code cap 2 t hbl (by decide)
  have hg : ∀ g, own = some g → w0.b.heap.size ≤ g ∧ (w0.ex g ∨ w0.r.heap.size ≤ g) := fun g hg => by
    obtain ⟨hc, rfl⟩ := hown g hg
    obtain ⟨_, cells, tq, fz, g1, _, g4⟩ := hrr.2 hc
    obtain ⟨_, _, _, _, g8, g9⟩ := g4 (by decide)
    exact ⟨g8, g9⟩
  have hkb : 0 ≤ cap.den ρ → kindC ρ [.rows sh off code cap 2] = 2 := fun hc => kindC_rows (by decide) hc
  have hblk : ∀ i : Nat, i < w0.b.heap.size → w'.heap[i]? = w0.b.heap[i]? := fun i hi => by
    rw [n5 i (Nat.lt_of_lt_of_le hi h.ext.size) (fun e => by have := (hg i e).1; omega), h.ext.block i hi]
  have hset : ∀ (i : Nat) (p : Blk), (setB bl b ([.rows sh off code cap 0], t))[i]? = some p → (i = b ∧ p = ([.rows sh off code cap 0], t)) ∨ (i ≠ b ∧ bl[i]? = some p) := fun i p hi => by
    have hblen : b < bl.length := (List.getElem?_eq_some_iff.1 hbl).1
    rw [setB_eq, List.getElem?_set] at hi
    split at hi
    · rename_i hbi
      subst hbi
      simp only [hblen, if_true, Option.some.injEq] at hi
      exact .inl ⟨rfl, hi.symm⟩
    · rename_i hbi; exact .inr ⟨fun e => hbi e.symm, hi⟩
  have hsame : ∀ (i : Nat) (p : Blk), i ≠ b → bl[i]? = some p → kindC ρ p.1 ≠ 0 → w'.heap[m i]? = w.heap[m i]? := fun i p hne hi hk => by
    refine n5 _ (h.lt hi hk) fun e => ?_
    obtain ⟨hc, e⟩ := hown _ e
    exact h.ne hbl hi (by rw [hkb hc]; exact Nat.le_refl _) hk (fun e => hne e.symm) e.symm
  refine ⟨⟨n1.trans h.ext.os, n2.trans h.ext.tape, n3.trans h.ext.output, Nat.le_trans h.ext.size n4, fun a ha => by simp only [World.cell?, hblk a.block ha], fun a ha => by simp only [World.frozen?, hblk a.block ha], hblk⟩, n1.trans h.hos, n2.trans h.htape, n3.trans h.hout, Nat.le_trans h.hsize n4, fun i hi hx => ?_, fun i cs t' hi ho => ?_, fun i sh' off' code' cap' kind' t' hi => ?_, h1.inj⟩
  · rw [n5 i (Nat.lt_of_lt_of_le hi h.hsize) (fun e => by rcases (hg i e).2 with h | h; exact hx h; omega)]
    exact h.frm i hi hx
  · rcases hset i _ hi with ⟨rfl, hi2⟩ | ⟨hne, hi⟩
    · cases hi2; cases ho
    · obtain ⟨g1, g2, r, hr, g3⟩ := h.blk i cs t' hi ho
      exact ⟨g1, g2, r, hr, by rw [hsame i _ hne hi (by rw [kind_ord ho]; decide)]; exact g3⟩
  · rcases hset i _ hi with ⟨rfl, hi2⟩ | ⟨hne, hi⟩
    · cases hi2; exact fun hk => absurd rfl hk
    · exact (h.rws i sh' off' code' cap' kind' t' hi).grow fun hk hc => hsame i _ hne hi (by simp only [kindC_rows hk hc]; exact hk)
theorem ICon.R_ok {c : ICon} {spec : List Int → List Int → Prop} (hc : c.Ok P w0.b spec) (hS : ∀ zs rs, spec zs rs → S c.id zs rs) (n nb : Nat) (code : Lin) (r : List V) (bk : List Blk) (k : RK) (G : Again) (ρ : Env) (m : Nat → Nat) (w : World) (X : Value) (xs : List Value) (R' : Ending → World → Prop)
    (hnb : bk.length = nb) (hbb : BlOk n bk.length ρ bk) (hkill : Mem w0 ρ m bk w) (hv : ∀ v ∈ r, V.ok n bk.length ρ v) (hr : LRel ρ m r xs) (r2 : code.sc n) (r4 : 0 ≤ code.den ρ ∧ code.den ρ ≤ RB)
    (ho3 : SlOw (fun g => w0.b.heap.size ≤ g) w c.sh c.e (rOf (code.den ρ)) X) (hlose : ∀ w', SlNew w w' (ownOf X) → Mem w0 ρ m bk w') (ho4 : ∀ g, ownOf X = some g → w0.b.heap.size ≤ g ∧ w0.r.heap.size ≤ g) (ho5 : ∀ (i : Nat) (p : Blk), bk[i]? = some p → ownOf X = some (m i) → kindC ρ p.1 = 0)
    (hh : (c.R n code r bk k).holds S L G ρ) (hk : RKok S L w0 k n nb ρ m G R') : Calls P c.f (X :: xs).toArray w R' := by
  subst hnb
  unfold ICon.R at hh
  obtain ⟨ρ1, n1, ls, hn1, ha1, ⟨g1, g2, g3⟩, hh⟩ := flatBM_snd (S := S) (L := L) hbb hkill hv hr G _ hh
  obtain ⟨hpre, hh⟩ := preM_holds hh
  simp only [T.holds] at hh
  have ec : code.den ρ1 = code.den ρ := Lin.den_agree ha1 r2
  have hF : ∀ g, BF w0 ρ m bk (r.flatMap baseV) (r.flatMap slcV) g → ownOf X ≠ some g := fun g hg he => by
    obtain ⟨⟨b', _, hbe, p, hp1, hp2, _⟩, _⟩ := hg
    exact hp2 (ho5 b' p hp1 (by rw [he, hbe]))
  rw [List.map_cons, ec] at hpre hh
  refine (hc.2 (BF w0 ρ m bk (r.flatMap baseV) (r.flatMap slcV)) w X (code.den ρ) xs _ hkill.ext ho3 r4 g2 hpre (g3 _ fun _ h => h) hF).mono ?_
  rintro e w' ⟨hnew, code', v', k1, k3, k4, rfl⟩
  have hh := allB_elim hh (show inB [((0 : Int), RB)] [code'] from ⟨k1.1, k1.2, trivial⟩) (hS _ _ k3)
  have hl := hlose w' hnew
  have hb1 := hbb.ext ha1 hn1 (Nat.le_refl bk.length)
  have ha2 : agree n1 ρ1 (updL ρ1 n1 [code']) := agree.updL [code'] n1 ρ1
  have hb2 := hb1.ext ha2 (Nat.le_add_right n1 1) (Nat.le_refl bk.length)
  have hw2 := (hl.rho hbb ha1).rho hb1 ha2
  have hA : At (updL ρ1 n1 [code']) n1 [code'] := At.updL ρ1 n1 [code']
  have haa := ha1.trans ha2 hn1
  have hLat : Later n bk.length ρ m (n1 + 1) bk.length (updL ρ1 n1 [code']) m := ⟨by omega, haa, Nat.le_refl _, fun _ _ => rfl⟩
  have hN : ∀ g, (ownOf X = some g ∨ w.heap.size ≤ g) → w0.b.heap.size ≤ g ∧ w0.r.heap.size ≤ g := fun g hg => by
    rcases hg with hg | hg
    · exact ho4 g hg
    · exact ⟨Nat.le_trans hkill.ext.size hg, Nat.le_trans hkill.hsize hg⟩
  have hdead : ∀ (i : Nat) (p : Blk), bk[i]? = some p → (ownOf X = some (m i) ∨ w.heap.size ≤ m i) → kindC (updL ρ1 n1 [code']) p.1 = 0 := fun i p hi hg => by
    rw [kindC_agree (hbb p (List.mem_of_getElem? hi)) haa]
    rcases hg with hg | hg
    · exact ho5 i p hi hg
    · by_cases h0 : kindC ρ p.1 = 0
      · exact h0
      · have := hkill.lt hi h0; omega
  obtain ⟨n', ρ', m', us', bl2, p1, p2, p3, p4, p5, p6⟩ := argE_ok (S := S) (L := L) (w0 := w0) (F := fun _ => False) (N := fun g => ownOf X = some g ∨ w.heap.size ≤ g) (fun g hg => hg.elim) hN (l := [.ow c.sh c.e]) (us := []) (vals := [v']) (by rfl) hb2 hw2 hA (show inB [((0 : Int), RB)] [code'] from ⟨k1.1, k1.2, trivial⟩) (Nat.le_refl _) ⟨k4, trivial⟩ (.inl rfl) (.inr hdead) (fun u hu => by simp at hu) hh
  have hres := resWs_spec (m := m') (vals := [v']) p5 (by rw [p4]; rfl)
  exact hk n' (resWs us') bl2 G ρ' m' w' v' (hLat.trans p1) (AgA.refl _ _) hres.1 hres.2 p2 p3 p6
theorem SlNew.ext {w w' : World} (h : SlNew w w' none) : w.Extends w' := by
  obtain ⟨n1, n2, n3, n4, n5⟩ := h
  have hblk : ∀ i : Nat, i < w.heap.size → w'.heap[i]? = w.heap[i]? := fun i hi => n5 i hi (fun e => by cases e)
  exact ⟨n1, n2, n3, n4, fun a ha => by simp only [World.cell?, hblk a.block ha], fun a ha => by simp only [World.frozen?, hblk a.block ha], hblk⟩
theorem ICon.E_ok {c : ICon} {spec : List Int → List Int → Prop} (hex : ∀ g, ¬ w0.ex g) (hc : c.Ok P w0.b spec) (hS : ∀ zs rs, spec zs rs → S c.id zs rs) (n : Nat) (vs : List V) (bl : List Blk) (k : RK) (G : Again) (ρ : Env) (m : Nat → Nat) (w : World) (xs : List Value) (R' : Ending → World → Prop)
    (hb : BlOk n bl.length ρ bl) (hw : Mem w0 ρ m bl w) (hv : ∀ v ∈ vs, V.ok n bl.length ρ v) (hr : LRel ρ m vs xs) (hh : (c.E n vs bl k).holds S L G ρ) (hk : RKok S L w0 k n bl.length ρ m G R') :
    (callFunc c.f xs.toArray).run P w = .ok (.enter c.f xs.toArray) w ∧ Calls P c.f xs.toArray w R' := by
  refine ⟨hc.1 _ _, ?_⟩
  have z4 : 0 ≤ (Lin.const 0).den ρ ∧ (Lin.const 0).den ρ ≤ RB := by rw [Lin.den_const]; exact ⟨Int.le_refl _, by have := RB_c (l := []) (by simp) (by simp); exact Int.le_trans (rc_nonneg []) this⟩
  have z0 : rOf ((Lin.const 0).den ρ) = [] := by rw [Lin.den_const]; exact rOf_zero
  unfold ICon.E at hh
  split at hh
  · rename_i b sz o ro len cap r
    split at hh
    rotate_left
    · exact hh.elim
    rename_i sh off code capb kind bt hbl
    cases hgd : (shBeq c.sh sh && Nat.beq kind 2 && Lin.beq o (.const 0) && Lin.beq off (.const 0) && Lin.beq ro (.const 0) && Lin.beq cap capb && Nat.beq bt.1 c.e) with
    | false => rw [hgd] at hh; exact hh.elim
    | true =>
    rw [hgd] at hh
    simp only [cond_true] at hh
    simp only [Bool.and_eq_true] at hgd
    obtain ⟨⟨⟨⟨⟨⟨b0, k2⟩, b1⟩, b2⟩, b3⟩, b4⟩, b5⟩ := hgd
    have b0 := shBeq_eq b0
    have b5 := Nat.eq_of_beq_eq_true b5
    have k2 := Nat.eq_of_beq_eq_true k2
    have b1 := Lin.beq_eq b1
    have b2 := Lin.beq_eq b2
    have b3 := Lin.beq_eq b3
    have b4 := Lin.beq_eq b4
    subst k2; subst b1; subst b2; subst b3; subst b4; subst b0
    match xs, hr with
    | X :: xs, hr =>
    obtain ⟨hk31, hh⟩ := hh
    have hk31 : len.den ρ = (rOf (code.den ρ)).length := hk31
    have hsok : (A.sl b sz (.const 0) (.const 0) len cap).ok n bl.length ρ := hv (.w (.one (.sl b sz (.const 0) (.const 0) len cap))) (by simp)
    obtain ⟨ptr, e1, e2, e3⟩ := sl_den (m := m) hsok
    have hsr : X = (A.sl b sz (.const 0) (.const 0) len cap).den ρ m := hr.1
    rw [e1] at hsr
    obtain ⟨x1, ⟨x2, x3, x4, x5⟩, ⟨x6, x7, x8, x9⟩, ⟨x10, x13⟩, x11, x12⟩ := hsok
    rw [Lin.den_const] at x13
    have hrr := hw.rws b c.sh (.const 0) code cap 2 bt hbl (by decide)
    have hAok : (A.rows c.sh (.const 0) code cap 2).ok n bl.length ρ := hb _ (List.mem_of_getElem? hbl) _ (by simp)
    obtain ⟨⟨r1, r2, r3⟩, r4, r5⟩ := hAok
    have hblen : b < bl.length := (List.getElem?_eq_some_iff.1 hbl).1
    have hln : (len.den ρ).toNat = (rOf (code.den ρ)).length := by omega
    have hown : (∀ g, ownOf X = some g → 0 ≤ cap.den ρ ∧ g = m b) ∧ SlOw (fun g => w0.b.heap.size ≤ g) w c.sh c.e (rOf (code.den ρ)) X ∧ (∀ g, ownOf X = some g → w0.b.heap.size ≤ g ∧ w0.r.heap.size ≤ g) := by
      by_cases hc0 : cap.den ρ < 0
      · have hl0 := x11 hc0
        have hX : X = .slice none (len.den ρ).toNat (if cap.den ρ < 0 then 0 else (cap.den ρ).toNat) := by rw [hsr, e2 hc0]
        refine ⟨(fun g h => by rw [hX] at h; cases h), Or.inl ⟨by rw [hX, if_pos hc0, hl0]; rfl, hrr.1 hc0⟩, (fun g h => by rw [hX] at h; cases h)⟩
      · obtain ⟨_, cells, tq, fz, g1, ⟨g2, g3⟩, g4⟩ := hrr.2 (by omega)
        obtain ⟨g0, g5, g6, g7, g8, g9⟩ := g4 (by decide)
        have g6 := g6.two
        subst g0 g6
        rw [Lin.den_const] at g3
        have hX : X = .slice (some ⟨m b, 0, none⟩) (rOf (code.den ρ)).length (cap.den ρ).toNat := by
          rw [hsr, e3 (by omega), if_neg hc0, hln, Lin.den_const]; simp
        have hcl := x12 (by omega)
        have hoX : ∀ g, ownOf X = some g → g = m b := fun g h => by
          rw [hX] at h
          unfold ownOf at h
          split at h
          · rename_i heq
            injection heq with h1 h2 h3
            injection h1 with h1
            rw [← h1] at h
            cases h; rfl
          · cases h
        refine ⟨(fun g h => ⟨by omega, hoX g h⟩), Or.inr ⟨m b, (cap.den ρ).toNat, cells, hX, ⟨by omega, by omega⟩, g8, by rw [← b5]; exact g1, g3, g7⟩, (fun g h => by
          rw [hoX g h]
          rcases g9 with h | h
          · exact absurd h (hex _)
          · exact ⟨g8, h⟩)⟩
    obtain ⟨ho2, ho3, ho4⟩ := hown
    have hbkl := setB_length bl b ([.rows c.sh (.const 0) code cap 0], bt)
    refine ICon.R_ok (S := S) (L := L) (w0 := w0) hc hS n bl.length code r (setB bl b ([.rows c.sh (.const 0) code cap 0], bt)) k G ρ m w X xs R' hbkl ?_ (hw.kill hbl) (fun v hv' => by rw [hbkl]; exact hv v (List.mem_cons_of_mem _ hv')) hr.2 r2 r4 ho3 (fun w' hn => hw.lose hbl ho2 hn) ho4 (fun i p hi hg => ?_) hh hk
    · refine hb.set ?_
      intro y hy
      have hy : y = .rows c.sh (.const 0) code cap 0 := by simpa using hy
      subst hy
      exact hb _ (List.mem_of_getElem? hbl) (.rows c.sh (.const 0) code cap 2) (by simp)
    · by_cases h0 : kindC ρ p.1 = 0
      · exact h0
      · exfalso
        obtain ⟨hc, hmb⟩ := ho2 _ hg
        have hset : i ≠ b ∧ bl[i]? = some p := by
          rw [setB_eq, List.getElem?_set] at hi
          split at hi
          · rename_i hbi
            subst hbi
            simp only [hblen, if_true, Option.some.injEq] at hi
            subst hi
            exact absurd (by simp [kindC]) h0
          · rename_i hbi; exact ⟨fun e => hbi e.symm, hi⟩
        exact hw.ne hbl hset.2 (by rw [kindC_rows (by decide) hc]; exact Nat.le_refl _) h0 (fun e => hset.1 e.symm) hmb.symm
  · rename_i r
    match xs, hr with
    | X :: xs, hr =>
    have hX : X = .slice none 0 0 := hr.1
    subst hX
    exact ICon.R_ok (S := S) (L := L) (w0 := w0) hc hS n bl.length (.const 0) r bl k G ρ m w _ xs R' rfl hb hw (fun v hv' => hv v (List.mem_cons_of_mem _ hv')) hr.2 (Lin.sc_const _ _) z4 (Or.inl ⟨rfl, z0⟩) (fun w' hn => hw.grow hn.ext) (fun g h => by cases h) (fun i p hi h => by cases h) hh hk
  · rename_i b r
    split at hh
    rotate_left
    · exact hh.elim
    rename_i t hbl
    cases hte : Nat.beq t c.e with
    | false => rw [hte] at hh; exact hh.elim
    | true =>
      rw [hte] at hh
      simp only [cond_true] at hh
      have hte := Nat.eq_of_beq_eq_true hte
      subst hte
      match xs, hr with
      | X :: xs, hr =>
      have hX : X = .slice (some ⟨m b, 0, none⟩) 0 0 := hr.1
      subst hX
      obtain ⟨g1, g2, rr, g3, g4⟩ := hw.blk b [] (c.e, false) hbl rfl
      have g3 := g3 rfl
      subst g3
      refine ICon.R_ok (S := S) (L := L) (w0 := w0) hc hS n bl.length (.const 0) r bl k G ρ m w _ xs R' rfl hb hw (fun v hv' => hv v (List.mem_cons_of_mem _ hv')) hr.2 (Lin.sc_const _ _) z4 (Or.inr ⟨m b, 0, #[], ?_, ⟨?_, by decide⟩, g1, by simpa using g4, ?_, by simp⟩) (fun w' hn => hw.grow hn.ext) (fun g h => by cases h) (fun i p hi h => by cases h) hh hk
      · rw [z0]; rfl
      · rw [z0]; exact Nat.le_refl _
      · rw [z0]; exact ⟨fun _ h => by simp at h, [], [], by simp [flatV], rfl⟩
  · exact hh.elim
/-- What is known of the callees, these among them. -/
noncomputable def icOf : List ICon → BC → BC
  | [], g, f => g f
  | c :: r, g, f => cond (Nat.beq c.f f) (some c.E) (icOf r g f)
theorem icOf_ok {wb r : World} {ro : Nat → Prop} {bc : BC} (hbc : BcOk S L ⟨wb, r, fun _ => False, ro⟩ P bc) : ∀ {l : List ICon}, (∀ c ∈ l, c.Ok P wb (S c.id)) → BcOk S L ⟨wb, r, fun _ => False, ro⟩ P (icOf l bc)
  | [], _ => hbc
  | c :: l, h => fun f g hf => by
    unfold icOf at hf
    cases hb : Nat.beq c.f f with
    | true =>
      rw [hb] at hf
      simp only [cond_true, Option.some.injEq] at hf
      have := Nat.eq_of_beq_eq_true hb
      subst this; subst hf
      intro n vs bl k G ρ m w xs R' h1 h2 h3 h4 h5 h6
      exact ICon.E_ok (w0 := ⟨wb, r, fun _ => False, ro⟩) (fun _ h => h) (h c (by simp)) (fun _ _ h => h) n vs bl k G ρ m w xs R' h1 h2 h3 h4 h5 h6
    | false =>
      rw [hb] at hf
      exact icOf_ok hbc (fun c hc => h c (List.mem_cons_of_mem _ hc)) f g hf
end
end Go.Rx

/- The address seat: what each function says, on texts. -/
set_option linter.unusedVariables false
set_option linter.unusedSimpArgs false
namespace Go.Ad
open Go Go.Rx
abbrev Tx := List UInt8
def u8 (z : Int) : UInt8 := UInt8.ofNat z.toNat
def b01 (b : Bool) : Int := cond b 1 0
def ltr (p : UInt8 → Bool) (l : Tx) : Tx := l.dropWhile p
def rtr (p : UInt8 → Bool) (l : Tx) : Tx := (l.reverse.dropWhile p).reverse
def trimS (p : UInt8 → Bool) (l : Tx) : Tx := ltr p (rtr p l)
def dd (l : Tx) : Bool := (List.range l.length).any fun i => l.getD i 0 == 46 && l.getD (i + 1) 0 == 46
def isS (c : UInt8) : Bool := Nat.ble 97 c.toNat && Nat.ble c.toNat 122
def isG (c : UInt8) : Bool := Nat.ble 65 c.toNat && Nat.ble c.toNat 90
def isD (c : UInt8) : Bool := Nat.ble 48 c.toNat && Nat.ble c.toNat 57
def signs : Tx := [33, 35, 36, 37, 38, 39, 42, 43, 47, 61, 63, 94, 95, 96, 123, 124, 125, 126, 45]
def inLocal (c : UInt8) : Bool := isS c || isG c || isD c || signs.contains c || c == 46
def edgeH (c : UInt8) : Bool := c == 46 || c == 45
def inHost (c : UInt8) : Bool := isS c || isG c || isD c || edgeH c
def okP (inn edge : UInt8 → Bool) (s : Tx) : Bool := (List.range s.length).all fun i =>
  inn (s.getD i 0) && (!edge (s.getD i 0) || (Nat.blt 0 i && Nat.blt (i + 1) s.length)) && !(s.getD i 0 == 46 && Nat.blt 0 i && s.getD (i - 1) 0 == 46)
def localb (s : Tx) : Bool := Nat.blt 0 s.length && Nat.ble s.length 64 && okP inLocal (· == 46) s
def hostb (s : Tx) : Bool := Nat.blt 0 s.length && Nat.ble s.length 230 && okP inHost edgeH s
def portb (s : Tx) : Bool := Nat.blt 0 s.length && Nat.ble s.length 5 && s.all isD
def cutF (c : Int) (s : Tx) : Tx × Tx × Int := cond (decide (0 ≤ idx c s)) (s.take (idx c s).toNat, s.drop ((idx c s).toNat + 1), 1) (s, [], 0)
def serverb (s : Tx) : Bool := hostb (cutF 58 s).1 && (decide ((cutF 58 s).2.2 = 0) || portb (cutF 58 s).2.1)
def lo (c : UInt8) : UInt8 := cond (isG c) (UInt8.ofNat (c.toNat + 32)) c
def lower (s : Tx) : Tx := s.map lo
def emailT (t : Tx) : Tx × Int :=
  cond (decide (0 ≤ idx 64 t) && Nat.ble t.length 254 && localb (t.take (idx 64 t).toNat) && hostb (t.drop ((idx 64 t).toNat + 1)) && (t.drop ((idx 64 t).toNat + 1)).contains 46) (lower t, 0) ([], 2)
def emailF (s : Tx) : Tx × Int := emailT (trimS (· == 32) s)
def seps : Tx := [32, 45, 46, 40, 41]
def bareF : Tx → Tx → Bool → Option (Tx × Bool)
  | [], d, p => some (d, p)
  | c :: r, d, p => cond (isD c) (bareF r (d ++ [c]) p) (cond (c == 43 && d.isEmpty && !p) (bareF r d true) (cond (seps.contains c) (bareF r d p) none))
/-- Of two letters: the code, and what stands ahead of a number there. -/
def ctry (w : Tx) : Option (Tx × Tx) :=
  cond (w == []) (some ([], [])) (cond (w == [71, 66]) (some ([52, 52], [48])) (cond (w == [85, 83]) (some ([49], [])) (cond (w == [68, 69]) (some ([52, 57], [48])) (cond (w == [70, 82]) (some ([51, 51], [48])) (cond (w == [67, 72]) (some ([52, 49], [48])) none)))))
def phoneN (w code trunk d : Tx) (p : Bool) : Tx := cond (!p && !(w == [])) (code ++ cond (trunk.isPrefixOf d) (d.drop trunk.length) d) d
def phoneE (n : Tx) : Tx × Int := cond (Nat.blt n.length 6 || Nat.blt 15 n.length || n.getD 0 0 == 48) ([], 2) (n, 0)
def phoneF (w s : Tx) : Tx × Int := match ctry w with
  | none => ([], 7)
  | some (code, trunk) => match bareF s [] false with
    | none => ([], 2)
    | some (d, p) => phoneE (phoneN w code trunk d p)
def lessF (a b c d : Tx) : Bool := cond (a == c) (Op.bytesLess b d) (Op.bytesLess a c)

def emailS : Tx := [101, 109, 97, 105, 108]
def msisdnS : Tx := [109, 115, 105, 115, 100, 110]
def mk1 (m : Tx) (p : Tx × Int) : Tx × Tx × Int := cond (decide (p.2 = 0)) (m, p.1, 0) ([], [], p.2)
def makeF (m w : Tx) : Tx × Tx × Int := cond (m == emailS) (mk1 m (emailF w)) (cond (m == msisdnS) (mk1 m (phoneF [] w)) ([], [], 1))
def rightF (m w : Tx) : Bool := decide ((makeF m w).2.2 = 0) && (m == (makeF m w).1) && (w == (makeF m w).2.1)
/-! ### Names -/
def inUser (c : UInt8) : Bool := isS c || isD c || ([46, 95, 61, 47, 43, 45] : Tx).contains c
def inRoom (c : UInt8) : Bool := isS c || isG c || isD c
def partsF (k : UInt8) (s : Tx) : Tx × Tx × Int :=
  cond (Nat.blt 0 s.length && Nat.ble s.length 255 && s.getD 0 0 == k && decide (0 ≤ idx 58 s) && serverb (s.drop ((idx 58 s).toNat + 1))) ((s.take (idx 58 s).toNat).drop 1, s.drop ((idx 58 s).toNat + 1), 1) ([], [], 0)
def nameb (k : UInt8) (inn : UInt8 → Bool) (most : Nat) (s : Tx) : Bool :=
  decide ((partsF k s).2.2 = 1) && Nat.blt 0 (partsF k s).1.length && Nat.ble (partsF k s).1.length most && (partsF k s).1.all inn
def userb (s : Tx) : Bool := nameb 64 inUser 200 s
def roomb (s : Tx) : Bool := nameb 33 inRoom 64 s
def splitF (s : Tx) : Tx × Tx × Int := cond (userb s || roomb s) ((s.take (idx 58 s).toNat).drop 1, s.drop ((idx 58 s).toNat + 1), 0) ([], [], 2)
/-! ### Bytes as letters -/
def al64 : Tx := [65, 66, 67, 68, 69, 70, 71, 72, 73, 74, 75, 76, 77, 78, 79, 80, 81, 82, 83, 84, 85, 86, 87, 88, 89, 90, 97, 98, 99, 100, 101, 102, 103, 104, 105, 106, 107, 108, 109, 110, 111, 112, 113, 114, 115, 116, 117, 118, 119, 120, 121, 122, 48, 49, 50, 51, 52, 53, 54, 55, 56, 57, 45, 95]
def vb (c : UInt8) : Int := idx (c.toNat : Int) al64
def lt64 (n : Nat) : UInt8 := al64.getD n 0
def penc : Tx → Tx
  | [] => []
  | [a] => [lt64 (a.toNat / 4), lt64 (a.toNat % 4 * 16)]
  | [a, b] => [lt64 (a.toNat / 4), lt64 (a.toNat % 4 * 16 + b.toNat / 16), lt64 (b.toNat % 16 * 4)]
  | a :: b :: c :: r => lt64 (a.toNat / 4) :: lt64 (a.toNat % 4 * 16 + b.toNat / 16) :: lt64 (b.toNat % 16 * 4 + c.toNat / 64) :: lt64 (c.toNat % 64) :: penc r
def dv (a b c d : Int) : Int := 262144 * a + (4096 * b + (64 * c + d))
def pdec : Tx → Tx → Option Tx
  | out, [] => some out
  | _, [_] => none
  | out, [a, b] => cond (decide (0 ≤ vb a) && decide (0 ≤ vb b) && decide (dv (vb a) (vb b) 0 0 % 65536 = 0)) (some (out ++ [u8 (dv (vb a) (vb b) 0 0 / 65536)])) none
  | out, [a, b, c] => cond (decide (0 ≤ vb a) && decide (0 ≤ vb b) && decide (0 ≤ vb c) && decide (dv (vb a) (vb b) (vb c) 0 % 256 = 0)) (some (out ++ [u8 (dv (vb a) (vb b) (vb c) 0 / 65536)] ++ [u8 (dv (vb a) (vb b) (vb c) 0 / 256 % 256)])) none
  | out, a :: b :: c :: d :: r => cond (decide (0 ≤ vb a) && decide (0 ≤ vb b) && decide (0 ≤ vb c) && decide (0 ≤ vb d)) (pdec (out ++ [u8 (dv (vb a) (vb b) (vb c) (vb d) / 65536)] ++ [u8 (dv (vb a) (vb b) (vb c) (vb d) / 256 % 256)] ++ [u8 (dv (vb a) (vb b) (vb c) (vb d) % 256)]) r) none
def bytesR (r : Int) : Tx := (rOf r).map fun row => UInt8.ofNat (row.getD 0 0).toNat
def eventb (s : Tx) : Bool := decide (s.length = 44) && s.getD 0 0 == 36 && (pdec [] (s.drop 1)).isSome
/-! ### Bonds -/
abbrev Bd := (Tx × Tx) × Tx × Int
def bd0 : Bd := (([], []), [], 0)
def whoOf (r : List Int) : Tx × Tx := (sOf (r.getD 0 0), sOf (r.getD 1 0))
def bdOf (r : List Int) : Bd := (whoOf r, sOf (r.getD 2 0), r.getD 3 0)
def bds (z : Int) : List Bd := (rOf z).map bdOf
def whos (z : Int) : List (Tx × Tx) := (rOf z).map whoOf
def bOk (b : Bd) : Bool := decide (0 ≤ b.2.2) && (decide (b.2.2 ≤ 1099511627776) && (rightF b.1.1 b.1.2 && userb b.2.1))
def lessA (a b : Tx × Tx) : Bool := lessF a.1 a.2 b.1 b.2
def cmpA (a b : Tx × Tx) : Int := cond (a == b) 0 (cond (lessA a b) (-1) 1)
def sortedB : List Bd → Bool
  | [] => true
  | [_] => true
  | a :: b :: r => lessA a.1 b.1 && sortedB (b :: r)
def rightL (l : List Bd) : Bool := Nat.ble l.length 64 && l.all bOk && sortedB l
def findL (l : List Bd) (w : Tx × Tx) : Option Bd := cond (rightL l) (l.find? (fun b => b.1 == w)) none
def ofL (l : List Bd) (x : Tx) : List (Tx × Tx) := cond (rightL l) ((l.filter (·.2.1 == x)).map (·.1)) []
def bindF (l : List Bd) (w : Bd) : List Bd × Int := cond (bOk w && rightL l) (cond (l.any (·.1 == w.1)) (l.map (fun b => cond (b.1 == w.1) w b), 0) (cond (decide (l.length = 64)) (l, 10) (l.filter (fun b => lessA b.1 w.1) ++ w :: l.filter (fun b => lessA w.1 b.1), 0))) (l, 1)
def unbindF (l : List Bd) (w : Bd) : List Bd × Int := cond (rightL l) (match l.find? (·.1 == w.1) with | none => (l, 7) | some b => cond (b.2.1 == w.2.1) (l.filter (fun b => !(b.1 == w.1)), 0) (l, 14)) (l, 1)
/-- Where an address lies, or would. -/
def PlaceS (l : List Bd) (w : Tx × Tx) (i f : Int) : Prop := (0 ≤ i ∧ i ≤ l.length) ∧ (f = 1 → i < l.length) ∧ (rightL l = true → (∀ j : Nat, (j : Int) < i → cmpA (l.getD j bd0).1 w < 0) ∧ (∀ j : Nat, i ≤ j → j < l.length → 0 ≤ cmpA (l.getD j bd0).1 w) ∧ (f = 1 ↔ i < l.length ∧ cmpA (l.getD i.toNat bd0).1 w = 0))
def SBd : Nat → List (List Int) → List (List Int) → Prop
  | 300, [r], [[z]] => z = b01 (bOk (bdOf r))
  | 301, [r, a], [[z]] => z = cmpA (whoOf r) (whoOf a)
  | 302, [[z], a], [[i], [f]] => PlaceS (bds z) (whoOf a) i f
  | 303, [[z]], [[r]] => r = b01 (rightL (bds z))
  | 304, [[z], a], [r, [f]] => match findL (bds z) (whoOf a) with
    | some b => bdOf r = b ∧ f = 1
    | none => bdOf r = bd0 ∧ f = 0
  | 305, [[z], [x]], [[y]] => whos y = ofL (bds z) (sOf x)
  | 306, [[c], [i], [r]], [[y]] => rOf y = (rOf c).take i.toNat ++ rOf r ++ (rOf c).drop i.toNat
  | 307, [[c], [i], [j]], [[y]] => rOf y = (rOf c).take i.toNat ++ (rOf c).drop j.toNat
  | 308, [[z], r], [[y], [e]] => (bds y, e) = bindF (bds z) (bdOf r)
  | 309, [[z], r], [[y], [e]] => (bds y, e) = unbindF (bds z) (bdOf r)
  | 310, [], [[r]] => r = 1
  | 311, [_, _], [[r]] => r = 1
  | 312, [_], [[r]] => r = 1
  | 320, [r], [[z]] => z = b01 (bOk (bdOf r))
  | 321, [[z]], [[r]] => r = b01 (rightL (bds z))
  | 322, [[z], a], [r, [f]] => match findL (bds z) (whoOf a) with
    | some b => bdOf r = b ∧ f = 1
    | none => bdOf r = bd0 ∧ f = 0
  | 323, [[z], a], [[y]] => bds y = (bds z).filter (fun b => !(b.1 == whoOf a))
  | 324, [[z], r], [[y], [e]] => (bds y, e) = bindF (bds z) (bdOf r)
  | 325, [[z], r], [[y], [e]] => (bds y, e) = unbindF (bds z) (bdOf r)
  | 326, [[z], [x]], [[y]] => whos y = ofL (bds z) (sOf x)
  | 327, [[a], [b]], [[r]] => r = b01 (decide (bds a = bds b))
  | 328, [[a], [b]], [[r]] => r = b01 (decide (whos a = whos b))
  | 329, [_, _, _], [[r]] => r = 1
  | _, _, _ => False
/-- What each function says. -/
def SB : Nat → List (List Int) → List (List Int) → Prop
  | 73, [[z], [b]], [[r]] => r = idx b (sOf z)
  | 36, [[z], [b]], [[r]] => sOf r = ltr (· == u8 b) (sOf z)
  | 37, [[z], [b]], [[r]] => sOf r = rtr (· == u8 b) (sOf z)
  | 120, [[z]], [[r]] => sOf r = trimS (· == 32) (sOf z)
  | 121, [[z]], [[r]] => sOf r = trimS (· == 46) (sOf z)
  | 122, [[z]], [[r]] => sOf r = trimS edgeH (sOf z)
  | 123, [[z]], [[r]] => sOf r = trimS inHost (sOf z)
  | 124, [[z]], [[r]] => sOf r = trimS isD (sOf z)
  | 125, [[z]], [[a], [b], [c]] => (sOf a, sOf b, c) = cutF 64 (sOf z)
  | 126, [[z]], [[a], [b], [c]] => (sOf a, sOf b, c) = cutF 58 (sOf z)
  | 127, [[z]], [[r]] => r = b01 ((sOf z).contains 46)
  | 128, [[z]], [[r]] => r = b01 (dd (sOf z))
  | 44, [[s], [b]], [[r]] => r = b01 ((sOf s).all fun c => (sOf b).contains c)
  | 65, [[s], [b]], [[r]] => r = b01 ((sOf s).all fun c => (sOf b).contains c)
  | 28, [[z]], [[r]] => sOf r = lower (sOf z)
  | 17, [[z]], [[r]] => sOf r = lower (sOf z)
  | 31, [[z], [c]], [[r]] => r = b01 ((sOf z).contains (u8 c))
  | 47, [[z]], [[r]] => r = b01 (hostb (sOf z))
  | 30, [[z]], [[r]] => r = b01 (hostb (sOf z))
  | 27, [[z]], [[r]] => r = b01 (serverb (sOf z))
  | 24, [[z]], [[r]] => r = b01 (localb (sOf z))
  | 29, [[z]], [[r]] => r = b01 (localb (sOf z))
  | 50, [[c]], [[r]] => r = b01 (isS (u8 c))
  | 51, [[c]], [[r]] => r = b01 (isG (u8 c))
  | 52, [[c]], [[r]] => r = b01 (isD (u8 c))
  | 10, [[z]], [[a], [e]] => (sOf a, e) = emailF (sOf z)
  | 11, [[z]], [[a], [e]] => (sOf a, e) = emailF (sOf z)
  | 35, [[w]], [[c], [t], [o]] => match ctry (sOf w) with
    | some (code, trunk) => sOf c = code ∧ t = b01 (!trunk.isEmpty) ∧ o = 1
    | none => sOf c = [] ∧ t = 0 ∧ o = 0
  | 32, [[w]], [[c, t], [o]] => match ctry (sOf w) with
    | some (code, trunk) => sOf c = code ∧ sOf t = trunk ∧ o = 1
    | none => o = 0 ∧ sOf c = [] ∧ sOf t = []
  | 33, [[s]], [[d], [p], [o]] => match bareF (sOf s) [] false with
    | some (d', p') => sOf d = d' ∧ p = b01 p' ∧ o = 1
    | none => sOf d = [] ∧ p = 0 ∧ o = 0
  | 34, [[s], [t]], [[r]] => sOf r = cond ((sOf t).isPrefixOf (sOf s)) ((sOf s).drop (sOf t).length) (sOf s)
  | 12, [[w], [s]], [[a], [e]] => (sOf a, e) = phoneF (sOf w) (sOf s)
  | 13, [[w], [s]], [[a], [e]] => (sOf a, e) = phoneF (sOf w) (sOf s)
  | 14, [[a, b], [c, d]], [[r]] => r = b01 (lessF (sOf a) (sOf b) (sOf c) (sOf d))
  | 21, [[a, b], [c, d]], [[r]] => r = b01 (lessF (sOf a) (sOf b) (sOf c) (sOf d))
  | 15, [[m], [w]], [[a, b], [e]] => (sOf a, sOf b, e) = makeF (sOf m) (sOf w)
  | 18, [[m], [w]], [[a, b], [e]] => (sOf a, sOf b, e) = makeF (sOf m) (sOf w)
  | 16, [[m, w]], [[r]] => r = b01 (rightF (sOf m) (sOf w))
  | 19, [[m, w]], [[r]] => r = b01 (rightF (sOf m) (sOf w))
  | 20, [[m, w]], [[r]] => sOf r = sOf m ++ [32] ++ sOf w
  | 202, [[z]], [[r]] => sOf r = trimS inUser (sOf z)
  | 203, [[z]], [[r]] => sOf r = trimS inRoom (sOf z)
  | 200, [[z]], [[r]] => r = b01 (userb (sOf z))
  | 207, [[z]], [[r]] => r = b01 (userb (sOf z))
  | 201, [[z]], [[r]] => r = b01 (roomb (sOf z))
  | 208, [[z]], [[r]] => r = b01 (roomb (sOf z))
  | 204, [[z]], [[r]] => r = idx 58 (sOf z)
  | 205, [[z]], [[r]] => r = b01 (serverb (sOf z))
  | 206, [[z], [k]], [[a], [b], [c]] => (sOf a, sOf b, c) = partsF (u8 k) (sOf z)
  | 211, [[z], [k]], [[a], [b], [c]] => (sOf a, sOf b, c) = partsF (u8 k) (sOf z)
  | 209, [[z]], [[a], [b], [e]] => (sOf a, sOf b, e) = splitF (sOf z)
  | 210, [[z]], [[a], [b], [e]] => (sOf a, sOf b, e) = splitF (sOf z)
  | 220, [[z]], [[r], [e]] => match pdec [] (sOf z) with
    | some l => bytesR r = l ∧ e = 0
    | none => bytesR r = [] ∧ e = 2
  | 221, [[z]], [[r], [e]] => match pdec [] (sOf z) with
    | some l => bytesR r = l ∧ e = 0
    | none => bytesR r = [] ∧ e = 2
  | 222, [[r]], [[z]] => sOf z = penc (bytesR r)
  | 225, [[r]], [[z]] => sOf z = penc (bytesR r)
  | 223, [[z]], [[r]] => r = b01 (eventb (sOf z))
  | 224, [[z]], [[r]] => r = b01 (eventb (sOf z))
  | 230, [[c]], [[r]] => r = idx c al64
  | 226, [], [[r]] => r = 1
  | 227, [_], [[r]] => r = 1
  | 228, [_], [[r]] => r = 1
  | 229, [_, _], [[r]] => r = 1
  | 9, [], [[r]] => r = 1
  | 3, [_], [[r]] => r = 1
  | 4, [_, _], [[r]] => r = 1
  | 5, [_], [[r]] => r = 1
  | 6, [_, _, _], [[r]] => r = 1
  | 7, [_, _], [[r]] => r = 1
  | 8, [_, _], [[r]] => r = 1
  | n, a, b => SBd n a b
/-! ### Texts -/
theorem u8_of (b : UInt8) : u8 (b.toNat : Int) = b := by simp [u8]
theorem u8_eq {b : UInt8} {z : Int} (h0 : 0 ≤ z) (h1 : z ≤ 255) : ((b.toNat : Int) = z) ↔ (b == u8 z) = true := by
  rw [beq_iff_eq, ← UInt8.toNat_inj]
  unfold u8
  simp
  omega
theorem idx_cases {c : Int} (h0 : 0 ≤ c) (h1 : c ≤ 255) : ∀ l : Tx, (idx c l = -1 ∧ u8 c ∉ l) ∨ (0 ≤ idx c l ∧ (idx c l).toNat < l.length ∧ l.getD (idx c l).toNat 0 = u8 c ∧ u8 c ∈ l ∧ ∀ j, j < (idx c l).toNat → l.getD j 0 ≠ u8 c)
  | [] => .inl ⟨rfl, by simp⟩
  | b :: r => by
    have hb := u8_eq (b := b) h0 h1
    have ih := idx_cases h0 h1 r
    by_cases he : (b.toNat : Int) = c
    · have hb' : b = u8 c := by simpa using hb.1 he
      right
      have : idx c (b :: r) = 0 := by simp [idx, he]
      rw [this]
      refine ⟨Int.le_refl _, by simp, by simp [hb'], by simp [hb'], fun j hj => by simp at hj⟩
    · have hb' : ¬ b = u8 c := fun e => he (hb.2 (by simpa using e))
      rcases ih with ⟨h2, h3⟩ | ⟨h2, h3, h4, h5, h6⟩
      · left
        exact ⟨by simp [idx, he, h2], by simp [h3]; exact fun e => hb' e.symm⟩
      · right
        have e : idx c (b :: r) = idx c r + 1 := by
          show (if (b.toNat : Int) = c then 0 else if idx c r < 0 then -1 else idx c r + 1) = _
          rw [if_neg he, if_neg (by omega)]
        have et : (idx c (b :: r)).toNat = (idx c r).toNat + 1 := by omega
        rw [et]
        refine ⟨by omega, by simp; omega, by simpa using h4, by simp [h5], fun j hj => ?_⟩
        cases j with
        | zero => simpa using hb'
        | succ j => simpa using h6 j (by omega)
theorem idx_mem {c : Int} (h0 : 0 ≤ c) (h1 : c ≤ 255) (l : Tx) : decide (0 ≤ idx c l) = l.contains (u8 c) := by
  rcases idx_cases h0 h1 l with ⟨h2, h3⟩ | ⟨h2, _, _, h3, _⟩
  · rw [h2]; simp [h3]
  · simp [h2, h3]
theorem b01_bd (b : Bool) : 0 ≤ b01 b ∧ b01 b ≤ 1 := by cases b <;> decide
theorem b01_one (b : Bool) : decide (b01 b = 1) = b := by cases b <;> rfl
theorem u8_toNat {z : Int} (h0 : 0 ≤ z) (h1 : z ≤ 255) : ((u8 z).toNat : Int) = z := by unfold u8; simp; omega
theorem take_succ_getD (l : Tx) (i : Nat) (h : i < l.length) : l.take (i + 1) = l.take i ++ [l.getD i 0] := by
  rw [List.take_add_one]; simp [List.getD, h]
theorem drop_cons_getD (l : Tx) (i : Nat) (h : i < l.length) : l.drop i = l.getD i 0 :: l.drop (i + 1) := by
  rw [List.drop_eq_getElem_cons h]; simp [List.getD, h]
theorem len_lt {z : Int} (h : z ≤ HB) : ((sOf z).length : Int) ≤ 9223372036854775807 := by
  have := HB_s h; unfold mxL at this; omega
theorem rtr_snoc (p : UInt8 → Bool) (l : Tx) (x : UInt8) : rtr p (l ++ [x]) = cond (p x) (rtr p l) (l ++ [x]) := by
  unfold rtr
  simp only [List.reverse_append, List.reverse_cons, List.reverse_nil, List.nil_append, List.singleton_append, List.dropWhile_cons]
  cases p x <;> simp
end Go.Ad

set_option maxRecDepth 100000
set_option linter.unusedVariables false
set_option linter.unusedSimpArgs false
namespace Go.Ad
open Go Go.Rx
def B_tlb (S : Nat → List (List Int) → List (List Int) → Prop) (K : List (List Int) → List (List Int) → Prop) : Prop :=
 ∀ z0 : Int, 0 ≤ z0 → z0 ≤ HB → ∀ z1 : Int, 0 ≤ z1 → z1 ≤ 255 → 
 ∃ (I2 : List (List Int) → Prop) (μ2 : List (List Int) → Nat), I2 [[z0]] ∧ (∀ z3 : Int, 0 ≤ z3 → z3 ≤ HB → I2 [[z3]] →
  ∀ z4 : Int, 0 ≤ z4 → z4 ≤ 9223372036854775807 → z4 = fnD 0 [z3] →
  (((decide (0 < z4)) = true →
   chkD 1 [z3, 0] ∧
   ∀ z5 : Int, 0 ≤ z5 → z5 ≤ 255 → z5 = fnD 1 [z3, 0] →
   (((decide (z5 = z1)) = true →
    ∀ z6 : Int, 0 ≤ z6 → z6 ≤ 9223372036854775807 → z6 = fnD 0 [z3] →
    chkD 2 [z3, 1, z6] ∧
    ∀ z7 : Int, 0 ≤ z7 → z7 ≤ HB → z7 = fnD 2 [z3, 1, z6] →
    (I2 [[z7]] ∧ μ2 [[z7]] < μ2 [[z3]])
   ) ∧ ((decide (z5 = z1)) = false →
    K [[z0], [z1]] [[z3]]
   ))
  ) ∧ ((decide (0 < z4)) = false →
   K [[z0], [z1]] [[z3]]
  ))
 )
def B_trb (S : Nat → List (List Int) → List (List Int) → Prop) (K : List (List Int) → List (List Int) → Prop) : Prop :=
 ∀ z0 : Int, 0 ≤ z0 → z0 ≤ HB → ∀ z1 : Int, 0 ≤ z1 → z1 ≤ 255 → 
 ∃ (I2 : List (List Int) → Prop) (μ2 : List (List Int) → Nat), I2 [[z0]] ∧ (∀ z3 : Int, 0 ≤ z3 → z3 ≤ HB → I2 [[z3]] →
  ∀ z4 : Int, 0 ≤ z4 → z4 ≤ 9223372036854775807 → z4 = fnD 0 [z3] →
  (((decide (0 < z4)) = true →
   ∀ z5 : Int, 0 ≤ z5 → z5 ≤ 9223372036854775807 → z5 = fnD 0 [z3] →
   chkD 1 [z3, (z5 + (-1))] ∧
   ∀ z6 : Int, 0 ≤ z6 → z6 ≤ 255 → z6 = fnD 1 [z3, (z5 + (-1))] →
   (((decide (z6 = z1)) = true →
    ∀ z7 : Int, 0 ≤ z7 → z7 ≤ 9223372036854775807 → z7 = fnD 0 [z3] →
    chkD 2 [z3, 0, (z7 + (-1))] ∧
    ∀ z8 : Int, 0 ≤ z8 → z8 ≤ HB → z8 = fnD 2 [z3, 0, (z7 + (-1))] →
    (I2 [[z8]] ∧ μ2 [[z8]] < μ2 [[z3]])
   ) ∧ ((decide (z6 = z1)) = false →
    K [[z0], [z1]] [[z3]]
   ))
  ) ∧ ((decide (0 < z4)) = false →
   K [[z0], [z1]] [[z3]]
  ))
 )
def B_tsp (S : Nat → List (List Int) → List (List Int) → Prop) (K : List (List Int) → List (List Int) → Prop) : Prop :=
 ∀ z0 : Int, 0 ≤ z0 → z0 ≤ HB → 
 ∀ z1 : Int, 0 ≤ z1 → z1 ≤ 1 → z1 = fnD 4 [z0, 0] →
 (((decide (z1 = 1)) = true →
  K [[z0]] [[z0]]
 ) ∧ ((decide (z1 = 1)) = false →
  ∀ z2 : Int, 0 ≤ z2 → z2 ≤ HB → S 37 [[z0], [32]] [[z2]] →
  ∀ z3 : Int, 0 ≤ z3 → z3 ≤ HB → S 36 [[z2], [32]] [[z3]] →
  K [[z0]] [[z3]]
 ))
def B_tdot (S : Nat → List (List Int) → List (List Int) → Prop) (K : List (List Int) → List (List Int) → Prop) : Prop :=
 ∀ z0 : Int, 0 ≤ z0 → z0 ≤ HB → 
 ∀ z1 : Int, 0 ≤ z1 → z1 ≤ 1 → z1 = fnD 4 [z0, 0] →
 (((decide (z1 = 1)) = true →
  K [[z0]] [[z0]]
 ) ∧ ((decide (z1 = 1)) = false →
  ∀ z2 : Int, 0 ≤ z2 → z2 ≤ HB → S 37 [[z0], [46]] [[z2]] →
  ∀ z3 : Int, 0 ≤ z3 → z3 ≤ HB → S 36 [[z2], [46]] [[z3]] →
  K [[z0]] [[z3]]
 ))
def B_cdot (S : Nat → List (List Int) → List (List Int) → Prop) (K : List (List Int) → List (List Int) → Prop) : Prop :=
 ∀ z0 : Int, 0 ≤ z0 → z0 ≤ HB → 
 ∀ z1 : Int, 0 ≤ z1 → z1 ≤ 1 → z1 = fnD 4 [47, z0] →
 (((decide (z1 = 1)) = true →
  K [[z0]] [[(cond (true) 1 0)]]
 ) ∧ ((decide (z1 = 1)) = false →
  ∀ z2 : Int, (-1) ≤ z2 → z2 ≤ 9223372036854775807 → S 73 [[z0], [46]] [[z2]] →
  K [[z0]] [[(cond (decide (0 ≤ z2)) 1 0)]]
 ))
theorem p_tlb : B_tlb SB (KBv SB [.str] 36) := by
  intro z0 a0 a1 z1 b0 b1
  refine ⟨fun bl => ∃ z, bl = [[z]] ∧ ltr (· == u8 z1) (sOf z) = ltr (· == u8 z1) (sOf z0), fun bl => (sOf ((bl.getD 0 []).getD 0 0)).length, ⟨z0, rfl, rfl⟩, ?_⟩
  rintro z3 c0 c1 ⟨z, e, hz⟩
  obtain rfl : z3 = z := by simpa using e
  intro z4 d0 d1 hz4
  simp only [fnD] at hz4
  cases hl : sOf z3 with
  | nil =>
    rw [hl] at hz4 hz
    simp only [List.length_nil] at hz4
    subst hz4
    refine ⟨fun hp => by simp at hp, fun _ => ⟨⟨c0, c1, trivial⟩, ?_⟩⟩
    show sOf z3 = _
    rw [hl, ← hz]
    rfl
  | cons x r =>
    rw [hl] at hz4 hz
    simp only [List.length_cons] at hz4
    refine ⟨fun _ => ⟨⟨Int.le_refl _, by rw [hl]; simp only [List.length_cons]; omega⟩, ?_⟩, fun hp => by simp at hp; omega⟩
    intro z5 e0 e1 hz5
    simp only [fnD, hl, Int.toNat_zero, List.getD_cons_zero] at hz5
    have hx := u8_eq (b := x) b0 b1
    rw [← hz5] at hx
    refine ⟨fun he => ?_, fun he => ⟨⟨c0, c1, trivial⟩, ?_⟩⟩
    · have he' := hx.1 (by simpa using he)
      intro z6 f0 f1 hz6
      simp only [fnD, hl, List.length_cons] at hz6
      refine ⟨⟨by omega, by omega, by rw [hl]; simp only [List.length_cons]; omega⟩, ?_⟩
      intro z7 g0 g1 hz7
      have hr : sOf z7 = r := by
        rw [hz7]; simp only [fnD, sOf_cOf, hl]
        rw [show (1 : Int).toNat = 1 from rfl, List.drop_one, List.tail_cons]
        exact List.take_of_length_le (by omega)
      refine ⟨⟨z7, rfl, ?_⟩, ?_⟩
      · rw [hr, ← hz]; simp only [ltr, List.dropWhile_cons, he', if_true]
      · show (sOf z7).length < (sOf z3).length
        rw [hr, hl]; simp
    · show sOf z3 = _
      have he' : ¬ (x == u8 z1) = true := fun h => by have := hx.2 h; simp [this] at he
      rw [hl, ← hz]; simp only [ltr, List.dropWhile_cons, he', if_false]; rfl
theorem snoc_of {l : Tx} (h : l ≠ []) : ∃ r x, l = r ++ [x] := ⟨_, _, (List.dropLast_concat_getLast h).symm⟩
theorem p_trb : B_trb SB (KBv SB [.str] 37) := by
  intro z0 a0 a1 z1 b0 b1
  refine ⟨fun bl => ∃ z, bl = [[z]] ∧ rtr (· == u8 z1) (sOf z) = rtr (· == u8 z1) (sOf z0), fun bl => (sOf ((bl.getD 0 []).getD 0 0)).length, ⟨z0, rfl, rfl⟩, ?_⟩
  rintro z3 c0 c1 ⟨z, e, hz⟩
  obtain rfl : z3 = z := by simpa using e
  intro z4 d0 d1 hz4
  simp only [fnD] at hz4
  by_cases hl : sOf z3 = []
  · rw [hl] at hz4 hz
    simp only [List.length_nil] at hz4
    subst hz4
    refine ⟨fun hp => by simp at hp, fun _ => ⟨⟨c0, c1, trivial⟩, ?_⟩⟩
    show sOf z3 = _
    rw [hl, ← hz]
    rfl
  · obtain ⟨r, x, hl⟩ := snoc_of hl
    rw [hl] at hz4 hz
    simp only [List.length_append, List.length_cons, List.length_nil] at hz4
    refine ⟨fun _ => ?_, fun hp => by simp at hp; omega⟩
    intro z5 e0 e1 hz5
    simp only [fnD, hl, List.length_append, List.length_cons, List.length_nil] at hz5
    refine ⟨⟨by omega, by rw [hl]; simp only [List.length_append, List.length_cons, List.length_nil]; omega⟩, ?_⟩
    intro z6 f0 f1 hz6
    have ht : (z5 + -1).toNat = r.length := by omega
    simp only [fnD, hl, ht] at hz6
    have hx := u8_eq (b := x) b0 b1
    rw [show ((r ++ [x]).getD r.length 0) = x by simp [List.getD]] at hz6
    rw [← hz6] at hx
    refine ⟨fun he => ?_, fun he => ⟨⟨c0, c1, trivial⟩, ?_⟩⟩
    · have he' := hx.1 (by simpa using he)
      intro z7 f0 f1 hz7
      simp only [fnD, hl, List.length_append, List.length_cons, List.length_nil] at hz7
      have ht7 : (z7 + -1).toNat = r.length := by omega
      refine ⟨⟨by omega, by omega, by rw [hl]; simp only [List.length_append, List.length_cons, List.length_nil]; omega⟩, ?_⟩
      intro z8 g0 g1 hz8
      have hr : sOf z8 = r := by
        rw [hz8]; simp only [fnD, sOf_cOf, hl, ht7]
        simp
      refine ⟨⟨z8, rfl, ?_⟩, ?_⟩
      · rw [hr, ← hz, rtr_snoc, he', cond_true]
      · show (sOf z8).length < (sOf z3).length
        rw [hr, hl]; simp
    · show sOf z3 = _
      have he' : (x == u8 z1) = false := by
        cases h : (x == u8 z1) with
        | false => rfl
        | true => have := hx.2 h; simp [this] at he
      rw [hl, ← hz, rtr_snoc, he', cond_false]
theorem sOf_zero : sOf 0 = [] := rfl
theorem eq_nil {z z1 : Int} (h : z1 = fnD 4 [z, 0]) : decide (z1 = 1) = (sOf z == []) := by
  rw [h]; simp only [fnD, sOf_zero]
  cases hz : sOf z with
  | nil => rfl
  | cons x r => simp
theorem p_trim1 {c : Int} {p : UInt8 → Bool} (hc : p = (· == u8 c)) {id : Nat} (hid : ∀ z r, SB id [[z]] [[r]] = (sOf r = trimS p (sOf z))) :
    (∀ z0 : Int, 0 ≤ z0 → z0 ≤ HB → 
 ∀ z1 : Int, 0 ≤ z1 → z1 ≤ 1 → z1 = fnD 4 [z0, 0] →
 (((decide (z1 = 1)) = true →
  KBv SB [.str] id [[z0]] [[z0]]
 ) ∧ ((decide (z1 = 1)) = false →
  ∀ z2 : Int, 0 ≤ z2 → z2 ≤ HB → SB 37 [[z0], [c]] [[z2]] →
  ∀ z3 : Int, 0 ≤ z3 → z3 ≤ HB → SB 36 [[z2], [c]] [[z3]] →
  KBv SB [.str] id [[z0]] [[z3]]
 ))) := by
  intro z0 a0 a1 z1 b0 b1 hz1
  rw [eq_nil hz1]
  refine ⟨fun h => ⟨⟨a0, a1, trivial⟩, ?_⟩, fun h z2 c0 c1 h2 z3 d0 d1 h3 => ⟨⟨d0, d1, trivial⟩, ?_⟩⟩
  · rw [hid]
    have : sOf z0 = [] := by simpa using h
    rw [this]; rfl
  · rw [hid]
    have h2 : sOf z2 = rtr (· == u8 c) (sOf z0) := h2
    have h3 : sOf z3 = ltr (· == u8 c) (sOf z2) := h3
    rw [h3, h2, hc]; rfl
theorem p_tsp : B_tsp SB (KBv SB [.str] 120) := p_trim1 (c := 32) (p := (· == 32)) rfl fun _ _ => rfl
theorem p_tdot : B_tdot SB (KBv SB [.str] 121) := p_trim1 (c := 46) (p := (· == 46)) rfl fun _ _ => rfl
theorem p_cdot : B_cdot SB (KBv SB [.bool] 127) := by
  intro z0 a0 a1 z1 b0 b1 hz1
  simp only [fnD] at hz1
  refine ⟨fun h => ⟨⟨by decide, by decide, trivial⟩, ?_⟩, fun h z2 c0 c1 h2 => ⟨⟨(b01_bd _).1, (b01_bd _).2, trivial⟩, ?_⟩⟩
  · have : sOf z0 = [46] := by
      have e : sOf 47 = [46] := by decide
      rw [e] at hz1
      by_cases h' : [46] = sOf z0
      · exact h'.symm
      · rw [if_neg h'] at hz1; subst hz1; simp at h
    show (1 : Int) = b01 ((sOf z0).contains 46)
    rw [this]; rfl
  · have h2 : z2 = idx 46 (sOf z0) := h2
    show (cond (decide (0 ≤ z2)) 1 0 : Int) = b01 ((sOf z0).contains 46)
    rw [h2, idx_mem (by decide) (by decide)]; rfl

def B_cutat (S : Nat → List (List Int) → List (List Int) → Prop) (K : List (List Int) → List (List Int) → Prop) : Prop :=
 ∀ z0 : Int, 0 ≤ z0 → z0 ≤ HB → 
 ∀ z1 : Int, 0 ≤ z1 → z1 ≤ 1 → z1 = fnD 4 [65, z0] →
 (((decide (z1 = 1)) = true →
  chkD 2 [z0, 0, 0] ∧
  ∀ z2 : Int, 0 ≤ z2 → z2 ≤ HB → z2 = fnD 2 [z0, 0, 0] →
  ∀ z3 : Int, 0 ≤ z3 → z3 ≤ 9223372036854775807 → z3 = fnD 0 [z0] →
  chkD 2 [z0, 1, z3] ∧
  ∀ z4 : Int, 0 ≤ z4 → z4 ≤ HB → z4 = fnD 2 [z0, 1, z3] →
  K [[z0]] [[z2], [z4], [(cond (true) 1 0)]]
 ) ∧ ((decide (z1 = 1)) = false →
  ∀ z2 : Int, (-1) ≤ z2 → z2 ≤ 9223372036854775807 → S 73 [[z0], [64]] [[z2]] →
  (((decide (0 ≤ z2)) = true →
   chkD 2 [z0, 0, z2] ∧
   ∀ z3 : Int, 0 ≤ z3 → z3 ≤ HB → z3 = fnD 2 [z0, 0, z2] →
   ∀ z4 : Int, 0 ≤ z4 → z4 ≤ 1 → 0 ≤ (z2 + 9223372036854775809) - 18446744073709551616 * z4 → (z2 + 9223372036854775809) - 18446744073709551616 * z4 < 18446744073709551616 →
   ∀ z5 : Int, 0 ≤ z5 → z5 ≤ 9223372036854775807 → z5 = fnD 0 [z0] →
   chkD 2 [z0, ((z2 + ((-18446744073709551616) * z4)) + 1), z5] ∧
   ∀ z6 : Int, 0 ≤ z6 → z6 ≤ HB → z6 = fnD 2 [z0, ((z2 + ((-18446744073709551616) * z4)) + 1), z5] →
   K [[z0]] [[z3], [z6], [(cond (true) 1 0)]]
  ) ∧ ((decide (0 ≤ z2)) = false →
   K [[z0]] [[z0], [0], [(cond (false) 1 0)]]
  ))
 ))
def B_cutcol (S : Nat → List (List Int) → List (List Int) → Prop) (K : List (List Int) → List (List Int) → Prop) : Prop :=
 ∀ z0 : Int, 0 ≤ z0 → z0 ≤ HB → 
 ∀ z1 : Int, 0 ≤ z1 → z1 ≤ 1 → z1 = fnD 4 [59, z0] →
 (((decide (z1 = 1)) = true →
  chkD 2 [z0, 0, 0] ∧
  ∀ z2 : Int, 0 ≤ z2 → z2 ≤ HB → z2 = fnD 2 [z0, 0, 0] →
  ∀ z3 : Int, 0 ≤ z3 → z3 ≤ 9223372036854775807 → z3 = fnD 0 [z0] →
  chkD 2 [z0, 1, z3] ∧
  ∀ z4 : Int, 0 ≤ z4 → z4 ≤ HB → z4 = fnD 2 [z0, 1, z3] →
  K [[z0]] [[z2], [z4], [(cond (true) 1 0)]]
 ) ∧ ((decide (z1 = 1)) = false →
  ∀ z2 : Int, (-1) ≤ z2 → z2 ≤ 9223372036854775807 → S 73 [[z0], [58]] [[z2]] →
  (((decide (0 ≤ z2)) = true →
   chkD 2 [z0, 0, z2] ∧
   ∀ z3 : Int, 0 ≤ z3 → z3 ≤ HB → z3 = fnD 2 [z0, 0, z2] →
   ∀ z4 : Int, 0 ≤ z4 → z4 ≤ 1 → 0 ≤ (z2 + 9223372036854775809) - 18446744073709551616 * z4 → (z2 + 9223372036854775809) - 18446744073709551616 * z4 < 18446744073709551616 →
   ∀ z5 : Int, 0 ≤ z5 → z5 ≤ 9223372036854775807 → z5 = fnD 0 [z0] →
   chkD 2 [z0, ((z2 + ((-18446744073709551616) * z4)) + 1), z5] ∧
   ∀ z6 : Int, 0 ≤ z6 → z6 ≤ HB → z6 = fnD 2 [z0, ((z2 + ((-18446744073709551616) * z4)) + 1), z5] →
   K [[z0]] [[z3], [z6], [(cond (true) 1 0)]]
  ) ∧ ((decide (0 ≤ z2)) = false →
   K [[z0]] [[z0], [0], [(cond (false) 1 0)]]
  ))
 ))
def B_only (S : Nat → List (List Int) → List (List Int) → Prop) (K : List (List Int) → List (List Int) → Prop) : Prop :=
 ∀ z0 : Int, 0 ≤ z0 → z0 ≤ HB → ∀ z1 : Int, 0 ≤ z1 → z1 ≤ HB → 
 ∀ z2 : Int, 0 ≤ z2 → z2 ≤ 9223372036854775807 → z2 = fnD 0 [z0] →
 ∃ (I3 : List (List Int) → Prop) (μ3 : List (List Int) → Nat), I3 [[0]] ∧ (∀ z4 : Int, 0 ≤ z4 → z4 ≤ 9223372036854775807 → I3 [[z4]] →
  (((decide (z4 < z2)) = true →
   chkD 1 [z0, z4] ∧
   ∀ z5 : Int, 0 ≤ z5 → z5 ≤ 255 → z5 = fnD 1 [z0, z4] →
   ∀ z6 : Int, (-1) ≤ z6 → z6 ≤ 9223372036854775807 → S 73 [[z1], [z5]] [[z6]] →
   (((decide (z6 < 0)) = true →
    K [[z0], [z1]] [[(cond (false) 1 0)]]
   ) ∧ ((decide (z6 < 0)) = false →
    ∀ z7 : Int, 0 ≤ z7 → z7 ≤ 1 → 0 ≤ (z4 + 9223372036854775809) - 18446744073709551616 * z7 → (z4 + 9223372036854775809) - 18446744073709551616 * z7 < 18446744073709551616 →
    chkD 39 [((z4 + ((-18446744073709551616) * z7)) + 1), 0, 9223372036854775807] ∧
    (I3 [[((z4 + ((-18446744073709551616) * z7)) + 1)]] ∧ μ3 [[((z4 + ((-18446744073709551616) * z7)) + 1)]] < μ3 [[z4]])
   ))
  ) ∧ ((decide (z4 < z2)) = false →
   K [[z0], [z1]] [[(cond (true) 1 0)]]
  ))
 )
def B_ionly (S : Nat → List (List Int) → List (List Int) → Prop) (K : List (List Int) → List (List Int) → Prop) : Prop :=
 ∀ z0 : Int, 0 ≤ z0 → z0 ≤ HB → ∀ z1 : Int, 0 ≤ z1 → z1 ≤ HB → 
 ∀ z2 : Int, 0 ≤ z2 → z2 ≤ 9223372036854775807 → z2 = fnD 0 [z0] →
 ∃ (I3 : List (List Int) → Prop) (μ3 : List (List Int) → Nat), I3 [[0]] ∧ (∀ z4 : Int, 0 ≤ z4 → z4 ≤ 9223372036854775807 → I3 [[z4]] →
  (((decide (z4 < z2)) = true →
   chkD 1 [z0, z4] ∧
   ∀ z5 : Int, 0 ≤ z5 → z5 ≤ 255 → z5 = fnD 1 [z0, z4] →
   ∀ z6 : Int, (-1) ≤ z6 → z6 ≤ 9223372036854775807 → S 73 [[z1], [z5]] [[z6]] →
   (((decide (z6 < 0)) = true →
    K [[z0], [z1]] [[(cond (false) 1 0)]]
   ) ∧ ((decide (z6 < 0)) = false →
    ∀ z7 : Int, 0 ≤ z7 → z7 ≤ 1 → 0 ≤ (z4 + 9223372036854775809) - 18446744073709551616 * z7 → (z4 + 9223372036854775809) - 18446744073709551616 * z7 < 18446744073709551616 →
    chkD 39 [((z4 + ((-18446744073709551616) * z7)) + 1), 0, 9223372036854775807] ∧
    (I3 [[((z4 + ((-18446744073709551616) * z7)) + 1)]] ∧ μ3 [[((z4 + ((-18446744073709551616) * z7)) + 1)]] < μ3 [[z4]])
   ))
  ) ∧ ((decide (z4 < z2)) = false →
   K [[z0], [z1]] [[(cond (true) 1 0)]]
  ))
 )
def B_rhas (S : Nat → List (List Int) → List (List Int) → Prop) (K : List (List Int) → List (List Int) → Prop) : Prop :=
 ∀ z0 : Int, 0 ≤ z0 → z0 ≤ HB → ∀ z1 : Int, 0 ≤ z1 → z1 ≤ 255 → 
 ∃ (I2 : List (List Int) → Prop) (μ2 : List (List Int) → Nat), I2 [[0]] ∧ (∀ z3 : Int, 0 ≤ z3 → z3 ≤ 9223372036854775807 → I2 [[z3]] →
  ∀ z4 : Int, 0 ≤ z4 → z4 ≤ 9223372036854775807 → z4 = fnD 0 [z0] →
  (((decide (z3 < z4)) = true →
   chkD 1 [z0, z3] ∧
   ∀ z5 : Int, 0 ≤ z5 → z5 ≤ 255 → z5 = fnD 1 [z0, z3] →
   (((decide (z5 = z1)) = true →
    K [[z0], [z1]] [[(cond (true) 1 0)]]
   ) ∧ ((decide (z5 = z1)) = false →
    ∀ z6 : Int, 0 ≤ z6 → z6 ≤ 1 → 0 ≤ (z3 + 9223372036854775809) - 18446744073709551616 * z6 → (z3 + 9223372036854775809) - 18446744073709551616 * z6 < 18446744073709551616 →
    chkD 39 [((z3 + ((-18446744073709551616) * z6)) + 1), 0, 9223372036854775807] ∧
    (I2 [[((z3 + ((-18446744073709551616) * z6)) + 1)]] ∧ μ2 [[((z3 + ((-18446744073709551616) * z6)) + 1)]] < μ2 [[z3]])
   ))
  ) ∧ ((decide (z3 < z4)) = false →
   K [[z0], [z1]] [[(cond (false) 1 0)]]
  ))
 )
theorem p_cut {c n : Int} (h0 : 0 ≤ c) (h1 : c ≤ 255) (hn : sOf n = [u8 c]) {id : Nat} (hid : ∀ z a b r, SB id [[z]] [[a], [b], [r]] = ((sOf a, sOf b, r) = cutF c (sOf z))) :
 (∀ z0 : Int, 0 ≤ z0 → z0 ≤ HB → 
 ∀ z1 : Int, 0 ≤ z1 → z1 ≤ 1 → z1 = fnD 4 [n, z0] →
 (((decide (z1 = 1)) = true →
  chkD 2 [z0, 0, 0] ∧
  ∀ z2 : Int, 0 ≤ z2 → z2 ≤ HB → z2 = fnD 2 [z0, 0, 0] →
  ∀ z3 : Int, 0 ≤ z3 → z3 ≤ 9223372036854775807 → z3 = fnD 0 [z0] →
  chkD 2 [z0, 1, z3] ∧
  ∀ z4 : Int, 0 ≤ z4 → z4 ≤ HB → z4 = fnD 2 [z0, 1, z3] →
  KBv SB [.str, .str, .bool] id [[z0]] [[z2], [z4], [(cond (true) 1 0)]]
 ) ∧ ((decide (z1 = 1)) = false →
  ∀ z2 : Int, (-1) ≤ z2 → z2 ≤ 9223372036854775807 → SB 73 [[z0], [c]] [[z2]] →
  (((decide (0 ≤ z2)) = true →
   chkD 2 [z0, 0, z2] ∧
   ∀ z3 : Int, 0 ≤ z3 → z3 ≤ HB → z3 = fnD 2 [z0, 0, z2] →
   ∀ z4 : Int, 0 ≤ z4 → z4 ≤ 1 → 0 ≤ (z2 + 9223372036854775809) - 18446744073709551616 * z4 → (z2 + 9223372036854775809) - 18446744073709551616 * z4 < 18446744073709551616 →
   ∀ z5 : Int, 0 ≤ z5 → z5 ≤ 9223372036854775807 → z5 = fnD 0 [z0] →
   chkD 2 [z0, ((z2 + ((-18446744073709551616) * z4)) + 1), z5] ∧
   ∀ z6 : Int, 0 ≤ z6 → z6 ≤ HB → z6 = fnD 2 [z0, ((z2 + ((-18446744073709551616) * z4)) + 1), z5] →
   KBv SB [.str, .str, .bool] id [[z0]] [[z3], [z6], [(cond (true) 1 0)]]
  ) ∧ ((decide (0 ≤ z2)) = false →
   KBv SB [.str, .str, .bool] id [[z0]] [[z0], [0], [(cond (false) 1 0)]]
  ))
 ))) := by
  intro z0 a0 a1 z1 b0 b1 hz1
  simp only [fnD, hn] at hz1
  refine ⟨fun h => ?_, fun h z2 c0 c1 h2 => ?_⟩
  · have hs : sOf z0 = [u8 c] := by
      by_cases h' : [u8 c] = sOf z0
      · exact h'.symm
      · rw [if_neg h'] at hz1; subst hz1; simp at h
    refine ⟨⟨by omega, by omega, by omega⟩, fun z2 c0 c1 h2 z3 d0 d1 h3 => ?_⟩
    simp only [fnD, hs, List.length_singleton] at h3
    refine ⟨⟨by omega, by omega, by rw [hs]; simp only [List.length_singleton]; omega⟩, fun z4 e0 e1 h4 => ⟨⟨c0, c1, e0, e1, by decide, by decide, trivial⟩, ?_⟩⟩
    rw [hid]
    have e2 : sOf z2 = [] := by rw [h2]; simp [fnD, sOf_cOf]
    have e4 : sOf z4 = [] := by rw [h4]; simp [fnD, sOf_cOf, hs]
    have ei : idx c [u8 c] = 0 := by simp [idx, u8_toNat h0 h1]
    rw [e2, e4, hs]
    simp [cutF, ei]
  · have h2 : z2 = idx c (sOf z0) := h2
    refine ⟨fun hp => ?_, fun hp => ⟨⟨a0, a1, Int.le_refl _, HB_pos, by decide, by decide, trivial⟩, ?_⟩⟩
    · have hp : 0 ≤ z2 := by simpa using hp
      have hr := idx_range c (sOf z0)
      have hL := len_lt a1
      refine ⟨⟨by omega, by omega, by omega⟩, fun z3 d0 d1 h3 z4 e0 e1 e2 e3 z5 f0 f1 h5 => ?_⟩
      simp only [fnD] at h5
      have ez : z2 + -18446744073709551616 * z4 + 1 = z2 + 1 := by omega
      rw [ez]
      refine ⟨⟨by omega, by omega, by omega⟩, fun z6 g0 g1 h6 => ⟨⟨d0, d1, g0, g1, by decide, by decide, trivial⟩, ?_⟩⟩
      rw [hid]
      have e3 : sOf z3 = (sOf z0).take z2.toNat := by rw [h3]; simp [fnD, sOf_cOf]
      have e6 : sOf z6 = (sOf z0).drop (z2.toNat + 1) := by
        rw [h6]; simp only [fnD, sOf_cOf]
        rw [show (z2 + 1).toNat = z2.toNat + 1 by omega]
        exact List.take_of_length_le (by simp; omega)
      rw [e3, e6]
      unfold cutF
      rw [← h2, show decide (0 ≤ z2) = true by simpa using hp]
      rfl
    · rw [hid]
      unfold cutF
      rw [← h2, hp]
      rfl
theorem p_cutat : B_cutat SB (KBv SB [.str, .str, .bool] 125) := p_cut (c := 64) (n := 65) (by decide) (by decide) (by decide) fun _ _ _ _ => rfl
theorem p_cutcol : B_cutcol SB (KBv SB [.str, .str, .bool] 126) := p_cut (c := 58) (n := 59) (by decide) (by decide) (by decide) fun _ _ _ _ => rfl
theorem all_take (p : UInt8 → Bool) (l : Tx) (i : Nat) (h : i < l.length) : (l.take (i + 1)).all p = ((l.take i).all p && p (l.getD i 0)) := by
  rw [take_succ_getD l i h]; simp
theorem all_false_of (p : UInt8 → Bool) (l : Tx) (i : Nat) (h : i < l.length) (hp : p (l.getD i 0) = false) : l.all p = false := by
  rw [List.all_eq_false]
  refine ⟨l.getD i 0, ?_, fun e => by rw [hp] at e; cases e⟩
  simp [List.getD, h]
theorem wrap1 {z q L : Int} (h : z < L) (hL : L ≤ 9223372036854775807) (h0 : 0 ≤ z) (q0 : 0 ≤ q) (e2 : 0 ≤ (z + 9223372036854775809) - 18446744073709551616 * q) : z + -18446744073709551616 * q + 1 = z + 1 := by omega
theorem p_only' {id : Nat} (hid : ∀ s b r, SB id [[s], [b]] [[r]] = (r = b01 ((sOf s).all fun c => (sOf b).contains c))) :
 (∀ z0 : Int, 0 ≤ z0 → z0 ≤ HB → ∀ z1 : Int, 0 ≤ z1 → z1 ≤ HB → 
 ∀ z2 : Int, 0 ≤ z2 → z2 ≤ 9223372036854775807 → z2 = fnD 0 [z0] →
 ∃ (I3 : List (List Int) → Prop) (μ3 : List (List Int) → Nat), I3 [[0]] ∧ (∀ z4 : Int, 0 ≤ z4 → z4 ≤ 9223372036854775807 → I3 [[z4]] →
  (((decide (z4 < z2)) = true →
   chkD 1 [z0, z4] ∧
   ∀ z5 : Int, 0 ≤ z5 → z5 ≤ 255 → z5 = fnD 1 [z0, z4] →
   ∀ z6 : Int, (-1) ≤ z6 → z6 ≤ 9223372036854775807 → SB 73 [[z1], [z5]] [[z6]] →
   (((decide (z6 < 0)) = true →
    KBv SB [.bool] id [[z0], [z1]] [[(cond (false) 1 0)]]
   ) ∧ ((decide (z6 < 0)) = false →
    ∀ z7 : Int, 0 ≤ z7 → z7 ≤ 1 → 0 ≤ (z4 + 9223372036854775809) - 18446744073709551616 * z7 → (z4 + 9223372036854775809) - 18446744073709551616 * z7 < 18446744073709551616 →
    chkD 39 [((z4 + ((-18446744073709551616) * z7)) + 1), 0, 9223372036854775807] ∧
    (I3 [[((z4 + ((-18446744073709551616) * z7)) + 1)]] ∧ μ3 [[((z4 + ((-18446744073709551616) * z7)) + 1)]] < μ3 [[z4]])
   ))
  ) ∧ ((decide (z4 < z2)) = false →
   KBv SB [.bool] id [[z0], [z1]] [[(cond (true) 1 0)]]
  ))
 )) := by
  intro z0 a0 a1 z1 b0 b1 z2 c0 c1 h2
  simp only [fnD] at h2
  refine ⟨fun bl => ∃ i : Nat, bl = [[(i : Int)]] ∧ i ≤ (sOf z0).length ∧ ((sOf z0).take i).all (fun c => (sOf z1).contains c) = true, fun bl => (sOf z0).length - ((bl.getD 0 []).getD 0 0).toNat, ⟨0, rfl, Nat.zero_le _, rfl⟩, ?_⟩
  rintro z4 d0 d1 ⟨i, e, hi, hall⟩
  obtain rfl : z4 = i := by simpa using e
  refine ⟨fun hp => ?_, fun hp => ⟨⟨by decide, by decide, trivial⟩, ?_⟩⟩
  · have hp : (i : Int) < z2 := by simpa using hp
    refine ⟨⟨d0, by omega⟩, fun z5 e0 e1 h5 z6 f0 f1 h6 => ?_⟩
    have h6 : z6 = idx z5 (sOf z1) := h6
    simp only [fnD, Int.toNat_natCast] at h5
    have hu : u8 z5 = (sOf z0).getD i 0 := by rw [h5, u8_of]
    have hm := idx_mem e0 e1 (sOf z1)
    rw [hu, ← h6] at hm
    refine ⟨fun hq => ⟨⟨by decide, by decide, trivial⟩, ?_⟩, fun hq z7 g0 g1 g2 g3 => ?_⟩
    · rw [hid, all_false_of _ _ i (by omega) (by rw [← hm]; simpa using hq)]; rfl
    · have hq : 0 ≤ z6 := by simpa using hq
      rw [wrap1 (L := z2) hp c1 d0 g0 g2]
      refine ⟨⟨by omega, by omega⟩, ⟨i + 1, by simp, by omega, ?_⟩, ?_⟩
      · rw [all_take _ _ _ (by omega), hall, ← hm]; simpa using hq
      · show (sOf z0).length - ((i : Int) + 1).toNat < (sOf z0).length - (i : Int).toNat
        omega
  · have hp : ¬ (i : Int) < z2 := by simpa using hp
    rw [List.take_of_length_le (by omega)] at hall
    rw [hid, hall]; rfl
theorem p_only : B_only SB (KBv SB [.bool] 44) := p_only' fun _ _ _ => rfl
theorem p_ionly : B_ionly SB (KBv SB [.bool] 65) := p_only' fun _ _ _ => rfl
theorem contains_take (l : Tx) (c : UInt8) (i : Nat) (h : i < l.length) : (l.take (i + 1)).contains c = ((l.take i).contains c || l.getD i 0 == c) := by
  rw [take_succ_getD l i h, Bool.eq_iff_iff]; simp; exact or_congr Iff.rfl ⟨fun h => h.symm, fun h => h.symm⟩
theorem p_rhas : B_rhas SB (KBv SB [.bool] 31) := by
  intro z0 a0 a1 z1 b0 b1
  refine ⟨fun bl => ∃ i : Nat, bl = [[(i : Int)]] ∧ i ≤ (sOf z0).length ∧ ((sOf z0).take i).contains (u8 z1) = false, fun bl => (sOf z0).length - ((bl.getD 0 []).getD 0 0).toNat, ⟨0, rfl, Nat.zero_le _, rfl⟩, ?_⟩
  rintro z4 d0 d1 ⟨i, e, hi, hall⟩
  obtain rfl : z4 = i := by simpa using e
  intro z2 c0 c1 h2
  simp only [fnD] at h2
  refine ⟨fun hp => ?_, fun hp => ⟨⟨by decide, by decide, trivial⟩, ?_⟩⟩
  · have hp : (i : Int) < z2 := by simpa using hp
    refine ⟨⟨d0, by omega⟩, fun z5 e0 e1 h5 => ?_⟩
    simp only [fnD, Int.toNat_natCast] at h5
    have hu := u8_eq (b := (sOf z0).getD i 0) b0 b1
    rw [← h5] at hu
    refine ⟨fun hq => ⟨⟨by decide, by decide, trivial⟩, ?_⟩, fun hq z7 g0 g1 g2 g3 => ?_⟩
    · have := hu.1 (by simpa using hq)
      show (1 : Int) = b01 ((sOf z0).contains (u8 z1))
      have hm : (sOf z0).contains (u8 z1) = true := by
        rw [← beq_iff_eq.1 this]; simp [List.getD, show i < (sOf z0).length by omega]
      rw [hm]; rfl
    · rw [wrap1 (L := z2) hp c1 d0 g0 g2]
      refine ⟨⟨by omega, by omega⟩, ⟨i + 1, by simp, by omega, ?_⟩, ?_⟩
      · rw [contains_take _ _ _ (by omega), hall, Bool.false_or]
        cases h : ((sOf z0).getD i 0 == u8 z1) with
        | false => rfl
        | true => have := hu.2 h; simp [this] at hq
      · show (sOf z0).length - ((i : Int) + 1).toNat < (sOf z0).length - (i : Int).toNat
        omega
  · have hp : ¬ (i : Int) < z2 := by simpa using hp
    rw [List.take_of_length_le (by omega)] at hall
    show (0 : Int) = b01 ((sOf z0).contains (u8 z1))
    rw [hall]; rfl

def B_tdm (S : Nat → List (List Int) → List (List Int) → Prop) (K : List (List Int) → List (List Int) → Prop) : Prop :=
 ∀ z0 : Int, 0 ≤ z0 → z0 ≤ HB → 
 ∀ z1 : Int, 0 ≤ z1 → z1 ≤ 1 → z1 = fnD 4 [z0, 0] →
 (((decide (z1 = 1)) = true →
  K [[z0]] [[z0]]
 ) ∧ ((decide (z1 = 1)) = false →
  ∃ (I2 : List (List Int) → Prop) (μ2 : List (List Int) → Nat), I2 [[z0]] ∧ (∀ z3 : Int, 0 ≤ z3 → z3 ≤ HB → I2 [[z3]] →
   ∀ z4 : Int, 0 ≤ z4 → z4 ≤ 9223372036854775807 → z4 = fnD 0 [z3] →
   (((decide (0 < z4)) = true →
    ∀ z5 : Int, 0 ≤ z5 → z5 ≤ 9223372036854775807 → z5 = fnD 0 [z3] →
    chkD 1 [z3, (z5 + (-1))] ∧
    ∀ z6 : Int, 0 ≤ z6 → z6 ≤ 255 → z6 = fnD 1 [z3, (z5 + (-1))] →
    ∀ z7 : Int, 0 ≤ z7 → z7 ≤ 1 → z7 = fnD 43 [12125, z6] →
    ((((!(decide (z7 = 1)))) = true →
     ∃ (I8 : List (List Int) → Prop) (μ8 : List (List Int) → Nat), I8 [[z3]] ∧ (∀ z9 : Int, 0 ≤ z9 → z9 ≤ HB → I8 [[z9]] →
      ∀ z10 : Int, 0 ≤ z10 → z10 ≤ 9223372036854775807 → z10 = fnD 0 [z9] →
      (((decide (0 < z10)) = true →
       chkD 1 [z9, 0] ∧
       ∀ z11 : Int, 0 ≤ z11 → z11 ≤ 255 → z11 = fnD 1 [z9, 0] →
       ∀ z12 : Int, 0 ≤ z12 → z12 ≤ 1 → z12 = fnD 43 [12125, z11] →
       ((((!(decide (z12 = 1)))) = true →
        K [[z0]] [[z9]]
       ) ∧ (((!(decide (z12 = 1)))) = false →
        ∀ z13 : Int, 0 ≤ z13 → z13 ≤ 9223372036854775807 → z13 = fnD 0 [z9] →
        chkD 2 [z9, 1, z13] ∧
        ∀ z14 : Int, 0 ≤ z14 → z14 ≤ HB → z14 = fnD 2 [z9, 1, z13] →
        (I8 [[z14]] ∧ μ8 [[z14]] < μ8 [[z9]])
       ))
      ) ∧ ((decide (0 < z10)) = false →
       K [[z0]] [[z9]]
      ))
     )
    ) ∧ (((!(decide (z7 = 1)))) = false →
     ∀ z8 : Int, 0 ≤ z8 → z8 ≤ 9223372036854775807 → z8 = fnD 0 [z3] →
     chkD 2 [z3, 0, (z8 + (-1))] ∧
     ∀ z9 : Int, 0 ≤ z9 → z9 ≤ HB → z9 = fnD 2 [z3, 0, (z8 + (-1))] →
     (I2 [[z9]] ∧ μ2 [[z9]] < μ2 [[z3]])
    ))
   ) ∧ ((decide (0 < z4)) = false →
    ∃ (I5 : List (List Int) → Prop) (μ5 : List (List Int) → Nat), I5 [[z3]] ∧ (∀ z6 : Int, 0 ≤ z6 → z6 ≤ HB → I5 [[z6]] →
     ∀ z7 : Int, 0 ≤ z7 → z7 ≤ 9223372036854775807 → z7 = fnD 0 [z6] →
     (((decide (0 < z7)) = true →
      chkD 1 [z6, 0] ∧
      ∀ z8 : Int, 0 ≤ z8 → z8 ≤ 255 → z8 = fnD 1 [z6, 0] →
      ∀ z9 : Int, 0 ≤ z9 → z9 ≤ 1 → z9 = fnD 43 [12125, z8] →
      ((((!(decide (z9 = 1)))) = true →
       K [[z0]] [[z6]]
      ) ∧ (((!(decide (z9 = 1)))) = false →
       ∀ z10 : Int, 0 ≤ z10 → z10 ≤ 9223372036854775807 → z10 = fnD 0 [z6] →
       chkD 2 [z6, 1, z10] ∧
       ∀ z11 : Int, 0 ≤ z11 → z11 ≤ HB → z11 = fnD 2 [z6, 1, z10] →
       (I5 [[z11]] ∧ μ5 [[z11]] < μ5 [[z6]])
      ))
     ) ∧ ((decide (0 < z7)) = false →
      K [[z0]] [[z6]]
     ))
    )
   ))
  )
 ))
def B_thost (S : Nat → List (List Int) → List (List Int) → Prop) (K : List (List Int) → List (List Int) → Prop) : Prop :=
 ∀ z0 : Int, 0 ≤ z0 → z0 ≤ HB → 
 ∀ z1 : Int, 0 ≤ z1 → z1 ≤ 1 → z1 = fnD 4 [z0, 0] →
 (((decide (z1 = 1)) = true →
  K [[z0]] [[z0]]
 ) ∧ ((decide (z1 = 1)) = false →
  ∃ (I2 : List (List Int) → Prop) (μ2 : List (List Int) → Nat), I2 [[z0]] ∧ (∀ z3 : Int, 0 ≤ z3 → z3 ≤ HB → I2 [[z3]] →
   ∀ z4 : Int, 0 ≤ z4 → z4 ≤ 9223372036854775807 → z4 = fnD 0 [z3] →
   (((decide (0 < z4)) = true →
    ∀ z5 : Int, 0 ≤ z5 → z5 ≤ 9223372036854775807 → z5 = fnD 0 [z3] →
    chkD 1 [z3, (z5 + (-1))] ∧
    ∀ z6 : Int, 0 ≤ z6 → z6 ≤ 255 → z6 = fnD 1 [z3, (z5 + (-1))] →
    ∀ z7 : Int, 0 ≤ z7 → z7 ≤ 1 → z7 = fnD 43 [8267443711659794979134808499087199072256874527605039863196959864303977456569186565734100443375465041388132907546406408792979960403300126342849461211344038, z6] →
    ((((!(decide (z7 = 1)))) = true →
     ∃ (I8 : List (List Int) → Prop) (μ8 : List (List Int) → Nat), I8 [[z3]] ∧ (∀ z9 : Int, 0 ≤ z9 → z9 ≤ HB → I8 [[z9]] →
      ∀ z10 : Int, 0 ≤ z10 → z10 ≤ 9223372036854775807 → z10 = fnD 0 [z9] →
      (((decide (0 < z10)) = true →
       chkD 1 [z9, 0] ∧
       ∀ z11 : Int, 0 ≤ z11 → z11 ≤ 255 → z11 = fnD 1 [z9, 0] →
       ∀ z12 : Int, 0 ≤ z12 → z12 ≤ 1 → z12 = fnD 43 [8267443711659794979134808499087199072256874527605039863196959864303977456569186565734100443375465041388132907546406408792979960403300126342849461211344038, z11] →
       ((((!(decide (z12 = 1)))) = true →
        K [[z0]] [[z9]]
       ) ∧ (((!(decide (z12 = 1)))) = false →
        ∀ z13 : Int, 0 ≤ z13 → z13 ≤ 9223372036854775807 → z13 = fnD 0 [z9] →
        chkD 2 [z9, 1, z13] ∧
        ∀ z14 : Int, 0 ≤ z14 → z14 ≤ HB → z14 = fnD 2 [z9, 1, z13] →
        (I8 [[z14]] ∧ μ8 [[z14]] < μ8 [[z9]])
       ))
      ) ∧ ((decide (0 < z10)) = false →
       K [[z0]] [[z9]]
      ))
     )
    ) ∧ (((!(decide (z7 = 1)))) = false →
     ∀ z8 : Int, 0 ≤ z8 → z8 ≤ 9223372036854775807 → z8 = fnD 0 [z3] →
     chkD 2 [z3, 0, (z8 + (-1))] ∧
     ∀ z9 : Int, 0 ≤ z9 → z9 ≤ HB → z9 = fnD 2 [z3, 0, (z8 + (-1))] →
     (I2 [[z9]] ∧ μ2 [[z9]] < μ2 [[z3]])
    ))
   ) ∧ ((decide (0 < z4)) = false →
    ∃ (I5 : List (List Int) → Prop) (μ5 : List (List Int) → Nat), I5 [[z3]] ∧ (∀ z6 : Int, 0 ≤ z6 → z6 ≤ HB → I5 [[z6]] →
     ∀ z7 : Int, 0 ≤ z7 → z7 ≤ 9223372036854775807 → z7 = fnD 0 [z6] →
     (((decide (0 < z7)) = true →
      chkD 1 [z6, 0] ∧
      ∀ z8 : Int, 0 ≤ z8 → z8 ≤ 255 → z8 = fnD 1 [z6, 0] →
      ∀ z9 : Int, 0 ≤ z9 → z9 ≤ 1 → z9 = fnD 43 [8267443711659794979134808499087199072256874527605039863196959864303977456569186565734100443375465041388132907546406408792979960403300126342849461211344038, z8] →
      ((((!(decide (z9 = 1)))) = true →
       K [[z0]] [[z6]]
      ) ∧ (((!(decide (z9 = 1)))) = false →
       ∀ z10 : Int, 0 ≤ z10 → z10 ≤ 9223372036854775807 → z10 = fnD 0 [z6] →
       chkD 2 [z6, 1, z10] ∧
       ∀ z11 : Int, 0 ≤ z11 → z11 ≤ HB → z11 = fnD 2 [z6, 1, z10] →
       (I5 [[z11]] ∧ μ5 [[z11]] < μ5 [[z6]])
      ))
     ) ∧ ((decide (0 < z7)) = false →
      K [[z0]] [[z6]]
     ))
    )
   ))
  )
 ))
def B_tdig (S : Nat → List (List Int) → List (List Int) → Prop) (K : List (List Int) → List (List Int) → Prop) : Prop :=
 ∀ z0 : Int, 0 ≤ z0 → z0 ≤ HB → 
 ∀ z1 : Int, 0 ≤ z1 → z1 ≤ 1 → z1 = fnD 4 [z0, 0] →
 (((decide (z1 = 1)) = true →
  K [[z0]] [[z0]]
 ) ∧ ((decide (z1 = 1)) = false →
  ∃ (I2 : List (List Int) → Prop) (μ2 : List (List Int) → Nat), I2 [[z0]] ∧ (∀ z3 : Int, 0 ≤ z3 → z3 ≤ HB → I2 [[z3]] →
   ∀ z4 : Int, 0 ≤ z4 → z4 ≤ 9223372036854775807 → z4 = fnD 0 [z3] →
   (((decide (0 < z4)) = true →
    ∀ z5 : Int, 0 ≤ z5 → z5 ≤ 9223372036854775807 → z5 = fnD 0 [z3] →
    chkD 1 [z3, (z5 + (-1))] ∧
    ∀ z6 : Int, 0 ≤ z6 → z6 ≤ 255 → z6 = fnD 1 [z3, (z5 + (-1))] →
    ∀ z7 : Int, 0 ≤ z7 → z7 ≤ 1 → z7 = fnD 43 [284767230291263911083031, z6] →
    ((((!(decide (z7 = 1)))) = true →
     ∃ (I8 : List (List Int) → Prop) (μ8 : List (List Int) → Nat), I8 [[z3]] ∧ (∀ z9 : Int, 0 ≤ z9 → z9 ≤ HB → I8 [[z9]] →
      ∀ z10 : Int, 0 ≤ z10 → z10 ≤ 9223372036854775807 → z10 = fnD 0 [z9] →
      (((decide (0 < z10)) = true →
       chkD 1 [z9, 0] ∧
       ∀ z11 : Int, 0 ≤ z11 → z11 ≤ 255 → z11 = fnD 1 [z9, 0] →
       ∀ z12 : Int, 0 ≤ z12 → z12 ≤ 1 → z12 = fnD 43 [284767230291263911083031, z11] →
       ((((!(decide (z12 = 1)))) = true →
        K [[z0]] [[z9]]
       ) ∧ (((!(decide (z12 = 1)))) = false →
        ∀ z13 : Int, 0 ≤ z13 → z13 ≤ 9223372036854775807 → z13 = fnD 0 [z9] →
        chkD 2 [z9, 1, z13] ∧
        ∀ z14 : Int, 0 ≤ z14 → z14 ≤ HB → z14 = fnD 2 [z9, 1, z13] →
        (I8 [[z14]] ∧ μ8 [[z14]] < μ8 [[z9]])
       ))
      ) ∧ ((decide (0 < z10)) = false →
       K [[z0]] [[z9]]
      ))
     )
    ) ∧ (((!(decide (z7 = 1)))) = false →
     ∀ z8 : Int, 0 ≤ z8 → z8 ≤ 9223372036854775807 → z8 = fnD 0 [z3] →
     chkD 2 [z3, 0, (z8 + (-1))] ∧
     ∀ z9 : Int, 0 ≤ z9 → z9 ≤ HB → z9 = fnD 2 [z3, 0, (z8 + (-1))] →
     (I2 [[z9]] ∧ μ2 [[z9]] < μ2 [[z3]])
    ))
   ) ∧ ((decide (0 < z4)) = false →
    ∃ (I5 : List (List Int) → Prop) (μ5 : List (List Int) → Nat), I5 [[z3]] ∧ (∀ z6 : Int, 0 ≤ z6 → z6 ≤ HB → I5 [[z6]] →
     ∀ z7 : Int, 0 ≤ z7 → z7 ≤ 9223372036854775807 → z7 = fnD 0 [z6] →
     (((decide (0 < z7)) = true →
      chkD 1 [z6, 0] ∧
      ∀ z8 : Int, 0 ≤ z8 → z8 ≤ 255 → z8 = fnD 1 [z6, 0] →
      ∀ z9 : Int, 0 ≤ z9 → z9 ≤ 1 → z9 = fnD 43 [284767230291263911083031, z8] →
      ((((!(decide (z9 = 1)))) = true →
       K [[z0]] [[z6]]
      ) ∧ (((!(decide (z9 = 1)))) = false →
       ∀ z10 : Int, 0 ≤ z10 → z10 ≤ 9223372036854775807 → z10 = fnD 0 [z6] →
       chkD 2 [z6, 1, z10] ∧
       ∀ z11 : Int, 0 ≤ z11 → z11 ≤ HB → z11 = fnD 2 [z6, 1, z10] →
       (I5 [[z11]] ∧ μ5 [[z11]] < μ5 [[z6]])
      ))
     ) ∧ ((decide (0 < z7)) = false →
      K [[z0]] [[z6]]
     ))
    )
   ))
  )
 ))
theorem fn43 {n z q : Int} {p : UInt8 → Bool} (hn : ∀ c, (sOf n).contains c = p c) (h : q = fnD 43 [n, z]) : decide (q = 1) = p (u8 z) := by
  rw [h]; simp only [fnD]
  have := hn (u8 z)
  unfold u8 at this ⊢
  rw [← this]
  by_cases hm : UInt8.ofNat z.toNat ∈ sOf n
  · simp [hm]
  · simp [hm]
theorem p_trimB {n : Int} {p : UInt8 → Bool} (hn : ∀ c, (sOf n).contains c = p c) {id : Nat} (hid : ∀ z r, SB id [[z]] [[r]] = (sOf r = trimS p (sOf z))) :
 ( ∀ z0 : Int, 0 ≤ z0 → z0 ≤ HB → 
 ∀ z1 : Int, 0 ≤ z1 → z1 ≤ 1 → z1 = fnD 4 [z0, 0] →
 (((decide (z1 = 1)) = true →
   KBv SB [.str] id [[z0]] [[z0]]
 ) ∧ ((decide (z1 = 1)) = false →
  ∃ (I2 : List (List Int) → Prop) (μ2 : List (List Int) → Nat), I2 [[z0]] ∧ (∀ z3 : Int, 0 ≤ z3 → z3 ≤ HB → I2 [[z3]] →
   ∀ z4 : Int, 0 ≤ z4 → z4 ≤ 9223372036854775807 → z4 = fnD 0 [z3] →
   (((decide (0 < z4)) = true →
    ∀ z5 : Int, 0 ≤ z5 → z5 ≤ 9223372036854775807 → z5 = fnD 0 [z3] →
    chkD 1 [z3, (z5 + (-1))] ∧
    ∀ z6 : Int, 0 ≤ z6 → z6 ≤ 255 → z6 = fnD 1 [z3, (z5 + (-1))] →
    ∀ z7 : Int, 0 ≤ z7 → z7 ≤ 1 → z7 = fnD 43 [n, z6] →
    ((((!(decide (z7 = 1)))) = true →
     ∃ (I8 : List (List Int) → Prop) (μ8 : List (List Int) → Nat), I8 [[z3]] ∧ (∀ z9 : Int, 0 ≤ z9 → z9 ≤ HB → I8 [[z9]] →
      ∀ z10 : Int, 0 ≤ z10 → z10 ≤ 9223372036854775807 → z10 = fnD 0 [z9] →
      (((decide (0 < z10)) = true →
       chkD 1 [z9, 0] ∧
       ∀ z11 : Int, 0 ≤ z11 → z11 ≤ 255 → z11 = fnD 1 [z9, 0] →
       ∀ z12 : Int, 0 ≤ z12 → z12 ≤ 1 → z12 = fnD 43 [n, z11] →
       ((((!(decide (z12 = 1)))) = true →
         KBv SB [.str] id [[z0]] [[z9]]
       ) ∧ (((!(decide (z12 = 1)))) = false →
        ∀ z13 : Int, 0 ≤ z13 → z13 ≤ 9223372036854775807 → z13 = fnD 0 [z9] →
        chkD 2 [z9, 1, z13] ∧
        ∀ z14 : Int, 0 ≤ z14 → z14 ≤ HB → z14 = fnD 2 [z9, 1, z13] →
        (I8 [[z14]] ∧ μ8 [[z14]] < μ8 [[z9]])
       ))
      ) ∧ ((decide (0 < z10)) = false →
        KBv SB [.str] id [[z0]] [[z9]]
      ))
     )
    ) ∧ (((!(decide (z7 = 1)))) = false →
     ∀ z8 : Int, 0 ≤ z8 → z8 ≤ 9223372036854775807 → z8 = fnD 0 [z3] →
     chkD 2 [z3, 0, (z8 + (-1))] ∧
     ∀ z9 : Int, 0 ≤ z9 → z9 ≤ HB → z9 = fnD 2 [z3, 0, (z8 + (-1))] →
     (I2 [[z9]] ∧ μ2 [[z9]] < μ2 [[z3]])
    ))
   ) ∧ ((decide (0 < z4)) = false →
    ∃ (I5 : List (List Int) → Prop) (μ5 : List (List Int) → Nat), I5 [[z3]] ∧ (∀ z6 : Int, 0 ≤ z6 → z6 ≤ HB → I5 [[z6]] →
     ∀ z7 : Int, 0 ≤ z7 → z7 ≤ 9223372036854775807 → z7 = fnD 0 [z6] →
     (((decide (0 < z7)) = true →
      chkD 1 [z6, 0] ∧
      ∀ z8 : Int, 0 ≤ z8 → z8 ≤ 255 → z8 = fnD 1 [z6, 0] →
      ∀ z9 : Int, 0 ≤ z9 → z9 ≤ 1 → z9 = fnD 43 [n, z8] →
      ((((!(decide (z9 = 1)))) = true →
        KBv SB [.str] id [[z0]] [[z6]]
      ) ∧ (((!(decide (z9 = 1)))) = false →
       ∀ z10 : Int, 0 ≤ z10 → z10 ≤ 9223372036854775807 → z10 = fnD 0 [z6] →
       chkD 2 [z6, 1, z10] ∧
       ∀ z11 : Int, 0 ≤ z11 → z11 ≤ HB → z11 = fnD 2 [z6, 1, z10] →
       (I5 [[z11]] ∧ μ5 [[z11]] < μ5 [[z6]])
      ))
     ) ∧ ((decide (0 < z7)) = false →
       KBv SB [.str] id [[z0]] [[z6]]
     ))
    )
   ))
  )
 ))) := by
  intro z0 a0 a1 z1 b0 b1 hz1
  rw [eq_nil hz1]
  have inner : ∀ z3 : Int, 0 ≤ z3 → z3 ≤ HB → sOf z3 = rtr p (sOf z0) → ∃ (I8 : List (List Int) → Prop) (μ8 : List (List Int) → Nat), I8 [[z3]] ∧ (∀ z9 : Int, 0 ≤ z9 → z9 ≤ HB → I8 [[z9]] →
      ∀ z10 : Int, 0 ≤ z10 → z10 ≤ 9223372036854775807 → z10 = fnD 0 [z9] →
      (((decide (0 < z10)) = true →
       chkD 1 [z9, 0] ∧
       ∀ z11 : Int, 0 ≤ z11 → z11 ≤ 255 → z11 = fnD 1 [z9, 0] →
       ∀ z12 : Int, 0 ≤ z12 → z12 ≤ 1 → z12 = fnD 43 [n, z11] →
       ((((!(decide (z12 = 1)))) = true →
        KBv SB [.str] id [[z0]] [[z9]]
       ) ∧ (((!(decide (z12 = 1)))) = false →
        ∀ z13 : Int, 0 ≤ z13 → z13 ≤ 9223372036854775807 → z13 = fnD 0 [z9] →
        chkD 2 [z9, 1, z13] ∧
        ∀ z14 : Int, 0 ≤ z14 → z14 ≤ HB → z14 = fnD 2 [z9, 1, z13] →
        (I8 [[z14]] ∧ μ8 [[z14]] < μ8 [[z9]])
       ))
      ) ∧ ((decide (0 < z10)) = false →
       KBv SB [.str] id [[z0]] [[z9]]
      ))) := by
    intro z3 a0 a1 h3
    refine ⟨fun bl => ∃ z, bl = [[z]] ∧ ltr p (sOf z) = ltr p (rtr p (sOf z0)), fun bl => (sOf ((bl.getD 0 []).getD 0 0)).length, ⟨z3, rfl, by rw [h3]⟩, ?_⟩
    rintro z9 c0 c1 ⟨z, e, hz⟩
    obtain rfl : z9 = z := by simpa using e
    intro z4 d0 d1 hz4
    simp only [fnD] at hz4
    cases hl : sOf z9 with
    | nil =>
      rw [hl] at hz4 hz
      simp only [List.length_nil] at hz4
      subst hz4
      refine ⟨fun hp => by simp at hp, fun _ => ⟨⟨c0, c1, trivial⟩, ?_⟩⟩
      rw [hid, hl]; exact hz
    | cons x r =>
      rw [hl] at hz4 hz
      simp only [List.length_cons] at hz4
      refine ⟨fun _ => ⟨⟨Int.le_refl _, by rw [hl]; simp only [List.length_cons]; omega⟩, ?_⟩, fun hp => by simp at hp; omega⟩
      intro z5 e0 e1 hz5
      simp only [fnD, hl, Int.toNat_zero, List.getD_cons_zero] at hz5
      intro z6 f0 f1 hz6
      rw [fn43 hn hz6, hz5, u8_of]
      refine ⟨fun he => ⟨⟨c0, c1, trivial⟩, ?_⟩, fun he => ?_⟩
      · rw [hid, hl]
        have he : p x = false := by simpa using he
        show x :: r = ltr p (rtr p (sOf z0))
        rw [← hz]
        simp [ltr, List.dropWhile_cons, he]
      · have he : p x = true := by simpa using he
        intro z13 f0 f1 hz6
        simp only [fnD, hl, List.length_cons] at hz6
        refine ⟨⟨by omega, by omega, by rw [hl]; simp only [List.length_cons]; omega⟩, ?_⟩
        intro z7 g0 g1 hz7
        have hr : sOf z7 = r := by
          rw [hz7]; simp only [fnD, sOf_cOf, hl]
          rw [show (1 : Int).toNat = 1 from rfl, List.drop_one, List.tail_cons]
          exact List.take_of_length_le (by omega)
        refine ⟨⟨z7, rfl, ?_⟩, ?_⟩
        · rw [hr, ← hz]; simp only [ltr, List.dropWhile_cons, he, if_true]
        · show (sOf z7).length < (sOf z9).length
          rw [hr, hl]; simp
  refine ⟨fun h => ⟨⟨a0, a1, trivial⟩, ?_⟩, fun h => ?_⟩
  · rw [hid]
    have : sOf z0 = [] := by simpa using h
    rw [this]; rfl
  · refine ⟨fun bl => ∃ z, bl = [[z]] ∧ rtr p (sOf z) = rtr p (sOf z0), fun bl => (sOf ((bl.getD 0 []).getD 0 0)).length, ⟨z0, rfl, rfl⟩, ?_⟩
    rintro z3 c0 c1 ⟨z, e, hz⟩
    obtain rfl : z3 = z := by simpa using e
    intro z4 d0 d1 hz4
    simp only [fnD] at hz4
    by_cases hl : sOf z3 = []
    · have hz4' := hz4
      rw [hl] at hz4
      simp only [List.length_nil] at hz4
      subst hz4
      refine ⟨fun hp => by simp at hp, fun _ => inner z3 c0 c1 ?_⟩
      rw [hl] at hz ⊢
      exact hz
    · obtain ⟨r, x, hl⟩ := snoc_of hl
      rw [hl] at hz4 hz
      simp only [List.length_append, List.length_cons, List.length_nil] at hz4
      refine ⟨fun _ => ?_, fun hp => by simp at hp; omega⟩
      intro z5 d0 d1 hz5
      simp only [fnD, hl, List.length_append, List.length_cons, List.length_nil] at hz5
      refine ⟨⟨by omega, by rw [hl]; simp only [List.length_append, List.length_cons, List.length_nil]; omega⟩, ?_⟩
      intro z6 f0 f1 hz6
      have ht : (z5 + -1).toNat = r.length := by omega
      simp only [fnD, hl, ht] at hz6
      rw [show ((r ++ [x]).getD r.length 0) = x by simp [List.getD]] at hz6
      intro z7 g0 g1 hz7
      rw [fn43 hn hz7, hz6, u8_of]
      refine ⟨fun he => inner z3 c0 c1 ?_, fun he => ?_⟩
      · have he : p x = false := by simpa using he
        rw [hl, ← hz, rtr_snoc, he, cond_false]
      · have he : p x = true := by simpa using he
        intro z7 f0 f1 hz7
        simp only [fnD, hl, List.length_append, List.length_cons, List.length_nil] at hz7
        have ht7 : (z7 + -1).toNat = r.length := by omega
        refine ⟨⟨by omega, by omega, by rw [hl]; simp only [List.length_append, List.length_cons, List.length_nil]; omega⟩, ?_⟩
        intro z8 g0 g1 hz8
        have hr : sOf z8 = r := by
          rw [hz8]; simp only [fnD, sOf_cOf, hl, ht7]
          simp
        refine ⟨⟨z8, rfl, ?_⟩, ?_⟩
        · rw [hr, ← hz, rtr_snoc, he, cond_true]
        · show (sOf z8).length < (sOf z3).length
          rw [hr, hl]; simp
theorem allB256 {q p : UInt8 → Bool} (h : ((List.range 256).all fun i => q (UInt8.ofNat i) == p (UInt8.ofNat i)) = true) (c : UInt8) : q c = p c := by
  have := List.all_eq_true.1 h c.toNat (List.mem_range.2 c.toNat_lt)
  simpa using this
theorem p_tdm : B_tdm SB (KBv SB [.str] 122) := p_trimB (n := 12125) (p := edgeH) (allB256 (by decide +kernel)) fun _ _ => rfl
theorem p_thost : B_thost SB (KBv SB [.str] 123) := p_trimB (n := 8267443711659794979134808499087199072256874527605039863196959864303977456569186565734100443375465041388132907546406408792979960403300126342849461211344038) (p := inHost) (allB256 (by decide +kernel)) fun _ _ => rfl
theorem p_tdig : B_tdig SB (KBv SB [.str] 124) := p_trimB (n := 284767230291263911083031) (p := isD) (allB256 (by decide +kernel)) fun _ _ => rfl

def B_low (S : Nat → List (List Int) → List (List Int) → Prop) (K : List (List Int) → List (List Int) → Prop) : Prop :=
 ∀ z0 : Int, 0 ≤ z0 → z0 ≤ HB → 
 ∀ z1 : Int, 0 ≤ z1 → z1 ≤ RB → z1 = fnD 27 [z0] →
 ∀ z2 : Int, 0 ≤ z2 → z2 ≤ 9223372036854775807 → z2 = fnD 0 [z0] →
 ∀ z3 : Int, (-1) ≤ z3 → z3 ≤ 9223372036854775807 → 
 ∃ (I4 : List (List Int) → Prop) (μ4 : List (List Int) → Nat), I4 [[0], [z1]] ∧ (∀ z5 : Int, 0 ≤ z5 → z5 ≤ 9223372036854775807 → ∀ z6 : Int, 0 ≤ z6 → z6 ≤ RB → I4 [[z5], [z6]] →
  (((decide (z5 < z2)) = true →
   chkD 30 [z5, z2] ∧
   chkD 21 [z6, z5] ∧
   ∀ z7 : Int, 0 ≤ z7 → z7 ≤ 255 → z7 = fnD 21 [z6, z5, 0] →
   (((decide (65 ≤ z7)) = true →
    (((decide (z7 ≤ 90)) = true →
     ∀ z8 : Int, 0 ≤ z8 → z8 ≤ IntKind.max .u8 → z8 = bitI .or .u8 z7 32 →
     chkD 30 [z5, z2] ∧
     chkD 21 [z6, z5] ∧
     ∀ z9 : Int, 0 ≤ z9 → z9 ≤ RB → z9 = fnD 42 [z6, z5, 0, z8] →
     ∀ z10 : Int, 0 ≤ z10 → z10 ≤ 1 → 0 ≤ (z5 + 9223372036854775809) - 18446744073709551616 * z10 → (z5 + 9223372036854775809) - 18446744073709551616 * z10 < 18446744073709551616 →
     chkD 39 [((z5 + ((-18446744073709551616) * z10)) + 1), 0, 9223372036854775807] ∧
     (I4 [[((z5 + ((-18446744073709551616) * z10)) + 1)], [z9]] ∧ μ4 [[((z5 + ((-18446744073709551616) * z10)) + 1)], [z9]] < μ4 [[z5], [z6]])
    ) ∧ ((decide (z7 ≤ 90)) = false →
     ∀ z8 : Int, 0 ≤ z8 → z8 ≤ 1 → 0 ≤ (z5 + 9223372036854775809) - 18446744073709551616 * z8 → (z5 + 9223372036854775809) - 18446744073709551616 * z8 < 18446744073709551616 →
     chkD 39 [((z5 + ((-18446744073709551616) * z8)) + 1), 0, 9223372036854775807] ∧
     (I4 [[((z5 + ((-18446744073709551616) * z8)) + 1)], [z6]] ∧ μ4 [[((z5 + ((-18446744073709551616) * z8)) + 1)], [z6]] < μ4 [[z5], [z6]])
    ))
   ) ∧ ((decide (65 ≤ z7)) = false →
    ∀ z8 : Int, 0 ≤ z8 → z8 ≤ 1 → 0 ≤ (z5 + 9223372036854775809) - 18446744073709551616 * z8 → (z5 + 9223372036854775809) - 18446744073709551616 * z8 < 18446744073709551616 →
    chkD 39 [((z5 + ((-18446744073709551616) * z8)) + 1), 0, 9223372036854775807] ∧
    (I4 [[((z5 + ((-18446744073709551616) * z8)) + 1)], [z6]] ∧ μ4 [[((z5 + ((-18446744073709551616) * z8)) + 1)], [z6]] < μ4 [[z5], [z6]])
   ))
  ) ∧ ((decide (z5 < z2)) = false →
   chkD 35 [z6, 0, z2] ∧
   ∀ z7 : Int, 0 ≤ z7 → z7 ≤ HB → z7 = fnD 34 [z6, 0, z2] →
   K [[z0]] [[z7]]
  ))
 )
def B_rlow (S : Nat → List (List Int) → List (List Int) → Prop) (K : List (List Int) → List (List Int) → Prop) : Prop :=
 ∀ z0 : Int, 0 ≤ z0 → z0 ≤ HB → 
 ∀ z1 : Int, 0 ≤ z1 → z1 ≤ RB → z1 = fnD 27 [z0] →
 ∀ z2 : Int, 0 ≤ z2 → z2 ≤ 9223372036854775807 → z2 = fnD 0 [z0] →
 ∀ z3 : Int, (-1) ≤ z3 → z3 ≤ 9223372036854775807 → 
 ∃ (I4 : List (List Int) → Prop) (μ4 : List (List Int) → Nat), I4 [[0], [z1]] ∧ (∀ z5 : Int, 0 ≤ z5 → z5 ≤ 9223372036854775807 → ∀ z6 : Int, 0 ≤ z6 → z6 ≤ RB → I4 [[z5], [z6]] →
  (((decide (z5 < z2)) = true →
   chkD 30 [z5, z2] ∧
   chkD 21 [z6, z5] ∧
   ∀ z7 : Int, 0 ≤ z7 → z7 ≤ 255 → z7 = fnD 21 [z6, z5, 0] →
   (((decide (65 ≤ z7)) = true →
    chkD 30 [z5, z2] ∧
    chkD 21 [z6, z5] ∧
    ∀ z8 : Int, 0 ≤ z8 → z8 ≤ 255 → z8 = fnD 21 [z6, z5, 0] →
    (((decide (z8 ≤ 90)) = true →
     chkD 30 [z5, z2] ∧
     chkD 21 [z6, z5] ∧
     ∀ z9 : Int, 0 ≤ z9 → z9 ≤ 255 → z9 = fnD 21 [z6, z5, 0] →
     ∀ z10 : Int, 0 ≤ z10 → z10 ≤ 1 → 0 ≤ (z9 + 32) - 256 * z10 → (z9 + 32) - 256 * z10 < 256 →
     chkD 30 [z5, z2] ∧
     chkD 21 [z6, z5] ∧
     ∀ z11 : Int, 0 ≤ z11 → z11 ≤ RB → z11 = fnD 42 [z6, z5, 0, ((z9 + ((-256) * z10)) + 32)] →
     ∀ z12 : Int, 0 ≤ z12 → z12 ≤ 1 → 0 ≤ (z5 + 9223372036854775809) - 18446744073709551616 * z12 → (z5 + 9223372036854775809) - 18446744073709551616 * z12 < 18446744073709551616 →
     chkD 39 [((z5 + ((-18446744073709551616) * z12)) + 1), 0, 9223372036854775807] ∧
     (I4 [[((z5 + ((-18446744073709551616) * z12)) + 1)], [z11]] ∧ μ4 [[((z5 + ((-18446744073709551616) * z12)) + 1)], [z11]] < μ4 [[z5], [z6]])
    ) ∧ ((decide (z8 ≤ 90)) = false →
     ∀ z9 : Int, 0 ≤ z9 → z9 ≤ 1 → 0 ≤ (z5 + 9223372036854775809) - 18446744073709551616 * z9 → (z5 + 9223372036854775809) - 18446744073709551616 * z9 < 18446744073709551616 →
     chkD 39 [((z5 + ((-18446744073709551616) * z9)) + 1), 0, 9223372036854775807] ∧
     (I4 [[((z5 + ((-18446744073709551616) * z9)) + 1)], [z6]] ∧ μ4 [[((z5 + ((-18446744073709551616) * z9)) + 1)], [z6]] < μ4 [[z5], [z6]])
    ))
   ) ∧ ((decide (65 ≤ z7)) = false →
    ∀ z8 : Int, 0 ≤ z8 → z8 ≤ 1 → 0 ≤ (z5 + 9223372036854775809) - 18446744073709551616 * z8 → (z5 + 9223372036854775809) - 18446744073709551616 * z8 < 18446744073709551616 →
    chkD 39 [((z5 + ((-18446744073709551616) * z8)) + 1), 0, 9223372036854775807] ∧
    (I4 [[((z5 + ((-18446744073709551616) * z8)) + 1)], [z6]] ∧ μ4 [[((z5 + ((-18446744073709551616) * z8)) + 1)], [z6]] < μ4 [[z5], [z6]])
   ))
  ) ∧ ((decide (z5 < z2)) = false →
   chkD 35 [z6, 0, z2] ∧
   ∀ z7 : Int, 0 ≤ z7 → z7 ≤ HB → z7 = fnD 34 [z6, 0, z2] →
   K [[z0]] [[z7]]
  ))
 )
def rowsL (l : Tx) : List (List Int) := l.map fun b => [(b.toNat : Int)]
theorem rowsL_len (l : Tx) : (rowsL l).length = l.length := by simp [rowsL]
theorem rowsL_get (l : Tx) (i : Nat) (h : i < l.length) : (rowsL l).getD i [] = [((l.getD i 0).toNat : Int)] := by
  simp [rowsL, List.getD, h]
theorem rowsL_set (l : Tx) (i : Nat) (c : UInt8) : (rowsL l).set i [(c.toNat : Int)] = rowsL (l.set i c) := by
  simp [rowsL, List.map_set]
theorem rowsL_back (l : Tx) : (rowsL l).map (fun row => UInt8.ofNat (row.getD 0 0).toNat) = l := by
  unfold rowsL
  rw [List.map_map]
  conv => rhs; rw [← List.map_id l]
  exact List.map_congr_left fun b _ => by simp
def mixL (s : Tx) (i : Nat) : Tx := (s.take i).map lo ++ s.drop i
theorem mixL_len (s : Tx) (i : Nat) (h : i ≤ s.length) : (mixL s i).length = s.length := by
  simp [mixL]; omega
theorem mixL_get (s : Tx) (i : Nat) (h : i < s.length) : (mixL s i).getD i 0 = s.getD i 0 := by
  unfold mixL
  rw [drop_cons_getD s i h]
  simp only [List.getD]
  rw [List.getElem?_append_right (by simp; omega)]
  simp [show min i s.length = i by omega]
theorem mixL_succ (s : Tx) (i : Nat) (h : i < s.length) : mixL s (i + 1) = (mixL s i).set i (lo (s.getD i 0)) := by
  unfold mixL
  rw [take_succ_getD s i h, drop_cons_getD s i h, List.map_append]
  have : ((s.take i).map lo).length = i := by simp; omega
  rw [List.set_append_right _ _ (by omega), this]
  simp
theorem mixL_same (s : Tx) (i : Nat) (h : i < s.length) (hl : isG (s.getD i 0) = false) : mixL s (i + 1) = mixL s i := by
  unfold mixL
  have e : lo (s.getD i 0) = s.getD i 0 := by unfold lo; rw [hl]; rfl
  rw [take_succ_getD s i h, drop_cons_getD s i h, List.map_append, List.map_singleton, e]
  simp
theorem mixL_end (s : Tx) (i : Nat) (h : s.length ≤ i) : mixL s i = lower s := by
  unfold mixL lower
  rw [List.take_of_length_le h, List.drop_of_length_le h, List.append_nil]
theorem isG_iff {z : Int} {c : UInt8} (h : z = (c.toNat : Int)) : isG c = (decide (65 ≤ z) && decide (z ≤ 90)) := by
  rw [h]; unfold isG
  rw [Bool.eq_iff_iff]
  simp [Nat.ble_eq]
  omega
theorem lo_toNat {z : Int} {c : UInt8} (h : z = (c.toNat : Int)) (h1 : 65 ≤ z) (h2 : z ≤ 90) : z + 32 = ((lo c).toNat : Int) := by
  have := isG_iff h
  unfold lo
  rw [this, show decide (65 ≤ z) = true by simpa using h1, show decide (z ≤ 90) = true by simpa using h2]
  simp
  omega
theorem or32 {z : Int} (h1 : 65 ≤ z) (h2 : z ≤ 90) : bitI .or .u8 z 32 = z + 32 := by
  have h : ∀ i : Fin 26, bitI .or .u8 (65 + (i.val : Int)) 32 = 65 + (i.val : Int) + 32 := by decide +kernel
  have := h ⟨(z - 65).toNat, by omega⟩
  simp only at this
  rw [show (65 + ((z - 65).toNat : Int)) = z by omega] at this
  exact this
/-- Where the rows stand at a place. -/
def LowI (z0 z1 : Int) (bl : List (List Int)) : Prop := ∃ (i : Nat) (r : Int), bl = [[(i : Int)], [r]] ∧ i ≤ (sOf z0).length ∧ rOf r = rowsL (mixL (sOf z0) i)
theorem LowI.start {z0 z1 : Int} (h : z1 = fnD 27 [z0]) : LowI z0 z1 [[0], [z1]] := by
  refine ⟨0, z1, rfl, Nat.zero_le _, ?_⟩
  rw [h]; simp only [fnD, rOf_rc]
  simp [mixL, rowsL]
theorem LowI.get {z0 z2 r z7 : Int} {i : Nat} (h2 : z2 = fnD 0 [z0]) (hr : rOf r = rowsL (mixL (sOf z0) i)) (hi : i ≤ (sOf z0).length) (hp : (i : Int) < z2) : chkD 30 [(i : Int), z2] ∧ chkD 21 [r, (i : Int)] ∧ (z7 = fnD 21 [r, (i : Int), 0] → z7 = (((sOf z0).getD i 0).toNat : Int)) := by
  simp only [fnD] at h2
  refine ⟨⟨Int.natCast_nonneg _, hp⟩, ⟨Int.natCast_nonneg _, ?_⟩, fun h => ?_⟩
  · rw [hr, rowsL_len, mixL_len _ _ hi]; omega
  · rw [h]; simp only [fnD]
    rw [hr, Int.toNat_natCast, rowsL_get _ _ (by rw [mixL_len _ _ hi]; omega), mixL_get _ _ (by omega)]
    rfl
theorem LowI.set {z0 z1 z2 r z9 v : Int} {i : Nat} (h2 : z2 = fnD 0 [z0]) (hr : rOf r = rowsL (mixL (sOf z0) i)) (hi : i ≤ (sOf z0).length) (hp : (i : Int) < z2) (hv : v = ((lo ((sOf z0).getD i 0)).toNat : Int)) (h : z9 = fnD 42 [r, (i : Int), 0, v]) : LowI z0 z1 [[(i : Int) + 1], [z9]] := by
  simp only [fnD] at h2
  refine ⟨i + 1, z9, by simp, by omega, ?_⟩
  rw [h]; simp only [fnD, rOf_rc]
  have hl : i < (mixL (sOf z0) i).length := by rw [mixL_len _ _ hi]; omega
  rw [hr, Int.toNat_natCast, rowsL_get _ _ hl, mixL_succ _ _ (by omega), ← rowsL_set, hv]
  rfl
theorem LowI.same {z0 z1 z2 r : Int} {i : Nat} (h2 : z2 = fnD 0 [z0]) (hr : rOf r = rowsL (mixL (sOf z0) i)) (hi : i ≤ (sOf z0).length) (hp : (i : Int) < z2) (hg : isG ((sOf z0).getD i 0) = false) : LowI z0 z1 [[(i : Int) + 1], [r]] := by
  simp only [fnD] at h2
  refine ⟨i + 1, r, by simp, by omega, ?_⟩
  rw [mixL_same _ _ (by omega) hg, hr]
theorem LowI.done {z0 z2 r : Int} {i : Nat} (h2 : z2 = fnD 0 [z0]) (hL : z0 ≤ HB) (hr : rOf r = rowsL (mixL (sOf z0) i)) (hi : i ≤ (sOf z0).length) (hp : ¬ (i : Int) < z2) : chkD 35 [r, 0, z2] ∧ ∀ z7, z7 = fnD 34 [r, 0, z2] → sOf z7 = lower (sOf z0) := by
  have hmx := HB_s hL
  unfold mxL at hmx
  simp only [fnD] at h2
  have hm := mixL_end (sOf z0) i (by omega)
  rw [hm] at hr
  have hlen : (lower (sOf z0)).length = (sOf z0).length := by simp [lower]
  refine ⟨⟨⟨by omega, by omega, by rw [hr, rowsL_len, hlen]; omega⟩, by omega⟩, fun z7 h => ?_⟩
  rw [h]; simp only [fnD, sOf_cOf]
  rw [hr, show ((rowsL (lower (sOf z0))).drop (0 : Int).toNat) = rowsL (lower (sOf z0)) from rfl, List.take_of_length_le (by rw [rowsL_len, hlen]; omega), rowsL_back]
def lowμ (z0 : Int) (bl : List (List Int)) : Nat := (sOf z0).length - ((bl.getD 0 []).getD 0 0).toNat
theorem lowμ_lt {z0 z2 r r' : Int} {i : Nat} (h2 : z2 = fnD 0 [z0]) (hp : (i : Int) < z2) : lowμ z0 [[(i : Int) + 1], [r]] < lowμ z0 [[(i : Int)], [r']] := by
  simp only [fnD] at h2
  show (sOf z0).length - ((i : Int) + 1).toNat < (sOf z0).length - (i : Int).toNat
  omega
theorem p_low : B_low SB (KBv SB [.str] 28) := by
  intro z0 a0 a1 z1 b0 b1 h1 z2 c0 c1 h2 z3 d0 d1
  refine ⟨LowI z0 z1, lowμ z0, LowI.start h1, ?_⟩
  rintro z5 e0 e1 z6 f0 f1 ⟨i, r, e, hi, hr⟩
  obtain ⟨rfl, rfl⟩ : z5 = i ∧ z6 = r := by simpa using e
  refine ⟨fun hp => ?_, fun hp => ?_⟩
  · have hp : (i : Int) < z2 := by simpa using hp
    have hg := fun z7 => LowI.get (z7 := z7) h2 hr hi hp
    refine ⟨(hg 0).1, (hg 0).2.1, fun z7 g0 g1 h7 => ?_⟩
    have h7 := (hg z7).2.2 h7
    have hG := isG_iff h7
    refine ⟨fun hA => ⟨fun hB z8 k0 k1 h8 => ?_, fun hB z8 k0 k1 k2 k3 => ?_⟩, fun hA z8 k0 k1 k2 k3 => ?_⟩
    · have hA' : 65 ≤ z7 := by simpa using hA
      have hB' : z7 ≤ 90 := by simpa using hB
      refine ⟨(hg 0).1, (hg 0).2.1, fun z9 l0 l1 h9 z10 m0 m1 m2 m3 => ?_⟩
      rw [wrap1 (L := z2) hp c1 e0 m0 m2]
      refine ⟨⟨by omega, by omega⟩, LowI.set h2 hr hi hp ?_ h9, lowμ_lt h2 hp⟩
      rw [h8, or32 hA' hB', lo_toNat h7 hA' hB']
    · rw [wrap1 (L := z2) hp c1 e0 k0 k2]
      refine ⟨⟨by omega, by omega⟩, LowI.same h2 hr hi hp ?_, lowμ_lt h2 hp⟩
      rw [hG, hB]; simp
    · rw [wrap1 (L := z2) hp c1 e0 k0 k2]
      refine ⟨⟨by omega, by omega⟩, LowI.same h2 hr hi hp ?_, lowμ_lt h2 hp⟩
      rw [hG, hA]; simp
  · have hp : ¬ (i : Int) < z2 := by simpa using hp
    have hd := LowI.done h2 a1 hr hi hp
    exact ⟨hd.1, fun z7 g0 g1 h7 => ⟨⟨g0, g1, trivial⟩, hd.2 z7 h7⟩⟩
theorem p_rlow : B_rlow SB (KBv SB [.str] 17) := by
  intro z0 a0 a1 z1 b0 b1 h1 z2 c0 c1 h2 z3 d0 d1
  refine ⟨LowI z0 z1, lowμ z0, LowI.start h1, ?_⟩
  rintro z5 e0 e1 z6 f0 f1 ⟨i, r, e, hi, hr⟩
  obtain ⟨rfl, rfl⟩ : z5 = i ∧ z6 = r := by simpa using e
  refine ⟨fun hp => ?_, fun hp => ?_⟩
  · have hp : (i : Int) < z2 := by simpa using hp
    have hg := fun z7 => LowI.get (z7 := z7) h2 hr hi hp
    refine ⟨(hg 0).1, (hg 0).2.1, fun z7 g0 g1 h7 => ?_⟩
    have h7 := (hg z7).2.2 h7
    have hG := isG_iff h7
    refine ⟨fun hA => ⟨(hg 0).1, (hg 0).2.1, fun z8 n0 n1 h8 => ⟨fun hB => ⟨(hg 0).1, (hg 0).2.1, fun z9 o0 o1 h9 z10 k0 k1 k2 k3 => ?_⟩, fun hB z9 k0 k1 k2 k3 => ?_⟩⟩, fun hA z8 k0 k1 k2 k3 => ?_⟩
    · have h8 := (hg z8).2.2 h8
      have h9 := (hg z9).2.2 h9
      have hA' : 65 ≤ z7 := by simpa using hA
      have hB' : z8 ≤ 90 := by simpa using hB
      refine ⟨(hg 0).1, (hg 0).2.1, fun z11 l0 l1 h11 z12 m0 m1 m2 m3 => ?_⟩
      rw [wrap1 (L := z2) hp c1 e0 m0 m2]
      refine ⟨⟨by omega, by omega⟩, LowI.set h2 hr hi hp ?_ h11, lowμ_lt h2 hp⟩
      have := lo_toNat h9 (by omega) (by omega)
      omega
    · have h8 := (hg z8).2.2 h8
      rw [wrap1 (L := z2) hp c1 e0 k0 k2]
      refine ⟨⟨by omega, by omega⟩, LowI.same h2 hr hi hp ?_, lowμ_lt h2 hp⟩
      rw [hG, h7.trans h8.symm, hB]; simp
    · rw [wrap1 (L := z2) hp c1 e0 k0 k2]
      refine ⟨⟨by omega, by omega⟩, LowI.same h2 hr hi hp ?_, lowμ_lt h2 hp⟩
      rw [hG, hA]; simp
  · have hp : ¬ (i : Int) < z2 := by simpa using hp
    have hd := LowI.done h2 a1 hr hi hp
    exact ⟨hd.1, fun z7 g0 g1 h7 => ⟨⟨g0, g1, trivial⟩, hd.2 z7 h7⟩⟩

end Go.Ad
