/- The row of a law: its parameters opened (words, texts, structs, arrays, slices of such), and carried over the call. -/
import Derived.Test.YtlecfjcooglpoaaDoorRxJ
import Derived.Test.YtlecfjcooglpoaaDoorRxG
import Derived.HandedShaped
import Derived.SizedLaws
import Derived.Carry
set_option linter.unusedVariables false
set_option linter.unusedSimpArgs false
namespace Go.Rx
open Go.ChangeShapes Go.WideShapes Go.RowKit
variable {H : Type} {enc : TypeId × Value → H} {P : Program}
/-- The cells of fields, one behind the other. -/
def shFs (g : TypeId → Option (List CK)) (cells : TypeId → Nat) : List Field → Nat → Option (List CK)
  | [], _ => some []
  | f :: r, o => match g f.type, shFs g cells r (o + cells f.type) with
    | some l, some m => cond (Nat.beq f.offset o && Nat.beq (cells f.type) l.length) (some (l ++ m)) none
    | _, _ => none
/-- The cells of a type. -/
def shT (P : Program) : Nat → TypeId → Option (List CK)
  | 0, _ => none
  | d + 1, t => match P.underlying t with
    | some (.int k) => some [.int k k.min k.max]
    | some .string => some [.str]
    | some .bool => some [.bool]
    | some (.struct fs) => shFs (shT P d) P.cellsOf fs.toList 0
    | some (.array n e) => match shT P d e with
      | some l => cond (Nat.beq (P.cellsOf e) l.length) (some (List.replicate n l).flatten) none
      | none => none
    | _ => none
theorem RowOk.append : ∀ {a b : List CK} {x y : List Int}, RowOk a x → RowOk b y → RowOk (a ++ b) (x ++ y) ∧ rowV (a ++ b) (x ++ y) = rowV a x ++ rowV b y
  | [], _, [], _, _, h => ⟨h, rfl⟩
  | _ :: _, _, _ :: _, _, h, h' => by
    have := RowOk.append h.2 h'
    exact ⟨⟨h.1, this.1⟩, by simp only [List.cons_append, rowV, this.2]⟩
  | [], _, _ :: _, _, h, _ => h.elim
  | _ :: _, _, [], _, h, _ => h.elim
/-- What opening one type says. -/
def OpenAt (enc : TypeId × Value → H) (P : Program) (w : World) (base : Nat) (spare : Nat → Bool) (held : Bool) (t : TypeId) (sh : List CK) : Prop :=
  ∀ (n : Nat) (cs : List Value) (x : DataW H × List MemPlace), DataW.trod enc P w base spare held n t cs = some x → cs.length = sh.length → (∀ m ∈ x.1.weights P t, m ≤ reachBytes) →
    ∃ zs, RowOk sh zs ∧ cs = rowV sh zs ∧ x.2 = []
theorem open_fs {base n : Nat} {w : World} {spare : Nat → Bool} {held : Bool} {g : TypeId → Option (List CK)} (hg : ∀ t sh, g t = some sh → OpenAt enc P w base spare held t sh) {cs : List Value} : ∀ (fs : List Field) (o : Nat) (sh : List CK) (xs : List (DataW H × List MemPlace)), shFs g P.cellsOf fs o = some sh → cs.length = o + sh.length → xs.length = fs.length →
    (∀ (j : Nat) (f : Field), fs[j]? = some f → DataW.trod enc P w base spare held n f.type ((cs.drop f.offset).take (P.cellsOf f.type)) = xs[j]?) →
    (∀ m ∈ DataW.weightsEach P (fs.map (·.type)) (xs.map (·.1)), m ≤ reachBytes) →
    ∃ zs, RowOk sh zs ∧ cs.drop o = rowV sh zs ∧ xs.flatMap (·.2) = []
  | [], o, sh, xs, h, hl, hx, _, _ => by
    simp only [shFs, Option.some.injEq] at h
    subst h
    have : xs = [] := List.length_eq_zero_iff.1 (by simpa using hx)
    subst this
    exact ⟨[], trivial, List.drop_of_length_le (by simp at hl; omega), rfl⟩
  | f :: fs, o, sh, [], _, _, hx, _, _ => by simp at hx
  | f :: fs, o, sh, x :: xs, h, hl, hx, hf, hw => by
    unfold shFs at h
    cases h1 : g f.type with
    | none => simp [h1] at h
    | some l =>
      cases h2 : shFs g P.cellsOf fs (o + P.cellsOf f.type) with
      | none => simp [h1, h2] at h
      | some m =>
        simp only [h1, h2] at h
        cases hc : (Nat.beq f.offset o && Nat.beq (P.cellsOf f.type) l.length) with
        | false => simp [hc] at h
        | true =>
          simp only [hc, cond_true, Option.some.injEq] at h
          subst h
          simp only [Bool.and_eq_true] at hc
          have e1 := Nat.eq_of_beq_eq_true hc.1
          have e2 := Nat.eq_of_beq_eq_true hc.2
          have h0 := hf 0 f rfl
          simp only [List.getElem?_cons_zero] at h0
          simp only [List.map_cons, DataW.weightsEach, List.mem_append] at hw
          simp only [List.length_append] at hl
          obtain ⟨zs, a1, a2, a3⟩ := hg f.type l h1 n ((cs.drop f.offset).take (P.cellsOf f.type)) x h0 (by rw [List.length_take, List.length_drop, e1, e2]; omega) fun m' hm => hw m' (.inl hm)
          obtain ⟨ys, b1, b2, b3⟩ := open_fs (cs := cs) hg fs (o + P.cellsOf f.type) m xs h2 (by omega) (by simpa using hx) (fun j f' hj => by simpa using hf (j + 1) f' (by simpa using hj)) fun m' hm => hw m' (.inr hm)
          have hap := RowOk.append a1 b1
          refine ⟨zs ++ ys, hap.1, ?_, by simp [a3, b3]⟩
          rw [hap.2, ← a2, ← b2, e1, ← List.drop_drop]
          exact (List.take_append_drop _ _).symm
theorem open_arr {base n : Nat} {w : World} {spare : Nat → Bool} {held : Bool} {e : TypeId} {l : List CK} (hg : OpenAt enc P w base spare held e l) (hc : P.cellsOf e = l.length) {cs : List Value} : ∀ (k i : Nat) (xs : List (DataW H × List MemPlace)), cs.length = (i + k) * l.length → xs.length = k →
    (∀ j, j < k → DataW.trod enc P w base spare held n e ((cs.drop ((i + j) * P.cellsOf e)).take (P.cellsOf e)) = xs[j]?) →
    (∀ m ∈ DataW.weightsAll P e (xs.map (·.1)), m ≤ reachBytes) →
    ∃ zs, RowOk (List.replicate k l).flatten zs ∧ cs.drop (i * l.length) = rowV (List.replicate k l).flatten zs ∧ xs.flatMap (·.2) = []
  | 0, i, xs, hl, hx, _, _ => by
    have : xs = [] := List.length_eq_zero_iff.1 hx
    subst this
    exact ⟨[], trivial, List.drop_of_length_le (by rw [hl]; exact Nat.le_refl _), rfl⟩
  | k + 1, i, [], _, hx, _, _ => by simp at hx
  | k + 1, i, x :: xs, hl, hx, hf, hw => by
    have h0 := hf 0 (Nat.succ_pos k)
    simp only [List.getElem?_cons_zero, Nat.add_zero] at h0
    simp only [List.map_cons, DataW.weightsAll, List.mem_append] at hw
    have hl2 : cs.length = i * l.length + (l.length + k * l.length) := by rw [hl, Nat.add_mul, Nat.succ_mul]; omega
    obtain ⟨zs, a1, a2, a3⟩ := hg n _ x h0 (by rw [List.length_take, List.length_drop, hc]; omega) fun m' hm => hw m' (.inl hm)
    obtain ⟨ys, b1, b2, b3⟩ := open_arr hg hc k (i + 1) xs (by rw [hl]; congr 1; omega) (by simpa using hx) (fun j hj => by
      have := hf (j + 1) (by omega)
      rw [show i + (j + 1) = i + 1 + j by omega] at this
      simpa using this) fun m' hm => hw m' (.inr hm)
    have hap := RowOk.append a1 b1
    refine ⟨zs ++ ys, by rw [List.replicate_succ, List.flatten_cons]; exact hap.1, ?_, by simp [a3, b3]⟩
    rw [List.replicate_succ, List.flatten_cons, hap.2, ← a2, ← b2, hc, Nat.succ_mul, ← List.drop_drop]
    exact (List.take_append_drop _ _).symm
/-- A type of words and texts is opened. -/
theorem open_sh {base : Nat} {w : World} {spare : Nat → Bool} {held : Bool} : ∀ (d : Nat) (t : TypeId) (sh : List CK), shT P d t = some sh → OpenAt enc P w base spare held t sh
  | 0, t, sh, h => by simp [shT] at h
  | d + 1, t, sh, h => by
    have ih := open_sh (base := base) (w := w) (spare := spare) (held := held) d
    intro n cs x hx hl hw
    unfold shT at h
    split at h
    · rename_i k hu
      simp only [Option.some.injEq] at h
      subst h
      obtain ⟨z, rfl, rfl, hwf⟩ := DataW.trod_int hu hx
      have := wf_iff.1 hwf
      exact ⟨[z], ⟨this, trivial⟩, rfl, rfl⟩
    · rename_i hu
      simp only [Option.some.injEq] at h
      subst h
      obtain ⟨s, rfl, rfl, hs⟩ := DataW.trod_string hu hx
      have hb : s.data.toList.length ≤ mxL := hw _ (by simp [DataW.weights])
      refine ⟨[cOf s.data.toList], ⟨⟨cOf_nonneg _, HB_c hb⟩, trivial⟩, ?_, rfl⟩
      simp [rowV, CK.val, sOf_cOf, bA]
    · rename_i hu
      simp only [Option.some.injEq] at h
      subst h
      obtain ⟨b, rfl, rfl⟩ := DataW.trod_bool hu hx
      refine ⟨[cond b 1 0], ⟨?_, trivial⟩, ?_, rfl⟩
      · cases b <;> simp [CK.bd]
      · cases b <;> simp [rowV, CK.val]
    · rename_i fs hu
      obtain ⟨xs, m, rfl, rfl, hlen, hn, hel⟩ := DataW.trod_struct hu hx
      simp only [DataW.weights, hu] at hw
      obtain ⟨zs, a1, a2, a3⟩ := open_fs (n := m) ih fs.toList 0 sh xs h (by omega) (by rw [hn]; simp) (fun j f hj => hel j f (by simpa using hj)) hw
      exact ⟨zs, a1, by simpa using a2, a3⟩
    · rename_i k e hu
      cases h1 : shT P d e with
      | none => simp [h1] at h
      | some l =>
        simp only [h1] at h
        cases hc : Nat.beq (P.cellsOf e) l.length with
        | false => simp [hc] at h
        | true =>
          simp only [hc, cond_true, Option.some.injEq] at h
          subst h
          have hc := Nat.eq_of_beq_eq_true hc
          obtain ⟨xs, m, rfl, rfl, hlen, hn, hel⟩ := DataW.trod_array hu hx
          simp only [DataW.weights, hu] at hw
          have hfl : (List.replicate k l).flatten.length = k * l.length := by simp
          obtain ⟨zs, a1, a2, a3⟩ := open_arr (n := m) (ih e l h1) hc k 0 xs (by rw [hl, hfl]; simp) hn (fun j hj => by
            have := hel j hj
            simpa using this) hw
          exact ⟨zs, a1, by simpa using a2, a3⟩
    · cases h

/-! ### Slices -/
theorem rowAt_le {fits : TypeId → Bool} : ∀ (d : Nat) (e : TypeId) (count off n : Nat), rowAt P fits d e count off n = true → off ≤ count * P.cellsOf e
  | 0, _, _, _, _, h => by simp [rowAt] at h
  | d + 1, e, count, off, n, h => by
    unfold rowAt at h
    dsimp only at h
    split at h
    · cases h
    · rename_i hs
      have hdm := Nat.div_add_mod off (P.cellsOf e)
      have hlt := Nat.mod_lt off (Nat.pos_of_ne_zero hs)
      rw [Bool.or_eq_true] at h
      rcases h with h | h
      · simp only [Bool.and_eq_true, beq_iff_eq, decide_eq_true_eq] at h
        have h1 : off / P.cellsOf e ≤ count := by omega
        have := Nat.mul_le_mul_left (P.cellsOf e) h1
        rw [Nat.mul_comm count]; omega
      · rw [Bool.and_eq_true] at h
        have h1 : off / P.cellsOf e < count := by simpa using h.1
        have h1 : off / P.cellsOf e + 1 ≤ count := h1
        have := Nat.mul_le_mul_left (P.cellsOf e) h1
        rw [Nat.mul_add, Nat.mul_one] at this
        rw [Nat.mul_comm count]; omega
theorem liesAt_le : ∀ (d : Nat) (e : TypeId) (count off : Nat) (u : TypeId) (n : Nat), liesAt P d e count off u n = true → off ≤ count * P.cellsOf e
  | 0, _, _, _, _, _, h => by simp [liesAt] at h
  | d + 1, e, count, off, u, n, h => by
    unfold liesAt at h
    rw [Bool.or_eq_true] at h
    rcases h with h | h
    · exact rowAt_le _ _ _ _ _ h
    · split at h
      · exact liesAt_le d e count off _ _ h
      · cases h
theorem cells_get {base : Nat} {w : World} {a : Addr} {n : Nat} {cs : List Value} (h : w.cells? base a n = some cs) : cs.length = n ∧ ∀ j, j < n → w.cell? (a.add j) = cs[j]? := by
  unfold World.cells? at h
  split at h
  · have hl := List.length_of_mapM_some' h
    refine ⟨by simpa using hl, fun j hj => ?_⟩
    have := List.get_of_mapM_some' h j j (by simp [hj])
    exact this
  · cases h
where
  List.length_of_mapM_some' {α β : Type} {f : α → Option β} : ∀ {l : List α} {r : List β}, l.mapM f = some r → r.length = l.length
    | [], r, h => by simp at h; subst h; rfl
    | x :: l, r, h => by
      rw [List.mapM_cons] at h
      cases hx : f x with
      | none => simp [hx] at h
      | some y =>
        cases hl : l.mapM f with
        | none => simp [hx, hl] at h
        | some s =>
          simp [hx, hl] at h
          subst h
          simp [List.length_of_mapM_some' hl]
  List.get_of_mapM_some' {α β : Type} {f : α → Option β} : ∀ {l : List α} {r : List β}, l.mapM f = some r → ∀ (j : Nat) (x : α), l[j]? = some x → f x = r[j]?
    | [], r, h, j, x, hx => by simp at hx
    | y :: l, r, h, j, x, hx => by
      rw [List.mapM_cons] at h
      cases hy : f y with
      | none => simp [hy] at h
      | some z =>
        cases hl : l.mapM f with
        | none => simp [hy, hl] at h
        | some s =>
          simp [hy, hl] at h
          subst h
          cases j with
          | zero => simp at hx; subst hx; simp [hy]
          | succ j => simpa using List.get_of_mapM_some' hl j x (by simpa using hx)
theorem rows_of {cells : Array Value} {sh : List CK} : ∀ (len o : Nat), o ≤ cells.size → (∀ i, i < len → ∃ zs, RowOk sh zs ∧ ∀ j, j < sh.length → cells[o + i * sh.length + j]? = (rowV sh zs)[j]?) → (0 < len → 0 < sh.length) →
    ∃ rows : List (List Int), rows.length = len ∧ RowsAt cells o sh rows
  | 0, o, ho, _, _ => ⟨[], rfl, fun _ h => by simp at h, cells.toList.take o, cells.toList.drop o, by simp [flatV], by simp; omega⟩
  | len + 1, o, ho, h, hp => by
    obtain ⟨zs, a1, a2⟩ := h 0 (Nat.succ_pos _)
    have hp := hp (Nat.succ_pos _)
    have hv := rowV_len a1
    have hlast := a2 (sh.length - 1) (by omega)
    have hsz : o + sh.length ≤ cells.size := by
      have : (rowV sh zs)[sh.length - 1]? ≠ none := by rw [List.getElem?_eq_getElem (by omega)]; simp
      rw [← hlast] at this
      have := Array.getElem?_ne_none_iff'.1 this
      omega
    obtain ⟨rows, b1, b2, pre, post, b3, b4⟩ := rows_of len (o + sh.length) hsz (fun i hi => by
      obtain ⟨ys, c1, c2⟩ := h (i + 1) (by omega)
      refine ⟨ys, c1, fun j hj => ?_⟩
      rw [← c2 j hj]
      congr 1
      rw [Nat.succ_mul]; omega) fun _ => hp
    refine ⟨zs :: rows, by simp [b1], fun row hr => ?_, cells.toList.take o, post, ?_, by simp; omega⟩
    · rcases List.mem_cons.1 hr with rfl | hr
      · exact a1
      · exact b2 row hr
    · have e1 : pre = cells.toList.take (o + sh.length) := by
        rw [b3, List.append_assoc, List.take_left' b4]
      have e2 : pre = cells.toList.take o ++ rowV sh zs := by
        rw [e1, List.take_add]
        congr 1
        refine List.ext_getElem? fun j => ?_
        by_cases hj : j < sh.length
        · have := a2 j hj
          rw [List.getElem?_take, if_pos hj, List.getElem?_drop, ← this]
          simp
        · rw [List.getElem?_eq_none (by simp; omega), List.getElem?_eq_none (by omega)]
      have e3 : cells.toList = cells.toList.take o ++ rowV sh zs ++ flatV sh rows ++ post := by rw [← e2]; exact b3
      have e4 : flatV sh (zs :: rows) = rowV sh zs ++ flatV sh rows := by simp [flatV]
      rw [e4, ← List.append_assoc]; exact e3
where
  Array.getElem?_ne_none_iff' {α : Type} {a : Array α} {i : Nat} : a[i]? ≠ none ↔ i < a.size := by simp

/-! ### Parameters -/
/-- The type of a parameter. -/
def BTy (P : Program) (t : TypeId) : BD → Prop
  | .d (.int k lo hi) => P.underlying t = some (.int k) ∧ lo = k.min ∧ hi = k.max
  | .d .bool => P.underlying t = some .bool
  | .d .str => P.underlying t = some .string
  | .d (.agg k n lo hi) => ∃ e, P.underlying t = some (.array n e) ∧ shT P 8 t = some (List.replicate n (.int k lo hi)) ∧ P.cellsOf t = n
  | .d (.mix l) => ((∃ fs, P.underlying t = some (.struct fs)) ∨ ∃ n e, P.underlying t = some (.array n e)) ∧ shT P 8 t = some l ∧ P.cellsOf t = l.length
  | .d (.strk _) => False
  | .rd sh => ∃ e, P.underlying t = some (.slice e) ∧ shT P 8 e = some sh ∧ P.cellsOf e = sh.length ∧ shOk sh = true
  | .ow _ _ => False
theorem RowOk.inB : ∀ {sh : List CK} {zs : List Int}, RowOk sh zs → inB (sh.map CK.bd) zs
  | [], [], _ => trivial
  | _ :: _, _ :: _, h => ⟨h.1.1, h.1.2, RowOk.inB h.2⟩
  | [], _ :: _, h => h.elim
  | _ :: _, [], h => h.elim
theorem rowV_zip : ∀ (sh : List CK) (zs : List Int), rowV sh zs = List.zipWith CK.val sh zs
  | [], _ => by simp [rowV]
  | _ :: _, [] => by simp [rowV]
  | c :: sh, z :: zs => by simp only [rowV, List.zipWith_cons_cons, rowV_zip sh zs]
theorem rowV_rep (k : IntKind) (lo hi : Int) : ∀ (n : Nat) (zs : List Int), zs.length = n → rowV (List.replicate n (.int k lo hi)) zs = zs.map (Value.int k)
  | 0, [], _ => rfl
  | n + 1, z :: zs, h => by
    rw [List.replicate_succ]
    simp only [rowV, List.map_cons, rowV_rep k lo hi n zs (by simpa using h)]
    rfl
  | 0, _ :: _, h => by simp at h
  | n + 1, [], h => by simp at h
theorem map_rep (k : IntKind) (lo hi : Int) : ∀ n : Nat, (List.replicate n (CK.int k lo hi)).map CK.bd = repB lo hi n
  | 0 => rfl
  | n + 1 => by rw [List.replicate_succ, List.map_cons, map_rep k lo hi n]; rfl
theorem open_B {b0 : Nat} {w : World} {t : TypeId} {b : BD} {v : Value} {x : DataW H} {ps : List MemPlace} (ht : BTy P t b) (hval : Value.okWide P w .any b0 t v) (hd : DataW.Trod enc P w 0 (fun _ => true) true t v x ps) (hw : ∀ m ∈ x.weights P t, m ≤ reachBytes) :
    ∃ zs, inB b.bds zs ∧ zs.length = b.num ∧ b.at (fun g => g < w.heap.size) (fun _ => False) w zs v := by
  obtain ⟨fuel, hf⟩ := hd
  have agg : ((∃ fs, P.underlying t = some (.struct fs)) ∨ ∃ n e, P.underlying t = some (.array n e)) → ∃ cs, v = .agg cs ∧ cs.size = P.cellsOf t := fun h => by
    unfold Value.okWide at hval
    rcases h with ⟨fs, h⟩ | ⟨n, e, h⟩
    · rw [h] at hval; obtain ⟨cs, a, b, _⟩ := hval; exact ⟨cs, a, b⟩
    · rw [h] at hval; obtain ⟨cs, a, b, _⟩ := hval; exact ⟨cs, a, b⟩
  cases b with
  | ow _ _ => exact ht.elim
  | d y =>
    cases y with
    | strk l => exact ht.elim
    | int k lo hi =>
      obtain ⟨h1, rfl, rfl⟩ := ht
      obtain ⟨n, rfl⟩ := okWide_int h1 hval
      obtain ⟨n', h, hx, hwf⟩ := DataW.trod_int h1 hf
      simp [Value.cells] at h
      subst h
      have := wf_iff.1 hwf
      exact ⟨[n], ⟨this.1, this.2, trivial⟩, rfl, rfl⟩
    | bool =>
      obtain ⟨c, rfl⟩ := okWide_bool ht hval
      refine ⟨[cond c 1 0], ?_, rfl, ?_⟩
      · cases c <;> simp [BD.bds, D.bds, inB]
      · cases c <;> simp [BD.at, D.val]
    | str =>
      obtain ⟨s, rfl⟩ := okWide_string ht hval
      obtain ⟨s', h, hx, hs⟩ := DataW.trod_string ht hf
      simp [Value.cells] at h
      subst h
      simp only [Prod.mk.injEq] at hx
      have hb : s.data.toList.length ≤ mxL := hw _ (by rw [hx.1]; simp [DataW.weights])
      exact ⟨[cOf s.data.toList], ⟨cOf_nonneg _, HB_c hb, trivial⟩, rfl, by simp [BD.at, D.val, sOf_cOf, bA]⟩
    | agg k n lo hi =>
      obtain ⟨e, h1, h2, h3⟩ := ht
      obtain ⟨cs, rfl, hsz⟩ := agg (.inr ⟨n, e, h1⟩)
      obtain ⟨zs, a1, a2, _⟩ := open_sh 8 t _ h2 fuel _ _ hf (by show cs.toList.length = _; simp [hsz, h3]) hw
      have hl : zs.length = n := by have := a1.len; simpa using this
      have hcs : cs = (rowV (List.replicate n (.int k lo hi)) zs).toArray := by rw [← a2]; simp [Value.cells]
      refine ⟨zs, ?_, hl, ?_⟩
      · have := a1.inB; rw [map_rep] at this; exact this
      · show Value.agg cs = _
        rw [hcs, rowV_rep k lo hi n zs hl]
        simp only [D.val, ← hl, List.take_length]
    | mix l =>
      obtain ⟨h1, h2, h3⟩ := ht
      obtain ⟨cs, rfl, hsz⟩ := agg h1
      obtain ⟨zs, a1, a2, _⟩ := open_sh 8 t _ h2 fuel _ _ hf (by show cs.toList.length = _; simp [hsz, h3]) hw
      have hl : zs.length = l.length := a1.len
      have hcs : cs = (rowV l zs).toArray := by rw [← a2]; simp [Value.cells]
      refine ⟨zs, a1.inB, hl, ?_⟩
      show Value.agg cs = _
      rw [hcs, rowV_zip]; rfl
  | rd sh =>
    obtain ⟨e, h1, h2, h3, hsok⟩ := ht
    have h4 : 0 < sh.length := by
      unfold shOk at hsok
      simp only [Bool.and_eq_true, Nat.blt_eq] at hsok
      exact hsok.1.2
    obtain ⟨a, len, cap, rfl⟩ := okWide_slice h1 hval
    rcases DataW.trod_slice h1 hf with ⟨h, _⟩ | ⟨ad, len', cap', elems, rest, n, rfl, h, hx, _, hlc, hcm, hel, helem, hsp, hns⟩
    · simp [Value.cells] at h
      obtain ⟨rfl, rfl, rfl⟩ := h
      exact ⟨[0], ⟨Int.le_refl _, RB_nonneg, trivial⟩, rfl, .inl ⟨rfl, rOf_zero⟩⟩
    · simp [Value.cells] at h
      obtain ⟨rfl, rfl, rfl⟩ := h
      have hhas : w.has P .any b0 ad e cap := by
        unfold Value.okWide at hval
        rw [h1] at hval
        simp only [Cell.okWide, Cell.ok, h1] at hval
        exact hval.2.2
      obtain ⟨_, hspot, row, cells0, hsh, hlies⟩ := hhas
      obtain ⟨g, o, sp⟩ := ad
      simp only at hspot
      subst hspot
      obtain ⟨cells, tt, fz, hheap, hcz⟩ : ∃ cells tt fz, w.heap[g]? = some (.cells cells tt fz) ∧ cells.size = cells0 ∧ tt = row := by
        unfold World.shape? at hsh
        split at hsh
        · rename_i c el fz hb
          simp only [Option.some.injEq, Prod.mk.injEq] at hsh
          exact ⟨c, el, fz, hb, hsh.2, hsh.1⟩
        · cases hsh
      have ho : o ≤ cells.size := by
        have := liesAt_le _ _ _ _ _ _ hlies
        have h6 := Nat.div_mul_le_self cells0 (P.cellsOf row)
        have h7 : o ≤ cells0 / P.cellsOf row * P.cellsOf row := this
        omega
      simp only [Prod.mk.injEq] at hx
      obtain ⟨hx1, hx2⟩ := hx
      rw [hx1] at hw
      simp only [DataW.weights, h1, List.mem_cons, List.mem_append] at hw
      obtain ⟨rows, r1, r2⟩ := rows_of (cells := cells) (sh := sh) len o ho (fun i hi => by
        have := helem i hi
        cases hy : elems[i]? with
        | none => rw [List.getElem?_eq_none_iff] at hy; omega
        | some y =>
          rw [hy, Option.bind_eq_some_iff] at this
          obtain ⟨cs, g1, g2⟩ := this
          obtain ⟨l1, l2⟩ := cells_get g1
          obtain ⟨zs, z1, z2, _⟩ := open_sh 8 e sh h2 n cs y g2 (by rw [l1, h3]) fun m hm => by
            refine hw m (.inr (.inl ?_))
            exact mem_all hy hm
          refine ⟨zs, z1, fun j hj => ?_⟩
          have := l2 j (by rw [h3]; exact hj)
          rw [addr_add, addr_add] at this
          simp only [World.cell?, hheap, Option.isSome_none, Bool.false_eq_true, if_false] at this
          rw [← z2, ← this, h3]) fun _ => h4
      have hcap : (cap : Int) ≤ 9223372036854775807 := by unfold maxLen at hcm; omega
      have hrl : rows.length ≤ maxLen := by omega
      have hRB : rc rows ≤ RB := RB_c hrl fun r hr => (r2.1 r hr).row hsok
      refine ⟨[rc rows], ⟨rc_nonneg _, hRB, trivial⟩, rfl, .inr ⟨g, o, cap, cells, tt, fz, ?_, ?_, ?_, hheap, ?_⟩⟩
      · simp [rOf_rc, r1]
      · simp only [List.getD_cons_zero, rOf_rc, r1]; exact ⟨hlc, hcap⟩
      · exact (Array.getElem?_eq_some_iff.1 hheap).1
      · simp only [List.getD_cons_zero, rOf_rc]; exact r2
where
  mem_all {e : TypeId} : ∀ {l : List (DataW H × List MemPlace)} {i : Nat} {y : DataW H × List MemPlace} {m : Nat}, l[i]? = some y → m ∈ y.1.weights P e → m ∈ DataW.weightsAll P e (l.map (·.1))
    | x :: l, 0, y, m, h, hm => by
      simp only [List.getElem?_cons_zero, Option.some.injEq] at h
      subst h
      simp only [List.map_cons, DataW.weightsAll, List.mem_append]
      exact .inl hm
    | x :: l, i + 1, y, m, h, hm => by
      simp only [List.map_cons, DataW.weightsAll, List.mem_append]
      exact .inr (mem_all (by simpa using h) hm)
    | [], _, _, _, h, _ => by simp at h

/-- All parameters. -/
def BTys (P : Program) : List TypeId → List BD → Prop
  | [], [] => True
  | t :: ts, b :: bs => BTy P t b ∧ BTys P ts bs
  | _, _ => False
theorem BD.at_app {F N : Nat → Prop} {w : World} (b : BD) {zs l : List Int} {v : Value} (h : zs.length = b.num) (ha : b.at F N w zs v) : b.at F N w (zs ++ l) v := by
  cases b with
  | d x =>
    show v = x.val (zs ++ l)
    rw [D.val_app x (l := l) h]; exact ha
  | rd sh => match zs, h with | [z], _ => exact ha
  | ow sh e => match zs, h with | [z], _ => exact ha
theorem open_Bs {b0 : Nat} {w : World} : ∀ {ts : List TypeId} {bs : List BD} {vs : List Value} {xs : List (DataW H)} {ps : List MemPlace}, BTys P ts bs → (∀ (j : Nat) t v, ts[j]? = some t → vs[j]? = some v → Value.okWide P w .any b0 t v) → DataW.TrodAll enc P w 0 (fun _ => true) true ts vs xs ps →
    (∀ m ∈ DataW.weightsEach P ts xs, m ≤ reachBytes) → ∃ zs, inB (bbds bs) zs ∧ atL (fun g => g < w.heap.size) (fun _ => False) w bs zs vs ∧ xs.length = bs.length
  | [], [], [], [], ps, _, _, h, _ => ⟨[], trivial, trivial, rfl⟩
  | [], [], _ :: _, _, _, _, _, h, _ => h.elim
  | [], [], [], _ :: _, _, _, _, h, _ => h.elim
  | [], _ :: _, _, _, _, h, _, _, _ => h.elim
  | _ :: _, [], _, _, _, h, _, _, _ => h.elim
  | _ :: _, _ :: _, [], _, _, _, _, h, _ => by cases h
  | _ :: _, _ :: _, _ :: _, [], _, _, _, h, _ => by cases h
  | t :: ts, b :: bs, v :: vs, x :: xs, ps, ht, hv, h, hw => by
    obtain ⟨p, q, h1, h2, rfl⟩ := h
    simp only [DataW.weightsEach, List.mem_append] at hw
    obtain ⟨zs, a1, a2, a3⟩ := open_B ht.1 (hv 0 t v rfl rfl) h1 fun m hm => hw m (.inl hm)
    obtain ⟨ys, b1, b2, b3⟩ := open_Bs ht.2 (fun j t v h1 h2 => hv (j + 1) t v (by simpa using h1) (by simpa using h2)) h2 fun m hm => hw m (.inr hm)
    refine ⟨zs ++ ys, inB_app a1 b1, ⟨BD.at_app b a2 a3, ?_⟩, by simp [b3]⟩
    rw [← a2, List.drop_left]; exact b2
theorem trodAll_below (hl : laidOutB P = true) {W W' : World} (hb : Below W.heap.size W W') : ∀ {ts : List TypeId} {vs : List Value} {xs : List (DataW H)} {ps : List MemPlace}, (∀ t ∈ ts, P.readableRec t = true ∧ t < P.types.size) → DataW.TrodAll enc P W 0 (fun _ => true) true ts vs xs ps → (∀ x ∈ ps, x.block < W.heap.size) →
    DataW.TrodAll enc P W' 0 (fun b => decide (b < W.heap.size)) true ts vs xs ps
  | [], [], [], _, _, h, _ => h
  | [], _ :: _, _, _, _, h, _ => h.elim
  | [], [], _ :: _, _, _, h, _ => h.elim
  | _ :: _, [], _, _, _, h, _ => by cases h
  | _ :: _, _ :: _, [], _, _, h, _ => by cases h
  | t :: ts, v :: vs, x :: xs, ps, hr, h, hlt => by
    obtain ⟨p, q, h1, h2, rfl⟩ := h
    exact ⟨p, q, Below.trod hl (hr t (by simp)).1 (hr t (by simp)).2 h1 hb fun x hx => hlt x (List.mem_append.2 (.inl hx)), trodAll_below hl hb (fun t ht => hr t (List.mem_cons_of_mem _ ht)) h2 fun x hx => hlt x (List.mem_append.2 (.inr hx)), rfl⟩
theorem change_and_sh {C : Checked} {os : Os} {f : FuncId} {fn : Func} {s : ChangeSpec} {apart : Bool} {X : World → Array Value → Prop}
    (hX : ∀ (w w' : World) (args : Array Value), w.heap = w'.heap → X w args → X w' args)
    (own : ownKnob C.prog.godebug = none) (started : os.Started) (noInit : C.prog.inits.idxOf? f = none) (hfn : C.prog.funcs[f]? = some fn)
    (witness : ∃ (w : World) (tape : Tape) (i : Input), w.os = os ∧ (w.forCall tape i).Shaped C.prog ∧ i.vars = [] ∧ Input.okWide C.prog (w.forCall tape i) .any w.heap.size f i ∧
      ((s.pre enc C.prog fn [] apart (w.forCall tape i).memory i.args ∧ X (w.forCall tape i).memory i.args) ∧ sizedMet enc C.prog fn (OpenSpec.ofChange s) apart (w.forCall tape i).memory i.args) ∧ ({} : Assume).holds C.prog (lone (Frame.enter C.prog f i.args .normal) [] (w.forCall tape i)))
    (contract : ∀ (W : World) (base : Nat) (args : Array Value) (ds gs : List (DataW H)) (before : List MemPlace),
      (∀ (j : Nat) t v, fn.params[j]? = some t → args[j]? = some v → Value.okWide C.prog W .any base t v) →
      DataW.Whole enc C.prog fn.params.toList s.vars apart W args.toList ds gs before → (DataW.weightsEach C.prog (fn.params.toList ++ s.plain.varTypes C.prog) (ds ++ gs)).all (· ≤ reachBytes) = true → X W args → W.ShapedOpen C.prog →
      Calls C.prog f args W fun e W' => ∃ v, e = .returned v ∧ s.post enc C.prog fn apart true false false W args v W') :
    ReturnsInHanded {} C os f .any (fun w args => (s.pre enc C.prog fn [] apart w args ∧ X w args) ∧ sizedMet enc C.prog fn (OpenSpec.ofChange s) apart w args) (s.post enc C.prog fn apart true false false) := by
  refine returnsInHanded_of_calls own started noInit witness ?_
  intro w tape i _ hsh _ hok hpre hholds
  obtain ⟨_, _, _, fn', hfn', _, _, _, _, hval⟩ := hok
  have e : fn' = fn := Option.some.inj (hfn'.symm.trans hfn)
  subst e
  obtain ⟨⟨⟨ds, gs, before, hw, hc⟩, hx⟩, hz⟩ := hpre
  have hw' := DataW.Whole.of_heap (w' := w.forCall tape i) (by rfl) hw
  refine (contract (w.forCall tape i) w.heap.size i.args ds gs before hval hw' (hz.weights hw) (hX _ _ _ (by rfl) hx) hsh).mono fun e W' ⟨v, he, hp⟩ => ?_
  subst he
  exact ChangeSpec.post_blind hp
/-- **The row of a law, out of its call.** -/
theorem law_lift {C : Checked} {os : Os} {f : FuncId} {fn : Func} {s : ChangeSpec} {X : World → Array Value → Prop} {apart : Bool} {ts : List TypeId} {tb : TypeId} {bs : List BD}
    (hX : ∀ (w w' : World) (args : Array Value), w.heap = w'.heap → X w args → X w' args)
    (own : ownKnob C.prog.godebug = none) (started : os.Started) (noInit : C.prog.inits.idxOf? f = none) (hfn : C.prog.funcs[f]? = some fn)
    (witness : ∃ (w : World) (tape : Tape) (i : Input), w.os = os ∧ (w.forCall tape i).Shaped C.prog ∧ i.vars = [] ∧ Input.okWide C.prog (w.forCall tape i) .any w.heap.size f i ∧
      ((s.pre enc C.prog fn [] apart (w.forCall tape i).memory i.args ∧ X (w.forCall tape i).memory i.args) ∧ sizedMet enc C.prog fn (OpenSpec.ofChange s) apart (w.forCall tape i).memory i.args) ∧ ({} : Assume).holds C.prog (lone (Frame.enter C.prog f i.args .normal) [] (w.forCall tape i)))
    (hp : fn.params.toList = ts) (hr : fn.resultTypes.toList = [tb]) (hr1 : fn.resultTypes.size = 1) (htb : C.prog.underlying tb = some .bool) (hty : BTys C.prog ts bs) (hlo : laidOutB C.prog = true) (hrd : (ts.all fun t => C.prog.readableRec t && decide (t < C.prog.types.size)) = true) (hvars : s.vars = [])
    (hs : ∀ xs : List (DataW H), xs.length = bs.length → s.fn H xs = { results := [.lit (.bool true)], args := xs, vars := [] })
    (contract : ∀ (W : World) (zs : List Int) (vs : List Value), inB (bbds bs) zs → atL (fun g => g < W.heap.size) (fun _ => False) W bs zs vs → X W vs.toArray → W.ShapedOpen C.prog → Calls C.prog f vs.toArray W fun e W' => e = .returned (.bool true) ∧ W.Extends W') :
    ReturnsInHanded {} C os f .any (fun w args => (s.pre enc C.prog fn [] apart w args ∧ X w args) ∧ sizedMet enc C.prog fn (OpenSpec.ofChange s) apart w args) (s.post enc C.prog fn apart true false false) := by
  refine change_and_sh hX own started noInit hfn witness ?_
  intro W base args xs gs before hval0 hW hsz hx hsh
  have hW' := hW
  have hlt := hW.lt
  obtain ⟨p, q, hA, hV, rfl, hfz, hnd⟩ := hW
  rw [hp] at hA
  rw [hvars] at hV
  obtain ⟨rfl, rfl⟩ : gs = [] ∧ q = [] := by
    cases gs with
    | nil => exact ⟨rfl, hV⟩
    | cons g r => exact absurd hV (by intro h; cases h)
  have hval : ∀ (j : Nat) t v, ts[j]? = some t → args.toList[j]? = some v → Value.okWide C.prog W .any base t v := fun j t v h1 h2 => hval0 j t v (by rw [← hp] at h1; simpa using h1) (by simpa using h2)
  have e : (fn.params.toList ++ s.plain.varTypes C.prog) = ts := by rw [hp]; simp [DataSpec.varTypes, ChangeSpec.plain, hvars]
  rw [e, List.append_nil, List.all_eq_true] at hsz
  obtain ⟨zs, hz, hat, hlen⟩ := open_Bs hty hval hA fun n hn => by simpa using hsz n hn
  have hargs : args = args.toList.toArray := by simp
  rw [hargs] at hx
  have hcall : Calls C.prog f args W fun e W' => e = .returned (.bool true) ∧ W.Extends W' := by
    have := contract W zs args.toList hz hat hx hsh
    rwa [← hargs] at this
  refine hcall.mono fun e W' ⟨he, hw⟩ => ?_
  subst he
  have hfn' := hs (xs ++ []) (by simp [hlen])
  have hbelow : Below W.heap.size W W' := ⟨hw.os, hw.tape, hw.output, hw.size, fun i hi => hw.block i hi⟩
  refine ⟨_, rfl, _, _, _, [], p, [], hW', ?_, ?_, ?_, keptBut_extends hw _, fun h => by cases h⟩
  · rw [hfn', hr, hr1]; exact trodAll_mk1 (shut_bool htb true)
  · rw [hfn', hp, List.append_nil]
    exact trodAll_below hlo hbelow (fun t ht => by
      have := List.all_eq_true.1 hrd t ht
      simpa using this) hA fun x hx => hlt x (by simp [hx])
  · rw [hfn', hvars]; rfl
/-- Numbers alone. -/
theorem atL_d {F N : Nat → Prop} {w : World} : ∀ {ds : List D} {zs : List Int} {vs : List Value}, atL F N w (ds.map BD.d) zs vs → vs = valL ds zs
  | [], _, [], _ => rfl
  | [], _, _ :: _, h => h.elim
  | _ :: _, _, [], h => by simp [atL] at h
  | d :: ds, zs, v :: vs, h => by
    obtain ⟨h1, h2⟩ := h
    have h1 : v = d.val zs := h1
    rw [h1, atL_d h2]; rfl
theorem bbds_d : ∀ ds : List D, bbds (ds.map BD.d) = bdsL ds
  | [] => rfl
  | d :: ds => by simp only [List.map_cons, bbds, BD.bds, bdsL, bbds_d ds]
/-! ### Contracts with slices, by blocks -/
section
variable {gl : Glo} {wb : World} {sh : Nat → List Nat × List Nat} {SB : Nat → List (List Int) → List (List Int) → Prop}
/-- What is to be shown at a function's end. -/
def KBb (SB : Nat → List (List Int) → List (List Int) → Prop) (res : List BD) (id : Nat) : List (List Int) → List (List Int) → Prop := fun zs rs => inB (bbds res) rs.flatten ∧ SB id zs rs
theorem bok_vcf {c : BCon} {bcs : List BCon} {cal : Cal} {li : FuncId → Nat → Option LoopI} {rounds d : Nat} {lsh : Nat → List Nat} {lens : List Nat} (hm : P.follows .mixedOrders = true) (hcal : ∀ r ex ro, CalOk (flatS sh SB) P gl ⟨wb, r, ex, ro⟩ cal) (hg : GOk gl ⟨wb, wb, fun _ => False, fun _ => False⟩)
    (hbc : ∀ b ∈ bcs, b.Ok P wb (flatS sh SB b.id)) (hf : goB P c.f = true) (hl : lens = (sh c.id).1) (hd : numsBD c.res = (sh c.id).2)
    (hv : VcF sh lsh SB (KBb SB c.res c.id) lens (bbds c.args) c.res (c.tree (bcOf bcs) P gl cal li rounds d)) : c.Ok P wb (flatS sh SB c.id) := by
  refine BCon.of_vc (li := li) (rounds := rounds) (d := d) hm hcal hg hbc (enters hf) (allB_intro fun zs hz => ?_)
  have h := allB_elim (VcF_sound hv) hz
  simp only [KBb, splitL_flatten] at h
  rw [hl, hd] at h
  exact h
/-- A law with slices, called. -/
theorem law_b {c : BCon} {W : World} {vs : List Value} {zs : List Int} (hc : c.Ok P W (flatS sh SB c.id)) (hres : c.res = [.d .bool]) (hpre : c.pre = 0) (hz : inB (bbds c.args) zs) (hat : atL (fun g => g < W.heap.size) (fun _ => False) W c.args zs vs) (h1 : ∀ a z, SB c.id a [[z]] → z = 1) (h2 : (sh c.id).2 = [1]) :
    Calls P c.f vs.toArray W fun e W' => e = .returned (.bool true) ∧ W.Extends W' := by
  refine (hc.2 _ W vs zs (World.Extends.refl W) hz (by rw [hpre]; trivial) hat).mono fun e W' ⟨hx, rs, us, hb, hs, hr, he⟩ => ⟨?_, hx⟩
  rw [hres] at hb hr
  match rs, hb, us, hr, hs, he with
  | [z], hb, [u], hr, hs, he =>
    unfold flatS at hs
    rw [h2] at hs
    have e1 : z = 1 := h1 _ z hs
    subst e1
    have : u = .bool true := hr.1
    subst this
    rw [he]; rfl
  | [z], hb, [], hr, hs, he => exact hr.elim
  | [z], hb, _ :: _ :: _, hr, hs, he => exact hr.2.elim
  | [], hb, _, _, _, _ => exact hb.elim
  | _ :: _ :: _, hb, _, _, _, _ => exact hb.2.2.elim
/-- A law of numbers alone, called. -/
theorem law_c {c : Con} {W : World} {vs : List Value} {zs : List Int} {F N : Nat → Prop} (hc : c.OkF P W (flatS sh SB c.id)) (hgo : goB P c.f = true) (hres : c.res = [.bool]) (hz : inB (bbds (c.args.map BD.d)) zs) (hat : atL F N W (c.args.map BD.d) zs vs) (h1 : ∀ a z, SB c.id a [[z]] → z = 1) (h2 : (sh c.id).2 = [1]) :
    Calls P c.f vs.toArray W fun e W' => e = .returned (.bool true) ∧ W.Extends W' := by
  rw [bbds_d] at hz
  have hv := atL_d hat
  subst hv
  obtain ⟨rs, hb, hs, hcall⟩ := hc zs hz
  have hr : resVal c.res rs = .bool true := by
    rw [hres] at hb ⊢
    match rs, hb with
    | [z], hb =>
      unfold flatS at hs
      rw [h2] at hs
      have e1 : z = 1 := h1 _ z hs
      subst e1; rfl
    | [], hb => exact hb.elim
    | _ :: _ :: _, hb => exact hb.2.2.elim
  have hcall := hcall W (World.Extends.refl W)
  rw [hr] at hcall
  rcases hcall with h | h
  · have he := enters hgo (valL c.args zs).toArray W
    exact absurd (he.symm.trans h) (by intro e; cases e)
  · exact h.2
end
end Go.Rx
