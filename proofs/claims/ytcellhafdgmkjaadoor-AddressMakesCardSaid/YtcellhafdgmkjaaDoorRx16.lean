/- Rows of laws whose parameters are integers, truth values and arrays of integers: opened, shut, and the row out of a contract. -/
import Derived.ChangeMaps5
import Derived.Test.YtcellhafdgmkjaaDoorRx15
import Derived.ChangeSame
import Derived.OpenShut
import Derived.Handed
import Derived.ProofKit
import Derived.LaidMore
import Derived.Stop.Joined
set_option linter.unusedVariables false
set_option linter.unusedSimpArgs false
namespace Go.Rx
open Go.ChangeShapes Go.WideShapes Go.RowKit
variable {H : Type} {enc : TypeId × Value → H} {P : Program}

theorem wf_iff {k : IntKind} {z : Int} : (Lit.int k z).wf = true ↔ k.min ≤ z ∧ z ≤ k.max := by simp [Lit.wf]
def CKTy (P : Program) (t : TypeId) : CK → Prop
  | .int k lo hi => P.underlying t = some (.int k) ∧ lo = k.min ∧ hi = k.max
  | .str => P.underlying t = some .string
  | .bool => P.underlying t = some .bool
def CK.dat : CK → Int → DataW H
  | .int k _ _, z => .lit (.int k z)
  | .str, z => .lit (.string (sOf z))
  | .bool, z => .lit (.bool (decide (z = 1)))
def mixTy (P : Program) : Nat → List CK → List Field → Prop
  | _, [], [] => True
  | i, c :: cs, f :: fs => f.offset = i ∧ P.cellsOf f.type = 1 ∧ CKTy P f.type c ∧ mixTy P (i + 1) cs fs
  | _, _, _ => False
theorem open_CK {base n : Nat} {w : World} {spare : Nat → Bool} {held : Bool} {t : TypeId} {c : CK} {cs : List Value} {x : DataW H × List MemPlace} (ht : CKTy P t c) (hl : cs.length = 1) (hd : DataW.trod enc P w base spare held n t cs = some x) :
    ∃ z, c.bd.1 ≤ z ∧ z ≤ c.bd.2 ∧ cs = [c.val z] ∧ x = (c.dat z, []) := by
  obtain ⟨v, rfl⟩ := List.length_eq_one_iff.1 hl
  cases c with
  | int k lo hi =>
    obtain ⟨h1, rfl, rfl⟩ := ht
    obtain ⟨z, h, hx, hw⟩ := DataW.trod_int h1 hd
    exact ⟨z, (wf_iff.1 hw).1, (wf_iff.1 hw).2, h, hx⟩
  | str =>
    obtain ⟨s', h, hx, hs⟩ := DataW.trod_string ht hd
    have hl : s'.data.toList.length ≤ maxLen := by simpa using hs
    refine ⟨cOf s'.data.toList, cOf_nonneg _, HB_c hl, ?_, ?_⟩
    · rw [h]; simp [CK.val, sOf_cOf, bA]
    · rw [hx]; simp [CK.dat, sOf_cOf]
  | bool =>
    obtain ⟨b', h, hx⟩ := DataW.trod_bool ht hd
    refine ⟨cond b' 1 0, ?_, ?_, ?_, ?_⟩
    · cases b' <;> simp [CK.bd]
    · cases b' <;> simp [CK.bd]
    · rw [h]; cases b' <;> simp [CK.val]
    · rw [hx]; cases b' <;> simp [CK.dat]
theorem open_cells {base n : Nat} {w : World} {spare : Nat → Bool} {held : Bool} {cs : List Value} : ∀ (l : List CK) (fs : List Field) (i : Nat) (xs : List (DataW H × List MemPlace)), mixTy P i l fs → cs.length = i + l.length → xs.length = fs.length →
    (∀ (j : Nat) (f : Field), fs[j]? = some f → DataW.trod enc P w base spare held n f.type ((cs.drop f.offset).take (P.cellsOf f.type)) = xs[j]?) →
    ∃ zs, inB (l.map CK.bd) zs ∧ cs.drop i = List.zipWith CK.val l zs ∧ xs = (List.zipWith CK.dat l zs).map fun d => (d, [])
  | [], [], i, [], _, hl, _, _ => ⟨[], trivial, List.drop_of_length_le (by simp at hl; omega), rfl⟩
  | [], [], _, _ :: _, _, _, h, _ => by simp at h
  | [], _ :: _, _, _, h, _, _, _ => h.elim
  | _ :: _, [], _, _, h, _, _, _ => h.elim
  | _ :: _, _ :: _, _, [], _, _, h, _ => by simp at h
  | c :: l, f :: fs, i, x :: xs, h, hl, hx, hf => by
    obtain ⟨ho, hc, ht, hr⟩ := h
    have h0 := hf 0 f rfl
    rw [ho, hc] at h0
    have hlt : i < cs.length := by simp at hl; omega
    have e1 : (cs.drop i).take 1 = [cs[i]] := by rw [List.drop_eq_getElem_cons hlt]; rfl
    rw [e1] at h0
    obtain ⟨z, z1, z2, z3, z4⟩ := open_CK ht rfl h0
    obtain ⟨zs, g1, g2, g3⟩ := open_cells (cs := cs) l fs (i + 1) xs hr (by simp only [List.length_cons] at hl; omega) (by simpa using hx) fun j f' hj => by simpa using hf (j + 1) f' (by simpa using hj)
    refine ⟨z :: zs, ⟨z1, z2, g1⟩, ?_, ?_⟩
    · rw [List.drop_eq_getElem_cons hlt, g2]
      simp only [List.cons.injEq, and_true] at z3
      rw [z3]; rfl
    · have : x = (c.dat z, []) := by simpa using z4
      rw [this, g3]; rfl
theorem shut_CK {base : Nat} {w : World} {spare : Nat → Bool} {held : Bool} {t : TypeId} {c : CK} {z : Int} (ht : CKTy P t c) (h1 : c.bd.1 ≤ z) (h2 : z ≤ c.bd.2) : DataW.trod enc P w base spare held 1 t [c.val z] = some (c.dat z, []) := by
  cases c with
  | int k lo hi =>
    obtain ⟨hu, rfl, rfl⟩ := ht
    have : (Lit.int k z).wf = true := wf_iff.2 ⟨h1, h2⟩
    simp [DataW.trod, CK.val, CK.dat, hu, this]
  | str =>
    have hu : P.underlying t = some .string := ht
    have hs : (sOf z).length ≤ maxLen := HB_s h2
    have hz : (bA (sOf z)).size ≤ maxLen := by rw [bA_size]; exact hs
    simp [DataW.trod, CK.val, CK.dat, hu, hz]
    simp [bA]
  | bool =>
    have hu : P.underlying t = some .bool := ht
    simp [DataW.trod, CK.val, CK.dat, hu]
theorem shut_cells {base : Nat} {w : World} {spare : Nat → Bool} {held : Bool} : ∀ (l : List CK) (fs : List Field) (i : Nat) (zs : List Int) (pre : List Value), mixTy P i l fs → inB (l.map CK.bd) zs → pre.length = i →
    fs.mapM (fun f => DataW.trod enc P w base spare held 1 f.type (((pre ++ List.zipWith CK.val l zs).drop f.offset).take (P.cellsOf f.type))) = some ((List.zipWith CK.dat l zs).map fun d => ((d : DataW H), ([] : List MemPlace)))
  | [], [], _, _, _, _, _, _ => rfl
  | [], _ :: _, _, _, _, h, _, _ => h.elim
  | _ :: _, [], _, _, _, h, _, _ => h.elim
  | _ :: _, _ :: _, _, [], _, _, h, _ => h.elim
  | c :: l, f :: fs, i, z :: zs, pre, h, hz, hp => by
    obtain ⟨ho, hc, ht, hr⟩ := h
    obtain ⟨z1, z2, hz⟩ := hz
    have ih := shut_cells (w := w) (base := base) (spare := spare) (held := held) l fs (i + 1) zs (pre ++ [c.val z]) hr hz (by simp [hp])
    rw [List.mapM_cons]
    have e1 : ((pre ++ List.zipWith CK.val (c :: l) (z :: zs)).drop f.offset).take (P.cellsOf f.type) = [c.val z] := by
      rw [ho, hc, ← hp, List.drop_left]; rfl
    have e2 : pre ++ List.zipWith CK.val (c :: l) (z :: zs) = (pre ++ [c.val z]) ++ List.zipWith CK.val l zs := by simp
    rw [e1, shut_CK ht z1 z2, e2, ih]
    rfl
/-- The type of a shape. -/
def DTy (P : Program) (t : TypeId) : D → Prop
  | .int k lo hi => P.underlying t = some (.int k) ∧ lo = k.min ∧ hi = k.max
  | .bool => P.underlying t = some .bool
  | .agg k n lo hi => ∃ e, P.underlying t = some (.array n e) ∧ P.underlying e = some (.int k) ∧ P.cellsOf e = 1 ∧ P.cellsOf t = n ∧ lo = k.min ∧ hi = k.max
  | .mix l => ∃ fs, P.underlying t = some (.struct fs) ∧ P.cellsOf t = l.length ∧ mixTy P 0 l fs.toList
  | .strk _ => False
  | .str => P.underlying t = some .string
def D.dat : D → List Int → DataW H
  | .int k _ _, zs => .lit (.int k (zs.getD 0 0))
  | .bool, zs => .lit (.bool (decide (zs.getD 0 0 = 1)))
  | .agg k n _ _, zs => .agg ((zs.take n).map fun z => .lit (.int k z))
  | .mix l, zs => .agg (List.zipWith CK.dat l zs)
  | .strk l, zs => .nil
  | .str, zs => .lit (.string (sOf (zs.getD 0 0)))
def datL : List D → List Int → List (DataW H)
  | [], _ => []
  | d :: r, zs => d.dat zs :: datL r (zs.drop d.num)

theorem cells_ints {k : IntKind} : ∀ (cs : List Value) (xs : List (DataW H × List MemPlace)), cs.length = xs.length →
    (∀ i, i < xs.length → ∃ z, (cs.drop i).take 1 = [.int k z] ∧ xs[i]? = some (.lit (.int k z), []) ∧ (Lit.int k z).wf = true) →
    ∃ zs : List Int, cs = zs.map (.int k) ∧ xs = zs.map (fun z => (.lit (.int k z), [])) ∧ ∀ z ∈ zs, (Lit.int k z).wf = true
  | [], [], _, _ => ⟨[], rfl, rfl, fun _ h => by cases h⟩
  | [], _ :: _, h, _ => by simp at h
  | _ :: _, [], h, _ => by simp at h
  | c :: cs, x :: xs, hl, h => by
    obtain ⟨z, h1, h2, h3⟩ := h 0 (by simp)
    simp at h1 h2
    obtain ⟨zs, e1, e2, e3⟩ := cells_ints cs xs (by simpa using hl) fun i hi => by
      obtain ⟨y, g1, g2, g3⟩ := h (i + 1) (by simpa using hi)
      exact ⟨y, by simpa using g1, by simpa using g2, g3⟩
    refine ⟨z :: zs, by rw [h1, e1]; rfl, by rw [h2, e2]; rfl, fun y hy => ?_⟩
    rcases List.mem_cons.1 hy with rfl | hy
    · exact h3
    · exact e3 y hy
theorem inB_wf {k : IntKind} : ∀ (zs : List Int), (∀ z ∈ zs, (Lit.int k z).wf = true) → inB (repB k.min k.max zs.length) zs
  | [], _ => trivial
  | z :: zs, h => ⟨(wf_iff.1 (h z (by simp))).1, (wf_iff.1 (h z (by simp))).2, inB_wf zs fun y hy => h y (List.mem_cons_of_mem _ hy)⟩
theorem wf_inB {k : IntKind} : ∀ {n : Nat} {zs : List Int}, inB (repB k.min k.max n) zs → ∀ z ∈ zs, (Lit.int k z).wf = true
  | 0, [], _, _, h => by cases h
  | 0, _ :: _, h, _, _ => h.elim
  | n + 1, [], h, _, _ => h.elim
  | n + 1, z :: zs, h, y, hy => by
    rcases List.mem_cons.1 hy with rfl | hy
    · exact wf_iff.2 ⟨h.1, h.2.1⟩
    · exact wf_inB h.2.2 y hy

theorem open_D {r : Reach} {b0 base : Nat} {w w' : World} {spare : Nat → Bool} {held : Bool} {t : TypeId} {d : D} {v : Value} {x : DataW H} {ps : List MemPlace} (ht : DTy P t d) (hval : Value.okWide P w' r b0 t v) (hd : DataW.Trod enc P w base spare held t v x ps) :
    ∃ zs, inB d.bds zs ∧ v = d.val zs ∧ x = d.dat zs ∧ ps = [] := by
  cases d with
  | str =>
    obtain ⟨s, rfl⟩ := okWide_string ht hval
    obtain ⟨fuel, hf⟩ := hd
    obtain ⟨s', h, hx, hs⟩ := DataW.trod_string ht hf
    simp [Value.cells] at h
    subst h
    simp only [Prod.mk.injEq] at hx
    obtain ⟨hx, hp⟩ := hx
    have hl : s.data.toList.length ≤ maxLen := by simpa using hs
    exact ⟨[cOf s.data.toList], ⟨cOf_nonneg _, HB_c hl, trivial⟩, by simp [D.val, sOf_cOf, bA], by simp [D.dat, sOf_cOf, hx], hp⟩
  | int k lo hi =>
    obtain ⟨h1, rfl, rfl⟩ := ht
    obtain ⟨n, rfl⟩ := okWide_int h1 hval
    obtain ⟨fuel, hf⟩ := hd
    obtain ⟨n', h, hx, hw⟩ := DataW.trod_int h1 hf
    simp [Value.cells] at h
    subst h
    simp only [Prod.mk.injEq] at hx
    exact ⟨[n], ⟨(wf_iff.1 hw).1, (wf_iff.1 hw).2, trivial⟩, rfl, hx.1, hx.2⟩
  | bool =>
    obtain ⟨b, rfl⟩ := okWide_bool ht hval
    obtain ⟨fuel, hf⟩ := hd
    obtain ⟨b', h, hx⟩ := DataW.trod_bool ht hf
    simp [Value.cells] at h
    subst h
    simp only [Prod.mk.injEq] at hx
    refine ⟨[cond b 1 0], ?_, ?_, ?_, hx.2⟩
    · cases b <;> simp [D.bds, inB]
    · cases b <;> simp [D.val]
    · rw [hx.1]; cases b <;> simp [D.dat]
  | agg k n lo hi =>
    obtain ⟨e, h1, h2, h3, h4, rfl, rfl⟩ := ht
    have hv : ∃ cs, v = .agg cs ∧ cs.size = P.cellsOf t := by
      unfold Value.okWide at hval
      rw [h1] at hval
      obtain ⟨cs, a, b, _⟩ := hval
      exact ⟨cs, a, b⟩
    obtain ⟨cs, rfl, hsz⟩ := hv
    obtain ⟨fuel, hf⟩ := hd
    obtain ⟨xs, m, rfl, hx, hlen, hn, hel⟩ := DataW.trod_array h1 hf
    have hcells : (Value.agg cs).cells.toList = cs.toList := rfl
    rw [hcells] at hlen hel
    obtain ⟨zs, e1, e2, e3⟩ := cells_ints (k := k) cs.toList xs (by rw [hlen, h4, hn]) fun i hi => by
      have := hel i (by omega)
      rw [h3, Nat.mul_one] at this
      cases hxi : xs[i]? with
      | none => simp at hxi; omega
      | some y =>
        rw [hxi] at this
        obtain ⟨z, g1, g2, g3⟩ := DataW.trod_int h2 this
        exact ⟨z, g1, by rw [g2], g3⟩
    have hzl : zs.length = n := by
      have := congrArg List.length e2
      simpa [hn] using this.symm
    refine ⟨zs, ?_, ?_, ?_, ?_⟩
    · have := inB_wf zs e3
      rw [hzl] at this
      exact this
    · simp only [D.val, ← hzl, List.take_length, ← e1]
    · simp only [Prod.mk.injEq] at hx
      rw [hx.1, e2]
      simp [D.dat, ← hzl]
    · simp only [Prod.mk.injEq] at hx
      rw [hx.2, e2]
      simp [List.flatMap_map]
  | mix l =>
    obtain ⟨fs, h1, h2, h3⟩ := ht
    have hv : ∃ cs, v = .agg cs ∧ cs.size = P.cellsOf t := by
      unfold Value.okWide at hval
      rw [h1] at hval
      obtain ⟨cs, a, b, _⟩ := hval
      exact ⟨cs, a, b⟩
    obtain ⟨cs, rfl, hsz⟩ := hv
    obtain ⟨fuel, hf⟩ := hd
    obtain ⟨xs, m, rfl, hx, hlen, hn, hel⟩ := DataW.trod_struct h1 hf
    have hcells : (Value.agg cs).cells.toList = cs.toList := rfl
    rw [hcells] at hlen hel
    obtain ⟨zs, g1, g2, g3⟩ := open_cells (cs := cs.toList) l fs.toList 0 xs h3 (by rw [hlen, h2, Nat.zero_add]) (by rw [hn]; simp) fun j f hj => hel j f (by simpa using hj)
    refine ⟨zs, g1, ?_, ?_, ?_⟩
    · rw [List.drop_zero] at g2
      simp only [D.val, ← g2]
    · simp only [Prod.mk.injEq] at hx
      rw [hx.1, g3]; simp [D.dat, List.map_map]
    · simp only [Prod.mk.injEq] at hx
      rw [hx.2, g3, List.flatMap_map]
      exact List.flatMap_eq_nil_iff.2 fun _ _ => rfl
  | strk l => exact ht.elim
theorem mapM_ints {k : IntKind} {e : TypeId} {w : World} {base : Nat} {spare : Nat → Bool} {held : Bool} (he : P.underlying e = some (.int k)) : ∀ (zs pre : List Int), (∀ z ∈ zs, (Lit.int k z).wf = true) →
    ((List.range zs.length).map (· + pre.length)).mapM (fun i => DataW.trod enc P w base spare held 1 e ((((pre ++ zs).map (Value.int k)).drop (i * 1)).take 1)) = some (zs.map fun z => ((.lit (.int k z) : DataW H), ([] : List MemPlace)))
  | [], _, _ => rfl
  | z :: zs, pre, h => by
    have ih := mapM_ints (w := w) (base := base) (spare := spare) (held := held) he zs (pre ++ [z]) fun y hy => h y (List.mem_cons_of_mem _ hy)
    have e1 : (List.range (z :: zs).length).map (· + pre.length) = pre.length :: (List.range zs.length).map (· + (pre ++ [z]).length) := by
      rw [List.length_cons, List.range_succ_eq_map, List.map_cons, List.map_map]
      simp only [Nat.zero_add, List.cons.injEq, true_and]
      apply List.map_congr_left
      intro a _
      simp; omega
    rw [e1, List.mapM_cons]
    have e2 : (((pre ++ z :: zs).map (Value.int k)).drop (pre.length * 1)).take 1 = [.int k z] := by simp
    have e3 : DataW.trod enc P w base spare held 1 e [.int k z] = some (.lit (.int k z), []) := by
      simp [DataW.trod, he, h z (by simp)]
    have e4 : pre ++ z :: zs = (pre ++ [z]) ++ zs := by simp
    rw [e2, e3, e4, ih]
    rfl
theorem shut_D {base : Nat} {w : World} {spare : Nat → Bool} {held : Bool} {t : TypeId} {d : D} {zs : List Int} (ht : DTy P t d) (hz : inB d.bds zs) : DataW.Trod enc P w base spare held t (d.val zs) (d.dat zs) [] := by
  cases d with
  | str =>
    match zs, hz with
    | [z], hz =>
      have := ChangeMaps.shut_string (enc := enc) (w := w) (base := base) (sp := spare) (held := held) (s := bA (sOf z)) ht (by simpa [bA, ByteArray.size] using HB_s hz.2.1)
      simpa [D.val, D.dat, bA] using this
  | int k lo hi =>
    obtain ⟨h1, rfl, rfl⟩ := ht
    match zs, hz with
    | [z], hz => exact shut_int h1 (wf_iff.2 ⟨hz.1, hz.2.1⟩)
  | bool => exact shut_bool ht _
  | agg k n lo hi =>
    obtain ⟨e, h1, h2, h3, h4, rfl, rfl⟩ := ht
    have hl : zs.length = n := by rw [inB_len hz]; exact repB_len _ _ _
    refine ⟨2, ?_⟩
    have e0 : (D.val (.agg k n k.min k.max) zs).cells.toList = zs.map (Value.int k) := by
      simp only [D.val, ← hl, List.take_length, Value.cells]
    rw [e0]
    unfold DataW.trod
    rw [h1]
    have hm := mapM_ints (H := H) (enc := enc) (w := w) (base := base) (spare := spare) (held := held) h2 zs [] (wf_inB hz)
    have e5 : (List.range zs.length).map (· + ([] : List Int).length) = List.range n := by simp [hl]
    rw [e5] at hm
    have hlen : (zs.map (Value.int k)).length = P.cellsOf t := by simp [hl, h4]
    cases hcs : zs.map (Value.int k) with
    | nil =>
      rw [hcs] at hlen
      simp only [List.nil_append] at hm
      rw [hcs] at hm
      simp only [hlen, if_true, h3, hm]
      simp [D.dat, ← hl, List.flatMap_map]
    | cons a r =>
      simp only [List.nil_append] at hm
      rw [hcs] at hm hlen
      simp only [hlen, if_true, h3, hm]
      simp [D.dat, ← hl, List.flatMap_map]
  | mix l =>
    obtain ⟨fs, h1, h2, h3⟩ := ht
    have hz' : inB (l.map CK.bd) zs := hz
    have hl : zs.length = l.length := by rw [inB_len hz']; simp
    have := trod_struct_mk (enc := enc) (w := w) (base := base) (spare := spare) (held := held) (n := 1) (cs := List.zipWith CK.val l zs) h1 (by rw [h2]; simp [hl]) (shut_cells l fs.toList 0 zs [] h3 hz' rfl)
    refine ⟨2, ?_⟩
    rw [List.map_map, List.flatMap_map] at this
    rw [List.flatMap_eq_nil_iff.2 (fun _ _ => rfl)] at this
    simpa [D.val, D.dat, Value.cells, Function.comp_def] using this
  | strk l => exact ht.elim

def DTys (P : Program) : List TypeId → List D → Prop
  | [], [] => True
  | t :: ts, d :: ds => DTy P t d ∧ DTys P ts ds
  | _, _ => False
theorem inB_app : ∀ {b b' : List (Int × Int)} {l l' : List Int}, inB b l → inB b' l' → inB (b ++ b') (l ++ l')
  | [], _, [], _, _, h => h
  | _ :: _, _, _ :: _, _, h, h' => ⟨h.1, h.2.1, inB_app h.2.2 h'⟩
  | [], _, _ :: _, _, h, _ => h.elim
  | _ :: _, _, [], _, h, _ => h.elim
theorem D.val_app (d : D) {zs l : List Int} (h : zs.length = d.num) : d.val (zs ++ l) = d.val zs := by
  cases d with
  | str => match zs, h with | [z], _ => rfl
  | int k lo hi => match zs, h with | [z], _ => rfl
  | bool => match zs, h with | [z], _ => rfl
  | agg k n lo hi => simp only [D.num] at h; simp only [D.val, ← h]; simp
  | strk p => rfl
  | mix p =>
    simp only [D.num] at h
    simp only [D.val]
    congr 2
    revert zs
    induction p with
    | nil => intro zs h; simp
    | cons a p ih =>
      intro zs h
      match zs, h with
      | z :: zs, h => simp only [List.cons_append, List.zipWith_cons_cons, ih (zs := zs) (by simpa using h)]
theorem D.dat_app (d : D) {zs l : List Int} (h : zs.length = d.num) : (d.dat (zs ++ l) : DataW H) = d.dat zs := by
  cases d with
  | str => match zs, h with | [z], _ => rfl
  | int k lo hi => match zs, h with | [z], _ => rfl
  | bool => match zs, h with | [z], _ => rfl
  | agg k n lo hi => simp only [D.num] at h; simp only [D.dat, ← h]; simp
  | mix p =>
    simp only [D.num] at h
    simp only [D.dat]
    congr 1
    revert zs
    induction p with
    | nil => intro zs h; simp
    | cons a p ih =>
      intro zs h
      match zs, h with
      | z :: zs, h => simp only [List.cons_append, List.zipWith_cons_cons, ih (zs := zs) (by simpa using h)]
  | strk p => rfl
theorem open_Ds {r : Reach} {b0 base : Nat} {w w' : World} {spare : Nat → Bool} {held : Bool} : ∀ {ts : List TypeId} {ds : List D} {vs : List Value} {xs : List (DataW H)} {ps : List MemPlace}, DTys P ts ds → (∀ (j : Nat) t v, ts[j]? = some t → vs[j]? = some v → Value.okWide P w' r b0 t v) → DataW.TrodAll enc P w base spare held ts vs xs ps →
    ∃ zs, inB (bdsL ds) zs ∧ vs = valL ds zs ∧ xs = datL ds zs ∧ ps = []
  | [], [], [], [], ps, _, _, h => ⟨[], trivial, rfl, rfl, h⟩
  | [], [], _ :: _, _, _, _, _, h => h.elim
  | [], [], [], _ :: _, _, _, _, h => h.elim
  | [], _ :: _, _, _, _, h, _, _ => h.elim
  | _ :: _, [], _, _, _, h, _, _ => h.elim
  | _ :: _, _ :: _, [], _, _, _, _, h => by cases h
  | _ :: _, _ :: _, _ :: _, [], _, _, _, h => by cases h
  | t :: ts, d :: ds, v :: vs, x :: xs, ps, ht, hv, h => by
    obtain ⟨p, q, h1, h2, rfl⟩ := h
    obtain ⟨zs, a1, rfl, rfl, rfl⟩ := open_D ht.1 (hv 0 t v rfl rfl) h1
    obtain ⟨zs', b1, rfl, rfl, rfl⟩ := open_Ds ht.2 (fun j t v h1 h2 => hv (j + 1) t v (by simpa using h1) (by simpa using h2)) h2
    have hl : zs.length = d.num := by rw [inB_len a1, D.bds_len]
    refine ⟨zs ++ zs', inB_app a1 b1, ?_, ?_, rfl⟩
    · simp only [valL]; rw [D.val_app d hl, ← hl, List.drop_left]
    · simp only [datL]; rw [D.dat_app d hl, ← hl, List.drop_left]
theorem shut_Ds {base : Nat} {w : World} {spare : Nat → Bool} {held : Bool} : ∀ {ts : List TypeId} {ds : List D} {zs : List Int}, DTys P ts ds → inB (bdsL ds) zs → DataW.TrodAll enc P w base spare held ts (valL ds zs) (datL ds zs) []
  | [], [], _, _, _ => rfl
  | [], _ :: _, _, h, _ => h.elim
  | _ :: _, [], _, h, _ => h.elim
  | t :: ts, d :: ds, zs, ht, hz => by
    obtain ⟨h1, h2⟩ := inB_split hz
    rw [D.bds_len] at h1 h2
    have hl : (zs.take d.num).length = d.num := by rw [inB_len h1, D.bds_len]
    refine ⟨[], [], ?_, shut_Ds ht.2 h2, rfl⟩
    have e1 := D.val_app d (l := zs.drop d.num) hl
    have e2 := D.dat_app (H := H) d (l := zs.drop d.num) hl
    rw [List.take_append_drop] at e1 e2
    rw [e1, e2]
    exact shut_D ht.1 h1
theorem datL_len : ∀ (ds : List D) (zs : List Int), (datL ds zs : List (DataW H)).length = ds.length
  | [], _ => rfl
  | d :: r, zs => by simp [datL, datL_len r]

theorem keptBut_extends {w w' : World} (h : w.Extends w') (may : MemPlace → Prop) : w.keptBut w' may :=
  Below.frame (W := w) ⟨h.os, h.tape, h.output, h.size, fun i hi => h.block i hi⟩ may
/-- **The row of a law, out of its call.** -/
theorem law_lift {C : Checked} {os : Os} {f : FuncId} {fn : Func} {s : ChangeSpec} {X : World → Array Value → Prop} {apart : Bool} {ts : List TypeId} {tb : TypeId} {ds : List D}
    (hX : ∀ (w w' : World) (args : Array Value), w.heap = w'.heap → X w args → X w' args)
    (own : ownKnob C.prog.godebug = none) (started : os.Started) (noInit : C.prog.inits.idxOf? f = none) (hfn : C.prog.funcs[f]? = some fn)
    (witness : ∃ (w : World) (tape : Tape) (i : Input), w.os = os ∧ (w.forCall tape i).Shaped C.prog ∧ i.vars = [] ∧ Input.okWide C.prog (w.forCall tape i) .any w.heap.size f i ∧
      ((s.pre enc C.prog fn [] apart (w.forCall tape i).memory i.args ∧ X (w.forCall tape i).memory i.args) ∧ sizedMet enc C.prog fn (OpenSpec.ofChange s) apart (w.forCall tape i).memory i.args) ∧ ({} : Assume).holds C.prog (lone (Frame.enter C.prog f i.args .normal) [] (w.forCall tape i)))
    (hp : fn.params.toList = ts) (hr : fn.resultTypes.toList = [tb]) (hr1 : fn.resultTypes.size = 1) (htb : C.prog.underlying tb = some .bool) (hty : DTys C.prog ts ds) (hvars : s.vars = [])
    (hs : ∀ xs : List (DataW H), xs.length = ds.length → s.fn H xs = { results := [.lit (.bool true)], args := xs, vars := [] })
    (contract : ∀ (W : World) (zs : List Int), inB (bdsL ds) zs → (∀ args, X W args) ∨ X W (valL ds zs).toArray → Calls C.prog f (valL ds zs).toArray W fun e W' => e = .returned (.bool true) ∧ W.Extends W') :
    ReturnsInHanded {} C os f .any (fun w args => (s.pre enc C.prog fn [] apart w args ∧ X w args) ∧ sizedMet enc C.prog fn (OpenSpec.ofChange s) apart w args) (s.post enc C.prog fn apart true false false) := by
  refine returnsInHanded_of_change_and hX own started noInit hfn witness ?_
  intro W base args xs gs before hval0 hW _ _ hx _
  have hW' := hW
  obtain ⟨p, q, hA, hV, rfl, hfz, hnd⟩ := hW
  rw [hp] at hA
  rw [hvars] at hV
  obtain ⟨rfl, rfl⟩ : gs = [] ∧ q = [] := by
    cases gs with
    | nil => exact ⟨rfl, hV⟩
    | cons g r => exact absurd hV (by intro h; cases h)
  have hval : ∀ (j : Nat) t v, ts[j]? = some t → args.toList[j]? = some v → Value.okWide C.prog W .any base t v := fun j t v h1 h2 => hval0 j t v (by rw [← hp] at h1; simpa using h1) (by simpa using h2)
  obtain ⟨zs, hz, hvs, rfl, rfl⟩ := open_Ds hty hval hA
  have hargs : args = (valL ds zs).toArray := by rw [← hvs]
  subst hargs
  refine (contract W zs hz (.inr hx)).mono fun e W' ⟨he, hw⟩ => ?_
  subst he
  have hfn' := hs (datL ds zs ++ []) (by simp [datL_len])
  refine ⟨_, rfl, _, _, _, [], [], [], hW', ?_, ?_, ?_, keptBut_extends hw _, fun h => by cases h⟩
  · rw [hfn', hr, hr1]; exact trodAll_mk1 (shut_bool htb true)
  · rw [hfn', hp, List.append_nil]; exact shut_Ds hty hz
  · rw [hfn', hvars]; rfl

/-! ### Variables of integers, as they were laid -/
theorem gl_of_laid {w : World} {name : String} {g : Nat} {t e : TypeId} {k : IntKind} {n : Nat} {cs : Array Value} {fuel : Nat} {p : List MemPlace} {zs : List Int} {spare : Nat → Bool} {held : Bool} {base : Nat} {enc : TypeId × Value → Unit}
    (hg : P.globalNamed name = some g) (ht : P.underlying t = some (.array n e)) (he : P.underlying e = some (.int k)) (hce : P.cellsOf e = 1) (hct : P.cellsOf t = n)
    (hv : w.var? P name = some cs) (hd : DataW.trod enc P w base spare held fuel t cs.toList = some (.agg (zs.map fun z => .lit (.int k z)), p)) :
    g < w.heap.size ∧ ∃ t' fr, w.heap[g]? = some (Obj.cells (zs.map (Value.int k)).toArray t' fr) := by
  obtain ⟨xs, m, rfl, hx, hlen, hn, hel⟩ := DataW.trod_array ht hd
  obtain ⟨ys, e1, e2, e3⟩ := cells_ints (k := k) cs.toList xs (by rw [hlen, hct, hn]) fun i hi => by
    have := hel i (by omega)
    rw [hce, Nat.mul_one] at this
    cases hxi : xs[i]? with
    | none => simp at hxi; omega
    | some y =>
      rw [hxi] at this
      obtain ⟨z, g1, g2, g3⟩ := DataW.trod_int he this
      exact ⟨z, g1, by rw [g2], g3⟩
  simp only [Prod.mk.injEq, DataW.agg.injEq] at hx
  have hy : ys = zs := by
    have h1 := hx.1
    rw [e2, List.map_map] at h1
    have hinj : ∀ a b : Int, (DataW.lit (.int k a) : DataW Unit) = .lit (.int k b) → a = b := fun a b h => by cases h; rfl
    exact ((List.map_inj_right (f := fun z : Int => (DataW.lit (.int k z) : DataW Unit)) hinj).1 h1).symm
  subst hy
  simp only [World.var?, hg, Option.bind_some] at hv
  split at hv
  · rename_i cs' t' fr hb
    simp only [Option.some.injEq] at hv
    subst hv
    refine ⟨?_, t', fr, ?_⟩
    · exact (Array.getElem?_eq_some_iff.1 hb).1
    · rw [hb, ← e1]
  · cases hv
end Go.Rx
