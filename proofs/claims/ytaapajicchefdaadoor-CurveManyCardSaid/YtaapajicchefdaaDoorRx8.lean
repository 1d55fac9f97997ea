/- The evaluator's soundness: operations and regions. -/
import Derived.Test.YtaapajicchefdaaDoorRx7
import Derived.Laws.Append
set_option linter.unusedVariables false
set_option linter.unusedSimpArgs false
namespace Go.Rx
open M

structure Later (n nb : Nat) (ρ : Env) (m : Nat → Nat) (n' nb' : Nat) (ρ' : Env) (m' : Nat → Nat) : Prop where
  hn : n ≤ n'
  ha : agree n ρ ρ'
  hb : nb ≤ nb'
  hm : ∀ b, b < nb → m' b = m b
theorem Later.refl (n nb : Nat) (ρ : Env) (m : Nat → Nat) : Later n nb ρ m n nb ρ m := ⟨Nat.le_refl _, agree.refl _ _, Nat.le_refl _, fun _ _ => rfl⟩
theorem Later.trans {n nb n1 nb1 n2 nb2 : Nat} {ρ ρ1 ρ2 : Env} {m m1 m2 : Nat → Nat} (h : Later n nb ρ m n1 nb1 ρ1 m1) (h' : Later n1 nb1 ρ1 m1 n2 nb2 ρ2 m2) : Later n nb ρ m n2 nb2 ρ2 m2 :=
  ⟨Nat.le_trans h.hn h'.hn, h.ha.trans h'.ha h.hn, Nat.le_trans h.hb h'.hb, fun b hb => (h'.hm b (Nat.lt_of_lt_of_le hb h.hb)).trans (h.hm b hb)⟩
def AgA (n : Nat) (G G' : Again) : Prop := ∀ l, l < n → G' l = G l
theorem AgA.refl (n : Nat) (G : Again) : AgA n G G := fun _ _ => rfl
theorem AgA.trans {n n' : Nat} {G G' G'' : Again} (h : AgA n G G') (h' : AgA n' G' G'') (hn : n ≤ n') : AgA n G G'' := fun l hl => (h' l (by omega)).trans (h l hl)

structure R (w0 : Base) (n : Nat) (ρ : Env) (m : Nat → Nat) (tm : List V) (bl : List Blk) (a : Act) (w : World) : Prop where
  t : TRel n bl.length ρ m tm a.tmps
  d : a.defers = []
  b : BlOk n bl.length ρ bl
  mm : Mem w0 ρ m bl w

section
variable (S : Nat → List Int → List Int → Prop) (L : V → Env → Prop) (w0 : Base)
/-- A continuation on slots and blocks is good for K. -/
def SKok (k : SK) (n nb : Nat) (ρ : Env) (m : Nat → Nat) (G : Again) (K : Act → World → Prop) : Prop :=
  ∀ n' ρ' m' tm' bl' G' a' w', Later n nb ρ m n' (List.length bl') ρ' m' → AgA n G G' → R w0 n' ρ' m' tm' bl' a' w' → (k n' tm' bl').holds S L G' ρ' → K a' w'
def RKok (k : RK) (n nb : Nat) (ρ : Env) (m : Nat → Nat) (G : Again) (R' : Ending → World → Prop) : Prop :=
  ∀ n' v bl' G' ρ' m' w' val, Later n nb ρ m n' (List.length bl') ρ' m' → AgA n G G' → V.ok n' bl'.length ρ' v → v.rel ρ' m' val → BlOk n' bl'.length ρ' bl' → Mem w0 ρ' m' bl' w' → (k n' v bl').holds S L G' ρ' → R' (.returned val) w'
def InlOk (P : Program) (inl : Inl) : Prop :=
  ∀ f n vs bl k G ρ m w xs R', BlOk n (List.length bl) ρ bl → Mem w0 ρ m bl w → (∀ v ∈ vs, V.ok n bl.length ρ v) → LRel ρ m vs xs → (inl f n vs bl k).holds S L G ρ → RKok S L w0 k n bl.length ρ m G R' →
    (callFunc f xs.toArray).run P w = .ok (.enter f xs.toArray) w ∧ Calls P f xs.toArray w R'
end
section
variable {S : Nat → List Int → List Int → Prop} {L : V → Env → Prop} {w0 : Base} {P : Program} {gl : Glo} {cal : Cal} {inl : Inl}

theorem SKok.later {k : SK} {n nb n1 nb1 : Nat} {ρ ρ1 : Env} {m m1 : Nat → Nat} {G G1 : Again} {K : Act → World → Prop} (h : SKok S L w0 k n nb ρ m G K) (hl : Later n nb ρ m n1 nb1 ρ1 m1) (hA : AgA n G G1) : SKok S L w0 k n1 nb1 ρ1 m1 G1 K :=
  fun n' ρ' m' tm' bl' G' a' w' h1 h2 h3 h4 => h n' ρ' m' tm' bl' G' a' w' (hl.trans h1) (hA.trans h2 hl.hn) h3 h4
theorem RKok.later {k : RK} {n nb n1 nb1 : Nat} {ρ ρ1 : Env} {m m1 : Nat → Nat} {G G1 : Again} {K : Ending → World → Prop} (h : RKok S L w0 k n nb ρ m G K) (hl : Later n nb ρ m n1 nb1 ρ1 m1) (hA : AgA n G G1) : RKok S L w0 k n1 nb1 ρ1 m1 G1 K :=
  fun n' v bl' G' ρ' m' w' val h1 h2 h3 h4 h5 h6 h7 => h n' v bl' G' ρ' m' w' val (hl.trans h1) (hA.trans h2 hl.hn) h3 h4 h5 h6 h7

/-- A block more. -/
def updM (m : Nat → Nat) (nb g : Nat) : Nat → Nat := fun b => if b = nb then g else m b
theorem updM_lt {m : Nat → Nat} {nb g b : Nat} (h : b < nb) : updM m nb g b = m b := by simp [updM]; omega
theorem updM_same (m : Nat → Nat) (nb g : Nat) : updM m nb g nb = g := by simp [updM]

theorem Mem.alloc {n : Nat} {ρ : Env} {m : Nat → Nat} {bl : List Blk} {w : World} {cs : List A} {t : TypeId} {ex : List Value} {open_ : Bool} (h : Mem w0 ρ m bl w) (hb : BlOk n bl.length ρ bl) (hc : ∀ a ∈ cs, A.ok n bl.length ρ a) (hop : open_ = false → ex = []) :
    Mem w0 ρ (updM m bl.length w.heap.size) (bl ++ [(cs, (t, open_))]) (w.alloc (.cells (cs.map (A.den ρ m) ++ ex).toArray t)) := by
  have hlt : ∀ i cs t, bl[i]? = some (cs, t) → i < bl.length ∧ m i < w.heap.size := fun i cs t hi => by
    obtain ⟨_, _, r, _, h2⟩ := h.blk i cs t hi
    exact ⟨(List.getElem?_eq_some_iff.1 hi).1, (Array.getElem?_eq_some_iff.1 h2).1⟩
  have hlt2 : ∀ i, i < bl.length → m i < w.heap.size := fun i hi => (hlt i bl[i].1 bl[i].2 (by simp [hi])).2
  refine ⟨h.ext.alloc _, h.hos, h.htape, h.hout, by simp; exact Nat.le_succ_of_le h.hsize, fun i hi hx => ?_, fun i cs' t' hi => ?_, fun i j hi hj he => ?_⟩
  · rw [heap_alloc_old w _ (Nat.lt_of_lt_of_le hi h.hsize)]; exact h.frm i hi hx
  · rw [List.getElem?_append] at hi
    split at hi
    · rename_i hil
      obtain ⟨h1, h1', r, hr, h2⟩ := h.blk i cs' t' hi
      rw [updM_lt hil]
      refine ⟨h1, h1', r, hr, ?_⟩
      rw [heap_alloc_old w _ (hlt i cs' t' hi).2, map_den_ext (hb _ (List.mem_of_getElem? hi)) (agree.refl n ρ) (fun b hb => updM_lt hb)]
      exact h2
    · rename_i hil
      have : i = bl.length := by
        have := (List.getElem?_eq_some_iff.1 hi).1
        simp at this; omega
      subst this
      simp only [Nat.sub_self, List.getElem?_cons_zero, Option.some.injEq, Prod.mk.injEq] at hi
      obtain ⟨rfl, rfl⟩ := hi
      rw [updM_same]
      refine ⟨h.ext.size, .inr h.hsize, ex, hop, ?_⟩
      rw [heap_alloc_new, map_den_ext hc (agree.refl n ρ) (fun b hb => updM_lt hb)]
  · simp only [List.length_append, List.length_cons, List.length_nil] at hi hj
    by_cases h1 : i < bl.length <;> by_cases h2 : j < bl.length
    · rw [updM_lt h1, updM_lt h2] at he
      exact h.inj i j h1 h2 he
    · have : j = bl.length := by omega
      subst this
      rw [updM_lt h1, updM_same] at he
      have := hlt2 i h1
      omega
    · have : i = bl.length := by omega
      subst this
      rw [updM_lt h2, updM_same] at he
      have := hlt2 j h2
      omega
    · omega
theorem Later.alloc (n : Nat) (ρ : Env) (m : Nat → Nat) (bl : List Blk) (x : Blk) (g : Nat) : Later n bl.length ρ m n (bl ++ [x]).length ρ (updM m bl.length g) :=
  ⟨Nat.le_refl _, agree.refl _ _, by simp, fun b hb => updM_lt hb⟩
theorem BlOk.alloc {n : Nat} {ρ : Env} {bl : List Blk} {cs : List A} {t : TypeId × Bool} (hb : BlOk n bl.length ρ bl) (hc : ∀ a ∈ cs, A.ok n bl.length ρ a) : BlOk n (bl ++ [(cs, t)]).length ρ (bl ++ [(cs, t)]) := by
  intro p hp a ha
  rcases List.mem_append.1 hp with hp | hp
  · exact (hb p hp a ha).ext (agree.refl n ρ) (Nat.le_refl _) (by simp)
  · simp at hp; subst hp; exact (hc a ha).ext (agree.refl n ρ) (Nat.le_refl _) (by simp)
theorem R.alloc {n : Nat} {ρ : Env} {m : Nat → Nat} {tm : List V} {bl : List Blk} {a : Act} {w : World} {cs : List A} {t : TypeId} (h : R w0 n ρ m tm bl a w) (hc : ∀ x ∈ cs, A.ok n bl.length ρ x) (dst : Option Tmp) :
    R w0 n ρ (updM m bl.length w.heap.size) (putV tm dst (.w (.one (.ptr bl.length 0)))) (bl ++ [(cs, (t, false))]) (a.put dst (.pointer (some ⟨w.heap.size, 0, none⟩))) (w.alloc (.cells (cs.map (A.den ρ m)).toArray t)) := by
  have hl := Later.alloc n ρ m bl (cs, (t, false)) w.heap.size
  have hmm := h.mm.alloc (t := t) (ex := []) (open_ := false) h.b hc fun _ => rfl
  rw [List.append_nil] at hmm
  exact ⟨TRel.put (h.t.ext hl.ha hl.hn hl.hb hl.hm) dst (by simp [V.ok, W.ok, A.ok]) (by simp [V.rel, W.den, A.den, updM_same]), by rw [put_defers]; exact h.d, h.b.alloc hc, hmm⟩
/-- A slice's row, newly laid. -/
theorem R.row {n : Nat} {ρ : Env} {m : Nat → Nat} {tm : List V} {bl : List Blk} {a : Act} {w : World} {cs : List A} {t : TypeId} {ex : List Value} {open_ : Bool} (h : R w0 n ρ m tm bl a w) (hc : ∀ x ∈ cs, A.ok n bl.length ρ x) (hop : open_ = false → ex = []) (dst : Option Tmp) {v : V} {x : Value}
    (hv : v.ok n (bl.length + 1) ρ) (hx : v.rel ρ (updM m bl.length w.heap.size) x) :
    R w0 n ρ (updM m bl.length w.heap.size) (putV tm dst v) (bl ++ [(cs, (t, open_))]) (a.put dst x) (w.alloc (.cells (cs.map (A.den ρ m) ++ ex).toArray t)) := by
  have hl := Later.alloc n ρ m bl (cs, (t, open_)) w.heap.size
  exact ⟨TRel.put (h.t.ext hl.ha hl.hn hl.hb hl.hm) dst (by simpa using hv) hx, by rw [put_defers]; exact h.d, h.b.alloc hc, h.mm.alloc h.b hc hop⟩

/-- A store. -/
theorem Mem.storeCells {n : Nat} {ρ : Env} {m : Nat → Nat} {bl : List Blk} {w : World} {b off : Nat} {cs l : List A} {bt : TypeId × Bool} (h : Mem w0 ρ m bl w) (hb : BlOk n bl.length ρ bl) (hl : ∀ a ∈ l, A.ok n bl.length ρ a)
    (hbl : bl[b]? = some (cs, bt)) (hfit : off + l.length ≤ cs.length) :
    ∃ w', (Go.storeCells ⟨m b, off, none⟩ (l.map (A.den ρ m))).run P w = .ok () w' ∧ Mem w0 ρ m (setB bl b (cs.take off ++ l ++ cs.drop (off + l.length), bt)) w' := by
  obtain ⟨h1, h1', r, hr, h2⟩ := h.blk b cs bt hbl
  have hst := run_storeCells_at P (m b) off bt.1 (l.map (A.den ρ m)) 0 (cs.map (A.den ρ m) ++ r).toArray w h2 (by simp; omega) (fun x hx => by
    obtain ⟨a, ha, rfl⟩ := List.mem_map.1 hx
    exact A.oneCell (hl a ha))
  have hsplit : ∀ k, k ≤ cs.length → (cs.map (A.den ρ m) ++ r).take k = (cs.take k).map (A.den ρ m) ∧ (cs.map (A.den ρ m) ++ r).drop k = (cs.drop k).map (A.den ρ m) ++ r := fun k hk => by
    refine ⟨?_, ?_⟩
    · rw [List.take_append_of_le_length (by simpa using hk), List.map_take]
    · rw [List.drop_append_of_le_length (by simpa using hk), List.map_drop]
  refine ⟨w.setRow (m b) ((cs.take off ++ l ++ cs.drop (off + l.length)).map (A.den ρ m) ++ r).toArray, ?_, ?_⟩
  · simp only [Nat.add_zero, List.length_map] at hst
    rw [hst]
    congr 3
    simp only [List.map_append, List.append_assoc]
    rw [(hsplit off (by omega)).1, (hsplit (off + l.length) (by omega)).2]
  · have hblen : b < bl.length := (List.getElem?_eq_some_iff.1 hbl).1
    refine ⟨h.ext.setRow (m b) _ h1, h.hos, h.htape, h.hout, by simp; exact h.hsize, fun i hi hx => ?_, fun i cs' t' hi => ?_, fun i j hi hj he => ?_⟩
    · rw [setRow_other w (m b) i _ (fun e => by
        subst e
        rcases h1' with h3 | h3
        · exact hx h3
        · omega)]
      exact h.frm i hi hx
    · rw [setB_eq, List.getElem?_set] at hi
      split at hi
      · rename_i hbi
        subst hbi
        simp only [hblen, if_true, Option.some.injEq, Prod.mk.injEq] at hi
        obtain ⟨rfl, rfl⟩ := hi
        exact ⟨h1, h1', r, hr, setRow_heap w (m b) _ _ _ _ h2⟩
      · rename_i hbi
        obtain ⟨g1, g1', g2⟩ := h.blk i cs' t' hi
        have hil : i < bl.length := (List.getElem?_eq_some_iff.1 hi).1
        exact ⟨g1, g1', by rw [setRow_other w (m b) (m i) _ (fun e => hbi (h.inj i b hil hblen e).symm)]; exact g2⟩
    · rw [setB_eq, List.length_set] at hi hj
      exact h.inj i j hi hj he
theorem Mem.store {n : Nat} {ρ : Env} {m : Nat → Nat} {bl : List Blk} {w : World} {b off : Nat} {cs l : List A} {bt : TypeId × Bool} (h : Mem w0 ρ m bl w) (hb : BlOk n bl.length ρ bl) (hl : ∀ a ∈ l, A.ok n bl.length ρ a)
    (hbl : bl[b]? = some (cs, bt)) (hfit : off + l.length ≤ cs.length) (hpos : 0 < l.length) (ty : TypeId) (hs : szB P ty = some l.length) (v : Value) (hv : v.cells = (l.map (A.den ρ m)).toArray) :
    ∃ w', (Instr.storeAt ty (.pointer (some ⟨m b, off, none⟩)) v).run P w = .ok () w' ∧ Mem w0 ρ m (setB bl b (cs.take off ++ l ++ cs.drop (off + l.length), bt)) w' := by
  obtain ⟨w', hrun, hm'⟩ := h.storeCells (P := P) hb hl hbl hfit
  refine ⟨w', ?_, hm'⟩
  simp only [Instr.storeAt, Instr.sureAddr, Sem.run_bind, Sem.run_pure, Result.andThen_ok, storeVar, run_szB hs, hv]
  simp only [List.size_toArray, List.length_map, ne_eq, not_true_eq_false, if_false, Sem.run_pure, Result.andThen_ok]
  simp only [Sem.run_pure, Result.andThen_ok, hrun]

theorem setB_length (bl : List Blk) (b : Nat) (x : Blk) : (setB bl b x).length = bl.length := by rw [setB_eq]; simp
theorem BlOk.set {n : Nat} {ρ : Env} {bl : List Blk} {b : Nat} {cs : List A} {t : TypeId × Bool} (hb : BlOk n bl.length ρ bl) (hc : ∀ a ∈ cs, A.ok n bl.length ρ a) : BlOk n (setB bl b (cs, t)).length ρ (setB bl b (cs, t)) := by
  intro p hp a ha
  rw [setB_length]
  rw [setB_eq] at hp
  rcases List.mem_or_eq_of_mem_set hp with h | h
  · exact hb p h a ha
  · subst h; exact hc a ha
theorem zeroL_spec {t : TypeId} {cs : List A} (h : zeroL P t = some cs) : ∃ i z, P.info? t = some i ∧ i.zero = some z ∧ constL z.cells.toList = some cs := by
  unfold zeroL at h
  cases hi : P.info? t with
  | none => simp [hi] at h
  | some i =>
    cases hz : i.zero with
    | none => simp [hi, hz] at h
    | some z => simp only [hi, hz] at h; exact ⟨i, z, rfl, hz, h⟩
theorem getB_eq {Z : Array Value} {i : Nat} (h : i < Z.size) : Z[i]! = Z[i] := by simp [h]
theorem repL_spec {z : List A} {Z : Array Value} {n nb : Nat} {ρ : Env} {m : Nat → Nat} (hz : z.map (A.den ρ m) = Z.toList) (hok : ∀ a ∈ z, A.ok n nb ρ a) (h0 : 0 < z.length) (len : Nat) :
    (∀ a ∈ repL z len, A.ok n nb ρ a) ∧ ((repL z len).map (A.den ρ m)).toArray = (Array.range (len * Z.size)).map fun i => Z[i % Z.size]! := by
  have hl : Z.size = z.length := by have := congrArg List.length hz; simpa using this.symm
  have hi : ∀ i, i % z.length < z.length := fun i => Nat.mod_lt _ h0
  refine ⟨fun a ha => ?_, ?_⟩
  · obtain ⟨i, _, rfl⟩ := List.mem_map.1 ha
    rw [List.getElem?_eq_getElem (hi i)]
    exact hok _ (List.getElem_mem _)
  · apply Array.ext'
    rw [Array.toList_map, Array.toList_range]
    simp only [repL, List.map_map, hl]
    refine List.map_congr_left fun i _ => ?_
    simp only [Function.comp]
    have h1 : i % z.length < Z.size := by rw [hl]; exact hi i
    rw [getB_eq h1, List.getElem?_eq_getElem (hi i)]
    simp only [Option.getD_some]
    have h2 := congrArg (fun l => l[i % z.length]?) hz
    simp only [List.getElem?_map, List.getElem?_eq_getElem (hi i), Option.map_some] at h2
    rw [Array.getElem?_toList, Array.getElem?_eq_getElem h1] at h2
    simpa using h2
theorem bsL_spec {t : TypeId} {len n : Nat} {ρ : Env} {m : Nat → Nat} {bl : List Blk} {parts : List (Nat × V)} {vals : Array (Nat × Value)} {cs : List A} {e : TypeId} (h : bsL P t len parts = some (cs, e)) (hr : PRel n bl.length ρ m parts vals.toList) :
    (∀ a ∈ cs, A.ok n bl.length ρ a) ∧ ∀ w, (Instr.buildSlice t len vals).run P w = .ok (.slice (some ⟨w.heap.size, 0, none⟩) len len) (w.alloc (.cells (cs.map (A.den ρ m)).toArray e)) := by
  unfold bsL at h
  cases h1 : slcOf P t with
  | none => simp [h1] at h
  | some e' =>
    simp only [h1] at h
    cases h2 : szB P e' with
    | none => simp [h2] at h
    | some s =>
      cases h3 : zeroL P e' with
      | none => simp [h2, h3] at h
      | some z =>
        simp only [h2, h3] at h
        cases hc : (Nat.beq z.length s && Nat.blt 0 s && Nat.ble (len * s) 16777216) with
        | false => simp [hc] at h
        | true =>
          simp only [hc, cond_true] at h
          simp only [Bool.and_eq_true] at hc
          have c1 := Nat.eq_of_beq_eq_true hc.1.1
          have c2 := blt_lt hc.1.2
          have c3 := Nat.le_of_ble_eq_true hc.2
          cases h4 : fillL (fun i => some (i * s, s)) (repL z len) parts with
          | none => simp [h4] at h
          | some l =>
            simp only [h4, Option.some.injEq, Prod.mk.injEq] at h
            obtain ⟨rfl, rfl⟩ := h
            obtain ⟨inf, zv, hi, hzz, hcl⟩ := zeroL_spec h3
            have hcz := constL_spec hcl n bl.length ρ m
            have hrep := repL_spec (Z := zv.cells) hcz.2 hcz.1 (by omega) len
            have hZ : zv.cells.size = s := by have := congrArg List.length hcz.2; simp at this; omega
            obtain ⟨g1, g2⟩ := fillL_spec (m := m) h4 hrep.1 hr
            refine ⟨g1, fun w => ?_⟩
            rw [hrep.2, hZ] at g2
            have hn : ¬ (16777216 < len * s) := by omega
            by_cases hl0 : len = 0
            · subst hl0
              have g3 : Instr.fill (fun i => some (i * s, s)) ((Array.range (0 * s)).map fun i => (#[] : Array Value)[i % (#[] : Array Value).size]!) vals.toList = some (l.map (A.den ρ m)).toArray := by
                rw [← g2]; congr 1; simp
              simp [Instr.buildSlice, run_underlying (slcOf_spec h1), run_szB h2] at g3 ⊢
              simp [g3, newRow]
            · have hne : ¬ (len * s = 0) := by
                intro h0
                rcases Nat.mul_eq_zero.1 h0 with h0 | h0 <;> omega
              have hlen0 : ¬ (s = 0) := by omega
              simp [Instr.buildSlice, run_underlying (slcOf_spec h1), run_szB h2, hn, hne, hl0, hlen0, zeroValue, typeInfo, hi, hzz, hZ, g2, newRow]

theorem zeroCells_succ {Z : Array Value} {k : Nat} (h : 0 < Z.size) : ∃ r : List Value, Builtin.zeroCells Z (k + 1) = (Z.toList ++ r).toArray := by
  refine ⟨(Builtin.zeroCells Z (k + 1)).toList.drop Z.size, ?_⟩
  apply Array.ext'
  have : (Builtin.zeroCells Z (k + 1)).toList.take Z.size = Z.toList := by
    apply List.ext_getElem?
    intro i
    rw [List.getElem?_take]
    by_cases hi : i < Z.size
    · have h1 : i < (k + 1) * Z.size := Nat.lt_of_lt_of_le hi (by rw [Nat.succ_mul]; omega)
      rw [if_pos hi]
      simp only [Builtin.zeroCells, Array.toList_map, Array.toList_range, List.getElem?_map, List.getElem?_range h1, Option.map_some, Nat.mod_eq_of_lt hi]
      rw [getB_eq hi, Array.getElem?_toList, Array.getElem?_eq_getElem hi]
    · rw [if_neg hi, List.getElem?_eq_none (by simpa using hi)]
  conv => lhs; rw [← List.take_append_drop Z.size (Builtin.zeroCells Z (k + 1)).toList, this]

theorem headC_spec {w : World} {n : Nat} {ρ : Env} {m : Nat → Nat} {bl : List Blk} {b off k : Nat} {cs : List A} (hm : Mem w0 ρ m bl w) (hb : BlOk n bl.length ρ bl) (h : headC bl b off k = some cs) :
    cs.length = k ∧ (∀ a ∈ cs, A.ok n bl.length ρ a) ∧ ∀ j v, (cs.map (A.den ρ m))[j]? = some v → w.cell? ((⟨m b, off, none⟩ : Addr).add j) = some v := by
  unfold headC at h
  cases hbl : bl[b]? with
  | none => simp [hbl] at h
  | some q =>
    obtain ⟨C, t⟩ := q
    simp only [hbl] at h
    cases hc : Nat.ble (off + k) C.length with
    | false => simp [hc] at h
    | true =>
      have hle := Nat.le_of_ble_eq_true hc
      simp only [hc, cond_true, Option.some.injEq] at h
      subst h
      obtain ⟨_, _, r, _, h2⟩ := hm.blk b C t hbl
      refine ⟨by simp; omega, fun a ha => hb _ (List.mem_of_getElem? hbl) a (List.mem_of_mem_drop (List.mem_of_mem_take ha)), fun j v hj => ?_⟩
      rw [addr_add]
      rw [List.getElem?_map, List.getElem?_take] at hj
      split at hj
      · rename_i hjk
        rw [List.getElem?_drop] at hj
        cases hq : C[off + j]? with
        | none => simp [hq] at hj
        | some y =>
          simp only [hq, Option.map_some, Option.some.injEq] at hj
          have hlt : off + j < C.length := (List.getElem?_eq_some_iff.1 hq).1
          simp only [World.cell?, h2, Option.isSome_none, Bool.false_eq_true, if_false, List.getElem?_toArray]
          rw [List.getElem?_append_left (by simpa using hlt), List.getElem?_map, hq]
          simp [hj]
      · simp at hj

theorem growE_wp {n : Nat} {ρ : Env} {m : Nat → Nat} {tm : List V} {bl : List Blk} {a : Act} {w : World} {G : Again} {K : Act → World → Prop} {k : SK} {i : TypeInfo} {e : TypeId} {z : List A} {d : Option Tmp} {sLen sCap len : Nat} {olds news : List A} {Z : Array Value}
    (h : R w0 n ρ m tm bl a w) (ho : ∀ a ∈ olds, A.ok n bl.length ρ a) (hn : ∀ a ∈ news, A.ok n bl.length ρ a) (hz : ∀ a ∈ z, A.ok n bl.length ρ a) (hZ : z.map (A.den ρ m) = Z.toList) (hh : (growE i e z d sLen sCap len olds news n tm bl k).holds S L G ρ) (hk : SKok S L w0 k n bl.length ρ m G K) :
    (sLen + len ≤ 1000000 ∧ Builtin.nextslicecap (sLen + len) sCap * i.bytes ≤ 281474976710656 ∧ sCap < sLen + len ∧ 0 < len) ∧
    K (a.put d (.slice (some ⟨w.heap.size, 0, none⟩) (sLen + len) (grownCap w (sLen + len) sCap e))) (w.drew.alloc (.cells ((olds.map (A.den ρ m)).toArray ++ (news.map (A.den ρ m)).toArray ++ Builtin.zeroCells Z (grownCap w (sLen + len) sCap e - (sLen + len))) e)) := by
  unfold growE at hh
  cases hc : (Nat.ble (sLen + len) 1000000 && Nat.ble (Builtin.nextslicecap (sLen + len) sCap * i.bytes) 281474976710656 && Nat.blt sCap (sLen + len) && Nat.blt 0 len && Nat.beq z.length i.size && Nat.blt 0 i.size) with
  | false => simp [hc, T.holds] at hh
  | true =>
    simp only [hc, cond_true, T.holds] at hh
    simp only [Bool.and_eq_true] at hc
    have c1 := Nat.le_of_ble_eq_true hc.1.1.1.1.1
    have c2 := Nat.le_of_ble_eq_true hc.1.1.1.1.2
    have c3 := blt_lt hc.1.1.1.2
    have c4 := blt_lt hc.1.1.2
    have c5 := Nat.eq_of_beq_eq_true hc.1.2
    have c6 := blt_lt hc.2
    refine ⟨⟨c1, c2, c3, c4⟩, ?_⟩
    have hsz : Z.size = z.length := by have := congrArg List.length hZ; simpa using this.symm
    have hge : sLen + len ≤ grownCap w (sLen + len) sCap e := by unfold grownCap Question.cut; exact Nat.le_add_right _ _
    generalize grownCap w (sLen + len) sCap e = c at hge ⊢
    have hdrew : R w0 n ρ m tm bl a w.drew := ⟨h.t, h.d, h.b, h.mm.grow (World.Extends.drew (World.Extends.refl w))⟩
    by_cases hce : c = sLen + len
    · subst hce
      have hzc : Builtin.zeroCells Z (sLen + len - (sLen + len)) = #[] := by simp [Builtin.zeroCells]
      rw [hzc]
      have hR := R.row (t := e) (cs := olds ++ news) (ex := []) (open_ := false) hdrew (fun x hx => (List.mem_append.1 hx).elim (ho x) (hn x)) (fun _ => rfl) d (v := .w (.one (.slc bl.length 0 (sLen + len) (sLen + len)))) (x := .slice (some ⟨w.heap.size, 0, none⟩) (sLen + len) (sLen + len)) (by simp [V.ok, W.ok, A.ok]) (by
        show Value.slice (some ⟨w.heap.size, 0, none⟩) _ _ = _
        simp [W.den, A.den, updM_same])
      have := hk n ρ _ _ _ G _ _ (Later.alloc n ρ m bl (olds ++ news, (e, false)) w.heap.size) (AgA.refl _ _) hR hh.1
      simpa [List.map_append] using this
    · obtain ⟨q, hq⟩ : ∃ q, c - (sLen + len) = q + 1 := ⟨c - (sLen + len) - 1, by omega⟩
      rw [hq]
      obtain ⟨r, hr⟩ := zeroCells_succ (Z := Z) (k := q) (by omega)
      rw [hr, ← hZ]
      have hR := R.row (t := e) (cs := olds ++ news ++ z) (ex := r) (open_ := true) hdrew (fun x hx => (List.mem_append.1 hx).elim (fun hx => (List.mem_append.1 hx).elim (ho x) (hn x)) (hz x)) (fun h => by cases h) d (v := .osl bl.length (sLen + len) (sLen + len + 1)) (x := .slice (some ⟨w.heap.size, 0, none⟩) (sLen + len) c) (by simp [V.ok]) ⟨c, by omega, by
        rw [updM_same]; rfl⟩
      have := hk n ρ _ _ _ G _ _ (Later.alloc n ρ m bl (olds ++ news ++ z, (e, true)) w.heap.size) (AgA.refl _ _) hR hh.2
      simpa [List.map_append] using this

theorem appE_wp {n : Nat} {ρ : Env} {m : Nat → Nat} {tm : List V} {bl : List Blk} {a : Act} {w : World} {G : Again} {o : Oper} {K : Act → World → Prop} {Q : Exit → Act → World → Prop} {k : SK} {c : Call} {s x : Operand} {t t' : TypeId}
    (h : R w0 n ρ m tm bl a w) (hop : o.op = .call c) (hcl : c.callee = .builtin .append) (hxs : c.args.toList = [s, x]) (hts : c.argTypes.toList = [t, t'])
    (hh : (appE P o.dst t t' (opV tm s) (opV tm x) n tm bl k).holds S L G ρ) (hk : SKok S L w0 k n bl.length ρ m G K) : o.wp P a w K Q := by
  have a1 : c.args = #[s, x] := by rw [← Array.toArray_toList (xs := c.args), hxs]
  have a2 : c.argTypes = #[t, t'] := by rw [← Array.toArray_toList (xs := c.argTypes), hts]
  have hex : execOp a.eval o = (do pure (Next.value (← Builtin.append_ #[t, t'] o.type #[a.eval s, a.eval x]))) := by
    simp [execOp, hop, resolve, hcl, a1, a2, invoke, builtin]
  have hwp : ∀ v w', (Builtin.append_ #[t, t'] o.type #[a.eval s, a.eval x]).run P w = .ok v w' → K (a.put o.dst v) w' → o.wp P a w K Q := fun v w' h1 h2 => by
    unfold Oper.wp
    simp only [hex, Sem.run_bind, h1, Result.andThen_ok, Sem.run_pure]
    exact h2
  have hs := opV_spec h.t s
  have hx := opV_spec h.t x
  unfold appE at hh
  split at hh
  · rename_i b' off' len' cap' e hxv hse
    rw [hxv] at hx
    have hxr : a.eval x = .slice (some ⟨m b', off', none⟩) len' cap' := hx.2
    split at hh
    · rename_i i z hi hz
      split at hh
      · rename_i news hnews
        obtain ⟨n1, n2, n3⟩ := headC_spec h.mm h.b hnews
        cases htt : Nat.beq t t' with
        | false => simp [htt, T.holds] at hh
        | true =>
          have htt := Nat.eq_of_beq_eq_true htt
          subst htt
          simp only [Nat.beq_refl, Bool.not_true, cond_false] at hh
          obtain ⟨inf, zv, hi', hzz, hcz⟩ := zeroL_spec hz
          rw [hi] at hi'
          simp only [Option.some.injEq] at hi'
          subst hi'
          have hcz := constL_spec hcz n bl.length ρ m
          cases hnil : isNilB (opV tm s) with
          | true =>
            simp only [hnil, cond_true] at hh
            have hsr : a.eval s = .slice none 0 0 := by
              unfold isNilB at hnil
              split at hnil
              · rename_i hv
                rw [hv] at hs
                exact hs.2
              · cases hnil
            obtain ⟨⟨c1, c2, c3, c4⟩, c5⟩ := growE_wp (Z := zv.cells) h (fun _ h => by simp at h) n2 hcz.1 hcz.2 hh hk
            simp only [Nat.zero_add] at c1 c2 c3 c4 c5
            refine hwp _ _ ?_ c5
            rw [hsr, hxr, run_append_nil w t _ e i zv (slcOf_spec hse) hi hzz ⟨m b', off', none⟩ len' cap' (news.map (A.den ρ m)) (by simpa using n1) n3 c4 (by omega) (by rw [nextslicecap_zero c4] at c2; exact c2)]
            simp
          | false =>
            simp only [hnil, cond_false] at hh
            split at hh
            · rename_i b off len cap hsv
              rw [hsv] at hs
              have hsr : a.eval s = .slice (some ⟨m b, off, none⟩) len cap := hs.2
              split at hh
              · rename_i olds hold
                obtain ⟨o1, o2, o3⟩ := headC_spec h.mm h.b hold
                obtain ⟨⟨c1, c2, c3, c4⟩, c5⟩ := growE_wp (Z := zv.cells) h o2 n2 hcz.1 hcz.2 hh hk
                refine hwp _ _ ?_ c5
                rw [hsr, hxr, run_append_grow w t _ e i zv (slcOf_spec hse) hi hzz ⟨m b, off, none⟩ len cap (olds.map (A.den ρ m)) (by simpa using o1) o3 ⟨m b', off', none⟩ len' cap' (news.map (A.den ρ m)) (by simpa using n1) n3 c3 (by omega) c2]
              · exact hh.elim
            · rename_i b len lo hsv
              rw [hsv] at hs
              obtain ⟨cp, hcp, hsr⟩ := hs.2
              split at hh
              · rename_i cs ty hbl
                cases hc : (Nat.ble (len + len') lo && Nat.ble ((len + len') * i.size) cs.length && Nat.blt 0 (len' * i.size)) with
                | false => simp [hc, T.holds] at hh
                | true =>
                  simp only [hc, cond_true] at hh
                  simp only [Bool.and_eq_true] at hc
                  have c1 := Nat.le_of_ble_eq_true hc.1.1
                  have c2 := Nat.le_of_ble_eq_true hc.1.2
                  have c3 := blt_lt hc.2
                  obtain ⟨w', hrun, hm'⟩ := h.mm.storeCells (P := P) (off := len * i.size) (l := news) h.b n2 hbl (by rw [n1, ← Nat.add_mul]; exact c2)
                  have hok : ∀ a ∈ cs.take (len * i.size) ++ news ++ cs.drop (len * i.size + news.length), A.ok n bl.length ρ a := fun a ha => by
                    have hcs := h.b _ (List.mem_of_getElem? hbl)
                    rcases List.mem_append.1 ha with ha | ha
                    · rcases List.mem_append.1 ha with ha | ha
                      · exact hcs a (List.mem_of_mem_take ha)
                      · exact n2 a ha
                    · exact hcs a (List.mem_of_mem_drop ha)
                  have hblt : b < bl.length := (List.getElem?_eq_some_iff.1 hbl).1
                  refine hwp (.slice (some ⟨m b, 0, none⟩) (len + len') cp) w' ?_ (hk n ρ m _ _ G _ w' ⟨Nat.le_refl _, agree.refl _ _, by rw [setB_length]; exact Nat.le_refl _, fun _ _ => rfl⟩ (AgA.refl _ _) ⟨?_, by rw [put_defers]; exact h.d, h.b.set hok, hm'⟩ hh)
                  · have hfn := run_firstCells_some (P := P) w i.size len' ⟨m b', off', none⟩ len' cap' (news.map (A.den ρ m)) (by simpa using n1) n3
                    have hle : len + len' ≤ cp := by omega
                    rw [hsr, hxr]
                    simp [Builtin.append_, run_underlying (slcOf_spec hse), sizeOf, typeInfo, hi, Builtin.lenOf, hle, hfn, addr_add, hrun]
                  · rw [setB_length]
                    exact TRel.put h.t o.dst hblt ⟨cp, by omega, rfl⟩
              · exact hh.elim
            · exact hh.elim
      · exact hh.elim
    · exact hh.elim
  · exact hh.elim

/-- A quiet operation, walked. -/
theorem quiet_wp {n : Nat} {ρ : Env} {m : Nat → Nat} {tm : List V} {bl : List Blk} {a : Act} {w : World} {G : Again} {o : Oper} {K : Act → World → Prop} {Q : Exit → Act → World → Prop} {k : SK}
    (hcal : CalOk S P gl w0 cal) (hg : GOk gl w0) (h : R w0 n ρ m tm bl a w) (hh : (qop P cal gl bl tm o n fun v n' => k n' (putV tm o.dst v) bl).holds S L G ρ) (hk : SKok S L w0 k n bl.length ρ m G K) : o.wp P a w K Q := by
  obtain ⟨ρ', n', v, hn, ha, ⟨hv, val, hr, hq⟩, hh'⟩ := qop_snd (L := L) hcal h.b hg ⟨w, h.mm⟩ h.t o G _ hh
  have hl : Later n bl.length ρ m n' bl.length ρ' m := ⟨hn, ha, Nat.le_refl _, fun _ _ => rfl⟩
  have hR : ∀ w', w.Extends w' → R w0 n' ρ' m (putV tm o.dst v) bl (a.put o.dst val) w' := fun w' he =>
    ⟨TRel.put (h.t.ext ha hn (Nat.le_refl _) (fun _ _ => rfl)) o.dst hv hr, by rw [put_defers]; exact h.d, h.b.ext ha hn (Nat.le_refl _), (h.mm.grow he).rho h.b ha⟩
  unfold Oper.wp
  rcases hq w h.mm with hq | ⟨f, args, hq, hc⟩
  · rw [hq]
    exact hk n' ρ' m _ bl G _ w hl (AgA.refl _ _) (hR w (World.Extends.refl w)) hh'
  · rw [hq]
    refine hc.mono fun e w'' ⟨he, hx⟩ => ?_
    subst he
    exact hk n' ρ' m _ bl G _ w'' hl (AgA.refl _ _) (hR w'' hx) hh'

theorem cloOf_spec {n nb : Nat} {ρ : Env} {m : Nat → Nat} {v : V} {f : Nat} {caps : List A} {x : Value} (h : cloOf v = some (f, caps)) (hv : v.ok n nb ρ) (hr : v.rel ρ m x) :
    (∀ y ∈ caps, A.ok n nb ρ y) ∧ x = .func (.func f) #[] (caps.map (A.den ρ m)).toArray := by
  unfold cloOf at h
  split at h
  · simp only [Option.some.injEq, Prod.mk.injEq] at h
    obtain ⟨rfl, rfl⟩ := h
    exact ⟨hv, hr⟩
  · rename_i f' a b
    cases hc : (Nat.beq a.size 0 && Nat.beq b.size 0) with
    | false => simp [hc] at h
    | true =>
      simp only [hc, cond_true, Option.some.injEq, Prod.mk.injEq] at h
      obtain ⟨rfl, rfl⟩ := h
      simp only [Bool.and_eq_true] at hc
      have e1 := Array.eq_empty_of_size_eq_zero (Nat.eq_of_beq_eq_true hc.1)
      have e2 := Array.eq_empty_of_size_eq_zero (Nat.eq_of_beq_eq_true hc.2)
      subst e1; subst e2
      have hr : x = .func (.func f') #[] #[] := hr
      exact ⟨fun y hy => by simp at hy, by rw [hr]; rfl⟩
  · cases h
theorem stepE_wp {n : Nat} {ρ : Env} {m : Nat → Nat} {tm : List V} {bl : List Blk} {a : Act} {w : World} {G : Again} {o : Oper} {K : Act → World → Prop} {Q : Exit → Act → World → Prop} {k : SK}
    (hcal : CalOk S P gl w0 cal) (hg : GOk gl w0) (hinl : InlOk S L w0 P inl) (h : R w0 n ρ m tm bl a w) (hh : (stepE P gl cal inl o n tm bl k).holds S L G ρ) (hk : SKok S L w0 k n bl.length ρ m G K) : o.wp P a w K Q := by
  unfold stepE at hh
  split at hh
  · rename_i t ho
    cases hz : zeroL P t with
    | none => simp [hz, T.holds] at hh
    | some cs =>
      simp only [hz] at hh
      unfold zeroL at hz
      cases hi : P.info? t with
      | none => simp [hi] at hz
      | some i =>
        cases hzz : i.zero with
        | none => simp [hi, hzz] at hz
        | some z =>
          simp only [hi, hzz] at hz
          have hc := constL_spec hz n bl.length ρ m
          have hw := hk n ρ _ _ _ G _ _ (Later.alloc n ρ m bl (cs, (t, false)) w.heap.size) (AgA.refl _ _) (h.alloc (t := t) hc.1 o.dst) hh
          unfold Oper.wp
          simp only [execOp, ho, Instr.alloc, Sem.run_bind, zeroValue, typeInfo, run_program, Result.andThen_ok, hi, hzz, Sem.run_pure, newVar, newRow, run_newObj]
          have e : (cs.map (A.den ρ m)).toArray = z.cells := by rw [hc.2]
          rw [e] at hw
          exact hw
  · rename_i t x ho
    have hx := opV_spec h.t x
    split at hh
    · rename_i u hu
      rw [hu] at hx
      have hxr : a.eval x = u.den ρ m := hx.2
      have hw := hk n ρ _ _ _ G _ _ (Later.alloc n ρ m bl (u.cells, (t, false)) w.heap.size) (AgA.refl _ _) (h.alloc (t := t) (W.cells_ok hx.1) o.dst) hh
      unfold Oper.wp
      simp only [execOp, ho, Instr.box, Sem.run_bind, Result.andThen_ok, Sem.run_pure, newVar, newRow, run_newObj, hxr]
      rw [← W.cells_den u hx.1] at hw
      exact hw
    · exact hh.elim
  · rename_i t len parts ho
    split at hh
    · rename_i cs e hbs
      obtain ⟨g1, g2⟩ := bsL_spec (m := m) (vals := parts.map fun (i, x) => (i, a.eval x)) hbs (by
        rw [Array.toList_map]
        generalize parts.toList = ps
        induction ps with
        | nil => exact trivial
        | cons p r ih => exact ⟨⟨rfl, opV_spec h.t p.2⟩, ih⟩)
      have hR := R.row (t := e) (cs := cs) (ex := []) (open_ := false) h g1 (fun _ => rfl) o.dst (v := .w (.one (.slc bl.length 0 len len))) (x := .slice (some ⟨w.heap.size, 0, none⟩) len len) (by simp [V.ok, W.ok, A.ok]) (by
        show Value.slice (some ⟨w.heap.size, 0, none⟩) _ _ = _
        simp [W.den, A.den, updM_same])
      have hw := hk n ρ _ _ _ G _ _ (Later.alloc n ρ m bl (cs, (e, false)) w.heap.size) (AgA.refl _ _) hR hh
      rw [List.append_nil] at hw
      unfold Oper.wp
      simp only [execOp, ho, Sem.run_bind, g2, Result.andThen_ok, Sem.run_pure]
      exact hw
    · exact hh.elim
  · rename_i t p x ho
    have hp := opV_spec h.t p
    have hx := opV_spec h.t x
    split at hh
    · rename_i b off u hpv hxv
      rw [hpv] at hp
      rw [hxv] at hx
      have hpr : a.eval p = .pointer (some ⟨m b, off, none⟩) := hp.2
      have hxr : a.eval x = u.den ρ m := hx.2
      split at hh
      · rename_i cs bt s hbl hs
        cases hc : (Nat.beq u.cells.length s && Nat.ble (off + s) cs.length && Nat.blt 0 s) with
        | false => simp [hc, T.holds] at hh
        | true =>
          simp only [hc, cond_true] at hh
          simp only [Bool.and_eq_true] at hc
          have e1 := Nat.eq_of_beq_eq_true hc.1.1
          have e2 := Nat.le_of_ble_eq_true hc.1.2
          have e3 := blt_lt hc.2
          subst e1
          obtain ⟨w', hrun, hm'⟩ := h.mm.store h.b (W.cells_ok hx.1) hbl e2 e3 t hs (u.den ρ m) (W.cells_den u hx.1)
          have hok : ∀ a ∈ cs.take off ++ u.cells ++ cs.drop (off + u.cells.length), A.ok n bl.length ρ a := fun a ha => by
            have hcs := h.b _ (List.mem_of_getElem? hbl)
            rcases List.mem_append.1 ha with ha | ha
            · rcases List.mem_append.1 ha with ha | ha
              · exact hcs a (List.mem_of_mem_take ha)
              · exact W.cells_ok hx.1 a ha
            · exact hcs a (List.mem_of_mem_drop ha)
          unfold Oper.wp
          simp only [execOp, ho, Sem.run_bind, hpr, hxr, hrun, Result.andThen_ok, Sem.run_pure]
          refine hk n ρ m _ _ G _ w' ⟨Nat.le_refl _, agree.refl _ _, by rw [setB_length]; exact Nat.le_refl _, fun _ _ => rfl⟩ (AgA.refl _ _) ⟨?_, by rw [put_defers]; exact h.d, h.b.set hok, hm'⟩ hh
          rw [setB_length]
          exact TRel.put h.t o.dst (by intro x hx; simp at hx) rfl
      · exact hh.elim
    · exact hh.elim
  · rename_i c ho
    split at hh
    · rename_i f hc
      split at hh
      · exact quiet_wp hcal hg h hh hk
      · have hargs : ∀ v ∈ c.args.toList.map (opV tm), V.ok n bl.length ρ v := fun v hv => by
          obtain ⟨x, _, rfl⟩ := List.mem_map.1 hv
          exact (opV_spec h.t x).1
        have hr := hinl f n _ bl _ G ρ m w _ (fun e w'' => match e with
            | .returned v => K (a.put o.dst v) w''
            | .panicked chain => Q (.panic chain) a w''
            | .outgrown => LetsOut Q) h.b h.mm hargs (LRel_map (xs := c.args.toList) h.t) hh (by
          intro n' v bl' G' ρ' m' w' val h1 h2 h3 h4 h5 h6 h7
          exact hk n' ρ' m' _ bl' G' _ w' h1 h2 ⟨TRel.put (h.t.ext h1.ha h1.hn h1.hb h1.hm) o.dst h3 h4, by rw [put_defers]; exact h.d, h5, h6⟩ h7)
        have ha : (c.args.toList.map a.eval).toArray = c.args.map a.eval := by rw [← Array.toList_map]
        rw [ha] at hr
        unfold Oper.wp
        rw [run_callFunc_eval hc o ho, hr.1]
        refine hr.2.mono fun e w'' he => ?_
        cases e <;> exact he
    · rename_i x hc
      split at hh
      · rename_i f caps hcv
        have hx := opV_spec h.t (.tmp x)
        obtain ⟨hx1, hxr⟩ : (∀ y ∈ caps, A.ok n bl.length ρ y) ∧ a.eval (.tmp x) = .func (.func f) #[] (caps.map (A.den ρ m)).toArray := cloOf_spec hcv hx.1 hx.2
        have hargs : ∀ v ∈ c.args.toList.map (opV tm) ++ caps.map (fun y => V.w (.one y)), V.ok n bl.length ρ v := fun v hv => by
          rcases List.mem_append.1 hv with hv | hv
          · obtain ⟨x, _, rfl⟩ := List.mem_map.1 hv
            exact (opV_spec h.t x).1
          · obtain ⟨y, hy, rfl⟩ := List.mem_map.1 hv
            exact hx1 y hy
        have hrel : LRel ρ m (c.args.toList.map (opV tm) ++ caps.map fun y => V.w (.one y)) (c.args.toList.map a.eval ++ caps.map (A.den ρ m)) := by
          generalize c.args.toList = l
          induction l with
          | nil =>
            simp only [List.map_nil, List.nil_append]
            generalize caps = q
            induction q with
            | nil => trivial
            | cons y r ih => exact ⟨rfl, ih⟩
          | cons x r ih => exact ⟨(opV_spec h.t x).2, ih⟩
        have hr := hinl f n _ bl _ G ρ m w _ (fun e w'' => match e with
            | .returned v => K (a.put o.dst v) w''
            | .panicked chain => Q (.panic chain) a w''
            | .outgrown => LetsOut Q) h.b h.mm hargs hrel hh (by
          intro n' v bl' G' ρ' m' w' val h1 h2 h3 h4 h5 h6 h7
          exact hk n' ρ' m' _ bl' G' _ w' h1 h2 ⟨TRel.put (h.t.ext h1.ha h1.hn h1.hb h1.hm) o.dst h3 h4, by rw [put_defers]; exact h.d, h5, h6⟩ h7)
        have hex : execOp a.eval o = callFunc f (c.args.toList.map a.eval ++ caps.map (A.den ρ m)).toArray := by
          have e : (c.args.toList.map a.eval ++ caps.map (A.den ρ m)).toArray = #[] ++ c.args.map a.eval ++ (caps.map (A.den ρ m)).toArray := by
            apply Array.ext'
            simp
          rw [e]
          simp only [execOp, ho, resolve, hc, hxr, Deferred.ofValue, pure_bind, invoke]
        unfold Oper.wp
        rw [hex, hr.1]
        refine hr.2.mono fun e w'' he => ?_
        cases e <;> exact he
      · exact hh.elim
    · rename_i hc
      split at hh
      · rename_i s x t t' hxs hts
        exact appE_wp h ho hc hxs hts hh hk
      · exact hh.elim
    · exact quiet_wp hcal hg h hh hk
  · exact quiet_wp hcal hg h hh hk

theorem bndB_spec {ρ : Env} : ∀ {b : BE} {v : Bool} {r : Lin × Option Int × Option Int}, b.den ρ = v → bndB b v = some r → (∀ c, r.2.1 = some c → c ≤ r.1.den ρ) ∧ (∀ c, r.2.2 = some c → r.1.den ρ ≤ c)
  | .le p q, true, r, hb, h | .le p q, false, r, hb, h | .lt p q, true, r, hb, h | .lt p q, false, r, hb, h => by
    simp only [BE.den, decide_eq_true_eq, decide_eq_false_iff_not] at hb
    simp only [bndB] at h
    split at h
    · rename_i c h1 h2
      have e := Lin.den_isC h1 (ρ := ρ)
      simp only [Option.some.injEq] at h
      subst h
      constructor <;> intro c' hc <;> simp only [Option.some.injEq, reduceCtorEq] at hc <;> subst hc <;> simp only <;> omega
    · rename_i c h1 h2
      have e := Lin.den_isC h2 (ρ := ρ)
      simp only [Option.some.injEq] at h
      subst h
      constructor <;> intro c' hc <;> simp only [Option.some.injEq, reduceCtorEq] at hc <;> subst hc <;> simp only <;> omega
    · cases h
  | .not b, v, r, hb, h => by
    simp only [bndB] at h
    refine bndB_spec (b := b) (v := !v) ?_ h
    simp only [BE.den] at hb
    rw [← hb, Bool.not_not]
  | .lit _, _, _, _, h => by simp [bndB] at h
  | .eq _ _, _, _, _, h => by simp [bndB] at h
  | .and _ _, _, _, _, h => by simp [bndB] at h
  | .iff _ _, _, _, _, h => by simp [bndB] at h
theorem cutV_spec {n nb : Nat} {ρ : Env} {m : Nat → Nat} {b : BE} {v : Bool} (hb : b.den ρ = v) (u : V) (hu : u.ok n nb ρ) : (cutV b v (bndB b v) u).ok n nb ρ ∧ ∀ x, u.rel ρ m x → (cutV b v (bndB b v) u).rel ρ m x := by
  unfold cutV
  split
  · rename_i e
    cases hc : BE.beq e b with
    | false => simp only [cond_false]; exact ⟨hu, fun _ h => h⟩
    | true =>
      have := BE.beq_eq hc
      subst this
      simp only [cond_true]
      refine ⟨trivial, fun x hx => ?_⟩
      simp only [V.rel, W.den, A.den, BE.den] at hx ⊢
      rw [hx, hb]
  · rename_i k y
    cases hr : bndB b v with
    | none => exact ⟨hu, fun _ h => h⟩
    | some r =>
      obtain ⟨l, lo, hi⟩ := r
      simp only
      cases hc : Lin.beq y.l l with
      | false => simp only [cond_false]; exact ⟨hu, fun _ h => h⟩
      | true =>
        have := Lin.beq_eq hc
        have hs := bndB_spec hb hr
        have hy : y.ok n ρ := hu
        simp only [cond_true]
        refine ⟨⟨hy.1, ?_, ?_⟩, fun x h => h⟩
        · simp only
          unfold maxI
          cases lo with
          | none => exact hy.2.1
          | some c =>
            simp only
            have := hs.1 c rfl
            have := hy.2.1
            cases decide (y.lo ≤ c) with
            | true => simp only [cond_true]; rw [‹y.l = l›]; assumption
            | false => simp only [cond_false]; assumption
        · simp only
          unfold minI
          cases hi with
          | none => exact hy.2.2
          | some c =>
            simp only
            have := hs.2 c rfl
            have := hy.2.2
            cases decide (c ≤ y.hi) with
            | true => simp only [cond_true]; rw [‹y.l = l›]; assumption
            | false => simp only [cond_false]; assumption
  · exact ⟨hu, fun _ h => h⟩
theorem subB_spec' {n nb : Nat} {ρ : Env} {m : Nat → Nat} {b : BE} {v : Bool} (hb : b.den ρ = v) {tm : List V} {xs : Array Value} (h : TRel n nb ρ m tm xs) : TRel n nb ρ m (subB b v tm) xs := by
  refine ⟨by simp [subB, h.1], fun i u hu => ?_⟩
  simp only [subB, List.getElem?_map, Option.map_eq_some_iff] at hu
  obtain ⟨u0, h0, rfl⟩ := hu
  obtain ⟨h1, x, h2, h3⟩ := h.2 i u0 h0
  have := cutV_spec (m := m) hb u0 h1
  exact ⟨this.1, x, h2, this.2 x h3⟩

theorem guard_spec {n nb : Nat} {ρ : Env} {m : Nat → Nat} {tm : List V} {a : Act} {G : Again} {ops : Array Oper} {o : Oper} {yes no : List V → T} (ht : TRel n nb ρ m tm a.tmps) (h : (guardE ops tm o yes no).holds S L G ρ) :
    ∃ tm', TRel n nb ρ m tm' a.tmps ∧ ((Region.wanted o (yielded ops a.tmps) = true ∧ (yes tm').holds S L G ρ) ∨ (Region.wanted o (yielded ops a.tmps) = false ∧ (no tm').holds S L G ρ)) := by
  unfold guardE at h
  unfold Region.wanted
  cases hgd : o.guard with
  | none => simp only [hgd] at h; exact ⟨tm, ht, .inl ⟨rfl, h⟩⟩
  | some gw =>
    obtain ⟨g, want⟩ := gw
    simp only [hgd] at h ⊢
    unfold yielded
    cases hd : (ops[g]?).bind (·.dst) with
    | none => simp [hd, T.holds] at h
    | some d =>
      simp only [hd] at h
      simp only [Option.bind_some]
      cases htd : tm[d]? with
      | none => simp [htd, T.holds] at h
      | some v =>
        obtain ⟨_, x, hx, hr⟩ := ht.2 d v htd
        simp only [htd] at h
        revert hr h
        cases v with
        | any => intro hr h; exact h.elim
        | osl _ _ _ => intro hr h; exact h.elim
        | clo _ _ => intro hr h; exact h.elim
        | tup l =>
          cases l with
          | nil =>
            intro hr h
            have hr : x = .tuple #[] := hr
            subst hr
            simp only [hx]
            exact ⟨tm, ht, .inr ⟨by simp, h⟩⟩
          | cons _ _ => intro hr h; exact h.elim
        | w y =>
          cases y with
          | agg l => intro hr h; exact h.elim
          | one c =>
            cases c with
            | bool b =>
              intro hr h
              have hr : x = .bool (b.den ρ) := hr
              subst hr
              simp only [hx]
              have key : ∀ b : BE, (T.br b (cond want (yes (subB b true tm)) (no (subB b true tm))) (cond want (no (subB b false tm)) (yes (subB b false tm)))).holds S L G ρ → ∃ tm', TRel n nb ρ m tm' a.tmps ∧ (((some (b.den ρ) == some want) = true ∧ (yes tm').holds S L G ρ) ∨ ((some (b.den ρ) == some want) = false ∧ (no tm').holds S L G ρ)) := fun b hb => by
                simp only [T.holds] at hb
                cases hq : b.den ρ with
                | true =>
                  have := hb.1 hq
                  cases want with
                  | true => exact ⟨_, subB_spec' hq ht, .inl ⟨by simp, this⟩⟩
                  | false => exact ⟨_, subB_spec' hq ht, .inr ⟨by simp, this⟩⟩
                | false =>
                  have := hb.2 hq
                  cases want with
                  | true => exact ⟨_, subB_spec' hq ht, .inr ⟨by simp, this⟩⟩
                  | false => exact ⟨_, subB_spec' hq ht, .inl ⟨by simp, this⟩⟩
              cases b with
              | lit v =>
                simp only [BE.den]
                cases hv : (v == want) with
                | true => simp only [hv, cond_true] at h; exact ⟨tm, ht, .inl ⟨by simpa using hv, h⟩⟩
                | false => simp only [hv, cond_false] at h; exact ⟨tm, ht, .inr ⟨by simpa using hv, h⟩⟩
              | eq _ _ => exact key _ h
              | lt _ _ => exact key _ h
              | le _ _ => exact key _ h
              | not _ => exact key _ h
              | and _ _ => exact key _ h
              | iff _ _ => exact key _ h
            | _ => intro hr h; exact h.elim

theorem R.skip {n : Nat} {ρ : Env} {m : Nat → Nat} {tm : List V} {bl : List Blk} {a : Act} {w : World} (h : R w0 n ρ m tm bl a w) (d : Option Tmp) : R w0 n ρ m (putV tm d (.tup [])) bl (a.put d undef) w :=
  ⟨TRel.put h.t d (by intro x hx; simp at hx) rfl, by rw [put_defers]; exact h.d, h.b, h.mm⟩

theorem opsE_wp {ops : Array Oper} {Q : Exit → Act → World → Prop} (hcal : CalOk S P gl w0 cal) (hg : GOk gl w0) (hinl : InlOk S L w0 P inl) : ∀ (l : List Oper) {n : Nat} {ρ : Env} {m : Nat → Nat} {tm : List V} {bl : List Blk} {a : Act} {w : World} {G : Again} {k : SK},
    R w0 n ρ m tm bl a w → (opsE P gl cal inl ops l n tm bl k).holds S L G ρ → SKok S L w0 k n bl.length ρ m G (Q .normal) → wpList P ops Q l a w
  | [], n, ρ, m, tm, bl, a, w, G, k, h, hh, hk => hk n ρ m tm bl G a w (Later.refl _ _ _ _) (AgA.refl _ _) h hh
  | o :: r, n, ρ, m, tm, bl, a, w, G, k, h, hh, hk => by
    unfold opsE at hh
    unfold wpList
    obtain ⟨tm', ht', hgd⟩ := guard_spec h.t hh
    have h : R w0 n ρ m tm' bl a w := ⟨ht', h.d, h.b, h.mm⟩
    rcases hgd with ⟨hw, hh⟩ | ⟨hw, hh⟩
    · rw [if_pos hw]
      refine .inl (stepE_wp hcal hg hinl h hh fun n' ρ' m' tm' bl' G' a' w' h1 h2 h3 h4 => ?_)
      exact opsE_wp hcal hg hinl r h3 h4 (hk.later h1 h2)
    · rw [if_neg (by simp [hw])]
      exact opsE_wp hcal hg hinl r (h.skip o.dst) hh hk

theorem allT_holds {g : Nat → T} {L : V → Env → Prop} {G : Again} {ρ : Env} : ∀ {l : List Nat}, (allT g l).holds S L G ρ → ∀ i ∈ l, (g i).holds S L G ρ
  | [], hh, _, hi => by cases hi
  | [j], hh, i, hi => by simp at hi; subst hi; exact hh
  | j :: j' :: r, hh, i, hi => by
    rcases List.mem_cons.1 hi with rfl | hi
    · exact hh.1
    · exact allT_holds (l := j' :: r) hh.2 i hi
theorem anyE_wp {ops : Array Oper} {Q : Exit → Act → World → Prop} (hcal : CalOk S P gl w0 cal) (hg : GOk gl w0) (hinl : InlOk S L w0 P inl) : ∀ (f : Nat) {listed : Array Bool} {n : Nat} {ρ : Env} {m : Nat → Nat} {tm : List V} {bl : List Blk} {a : Act} {w : World} {G : Again} {k : SK},
    R w0 n ρ m tm bl a w → (anyE P gl cal inl ops f listed n tm bl k).holds S L G ρ → SKok S L w0 k n bl.length ρ m G (Q .normal) → wpAny P .any ops Q f listed a w
  | 0, listed, n, ρ, m, tm, bl, a, w, G, k, h, hh, hk => by
    unfold anyE at hh
    unfold wpAny
    split at hh
    · rename_i hr
      exact ⟨hr, hk n ρ m tm bl G a w (Later.refl _ _ _ _) (AgA.refl _ _) h hh⟩
    · exact hh.elim
  | f + 1, listed, n, ρ, m, tm, bl, a, w, G, k, h, hh, hk => by
    unfold anyE at hh
    unfold wpAny
    split at hh
    · rename_i hr
      exact ⟨fun _ => hk n ρ m tm bl G a w (Later.refl _ _ _ _) (AgA.refl _ _) h hh, fun i hi => by rw [hr] at hi; cases hi⟩
    · rename_i l hl
      refine ⟨fun hr => absurd hr hl, fun i hi => ?_⟩
      have hi2 := allT_holds hh i hi
      unfold wpOp
      cases ho : ops[i]? with
      | none => simp only [ho] at hi2; exact hi2.elim
      | some o =>
        simp only [ho] at hi2 ⊢
        obtain ⟨tm', ht', hgd⟩ := guard_spec h.t hi2
        have h : R w0 n ρ m tm' bl a w := ⟨ht', h.d, h.b, h.mm⟩
        rcases hgd with ⟨hw, hi3⟩ | ⟨hw, hi3⟩
        · rw [if_pos hw]
          refine .inl (stepE_wp hcal hg hinl h hi3 fun n' ρ' m' tm' bl' G' a' w' h1 h2 h3 h4 => ?_)
          exact anyE_wp hcal hg hinl f h3 h4 (hk.later h1 h2)
        · rw [if_neg (by simp [hw])]
          exact anyE_wp hcal hg hinl f (h.skip o.dst) hi3 hk

/-- The quiet head of a region whose order is open. -/
theorem headE_wp {ops : Array Oper} {bl : List Blk} {m : Nat → Nat} {n0 : Nat} {ρ0 : Env} (hcal : CalOk S P gl w0 cal) (hg : GOk gl w0) (hb0 : BlOk n0 bl.length ρ0 bl) (hex : ∃ w, Mem w0 ρ0 m bl w) {F : Act → Prop} {G : Again} : ∀ (l : List Oper) {n : Nat} {ρ : Env} {tm : List V} {a : Act} {k : Nat → List V → T},
    n0 ≤ n → agree n0 ρ0 ρ → TRel n bl.length ρ m tm a.tmps → a.defers = [] → (headE P gl cal ops l n tm bl k).holds S L G ρ →
    (∀ n' ρ' tm' a', n ≤ n' → agree n ρ ρ' → TRel n' bl.length ρ' m tm' a'.tmps → a'.defers = [] → (k n' tm').holds S L G ρ' → F a') → Chain P ops (fun w => Mem w0 ρ0 m bl w) F l a
  | [], n, ρ, tm, a, k, hn, ha, ht, hd, hh, hk => hk n ρ tm a (Nat.le_refl _) (agree.refl _ _) ht hd hh
  | o :: r, n, ρ, tm, a, k, hn, ha, ht, hd, hh, hk => by
    unfold headE at hh
    unfold Chain
    obtain ⟨wx, hwx⟩ := hex
    cases hal : alO o with
    | true =>
      simp only [hal, cond_true] at hh ⊢
      exact headE_wp hcal hg hb0 ⟨wx, hwx⟩ r hn ha ht hd hh hk
    | false =>
      simp only [hal, cond_false] at hh ⊢
      obtain ⟨tm', ht, hgd⟩ := guard_spec ht hh
      rcases hgd with ⟨hw, hh⟩ | ⟨hw, hh⟩
      · have hb : BlOk n bl.length ρ bl := hb0.ext ha hn (Nat.le_refl _)
        obtain ⟨ρ', n', v, hn', ha', ⟨hv, val, hr, hq⟩, hh'⟩ := qop_snd (L := L) hcal hb hg ⟨wx, hwx.rho hb0 ha⟩ ht o G _ hh
        refine ⟨val, .inl ⟨hw, fun w hwm => hq w (hwm.rho hb0 ha)⟩, ?_⟩
        exact headE_wp hcal hg hb0 ⟨wx, hwx⟩ r (Nat.le_trans hn hn') (ha.trans ha' hn) (TRel.put (ht.ext ha' hn' (Nat.le_refl _) (fun _ _ => rfl)) o.dst hv hr) (by rw [put_defers]; exact hd) hh'
          fun n'' ρ'' tm'' a'' h1 h2 h3 h4 h5 => hk n'' ρ'' tm'' a'' (Nat.le_trans hn' h1) (ha'.trans h2 hn') h3 h4 h5
      · exact ⟨undef, .inr ⟨hw, rfl⟩, headE_wp hcal hg hb0 ⟨wx, hwx⟩ r hn ha (TRel.put (v := .tup []) ht o.dst (by intro x hx; simp at hx) rfl) (by rw [put_defers]; exact hd) hh hk⟩

/-- A block that is there already, taken in. -/
theorem Mem.push {n : Nat} {ρ : Env} {m : Nat → Nat} {bl : List Blk} {w : World} {cs : List A} {t : TypeId} {g : Nat} (h : Mem w0 ρ m bl w) (hb : BlOk n bl.length ρ bl) (hc : ∀ a ∈ cs, A.ok n bl.length ρ a)
    (h1 : w0.b.heap.size ≤ g) (h2 : w0.r.heap.size ≤ g) (h3 : w.heap[g]? = some (.cells (cs.map (A.den ρ m)).toArray t (0, 0))) (h4 : ∀ k, k < bl.length → m k ≠ g) : Mem w0 ρ (updM m bl.length g) (bl ++ [(cs, (t, false))]) w := by
  refine ⟨h.ext, h.hos, h.htape, h.hout, h.hsize, h.frm, fun i cs' t' hi => ?_, fun i j hi hj he => ?_⟩
  · rw [List.getElem?_append] at hi
    split at hi
    · rename_i hil
      obtain ⟨g1, g2, r, hr, g3⟩ := h.blk i cs' t' hi
      rw [updM_lt hil]
      exact ⟨g1, g2, r, hr, by rw [map_den_ext (hb _ (List.mem_of_getElem? hi)) (agree.refl n ρ) (fun b hb => updM_lt hb)]; exact g3⟩
    · rename_i hil
      have : i = bl.length := by
        have := (List.getElem?_eq_some_iff.1 hi).1
        simp at this; omega
      subst this
      simp only [Nat.sub_self, List.getElem?_cons_zero, Option.some.injEq, Prod.mk.injEq] at hi
      obtain ⟨rfl, rfl⟩ := hi
      rw [updM_same]
      exact ⟨h1, .inr h2, [], fun _ => rfl, by rw [map_den_ext hc (agree.refl n ρ) (fun b hb => updM_lt hb), List.append_nil]; exact h3⟩
  · simp only [List.length_append, List.length_cons, List.length_nil] at hi hj
    by_cases k1 : i < bl.length <;> by_cases k2 : j < bl.length
    · rw [updM_lt k1, updM_lt k2] at he
      exact h.inj i j k1 k2 he
    · have : j = bl.length := by omega
      subst this
      rw [updM_lt k1, updM_same] at he
      exact absurd he (h4 i k1)
    · have : i = bl.length := by omega
      subst this
      rw [updM_lt k2, updM_same] at he
      exact absurd he.symm (h4 j k2)
    · omega

def zeroObj (P : Program) (ops : Array Oper) (j : Nat) : Obj :=
  match ops[j]? with
  | some o => match o.op with
    | .alloc t => match P.info? t with
      | some i => match i.zero with
        | some z => .cells z.cells t
        | none => default
      | none => default
    | _ => default
  | none => default

theorem zeroOk_run {l : List Oper} {h j : Nat} {o : Oper} (hz : zeroOk P (l.take h) = true) (hj : j < h) (ho : l.toArray[j]? = some o) (hal : alO o = true) (b : Act) (w : World) :
    (execOp b.eval o).run P w = .ok (.value (.pointer (some ⟨w.heap.size, 0, none⟩))) (w.alloc (zeroObj P l.toArray j)) := by
  have ho' : l[j]? = some o := by simpa using ho
  have hm : o ∈ l.take h := List.mem_of_getElem? (i := j) (by rw [List.getElem?_take, if_pos hj]; exact ho')
  have h1 := List.all_eq_true.1 hz o hm
  simp only [hal, Bool.not_true, Bool.false_or] at h1
  unfold zeroObj
  simp only [ho]
  cases hop : o.op with
  | alloc t =>
    simp only [hop] at h1
    obtain ⟨cs, hcs⟩ := Option.isSome_iff_exists.1 h1
    obtain ⟨i, z, hi, hzz, _⟩ := zeroL_spec hcs
    simp only [execOp, hop, Instr.alloc, Sem.run_bind, zeroValue, typeInfo, run_program, Result.andThen_ok, hi, hzz, Sem.run_pure, newVar, newRow, run_newObj]
    rfl
  | _ => simp [hop] at h1

theorem allocsE_wp {ops : Array Oper} {h : Nat} {an b : Act} {γ : Nat → Nat} {sz : Nat} {w : World} {n : Nat} {ρ : Env} {G : Again} {k : SK} {K : Act → World → Prop} (hfin : Fin ops h an b γ) (hnew : News ops h (fun _ => True) (zeroObj P ops) γ sz w) (hsz : w0.b.heap.size ≤ sz) (hsz2 : w0.r.heap.size ≤ sz) :
    ∀ (l : List Oper) (i : Nat) {m : Nat → Nat} {tm : List V} {bl : List Blk} {c : Act}, (∀ j, j < l.length → ops[i + j]? = l[j]?) → i + l.length = h → R w0 n ρ m tm bl c w →
      (∀ kk, kk < bl.length → m kk < sz ∨ ∃ j, j < i ∧ alB ops j = true ∧ m kk = γ j) → c.tmps.size = an.tmps.size →
      (∀ t : Nat, ((∃ j o, j < i ∧ ops[j]? = some o ∧ alO o = true ∧ o.dst = some t) → c.tmps[t]? = b.tmps[t]?) ∧ ((∀ j o, j < i → ops[j]? = some o → alO o = true → o.dst ≠ some t) → c.tmps[t]? = an.tmps[t]?)) →
      (allocsE P l n tm bl k).holds S L G ρ → SKok S L w0 k n bl.length ρ m G K → an.defers = [] → K b w
  | [], i, m, tm, bl, c, hl, hi, hR, hm, hcs, hc, hh, hk, hd => by
    simp only [List.length_nil, Nat.add_zero] at hi
    subst hi
    have hbc : c = b := act_ext (by rw [hR.d, hfin.d, hd]) fun t => by
      by_cases ht : ∃ j o, j < i ∧ ops[j]? = some o ∧ alO o = true ∧ o.dst = some t
      · exact (hc t).1 ht
      · have hno : ∀ j o, j < i → ops[j]? = some o → alO o = true → o.dst ≠ some t := fun j o h1 h2 h3 h4 => ht ⟨j, o, h1, h2, h3, h4⟩
        rw [(hc t).2 hno, hfin.no t hno]
    subst hbc
    exact hk n ρ m tm bl G c w (Later.refl _ _ _ _) (AgA.refl _ _) hR hh
  | o :: r, i, m, tm, bl, c, hl, hi, hR, hm, hcs, hc, hh, hk, hd => by
    have ho : ops[i]? = some o := by have := hl 0 (by simp); simpa using this
    have hr : ∀ j, j < r.length → ops[i + 1 + j]? = r[j]? := fun j hj => by
      have := hl (j + 1) (by simp; omega)
      rw [show i + 1 + j = i + (j + 1) by omega, this]; simp
    have hi' : i + 1 + r.length = h := by simp at hi; omega
    unfold allocsE at hh
    cases hal : alO o with
    | false =>
      simp only [hal, cond_false] at hh
      refine allocsE_wp hfin hnew hsz hsz2 r (i + 1) hr hi' hR (fun kk hkk => (hm kk hkk).imp id fun ⟨j, h1, h2⟩ => ⟨j, by omega, h2⟩) hcs (fun t => ⟨fun ⟨j, o', h1, h2, h3, h4⟩ => ?_, fun hno => (hc t).2 fun j o' h1 => hno j o' (by omega)⟩) hh hk hd
      by_cases hji : j = i
      · subst hji
        have : o' = o := Option.some.inj (h2.symm.trans ho)
        subst this
        rw [hal] at h3; cases h3
      · exact (hc t).1 ⟨j, o', by omega, h2, h3, h4⟩
    | true =>
      simp only [hal, cond_true] at hh
      cases hop : o.op with
      | alloc ty =>
        simp only [hop] at hh
        cases hz : zeroL P ty with
        | none => simp [hz, T.holds] at hh
        | some cs =>
          simp only [hz] at hh
          obtain ⟨inf, z, hinf, hzz, hcl⟩ := zeroL_spec hz
          have hcsp := constL_spec hcl n bl.length ρ m
          have hib : alB ops i = true := by simp [alB, ho, hal]
          have hilt : i < h := by simp at hi; omega
          obtain ⟨g1, g2⟩ := hnew.1 i hilt trivial hib
          have hzo : zeroObj P ops i = .cells (cs.map (A.den ρ m)).toArray ty (0, 0) := by
            unfold zeroObj
            simp only [ho, hop, hinf, hzz, hcsp.2]
          rw [hzo] at g2
          have hne : ∀ kk, kk < bl.length → m kk ≠ γ i := fun kk hkk e => by
            rcases hm kk hkk with h1 | ⟨j, h1, h2, h3⟩
            · omega
            · have := hnew.2 j i (by omega) hilt trivial trivial h2 hib (h3.symm.trans e)
              omega
          have hM := hR.mm.push hR.b hcsp.1 (by omega) (by omega) g2 hne
          have hL := Later.alloc n ρ m bl (cs, (ty, false)) (γ i)
          have hR' : R w0 n ρ (updM m bl.length (γ i)) (putV tm o.dst (.w (.one (.ptr bl.length 0)))) (bl ++ [(cs, (ty, false))]) (c.put o.dst (.pointer (some ⟨γ i, 0, none⟩))) w :=
            ⟨TRel.put (hR.t.ext hL.ha hL.hn hL.hb hL.hm) o.dst (by simp [V.ok, W.ok, A.ok]) (by simp [V.rel, W.den, A.den, updM_same]), by rw [put_defers]; exact hR.d, hR.b.alloc hcsp.1, hM⟩
          refine allocsE_wp hfin hnew hsz hsz2 r (i + 1) hr hi' hR' (fun kk hkk => ?_) ((put_size _ _ _).trans hcs) (fun t => ⟨fun ⟨j, o', h1, h2, h3, h4⟩ => ?_, fun hno => ?_⟩) hh (hk.later hL (AgA.refl _ _)) hd
          · by_cases hkb : kk < bl.length
            · rw [updM_lt hkb]
              exact (hm kk hkb).imp id fun ⟨j, h1, h2⟩ => ⟨j, by omega, h2⟩
            · have : kk = bl.length := by simp at hkk; omega
              subst this
              rw [updM_same]
              exact .inr ⟨i, by omega, hib, rfl⟩
          · by_cases ht : o.dst = some t
            · rw [ht]
              simp only [Act.put]
              rcases Nat.lt_or_ge t c.tmps.size with h5 | h5
              · have hbs : t < b.tmps.size := by rw [hfin.sz, ← hcs]; exact h5
                rw [hfin.al t i o hilt ho hal ht hbs]
                simp [h5]
              · rw [Array.getElem?_eq_none (by simpa using h5), Array.getElem?_eq_none (by rw [hfin.sz, ← hcs]; exact h5)]
            · rw [put_other ht]
              by_cases hji : j = i
              · subst hji
                have : o' = o := Option.some.inj (h2.symm.trans ho)
                subst this
                exact absurd h4 ht
              · exact (hc t).1 ⟨j, o', by omega, h2, h3, h4⟩
          · have ht : o.dst ≠ some t := hno i o (by omega) ho hal
            rw [put_other ht]
            exact (hc t).2 fun j o' h1 => hno j o' (by omega)
      | _ => simp [hop, T.holds] at hh
end
end Go.Rx
