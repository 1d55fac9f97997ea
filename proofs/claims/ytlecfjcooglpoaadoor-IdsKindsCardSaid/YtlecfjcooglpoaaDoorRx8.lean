/- The evaluator's soundness: operations and regions. -/
import Derived.Test.YtlecfjcooglpoaaDoorRx7
import Derived.Laws.Append
set_option linter.unusedVariables false
set_option linter.unusedSimpArgs false
namespace Go.Rx
open M

structure Later (n nb : Nat) (ρ : Env) (m : Nat → Nat) (n' nb' : Nat) (ρ' : Env) (m' : Nat → Nat) : Prop where
  hn : n ≤ n'
  ha : agree n ρ ρ'
  hb : nb ≤ nb'
  hm : ∀ b, b < nb → m' b = m b
theorem Later.refl (n nb : Nat) (ρ : Env) (m : Nat → Nat) : Later n nb ρ m n nb ρ m := ⟨Nat.le_refl _, agree.refl _ _, Nat.le_refl _, fun _ _ => rfl⟩
theorem Later.trans {n nb n1 nb1 n2 nb2 : Nat} {ρ ρ1 ρ2 : Env} {m m1 m2 : Nat → Nat} (h : Later n nb ρ m n1 nb1 ρ1 m1) (h' : Later n1 nb1 ρ1 m1 n2 nb2 ρ2 m2) : Later n nb ρ m n2 nb2 ρ2 m2 :=
  ⟨Nat.le_trans h.hn h'.hn, h.ha.trans h'.ha h.hn, Nat.le_trans h.hb h'.hb, fun b hb => (h'.hm b (Nat.lt_of_lt_of_le hb h.hb)).trans (h.hm b hb)⟩
def AgA (n : Nat) (G G' : Again) : Prop := ∀ l, l < n → G' l = G l
theorem AgA.refl (n : Nat) (G : Again) : AgA n G G := fun _ _ => rfl
theorem AgA.trans {n n' : Nat} {G G' G'' : Again} (h : AgA n G G') (h' : AgA n' G' G'') (hn : n ≤ n') : AgA n G G'' := fun l hl => (h' l (by omega)).trans (h l hl)

structure R (w0 : Base) (n : Nat) (ρ : Env) (m : Nat → Nat) (tm : List V) (bl : List Blk) (a : Act) (w : World) : Prop where
  t : TRel n bl.length ρ m tm a.tmps
  d : a.defers = []
  b : BlOk n bl.length ρ bl
  mm : Mem w0 ρ m bl w

section
variable (S : Nat → List Int → List Int → Prop) (L : V → Env → Prop) (w0 : Base)
/-- A continuation on slots and blocks is good for K. -/
def SKok (k : SK) (n nb : Nat) (ρ : Env) (m : Nat → Nat) (G : Again) (K : Act → World → Prop) : Prop :=
  ∀ n' ρ' m' tm' bl' G' a' w', Later n nb ρ m n' (List.length bl') ρ' m' → AgA n G G' → R w0 n' ρ' m' tm' bl' a' w' → (k n' tm' bl').holds S L G' ρ' → K a' w'
def RKok (k : RK) (n nb : Nat) (ρ : Env) (m : Nat → Nat) (G : Again) (R' : Ending → World → Prop) : Prop :=
  ∀ n' v bl' G' ρ' m' w' val, Later n nb ρ m n' (List.length bl') ρ' m' → AgA n G G' → V.ok n' bl'.length ρ' v → v.rel ρ' m' val → BlOk n' bl'.length ρ' bl' → Mem w0 ρ' m' bl' w' → (k n' v bl').holds S L G' ρ' → R' (.returned val) w'
def InlOk (P : Program) (inl : Inl) : Prop :=
  ∀ f n vs bl k G ρ m w xs R', BlOk n (List.length bl) ρ bl → Mem w0 ρ m bl w → (∀ v ∈ vs, V.ok n bl.length ρ v) → LRel ρ m vs xs → (inl f n vs bl k).holds S L G ρ → RKok S L w0 k n bl.length ρ m G R' →
    (callFunc f xs.toArray).run P w = .ok (.enter f xs.toArray) w ∧ Calls P f xs.toArray w R'
end
section
variable {S : Nat → List Int → List Int → Prop} {L : V → Env → Prop} {w0 : Base} {P : Program} {gl : Glo} {cal : Cal} {inl : Inl}

theorem SKok.later {k : SK} {n nb n1 nb1 : Nat} {ρ ρ1 : Env} {m m1 : Nat → Nat} {G G1 : Again} {K : Act → World → Prop} (h : SKok S L w0 k n nb ρ m G K) (hl : Later n nb ρ m n1 nb1 ρ1 m1) (hA : AgA n G G1) : SKok S L w0 k n1 nb1 ρ1 m1 G1 K :=
  fun n' ρ' m' tm' bl' G' a' w' h1 h2 h3 h4 => h n' ρ' m' tm' bl' G' a' w' (hl.trans h1) (hA.trans h2 hl.hn) h3 h4
theorem RKok.later {k : RK} {n nb n1 nb1 : Nat} {ρ ρ1 : Env} {m m1 : Nat → Nat} {G G1 : Again} {K : Ending → World → Prop} (h : RKok S L w0 k n nb ρ m G K) (hl : Later n nb ρ m n1 nb1 ρ1 m1) (hA : AgA n G G1) : RKok S L w0 k n1 nb1 ρ1 m1 G1 K :=
  fun n' v bl' G' ρ' m' w' val h1 h2 h3 h4 h5 h6 h7 => h n' v bl' G' ρ' m' w' val (hl.trans h1) (hA.trans h2 hl.hn) h3 h4 h5 h6 h7

/-- A block more. -/
def updM (m : Nat → Nat) (nb g : Nat) : Nat → Nat := fun b => if b = nb then g else m b
theorem updM_lt {m : Nat → Nat} {nb g b : Nat} (h : b < nb) : updM m nb g b = m b := by simp [updM]; omega
theorem updM_same (m : Nat → Nat) (nb g : Nat) : updM m nb g nb = g := by simp [updM]

/-- A block more: a new one, or one that is there already. -/
theorem Mem.push {n : Nat} {ρ : Env} {m : Nat → Nat} {bl : List Blk} {w : World} {x : Blk} {g : Nat} (h : Mem w0 ρ m bl w) (hb : BlOk n bl.length ρ bl) (hx : ∀ a ∈ x.1, A.ok n bl.length ρ a)
    (h1 : isOrd x.1 = true → w0.b.heap.size ≤ g ∧ (w0.ex g ∨ w0.r.heap.size ≤ g) ∧ ∃ r : List Value, (x.2.2 = false → r = []) ∧ w.heap[g]? = some (.cells (x.1.map (A.den ρ m) ++ r).toArray x.2.1 (0, 0)))
    (h2 : ∀ sh off code cap kind, x.1 = [.rows sh off code cap kind] → RRel w0 ρ g sh off code cap kind x.2.1 w)
    (h3 : ∀ (i : Nat) (p : Blk), bl[i]? = some p → m i = g → (kindC ρ p.1 ≤ 1 ∧ kindC ρ x.1 ≤ 1) ∨ kindC ρ p.1 = 0 ∨ kindC ρ x.1 = 0) :
    Mem w0 ρ (updM m bl.length g) (bl ++ [x]) w := by
  have hold : ∀ (i : Nat) (p : Blk), (bl ++ [x])[i]? = some p → (i < bl.length ∧ bl[i]? = some p) ∨ (i = bl.length ∧ p = x) := fun i p hi => by
    rw [List.getElem?_append] at hi
    split at hi
    · rename_i hil; exact .inl ⟨hil, hi⟩
    · have : i = bl.length := by
        have := (List.getElem?_eq_some_iff.1 hi).1
        simp at this; omega
      subst this
      simp only [Nat.sub_self, List.getElem?_cons_zero, Option.some.injEq] at hi
      exact .inr ⟨rfl, hi.symm⟩
  refine ⟨h.ext, h.hos, h.htape, h.hout, h.hsize, h.frm, fun i cs' t' hi ho => ?_, fun i sh off code cap kind t' hi => ?_, fun i j p q hi hj he => ?_⟩
  · rcases hold i _ hi with ⟨hil, hi⟩ | ⟨rfl, hi2⟩
    · obtain ⟨g1, g1', r, hr, g2⟩ := h.blk i cs' t' hi ho
      rw [updM_lt hil]
      refine ⟨g1, g1', r, hr, ?_⟩
      rw [map_den_ext (hb _ (List.mem_of_getElem? hi)) (agree.refl n ρ) (fun b hb => updM_lt hb)]
      exact g2
    · subst hi2
      rw [updM_same]
      obtain ⟨g1, g1', r, hr, g2⟩ := h1 ho
      refine ⟨g1, g1', r, hr, ?_⟩
      rw [map_den_ext hx (agree.refl n ρ) (fun b hb => updM_lt hb)]
      exact g2
  · rcases hold i _ hi with ⟨hil, hi⟩ | ⟨rfl, hi2⟩
    · rw [updM_lt hil]
      exact h.rws i sh off code cap kind t' hi
    · subst hi2
      rw [updM_same]
      exact h2 sh off code cap kind rfl
  · rcases hold i p hi with ⟨hil, hi1⟩ | ⟨rfl, hi2⟩ <;> rcases hold j q hj with ⟨hjl, hj1⟩ | ⟨rfl, hj2⟩
    · rw [updM_lt hil, updM_lt hjl] at he
      exact h.inj i j p q hi1 hj1 he
    · rw [updM_lt hil, updM_same] at he
      subst hj2
      exact .inr (h3 i p hi1 he)
    · rw [updM_lt hjl, updM_same] at he
      subst hi2
      rcases h3 j q hj1 he.symm with h | h | h
      · exact .inr (.inl ⟨h.2, h.1⟩)
      · exact .inr (.inr (.inr h))
      · exact .inr (.inr (.inl h))
    · exact .inl rfl
theorem Mem.alloc {n : Nat} {ρ : Env} {m : Nat → Nat} {bl : List Blk} {w : World} {cs : List A} {t : TypeId} {ex : List Value} {open_ : Bool} (h : Mem w0 ρ m bl w) (hb : BlOk n bl.length ρ bl) (hc : ∀ a ∈ cs, A.ok n bl.length ρ a) (hop : open_ = false → ex = []) (hord : isOrd cs = true) :
    Mem w0 ρ (updM m bl.length w.heap.size) (bl ++ [(cs, (t, open_))]) (w.alloc (.cells (cs.map (A.den ρ m) ++ ex).toArray t)) := by
  refine (h.grow ((World.Extends.refl w).alloc _)).push hb hc (fun _ => ⟨h.ext.size, .inr h.hsize, ex, hop, heap_alloc_new w _⟩) (fun sh off code cap kind e => ?_) fun i p hi he => ?_
  · simp only at e
    subst e
    cases hord
  · by_cases hk : kindC ρ p.1 = 0
    · exact .inr (.inl hk)
    · have := h.lt hi hk; omega
/-- Rows that are replaced, in memory and in what is said of it. -/
theorem Mem.put {kd : Nat} {ρ : Env} {m : Nat → Nat} {bl : List Blk} {w : World} {b : Nat} {sh : List CK} {off code cap code' : Lin} {t : TypeId × Bool} {cells row : Array Value} {fz : Nat × Nat} (h : Mem w0 ρ m bl w) (hkd : 2 ≤ kd) (hbl : bl[b]? = some ([.rows sh off code cap kd], t)) (hcap : 0 ≤ cap.den ρ)
    (hr : RRel w0 ρ (m b) sh off code' cap kd t.1 (w.setRow (m b) row)) : Mem w0 ρ m (setB bl b ([.rows sh off code' cap kd], t)) (w.setRow (m b) row) := by
  have hblen : b < bl.length := (List.getElem?_eq_some_iff.1 hbl).1
  have hkb : ∀ c, kindC ρ [.rows sh off c cap kd] = kd := fun c => kindC_rows (by omega) hcap
  obtain ⟨_, hl⟩ := h.rws b sh off code cap kd t hbl (by omega)
  obtain ⟨_, cells, tq, fz, _, _, h5⟩ := hl hcap
  obtain ⟨_, _, _, _, h1, h1'⟩ := h5 hkd
  have hset : ∀ (i : Nat) (p : Blk), (setB bl b ([.rows sh off code' cap kd], t))[i]? = some p → (i = b ∧ p = ([.rows sh off code' cap kd], t)) ∨ (i ≠ b ∧ bl[i]? = some p) := fun i p hi => by
    rw [setB_eq, List.getElem?_set] at hi
    split at hi
    · rename_i hbi
      subst hbi
      simp only [hblen, if_true, Option.some.injEq] at hi
      exact .inl ⟨rfl, hi.symm⟩
    · rename_i hbi; exact .inr ⟨fun e => hbi e.symm, hi⟩
  refine ⟨h.ext.setRow (m b) _ h1, h.hos, h.htape, h.hout, by simp; exact h.hsize, fun i hi hx => ?_, fun i cs' t' hi ho => ?_, fun i sh' off' code' cap' kind' t' hi => ?_, fun i j p q hi hj he => ?_⟩
  · rw [setRow_other w (m b) i _ (fun e => by
      subst e
      rcases h1' with h3 | h3
      · exact hx h3
      · omega)]
    exact h.frm i hi hx
  · rcases hset i _ hi with ⟨rfl, hi2⟩ | ⟨hne, hi⟩
    · cases hi2; cases ho
    · obtain ⟨g1, g1', g2⟩ := h.blk i cs' t' hi ho
      exact ⟨g1, g1', by rw [setRow_other w (m b) (m i) _ (fun e => h.ne hbl hi (by rw [hkb]; exact hkd) (by rw [kind_ord ho]; decide) (fun e => hne e.symm) (by first | exact e | exact e.symm))]; exact g2⟩
  · rcases hset i _ hi with ⟨rfl, hi2⟩ | ⟨hne, hi⟩
    · cases hi2; exact hr
    · exact (h.rws i sh' off' _ cap' kind' t' hi).grow fun hk hc => setRow_other w (m b) (m i) _ (fun e => h.ne hbl hi (by rw [hkb]; exact hkd) (by simp only [kindC_rows hk hc]; exact hk) (fun e => hne e.symm) (by first | exact e | exact e.symm))
  · have hk : ∀ (i : Nat) (p : Blk), (setB bl b ([.rows sh off code' cap kd], t))[i]? = some p → ∃ p', bl[i]? = some p' ∧ kindC ρ p'.1 = kindC ρ p.1 := fun i p hi => by
      rcases hset i _ hi with ⟨rfl, hi2⟩ | ⟨hne, hi⟩
      · exact ⟨_, hbl, by rw [hi2]; simp only [hkb]⟩
      · exact ⟨p, hi, rfl⟩
    obtain ⟨p', hp, ep⟩ := hk i p hi
    obtain ⟨q', hq, eq⟩ := hk j q hj
    rw [← ep, ← eq]
    exact h.inj i j p' q' hp hq he
/-- What is not looked at any more. -/
theorem Mem.kill {ρ : Env} {m : Nat → Nat} {bl : List Blk} {w : World} {b k : Nat} {sh : List CK} {off code cap : Lin} {t : TypeId × Bool} (h : Mem w0 ρ m bl w) (hbl : bl[b]? = some ([.rows sh off code cap k], t)) : Mem w0 ρ m (setB bl b ([.rows sh off code cap 0], t)) w := by
  have hblen : b < bl.length := (List.getElem?_eq_some_iff.1 hbl).1
  have hset : ∀ (i : Nat) (p : Blk), (setB bl b ([.rows sh off code cap 0], t))[i]? = some p → (i = b ∧ p = ([.rows sh off code cap 0], t)) ∨ (i ≠ b ∧ bl[i]? = some p) := fun i p hi => by
    rw [setB_eq, List.getElem?_set] at hi
    split at hi
    · rename_i hbi
      subst hbi
      simp only [hblen, if_true, Option.some.injEq] at hi
      exact .inl ⟨rfl, hi.symm⟩
    · rename_i hbi; exact .inr ⟨fun e => hbi e.symm, hi⟩
  have hk0 : kindC ρ [.rows sh off code cap 0] = 0 := by simp [kindC]
  refine ⟨h.ext, h.hos, h.htape, h.hout, h.hsize, h.frm, fun i cs' t' hi ho => ?_, fun i sh' off' code' cap' kind' t' hi => ?_, fun i j p q hi hj he => ?_⟩
  · rcases hset i _ hi with ⟨rfl, hi2⟩ | ⟨hne, hi⟩
    · cases hi2; cases ho
    · exact h.blk i cs' t' hi ho
  · rcases hset i _ hi with ⟨rfl, hi2⟩ | ⟨hne, hi⟩
    · cases hi2; exact fun hk => absurd rfl hk
    · exact h.rws i sh' off' _ cap' kind' t' hi
  · rcases hset i _ hi with ⟨rfl, hi2⟩ | ⟨hne, hi⟩
    · exact .inr (.inr (.inl (by rw [hi2]; exact hk0)))
    · rcases hset j _ hj with ⟨rfl, hj2⟩ | ⟨hne, hj⟩
      · exact .inr (.inr (.inr (by rw [hj2]; exact hk0)))
      · exact h.inj i j p q hi hj he
theorem Later.alloc (n : Nat) (ρ : Env) (m : Nat → Nat) (bl : List Blk) (x : Blk) (g : Nat) : Later n bl.length ρ m n (bl ++ [x]).length ρ (updM m bl.length g) :=
  ⟨Nat.le_refl _, agree.refl _ _, by simp, fun b hb => updM_lt hb⟩
theorem BlOk.alloc {n : Nat} {ρ : Env} {bl : List Blk} {cs : List A} {t : TypeId × Bool} (hb : BlOk n bl.length ρ bl) (hc : ∀ a ∈ cs, A.ok n bl.length ρ a) : BlOk n (bl ++ [(cs, t)]).length ρ (bl ++ [(cs, t)]) := by
  intro p hp a ha
  rcases List.mem_append.1 hp with hp | hp
  · exact (hb p hp a ha).ext (agree.refl n ρ) (Nat.le_refl _) (by simp)
  · simp at hp; subst hp; exact (hc a ha).ext (agree.refl n ρ) (Nat.le_refl _) (by simp)
theorem R.alloc {n : Nat} {ρ : Env} {m : Nat → Nat} {tm : List V} {bl : List Blk} {a : Act} {w : World} {cs : List A} {t : TypeId} (h : R w0 n ρ m tm bl a w) (hc : ∀ x ∈ cs, A.ok n bl.length ρ x) (dst : Option Tmp) (hord : isOrd cs = true) :
    R w0 n ρ (updM m bl.length w.heap.size) (putV tm dst (.w (.one (.ptr bl.length 0)))) (bl ++ [(cs, (t, false))]) (a.put dst (.pointer (some ⟨w.heap.size, 0, none⟩))) (w.alloc (.cells (cs.map (A.den ρ m)).toArray t)) := by
  have hl := Later.alloc n ρ m bl (cs, (t, false)) w.heap.size
  have hmm := h.mm.alloc (t := t) (ex := []) (open_ := false) h.b hc (fun _ => rfl) hord
  rw [List.append_nil] at hmm
  exact ⟨TRel.put (h.t.ext hl.ha hl.hn hl.hb hl.hm) dst (by simp [V.ok, W.ok, A.ok]) (by simp [V.rel, W.den, A.den, updM_same]), by rw [put_defers]; exact h.d, h.b.alloc hc, hmm⟩
/-- A slice's row, newly laid. -/
theorem R.row {n : Nat} {ρ : Env} {m : Nat → Nat} {tm : List V} {bl : List Blk} {a : Act} {w : World} {cs : List A} {t : TypeId} {ex : List Value} {open_ : Bool} (h : R w0 n ρ m tm bl a w) (hc : ∀ x ∈ cs, A.ok n bl.length ρ x) (hop : open_ = false → ex = []) (hord : isOrd cs = true) (dst : Option Tmp) {v : V} {x : Value}
    (hv : v.ok n (bl.length + 1) ρ) (hx : v.rel ρ (updM m bl.length w.heap.size) x) :
    R w0 n ρ (updM m bl.length w.heap.size) (putV tm dst v) (bl ++ [(cs, (t, open_))]) (a.put dst x) (w.alloc (.cells (cs.map (A.den ρ m) ++ ex).toArray t)) := by
  have hl := Later.alloc n ρ m bl (cs, (t, open_)) w.heap.size
  exact ⟨TRel.put (h.t.ext hl.ha hl.hn hl.hb hl.hm) dst (by simpa using hv) hx, by rw [put_defers]; exact h.d, h.b.alloc hc, h.mm.alloc h.b hc hop hord⟩

/-- A store. -/
theorem Mem.storeCells {n : Nat} {ρ : Env} {m : Nat → Nat} {bl : List Blk} {w : World} {b off : Nat} {cs l : List A} {bt : TypeId × Bool} (h : Mem w0 ρ m bl w) (hb : BlOk n bl.length ρ bl) (hl : ∀ a ∈ l, A.ok n bl.length ρ a)
    (hbl : bl[b]? = some (cs, bt)) (hfit : off + l.length ≤ cs.length) (ho1 : isOrd cs = true) (ho2 : isOrd (cs.take off ++ l ++ cs.drop (off + l.length)) = true) :
    ∃ w', (Go.storeCells ⟨m b, off, none⟩ (l.map (A.den ρ m))).run P w = .ok () w' ∧ Mem w0 ρ m (setB bl b (cs.take off ++ l ++ cs.drop (off + l.length), bt)) w' := by
  obtain ⟨h1, h1', r, hr, h2⟩ := h.blk b cs bt hbl ho1
  have hst := run_storeCells_at P (m b) off bt.1 (l.map (A.den ρ m)) 0 (cs.map (A.den ρ m) ++ r).toArray w h2 (by simp; omega) (fun x hx => by
    obtain ⟨a, ha, rfl⟩ := List.mem_map.1 hx
    exact A.oneCell (hl a ha))
  have hsplit : ∀ k, k ≤ cs.length → (cs.map (A.den ρ m) ++ r).take k = (cs.take k).map (A.den ρ m) ∧ (cs.map (A.den ρ m) ++ r).drop k = (cs.drop k).map (A.den ρ m) ++ r := fun k hk => by
    refine ⟨?_, ?_⟩
    · rw [List.take_append_of_le_length (by simpa using hk), List.map_take]
    · rw [List.drop_append_of_le_length (by simpa using hk), List.map_drop]
  refine ⟨w.setRow (m b) ((cs.take off ++ l ++ cs.drop (off + l.length)).map (A.den ρ m) ++ r).toArray, ?_, ?_⟩
  · simp only [Nat.add_zero, List.length_map] at hst
    rw [hst]
    congr 3
    simp only [List.map_append, List.append_assoc]
    rw [(hsplit off (by omega)).1, (hsplit (off + l.length) (by omega)).2]
  · have hblen : b < bl.length := (List.getElem?_eq_some_iff.1 hbl).1
    have hset : ∀ (i : Nat) (p : Blk), (setB bl b (cs.take off ++ l ++ cs.drop (off + l.length), bt))[i]? = some p → (i = b ∧ p = (cs.take off ++ l ++ cs.drop (off + l.length), bt)) ∨ (i ≠ b ∧ bl[i]? = some p) := fun i p hi => by
      rw [setB_eq, List.getElem?_set] at hi
      split at hi
      · rename_i hbi
        subst hbi
        simp only [hblen, if_true, Option.some.injEq] at hi
        exact .inl ⟨rfl, hi.symm⟩
      · rename_i hbi; exact .inr ⟨fun e => hbi e.symm, hi⟩
    have hkb : kindC ρ cs = 2 := kind_ord ho1
    refine ⟨h.ext.setRow (m b) _ h1, h.hos, h.htape, h.hout, by simp; exact h.hsize, fun i hi hx => ?_, fun i cs' t' hi ho => ?_, fun i sh off' code cap kind t' hi => ?_, fun i j p q hi hj he => ?_⟩
    · rw [setRow_other w (m b) i _ (fun e => by
        subst e
        rcases h1' with h3 | h3
        · exact hx h3
        · omega)]
      exact h.frm i hi hx
    · rcases hset i _ hi with ⟨rfl, hi2⟩ | ⟨hne, hi⟩
      · cases hi2
        exact ⟨h1, h1', r, hr, setRow_heap w (m i) _ _ _ _ h2⟩
      · obtain ⟨g1, g1', g2⟩ := h.blk i cs' t' hi ho
        exact ⟨g1, g1', by rw [setRow_other w (m b) (m i) _ (fun e => h.ne hbl hi (by rw [hkb]; exact Nat.le_refl 2) (by rw [kind_ord ho]; decide) (fun e => hne e.symm) (by first | exact e | exact e.symm))]; exact g2⟩
    · rcases hset i _ hi with ⟨rfl, hi2⟩ | ⟨hne, hi⟩
      · have hi := (Prod.mk.inj hi2).1
        rw [← hi] at ho2
        cases ho2
      · exact (h.rws i sh off' code cap kind t' hi).grow fun hk hc => setRow_other w (m b) (m i) _ (fun e => h.ne hbl hi (by rw [hkb]; exact Nat.le_refl 2) (by simp only [kindC_rows hk hc]; exact hk) (fun e => hne e.symm) (by first | exact e | exact e.symm))
    · have hk : ∀ (i : Nat) (p : Blk), (setB bl b (cs.take off ++ l ++ cs.drop (off + l.length), bt))[i]? = some p → ∃ p', bl[i]? = some p' ∧ kindC ρ p'.1 = kindC ρ p.1 := fun i p hi => by
        rcases hset i _ hi with ⟨rfl, hi2⟩ | ⟨hne, hi⟩
        · exact ⟨_, hbl, by rw [hi2]; exact hkb.trans (kind_ord ho2).symm⟩
        · exact ⟨p, hi, rfl⟩
      obtain ⟨p', hp, ep⟩ := hk i p hi
      obtain ⟨q', hq, eq⟩ := hk j q hj
      rw [← ep, ← eq]
      exact h.inj i j p' q' hp hq he
theorem Mem.store {n : Nat} {ρ : Env} {m : Nat → Nat} {bl : List Blk} {w : World} {b off : Nat} {cs l : List A} {bt : TypeId × Bool} (h : Mem w0 ρ m bl w) (hb : BlOk n bl.length ρ bl) (hl : ∀ a ∈ l, A.ok n bl.length ρ a)
    (hbl : bl[b]? = some (cs, bt)) (hfit : off + l.length ≤ cs.length) (hpos : 0 < l.length) (ho1 : isOrd cs = true) (ho2 : isOrd (cs.take off ++ l ++ cs.drop (off + l.length)) = true) (ty : TypeId) (hs : szB P ty = some l.length) (v : Value) (hv : v.cells = (l.map (A.den ρ m)).toArray) :
    ∃ w', (Instr.storeAt ty (.pointer (some ⟨m b, off, none⟩)) v).run P w = .ok () w' ∧ Mem w0 ρ m (setB bl b (cs.take off ++ l ++ cs.drop (off + l.length), bt)) w' := by
  obtain ⟨w', hrun, hm'⟩ := h.storeCells (P := P) hb hl hbl hfit ho1 ho2
  refine ⟨w', ?_, hm'⟩
  simp only [Instr.storeAt, Instr.sureAddr, Sem.run_bind, Sem.run_pure, Result.andThen_ok, storeVar, run_szB hs, hv]
  simp only [List.size_toArray, List.length_map, ne_eq, not_true_eq_false, if_false, Sem.run_pure, Result.andThen_ok]
  simp only [Sem.run_pure, Result.andThen_ok, hrun]

theorem setB_length (bl : List Blk) (b : Nat) (x : Blk) : (setB bl b x).length = bl.length := by rw [setB_eq]; simp
theorem BlOk.set {n : Nat} {ρ : Env} {bl : List Blk} {b : Nat} {cs : List A} {t : TypeId × Bool} (hb : BlOk n bl.length ρ bl) (hc : ∀ a ∈ cs, A.ok n bl.length ρ a) : BlOk n (setB bl b (cs, t)).length ρ (setB bl b (cs, t)) := by
  intro p hp a ha
  rw [setB_length]
  rw [setB_eq] at hp
  rcases List.mem_or_eq_of_mem_set hp with h | h
  · exact hb p h a ha
  · subst h; exact hc a ha
theorem zeroL_spec {t : TypeId} {cs : List A} (h : zeroL P t = some cs) : ∃ i z, P.info? t = some i ∧ i.zero = some z ∧ constL z.cells.toList = some cs := by
  unfold zeroL at h
  cases hi : P.info? t with
  | none => simp [hi] at h
  | some i =>
    cases hz : i.zero with
    | none => simp [hi, hz] at h
    | some z => simp only [hi, hz] at h; exact ⟨i, z, rfl, hz, h⟩
theorem getB_eq {Z : Array Value} {i : Nat} (h : i < Z.size) : Z[i]! = Z[i] := by simp [h]
theorem repL_spec {z : List A} {Z : Array Value} {n nb : Nat} {ρ : Env} {m : Nat → Nat} (hz : z.map (A.den ρ m) = Z.toList) (hok : ∀ a ∈ z, A.ok n nb ρ a) (h0 : 0 < z.length) (len : Nat) :
    (∀ a ∈ repL z len, A.ok n nb ρ a) ∧ ((repL z len).map (A.den ρ m)).toArray = (Array.range (len * Z.size)).map fun i => Z[i % Z.size]! := by
  have hl : Z.size = z.length := by have := congrArg List.length hz; simpa using this.symm
  have hi : ∀ i, i % z.length < z.length := fun i => Nat.mod_lt _ h0
  refine ⟨fun a ha => ?_, ?_⟩
  · obtain ⟨i, _, rfl⟩ := List.mem_map.1 ha
    rw [List.getElem?_eq_getElem (hi i)]
    exact hok _ (List.getElem_mem _)
  · apply Array.ext'
    rw [Array.toList_map, Array.toList_range]
    simp only [repL, List.map_map, hl]
    refine List.map_congr_left fun i _ => ?_
    simp only [Function.comp]
    have h1 : i % z.length < Z.size := by rw [hl]; exact hi i
    rw [getB_eq h1, List.getElem?_eq_getElem (hi i)]
    simp only [Option.getD_some]
    have h2 := congrArg (fun l => l[i % z.length]?) hz
    simp only [List.getElem?_map, List.getElem?_eq_getElem (hi i), Option.map_some] at h2
    rw [Array.getElem?_toList, Array.getElem?_eq_getElem h1] at h2
    simpa using h2
theorem bsL_spec {t : TypeId} {len n : Nat} {ρ : Env} {m : Nat → Nat} {bl : List Blk} {parts : List (Nat × V)} {vals : Array (Nat × Value)} {cs : List A} {e : TypeId} (h : bsL P t len parts = some (cs, e)) (hr : PRel n bl.length ρ m parts vals.toList) :
    (∀ a ∈ cs, A.ok n bl.length ρ a) ∧ ∀ w, (Instr.buildSlice t len vals).run P w = .ok (.slice (some ⟨w.heap.size, 0, none⟩) len len) (w.alloc (.cells (cs.map (A.den ρ m)).toArray e)) := by
  unfold bsL at h
  cases h1 : slcOf P t with
  | none => simp [h1] at h
  | some e' =>
    simp only [h1] at h
    cases h2 : szB P e' with
    | none => simp [h2] at h
    | some s =>
      cases h3 : zeroL P e' with
      | none => simp [h2, h3] at h
      | some z =>
        simp only [h2, h3] at h
        cases hc : (Nat.beq z.length s && Nat.blt 0 s && Nat.ble (len * s) 16777216) with
        | false => simp [hc] at h
        | true =>
          simp only [hc, cond_true] at h
          simp only [Bool.and_eq_true] at hc
          have c1 := Nat.eq_of_beq_eq_true hc.1.1
          have c2 := blt_lt hc.1.2
          have c3 := Nat.le_of_ble_eq_true hc.2
          cases h4 : fillL (fun i => some (i * s, s)) (repL z len) parts with
          | none => simp [h4] at h
          | some l =>
            simp only [h4, Option.some.injEq, Prod.mk.injEq] at h
            obtain ⟨rfl, rfl⟩ := h
            obtain ⟨inf, zv, hi, hzz, hcl⟩ := zeroL_spec h3
            have hcz := constL_spec hcl n bl.length ρ m
            have hrep := repL_spec (Z := zv.cells) hcz.2 hcz.1 (by omega) len
            have hZ : zv.cells.size = s := by have := congrArg List.length hcz.2; simp at this; omega
            obtain ⟨g1, g2⟩ := fillL_spec (m := m) h4 hrep.1 hr
            refine ⟨g1, fun w => ?_⟩
            rw [hrep.2, hZ] at g2
            have hn : ¬ (16777216 < len * s) := by omega
            by_cases hl0 : len = 0
            · subst hl0
              have g3 : Instr.fill (fun i => some (i * s, s)) ((Array.range (0 * s)).map fun i => (#[] : Array Value)[i % (#[] : Array Value).size]!) vals.toList = some (l.map (A.den ρ m)).toArray := by
                rw [← g2]; congr 1; simp
              simp [Instr.buildSlice, run_underlying (slcOf_spec h1), run_szB h2] at g3 ⊢
              simp [g3, newRow]
            · have hne : ¬ (len * s = 0) := by
                intro h0
                rcases Nat.mul_eq_zero.1 h0 with h0 | h0 <;> omega
              have hlen0 : ¬ (s = 0) := by omega
              simp [Instr.buildSlice, run_underlying (slcOf_spec h1), run_szB h2, hn, hne, hl0, hlen0, zeroValue, typeInfo, hi, hzz, hZ, g2, newRow]

theorem zeroCells_succ {Z : Array Value} {k : Nat} (h : 0 < Z.size) : ∃ r : List Value, Builtin.zeroCells Z (k + 1) = (Z.toList ++ r).toArray := by
  refine ⟨(Builtin.zeroCells Z (k + 1)).toList.drop Z.size, ?_⟩
  apply Array.ext'
  have : (Builtin.zeroCells Z (k + 1)).toList.take Z.size = Z.toList := by
    apply List.ext_getElem?
    intro i
    rw [List.getElem?_take]
    by_cases hi : i < Z.size
    · have h1 : i < (k + 1) * Z.size := Nat.lt_of_lt_of_le hi (by rw [Nat.succ_mul]; omega)
      rw [if_pos hi]
      simp only [Builtin.zeroCells, Array.toList_map, Array.toList_range, List.getElem?_map, List.getElem?_range h1, Option.map_some, Nat.mod_eq_of_lt hi]
      rw [getB_eq hi, Array.getElem?_toList, Array.getElem?_eq_getElem hi]
    · rw [if_neg hi, List.getElem?_eq_none (by simpa using hi)]
  conv => lhs; rw [← List.take_append_drop Z.size (Builtin.zeroCells Z (k + 1)).toList, this]

theorem headC_spec {w : World} {n : Nat} {ρ : Env} {m : Nat → Nat} {bl : List Blk} {b off k : Nat} {cs : List A} (hm : Mem w0 ρ m bl w) (hb : BlOk n bl.length ρ bl) (h : headC bl b off k = some cs) :
    cs.length = k ∧ (∀ a ∈ cs, A.ok n bl.length ρ a) ∧ ∀ j v, (cs.map (A.den ρ m))[j]? = some v → w.cell? ((⟨m b, off, none⟩ : Addr).add j) = some v := by
  unfold headC at h
  cases hbl : bl[b]? with
  | none => simp [hbl] at h
  | some q =>
    obtain ⟨C, t⟩ := q
    simp only [hbl] at h
    cases hc : (Nat.ble (off + k) C.length && isOrd C) with
    | false => simp [hc] at h
    | true =>
      simp only [hc, cond_true, Option.some.injEq] at h
      simp only [Bool.and_eq_true] at hc
      have hle := Nat.le_of_ble_eq_true hc.1
      subst h
      obtain ⟨_, _, r, _, h2⟩ := hm.blk b C t hbl hc.2
      refine ⟨by simp; omega, fun a ha => hb _ (List.mem_of_getElem? hbl) a (List.mem_of_mem_drop (List.mem_of_mem_take ha)), fun j v hj => ?_⟩
      rw [addr_add]
      rw [List.getElem?_map, List.getElem?_take] at hj
      split at hj
      · rename_i hjk
        rw [List.getElem?_drop] at hj
        cases hq : C[off + j]? with
        | none => simp [hq] at hj
        | some y =>
          simp only [hq, Option.map_some, Option.some.injEq] at hj
          have hlt : off + j < C.length := (List.getElem?_eq_some_iff.1 hq).1
          simp only [World.cell?, h2, Option.isSome_none, Bool.false_eq_true, if_false, List.getElem?_toArray]
          rw [List.getElem?_append_left (by simpa using hlt), List.getElem?_map, hq]
          simp [hj]
      · simp at hj

theorem growE_wp {n : Nat} {ρ : Env} {m : Nat → Nat} {tm : List V} {bl : List Blk} {a : Act} {w : World} {G : Again} {K : Act → World → Prop} {k : SK} {i : TypeInfo} {e : TypeId} {z : List A} {d : Option Tmp} {sLen sCap len : Nat} {olds news : List A} {Z : Array Value}
    (h : R w0 n ρ m tm bl a w) (ho : ∀ a ∈ olds, A.ok n bl.length ρ a) (hn : ∀ a ∈ news, A.ok n bl.length ρ a) (hz : ∀ a ∈ z, A.ok n bl.length ρ a) (hZ : z.map (A.den ρ m) = Z.toList) (hh : (growE i e z d sLen sCap len olds news n tm bl k).holds S L G ρ) (hk : SKok S L w0 k n bl.length ρ m G K) :
    (sLen + len ≤ 1000000 ∧ Builtin.nextslicecap (sLen + len) sCap * i.bytes ≤ 281474976710656 ∧ sCap < sLen + len ∧ 0 < len) ∧
    K (a.put d (.slice (some ⟨w.heap.size, 0, none⟩) (sLen + len) (grownCap w (sLen + len) sCap e))) (w.drew.alloc (.cells ((olds.map (A.den ρ m)).toArray ++ (news.map (A.den ρ m)).toArray ++ Builtin.zeroCells Z (grownCap w (sLen + len) sCap e - (sLen + len))) e)) := by
  unfold growE at hh
  cases hc : (Nat.ble (sLen + len) 1000000 && Nat.ble (Builtin.nextslicecap (sLen + len) sCap * i.bytes) 281474976710656 && Nat.blt sCap (sLen + len) && Nat.blt 0 len && Nat.beq z.length i.size && Nat.blt 0 i.size && isOrd (olds ++ news) && isOrd (olds ++ news ++ z)) with
  | false => rw [hc] at hh; exact hh.elim
  | true =>
    simp only [hc, cond_true, T.holds] at hh
    simp only [Bool.and_eq_true] at hc
    obtain ⟨⟨hc, ho1⟩, ho2⟩ := hc
    have c1 := Nat.le_of_ble_eq_true hc.1.1.1.1.1
    have c2 := Nat.le_of_ble_eq_true hc.1.1.1.1.2
    have c3 := blt_lt hc.1.1.1.2
    have c4 := blt_lt hc.1.1.2
    have c5 := Nat.eq_of_beq_eq_true hc.1.2
    have c6 := blt_lt hc.2
    refine ⟨⟨c1, c2, c3, c4⟩, ?_⟩
    have hsz : Z.size = z.length := by have := congrArg List.length hZ; simpa using this.symm
    have hge : sLen + len ≤ grownCap w (sLen + len) sCap e := by unfold grownCap Question.cut; exact Nat.le_add_right _ _
    generalize grownCap w (sLen + len) sCap e = c at hge ⊢
    have hdrew : R w0 n ρ m tm bl a w.drew := ⟨h.t, h.d, h.b, h.mm.grow (World.Extends.drew (World.Extends.refl w))⟩
    by_cases hce : c = sLen + len
    · subst hce
      have hzc : Builtin.zeroCells Z (sLen + len - (sLen + len)) = #[] := by simp [Builtin.zeroCells]
      rw [hzc]
      have hR := R.row (t := e) (cs := olds ++ news) (ex := []) (open_ := false) hdrew (fun x hx => (List.mem_append.1 hx).elim (ho x) (hn x)) (fun _ => rfl) ho1 d (v := .w (.one (.slc bl.length 0 (sLen + len) (sLen + len)))) (x := .slice (some ⟨w.heap.size, 0, none⟩) (sLen + len) (sLen + len)) (by simp [V.ok, W.ok, A.ok]) (by
        show Value.slice (some ⟨w.heap.size, 0, none⟩) _ _ = _
        simp [W.den, A.den, updM_same])
      have := hk n ρ _ _ _ G _ _ (Later.alloc n ρ m bl (olds ++ news, (e, false)) w.heap.size) (AgA.refl _ _) hR hh.1
      simpa [List.map_append] using this
    · obtain ⟨q, hq⟩ : ∃ q, c - (sLen + len) = q + 1 := ⟨c - (sLen + len) - 1, by omega⟩
      rw [hq]
      obtain ⟨r, hr⟩ := zeroCells_succ (Z := Z) (k := q) (by omega)
      rw [hr, ← hZ]
      have hR := R.row (t := e) (cs := olds ++ news ++ z) (ex := r) (open_ := true) hdrew (fun x hx => (List.mem_append.1 hx).elim (fun hx => (List.mem_append.1 hx).elim (ho x) (hn x)) (hz x)) (fun h => by cases h) ho2 d (v := .osl bl.length (sLen + len) (sLen + len + 1)) (x := .slice (some ⟨w.heap.size, 0, none⟩) (sLen + len) c) (by simp [V.ok]) ⟨c, by omega, by
        rw [updM_same]; rfl⟩
      have := hk n ρ _ _ _ G _ _ (Later.alloc n ρ m bl (olds ++ news ++ z, (e, true)) w.heap.size) (AgA.refl _ _) hR hh.2
      simpa [List.map_append] using this

theorem appE_wp {n : Nat} {ρ : Env} {m : Nat → Nat} {tm : List V} {bl : List Blk} {a : Act} {w : World} {G : Again} {o : Oper} {K : Act → World → Prop} {Q : Exit → Act → World → Prop} {k : SK} {c : Call} {s x : Operand} {t t' : TypeId}
    (h : R w0 n ρ m tm bl a w) (hop : o.op = .call c) (hcl : c.callee = .builtin .append) (hxs : c.args.toList = [s, x]) (hts : c.argTypes.toList = [t, t'])
    (hh : (appE P o.dst t t' (opV tm s) (opV tm x) n tm bl k).holds S L G ρ) (hk : SKok S L w0 k n bl.length ρ m G K) : o.wp P a w K Q := by
  have a1 : c.args = #[s, x] := by rw [← Array.toArray_toList (xs := c.args), hxs]
  have a2 : c.argTypes = #[t, t'] := by rw [← Array.toArray_toList (xs := c.argTypes), hts]
  have hex : execOp a.eval o = (do pure (Next.value (← Builtin.append_ #[t, t'] o.type #[a.eval s, a.eval x]))) := by
    simp [execOp, hop, resolve, hcl, a1, a2, invoke, builtin]
  have hwp : ∀ v w', (Builtin.append_ #[t, t'] o.type #[a.eval s, a.eval x]).run P w = .ok v w' → K (a.put o.dst v) w' → o.wp P a w K Q := fun v w' h1 h2 => by
    unfold Oper.wp
    simp only [hex, Sem.run_bind, h1, Result.andThen_ok, Sem.run_pure]
    exact h2
  have hs := opV_spec h.t s
  have hx := opV_spec h.t x
  unfold appE at hh
  split at hh
  · rename_i b' off' len' cap' e hxv hse
    rw [hxv] at hx
    have hxr : a.eval x = .slice (some ⟨m b', off', none⟩) len' cap' := hx.2
    split at hh
    · rename_i i z hi hz
      split at hh
      · rename_i news hnews
        obtain ⟨n1, n2, n3⟩ := headC_spec h.mm h.b hnews
        cases htt : Nat.beq t t' with
        | false => simp [htt, T.holds] at hh
        | true =>
          have htt := Nat.eq_of_beq_eq_true htt
          subst htt
          simp only [Nat.beq_refl, Bool.not_true, cond_false] at hh
          obtain ⟨inf, zv, hi', hzz, hcz⟩ := zeroL_spec hz
          rw [hi] at hi'
          simp only [Option.some.injEq] at hi'
          subst hi'
          have hcz := constL_spec hcz n bl.length ρ m
          cases hnil : isNilB (opV tm s) with
          | true =>
            simp only [hnil, cond_true] at hh
            have hsr : a.eval s = .slice none 0 0 := by
              unfold isNilB at hnil
              split at hnil
              · rename_i hv
                rw [hv] at hs
                exact hs.2
              · cases hnil
            obtain ⟨⟨c1, c2, c3, c4⟩, c5⟩ := growE_wp (Z := zv.cells) h (fun _ h => by simp at h) n2 hcz.1 hcz.2 hh hk
            simp only [Nat.zero_add] at c1 c2 c3 c4 c5
            refine hwp _ _ ?_ c5
            rw [hsr, hxr, run_append_nil w t _ e i zv (slcOf_spec hse) hi hzz ⟨m b', off', none⟩ len' cap' (news.map (A.den ρ m)) (by simpa using n1) n3 c4 (by omega) (by rw [nextslicecap_zero c4] at c2; exact c2)]
            simp
          | false =>
            simp only [hnil, cond_false] at hh
            split at hh
            · rename_i b off len cap hsv
              rw [hsv] at hs
              have hsr : a.eval s = .slice (some ⟨m b, off, none⟩) len cap := hs.2
              split at hh
              · rename_i olds hold
                obtain ⟨o1, o2, o3⟩ := headC_spec h.mm h.b hold
                obtain ⟨⟨c1, c2, c3, c4⟩, c5⟩ := growE_wp (Z := zv.cells) h o2 n2 hcz.1 hcz.2 hh hk
                refine hwp _ _ ?_ c5
                rw [hsr, hxr, run_append_grow w t _ e i zv (slcOf_spec hse) hi hzz ⟨m b, off, none⟩ len cap (olds.map (A.den ρ m)) (by simpa using o1) o3 ⟨m b', off', none⟩ len' cap' (news.map (A.den ρ m)) (by simpa using n1) n3 c3 (by omega) c2]
              · exact hh.elim
            · rename_i b len lo hsv
              rw [hsv] at hs
              obtain ⟨cp, hcp, hsr⟩ := hs.2
              split at hh
              · rename_i cs ty hbl
                cases hc : (Nat.ble (len + len') lo && Nat.ble ((len + len') * i.size) cs.length && Nat.blt 0 (len' * i.size) && isOrd cs && isOrd (cs.take (len * i.size) ++ news ++ cs.drop (len * i.size + news.length))) with
                | false => rw [hc] at hh; exact hh.elim
                | true =>
                  simp only [hc, cond_true] at hh
                  simp only [Bool.and_eq_true] at hc
                  obtain ⟨⟨hc, ho1⟩, ho2⟩ := hc
                  have c1 := Nat.le_of_ble_eq_true hc.1.1
                  have c2 := Nat.le_of_ble_eq_true hc.1.2
                  have c3 := blt_lt hc.2
                  obtain ⟨w', hrun, hm'⟩ := h.mm.storeCells (P := P) (off := len * i.size) (l := news) h.b n2 hbl (by rw [n1, ← Nat.add_mul]; exact c2) ho1 ho2
                  have hok : ∀ a ∈ cs.take (len * i.size) ++ news ++ cs.drop (len * i.size + news.length), A.ok n bl.length ρ a := fun a ha => by
                    have hcs := h.b _ (List.mem_of_getElem? hbl)
                    rcases List.mem_append.1 ha with ha | ha
                    · rcases List.mem_append.1 ha with ha | ha
                      · exact hcs a (List.mem_of_mem_take ha)
                      · exact n2 a ha
                    · exact hcs a (List.mem_of_mem_drop ha)
                  have hblt : b < bl.length := (List.getElem?_eq_some_iff.1 hbl).1
                  refine hwp (.slice (some ⟨m b, 0, none⟩) (len + len') cp) w' ?_ (hk n ρ m _ _ G _ w' ⟨Nat.le_refl _, agree.refl _ _, by rw [setB_length]; exact Nat.le_refl _, fun _ _ => rfl⟩ (AgA.refl _ _) ⟨?_, by rw [put_defers]; exact h.d, h.b.set hok, hm'⟩ hh)
                  · have hfn := run_firstCells_some (P := P) w i.size len' ⟨m b', off', none⟩ len' cap' (news.map (A.den ρ m)) (by simpa using n1) n3
                    have hle : len + len' ≤ cp := by omega
                    rw [hsr, hxr]
                    simp [Builtin.append_, run_underlying (slcOf_spec hse), sizeOf, typeInfo, hi, Builtin.lenOf, hle, hfn, addr_add, hrun]
                  · rw [setB_length]
                    exact TRel.put h.t o.dst hblt ⟨cp, by omega, rfl⟩
              · exact hh.elim
            · exact hh.elim
      · exact hh.elim
    · exact hh.elim
  · exact hh.elim

/-- A quiet operation, walked. -/
theorem quiet_wp {n : Nat} {ρ : Env} {m : Nat → Nat} {tm : List V} {bl : List Blk} {a : Act} {w : World} {G : Again} {o : Oper} {K : Act → World → Prop} {Q : Exit → Act → World → Prop} {k : SK}
    (hcal : CalOk S P gl w0 cal) (hg : GOk gl w0) (h : R w0 n ρ m tm bl a w) (hh : (qop P cal gl bl tm o n fun v n' => k n' (putV tm o.dst v) bl).holds S L G ρ) (hk : SKok S L w0 k n bl.length ρ m G K) : o.wp P a w K Q := by
  obtain ⟨ρ', n', v, hn, ha, ⟨hv, val, hr, hq⟩, hh'⟩ := qop_snd (L := L) hcal h.b hg ⟨w, h.mm⟩ h.t o G _ hh
  have hl : Later n bl.length ρ m n' bl.length ρ' m := ⟨hn, ha, Nat.le_refl _, fun _ _ => rfl⟩
  have hR : ∀ w', w.Extends w' → R w0 n' ρ' m (putV tm o.dst v) bl (a.put o.dst val) w' := fun w' he =>
    ⟨TRel.put (h.t.ext ha hn (Nat.le_refl _) (fun _ _ => rfl)) o.dst hv hr, by rw [put_defers]; exact h.d, h.b.ext ha hn (Nat.le_refl _), (h.mm.grow he).rho h.b ha⟩
  unfold Oper.wp
  rcases hq w h.mm with hq | ⟨f, args, hq, hc⟩
  · rw [hq]
    exact hk n' ρ' m _ bl G _ w hl (AgA.refl _ _) (hR w (World.Extends.refl w)) hh'
  · rw [hq]
    refine hc.mono fun e w'' ⟨he, hx⟩ => ?_
    subst he
    exact hk n' ρ' m _ bl G _ w'' hl (AgA.refl _ _) (hR w'' hx) hh'

theorem cloOf_spec {n nb : Nat} {ρ : Env} {m : Nat → Nat} {v : V} {f : Nat} {caps : List A} {x : Value} (h : cloOf v = some (f, caps)) (hv : v.ok n nb ρ) (hr : v.rel ρ m x) :
    (∀ y ∈ caps, A.ok n nb ρ y) ∧ x = .func (.func f) #[] (caps.map (A.den ρ m)).toArray := by
  unfold cloOf at h
  split at h
  · simp only [Option.some.injEq, Prod.mk.injEq] at h
    obtain ⟨rfl, rfl⟩ := h
    exact ⟨hv, hr⟩
  · rename_i f' a b
    cases hc : (Nat.beq a.size 0 && Nat.beq b.size 0) with
    | false => simp [hc] at h
    | true =>
      simp only [hc, cond_true, Option.some.injEq, Prod.mk.injEq] at h
      obtain ⟨rfl, rfl⟩ := h
      simp only [Bool.and_eq_true] at hc
      have e1 := Array.eq_empty_of_size_eq_zero (Nat.eq_of_beq_eq_true hc.1)
      have e2 := Array.eq_empty_of_size_eq_zero (Nat.eq_of_beq_eq_true hc.2)
      subst e1; subst e2
      have hr : x = .func (.func f') #[] #[] := hr
      exact ⟨fun y hy => by simp at hy, by rw [hr]; rfl⟩
  · cases h
end
end Go.Rx
