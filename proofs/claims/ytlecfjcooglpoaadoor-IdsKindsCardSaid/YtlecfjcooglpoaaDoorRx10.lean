/- The evaluator's soundness, whole. -/
import Derived.Test.YtlecfjcooglpoaaDoorRx9
set_option linter.unusedVariables false
set_option linter.unusedSimpArgs false
namespace Go.Rx
open M

section
variable {S : Nat → List Int → List Int → Prop} {L : V → Env → Prop} {w0 : Base} {P : Program} {gl : Glo} {cal : Cal}

def EKok (S : Nat → List Int → List Int → Prop) (L : V → Env → Prop) (w0 : Base) (k : EK) (n nb : Nat) (ρ : Env) (m : Nat → Nat) (G : Again) (Q : Exit → Act → World → Prop) : Prop :=
  ∀ x n' ρ' m' tm' bl' G' a' w', Later n nb ρ m n' (List.length bl') ρ' m' → AgA n G G' → R w0 n' ρ' m' tm' bl' a' w' → (k x n' tm' bl').holds S L G' ρ' → Q x.to a' w'
theorem EKok.later {k : EK} {n nb n1 nb1 : Nat} {ρ ρ1 : Env} {m m1 : Nat → Nat} {G G1 : Again} {Q : Exit → Act → World → Prop} (h : EKok S L w0 k n nb ρ m G Q) (hl : Later n nb ρ m n1 nb1 ρ1 m1) (hA : AgA n G G1) : EKok S L w0 k n1 nb1 ρ1 m1 G1 Q :=
  fun x n' ρ' m' tm' bl' G' a' w' h1 h2 h3 h4 => h x n' ρ' m' tm' bl' G' a' w' (hl.trans h1) (hA.trans h2 hl.hn) h3 h4
def BodyOk (S : Nat → List Int → List Int → Prop) (L : V → Env → Prop) (w0 : Base) (P : Program) (c : Code) (e : Nat → List V → List Blk → EK → T) : Prop :=
  ∀ n tm bl k G ρ m a w Q, R w0 n ρ m tm bl a w → (e n tm bl k).holds S L G ρ → EKok S L w0 k n bl.length ρ m G Q → c.wp P Q a w

theorem rounds_wp {c : Code} {e : Nat → List V → List Blk → EK → T} (he : BodyOk S L w0 P c e) {Q : Exit → Act → World → Prop} : ∀ (r : Nat) {n : Nat} {ρ : Env} {m : Nat → Nat} {tm : List V} {bl : List Blk} {a : Act} {w : World} {G : Again} {k : EK},
    R w0 n ρ m tm bl a w → (roundsE e r n tm bl k).holds S L G ρ → EKok S L w0 k n bl.length ρ m G Q → Code.rounds P c Q r a w
  | 0, _, _, _, _, _, _, _, _, _, _, hh, _ => hh.elim
  | r + 1, n, ρ, m, tm, bl, a, w, G, k, h, hh, hk => by
    rw [rounds_succ]
    refine he n tm bl _ G ρ m a w _ h hh fun x n' ρ' m' tm' bl' G' a' w' h1 h2 h3 h4 => ?_
    cases x with
    | normal => exact rounds_wp he r h3 h4 (hk.later h1 h2)
    | exit id => exact hk (.exit id) n' ρ' m' tm' bl' G' a' w' h1 h2 h3 h4
    | ret => exact hk .ret n' ρ' m' tm' bl' G' a' w' h1 h2 h3 h4

theorem LR_of_TRel' {n nb : Nat} {ρ : Env} {m : Nat → Nat} {tm : List V} {xs : Array Value} (h : TRel n nb ρ m tm xs) : LR n nb ρ m tm xs.toList := LR_of_TRel (by simpa using h)

/-- The state at a loop's head, at an environment where the new unknowns are what the slots and cells hold. -/
theorem head_R {li : LoopI} {n : Nat} {ρ0 ρ' : Env} {m0 m' : Nat → Nat} {tm tm' tmH tmE : List V} {bl bl' blH blE : List Blk} {l1 l2 v1 v2 ext : List Lin} {b1 b2 b1' b2' : List (Int × Int)} {n' : Nat} {a : Act} {w : World}
    (hlen : bl.length ≤ bl'.length)
    (ha : agree n ρ0 ρ') (hm : ∀ b, b < bl.length → m' b = m0 b) (ht : ∀ v ∈ tm, V.ok n bl.length ρ0 v) (hb0 : BlOk n bl.length ρ0 bl)
    (h : R w0 n' ρ' m' tm' bl' a w) (e1 : hs li.keep li.ints 0 (n + 1) tm = some (tmH, l1, b1)) (e2 : hb li.cells 0 (n + 1 + l1.length) bl = some (blH, l2, b2))
    (e3 : hs li.keep li.ints 0 (n + 1) tm' = some (tmE, v1, b1')) (e4 : hb li.cells 0 (n + 1 + v1.length) (bl'.take bl.length) = some (blE, v2, b2'))
    (f1 : fitV tmH tmE = true) (f2 : fitB blH blE = true) :
    v1.length + v2.length = l1.length + l2.length ∧ inB (b1 ++ b2) ((v1 ++ v2).map (·.den ρ')) ∧ R w0 (n + 1 + l1.length + l2.length + ext.length) (updL ρ0 (n + 1) ((v1 ++ v2 ++ ext).map (·.den ρ'))) m0 tmH blH a w ∧ blH.length = bl.length ∧ ∀ (i : Nat) (p : Blk), blH[i]? = some p → i < bl.length ∧ ∃ p' : Blk, bl'[i]? = some p' ∧ kindC (updL ρ0 (n + 1) ((v1 ++ v2 ++ ext).map (·.den ρ'))) p.1 = kindC ρ' p'.1 := by
  have hag2 : agree n ρ0 (updL ρ0 (n + 1) ((v1 ++ v2 ++ ext).map (·.den ρ'))) := (agree.updL _ (n + 1) ρ0).mono (by omega)
  have hget : ∀ j, j < (v1 ++ v2).length → updL ρ0 (n + 1) ((v1 ++ v2 ++ ext).map (·.den ρ')) (n + 1 + j) = ((v1 ++ v2).getD j (.const 0)).den ρ' := fun j hj => by
    rw [updL_ge _ _ _ j (by simp at hj ⊢; omega)]
    have hj2 : j < (v1 ++ v2 ++ ext).length := by simp at hj ⊢; omega
    have e : (v1 ++ v2 ++ ext)[j] = (v1 ++ v2)[j] := List.getElem_append_left hj
    simp only [List.getD, List.getElem?_map, List.getElem?_eq_getElem hj, List.getElem?_eq_getElem hj2, Option.map_some, Option.getD_some, e]
  have hlen1 : v1.length + v2.length = (v1 ++ v2).length := by simp
  -- slots
  obtain ⟨p1, p2, p3⟩ := hs_spec (N := n + 1 + v1.length + v2.length + ext.length) ha hag2 hm (by omega) ht (LR_of_TRel' h.t) e1 e3 f1 (fun j hj => by
    rw [hget j (by simp; omega), getD_append_l hj]) (by omega)
  rw [← p3] at e2
  -- cells
  have hbt : BlOk n' bl'.length ρ' (bl'.take bl.length) := fun p hp => h.b p (List.mem_of_mem_take hp)
  obtain ⟨q1, q2, q3, q4⟩ := hb_spec (N := n + 1 + v1.length + v2.length + ext.length) ha hag2 hm (by omega) hb0 hbt e2 e4 f2 (fun j hj => by
    rw [show n + 1 + v1.length + j = n + 1 + (v1.length + j) by omega, hget (v1.length + j) (by simp; omega), getD_append_r]) (by omega)
  have hbl : blH.length = bl.length := (hb_len e2).2
  refine ⟨by omega, by rw [List.map_append]; exact inB_append p2 q2, ?_⟩
  rw [← p3, ← q3]
  have hE : ∀ (i : Nat) (p : Blk), blH[i]? = some p → i < bl.length ∧ ∃ p' : Blk, bl'[i]? = some p' ∧ isOrd p.1 = isOrd p'.1 ∧ p.2 = p'.2 ∧ (isOrd p.1 = false → ∃ sh off code code' cap k, p.1 = [.rows sh off code cap k] ∧ p'.1 = [.rows sh off code' cap k] ∧ off.sc n ∧ cap.sc n) := fun i p hi => by
    have hib : i < bl.length := by rw [← hbl]; exact (List.getElem?_eq_some_iff.1 hi).1
    obtain ⟨p', h1, h2, h2', h3⟩ := hb_get e4 i p (fitB_get f2 i p hi)
    rw [List.getElem?_take, if_pos hib] at h1
    obtain ⟨p0, g1, _, _, g3⟩ := hb_get e2 i p hi
    refine ⟨hib, p', h1, h2, h2', fun ho => ?_⟩
    obtain ⟨sh, off, code, code', cap, k, s1, s2⟩ := h3 ho
    obtain ⟨sh', off', c1, c2, cap', k', s3, s4⟩ := g3 ho
    rw [s1] at s3
    cases s3
    have hok : A.ok n bl.length ρ0 (.rows sh off c2 cap k) := hb0 _ (List.mem_of_getElem? g1) _ (by rw [s4]; simp)
    exact ⟨sh, off, code, code', cap, k, s1, s2, hok.1.1, hok.1.2.2⟩
  have hag3 : agree n ρ' (updL ρ0 (n + 1) ((v1 ++ v2 ++ ext).map (·.den ρ'))) := ha.sym.trans hag2 (Nat.le_refl _)
  have hk2 : ∀ (p p' : Blk), isOrd p.1 = isOrd p'.1 → (isOrd p.1 = false → ∃ sh off code code' cap k, p.1 = [.rows sh off code cap k] ∧ p'.1 = [.rows sh off code' cap k] ∧ off.sc n ∧ cap.sc n) → kindC (updL ρ0 (n + 1) ((v1 ++ v2 ++ ext).map (·.den ρ'))) p.1 = kindC ρ' p'.1 := fun p p' h1 h2 => by
    cases ho : isOrd p.1 with
    | true => rw [kind_ord ho, kind_ord (h1 ▸ ho)]
    | false =>
      obtain ⟨sh, off, code, code', cap, k, s1, s2, s3, s4⟩ := h2 ho
      rw [s1, s2]
      simp only [kindC]
      rw [Lin.den_agree hag3 s4]
  refine ⟨?_, hbl, fun i p hi => by
    obtain ⟨g1, p', g2, g3, _, g4⟩ := hE i p hi
    exact ⟨g1, p', g2, hk2 p p' g3 g4⟩⟩
  refine ⟨?_, h.d, by rw [hbl]; exact q1, ⟨h.mm.ext, h.mm.hos, h.mm.htape, h.mm.hout, h.mm.hsize, h.mm.frm, fun i cs t hi ho => ?_, fun i sh off code cap kind t hi => ?_, fun i j p q hi hj he => ?_⟩⟩
  · rw [hbl]
    have := TRel_of_LR p1
    simpa using this
  · obtain ⟨c', h1, h2⟩ := q4 i cs t hi
    obtain ⟨hib, p', k1, k2, _⟩ := hE i _ hi
    rw [List.getElem?_take, if_pos hib, k1] at h1
    have h1 := Option.some.inj h1
    subst h1
    obtain ⟨g1, g1', r, hr, g2⟩ := h.mm.blk i c' t k1 (k2 ▸ ho)
    rw [← hm i hib]
    exact ⟨g1, g1', r, hr, by rw [h2]; exact g2⟩
  · obtain ⟨hib, p', k1, _, k2, k3⟩ := hE i _ hi
    obtain ⟨sh', off', c1, c2, cap', k', s1, s2, s3, s4⟩ := k3 rfl
    cases s1
    obtain ⟨C, t'⟩ := p'
    simp only at s2 k2
    subst s2; subst k2
    obtain ⟨c', h1, h2⟩ := q4 i _ t hi
    rw [List.getElem?_take, if_pos hib, k1] at h1
    cases h1
    simp only [List.map_cons, List.map_nil, A.den, List.cons.injEq, Value.int.injEq, and_true, true_and] at h2
    rw [← hm i hib]
    have hR := h.mm.rws i sh off c2 cap kind t k1
    unfold RRel at hR ⊢
    rw [Lin.den_agree hag3 s3, Lin.den_agree hag3 s4, h2]
    exact hR
  · obtain ⟨hib, p', k1, k2, _, k3⟩ := hE i p hi
    obtain ⟨hjb, q', l1, l2, _, l3⟩ := hE j q hj
    rw [hk2 p p' k2 k3, hk2 q q' l2 l3]
    rw [← hm i hib, ← hm j hjb] at he
    exact h.mm.inj i j p' q' k1 l1 he

/-! ### What grows in a loop -/
theorem TRel.set {n nb : Nat} {ρ : Env} {m : Nat → Nat} {tm : List V} {xs : Array Value} {s : Nat} {v : V} (h : TRel n nb ρ m tm xs) (hv : v.ok n nb ρ) (hr : ∀ x, xs[s]? = some x → v.rel ρ m x) : TRel n nb ρ m (setV tm s v) xs := by
  rw [setV_eq]
  refine ⟨by simp [h.1], fun i u hu => ?_⟩
  rw [List.getElem?_set] at hu
  split at hu
  · rename_i hsi
    subst hsi
    split at hu
    · rename_i hlt
      cases hu
      rw [h.1] at hlt
      exact ⟨hv, _, Array.getElem?_eq_getElem hlt, hr _ (Array.getElem?_eq_getElem hlt)⟩
    · cases hu
  · exact h.2 i u hu
def BoolF (tmps : Array Value) : List Nat → List Int → Prop
  | [], [] => True
  | s :: r, z :: zs => (0 ≤ z ∧ z ≤ 1) ∧ (∀ x, tmps[s]? = some x → x = .bool (decide (z = 1))) ∧ BoolF tmps r zs
  | _, _ => False
def AccF (w0 : Base) (w : World) (tmps : Array Value) (F : Nat → Prop) : List (Nat × List CK × TypeId) → List Int → Prop
  | [], [] => True
  | (s, sh, e) :: r, code :: len :: cap :: zs => ∃ g : Nat, (∀ x, tmps[s]? = some x → x = if cap < 0 then .slice none 0 0 else .slice (some ⟨g, 0, none⟩) len.toNat cap.toNat) ∧ slOk 0 0 len cap ∧ (0 ≤ code ∧ code ≤ RB) ∧ (cap < 0 → rOf code = []) ∧
      (0 ≤ cap → ∃ cells : Array Value, w.heap[g]? = some (.cells cells e (0, 0)) ∧ RowsAt cells 0 sh (rOf code) ∧ cells.size = cap.toNat * sh.length ∧ w0.b.heap.size ≤ g ∧ (w0.ex g ∨ w0.r.heap.size ≤ g)) ∧
      (0 ≤ cap → F g) ∧ AccF w0 w tmps (fun g' => F g' ∧ (0 ≤ cap → g' ≠ g)) r zs
  | _, _ => False
theorem boolsM_snd {nb : Nat} {tm : List V} {m : Nat → Nat} {tmps : Array Value} : ∀ {l : List Nat} {n : Nat} {ρ : Env}, TRel n nb ρ m tm tmps → Snd S L (boolsM tm l) n ρ fun ρ' n' ls => (∀ x ∈ ls, Lin.sc n' x) ∧ ls.length = l.length ∧ BoolF tmps l (ls.map (·.den ρ'))
  | [], n, ρ, ht => Snd.pure ⟨fun _ h => by simp at h, rfl, trivial⟩
  | s :: r, n, ρ, ht => by
    unfold boolsM
    split
    · rename_i e hs
      obtain ⟨h1, x, h2, h3⟩ := ht.2 s _ hs
      have h3 : x = .bool (e.den ρ) := h3
      have key : Snd S L (match e with | .lit v => pure (Lin.const (cond v 1 0)) | e => indM e) n ρ fun ρ' n' l => l.sc n' ∧ (0 ≤ l.den ρ' ∧ l.den ρ' ≤ 1) ∧ e.den ρ = decide (l.den ρ' = 1) := by
        cases e with
        | lit v => cases v <;> exact Snd.pure ⟨Lin.sc_const _ _, by simp only [Lin.den_const]; decide, by simp only [Lin.den_const, BE.den]; rfl⟩
        | _ => exact indM_snd
      refine key.bind fun ρ1 n1 l hn ha ⟨g1, g2, g3⟩ => (boolsM_snd (l := r) (ht.ext ha hn (Nat.le_refl _) (fun _ _ => rfl))).bind fun ρ2 n2 ls hn2 ha2 ⟨k1, k2, k3⟩ => Snd.pure ⟨fun y hy => ?_, by simp [k2], ?_⟩
      · rcases List.mem_cons.1 hy with rfl | hy
        · exact g1.mono hn2
        · exact k1 y hy
      · have e1 := Lin.den_agree ha2 g1
        simp only [List.map_cons, BoolF, e1]
        refine ⟨g2, fun y hy => ?_, k3⟩
        rw [h2] at hy
        cases hy
        rw [h3, g3]
    · exact Snd.fail
theorem fitM_snd {nb : Nat} {m : Nat → Nat} {tmps : Array Value} : ∀ {l : List (Nat × Int × Int)} {tm : List V} {n : Nat} {ρ : Env}, TRel n nb ρ m tm tmps → Snd S L (fitM l tm) n ρ fun ρ' n' tm' => TRel n' nb ρ' m tm' tmps
  | [], tm, n, ρ, ht => Snd.pure ht
  | (s, lo, hi) :: r, tm, n, ρ, ht => by
    unfold fitM
    split
    · rename_i k x hs
      cases hc : (decide (lo ≤ x.lo) && decide (x.hi ≤ hi)) with
      | true => simp only [cond_true]; exact fitM_snd ht
      | false =>
        simp only [cond_false]
        refine chkM_snd fun hk => ?_
        simp only [List.map_cons, List.map_nil, chkD, Lin.den_const] at hk
        obtain ⟨h1, y, h2, h3⟩ := ht.2 s _ hs
        have h1 : x.ok n ρ := h1
        exact fitM_snd (ht.set (v := .w (.one (.int k ⟨x.l, lo, hi⟩))) ⟨h1.1, hk.1, hk.2⟩ fun z hz => by
          rw [h2] at hz; cases hz; exact h3)
    · exact fitM_snd ht
theorem accE_spec {n lo : Nat} {ρ : Env} {m : Nat → Nat} {tm : List V} {bl : List Blk} {a : Act} {w : World} (h : R w0 n ρ m tm bl a w) : ∀ {l : List (Nat × List CK × TypeId)} {used : List Nat} {ls : List Lin} {u : List Nat}, accE lo l tm bl used = some (ls, u) →
    (∀ x ∈ ls, Lin.sc n x) ∧ ls.length = (accBds l).length ∧ (∀ b ∈ used, b ∈ u) ∧ (∀ b ∈ u, b ∈ used ∨ lo ≤ b) ∧ ∀ F : Nat → Prop, (∀ (b : Nat) (p : Blk), b ∈ u → b ∉ used → bl[b]? = some p → kindC ρ p.1 = 2 → isOrd p.1 = false → F (m b)) → AccF w0 w a.tmps F l (ls.map (·.den ρ))
  | [], used, ls, u, he => by
    simp only [accE, Option.some.injEq, Prod.mk.injEq] at he
    obtain ⟨rfl, rfl⟩ := he
    exact ⟨fun _ h => by simp at h, rfl, fun _ h => h, fun _ h => .inl h, fun _ _ => trivial⟩
  | (s, sh, e) :: r, used, ls, u, he => by
    unfold accE at he
    split at he
    · rename_i hs
      split at he
      · rename_i l1 u1 hr
        simp only [Option.some.injEq, Prod.mk.injEq] at he
        obtain ⟨rfl, rfl⟩ := he
        obtain ⟨g1, g2, g3, g4, g5⟩ := accE_spec h hr
        refine ⟨fun x hx => ?_, by simp [accBds] at g2 ⊢; omega, g3, g4, fun F hF => ⟨0, fun x hx => ?_, ?_, ?_, ?_, ?_, ?_, ?_⟩⟩
        · simp only [List.mem_cons] at hx
          rcases hx with rfl | rfl | rfl | hx
          · exact Lin.sc_const _ _
          · exact Lin.sc_const _ _
          · exact Lin.sc_const _ _
          · exact g1 x hx
        · obtain ⟨_, y, h2, h3⟩ := h.t.2 s _ hs
          rw [h2] at hx; cases hx
          have e9 : (Lin.const (-1)).den ρ < 0 := by rw [Lin.den_const]; decide
          simp only [e9, if_true]
          exact h3
        · simp only [Lin.den_const]; exact ⟨⟨by omega, by omega, by omega, by omega⟩, ⟨by omega, by omega⟩, fun _ => rfl, fun h => by omega⟩
        · simp only [Lin.den_const]; exact ⟨Int.le_refl _, Int.le_trans (rc_nonneg []) (RB_c (l := []) (by simp) (by simp))⟩
        · intro _; simp only [Lin.den_const]; exact rOf_zero
        · simp only [Lin.den_const]; intro h; omega
        · simp only [Lin.den_const]; intro h; omega
        · refine g5 _ fun b p hb hu hbl hk ho => ⟨hF b p hb hu hbl hk ho, ?_⟩
          simp only [Lin.den_const]; intro h; omega
      · cases he
    · rename_i b sz o ro len cap hs
      split at he
      · rename_i sh' off code capb kind t hbl
        cases hc : (shBeq sh sh' && Nat.beq kind 2 && Lin.beq o (.const 0) && Lin.beq off (.const 0) && Lin.beq ro (.const 0) && Lin.beq cap capb && Nat.beq t.1 e && Nat.beq sz sh.length && Nat.ble lo b && !(used.any (Nat.beq b))) with
        | false => rw [hc] at he; cases he
        | true =>
          rw [hc] at he
          simp only [cond_true] at he
          split at he
          · rename_i l1 u1 hr
            simp only [Option.some.injEq, Prod.mk.injEq] at he
            obtain ⟨rfl, rfl⟩ := he
            simp only [Bool.and_eq_true] at hc
            obtain ⟨⟨⟨⟨⟨⟨⟨⟨⟨c1, c2⟩, c3⟩, c4⟩, c5⟩, c6⟩, c7⟩, c8⟩, c9⟩, c10⟩ := hc
            have c1 := shBeq_eq c1; have c2 := Nat.eq_of_beq_eq_true c2; have c3 := Lin.beq_eq c3; have c4 := Lin.beq_eq c4; have c5 := Lin.beq_eq c5; have c6 := Lin.beq_eq c6
            have c7 := Nat.eq_of_beq_eq_true c7; have c8 := Nat.eq_of_beq_eq_true c8; have c9 := Nat.le_of_ble_eq_true c9
            have hnu : b ∉ used := fun hb => by
              have : used.any (Nat.beq b) = true := List.any_eq_true.2 ⟨b, hb, Nat.beq_refl b⟩
              rw [this] at c10; cases c10
            subst c1; subst c2; subst c3; subst c4; subst c5; subst c6; subst c7; subst c8
            obtain ⟨g1, g2, g3, g4, g5⟩ := accE_spec h hr
            obtain ⟨hok, y, h2, h3⟩ := h.t.2 s _ hs
            have hok : (A.sl b sh.length (.const 0) (.const 0) len cap).ok n bl.length ρ := hok
            obtain ⟨x1, ⟨x2, x3, x4, x5⟩, x6⟩ := hok
            simp only [Lin.den_const] at x6
            have hAok : (A.rows sh (.const 0) code cap 2).ok n bl.length ρ := h.b _ (List.mem_of_getElem? hbl) _ (by simp)
            obtain ⟨⟨r1, r2, r3⟩, r4, r5⟩ := hAok
            have hrr := h.mm.rws b sh (.const 0) code cap 2 t hbl (by decide)
            refine ⟨fun x hx => ?_, by simp [accBds] at g2 ⊢; omega, fun b' hb' => g3 b' (List.mem_cons_of_mem _ hb'), fun b' hb' => ?_, fun F hF => ⟨m b, fun x hx => ?_, x6, r4, hrr.1, fun h0 => ?_, fun h0 => ?_, ?_⟩⟩
            · simp only [List.mem_cons] at hx
              rcases hx with rfl | rfl | rfl | hx
              · exact r2
              · exact x4
              · exact x5
              · exact g1 x hx
            · rcases g4 b' hb' with h5 | h5
              · rcases List.mem_cons.1 h5 with rfl | h5
                · exact .inr c9
                · exact .inl h5
              · exact .inr h5
            · have hxy : y = x := Option.some.inj (h2.symm.trans hx)
              subst hxy
              have h3 : y = (A.sl b sh.length (.const 0) (.const 0) len cap).den ρ m := h3
              rw [h3]
              simp only [A.den, Lin.den_const]
              split <;> simp
            · obtain ⟨_, cells, tq, fz, k1, ⟨k2, k3⟩, k4⟩ := hrr.2 h0
              obtain ⟨k0, k5, k6, k7, k8, k9⟩ := k4 (by decide)
              subst k0
              have k6 := k6.two
              subst k6
              rw [Lin.den_const] at k3
              exact ⟨cells, k1, k3, k7, k8, k9⟩
            · exact hF b _ (g3 b (by simp)) hnu hbl (kindC_rows (by decide) h0) rfl
            · refine g5 _ fun b' p hb' hu hbl' hk ho => ⟨hF b' p hb' (fun h => hu (List.mem_cons_of_mem _ h)) hbl' hk ho, fun h0 => ?_⟩
              have hkb : kindC ρ [A.rows sh (.const 0) code cap 2] = 2 := kindC_rows (by decide) h0
              exact h.mm.ne hbl' hbl (by rw [hk]; exact Nat.le_refl 2) (by simp only [hkb]; decide) fun e => hu (by simp [e])
          · cases he
      · cases he
    · cases he
theorem ord_false {c : List A} (h : isOrd c = false) : ∃ sh off code cap k, c = [.rows sh off code cap k] := by
  unfold isOrd at h
  split at h
  · exact ⟨_, _, _, _, _, rfl⟩
  · cases h
theorem killL_spec {n : Nat} {ρ : Env} {m : Nat → Nat} {tm : List V} {a : Act} {w : World} : ∀ {us : List Nat} {bl : List Blk}, R w0 n ρ m tm bl a w → R w0 n ρ m tm (killL us bl) a w ∧ (killL us bl).length = bl.length ∧ ∀ (i : Nat) (p : Blk), (killL us bl)[i]? = some p → (bl[i]? = some p ∧ (i ∈ us → isOrd p.1 = true ∨ kindC ρ p.1 = 0)) ∨ kindC ρ p.1 = 0
  | [], bl, h => ⟨h, rfl, fun i p hp => .inl ⟨hp, fun h => by simp at h⟩⟩
  | b :: r, bl, h => by
    unfold killL
    split
    · rename_i sh off code cap k t hbl
      obtain ⟨g1, g2, g3⟩ := killL_spec (us := r) (h.kill hbl)
      refine ⟨g1, by rw [g2, setB_length], fun i p hp => ?_⟩
      rcases g3 i p hp with ⟨g4, g5⟩ | g4
      · by_cases hib : i = b
        · subst hib
          rw [setB_eq, List.getElem?_set_self (List.getElem?_eq_some_iff.1 hbl).1] at g4
          cases g4
          exact .inr (by simp [kindC])
        · rw [setB_eq, List.getElem?_set_ne (fun e => hib e.symm)] at g4
          exact .inl ⟨g4, fun hi => g5 (by simpa [hib] using hi)⟩
      · exact .inr g4
    · rename_i hno
      obtain ⟨g1, g2, g3⟩ := killL_spec (us := r) h
      refine ⟨g1, g2, fun i p hp => ?_⟩
      rcases g3 i p hp with ⟨g4, g5⟩ | g4
      · refine .inl ⟨g4, fun hi => ?_⟩
        rcases List.mem_cons.1 hi with rfl | hi
        · cases ho : isOrd p.1 with
          | true => exact .inl rfl
          | false =>
            exfalso
            obtain ⟨c, t⟩ := p
            obtain ⟨sh, off, code, cap, k, rfl⟩ := ord_false ho
            exact hno _ _ _ _ _ _ g4
        · exact g5 hi
      · exact .inr g4
theorem headB_len : ∀ {l : List Nat} {v : Nat} {tm : List V}, (headB l v tm).length = tm.length
  | [], _, _ => rfl
  | s :: r, v, tm => by unfold headB; rw [headB_len, setV_eq]; simp
theorem headB_R {N : Nat} {ρ2 : Env} {m : Nat → Nat} {bl : List Blk} {a : Act} {w : World} : ∀ {l : List Nat} {zs : List Int} {v : Nat} {tm : List V}, R w0 N ρ2 m tm bl a w → BoolF a.tmps l zs → (∀ j, j < zs.length → ρ2 (v + j) = zs.getD j 0) → v + zs.length ≤ N → R w0 N ρ2 m (headB l v tm) bl a w
  | [], [], v, tm, h, _, _, _ => h
  | s :: r, z :: zs, v, tm, h, hb, hv, hN => by
    unfold headB
    have h0 := hv 0 (by simp)
    simp only [Nat.add_zero, List.getD_cons_zero] at h0
    simp only [List.length_cons] at hN
    refine headB_R (l := r) (zs := zs) ⟨TRel.set h.t ?_ fun x hx => ?_, h.d, h.b, h.mm⟩ hb.2.2 (fun j hj => by
      have := hv (j + 1) (by simpa using hj)
      rw [show v + 1 + j = v + (j + 1) by omega]; simpa using this) (by omega)
    · exact ⟨Lin.sc_var (by omega), Lin.sc_const _ _⟩
    · rw [hb.2.1 x hx]
      simp [V.rel, W.den, A.den, BE.den, Lin.den_var, Lin.den_const, h0]
  | [], _ :: _, _, _, _, h, _, _ => h.elim
  | _ :: _, [], _, _, _, h, _, _ => h.elim
theorem headA_R {N : Nat} {ρ2 : Env} {a : Act} {w : World} : ∀ {l : List (Nat × List CK × TypeId)} {zs : List Int} {v : Nat} {tm : List V} {bl : List Blk} {m : Nat → Nat} {F : Nat → Prop}, R w0 N ρ2 m tm bl a w → AccF w0 w a.tmps F l zs → (∀ g, F g → ∀ (i : Nat) (p : Blk), bl[i]? = some p → m i = g → kindC ρ2 p.1 = 0) →
    (∀ j, j < zs.length → ρ2 (v + j) = zs.getD j 0) → v + zs.length ≤ N → ∃ m2, (∀ b, b < bl.length → m2 b = m b) ∧ bl.length ≤ (headA l v tm bl).2.length ∧ R w0 N ρ2 m2 (headA l v tm bl).1 (headA l v tm bl).2 a w
  | [], [], v, tm, bl, m, F, h, _, _, _, _ => ⟨m, fun _ _ => rfl, Nat.le_refl _, h⟩
  | (s, sh, e) :: r, code :: len :: cap :: zs, v, tm, bl, m, F, h, hf, hF, hv, hN => by
    obtain ⟨g, f1, f2, f3, f4, f5, f6, f7⟩ := hf
    have v0 := hv 0 (by simp)
    have v1 := hv 1 (by simp)
    have v2 := hv 2 (by simp)
    simp only [List.getD_cons_zero, List.getD_cons_succ, Nat.add_zero] at v0 v1 v2
    simp only [List.length_cons] at hN
    have hc : (-1 : Int) ≤ cap ∧ cap ≤ 9223372036854775807 := ⟨f2.2.1.1, by have := f2.2.1.2; omega⟩
    have hA : (A.rows sh (.const 0) (.var v) (.var (v + 2)) 2).ok N bl.length ρ2 := ⟨⟨Lin.sc_const _ _, Lin.sc_var (by omega), Lin.sc_var (by omega)⟩, by rw [Lin.den_var, v0]; exact f3, by rw [Lin.den_var, v2]; exact hc⟩
    have hM := h.mm.push (x := ([.rows sh (.const 0) (.var v) (.var (v + 2)) 2], (e, false))) (g := g) h.b (fun y hy => by simp at hy; subst hy; exact hA) (fun ho => by cases ho) (fun sh' off' code' cap' kind' he => by
        cases he
        intro _
        simp only [Lin.den_var, v0, v2, Lin.den_const]
        refine ⟨f4, fun h0 => ?_⟩
        obtain ⟨cells, k1, k2, k3, k4, k5⟩ := f5 h0
        exact ⟨k5.elim .inl fun h => .inr (.inr h), cells, e, (0, 0), k1, ⟨Int.le_refl _, k2⟩, fun _ => ⟨rfl, by trivial, .mk2, k3, k4, k5⟩⟩) (fun i p hi he => by
        rcases Int.lt_or_le cap 0 with h0 | h0
        · refine .inr (.inr ?_)
          simp only [kindC, Lin.den_var, v2]
          rw [if_pos h0]
        · exact .inr (.inl (hF g (f6 h0) i p hi he)))
    have hL := Later.alloc N ρ2 m bl ([A.rows sh (.const 0) (.var v) (.var (v + 2)) 2], (e, false)) g
    have hR : R w0 N ρ2 (updM m bl.length g) (setV tm s (.w (.one (.sl bl.length sh.length (.const 0) (.const 0) (.var (v + 1)) (.var (v + 2)))))) (bl ++ [([.rows sh (.const 0) (.var v) (.var (v + 2)) 2], (e, false))]) a w := by
      refine ⟨TRel.set (h.t.ext hL.ha hL.hn hL.hb hL.hm) ?_ fun x hx => ?_, h.d, h.b.alloc (fun y hy => by simp at hy; subst hy; exact hA), hM⟩
      · refine ⟨by simp, ⟨Lin.sc_const _ _, Lin.sc_const _ _, Lin.sc_var (by omega), Lin.sc_var (by omega)⟩, ?_⟩
        simp only [Lin.den_const, Lin.den_var, v1, v2]; exact f2
      · rw [f1 x hx]
        simp only [V.rel, W.den, A.den, Lin.den_const, Lin.den_var, v1, v2, updM_same]
        split <;> simp
    obtain ⟨m2, q1, q2, q3⟩ := headA_R (l := r) (zs := zs) (v := v + 3) hR f7 (fun g' hg' i p hi he => by
      rw [List.getElem?_append] at hi
      split at hi
      · rename_i hil
        rw [updM_lt hil] at he
        exact hF g' hg'.1 i p hi he
      · have hil := (List.getElem?_eq_some_iff.1 hi).1
        have : i = bl.length := by simp at hil; omega
        subst this
        simp only [Nat.sub_self, List.getElem?_cons_zero, Option.some.injEq] at hi
        subst hi
        rw [updM_same] at he
        rcases Int.lt_or_le cap 0 with h0 | h0
        · simp only [kindC, Lin.den_var, v2]
          rw [if_pos h0]
        · exact absurd he.symm (hg'.2 h0)) (fun j hj => by
      have := hv (j + 3) (by simp only [List.length_cons]; omega)
      rw [show v + 3 + j = v + (j + 3) by omega]; simpa using this) (by omega)
    simp only [List.length_append, List.length_cons, List.length_nil] at q1 q2
    exact ⟨m2, fun b hb => by rw [q1 b (by omega)]; exact updM_lt hb, by unfold headA; omega, by unfold headA; exact q3⟩
  | [], _ :: _, _, _, _, _, _, _, h, _, _, _ => h.elim
  | _ :: _, [], _, _, _, _, _, _, h, _, _, _ => h.elim
  | _ :: _, [_], _, _, _, _, _, _, h, _, _, _ => h.elim
  | _ :: _, [_, _], _, _, _, _, _, _, h, _, _, _ => h.elim
theorem inB_bool {tmps : Array Value} : ∀ {l : List Nat} {zs : List Int}, BoolF tmps l zs → inB (boolBds l) zs
  | [], [], _ => trivial
  | s :: r, z :: zs, h => ⟨h.1.1, h.1.2, inB_bool h.2.2⟩
  | [], _ :: _, h => h.elim
  | _ :: _, [], h => h.elim
theorem inB_acc {w : World} {tmps : Array Value} : ∀ {l : List (Nat × List CK × TypeId)} {zs : List Int} {F : Nat → Prop}, AccF w0 w tmps F l zs → inB (accBds l) zs
  | [], [], _, _ => trivial
  | (s, sh, e) :: r, code :: len :: cap :: zs, F, ⟨g, f1, f2, f3, f4, f5, f6, f7⟩ => ⟨f3.1, f3.2, f2.1.2.2.1, f2.1.2.2.2, f2.2.1.1, by have := f2.2.1.2; omega, inB_acc f7⟩
  | [], _ :: _, _, h => h.elim
  | _ :: _, [], _, h => h.elim
  | _ :: _, [_], _, h => h.elim
  | _ :: _, [_, _], _, h => h.elim

theorem head_all {li : LoopI} {n : Nat} {ρ0 ρ' : Env} {m0 m' : Nat → Nat} {tm tm' tmH tmE : List V} {bl bl' blH blE : List Blk} {l1 l2 v1 v2 lb la : List Lin} {b1 b2 b1' b2' : List (Int × Int)} {n' : Nat} {a : Act} {w : World} {NA NN : Nat}
    (hlen : bl.length ≤ bl'.length)
    (ha : agree n ρ0 ρ') (hm : ∀ b, b < bl.length → m' b = m0 b) (ht : ∀ v ∈ tm, V.ok n bl.length ρ0 v) (hb0 : BlOk n bl.length ρ0 bl)
    (h : R w0 n' ρ' m' tm' bl' a w) (e1 : hs li.keep li.ints 0 (n + 1) tm = some (tmH, l1, b1)) (e2 : hb li.cells 0 (n + 1 + l1.length) bl = some (blH, l2, b2))
    (e3 : hs li.keep li.ints 0 (n + 1) tm' = some (tmE, v1, b1')) (e4 : hb li.cells 0 (n + 1 + v1.length) (bl'.take bl.length) = some (blE, v2, b2'))
    (f1 : fitV tmH tmE = true) (f2 : fitB blH blE = true) (hbf : BoolF a.tmps li.bools (lb.map (·.den ρ'))) (haf : AccF w0 w a.tmps (fun g => ∀ (i : Nat) (p : Blk), i < bl.length → bl'[i]? = some p → m' i = g → kindC ρ' p.1 = 0) li.accs (la.map (·.den ρ')))
    (hNA : NA = n + 1 + l1.length + l2.length + lb.length) (hNN : NN = n + 1 + l1.length + l2.length + (lb ++ la).length) :
    inB (b1 ++ b2 ++ (boolBds li.bools ++ accBds li.accs)) ((v1 ++ v2 ++ (lb ++ la)).map (·.den ρ')) ∧ ∃ m2, (∀ b, b < bl.length → m2 b = m0 b) ∧ bl.length ≤ (headA li.accs NA (headB li.bools (n + 1 + l1.length + l2.length) tmH) blH).2.length ∧
      R w0 NN (updL ρ0 (n + 1) ((v1 ++ v2 ++ (lb ++ la)).map (·.den ρ'))) m2 (headA li.accs NA (headB li.bools (n + 1 + l1.length + l2.length) tmH) blH).1 (headA li.accs NA (headB li.bools (n + 1 + l1.length + l2.length) tmH) blH).2 a w := by
  obtain ⟨hvl, i1, i2, i3, i4⟩ := head_R (ext := lb ++ la) hlen ha hm ht hb0 h e1 e2 e3 e4 f1 f2
  subst hNA; subst hNN
  have hget : ∀ j, j < (lb ++ la).length → updL ρ0 (n + 1) ((v1 ++ v2 ++ (lb ++ la)).map (·.den ρ')) (n + 1 + l1.length + l2.length + j) = ((lb ++ la).map (·.den ρ')).getD j 0 := fun j hj => by
    rw [show n + 1 + l1.length + l2.length + j = n + 1 + (v1.length + v2.length + j) by omega, updL_ge _ _ _ _ (by simp at hj ⊢; omega)]
    rw [List.map_append (l₁ := v1 ++ v2), List.getD_eq_getElem?_getD, List.getElem?_append_right (by simp), List.getD_eq_getElem?_getD]
    congr 2
    simp
  have hB := headB_R (v := n + 1 + l1.length + l2.length) i2 hbf (fun j hj => by
    simp only [List.length_map] at hj
    rw [hget j (by simp; omega), List.map_append, List.getD_eq_getElem?_getD, List.getElem?_append_left (by simpa using hj), List.getD_eq_getElem?_getD]) (by simp)
  obtain ⟨m2, q1, q2, q3⟩ := headA_R (v := n + 1 + l1.length + l2.length + lb.length) hB haf (fun g hg i p hi he => by
    obtain ⟨g1, p', g2, g3⟩ := i4 i p hi
    rw [g3]
    exact hg i p' g1 g2 (by rw [hm i g1]; exact he)) (fun j hj => by
    simp only [List.length_map] at hj
    rw [show n + 1 + l1.length + l2.length + lb.length + j = n + 1 + l1.length + l2.length + (lb.length + j) by omega, hget _ (by simp; omega), List.map_append, List.getD_eq_getElem?_getD, List.getElem?_append_right (by simp), List.getD_eq_getElem?_getD]
    congr 2
    simp) (by simp; omega)
  refine ⟨?_, m2, fun b hb => q1 b (by rw [i3]; exact hb), by rw [i3] at q2; exact q2, q3⟩
  rw [List.map_append, List.map_append (l₁ := lb)]
  exact inB_append i1 (inB_append (inB_bool hbf) (inB_acc haf))

theorem loop_wp {li : LoopI} {c : Code} {e : Nat → List V → List Blk → EK → T} (he : BodyOk S L w0 P c e) {Q : Exit → Act → World → Prop} {n : Nat} {ρ : Env} {m : Nat → Nat} {tm : List V} {bl : List Blk} {a : Act} {w : World} {G : Again} {k : EK}
    (h : R w0 n ρ m tm bl a w) (hh : (loopE li e n tm bl k).holds S L G ρ) (hk : EKok S L w0 k n bl.length ρ m G Q) : (Code.loop c).wp P Q a w := by
  unfold loopE at hh
  obtain ⟨ρ0, n0, tm, hn0, ha0, ht0, hh⟩ := fitM_snd (S := S) (L := L) h.t G _ hh
  have h00 := h.later hn0 ha0
  have h : R w0 n0 ρ0 m tm bl a w := ⟨ht0, h00.d, h00.b, h00.mm⟩
  have hk := hk.later (⟨hn0, ha0, Nat.le_refl _, fun _ _ => rfl⟩ : Later n bl.length ρ m n0 bl.length ρ0 m) (AgA.refl _ G)
  obtain ⟨ρ1, n1, lb, hn1, ha1, ⟨s1, s2, s3⟩, hh⟩ := boolsM_snd (S := S) (L := L) h.t G _ hh
  have h1 := h.later hn1 ha1
  have hk := hk.later (⟨hn1, ha1, Nat.le_refl _, fun _ _ => rfl⟩ : Later n0 bl.length ρ0 m n1 bl.length ρ1 m) (AgA.refl _ G)
  split at hh
  rotate_left
  · exact hh.elim
  rename_i tmH l1 b1 la us e1 eA
  obtain ⟨a1, a2, _, _, a5⟩ := accE_spec h1 eA
  obtain ⟨k1, k2, k3⟩ := killL_spec (us := us) h1
  cases e2 : hb li.cells 0 (n1 + 1 + l1.length) (killL us bl) with
  | none => rw [e2] at hh; exact hh.elim
  | some q2 =>
    obtain ⟨blH, l2, b2⟩ := q2
    rw [e2] at hh
    simp only at hh
    cases hf : (fitV tmH tmH && fitB blH blH) with
    | false => rw [hf] at hh; exact hh.elim
    | true =>
      rw [hf] at hh
      simp only [Bool.not_true, cond_false, T.holds] at hh
      simp only [Bool.and_eq_true] at hf
      obtain ⟨I, μ, hI0, hB⟩ := hh
      have htok : ∀ v ∈ tm, V.ok n1 (killL us bl).length ρ1 v := fun v hv => by
        obtain ⟨i, hi⟩ := List.getElem?_of_mem hv
        exact (k1.t.2 i v hi).1
      have e2' : hb li.cells 0 (n1 + 1 + l1.length) ((killL us bl).take (killL us bl).length) = some (blH, l2, b2) := by rw [List.take_length]; exact e2
      have hacc : AccF w0 w a.tmps (fun g => ∀ (i : Nat) (p : Blk), i < (killL us bl).length → (killL us bl)[i]? = some p → m i = g → kindC ρ1 p.1 = 0) li.accs (la.map (·.den ρ1)) := by
        refine a5 _ fun b p hb _ hbl hkb hord i q _ hi he => ?_
        rcases k3 i q hi with ⟨g1, g2⟩ | g1
        · by_cases hib : i = b
          · subst hib
            rw [hbl] at g1; cases g1
            rcases g2 hb with g2 | g2
            · rw [hord] at g2; cases g2
            · exact g2
          · rcases h1.mm.inj i b q p g1 hbl he with g3 | g3 | g3 | g3
            · exact absurd g3 hib
            · omega
            · exact g3
            · omega
        · exact g1
      obtain ⟨i1, m2, i2, i3, i4⟩ := head_all (Nat.le_refl _) (agree.refl n1 ρ1) (fun _ _ => rfl) htok k1.b k1 e1 e2 e1 e2' hf.1 hf.2 s3 hacc rfl rfl
      refine wp_loop_ghost (fun N a' w' => ∃ zs m2, inB (b1 ++ b2 ++ (boolBds li.bools ++ accBds li.accs)) zs ∧ I zs ∧ μ zs = N ∧ (∀ b, b < (killL us bl).length → m2 b = m b) ∧
        R w0 (n1 + 1 + l1.length + l2.length + (lb ++ la).length) (updL ρ1 (n1 + 1) zs) m2 (headA li.accs (n1 + 1 + l1.length + l2.length + lb.length) (headB li.bools (n1 + 1 + l1.length + l2.length) tmH) blH).1 (headA li.accs (n1 + 1 + l1.length + l2.length + lb.length) (headB li.bools (n1 + 1 + l1.length + l2.length) tmH) blH).2 a' w') (μ ((l1 ++ l2 ++ (lb ++ la)).map (·.den ρ1))) ⟨_, m2, i1, hI0, rfl, i2, i4⟩ ?_
      rintro N a1 w1 ⟨zs, m2, hz1, hz2, rfl, hz3, hz4⟩
      have hbody := allB_elim hB hz1 hz2
      refine he _ _ _ _ _ _ _ a1 w1 _ hz4 hbody fun x n' ρ' m' tm' bl' G' a' w' h1 h2 h3 h4 => ?_
      have hag0 : agree n1 ρ1 (updL ρ1 (n1 + 1) zs) := (agree.updL _ (n1 + 1) ρ1).mono (by omega)
      have hL0 : Later n1 bl.length ρ1 m (n1 + 1 + l1.length + l2.length + (lb ++ la).length) (headA li.accs (n1 + 1 + l1.length + l2.length + lb.length) (headB li.bools (n1 + 1 + l1.length + l2.length) tmH) blH).2.length (updL ρ1 (n1 + 1) zs) m2 := ⟨by omega, hag0, by rw [k2] at i3; exact i3, fun b hb => hz3 b (by rw [k2]; exact hb)⟩
      have hA0 : AgA n1 G (G.set n1 fun vs => I vs ∧ μ vs < μ zs) := fun l hl => by
        unfold Again.set
        cases hb : Nat.beq l n1 with
        | true => have := Nat.eq_of_beq_eq_true hb; omega
        | false => rfl
      have hL := hL0.trans h1
      have hGn : G' n1 = fun vs => I vs ∧ μ vs < μ zs := by
        rw [h2 n1 (by omega)]
        unfold Again.set
        have : Nat.beq n1 n1 = true := Nat.beq_refl n1
        rw [this]; rfl
      cases x with
      | exit id => exact hk (.exit id) n' ρ' m' tm' bl' G' a' w' hL (hA0.trans h2 (by omega)) h3 h4
      | ret => exact hk .ret n' ρ' m' tm' bl' G' a' w' hL (hA0.trans h2 (by omega)) h3 h4
      | normal =>
        simp only at h4
        obtain ⟨ρ5, n5, tm', hn5, ha5, ht5, h4⟩ := fitM_snd (S := S) (L := L) h3.t G' _ h4
        have h35 := h3.later hn5 ha5
        have h3 : R w0 n5 ρ5 m' tm' bl' a' w' := ⟨ht5, h35.d, h35.b, h35.mm⟩
        have hL := hL.trans (⟨hn5, ha5, Nat.le_refl _, fun _ _ => rfl⟩ : Later n' bl'.length ρ' m' n5 bl'.length ρ5 m')
        obtain ⟨ρ'', n'', lb', hn2, ha2, ⟨t1, t2, t3⟩, h4⟩ := boolsM_snd (S := S) (L := L) h3.t G' _ h4
        have h3 := h3.later hn2 ha2
        split at h4
        rotate_left
        · exact h4.elim
        rename_i tmE v1 b1' la' us' e3 eA'
        obtain ⟨c1, c2, _, c4, c5⟩ := accE_spec h3 eA'
        cases e4 : hb li.cells 0 (n1 + 1 + v1.length) (bl'.take bl.length) with
        | none => rw [e4] at h4; exact h4.elim
        | some q4 =>
          obtain ⟨blE, v2, b2'⟩ := q4
          rw [e4] at h4
          simp only at h4
          cases hf2 : (fitV tmH tmE && fitB blH blE) with
          | false => rw [hf2] at h4; exact h4.elim
          | true =>
            rw [hf2] at h4
            simp only [cond_true, T.holds, hGn] at h4
            simp only [Bool.and_eq_true] at hf2
            have hL2 := hL.trans (⟨hn2, ha2, Nat.le_refl _, fun _ _ => rfl⟩ : Later n5 bl'.length ρ5 m' n'' bl'.length ρ'' m')
            have hacc' : AccF w0 w' a'.tmps (fun g => ∀ (i : Nat) (p : Blk), i < (killL us bl).length → bl'[i]? = some p → m' i = g → kindC ρ'' p.1 = 0) li.accs (la'.map (·.den ρ'')) := by
              refine c5 _ fun b p hb _ hbl hkb hord i q hil hi he => ?_
              have hbn : bl.length ≤ b := by
                rcases c4 b hb with h | h
                · simp at h
                · exact h
              rw [k2] at hil
              rcases h3.mm.inj i b q p hi hbl he with g3 | g3 | g3 | g3
              · omega
              · omega
              · exact g3
              · omega
            obtain ⟨j1, m3, j2, j3, j4⟩ := head_all (NA := n1 + 1 + l1.length + l2.length + lb.length) (NN := n1 + 1 + l1.length + l2.length + (lb ++ la).length) (by rw [k2]; exact hL2.hb) hL2.ha (fun b hb => hL2.hm b (by rw [k2] at hb; exact hb)) htok k1.b h3 e1 e2 e3 (by rw [k2]; exact e4) hf2.1 hf2.2 t3 hacc' (by omega) (by simp only [List.length_append]; omega)
            exact ⟨_, h4.2, _, m3, j1, h4.1, rfl, j2, j4⟩

theorem toL {ops : Array Oper} : ops.toList.toArray = ops := Array.toArray_toList

theorem codeE_wp {inl : Inl} {li : Nat → Option LoopI} {rounds : Nat} (hm : P.follows .mixedOrders = true) (hcal : CalOk S P gl w0 cal) (hg : GOk gl w0) (hinl : InlOk S L w0 P inl) : ∀ (c : Code), BodyOk S L w0 P c (codeE P gl cal inl li rounds c) := by
  intro c
  induction c with
  | skip => intro n tm bl k G ρ m a w Q h hh hk; exact wp_skip (hk .normal n ρ m tm bl G a w (Later.refl _ _ _ _) (AgA.refl _ _) h hh)
  | exit id => intro n tm bl k G ρ m a w Q h hh hk; exact wp_exit (hk (.exit id) n ρ m tm bl G a w (Later.refl _ _ _ _) (AgA.refl _ _) h hh)
  | ret => intro n tm bl k G ρ m a w Q h hh hk; exact wp_ret (hk .ret n ρ m tm bl G a w (Later.refl _ _ _ _) (AgA.refl _ _) h hh)
  | region id ops draw =>
    intro n tm bl k G ρ m a w Q h hh hk
    have hSK : SKok S L w0 (k .normal) n bl.length ρ m G (Q .normal) := fun n' ρ' m' tm' bl' G' a' w' h1 h2 h3 h4 => hk .normal n' ρ' m' tm' bl' G' a' w' h1 h2 h3 h4
    cases draw with
    | false =>
      simp only [codeE, cond_false] at hh
      refine wp_region_list ?_
      exact opsE_wp hcal hg hinl ops.toList h hh hSK
    | true =>
      simp only [codeE, cond_true] at hh
      cases ht : (tailB ops (headLen cal ops [] ops.toList) && zeroOk P (ops.toList.take (headLen cal ops [] ops.toList))) with
      | false =>
        simp only [ht, cond_false] at hh
        cases hsz : Nat.ble ops.size 6 with
        | false => simp only [hsz, cond_false] at hh; exact hh.elim
        | true =>
          simp only [hsz, cond_true] at hh
          have hdrew : R w0 n ρ m tm bl a w.drew := ⟨h.t, h.d, h.b, h.mm.grow (World.Extends.drew (World.Extends.refl w))⟩
          refine Code.wp_mono (calm.imp (Q := Q)) (Go.wp_region_any hm ?_)
          exact anyE_wp hcal hg hinl ops.size hdrew hh hSK
      | true =>
        simp only [ht, cond_true] at hh
        simp only [Bool.and_eq_true] at ht
        have hle : headLen cal ops [] ops.toList ≤ ops.toList.length := by
          have h1 := ht.1
          simp only [tailB, Bool.and_eq_true] at h1
          simpa using Nat.le_of_ble_eq_true h1.1.1.2
        generalize headLen cal ops [] ops.toList = hl0 at *
        have hdrew : R w0 n ρ m tm bl a w.drew := ⟨h.t, h.d, h.b, h.mm.grow (World.Extends.drew (World.Extends.refl w))⟩
        have key := wp_region_quiet_tail (P := P) (id := id) (Q := Q) (a := a) (w := w) (l := ops.toList) (C := fun w' => Mem w0 ρ m bl w') hl0 (zeroObj P ops) hm (by rw [toL]; exact ht.1) (fun w' hw' => hdrew.mm.grow hw') (fun j o hj ho hal b w' => by
            have := zeroOk_run (l := ops.toList) (P := P) ht.2 hj ho hal b w'
            rw [toL] at this; exact this) (by
          rw [toL]
          refine headE_wp hcal hg h.b ⟨_, h.mm⟩ _ (Nat.le_refl _) (agree.refl _ _) h.t h.d hh fun n' ρ' tm' an h1 h2 h3 h4 h5 γ b w' hfin hEx hnw => ?_
          have hl : Later n bl.length ρ m n' bl.length ρ' m := ⟨h1, h2, Nat.le_refl _, fun _ _ => rfl⟩
          have hMw := (hdrew.mm.grow hEx).rho h.b h2
          refine allocsE_wp (S := S) (L := L) (w0 := w0) (P := P) (K := fun b w' => wpList P ops (calm Q) (ops.toList.drop hl0) b w') hfin hnw hdrew.mm.ext.size hdrew.mm.hsize (ops.toList.take hl0) 0 (fun j hj => ?_) (by simp; exact Nat.min_eq_left (by simpa using hle)) ⟨h3, h4, h.b.ext h2 h1 (Nat.le_refl _), hMw⟩ (fun kk p hkk hp => .inl ?_) rfl (fun t => ⟨fun ⟨j, o, hj, _⟩ => by omega, fun _ => rfl⟩) h5 (fun n'' ρ'' m'' tm'' bl'' G'' a'' w'' k1 k2 k3 k4 => opsE_wp hcal hg hinl _ k3 k4 ((hSK.later hl (AgA.refl _ _)).later k1 k2)) h4
          · have hj' : j < hl0 := by simp at hj; omega
            rw [List.getElem?_take, if_pos hj']; simp
          · rw [kindC_agree (h.b _ (List.mem_of_getElem? hkk)) h2] at hp
            exact hdrew.mm.lt hkk hp)
        rw [toL] at key
        exact key
  | seq x y ihx ihy =>
    intro n tm bl k G ρ m a w Q h hh hk
    refine wp_seq (ihx n tm bl _ G ρ m a w _ h hh fun x n' ρ' m' tm' bl' G' a' w' h1 h2 h3 h4 => ?_)
    cases x with
    | normal => exact ihy n' tm' bl' k G' ρ' m' a' w' Q h3 h4 (hk.later h1 h2)
    | exit id => exact hk (.exit id) n' ρ' m' tm' bl' G' a' w' h1 h2 h3 h4
    | ret => exact hk .ret n' ρ' m' tm' bl' G' a' w' h1 h2 h3 h4
  | cond x y z ihy ihz =>
    intro n tm bl k G ρ m a w Q h hh hk
    simp only [codeE] at hh
    have hx := opV_spec h.t x
    split at hh
    · rename_i b hb
      rw [hb] at hx
      have hxr : a.eval x = .bool (b.den ρ) := hx.2
      refine wp_cond hxr ?_
      split at hh
      · rename_i v
        cases v with
        | true => simp only [cond_true] at hh; exact ihy n tm bl k G ρ m a w Q h hh hk
        | false => simp only [cond_false] at hh; exact ihz n tm bl k G ρ m a w Q h hh hk
      · simp only [T.holds] at hh
        cases hd : BE.den ρ b with
        | true => exact ihy n _ bl k G ρ m a w Q ⟨subB_spec' hd h.t, h.d, h.b, h.mm⟩ (hh.1 (by simpa using hd)) hk
        | false => exact ihz n _ bl k G ρ m a w Q ⟨subB_spec' hd h.t, h.d, h.b, h.mm⟩ (hh.2 (by simpa using hd)) hk
    · exact hh.elim
  | block id x ih =>
    intro n tm bl k G ρ m a w Q h hh hk
    refine wp_block (ih n tm bl _ G ρ m a w _ h hh fun x n' ρ' m' tm' bl' G' a' w' h1 h2 h3 h4 => ?_)
    cases x with
    | normal => exact hk .normal n' ρ' m' tm' bl' G' a' w' h1 h2 h3 h4
    | ret => exact hk .ret n' ρ' m' tm' bl' G' a' w' h1 h2 h3 h4
    | exit id' =>
      simp only at h4
      simp only [X.to, Exit.inBlock]
      cases hb : Nat.beq id' id with
      | true =>
        simp only [hb, cond_true] at h4
        rw [if_pos (Nat.eq_of_beq_eq_true hb)]
        exact hk .normal n' ρ' m' tm' bl' G' a' w' h1 h2 h3 h4
      | false =>
        simp only [hb, cond_false] at h4
        rw [if_neg (fun e => by subst e; rw [show Nat.beq id' id' = true from Nat.beq_refl id'] at hb; cases hb)]
        exact hk (.exit id') n' ρ' m' tm' bl' G' a' w' h1 h2 h3 h4
  | loop x ih =>
    intro n tm bl k G ρ m a w Q h hh hk
    simp only [codeE] at hh
    split at hh
    · exact loop_wp ih h hh hk
    · exact wp_loop_rounds rounds (rounds_wp ih rounds h hh hk)
  | _ => intro n tm bl k G ρ m a w Q h hh hk; exact hh.elim

/-! ### Results, calls -/
def resF (a : Act) : ResultVar → Sem Value
  | .tmp t => Pure.pure (a.tmps.getD t undef)
  | .cell x t => do loadVar t (← asAddr (a.tmps.getD x undef))
theorem resW_spec {n : Nat} {ρ : Env} {m : Nat → Nat} {bl : List Blk} {tm : List V} {a : Act} {w : World} {r : ResultVar} {u : W} (hg : GOk gl w0) (h : R w0 n ρ m tm bl a w) (hr : resW P gl bl tm r = some u) :
    u.ok n bl.length ρ ∧ (resF a r).run P w = .ok (u.den ρ m) w := by
  cases r with
  | tmp t =>
    simp only [resW] at hr
    cases ht : tm[t]? with
    | none => simp [ht] at hr
    | some v =>
      obtain ⟨h1, x, h2, h3⟩ := h.t.2 t v ht
      simp only [ht] at hr
      cases v with
      | w u' =>
        simp only [Option.some.injEq] at hr
        subst hr
        refine ⟨h1, ?_⟩
        have : a.tmps.getD t undef = u'.den ρ m := by simp [h2]; exact h3
        simp only [resF, this]; rfl
      | _ => simp at hr
  | cell x t =>
    simp only [resW] at hr
    cases ht : tm[x]? with
    | none => simp [ht] at hr
    | some v =>
      obtain ⟨h1, y, h2, h3⟩ := h.t.2 x v ht
      simp only [ht] at hr
      cases v with
      | tup l => simp at hr
      | any => simp at hr
      | osl _ _ _ => simp at hr
      | clo _ _ => simp at hr
      | w q =>
        cases q with
        | agg l => simp at hr
        | one p =>
          simp only at hr
          have hy : a.tmps.getD x undef = p.den ρ m := by simp [h2]; exact h3
          cases hc : cellsAt bl gl p with
          | none => simp [hc] at hr
          | some cs =>
            obtain ⟨g, o, hp, hok, hcell⟩ := cellsAt_spec h.mm h.b hg hc
            simp only [resF, hy, hp]
            cases hagg : isAggB P t with
            | none => simp [hc, hagg] at hr
            | some b =>
              cases b with
              | true =>
                cases hs : szB P t with
                | none => simp [hc, hagg, hs] at hr
                | some k =>
                  simp only [hc, hagg, hs] at hr
                  cases hk : Nat.ble k cs.length with
                  | false => simp [hk] at hr
                  | true =>
                    simp only [hk, cond_true, Option.some.injEq] at hr
                    subst hr
                    have hk := Nat.le_of_ble_eq_true hk
                    refine ⟨fun a h => hok a (List.mem_of_mem_take h), ?_⟩
                    have hl := run_loadCells_list (P := P) w ⟨g, o, none⟩ ((cs.take k).map (A.den ρ m)) fun j v hj => by
                      rw [addr_add]
                      rw [List.getElem?_map] at hj
                      cases hq : (cs.take k)[j]? with
                      | none => simp [hq] at hj
                      | some a =>
                        simp only [hq, Option.map_some, Option.some.injEq] at hj
                        subst hj
                        refine hcell j a ?_
                        rw [List.getElem?_take] at hq
                        split at hq
                        · exact hq
                        · cases hq
                    simp only [List.length_map, List.length_take, Nat.min_eq_left hk] at hl
                    simp [asAddr, loadVar, run_isAggB hagg, run_szB hs, hl, W.den]
              | false =>
                cases cs with
                | nil => simp [hc, hagg] at hr
                | cons z r =>
                  simp only [hc, hagg, Option.some.injEq] at hr
                  subst hr
                  refine ⟨hok z (by simp), ?_⟩
                  have := hcell 0 z rfl
                  simp only [Nat.add_zero] at this
                  simp [asAddr, loadVar, run_isAggB hagg, this, W.den]

theorem resL_spec {n : Nat} {ρ : Env} {m : Nat → Nat} {bl : List Blk} {tm : List V} {a : Act} {w : World} (hg : GOk gl w0) (h : R w0 n ρ m tm bl a w) : ∀ {rs : List ResultVar} {l : List W}, resL P gl bl tm rs = some l →
    (∀ u ∈ l, W.ok n bl.length ρ u) ∧ (rs.mapM (m := Sem) (resF a)).run P w = .ok (l.map (W.den ρ m)) w
  | [], l, hr => by simp [resL] at hr; subst hr; exact ⟨by simp, by simp⟩
  | r :: s, l, hr => by
    simp only [resL] at hr
    cases h1 : resW P gl bl tm r with
    | none => simp [h1] at hr
    | some u =>
      cases h2 : resL P gl bl tm s with
      | none => simp [h1, h2] at hr
      | some l' =>
        simp only [h1, h2, Option.some.injEq] at hr
        subst hr
        have e1 := resW_spec hg h h1
        have e2 := resL_spec hg h h2
        refine ⟨fun x hx => by rcases List.mem_cons.1 hx with rfl | hx; exact e1.1; exact e2.1 x hx, ?_⟩
        rw [List.mapM_cons, Sem.run_bind]
        simp only [e1.2, e2.2, Result.andThen_ok, Sem.run_bind, Sem.run_pure, List.map_cons]

theorem resE_spec {fn : Func} {n : Nat} {ρ : Env} {m : Nat → Nat} {bl : List Blk} {tm : List V} {a : Act} {w : World} {k : RK} {G : Again} (hg : GOk gl w0) (h : R w0 n ρ m tm bl a w) (hh : (resE P gl fn n tm bl k).holds S L G ρ) :
    ∃ v val, V.ok n bl.length ρ v ∧ v.rel ρ m val ∧ (results fn a.tmps).run P w = .ok val w ∧ (k n v bl).holds S L G ρ := by
  unfold resE at hh
  cases hr : resL P gl bl tm fn.results.toList with
  | none => simp [hr, T.holds] at hh
  | some l =>
    obtain ⟨h1, h2⟩ := resL_spec hg h hr
    have hrun : (results fn a.tmps).run P w = .ok (if h : (l.map (W.den ρ m)).toArray.size = 1 then (l.map (W.den ρ m)).toArray[0] else .tuple (l.map (W.den ρ m)).toArray) w := by
      have e : results fn a.tmps = (do let vs ← fn.results.mapM (resF a); Pure.pure (if h : vs.size = 1 then vs[0] else .tuple vs)) := by
        unfold results
        congr 1
      rw [e, Array.mapM_eq_mapM_toList]
      simp only [Sem.run_bind, Sem.run_map, Result.andThen_ok, h2, Sem.run_pure]
    simp only [hr] at hh
    split at hh
    · rename_i u heq
      have heq := Option.some.inj heq
      subst heq
      exact ⟨.w u, _, h1 u (by simp), rfl, by rw [hrun]; simp, hh⟩
    · rename_i l' hne heq
      have heq := Option.some.inj heq
      subst heq
      refine ⟨.tup l, _, h1, rfl, ?_, hh⟩
      rw [hrun, dif_neg]
      intro hs
      simp at hs
      match l, hs, hne with
      | [u], _, hne => exact hne u rfl
    · rename_i heq; cases heq

theorem LRel_len {ρ : Env} {m : Nat → Nat} : ∀ {vs : List V} {xs : List Value}, LRel ρ m vs xs → vs.length = xs.length
  | [], [], _ => rfl
  | _ :: _, _ :: _, h => by simp [LRel_len h.2]
  | [], _ :: _, h => h.elim
  | _ :: _, [], h => h.elim
theorem LR_args {n nb : Nat} {ρ : Env} {m : Nat → Nat} (k : Nat) : ∀ {vs : List V} {xs : List Value}, (∀ v ∈ vs, V.ok n nb ρ v) → LRel ρ m vs xs → LR n nb ρ m (vs ++ replV k) (xs ++ List.replicate k undef)
  | [], [], _, _ => by
    simp only [List.nil_append]
    induction k with
    | zero => trivial
    | succ k ih => exact ⟨by intro x hx; simp at hx, rfl, ih⟩
  | v :: r, x :: s, h, hr => ⟨h v (by simp), hr.1, LR_args k (fun u hu => h u (List.mem_cons_of_mem _ hu)) hr.2⟩
  | [], _ :: _, _, h => h.elim
  | _ :: _, [], _, h => h.elim

theorem bodyE_ok {li : FuncId → Nat → Option LoopI} {rounds : Nat} {inl : Inl} (hm : P.follows .mixedOrders = true) (hcal : CalOk S P gl w0 cal) (hg : GOk gl w0) (ih : InlOk S L w0 P inl) : InlOk S L w0 P (bodyE P gl cal inl li rounds) := by
    intro f n vs bl k G ρ m w xs R' hb hmem hvs hrel hh hk
    unfold bodyE at hh
    cases hf : P.funcs[f]? with
    | none => simp [hf, T.holds] at hh
    | some fn =>
      cases hbody : fn.body with
      | none => simp [hf, hbody, T.holds] at hh
      | some c =>
        simp only [hf, hbody] at hh
        cases hc : (!(fn.name == "runtime.NumGoroutine") && Nat.ble vs.length fn.ntmps) with
        | false => simp [hc, T.holds] at hh
        | true =>
          simp only [hc, cond_true] at hh
          simp only [Bool.and_eq_true, Bool.not_eq_true'] at hc
          have hlen := LRel_len hrel
          refine ⟨?_, calls_of_wp hf hbody ?_⟩
          · have h1 : ¬ fn.name = "runtime.NumGoroutine" := by have := hc.1; simpa using this
            simp [callFunc, hf, hbody, h1]
          · have hR : R w0 n ρ m (vs ++ replV (fn.ntmps - vs.length)) bl { tmps := xs.toArray ++ Array.replicate (fn.ntmps - xs.toArray.size) undef, defers := [] } w := by
              refine ⟨?_, rfl, hb, hmem⟩
              have := TRel_of_LR (LR_args (fn.ntmps - vs.length) hvs hrel)
              have e : (xs ++ List.replicate (fn.ntmps - vs.length) undef).toArray = xs.toArray ++ Array.replicate (fn.ntmps - xs.toArray.size) undef := by
                simp [hlen]
              rw [e] at this
              exact this
            refine codeE_wp hm hcal hg ih c n _ bl _ G ρ m _ w _ hR hh fun x n' ρ' m' tm' bl' G' a' w' h1 h2 h3 h4 => ?_
            cases x with
            | exit id => exact h4.elim
            | normal =>
              obtain ⟨v, val, p1, p2, p3, p4⟩ := resE_spec hg h3 h4
              exact ⟨h3.d, val, p3, hk n' v bl' G' ρ' m' w' val h1 h2 p1 p2 h3.b h3.mm p4⟩
            | ret =>
              obtain ⟨v, val, p1, p2, p3, p4⟩ := resE_spec hg h3 h4
              exact ⟨h3.d, val, p3, hk n' v bl' G' ρ' m' w' val h1 h2 p1 p2 h3.b h3.mm p4⟩

theorem callE_ok {li : FuncId → Nat → Option LoopI} {rounds : Nat} (hm : P.follows .mixedOrders = true) (hcal : CalOk S P gl w0 cal) (hg : GOk gl w0) : ∀ d, InlOk S L w0 P (callE P gl cal li rounds d)
  | 0 => fun f n vs bl k G ρ m w xs R' _ _ _ _ hh _ => hh.elim
  | d + 1 => bodyE_ok hm hcal hg (callE_ok hm hcal hg d)
/-- What is known of functions that hand back slices. -/
def BcOk (S : Nat → List Int → List Int → Prop) (L : V → Env → Prop) (w0 : Base) (P : Program) (bc : BC) : Prop :=
  ∀ f g, bc f = some g → ∀ n vs bl k G ρ m w xs R', BlOk n (List.length bl) ρ bl → Mem w0 ρ m bl w → (∀ v ∈ vs, V.ok n bl.length ρ v) → LRel ρ m vs xs → (g n vs bl k).holds S L G ρ → RKok S L w0 k n bl.length ρ m G R' →
    (callFunc f xs.toArray).run P w = .ok (.enter f xs.toArray) w ∧ Calls P f xs.toArray w R'
theorem orB_ok {bc : BC} {inl : Inl} (hbc : BcOk S L w0 P bc) (h : InlOk S L w0 P inl) : InlOk S L w0 P (orB bc inl) := by
  intro f n vs bl k G ρ m w xs R' h1 h2 h3 h4 h5 h6
  unfold orB at h5
  cases hf : bc f with
  | none => rw [hf] at h5; exact h f n vs bl k G ρ m w xs R' h1 h2 h3 h4 h5 h6
  | some g => rw [hf] at h5; exact hbc f g hf n vs bl k G ρ m w xs R' h1 h2 h3 h4 h5 h6
theorem callB_ok {bc : BC} {li : FuncId → Nat → Option LoopI} {rounds : Nat} (hm : P.follows .mixedOrders = true) (hcal : CalOk S P gl w0 cal) (hg : GOk gl w0) (hbc : BcOk S L w0 P bc) : ∀ d, InlOk S L w0 P (callB bc P gl cal li rounds d)
  | 0 => fun f n vs bl k G ρ m w xs R' _ _ _ _ hh _ => hh.elim
  | d + 1 => bodyE_ok hm hcal hg (orB_ok hbc (callB_ok hm hcal hg hbc d))

/-- A call, by its tree: what the leaf says of the result, and of the blocks that were handed in. -/
theorem Mem.extends {b w w' : World} {ρ : Env} {m : Nat → Nat} {bl : List Blk} (h : Mem ⟨b, w, fun _ => False, fun _ => False⟩ ρ m bl w') : w.Extends w' := by
  have hblk : ∀ i : Nat, i < w.heap.size → w'.heap[i]? = w.heap[i]? := fun i hi => h.frm i hi id
  exact ⟨h.hos, h.htape, h.hout, h.hsize, fun a ha => by simp only [World.cell?, hblk a.block ha], fun a ha => by simp only [World.frozen?, hblk a.block ha], hblk⟩
theorem calls_of_tree {b w : World} {li : FuncId → Nat → Option LoopI} {rounds d : Nat} (hm : P.follows .mixedOrders = true) (hcal : CalOk S P gl ⟨b, w, fun _ => False, fun _ => False⟩ cal) (hg : GOk gl ⟨b, w, fun _ => False, fun _ => False⟩) (f : FuncId) (n : Nat) (vs : List V) (ρ : Env) (xs : List Value) (he : b.Extends w)
    (hvs : ∀ v ∈ vs, V.ok n 0 ρ v) (hrel : LRel ρ (fun _ => 0) vs xs) (hh : (callE P gl cal li rounds d f n vs [] fun n' v _ => .leaf v).holds S (fun v ρ' => L v ρ') (fun _ _ => False) ρ) :
    Calls P f xs.toArray w fun e w' => ∃ v ρ' m val nb, e = .returned val ∧ v.rel ρ' m val ∧ (∃ n', V.ok n' nb ρ' v) ∧ L v ρ' ∧ w.Extends w' := by
  have hmem : Mem ⟨b, w, fun _ => False, fun _ => False⟩ ρ (fun _ => 0) [] w := ⟨he, rfl, rfl, rfl, Nat.le_refl _, fun _ _ _ => rfl, fun i cs t h => by simp at h, fun i sh off code cap kind t h => by simp at h, fun i j p q h => by simp at h⟩
  refine (callE_ok (L := L) (li := li) (rounds := rounds) hm hcal hg d f n vs [] (fun n' v _ => .leaf v) (fun _ _ => False) ρ (fun _ => 0) w xs _ (fun p hp => by simp at hp) hmem hvs hrel hh ?_).2
  intro n' v bl' G' ρ' m' w' val h1 h2 h3 h4 h5 h6 h7
  exact ⟨v, ρ', m', val, _, rfl, h4, ⟨n', h3⟩, h7, h6.extends⟩
end
end Go.Rx
