/- The evaluator's soundness, whole. -/
import Derived.Test.YtaapajicchefdaaDoorRx9
set_option linter.unusedVariables false
set_option linter.unusedSimpArgs false
namespace Go.Rx
open M

section
variable {S : Nat → List Int → List Int → Prop} {L : V → Env → Prop} {w0 : Base} {P : Program} {gl : Glo} {cal : Cal}

def EKok (S : Nat → List Int → List Int → Prop) (L : V → Env → Prop) (w0 : Base) (k : EK) (n nb : Nat) (ρ : Env) (m : Nat → Nat) (G : Again) (Q : Exit → Act → World → Prop) : Prop :=
  ∀ x n' ρ' m' tm' bl' G' a' w', Later n nb ρ m n' (List.length bl') ρ' m' → AgA n G G' → R w0 n' ρ' m' tm' bl' a' w' → (k x n' tm' bl').holds S L G' ρ' → Q x.to a' w'
theorem EKok.later {k : EK} {n nb n1 nb1 : Nat} {ρ ρ1 : Env} {m m1 : Nat → Nat} {G G1 : Again} {Q : Exit → Act → World → Prop} (h : EKok S L w0 k n nb ρ m G Q) (hl : Later n nb ρ m n1 nb1 ρ1 m1) (hA : AgA n G G1) : EKok S L w0 k n1 nb1 ρ1 m1 G1 Q :=
  fun x n' ρ' m' tm' bl' G' a' w' h1 h2 h3 h4 => h x n' ρ' m' tm' bl' G' a' w' (hl.trans h1) (hA.trans h2 hl.hn) h3 h4
def BodyOk (S : Nat → List Int → List Int → Prop) (L : V → Env → Prop) (w0 : Base) (P : Program) (c : Code) (e : Nat → List V → List Blk → EK → T) : Prop :=
  ∀ n tm bl k G ρ m a w Q, R w0 n ρ m tm bl a w → (e n tm bl k).holds S L G ρ → EKok S L w0 k n bl.length ρ m G Q → c.wp P Q a w

theorem rounds_wp {c : Code} {e : Nat → List V → List Blk → EK → T} (he : BodyOk S L w0 P c e) {Q : Exit → Act → World → Prop} : ∀ (r : Nat) {n : Nat} {ρ : Env} {m : Nat → Nat} {tm : List V} {bl : List Blk} {a : Act} {w : World} {G : Again} {k : EK},
    R w0 n ρ m tm bl a w → (roundsE e r n tm bl k).holds S L G ρ → EKok S L w0 k n bl.length ρ m G Q → Code.rounds P c Q r a w
  | 0, _, _, _, _, _, _, _, _, _, _, hh, _ => hh.elim
  | r + 1, n, ρ, m, tm, bl, a, w, G, k, h, hh, hk => by
    rw [rounds_succ]
    refine he n tm bl _ G ρ m a w _ h hh fun x n' ρ' m' tm' bl' G' a' w' h1 h2 h3 h4 => ?_
    cases x with
    | normal => exact rounds_wp he r h3 h4 (hk.later h1 h2)
    | exit id => exact hk (.exit id) n' ρ' m' tm' bl' G' a' w' h1 h2 h3 h4
    | ret => exact hk .ret n' ρ' m' tm' bl' G' a' w' h1 h2 h3 h4

theorem LR_of_TRel' {n nb : Nat} {ρ : Env} {m : Nat → Nat} {tm : List V} {xs : Array Value} (h : TRel n nb ρ m tm xs) : LR n nb ρ m tm xs.toList := LR_of_TRel (by simpa using h)

/-- The state at a loop's head, at an environment where the new unknowns are what the slots and cells hold. -/
theorem head_R {li : LoopI} {n : Nat} {ρ0 ρ' : Env} {m0 m' : Nat → Nat} {tm tm' tmH tmE : List V} {bl bl' blH blE : List Blk} {l1 l2 v1 v2 : List Lin} {b1 b2 b1' b2' : List (Int × Int)} {n' : Nat} {a : Act} {w : World}
    (hlen : bl.length ≤ bl'.length)
    (ha : agree n ρ0 ρ') (hm : ∀ b, b < bl.length → m' b = m0 b) (ht : ∀ v ∈ tm, V.ok n bl.length ρ0 v) (hb0 : BlOk n bl.length ρ0 bl)
    (h : R w0 n' ρ' m' tm' bl' a w) (e1 : hs li.keep li.ints 0 (n + 1) tm = some (tmH, l1, b1)) (e2 : hb li.cells 0 (n + 1 + l1.length) bl = some (blH, l2, b2))
    (e3 : hs li.keep li.ints 0 (n + 1) tm' = some (tmE, v1, b1')) (e4 : hb li.cells 0 (n + 1 + v1.length) (bl'.take bl.length) = some (blE, v2, b2'))
    (f1 : fitV tmH tmE = true) (f2 : fitB blH blE = true) :
    inB (b1 ++ b2) ((v1 ++ v2).map (·.den ρ')) ∧ R w0 (n + 1 + l1.length + l2.length) (updL ρ0 (n + 1) ((v1 ++ v2).map (·.den ρ'))) m0 tmH blH a w ∧ blH.length = bl.length := by
  have hag2 : agree n ρ0 (updL ρ0 (n + 1) ((v1 ++ v2).map (·.den ρ'))) := (agree.updL _ (n + 1) ρ0).mono (by omega)
  have hget : ∀ j, j < (v1 ++ v2).length → updL ρ0 (n + 1) ((v1 ++ v2).map (·.den ρ')) (n + 1 + j) = ((v1 ++ v2).getD j (.const 0)).den ρ' := fun j hj => by
    rw [updL_ge _ _ _ j (by simpa using hj)]
    simp only [List.getD, List.getElem?_map, List.getElem?_eq_getElem hj, Option.map_some, Option.getD_some]
  have hlen1 : v1.length + v2.length = (v1 ++ v2).length := by simp
  -- slots
  obtain ⟨p1, p2, p3⟩ := hs_spec (N := n + 1 + v1.length + v2.length) ha hag2 hm (by omega) ht (LR_of_TRel' h.t) e1 e3 f1 (fun j hj => by
    rw [hget j (by simp; omega), getD_append_l hj]) (by omega)
  rw [← p3] at e2
  -- cells
  have hbt : BlOk n' bl'.length ρ' (bl'.take bl.length) := fun p hp => h.b p (List.mem_of_mem_take hp)
  obtain ⟨q1, q2, q3, q4⟩ := hb_spec (N := n + 1 + v1.length + v2.length) ha hag2 hm (by omega) hb0 hbt e2 e4 f2 (fun j hj => by
    rw [show n + 1 + v1.length + j = n + 1 + (v1.length + j) by omega, hget (v1.length + j) (by simp; omega), getD_append_r]) (by omega)
  have hbl : blH.length = bl.length := (hb_len e2).2
  refine ⟨by rw [List.map_append]; exact inB_append p2 q2, ?_, hbl⟩
  rw [← p3, ← q3]
  refine ⟨?_, h.d, by rw [hbl]; exact q1, ⟨h.mm.ext, h.mm.hos, h.mm.htape, h.mm.hout, h.mm.hsize, h.mm.frm, fun i cs t hi => ?_, fun i j hi hj he => ?_⟩⟩
  · rw [hbl]
    have := TRel_of_LR p1
    simpa using this
  · obtain ⟨c', h1, h2⟩ := q4 i cs t hi
    have hib : i < bl.length := by rw [← hbl]; exact (List.getElem?_eq_some_iff.1 hi).1
    rw [List.getElem?_take, if_pos hib] at h1
    obtain ⟨g1, g1', r, hr, g2⟩ := h.mm.blk i c' t h1
    rw [← hm i hib]
    exact ⟨g1, g1', r, hr, by rw [h2]; exact g2⟩
  · rw [hbl] at hi hj
    rw [← hm i hi, ← hm j hj] at he
    exact h.mm.inj i j (by omega) (by omega) he

theorem loop_wp {li : LoopI} {c : Code} {e : Nat → List V → List Blk → EK → T} (he : BodyOk S L w0 P c e) {Q : Exit → Act → World → Prop} {n : Nat} {ρ : Env} {m : Nat → Nat} {tm : List V} {bl : List Blk} {a : Act} {w : World} {G : Again} {k : EK}
    (h : R w0 n ρ m tm bl a w) (hh : (loopE li e n tm bl k).holds S L G ρ) (hk : EKok S L w0 k n bl.length ρ m G Q) : (Code.loop c).wp P Q a w := by
  unfold loopE at hh
  cases e1 : hs li.keep li.ints 0 (n + 1) tm with
  | none => simp [e1, T.holds] at hh
  | some q1 =>
    obtain ⟨tmH, l1, b1⟩ := q1
    simp only [e1] at hh
    cases e2 : hb li.cells 0 (n + 1 + l1.length) bl with
    | none => simp [e2, T.holds] at hh
    | some q2 =>
      obtain ⟨blH, l2, b2⟩ := q2
      simp only [e2] at hh
      cases hf : (fitV tmH tmH && fitB blH blH) with
      | false => simp [hf, T.holds] at hh
      | true =>
        simp only [hf, Bool.not_true, cond_false, T.holds] at hh
        simp only [Bool.and_eq_true] at hf
        obtain ⟨I, μ, hI0, hB⟩ := hh
        have htok : ∀ v ∈ tm, V.ok n bl.length ρ v := fun v hv => by
          obtain ⟨i, hi⟩ := List.getElem?_of_mem hv
          exact (h.t.2 i v hi).1
        have e2' : hb li.cells 0 (n + 1 + l1.length) (bl.take bl.length) = some (blH, l2, b2) := by rw [List.take_length]; exact e2
        obtain ⟨i1, i2, i3⟩ := head_R (Nat.le_refl _) (agree.refl n ρ) (fun _ _ => rfl) htok h.b h e1 e2 e1 e2' hf.1 hf.2
        refine wp_loop_ghost (fun N a' w' => ∃ zs, inB (b1 ++ b2) zs ∧ I zs ∧ μ zs = N ∧ R w0 (n + 1 + l1.length + l2.length) (updL ρ (n + 1) zs) m tmH blH a' w') (μ ((l1 ++ l2).map (·.den ρ))) ⟨_, i1, hI0, rfl, i2⟩ ?_
        rintro N a1 w1 ⟨zs, hz1, hz2, rfl, hz4⟩
        have hbody := allB_elim hB hz1 hz2
        refine he _ _ _ _ _ _ _ a1 w1 _ hz4 hbody fun x n' ρ' m' tm' bl' G' a' w' h1 h2 h3 h4 => ?_
        have hag0 : agree n ρ (updL ρ (n + 1) zs) := (agree.updL _ (n + 1) ρ).mono (by omega)
        have hL0 : Later n bl.length ρ m (n + 1 + l1.length + l2.length) blH.length (updL ρ (n + 1) zs) m := ⟨by omega, hag0, by rw [i3]; exact Nat.le_refl _, fun _ _ => rfl⟩
        have hA0 : AgA n G (G.set n fun vs => I vs ∧ μ vs < μ zs) := fun l hl => by
          unfold Again.set
          cases hb : Nat.beq l n with
          | true => have := Nat.eq_of_beq_eq_true hb; omega
          | false => rfl
        have hL := hL0.trans h1
        have hGn : G' n = fun vs => I vs ∧ μ vs < μ zs := by
          rw [h2 n (by omega)]
          unfold Again.set
          have : Nat.beq n n = true := Nat.beq_refl n
          rw [this]; rfl
        cases x with
        | exit id => exact hk (.exit id) n' ρ' m' tm' bl' G' a' w' hL (hA0.trans h2 (by omega)) h3 h4
        | ret => exact hk .ret n' ρ' m' tm' bl' G' a' w' hL (hA0.trans h2 (by omega)) h3 h4
        | normal =>
          simp only at h4
          cases e3 : hs li.keep li.ints 0 (n + 1) tm' with
          | none => simp [e3, T.holds] at h4
          | some q3 =>
            obtain ⟨tmE, v1, b1'⟩ := q3
            simp only [e3] at h4
            cases e4 : hb li.cells 0 (n + 1 + v1.length) (bl'.take bl.length) with
            | none => simp [e4, T.holds] at h4
            | some q4 =>
              obtain ⟨blE, v2, b2'⟩ := q4
              simp only [e4] at h4
              cases hf2 : (fitV tmH tmE && fitB blH blE) with
              | false => simp [hf2, T.holds] at h4
              | true =>
                simp only [hf2, cond_true, T.holds, hGn] at h4
                simp only [Bool.and_eq_true] at hf2
                obtain ⟨j1, j2, _⟩ := head_R hL.hb hL.ha hL.hm htok h.b h3 e1 e2 e3 e4 hf2.1 hf2.2
                exact ⟨_, h4.2, _, j1, h4.1, rfl, j2⟩

theorem toL {ops : Array Oper} : ops.toList.toArray = ops := Array.toArray_toList

theorem codeE_wp {inl : Inl} {li : Nat → Option LoopI} {rounds : Nat} (hm : P.follows .mixedOrders = true) (hcal : CalOk S P gl w0 cal) (hg : GOk gl w0) (hinl : InlOk S L w0 P inl) : ∀ (c : Code), BodyOk S L w0 P c (codeE P gl cal inl li rounds c) := by
  intro c
  induction c with
  | skip => intro n tm bl k G ρ m a w Q h hh hk; exact wp_skip (hk .normal n ρ m tm bl G a w (Later.refl _ _ _ _) (AgA.refl _ _) h hh)
  | exit id => intro n tm bl k G ρ m a w Q h hh hk; exact wp_exit (hk (.exit id) n ρ m tm bl G a w (Later.refl _ _ _ _) (AgA.refl _ _) h hh)
  | ret => intro n tm bl k G ρ m a w Q h hh hk; exact wp_ret (hk .ret n ρ m tm bl G a w (Later.refl _ _ _ _) (AgA.refl _ _) h hh)
  | region id ops draw =>
    intro n tm bl k G ρ m a w Q h hh hk
    have hSK : SKok S L w0 (k .normal) n bl.length ρ m G (Q .normal) := fun n' ρ' m' tm' bl' G' a' w' h1 h2 h3 h4 => hk .normal n' ρ' m' tm' bl' G' a' w' h1 h2 h3 h4
    cases draw with
    | false =>
      simp only [codeE, cond_false] at hh
      refine wp_region_list ?_
      exact opsE_wp hcal hg hinl ops.toList h hh hSK
    | true =>
      simp only [codeE, cond_true] at hh
      cases ht : (tailB ops (headLen cal ops [] ops.toList) && zeroOk P (ops.toList.take (headLen cal ops [] ops.toList))) with
      | false =>
        simp only [ht, cond_false] at hh
        cases hsz : Nat.ble ops.size 6 with
        | false => simp only [hsz, cond_false] at hh; exact hh.elim
        | true =>
          simp only [hsz, cond_true] at hh
          have hdrew : R w0 n ρ m tm bl a w.drew := ⟨h.t, h.d, h.b, h.mm.grow (World.Extends.drew (World.Extends.refl w))⟩
          refine Code.wp_mono (calm.imp (Q := Q)) (Go.wp_region_any hm ?_)
          exact anyE_wp hcal hg hinl ops.size hdrew hh hSK
      | true =>
        simp only [ht, cond_true] at hh
        simp only [Bool.and_eq_true] at ht
        have hle : headLen cal ops [] ops.toList ≤ ops.toList.length := by
          have h1 := ht.1
          simp only [tailB, Bool.and_eq_true] at h1
          simpa using Nat.le_of_ble_eq_true h1.1.1.2
        generalize headLen cal ops [] ops.toList = hl0 at *
        have hdrew : R w0 n ρ m tm bl a w.drew := ⟨h.t, h.d, h.b, h.mm.grow (World.Extends.drew (World.Extends.refl w))⟩
        have key := wp_region_quiet_tail (P := P) (id := id) (Q := Q) (a := a) (w := w) (l := ops.toList) (C := fun w' => Mem w0 ρ m bl w') hl0 (zeroObj P ops) hm (by rw [toL]; exact ht.1) (fun w' hw' => hdrew.mm.grow hw') (fun j o hj ho hal b w' => by
            have := zeroOk_run (l := ops.toList) (P := P) ht.2 hj ho hal b w'
            rw [toL] at this; exact this) (by
          rw [toL]
          refine headE_wp hcal hg h.b ⟨_, h.mm⟩ _ (Nat.le_refl _) (agree.refl _ _) h.t h.d hh fun n' ρ' tm' an h1 h2 h3 h4 h5 γ b w' hfin hEx hnw => ?_
          have hl : Later n bl.length ρ m n' bl.length ρ' m := ⟨h1, h2, Nat.le_refl _, fun _ _ => rfl⟩
          have hMw := (hdrew.mm.grow hEx).rho h.b h2
          refine allocsE_wp (S := S) (L := L) (w0 := w0) (P := P) (K := fun b w' => wpList P ops (calm Q) (ops.toList.drop hl0) b w') hfin hnw hdrew.mm.ext.size hdrew.mm.hsize (ops.toList.take hl0) 0 (fun j hj => ?_) (by simp; exact Nat.min_eq_left (by simpa using hle)) ⟨h3, h4, h.b.ext h2 h1 (Nat.le_refl _), hMw⟩ (fun kk hkk => .inl ?_) rfl (fun t => ⟨fun ⟨j, o, hj, _⟩ => by omega, fun _ => rfl⟩) h5 (fun n'' ρ'' m'' tm'' bl'' G'' a'' w'' k1 k2 k3 k4 => opsE_wp hcal hg hinl _ k3 k4 ((hSK.later hl (AgA.refl _ _)).later k1 k2)) h4
          · have hj' : j < hl0 := by simp at hj; omega
            rw [List.getElem?_take, if_pos hj']; simp
          · obtain ⟨_, _, _, _, g3⟩ := hdrew.mm.blk kk bl[kk].1 bl[kk].2 (by simp [hkk])
            exact (Array.getElem?_eq_some_iff.1 g3).1)
        rw [toL] at key
        exact key
  | seq x y ihx ihy =>
    intro n tm bl k G ρ m a w Q h hh hk
    refine wp_seq (ihx n tm bl _ G ρ m a w _ h hh fun x n' ρ' m' tm' bl' G' a' w' h1 h2 h3 h4 => ?_)
    cases x with
    | normal => exact ihy n' tm' bl' k G' ρ' m' a' w' Q h3 h4 (hk.later h1 h2)
    | exit id => exact hk (.exit id) n' ρ' m' tm' bl' G' a' w' h1 h2 h3 h4
    | ret => exact hk .ret n' ρ' m' tm' bl' G' a' w' h1 h2 h3 h4
  | cond x y z ihy ihz =>
    intro n tm bl k G ρ m a w Q h hh hk
    simp only [codeE] at hh
    have hx := opV_spec h.t x
    split at hh
    · rename_i b hb
      rw [hb] at hx
      have hxr : a.eval x = .bool (b.den ρ) := hx.2
      refine wp_cond hxr ?_
      split at hh
      · rename_i v
        cases v with
        | true => simp only [cond_true] at hh; exact ihy n tm bl k G ρ m a w Q h hh hk
        | false => simp only [cond_false] at hh; exact ihz n tm bl k G ρ m a w Q h hh hk
      · simp only [T.holds] at hh
        cases hd : BE.den ρ b with
        | true => exact ihy n _ bl k G ρ m a w Q ⟨subB_spec' hd h.t, h.d, h.b, h.mm⟩ (hh.1 (by simpa using hd)) hk
        | false => exact ihz n _ bl k G ρ m a w Q ⟨subB_spec' hd h.t, h.d, h.b, h.mm⟩ (hh.2 (by simpa using hd)) hk
    · exact hh.elim
  | block id x ih =>
    intro n tm bl k G ρ m a w Q h hh hk
    refine wp_block (ih n tm bl _ G ρ m a w _ h hh fun x n' ρ' m' tm' bl' G' a' w' h1 h2 h3 h4 => ?_)
    cases x with
    | normal => exact hk .normal n' ρ' m' tm' bl' G' a' w' h1 h2 h3 h4
    | ret => exact hk .ret n' ρ' m' tm' bl' G' a' w' h1 h2 h3 h4
    | exit id' =>
      simp only at h4
      simp only [X.to, Exit.inBlock]
      cases hb : Nat.beq id' id with
      | true =>
        simp only [hb, cond_true] at h4
        rw [if_pos (Nat.eq_of_beq_eq_true hb)]
        exact hk .normal n' ρ' m' tm' bl' G' a' w' h1 h2 h3 h4
      | false =>
        simp only [hb, cond_false] at h4
        rw [if_neg (fun e => by subst e; rw [show Nat.beq id' id' = true from Nat.beq_refl id'] at hb; cases hb)]
        exact hk (.exit id') n' ρ' m' tm' bl' G' a' w' h1 h2 h3 h4
  | loop x ih =>
    intro n tm bl k G ρ m a w Q h hh hk
    simp only [codeE] at hh
    split at hh
    · exact loop_wp ih h hh hk
    · exact wp_loop_rounds rounds (rounds_wp ih rounds h hh hk)
  | _ => intro n tm bl k G ρ m a w Q h hh hk; exact hh.elim

/-! ### Results, calls -/
def resF (a : Act) : ResultVar → Sem Value
  | .tmp t => Pure.pure (a.tmps.getD t undef)
  | .cell x t => do loadVar t (← asAddr (a.tmps.getD x undef))
theorem resW_spec {n : Nat} {ρ : Env} {m : Nat → Nat} {bl : List Blk} {tm : List V} {a : Act} {w : World} {r : ResultVar} {u : W} (hg : GOk gl w0) (h : R w0 n ρ m tm bl a w) (hr : resW P gl bl tm r = some u) :
    u.ok n bl.length ρ ∧ (resF a r).run P w = .ok (u.den ρ m) w := by
  cases r with
  | tmp t =>
    simp only [resW] at hr
    cases ht : tm[t]? with
    | none => simp [ht] at hr
    | some v =>
      obtain ⟨h1, x, h2, h3⟩ := h.t.2 t v ht
      simp only [ht] at hr
      cases v with
      | w u' =>
        simp only [Option.some.injEq] at hr
        subst hr
        refine ⟨h1, ?_⟩
        have : a.tmps.getD t undef = u'.den ρ m := by simp [h2]; exact h3
        simp only [resF, this]; rfl
      | _ => simp at hr
  | cell x t =>
    simp only [resW] at hr
    cases ht : tm[x]? with
    | none => simp [ht] at hr
    | some v =>
      obtain ⟨h1, y, h2, h3⟩ := h.t.2 x v ht
      simp only [ht] at hr
      cases v with
      | tup l => simp at hr
      | any => simp at hr
      | osl _ _ _ => simp at hr
      | clo _ _ => simp at hr
      | w q =>
        cases q with
        | agg l => simp at hr
        | one p =>
          simp only at hr
          have hy : a.tmps.getD x undef = p.den ρ m := by simp [h2]; exact h3
          cases hc : cellsAt bl gl p with
          | none => simp [hc] at hr
          | some cs =>
            obtain ⟨g, o, hp, hok, hcell⟩ := cellsAt_spec h.mm h.b hg hc
            simp only [resF, hy, hp]
            cases hagg : isAggB P t with
            | none => simp [hc, hagg] at hr
            | some b =>
              cases b with
              | true =>
                cases hs : szB P t with
                | none => simp [hc, hagg, hs] at hr
                | some k =>
                  simp only [hc, hagg, hs] at hr
                  cases hk : Nat.ble k cs.length with
                  | false => simp [hk] at hr
                  | true =>
                    simp only [hk, cond_true, Option.some.injEq] at hr
                    subst hr
                    have hk := Nat.le_of_ble_eq_true hk
                    refine ⟨fun a h => hok a (List.mem_of_mem_take h), ?_⟩
                    have hl := run_loadCells_list (P := P) w ⟨g, o, none⟩ ((cs.take k).map (A.den ρ m)) fun j v hj => by
                      rw [addr_add]
                      rw [List.getElem?_map] at hj
                      cases hq : (cs.take k)[j]? with
                      | none => simp [hq] at hj
                      | some a =>
                        simp only [hq, Option.map_some, Option.some.injEq] at hj
                        subst hj
                        refine hcell j a ?_
                        rw [List.getElem?_take] at hq
                        split at hq
                        · exact hq
                        · cases hq
                    simp only [List.length_map, List.length_take, Nat.min_eq_left hk] at hl
                    simp [asAddr, loadVar, run_isAggB hagg, run_szB hs, hl, W.den]
              | false =>
                cases cs with
                | nil => simp [hc, hagg] at hr
                | cons z r =>
                  simp only [hc, hagg, Option.some.injEq] at hr
                  subst hr
                  refine ⟨hok z (by simp), ?_⟩
                  have := hcell 0 z rfl
                  simp only [Nat.add_zero] at this
                  simp [asAddr, loadVar, run_isAggB hagg, this, W.den]

theorem resL_spec {n : Nat} {ρ : Env} {m : Nat → Nat} {bl : List Blk} {tm : List V} {a : Act} {w : World} (hg : GOk gl w0) (h : R w0 n ρ m tm bl a w) : ∀ {rs : List ResultVar} {l : List W}, resL P gl bl tm rs = some l →
    (∀ u ∈ l, W.ok n bl.length ρ u) ∧ (rs.mapM (m := Sem) (resF a)).run P w = .ok (l.map (W.den ρ m)) w
  | [], l, hr => by simp [resL] at hr; subst hr; exact ⟨by simp, by simp⟩
  | r :: s, l, hr => by
    simp only [resL] at hr
    cases h1 : resW P gl bl tm r with
    | none => simp [h1] at hr
    | some u =>
      cases h2 : resL P gl bl tm s with
      | none => simp [h1, h2] at hr
      | some l' =>
        simp only [h1, h2, Option.some.injEq] at hr
        subst hr
        have e1 := resW_spec hg h h1
        have e2 := resL_spec hg h h2
        refine ⟨fun x hx => by rcases List.mem_cons.1 hx with rfl | hx; exact e1.1; exact e2.1 x hx, ?_⟩
        rw [List.mapM_cons, Sem.run_bind]
        simp only [e1.2, e2.2, Result.andThen_ok, Sem.run_bind, Sem.run_pure, List.map_cons]

theorem resE_spec {fn : Func} {n : Nat} {ρ : Env} {m : Nat → Nat} {bl : List Blk} {tm : List V} {a : Act} {w : World} {k : RK} {G : Again} (hg : GOk gl w0) (h : R w0 n ρ m tm bl a w) (hh : (resE P gl fn n tm bl k).holds S L G ρ) :
    ∃ v val, V.ok n bl.length ρ v ∧ v.rel ρ m val ∧ (results fn a.tmps).run P w = .ok val w ∧ (k n v bl).holds S L G ρ := by
  unfold resE at hh
  cases hr : resL P gl bl tm fn.results.toList with
  | none => simp [hr, T.holds] at hh
  | some l =>
    obtain ⟨h1, h2⟩ := resL_spec hg h hr
    have hrun : (results fn a.tmps).run P w = .ok (if h : (l.map (W.den ρ m)).toArray.size = 1 then (l.map (W.den ρ m)).toArray[0] else .tuple (l.map (W.den ρ m)).toArray) w := by
      have e : results fn a.tmps = (do let vs ← fn.results.mapM (resF a); Pure.pure (if h : vs.size = 1 then vs[0] else .tuple vs)) := by
        unfold results
        congr 1
      rw [e, Array.mapM_eq_mapM_toList]
      simp only [Sem.run_bind, Sem.run_map, Result.andThen_ok, h2, Sem.run_pure]
    simp only [hr] at hh
    split at hh
    · rename_i u heq
      have heq := Option.some.inj heq
      subst heq
      exact ⟨.w u, _, h1 u (by simp), rfl, by rw [hrun]; simp, hh⟩
    · rename_i l' hne heq
      have heq := Option.some.inj heq
      subst heq
      refine ⟨.tup l, _, h1, rfl, ?_, hh⟩
      rw [hrun, dif_neg]
      intro hs
      simp at hs
      match l, hs, hne with
      | [u], _, hne => exact hne u rfl
    · rename_i heq; cases heq

theorem LRel_len {ρ : Env} {m : Nat → Nat} : ∀ {vs : List V} {xs : List Value}, LRel ρ m vs xs → vs.length = xs.length
  | [], [], _ => rfl
  | _ :: _, _ :: _, h => by simp [LRel_len h.2]
  | [], _ :: _, h => h.elim
  | _ :: _, [], h => h.elim
theorem LR_args {n nb : Nat} {ρ : Env} {m : Nat → Nat} (k : Nat) : ∀ {vs : List V} {xs : List Value}, (∀ v ∈ vs, V.ok n nb ρ v) → LRel ρ m vs xs → LR n nb ρ m (vs ++ replV k) (xs ++ List.replicate k undef)
  | [], [], _, _ => by
    simp only [List.nil_append]
    induction k with
    | zero => trivial
    | succ k ih => exact ⟨by intro x hx; simp at hx, rfl, ih⟩
  | v :: r, x :: s, h, hr => ⟨h v (by simp), hr.1, LR_args k (fun u hu => h u (List.mem_cons_of_mem _ hu)) hr.2⟩
  | [], _ :: _, _, h => h.elim
  | _ :: _, [], _, h => h.elim

theorem callE_ok {li : FuncId → Nat → Option LoopI} {rounds : Nat} (hm : P.follows .mixedOrders = true) (hcal : CalOk S P gl w0 cal) (hg : GOk gl w0) : ∀ d, InlOk S L w0 P (callE P gl cal li rounds d)
  | 0 => fun f n vs bl k G ρ m w xs R' _ _ _ _ hh _ => hh.elim
  | d + 1 => by
    intro f n vs bl k G ρ m w xs R' hb hmem hvs hrel hh hk
    have ih := callE_ok (li := li) (rounds := rounds) hm hcal hg d
    unfold callE at hh
    cases hf : P.funcs[f]? with
    | none => simp [hf, T.holds] at hh
    | some fn =>
      cases hbody : fn.body with
      | none => simp [hf, hbody, T.holds] at hh
      | some c =>
        simp only [hf, hbody] at hh
        cases hc : (!(fn.name == "runtime.NumGoroutine") && Nat.ble vs.length fn.ntmps) with
        | false => simp [hc, T.holds] at hh
        | true =>
          simp only [hc, cond_true] at hh
          simp only [Bool.and_eq_true, Bool.not_eq_true'] at hc
          have hlen := LRel_len hrel
          refine ⟨?_, calls_of_wp hf hbody ?_⟩
          · have h1 : ¬ fn.name = "runtime.NumGoroutine" := by have := hc.1; simpa using this
            simp [callFunc, hf, hbody, h1]
          · have hR : R w0 n ρ m (vs ++ replV (fn.ntmps - vs.length)) bl { tmps := xs.toArray ++ Array.replicate (fn.ntmps - xs.toArray.size) undef, defers := [] } w := by
              refine ⟨?_, rfl, hb, hmem⟩
              have := TRel_of_LR (LR_args (fn.ntmps - vs.length) hvs hrel)
              have e : (xs ++ List.replicate (fn.ntmps - vs.length) undef).toArray = xs.toArray ++ Array.replicate (fn.ntmps - xs.toArray.size) undef := by
                simp [hlen]
              rw [e] at this
              exact this
            refine codeE_wp hm hcal hg ih c n _ bl _ G ρ m _ w _ hR hh fun x n' ρ' m' tm' bl' G' a' w' h1 h2 h3 h4 => ?_
            cases x with
            | exit id => exact h4.elim
            | normal =>
              obtain ⟨v, val, p1, p2, p3, p4⟩ := resE_spec hg h3 h4
              exact ⟨h3.d, val, p3, hk n' v bl' G' ρ' m' w' val h1 h2 p1 p2 h3.b h3.mm p4⟩
            | ret =>
              obtain ⟨v, val, p1, p2, p3, p4⟩ := resE_spec hg h3 h4
              exact ⟨h3.d, val, p3, hk n' v bl' G' ρ' m' w' val h1 h2 p1 p2 h3.b h3.mm p4⟩

/-- A call, by its tree: what the leaf says of the result, and of the blocks that were handed in. -/
theorem Mem.extends {b w w' : World} {ρ : Env} {m : Nat → Nat} {bl : List Blk} (h : Mem ⟨b, w, fun _ => False⟩ ρ m bl w') : w.Extends w' := by
  have hblk : ∀ i : Nat, i < w.heap.size → w'.heap[i]? = w.heap[i]? := fun i hi => h.frm i hi id
  exact ⟨h.hos, h.htape, h.hout, h.hsize, fun a ha => by simp only [World.cell?, hblk a.block ha], fun a ha => by simp only [World.frozen?, hblk a.block ha], hblk⟩
theorem calls_of_tree {b w : World} {li : FuncId → Nat → Option LoopI} {rounds d : Nat} (hm : P.follows .mixedOrders = true) (hcal : CalOk S P gl ⟨b, w, fun _ => False⟩ cal) (hg : GOk gl ⟨b, w, fun _ => False⟩) (f : FuncId) (n : Nat) (vs : List V) (ρ : Env) (xs : List Value) (he : b.Extends w)
    (hvs : ∀ v ∈ vs, V.ok n 0 ρ v) (hrel : LRel ρ (fun _ => 0) vs xs) (hh : (callE P gl cal li rounds d f n vs [] fun n' v _ => .leaf v).holds S (fun v ρ' => L v ρ') (fun _ _ => False) ρ) :
    Calls P f xs.toArray w fun e w' => ∃ v ρ' m val nb, e = .returned val ∧ v.rel ρ' m val ∧ (∃ n', V.ok n' nb ρ' v) ∧ L v ρ' ∧ w.Extends w' := by
  have hmem : Mem ⟨b, w, fun _ => False⟩ ρ (fun _ => 0) [] w := ⟨he, rfl, rfl, rfl, Nat.le_refl _, fun _ _ _ => rfl, fun i cs t h => by simp at h, fun i j h => by simp at h⟩
  refine (callE_ok (L := L) (li := li) (rounds := rounds) hm hcal hg d f n vs [] (fun n' v _ => .leaf v) (fun _ _ => False) ρ (fun _ => 0) w xs _ (fun p hp => by simp at hp) hmem hvs hrel hh ?_).2
  intro n' v bl' G' ρ' m' w' val h1 h2 h3 h4 h5 h6 h7
  exact ⟨v, ρ', m', val, _, rfl, h4, ⟨n', h3⟩, h7, h6.extends⟩
end
end Go.Rx
