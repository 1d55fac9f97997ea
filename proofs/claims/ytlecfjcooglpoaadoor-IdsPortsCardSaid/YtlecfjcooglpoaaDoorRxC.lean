/- The evaluator's soundness: operations and regions. -/
import Derived.Test.YtlecfjcooglpoaaDoorRxH
set_option linter.unusedVariables false
set_option linter.unusedSimpArgs false
namespace Go.Rx
open M
section
variable {S : Nat → List Int → List Int → Prop} {L : V → Env → Prop} {w0 : Base} {P : Program} {gl : Glo} {cal : Cal} {inl : Inl}

theorem cond_holds {c : Bool} {t : T} {G : Again} {ρ : Env} (h : (cond c t .stuck).holds S L G ρ) : c = true ∧ t.holds S L G ρ := by
  cases c with
  | true => exact ⟨rfl, h⟩
  | false => exact h.elim
theorem stepE0_wp {n : Nat} {ρ : Env} {m : Nat → Nat} {tm : List V} {bl : List Blk} {a : Act} {w : World} {G : Again} {o : Oper} {K : Act → World → Prop} {Q : Exit → Act → World → Prop} {k : SK}
    (hcal : CalOk S P gl w0 cal) (hg : GOk gl w0) (hinl : InlOk S L w0 P inl) (h : R w0 n ρ m tm bl a w) (hh : (stepE0 P gl cal inl o n tm bl k).holds S L G ρ) (hk : SKok S L w0 k n bl.length ρ m G K) : o.wp P a w K Q := by
  unfold stepE0 at hh
  split at hh
  · rename_i t ho
    cases hz : zeroL P t with
    | none => simp [hz, T.holds] at hh
    | some cs =>
      simp only [hz] at hh
      unfold zeroL at hz
      cases hi : P.info? t with
      | none => simp [hi] at hz
      | some i =>
        cases hzz : i.zero with
        | none => simp [hi, hzz] at hz
        | some z =>
          simp only [hi, hzz] at hz
          have hc := constL_spec hz n bl.length ρ m
          obtain ⟨hord, hh⟩ := cond_holds hh
          have hw := hk n ρ _ _ _ G _ _ (Later.alloc n ρ m bl (cs, (t, false)) w.heap.size) (AgA.refl _ _) (h.alloc (t := t) hc.1 o.dst hord) hh
          unfold Oper.wp
          simp only [execOp, ho, Instr.alloc, Sem.run_bind, zeroValue, typeInfo, run_program, Result.andThen_ok, hi, hzz, Sem.run_pure, newVar, newRow, run_newObj]
          have e : (cs.map (A.den ρ m)).toArray = z.cells := by rw [hc.2]
          rw [e] at hw
          exact hw
  · rename_i t x ho
    have hx := opV_spec h.t x
    split at hh
    · rename_i u hu
      rw [hu] at hx
      have hxr : a.eval x = u.den ρ m := hx.2
      obtain ⟨hord, hh⟩ := cond_holds hh
      have hw := hk n ρ _ _ _ G _ _ (Later.alloc n ρ m bl (u.cells, (t, false)) w.heap.size) (AgA.refl _ _) (h.alloc (t := t) (W.cells_ok hx.1) o.dst hord) hh
      unfold Oper.wp
      simp only [execOp, ho, Instr.box, Sem.run_bind, Result.andThen_ok, Sem.run_pure, newVar, newRow, run_newObj, hxr]
      rw [← W.cells_den u hx.1] at hw
      exact hw
    · exact hh.elim
  · rename_i t len parts ho
    split at hh
    · rename_i cs e hbs
      obtain ⟨g1, g2⟩ := bsL_spec (m := m) (vals := parts.map fun (i, x) => (i, a.eval x)) hbs (by
        rw [Array.toList_map]
        generalize parts.toList = ps
        induction ps with
        | nil => exact trivial
        | cons p r ih => exact ⟨⟨rfl, opV_spec h.t p.2⟩, ih⟩)
      obtain ⟨hord, hh⟩ := cond_holds hh
      have hR := R.row (t := e) (cs := cs) (ex := []) (open_ := false) h g1 (fun _ => rfl) hord o.dst (v := .w (.one (.slc bl.length 0 len len))) (x := .slice (some ⟨w.heap.size, 0, none⟩) len len) (by simp [V.ok, W.ok, A.ok]) (by
        show Value.slice (some ⟨w.heap.size, 0, none⟩) _ _ = _
        simp [W.den, A.den, updM_same])
      have hw := hk n ρ _ _ _ G _ _ (Later.alloc n ρ m bl (cs, (e, false)) w.heap.size) (AgA.refl _ _) hR hh
      rw [List.append_nil] at hw
      unfold Oper.wp
      simp only [execOp, ho, Sem.run_bind, g2, Result.andThen_ok, Sem.run_pure]
      exact hw
    · exact hh.elim
  · rename_i t p x ho
    have hp := opV_spec h.t p
    have hx := opV_spec h.t x
    split at hh
    · rename_i b off u hpv hxv
      rw [hpv] at hp
      rw [hxv] at hx
      have hpr : a.eval p = .pointer (some ⟨m b, off, none⟩) := hp.2
      have hxr : a.eval x = u.den ρ m := hx.2
      split at hh
      · rename_i cs bt s hbl hs
        cases hc : (Nat.beq u.cells.length s && Nat.ble (off + s) cs.length && Nat.blt 0 s && isOrd cs && isOrd (cs.take off ++ u.cells ++ cs.drop (off + s))) with
        | false => rw [hc] at hh; exact hh.elim
        | true =>
          simp only [hc, cond_true] at hh
          simp only [Bool.and_eq_true] at hc
          obtain ⟨⟨hc, ho1⟩, ho2⟩ := hc
          have e1 := Nat.eq_of_beq_eq_true hc.1.1
          have e2 := Nat.le_of_ble_eq_true hc.1.2
          have e3 := blt_lt hc.2
          subst e1
          obtain ⟨w', hrun, hm'⟩ := h.mm.store h.b (W.cells_ok hx.1) hbl e2 e3 ho1 ho2 t hs (u.den ρ m) (W.cells_den u hx.1)
          have hok : ∀ a ∈ cs.take off ++ u.cells ++ cs.drop (off + u.cells.length), A.ok n bl.length ρ a := fun a ha => by
            have hcs := h.b _ (List.mem_of_getElem? hbl)
            rcases List.mem_append.1 ha with ha | ha
            · rcases List.mem_append.1 ha with ha | ha
              · exact hcs a (List.mem_of_mem_take ha)
              · exact W.cells_ok hx.1 a ha
            · exact hcs a (List.mem_of_mem_drop ha)
          unfold Oper.wp
          simp only [execOp, ho, Sem.run_bind, hpr, hxr, hrun, Result.andThen_ok, Sem.run_pure]
          refine hk n ρ m _ _ G _ w' ⟨Nat.le_refl _, agree.refl _ _, by rw [setB_length]; exact Nat.le_refl _, fun _ _ => rfl⟩ (AgA.refl _ _) ⟨?_, by rw [put_defers]; exact h.d, h.b.set hok, hm'⟩ hh
          rw [setB_length]
          exact TRel.put h.t o.dst (by intro x hx; simp at hx) rfl
      · exact hh.elim
    · exact hh.elim
  · rename_i c ho
    split at hh
    · rename_i f hc
      split at hh
      · exact quiet_wp hcal hg h hh hk
      · have hargs : ∀ v ∈ c.args.toList.map (opV tm), V.ok n bl.length ρ v := fun v hv => by
          obtain ⟨x, _, rfl⟩ := List.mem_map.1 hv
          exact (opV_spec h.t x).1
        have hr := hinl f n _ bl _ G ρ m w _ (fun e w'' => match e with
            | .returned v => K (a.put o.dst v) w''
            | .panicked chain => Q (.panic chain) a w''
            | .outgrown => LetsOut Q) h.b h.mm hargs (LRel_map (xs := c.args.toList) h.t) hh (by
          intro n' v bl' G' ρ' m' w' val h1 h2 h3 h4 h5 h6 h7
          exact hk n' ρ' m' _ bl' G' _ w' h1 h2 ⟨TRel.put (h.t.ext h1.ha h1.hn h1.hb h1.hm) o.dst h3 h4, by rw [put_defers]; exact h.d, h5, h6⟩ h7)
        have ha : (c.args.toList.map a.eval).toArray = c.args.map a.eval := by rw [← Array.toList_map]
        rw [ha] at hr
        unfold Oper.wp
        rw [run_callFunc_eval hc o ho, hr.1]
        refine hr.2.mono fun e w'' he => ?_
        cases e <;> exact he
    · rename_i x hc
      split at hh
      · rename_i f caps hcv
        have hx := opV_spec h.t (.tmp x)
        obtain ⟨hx1, hxr⟩ : (∀ y ∈ caps, A.ok n bl.length ρ y) ∧ a.eval (.tmp x) = .func (.func f) #[] (caps.map (A.den ρ m)).toArray := cloOf_spec hcv hx.1 hx.2
        have hargs : ∀ v ∈ c.args.toList.map (opV tm) ++ caps.map (fun y => V.w (.one y)), V.ok n bl.length ρ v := fun v hv => by
          rcases List.mem_append.1 hv with hv | hv
          · obtain ⟨x, _, rfl⟩ := List.mem_map.1 hv
            exact (opV_spec h.t x).1
          · obtain ⟨y, hy, rfl⟩ := List.mem_map.1 hv
            exact hx1 y hy
        have hrel : LRel ρ m (c.args.toList.map (opV tm) ++ caps.map fun y => V.w (.one y)) (c.args.toList.map a.eval ++ caps.map (A.den ρ m)) := by
          generalize c.args.toList = l
          induction l with
          | nil =>
            simp only [List.map_nil, List.nil_append]
            generalize caps = q
            induction q with
            | nil => trivial
            | cons y r ih => exact ⟨rfl, ih⟩
          | cons x r ih => exact ⟨(opV_spec h.t x).2, ih⟩
        have hr := hinl f n _ bl _ G ρ m w _ (fun e w'' => match e with
            | .returned v => K (a.put o.dst v) w''
            | .panicked chain => Q (.panic chain) a w''
            | .outgrown => LetsOut Q) h.b h.mm hargs hrel hh (by
          intro n' v bl' G' ρ' m' w' val h1 h2 h3 h4 h5 h6 h7
          exact hk n' ρ' m' _ bl' G' _ w' h1 h2 ⟨TRel.put (h.t.ext h1.ha h1.hn h1.hb h1.hm) o.dst h3 h4, by rw [put_defers]; exact h.d, h5, h6⟩ h7)
        have hex : execOp a.eval o = callFunc f (c.args.toList.map a.eval ++ caps.map (A.den ρ m)).toArray := by
          have e : (c.args.toList.map a.eval ++ caps.map (A.den ρ m)).toArray = #[] ++ c.args.map a.eval ++ (caps.map (A.den ρ m)).toArray := by
            apply Array.ext'
            simp
          rw [e]
          simp only [execOp, ho, resolve, hc, hxr, Deferred.ofValue, pure_bind, invoke]
        unfold Oper.wp
        rw [hex, hr.1]
        refine hr.2.mono fun e w'' he => ?_
        cases e <;> exact he
      · exact hh.elim
    · rename_i hc
      split at hh
      · rename_i s x t t' hxs hts
        exact appE_wp h ho hc hxs hts hh hk
      · exact hh.elim
    · exact quiet_wp hcal hg h hh hk
  · exact quiet_wp hcal hg h hh hk

theorem stepE_wp {n : Nat} {ρ : Env} {m : Nat → Nat} {tm : List V} {bl : List Blk} {a : Act} {w : World} {G : Again} {o : Oper} {K : Act → World → Prop} {Q : Exit → Act → World → Prop} {k : SK}
    (hcal : CalOk S P gl w0 cal) (hg : GOk gl w0) (hinl : InlOk S L w0 P inl) (h : R w0 n ρ m tm bl a w) (hh : (stepE P gl cal inl o n tm bl k).holds S L G ρ) (hk : SKok S L w0 k n bl.length ρ m G K) : o.wp P a w K Q := by
  unfold stepE at hh
  split at hh
  · rename_i t ht
    exact stepR_wp h ht hh hk
  · split at hh
    · rename_i t ht
      exact stepW_wp h ht hh hk
    · exact stepE0_wp hcal hg hinl h hh hk

theorem bndB_spec {ρ : Env} : ∀ {b : BE} {v : Bool} {r : Lin × Option Int × Option Int}, b.den ρ = v → bndB b v = some r → (∀ c, r.2.1 = some c → c ≤ r.1.den ρ) ∧ (∀ c, r.2.2 = some c → r.1.den ρ ≤ c)
  | .le p q, true, r, hb, h | .le p q, false, r, hb, h | .lt p q, true, r, hb, h | .lt p q, false, r, hb, h => by
    simp only [BE.den, decide_eq_true_eq, decide_eq_false_iff_not] at hb
    simp only [bndB] at h
    split at h
    · rename_i c h1 h2
      have e := Lin.den_isC h1 (ρ := ρ)
      simp only [Option.some.injEq] at h
      subst h
      constructor <;> intro c' hc <;> simp only [Option.some.injEq, reduceCtorEq] at hc <;> subst hc <;> simp only <;> omega
    · rename_i c h1 h2
      have e := Lin.den_isC h2 (ρ := ρ)
      simp only [Option.some.injEq] at h
      subst h
      constructor <;> intro c' hc <;> simp only [Option.some.injEq, reduceCtorEq] at hc <;> subst hc <;> simp only <;> omega
    · cases h
  | .not b, v, r, hb, h => by
    simp only [bndB] at h
    refine bndB_spec (b := b) (v := !v) ?_ h
    simp only [BE.den] at hb
    rw [← hb, Bool.not_not]
  | .lit _, _, _, _, h => by simp [bndB] at h
  | .eq _ _, _, _, _, h => by simp [bndB] at h
  | .and _ _, _, _, _, h => by simp [bndB] at h
  | .iff _ _, _, _, _, h => by simp [bndB] at h
theorem cutV_spec {n nb : Nat} {ρ : Env} {m : Nat → Nat} {b : BE} {v : Bool} (hb : b.den ρ = v) (u : V) (hu : u.ok n nb ρ) : (cutV b v (bndB b v) u).ok n nb ρ ∧ ∀ x, u.rel ρ m x → (cutV b v (bndB b v) u).rel ρ m x := by
  unfold cutV
  split
  · rename_i e
    cases hc : BE.beq e b with
    | false => simp only [cond_false]; exact ⟨hu, fun _ h => h⟩
    | true =>
      have := BE.beq_eq hc
      subst this
      simp only [cond_true]
      refine ⟨trivial, fun x hx => ?_⟩
      simp only [V.rel, W.den, A.den, BE.den] at hx ⊢
      rw [hx, hb]
  · rename_i k y
    cases hr : bndB b v with
    | none => exact ⟨hu, fun _ h => h⟩
    | some r =>
      obtain ⟨l, lo, hi⟩ := r
      simp only
      cases hc : Lin.beq y.l l with
      | false => simp only [cond_false]; exact ⟨hu, fun _ h => h⟩
      | true =>
        have := Lin.beq_eq hc
        have hs := bndB_spec hb hr
        have hy : y.ok n ρ := hu
        simp only [cond_true]
        have b1 : maxI y.lo lo ≤ y.l.den ρ := by
          unfold maxI
          cases lo with
          | none => exact hy.2.1
          | some c =>
            simp only
            have := hs.1 c rfl
            have := hy.2.1
            cases decide (y.lo ≤ c) with
            | true => simp only [cond_true]; rw [‹y.l = l›]; assumption
            | false => simp only [cond_false]; assumption
        have b2 : y.l.den ρ ≤ minI y.hi hi := by
          unfold minI
          cases hi with
          | none => exact hy.2.2
          | some c =>
            simp only
            have := hs.2 c rfl
            have := hy.2.2
            cases decide (c ≤ y.hi) with
            | true => simp only [cond_true]; rw [‹y.l = l›]; assumption
            | false => simp only [cond_false]; assumption
        cases hd : decide (maxI y.lo lo = minI y.hi hi) with
        | true =>
          simp only [cond_true]
          have hd := of_decide_eq_true hd
          refine ⟨IV.const_ok _ _ _, fun x h => ?_⟩
          have h : x = .int k (y.l.den ρ) := h
          rw [h]
          simp only [V.rel, W.den, A.den, IV.const, Lin.den_const]
          congr 1; omega
        | false => simp only [cond_false]; exact ⟨⟨hy.1, b1, b2⟩, fun x h => h⟩
  · exact ⟨hu, fun _ h => h⟩
theorem subB_spec' {n nb : Nat} {ρ : Env} {m : Nat → Nat} {b : BE} {v : Bool} (hb : b.den ρ = v) {tm : List V} {xs : Array Value} (h : TRel n nb ρ m tm xs) : TRel n nb ρ m (subB b v tm) xs := by
  refine ⟨by simp [subB, h.1], fun i u hu => ?_⟩
  simp only [subB, List.getElem?_map, Option.map_eq_some_iff] at hu
  obtain ⟨u0, h0, rfl⟩ := hu
  obtain ⟨h1, x, h2, h3⟩ := h.2 i u0 h0
  have := cutV_spec (m := m) hb u0 h1
  exact ⟨this.1, x, h2, this.2 x h3⟩

theorem guard_spec {n nb : Nat} {ρ : Env} {m : Nat → Nat} {tm : List V} {a : Act} {G : Again} {ops : Array Oper} {o : Oper} {yes no : List V → T} (ht : TRel n nb ρ m tm a.tmps) (h : (guardE ops tm o yes no).holds S L G ρ) :
    ∃ tm', TRel n nb ρ m tm' a.tmps ∧ ((Region.wanted o (yielded ops a.tmps) = true ∧ (yes tm').holds S L G ρ) ∨ (Region.wanted o (yielded ops a.tmps) = false ∧ (no tm').holds S L G ρ)) := by
  unfold guardE at h
  unfold Region.wanted
  cases hgd : o.guard with
  | none => simp only [hgd] at h; exact ⟨tm, ht, .inl ⟨rfl, h⟩⟩
  | some gw =>
    obtain ⟨g, want⟩ := gw
    simp only [hgd] at h ⊢
    unfold yielded
    cases hd : (ops[g]?).bind (·.dst) with
    | none => simp [hd, T.holds] at h
    | some d =>
      simp only [hd] at h
      simp only [Option.bind_some]
      cases htd : tm[d]? with
      | none => simp [htd, T.holds] at h
      | some v =>
        obtain ⟨_, x, hx, hr⟩ := ht.2 d v htd
        simp only [htd] at h
        revert hr h
        cases v with
        | any => intro hr h; exact h.elim
        | osl _ _ _ => intro hr h; exact h.elim
        | clo _ _ => intro hr h; exact h.elim
        | tup l =>
          cases l with
          | nil =>
            intro hr h
            have hr : x = .tuple #[] := hr
            subst hr
            simp only [hx]
            exact ⟨tm, ht, .inr ⟨by simp, h⟩⟩
          | cons _ _ => intro hr h; exact h.elim
        | w y =>
          cases y with
          | agg l => intro hr h; exact h.elim
          | one c =>
            cases c with
            | bool b =>
              intro hr h
              have hr : x = .bool (b.den ρ) := hr
              subst hr
              simp only [hx]
              have key : ∀ b : BE, (T.br b (cond want (yes (subB b true tm)) (no (subB b true tm))) (cond want (no (subB b false tm)) (yes (subB b false tm)))).holds S L G ρ → ∃ tm', TRel n nb ρ m tm' a.tmps ∧ (((some (b.den ρ) == some want) = true ∧ (yes tm').holds S L G ρ) ∨ ((some (b.den ρ) == some want) = false ∧ (no tm').holds S L G ρ)) := fun b hb => by
                simp only [T.holds] at hb
                cases hq : b.den ρ with
                | true =>
                  have := hb.1 hq
                  cases want with
                  | true => exact ⟨_, subB_spec' hq ht, .inl ⟨by simp, this⟩⟩
                  | false => exact ⟨_, subB_spec' hq ht, .inr ⟨by simp, this⟩⟩
                | false =>
                  have := hb.2 hq
                  cases want with
                  | true => exact ⟨_, subB_spec' hq ht, .inr ⟨by simp, this⟩⟩
                  | false => exact ⟨_, subB_spec' hq ht, .inl ⟨by simp, this⟩⟩
              cases b with
              | lit v =>
                simp only [BE.den]
                cases hv : (v == want) with
                | true => simp only [hv, cond_true] at h; exact ⟨tm, ht, .inl ⟨by simpa using hv, h⟩⟩
                | false => simp only [hv, cond_false] at h; exact ⟨tm, ht, .inr ⟨by simpa using hv, h⟩⟩
              | eq _ _ => exact key _ h
              | lt _ _ => exact key _ h
              | le _ _ => exact key _ h
              | not _ => exact key _ h
              | and _ _ => exact key _ h
              | iff _ _ => exact key _ h
            | _ => intro hr h; exact h.elim

theorem R.skip {n : Nat} {ρ : Env} {m : Nat → Nat} {tm : List V} {bl : List Blk} {a : Act} {w : World} (h : R w0 n ρ m tm bl a w) (d : Option Tmp) : R w0 n ρ m (putV tm d (.tup [])) bl (a.put d undef) w :=
  ⟨TRel.put h.t d (by intro x hx; simp at hx) rfl, by rw [put_defers]; exact h.d, h.b, h.mm⟩

theorem opsE_wp {ops : Array Oper} {Q : Exit → Act → World → Prop} (hcal : CalOk S P gl w0 cal) (hg : GOk gl w0) (hinl : InlOk S L w0 P inl) : ∀ (l : List Oper) {n : Nat} {ρ : Env} {m : Nat → Nat} {tm : List V} {bl : List Blk} {a : Act} {w : World} {G : Again} {k : SK},
    R w0 n ρ m tm bl a w → (opsE P gl cal inl ops l n tm bl k).holds S L G ρ → SKok S L w0 k n bl.length ρ m G (Q .normal) → wpList P ops Q l a w
  | [], n, ρ, m, tm, bl, a, w, G, k, h, hh, hk => hk n ρ m tm bl G a w (Later.refl _ _ _ _) (AgA.refl _ _) h hh
  | o :: r, n, ρ, m, tm, bl, a, w, G, k, h, hh, hk => by
    unfold opsE at hh
    unfold wpList
    obtain ⟨tm', ht', hgd⟩ := guard_spec h.t hh
    have h : R w0 n ρ m tm' bl a w := ⟨ht', h.d, h.b, h.mm⟩
    rcases hgd with ⟨hw, hh⟩ | ⟨hw, hh⟩
    · rw [if_pos hw]
      refine .inl (stepE_wp hcal hg hinl h hh fun n' ρ' m' tm' bl' G' a' w' h1 h2 h3 h4 => ?_)
      exact opsE_wp hcal hg hinl r h3 h4 (hk.later h1 h2)
    · rw [if_neg (by simp [hw])]
      exact opsE_wp hcal hg hinl r (h.skip o.dst) hh hk

theorem allT_holds {g : Nat → T} {L : V → Env → Prop} {G : Again} {ρ : Env} : ∀ {l : List Nat}, (allT g l).holds S L G ρ → ∀ i ∈ l, (g i).holds S L G ρ
  | [], hh, _, hi => by cases hi
  | [j], hh, i, hi => by simp at hi; subst hi; exact hh
  | j :: j' :: r, hh, i, hi => by
    rcases List.mem_cons.1 hi with rfl | hi
    · exact hh.1
    · exact allT_holds (l := j' :: r) hh.2 i hi
theorem anyE_wp {ops : Array Oper} {Q : Exit → Act → World → Prop} (hcal : CalOk S P gl w0 cal) (hg : GOk gl w0) (hinl : InlOk S L w0 P inl) : ∀ (f : Nat) {listed : Array Bool} {n : Nat} {ρ : Env} {m : Nat → Nat} {tm : List V} {bl : List Blk} {a : Act} {w : World} {G : Again} {k : SK},
    R w0 n ρ m tm bl a w → (anyE P gl cal inl ops f listed n tm bl k).holds S L G ρ → SKok S L w0 k n bl.length ρ m G (Q .normal) → wpAny P .any ops Q f listed a w
  | 0, listed, n, ρ, m, tm, bl, a, w, G, k, h, hh, hk => by
    unfold anyE at hh
    unfold wpAny
    split at hh
    · rename_i hr
      exact ⟨hr, hk n ρ m tm bl G a w (Later.refl _ _ _ _) (AgA.refl _ _) h hh⟩
    · exact hh.elim
  | f + 1, listed, n, ρ, m, tm, bl, a, w, G, k, h, hh, hk => by
    unfold anyE at hh
    unfold wpAny
    split at hh
    · rename_i hr
      exact ⟨fun _ => hk n ρ m tm bl G a w (Later.refl _ _ _ _) (AgA.refl _ _) h hh, fun i hi => by rw [hr] at hi; cases hi⟩
    · rename_i l hl
      refine ⟨fun hr => absurd hr hl, fun i hi => ?_⟩
      have hi2 := allT_holds hh i hi
      unfold wpOp
      cases ho : ops[i]? with
      | none => simp only [ho] at hi2; exact hi2.elim
      | some o =>
        simp only [ho] at hi2 ⊢
        obtain ⟨tm', ht', hgd⟩ := guard_spec h.t hi2
        have h : R w0 n ρ m tm' bl a w := ⟨ht', h.d, h.b, h.mm⟩
        rcases hgd with ⟨hw, hi3⟩ | ⟨hw, hi3⟩
        · rw [if_pos hw]
          refine .inl (stepE_wp hcal hg hinl h hi3 fun n' ρ' m' tm' bl' G' a' w' h1 h2 h3 h4 => ?_)
          exact anyE_wp hcal hg hinl f h3 h4 (hk.later h1 h2)
        · rw [if_neg (by simp [hw])]
          exact anyE_wp hcal hg hinl f (h.skip o.dst) hi3 hk

/-- The quiet head of a region whose order is open. -/
theorem headE_wp {ops : Array Oper} {bl : List Blk} {m : Nat → Nat} {n0 : Nat} {ρ0 : Env} (hcal : CalOk S P gl w0 cal) (hg : GOk gl w0) (hb0 : BlOk n0 bl.length ρ0 bl) (hex : ∃ w, Mem w0 ρ0 m bl w) {F : Act → Prop} {G : Again} : ∀ (l : List Oper) {n : Nat} {ρ : Env} {tm : List V} {a : Act} {k : Nat → List V → T},
    n0 ≤ n → agree n0 ρ0 ρ → TRel n bl.length ρ m tm a.tmps → a.defers = [] → (headE P gl cal ops l n tm bl k).holds S L G ρ →
    (∀ n' ρ' tm' a', n ≤ n' → agree n ρ ρ' → TRel n' bl.length ρ' m tm' a'.tmps → a'.defers = [] → (k n' tm').holds S L G ρ' → F a') → Chain P ops (fun w => Mem w0 ρ0 m bl w) F l a
  | [], n, ρ, tm, a, k, hn, ha, ht, hd, hh, hk => hk n ρ tm a (Nat.le_refl _) (agree.refl _ _) ht hd hh
  | o :: r, n, ρ, tm, a, k, hn, ha, ht, hd, hh, hk => by
    unfold headE at hh
    unfold Chain
    obtain ⟨wx, hwx⟩ := hex
    cases hal : alO o with
    | true =>
      simp only [hal, cond_true] at hh ⊢
      exact headE_wp hcal hg hb0 ⟨wx, hwx⟩ r hn ha ht hd hh hk
    | false =>
      simp only [hal, cond_false] at hh ⊢
      obtain ⟨tm', ht, hgd⟩ := guard_spec ht hh
      rcases hgd with ⟨hw, hh⟩ | ⟨hw, hh⟩
      · have hb : BlOk n bl.length ρ bl := hb0.ext ha hn (Nat.le_refl _)
        obtain ⟨ρ', n', v, hn', ha', ⟨hv, val, hr, hq⟩, hh'⟩ := qop_snd (L := L) hcal hb hg ⟨wx, hwx.rho hb0 ha⟩ ht o G _ hh
        refine ⟨val, .inl ⟨hw, fun w hwm => hq w (hwm.rho hb0 ha)⟩, ?_⟩
        exact headE_wp hcal hg hb0 ⟨wx, hwx⟩ r (Nat.le_trans hn hn') (ha.trans ha' hn) (TRel.put (ht.ext ha' hn' (Nat.le_refl _) (fun _ _ => rfl)) o.dst hv hr) (by rw [put_defers]; exact hd) hh'
          fun n'' ρ'' tm'' a'' h1 h2 h3 h4 h5 => hk n'' ρ'' tm'' a'' (Nat.le_trans hn' h1) (ha'.trans h2 hn') h3 h4 h5
      · exact ⟨undef, .inr ⟨hw, rfl⟩, headE_wp hcal hg hb0 ⟨wx, hwx⟩ r hn ha (TRel.put (v := .tup []) ht o.dst (by intro x hx; simp at hx) rfl) (by rw [put_defers]; exact hd) hh hk⟩

def zeroObj (P : Program) (ops : Array Oper) (j : Nat) : Obj :=
  match ops[j]? with
  | some o => match o.op with
    | .alloc t => match P.info? t with
      | some i => match i.zero with
        | some z => .cells z.cells t
        | none => default
      | none => default
    | _ => default
  | none => default

theorem zeroOk_run {l : List Oper} {h j : Nat} {o : Oper} (hz : zeroOk P (l.take h) = true) (hj : j < h) (ho : l.toArray[j]? = some o) (hal : alO o = true) (b : Act) (w : World) :
    (execOp b.eval o).run P w = .ok (.value (.pointer (some ⟨w.heap.size, 0, none⟩))) (w.alloc (zeroObj P l.toArray j)) := by
  have ho' : l[j]? = some o := by simpa using ho
  have hm : o ∈ l.take h := List.mem_of_getElem? (i := j) (by rw [List.getElem?_take, if_pos hj]; exact ho')
  have h1 := List.all_eq_true.1 hz o hm
  simp only [hal, Bool.not_true, Bool.false_or] at h1
  unfold zeroObj
  simp only [ho]
  cases hop : o.op with
  | alloc t =>
    simp only [hop] at h1
    obtain ⟨cs, hcs⟩ := Option.isSome_iff_exists.1 h1
    obtain ⟨i, z, hi, hzz, _⟩ := zeroL_spec hcs
    simp only [execOp, hop, Instr.alloc, Sem.run_bind, zeroValue, typeInfo, run_program, Result.andThen_ok, hi, hzz, Sem.run_pure, newVar, newRow, run_newObj]
    rfl
  | _ => simp [hop] at h1

theorem allocsE_wp {ops : Array Oper} {h : Nat} {an b : Act} {γ : Nat → Nat} {sz : Nat} {w : World} {n : Nat} {ρ : Env} {G : Again} {k : SK} {K : Act → World → Prop} (hfin : Fin ops h an b γ) (hnew : News ops h (fun _ => True) (zeroObj P ops) γ sz w) (hsz : w0.b.heap.size ≤ sz) (hsz2 : w0.r.heap.size ≤ sz) :
    ∀ (l : List Oper) (i : Nat) {m : Nat → Nat} {tm : List V} {bl : List Blk} {c : Act}, (∀ j, j < l.length → ops[i + j]? = l[j]?) → i + l.length = h → R w0 n ρ m tm bl c w →
      (∀ (kk : Nat) (p : Blk), bl[kk]? = some p → kindC ρ p.1 ≠ 0 → m kk < sz ∨ ∃ j, j < i ∧ alB ops j = true ∧ m kk = γ j) → c.tmps.size = an.tmps.size →
      (∀ t : Nat, ((∃ j o, j < i ∧ ops[j]? = some o ∧ alO o = true ∧ o.dst = some t) → c.tmps[t]? = b.tmps[t]?) ∧ ((∀ j o, j < i → ops[j]? = some o → alO o = true → o.dst ≠ some t) → c.tmps[t]? = an.tmps[t]?)) →
      (allocsE P l n tm bl k).holds S L G ρ → SKok S L w0 k n bl.length ρ m G K → an.defers = [] → K b w
  | [], i, m, tm, bl, c, hl, hi, hR, hm, hcs, hc, hh, hk, hd => by
    simp only [List.length_nil, Nat.add_zero] at hi
    subst hi
    have hbc : c = b := act_ext (by rw [hR.d, hfin.d, hd]) fun t => by
      by_cases ht : ∃ j o, j < i ∧ ops[j]? = some o ∧ alO o = true ∧ o.dst = some t
      · exact (hc t).1 ht
      · have hno : ∀ j o, j < i → ops[j]? = some o → alO o = true → o.dst ≠ some t := fun j o h1 h2 h3 h4 => ht ⟨j, o, h1, h2, h3, h4⟩
        rw [(hc t).2 hno, hfin.no t hno]
    subst hbc
    exact hk n ρ m tm bl G c w (Later.refl _ _ _ _) (AgA.refl _ _) hR hh
  | o :: r, i, m, tm, bl, c, hl, hi, hR, hm, hcs, hc, hh, hk, hd => by
    have ho : ops[i]? = some o := by have := hl 0 (by simp); simpa using this
    have hr : ∀ j, j < r.length → ops[i + 1 + j]? = r[j]? := fun j hj => by
      have := hl (j + 1) (by simp; omega)
      rw [show i + 1 + j = i + (j + 1) by omega, this]; simp
    have hi' : i + 1 + r.length = h := by simp at hi; omega
    unfold allocsE at hh
    cases hal : alO o with
    | false =>
      simp only [hal, cond_false] at hh
      refine allocsE_wp hfin hnew hsz hsz2 r (i + 1) hr hi' hR (fun kk p hkk hp => (hm kk p hkk hp).imp id fun ⟨j, h1, h2⟩ => ⟨j, by omega, h2⟩) hcs (fun t => ⟨fun ⟨j, o', h1, h2, h3, h4⟩ => ?_, fun hno => (hc t).2 fun j o' h1 => hno j o' (by omega)⟩) hh hk hd
      by_cases hji : j = i
      · subst hji
        have : o' = o := Option.some.inj (h2.symm.trans ho)
        subst this
        rw [hal] at h3; cases h3
      · exact (hc t).1 ⟨j, o', by omega, h2, h3, h4⟩
    | true =>
      simp only [hal, cond_true] at hh
      cases hop : o.op with
      | alloc ty =>
        simp only [hop] at hh
        cases hz : zeroL P ty with
        | none => simp [hz, T.holds] at hh
        | some cs =>
          simp only [hz] at hh
          obtain ⟨hord, hh⟩ := cond_holds hh
          obtain ⟨inf, z, hinf, hzz, hcl⟩ := zeroL_spec hz
          have hcsp := constL_spec hcl n bl.length ρ m
          have hib : alB ops i = true := by simp [alB, ho, hal]
          have hilt : i < h := by simp at hi; omega
          obtain ⟨g1, g2⟩ := hnew.1 i hilt trivial hib
          have hzo : zeroObj P ops i = .cells (cs.map (A.den ρ m)).toArray ty (0, 0) := by
            unfold zeroObj
            simp only [ho, hop, hinf, hzz, hcsp.2]
          rw [hzo] at g2
          have hne : ∀ (kk : Nat) (p : Blk), bl[kk]? = some p → kindC ρ p.1 ≠ 0 → m kk ≠ γ i := fun kk p hkk hp e => by
            rcases hm kk p hkk hp with h1 | ⟨j, h1, h2, h3⟩
            · omega
            · have := hnew.2 j i (by omega) hilt trivial trivial h2 hib (h3.symm.trans e)
              omega
          have hM := hR.mm.push (x := (cs, (ty, false))) hR.b hcsp.1 (fun _ => ⟨by omega, .inr (by omega), [], fun _ => rfl, by rw [List.append_nil]; exact g2⟩) (fun sh off code cap kind e => by simp only at e; subst e; cases hord) fun i p hi he => .inr (.inl (Classical.byContradiction fun hk => hne i p hi hk he))
          have hL := Later.alloc n ρ m bl (cs, (ty, false)) (γ i)
          have hR' : R w0 n ρ (updM m bl.length (γ i)) (putV tm o.dst (.w (.one (.ptr bl.length 0)))) (bl ++ [(cs, (ty, false))]) (c.put o.dst (.pointer (some ⟨γ i, 0, none⟩))) w :=
            ⟨TRel.put (hR.t.ext hL.ha hL.hn hL.hb hL.hm) o.dst (by simp [V.ok, W.ok, A.ok]) (by simp [V.rel, W.den, A.den, updM_same]), by rw [put_defers]; exact hR.d, hR.b.alloc hcsp.1, hM⟩
          refine allocsE_wp hfin hnew hsz hsz2 r (i + 1) hr hi' hR' (fun kk p hkk hp => ?_) ((put_size _ _ _).trans hcs) (fun t => ⟨fun ⟨j, o', h1, h2, h3, h4⟩ => ?_, fun hno => ?_⟩) hh (hk.later hL (AgA.refl _ _)) hd
          · by_cases hkb : kk < bl.length
            · rw [updM_lt hkb]
              rw [List.getElem?_append_left hkb] at hkk
              exact (hm kk p hkk hp).imp id fun ⟨j, h1, h2⟩ => ⟨j, by omega, h2⟩
            · have : kk = bl.length := by have := (List.getElem?_eq_some_iff.1 hkk).1; simp at this; omega
              subst this
              rw [updM_same]
              exact .inr ⟨i, by omega, hib, rfl⟩
          · by_cases ht : o.dst = some t
            · rw [ht]
              simp only [Act.put]
              rcases Nat.lt_or_ge t c.tmps.size with h5 | h5
              · have hbs : t < b.tmps.size := by rw [hfin.sz, ← hcs]; exact h5
                rw [hfin.al t i o hilt ho hal ht hbs]
                simp [h5]
              · rw [Array.getElem?_eq_none (by simpa using h5), Array.getElem?_eq_none (by rw [hfin.sz, ← hcs]; exact h5)]
            · rw [put_other ht]
              by_cases hji : j = i
              · subst hji
                have : o' = o := Option.some.inj (h2.symm.trans ho)
                subst this
                exact absurd h4 ht
              · exact (hc t).1 ⟨j, o', by omega, h2, h3, h4⟩
          · have ht : o.dst ≠ some t := hno i o (by omega) ho hal
            rw [put_other ht]
            exact (hc t).2 fun j o' h1 => hno j o' (by omega)
      | _ => simp [hop, T.holds] at hh
end
end Go.Rx
