/- Contracts with slices: at a call, and out of a tree. -/
import Derived.Test.YtlecfjcooglpoaaDoorRxD
set_option linter.unusedVariables false
set_option linter.unusedSimpArgs false
namespace Go.Rx
open M

/-! ### Rows within rows -/
theorem lc_cons (x : Nat) (r : List Nat) : lc (x :: r) = 2 ^ x * (2 * lc r + 1) := rfl
theorem lc_tail (x : Nat) (r : List Nat) : lc r ≤ lc (x :: r) := by
  rw [lc_cons]
  have h1 : 1 ≤ 2 ^ x := Nat.one_le_two_pow
  have h2 : 2 * lc r + 1 ≤ 2 ^ x * (2 * lc r + 1) := Nat.le_mul_of_pos_left _ h1
  omega
theorem lc_drop : ∀ (a : Nat) (l : List Nat), lc (l.drop a) ≤ lc l
  | 0, l => by simp
  | a + 1, [] => by simp
  | a + 1, x :: r => by rw [List.drop_succ_cons]; exact Nat.le_trans (lc_drop a r) (lc_tail x r)
theorem lc_take : ∀ (k : Nat) (l : List Nat), lc (l.take k) ≤ lc l
  | 0, l => by simp [lc]
  | k + 1, [] => by simp
  | k + 1, x :: r => by
    rw [List.take_succ_cons, lc_cons, lc_cons]
    exact Nat.mul_le_mul_left _ (by have := lc_take k r; omega)
theorem rc_sub (l : List (List Int)) (a k : Nat) : rc ((l.drop a).take k) ≤ rc l := by
  unfold rc
  rw [List.map_take, List.map_drop]
  exact_mod_cast Nat.le_trans (lc_take k _) (lc_drop a _)
theorem zz_uz (n : Nat) : zz (uz n) = n := by
  unfold zz uz
  by_cases h : n % 2 = 0
  · rw [if_pos h, if_pos (by omega)]; omega
  · rw [if_neg h, if_neg (by omega)]; omega
theorem tz_spec : ∀ (f n : Nat), 0 < n → n ≤ f → n = 2 ^ tz f n * (2 * (n / 2 ^ tz f n / 2) + 1)
  | 0, n, h, h' => by omega
  | f + 1, n, h, h' => by
    unfold tz
    by_cases hn : n % 2 = 0
    · rw [if_pos hn]
      have ih := tz_spec f (n / 2) (by omega) (by omega)
      have e : n / 2 ^ (tz f (n / 2) + 1) = n / 2 / 2 ^ tz f (n / 2) := by rw [Nat.pow_succ, Nat.mul_comm, Nat.div_div_eq_div_mul]
      rw [e, Nat.pow_succ, Nat.mul_comm (2 ^ _) 2, Nat.mul_assoc, ← ih]; omega
    · rw [if_neg hn]; simp; omega
theorem lc_ld : ∀ (f n : Nat), n ≤ f → lc (ld f n) = n
  | 0, n, h => by
    have : n = 0 := by omega
    subst this; rfl
  | f + 1, n, h => by
    unfold ld
    by_cases hn : n = 0
    · rw [if_pos hn, hn]; rfl
    · rw [if_neg hn, lc_cons]
      have hp : 0 < 2 ^ tz n n := Nat.two_pow_pos _
      have hd : n / 2 ^ tz n n / 2 ≤ f := by
        have h1 : n / 2 ^ tz n n ≤ n := Nat.div_le_self _ _
        omega
      rw [lc_ld f _ hd]
      exact (tz_spec n n (by omega) (Nat.le_refl _)).symm
theorem rc_rOf {z : Int} (h : 0 ≤ z) : rc (rOf z) = z := by
  unfold rc rOf
  rw [List.map_map]
  have e : ((fun row : List Int => lc (row.map zz)) ∘ fun n => (ld n n).map uz) = id := by
    funext n
    simp only [Function.comp, List.map_map, id]
    have : (zz ∘ uz) = id := by funext k; exact zz_uz k
    rw [this, List.map_id, lc_ld n n (Nat.le_refl _)]
  rw [e, List.map_id, lc_ld _ _ (Nat.le_refl _)]
  omega
/-- The slice's blocks. -/
def baseV : V → List Nat
  | .w (.one (.sl b _ _ _ _ _)) => [b]
  | .w (.one (.slc b _ _ _)) => [b]
  | _ => []
def capM (cap capb : Lin) : M Unit := cond (Lin.beq cap capb) (pure ()) (chkM 40 [cap, capb])
noncomputable def rdM (sh : List CK) (bl : List Blk) (v : V) : M Lin :=
  match v with
  | .w (.one (.con (.slice none 0 0))) => pure (.const 0)
  | .w (.one (.sl b sz o ro len cap)) => match bl[b]? with
    | some ([.rows sh' off code capb kind], _) => cond (Nat.blt 0 kind && shBeq sh sh' && Lin.beq o off && Nat.beq sz sh.length) (bind (chkM 22 [code, ro, ro.add len]) fun _ => bind (capM cap capb) fun _ => fnM 22 [code, ro, ro.add len] 0 RB) fail
    | _ => fail
  | .w (.one (.slc b off len cap)) => match headC bl b off (len * sh.length) with
    | some cs => cond (shOk sh && Nat.ble len 1073741824 && Nat.ble len cap && Nat.ble cap 9223372036854775807) (appRowsM sh (chunkA sh.length len cs) (.const 0)) fail
    | none => fail
  | _ => fail
noncomputable def owM (sh : List CK) (e : TypeId) (bl : List Blk) (v : V) : M Lin :=
  match v with
  | .w (.one (.con (.slice none 0 0))) => pure (.const 0)
  | .w (.one (.sl b sz o ro len cap)) => match bl[b]? with
    | some ([.rows sh' off code capb kind], t) => cond (Nat.beq kind 2 && shBeq sh sh' && Lin.beq o (.const 0) && Lin.beq off (.const 0) && Lin.beq ro (.const 0) && Lin.beq cap capb && Nat.beq sz sh.length && Nat.beq t.1 e) (bind (chkM 22 [code, .const 0, len]) fun _ => fnM 22 [code, .const 0, len] 0 RB) fail
    | _ => fail
  | .w (.one (.slc b off len cap)) => match bl[b]? with
    | some (C, t) => match headC bl b off (len * sh.length) with
      | some cs => cond (shOk sh && Nat.ble len 1073741824 && Nat.ble len cap && Nat.ble cap 9223372036854775807 && Nat.beq off 0 && Nat.beq C.length (cap * sh.length) && !t.2 && Nat.beq t.1 e) (appRowsM sh (chunkA sh.length len cs) (.const 0)) fail
      | none => fail
    | none => fail
  | _ => fail
def slcV : V → List Nat
  | .w (.one (.slc b _ _ _)) => [b]
  | _ => []
def BF (w0 : Base) (ρ : Env) (m : Nat → Nat) (bl : List Blk) (bs os : List Nat) (g : Nat) : Prop :=
  (∃ b ∈ bs, m b = g ∧ ∃ p, bl[b]? = some p ∧ kindC ρ p.1 ≠ 0 ∧ (isOrd p.1 = true → b ∈ os)) ∧ (w0.ex g ∨ w0.ro g ∨ w0.r.heap.size ≤ g)
section
variable {S : Nat → List Int → List Int → Prop} {L : V → Env → Prop} {n : Nat} {ρ : Env} {m : Nat → Nat} {bl : List Blk} {gl : Glo} {w0 : Base} {P : Program} {w : World}

theorem SlAt.mono {F F' : Nat → Prop} {sh : List CK} {rows : List (List Int)} {v : Value} (h : SlAt F w sh rows v) (hF : ∀ g, F g → F' g) : SlAt F' w sh rows v := by
  rcases h with h | ⟨g, o, cap, cells, t, fz, h1, h2, h3, h4⟩
  · exact .inl h
  · exact .inr ⟨g, o, cap, cells, t, fz, h1, h2, hF g h3, h4⟩
/-- Cells of an ordinary block as rows. -/
theorem slc_rows {b off len : Nat} {C : List A} {t : TypeId × Bool} {cs : List A} {sh : List CK} {rows : List (List Int)} (hb : BlOk n bl.length ρ bl) (hw : Mem w0 ρ m bl w) (hbl : bl[b]? = some (C, t)) (hcs : headC bl b off (len * sh.length) = some cs)
    (hrk : ∀ row ∈ rows, RowOk sh row) (hfl : flatV sh rows = cs.map (A.den ρ m)) : w0.b.heap.size ≤ m b ∧ (w0.ex (m b) ∨ w0.r.heap.size ≤ m b) ∧ ∃ cells : Array Value, w.heap[m b]? = some (.cells cells t.1 (0, 0)) ∧ RowsAt cells off sh rows ∧ (t.2 = false → cells.size = C.length) := by
  unfold headC at hcs
  rw [hbl] at hcs
  simp only at hcs
  cases hc : (Nat.ble (off + len * sh.length) C.length && isOrd C) with
  | false => rw [hc] at hcs; cases hcs
  | true =>
    rw [hc] at hcs
    simp only [cond_true, Option.some.injEq] at hcs
    simp only [Bool.and_eq_true] at hc
    have hle := Nat.le_of_ble_eq_true hc.1
    obtain ⟨g1, g2, r, hr, g3⟩ := hw.blk b C t hbl hc.2
    refine ⟨g1, g2, _, g3, ⟨hrk, (C.take off).map (A.den ρ m), ((C.drop off).drop (len * sh.length)).map (A.den ρ m) ++ r, ?_, by simp; omega⟩, fun ht => by rw [hr ht]; simp⟩
    rw [hfl, ← hcs]
    show C.map (A.den ρ m) ++ r = _
    have e : C = C.take off ++ ((C.drop off).take (len * sh.length) ++ (C.drop off).drop (len * sh.length)) := by rw [List.take_append_drop, List.take_append_drop]
    conv => lhs; rw [e]
    simp only [List.map_append, List.append_assoc]
theorem rOf_const0 : rOf ((Lin.const 0).den ρ) = [] := by rw [Lin.den_const]; exact rOf_zero
theorem RB_nonneg : (0 : Int) ≤ RB := Int.le_trans (rc_nonneg []) (RB_c (l := []) (by simp) (by simp))

theorem slc_M {sh : List CK} {len : Nat} {cs : List A} (hsh : shOk sh = true) (hl : len ≤ 1073741824) (hok : ∀ a ∈ cs, A.ok n bl.length ρ a) (hcl : cs.length = len * sh.length) :
    Snd S L (appRowsM sh (chunkA sh.length len cs) (.const 0)) n ρ fun ρ' n' l => l.sc n' ∧ (0 ≤ l.den ρ' ∧ l.den ρ' ≤ RB) ∧ (rOf (l.den ρ')).length = len ∧ (∀ row ∈ rOf (l.den ρ'), RowOk sh row) ∧ flatV sh (rOf (l.den ρ')) = cs.map (A.den ρ m) := by
  have hch := chunkA_flat (w := sh.length) (k := len) hcl
  refine (appRowsM_snd (nb := bl.length) (m := m) hsh (rs := chunkA sh.length len cs) (c := .const 0) (fun row hr a ha => hok a (chunkA_mem row hr a ha)) (Lin.sc_const _ _) (by rw [Lin.den_const]; exact ⟨Int.le_refl _, RB_nonneg⟩) (by rw [rOf_const0]; intro _ h; simp at h) (by rw [rOf_const0, hch.1]; simpa using hl)).mono fun ρ1 n1 l hn ha ⟨p1, p2, rows', p3, p4, p5, p6⟩ => ?_
  rw [rOf_const0, List.nil_append] at p3
  rw [p3]
  exact ⟨p1, p2, by rw [p4, hch.1], p5, by rw [p6, hch.2]⟩
theorem capM_snd {cap capb : Lin} {α : Type} {x : M α} {R : Env → Nat → α → Prop} (h : (0 ≤ cap.den ρ → 0 ≤ capb.den ρ) → Snd S L x n ρ R) : Snd S L (bind (capM cap capb) fun _ => x) n ρ R := by
  unfold capM
  cases hc : Lin.beq cap capb with
  | true => exact h (by rw [Lin.beq_eq hc]; exact id)
  | false => exact chkM_snd h
theorem rdM_snd {sh : List CK} {v : V} {X : Value} (hb : BlOk n bl.length ρ bl) (hw : Mem w0 ρ m bl w) (hv : v.ok n bl.length ρ) (hX : v.rel ρ m X) :
    Snd S L (rdM sh bl v) n ρ fun ρ' n' l => l.sc n' ∧ (0 ≤ l.den ρ' ∧ l.den ρ' ≤ RB) ∧ SlAt (BF w0 ρ m bl (baseV v) (slcV v)) w sh (rOf (l.den ρ')) X := by
  unfold rdM
  split
  · refine Snd.pure ⟨Lin.sc_const _ _, by rw [Lin.den_const]; exact ⟨Int.le_refl _, RB_nonneg⟩, .inl ⟨hX, rOf_const0⟩⟩
  · rename_i b sz o ro len cap
    split
    · rename_i sh' off code capb kind t hbl
      refine snd_guard fun hc => chkM_snd fun hk => ?_
      simp only [Bool.and_eq_true] at hc
      obtain ⟨⟨⟨c1, c2⟩, c3⟩, c4⟩ := hc
      have c1 : 0 < kind := Nat.le_of_ble_eq_true c1
      have c2 := shBeq_eq c2; have c3 := Lin.beq_eq c3; have c4 := Nat.eq_of_beq_eq_true c4
      subst c2; subst c3; subst c4
      simp only [List.map_cons, List.map_nil, chkD, Lin.den_add] at hk
      have hvo : (A.sl b sh.length o ro len cap).ok n bl.length ρ := hv
      obtain ⟨ptr, e1, e2, e3⟩ := sl_den (m := m) hvo
      have hX : X = (A.sl b sh.length o ro len cap).den ρ m := hX
      obtain ⟨x1, ⟨x2, x3, x4, x5⟩, ⟨x6, x7, x8, x9⟩, ⟨x10, x13⟩, x11, x12⟩ := hvo
      have hAok : (A.rows sh o code capb kind).ok n bl.length ρ := hb _ (List.mem_of_getElem? hbl) _ (by simp)
      have hf : fnD 22 ([code, ro, ro.add len].map (·.den ρ)) = rc (((rOf (code.den ρ)).drop (ro.den ρ).toNat).take (len.den ρ).toNat) := by
        simp only [List.map_cons, List.map_nil, fnD, Lin.den_add]
        congr 2; omega
      have hbd : rc (((rOf (code.den ρ)).drop (ro.den ρ).toNat).take (len.den ρ).toNat) ≤ RB := by
        have h1 := rc_sub (rOf (code.den ρ)) (ro.den ρ).toNat (len.den ρ).toNat
        rw [rc_rOf hAok.2.1.1] at h1
        exact Int.le_trans h1 hAok.2.1.2
      refine capM_snd fun hcc => ?_
      refine (fnM_snd (by rw [hf]; exact rc_nonneg _) (by rw [hf]; exact hbd)).mono fun ρ1 n1 l hn ha ⟨k1, k2⟩ => ?_
      rw [hf] at k2
      refine ⟨k1, by rw [k2]; exact ⟨rc_nonneg _, hbd⟩, ?_⟩
      rw [k2, rOf_rc]
      have hlen : (((rOf (code.den ρ)).drop (ro.den ρ).toNat).take (len.den ρ).toNat).length = (len.den ρ).toNat := by simp; omega
      rcases Int.lt_or_le (cap.den ρ) 0 with hcap | hcap
      · left
        have := x11 hcap
        refine ⟨by rw [hX, e1, e2 hcap, if_pos hcap, this]; rfl, by rw [this]; simp⟩
      · right
        clear hbd
        rcases Int.lt_or_le (capb.den ρ) 0 with hcb | hcb
        · have := hcc hcap; omega
        · obtain ⟨q0, cells, tq, fz, q1, ⟨q2, q3⟩, _⟩ := (hw.rws b sh o code capb kind t hbl (by omega)).2 hcb
          refine ⟨m b, (o.den ρ).toNat + (ro.den ρ).toNat * sh.length, (cap.den ρ).toNat, cells, tq, fz, ?_, ⟨by rw [hlen]; have := x12 hcap; omega, by omega⟩, ⟨⟨b, by simp [baseV], rfl, _, hbl, by rw [kindC_rows (by omega) hcb]; omega, fun h => by cases h⟩, q0⟩, q1, ?_⟩
          · rw [hX, e1, e3 hcap, hlen, if_neg (by omega)]
          · exact q3.sub _ _ (by omega)
    · exact Snd.fail
  · rename_i b off len cap
    split
    · rename_i cs hcs
      refine snd_guard fun hc => ?_
      simp only [Bool.and_eq_true] at hc
      obtain ⟨⟨⟨c1, c2⟩, c3⟩, c4⟩ := hc
      have c2 := Nat.le_of_ble_eq_true c2; have c3 := Nat.le_of_ble_eq_true c3; have c4 := Nat.le_of_ble_eq_true c4
      obtain ⟨d1, d2, d3⟩ := headC_spec hw hb hcs
      refine (slc_M (m := m) c1 c2 d2 d1).mono fun ρ1 n1 l hn ha ⟨k1, k2, k3, k4, k5⟩ => ⟨k1, k2, .inr ?_⟩
      have hX : X = .slice (some ⟨m b, off, none⟩) len cap := hX
      cases hbl : bl[b]? with
      | none => unfold headC at hcs; rw [hbl] at hcs; cases hcs
      | some q =>
        obtain ⟨C, t⟩ := q
        obtain ⟨g1, g2, cells, g3, g4, _⟩ := slc_rows hb hw hbl hcs k4 k5
        have hord : isOrd C = true := by
          unfold headC at hcs
          rw [hbl] at hcs
          simp only at hcs
          cases hc : (Nat.ble (off + len * sh.length) C.length && isOrd C) with
          | false => rw [hc] at hcs; cases hcs
          | true => simp only [Bool.and_eq_true] at hc; exact hc.2
        exact ⟨m b, off, cap, cells, t.1, (0, 0), by rw [hX, k3], ⟨by omega, by omega⟩, ⟨⟨b, by simp [baseV], rfl, _, hbl, by rw [kind_ord hord]; decide, fun _ => by simp [slcV]⟩, g2.elim .inl fun h => .inr (.inr h)⟩, g3, g4⟩
    · exact Snd.fail
  · exact Snd.fail
theorem owM_snd {sh : List CK} {e : TypeId} {v : V} {X : Value} (hex : ∀ g, ¬ w0.ex g) (hb : BlOk n bl.length ρ bl) (hw : Mem w0 ρ m bl w) (hv : v.ok n bl.length ρ) (hX : v.rel ρ m X) :
    Snd S L (owM sh e bl v) n ρ fun ρ' n' l => l.sc n' ∧ (0 ≤ l.den ρ' ∧ l.den ρ' ≤ RB) ∧ SlOw (fun g => w0.r.heap.size ≤ g) w sh e (rOf (l.den ρ')) X := by
  unfold owM
  split
  · refine Snd.pure ⟨Lin.sc_const _ _, by rw [Lin.den_const]; exact ⟨Int.le_refl _, RB_nonneg⟩, .inl ⟨hX, rOf_const0⟩⟩
  · rename_i b sz o ro len cap
    split
    · rename_i sh' off code capb kind t hbl
      refine snd_guard fun hc => chkM_snd fun hk => ?_
      simp only [Bool.and_eq_true] at hc
      obtain ⟨⟨⟨⟨⟨⟨⟨c1, c2⟩, c3⟩, c3'⟩, c3''⟩, c6⟩, c4⟩, c5⟩ := hc
      have c1 := Nat.eq_of_beq_eq_true c1
      have c2 := shBeq_eq c2; have c3 := Lin.beq_eq c3; have c3' := Lin.beq_eq c3'; have c3'' := Lin.beq_eq c3''; have c6 := Lin.beq_eq c6; have c4 := Nat.eq_of_beq_eq_true c4; have c5 := Nat.eq_of_beq_eq_true c5
      subst c2; subst c3; subst c4; subst c3'; subst c3''; subst c6; subst c5; subst c1
      simp only [List.map_cons, List.map_nil, chkD, Lin.den_const] at hk
      have hvo : (A.sl b sh.length (.const 0) (.const 0) len cap).ok n bl.length ρ := hv
      obtain ⟨ptr, e1, e2, e3⟩ := sl_den (m := m) hvo
      have hX : X = (A.sl b sh.length (.const 0) (.const 0) len cap).den ρ m := hX
      obtain ⟨x1, ⟨x2, x3, x4, x5⟩, ⟨x6, x7, x8, x9⟩, ⟨x10, x13⟩, x11, x12⟩ := hvo
      rw [Lin.den_const] at x13
      have hAok : (A.rows sh (.const 0) code cap 2).ok n bl.length ρ := hb _ (List.mem_of_getElem? hbl) _ (by simp)
      have hf : fnD 22 ([code, .const 0, len].map (·.den ρ)) = rc (((rOf (code.den ρ)).drop 0).take (len.den ρ).toNat) := by
        simp only [List.map_cons, List.map_nil, fnD, Lin.den_const]
        congr 2
      have hbd : rc (((rOf (code.den ρ)).drop 0).take (len.den ρ).toNat) ≤ RB := by
        have h1 := rc_sub (rOf (code.den ρ)) 0 (len.den ρ).toNat
        rw [rc_rOf hAok.2.1.1] at h1
        exact Int.le_trans h1 hAok.2.1.2
      refine (fnM_snd (by rw [hf]; exact rc_nonneg _) (by rw [hf]; exact hbd)).mono fun ρ1 n1 l hn ha ⟨k1, k2⟩ => ?_
      rw [hf] at k2
      refine ⟨k1, by rw [k2]; exact ⟨rc_nonneg _, hbd⟩, ?_⟩
      rw [k2, rOf_rc]
      have hlen : (((rOf (code.den ρ)).drop 0).take (len.den ρ).toNat).length = (len.den ρ).toNat := by simp; omega
      rcases Int.lt_or_le (cap.den ρ) 0 with hcap | hcap
      · left
        have := x11 hcap
        refine ⟨by rw [hX, e1, e2 hcap, if_pos hcap, this]; rfl, by rw [this]; simp⟩
      · right
        clear hbd
        obtain ⟨q0, cells, tq, fz, q1, ⟨q2, q3⟩, q4⟩ := (hw.rws b sh (.const 0) code cap 2 t hbl (by omega)).2 hcap
        obtain ⟨p0, p1, p2, p3, p4, p5⟩ := q4 (by omega)
        have p2 := p2.two
        subst p0; subst p2
        rw [Lin.den_const] at q3
        refine ⟨m b, (cap.den ρ).toNat, cells, ?_, ⟨by rw [hlen]; have := x12 hcap; omega, by omega⟩, p5.elim (fun h => absurd h (hex _)) id, q1, ?_, p3⟩
        · rw [hX, e1, e3 hcap, hlen, if_neg (by omega)]; simp [Lin.den_const]
        · have := q3.sub 0 (len.den ρ).toNat (by omega)
          simpa using this
    · exact Snd.fail
  · rename_i b off len cap
    split
    · rename_i C t hbl
      split
      · rename_i cs hcs
        refine snd_guard fun hc => ?_
        simp only [Bool.and_eq_true] at hc
        obtain ⟨⟨⟨⟨⟨⟨⟨c1, c2⟩, c3⟩, c4⟩, c5⟩, c6⟩, c7⟩, c8⟩ := hc
        have c2 := Nat.le_of_ble_eq_true c2; have c3 := Nat.le_of_ble_eq_true c3; have c4 := Nat.le_of_ble_eq_true c4
        have c5 := Nat.eq_of_beq_eq_true c5; have c6 := Nat.eq_of_beq_eq_true c6; have c8 := Nat.eq_of_beq_eq_true c8
        subst c5; subst c8
        obtain ⟨d1, d2, d3⟩ := headC_spec hw hb hcs
        refine (slc_M (m := m) c1 c2 d2 d1).mono fun ρ1 n1 l hn ha ⟨k1, k2, k3, k4, k5⟩ => ⟨k1, k2, .inr ?_⟩
        have hX : X = .slice (some ⟨m b, 0, none⟩) len cap := hX
        obtain ⟨g1, g2, cells, g3, g4, g5⟩ := slc_rows hb hw hbl hcs k4 k5
        exact ⟨m b, cap, cells, by rw [hX, k3], ⟨by omega, by omega⟩, g2.elim (fun h => absurd h (hex _)) id, g3, g4, by rw [g5 (by simpa using c7), c6]⟩
      · exact Snd.fail
    · exact Snd.fail
  · exact Snd.fail
end

/-! ### Arguments -/
def flatDM (d : D) (v : V) : M (List Lin) :=
  match d, v with
  | .bool, .w (.one (.bool e)) => match e with
    | .lit v => pure [.const (cond v 1 0)]
    | e => bind (indM e) fun l => pure [l]
  | .int k lo hi, .w (.one (.int k' x)) => cond (decide (k = k')) (cond (fitI lo hi x) (pure [x.l]) (bind (chkM 39 [x.l, .const lo, .const hi]) fun _ => pure [x.l])) fail
  | .mix l, .w (.agg s) => rowLinM l s
  | .str, .w (.one (.str l)) => pure [l]
  | .strk l, .w (.one (.str x)) => match x.isC with | some c => cond (decide (c = cOf (kL l))) (pure []) fail | none => fail
  | .agg k n lo hi, .w (.agg l) => cond (Nat.beq l.length n) (match flatA k lo hi l with | some r => pure r | none => fail) fail
  | _, _ => fail
noncomputable def flatBM (bl : List Blk) : List BD → List V → M (List Lin)
  | [], [] => pure []
  | .d x :: r, v :: s => bind (flatDM x v) fun a => bind (flatBM bl r s) fun b => pure (a ++ b)
  | .rd sh :: r, v :: s => bind (rdM sh bl v) fun a => bind (flatBM bl r s) fun b => pure (a :: b)
  | _, _ => fail
section
variable {S : Nat → List Int → List Int → Prop} {L : V → Env → Prop} {w0 : Base} {P : Program} {w : World}
theorem rowOk_inB : ∀ {sh : List CK} {zs : List Int}, RowOk sh zs → inB (sh.map CK.bd) zs ∧ List.zipWith CK.val sh zs = rowV sh zs
  | [], [], _ => ⟨trivial, rfl⟩
  | c :: sh, z :: zs, h => ⟨⟨h.1.1, h.1.2, (rowOk_inB h.2).1⟩, by simp [rowV, (rowOk_inB h.2).2]⟩
  | [], _ :: _, h => h.elim
  | _ :: _, [], h => h.elim
theorem flatDM_snd {d : D} {v : V} {X : Value} {n nb : Nat} {ρ : Env} {m : Nat → Nat} (hv : v.ok n nb ρ) (hX : v.rel ρ m X) : Snd S L (flatDM d v) n ρ fun ρ' n' ls => (∀ x ∈ ls, Lin.sc n' x) ∧ inB d.bds (ls.map (·.den ρ')) ∧ X = d.val (ls.map (·.den ρ')) := by
  unfold flatDM
  split
  · rename_i e
    have hX : X = .bool (e.den ρ) := hX
    have key : Snd S L (bind (indM e) fun l => pure [l]) n ρ fun ρ' n' ls => (∀ x ∈ ls, Lin.sc n' x) ∧ inB D.bool.bds (ls.map (·.den ρ')) ∧ X = D.bool.val (ls.map (·.den ρ')) :=
      indM_snd.bind fun ρ1 n1 l hn ha ⟨g1, g2, g3⟩ => Snd.pure ⟨fun x hx => by simp at hx; subst hx; exact g1, ⟨g2.1, g2.2, trivial⟩, by rw [hX, g3]; rfl⟩
    cases e with
    | lit b =>
      refine Snd.pure ⟨fun x hx => by simp at hx; subst hx; exact Lin.sc_const _ _, ?_, ?_⟩
      · simp only [List.map_cons, List.map_nil, Lin.den_const, D.bds]; cases b <;> exact ⟨by decide, by decide, trivial⟩
      · rw [hX]; simp only [List.map_cons, List.map_nil, Lin.den_const]; cases b <;> rfl
    | _ => exact key
  · rename_i k lo hi k' x
    refine snd_guard fun hk => ?_
    have hk : k = k' := by simpa using hk
    subst hk
    have hv : x.ok n ρ := hv
    have hX : X = .int k (x.l.den ρ) := hX
    cases hf : fitI lo hi x with
    | true =>
      have := fitI_spec hf hv
      exact Snd.pure ⟨fun y hy => by simp at hy; subst hy; exact hv.1, ⟨this.1, this.2, trivial⟩, hX⟩
    | false =>
      refine chkM_snd fun hk => Snd.pure ?_
      simp only [List.map_cons, List.map_nil, chkD, Lin.den_const] at hk
      exact ⟨fun y hy => by simp at hy; subst hy; exact hv.1, ⟨hk.1, hk.2, trivial⟩, hX⟩
  · rename_i l s
    have hX : X = .agg (s.map (A.den ρ m)).toArray := hX
    refine (rowLinM_snd (nb := nb) (m := m) hv).mono fun ρ1 n1 ls hn ha ⟨g1, g2, g3⟩ => ?_
    have := rowOk_inB g2
    refine ⟨g1, this.1, ?_⟩
    rw [hX, ← g3]
    simp only [D.val, this.2]
  · rename_i l
    have hX : X = .string (bA (sOf (l.den ρ))) := hX
    have hv : l.sc n ∧ 0 ≤ l.den ρ ∧ l.den ρ ≤ HB := hv
    exact Snd.pure ⟨fun y hy => by simp at hy; subst hy; exact hv.1, ⟨hv.2.1, hv.2.2, trivial⟩, hX⟩
  · rename_i l x
    have hX : X = .string (bA (sOf (x.den ρ))) := hX
    cases hc : x.isC with
    | none => exact Snd.fail
    | some c =>
      refine snd_guard fun hd => Snd.pure ⟨fun y hy => by simp at hy, trivial, ?_⟩
      rw [hX, strk_den (n := n) hc (by simpa using hd)]; rfl
  · rename_i k n' lo hi l
    refine snd_guard fun hk => ?_
    have hk := Nat.eq_of_beq_eq_true hk
    have hX : X = .agg (l.map (A.den ρ m)).toArray := hX
    cases hf : flatA k lo hi l with
    | none => exact Snd.fail
    | some r =>
      obtain ⟨g1, g2, g3⟩ := flatA_spec (m := m) hf hv
      rw [hk] at g2
      refine Snd.pure ⟨flatA_sc hf hv, g2, ?_⟩
      rw [hX, g3]
      simp only [D.val]
      rw [List.take_of_length_le (by simp [g1, hk])]
  · exact Snd.fail
where
  flatA_sc {k : IntKind} {lo hi : Int} {n nb : Nat} {ρ : Env} : ∀ {l : List A} {r : List Lin}, flatA k lo hi l = some r → (∀ a ∈ l, A.ok n nb ρ a) → ∀ x ∈ r, Lin.sc n x
  | [], r, h, _ => by simp [flatA] at h; subst h; intro x hx; simp at hx
  | .int k' x :: s, r, h, hok => by
    simp only [flatA] at h
    cases hc : (decide (k = k') && fitI lo hi x) with
    | false => simp [hc] at h
    | true =>
      cases hr : flatA k lo hi s with
      | none => simp [hc, hr] at h
      | some r' =>
        simp only [hc, hr, cond_true, Option.some.injEq] at h
        subst h
        intro y hy
        rcases List.mem_cons.1 hy with hy | hy
        · rw [hy]
          have h0 : A.ok n nb ρ (.int k' x) := hok _ (List.mem_cons_self ..)
          have h0 : x.ok n ρ := h0
          exact h0.1
        · exact flatA_sc hr (fun a ha => hok a (List.mem_cons_of_mem _ ha)) y hy
  | .bool _ :: _, _, h, _ => by simp [flatA] at h
  | .ptr .. :: _, _, h, _ => by simp [flatA] at h
  | .pix .. :: _, _, h, _ => by simp [flatA] at h
  | .gptr .. :: _, _, h, _ => by simp [flatA] at h
  | .slc .. :: _, _, h, _ => by simp [flatA] at h
  | .con _ :: _, _, h, _ => by simp [flatA] at h
  | .str _ :: _, _, h, _ => by simp [flatA] at h
  | .rows .. :: _, _, h, _ => by simp [flatA] at h
  | .sl .. :: _, _, h, _ => by simp [flatA] at h
  | .ep .. :: _, _, h, _ => by simp [flatA] at h
theorem map_den_sc {n : Nat} {ρ ρ' : Env} {ls : List Lin} (h : ∀ x ∈ ls, Lin.sc n x) (ha : agree n ρ ρ') : ls.map (·.den ρ') = ls.map (·.den ρ) := List.map_congr_left fun x hx => Lin.den_agree ha (h x hx)
theorem BF.later {n nb : Nat} {ρ ρ' : Env} {m : Nat → Nat} {bl : List Blk} {bs os : List Nat} {g : Nat} (hb : BlOk n nb ρ bl) (ha : agree n ρ ρ') (h : BF w0 ρ' m bl bs os g) : BF w0 ρ m bl bs os g := by
  obtain ⟨⟨b, h1, h2, p, h3, h4, h6⟩, h5⟩ := h
  exact ⟨⟨b, h1, h2, p, h3, by rw [← kindC_agree (hb p (List.mem_of_getElem? h3)) ha]; exact h4, h6⟩, h5⟩
theorem flatBM_snd {bl : List Blk} {m : Nat → Nat} : ∀ {ds : List BD} {vs : List V} {xs : List Value} {n : Nat} {ρ : Env}, BlOk n bl.length ρ bl → Mem w0 ρ m bl w → (∀ v ∈ vs, V.ok n bl.length ρ v) → LRel ρ m vs xs →
    Snd S L (flatBM bl ds vs) n ρ fun ρ' n' ls => (∀ x ∈ ls, Lin.sc n' x) ∧ inB (bbds ds) (ls.map (·.den ρ')) ∧ ∀ F : Nat → Prop, (∀ g, BF w0 ρ m bl (vs.flatMap baseV) (vs.flatMap slcV) g → F g) → atL F (fun _ => False) w ds (ls.map (·.den ρ')) xs
  | [], [], [], n, ρ, _, _, _, _ => Snd.pure ⟨fun _ h => by simp at h, trivial, fun _ _ => trivial⟩
  | .d x :: r, v :: s, X :: xs, n, ρ, hb, hw, hv, hr => by
    unfold flatBM
    refine (flatDM_snd (hv v (by simp)) hr.1).bind fun ρ1 n1 a hn ha ⟨g1, g2, g3⟩ => ?_
    refine (flatBM_snd (ds := r) (vs := s) (xs := xs) (hb.ext ha hn (Nat.le_refl _)) (hw.rho hb ha) (fun u hu => (hv u (List.mem_cons_of_mem _ hu)).ext ha hn (Nat.le_refl _)) (LRel.later (fun u hu => hv u (List.mem_cons_of_mem _ hu)) ha hr.2)).bind fun ρ2 n2 b hn2 ha2 ⟨k1, k2, k3⟩ => Snd.pure ⟨fun y hy => ?_, ?_, fun F hF => ?_⟩
    · rcases List.mem_append.1 hy with hy | hy
      · exact (g1 y hy).mono hn2
      · exact k1 y hy
    · rw [List.map_append, map_den_sc g1 ha2]
      exact inB_append g2 k2
    · have hl : (a.map (·.den ρ1)).length = x.num := by rw [inB_len g2, D.bds_len]
      rw [List.map_append, map_den_sc g1 ha2]
      refine ⟨?_, ?_⟩
      · show X = x.val _
        rw [D.val_app x hl]; exact g3
      · show atL F _ w r (List.drop x.num _) xs
        rw [← hl, List.drop_left]
        exact k3 F fun g hg => hF g (by
          have := BF.later hb ha hg
          obtain ⟨⟨b', h1, h2, p, h4, h5, h6⟩, h3⟩ := this
          exact ⟨⟨b', by simp only [List.flatMap_cons, List.mem_append]; exact .inr h1, h2, p, h4, h5, fun h => by simp only [List.flatMap_cons, List.mem_append]; exact .inr (h6 h)⟩, h3⟩)
  | .rd sh :: r, v :: s, X :: xs, n, ρ, hb, hw, hv, hr => by
    unfold flatBM
    refine (rdM_snd hb hw (hv v (by simp)) hr.1).bind fun ρ1 n1 a hn ha ⟨g1, g2, g3⟩ => ?_
    refine (flatBM_snd (ds := r) (vs := s) (xs := xs) (hb.ext ha hn (Nat.le_refl _)) (hw.rho hb ha) (fun u hu => (hv u (List.mem_cons_of_mem _ hu)).ext ha hn (Nat.le_refl _)) (LRel.later (fun u hu => hv u (List.mem_cons_of_mem _ hu)) ha hr.2)).bind fun ρ2 n2 b hn2 ha2 ⟨k1, k2, k3⟩ => Snd.pure ⟨fun y hy => ?_, ?_, fun F hF => ?_⟩
    · rcases List.mem_cons.1 hy with rfl | hy
      · exact g1.mono hn2
      · exact k1 y hy
    · simp only [List.map_cons, Lin.den_agree ha2 g1]
      exact ⟨g2.1, g2.2, k2⟩
    · simp only [List.map_cons, Lin.den_agree ha2 g1]
      refine ⟨?_, ?_⟩
      · show SlAt F w sh (rOf _) X
        exact g3.mono fun g hg => hF g (by
          obtain ⟨⟨b', h1, h2, p, h4, h5, h6⟩, h3⟩ := hg
          exact ⟨⟨b', by simp only [List.flatMap_cons, List.mem_append]; exact .inl h1, h2, p, h4, h5, fun h => by simp only [List.flatMap_cons, List.mem_append]; exact .inl (h6 h)⟩, h3⟩)
      · exact k3 F fun g hg => hF g (by
          have := BF.later hb ha hg
          obtain ⟨⟨b', h1, h2, p, h4, h5, h6⟩, h3⟩ := this
          exact ⟨⟨b', by simp only [List.flatMap_cons, List.mem_append]; exact .inr h1, h2, p, h4, h5, fun h => by simp only [List.flatMap_cons, List.mem_append]; exact .inr (h6 h)⟩, h3⟩)
  | [], _ :: _, _, _, _, _, _, _, _ => Snd.fail
  | .d _ :: _, [], _, _, _, _, _, _, _ => Snd.fail
  | .rd _ :: _, [], _, _, _, _, _, _, _ => Snd.fail
  | .ow _ _ :: _, [], _, _, _, _, _, _, _ => Snd.fail
  | .ow _ _ :: _, _ :: _, _, _, _, _, _, _, _ => Snd.fail
  | _, [], _ :: _, _, _, _, _, _, hr => hr.elim
  | _, _ :: _, [], _, _, _, _, _, hr => hr.elim
where
  LRel.later {n nb : Nat} {ρ ρ' : Env} {m : Nat → Nat} : ∀ {vs : List V} {xs : List Value}, (∀ v ∈ vs, V.ok n nb ρ v) → agree n ρ ρ' → LRel ρ m vs xs → LRel ρ' m vs xs
  | [], [], _, _, _ => trivial
  | v :: vs, x :: xs, hv, ha, hr => ⟨V.rel.ext hr.1 (hv v (by simp)) ha (fun _ _ => rfl), LRel.later (fun u hu => hv u (List.mem_cons_of_mem _ hu)) ha hr.2⟩
  | [], _ :: _, _, _, hr => hr.elim
  | _ :: _, [], _, _, hr => hr.elim
end
end Go.Rx
