/- Rows that grow: soundness. -/
import Derived.Test.YtlecfjcooglpoaaDoorRx8
import Derived.Deep.AppendSrc
import Derived.Deep.Upon
set_option linter.unusedVariables false
set_option linter.unusedSimpArgs false
namespace Go.Rx
open M

theorem RowOk.row {sh : List CK} {row : List Int} (hs : shOk sh = true) (h : RowOk sh row) : rowOk row := by
  unfold shOk at hs
  simp only [Bool.and_eq_true] at hs
  obtain ⟨⟨h0, h00⟩, h2⟩ := hs
  refine ⟨by rw [h.len]; exact Nat.le_of_ble_eq_true h0, ?_⟩
  have hp := HB_pos
  clear h0 h00
  induction sh generalizing row with
  | nil =>
    cases row with
    | nil => intro z hz; simp at hz
    | cons _ _ => exact h.elim
  | cons c sh ih =>
    cases row with
    | nil => exact h.elim
    | cons x r =>
      simp only [List.all_cons, Bool.and_eq_true] at h2
      intro z hz
      rcases List.mem_cons.1 hz with rfl | hz
      · have h3 := h.1
        cases c with
        | int k lo hi =>
          have h4 := h2.1
          simp only [Bool.and_eq_true, decide_eq_true_eq] at h4
          simp only [CK.bd] at h3
          omega
        | str => simp only [CK.bd] at h3; omega
        | bool => simp only [CK.bd] at h3; omega
      · exact ih h.2 h2.2 z hz
theorem RB_rows {sh : List CK} {rows : List (List Int)} (hs : shOk sh = true) (hl : rows.length ≤ 1073741824) (h : ∀ row ∈ rows, RowOk sh row) : rc rows ≤ RB :=
  RB_c (by unfold maxLen; omega) fun row hr => (h row hr).row hs
theorem CK.val_one (c : CK) (z : Int) : (c.val z).oneCell' = true := by cases c <;> rfl
theorem rowV_one : ∀ {sh : List CK} {row : List Int}, ∀ u ∈ rowV sh row, u.oneCell' = true
  | [], _, u, h => by simp [rowV] at h
  | _ :: _, [], u, h => by simp [rowV] at h
  | c :: sh, z :: r, u, h => by
    simp only [rowV, List.mem_cons] at h
    rcases h with rfl | h
    · exact CK.val_one c z
    · exact rowV_one u h
theorem flatV_one {sh : List CK} {rows : List (List Int)} : ∀ u ∈ flatV sh rows, u.oneCell' = true := fun u h => by
  obtain ⟨row, _, h⟩ := List.mem_flatMap.1 h
  exact rowV_one u h
theorem RowsAt.flat {cells : Array Value} {off : Nat} {sh : List CK} {rows : List (List Int)} (h : RowsAt cells off sh rows) {j : Nat} {v : Value} (hj : (flatV sh rows)[j]? = some v) : cells[off + j]? = some v := by
  obtain ⟨h1, pre, post, h2, h3⟩ := h
  have hlt := (List.getElem?_eq_some_iff.1 hj).1
  rw [← Array.getElem?_toList, h2, List.append_assoc, List.getElem?_append_right (by omega), List.getElem?_append_left (by omega)]
  rw [show off + j - pre.length = j by omega]; exact hj
theorem RowsAt.sub {cells : Array Value} {off : Nat} {sh : List CK} {rows : List (List Int)} (h : RowsAt cells off sh rows) (a k : Nat) (ha : a ≤ rows.length) : RowsAt cells (off + a * sh.length) sh ((rows.drop a).take k) := by
  obtain ⟨h1, pre, post, h2, h3⟩ := h
  refine ⟨fun row hr => h1 row (List.mem_of_mem_drop (List.mem_of_mem_take hr)), pre ++ flatV sh (rows.take a), flatV sh ((rows.drop a).drop k) ++ post, ?_, ?_⟩
  · rw [h2]
    have : rows = rows.take a ++ ((rows.drop a).take k ++ (rows.drop a).drop k) := by rw [List.take_append_drop, List.take_append_drop]
    conv => lhs; rw [this]
    simp only [flatV_append, List.append_assoc]
  · rw [List.length_append, h3, flatV_len fun row hr => h1 row (List.mem_of_mem_take hr), List.length_take, Nat.min_eq_left ha]

section
variable {S : Nat → List Int → List Int → Prop} {L : V → Env → Prop} {n : Nat} {ρ : Env} {m : Nat → Nat} {bl : List Blk} {gl : Glo} {w0 : Base} {P : Program}

theorem indM_snd {e : BE} : Snd S L (indM e) n ρ fun ρ' n' l => l.sc n' ∧ (0 ≤ l.den ρ' ∧ l.den ρ' ≤ 1) ∧ e.den ρ = decide (l.den ρ' = 1) := by
  intro A k hk
  cases h : e.den ρ with
  | true => exact ⟨_, n + 1, _, Nat.le_succ _, agree.upd _ _ _, ⟨Lin.sc_var (Nat.lt_succ_self n), by simp [Lin.den_var, upd_same], by simp [Lin.den_var, upd_same]⟩, hk 1 (by decide) (by decide) (by simp [h])⟩
  | false => exact ⟨_, n + 1, _, Nat.le_succ _, agree.upd _ _ _, ⟨Lin.sc_var (Nat.lt_succ_self n), by simp [Lin.den_var, upd_same], by simp [Lin.den_var, upd_same]⟩, hk 0 (by decide) (by decide) (by simp [h])⟩
theorem cellLinM_snd {nb : Nat} {c : CK} {a : A} (ha : a.ok n nb ρ) : Snd S L (cellLinM c a) n ρ fun ρ' n' l => l.sc n' ∧ (c.bd.1 ≤ l.den ρ' ∧ l.den ρ' ≤ c.bd.2) ∧ c.val (l.den ρ') = a.den ρ m := by
  unfold cellLinM
  split
  · refine snd_guard fun hc => Snd.pure ?_
    simp only [Bool.and_eq_true, decide_eq_true_eq] at hc
    obtain ⟨⟨h1, h2⟩, h3⟩ := hc
    have h4 := ha.2
    refine ⟨ha.1, ⟨?_, ?_⟩, ?_⟩
    · simp only [CK.bd]; omega
    · simp only [CK.bd]; omega
    · simp only [CK.val, A.den, h1]
  · exact Snd.pure ⟨ha.1, ha.2, rfl⟩
  · split
    · rename_i v
      refine Snd.pure ⟨Lin.sc_const _ _, ?_, ?_⟩
      · simp only [CK.bd, Lin.den_const]; cases v <;> decide
      · simp only [CK.val, A.den, BE.den, Lin.den_const]; cases v <;> rfl
    · rename_i e _
      exact indM_snd.mono fun ρ' n' l _ _ ⟨h1, h2, h3⟩ => ⟨h1, h2, by simp only [CK.val, A.den, h3]⟩
  · exact Snd.fail
theorem rowLinM_snd {nb : Nat} : ∀ {sh : List CK} {l : List A} {n : Nat} {ρ : Env}, (∀ a ∈ l, A.ok n nb ρ a) → Snd S L (rowLinM sh l) n ρ fun ρ' n' ls => (∀ x ∈ ls, Lin.sc n' x) ∧ RowOk sh (ls.map (·.den ρ')) ∧ rowV sh (ls.map (·.den ρ')) = l.map (A.den ρ m)
  | [], [], n, ρ, _ => Snd.pure ⟨fun _ h => by simp at h, trivial, rfl⟩
  | c :: sh, a :: r, n, ρ, h => by
    have h0 := h a (by simp)
    refine (cellLinM_snd (m := m) h0).bind fun ρ1 n1 x hn ha ⟨g1, g2, g3⟩ => (rowLinM_snd (nb := nb) (sh := sh) (l := r) fun b hb => (h b (List.mem_cons_of_mem _ hb)).ext ha hn (Nat.le_refl _)).bind fun ρ2 n2 ls hn2 ha2 ⟨k1, k2, k3⟩ => Snd.pure ⟨fun y hy => ?_, ?_, ?_⟩
    · rcases List.mem_cons.1 hy with rfl | hy
      · exact g1.mono hn2
      · exact k1 y hy
    · simp only [List.map_cons]
      exact ⟨by rw [Lin.den_agree ha2 g1]; exact g2, k2⟩
    · simp only [List.map_cons, rowV, Lin.den_agree ha2 g1, g3, k3]
      rw [map_den_ext (fun b hb => h b (List.mem_cons_of_mem _ hb)) ha (fun _ _ => rfl)]
  | [], _ :: _, _, _, _ => Snd.fail
  | _ :: _, [], _, _, _ => Snd.fail
theorem chunkA_flat {w : Nat} : ∀ {k : Nat} {l : List A}, l.length = k * w → (chunkA w k l).length = k ∧ (chunkA w k l).flatten = l
  | 0, l, h => by
    have : l = [] := List.eq_nil_of_length_eq_zero (by omega)
    subst this; exact ⟨rfl, rfl⟩
  | k + 1, l, h => by
    rw [Nat.succ_mul] at h
    have ih := chunkA_flat (w := w) (k := k) (l := l.drop w) (by simp; omega)
    exact ⟨by simp [chunkA, ih.1], by simp [chunkA, ih.2]⟩
theorem chunkA_mem {w : Nat} : ∀ {k : Nat} {l : List A}, ∀ row ∈ chunkA w k l, ∀ a ∈ row, a ∈ l
  | 0, l, row, h, a, ha => by simp [chunkA] at h
  | k + 1, l, row, h, a, ha => by
    simp only [chunkA, List.mem_cons] at h
    rcases h with rfl | h
    · exact List.mem_of_mem_take ha
    · exact List.mem_of_mem_drop (chunkA_mem row h a ha)
theorem appRowsM_snd {nb : Nat} {sh : List CK} (hsh : shOk sh = true) : ∀ {rs : List (List A)} {n : Nat} {ρ : Env} {c : Lin}, (∀ row ∈ rs, ∀ a ∈ row, A.ok n nb ρ a) → c.sc n → (0 ≤ c.den ρ ∧ c.den ρ ≤ RB) → (∀ row ∈ rOf (c.den ρ), RowOk sh row) → (rOf (c.den ρ)).length + rs.length ≤ 1073741824 →
    Snd S L (appRowsM sh rs c) n ρ fun ρ' n' c' => c'.sc n' ∧ (0 ≤ c'.den ρ' ∧ c'.den ρ' ≤ RB) ∧ ∃ rows', rOf (c'.den ρ') = rOf (c.den ρ) ++ rows' ∧ rows'.length = rs.length ∧ (∀ row ∈ rows', RowOk sh row) ∧ flatV sh rows' = rs.flatten.map (A.den ρ m)
  | [], n, ρ, c, _, h1, h2, _, _ => Snd.pure ⟨h1, h2, [], by simp, rfl, fun _ h => by simp at h, rfl⟩
  | row :: rs, n, ρ, c, h0, h1, h2, h3, h4 => by
    refine (rowLinM_snd (nb := nb) (m := m) (sh := sh) (l := row) (h0 row (by simp))).bind fun ρ1 n1 ls hn ha ⟨g1, g2, g3⟩ => ?_
    have e1 : c.den ρ1 = c.den ρ := Lin.den_agree ha h1
    have hf : fnD 23 ((c :: ls).map (·.den ρ1)) = rc (rOf (c.den ρ) ++ [ls.map (·.den ρ1)]) := by
      simp only [List.map_cons, fnD, e1]
    simp only [List.length_cons] at h4
    have hrows : ∀ r ∈ rOf (c.den ρ) ++ [ls.map (·.den ρ1)], RowOk sh r := fun r hr => by
      rcases List.mem_append.1 hr with hr | hr
      · exact h3 r hr
      · simp at hr; subst hr; exact g2
    have hb : rc (rOf (c.den ρ) ++ [ls.map (·.den ρ1)]) ≤ RB := RB_rows hsh (by simp; omega) hrows
    refine (fnM_snd (by rw [hf]; exact rc_nonneg _) (by rw [hf]; exact hb)).bind fun ρ2 n2 c' hn2 ha2 ⟨k1, k2⟩ => ?_
    rw [hf] at k2
    have e2 : rOf (c'.den ρ2) = rOf (c.den ρ) ++ [ls.map (·.den ρ1)] := by rw [k2, rOf_rc]
    have hA := ha.trans ha2 hn
    refine (appRowsM_snd (nb := nb) (rs := rs) (c := c') hsh (fun r hr a har => (h0 r (List.mem_cons_of_mem _ hr) a har).ext hA (Nat.le_trans hn hn2) (Nat.le_refl _)) k1 (by rw [k2]; exact ⟨rc_nonneg _, hb⟩) (by rw [e2]; exact hrows) (by rw [e2]; simp; omega)).mono fun ρ3 n3 c3 hn3 ha3 ⟨p1, p2, rows', p3, p4, p5, p6⟩ => ⟨p1, p2, ls.map (·.den ρ1) :: rows', ?_, by simp [p4], fun r hr => ?_, ?_⟩
    · rw [p3, e2]; simp
    · rcases List.mem_cons.1 hr with rfl | hr
      · exact g2
      · exact p5 r hr
    · show rowV sh (ls.map (·.den ρ1)) ++ flatV sh rows' = _
      rw [p6, g3, List.flatten_cons, List.map_append]
      congr 1
      refine List.map_congr_left fun a haf => A.den_ext (n := n) (nb := nb) ?_ hA (fun _ _ => rfl)
      obtain ⟨r, hr, har⟩ := List.mem_flatten.1 haf
      exact h0 r (List.mem_cons_of_mem _ hr) a har

/-- What is appended. -/
def SrcR (P : Program) (tx : TypeId) (sh : List CK) (X : Value) (w : World) (old : List (List Int)) (ρ' : Env) (n' : Nat) (p : Lin × Lin) : Prop :=
  p.1.sc n' ∧ p.2.sc n' ∧ (0 ≤ p.1.den ρ' ∧ p.1.den ρ' ≤ RB) ∧ ∃ rows', rOf (p.1.den ρ') = old ++ rows' ∧ p.2.den ρ' = rows'.length ∧ (∀ row ∈ rows', RowOk sh row) ∧ old.length + rows'.length ≤ 1073741824 ∧ Src P sh.length tx X rows'.length (flatV sh rows') w
theorem srcM_snd {sh : List CK} (hsh : shOk sh = true) {w : World} (hb : BlOk n bl.length ρ bl) (hw : Mem w0 ρ m bl w) {tx : TypeId} {x : V} {X : Value} (hx : x.ok n bl.length ρ) (hX : x.rel ρ m X) {base : Lin} (hbs : base.sc n)
    (hbb : 0 ≤ base.den ρ ∧ base.den ρ ≤ RB) (hbr : ∀ row ∈ rOf (base.den ρ), RowOk sh row) : Snd S L (srcM P tx sh bl x base) n ρ (SrcR P tx sh X w (rOf (base.den ρ))) := by
  unfold srcM
  split
  · rename_i b off len cap
    split
    · rename_i cs e' hcs htx
      obtain ⟨c1, c2, c3⟩ := headC_spec hw hb hcs
      refine chkM_snd fun hk => ?_
      simp only [List.map_cons, List.map_nil, chkD, Lin.den_const] at hk
      have hch := chunkA_flat (w := sh.length) (k := len) c1
      refine (appRowsM_snd (nb := bl.length) (m := m) hsh (rs := chunkA sh.length len cs) (c := base) (fun row hr a ha => c2 a (chunkA_mem row hr a ha)) hbs hbb hbr (by rw [hch.1]; omega)).bind fun ρ1 n1 c' hn ha ⟨p1, p2, rows', p3, p4, p5, p6⟩ => Snd.pure ⟨p1, Lin.sc_const _ _, p2, rows', p3, ?_, p5, by rw [p4, hch.1]; omega, ?_⟩
      · rw [Lin.den_const, p4, hch.1]
      · have hX : X = .slice (some ⟨m b, off, none⟩) len cap := hX
        rw [hch.2] at p6
        rw [hX, p6, p4, hch.1]
        exact Src.ofSlice w (slcOf_spec htx) _ _ _ _ (by simpa using c1) c3 (fun u hu => by
          obtain ⟨a, ha, rfl⟩ := List.mem_map.1 hu
          exact A.oneCell (c2 a ha))
    · exact Snd.fail
  · rename_i b sz o ro len cap
    split
    · rename_i sh' off code capb kind bt e' hbl htx
      refine snd_guard fun hc => chkM_snd fun hk1 => chkM_snd fun hk2 => ?_
      simp only [Bool.and_eq_true] at hc
      obtain ⟨⟨⟨c1, c2⟩, c3⟩, c4⟩ := hc
      have c1 : 0 < kind := Nat.le_of_ble_eq_true c1
      have c2 := shBeq_eq c2
      have c3 := Lin.beq_eq c3
      have c4 := Nat.eq_of_beq_eq_true c4
      subst c2; subst c3; subst c4
      simp only [List.map_cons, List.map_nil, chkD, Lin.den_add] at hk1 hk2
      have hxo : (A.sl b sh.length o ro len cap).ok n bl.length ρ := hx
      obtain ⟨ptr, e1, e2, e3⟩ := sl_den (m := m) hxo
      have hX : X = (A.sl b sh.length o ro len cap).den ρ m := hX
      rw [e1] at hX
      obtain ⟨x1, ⟨x2, x3, x4, x5⟩, ⟨x6, x7, x8, x9⟩, ⟨x10, x13⟩, x11, x12⟩ := hxo
      have hrr := hw.rws b sh o code capb kind bt hbl (by omega)
      have hrk : ∀ row ∈ rOf (code.den ρ), RowOk sh row := fun row hr => by
        rcases Int.lt_or_le (capb.den ρ) 0 with h | h
        · rw [hrr.1 h] at hr; simp at hr
        · obtain ⟨_, cells, tq, fz, _, ⟨_, g3⟩, _⟩ := hrr.2 h
          exact g3.1 row hr
      have hsub : ∀ row ∈ (((rOf (code.den ρ)).drop (ro.den ρ).toNat).take (len.den ρ).toNat), RowOk sh row := fun row hr => hrk row (List.mem_of_mem_drop (List.mem_of_mem_take hr))
      have hlen : (((rOf (code.den ρ)).drop (ro.den ρ).toNat).take (len.den ρ).toNat).length = (len.den ρ).toNat := by simp; omega
      have hf1 : fnD 22 ([code, ro, ro.add len].map (·.den ρ)) = rc (((rOf (code.den ρ)).drop (ro.den ρ).toNat).take (len.den ρ).toNat) := by
        simp only [List.map_cons, List.map_nil, fnD, Lin.den_add]
        have : (ro.den ρ + len.den ρ).toNat - (ro.den ρ).toNat = (len.den ρ).toNat := by omega
        rw [this]
      have hSrc : Src P sh.length tx X (((rOf (code.den ρ)).drop (ro.den ρ).toNat).take (len.den ρ).toNat).length (flatV sh (((rOf (code.den ρ)).drop (ro.den ρ).toNat).take (len.den ρ).toNat)) w := by
        rw [hX]
        by_cases hcap : cap.den ρ < 0
        · have h0 := x11 hcap
          rw [e2 hcap, if_pos hcap, h0]
          simp only [Int.toNat_zero, List.take_zero]
          exact Src.ofNil w (slcOf_spec htx) 0
        · rw [e3 (by omega), if_neg hcap, hlen]
          refine Src.ofSlice w (slcOf_spec htx) _ _ _ _ (by rw [flatV_len hsub, hlen]) (fun j u hu => ?_) flatV_one
          rw [addr_add]
          rcases Int.lt_or_le (capb.den ρ) 0 with h | h
          · rw [hrr.1 h] at hu; simp [flatV] at hu
          · obtain ⟨_, cells, tq, fz, g1, ⟨_, g3⟩, _⟩ := hrr.2 h
            have := (g3.sub (ro.den ρ).toNat (len.den ρ).toNat (by omega)).flat hu
            simp only [World.cell?, g1, Option.isSome_none, Bool.false_eq_true, if_false]
            exact this
      generalize hmid : (((rOf (code.den ρ)).drop (ro.den ρ).toNat).take (len.den ρ).toNat) = mid at hsub hlen hf1 hSrc
      have hb1 : rc mid ≤ RB := RB_rows hsh (by omega) hsub
      refine (fnM_snd (by rw [hf1]; exact rc_nonneg _) (by rw [hf1]; exact hb1)).bind fun ρ1 n1 s hn1 ha1 ⟨g1, g2⟩ => ?_
      rw [hf1] at g2
      have eb : base.den ρ1 = base.den ρ := Lin.den_agree ha1 hbs
      have hf2 : fnD 24 ([base, s].map (·.den ρ1)) = rc (rOf (base.den ρ) ++ mid) := by
        simp only [List.map_cons, List.map_nil, fnD, eb, g2, rOf_rc]
      have hall : ∀ row ∈ rOf (base.den ρ) ++ mid, RowOk sh row := fun row hr => (List.mem_append.1 hr).elim (hbr row) (hsub row)
      have hb2 : rc (rOf (base.den ρ) ++ mid) ≤ RB := RB_rows hsh (by simp; omega) hall
      refine (fnM_snd (by rw [hf2]; exact rc_nonneg _) (by rw [hf2]; exact hb2)).bind fun ρ2 n2 c hn2 ha2 ⟨k1, k2⟩ => Snd.pure ⟨k1, x4.mono (Nat.le_trans hn1 hn2), ?_, mid, ?_, ?_, hsub, by omega, hSrc⟩
      · rw [k2, hf2]; exact ⟨rc_nonneg _, hb2⟩
      · rw [k2, hf2, rOf_rc]
      · rw [Lin.den_agree (ha1.trans ha2 hn1) x4, hlen]; omega
    · exact Snd.fail
  · rename_i l
    split
    · rename_i hu
      refine snd_guard fun hbs1 => ?_
      have hshape : ∃ lo hi, sh = [.int .u8 lo hi] ∧ lo = 0 ∧ hi = 255 := by
        unfold byteSh at hbs1
        split at hbs1
        · simp only [Bool.and_eq_true, decide_eq_true_eq] at hbs1
          exact ⟨_, _, rfl, hbs1.1, hbs1.2⟩
        · cases hbs1
      obtain ⟨lo, hi, rfl, rfl, rfl⟩ := hshape
      have hl : (A.str l).ok n bl.length ρ := hx
      have hX : X = .string (bA (sOf (l.den ρ))) := hX
      have hlm := HB_s hl.2.2
      unfold mxL at hlm
      refine (fnM_snd (op := 0) (args := [l]) (Int.natCast_nonneg _) (by show ((sOf (l.den ρ)).length : Int) ≤ _; omega)).bind fun ρ1 n1 len hn1 ha1 ⟨g1, g2⟩ => chkM_snd fun hk => ?_
      have g2 : len.den ρ1 = (sOf (l.den ρ)).length := g2
      have eb : base.den ρ1 = base.den ρ := Lin.den_agree ha1 hbs
      have el : l.den ρ1 = l.den ρ := Lin.den_agree ha1 hl.1
      simp only [List.map_cons, List.map_nil, chkD, eb, g2] at hk
      have hf1 : fnD 27 ([l].map (·.den ρ1)) = rc ((sOf (l.den ρ)).map fun b => [(b.toNat : Int)]) := by
        simp only [List.map_cons, List.map_nil, fnD, el]
      have hmid : ∀ row ∈ ((sOf (l.den ρ)).map fun b => [(b.toNat : Int)]), RowOk [.int .u8 0 255] row := fun row hr => by
        obtain ⟨b, _, rfl⟩ := List.mem_map.1 hr
        have := b.toNat_lt
        refine ⟨⟨?_, ?_⟩, trivial⟩
        · simp only [CK.bd]; omega
        · simp only [CK.bd]; omega
      have hml : ((sOf (l.den ρ)).map fun b => [(b.toNat : Int)]).length = (sOf (l.den ρ)).length := by simp
      have hfl : flatV [.int .u8 0 255] ((sOf (l.den ρ)).map fun b => [(b.toNat : Int)]) = byteCells (bA (sOf (l.den ρ))) := by
        unfold byteCells flatV bA
        simp only [List.flatMap_map]
        generalize sOf (l.den ρ) = q
        induction q with
        | nil => rfl
        | cons y r ih => rw [List.flatMap_cons, List.map_cons, ih]; rfl
      have hSrc := Src.ofString (P := P) w hu (bA (sOf (l.den ρ)))
      rw [← hfl, bA_size, ← hX] at hSrc
      generalize hmm : ((sOf (l.den ρ)).map fun b => [(b.toNat : Int)]) = mid at hmid hml hf1 hSrc
      have hb1 : rc mid ≤ RB := RB_rows hsh (by omega) hmid
      refine (fnM_snd (by rw [hf1]; exact rc_nonneg _) (by rw [hf1]; exact hb1)).bind fun ρ2 n2 s hn2 ha2 ⟨h1, h2⟩ => ?_
      rw [hf1] at h2
      have eb2 : base.den ρ2 = base.den ρ := (Lin.den_agree ha2 (hbs.mono hn1)).trans eb
      have hf2 : fnD 24 ([base, s].map (·.den ρ2)) = rc (rOf (base.den ρ) ++ mid) := by
        simp only [List.map_cons, List.map_nil, fnD, eb2, h2, rOf_rc]
      have hall : ∀ row ∈ rOf (base.den ρ) ++ mid, RowOk [.int .u8 0 255] row := fun row hr => (List.mem_append.1 hr).elim (hbr row) (hmid row)
      have hb2 : rc (rOf (base.den ρ) ++ mid) ≤ RB := RB_rows hsh (by simp; omega) hall
      refine (fnM_snd (by rw [hf2]; exact rc_nonneg _) (by rw [hf2]; exact hb2)).bind fun ρ3 n3 c hn3 ha3 ⟨k1, k2⟩ => Snd.pure ⟨k1, g1.mono (Nat.le_trans hn2 hn3), ?_, mid, ?_, ?_, hmid, by omega, ?_⟩
      · rw [k2, hf2]; exact ⟨rc_nonneg _, hb2⟩
      · rw [k2, hf2, rOf_rc]
      · rw [Lin.den_agree (ha2.trans ha3 hn2) g1, g2, hml]
      · rw [hml]; exact hSrc
    · exact Snd.fail
  · split
    · rename_i e' htx
      refine chkM_snd fun hk => Snd.pure ⟨hbs, Lin.sc_const _ _, hbb, [], by simp, by simp [Lin.den_const], fun _ h => by simp at h, ?_, ?_⟩
      · simp only [List.map_cons, List.map_nil, chkD, Lin.den_const] at hk
        simp only [List.length_nil]; omega
      · have hX : X = .slice none 0 0 := hX
        rw [hX]
        exact Src.ofNil w (slcOf_spec htx) 0
    · exact Snd.fail
  · exact Snd.fail

theorem toNat_add {x : Int} {k : Nat} (h : 0 ≤ x) : (x + (k : Int)).toNat = x.toNat + k := by omega
theorem run_append_room_row (w : World) (t tx ty e : TypeId) (i : TypeInfo) (ht : P.underlying t = some (.slice e)) (hi : P.info? e = some i) (g sLen sCap : Nat) (cur : Array Value) (et : TypeId) (hg : w.heap[g]? = some (.cells cur et (0, 0))) (x : Value) (k : Nat) (news : List Value) (hs : Src P i.size tx x k news w)
    (hroom : sLen + k ≤ sCap) (hfit : sLen * i.size + news.length ≤ cur.size) :
    (Builtin.append_ #[t, tx] ty #[.slice (some ⟨g, 0, none⟩) sLen sCap, x]).run P w = .ok (.slice (some ⟨g, 0, none⟩) (sLen + k) sCap) (w.setRow g (cur.toList.take (sLen * i.size) ++ news ++ cur.toList.drop (sLen * i.size + news.length)).toArray) := by
  have hst := run_storeCells_at P g (sLen * i.size) et news 0 cur w hg (by simpa using hfit) hs.one
  simp only [Nat.add_zero] at hst
  rcases hs.kind with ⟨e', hk⟩ | hk <;> simp [Builtin.append_, run_underlying ht, run_underlying hk, sizeOf, typeInfo, hi, hs.len, hroom, hs.cells, Addr.add_lit, hst]
theorem zeroCells_size (Z : Array Value) (k : Nat) : (Builtin.zeroCells Z k).size = k * Z.size := by simp [Builtin.zeroCells]
theorem grown_le (w : World) (need old : Nat) (e : TypeId) (h : need ≤ 1073741824) : need ≤ grownCap w need old e ∧ grownCap w need old e ≤ 9223372036854775807 := by
  have hlt := Nat.mod_lt (w.tape w.drawn (.appendCap need old e)) (show 0 < 2 ^ 63 - need by omega)
  simp only [grownCap, Question.cut]
  omega
/-- A slice of one's own, told anew. -/
theorem pushK_wp {kd : Nat} {tm : List V} {a : Act} {w : World} {G : Again} {K : Act → World → Prop} {k : SK} {e : TypeId} {d : Option Tmp} {sh : List CK} {code len : Lin} {c : Int} {g : Nat}
    (hkd : 2 ≤ kd) (h : R w0 n ρ m tm bl a w) (hcs : code.sc n) (hls : len.sc n) (hc1 : 0 ≤ code.den ρ ∧ code.den ρ ≤ RB) (hc : -1 ≤ c ∧ c ≤ 9223372036854775807) (hsl : slOk 0 0 (len.den ρ) c)
    (hnil : c < 0 → rOf (code.den ρ) = [])
    (hlive : 0 ≤ c → ∃ (cells : Array Value) (fz : Nat × Nat), (w.heap[g]? = some (.cells cells e fz) ∧ FzOk kd fz cells.size) ∧ RowsAt cells 0 sh (rOf (code.den ρ)) ∧ cells.size = c.toNat * sh.length ∧ w0.b.heap.size ≤ g ∧ (w0.ex g ∨ w0.r.heap.size ≤ g))
    (hinj : ∀ (i : Nat) (p : Blk), bl[i]? = some p → m i = g → kindC ρ p.1 = 0 ∨ c < 0)
    (hh : (growK kd e d sh code len n tm bl k).holds S L G ρ) (hk : SKok S L w0 k n bl.length ρ m G K) :
    K (a.put d (if c < 0 then .slice none 0 0 else .slice (some ⟨g, 0, none⟩) (len.den ρ).toNat c.toNat)) w := by
  unfold growK at hh
  have hh := hh c (by omega) (by omega)
  have ha : agree n ρ (upd ρ n c) := agree.upd _ _ _
  have hb1 : BlOk (n + 1) bl.length (upd ρ n c) bl := h.b.ext ha (Nat.le_succ _) (Nat.le_refl _)
  have hm1 : Mem w0 (upd ρ n c) m bl w := h.mm.rho h.b ha
  have e1 : code.den (upd ρ n c) = code.den ρ := Lin.den_agree ha hcs
  have e2 : len.den (upd ρ n c) = len.den ρ := Lin.den_agree ha hls
  have e3 : (Lin.var n).den (upd ρ n c) = c := by simp [Lin.den_var, upd_same]
  have hA : (A.rows sh (.const 0) code (.var n) kd).ok (n + 1) bl.length (upd ρ n c) := ⟨⟨Lin.sc_const _ _, hcs.mono (Nat.le_succ _), Lin.sc_var (Nat.lt_succ_self n)⟩, by rw [e1]; exact hc1, by rw [e3]; omega⟩
  have hM := hm1.push (x := ([.rows sh (.const 0) code (.var n) kd], (e, false))) (g := g) hb1 (fun y hy => by simp at hy; subst hy; exact hA) (fun ho => by cases ho) (fun sh' off' code' cap' kind' he => by
      cases he
      intro _
      refine ⟨fun h => by rw [e3] at h; rw [e1]; exact hnil h, fun h => ?_⟩
      rw [e3] at h
      obtain ⟨cells, fz, ⟨g1, g1'⟩, g2, g3, g4, g5⟩ := hlive h
      exact ⟨g5.elim .inl fun h => .inr (.inr h), cells, e, fz, g1, ⟨by rw [Lin.den_const]; exact Int.le_refl _, by rw [e1, Lin.den_const]; exact g2⟩, fun _ => ⟨rfl, Lin.den_const _ _, g1', by rw [e3]; exact g3, g4, g5⟩⟩) (fun i p hi he => by
      rcases hinj i p hi he with h9 | h9
      · exact .inr (.inl (by rw [kindC_agree (h.b _ (List.mem_of_getElem? hi)) ha]; exact h9))
      · refine .inr (.inr ?_)
        simp only [kindC, e3]
        rw [if_pos h9])
  have hL : Later n bl.length ρ m (n + 1) (bl ++ [([A.rows sh (.const 0) code (.var n) kd], (e, false))]).length (upd ρ n c) (updM m bl.length g) := ⟨Nat.le_succ _, ha, by simp, fun b hb => updM_lt hb⟩
  refine hk _ _ _ _ _ G _ _ hL (AgA.refl _ _) ⟨TRel.put (h.t.ext hL.ha hL.hn hL.hb hL.hm) d ?_ ?_, by rw [put_defers]; exact h.d, hb1.alloc (fun y hy => by simp at hy; subst hy; exact hA), hM⟩ hh
  · refine ⟨by simp, ⟨Lin.sc_const _ _, Lin.sc_const _ _, hls.mono (Nat.le_succ _), Lin.sc_var (Nat.lt_succ_self n)⟩, ?_⟩
    rw [Lin.den_const, e2, e3]
    exact hsl
  · simp only [V.rel, W.den, A.den, e2, e3, Lin.den_const, updM_same]
    split <;> simp
/-- The same where nothing is marked. -/
theorem pushR_wp {tm : List V} {a : Act} {w : World} {G : Again} {K : Act → World → Prop} {k : SK} {e : TypeId} {d : Option Tmp} {sh : List CK} {code len : Lin} {c : Int} {g : Nat}
    (h : R w0 n ρ m tm bl a w) (hcs : code.sc n) (hls : len.sc n) (hc1 : 0 ≤ code.den ρ ∧ code.den ρ ≤ RB) (hc : -1 ≤ c ∧ c ≤ 9223372036854775807) (hsl : slOk 0 0 (len.den ρ) c)
    (hnil : c < 0 → rOf (code.den ρ) = [])
    (hlive : 0 ≤ c → ∃ cells : Array Value, w.heap[g]? = some (.cells cells e (0, 0)) ∧ RowsAt cells 0 sh (rOf (code.den ρ)) ∧ cells.size = c.toNat * sh.length ∧ w0.b.heap.size ≤ g ∧ (w0.ex g ∨ w0.r.heap.size ≤ g))
    (hinj : ∀ (i : Nat) (p : Blk), bl[i]? = some p → m i = g → kindC ρ p.1 = 0 ∨ c < 0)
    (hh : (growR e d sh code len n tm bl k).holds S L G ρ) (hk : SKok S L w0 k n bl.length ρ m G K) :
    K (a.put d (if c < 0 then .slice none 0 0 else .slice (some ⟨g, 0, none⟩) (len.den ρ).toNat c.toNat)) w :=
  pushK_wp (kd := 2) (Nat.le_refl 2) h hcs hls hc1 hc hsl hnil (fun h0 => by
    obtain ⟨cells, g1, g2⟩ := hlive h0
    exact ⟨cells, (0, 0), ⟨g1, .mk2⟩, g2⟩) hinj hh hk
/-- A new row that has grown. -/
theorem growR_wp {tm : List V} {a : Act} {w : World} {G : Again} {K : Act → World → Prop} {k : SK} {e : TypeId} {d : Option Tmp} {sh : List CK} {code len : Lin} {rows : List (List Int)} {c : Nat} {cells : Array Value}
    (h : R w0 n ρ m tm bl a w) (hcs : code.sc n) (hls : len.sc n) (hc1 : 0 ≤ code.den ρ ∧ code.den ρ ≤ RB) (hrows : rOf (code.den ρ) = rows) (hok : ∀ row ∈ rows, RowOk sh row) (hlen : len.den ρ = rows.length)
    (hcap : rows.length ≤ c) (hcap2 : c ≤ 9223372036854775807) (hcells : cells.size = c * sh.length) (hflat : ∃ post, cells.toList = flatV sh rows ++ post)
    (hh : (growR e d sh code len n tm bl k).holds S L G ρ) (hk : SKok S L w0 k n bl.length ρ m G K) :
    K (a.put d (.slice (some ⟨w.heap.size, 0, none⟩) rows.length c)) (w.drew.alloc (.cells cells e)) := by
  have hdrew : R w0 n ρ m tm bl a w.drew := ⟨h.t, h.d, h.b, h.mm.grow (World.Extends.drew (World.Extends.refl w))⟩
  have hR : R w0 n ρ m tm bl a (w.drew.alloc (.cells cells e)) := ⟨h.t, h.d, h.b, hdrew.mm.grow ((World.Extends.refl w.drew).alloc _)⟩
  have key := pushR_wp (c := (c : Int)) (g := w.heap.size) hR hcs hls hc1 ⟨by omega, by omega⟩ (by rw [hlen]; exact ⟨⟨by omega, by omega, by omega, by omega⟩, ⟨by omega, by omega⟩, fun h => by omega, fun _ => by omega⟩) (fun h => by omega)
    (fun _ => ⟨cells, heap_alloc_new w.drew _, by
      obtain ⟨post, hp⟩ := hflat
      rw [hrows]
      exact ⟨hok, [], post, by simpa using hp, rfl⟩, by simpa using hcells, h.mm.ext.size, .inr h.mm.hsize⟩) (fun i p hi he => by
      by_cases hk0 : kindC ρ p.1 = 0
      · exact .inl hk0
      · have := hdrew.mm.lt hi hk0
        have h9 : w.drew.heap.size = w.heap.size := rfl
        omega) hh hk
  rw [if_neg (by omega), hlen] at key
  simpa using key
theorem zcap_spec {nb : Nat} {v : V} {X : Value} (h : zcap v = true) (hv : v.ok n nb ρ) (hr : v.rel ρ m X) : ∃ base, X = .slice base 0 0 := by
  unfold zcap at h
  split at h
  · rename_i b sz o ro len cap
    split at h
    · rename_i l c hl hc
      simp only [Bool.and_eq_true, decide_eq_true_eq] at h
      have e1 := Lin.den_isC hl (ρ := ρ)
      have e2 := Lin.den_isC hc (ρ := ρ)
      have hr : X = (A.sl b sz o ro len cap).den ρ m := hr
      simp only [A.den, e1, e2, h.1, h.2] at hr
      exact ⟨_, hr⟩
    · cases h
  · rename_i b off len cap
    simp only [Bool.and_eq_true] at h
    have e1 := Nat.eq_of_beq_eq_true h.1
    have e2 := Nat.eq_of_beq_eq_true h.2
    subst e1; subst e2
    exact ⟨_, hr⟩
  · exact ⟨none, hr⟩
  · cases h
theorem firstCells_zero (w : World) (size : Nat) (base : Option Addr) (c : Nat) : (Builtin.firstCells size 0 (.slice base 0 c)).run P w = .ok #[] w := by
  cases base with
  | none => exact run_firstCells_none w size 0 0 c
  | some b => exact run_firstCells_some w size 0 b 0 c [] (by simp) (fun j v h => by simp at h)
theorem R.later {n' : Nat} {ρ' : Env} {tm : List V} {a : Act} {w : World} (h : R w0 n ρ m tm bl a w) (hn : n ≤ n') (ha : agree n ρ ρ') : R w0 n' ρ' m tm bl a w :=
  ⟨h.t.ext ha hn (Nat.le_refl _) (fun _ _ => rfl), h.d, h.b.ext ha hn (Nat.le_refl _), h.mm.rho h.b ha⟩
theorem rOf_zero : rOf 0 = [] := rOf_rc []
theorem setB_setB (bl : List Blk) (b : Nat) (x y : Blk) : setB (setB bl b x) b y = setB bl b y := by rw [setB_eq, setB_eq, setB_eq]; simp
theorem R.kill {tm : List V} {a : Act} {w : World} {b k : Nat} {sh : List CK} {off code cap : Lin} {t : TypeId × Bool} (h : R w0 n ρ m tm bl a w) (hbl : bl[b]? = some ([.rows sh off code cap k], t)) : R w0 n ρ m tm (setB bl b ([.rows sh off code cap 0], t)) a w :=
  ⟨by rw [setB_length]; exact h.t, h.d, h.b.set (fun y hy => by
    simp at hy; subst hy
    exact h.b _ (List.mem_of_getElem? hbl) (.rows sh off code cap k) (by simp)), h.mm.kill hbl⟩
theorem appR_wp {tm : List V} {a : Act} {w : World} {G : Again} {o : Oper} {K : Act → World → Prop} {Q : Exit → Act → World → Prop} {k : SK} {c : Call} {s x : Operand} {t t' : TypeId} {T0 : T}
    (h : R w0 n ρ m tm bl a w) (hop : o.op = .call c) (hcl : c.callee = .builtin .append) (hxs : c.args.toList = [s, x]) (hts : c.argTypes.toList = [t, t'])
    (hT : appR P o.dst t t' (opV tm s) (opV tm x) n tm bl k = some T0) (hh : T0.holds S L G ρ) (hk : SKok S L w0 k n bl.length ρ m G K) : o.wp P a w K Q := by
  have a1 : c.args = #[s, x] := by rw [← Array.toArray_toList (xs := c.args), hxs]
  have a2 : c.argTypes = #[t, t'] := by rw [← Array.toArray_toList (xs := c.argTypes), hts]
  have hex : execOp a.eval o = (do pure (Next.value (← Builtin.append_ #[t, t'] o.type #[a.eval s, a.eval x]))) := by
    simp [execOp, hop, resolve, hcl, a1, a2, invoke, builtin]
  have hwp : ∀ v w', (Builtin.append_ #[t, t'] o.type #[a.eval s, a.eval x]).run P w = .ok v w' → K (a.put o.dst v) w' → o.wp P a w K Q := fun v w' h1 h2 => by
    unfold Oper.wp
    simp only [hex, Sem.run_bind, h1, Result.andThen_ok, Sem.run_pure]
    exact h2
  have hs := opV_spec h.t s
  have hx := opV_spec h.t x
  unfold appR at hT
  split at hT
  · cases hT
  rename_i e hse
  split at hT
  rotate_left
  · cases hT
  rename_i i z hi hz
  obtain ⟨inf, zv, hi', hzz, hcz⟩ := zeroL_spec hz
  rw [hi] at hi'
  simp only [Option.some.injEq] at hi'
  subst hi'
  have hzl : zv.cells.size = z.length := by
    have := (constL_spec hcz n bl.length ρ m).2
    have := congrArg List.length this
    simpa using this.symm
  split at hT
  · -- nothing there
    rename_i hzc
    obtain ⟨base, hsr⟩ := zcap_spec hzc hs.1 hs.2
    split at hT
    rotate_left
    · cases hT
    rename_i sh _
    cases hgd : goodR sh i z with
    | false => simp [hgd] at hT
    | true =>
    simp only [hgd, cond_true, Option.some.injEq] at hT
    subst hT
    unfold goodR at hgd
    simp only [Bool.and_eq_true] at hgd
    obtain ⟨⟨⟨d1, d2⟩, d3⟩, d4⟩ := hgd
    have d2 := Nat.eq_of_beq_eq_true d2
    have d3 := Nat.eq_of_beq_eq_true d3
    have d4 := Nat.le_of_ble_eq_true d4
    unfold freshR at hh
    have e0 : (Lin.const 0).den ρ = 0 := Lin.den_const _ _
    obtain ⟨ρ', n', p, hn, ha, ⟨q1, q2, q3, rows', q4, q5, q6, q7, q8⟩, hh⟩ := (srcM_snd (P := P) d1 h.b h.mm hx.1 hx.2 (Lin.sc_const _ _) (by rw [e0]; exact ⟨Int.le_refl _, by have := RB_c (l := []) (by simp) (by simp); exact Int.le_trans (rc_nonneg []) this⟩) (by rw [e0, rOf_zero]; simp)) G _ hh
    rw [e0, rOf_zero, List.nil_append] at q4
    rw [e0, rOf_zero] at q7
    simp only [List.length_nil, Nat.zero_add] at q7
    have hR' := h.later hn ha
    have hk' := hk.later (G1 := G) (⟨hn, ha, Nat.le_refl _, fun _ _ => rfl⟩ : Later n bl.length ρ m n' bl.length ρ' m) (AgA.refl _ _)
    rw [← d2] at q8
    have hnone : rows'.length = 0 → (k n' (putV tm o.dst (opV tm s)) bl).holds S L G ρ' → o.wp P a w K Q := fun h0 hh0 => by
      have hr0 : rows' = [] := List.eq_nil_of_length_eq_zero h0
      subst hr0
      refine hwp _ _ (by rw [hsr]; exact run_append_nothing w t t' o.type e i (slcOf_spec hse) hi base 0 0 (Nat.le_refl _) _ q8) ?_
      refine hk' n' ρ' m _ bl G _ w (Later.refl _ _ _ _) (AgA.refl _ _) ⟨TRel.put hR'.t o.dst (opV_spec hR'.t s).1 ?_, by rw [put_defers]; exact h.d, hR'.b, hR'.mm⟩ hh0
      rw [← hsr]; exact (opV_spec hR'.t s).2
    have hgrow : 0 < rows'.length → (growR e o.dst sh p.1 p.2 n' tm bl k).holds S L G ρ' → o.wp P a w K Q := fun h0 hh0 => by
      have hcapl := grown_le w (0 + rows'.length) 0 e (by omega)
      refine hwp _ _ (by rw [hsr]; exact run_append_grow_src w t t' o.type e i zv (slcOf_spec hse) hi hzz base 0 0 [] (firstCells_zero _ _ _ _) _ _ _ q8 (by omega) (by omega) (growslice_fits (by omega) (by
        have := Nat.mul_le_mul (show 0 + rows'.length ≤ 1073741824 by omega) d4
        omega))) ?_
      have key := growR_wp (c := grownCap w (0 + rows'.length) 0 e) (cells := ([] ++ flatV sh rows').toArray ++ Builtin.zeroCells zv.cells (grownCap w (0 + rows'.length) 0 e - (0 + rows'.length))) hR' q1 q2 q3 q4 q6 q5 (by omega) hcapl.2 (by
        have := q8.newsLen
        rw [Array.size_append, zeroCells_size, hzl, d3, List.size_toArray, List.nil_append, this, d2, ← Nat.add_mul]
        congr 1; omega) ⟨(Builtin.zeroCells zv.cells (grownCap w (0 + rows'.length) 0 e - (0 + rows'.length))).toList, by simp⟩ hh0 hk'
      simpa using key
    split at hh
    · rename_i hc0
      have := Lin.den_isC hc0 (ρ := ρ')
      exact hnone (by omega) hh
    · rename_i cc hc0 hne
      have := Lin.den_isC hne (ρ := ρ')
      exact hgrow (by
        have : cc ≠ 0 := fun e => hc0 e
        omega) hh
    · simp only [T.holds, BE.den, Lin.den_const, decide_eq_true_eq, decide_eq_false_iff_not] at hh
      by_cases h0 : rows'.length = 0
      · exact hnone h0 (hh.1 (by omega))
      · exact hgrow (by omega) (hh.2 (by omega))
  · split at hT
    rotate_left
    · cases hT
    rename_i b sz off ro len cap hsv
    split at hT
    rotate_left
    · cases hT
    rename_i sh off' code capb kind bt hbl
    cases hgd : (goodR sh i z && Nat.beq kind 2 && Lin.beq off (.const 0) && Lin.beq off' (.const 0) && Lin.beq ro (.const 0) && Lin.beq cap capb && Nat.beq bt.1 e) with
    | false => rw [hgd] at hT; cases hT
    | true =>
    rw [hgd] at hT
    simp only [cond_true, Option.some.injEq] at hT
    subst hT
    simp only [Bool.and_eq_true] at hgd
    obtain ⟨⟨⟨⟨⟨⟨hgd, k2⟩, b1⟩, b2⟩, b3⟩, b4⟩, b5⟩ := hgd
    have b5 := Nat.eq_of_beq_eq_true b5
    have k2 := Nat.eq_of_beq_eq_true k2
    have b1 := Lin.beq_eq b1
    have b2 := Lin.beq_eq b2
    have b3 := Lin.beq_eq b3
    have b4 := Lin.beq_eq b4
    subst k2; subst b1; subst b2; subst b3; subst b4
    unfold goodR at hgd
    simp only [Bool.and_eq_true] at hgd
    obtain ⟨⟨⟨d1, d2⟩, d3⟩, d4⟩ := hgd
    have d2 := Nat.eq_of_beq_eq_true d2
    have d3 := Nat.eq_of_beq_eq_true d3
    have d4 := Nat.le_of_ble_eq_true d4
    obtain ⟨hk31, hh⟩ := hh
    simp only [List.map_cons, List.map_nil, chkD] at hk31
    rw [hsv] at hs
    have hsok : (A.sl b sz (.const 0) (.const 0) len cap).ok n bl.length ρ := hs.1
    obtain ⟨ptr, e1, e2, e3⟩ := sl_den (m := m) hsok
    have hsr : a.eval s = (A.sl b sz (.const 0) (.const 0) len cap).den ρ m := hs.2
    rw [e1] at hsr
    obtain ⟨x1, ⟨x2, x3, x4, x5⟩, ⟨x6, x7, x8, x9⟩, ⟨x10, x13⟩, x11, x12⟩ := hsok
    rw [Lin.den_const] at x13
    have hrr := h.mm.rws b sh (.const 0) code cap 2 bt hbl (by decide)
    have hAok : (A.rows sh (.const 0) code cap 2).ok n bl.length ρ := h.b _ (List.mem_of_getElem? hbl) _ (by simp)
    obtain ⟨⟨r1, r2, r3⟩, r4, r5⟩ := hAok
    have hrk : ∀ row ∈ rOf (code.den ρ), RowOk sh row := fun row hr => by
      rcases Int.lt_or_le (cap.den ρ) 0 with h | h
      · rw [hrr.1 h] at hr; simp at hr
      · obtain ⟨_, cells, tq, fz, _, ⟨_, g3⟩, _⟩ := hrr.2 h
        exact g3.1 row hr
    obtain ⟨ρ', n', p, hn, ha, ⟨q1, q2, q3, rows', q4, q5, q6, q7, q8⟩, hh⟩ := (srcM_snd (P := P) d1 h.b h.mm hx.1 hx.2 r2 r4 hrk) G _ hh
    rw [← d2] at q8
    generalize hrows : rOf (code.den ρ) = rows at *
    have hkl := h.kill hbl
    have hR' := hkl.later hn ha
    have hb1 := setB_length bl b ([.rows sh (.const 0) code cap 0], bt)
    have hk' : SKok S L w0 k n' (setB bl b ([.rows sh (.const 0) code cap 0], bt)).length ρ' m G K := by
      rw [hb1]
      exact hk.later (⟨hn, ha, Nat.le_refl _, fun _ _ => rfl⟩ : Later n bl.length ρ m n' bl.length ρ' m) (AgA.refl _ _)
    have hlenL : (len.add p.2).den ρ' = (rows ++ rows').length := by
      rw [Lin.den_add, Lin.den_agree ha x4, q5, hk31]; simp
    have hall : ∀ row ∈ rows ++ rows', RowOk sh row := fun row hr => (List.mem_append.1 hr).elim (hrk row) (q6 row)
    have hnl := q8.newsLen
    have hln : (len.den ρ).toNat = rows.length := by omega
    have hcd : cap.den ρ' = cap.den ρ := Lin.den_agree ha x5
    have hlsc : (len.add p.2).sc n' := Lin.sc_add (x4.mono hn) q2
    have hlL2 : (rows ++ rows').length = rows.length + rows'.length := List.length_append
    have hfl : (flatV sh rows).length = rows.length * i.size := by rw [flatV_len hrk, d2]
    by_cases hroom : ((rows.length + rows'.length : Nat) : Int) ≤ cap.den ρ ∨ (cap.den ρ < 0 ∧ rows'.length = 0)
    · by_cases hc0 : cap.den ρ < 0
      · -- nil, and nothing more
        have hr0 : rows'.length = 0 := by rcases hroom with h | h <;> omega
        have hr0 : rows' = [] := List.eq_nil_of_length_eq_zero hr0
        subst hr0
        have hrows0 : rows = [] := hrr.1 hc0
        subst hrows0
        have hl0 := x11 hc0
        refine hwp _ _ (by rw [hsr, e2 hc0, if_pos hc0, hl0]; exact run_append_nothing w t t' o.type e i (slcOf_spec hse) hi none 0 0 (Nat.le_refl _) _ q8) ?_
        have key := pushR_wp (c := -1) (g := w.heap.size) hR' q1 hlsc q3 ⟨by omega, by omega⟩ (by rw [hlenL]; exact ⟨⟨by omega, by omega, by omega, by omega⟩, ⟨by omega, by omega⟩, fun h => by simp, fun h => by omega⟩) (fun _ => by rw [q4]; rfl) (fun h => by omega) (fun _ _ _ _ => .inr (by omega)) hh hk'
        rw [if_pos (by omega)] at key
        exact key
      · -- room
        obtain ⟨_, cells, tq, fz, g1, ⟨g2, g3⟩, g4⟩ := hrr.2 (by omega)
        obtain ⟨g0, g5, g6, g7, g8, g9⟩ := g4 (by decide)
        subst g0
        have g6 := g6.two
        subst g6
        rw [Lin.den_const] at g3
        obtain ⟨_, pre, post, g10, g11⟩ := g3
        have hpre : pre = [] := List.eq_nil_of_length_eq_zero (by simpa using g11)
        subst hpre
        simp only [List.nil_append] at g10
        have hsz : cells.size = (flatV sh rows).length + post.length := by rw [← Array.length_toList, g10, List.length_append]
        have hroom' : rows.length + rows'.length ≤ (cap.den ρ).toNat := by rcases hroom with h | h <;> omega
        have hfit : rows.length * i.size + (flatV sh rows').length ≤ cells.size := by
          rw [hnl, g7, ← Nat.add_mul, d2]
          exact Nat.mul_le_mul_right _ hroom'
        have hrun := run_append_room_row w t t' o.type e i (slcOf_spec hse) hi (m b) rows.length (cap.den ρ).toNat cells bt.1 g1 _ _ _ q8 hroom' hfit
        have hsr' : a.eval s = .slice (some ⟨m b, 0, none⟩) rows.length (cap.den ρ).toNat := by
          rw [hsr, e3 (by omega), if_neg hc0, hln, Lin.den_const]; simp
        refine hwp _ _ (by rw [hsr']; exact hrun) ?_
        have hnew : (cells.toList.take (rows.length * i.size) ++ flatV sh rows' ++ cells.toList.drop (rows.length * i.size + (flatV sh rows').length)) = flatV sh (rows ++ rows') ++ cells.toList.drop (rows.length * i.size + (flatV sh rows').length) := by
          rw [flatV_append, g10, List.take_append_of_le_length (by omega), ← hfl, List.take_length]
        rw [hnew]
        have hmput := h.mm.put (kd := 2) (cells := cells) (fz := (0, 0)) (code' := code) (by decide) hbl (by omega) (row := (flatV sh (rows ++ rows') ++ cells.toList.drop (rows.length * i.size + (flatV sh rows').length)).toArray) (fun _ => ⟨fun h => by omega, fun _ => ⟨g9.elim .inl fun h => .inr (.inr h), _, _, (0, 0), setRow_heap w (m b) _ _ _ _ g1, ⟨g2, by
          rw [hrows, Lin.den_const]
          exact ⟨hrk, [], flatV sh rows' ++ cells.toList.drop (rows.length * i.size + (flatV sh rows').length), by simp [flatV_append], rfl⟩⟩, fun _ => ⟨rfl, g5, .mk2, by
          rw [← g7]; simp only [List.size_toArray, List.length_append, List.length_drop, Array.length_toList, flatV_append]; omega, g8, g9⟩⟩⟩)
        have hself : setB bl b ([.rows sh (.const 0) code cap 2], bt) = bl := by
          rw [setB_eq]
          exact List.ext_getElem? fun j => by
            rw [List.getElem?_set]
            split
            · rename_i hj
              subst hj
              first | exact hbl.symm | (rw [if_pos (List.getElem?_eq_some_iff.1 hbl).1]; exact hbl.symm)
            · rfl
        rw [hself] at hmput
        have hR2 : R w0 n ρ m tm bl a (w.setRow (m b) (flatV sh (rows ++ rows') ++ cells.toList.drop (rows.length * i.size + (flatV sh rows').length)).toArray) := ⟨h.t, h.d, h.b, hmput⟩
        have hR3 := (hR2.kill hbl).later hn ha
        have key := pushR_wp (e := e) (d := o.dst) (c := cap.den ρ) (g := m b) hR3 q1 hlsc q3 ⟨by omega, by omega⟩ (by rw [hlenL, hlL2]; exact ⟨⟨by omega, by omega, by omega, by omega⟩, ⟨by omega, by omega⟩, fun h => by omega, fun h => by omega⟩) (fun h => by omega)
          (fun _ => ⟨_, by rw [← b5]; exact setRow_heap w (m b) _ _ _ _ g1, by
            rw [q4]
            exact ⟨hall, [], cells.toList.drop (rows.length * i.size + (flatV sh rows').length), by simp, rfl⟩, by
            rw [← g7]; simp only [List.size_toArray, List.length_append, List.length_drop, Array.length_toList, flatV_append]; omega, g8, g9⟩) (fun j q hj he => by
            by_cases hjb : j = b
            · subst hjb
              rw [setB_eq, List.getElem?_set_self (List.getElem?_eq_some_iff.1 hbl).1] at hj
              simp only [Option.some.injEq] at hj
              subst hj
              exact .inl (by simp [kindC])
            · rw [setB_eq, List.getElem?_set_ne (fun e => hjb e.symm)] at hj
              have hkb : kindC ρ [A.rows sh (.const 0) code cap 2] = 2 := kindC_rows (by decide) (by omega)
              have hkq : kindC ρ q.1 = 0 := by
                rcases h.mm.inj j b q _ hj hbl he with h9 | h9 | h9 | h9
                · exact absurd h9 hjb
                · have := h9.2; simp only [hkb] at this; omega
                · exact h9
                · simp only [hkb] at h9; omega
              exact .inl (by rw [kindC_agree (h.b _ (List.mem_of_getElem? hj)) ha]; exact hkq)) hh hk'
        rw [if_neg hc0, hlenL, hlL2, Int.toNat_natCast] at key
        exact key
    · -- a new row
      have hgt : (if cap.den ρ < 0 then 0 else (cap.den ρ).toNat) < rows.length + rows'.length := by
        split
        · rename_i hc
          have : ¬ rows'.length = 0 := fun e => hroom (.inr ⟨hc, e⟩)
          omega
        · omega
      have hold : (Builtin.firstCells i.size rows.length (.slice ptr rows.length (if cap.den ρ < 0 then 0 else (cap.den ρ).toNat))).run P w.drew = .ok (flatV sh rows).toArray w.drew := by
        by_cases hc : cap.den ρ < 0
        · have hrows0 : rows = [] := hrr.1 hc
          subst hrows0
          exact firstCells_zero _ _ _ _
        · obtain ⟨_, cells, tq, fz, g1, ⟨g2, g3⟩, g4⟩ := hrr.2 (by omega)
          rw [e3 (by omega)]
          refine run_firstCells_some w.drew i.size rows.length _ rows.length _ (flatV sh rows) hfl fun j v hv => ?_
          rw [addr_add, Lin.den_const]
          have := g3.flat hv
          rw [Lin.den_const] at this
          have g1' : w.drew.heap[m b]? = some (.cells cells tq fz) := g1
          simp only [World.cell?, g1', Option.isSome_none, Bool.false_eq_true, if_false]
          simpa using this
      have hcapl := grown_le w (rows.length + rows'.length) (if cap.den ρ < 0 then 0 else (cap.den ρ).toNat) e q7
      refine hwp _ _ (by rw [hsr, hln]; exact run_append_grow_src w t t' o.type e i zv (slcOf_spec hse) hi hzz ptr rows.length _ (flatV sh rows) hold _ _ _ q8 hgt (by omega) (growslice_fits hgt (by
        have := Nat.mul_le_mul q7 d4
        omega))) ?_
      have key := growR_wp (e := e) (d := o.dst) (c := grownCap w (rows.length + rows'.length) (if cap.den ρ < 0 then 0 else (cap.den ρ).toNat) e) (cells := (flatV sh rows ++ flatV sh rows').toArray ++ Builtin.zeroCells zv.cells (grownCap w (rows.length + rows'.length) (if cap.den ρ < 0 then 0 else (cap.den ρ).toNat) e - (rows.length + rows'.length))) hR' q1 hlsc q3 q4 hall hlenL (by rw [hlL2]; exact hcapl.1) hcapl.2 (by
        rw [Array.size_append, zeroCells_size, hzl, d3, List.size_toArray, List.length_append, hfl, hnl, ← Nat.add_mul, d2, ← Nat.add_mul]
        congr 1; omega) ⟨(Builtin.zeroCells zv.cells (grownCap w (rows.length + rows'.length) (if cap.den ρ < 0 then 0 else (cap.den ρ).toNat) e - (rows.length + rows'.length))).toList, by rw [flatV_append]; simp⟩ hh hk'
      rw [hlL2] at key
      exact key

theorem stepR_wp {tm : List V} {a : Act} {w : World} {G : Again} {o : Oper} {K : Act → World → Prop} {Q : Exit → Act → World → Prop} {k : SK} {T0 : T}
    (h : R w0 n ρ m tm bl a w) (hT : stepR P o n tm bl k = some T0) (hh : T0.holds S L G ρ) (hk : SKok S L w0 k n bl.length ρ m G K) : o.wp P a w K Q := by
  unfold stepR at hT
  split at hT
  · rename_i c ho
    split at hT
    · rename_i hc
      split at hT
      · rename_i s x t t' hxs hts
        exact appR_wp h ho hc hxs hts hT hh hk
      · cases hT
    · cases hT
  · cases hT
end
end Go.Rx
