/- Contracts with slices: the call, the tree, the condition. -/
import Derived.Test.YtlecfjcooglpoaaDoorRxE
set_option linter.unusedVariables false
set_option linter.unusedSimpArgs false
namespace Go.Rx
open M

/-- From now on for reading alone. -/
def frz : List Nat → List Blk → List Blk
  | [], bl => bl
  | b :: r, bl => match bl[b]? with
    | some ([.rows sh off code cap (k + 1)], t) => frz r (setB bl b ([.rows sh off code cap 1], t))
    | _ => frz r bl
def resWs (us : List W) : V := match us with | [u] => .w u | l => .tup l
/-- No slice of an ordinary block. -/
def noSlc : List V → Bool
  | [] => true
  | .w (.one (.slc ..)) :: _ => false
  | _ :: r => noSlc r
noncomputable def BCon.E (c : BCon) (n : Nat) (vs : List V) (bl : List Blk) (k : RK) : T :=
  flatBM bl c.args vs n fun ls n1 => cond (bdOk c.res && (!(c.res.any BD.isRd) || noSlc vs)) (preM c.pre ls (.call c.id ls n1 (bbds c.res) (argE c.res n1 (n1 + (bbds c.res).length) [] (cond (c.res.any BD.isRd) (frz (vs.flatMap baseV) bl) bl) fun n2 us bl2 => k n2 (resWs us) bl2))) .stuck

section
variable {S : Nat → List Int → List Int → Prop} {L : V → Env → Prop} {w0 : Base} {P : Program}
/-- A block's kind is made smaller. -/
theorem Mem.low {ρ : Env} {m : Nat → Nat} {bl : List Blk} {w : World} {b k : Nat} {sh : List CK} {off code cap : Lin} {t : TypeId × Bool} (h : Mem w0 ρ m bl w) (hbl : bl[b]? = some ([.rows sh off code cap (k + 1)], t)) : Mem w0 ρ m (setB bl b ([.rows sh off code cap 1], t)) w := by
  have hblen : b < bl.length := (List.getElem?_eq_some_iff.1 hbl).1
  have hset : ∀ (i : Nat) (p : Blk), (setB bl b ([.rows sh off code cap 1], t))[i]? = some p → (i = b ∧ p = ([.rows sh off code cap 1], t)) ∨ (i ≠ b ∧ bl[i]? = some p) := fun i p hi => by
    rw [setB_eq, List.getElem?_set] at hi
    split at hi
    · rename_i hbi
      subst hbi
      simp only [hblen, if_true, Option.some.injEq] at hi
      exact .inl ⟨rfl, hi.symm⟩
    · rename_i hbi; exact .inr ⟨fun e => hbi e.symm, hi⟩
  have hk : ∀ (i : Nat) (p : Blk), (setB bl b ([.rows sh off code cap 1], t))[i]? = some p → ∃ p', bl[i]? = some p' ∧ kindC ρ p.1 ≤ kindC ρ p'.1 ∧ (kindC ρ p'.1 ≠ 0 → True) := fun i p hi => by
    rcases hset i p hi with ⟨rfl, rfl⟩ | ⟨hne, hi⟩
    · refine ⟨_, hbl, ?_, fun _ => trivial⟩
      simp only [kindC]; split <;> omega
    · exact ⟨p, hi, Nat.le_refl _, fun _ => trivial⟩
  refine ⟨h.ext, h.hos, h.htape, h.hout, h.hsize, h.frm, fun i cs' t' hi ho => ?_, fun i sh' off' code' cap' kind' t' hi => ?_, fun i j p q hi hj he => ?_⟩
  · rcases hset i _ hi with ⟨rfl, hi2⟩ | ⟨hne, hi⟩
    · cases hi2; cases ho
    · exact h.blk i cs' t' hi ho
  · rcases hset i _ hi with ⟨rfl, hi2⟩ | ⟨hne, hi⟩
    · cases hi2
      intro _
      obtain ⟨g1, g2⟩ := h.rws i _ _ _ _ (k + 1) _ hbl (by omega)
      refine ⟨g1, fun hc => ?_⟩
      obtain ⟨g3, cells, tq, fz, g4, g5, _⟩ := g2 hc
      exact ⟨g3, cells, tq, fz, g4, g5, fun h2 => by omega⟩
    · exact h.rws i sh' off' _ cap' kind' t' hi
  · obtain ⟨p', h1, h2, _⟩ := hk i p hi
    obtain ⟨q', h3, h4, _⟩ := hk j q hj
    rcases h.inj i j p' q' h1 h3 he with h5 | h5 | h5 | h5
    · exact .inl h5
    · exact .inr (.inl ⟨by omega, by omega⟩)
    · exact .inr (.inr (.inl (by omega)))
    · exact .inr (.inr (.inr (by omega)))
theorem frz_spec {n nb : Nat} {ρ : Env} {m : Nat → Nat} {w : World} : ∀ {bs : List Nat} {bl : List Blk}, Mem w0 ρ m bl w → BlOk n nb ρ bl → Mem w0 ρ m (frz bs bl) w ∧ BlOk n nb ρ (frz bs bl) ∧ (frz bs bl).length = bl.length ∧
    ∀ (i : Nat) (p : Blk), (frz bs bl)[i]? = some p → ∃ p', bl[i]? = some p' ∧ kindC ρ p.1 ≤ kindC ρ p'.1 ∧ (i ∈ bs → isOrd p'.1 = false → kindC ρ p.1 ≤ 1)
  | [], bl, h, hb => ⟨h, hb, rfl, fun i p hi => ⟨p, hi, Nat.le_refl _, fun h => by simp at h⟩⟩
  | b :: r, bl, h, hb => by
    unfold frz
    split
    · rename_i sh off code cap k t hbl
      have hblen : b < bl.length := (List.getElem?_eq_some_iff.1 hbl).1
      have hb' : BlOk n nb ρ (setB bl b ([.rows sh off code cap 1], t)) := fun p hp a ha => by
        rw [setB_eq] at hp
        rcases List.mem_or_eq_of_mem_set hp with hp | hp
        · exact hb p hp a ha
        · subst hp
          simp at ha; subst ha
          have h0 : A.ok n nb ρ (.rows sh off code cap (k + 1)) := hb _ (List.mem_of_getElem? hbl) _ (by simp)
          exact h0
      obtain ⟨g1, g2, g3, g4⟩ := frz_spec (bs := r) (h.low hbl) hb'
      refine ⟨g1, g2, by rw [g3, setB_length], fun i p hp => ?_⟩
      obtain ⟨p', h1, h2, h3⟩ := g4 i p hp
      by_cases hib : i = b
      · subst hib
        rw [setB_eq, List.getElem?_set_self hblen] at h1
        cases h1
        refine ⟨_, hbl, Nat.le_trans h2 (by simp only [kindC]; split <;> omega), fun _ _ => Nat.le_trans h2 (by simp only [kindC]; split <;> omega)⟩
      · rw [setB_eq, List.getElem?_set_ne (fun e => hib e.symm)] at h1
        exact ⟨p', h1, h2, fun hi ho => h3 (by simpa [hib] using hi) ho⟩
    · rename_i hno
      obtain ⟨g1, g2, g3, g4⟩ := frz_spec (bs := r) h hb
      refine ⟨g1, g2, g3, fun i p hp => ?_⟩
      obtain ⟨p', h1, h2, h3⟩ := g4 i p hp
      refine ⟨p', h1, h2, fun hi ho => ?_⟩
      rcases List.mem_cons.1 hi with rfl | hi
      · obtain ⟨C, t⟩ := p'
        obtain ⟨sh, off, code, cap, k, rfl⟩ := ord_false ho
        cases k with
        | zero =>
          have : kindC ρ [A.rows sh off code cap 0] = 0 := by simp [kindC]
          simp only [this] at h2; omega
        | succ k => exact absurd h1 (hno _ _ _ _ _ _)
      · exact h3 hi ho
theorem resWs_spec {n nb : Nat} {ρ : Env} {m : Nat → Nat} {us : List W} {vals : List Value} (h : ∀ u ∈ us, W.ok n nb ρ u) (hm : us.map (W.den ρ m) = vals) : (resWs us).ok n nb ρ ∧ (resWs us).rel ρ m (tupV vals) := by
  subst hm
  unfold resWs tupV
  split
  · exact ⟨h _ (by simp), rfl⟩
  · rename_i hne
    refine ⟨h, ?_⟩
    split
    · rename_i x hx
      match us, hne, hx with
      | [u], hne, _ => exact absurd rfl (hne u)
    · rfl
theorem noSlc_nil : ∀ {vs : List V}, noSlc vs = true → vs.flatMap slcV = []
  | [], _ => rfl
  | v :: r, h => by
    unfold noSlc at h
    split at h
    · rename_i heq; cases heq
    · cases h
    · rename_i hne heq
      cases heq
      rw [List.flatMap_cons, noSlc_nil h, List.append_nil]
      unfold slcV
      split
      · exact (hne _ _ _ _ rfl).elim
      · rfl
theorem noSlc_spec : ∀ {vs : List V} {b : Nat}, noSlc vs = true → b ∈ vs.flatMap baseV → ∃ sz o ro len cap, V.w (.one (.sl b sz o ro len cap)) ∈ vs
  | [], b, _, h => by simp at h
  | v :: r, b, h, hb => by
    simp only [List.flatMap_cons, List.mem_append] at hb
    rcases hb with hb | hb
    · unfold baseV at hb
      split at hb
      · simp at hb; subst hb; exact ⟨_, _, _, _, _, List.mem_cons_self ..⟩
      · simp [noSlc] at h
      · simp at hb
    · have h' : noSlc r = true := by
        unfold noSlc at h
        split at h
        · rename_i heq; cases heq
        · cases h
        · rename_i heq; cases heq; exact h
      obtain ⟨sz, o, ro, len, cap, h1⟩ := noSlc_spec h' hb
      exact ⟨sz, o, ro, len, cap, List.mem_cons_of_mem _ h1⟩

theorem BCon.E_ok {c : BCon} {spec : List Int → List Int → Prop} (hc : c.Ok P w0.b spec) (hS : ∀ zs rs, spec zs rs → S c.id zs rs) (n : Nat) (vs : List V) (bl : List Blk) (k : RK) (G : Again) (ρ : Env) (m : Nat → Nat) (w : World) (xs : List Value) (R' : Ending → World → Prop)
    (hb : BlOk n bl.length ρ bl) (hw : Mem w0 ρ m bl w) (hv : ∀ v ∈ vs, V.ok n bl.length ρ v) (hr : LRel ρ m vs xs) (hh : (c.E n vs bl k).holds S L G ρ) (hk : RKok S L w0 k n bl.length ρ m G R') :
    (callFunc c.f xs.toArray).run P w = .ok (.enter c.f xs.toArray) w ∧ Calls P c.f xs.toArray w R' := by
  refine ⟨hc.1 _ _, ?_⟩
  unfold BCon.E at hh
  obtain ⟨ρ1, n1, ls, hn1, ha1, ⟨g1, g2, g3⟩, hh⟩ := flatBM_snd (S := S) (L := L) hb hw hv hr G _ hh
  cases hq : (bdOk c.res && (!(c.res.any BD.isRd) || noSlc vs)) with
  | false => rw [hq] at hh; exact hh.elim
  | true =>
    rw [hq] at hh
    simp only [cond_true] at hh
    obtain ⟨hpre, hh⟩ := preM_holds hh
    simp only [T.holds] at hh
    simp only [Bool.and_eq_true, Bool.or_eq_true, Bool.not_eq_true'] at hq
    refine (hc.2 (BF w0 ρ m bl (vs.flatMap baseV) (vs.flatMap slcV)) w xs _ hw.ext g2 hpre (g3 _ fun _ h => h)).mono ?_
    rintro e w' ⟨he, rs, us, r1, r2, r3, rfl⟩
    have hh := allB_elim hh r1 (hS _ _ r2)
    have hb1 := hb.ext ha1 hn1 (Nat.le_refl bl.length)
    have hw1 := (hw.grow he).rho hb ha1
    have ha2 : agree n1 ρ1 (updL ρ1 n1 rs) := agree.updL rs n1 ρ1
    have hb2 := hb1.ext ha2 (Nat.le_add_right n1 (bbds c.res).length) (Nat.le_refl bl.length)
    have hw2 := hw1.rho hb1 ha2
    have hA : At (updL ρ1 n1 rs) n1 rs := At.updL ρ1 n1 rs
    have hrl : rs.length = (bbds c.res).length := inB_len r1
    have haa := ha1.trans ha2 hn1
    have hLat : Later n bl.length ρ m (n1 + (bbds c.res).length) bl.length (updL ρ1 n1 rs) m := ⟨by omega, haa, Nat.le_refl _, fun _ _ => rfl⟩
    have hkd : ∀ (i : Nat) (p : Blk), bl[i]? = some p → kindC (updL ρ1 n1 rs) p.1 = kindC ρ p.1 := fun i p hi => kindC_agree (hb p (List.mem_of_getElem? hi)) haa
    have hdead : ∀ (i : Nat) (p : Blk), bl[i]? = some p → w.heap.size ≤ m i → kindC ρ p.1 = 0 := fun i p hi hge => by
      by_cases h0 : kindC ρ p.1 = 0
      · exact h0
      · have := hw.lt hi h0; omega
    -- the state behind the call
    have fin : ∀ bl' : List Blk, BlOk (n1 + (bbds c.res).length) bl'.length (updL ρ1 n1 rs) bl' → Mem w0 (updL ρ1 n1 rs) m bl' w' → bl'.length = bl.length →
        (∀ (i : Nat) (p : Blk), bl'[i]? = some p → (BF w0 ρ m bl (vs.flatMap baseV) (vs.flatMap slcV) (m i) ∨ w.heap.size ≤ m i) → (c.res.any BD.isRd) = true → kindC (updL ρ1 n1 rs) p.1 ≤ 1) →
        (∀ (i : Nat) (p : Blk), bl'[i]? = some p → w.heap.size ≤ m i → kindC (updL ρ1 n1 rs) p.1 = 0) →
        (argE c.res n1 (n1 + (bbds c.res).length) [] bl' fun n2 us bl2 => k n2 (resWs us) bl2).holds S L G (updL ρ1 n1 rs) → R' (.returned (tupV us)) w' := fun bl' hb' hw' hlen hal hal2 hh => by
      have hF : ∀ g, (BF w0 ρ m bl (vs.flatMap baseV) (vs.flatMap slcV) g ∨ w.heap.size ≤ g) → w0.ex g ∨ w0.ro g ∨ w0.r.heap.size ≤ g := fun g hg => by
        rcases hg with hg | hg
        · exact hg.2
        · exact .inr (.inr (Nat.le_trans hw.hsize hg))
      have hN : ∀ g, w.heap.size ≤ g → w0.b.heap.size ≤ g ∧ w0.r.heap.size ≤ g := fun g hg => ⟨Nat.le_trans hw.ext.size hg, Nat.le_trans hw.hsize hg⟩
      have h1 : (c.res.all fun b => !b.isRd) = true ∨ ∀ (i : Nat) (p : Blk), bl'[i]? = some p → (BF w0 ρ m bl (vs.flatMap baseV) (vs.flatMap slcV) (m i) ∨ w.heap.size ≤ m i) → kindC (updL ρ1 n1 rs) p.1 ≤ 1 := by
        cases hrd : c.res.any BD.isRd with
        | true => exact .inr fun i p hi hf => hal i p hi hf hrd
        | false =>
          left
          rw [List.all_eq_true]
          intro b hb
          cases hbd : b.isRd with
          | false => rfl
          | true => rw [List.any_eq_true.2 ⟨b, hb, hbd⟩] at hrd; cases hrd
      obtain ⟨n', ρ', m', us', bl2, p1, p2, p3, p4, p5, p6⟩ := argE_ok (S := S) (L := L) hF hN (l := c.res) (us := []) (vals := us) hq.1 hb' hw' hA r1 (Nat.le_refl _) r3 h1 (.inr hal2) (fun u hu => by simp at hu) hh
      have hres := resWs_spec (m := m') p5 (by simpa using p4)
      exact hk n' (resWs us') bl2 G ρ' m' w' (tupV us) (hLat.trans (hlen ▸ p1)) (AgA.refl _ _) hres.1 hres.2 p2 p3 p6
    cases hrd : c.res.any BD.isRd with
    | false =>
      rw [hrd] at hh
      exact fin bl hb2 hw2 rfl (fun _ _ _ _ h => by rw [hrd] at h; cases h) (fun i p hi hge => by rw [hkd i p hi]; exact hdead i p hi hge) hh
    | true =>
      rw [hrd] at hh hq
      obtain ⟨f1, f2, f3, f4⟩ := frz_spec (bs := vs.flatMap baseV) hw2 hb2
      have hns : noSlc vs = true := by
        rcases hq.2 with h | h
        · cases h
        · exact h
      refine fin _ (by rw [f3]; exact f2) f1 f3 (fun i p hi hf _ => ?_) (fun i p hi hge => ?_) hh
      · obtain ⟨p', h1, h2, h3⟩ := f4 i p hi
        rw [hkd i p' h1] at h2
        rcases hf with ⟨⟨b, hbm, hbe, q, hq1, hq2, hq3⟩, _⟩ | hge
        · obtain ⟨sz, o, ro, len, cap, hmem⟩ := noSlc_spec hns hbm
          rcases hw.inj i b p' q h1 hq1 (by rw [hbe]) with h5 | h5 | h5 | h5
          · subst h5
            rw [h1] at hq1; cases hq1
            cases ho : isOrd p'.1 with
            | false => exact h3 hbm ho
            | true =>
              have := hq3 ho
              rw [noSlc_nil hns] at this
              simp at this
          · omega
          · omega
          · exact absurd h5 hq2
        · have := hdead i p' h1 hge; omega
      · obtain ⟨p', h1, h2, _⟩ := f4 i p hi
        rw [hkd i p' h1] at h2
        have := hdead i p' h1 hge; omega
end
end Go.Rx
