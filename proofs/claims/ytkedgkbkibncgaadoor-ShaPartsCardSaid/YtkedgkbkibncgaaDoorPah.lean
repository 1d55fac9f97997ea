/- Contracts with slices: the call, the tree, the condition. -/
import Derived.Test.YtkedgkbkibncgaaDoorPag
import Derived.HandedShaped
import Derived.SizedLaws
import Derived.Carry
import Derived.Test.YtkedgkbkibncgaaDoorPaf
import Derived.RangeFuncOwn
import Derived.RangeFuncLeaves
import Derived.KernelRfl

set_option linter.unusedVariables false
set_option linter.unusedSimpArgs false
namespace Go.Rx
open M

/-- From now on for reading alone. -/
def frz : List Nat → List Blk → List Blk
  | [], bl => bl
  | b :: r, bl => match bl[b]? with
    | some ([.rows sh off code cap (k + 1)], t) => frz r (setB bl b ([.rows sh off code cap 1], t))
    | _ => frz r bl
def resWs (us : List W) : V := match us with | [u] => .w u | l => .tup l
/-- No slice of an ordinary block. -/
def noSlc : List V → Bool
  | [] => true
  | .w (.one (.slc ..)) :: _ => false
  | _ :: r => noSlc r
noncomputable def BCon.E0 (c : BCon) (n : Nat) (vs : List V) (bl : List Blk) (k : RK) : T :=
  flatBM bl c.args vs n fun ls n1 => cond (bdOk c.res && (!(c.res.any BD.isRd) || noSlc vs)) (preM c.pre ls (.call c.id ls n1 (bbds c.res) (argE c.res n1 (n1 + (bbds c.res).length) [] (cond (c.res.any BD.isRd) (frz (vs.flatMap baseV) bl) bl) fun n2 us bl2 => k n2 (resWs us) bl2))) .stuck

/-- A slice without rows and without room, of an ordinary block without cells: told as rows. -/
def zsl (sh : List CK) (b : Nat) : V := .w (.one (.sl b sh.length (.const 0) (.const 0) (.const 0) (.const 0)))
def zcase (rd : Bool) (sh : List CK) (b : Nat) (bl : List Blk) : Option (List Blk) :=
  match bl[b]? with
  | some ([], (t, false)) => cond rd (some (setB bl b ([.rows sh (.const 0) (.const 0) (.const 0) 1], (t, false)))) none
  | some ([.rows sh' off code cap kind], t) => cond (shBeq sh sh' && Lin.beq off (.const 0) && Lin.beq cap (.const 0) && Nat.blt 0 kind) (some bl) none
  | _ => none
def zconv (rd : Bool) : List BD → List V → List Blk → List V × List Blk
  | .rd sh :: r, v :: s, bl => match v with
    | .w (.one (.slc b 0 0 0)) => match zcase rd sh b bl with
      | some bl1 => (zsl sh b :: (zconv rd r s bl1).1, (zconv rd r s bl1).2)
      | none => (v :: (zconv rd r s bl).1, (zconv rd r s bl).2)
    | _ => (v :: (zconv rd r s bl).1, (zconv rd r s bl).2)
  | _ :: r, v :: s, bl => (v :: (zconv rd r s bl).1, (zconv rd r s bl).2)
  | _, vs, bl => (vs, bl)
noncomputable def BCon.E (c : BCon) (n : Nat) (vs : List V) (bl : List Blk) (k : RK) : T :=
  c.E0 n (zconv (c.res.any BD.isRd) c.args vs bl).1 (zconv (c.res.any BD.isRd) c.args vs bl).2 k

section
variable {S : Nat → List Int → List Int → Prop} {L : V → Env → Prop} {w0 : Base} {P : Program}
theorem Mem.zero {ρ : Env} {m : Nat → Nat} {bl : List Blk} {w : World} {b : Nat} {sh : List CK} {t : TypeId} (h : Mem w0 ρ m bl w) (hbl : bl[b]? = some ([], (t, false))) : Mem w0 ρ m (setB bl b ([.rows sh (.const 0) (.const 0) (.const 0) 1], (t, false))) w := by
  have hblen : b < bl.length := (List.getElem?_eq_some_iff.1 hbl).1
  obtain ⟨q1, q2, r, hr, q3⟩ := h.blk b [] (t, false) hbl rfl
  have hr := hr rfl
  subst hr
  have hset : ∀ (i : Nat) (p : Blk), (setB bl b ([.rows sh (.const 0) (.const 0) (.const 0) 1], (t, false)))[i]? = some p → (i = b ∧ p = ([.rows sh (.const 0) (.const 0) (.const 0) 1], (t, false))) ∨ (i ≠ b ∧ bl[i]? = some p) := fun i p hi => by
    rw [setB_eq, List.getElem?_set] at hi
    split at hi
    · rename_i hbi
      subst hbi
      simp only [hblen, if_true, Option.some.injEq] at hi
      exact .inl ⟨rfl, hi.symm⟩
    · rename_i hbi; exact .inr ⟨fun e => hbi e.symm, hi⟩
  have hold : kindC ρ ([] : List A) = 2 := kind_ord rfl
  refine ⟨h.ext, h.hos, h.htape, h.hout, h.hsize, h.frm, fun i cs' t' hi ho' => ?_, fun i sh' off' code' cap' kind' t' hi => ?_, fun i j p q hi hj he => ?_⟩
  · rcases hset i _ hi with ⟨rfl, hi2⟩ | ⟨hne, hi⟩
    · cases hi2; cases ho'
    · exact h.blk i cs' t' hi ho'
  · rcases hset i _ hi with ⟨rfl, hi2⟩ | ⟨hne, hi⟩
    · cases hi2
      intro _
      simp only [Lin.den_const]
      exact ⟨fun h0 => by omega, fun _ => ⟨q2.elim .inl fun h => .inr (.inr h), _, _, _, q3, ⟨Int.le_refl _, by rw [rOf_zero]; intro _ h; simp at h, [], [], by simp [rOf_zero, flatV], rfl⟩, fun h9 => by omega⟩⟩
    · exact h.rws i sh' off' _ cap' kind' t' hi
  · rcases hset i _ hi with ⟨rfl, hi2⟩ | ⟨hne, hi'⟩
    · rcases hset j _ hj with ⟨rfl, hj2⟩ | ⟨hne2, hj⟩
      · exact .inl rfl
      · rcases h.inj i j _ q hbl hj he with h1 | h1 | h1 | h1
        · exact .inl h1
        · simp only [hold] at h1; omega
        · simp only [hold] at h1; omega
        · exact .inr (.inr (.inr h1))
    · rcases hset j _ hj with ⟨hjb, hj2⟩ | ⟨hne2, hj⟩
      · subst hjb
        rcases h.inj i j p _ hi' hbl he with h1 | h1 | h1 | h1
        · exact .inl h1
        · simp only [hold] at h1; omega
        · exact .inr (.inr (.inl h1))
        · simp only [hold] at h1; omega
      · exact h.inj i j p q hi' hj he
theorem zcase_spec {n : Nat} {ρ : Env} {m : Nat → Nat} {w : World} {rd : Bool} {sh : List CK} {b : Nat} {bl bl1 : List Blk} (h : zcase rd sh b bl = some bl1) (hm : Mem w0 ρ m bl w) (hb : BlOk n bl.length ρ bl) : Mem w0 ρ m bl1 w ∧ BlOk n bl1.length ρ bl1 ∧ bl1.length = bl.length ∧ b < bl.length := by
  unfold zcase at h
  split at h
  · rename_i t hbl
    cases rd with
    | false => cases h
    | true =>
      simp only [cond_true, Option.some.injEq] at h
      subst h
      refine ⟨hm.zero hbl, hb.set (fun a ha => ?_), setB_length _ _ _, (List.getElem?_eq_some_iff.1 hbl).1⟩
      have ha : a = .rows sh (.const 0) (.const 0) (.const 0) 1 := by simpa using ha
      subst ha
      refine ⟨⟨Lin.sc_const _ _, Lin.sc_const _ _, Lin.sc_const _ _⟩, ?_, ?_⟩
      · simp only [Lin.den_const]; exact ⟨Int.le_refl _, RB_nonneg⟩
      · simp only [Lin.den_const]; omega
  · rename_i sh' off code cap kind t hbl
    cases hc : (shBeq sh sh' && Lin.beq off (.const 0) && Lin.beq cap (.const 0) && Nat.blt 0 kind) with
    | false => rw [hc] at h; cases h
    | true =>
      rw [hc] at h
      simp only [cond_true, Option.some.injEq] at h
      subst h
      exact ⟨hm, hb, rfl, (List.getElem?_eq_some_iff.1 hbl).1⟩
  · cases h
theorem zconv_spec {n : Nat} {ρ : Env} {m : Nat → Nat} {w : World} {rd : Bool} : ∀ {ds : List BD} {vs : List V} {bl : List Blk} {xs : List Value}, Mem w0 ρ m bl w → BlOk n bl.length ρ bl → (∀ v ∈ vs, V.ok n bl.length ρ v) → LRel ρ m vs xs →
    Mem w0 ρ m (zconv rd ds vs bl).2 w ∧ BlOk n (zconv rd ds vs bl).2.length ρ (zconv rd ds vs bl).2 ∧ (zconv rd ds vs bl).2.length = bl.length ∧ (∀ v ∈ (zconv rd ds vs bl).1, V.ok n bl.length ρ v) ∧ LRel ρ m (zconv rd ds vs bl).1 xs
  | [], vs, bl, xs, hm, hb, hv, hr => ⟨hm, hb, rfl, hv, hr⟩
  | d :: r, [], bl, xs, hm, hb, hv, hr => by
    cases d <;> exact ⟨hm, hb, rfl, hv, hr⟩
  | d :: r, v :: s, bl, xs, hm, hb, hv, hr => by
    match xs, hr with
    | x :: xs, hr =>
    have keep : Mem w0 ρ m (zconv rd r s bl).2 w ∧ BlOk n (zconv rd r s bl).2.length ρ (zconv rd r s bl).2 ∧ (zconv rd r s bl).2.length = bl.length ∧ (∀ u ∈ (v :: (zconv rd r s bl).1), V.ok n bl.length ρ u) ∧ LRel ρ m (v :: (zconv rd r s bl).1) (x :: xs) := by
      obtain ⟨g1, g2, g3, g4, g5⟩ := zconv_spec (rd := rd) (ds := r) (vs := s) hm hb (fun u hu => hv u (List.mem_cons_of_mem _ hu)) hr.2
      exact ⟨g1, g2, g3, fun u hu => by
        rcases List.mem_cons.1 hu with rfl | hu
        · exact hv u (by simp)
        · exact g4 u hu, hr.1, g5⟩
    cases d with
    | d y => exact keep
    | ow sh e => exact keep
    | rd sh =>
      unfold zconv
      split
      · rename_i b _
        split
        · rename_i bl1 hz
          obtain ⟨q1, q2, q3, q4⟩ := zcase_spec hz hm hb
          obtain ⟨g1, g2, g3, g4, g5⟩ := zconv_spec (rd := rd) (ds := r) (vs := s) q1 q2 (fun u hu => by rw [q3]; exact hv u (List.mem_cons_of_mem _ hu)) hr.2
          refine ⟨g1, g2, by rw [g3, q3], fun u hu => ?_, ?_, g5⟩
          · rcases List.mem_cons.1 hu with rfl | hu
            · refine ⟨q4, ⟨Lin.sc_const _ _, Lin.sc_const _ _, Lin.sc_const _ _, Lin.sc_const _ _⟩, ?_⟩
              simp only [Lin.den_const]
              exact ⟨⟨by omega, by omega, by omega, by omega⟩, ⟨by omega, by omega⟩, fun h => by omega, fun _ => by omega⟩
            · rw [← q3]; exact g4 u hu
          · have h0 : x = .slice (some ⟨m b, 0, none⟩) 0 0 := hr.1
            rw [h0]
            simp [zsl, V.rel, W.den, A.den, Lin.den_const]
        · exact keep
      · exact keep
/-- A block's kind is made smaller. -/
theorem Mem.low {ρ : Env} {m : Nat → Nat} {bl : List Blk} {w : World} {b k : Nat} {sh : List CK} {off code cap : Lin} {t : TypeId × Bool} (h : Mem w0 ρ m bl w) (hbl : bl[b]? = some ([.rows sh off code cap (k + 1)], t)) : Mem w0 ρ m (setB bl b ([.rows sh off code cap 1], t)) w := by
  have hblen : b < bl.length := (List.getElem?_eq_some_iff.1 hbl).1
  have hset : ∀ (i : Nat) (p : Blk), (setB bl b ([.rows sh off code cap 1], t))[i]? = some p → (i = b ∧ p = ([.rows sh off code cap 1], t)) ∨ (i ≠ b ∧ bl[i]? = some p) := fun i p hi => by
    rw [setB_eq, List.getElem?_set] at hi
    split at hi
    · rename_i hbi
      subst hbi
      simp only [hblen, if_true, Option.some.injEq] at hi
      exact .inl ⟨rfl, hi.symm⟩
    · rename_i hbi; exact .inr ⟨fun e => hbi e.symm, hi⟩
  have hk : ∀ (i : Nat) (p : Blk), (setB bl b ([.rows sh off code cap 1], t))[i]? = some p → ∃ p', bl[i]? = some p' ∧ kindC ρ p.1 ≤ kindC ρ p'.1 ∧ (kindC ρ p'.1 ≠ 0 → True) := fun i p hi => by
    rcases hset i p hi with ⟨rfl, rfl⟩ | ⟨hne, hi⟩
    · refine ⟨_, hbl, ?_, fun _ => trivial⟩
      simp only [kindC]; split <;> omega
    · exact ⟨p, hi, Nat.le_refl _, fun _ => trivial⟩
  refine ⟨h.ext, h.hos, h.htape, h.hout, h.hsize, h.frm, fun i cs' t' hi ho => ?_, fun i sh' off' code' cap' kind' t' hi => ?_, fun i j p q hi hj he => ?_⟩
  · rcases hset i _ hi with ⟨rfl, hi2⟩ | ⟨hne, hi⟩
    · cases hi2; cases ho
    · exact h.blk i cs' t' hi ho
  · rcases hset i _ hi with ⟨rfl, hi2⟩ | ⟨hne, hi⟩
    · cases hi2
      intro _
      obtain ⟨g1, g2⟩ := h.rws i _ _ _ _ (k + 1) _ hbl (by omega)
      refine ⟨g1, fun hc => ?_⟩
      obtain ⟨g3, cells, tq, fz, g4, g5, _⟩ := g2 hc
      exact ⟨g3, cells, tq, fz, g4, g5, fun h2 => by omega⟩
    · exact h.rws i sh' off' _ cap' kind' t' hi
  · obtain ⟨p', h1, h2, _⟩ := hk i p hi
    obtain ⟨q', h3, h4, _⟩ := hk j q hj
    rcases h.inj i j p' q' h1 h3 he with h5 | h5 | h5 | h5
    · exact .inl h5
    · exact .inr (.inl ⟨by omega, by omega⟩)
    · exact .inr (.inr (.inl (by omega)))
    · exact .inr (.inr (.inr (by omega)))
theorem frz_spec {n nb : Nat} {ρ : Env} {m : Nat → Nat} {w : World} : ∀ {bs : List Nat} {bl : List Blk}, Mem w0 ρ m bl w → BlOk n nb ρ bl → Mem w0 ρ m (frz bs bl) w ∧ BlOk n nb ρ (frz bs bl) ∧ (frz bs bl).length = bl.length ∧
    ∀ (i : Nat) (p : Blk), (frz bs bl)[i]? = some p → ∃ p', bl[i]? = some p' ∧ kindC ρ p.1 ≤ kindC ρ p'.1 ∧ (i ∈ bs → isOrd p'.1 = false → kindC ρ p.1 ≤ 1)
  | [], bl, h, hb => ⟨h, hb, rfl, fun i p hi => ⟨p, hi, Nat.le_refl _, fun h => by simp at h⟩⟩
  | b :: r, bl, h, hb => by
    unfold frz
    split
    · rename_i sh off code cap k t hbl
      have hblen : b < bl.length := (List.getElem?_eq_some_iff.1 hbl).1
      have hb' : BlOk n nb ρ (setB bl b ([.rows sh off code cap 1], t)) := fun p hp a ha => by
        rw [setB_eq] at hp
        rcases List.mem_or_eq_of_mem_set hp with hp | hp
        · exact hb p hp a ha
        · subst hp
          simp at ha; subst ha
          have h0 : A.ok n nb ρ (.rows sh off code cap (k + 1)) := hb _ (List.mem_of_getElem? hbl) _ (by simp)
          exact h0
      obtain ⟨g1, g2, g3, g4⟩ := frz_spec (bs := r) (h.low hbl) hb'
      refine ⟨g1, g2, by rw [g3, setB_length], fun i p hp => ?_⟩
      obtain ⟨p', h1, h2, h3⟩ := g4 i p hp
      by_cases hib : i = b
      · subst hib
        rw [setB_eq, List.getElem?_set_self hblen] at h1
        cases h1
        refine ⟨_, hbl, Nat.le_trans h2 (by simp only [kindC]; split <;> omega), fun _ _ => Nat.le_trans h2 (by simp only [kindC]; split <;> omega)⟩
      · rw [setB_eq, List.getElem?_set_ne (fun e => hib e.symm)] at h1
        exact ⟨p', h1, h2, fun hi ho => h3 (by simpa [hib] using hi) ho⟩
    · rename_i hno
      obtain ⟨g1, g2, g3, g4⟩ := frz_spec (bs := r) h hb
      refine ⟨g1, g2, g3, fun i p hp => ?_⟩
      obtain ⟨p', h1, h2, h3⟩ := g4 i p hp
      refine ⟨p', h1, h2, fun hi ho => ?_⟩
      rcases List.mem_cons.1 hi with rfl | hi
      · obtain ⟨C, t⟩ := p'
        obtain ⟨sh, off, code, cap, k, rfl⟩ := ord_false ho
        cases k with
        | zero =>
          have : kindC ρ [A.rows sh off code cap 0] = 0 := by simp [kindC]
          simp only [this] at h2; omega
        | succ k => exact absurd h1 (hno _ _ _ _ _ _)
      · exact h3 hi ho
theorem resWs_spec {n nb : Nat} {ρ : Env} {m : Nat → Nat} {us : List W} {vals : List Value} (h : ∀ u ∈ us, W.ok n nb ρ u) (hm : us.map (W.den ρ m) = vals) : (resWs us).ok n nb ρ ∧ (resWs us).rel ρ m (tupV vals) := by
  subst hm
  unfold resWs tupV
  split
  · exact ⟨h _ (by simp), rfl⟩
  · rename_i hne
    refine ⟨h, ?_⟩
    split
    · rename_i x hx
      match us, hne, hx with
      | [u], hne, _ => exact absurd rfl (hne u)
    · rfl
theorem noSlc_nil : ∀ {vs : List V}, noSlc vs = true → vs.flatMap slcV = []
  | [], _ => rfl
  | v :: r, h => by
    unfold noSlc at h
    split at h
    · rename_i heq; cases heq
    · cases h
    · rename_i hne heq
      cases heq
      rw [List.flatMap_cons, noSlc_nil h, List.append_nil]
      unfold slcV
      split
      · exact (hne _ _ _ _ rfl).elim
      · rfl
theorem noSlc_spec : ∀ {vs : List V} {b : Nat}, noSlc vs = true → b ∈ vs.flatMap baseV → ∃ sz o ro len cap, V.w (.one (.sl b sz o ro len cap)) ∈ vs
  | [], b, _, h => by simp at h
  | v :: r, b, h, hb => by
    simp only [List.flatMap_cons, List.mem_append] at hb
    rcases hb with hb | hb
    · unfold baseV at hb
      split at hb
      · simp at hb; subst hb; exact ⟨_, _, _, _, _, List.mem_cons_self ..⟩
      · simp [noSlc] at h
      · simp at hb
    · have h' : noSlc r = true := by
        unfold noSlc at h
        split at h
        · rename_i heq; cases heq
        · cases h
        · rename_i heq; cases heq; exact h
      obtain ⟨sz, o, ro, len, cap, h1⟩ := noSlc_spec h' hb
      exact ⟨sz, o, ro, len, cap, List.mem_cons_of_mem _ h1⟩

theorem BCon.E0_gen {c : BCon} {spec : List Int → List Int → Prop} {f : FuncId} {args' : Array Value} (hS : ∀ zs rs, spec zs rs → S c.id zs rs) (n : Nat) (vs : List V) (bl : List Blk) (k : RK) (G : Again) (ρ : Env) (m : Nat → Nat) (w : World) (xs : List Value) (R' : Ending → World → Prop)
    (hc : ∀ zs, inB (bbds c.args) zs → preD c.pre zs → atL (BF w0 ρ m bl (vs.flatMap baseV) (vs.flatMap slcV)) (fun _ => False) w c.args zs xs →
      Calls P f args' w fun e w' => w.Extends w' ∧ ∃ rs us, inB (bbds c.res) rs ∧ spec zs rs ∧ atL (fun g => BF w0 ρ m bl (vs.flatMap baseV) (vs.flatMap slcV) g ∨ w.heap.size ≤ g) (fun g => w.heap.size ≤ g) w' c.res rs us ∧ e = .returned (tupV us))
    (hb : BlOk n bl.length ρ bl) (hw : Mem w0 ρ m bl w) (hv : ∀ v ∈ vs, V.ok n bl.length ρ v) (hr : LRel ρ m vs xs) (hh : (c.E0 n vs bl k).holds S L G ρ) (hk : RKok S L w0 k n bl.length ρ m G R') :
    Calls P f args' w R' := by
  unfold BCon.E0 at hh
  obtain ⟨ρ1, n1, ls, hn1, ha1, ⟨g1, g2, g3⟩, hh⟩ := flatBM_snd (S := S) (L := L) hb hw hv hr G _ hh
  cases hq : (bdOk c.res && (!(c.res.any BD.isRd) || noSlc vs)) with
  | false => rw [hq] at hh; exact hh.elim
  | true =>
    rw [hq] at hh
    simp only [cond_true] at hh
    obtain ⟨hpre, hh⟩ := preM_holds hh
    simp only [T.holds] at hh
    simp only [Bool.and_eq_true, Bool.or_eq_true, Bool.not_eq_true'] at hq
    refine (hc _ g2 hpre (g3 _ fun _ h => h)).mono ?_
    rintro e w' ⟨he, rs, us, r1, r2, r3, rfl⟩
    have hh := allB_elim hh r1 (hS _ _ r2)
    have hb1 := hb.ext ha1 hn1 (Nat.le_refl bl.length)
    have hw1 := (hw.grow he).rho hb ha1
    have ha2 : agree n1 ρ1 (updL ρ1 n1 rs) := agree.updL rs n1 ρ1
    have hb2 := hb1.ext ha2 (Nat.le_add_right n1 (bbds c.res).length) (Nat.le_refl bl.length)
    have hw2 := hw1.rho hb1 ha2
    have hA : At (updL ρ1 n1 rs) n1 rs := At.updL ρ1 n1 rs
    have hrl : rs.length = (bbds c.res).length := inB_len r1
    have haa := ha1.trans ha2 hn1
    have hLat : Later n bl.length ρ m (n1 + (bbds c.res).length) bl.length (updL ρ1 n1 rs) m := ⟨by omega, haa, Nat.le_refl _, fun _ _ => rfl⟩
    have hkd : ∀ (i : Nat) (p : Blk), bl[i]? = some p → kindC (updL ρ1 n1 rs) p.1 = kindC ρ p.1 := fun i p hi => kindC_agree (hb p (List.mem_of_getElem? hi)) haa
    have hdead : ∀ (i : Nat) (p : Blk), bl[i]? = some p → w.heap.size ≤ m i → kindC ρ p.1 = 0 := fun i p hi hge => by
      by_cases h0 : kindC ρ p.1 = 0
      · exact h0
      · have := hw.lt hi h0; omega
    -- the state behind the call
    have fin : ∀ bl' : List Blk, BlOk (n1 + (bbds c.res).length) bl'.length (updL ρ1 n1 rs) bl' → Mem w0 (updL ρ1 n1 rs) m bl' w' → bl'.length = bl.length →
        (∀ (i : Nat) (p : Blk), bl'[i]? = some p → (BF w0 ρ m bl (vs.flatMap baseV) (vs.flatMap slcV) (m i) ∨ w.heap.size ≤ m i) → (c.res.any BD.isRd) = true → kindC (updL ρ1 n1 rs) p.1 ≤ 1) →
        (∀ (i : Nat) (p : Blk), bl'[i]? = some p → w.heap.size ≤ m i → kindC (updL ρ1 n1 rs) p.1 = 0) →
        (argE c.res n1 (n1 + (bbds c.res).length) [] bl' fun n2 us bl2 => k n2 (resWs us) bl2).holds S L G (updL ρ1 n1 rs) → R' (.returned (tupV us)) w' := fun bl' hb' hw' hlen hal hal2 hh => by
      have hF : ∀ g, (BF w0 ρ m bl (vs.flatMap baseV) (vs.flatMap slcV) g ∨ w.heap.size ≤ g) → w0.ex g ∨ w0.ro g ∨ w0.r.heap.size ≤ g := fun g hg => by
        rcases hg with hg | hg
        · exact hg.2
        · exact .inr (.inr (Nat.le_trans hw.hsize hg))
      have hN : ∀ g, w.heap.size ≤ g → w0.b.heap.size ≤ g ∧ w0.r.heap.size ≤ g := fun g hg => ⟨Nat.le_trans hw.ext.size hg, Nat.le_trans hw.hsize hg⟩
      have h1 : (c.res.all fun b => !b.isRd) = true ∨ ∀ (i : Nat) (p : Blk), bl'[i]? = some p → (BF w0 ρ m bl (vs.flatMap baseV) (vs.flatMap slcV) (m i) ∨ w.heap.size ≤ m i) → kindC (updL ρ1 n1 rs) p.1 ≤ 1 := by
        cases hrd : c.res.any BD.isRd with
        | true => exact .inr fun i p hi hf => hal i p hi hf hrd
        | false =>
          left
          rw [List.all_eq_true]
          intro b hb
          cases hbd : b.isRd with
          | false => rfl
          | true => rw [List.any_eq_true.2 ⟨b, hb, hbd⟩] at hrd; cases hrd
      obtain ⟨n', ρ', m', us', bl2, p1, p2, p3, p4, p5, p6⟩ := argE_ok (S := S) (L := L) hF hN (l := c.res) (us := []) (vals := us) hq.1 hb' hw' hA r1 (Nat.le_refl _) r3 h1 (.inr hal2) (fun u hu => by simp at hu) hh
      have hres := resWs_spec (m := m') p5 (by simpa using p4)
      exact hk n' (resWs us') bl2 G ρ' m' w' (tupV us) (hLat.trans (hlen ▸ p1)) (AgA.refl _ _) hres.1 hres.2 p2 p3 p6
    cases hrd : c.res.any BD.isRd with
    | false =>
      rw [hrd] at hh
      exact fin bl hb2 hw2 rfl (fun _ _ _ _ h => by rw [hrd] at h; cases h) (fun i p hi hge => by rw [hkd i p hi]; exact hdead i p hi hge) hh
    | true =>
      rw [hrd] at hh hq
      obtain ⟨f1, f2, f3, f4⟩ := frz_spec (bs := vs.flatMap baseV) hw2 hb2
      have hns : noSlc vs = true := by
        rcases hq.2 with h | h
        · cases h
        · exact h
      refine fin _ (by rw [f3]; exact f2) f1 f3 (fun i p hi hf _ => ?_) (fun i p hi hge => ?_) hh
      · obtain ⟨p', h1, h2, h3⟩ := f4 i p hi
        rw [hkd i p' h1] at h2
        rcases hf with ⟨⟨b, hbm, hbe, q, hq1, hq2, hq3⟩, _⟩ | hge
        · obtain ⟨sz, o, ro, len, cap, hmem⟩ := noSlc_spec hns hbm
          rcases hw.inj i b p' q h1 hq1 (by rw [hbe]) with h5 | h5 | h5 | h5
          · subst h5
            rw [h1] at hq1; cases hq1
            cases ho : isOrd p'.1 with
            | false => exact h3 hbm ho
            | true =>
              have := hq3 ho
              rw [noSlc_nil hns] at this
              simp at this
          · omega
          · omega
          · exact absurd h5 hq2
        · have := hdead i p' h1 hge; omega
      · obtain ⟨p', h1, h2, _⟩ := f4 i p hi
        rw [hkd i p' h1] at h2
        have := hdead i p' h1 hge; omega
theorem BCon.E0_ok {c : BCon} {spec : List Int → List Int → Prop} (hc : c.Ok P w0.b spec) (hS : ∀ zs rs, spec zs rs → S c.id zs rs) (n : Nat) (vs : List V) (bl : List Blk) (k : RK) (G : Again) (ρ : Env) (m : Nat → Nat) (w : World) (xs : List Value) (R' : Ending → World → Prop)
    (hb : BlOk n bl.length ρ bl) (hw : Mem w0 ρ m bl w) (hv : ∀ v ∈ vs, V.ok n bl.length ρ v) (hr : LRel ρ m vs xs) (hh : (c.E0 n vs bl k).holds S L G ρ) (hk : RKok S L w0 k n bl.length ρ m G R') :
    (callFunc c.f xs.toArray).run P w = .ok (.enter c.f xs.toArray) w ∧ Calls P c.f xs.toArray w R' := by
  exact ⟨hc.1 _ _, BCon.E0_gen hS n vs bl k G ρ m w xs R' (fun zs h1 h2 h3 => hc.2 _ w xs zs hw.ext h1 h2 h3) hb hw hv hr hh hk⟩
theorem BCon.E_ok {c : BCon} {spec : List Int → List Int → Prop} (hc : c.Ok P w0.b spec) (hS : ∀ zs rs, spec zs rs → S c.id zs rs) (n : Nat) (vs : List V) (bl : List Blk) (k : RK) (G : Again) (ρ : Env) (m : Nat → Nat) (w : World) (xs : List Value) (R' : Ending → World → Prop)
    (hb : BlOk n bl.length ρ bl) (hw : Mem w0 ρ m bl w) (hv : ∀ v ∈ vs, V.ok n bl.length ρ v) (hr : LRel ρ m vs xs) (hh : (c.E n vs bl k).holds S L G ρ) (hk : RKok S L w0 k n bl.length ρ m G R') :
    (callFunc c.f xs.toArray).run P w = .ok (.enter c.f xs.toArray) w ∧ Calls P c.f xs.toArray w R' := by
  obtain ⟨g1, g2, g3, g4, g5⟩ := zconv_spec (rd := c.res.any BD.isRd) (ds := c.args) hw hb hv hr
  exact c.E0_ok hc hS n _ _ k G ρ m w xs R' g2 g1 (fun v hv => by rw [g3]; exact g4 v hv) g5 hh (by rw [g3]; exact hk)
end
end Go.Rx

/- Contracts with slices out of trees and conditions. -/
set_option linter.unusedVariables false
set_option linter.unusedSimpArgs false
namespace Go.Rx
open M

/-! ### Results -/
def O.sc (n : Nat) : O → Prop
  | l x => x.sc n
  | b x => x.sc n
theorem O.den_agree {n : Nat} {ρ ρ' : Env} (ha : agree n ρ ρ') : ∀ {o : O}, o.sc n → o.den ρ' = o.den ρ
  | .l x, h => Lin.den_agree ha h
  | .b x, h => by simp only [O.den]; rw [BE.den_agree ha h]
theorem outA_sc {k : IntKind} {n nb : Nat} {ρ : Env} : ∀ {l : List A} {os : List O}, outA k l = some os → (∀ a ∈ l, A.ok n nb ρ a) → ∀ o ∈ os, O.sc n o
  | [], os, h, _ => by simp [outA] at h; subst h; intro x hx; simp at hx
  | .int k' x :: s, os, h, hok => by
    simp only [outA] at h
    cases hc : decide (k = k') with
    | false => simp [hc] at h
    | true =>
      cases hr : outA k s with
      | none => simp [hc, hr] at h
      | some r' =>
        simp only [hc, hr, cond_true, Option.some.injEq] at h
        subst h
        intro y hy
        rcases List.mem_cons.1 hy with hy | hy
        · rw [hy]
          have h0 : A.ok n nb ρ (.int k' x) := hok _ (List.mem_cons_self ..)
          have h0 : x.ok n ρ := h0
          exact h0.1
        · exact outA_sc hr (fun a ha => hok a (List.mem_cons_of_mem _ ha)) y hy
  | .bool _ :: _, _, h, _ => by simp [outA] at h
  | .ptr .. :: _, _, h, _ => by simp [outA] at h
  | .pix .. :: _, _, h, _ => by simp [outA] at h
  | .gptr .. :: _, _, h, _ => by simp [outA] at h
  | .slc .. :: _, _, h, _ => by simp [outA] at h
  | .con _ :: _, _, h, _ => by simp [outA] at h
  | .str _ :: _, _, h, _ => by simp [outA] at h
  | .rows .. :: _, _, h, _ => by simp [outA] at h
  | .sl .. :: _, _, h, _ => by simp [outA] at h
  | .ep .. :: _, _, h, _ => by simp [outA] at h
theorem CK.out_sc {c : CK} {a : A} {o : O} {n nb : Nat} {ρ : Env} (h : c.out a = some o) (ha : a.ok n nb ρ) : o.sc n := by
  unfold CK.out at h
  split at h
  · rename_i k _ _ k' x
    cases hk : decide (k = k') with
    | false => simp [hk] at h
    | true =>
      simp only [hk, cond_true, Option.some.injEq] at h
      subst h
      have ha : x.ok n ρ := ha
      exact ha.1
  · simp only [Option.some.injEq] at h; subst h
    exact ha.1
  · simp only [Option.some.injEq] at h; subst h
    exact ha
  · cases h
theorem outM_sc {n nb : Nat} {ρ : Env} : ∀ {d : List CK} {l : List A} {os : List O}, outM d l = some os → (∀ a ∈ l, A.ok n nb ρ a) → ∀ o ∈ os, O.sc n o
  | [], [], os, h, _ => by simp [outM] at h; subst h; intro x hx; simp at hx
  | c :: d, a :: s, os, h, hok => by
    simp only [outM] at h
    cases h1 : c.out a with
    | none => simp [h1] at h
    | some o =>
      cases h2 : outM d s with
      | none => simp [h1, h2] at h
      | some os' =>
        simp only [h1, h2, Option.some.injEq] at h
        subst h
        intro y hy
        rcases List.mem_cons.1 hy with hy | hy
        · rw [hy]; exact CK.out_sc h1 (hok a (List.mem_cons_self ..))
        · exact outM_sc h2 (fun b hb => hok b (List.mem_cons_of_mem _ hb)) y hy
  | [], _ :: _, _, h, _ => by simp [outM] at h
  | _ :: _, [], _, h, _ => by simp [outM] at h
theorem outD_sc {d : D} {u : W} {os : List O} {n nb : Nat} {ρ : Env} (h : outD d u = some os) (hu : u.ok n nb ρ) : ∀ o ∈ os, O.sc n o := by
  unfold outD at h
  split at h
  · rename_i k _ _ k' x
    cases hk : decide (k = k') with
    | false => simp [hk] at h
    | true =>
      simp only [hk, cond_true, Option.some.injEq] at h
      subst h
      have hu : x.ok n ρ := hu
      intro o ho; simp at ho; subst ho; exact hu.1
  · simp only [Option.some.injEq] at h; subst h
    intro o ho; simp at ho; subst ho; exact hu
  · rename_i k n' _ _ l
    cases hk : Nat.beq l.length n' with
    | false => simp [hk] at h
    | true =>
      simp only [hk, cond_true] at h
      exact outA_sc h hu
  · simp only [Option.some.injEq] at h; subst h
    intro o ho; simp at ho; subst ho; exact hu.1
  · exact outM_sc h hu
  · cases h
noncomputable def resM1 (bl : List Blk) : BD → W → M (List O)
  | .d x, u => match outD x u with | some os => pure os | none => fail
  | .rd sh, u => bind (rdM sh bl (.w u)) fun l => pure [.l l]
  | .ow sh e, u => bind (owM sh e bl (.w u)) fun l => pure [.l l]
noncomputable def resMs (bl : List Blk) : List BD → List W → M (List O)
  | [], [] => pure []
  | b :: r, u :: s => bind (resM1 bl b u) fun a => bind (resMs bl r s) fun c => pure (a ++ c)
  | _, _ => fail
noncomputable def resM (bl : List Blk) (ds : List BD) (v : V) : M (List O) :=
  match v with
  | .w u => match ds with | [d] => resM1 bl d u | _ => fail
  | .tup l => match ds with | [_] => fail | _ => resMs bl ds l
  | _ => fail
def O.toW : O → W
  | l x => .one (.int .u8 ⟨x, 0, 0⟩)
  | b x => .one (.bool x)
def W.toO : W → O
  | .one (.int _ x) => .l x.l
  | .one (.bool e) => .b e
  | _ => .l (.const 0)
theorem O.toW_toO (o : O) : o.toW.toO = o := by cases o <;> rfl
def osV (os : List O) : V := .tup (os.map O.toW)
def LeafF (K : List Int → Prop) (v : V) (ρ : Env) : Prop :=
  match v with
  | .tup l => K (l.map fun u => u.toO.den ρ)
  | _ => False
theorem LeafF_osV {K : List Int → Prop} {os : List O} {ρ : Env} : LeafF K (osV os) ρ = K (os.map (O.den ρ)) := by
  unfold LeafF osV
  simp only [List.map_map]
  congr 1
  exact List.map_congr_left fun o _ => by simp [Function.comp, O.toW_toO]
section
variable {S : Nat → List Int → List Int → Prop} {L : V → Env → Prop} {w0 : Base} {P : Program} {w : World}
theorem SlOw.mono {N N' : Nat → Prop} {sh : List CK} {e : TypeId} {rows : List (List Int)} {v : Value} (h : SlOw N w sh e rows v) (hN : ∀ g, N g → N' g) : SlOw N' w sh e rows v := by
  rcases h with h | ⟨g, cap, cells, h1, h2, h3, h4⟩
  · exact .inl h
  · exact .inr ⟨g, cap, cells, h1, h2, hN g h3, h4⟩
def F0 (w0 : Base) (g : Nat) : Prop := w0.ex g ∨ w0.ro g ∨ w0.r.heap.size ≤ g
theorem resM1_snd {d : BD} {u : W} {n : Nat} {ρ : Env} {m : Nat → Nat} {bl : List Blk} (hex : ∀ g, ¬ w0.ex g) (hb : BlOk n bl.length ρ bl) (hw : Mem w0 ρ m bl w) (hu : u.ok n bl.length ρ) :
    Snd S L (resM1 bl d u) n ρ fun ρ' n' os => (∀ o ∈ os, O.sc n' o) ∧ os.length = d.num ∧ (d.isD = false → inB d.bds (os.map (O.den ρ'))) ∧ ∀ zs, d.at (F0 w0) (fun g => w0.r.heap.size ≤ g) w (os.map (O.den ρ') ++ zs) (u.den ρ m) := by
  cases d with
  | d x =>
    unfold resM1
    cases ho : outD x u with
    | none => simp only [ho]; exact Snd.fail
    | some os =>
      simp only [ho]
      have := outD_spec (ρ := ρ) (m := m) ho
      exact Snd.pure ⟨outD_sc ho hu, this.1, fun h => (by simp [BD.isD] at h), fun zs => (this.2 zs).symm⟩
  | rd sh =>
    unfold resM1
    refine (rdM_snd (v := .w u) hb hw hu rfl).bind fun ρ1 n1 l hn ha ⟨g1, g2, g3⟩ => Snd.pure ⟨fun o ho => by simp at ho; subst ho; exact g1, rfl, fun _ => ⟨g2.1, g2.2, trivial⟩, fun zs => ?_⟩
    exact g3.mono fun g hg => hg.2
  | ow sh e =>
    unfold resM1
    refine (owM_snd (v := .w u) hex hb hw hu rfl).bind fun ρ1 n1 l hn ha ⟨g1, g2, g3⟩ => Snd.pure ⟨fun o ho => by simp at ho; subst ho; exact g1, rfl, fun _ => ⟨g2.1, g2.2, trivial⟩, fun zs => g3⟩
theorem map_O_sc {n : Nat} {ρ ρ' : Env} {os : List O} (h : ∀ x ∈ os, O.sc n x) (ha : agree n ρ ρ') : os.map (O.den ρ') = os.map (O.den ρ) := List.map_congr_left fun x hx => O.den_agree ha (h x hx)
theorem resMs_snd {m : Nat → Nat} {bl : List Blk} (hex : ∀ g, ¬ w0.ex g) : ∀ {ds : List BD} {us : List W} {n : Nat} {ρ : Env}, BlOk n bl.length ρ bl → Mem w0 ρ m bl w → (∀ u ∈ us, W.ok n bl.length ρ u) →
    Snd S L (resMs bl ds us) n ρ fun ρ' n' os => (∀ o ∈ os, O.sc n' o) ∧ atL (F0 w0) (fun g => w0.r.heap.size ≤ g) w ds (os.map (O.den ρ')) (us.map (W.den ρ m))
  | [], [], n, ρ, _, _, _ => Snd.pure ⟨fun _ h => by simp at h, trivial⟩
  | b :: r, u :: s, n, ρ, hb, hw, hu => by
    unfold resMs
    refine (resM1_snd hex hb hw (hu u (by simp))).bind fun ρ1 n1 a hn ha ⟨g1, g2, _, g3⟩ => ?_
    refine (resMs_snd (ds := r) (us := s) hex (hb.ext ha hn (Nat.le_refl _)) (hw.rho hb ha) (fun x hx => (hu x (List.mem_cons_of_mem _ hx)).ext ha hn (Nat.le_refl _))).bind fun ρ2 n2 c hn2 ha2 ⟨k1, k2⟩ => Snd.pure ⟨fun o ho => ?_, ?_⟩
    · rcases List.mem_append.1 ho with ho | ho
      · have := g1 o ho
        cases o with
        | l x => exact Lin.sc.mono this hn2
        | b x => exact BE.sc.mono hn2 this
      · exact k1 o ho
    · rw [List.map_append, map_O_sc g1 ha2]
      refine ⟨g3 _, ?_⟩
      rw [← g2, ← List.length_map (f := O.den ρ1) (as := a), List.drop_left]
      have e : s.map (W.den ρ m) = s.map (W.den ρ1 m) := List.map_congr_left fun x hx => (W.den_ext (hu x (List.mem_cons_of_mem _ hx)) ha (fun _ _ => rfl)).symm
      rw [e]; exact k2
  | [], _ :: _, _, _, _, _, _ => Snd.fail
  | _ :: _, [], _, _, _, _, _ => Snd.fail
theorem resM_snd {ds : List BD} {v : V} {val : Value} {n : Nat} {ρ : Env} {m : Nat → Nat} {bl : List Blk} (hex : ∀ g, ¬ w0.ex g) (hb : BlOk n bl.length ρ bl) (hw : Mem w0 ρ m bl w) (hv : v.ok n bl.length ρ) (hr : v.rel ρ m val) :
    Snd S L (resM bl ds v) n ρ fun ρ' n' os => ∃ us, val = tupV us ∧ atL (F0 w0) (fun g => w0.r.heap.size ≤ g) w ds (os.map (O.den ρ')) us := by
  unfold resM
  split
  · rename_i u
    split
    · rename_i d
      refine (resM1_snd hex hb hw hv).mono fun ρ1 n1 os hn ha ⟨g1, g2, _, g3⟩ => ⟨[u.den ρ m], hr, ?_, trivial⟩
      have := g3 []
      rwa [List.append_nil] at this
    · exact Snd.fail
  · rename_i l
    split
    · exact Snd.fail
    · rename_i hne
      refine (resMs_snd (ds := ds) hex hb hw hv).mono fun ρ1 n1 os hn ha ⟨g1, g2⟩ => ⟨l.map (W.den ρ m), ?_, g2⟩
      have hr : val = .tuple (l.map (W.den ρ m)).toArray := hr
      rw [hr]
      unfold tupV
      split
      · rename_i x hx
        exfalso
        have hl : l.length = 1 := by have := congrArg List.length hx; simpa using this
        match ds, l, hl, g2, hne with
        | [d], [u], _, _, hne => exact hne d rfl
        | [], [u], _, g2, _ => simp [atL] at g2
        | _ :: _ :: _, [u], _, g2, _ => simp [atL] at g2
      · rfl
  · exact Snd.fail

/-! ### The tree -/
def lvar (i : Nat) : Lin := ⟨0, [(1, i)]⟩
theorem lvars_den (ρ : Env) (zs : List Int) : ((List.range zs.length).map lvar).map (·.den (updL ρ 0 zs)) = zs := by
  refine list_ext_getD (by simp) fun j hj => ?_
  have hj : j < zs.length := by simpa using hj
  have := At.updL ρ 0 zs j hj
  rw [Nat.zero_add] at this
  simp [lvar, Lin.den, denT, List.getD, hj] at this ⊢
  exact this
noncomputable def BCon.tree (bc : BC) (P : Program) (gl : Glo) (cal : Cal) (li : FuncId → Nat → Option LoopI) (rounds d : Nat) (c : BCon) : T :=
  cond (bdOk c.args && !(c.args.any BD.isOw)) (preA c.pre ((List.range (bbds c.args).length).map lvar) (argE c.args 0 (bbds c.args).length [] [] fun n us bl => callB bc P gl cal li rounds d c.f n (us.map V.w) bl fun n' v bl' => resM bl' c.res v n' fun os _ => .leaf (osV os))) .stuck
theorem LRel_W {ρ : Env} {m : Nat → Nat} : ∀ {us : List W} {xs : List Value}, us.map (W.den ρ m) = xs → LRel ρ m (us.map V.w) xs
  | [], [], _ => trivial
  | u :: us, x :: xs, h => by
    simp only [List.map_cons, List.cons.injEq] at h
    exact ⟨h.1.symm, LRel_W h.2⟩
  | [], _ :: _, h => by simp at h
  | _ :: _, [], h => by simp at h
/-- What is known of the callees. -/
noncomputable def bcOf : List BCon → BC
  | [], _ => none
  | c :: r, f => cond (Nat.beq c.f f) (some c.E) (bcOf r f)
theorem bcOf_ok {wb : World} {r : World} {ex ro : Nat → Prop} : ∀ {l : List BCon}, (∀ c ∈ l, c.Ok P wb (S c.id)) → BcOk S L ⟨wb, r, ex, ro, []⟩ P (bcOf l)
  | [], _ => fun f g h => by cases h
  | c :: l, h => fun f g hf => by
    unfold bcOf at hf
    cases hb : Nat.beq c.f f with
    | true =>
      rw [hb] at hf
      simp only [cond_true, Option.some.injEq] at hf
      have := Nat.eq_of_beq_eq_true hb
      subst this; subst hf
      intro n vs bl k G ρ m w xs R' h1 h2 h3 h4 h5 h6
      exact BCon.E_ok (w0 := ⟨wb, r, ex, ro, []⟩) (h c (by simp)) (fun _ _ h => h) n vs bl k G ρ m w xs R' h1 h2 h3 h4 h5 h6
    | false =>
      rw [hb] at hf
      exact bcOf_ok (fun c hc => h c (List.mem_cons_of_mem _ hc)) f g hf
/-- **A contract, out of its condition**: whatever is known of the callees. -/
theorem BCon.of_bc {wb : World} {gl : Glo} {c : BCon} {bc : BC} {cal : Cal} {li : FuncId → Nat → Option LoopI} {rounds d : Nat} {spec : List Int → List Int → Prop} (hm : P.follows .mixedOrders = true) (hcal : ∀ r ex ro, CalOk S P gl ⟨wb, r, ex, ro, []⟩ cal) (hg : GOk gl ⟨wb, wb, fun _ => False, fun _ => False, []⟩)
    (hbc : ∀ (L : V → Env → Prop) (r : World) (ro : Nat → Prop), BcOk S L ⟨wb, r, fun _ => False, ro, []⟩ P bc) (hf : ∀ args w, (callFunc c.f args).run P w = .ok (.enter c.f args) w)
    (ht : allB (bbds c.args) fun zs => (c.tree bc P gl cal li rounds d).holds S (LeafF fun rs => inB (bbds c.res) rs ∧ spec zs rs) (fun _ _ => False) (updL (fun _ => 0) 0 zs)) : c.Ok P wb spec := by
  refine ⟨hf, fun F w vs zs hw hz hpz hat => ?_⟩
  have hh := allB_elim ht hz
  have hzl := inB_len hz
  unfold BCon.tree at hh
  cases hq : (bdOk c.args && !(c.args.any BD.isOw)) with
  | false => rw [hq] at hh; exact hh.elim
  | true =>
    rw [hq] at hh
    simp only [cond_true] at hh
    have hh := preA_holds hh (by rw [← hzl, lvars_den]; exact hpz)
    simp only [Bool.and_eq_true, Bool.not_eq_true'] at hq
    have hmem : Mem ⟨wb, w, fun _ => False, F, []⟩ (updL (fun _ => 0) 0 zs) (fun _ => 0) [] w := ⟨hw, rfl, rfl, rfl, Nat.le_refl _, fun _ _ _ => rfl, fun i cs t h => by simp at h, fun i sh off code cap kind t h => by simp at h, fun i j p q h => by simp at h⟩
    have hall : (c.args.all fun b => !b.isOw) = true := by
      rw [List.all_eq_true]
      intro b hb
      cases hbd : b.isOw with
      | false => rfl
      | true => rw [List.any_eq_true.2 ⟨b, hb, hbd⟩] at hq; cases hq.2
    obtain ⟨n', ρ', m', us, bl, p1, p2, p3, p4, p5, p6⟩ := argE_ok (S := S) (L := _) (w0 := ⟨wb, w, fun _ => False, F, []⟩) (F := F) (N := fun _ => False) (fun g hg => .inr (.inl hg)) (fun g hg => hg.elim) (l := c.args) (s := 0) (us := []) (bl := []) (m := fun _ => 0) hq.1 (fun p hp => by simp at hp) hmem (At.updL _ 0 zs) hz (by omega) hat (.inr fun i p h => by simp at h) (.inl hall) (fun u hu => by simp at hu) hh
    have hgl : GOk gl ⟨wb, w, fun _ => False, F, []⟩ := hg
    refine (callB_ok (S := S) (w0 := ⟨wb, w, fun _ => False, F, []⟩) rfl hm (hcal w (fun _ => False) F) hgl (hbc _ _ _) d c.f n' (us.map V.w) bl _ _ ρ' m' w vs _ p2 p3 (fun v hv => by
      obtain ⟨u, hu, rfl⟩ := List.mem_map.1 hv
      exact p5 u hu) (LRel_W (by simpa using p4)) p6 ?_).2
    intro n2 v bl' G' ρ2 m2 w' val h1 h2 h3 h4 h5 h6 h7
    obtain ⟨ρ3, n3, os, hn3, ha3, ⟨xs, hx1, hx2⟩, hl⟩ := resM_snd (S := S) (w0 := ⟨wb, w, fun _ => False, F, []⟩) (fun g hg => hg) h5 h6 h3 h4 G' _ h7
    have hl : LeafF _ (osV os) ρ3 := hl
    rw [LeafF_osV] at hl
    refine ⟨?_, os.map (O.den ρ3), xs, hl.1, hl.2, ?_, by rw [hx1]⟩
    · have hblk : ∀ i : Nat, i < w.heap.size → w'.heap[i]? = w.heap[i]? := fun i hi => h6.frm i hi fun h => h
      exact ⟨h6.hos, h6.htape, h6.hout, h6.hsize, fun a ha => by simp only [World.cell?, hblk a.block ha], fun a ha => by simp only [World.frozen?, hblk a.block ha], hblk⟩
    · exact atL_mono (fun g hg => by
        rcases hg with hg | hg | hg
        · exact hg.elim
        · exact .inl hg
        · exact .inr hg) (fun g hg => hg) hx2
where
  atL_mono {F F' N N' : Nat → Prop} {w : World} (hF : ∀ g, F g → F' g) (hN : ∀ g, N g → N' g) : ∀ {ds : List BD} {zs : List Int} {vs : List Value}, atL F N w ds zs vs → atL F' N' w ds zs vs
  | [], _, [], _ => trivial
  | .d x :: r, zs, v :: vs, h => ⟨h.1, atL_mono hF hN h.2⟩
  | .rd sh :: r, zs, v :: vs, h => ⟨SlAt.mono h.1 hF, atL_mono hF hN h.2⟩
  | .ow sh e :: r, zs, v :: vs, h => ⟨SlOw.mono h.1 hN, atL_mono hF hN h.2⟩
  | [], _, _ :: _, h => h.elim
  | _ :: _, _, [], h => by simp [atL] at h
/-- The same, with contracts of one kind. -/
theorem BCon.of_vc {wb : World} {gl : Glo} {c : BCon} {bcs : List BCon} {cal : Cal} {li : FuncId → Nat → Option LoopI} {rounds d : Nat} {spec : List Int → List Int → Prop} (hm : P.follows .mixedOrders = true) (hcal : ∀ r ex ro, CalOk S P gl ⟨wb, r, ex, ro, []⟩ cal) (hg : GOk gl ⟨wb, wb, fun _ => False, fun _ => False, []⟩)
    (hbc : ∀ b ∈ bcs, b.Ok P wb (S b.id)) (hf : ∀ args w, (callFunc c.f args).run P w = .ok (.enter c.f args) w)
    (ht : allB (bbds c.args) fun zs => (c.tree (bcOf bcs) P gl cal li rounds d).holds S (LeafF fun rs => inB (bbds c.res) rs ∧ spec zs rs) (fun _ _ => False) (updL (fun _ => 0) 0 zs)) : c.Ok P wb spec :=
  BCon.of_bc (bc := bcOf bcs) hm hcal hg (fun _ _ _ => bcOf_ok hbc) hf ht
end

/-! ### By blocks -/
def BD.nums : BD → List Nat
  | .d x => x.nums
  | _ => [1]
def numsBD (ds : List BD) : List Nat := ds.flatMap BD.nums
def LeafFB (ds : List BD) (K : List (List Int) → Prop) (v : V) (st : BSt) (dy : BDy) : Prop :=
  match v with
  | .tup l => K ((splitL (numsBD ds) (l.map W.toO)).map (segO st dy))
  | _ => False
theorem LeafFB_sound {ds : List BD} {K : List (List Int) → Prop} (v : V) (ρ : Env) (st : BSt) (dy : BDy) (ht : Tells ρ st dy) (h : LeafFB ds K v st dy) : LeafF (fun rs => K (splitL (numsBD ds) rs)) v ρ := by
  unfold LeafFB at h
  unfold LeafF
  split at h
  · rename_i l
    have e : l.map (fun u => u.toO.den ρ) = (l.map W.toO).map (O.den ρ) := by simp
    simp only [e]
    rw [splitL_map]
    rwa [show (splitL (numsBD ds) (l.map W.toO)).map (segO st dy) = (splitL (numsBD ds) (l.map W.toO)).map (List.map (O.den ρ)) from List.map_congr_left fun o _ => segO_eq ht o] at h
  · exact h.elim
/-- **A condition, by blocks.** -/
def VcF (sh : Nat → List Nat × List Nat) (lsh : Nat → List Nat) (S : Nat → List (List Int) → List (List Int) → Prop) (K : List (List Int) → List (List Int) → Prop) (lens : List Nat) (bds : List (Int × Int)) (ds : List BD) (t : T) : Prop :=
  allBl lens 0 bds (fun st dy zs => t.holdsB sh lsh S (LeafFB ds (K zs)) (fun _ _ => False) st dy) [] []
theorem VcF_sound {sh : Nat → List Nat × List Nat} {lsh : Nat → List Nat} {S : Nat → List (List Int) → List (List Int) → Prop} {K : List (List Int) → List (List Int) → Prop} {lens : List Nat} {bds : List (Int × Int)} {ds : List BD} {t : T}
    (h : VcF sh lsh S K lens bds ds t) : allB bds fun zs => t.holds (flatS sh S) (LeafF fun rs => K (splitL lens zs) (splitL (numsBD ds) rs)) (fun _ _ => False) (updL (fun _ => 0) 0 zs) := by
  refine allB_intro fun zs hi => ?_
  obtain ⟨st, dy, h1, h2⟩ := allBl_elim h (show Tells (fun _ => 0) [] [] from ⟨trivial, fun _ => rfl⟩) hi
  exact holdsB_sound (fun v ρ st dy ht hl => LeafFB_sound v ρ st dy ht hl) t _ _ _ st dy (fun _ _ hf => hf.elim) h1 h2
end Go.Rx

/- Contracts under a condition; functions of the library without a body. -/
set_option linter.unusedVariables false
set_option linter.unusedSimpArgs false
namespace Go.Rx
open M

/-- A contract that asks something of its arguments' numbers. -/
structure QCon where
  c : Con
  pre : Nat
def QCon.Ok (P : Program) (wb : World) (q : QCon) (spec : List Int → List Int → Prop) : Prop :=
  ∀ zs, inB (bdsL q.c.args) zs → chkD q.pre zs → ∃ rs, inB (bdsL q.c.res) rs ∧ spec zs rs ∧ ∀ w, wb.Extends w → FRes P q.c.f (valL q.c.args zs).toArray w (resVal q.c.res rs)
noncomputable def QCon.M (q : QCon) : List Blk → List V → M V := fun _ vs n k =>
  match flatL q.c.args vs with
  | some l => .chk q.pre l (.call q.c.id l n (bdsL q.c.res) (k (resV q.c.res n) (n + (bdsL q.c.res).length)))
  | none => .stuck
noncomputable def calQ (qs : List QCon) (cons : List Con) : Cal := fun f =>
  match qs.filter (fun q => Nat.beq f q.c.f) with
  | [] => calC cons f
  | l => some fun bl vs n k => match l.find? (fun q => (flatL q.c.args vs).isSome) with
    | some q => q.M bl vs n k
    | none => match calC cons f with
      | some g => g bl vs n k
      | none => .stuck
section
variable {S : Nat → List Int → List Int → Prop} {P : Program} {gl : Glo} {w0 : Base}
theorem QCon.snd {q : QCon} {spec : List Int → List Int → Prop} (hc : q.Ok P w0.b spec) (hS : ∀ zs rs, spec zs rs → S q.c.id zs rs) (L : V → Env → Prop) (n : Nat) (ρ : Env) (m : Nat → Nat) (bl : List Blk) (vs : List V) (xs : List Value)
    (hvs : ∀ v ∈ vs, V.ok n bl.length ρ v) (hr : LRel ρ m vs xs) : Snd S L (q.M bl vs) n ρ fun ρ' n' v => v.ok n' bl.length ρ' ∧ ∃ val, v.rel ρ' m val ∧ ∀ w, Mem w0 ρ m bl w → FRes P q.c.f xs.toArray w val := by
  intro G k hk
  unfold QCon.M at hk
  cases hl : flatL q.c.args vs with
  | none => simp [hl, T.holds] at hk
  | some l =>
    simp only [hl] at hk
    obtain ⟨hk0, hk⟩ := hk
    obtain ⟨h1, h2⟩ := flatL_spec hl hvs hr
    obtain ⟨rs, r1, r2, r3⟩ := hc _ h1 hk0
    have hh := callL hk r1 (hS _ _ r2)
    have hlen := inB_len r1
    have hres := resV_spec (m := m) (nb := bl.length) (N := n + (bdsL q.c.res).length) r1 (At.updL ρ n rs) (Nat.le_refl _)
    refine ⟨_, _, _, Nat.le_add_right _ _, agree.updL rs n ρ, ⟨hres.1, _, hres.2, fun w hw => ?_⟩, hh⟩
    rw [h2] at r3
    exact r3 w hw.ext
theorem calQ_ok {qs : List QCon} {cons : List Con} (hq : ∀ q ∈ qs, q.Ok P w0.b (S q.c.id)) (hc : ∀ c ∈ cons, c.OkF P w0.b (S c.id)) : CalOk S P gl w0 (calQ qs cons) := by
  intro f g hfg L n ρ m bl vs xs h1 h2 h3 h4
  unfold calQ at hfg
  split at hfg
  · exact calC_ok (gl := gl) hc f g hfg L n ρ m bl vs xs h1 h2 h3 h4
  · rename_i l hl
    simp only [Option.some.injEq] at hfg
    subst hfg
    intro G k hk
    simp only at hk
    split at hk
    · rename_i q hcf
      have hin := List.mem_filter.1 (List.mem_of_find?_eq_some hcf)
      have hff := Nat.eq_of_beq_eq_true hin.2
      subst hff
      exact QCon.snd (hq q hin.1) (fun _ _ h => h) L n ρ m bl vs xs h3 h4 G k hk
    · split at hk
      · rename_i g' hg'
        exact calC_ok (gl := gl) hc f g' hg' L n ρ m bl vs xs h1 h2 h3 h4 G k hk
      · exact hk.elim

/-! ### IndexByteString -/
/-- The place of the first byte c; below 0: there is none. -/
def idx (c : Int) : List UInt8 → Int
  | [] => -1
  | b :: r => if (b.toNat : Int) = c then 0 else if idx c r < 0 then -1 else idx c r + 1
theorem idx_range (c : Int) : ∀ l : List UInt8, -1 ≤ idx c l ∧ idx c l < l.length
  | [] => by simp [idx]
  | b :: r => by
    have := idx_range c r
    simp only [idx, List.length_cons]
    split
    · omega
    · split <;> omega
theorem find_range (p : Nat → Bool) : ∀ n : Nat, (List.range (n + 1)).find? p = if p 0 = true then some 0 else ((List.range n).find? fun i => p (i + 1)).map (· + 1) := fun n => by
  rw [List.range_succ_eq_map, List.find?_cons]
  cases h : p 0 with
  | true => simp
  | false =>
    simp only [Bool.false_eq_true, if_false]
    rw [List.find?_map]; rfl
theorem idx_find (c : Int) : ∀ l : List UInt8, (match (List.range l.length).find? fun i => decide (((l.getD i 0).toNat : Int) = c) with | some i => (i : Int) | none => -1) = idx c l
  | [] => rfl
  | b :: r => by
    have ih := idx_find c r
    rw [List.length_cons, find_range]
    simp only [List.getD_cons_zero, List.getD_cons_succ, decide_eq_true_eq, idx]
    by_cases h : (b.toNat : Int) = c
    · simp [h]
    · simp only [if_neg h]
      have hr := idx_range c r
      cases hf : (List.range r.length).find? fun i => decide (((r.getD i 0).toNat : Int) = c) with
      | none => rw [hf] at ih; simp only [Option.map_none] at ih ⊢; rw [← ih]; simp
      | some i => rw [hf] at ih; simp only [Option.map_some] at ih ⊢; rw [← ih, if_neg (by omega)]; rfl
theorem find_congr {α : Type} {p q : α → Bool} : ∀ {l : List α}, (∀ x ∈ l, p x = q x) → l.find? p = l.find? q
  | [], _ => rfl
  | x :: r, h => by
    rw [List.find?_cons, List.find?_cons, h x (by simp), find_congr fun y hy => h y (List.mem_cons_of_mem _ hy)]
theorem run_indexByte (l : List UInt8) (c : Int) (h0 : 0 ≤ c) (h1 : c ≤ 255) (w : World) : (Extern.BytealgIndexByte.indexByte #[.string (bA l), .int .u8 c]).run P w = .ok (.int .i64 (idx c l)) w := by
  have hsz : (bA l).size = l.length := bA_size l
  have hget : ∀ i, i < l.length → (bA l)[i]! = l.getD i 0 := fun i hi => by
    have : i < (bA l).size := by omega
    rw [getElem!_pos (bA l) i this]
    simp only [List.getD, List.getElem?_eq_getElem hi, Option.getD_some]
    rfl
  have e : ((List.range (bA l).size).find? fun i => (bA l)[i]! == c.toNat.toUInt8) = (List.range l.length).find? fun i => decide (((l.getD i 0).toNat : Int) = c) := by
    rw [hsz]
    refine find_congr fun i hi => ?_
    have hi := List.mem_range.1 hi
    rw [hget i hi]
    have hc : c.toNat.toUInt8.toNat = c.toNat := by simp; omega
    rw [Bool.eq_iff_iff]
    simp only [beq_iff_eq, decide_eq_true_eq]
    rw [← UInt8.toNat_inj, hc]
    omega
  have hf := idx_find c l
  have hd : Extern.BytealgIndexByte.indexByte #[.string (bA l), .int .u8 c] = (match (List.range (bA l).size).find? (fun i => (bA l)[i]! == c.toNat.toUInt8) with
    | some i => Pure.pure (goInt i)
    | none => Pure.pure (goInt (-1)) : Sem Value) := rfl
  rw [hd, e, ← hf]
  cases (List.range l.length).find? fun i => decide (((l.getD i 0).toNat : Int) = c) <;> rfl
theorem ibs_ok {f : FuncId} {fn : Func} {id : Nat} {wb : World} (hf : P.funcs[f]? = some fn) (hname : (fn.name == "runtime.NumGoroutine") = false) (hb : fn.body.isNone = true) (hn : Extern.findNext fn = none) (he : Extern.find fn = some Extern.BytealgIndexByte.indexByte) :
    (⟨f, id, [.str, .int .u8 0 255], [.int .i64 (-1) 9223372036854775807]⟩ : Con).OkF P wb fun zs rs => rs = [idx (zs.getD 1 0) (sOf (zs.getD 0 0))] := by
  intro zs hz
  match zs, hz with
  | [s, c], hz =>
    obtain ⟨s1, s2, c1, c2, _⟩ := hz
    have hr := idx_range c (sOf s)
    have hl : (sOf s).length ≤ 9223372036854775807 := by have := HB_s s2; unfold mxL at this; omega
    refine ⟨[idx c (sOf s)], (show inB [((-1 : Int), 9223372036854775807)] _ from ⟨by omega, by omega, trivial⟩), rfl, fun w _ => .inl ?_⟩
    rw [run_callFunc_extern hf hname hb hn he]
    have := run_indexByte (P := P) (sOf s) c c1 c2 w
    show ((Extern.BytealgIndexByte.indexByte #[.string (bA (sOf s)), .int .u8 c]).run P w).andThen _ = _
    rw [this]; rfl
  | [], h => exact h.elim
  | [_], h => exact (h.2.2).elim
  | _ :: _ :: _ :: _, h => exact (h.2.2.2.2).elim
end
end Go.Rx

/- Contracts whose results are one as values; contracts under a condition, out of a tree. -/
set_option linter.unusedVariables false
set_option linter.unusedSimpArgs false
namespace Go.Rx
section
variable {S : Nat → List Int → List Int → Prop} {P : Program} {gl : Glo} {wb : World}
/-- The specification leaves one value. -/
def OneV (args res : List D) (spec : List Int → List Int → Prop) : Prop := ∀ zs rs rs', inB (bdsL args) zs → inB (bdsL res) rs → inB (bdsL res) rs' → spec zs rs → spec zs rs' → resVal res rs = resVal res rs'
theorem Con.of_vcv {c : Con} {cal : Cal} {li : FuncId → Nat → Option LoopI} {rounds d : Nat} {spec : List Int → List Int → Prop} (hm : P.follows .mixedOrders = true) (hcal : ∀ r ex ro, CalOk S P gl ⟨wb, r, ex, ro, []⟩ cal) (hg : GOk gl ⟨wb, wb, fun _ => False, fun _ => False, []⟩)
    (hf : ∀ args w, (callFunc c.f args).run P w = .ok (.enter c.f args) w) (hu : OneV c.args c.res spec)
    (ht : allB (bdsL c.args) fun zs => (c.tree P gl cal li rounds d).holds S (LeafK c.res fun rs => inB (bdsL c.res) rs ∧ spec zs rs) (fun _ _ => False) (updL (fun _ => 0) 0 zs)) : c.Ok P wb spec := by
  refine ⟨hf, fun zs hz => ?_⟩
  have h0 := Con.calls hm hcal hg hz (allB_elim ht hz) wb (World.Extends.refl wb)
  obtain ⟨e, w', v, ρ', m, val, h1, h2, h3, h4⟩ := Calls.some h0
  obtain ⟨rs, ⟨hb, hs⟩, hv⟩ := LeafK_spec h3 h2
  refine ⟨rs, hb, hs, fun w hw => ?_⟩
  refine (Con.calls hm hcal hg hz (allB_elim ht hz) w hw).mono fun e w' ⟨v, ρ', m, val, h1, h2, h3, h4⟩ => ?_
  obtain ⟨rs', ⟨hb', hs'⟩, hv'⟩ := LeafK_spec h3 h2
  rw [hu zs rs' rs hz hb' hb hs' hs] at hv'
  exact ⟨by rw [h1, hv'], h4⟩
noncomputable def QCon.tree (P : Program) (gl : Glo) (cal : Cal) (li : FuncId → Nat → Option LoopI) (rounds d : Nat) (q : QCon) : T :=
  .asm q.pre ((List.range (bdsL q.c.args).length).map lvar) (q.c.tree P gl cal li rounds d)
theorem QCon.of_vcv {q : QCon} {cal : Cal} {li : FuncId → Nat → Option LoopI} {rounds d : Nat} {spec : List Int → List Int → Prop} (hm : P.follows .mixedOrders = true) (hcal : ∀ r ex ro, CalOk S P gl ⟨wb, r, ex, ro, []⟩ cal) (hg : GOk gl ⟨wb, wb, fun _ => False, fun _ => False, []⟩)
    (hf : ∀ args w, (callFunc q.c.f args).run P w = .ok (.enter q.c.f args) w) (hu : OneV q.c.args q.c.res spec)
    (ht : allB (bdsL q.c.args) fun zs => (q.tree P gl cal li rounds d).holds S (LeafK q.c.res fun rs => inB (bdsL q.c.res) rs ∧ spec zs rs) (fun _ _ => False) (updL (fun _ => 0) 0 zs)) : q.Ok P wb spec := by
  intro zs hz hp
  have ht' := allB_elim ht hz
  have hl := inB_len hz
  unfold QCon.tree at ht'
  rw [← hl] at ht'
  have ht' := ht' (by rw [lvars_den]; exact hp)
  have h0 := Con.calls hm hcal hg hz ht' wb (World.Extends.refl wb)
  obtain ⟨e, w', v, ρ', m, val, h1, h2, h3, h4⟩ := Calls.some h0
  obtain ⟨rs, ⟨hb, hs⟩, hv⟩ := LeafK_spec h3 h2
  refine ⟨rs, hb, hs, fun w hw => .inr ⟨hf _ _, ?_⟩⟩
  refine (Con.calls hm hcal hg hz ht' w hw).mono fun e w' ⟨v, ρ', m, val, h1, h2, h3, h4⟩ => ?_
  obtain ⟨rs', ⟨hb', hs'⟩, hv'⟩ := LeafK_spec h3 h2
  rw [hu zs rs' rs hz hb' hb hs' hs] at hv'
  exact ⟨by rw [h1, hv'], h4⟩
end
/-! ### By blocks -/
theorem splitL_flatten {α : Type} : ∀ (ks : List Nat) (l : List α), (splitL ks l).flatten = l
  | [], [] => rfl
  | [], _ :: _ => by simp [splitL]
  | k :: ks, l => by simp only [splitL, List.flatten_cons, splitL_flatten ks, List.take_append_drop]
section
variable {P : Program} {gl : Glo} {wb : World} {sh : Nat → List Nat × List Nat} {SB : Nat → List (List Int) → List (List Int) → Prop}
/-- What is to be shown at a function's end. -/
def KBv (SB : Nat → List (List Int) → List (List Int) → Prop) (res : List D) (id : Nat) : List (List Int) → List (List Int) → Prop := fun zs rs => inB (bdsL res) rs.flatten ∧ SB id zs rs
theorem vcb_flatv {lsh : Nat → List Nat} {id : Nat} {lens : List Nat} {bds : List (Int × Int)} {ds : List D} {t : T} (hl : lens = (sh id).1) (hd : numsD ds = (sh id).2) (h : VcB sh lsh SB (KBv SB ds id) lens bds ds t) :
    allB bds fun zs => t.holds (flatS sh SB) (LeafK ds fun rs => inB (bdsL ds) rs ∧ flatS sh SB id zs rs) (fun _ _ => False) (updL (fun _ => 0) 0 zs) := by
  refine allB_intro fun zs hz => ?_
  have h := allB_elim (VcB_sound h) hz
  simp only [KBv, splitL_flatten] at h
  rw [hl, hd] at h
  exact h
theorem ok_vcb {c : Con} {cal : Cal} {li : FuncId → Nat → Option LoopI} {rounds d : Nat} {lsh : Nat → List Nat} {lens : List Nat} (hm : P.follows .mixedOrders = true) (hcal : ∀ r ex ro, CalOk (flatS sh SB) P gl ⟨wb, r, ex, ro, []⟩ cal) (hg : GOk gl ⟨wb, wb, fun _ => False, fun _ => False, []⟩)
    (hf : goB P c.f = true) (hu : OneV c.args c.res (flatS sh SB c.id)) (hl : lens = (sh c.id).1) (hd : numsD c.res = (sh c.id).2)
    (hv : VcB sh lsh SB (KBv SB c.res c.id) lens (bdsL c.args) c.res (c.tree P gl cal li rounds d)) : c.Ok P wb (flatS sh SB c.id) :=
  Con.of_vcv hm hcal hg (enters hf) hu (vcb_flatv hl hd hv)
theorem qok_vcb {q : QCon} {cal : Cal} {li : FuncId → Nat → Option LoopI} {rounds d : Nat} {lsh : Nat → List Nat} {lens : List Nat} (hm : P.follows .mixedOrders = true) (hcal : ∀ r ex ro, CalOk (flatS sh SB) P gl ⟨wb, r, ex, ro, []⟩ cal) (hg : GOk gl ⟨wb, wb, fun _ => False, fun _ => False, []⟩)
    (hf : goB P q.c.f = true) (hu : OneV q.c.args q.c.res (flatS sh SB q.c.id)) (hl : lens = (sh q.c.id).1) (hd : numsD q.c.res = (sh q.c.id).2)
    (hv : VcB sh lsh SB (KBv SB q.c.res q.c.id) lens (bdsL q.c.args) q.c.res (q.tree P gl cal li rounds d)) : q.Ok P wb (flatS sh SB q.c.id) :=
  QCon.of_vcv hm hcal hg (enters hf) hu (vcb_flatv hl hd hv)
end
end Go.Rx

/- The row of a law: its parameters opened (words, texts, structs, arrays, slices of such), and carried over the call. -/
set_option linter.unusedVariables false
set_option linter.unusedSimpArgs false
namespace Go.Rx
open Go.ChangeShapes Go.WideShapes Go.RowKit
variable {H : Type} {enc : TypeId × Value → H} {P : Program}
/-- The cells of fields, one behind the other. -/
def shFs (g : TypeId → Option (List CK)) (cells : TypeId → Nat) : List Field → Nat → Option (List CK)
  | [], _ => some []
  | f :: r, o => match g f.type, shFs g cells r (o + cells f.type) with
    | some l, some m => cond (Nat.beq f.offset o && Nat.beq (cells f.type) l.length) (some (l ++ m)) none
    | _, _ => none
/-- The cells of a type. -/
def shT (P : Program) : Nat → TypeId → Option (List CK)
  | 0, _ => none
  | d + 1, t => match P.underlying t with
    | some (.int k) => some [.int k k.min k.max]
    | some .string => some [.str]
    | some .bool => some [.bool]
    | some (.struct fs) => shFs (shT P d) P.cellsOf fs.toList 0
    | some (.array n e) => match shT P d e with
      | some l => cond (Nat.beq (P.cellsOf e) l.length) (some (List.replicate n l).flatten) none
      | none => none
    | _ => none
theorem RowOk.append : ∀ {a b : List CK} {x y : List Int}, RowOk a x → RowOk b y → RowOk (a ++ b) (x ++ y) ∧ rowV (a ++ b) (x ++ y) = rowV a x ++ rowV b y
  | [], _, [], _, _, h => ⟨h, rfl⟩
  | _ :: _, _, _ :: _, _, h, h' => by
    have := RowOk.append h.2 h'
    exact ⟨⟨h.1, this.1⟩, by simp only [List.cons_append, rowV, this.2]⟩
  | [], _, _ :: _, _, h, _ => h.elim
  | _ :: _, _, [], _, h, _ => h.elim
/-- What opening one type says. -/
def OpenAt (enc : TypeId × Value → H) (P : Program) (w : World) (base : Nat) (spare : Nat → Bool) (held : Bool) (t : TypeId) (sh : List CK) : Prop :=
  ∀ (n : Nat) (cs : List Value) (x : DataW H × List MemPlace), DataW.trod enc P w base spare held n t cs = some x → cs.length = sh.length → (∀ m ∈ x.1.weights P t, m ≤ reachBytes) →
    ∃ zs, RowOk sh zs ∧ cs = rowV sh zs ∧ x.2 = []
theorem open_fs {base n : Nat} {w : World} {spare : Nat → Bool} {held : Bool} {g : TypeId → Option (List CK)} (hg : ∀ t sh, g t = some sh → OpenAt enc P w base spare held t sh) {cs : List Value} : ∀ (fs : List Field) (o : Nat) (sh : List CK) (xs : List (DataW H × List MemPlace)), shFs g P.cellsOf fs o = some sh → cs.length = o + sh.length → xs.length = fs.length →
    (∀ (j : Nat) (f : Field), fs[j]? = some f → DataW.trod enc P w base spare held n f.type ((cs.drop f.offset).take (P.cellsOf f.type)) = xs[j]?) →
    (∀ m ∈ DataW.weightsEach P (fs.map (·.type)) (xs.map (·.1)), m ≤ reachBytes) →
    ∃ zs, RowOk sh zs ∧ cs.drop o = rowV sh zs ∧ xs.flatMap (·.2) = []
  | [], o, sh, xs, h, hl, hx, _, _ => by
    simp only [shFs, Option.some.injEq] at h
    subst h
    have : xs = [] := List.length_eq_zero_iff.1 (by simpa using hx)
    subst this
    exact ⟨[], trivial, List.drop_of_length_le (by simp at hl; omega), rfl⟩
  | f :: fs, o, sh, [], _, _, hx, _, _ => by simp at hx
  | f :: fs, o, sh, x :: xs, h, hl, hx, hf, hw => by
    unfold shFs at h
    cases h1 : g f.type with
    | none => simp [h1] at h
    | some l =>
      cases h2 : shFs g P.cellsOf fs (o + P.cellsOf f.type) with
      | none => simp [h1, h2] at h
      | some m =>
        simp only [h1, h2] at h
        cases hc : (Nat.beq f.offset o && Nat.beq (P.cellsOf f.type) l.length) with
        | false => simp [hc] at h
        | true =>
          simp only [hc, cond_true, Option.some.injEq] at h
          subst h
          simp only [Bool.and_eq_true] at hc
          have e1 := Nat.eq_of_beq_eq_true hc.1
          have e2 := Nat.eq_of_beq_eq_true hc.2
          have h0 := hf 0 f rfl
          simp only [List.getElem?_cons_zero] at h0
          simp only [List.map_cons, DataW.weightsEach, List.mem_append] at hw
          simp only [List.length_append] at hl
          obtain ⟨zs, a1, a2, a3⟩ := hg f.type l h1 n ((cs.drop f.offset).take (P.cellsOf f.type)) x h0 (by rw [List.length_take, List.length_drop, e1, e2]; omega) fun m' hm => hw m' (.inl hm)
          obtain ⟨ys, b1, b2, b3⟩ := open_fs (cs := cs) hg fs (o + P.cellsOf f.type) m xs h2 (by omega) (by simpa using hx) (fun j f' hj => by simpa using hf (j + 1) f' (by simpa using hj)) fun m' hm => hw m' (.inr hm)
          have hap := RowOk.append a1 b1
          refine ⟨zs ++ ys, hap.1, ?_, by simp [a3, b3]⟩
          rw [hap.2, ← a2, ← b2, e1, ← List.drop_drop]
          exact (List.take_append_drop _ _).symm
theorem open_arr {base n : Nat} {w : World} {spare : Nat → Bool} {held : Bool} {e : TypeId} {l : List CK} (hg : OpenAt enc P w base spare held e l) (hc : P.cellsOf e = l.length) {cs : List Value} : ∀ (k i : Nat) (xs : List (DataW H × List MemPlace)), cs.length = (i + k) * l.length → xs.length = k →
    (∀ j, j < k → DataW.trod enc P w base spare held n e ((cs.drop ((i + j) * P.cellsOf e)).take (P.cellsOf e)) = xs[j]?) →
    (∀ m ∈ DataW.weightsAll P e (xs.map (·.1)), m ≤ reachBytes) →
    ∃ zs, RowOk (List.replicate k l).flatten zs ∧ cs.drop (i * l.length) = rowV (List.replicate k l).flatten zs ∧ xs.flatMap (·.2) = []
  | 0, i, xs, hl, hx, _, _ => by
    have : xs = [] := List.length_eq_zero_iff.1 hx
    subst this
    exact ⟨[], trivial, List.drop_of_length_le (by rw [hl]; exact Nat.le_refl _), rfl⟩
  | k + 1, i, [], _, hx, _, _ => by simp at hx
  | k + 1, i, x :: xs, hl, hx, hf, hw => by
    have h0 := hf 0 (Nat.succ_pos k)
    simp only [List.getElem?_cons_zero, Nat.add_zero] at h0
    simp only [List.map_cons, DataW.weightsAll, List.mem_append] at hw
    have hl2 : cs.length = i * l.length + (l.length + k * l.length) := by rw [hl, Nat.add_mul, Nat.succ_mul]; omega
    obtain ⟨zs, a1, a2, a3⟩ := hg n _ x h0 (by rw [List.length_take, List.length_drop, hc]; omega) fun m' hm => hw m' (.inl hm)
    obtain ⟨ys, b1, b2, b3⟩ := open_arr hg hc k (i + 1) xs (by rw [hl]; congr 1; omega) (by simpa using hx) (fun j hj => by
      have := hf (j + 1) (by omega)
      rw [show i + (j + 1) = i + 1 + j by omega] at this
      simpa using this) fun m' hm => hw m' (.inr hm)
    have hap := RowOk.append a1 b1
    refine ⟨zs ++ ys, by rw [List.replicate_succ, List.flatten_cons]; exact hap.1, ?_, by simp [a3, b3]⟩
    rw [List.replicate_succ, List.flatten_cons, hap.2, ← a2, ← b2, hc, Nat.succ_mul, ← List.drop_drop]
    exact (List.take_append_drop _ _).symm
/-- A type of words and texts is opened. -/
theorem open_sh {base : Nat} {w : World} {spare : Nat → Bool} {held : Bool} : ∀ (d : Nat) (t : TypeId) (sh : List CK), shT P d t = some sh → OpenAt enc P w base spare held t sh
  | 0, t, sh, h => by simp [shT] at h
  | d + 1, t, sh, h => by
    have ih := open_sh (base := base) (w := w) (spare := spare) (held := held) d
    intro n cs x hx hl hw
    unfold shT at h
    split at h
    · rename_i k hu
      simp only [Option.some.injEq] at h
      subst h
      obtain ⟨z, rfl, rfl, hwf⟩ := DataW.trod_int hu hx
      have := wf_iff.1 hwf
      exact ⟨[z], ⟨this, trivial⟩, rfl, rfl⟩
    · rename_i hu
      simp only [Option.some.injEq] at h
      subst h
      obtain ⟨s, rfl, rfl, hs⟩ := DataW.trod_string hu hx
      have hb : s.data.toList.length ≤ mxL := hw _ (by simp [DataW.weights])
      refine ⟨[cOf s.data.toList], ⟨⟨cOf_nonneg _, HB_c hb⟩, trivial⟩, ?_, rfl⟩
      simp [rowV, CK.val, sOf_cOf, bA]
    · rename_i hu
      simp only [Option.some.injEq] at h
      subst h
      obtain ⟨b, rfl, rfl⟩ := DataW.trod_bool hu hx
      refine ⟨[cond b 1 0], ⟨?_, trivial⟩, ?_, rfl⟩
      · cases b <;> simp [CK.bd]
      · cases b <;> simp [rowV, CK.val]
    · rename_i fs hu
      obtain ⟨xs, m, rfl, rfl, hlen, hn, hel⟩ := DataW.trod_struct hu hx
      simp only [DataW.weights, hu] at hw
      obtain ⟨zs, a1, a2, a3⟩ := open_fs (n := m) ih fs.toList 0 sh xs h (by omega) (by rw [hn]; simp) (fun j f hj => hel j f (by simpa using hj)) hw
      exact ⟨zs, a1, by simpa using a2, a3⟩
    · rename_i k e hu
      cases h1 : shT P d e with
      | none => simp [h1] at h
      | some l =>
        simp only [h1] at h
        cases hc : Nat.beq (P.cellsOf e) l.length with
        | false => simp [hc] at h
        | true =>
          simp only [hc, cond_true, Option.some.injEq] at h
          subst h
          have hc := Nat.eq_of_beq_eq_true hc
          obtain ⟨xs, m, rfl, rfl, hlen, hn, hel⟩ := DataW.trod_array hu hx
          simp only [DataW.weights, hu] at hw
          have hfl : (List.replicate k l).flatten.length = k * l.length := by simp
          obtain ⟨zs, a1, a2, a3⟩ := open_arr (n := m) (ih e l h1) hc k 0 xs (by rw [hl, hfl]; simp) hn (fun j hj => by
            have := hel j hj
            simpa using this) hw
          exact ⟨zs, a1, by simpa using a2, a3⟩
    · cases h

/-! ### Slices -/
theorem rowAt_le {fits : TypeId → Bool} : ∀ (d : Nat) (e : TypeId) (count off n : Nat), rowAt P fits d e count off n = true → off ≤ count * P.cellsOf e
  | 0, _, _, _, _, h => by simp [rowAt] at h
  | d + 1, e, count, off, n, h => by
    unfold rowAt at h
    dsimp only at h
    split at h
    · cases h
    · rename_i hs
      have hdm := Nat.div_add_mod off (P.cellsOf e)
      have hlt := Nat.mod_lt off (Nat.pos_of_ne_zero hs)
      rw [Bool.or_eq_true] at h
      rcases h with h | h
      · simp only [Bool.and_eq_true, beq_iff_eq, decide_eq_true_eq] at h
        have h1 : off / P.cellsOf e ≤ count := by omega
        have := Nat.mul_le_mul_left (P.cellsOf e) h1
        rw [Nat.mul_comm count]; omega
      · rw [Bool.and_eq_true] at h
        have h1 : off / P.cellsOf e < count := by simpa using h.1
        have h1 : off / P.cellsOf e + 1 ≤ count := h1
        have := Nat.mul_le_mul_left (P.cellsOf e) h1
        rw [Nat.mul_add, Nat.mul_one] at this
        rw [Nat.mul_comm count]; omega
theorem liesAt_le : ∀ (d : Nat) (e : TypeId) (count off : Nat) (u : TypeId) (n : Nat), liesAt P d e count off u n = true → off ≤ count * P.cellsOf e
  | 0, _, _, _, _, _, h => by simp [liesAt] at h
  | d + 1, e, count, off, u, n, h => by
    unfold liesAt at h
    rw [Bool.or_eq_true] at h
    rcases h with h | h
    · exact rowAt_le _ _ _ _ _ h
    · split at h
      · exact liesAt_le d e count off _ _ h
      · cases h
theorem cells_get {base : Nat} {w : World} {a : Addr} {n : Nat} {cs : List Value} (h : w.cells? base a n = some cs) : cs.length = n ∧ ∀ j, j < n → w.cell? (a.add j) = cs[j]? := by
  unfold World.cells? at h
  split at h
  · have hl := List.length_of_mapM_some' h
    refine ⟨by simpa using hl, fun j hj => ?_⟩
    have := List.get_of_mapM_some' h j j (by simp [hj])
    exact this
  · cases h
where
  List.length_of_mapM_some' {α β : Type} {f : α → Option β} : ∀ {l : List α} {r : List β}, l.mapM f = some r → r.length = l.length
    | [], r, h => by simp at h; subst h; rfl
    | x :: l, r, h => by
      rw [List.mapM_cons] at h
      cases hx : f x with
      | none => simp [hx] at h
      | some y =>
        cases hl : l.mapM f with
        | none => simp [hx, hl] at h
        | some s =>
          simp [hx, hl] at h
          subst h
          simp [List.length_of_mapM_some' hl]
  List.get_of_mapM_some' {α β : Type} {f : α → Option β} : ∀ {l : List α} {r : List β}, l.mapM f = some r → ∀ (j : Nat) (x : α), l[j]? = some x → f x = r[j]?
    | [], r, h, j, x, hx => by simp at hx
    | y :: l, r, h, j, x, hx => by
      rw [List.mapM_cons] at h
      cases hy : f y with
      | none => simp [hy] at h
      | some z =>
        cases hl : l.mapM f with
        | none => simp [hy, hl] at h
        | some s =>
          simp [hy, hl] at h
          subst h
          cases j with
          | zero => simp at hx; subst hx; simp [hy]
          | succ j => simpa using List.get_of_mapM_some' hl j x (by simpa using hx)
theorem rows_of {cells : Array Value} {sh : List CK} : ∀ (len o : Nat), o ≤ cells.size → (∀ i, i < len → ∃ zs, RowOk sh zs ∧ ∀ j, j < sh.length → cells[o + i * sh.length + j]? = (rowV sh zs)[j]?) → (0 < len → 0 < sh.length) →
    ∃ rows : List (List Int), rows.length = len ∧ RowsAt cells o sh rows
  | 0, o, ho, _, _ => ⟨[], rfl, fun _ h => by simp at h, cells.toList.take o, cells.toList.drop o, by simp [flatV], by simp; omega⟩
  | len + 1, o, ho, h, hp => by
    obtain ⟨zs, a1, a2⟩ := h 0 (Nat.succ_pos _)
    have hp := hp (Nat.succ_pos _)
    have hv := rowV_len a1
    have hlast := a2 (sh.length - 1) (by omega)
    have hsz : o + sh.length ≤ cells.size := by
      have : (rowV sh zs)[sh.length - 1]? ≠ none := by rw [List.getElem?_eq_getElem (by omega)]; simp
      rw [← hlast] at this
      have := Array.getElem?_ne_none_iff'.1 this
      omega
    obtain ⟨rows, b1, b2, pre, post, b3, b4⟩ := rows_of len (o + sh.length) hsz (fun i hi => by
      obtain ⟨ys, c1, c2⟩ := h (i + 1) (by omega)
      refine ⟨ys, c1, fun j hj => ?_⟩
      rw [← c2 j hj]
      congr 1
      rw [Nat.succ_mul]; omega) fun _ => hp
    refine ⟨zs :: rows, by simp [b1], fun row hr => ?_, cells.toList.take o, post, ?_, by simp; omega⟩
    · rcases List.mem_cons.1 hr with rfl | hr
      · exact a1
      · exact b2 row hr
    · have e1 : pre = cells.toList.take (o + sh.length) := by
        rw [b3, List.append_assoc, List.take_left' b4]
      have e2 : pre = cells.toList.take o ++ rowV sh zs := by
        rw [e1, List.take_add]
        congr 1
        refine List.ext_getElem? fun j => ?_
        by_cases hj : j < sh.length
        · have := a2 j hj
          rw [List.getElem?_take, if_pos hj, List.getElem?_drop, ← this]
          simp
        · rw [List.getElem?_eq_none (by simp; omega), List.getElem?_eq_none (by omega)]
      have e3 : cells.toList = cells.toList.take o ++ rowV sh zs ++ flatV sh rows ++ post := by rw [← e2]; exact b3
      have e4 : flatV sh (zs :: rows) = rowV sh zs ++ flatV sh rows := by simp [flatV]
      rw [e4, ← List.append_assoc]; exact e3
where
  Array.getElem?_ne_none_iff' {α : Type} {a : Array α} {i : Nat} : a[i]? ≠ none ↔ i < a.size := by simp

/-! ### Parameters -/
/-- The type of a parameter. -/
def BTy (P : Program) (t : TypeId) : BD → Prop
  | .d (.int k lo hi) => P.underlying t = some (.int k) ∧ lo = k.min ∧ hi = k.max
  | .d .bool => P.underlying t = some .bool
  | .d .str => P.underlying t = some .string
  | .d (.agg k n lo hi) => ∃ e, P.underlying t = some (.array n e) ∧ shT P 8 t = some (List.replicate n (.int k lo hi)) ∧ P.cellsOf t = n
  | .d (.mix l) => ((∃ fs, P.underlying t = some (.struct fs)) ∨ ∃ n e, P.underlying t = some (.array n e)) ∧ shT P 8 t = some l ∧ P.cellsOf t = l.length
  | .d (.strk _) => False
  | .d (.ik ..) => False
  | .rd sh => ∃ e, P.underlying t = some (.slice e) ∧ shT P 8 e = some sh ∧ P.cellsOf e = sh.length ∧ shOk sh = true
  | .ow _ _ => False
theorem RowOk.inB : ∀ {sh : List CK} {zs : List Int}, RowOk sh zs → inB (sh.map CK.bd) zs
  | [], [], _ => trivial
  | _ :: _, _ :: _, h => ⟨h.1.1, h.1.2, RowOk.inB h.2⟩
  | [], _ :: _, h => h.elim
  | _ :: _, [], h => h.elim
theorem rowV_zip : ∀ (sh : List CK) (zs : List Int), rowV sh zs = List.zipWith CK.val sh zs
  | [], _ => by simp [rowV]
  | _ :: _, [] => by simp [rowV]
  | c :: sh, z :: zs => by simp only [rowV, List.zipWith_cons_cons, rowV_zip sh zs]
theorem rowV_rep (k : IntKind) (lo hi : Int) : ∀ (n : Nat) (zs : List Int), zs.length = n → rowV (List.replicate n (.int k lo hi)) zs = zs.map (Value.int k)
  | 0, [], _ => rfl
  | n + 1, z :: zs, h => by
    rw [List.replicate_succ]
    simp only [rowV, List.map_cons, rowV_rep k lo hi n zs (by simpa using h)]
    rfl
  | 0, _ :: _, h => by simp at h
  | n + 1, [], h => by simp at h
theorem map_rep (k : IntKind) (lo hi : Int) : ∀ n : Nat, (List.replicate n (CK.int k lo hi)).map CK.bd = repB lo hi n
  | 0 => rfl
  | n + 1 => by rw [List.replicate_succ, List.map_cons, map_rep k lo hi n]; rfl
theorem open_B {b0 : Nat} {w : World} {t : TypeId} {b : BD} {v : Value} {x : DataW H} {ps : List MemPlace} (ht : BTy P t b) (hval : Value.okWide P w .any b0 t v) (hd : DataW.Trod enc P w 0 (fun _ => true) true t v x ps) (hw : ∀ m ∈ x.weights P t, m ≤ reachBytes) :
    ∃ zs, inB b.bds zs ∧ zs.length = b.num ∧ b.at (fun g => g < w.heap.size) (fun _ => False) w zs v := by
  obtain ⟨fuel, hf⟩ := hd
  have agg : ((∃ fs, P.underlying t = some (.struct fs)) ∨ ∃ n e, P.underlying t = some (.array n e)) → ∃ cs, v = .agg cs ∧ cs.size = P.cellsOf t := fun h => by
    unfold Value.okWide at hval
    rcases h with ⟨fs, h⟩ | ⟨n, e, h⟩
    · rw [h] at hval; obtain ⟨cs, a, b, _⟩ := hval; exact ⟨cs, a, b⟩
    · rw [h] at hval; obtain ⟨cs, a, b, _⟩ := hval; exact ⟨cs, a, b⟩
  cases b with
  | ow _ _ => exact ht.elim
  | d y =>
    cases y with
    | strk l => exact ht.elim
    | ik k c => exact ht.elim
    | int k lo hi =>
      obtain ⟨h1, rfl, rfl⟩ := ht
      obtain ⟨n, rfl⟩ := okWide_int h1 hval
      obtain ⟨n', h, hx, hwf⟩ := DataW.trod_int h1 hf
      simp [Value.cells] at h
      subst h
      have := wf_iff.1 hwf
      exact ⟨[n], ⟨this.1, this.2, trivial⟩, rfl, rfl⟩
    | bool =>
      obtain ⟨c, rfl⟩ := okWide_bool ht hval
      refine ⟨[cond c 1 0], ?_, rfl, ?_⟩
      · cases c <;> simp [BD.bds, D.bds, inB]
      · cases c <;> simp [BD.at, D.val]
    | str =>
      obtain ⟨s, rfl⟩ := okWide_string ht hval
      obtain ⟨s', h, hx, hs⟩ := DataW.trod_string ht hf
      simp [Value.cells] at h
      subst h
      simp only [Prod.mk.injEq] at hx
      have hb : s.data.toList.length ≤ mxL := hw _ (by rw [hx.1]; simp [DataW.weights])
      exact ⟨[cOf s.data.toList], ⟨cOf_nonneg _, HB_c hb, trivial⟩, rfl, by simp [BD.at, D.val, sOf_cOf, bA]⟩
    | agg k n lo hi =>
      obtain ⟨e, h1, h2, h3⟩ := ht
      obtain ⟨cs, rfl, hsz⟩ := agg (.inr ⟨n, e, h1⟩)
      obtain ⟨zs, a1, a2, _⟩ := open_sh 8 t _ h2 fuel _ _ hf (by show cs.toList.length = _; simp [hsz, h3]) hw
      have hl : zs.length = n := by have := a1.len; simpa using this
      have hcs : cs = (rowV (List.replicate n (.int k lo hi)) zs).toArray := by rw [← a2]; simp [Value.cells]
      refine ⟨zs, ?_, hl, ?_⟩
      · have := a1.inB; rw [map_rep] at this; exact this
      · show Value.agg cs = _
        rw [hcs, rowV_rep k lo hi n zs hl]
        simp only [D.val, ← hl, List.take_length]
    | mix l =>
      obtain ⟨h1, h2, h3⟩ := ht
      obtain ⟨cs, rfl, hsz⟩ := agg h1
      obtain ⟨zs, a1, a2, _⟩ := open_sh 8 t _ h2 fuel _ _ hf (by show cs.toList.length = _; simp [hsz, h3]) hw
      have hl : zs.length = l.length := a1.len
      have hcs : cs = (rowV l zs).toArray := by rw [← a2]; simp [Value.cells]
      refine ⟨zs, a1.inB, hl, ?_⟩
      show Value.agg cs = _
      rw [hcs, rowV_zip]; rfl
  | rd sh =>
    obtain ⟨e, h1, h2, h3, hsok⟩ := ht
    have h4 : 0 < sh.length := by
      unfold shOk at hsok
      simp only [Bool.and_eq_true, Nat.blt_eq] at hsok
      exact hsok.1.2
    obtain ⟨a, len, cap, rfl⟩ := okWide_slice h1 hval
    rcases DataW.trod_slice h1 hf with ⟨h, _⟩ | ⟨ad, len', cap', elems, rest, n, rfl, h, hx, _, hlc, hcm, hel, helem, hsp, hns⟩
    · simp [Value.cells] at h
      obtain ⟨rfl, rfl, rfl⟩ := h
      exact ⟨[0], ⟨Int.le_refl _, RB_nonneg, trivial⟩, rfl, .inl ⟨rfl, rOf_zero⟩⟩
    · simp [Value.cells] at h
      obtain ⟨rfl, rfl, rfl⟩ := h
      have hhas : w.has P .any b0 ad e cap := by
        unfold Value.okWide at hval
        rw [h1] at hval
        simp only [Cell.okWide, Cell.ok, h1] at hval
        exact hval.2.2
      obtain ⟨_, hspot, row, cells0, hsh, hlies⟩ := hhas
      obtain ⟨g, o, sp⟩ := ad
      simp only at hspot
      subst hspot
      obtain ⟨cells, tt, fz, hheap, hcz⟩ : ∃ cells tt fz, w.heap[g]? = some (.cells cells tt fz) ∧ cells.size = cells0 ∧ tt = row := by
        unfold World.shape? at hsh
        split at hsh
        · rename_i c el fz hb
          simp only [Option.some.injEq, Prod.mk.injEq] at hsh
          exact ⟨c, el, fz, hb, hsh.2, hsh.1⟩
        · cases hsh
      have ho : o ≤ cells.size := by
        have := liesAt_le _ _ _ _ _ _ hlies
        have h6 := Nat.div_mul_le_self cells0 (P.cellsOf row)
        have h7 : o ≤ cells0 / P.cellsOf row * P.cellsOf row := this
        omega
      simp only [Prod.mk.injEq] at hx
      obtain ⟨hx1, hx2⟩ := hx
      rw [hx1] at hw
      simp only [DataW.weights, h1, List.mem_cons, List.mem_append] at hw
      obtain ⟨rows, r1, r2⟩ := rows_of (cells := cells) (sh := sh) len o ho (fun i hi => by
        have := helem i hi
        cases hy : elems[i]? with
        | none => rw [List.getElem?_eq_none_iff] at hy; omega
        | some y =>
          rw [hy, Option.bind_eq_some_iff] at this
          obtain ⟨cs, g1, g2⟩ := this
          obtain ⟨l1, l2⟩ := cells_get g1
          obtain ⟨zs, z1, z2, _⟩ := open_sh 8 e sh h2 n cs y g2 (by rw [l1, h3]) fun m hm => by
            refine hw m (.inr (.inl ?_))
            exact mem_all hy hm
          refine ⟨zs, z1, fun j hj => ?_⟩
          have := l2 j (by rw [h3]; exact hj)
          rw [addr_add, addr_add] at this
          simp only [World.cell?, hheap, Option.isSome_none, Bool.false_eq_true, if_false] at this
          rw [← z2, ← this, h3]) fun _ => h4
      have hcap : (cap : Int) ≤ 9223372036854775807 := by unfold maxLen at hcm; omega
      have hrl : rows.length ≤ maxLen := by omega
      have hRB : rc rows ≤ RB := RB_c hrl fun r hr => (r2.1 r hr).row hsok
      refine ⟨[rc rows], ⟨rc_nonneg _, hRB, trivial⟩, rfl, .inr ⟨g, o, cap, cells, tt, fz, ?_, ?_, ?_, hheap, ?_⟩⟩
      · simp [rOf_rc, r1]
      · simp only [List.getD_cons_zero, rOf_rc, r1]; exact ⟨hlc, hcap⟩
      · exact (Array.getElem?_eq_some_iff.1 hheap).1
      · simp only [List.getD_cons_zero, rOf_rc]; exact r2
where
  mem_all {e : TypeId} : ∀ {l : List (DataW H × List MemPlace)} {i : Nat} {y : DataW H × List MemPlace} {m : Nat}, l[i]? = some y → m ∈ y.1.weights P e → m ∈ DataW.weightsAll P e (l.map (·.1))
    | x :: l, 0, y, m, h, hm => by
      simp only [List.getElem?_cons_zero, Option.some.injEq] at h
      subst h
      simp only [List.map_cons, DataW.weightsAll, List.mem_append]
      exact .inl hm
    | x :: l, i + 1, y, m, h, hm => by
      simp only [List.map_cons, DataW.weightsAll, List.mem_append]
      exact .inr (mem_all (by simpa using h) hm)
    | [], _, _, _, h, _ => by simp at h

/-- All parameters. -/
def BTys (P : Program) : List TypeId → List BD → Prop
  | [], [] => True
  | t :: ts, b :: bs => BTy P t b ∧ BTys P ts bs
  | _, _ => False
theorem BD.at_app {F N : Nat → Prop} {w : World} (b : BD) {zs l : List Int} {v : Value} (h : zs.length = b.num) (ha : b.at F N w zs v) : b.at F N w (zs ++ l) v := by
  cases b with
  | d x =>
    show v = x.val (zs ++ l)
    rw [D.val_app x (l := l) h]; exact ha
  | rd sh => match zs, h with | [z], _ => exact ha
  | ow sh e => match zs, h with | [z], _ => exact ha
theorem open_Bs {b0 : Nat} {w : World} : ∀ {ts : List TypeId} {bs : List BD} {vs : List Value} {xs : List (DataW H)} {ps : List MemPlace}, BTys P ts bs → (∀ (j : Nat) t v, ts[j]? = some t → vs[j]? = some v → Value.okWide P w .any b0 t v) → DataW.TrodAll enc P w 0 (fun _ => true) true ts vs xs ps →
    (∀ m ∈ DataW.weightsEach P ts xs, m ≤ reachBytes) → ∃ zs, inB (bbds bs) zs ∧ atL (fun g => g < w.heap.size) (fun _ => False) w bs zs vs ∧ xs.length = bs.length
  | [], [], [], [], ps, _, _, h, _ => ⟨[], trivial, trivial, rfl⟩
  | [], [], _ :: _, _, _, _, _, h, _ => h.elim
  | [], [], [], _ :: _, _, _, _, h, _ => h.elim
  | [], _ :: _, _, _, _, h, _, _, _ => h.elim
  | _ :: _, [], _, _, _, h, _, _, _ => h.elim
  | _ :: _, _ :: _, [], _, _, _, _, h, _ => by cases h
  | _ :: _, _ :: _, _ :: _, [], _, _, _, h, _ => by cases h
  | t :: ts, b :: bs, v :: vs, x :: xs, ps, ht, hv, h, hw => by
    obtain ⟨p, q, h1, h2, rfl⟩ := h
    simp only [DataW.weightsEach, List.mem_append] at hw
    obtain ⟨zs, a1, a2, a3⟩ := open_B ht.1 (hv 0 t v rfl rfl) h1 fun m hm => hw m (.inl hm)
    obtain ⟨ys, b1, b2, b3⟩ := open_Bs ht.2 (fun j t v h1 h2 => hv (j + 1) t v (by simpa using h1) (by simpa using h2)) h2 fun m hm => hw m (.inr hm)
    refine ⟨zs ++ ys, inB_app a1 b1, ⟨BD.at_app b a2 a3, ?_⟩, by simp [b3]⟩
    rw [← a2, List.drop_left]; exact b2
theorem trodAll_below (hl : laidOutB P = true) {W W' : World} (hb : Below W.heap.size W W') : ∀ {ts : List TypeId} {vs : List Value} {xs : List (DataW H)} {ps : List MemPlace}, (∀ t ∈ ts, P.readableRec t = true ∧ t < P.types.size) → DataW.TrodAll enc P W 0 (fun _ => true) true ts vs xs ps → (∀ x ∈ ps, x.block < W.heap.size) →
    DataW.TrodAll enc P W' 0 (fun b => decide (b < W.heap.size)) true ts vs xs ps
  | [], [], [], _, _, h, _ => h
  | [], _ :: _, _, _, _, h, _ => h.elim
  | [], [], _ :: _, _, _, h, _ => h.elim
  | _ :: _, [], _, _, _, h, _ => by cases h
  | _ :: _, _ :: _, [], _, _, h, _ => by cases h
  | t :: ts, v :: vs, x :: xs, ps, hr, h, hlt => by
    obtain ⟨p, q, h1, h2, rfl⟩ := h
    exact ⟨p, q, Below.trod hl (hr t (by simp)).1 (hr t (by simp)).2 h1 hb fun x hx => hlt x (List.mem_append.2 (.inl hx)), trodAll_below hl hb (fun t ht => hr t (List.mem_cons_of_mem _ ht)) h2 fun x hx => hlt x (List.mem_append.2 (.inr hx)), rfl⟩
theorem change_and_sh {C : Checked} {os : Os} {f : FuncId} {fn : Func} {s : ChangeSpec} {apart : Bool} {X : World → Array Value → Prop}
    (hX : ∀ (w w' : World) (args : Array Value), w.heap = w'.heap → X w args → X w' args)
    (own : ownKnob C.prog.godebug = none) (started : os.Started) (noInit : C.prog.inits.idxOf? f = none) (hfn : C.prog.funcs[f]? = some fn)
    (witness : ∃ (w : World) (tape : Tape) (i : Input), w.os = os ∧ (w.forCall tape i).Shaped C.prog ∧ i.vars = [] ∧ Input.okWide C.prog (w.forCall tape i) .any w.heap.size f i ∧
      ((s.pre enc C.prog fn [] apart (w.forCall tape i).memory i.args ∧ X (w.forCall tape i).memory i.args) ∧ sizedMet enc C.prog fn (OpenSpec.ofChange s) apart (w.forCall tape i).memory i.args) ∧ ({} : Assume).holds C.prog (lone (Frame.enter C.prog f i.args .normal) [] (w.forCall tape i)))
    (contract : ∀ (W : World) (base : Nat) (args : Array Value) (ds gs : List (DataW H)) (before : List MemPlace),
      (∀ (j : Nat) t v, fn.params[j]? = some t → args[j]? = some v → Value.okWide C.prog W .any base t v) →
      DataW.Whole enc C.prog fn.params.toList s.vars apart W args.toList ds gs before → (DataW.weightsEach C.prog (fn.params.toList ++ s.plain.varTypes C.prog) (ds ++ gs)).all (· ≤ reachBytes) = true → X W args → W.ShapedOpen C.prog →
      Calls C.prog f args W fun e W' => ∃ v, e = .returned v ∧ s.post enc C.prog fn apart true false false W args v W') :
    ReturnsInHanded {} C os f .any (fun w args => (s.pre enc C.prog fn [] apart w args ∧ X w args) ∧ sizedMet enc C.prog fn (OpenSpec.ofChange s) apart w args) (s.post enc C.prog fn apart true false false) := by
  refine returnsInHanded_of_calls own started noInit witness ?_
  intro w tape i _ hsh _ hok hpre hholds
  obtain ⟨_, _, _, fn', hfn', _, _, _, _, hval⟩ := hok
  have e : fn' = fn := Option.some.inj (hfn'.symm.trans hfn)
  subst e
  obtain ⟨⟨⟨ds, gs, before, hw, hc⟩, hx⟩, hz⟩ := hpre
  have hw' := DataW.Whole.of_heap (w' := w.forCall tape i) (by rfl) hw
  refine (contract (w.forCall tape i) w.heap.size i.args ds gs before hval hw' (hz.weights hw) (hX _ _ _ (by rfl) hx) hsh).mono fun e W' ⟨v, he, hp⟩ => ?_
  subst he
  exact ChangeSpec.post_blind hp
/-- **The row of a law, out of its call.** -/
theorem law_lift {C : Checked} {os : Os} {f : FuncId} {fn : Func} {s : ChangeSpec} {X : World → Array Value → Prop} {apart : Bool} {ts : List TypeId} {tb : TypeId} {bs : List BD}
    (hX : ∀ (w w' : World) (args : Array Value), w.heap = w'.heap → X w args → X w' args)
    (own : ownKnob C.prog.godebug = none) (started : os.Started) (noInit : C.prog.inits.idxOf? f = none) (hfn : C.prog.funcs[f]? = some fn)
    (witness : ∃ (w : World) (tape : Tape) (i : Input), w.os = os ∧ (w.forCall tape i).Shaped C.prog ∧ i.vars = [] ∧ Input.okWide C.prog (w.forCall tape i) .any w.heap.size f i ∧
      ((s.pre enc C.prog fn [] apart (w.forCall tape i).memory i.args ∧ X (w.forCall tape i).memory i.args) ∧ sizedMet enc C.prog fn (OpenSpec.ofChange s) apart (w.forCall tape i).memory i.args) ∧ ({} : Assume).holds C.prog (lone (Frame.enter C.prog f i.args .normal) [] (w.forCall tape i)))
    (hp : fn.params.toList = ts) (hr : fn.resultTypes.toList = [tb]) (hr1 : fn.resultTypes.size = 1) (htb : C.prog.underlying tb = some .bool) (hty : BTys C.prog ts bs) (hlo : laidOutB C.prog = true) (hrd : (ts.all fun t => C.prog.readableRec t && decide (t < C.prog.types.size)) = true) (hvars : s.vars = [])
    (hs : ∀ xs : List (DataW H), xs.length = bs.length → s.fn H xs = { results := [.lit (.bool true)], args := xs, vars := [] })
    (contract : ∀ (W : World) (zs : List Int) (vs : List Value), inB (bbds bs) zs → atL (fun g => g < W.heap.size) (fun _ => False) W bs zs vs → X W vs.toArray → W.ShapedOpen C.prog → Calls C.prog f vs.toArray W fun e W' => e = .returned (.bool true) ∧ W.Extends W') :
    ReturnsInHanded {} C os f .any (fun w args => (s.pre enc C.prog fn [] apart w args ∧ X w args) ∧ sizedMet enc C.prog fn (OpenSpec.ofChange s) apart w args) (s.post enc C.prog fn apart true false false) := by
  refine change_and_sh hX own started noInit hfn witness ?_
  intro W base args xs gs before hval0 hW hsz hx hsh
  have hW' := hW
  have hlt := hW.lt
  obtain ⟨p, q, hA, hV, rfl, hfz, hnd⟩ := hW
  rw [hp] at hA
  rw [hvars] at hV
  obtain ⟨rfl, rfl⟩ : gs = [] ∧ q = [] := by
    cases gs with
    | nil => exact ⟨rfl, hV⟩
    | cons g r => exact absurd hV (by intro h; cases h)
  have hval : ∀ (j : Nat) t v, ts[j]? = some t → args.toList[j]? = some v → Value.okWide C.prog W .any base t v := fun j t v h1 h2 => hval0 j t v (by rw [← hp] at h1; simpa using h1) (by simpa using h2)
  have e : (fn.params.toList ++ s.plain.varTypes C.prog) = ts := by rw [hp]; simp [DataSpec.varTypes, ChangeSpec.plain, hvars]
  rw [e, List.append_nil, List.all_eq_true] at hsz
  obtain ⟨zs, hz, hat, hlen⟩ := open_Bs hty hval hA fun n hn => by simpa using hsz n hn
  have hargs : args = args.toList.toArray := by simp
  rw [hargs] at hx
  have hcall : Calls C.prog f args W fun e W' => e = .returned (.bool true) ∧ W.Extends W' := by
    have := contract W zs args.toList hz hat hx hsh
    rwa [← hargs] at this
  refine hcall.mono fun e W' ⟨he, hw⟩ => ?_
  subst he
  have hfn' := hs (xs ++ []) (by simp [hlen])
  have hbelow : Below W.heap.size W W' := ⟨hw.os, hw.tape, hw.output, hw.size, fun i hi => hw.block i hi⟩
  refine ⟨_, rfl, _, _, _, [], p, [], hW', ?_, ?_, ?_, keptBut_extends hw _, fun h => by cases h⟩
  · rw [hfn', hr, hr1]; exact trodAll_mk1 (shut_bool htb true)
  · rw [hfn', hp, List.append_nil]
    exact trodAll_below hlo hbelow (fun t ht => by
      have := List.all_eq_true.1 hrd t ht
      simpa using this) hA fun x hx => hlt x (by simp [hx])
  · rw [hfn', hvars]; rfl
/-- Numbers alone. -/
theorem atL_d {F N : Nat → Prop} {w : World} : ∀ {ds : List D} {zs : List Int} {vs : List Value}, atL F N w (ds.map BD.d) zs vs → vs = valL ds zs
  | [], _, [], _ => rfl
  | [], _, _ :: _, h => h.elim
  | _ :: _, _, [], h => by simp [atL] at h
  | d :: ds, zs, v :: vs, h => by
    obtain ⟨h1, h2⟩ := h
    have h1 : v = d.val zs := h1
    rw [h1, atL_d h2]; rfl
theorem bbds_d : ∀ ds : List D, bbds (ds.map BD.d) = bdsL ds
  | [] => rfl
  | d :: ds => by simp only [List.map_cons, bbds, BD.bds, bdsL, bbds_d ds]
/-! ### Contracts with slices, by blocks -/
section
variable {gl : Glo} {wb : World} {sh : Nat → List Nat × List Nat} {SB : Nat → List (List Int) → List (List Int) → Prop}
/-- What is to be shown at a function's end. -/
def KBb (SB : Nat → List (List Int) → List (List Int) → Prop) (res : List BD) (id : Nat) : List (List Int) → List (List Int) → Prop := fun zs rs => inB (bbds res) rs.flatten ∧ SB id zs rs
theorem bok_vcf {c : BCon} {bcs : List BCon} {cal : Cal} {li : FuncId → Nat → Option LoopI} {rounds d : Nat} {lsh : Nat → List Nat} {lens : List Nat} (hm : P.follows .mixedOrders = true) (hcal : ∀ r ex ro, CalOk (flatS sh SB) P gl ⟨wb, r, ex, ro, []⟩ cal) (hg : GOk gl ⟨wb, wb, fun _ => False, fun _ => False, []⟩)
    (hbc : ∀ b ∈ bcs, b.Ok P wb (flatS sh SB b.id)) (hf : goB P c.f = true) (hl : lens = (sh c.id).1) (hd : numsBD c.res = (sh c.id).2)
    (hv : VcF sh lsh SB (KBb SB c.res c.id) lens (bbds c.args) c.res (c.tree (bcOf bcs) P gl cal li rounds d)) : c.Ok P wb (flatS sh SB c.id) := by
  refine BCon.of_vc (li := li) (rounds := rounds) (d := d) hm hcal hg hbc (enters hf) (allB_intro fun zs hz => ?_)
  have h := allB_elim (VcF_sound hv) hz
  simp only [KBb, splitL_flatten] at h
  rw [hl, hd] at h
  exact h
theorem bok_bc {c : BCon} {bc : BC} {cal : Cal} {li : FuncId → Nat → Option LoopI} {rounds d : Nat} {lsh : Nat → List Nat} {lens : List Nat} (hm : P.follows .mixedOrders = true) (hcal : ∀ r ex ro, CalOk (flatS sh SB) P gl ⟨wb, r, ex, ro, []⟩ cal) (hg : GOk gl ⟨wb, wb, fun _ => False, fun _ => False, []⟩)
    (hbc : ∀ (L : V → Env → Prop) (r : World) (ro : Nat → Prop), BcOk (flatS sh SB) L ⟨wb, r, fun _ => False, ro, []⟩ P bc) (hf : goB P c.f = true) (hl : lens = (sh c.id).1) (hd : numsBD c.res = (sh c.id).2)
    (hv : VcF sh lsh SB (KBb SB c.res c.id) lens (bbds c.args) c.res (c.tree bc P gl cal li rounds d)) : c.Ok P wb (flatS sh SB c.id) := by
  refine BCon.of_bc (li := li) (rounds := rounds) (d := d) hm hcal hg hbc (enters hf) (allB_intro fun zs hz => ?_)
  have h := allB_elim (VcF_sound hv) hz
  simp only [KBb, splitL_flatten] at h
  rw [hl, hd] at h
  exact h
/-- A law with slices, called. -/
theorem law_b {c : BCon} {W : World} {vs : List Value} {zs : List Int} (hc : c.Ok P W (flatS sh SB c.id)) (hres : c.res = [.d .bool]) (hpre : c.pre = 0) (hz : inB (bbds c.args) zs) (hat : atL (fun g => g < W.heap.size) (fun _ => False) W c.args zs vs) (h1 : ∀ a z, SB c.id a [[z]] → z = 1) (h2 : (sh c.id).2 = [1]) :
    Calls P c.f vs.toArray W fun e W' => e = .returned (.bool true) ∧ W.Extends W' := by
  refine (hc.2 _ W vs zs (World.Extends.refl W) hz (by rw [hpre]; trivial) hat).mono fun e W' ⟨hx, rs, us, hb, hs, hr, he⟩ => ⟨?_, hx⟩
  rw [hres] at hb hr
  match rs, hb, us, hr, hs, he with
  | [z], hb, [u], hr, hs, he =>
    unfold flatS at hs
    rw [h2] at hs
    have e1 : z = 1 := h1 _ z hs
    subst e1
    have : u = .bool true := hr.1
    subst this
    rw [he]; rfl
  | [z], hb, [], hr, hs, he => exact hr.elim
  | [z], hb, _ :: _ :: _, hr, hs, he => exact hr.2.elim
  | [], hb, _, _, _, _ => exact hb.elim
  | _ :: _ :: _, hb, _, _, _, _ => exact hb.2.2.elim
/-- A law of numbers alone, called. -/
theorem law_c {c : Con} {W : World} {vs : List Value} {zs : List Int} {F N : Nat → Prop} (hc : c.OkF P W (flatS sh SB c.id)) (hgo : goB P c.f = true) (hres : c.res = [.bool]) (hz : inB (bbds (c.args.map BD.d)) zs) (hat : atL F N W (c.args.map BD.d) zs vs) (h1 : ∀ a z, SB c.id a [[z]] → z = 1) (h2 : (sh c.id).2 = [1]) :
    Calls P c.f vs.toArray W fun e W' => e = .returned (.bool true) ∧ W.Extends W' := by
  rw [bbds_d] at hz
  have hv := atL_d hat
  subst hv
  obtain ⟨rs, hb, hs, hcall⟩ := hc zs hz
  have hr : resVal c.res rs = .bool true := by
    rw [hres] at hb ⊢
    match rs, hb with
    | [z], hb =>
      unfold flatS at hs
      rw [h2] at hs
      have e1 : z = 1 := h1 _ z hs
      subst e1; rfl
    | [], hb => exact hb.elim
    | _ :: _ :: _, hb => exact hb.2.2.elim
  have hcall := hcall W (World.Extends.refl W)
  rw [hr] at hcall
  rcases hcall with h | h
  · have he := enters hgo (valL c.args zs).toArray W
    exact absurd (he.symm.trans h) (by intro e; cases e)
  · exact h.2
end
end Go.Rx

/- Contracts of functions that change a slice of one's own: what was handed in is told anew. -/
set_option linter.unusedVariables false
set_option linter.unusedSimpArgs false
namespace Go.Rx
open M

/-- All is as it was, but one block. -/
def SlNew (w w' : World) (own : Option Nat) : Prop :=
  w'.os = w.os ∧ w'.tape = w.tape ∧ w'.output = w.output ∧ w.heap.size ≤ w'.heap.size ∧ ∀ k : Nat, k < w.heap.size → own ≠ some k → w'.heap[k]? = w.heap[k]?
structure ICon where
  f : FuncId
  id : Nat
  sh : List CK
  e : TypeId
  args : List BD
  pre : Nat := 0
/-- The block that may be written: none where there is no room at all. -/
def ownOf : Value → Option Nat
  | .slice (some a) _ (_ + 1) => some a.block
  | _ => none
def ICon.Ok (P : Program) (wb : World) (c : ICon) (spec : List Int → List Int → Prop) : Prop :=
  (∀ args w, (callFunc c.f args).run P w = .ok (.enter c.f args) w) ∧
  ∀ (F : Nat → Prop) (w : World) (v0 : Value) (code : Int) (vs : List Value) (zs : List Int), wb.Extends w → SlOw (fun g => wb.heap.size ≤ g) w c.sh c.e (rOf code) v0 → (0 ≤ code ∧ code ≤ RB) → inB (bbds c.args) zs → preD c.pre (code :: zs) → atL F (fun _ => False) w c.args zs vs → (∀ g, F g → ownOf v0 ≠ some g) →
    Calls P c.f (v0 :: vs).toArray w fun e w' => SlNew w w' (ownOf v0) ∧ ∃ code' v', (0 ≤ code' ∧ code' ≤ RB) ∧ spec (code :: zs) [code'] ∧ SlOw (fun g => ownOf v0 = some g ∨ w.heap.size ≤ g) w' c.sh c.e (rOf code') v' ∧ e = .returned v'
noncomputable def ICon.R (c : ICon) (n : Nat) (code : Lin) (r : List V) (bl : List Blk) (k : RK) : T :=
  flatBM bl c.args r n fun ls n1 => preM c.pre (code :: ls) (.call c.id (code :: ls) n1 [(0, RB)] (argE [.ow c.sh c.e] n1 (n1 + 1) [] bl fun n2 us bl2 => k n2 (resWs us) bl2))
noncomputable def ICon.E (c : ICon) (n : Nat) (vs : List V) (bl : List Blk) (k : RK) : T :=
  match vs with
  | .w (.one (.sl b sz o ro len cap)) :: r => match bl[b]? with
    | some ([.rows sh off code capb kind], bt) => cond (shBeq c.sh sh && Nat.beq kind 2 && Lin.beq o (.const 0) && Lin.beq off (.const 0) && Lin.beq ro (.const 0) && Lin.beq cap capb && Nat.beq bt.1 c.e)
        (.chk 31 [code, len] (c.R n code r (setB bl b ([.rows sh off code capb 0], bt)) k)) .stuck
    | _ => .stuck
  | .w (.one (.con (.slice none 0 0))) :: r => c.R n (.const 0) r bl k
  | .w (.one (.slc b 0 0 0)) :: r => match bl[b]? with
    | some ([], (t, false)) => cond (Nat.beq t c.e) (c.R n (.const 0) r bl k) .stuck
    | _ => .stuck
  | _ => .stuck
section
variable {S : Nat → List Int → List Int → Prop} {L : V → Env → Prop} {w0 : Base} {P : Program}
theorem Mem.lose {ρ : Env} {m : Nat → Nat} {bl : List Blk} {w w' : World} {b : Nat} {sh : List CK} {off code cap : Lin} {t : TypeId × Bool} (h : Mem w0 ρ m bl w) (hbl : bl[b]? = some ([.rows sh off code cap 2], t)) {own : Option Nat} (hown : ∀ g, own = some g → 0 ≤ cap.den ρ ∧ g = m b) (hn : SlNew w w' own) : Mem w0 ρ m (setB bl b ([.rows sh off code cap 0], t)) w' := by
  have h1 := h.kill hbl
  obtain ⟨n1, n2, n3, n4, n5⟩ := hn
  have hrr := h.rws b sh off code cap 2 t hbl (by decide)
  have hg : ∀ g, own = some g → w0.b.heap.size ≤ g ∧ (w0.ex g ∨ w0.r.heap.size ≤ g) := fun g hg => by
    obtain ⟨hc, rfl⟩ := hown g hg
    obtain ⟨_, cells, tq, fz, g1, _, g4⟩ := hrr.2 hc
    obtain ⟨_, _, _, _, g8, g9⟩ := g4 (by decide)
    exact ⟨g8, g9⟩
  have hkb : 0 ≤ cap.den ρ → kindC ρ [.rows sh off code cap 2] = 2 := fun hc => kindC_rows (by decide) hc
  have hblk : ∀ i : Nat, i < w0.b.heap.size → w'.heap[i]? = w0.b.heap[i]? := fun i hi => by
    rw [n5 i (Nat.lt_of_lt_of_le hi h.ext.size) (fun e => by have := (hg i e).1; omega), h.ext.block i hi]
  have hset : ∀ (i : Nat) (p : Blk), (setB bl b ([.rows sh off code cap 0], t))[i]? = some p → (i = b ∧ p = ([.rows sh off code cap 0], t)) ∨ (i ≠ b ∧ bl[i]? = some p) := fun i p hi => by
    have hblen : b < bl.length := (List.getElem?_eq_some_iff.1 hbl).1
    rw [setB_eq, List.getElem?_set] at hi
    split at hi
    · rename_i hbi
      subst hbi
      simp only [hblen, if_true, Option.some.injEq] at hi
      exact .inl ⟨rfl, hi.symm⟩
    · rename_i hbi; exact .inr ⟨fun e => hbi e.symm, hi⟩
  have hsame : ∀ (i : Nat) (p : Blk), i ≠ b → bl[i]? = some p → kindC ρ p.1 ≠ 0 → w'.heap[m i]? = w.heap[m i]? := fun i p hne hi hk => by
    refine n5 _ (h.lt hi hk) fun e => ?_
    obtain ⟨hc, e⟩ := hown _ e
    exact h.ne hbl hi (by rw [hkb hc]; exact Nat.le_refl _) hk (fun e => hne e.symm) e.symm
  refine ⟨⟨n1.trans h.ext.os, n2.trans h.ext.tape, n3.trans h.ext.output, Nat.le_trans h.ext.size n4, fun a ha => by simp only [World.cell?, hblk a.block ha], fun a ha => by simp only [World.frozen?, hblk a.block ha], hblk⟩, n1.trans h.hos, n2.trans h.htape, n3.trans h.hout, Nat.le_trans h.hsize n4, fun i hi hx => ?_, fun i cs t' hi ho => ?_, fun i sh' off' code' cap' kind' t' hi => ?_, h1.inj⟩
  · rw [n5 i (Nat.lt_of_lt_of_le hi h.hsize) (fun e => by rcases (hg i e).2 with h | h; exact hx h; omega)]
    exact h.frm i hi hx
  · rcases hset i _ hi with ⟨rfl, hi2⟩ | ⟨hne, hi⟩
    · cases hi2; cases ho
    · obtain ⟨g1, g2, r, hr, g3⟩ := h.blk i cs t' hi ho
      exact ⟨g1, g2, r, hr, by rw [hsame i _ hne hi (by rw [kind_ord ho]; decide)]; exact g3⟩
  · rcases hset i _ hi with ⟨rfl, hi2⟩ | ⟨hne, hi⟩
    · cases hi2; exact fun hk => absurd rfl hk
    · exact (h.rws i sh' off' code' cap' kind' t' hi).grow fun hk hc => hsame i _ hne hi (by simp only [kindC_rows hk hc]; exact hk)
theorem ICon.R_ok {c : ICon} {spec : List Int → List Int → Prop} (hc : c.Ok P w0.b spec) (hS : ∀ zs rs, spec zs rs → S c.id zs rs) (n nb : Nat) (code : Lin) (r : List V) (bk : List Blk) (k : RK) (G : Again) (ρ : Env) (m : Nat → Nat) (w : World) (X : Value) (xs : List Value) (R' : Ending → World → Prop)
    (hnb : bk.length = nb) (hbb : BlOk n bk.length ρ bk) (hkill : Mem w0 ρ m bk w) (hv : ∀ v ∈ r, V.ok n bk.length ρ v) (hr : LRel ρ m r xs) (r2 : code.sc n) (r4 : 0 ≤ code.den ρ ∧ code.den ρ ≤ RB)
    (ho3 : SlOw (fun g => w0.b.heap.size ≤ g) w c.sh c.e (rOf (code.den ρ)) X) (hlose : ∀ w', SlNew w w' (ownOf X) → Mem w0 ρ m bk w') (ho4 : ∀ g, ownOf X = some g → w0.b.heap.size ≤ g ∧ w0.r.heap.size ≤ g) (ho5 : ∀ (i : Nat) (p : Blk), bk[i]? = some p → ownOf X = some (m i) → kindC ρ p.1 = 0)
    (hh : (c.R n code r bk k).holds S L G ρ) (hk : RKok S L w0 k n nb ρ m G R') : Calls P c.f (X :: xs).toArray w R' := by
  subst hnb
  unfold ICon.R at hh
  obtain ⟨ρ1, n1, ls, hn1, ha1, ⟨g1, g2, g3⟩, hh⟩ := flatBM_snd (S := S) (L := L) hbb hkill hv hr G _ hh
  obtain ⟨hpre, hh⟩ := preM_holds hh
  simp only [T.holds] at hh
  have ec : code.den ρ1 = code.den ρ := Lin.den_agree ha1 r2
  have hF : ∀ g, BF w0 ρ m bk (r.flatMap baseV) (r.flatMap slcV) g → ownOf X ≠ some g := fun g hg he => by
    obtain ⟨⟨b', _, hbe, p, hp1, hp2, _⟩, _⟩ := hg
    exact hp2 (ho5 b' p hp1 (by rw [he, hbe]))
  rw [List.map_cons, ec] at hpre hh
  refine (hc.2 (BF w0 ρ m bk (r.flatMap baseV) (r.flatMap slcV)) w X (code.den ρ) xs _ hkill.ext ho3 r4 g2 hpre (g3 _ fun _ h => h) hF).mono ?_
  rintro e w' ⟨hnew, code', v', k1, k3, k4, rfl⟩
  have hh := allB_elim hh (show inB [((0 : Int), RB)] [code'] from ⟨k1.1, k1.2, trivial⟩) (hS _ _ k3)
  have hl := hlose w' hnew
  have hb1 := hbb.ext ha1 hn1 (Nat.le_refl bk.length)
  have ha2 : agree n1 ρ1 (updL ρ1 n1 [code']) := agree.updL [code'] n1 ρ1
  have hb2 := hb1.ext ha2 (Nat.le_add_right n1 1) (Nat.le_refl bk.length)
  have hw2 := (hl.rho hbb ha1).rho hb1 ha2
  have hA : At (updL ρ1 n1 [code']) n1 [code'] := At.updL ρ1 n1 [code']
  have haa := ha1.trans ha2 hn1
  have hLat : Later n bk.length ρ m (n1 + 1) bk.length (updL ρ1 n1 [code']) m := ⟨by omega, haa, Nat.le_refl _, fun _ _ => rfl⟩
  have hN : ∀ g, (ownOf X = some g ∨ w.heap.size ≤ g) → w0.b.heap.size ≤ g ∧ w0.r.heap.size ≤ g := fun g hg => by
    rcases hg with hg | hg
    · exact ho4 g hg
    · exact ⟨Nat.le_trans hkill.ext.size hg, Nat.le_trans hkill.hsize hg⟩
  have hdead : ∀ (i : Nat) (p : Blk), bk[i]? = some p → (ownOf X = some (m i) ∨ w.heap.size ≤ m i) → kindC (updL ρ1 n1 [code']) p.1 = 0 := fun i p hi hg => by
    rw [kindC_agree (hbb p (List.mem_of_getElem? hi)) haa]
    rcases hg with hg | hg
    · exact ho5 i p hi hg
    · by_cases h0 : kindC ρ p.1 = 0
      · exact h0
      · have := hkill.lt hi h0; omega
  obtain ⟨n', ρ', m', us', bl2, p1, p2, p3, p4, p5, p6⟩ := argE_ok (S := S) (L := L) (w0 := w0) (F := fun _ => False) (N := fun g => ownOf X = some g ∨ w.heap.size ≤ g) (fun g hg => hg.elim) hN (l := [.ow c.sh c.e]) (us := []) (vals := [v']) (by rfl) hb2 hw2 hA (show inB [((0 : Int), RB)] [code'] from ⟨k1.1, k1.2, trivial⟩) (Nat.le_refl _) ⟨k4, trivial⟩ (.inl rfl) (.inr hdead) (fun u hu => by simp at hu) hh
  have hres := resWs_spec (m := m') (vals := [v']) p5 (by rw [p4]; rfl)
  exact hk n' (resWs us') bl2 G ρ' m' w' v' (hLat.trans p1) (AgA.refl _ _) hres.1 hres.2 p2 p3 p6
theorem SlNew.ext {w w' : World} (h : SlNew w w' none) : w.Extends w' := by
  obtain ⟨n1, n2, n3, n4, n5⟩ := h
  have hblk : ∀ i : Nat, i < w.heap.size → w'.heap[i]? = w.heap[i]? := fun i hi => n5 i hi (fun e => by cases e)
  exact ⟨n1, n2, n3, n4, fun a ha => by simp only [World.cell?, hblk a.block ha], fun a ha => by simp only [World.frozen?, hblk a.block ha], hblk⟩
theorem ICon.E_ok {c : ICon} {spec : List Int → List Int → Prop} (hex : ∀ g, ¬ w0.ex g) (hc : c.Ok P w0.b spec) (hS : ∀ zs rs, spec zs rs → S c.id zs rs) (n : Nat) (vs : List V) (bl : List Blk) (k : RK) (G : Again) (ρ : Env) (m : Nat → Nat) (w : World) (xs : List Value) (R' : Ending → World → Prop)
    (hb : BlOk n bl.length ρ bl) (hw : Mem w0 ρ m bl w) (hv : ∀ v ∈ vs, V.ok n bl.length ρ v) (hr : LRel ρ m vs xs) (hh : (c.E n vs bl k).holds S L G ρ) (hk : RKok S L w0 k n bl.length ρ m G R') :
    (callFunc c.f xs.toArray).run P w = .ok (.enter c.f xs.toArray) w ∧ Calls P c.f xs.toArray w R' := by
  refine ⟨hc.1 _ _, ?_⟩
  have z4 : 0 ≤ (Lin.const 0).den ρ ∧ (Lin.const 0).den ρ ≤ RB := by rw [Lin.den_const]; exact ⟨Int.le_refl _, by have := RB_c (l := []) (by simp) (by simp); exact Int.le_trans (rc_nonneg []) this⟩
  have z0 : rOf ((Lin.const 0).den ρ) = [] := by rw [Lin.den_const]; exact rOf_zero
  unfold ICon.E at hh
  split at hh
  · rename_i b sz o ro len cap r
    split at hh
    rotate_left
    · exact hh.elim
    rename_i sh off code capb kind bt hbl
    cases hgd : (shBeq c.sh sh && Nat.beq kind 2 && Lin.beq o (.const 0) && Lin.beq off (.const 0) && Lin.beq ro (.const 0) && Lin.beq cap capb && Nat.beq bt.1 c.e) with
    | false => rw [hgd] at hh; exact hh.elim
    | true =>
    rw [hgd] at hh
    simp only [cond_true] at hh
    simp only [Bool.and_eq_true] at hgd
    obtain ⟨⟨⟨⟨⟨⟨b0, k2⟩, b1⟩, b2⟩, b3⟩, b4⟩, b5⟩ := hgd
    have b0 := shBeq_eq b0
    have b5 := Nat.eq_of_beq_eq_true b5
    have k2 := Nat.eq_of_beq_eq_true k2
    have b1 := Lin.beq_eq b1
    have b2 := Lin.beq_eq b2
    have b3 := Lin.beq_eq b3
    have b4 := Lin.beq_eq b4
    subst k2; subst b1; subst b2; subst b3; subst b4; subst b0
    match xs, hr with
    | X :: xs, hr =>
    obtain ⟨hk31, hh⟩ := hh
    have hk31 : len.den ρ = (rOf (code.den ρ)).length := hk31
    have hsok : (A.sl b sz (.const 0) (.const 0) len cap).ok n bl.length ρ := hv (.w (.one (.sl b sz (.const 0) (.const 0) len cap))) (by simp)
    obtain ⟨ptr, e1, e2, e3⟩ := sl_den (m := m) hsok
    have hsr : X = (A.sl b sz (.const 0) (.const 0) len cap).den ρ m := hr.1
    rw [e1] at hsr
    obtain ⟨x1, ⟨x2, x3, x4, x5⟩, ⟨x6, x7, x8, x9⟩, ⟨x10, x13⟩, x11, x12⟩ := hsok
    rw [Lin.den_const] at x13
    have hrr := hw.rws b c.sh (.const 0) code cap 2 bt hbl (by decide)
    have hAok : (A.rows c.sh (.const 0) code cap 2).ok n bl.length ρ := hb _ (List.mem_of_getElem? hbl) _ (by simp)
    obtain ⟨⟨r1, r2, r3⟩, r4, r5⟩ := hAok
    have hblen : b < bl.length := (List.getElem?_eq_some_iff.1 hbl).1
    have hln : (len.den ρ).toNat = (rOf (code.den ρ)).length := by omega
    have hown : (∀ g, ownOf X = some g → 0 ≤ cap.den ρ ∧ g = m b) ∧ SlOw (fun g => w0.b.heap.size ≤ g) w c.sh c.e (rOf (code.den ρ)) X ∧ (∀ g, ownOf X = some g → w0.b.heap.size ≤ g ∧ w0.r.heap.size ≤ g) := by
      by_cases hc0 : cap.den ρ < 0
      · have hl0 := x11 hc0
        have hX : X = .slice none (len.den ρ).toNat (if cap.den ρ < 0 then 0 else (cap.den ρ).toNat) := by rw [hsr, e2 hc0]
        refine ⟨(fun g h => by rw [hX] at h; cases h), Or.inl ⟨by rw [hX, if_pos hc0, hl0]; rfl, hrr.1 hc0⟩, (fun g h => by rw [hX] at h; cases h)⟩
      · obtain ⟨_, cells, tq, fz, g1, ⟨g2, g3⟩, g4⟩ := hrr.2 (by omega)
        obtain ⟨g0, g5, g6, g7, g8, g9⟩ := g4 (by decide)
        have g6 := g6.two
        subst g0 g6
        rw [Lin.den_const] at g3
        have hX : X = .slice (some ⟨m b, 0, none⟩) (rOf (code.den ρ)).length (cap.den ρ).toNat := by
          rw [hsr, e3 (by omega), if_neg hc0, hln, Lin.den_const]; simp
        have hcl := x12 (by omega)
        have hoX : ∀ g, ownOf X = some g → g = m b := fun g h => by
          rw [hX] at h
          unfold ownOf at h
          split at h
          · rename_i heq
            injection heq with h1 h2 h3
            injection h1 with h1
            rw [← h1] at h
            cases h; rfl
          · cases h
        refine ⟨(fun g h => ⟨by omega, hoX g h⟩), Or.inr ⟨m b, (cap.den ρ).toNat, cells, hX, ⟨by omega, by omega⟩, g8, by rw [← b5]; exact g1, g3, g7⟩, (fun g h => by
          rw [hoX g h]
          rcases g9 with h | h
          · exact absurd h (hex _)
          · exact ⟨g8, h⟩)⟩
    obtain ⟨ho2, ho3, ho4⟩ := hown
    have hbkl := setB_length bl b ([.rows c.sh (.const 0) code cap 0], bt)
    refine ICon.R_ok (S := S) (L := L) (w0 := w0) hc hS n bl.length code r (setB bl b ([.rows c.sh (.const 0) code cap 0], bt)) k G ρ m w X xs R' hbkl ?_ (hw.kill hbl) (fun v hv' => by rw [hbkl]; exact hv v (List.mem_cons_of_mem _ hv')) hr.2 r2 r4 ho3 (fun w' hn => hw.lose hbl ho2 hn) ho4 (fun i p hi hg => ?_) hh hk
    · refine hb.set ?_
      intro y hy
      have hy : y = .rows c.sh (.const 0) code cap 0 := by simpa using hy
      subst hy
      exact hb _ (List.mem_of_getElem? hbl) (.rows c.sh (.const 0) code cap 2) (by simp)
    · by_cases h0 : kindC ρ p.1 = 0
      · exact h0
      · exfalso
        obtain ⟨hc, hmb⟩ := ho2 _ hg
        have hset : i ≠ b ∧ bl[i]? = some p := by
          rw [setB_eq, List.getElem?_set] at hi
          split at hi
          · rename_i hbi
            subst hbi
            simp only [hblen, if_true, Option.some.injEq] at hi
            subst hi
            exact absurd (by simp [kindC]) h0
          · rename_i hbi; exact ⟨fun e => hbi e.symm, hi⟩
        exact hw.ne hbl hset.2 (by rw [kindC_rows (by decide) hc]; exact Nat.le_refl _) h0 (fun e => hset.1 e.symm) hmb.symm
  · rename_i r
    match xs, hr with
    | X :: xs, hr =>
    have hX : X = .slice none 0 0 := hr.1
    subst hX
    exact ICon.R_ok (S := S) (L := L) (w0 := w0) hc hS n bl.length (.const 0) r bl k G ρ m w _ xs R' rfl hb hw (fun v hv' => hv v (List.mem_cons_of_mem _ hv')) hr.2 (Lin.sc_const _ _) z4 (Or.inl ⟨rfl, z0⟩) (fun w' hn => hw.grow hn.ext) (fun g h => by cases h) (fun i p hi h => by cases h) hh hk
  · rename_i b r
    split at hh
    rotate_left
    · exact hh.elim
    rename_i t hbl
    cases hte : Nat.beq t c.e with
    | false => rw [hte] at hh; exact hh.elim
    | true =>
      rw [hte] at hh
      simp only [cond_true] at hh
      have hte := Nat.eq_of_beq_eq_true hte
      subst hte
      match xs, hr with
      | X :: xs, hr =>
      have hX : X = .slice (some ⟨m b, 0, none⟩) 0 0 := hr.1
      subst hX
      obtain ⟨g1, g2, rr, g3, g4⟩ := hw.blk b [] (c.e, false) hbl rfl
      have g3 := g3 rfl
      subst g3
      refine ICon.R_ok (S := S) (L := L) (w0 := w0) hc hS n bl.length (.const 0) r bl k G ρ m w _ xs R' rfl hb hw (fun v hv' => hv v (List.mem_cons_of_mem _ hv')) hr.2 (Lin.sc_const _ _) z4 (Or.inr ⟨m b, 0, #[], ?_, ⟨?_, by decide⟩, g1, by simpa using g4, ?_, by simp⟩) (fun w' hn => hw.grow hn.ext) (fun g h => by cases h) (fun i p hi h => by cases h) hh hk
      · rw [z0]; rfl
      · rw [z0]; exact Nat.le_refl _
      · rw [z0]; exact ⟨fun _ h => by simp at h, [], [], by simp [flatV], rfl⟩
  · exact hh.elim
/-- What is known of the callees, these among them. -/
noncomputable def icOf : List ICon → BC → BC
  | [], g, f => g f
  | c :: r, g, f => cond (Nat.beq c.f f) (some c.E) (icOf r g f)
theorem icOf_ok {wb r : World} {ro : Nat → Prop} {bc : BC} (hbc : BcOk S L ⟨wb, r, fun _ => False, ro, []⟩ P bc) : ∀ {l : List ICon}, (∀ c ∈ l, c.Ok P wb (S c.id)) → BcOk S L ⟨wb, r, fun _ => False, ro, []⟩ P (icOf l bc)
  | [], _ => hbc
  | c :: l, h => fun f g hf => by
    unfold icOf at hf
    cases hb : Nat.beq c.f f with
    | true =>
      rw [hb] at hf
      simp only [cond_true, Option.some.injEq] at hf
      have := Nat.eq_of_beq_eq_true hb
      subst this; subst hf
      intro n vs bl k G ρ m w xs R' h1 h2 h3 h4 h5 h6
      exact ICon.E_ok (w0 := ⟨wb, r, fun _ => False, ro, []⟩) (fun _ h => h) (h c (by simp)) (fun _ _ h => h) n vs bl k G ρ m w xs R' h1 h2 h3 h4 h5 h6
    | false =>
      rw [hb] at hf
      exact icOf_ok hbc (fun c hc => h c (List.mem_cons_of_mem _ hc)) f g hf
end
end Go.Rx

/- A function that ranges over slices.Chunk: the loop's rounds run by the iterator, each in a frame of its own. -/
set_option linter.unusedVariables false
set_option linter.unusedSimpArgs false
namespace Go.Rx
open M Go.RowKit
variable {S : Nat → List Int → List Int → Prop} {L : V → Env → Prop} {P : Program} {gl : Glo} {cal : Cal}

/-- What is asked of slices.Chunk's iterator. -/
def ChunkOk (P : Program) (f : FuncId) : Prop :=
  (∀ args w, (callFunc f args).run P w = .ok (.enter f args) w) ∧
  ∀ (l bs bn : Nat) (sv : Value) (g off len cap c : Nat) (J : Nat → World → Prop) (W : World),
    0 < c → len ≤ 9223372036854775807 → c ∣ len → len ≤ cap → c ≤ 9223372036854775807 →
    (sv = .slice (some ⟨g, off, none⟩) len cap ∨ (sv = .slice none 0 0 ∧ len = 0)) →
    (∀ i W, J i W → W.cell? ⟨bs, 0, none⟩ = some sv ∧ W.cell? ⟨bn, 0, none⟩ = some (.int .i64 c)) →
    (∀ i W, J i W → J i W.drew) →
    (∀ i W, J i W → c * i < len → YieldAt Fence.wide 0 P l #[.slice (some ⟨g, off + c * i, none⟩) c c] W fun e W' => e = .returned (.bool true) ∧ J (i + 1) W') →
    J 0 W → CallsIn Fence.wide 0 P f #[.func (.yield l) #[] #[], .pointer (some ⟨bs, 0, none⟩), .pointer (some ⟨bn, 0, none⟩)] W fun e W' => (∃ v, e = .returned v) ∧ J (len / c) W'

/-! ### Memory: another base -/
theorem ext_of_blocks {b w w' : World} (h : b.Extends w) (h1 : w'.os = w.os) (h2 : w'.tape = w.tape) (h3 : w'.output = w.output) (h4 : w.heap.size ≤ w'.heap.size) (h5 : ∀ k, k < b.heap.size → w'.heap[k]? = w.heap[k]?) : b.Extends w' :=
  ⟨h1.trans h.os, h2.trans h.tape, h3.trans h.output, Nat.le_trans h.size h4, fun a ha => (World.cell?_of_block (h5 _ ha)).trans (h.cell a ha), fun a ha => (World.frozen?_of_block (h5 _ ha)).trans (h.frozen a ha), fun i hi => (h5 i hi).trans (h.block i hi)⟩
/-- One object that holds no cells is turned, in the world and in what it is held against. -/
theorem Mem.turn {b r r' : World} {ex ro : Nat → Prop} {ds ds' : List Deferred} {ρ : Env} {m : Nat → Nat} {bl : List Blk} {w w' : World} (h : Mem ⟨b, r, ex, ro, ds⟩ ρ m bl w) (l : Nat) (hl : b.heap.size ≤ l) (hex : ¬ ex l) (hlt : l < r.heap.size)
    (hr : r'.os = r.os ∧ r'.tape = r.tape ∧ r'.output = r.output ∧ r'.heap.size = r.heap.size) (hw : w'.os = w.os ∧ w'.tape = w.tape ∧ w'.output = w.output ∧ w'.heap.size = w.heap.size)
    (h1 : ∀ k, k ≠ l → r'.heap[k]? = r.heap[k]?) (h2 : ∀ k, k ≠ l → w'.heap[k]? = w.heap[k]?) (h3 : w'.heap[l]? = r'.heap[l]?) (hc : ∀ o : Obj, r.heap[l]? = some o → o.isCells = false) : Mem ⟨b, r', ex, ro, ds'⟩ ρ m bl w' := by
  have hwl : w.heap[l]? = r.heap[l]? := h.frm l hlt hex
  have ne : ∀ {g : Nat} {cs : Array Value} {t : TypeId} {fz : Nat × Nat}, w.heap[g]? = some (.cells cs t fz) → g ≠ l := fun {g cs t fz} hg e => by
    subst e
    rw [hwl] at hg
    have := hc _ hg
    simp [Obj.isCells] at this
  refine ⟨ext_of_blocks h.ext hw.1 hw.2.1 hw.2.2.1 (by omega) (fun k hk => h2 k (by simp only at hl hk; omega)), by rw [hw.1, h.hos]; exact hr.1.symm, by rw [hw.2.1, h.htape]; exact hr.2.1.symm, by rw [hw.2.2.1, h.hout]; exact hr.2.2.1.symm, by have := h.hsize; simp only at this ⊢; omega, fun i hi hx => ?_, fun i cs t hi ho => ?_, fun i sh off code cap kind t hi => ?_, h.inj⟩
  · by_cases e : i = l
    · subst e; exact h3
    · rw [h2 i e, h1 i e]
      exact h.frm i (by simp only at hi ⊢; omega) hx
  · obtain ⟨g1, g2, rr, hr', g3⟩ := h.blk i cs t hi ho
    refine ⟨g1, g2.imp id fun h => ?_, rr, hr', by rw [h2 _ (ne g3)]; exact g3⟩
    simp only at h ⊢; omega
  · intro hk
    obtain ⟨g1, g2⟩ := h.rws i sh off code cap kind t hi hk
    refine ⟨g1, fun hcap => ?_⟩
    obtain ⟨k1, cells, t', fz, k2, k3, k4⟩ := g2 hcap
    refine ⟨k1.imp id (·.imp id fun h => by simp only at h ⊢; omega), cells, t', fz, by rw [h2 _ (ne k2)]; exact k2, k3, fun h2k => ?_⟩
    obtain ⟨j1, j2, j3, j4, j5, j6⟩ := k4 h2k
    exact ⟨j1, j2, j3, j4, j5, j6.imp id fun h => by simp only at h ⊢; omega⟩
/-- Held against less. -/
structure Sub (w1 w0 : Base) : Prop where
  b : w1.b = w0.b
  os : w1.r.os = w0.r.os
  tape : w1.r.tape = w0.r.tape
  out : w1.r.output = w0.r.output
  size : w0.r.heap.size ≤ w1.r.heap.size
  ex : ∀ g, w1.ex g ∨ w1.r.heap.size ≤ g → w0.ex g ∨ w0.r.heap.size ≤ g
  ro : ∀ g, w1.ro g → w0.ro g
  frm : ∀ i, i < w0.r.heap.size → ¬ w0.ex i → w1.r.heap[i]? = w0.r.heap[i]?
theorem Mem.less {w1 w0 : Base} {ρ : Env} {m : Nat → Nat} {bl : List Blk} {w : World} (h : Mem w1 ρ m bl w) (s : Sub w1 w0) : Mem w0 ρ m bl w := by
  refine ⟨s.b ▸ h.ext, h.hos.trans s.os, h.htape.trans s.tape, h.hout.trans s.out, Nat.le_trans s.size h.hsize, fun i hi hx => ?_, fun i cs t hi ho => ?_, fun i sh off code cap kind t hi => ?_, h.inj⟩
  · have hne : ¬ w1.ex i := fun e => by
      rcases s.ex i (.inl e) with e | e
      · exact hx e
      · omega
    exact (h.frm i (Nat.lt_of_lt_of_le hi s.size) hne).trans (s.frm i hi hx)
  · obtain ⟨g1, g2, g3⟩ := h.blk i cs t hi ho
    exact ⟨s.b ▸ g1, s.ex _ g2, g3⟩
  · intro hk
    obtain ⟨g1, g2⟩ := h.rws i sh off code cap kind t hi hk
    refine ⟨g1, fun hcap => ?_⟩
    obtain ⟨k1, cells, t', fz, k2, k3, k4⟩ := g2 hcap
    refine ⟨?_, cells, t', fz, k2, k3, fun h2k => ?_⟩
    · rcases k1 with k1 | k1 | k1
      · exact (s.ex _ (.inl k1)).imp id .inr
      · exact .inr (.inl (s.ro _ k1))
      · exact (s.ex _ (.inr k1)).imp id .inr
    · obtain ⟨j1, j2, j3, j4, j5, j6⟩ := k4 h2k
      exact ⟨j1, j2, j3, j4, s.b ▸ j5, s.ex _ j6⟩
/-- All that holds cells and is one's own may be written, all else lies as it lies now. -/
def narrow (w0 : Base) (W : World) (ds : List Deferred) : Base := ⟨w0.b, W, fun g => (w0.ex g ∨ w0.r.heap.size ≤ g) ∧ ∃ o : Obj, W.heap[g]? = some o ∧ o.isCells = true, w0.ro, ds⟩
theorem Mem.narrow {w0 : Base} {ρ : Env} {m : Nat → Nat} {bl : List Blk} {w : World} (h : Mem w0 ρ m bl w) (ds : List Deferred) : Mem (narrow w0 w ds) ρ m bl w := by
  refine ⟨h.ext, rfl, rfl, rfl, Nat.le_refl _, fun _ _ _ => rfl, fun i cs t hi ho => ?_, fun i sh off code cap kind t hi => ?_, h.inj⟩
  · obtain ⟨g1, g2, rr, hr', g3⟩ := h.blk i cs t hi ho
    exact ⟨g1, .inl ⟨g2, _, g3, rfl⟩, rr, hr', g3⟩
  · intro hk
    obtain ⟨g1, g2⟩ := h.rws i sh off code cap kind t hi hk
    refine ⟨g1, fun hcap => ?_⟩
    obtain ⟨k1, cells, t', fz, k2, k3, k4⟩ := g2 hcap
    refine ⟨?_, cells, t', fz, k2, k3, fun h2k => ?_⟩
    · rcases k1 with k1 | k1 | k1
      · exact .inl ⟨.inl k1, _, k2, rfl⟩
      · exact .inr (.inl k1)
      · exact .inl ⟨.inr k1, _, k2, rfl⟩
    · obtain ⟨j1, j2, j3, j4, j5, j6⟩ := k4 h2k
      exact ⟨j1, j2, j3, j4, j5, .inl ⟨j6, _, k2, rfl⟩⟩
theorem Sub.narrow {w0 : Base} {ρ : Env} {m : Nat → Nat} {bl : List Blk} {w : World} (h : Mem w0 ρ m bl w) (ds : List Deferred) : Sub (narrow w0 w ds) w0 :=
  ⟨rfl, h.hos, h.htape, h.hout, h.hsize, fun g hg => by
    rcases hg with hg | hg
    · exact hg.1
    · exact .inr (Nat.le_trans h.hsize hg), fun _ h => h, fun i hi hx => h.frm i hi hx⟩
theorem Sub.turn {w0 : Base} {b r r' : World} {ex ro : Nat → Prop} {ds ds' : List Deferred} (s : Sub ⟨b, r, ex, ro, ds⟩ w0) (l : Nat) (hl : w0.r.heap.size ≤ l) (hr : r'.os = r.os ∧ r'.tape = r.tape ∧ r'.output = r.output ∧ r'.heap.size = r.heap.size)
    (h1 : ∀ k, k ≠ l → r'.heap[k]? = r.heap[k]?) : Sub ⟨b, r', ex, ro, ds'⟩ w0 :=
  ⟨s.b, hr.1.trans s.os, hr.2.1.trans s.tape, hr.2.2.1.trans s.out, by have := s.size; simp only at this ⊢; omega, fun g hg => s.ex g (hg.imp id fun h => by simp only at h ⊢; omega), s.ro, fun i hi hx => by
    rw [h1 i (by omega)]; exact s.frm i hi hx⟩
theorem Mem.ds {b r : World} {ex ro : Nat → Prop} {ds ds' : List Deferred} {ρ : Env} {m : Nat → Nat} {bl : List Blk} {w : World} (h : Mem ⟨b, r, ex, ro, ds⟩ ρ m bl w) : Mem ⟨b, r, ex, ro, ds'⟩ ρ m bl w :=
  ⟨h.ext, h.hos, h.htape, h.hout, h.hsize, h.frm, h.blk, h.rws, h.inj⟩
theorem CalOk.ds {b r : World} {ex ro : Nat → Prop} {ds ds' : List Deferred} (h : CalOk S P gl ⟨b, r, ex, ro, ds⟩ cal) : CalOk S P gl ⟨b, r, ex, ro, ds'⟩ cal := fun f g hf L n ρ m bl vs xs h1 h2 h3 h4 => by
  obtain ⟨w, hw⟩ := h2
  exact fun G κ hh => by
    obtain ⟨ρ', n', v, k1, k2, ⟨k3, val, k4, k5⟩, k6⟩ := h f g hf L n ρ m bl vs xs h1 ⟨w, hw.ds⟩ h3 h4 G κ hh
    exact ⟨ρ', n', v, k1, k2, ⟨k3, val, k4, fun w hw => k5 w hw.ds⟩, k6⟩

/-! ### The loop -/
noncomputable def rangeE (P : Program) (gl : Glo) (cal : Cal) (inl : Inl) (li : Nat → Option LoopI) (rounds : Nat) (cells : List (Nat × Nat × Int × Int)) (fid : FuncId) (g : Operand) (ps : Array Tmp) (assign body : Code) (n : Nat) (tm : List V) (bl : List Blk) (k : SK) : T :=
  match opV tm g, ps.toList, hb cells 0 (n + 1) bl with
  | .clo f [.ptr bs 0, .ptr bn 0], [p], some (blH, l2, b2) => match bl[bs]?, bl[bn]?, blH[bs]?, blH[bn]? with
    | some ([.sl b sz o ro len cap], _), some ([.int .i64 N], _), some ([xs], _), some ([xn], _) => match N.l.isC with
      | some c => cond (Nat.beq f fid && decide (0 < c) && decide (c ≤ 9223372036854775807) && Nat.beq sz 1 && noDef assign && noDef body && fitV tm tm && fitB blH blH && A.beq xs (.sl b sz o ro len cap) && A.beq xn (.int .i64 N) && isOrd [xs] && isOrd [xn])
          (.chk 70 [len, .const c] (.loop n (l2 ++ [.const 0]) (n + 1) (b2 ++ [(0, 9223372036854775807)])
            (.br (.lt ((Lin.var (n + 1 + l2.length)).smul c) len)
              (codeE P gl cal inl li rounds assign (n + 1 + l2.length + 1) (setV tm p (.w (.one (.sl b 1 o (ro.add ((Lin.var (n + 1 + l2.length)).smul c)) (.const c) (.const c))))) blH fun x n' tm' bl' => match x with
                | .normal => codeE P gl cal inl li rounds body n' tm' bl' fun x n' tm' bl' => match x with
                  | .normal => match hb cells 0 (n + 1) (bl'.take bl.length) with
                    | some (blE, v2, _) => cond (fitB blH blE) (.again n (v2 ++ [(Lin.var (n + 1 + l2.length)).add (.const 1)])) .stuck
                    | none => .stuck
                  | _ => .stuck
                | _ => .stuck)
              (k (n + 1 + l2.length + 1) tm blH)))) .stuck
      | none => .stuck
    | _, _, _, _ => .stuck
  | _, _, _ => .stuck

theorem hs_keep {keep : List Nat} : ∀ (tm : List V) (i s : Nat), (∀ j, i ≤ j → j < i + tm.length → keep.any (Nat.beq j) = true) → hs keep [] i s tm = some (tm, [], [])
  | [], _, _, _ => rfl
  | v :: r, i, s, h => by
    unfold hs
    rw [h i (Nat.le_refl _) (by simp), hs_keep r (i + 1) s fun j h1 h2 => h j (by omega) (by simp only [List.length_cons]; omega)]
    rfl
theorem keepAll (tm : List V) (s : Nat) : hs (List.range tm.length) [] 0 s tm = some (tm, [], []) :=
  hs_keep tm 0 s fun j _ h => List.any_eq_true.2 ⟨j, List.mem_range.2 (by omega), Nat.beq_refl j⟩

theorem putObj_facts (w : World) (l : Nat) (o : Obj) : (w.putObj l o).os = w.os ∧ (w.putObj l o).tape = w.tape ∧ (w.putObj l o).output = w.output ∧ (w.putObj l o).heap.size = w.heap.size := ⟨rfl, rfl, rfl, World.putObj_size⟩
/-- The first cell of an ordinary block. -/
theorem Mem.cell0 {w0 : Base} {ρ : Env} {m : Nat → Nat} {bl : List Blk} {w : World} (h : Mem w0 ρ m bl w) {i : Nat} {x : A} {t : TypeId × Bool} (hi : bl[i]? = some ([x], t)) (ho : isOrd [x] = true) : w.cell? ⟨m i, 0, none⟩ = some (x.den ρ m) := by
  obtain ⟨_, _, r, _, h3⟩ := h.blk i _ t hi ho
  simp [World.cell?, h3]
/-- How memory looks between two rounds. -/
def Between (I : List Int → Prop) (w0 : Base) (W1 : World) (n : Nat) (ρ : Env) (m : Nat → Nat) (tm : List V) (blH : List Blk) (b2 : List (Int × Int)) (k2 : Nat) (tmps : Array Value) (i : Nat) (W : World) : Prop :=
  ∃ zs, zs.length = k2 ∧ inB (b2 ++ [(0, 9223372036854775807)]) (zs ++ [(i : Int)]) ∧ I (zs ++ [(i : Int)]) ∧ R (narrow w0 W1 []) (n + 1 + k2 + 1) (updL ρ (n + 1) (zs ++ [(i : Int)])) m tm blH { tmps := tmps, defers := [] } W

theorem range_wp {w0 : Base} {inl : Inl} {li : Nat → Option LoopI} {rounds : Nat} {cells : List (Nat × Nat × Int × Int)} {fid : FuncId} {g : Operand} {ps : Array Tmp} {assign body : Code} (hch : ChunkOk P fid) (hm : P.follows .mixedOrders = true)
    (hcal : ∀ r ex ro, CalOk S P gl ⟨w0.b, r, ex, ro, []⟩ cal) (hg : GOk gl w0) (hinl : ∀ r ex ro, InlOk S L ⟨w0.b, r, ex, ro, []⟩ P inl)
    {n : Nat} {ρ : Env} {m : Nat → Nat} {tm : List V} {bl : List Blk} {a : Act} {w : World} {G : Again} {k : SK} {Q : Exit → Act → World → Prop} (h : R w0 n ρ m tm bl a w) (hds : w0.ds = [])
    (hh : (rangeE P gl cal inl li rounds cells fid g ps assign body n tm bl k).holds S L G ρ)
    (hk : ∀ n' ρ' tm' bl' G' w1 D a' w', Later n bl.length ρ m n' (List.length bl') ρ' m → AgA n G G' → Sub w1 w0 → ¬ w1.ex D → w1.r.heap[D]? = some (.deferred (some [])) → w0.r.heap.size ≤ D → w0.b.heap.size ≤ D → w1.ds = [{ target := .collected D, args := #[] }] →
      R w1 n' ρ' m tm' bl' a' w' → (k n' tm' bl').holds S L G' ρ' → Q .normal a' w') : (Code.rangeFunc g ps assign body).wpIn Fence.wide 0 P Q a w := by
  unfold rangeE at hh
  split at hh
  rotate_left
  · exact hh.elim
  rename_i f bs bn p blH l2 b2 e1 e2 e3
  split at hh
  rotate_left
  · exact hh.elim
  rename_i b sz o ro len cap ts N tn xs tx xn tx' q1 q2 q3 q4
  split at hh
  rotate_left
  · exact hh.elim
  rename_i c hc
  generalize hcd : (Nat.beq f fid && decide (0 < c) && decide (c ≤ 9223372036854775807) && Nat.beq sz 1 && noDef assign && noDef body && fitV tm tm && fitB blH blH && A.beq xs (.sl b sz o ro len cap) && A.beq xn (.int .i64 N) && isOrd [xs] && isOrd [xn]) = cd at hh
  cases cd with
  | false => exact hh.elim
  | true =>
  simp only [Bool.and_eq_true, decide_eq_true_eq] at hcd
  obtain ⟨⟨⟨⟨⟨⟨⟨⟨⟨⟨⟨c1, c2⟩, c3⟩, c4⟩, c5⟩, c6⟩, c7⟩, c8⟩, c9⟩, c10⟩, c11⟩, c12⟩ := hcd
  have c1 := Nat.eq_of_beq_eq_true c1
  have c4 := Nat.eq_of_beq_eq_true c4
  subst c1; subst c4
  have c9 := A.beq_eq c9
  have c10 := A.beq_eq c10
  subst c9; subst c10
  simp only [cond_true, T.holds] at hh
  obtain ⟨hdv, I, μ, hI0, hB⟩ := hh
  have hdv : c ∣ len.den ρ := by simpa [chkD, chkD2, Lin.den_const] using hdv
  -- the captured slice
  have hokx : A.ok n bl.length ρ (.sl b 1 o ro len cap) := h.b _ (List.mem_of_getElem? q1) _ (by simp)
  obtain ⟨hbn, ⟨ho1, ho2, ho3, ho4⟩, hsl⟩ := hokx
  obtain ⟨⟨s1, s2, s3, s4⟩, ⟨s5, s6⟩, s7, s8⟩ := hsl
  have hgv : a.eval g = .func (.func f) #[] #[.pointer (some ⟨m bs, 0, none⟩), .pointer (some ⟨m bn, 0, none⟩)] := by
    have := (opV_spec h.t g).2
    rw [e1] at this
    exact this
  have hps : ps = #[p] := by rw [← Array.toArray_toList (xs := ps), e2]
  subst hps
  refine wpIn_rangeFunc ?_
  intro fn hfn
  obtain ⟨rec, hrec⟩ : ∃ rec : LoopState → Option Code → Loop, rec = fun st pe => { state := st, pending := pe, fn, tmps := a.tmps, params := #[p], assign, body, defers := w.heap.size } := ⟨_, rfl⟩
  obtain ⟨W1, hW1⟩ : ∃ W1, (w.alloc (.deferred (some []))).alloc (.loop (rec .ready none)) = W1 := ⟨_, rfl⟩
  have hL1 : W1.heap[w.heap.size + 1]? = some (.loop (rec .ready none)) := by
    rw [← hW1]; have := World.alloc_heap_new (w.alloc (.deferred (some []))) (.loop (rec .ready none)); rwa [World.size_alloc] at this
  have hK1 : W1.heap[w.heap.size]? = some (.deferred (some [])) := by
    rw [← hW1]; exact (Below.heap_alloc _ _ _ (by simp)).trans (World.alloc_heap_new w _)
  have hlt1 : w.heap.size + 1 < W1.heap.size := (Array.getElem?_eq_some_iff.1 hL1).1
  have hM1 : Mem w0 ρ m bl W1 := by rw [← hW1]; exact h.mm.grow (((World.Extends.refl w).alloc _).alloc _)
  have hbl : w0.b.heap.size ≤ w.heap.size := h.mm.ext.size
  have hrl : w0.r.heap.size ≤ w.heap.size := h.mm.hsize
  generalize hl : w.heap.size + 1 = l at *
  generalize hD : w.heap.size = D at *
  have hexl : ∀ (k : Nat) (o : Obj), W1.heap[k]? = some o → o.isCells = false → ¬ (narrow w0 W1 []).ex k := fun k o hk ho ⟨_, o', h1, h2⟩ => by
    rw [hk] at h1; cases h1; rw [ho] at h2; cases h2
  have R0 : R (narrow w0 W1 []) n ρ m tm bl { tmps := a.tmps, defers := [] } W1 := ⟨h.t, rfl, h.b, hM1.narrow []⟩
  have htok : ∀ v ∈ tm, V.ok n bl.length ρ v := fun v hv => by
    obtain ⟨i, hi⟩ := List.getElem?_of_mem hv
    exact (h.t.2 i v hi).1
  have e3' : hb cells 0 (n + 1 + ([] : List Lin).length) bl = some (blH, l2, b2) := e3
  obtain ⟨hll, hlb⟩ := hb_len e3
  -- the state at a round's head, out of a state behind a round
  have head : ∀ {n' : Nat} {ρ' : Env} {m' : Nat → Nat} {bl' blE : List Blk} {v2 : List Lin} {b2' : List (Int × Int)} {W : World} {x : Lin}, bl.length ≤ bl'.length → agree n ρ ρ' → (∀ b, b < bl.length → m' b = m b) →
      R (narrow w0 W1 []) n' ρ' m' tm bl' { tmps := a.tmps, defers := [] } W → hb cells 0 (n + 1) (bl'.take bl.length) = some (blE, v2, b2') → fitB blH blE = true →
      v2.length = l2.length ∧ inB b2 (v2.map (·.den ρ')) ∧ R (narrow w0 W1 []) (n + 1 + l2.length + 1) (updL ρ (n + 1) (v2.map (·.den ρ') ++ [x.den ρ'])) m tm blH { tmps := a.tmps, defers := [] } W := fun {n' ρ' m' bl' blE v2 b2' W x} k1 k2 k3 k4 k5 k6 => by
    obtain ⟨j1, j2, j3, _⟩ := head_R (li := { keep := List.range tm.length, ints := [], cells := cells }) (ext := [x]) k1 k2 k3 htok h.b k4 (keepAll tm (n + 1)) e3' (keepAll tm (n + 1)) (v2 := v2) k5 c7 k6
    simp only [List.length_nil, Nat.zero_add, Nat.add_zero, List.nil_append, List.length_cons, List.map_append, List.map_cons, List.map_nil] at j1 j2 j3
    exact ⟨j1, j2, j3⟩
  obtain ⟨i0, i1, i2⟩ := head (x := .const 0) (Nat.le_refl _) (agree.refl n ρ) (fun _ _ => rfl) R0 (by rw [List.take_length]; exact e3) c8
  have hJ0 : Between I w0 W1 n ρ m tm blH b2 l2.length a.tmps 0 W1 := by
    refine ⟨l2.map (·.den ρ), by simp, inB_append i1 ⟨by simp, by simp, trivial⟩, ?_, by simpa [Lin.den_const] using i2⟩
    simpa [Lin.den_const] using hI0
  -- what lies still between the rounds
  have still : ∀ {i : Nat} {W : World} {k : Nat} {o : Obj}, Between I w0 W1 n ρ m tm blH b2 l2.length a.tmps i W → W1.heap[k]? = some o → o.isCells = false → W.heap[k]? = some o := fun {i W k o} hJ hk ho => by
    obtain ⟨zs, z1, z2, z3, z4⟩ := hJ
    exact (z4.mm.frm k (Array.getElem?_eq_some_iff.1 hk).1 (hexl k o hk ho)).trans hk
  obtain ⟨C, hC⟩ : ∃ C : Nat, (C : Int) = c := ⟨c.toNat, Int.toNat_of_nonneg (by omega)⟩
  obtain ⟨N1, hN1⟩ : ∃ N1 : Nat, (N1 : Int) = len.den ρ := ⟨(len.den ρ).toNat, Int.toNat_of_nonneg (by omega)⟩
  have hdvN : C ∣ N1 := by rw [← hC, ← hN1] at hdv; exact Int.natCast_dvd_natCast.1 hdv
  have hcapN : N1 ≤ (cap.den ρ).toNat := by
    by_cases h0 : cap.den ρ < 0
    · have := s7 h0; omega
    · have := s8 (by omega); omega
  have hρv : ∀ {i : Nat} {zs : List Int}, zs.length = l2.length → updL ρ (n + 1) (zs ++ [(i : Int)]) (n + 1 + l2.length) = i := fun {i zs} hz => by
    rw [updL_ge _ _ _ _ (by simp [hz]), ← hz]; simp
  have hag : ∀ {i : Nat} {zs : List Int}, agree n ρ (updL ρ (n + 1) (zs ++ [(i : Int)])) := fun {i zs} => (agree.updL _ (n + 1) ρ).mono (by omega)
  have main := hch.2 l (m bs) (m bn) ((A.sl b 1 o ro len cap).den ρ m) (m b) ((o.den ρ).toNat + (ro.den ρ).toNat) N1 (cap.den ρ).toNat C (Between I w0 W1 n ρ m tm blH b2 l2.length a.tmps) W1 (by omega) (by omega) hdvN hcapN (by omega)
    (by
      simp only [A.den]
      by_cases h0 : cap.den ρ < 0
      · rw [if_pos h0]; have := s7 h0; exact .inr ⟨rfl, by omega⟩
      · rw [if_neg h0]; refine .inl ?_; rw [show (len.den ρ).toNat = N1 by omega, Nat.mul_one])
    (fun i W hJ => by
      obtain ⟨zs, z1, z2, z3, z4⟩ := hJ
      have y1 := z4.mm.cell0 q3 c11
      have y2 := z4.mm.cell0 q4 c12
      have hokx : A.ok n bl.length ρ (.sl b 1 o ro len cap) := h.b _ (List.mem_of_getElem? q1) _ (by simp)
      have hokn : A.ok n bl.length ρ (.int .i64 N) := h.b _ (List.mem_of_getElem? q2) _ (by simp)
      rw [A.den_ext hokx hag (fun _ _ => rfl)] at y1
      rw [A.den_ext hokn hag (fun _ _ => rfl)] at y2
      refine ⟨y1, y2.trans ?_⟩
      simp only [A.den, Lin.den_isC hc, hC])
    (fun i W hJ => by
      obtain ⟨zs, z1, z2, z3, z4⟩ := hJ
      exact ⟨zs, z1, z2, z3, z4.t, z4.d, z4.b, z4.mm.grow (World.Extends.drew (World.Extends.refl W))⟩)
    ?_ hJ0
  · refine ⟨l, [{ target := .collected D, args := #[] }], W1, { target := .fn (.func f) #[.pointer (some ⟨m bs, 0, none⟩), .pointer (some ⟨m bn, 0, none⟩)], args := #[.func (.yield l) #[] #[]] }, W1, f,
      #[.func (.yield l) #[] #[], .pointer (some ⟨m bs, 0, none⟩), .pointer (some ⟨m bn, 0, none⟩)], W1, ?_, ?_, fun f' hf' => trivial, ?_, fun hs => by simp [Fence.wide] at hs, ?_⟩
    · rw [← hW1, hrec, ← hl, ← hD]; exact run_enterLoop_outer _ _ _ _ _
    · simp only [resolve, hgv]
      simp [go_sem]
    · simp [invoke, go_sem, hch.1]
    · refine main.mono ?_
      rintro e W2 ⟨⟨v, rfl⟩, hJ⟩
      have hlW := still hJ hL1 rfl
      have hkW := still hJ hK1 rfl
      obtain ⟨zs, z1, z2, z3, z4⟩ := hJ
      have hbr := (allB_elim hB z2 z3).2
      have hlen2 : len.den (updL ρ (n + 1) (zs ++ [((N1 / C : Nat) : Int)])) = N1 := by rw [Lin.den_agree hag ho3, hN1]
      have hq : C * (N1 / C) = N1 := Nat.mul_div_cancel' hdvN
      have hden : BE.den (updL ρ (n + 1) (zs ++ [((N1 / C : Nat) : Int)])) (.lt ((Lin.var (n + 1 + l2.length)).smul c) len) = false := by
        simp only [BE.den, Lin.den_smul, Lin.den_var, hρv z1, hlen2, decide_eq_false_iff_not]
        rw [← hC]
        have : (C : Int) * ((N1 / C : Nat) : Int) = (N1 : Int) := by exact_mod_cast hq
        omega
      have hbr := hbr hden
      refine ⟨none, _, by have := run_endLoop (P := P) hlW (by rw [hrec]; simp); rw [hrec] at this; exact this, ?_⟩
      simp only
      obtain ⟨EX, hEX⟩ : ∃ o, o = Obj.loop { ({ state := .ready, pending := none, fn, tmps := a.tmps, params := #[p], assign, body, defers := D } : Loop) with state := .exhausted } := ⟨_, rfl⟩
      rw [← hEX]
      have M5 : Mem ⟨w0.b, W1.putObj l EX, (narrow w0 W1 []).ex, w0.ro, [{ target := .collected D, args := #[] }]⟩ (updL ρ (n + 1) (zs ++ [((N1 / C : Nat) : Int)])) m blH (W2.putObj l EX) :=
        Mem.turn z4.mm l (by omega) (hexl l _ hL1 rfl) hlt1 (putObj_facts _ _ _) (putObj_facts _ _ _) (fun k hk => World.putObj_heap_other hk) (fun k hk => World.putObj_heap_other hk) (by rw [World.putObj_heap_same (Array.getElem?_eq_some_iff.1 hlW).1, World.putObj_heap_same hlt1]) (fun o ho => by rw [hL1] at ho; cases ho; rfl)
      refine hk _ _ _ _ _ ⟨w0.b, W1.putObj l EX, (narrow w0 W1 []).ex, w0.ro, [{ target := .collected D, args := #[] }]⟩ D _ _ ⟨by omega, hag, by omega, fun _ _ => rfl⟩ (fun l' hl' => ?_) (Sub.turn (Sub.narrow hM1 []) l (by omega) (putObj_facts _ _ _) (fun k hk => World.putObj_heap_other hk)) (hexl D _ hK1 rfl) ((World.putObj_heap_other (by omega)).trans hK1) hrl hbl rfl ⟨z4.t, ?_, z4.b, M5⟩ hbr
      · unfold Again.set
        cases hb : Nat.beq l' n with
        | true => have := Nat.eq_of_beq_eq_true hb; omega
        | false => rfl
      · show _ ++ a.defers = _
        rw [h.d, hds]; rfl
  · -- one round
    intro i W hJ hlt
    have hlW := still hJ hL1 rfl
    obtain ⟨zs, z1, z2, z3, z4⟩ := hJ
    have hbr := (allB_elim hB z2 z3).1
    have hlen2 : len.den (updL ρ (n + 1) (zs ++ [(i : Int)])) = N1 := by rw [Lin.den_agree hag ho3, hN1]
    have hden : BE.den (updL ρ (n + 1) (zs ++ [(i : Int)])) (.lt ((Lin.var (n + 1 + l2.length)).smul c) len) = true := by
      simp only [BE.den, Lin.den_smul, Lin.den_var, hρv z1, hlen2, decide_eq_true_eq]
      rw [← hC]; exact_mod_cast hlt
    have hbr := hbr hden
    have hcl : C * i + C ≤ N1 := by
      obtain ⟨q, rfl⟩ := hdvN
      have : i < q := Nat.lt_of_mul_lt_mul_left hlt
      have : C * (i + 1) ≤ C * q := Nat.mul_le_mul_left C this
      rw [Nat.mul_succ] at this
      omega
    have hcap0 : ¬ cap.den ρ < 0 := fun h0 => by have := s7 h0; omega
    have hcapl := s8 (by omega)
    have hid : (ro.add ((Lin.var (n + 1 + l2.length)).smul c)).den (updL ρ (n + 1) (zs ++ [(i : Int)])) = ro.den ρ + (C * i : Nat) := by
      rw [Lin.den_add, Lin.den_smul, Lin.den_var, hρv z1, Lin.den_agree hag ho2, ← hC]; simp
    have hod : o.den (updL ρ (n + 1) (zs ++ [(i : Int)])) = o.den ρ := Lin.den_agree hag ho1
    -- the round's slice
    have hve : (V.w (.one (.sl b 1 o (ro.add ((Lin.var (n + 1 + l2.length)).smul c)) (.const c) (.const c)))).ok (n + 1 + l2.length + 1) blH.length (updL ρ (n + 1) (zs ++ [(i : Int)])) := by
      refine ⟨by omega, ⟨ho1.mono (by omega), Lin.sc_add (ho2.mono (by omega)) (Lin.sc_smul (Lin.sc_var (by omega))), Lin.sc_const _ _, Lin.sc_const _ _⟩, ?_⟩
      rw [hid, hod, Lin.den_const]
      exact ⟨⟨s1, by omega, by omega, by omega⟩, ⟨by omega, by omega⟩, fun h => by omega, fun _ => Int.le_refl _⟩
    have hvr : (V.w (.one (.sl b 1 o (ro.add ((Lin.var (n + 1 + l2.length)).smul c)) (.const c) (.const c)))).rel (updL ρ (n + 1) (zs ++ [(i : Int)])) m (.slice (some ⟨m b, (o.den ρ).toNat + (ro.den ρ).toNat + C * i, none⟩) C C) := by
      simp only [V.rel, Rx.W.den, A.den, hid, hod, Lin.den_const, Nat.mul_one]
      rw [if_neg (by omega), show c.toNat = C by omega, show (ro.den ρ + (C * i : Nat)).toNat = (ro.den ρ).toNat + C * i by omega, Nat.add_assoc]
    have hRt : R (narrow w0 W1 []) (n + 1 + l2.length + 1) (updL ρ (n + 1) (zs ++ [(i : Int)])) m (setV tm p (.w (.one (.sl b 1 o (ro.add ((Lin.var (n + 1 + l2.length)).smul c)) (.const c) (.const c))))) blH
        (({ tmps := a.tmps, defers := [] } : Act).put (some p) (.slice (some ⟨m b, (o.den ρ).toNat + (ro.den ρ).toNat + C * i, none⟩) C C)) W :=
      ⟨TRel.put z4.t (some p) hve hvr, z4.d, z4.b, z4.mm⟩
    have hy := run_yield (P := P) (args := #[.slice (some ⟨m b, (o.den ρ).toNat + (ro.den ρ).toNat + C * i, none⟩) C C]) hlW (by rw [hrec]; rfl)
    rw [hrec] at hy
    have eqt : (({ tmps := a.tmps, defers := [] } : Act).put (some p) (.slice (some ⟨m b, (o.den ρ).toNat + (ro.den ρ).toNat + C * i, none⟩) C C)) = { tmps := ((#[p] : Array Tmp).zip #[Value.slice (some ⟨m b, (o.den ρ).toNat + (ro.den ρ).toNat + C * i, none⟩) C C]).foldl (fun tmps (t, a) => tmps.setIfInBounds t a) a.tmps, defers := [] } := by
      simp [Act.put]
    rw [eqt] at hRt
    refine ⟨fn, _, assign, body, hy, roundIn_of_wpIn trivial ?_⟩
    refine codeE_wp (rd := some l) hm (hcal _ _ _) (fun g cs h => hg g cs h) (hinl _ _ _) assign (.inr c5) _ _ _ _ _ _ _ _ W _ hRt hbr fun x n1 ρ1 m1 tm1 bl1 G1 a1 w1 g1 g2 g3 g4 => ?_
    cases x with
    | exit id => exact g4.elim
    | ret => exact g4.elim
    | normal =>
      simp only at g4
      have hlX : w1.heap[l]? = some (.loop (rec .ready none)) := (g3.mm.frm l hlt1 (hexl l _ hL1 rfl)).trans hL1
      obtain ⟨BZ, hBZ⟩ : ∃ o, o = Obj.loop { rec .ready none with state := .busy } := ⟨_, rfl⟩
      have hBc : BZ.isCells = false := by rw [hBZ]; rfl
      have M2 : Mem ⟨w0.b, W1.putObj l BZ, (narrow w0 W1 []).ex, w0.ro, []⟩ ρ1 m1 bl1 (w1.putObj l BZ) :=
        Mem.turn g3.mm l (by omega) (hexl l _ hL1 rfl) hlt1 (putObj_facts _ _ _) (putObj_facts _ _ _) (fun k hk => World.putObj_heap_other hk) (fun k hk => World.putObj_heap_other hk) (by rw [World.putObj_heap_same (Array.getElem?_eq_some_iff.1 hlX).1, World.putObj_heap_same hlt1]) (fun o ho => by rw [hL1] at ho; cases ho; rfl)
      refine ⟨w1.putObj l BZ, by rw [hBZ]; exact run_beginRound hlX (by rw [hrec]), ?_⟩
      refine codeE_wp (rd := some l) hm (hcal _ _ _) (fun g cs h => hg g cs h) (hinl _ _ _) body (.inr c6) n1 tm1 bl1 _ G1 ρ1 m1 a1 _ _ (⟨g3.t, g3.d, g3.b, M2⟩ : R ⟨w0.b, W1.putObj l BZ, (narrow w0 W1 []).ex, w0.ro, []⟩ n1 ρ1 m1 tm1 bl1 a1 (w1.putObj l BZ)) g4 fun x n2 ρ2 m2 tm2 bl2 G2 a2 w2 k1 k2 k3 k4 => ?_
      cases x with
      | exit id => exact k4.elim
      | ret => exact k4.elim
      | normal =>
        simp only at k4
        split at k4
        rotate_left
        · exact k4.elim
        rename_i blE v2 b2' e4
        cases hf : fitB blH blE with
        | false => rw [hf] at k4; exact k4.elim
        | true =>
        rw [hf] at k4
        simp only [cond_true, T.holds] at k4
        have hl3 : w2.heap[l]? = some BZ := (k3.mm.frm l (by rw [World.putObj_size]; exact hlt1) (hexl l _ hL1 rfl)).trans (World.putObj_heap_same hlt1)
        have hlt3 := (Array.getElem?_eq_some_iff.1 hl3).1
        rw [hBZ] at hl3
        refine ⟨_, _, run_endRound none hl3, rfl, ?_⟩
        have hro : ({ { rec .ready none with state := .busy } with state := if (none : Option Code).isNone then .ready else .done, pending := none } : Loop) = rec .ready none := by rw [hrec]; rfl
        rw [hro]
        have M4 : Mem (narrow w0 W1 []) ρ2 m2 bl2 (w2.putObj l (.loop (rec .ready none))) :=
          Mem.turn k3.mm l (by omega) (hexl l _ hL1 rfl) (by rw [World.putObj_size]; exact hlt1) ⟨rfl, rfl, rfl, World.putObj_size.symm⟩ (putObj_facts _ _ _) (fun k hk => (World.putObj_heap_other hk).symm) (fun k hk => World.putObj_heap_other hk) (by rw [World.putObj_heap_same hlt3, hL1]) (fun o ho => by rw [World.putObj_heap_same hlt1] at ho; cases ho; exact hBc)
        have hL0 : Later n bl.length ρ m (n + 1 + l2.length + 1) blH.length (updL ρ (n + 1) (zs ++ [(i : Int)])) m := ⟨by omega, hag, by omega, fun _ _ => rfl⟩
        have hLL := (hL0.trans g1).trans k1
        have R4 : R (narrow w0 W1 []) n2 ρ2 m2 tm bl2 { tmps := a.tmps, defers := [] } (w2.putObj l (.loop (rec .ready none))) := ⟨h.t.ext hLL.ha hLL.hn hLL.hb hLL.hm, rfl, k3.b, M4⟩
        obtain ⟨u1, u2, u3⟩ := head (x := (Lin.var (n + 1 + l2.length)).add (.const 1)) hLL.hb hLL.ha hLL.hm R4 e4 hf
        have hρ2 : ρ2 (n + 1 + l2.length) = i := by rw [(g1.trans k1).ha _ (by omega), hρv z1]
        have hx : ((Lin.var (n + 1 + l2.length)).add (.const 1)).den ρ2 = ((i + 1 : Nat) : Int) := by rw [Lin.den_add, Lin.den_var, Lin.den_const, hρ2]; simp
        rw [hx] at u3
        have hGn : G2 n = fun vs => I vs ∧ μ vs < μ (zs ++ [(i : Int)]) := by
          rw [k2 n (by have := g1.hn; omega), g2 n (by omega)]
          unfold Again.set
          rw [show Nat.beq n n = true from Nat.beq_refl n]; rfl
        rw [hGn, List.map_append, List.map_cons, List.map_nil, hx] at k4
        have : i + 1 ≤ N1 := by
          have := Nat.mul_le_mul_right i (show 1 ≤ C by omega)
          omega
        exact ⟨v2.map (·.den ρ2), by simp [u1], inB_append u2 ⟨by omega, by omega, trivial⟩, k4.1, u3⟩

/-! ### A function with such a loop -/
noncomputable def bodyR (P : Program) (gl : Glo) (cal : Cal) (inl : Inl) (li : FuncId → Nat → Option LoopI) (rounds : Nat) (cells : List (Nat × Nat × Int × Int)) (fid : FuncId) : Inl :=
  fun f n vs bl k => match P.funcs[f]? with
    | none => .stuck
    | some fn => match fn.body with
      | some (.seq c0 (.seq (.seq c1 (.block _ (.rangeFunc g ps assign body))) c3)) => cond (!(fn.name == "runtime.NumGoroutine") && Nat.ble vs.length fn.ntmps)
          (codeE P gl cal inl (li f) rounds c0 n (vs ++ replV (fn.ntmps - vs.length)) bl fun x n tm bl => match x with
            | .normal => codeE P gl cal inl (li f) rounds c1 n tm bl fun x n tm bl => match x with
              | .normal => rangeE P gl cal inl (li f) rounds cells fid g ps assign body n tm bl fun n tm bl =>
                  codeE P gl cal (fun _ _ _ _ _ => .stuck) (li f) rounds c3 n tm bl fun x n tm bl => match x with
                    | .exit _ => .stuck
                    | _ => resE P gl fn n tm bl k
              | _ => .stuck
            | _ => .stuck) .stuck
      | _ => .stuck
theorem inl0_ok {w0 : Base} : InlOk S L w0 P (fun _ _ _ _ _ => .stuck) := fun f n vs bl k G ρ m w xs R' _ _ _ _ hh _ => hh.elim
theorem bodyR_ok {w0 : Base} {inl : Inl} {li : FuncId → Nat → Option LoopI} {rounds : Nat} {cells : List (Nat × Nat × Int × Int)} {fid : FuncId} (hch : ChunkOk P fid) (hm : P.follows .mixedOrders = true)
    (hcal : ∀ r ex ro, CalOk S P gl ⟨w0.b, r, ex, ro, []⟩ cal) (hg : GOk gl w0) (hinl : ∀ r ex ro, InlOk S L ⟨w0.b, r, ex, ro, []⟩ P inl) (hds : w0.ds = []) : InlOk S L w0 P (bodyR P gl cal inl li rounds cells fid) := by
  have hw0 : w0 = ⟨w0.b, w0.r, w0.ex, w0.ro, []⟩ := by cases w0; simp at hds; subst hds; rfl
  have hcal0 : CalOk S P gl w0 cal := by rw [hw0]; exact hcal _ _ _
  have hinl0 : InlOk S L w0 P inl := by rw [hw0]; exact hinl _ _ _
  intro f n vs bl k G ρ m w xs R' hb hmem hvs hrel hh hk
  unfold bodyR at hh
  cases hf : P.funcs[f]? with
  | none => simp [hf, T.holds] at hh
  | some fn =>
    simp only [hf] at hh
    split at hh
    rotate_left
    · exact hh.elim
    rename_i c0 c1 id g ps assign body c3 hbody
    cases hc : (!(fn.name == "runtime.NumGoroutine") && Nat.ble vs.length fn.ntmps) with
    | false => simp [hc, T.holds] at hh
    | true =>
      simp only [hc, cond_true] at hh
      simp only [Bool.and_eq_true, Bool.not_eq_true'] at hc
      have hlen := LRel_len hrel
      refine ⟨?_, ?_⟩
      · have h1 : ¬ fn.name = "runtime.NumGoroutine" := by have := hc.1; simpa using this
        simp [callFunc, hf, hbody, h1]
      · refine (callsIn_wide (n := 0)).1 (callsIn_of_wp_marks hf hbody trivial ?_ rfl)
        have hR : R w0 n ρ m (vs ++ replV (fn.ntmps - vs.length)) bl { tmps := xs.toArray ++ Array.replicate (fn.ntmps - xs.toArray.size) undef, defers := [] } w := by
          refine ⟨?_, hds.symm, hb, hmem⟩
          have := TRel_of_LR (LR_args (fn.ntmps - vs.length) hvs hrel)
          have e : (xs ++ List.replicate (fn.ntmps - vs.length) undef).toArray = xs.toArray ++ Array.replicate (fn.ntmps - xs.toArray.size) undef := by
            simp [hlen]
          rw [e] at this
          exact this
        refine wpIn_seq (codeE_wp (rd := none) hm hcal0 hg hinl0 c0 (.inl rfl) n _ bl _ G ρ m _ w _ hR hh fun x n1 ρ1 m1 tm1 bl1 G1 a1 w1 h1 h2 h3 h4 => ?_)
        cases x with
        | exit id => exact h4.elim
        | ret => exact h4.elim
        | normal =>
        refine wpIn_seq (wpIn_seq (codeE_wp (rd := none) hm hcal0 hg hinl0 c1 (.inl rfl) n1 tm1 bl1 _ G1 ρ1 m1 a1 w1 _ h3 h4 fun x n2 ρ2 m2 tm2 bl2 G2 a2 w2 k1 k2 k3 k4 => ?_))
        cases x with
        | exit id => exact k4.elim
        | ret => exact k4.elim
        | normal =>
        refine wpIn_block (range_wp hch hm hcal hg hinl k3 hds k4 fun n3 ρ3 tm3 bl3 G3 b3 D a3 w3 p1 p2 p3 p4 p5 p6 p7 p8 p9 p10 => ?_)
        have hcal3 : CalOk S P gl b3 cal := by
          have e : b3 = ⟨w0.b, b3.r, b3.ex, b3.ro, b3.ds⟩ := by have := p3.b; cases b3; simp at this; subst this; rfl
          rw [e]; exact (hcal _ _ _).ds
        have hg3 : GOk gl b3 := fun g cs h => by rw [p3.b]; exact hg g cs h
        refine codeE_wp (rd := none) hm hcal3 hg3 inl0_ok c3 (.inl rfl) n3 tm3 bl3 _ G3 ρ3 m2 a3 w3 _ p9 p10 fun x n4 ρ4 m4 tm4 bl4 G4 a4 w4 q1 q2 q3 q4 => ?_
        have hD : w4.heap[D]? = some (.deferred (some [])) := (q3.mm.frm D (Array.getElem?_eq_some_iff.1 p5).1 p4).trans p5
        have hltD := (Array.getElem?_eq_some_iff.1 hD).1
        have M6 : Mem ⟨b3.b, b3.r.putObj D (.deferred none), b3.ex, b3.ro, []⟩ ρ4 m4 bl4 (w4.putObj D (.deferred none)) := by
          have e : b3 = ⟨b3.b, b3.r, b3.ex, b3.ro, b3.ds⟩ := rfl
          refine Mem.turn (e ▸ q3.mm) D (by rw [p3.b]; exact p7) p4 (Array.getElem?_eq_some_iff.1 p5).1 (putObj_facts _ _ _) (putObj_facts _ _ _) (fun k hk => World.putObj_heap_other hk) (fun k hk => World.putObj_heap_other hk) (by rw [World.putObj_heap_same hltD, World.putObj_heap_same (Array.getElem?_eq_some_iff.1 p5).1]) (fun o ho => by rw [p5] at ho; cases ho; rfl)
        have S6 : Sub ⟨b3.b, b3.r.putObj D (.deferred none), b3.ex, b3.ro, []⟩ w0 := Sub.turn (ds := b3.ds) p3 D p6 (putObj_facts _ _ _) (fun k hk => World.putObj_heap_other hk)
        have M7 : Mem w0 ρ4 m4 bl4 (w4.putObj D (.deferred none)) := M6.less S6
        have R7 : R w0 n4 ρ4 m4 tm4 bl4 { a4 with defers := [] } (w4.putObj D (.deferred none)) := ⟨q3.t, hds.symm, q3.b, M7⟩
        have fin : (resE P gl fn n4 tm4 bl4 k).holds S L G4 ρ4 → LeavesInM Fence.wide 0 P fn a4.tmps R' a4.defers .returning w4 := fun hr => by
          obtain ⟨v, val, u1, u2, u3, u4⟩ := resE_spec hg R7 hr
          have hL := (((h1.trans k1).trans p1).trans q1)
          have hA := (((h2.trans k2 h1.hn).trans p2 (h1.trans k1).hn).trans q2 ((h1.trans k1).trans p1).hn)
          rw [q3.d, p8]
          exact ⟨by simp, .inl ⟨D, _, rfl, run_takeDeferred hD, val, u3, hk n4 v bl4 G4 ρ4 m4 _ val hL hA u1 u2 q3.b M7 u4⟩⟩
        cases x with
        | exit id => exact q4.elim
        | normal => exact fin q4
        | ret => exact fin q4
end Go.Rx
