/- Contracts of functions that take slices and hand slices back. -/
import Derived.Test.YtlecfjcooglpoaaDoorRx16
set_option linter.unusedVariables false
set_option linter.unusedSimpArgs false
namespace Go.Rx
open M

/-- What a function takes or hands back: a value of numbers, rows to be read, rows of one's own. -/
inductive BD where
  | d (x : D)
  | rd (sh : List CK)
  | ow (sh : List CK) (e : TypeId)
def BD.num : BD → Nat
  | d x => x.num
  | _ => 1
noncomputable def BD.bds : BD → List (Int × Int)
  | d x => x.bds
  | _ => [(0, RB)]
noncomputable def bbds : List BD → List (Int × Int)
  | [] => []
  | x :: r => x.bds ++ bbds r
theorem BD.bds_len (b : BD) : b.bds.length = b.num := by cases b <;> simp [BD.bds, BD.num, D.bds_len]
def BD.isD : BD → Bool
  | d _ => true
  | _ => false
def BD.isOw : BD → Bool
  | ow _ _ => true
  | _ => false
def BD.isRd : BD → Bool
  | rd _ => true
  | _ => false
/-- One slice of one's own alone, or slices for reading. -/
def bdOk : List BD → Bool
  | [] => true
  | .d _ :: r => bdOk r
  | .rd _ :: r => r.all (fun b => !b.isOw) && bdOk r
  | .ow _ _ :: r => r.all BD.isD && bdOk r

/-- A slice that reads as rows; it lies where F says. -/
def SlAt (F : Nat → Prop) (w : World) (sh : List CK) (rows : List (List Int)) (v : Value) : Prop :=
  (v = .slice none 0 0 ∧ rows = []) ∨ ∃ (g o cap : Nat) (cells : Array Value) (t : TypeId) (fz : Nat × Nat), v = .slice (some ⟨g, o, none⟩) rows.length cap ∧ (rows.length ≤ cap ∧ (cap : Int) ≤ 9223372036854775807) ∧ F g ∧ w.heap[g]? = some (.cells cells t fz) ∧ RowsAt cells o sh rows
def SlOw (N : Nat → Prop) (w : World) (sh : List CK) (e : TypeId) (rows : List (List Int)) (v : Value) : Prop :=
  (v = .slice none 0 0 ∧ rows = []) ∨ ∃ (g cap : Nat) (cells : Array Value), v = .slice (some ⟨g, 0, none⟩) rows.length cap ∧ (rows.length ≤ cap ∧ (cap : Int) ≤ 9223372036854775807) ∧ N g ∧ w.heap[g]? = some (.cells cells e (0, 0)) ∧ RowsAt cells 0 sh rows ∧ cells.size = cap * sh.length
def BD.at (F N : Nat → Prop) (w : World) : BD → List Int → Value → Prop
  | d x, zs, v => v = x.val zs
  | rd sh, zs, v => SlAt F w sh (rOf (zs.getD 0 0)) v
  | ow sh e, zs, v => SlOw N w sh e (rOf (zs.getD 0 0)) v
def atL (F N : Nat → Prop) (w : World) : List BD → List Int → List Value → Prop
  | [], _, [] => True
  | b :: r, zs, v :: vs => b.at F N w zs v ∧ atL F N w r (zs.drop b.num) vs
  | _, _, _ => False
def tupV (us : List Value) : Value := match us with | [x] => x | l => .tuple l.toArray

/-- A contract. -/
structure BCon where
  f : FuncId
  id : Nat
  args : List BD
  res : List BD
  pre : Nat := 0
/-- What a contract asks of its arguments' numbers. -/
def preD : Nat → List Int → Prop
  | 0, _ => True
  | p + 1, l => chkD (p + 1) l
def preM : Nat → List Lin → T → T
  | 0, _, r => r
  | p + 1, ls, r => .chk (p + 1) ls r
def preA : Nat → List Lin → T → T
  | 0, _, r => r
  | p + 1, ls, r => .asm (p + 1) ls r
theorem preM_holds {S : Nat → List Int → List Int → Prop} {L : V → Env → Prop} {A : Again} {ρ : Env} {p : Nat} {ls : List Lin} {r : T} (h : (preM p ls r).holds S L A ρ) : preD p (ls.map (·.den ρ)) ∧ r.holds S L A ρ := by
  cases p with
  | zero => exact ⟨trivial, h⟩
  | succ p => exact h
theorem preA_holds {S : Nat → List Int → List Int → Prop} {L : V → Env → Prop} {A : Again} {ρ : Env} {p : Nat} {ls : List Lin} {r : T} (h : (preA p ls r).holds S L A ρ) (hp : preD p (ls.map (·.den ρ))) : r.holds S L A ρ := by
  cases p with
  | zero => exact h
  | succ p => exact h hp
def BCon.Ok (P : Program) (wb : World) (c : BCon) (spec : List Int → List Int → Prop) : Prop :=
  (∀ args w, (callFunc c.f args).run P w = .ok (.enter c.f args) w) ∧
  ∀ (F : Nat → Prop) (w : World) (vs : List Value) (zs : List Int), wb.Extends w → inB (bbds c.args) zs → preD c.pre zs → atL F (fun _ => False) w c.args zs vs →
    Calls P c.f vs.toArray w fun e w' => w.Extends w' ∧ ∃ rs us, inB (bbds c.res) rs ∧ spec zs rs ∧ atL (fun g => F g ∨ w.heap.size ≤ g) (fun g => w.heap.size ≤ g) w' c.res rs us ∧ e = .returned (tupV us)

/-! ### New symbols for what comes in -/
noncomputable def argE : List BD → Nat → Nat → List W → List Blk → (Nat → List W → List Blk → T) → T
  | [], _, n, us, bl, k => k n us bl
  | .d x :: r, s, n, us, bl, k => argE r (s + x.num) n (us ++ [x.sym s]) bl k
  | .rd sh :: r, s, n, us, bl, k => .nat n (.unk (n + 1) (-1) 9223372036854775807 (.fn (n + 2) 20 [.var s] 0 9223372036854775807
      (argE r (s + 1) (n + 3) (us ++ [.one (.sl bl.length sh.length (.var n) (.const 0) (.var (n + 2)) (.var (n + 1)))]) (bl ++ [([.rows sh (.var n) (.var s) (.var (n + 1)) 1], (0, false))]) k)))
  | .ow sh e :: r, s, n, us, bl, k => .unk n (-1) 9223372036854775807 (.fn (n + 1) 20 [.var s] 0 9223372036854775807
      (argE r (s + 1) (n + 2) (us ++ [.one (.sl bl.length sh.length (.const 0) (.const 0) (.var (n + 1)) (.var n))]) (bl ++ [([.rows sh (.const 0) (.var s) (.var n) 2], (e, false))]) k))

section
variable {S : Nat → List Int → List Int → Prop} {L : V → Env → Prop} {w0 : Base} {P : Program} {gl : Glo} {cal : Cal}
theorem At.agree {ρ ρ' : Env} {s n : Nat} {zs : List Int} (h : At ρ s zs) (ha : agree n ρ ρ') (hn : s + zs.length ≤ n) : At ρ' s zs := fun j hj => by rw [ha (s + j) (by omega)]; exact h j hj
theorem upd_lt {ρ : Env} {n i : Nat} {z : Int} (h : i < n) : upd ρ n z i = ρ i := upd_ne ρ z (by omega)

theorem argE_ok {F N : Nat → Prop} (hF : ∀ g, F g → w0.ex g ∨ w0.ro g ∨ w0.r.heap.size ≤ g) (hN : ∀ g, N g → w0.b.heap.size ≤ g ∧ w0.r.heap.size ≤ g) : ∀ {l : List BD} {s n : Nat} {us : List W} {bl : List Blk} {k : Nat → List W → List Blk → T} {G : Again} {ρ : Env} {m : Nat → Nat} {w : World} {zs : List Int} {vals : List Value},
    bdOk l = true → BlOk n bl.length ρ bl → Mem w0 ρ m bl w → At ρ s zs → inB (bbds l) zs → s + (bbds l).length ≤ n → atL F N w l zs vals →
    ((l.all fun b => !b.isRd) = true ∨ ∀ (i : Nat) (p : Blk), bl[i]? = some p → F (m i) → kindC ρ p.1 ≤ 1) → ((l.all fun b => !b.isOw) = true ∨ ∀ (i : Nat) (p : Blk), bl[i]? = some p → N (m i) → kindC ρ p.1 = 0) →
    (∀ u ∈ us, W.ok n bl.length ρ u) →
    (argE l s n us bl k).holds S L G ρ → ∃ n' ρ' m' us' bl', Later n bl.length ρ m n' (List.length bl') ρ' m' ∧ BlOk n' bl'.length ρ' bl' ∧ Mem w0 ρ' m' bl' w ∧ us'.map (W.den ρ' m') = us.map (W.den ρ m) ++ vals ∧ (∀ u ∈ us', W.ok n' bl'.length ρ' u) ∧ (k n' us' bl').holds S L G ρ'
  | [], s, n, us, bl, k, G, ρ, m, w, zs, vals, _, hb, hm, _, _, _, hat, _, _, hus, hh => by
    match vals, hat with
    | [], _ => exact ⟨n, ρ, m, us, bl, Later.refl _ _ _ _, hb, hm, by simp, hus, hh⟩
  | .d x :: r, s, n, us, bl, k, G, ρ, m, w, zs, vals, hok, hb, hm, hA, hz, hn, hat, h1, h2, hus, hh => by
    match vals, hat with
    | v :: vs, hat =>
      obtain ⟨hv, hat⟩ := hat
      have hv : v = x.val zs := hv
      simp only [bbds, BD.bds] at hz hn
      simp only [List.length_append] at hn
      obtain ⟨i1, i2⟩ := inB_split hz
      rw [D.bds_len] at i1 i2 hn
      have hs := D.sym_spec (ρ := ρ) (m := m) (N := n) (nb := bl.length) x i1 hA (by omega)
      obtain ⟨n', ρ', m', us', bl', g1, g2, g3, g4, g5, g6⟩ := argE_ok hF hN (l := r) (s := s + x.num) (us := us ++ [x.sym s]) (zs := zs.drop x.num) hok hb hm (hA.drop x.num) i2 (by omega) hat (by
        rcases h1 with h1 | h1
        · left; simpa [BD.isRd] using h1
        · exact .inr h1) (by
        rcases h2 with h2 | h2
        · left; simpa [BD.isOw] using h2
        · exact .inr h2) (fun u hu => by
        rcases List.mem_append.1 hu with hu | hu
        · exact hus u hu
        · simp at hu; subst hu; exact hs.1) hh
      exact ⟨n', ρ', m', us', bl', g1, g2, g3, by rw [g4, List.map_append, hv]; simp [hs.2], g5, g6⟩
  | .rd sh :: r, s, n, us, bl, k, G, ρ, m, w, zs, vals, hok, hb, hm, hA, hz, hn, hat, h1, h2, hus, hh => by
    match vals, hat with
    | v :: vs, hat =>
      obtain ⟨hv, hat⟩ := hat
      match zs, hz with
      | z :: zs, hz =>
        obtain ⟨z1, z2, hz⟩ := hz
        have hv : SlAt F w sh (rOf z) v := hv
        obtain ⟨hA0, hA1⟩ := hA.tail
        have h1 : ∀ (i : Nat) (p : Blk), bl[i]? = some p → F (m i) → kindC ρ p.1 ≤ 1 := by
          rcases h1 with h1 | h1
          · simp [BD.isRd] at h1
          · exact h1
        simp only [bbds, BD.bds, List.length_append, List.length_cons, List.length_nil] at hn
        simp only [bdOk, Bool.and_eq_true] at hok
        have hlen : (rOf z).length ≤ 9223372036854775807 := by
          rcases hv with ⟨_, h⟩ | ⟨_, _, cap, _, _, _, _, ⟨h3, h4⟩, _⟩
          · simp [h]
          · omega
        have hzl : zs.length = (bbds r).length := inB_len hz
        -- where it lies
        obtain ⟨g, o, cap, hg1, hg2, hg3, hg4, hg5⟩ : ∃ (g : Nat) (o : Nat) (cap : Int), (-1 ≤ cap ∧ cap ≤ 9223372036854775807) ∧ (cap < 0 → rOf z = []) ∧ (0 ≤ cap → ((rOf z).length : Int) ≤ cap) ∧
            (v = if cap < 0 then Value.slice none 0 0 else .slice (some ⟨g, o, none⟩) (rOf z).length cap.toNat) ∧
            (0 ≤ cap → F g ∧ ∃ cells t fz, w.heap[g]? = some (.cells cells t fz) ∧ RowsAt cells o sh (rOf z)) := by
          rcases hv with ⟨h3, h4⟩ | ⟨g, o, cap, cells, t, fz, h3, ⟨h4, h5⟩, h6, h7, h8⟩
          · exact ⟨0, 0, -1, by omega, fun _ => h4, fun h => by omega, by simp [h3], fun h => by omega⟩
          · exact ⟨g, o, cap, by omega, fun h => by omega, fun _ => by omega, by rw [if_neg (by omega)]; simpa using h3, fun _ => ⟨h6, cells, t, fz, h7, h8⟩⟩
        have hh3 := hh (o : Int) (by omega) cap hg1.1 hg1.2 (rOf z).length (by omega) (by omega) (by
          simp only [List.map_cons, List.map_nil, fnD, Lin.den_var]
          rw [upd_lt (by omega), upd_lt (by omega), hA0])
        generalize hρ : upd (upd (upd ρ n (o : Int)) (n + 1) cap) (n + 2) ((rOf z).length : Int) = ρ3 at hh3
        have ha : agree n ρ ρ3 := by
          rw [← hρ]
          intro i hi
          rw [upd_lt (by omega), upd_lt (by omega), upd_lt hi]
        have e0 : ρ3 n = o := by rw [← hρ, upd_lt (by omega), upd_lt (by omega), upd_same]
        have e1 : ρ3 (n + 1) = cap := by rw [← hρ, upd_lt (by omega), upd_same]
        have e2 : ρ3 (n + 2) = (rOf z).length := by rw [← hρ, upd_same]
        have e3 : ρ3 s = z := by rw [ha s (by omega)]; exact hA0
        have hm3 := hm.rho hb ha
        have hb3 := hb.ext ha (show n ≤ n + 3 by omega) (Nat.le_refl bl.length)
        have hAk : (A.rows sh (.var n) (.var s) (.var (n + 1)) 1).ok (n + 3) bl.length ρ3 := ⟨⟨Lin.sc_var (by omega), Lin.sc_var (by omega), Lin.sc_var (by omega)⟩, by rw [Lin.den_var, e3]; exact ⟨z1, z2⟩, by rw [Lin.den_var, e1]; exact hg1⟩
        have hM := hm3.push (x := ([.rows sh (.var n) (.var s) (.var (n + 1)) 1], (0, false))) (g := g) hb3 (fun y hy => by simp at hy; subst hy; exact hAk) (fun ho => by cases ho) (fun sh' off' code' cap' kind' he => by
            cases he
            intro _
            refine ⟨fun h => by rw [Lin.den_var, e1] at h; rw [Lin.den_var, e3]; exact hg2 h, fun h => ?_⟩
            rw [Lin.den_var, e1] at h
            obtain ⟨hFg, cells, t, fz, k1, k2⟩ := hg5 h
            exact ⟨hF g hFg, cells, t, fz, k1, ⟨by rw [Lin.den_var, e0]; omega, by rw [Lin.den_var, Lin.den_var, e0, e3]; exact k2⟩, fun h2 => by omega⟩) (fun i p hi he => by
              by_cases hc : 0 ≤ cap
              · refine .inl ⟨?_, ?_⟩
                · rw [kindC_agree (hb _ (List.mem_of_getElem? hi)) ha]
                  exact h1 i p hi (by rw [he]; exact (hg5 hc).1)
                · rw [kindC_rows (by decide) (by rw [Lin.den_var, e1]; exact hc)]; exact Nat.le_refl 1
              · refine .inr (.inr ?_)
                simp only [kindC, Lin.den_var, e1]
                rw [if_pos (by omega)])
        have hlat : Later n bl.length ρ m (n + 3) (bl ++ [([A.rows sh (.var n) (.var s) (.var (n + 1)) 1], ((0 : TypeId), false))]).length ρ3 (updM m bl.length g) := ⟨by omega, ha, by simp, fun b hb => updM_lt hb⟩
        have hbl3 : BlOk (n + 3) (bl ++ [([A.rows sh (.var n) (.var s) (.var (n + 1)) 1], ((0 : TypeId), false))]).length ρ3 (bl ++ [([.rows sh (.var n) (.var s) (.var (n + 1)) 1], (0, false))]) := fun p hp a ha' => by
          rcases List.mem_append.1 hp with hp | hp
          · exact (hb3 p hp a ha').ext (agree.refl _ _) (Nat.le_refl _) (by simp)
          · simp at hp; subst hp; simp at ha'; subst ha'
            exact hAk.ext (agree.refl _ _) (Nat.le_refl _) (by simp)
        have hu0 : W.ok (n + 3) (bl ++ [([A.rows sh (.var n) (.var s) (.var (n + 1)) 1], ((0 : TypeId), false))]).length ρ3 (.one (.sl bl.length sh.length (.var n) (.const 0) (.var (n + 2)) (.var (n + 1)))) := by
          refine ⟨by simp, ⟨Lin.sc_var (by omega), Lin.sc_const _ _, Lin.sc_var (by omega), Lin.sc_var (by omega)⟩, ?_⟩
          simp only [Lin.den_var, Lin.den_const, e0, e1, e2]
          exact ⟨by omega, by omega, fun h => by rw [hg2 h]; rfl, hg3⟩
        obtain ⟨n', ρ', m', us', bl', g1, g2, g3, g4, g5, g6⟩ := argE_ok hF hN (l := r) (s := s + 1) (us := us ++ [.one (.sl bl.length sh.length (.var n) (.const 0) (.var (n + 2)) (.var (n + 1)))]) (zs := zs) (vals := vs) hok.2 hbl3 hM (hA1.agree ha (by omega)) hz (by omega) hat (.inr fun i p hi hf => by
            rw [List.getElem?_append] at hi
            split at hi
            · rename_i hil
              rw [updM_lt hil] at hf
              rw [kindC_agree (hb _ (List.mem_of_getElem? hi)) ha]
              exact h1 i p hi hf
            · have : i = bl.length := by
                have := (List.getElem?_eq_some_iff.1 hi).1
                simp at this; omega
              subst this
              simp at hi
              subst hi
              simp only [kindC]; split <;> omega) (.inl hok.1) (fun u hu => by
            rcases List.mem_append.1 hu with hu | hu
            · exact (hus u hu).ext ha (by omega) (by simp)
            · simp at hu; subst hu; exact hu0) hh3
        refine ⟨n', ρ', m', us', bl', hlat.trans g1, g2, g3, ?_, g5, g6⟩
        rw [g4, List.map_append, List.append_assoc]
        congr 1
        · exact List.map_congr_left fun u hu => W.den_ext (hus u hu) ha (fun b hb => updM_lt hb)
        · simp only [List.map_cons, List.map_nil, List.cons_append, List.nil_append, W.den, A.den, Lin.den_var, Lin.den_const, e0, e1, e2, updM_same]
          rw [hg4]
          simp
  | .ow sh e :: r, s, n, us, bl, k, G, ρ, m, w, zs, vals, hok, hb, hm, hA, hz, hn, hat, h1, h2, hus, hh => by
    match vals, hat with
    | v :: vs, hat =>
      obtain ⟨hv, hat⟩ := hat
      match zs, hz with
      | z :: zs, hz =>
        obtain ⟨z1, z2, hz⟩ := hz
        have hv : SlOw N w sh e (rOf z) v := hv
        obtain ⟨hA0, hA1⟩ := hA.tail
        simp only [bbds, BD.bds, List.length_append, List.length_cons, List.length_nil] at hn
        simp only [bdOk, Bool.and_eq_true] at hok
        have h2 : ∀ (i : Nat) (p : Blk), bl[i]? = some p → N (m i) → kindC ρ p.1 = 0 := by
          rcases h2 with h2 | h2
          · simp [BD.isOw] at h2
          · exact h2
        have hlen : (rOf z).length ≤ 9223372036854775807 := by
          rcases hv with ⟨_, h⟩ | ⟨_, cap, _, _, ⟨h3, h4⟩, _⟩
          · simp [h]
          · omega
        have hzl : zs.length = (bbds r).length := inB_len hz
        obtain ⟨g, cap, hg1, hg2, hg3, hg4, hg5⟩ : ∃ (g : Nat) (cap : Int), (-1 ≤ cap ∧ cap ≤ 9223372036854775807) ∧ (cap < 0 → rOf z = []) ∧ (0 ≤ cap → ((rOf z).length : Int) ≤ cap) ∧
            (v = if cap < 0 then Value.slice none 0 0 else .slice (some ⟨g, 0, none⟩) (rOf z).length cap.toNat) ∧
            (0 ≤ cap → N g ∧ ∃ cells, w.heap[g]? = some (.cells cells e (0, 0)) ∧ RowsAt cells 0 sh (rOf z) ∧ cells.size = cap.toNat * sh.length) := by
          rcases hv with ⟨h3, h4⟩ | ⟨g, cap, cells, h3, ⟨h4, h5⟩, h6, h7, h8, h9⟩
          · exact ⟨0, -1, by omega, fun _ => h4, fun h => by omega, by simp [h3], fun h => by omega⟩
          · exact ⟨g, cap, by omega, fun h => by omega, fun _ => by omega, by rw [if_neg (by omega)]; simpa using h3, fun _ => ⟨h6, cells, h7, h8, by simpa using h9⟩⟩
        have hh3 := hh cap hg1.1 hg1.2 (rOf z).length (by omega) (by omega) (by
          simp only [List.map_cons, List.map_nil, fnD, Lin.den_var]
          rw [upd_lt (by omega), hA0])
        generalize hρ : upd (upd ρ n cap) (n + 1) ((rOf z).length : Int) = ρ3 at hh3
        have ha : agree n ρ ρ3 := by
          rw [← hρ]
          intro i hi
          rw [upd_lt (by omega), upd_lt hi]
        have e1 : ρ3 n = cap := by rw [← hρ, upd_lt (by omega), upd_same]
        have e2 : ρ3 (n + 1) = (rOf z).length := by rw [← hρ, upd_same]
        have e3 : ρ3 s = z := by rw [ha s (by omega)]; exact hA0
        have hm3 := hm.rho hb ha
        have hb3 := hb.ext ha (show n ≤ n + 2 by omega) (Nat.le_refl bl.length)
        have hAk : (A.rows sh (.const 0) (.var s) (.var n) 2).ok (n + 2) bl.length ρ3 := ⟨⟨Lin.sc_const _ _, Lin.sc_var (by omega), Lin.sc_var (by omega)⟩, by rw [Lin.den_var, e3]; exact ⟨z1, z2⟩, by rw [Lin.den_var, e1]; exact hg1⟩
        have hM := hm3.push (x := ([.rows sh (.const 0) (.var s) (.var n) 2], (e, false))) (g := g) hb3 (fun y hy => by simp at hy; subst hy; exact hAk) (fun ho => by cases ho) (fun sh' off' code' cap' kind' he => by
            cases he
            intro _
            refine ⟨fun h => by rw [Lin.den_var, e1] at h; rw [Lin.den_var, e3]; exact hg2 h, fun h => ?_⟩
            rw [Lin.den_var, e1] at h
            obtain ⟨hNg, cells, k1, k2, k3⟩ := hg5 h
            have hn2 := hN g hNg
            exact ⟨.inr (.inr hn2.2), cells, e, (0, 0), k1, ⟨by rw [Lin.den_const]; exact Int.le_refl _, by rw [Lin.den_const, Lin.den_var, e3]; exact k2⟩, fun _ => ⟨rfl, Lin.den_const _ _, .mk2, by rw [Lin.den_var, e1]; exact k3, hn2.1, .inr hn2.2⟩⟩) (fun i p hi he => by
              by_cases hc : 0 ≤ cap
              · refine .inr (.inl ?_)
                rw [kindC_agree (hb _ (List.mem_of_getElem? hi)) ha]
                exact h2 i p hi (by rw [he]; exact (hg5 hc).1)
              · refine .inr (.inr ?_)
                simp only [kindC, Lin.den_var, e1]
                rw [if_pos (by omega)])
        have hlat : Later n bl.length ρ m (n + 2) (bl ++ [([A.rows sh (.const 0) (.var s) (.var n) 2], (e, false))]).length ρ3 (updM m bl.length g) := ⟨by omega, ha, by simp, fun b hb => updM_lt hb⟩
        have hbl3 : BlOk (n + 2) (bl ++ [([A.rows sh (.const 0) (.var s) (.var n) 2], (e, false))]).length ρ3 (bl ++ [([.rows sh (.const 0) (.var s) (.var n) 2], (e, false))]) := fun p hp a ha' => by
          rcases List.mem_append.1 hp with hp | hp
          · exact (hb3 p hp a ha').ext (agree.refl _ _) (Nat.le_refl _) (by simp)
          · simp at hp; subst hp; simp at ha'; subst ha'
            exact hAk.ext (agree.refl _ _) (Nat.le_refl _) (by simp)
        have hu0 : W.ok (n + 2) (bl ++ [([A.rows sh (.const 0) (.var s) (.var n) 2], (e, false))]).length ρ3 (.one (.sl bl.length sh.length (.const 0) (.const 0) (.var (n + 1)) (.var n))) := by
          refine ⟨by simp, ⟨Lin.sc_const _ _, Lin.sc_const _ _, Lin.sc_var (by omega), Lin.sc_var (by omega)⟩, ?_⟩
          simp only [Lin.den_var, Lin.den_const, e1, e2]
          exact ⟨by omega, by omega, fun h => by rw [hg2 h]; rfl, hg3⟩
        obtain ⟨n', ρ', m', us', bl', g1, g2, g3, g4, g5, g6⟩ := argE_plain (w0 := w0) (l := r) (s := s + 1) (us := us ++ [.one (.sl bl.length sh.length (.const 0) (.const 0) (.var (n + 1)) (.var n))]) (zs := zs) (vals := vs) hok.1 hbl3 hM (hA1.agree ha (by omega)) hz (by omega) hat (fun u hu => by
            rcases List.mem_append.1 hu with hu | hu
            · exact (hus u hu).ext ha (by omega) (by simp)
            · simp at hu; subst hu; exact hu0) hh3
        refine ⟨n', ρ', m', us', bl', hlat.trans g1, g2, g3, ?_, g5, g6⟩
        rw [g4, List.map_append, List.append_assoc]
        congr 1
        · exact List.map_congr_left fun u hu => W.den_ext (hus u hu) ha (fun b hb => updM_lt hb)
        · simp only [List.map_cons, List.map_nil, List.cons_append, List.nil_append, W.den, A.den, Lin.den_var, Lin.den_const, e1, e2, updM_same]
          rw [hg4]
          simp
where
  argE_plain {w0 : Base} {F N : Nat → Prop} : ∀ {l : List BD} {s n : Nat} {us : List W} {bl : List Blk} {k : Nat → List W → List Blk → T} {G : Again} {ρ : Env} {m : Nat → Nat} {w : World} {zs : List Int} {vals : List Value},
    (l.all BD.isD) = true → BlOk n bl.length ρ bl → Mem w0 ρ m bl w → At ρ s zs → inB (bbds l) zs → s + (bbds l).length ≤ n → atL F N w l zs vals →
    (∀ u ∈ us, W.ok n bl.length ρ u) →
    (argE l s n us bl k).holds S L G ρ → ∃ n' ρ' m' us' bl', Later n bl.length ρ m n' (List.length bl') ρ' m' ∧ BlOk n' bl'.length ρ' bl' ∧ Mem w0 ρ' m' bl' w ∧ us'.map (W.den ρ' m') = us.map (W.den ρ m) ++ vals ∧ (∀ u ∈ us', W.ok n' bl'.length ρ' u) ∧ (k n' us' bl').holds S L G ρ'
  | [], s, n, us, bl, k, G, ρ, m, w, zs, vals, _, hb, hm, _, _, _, hat, hus, hh => by
    match vals, hat with
    | [], _ => exact ⟨n, ρ, m, us, bl, Later.refl _ _ _ _, hb, hm, by simp, hus, hh⟩
  | .d x :: r, s, n, us, bl, k, G, ρ, m, w, zs, vals, hok, hb, hm, hA, hz, hn, hat, hus, hh => by
    match vals, hat with
    | v :: vs, hat =>
      obtain ⟨hv, hat⟩ := hat
      have hv : v = x.val zs := hv
      simp only [bbds, BD.bds] at hz hn
      simp only [List.length_append] at hn
      obtain ⟨i1, i2⟩ := inB_split hz
      rw [D.bds_len] at i1 i2 hn
      have hs := D.sym_spec (ρ := ρ) (m := m) (N := n) (nb := bl.length) x i1 hA (by omega)
      obtain ⟨n', ρ', m', us', bl', g1, g2, g3, g4, g5, g6⟩ := argE_plain (l := r) (s := s + x.num) (us := us ++ [x.sym s]) (zs := zs.drop x.num) (by simpa [BD.isD] using hok) hb hm (hA.drop x.num) i2 (by omega) hat (fun u hu => by
        rcases List.mem_append.1 hu with hu | hu
        · exact hus u hu
        · simp at hu; subst hu; exact hs.1) hh
      exact ⟨n', ρ', m', us', bl', g1, g2, g3, by rw [g4, List.map_append, hv]; simp [hs.2], g5, g6⟩
  | .rd _ :: _, _, _, _, _, _, _, _, _, _, _, _, hok, _, _, _, _, _, _, _, _ => by simp [BD.isD] at hok
  | .ow _ _ :: _, _, _, _, _, _, _, _, _, _, _, _, hok, _, _, _, _, _, _, _, _ => by simp [BD.isD] at hok
end
end Go.Rx
