/- Regions, from the plain rules to the fenced ones: in a round of a range over a function as well. -/
import Derived.Test.YtkedgkbkibncgaaDoorPae
import Derived.OrdersIn
import Derived.TacticsIn
import Derived.LoopNIn
import Derived.Sort.LoopGhostIn

set_option linter.unusedVariables false
set_option linter.unusedSimpArgs false
namespace Go.Rx
variable {P : Program} {rd : Option Nat}
/-- All functions, no bound; in a round, or in none. -/
def Fw (rd : Option Nat) : Fence := { Fence.wide with round := rd }
theorem Fw_none : Fw none = Fence.wide := rfl
theorem Fw_inRound (l : Nat) : (Fw none).inRound l = Fw (some l) := rfl
/-- Nothing but the normal end. -/
def tame (Q : Exit → Act → World → Prop) : Exit → Act → World → Prop
  | .normal, a, w => Q .normal a w
  | _, _, _ => False
theorem tame.imp {Q : Exit → Act → World → Prop} : ∀ (e : Exit) (a : Act) (w : World), calm (tame Q) e a w → Q e a w := fun e a w h => by
  cases e <;> first | exact h | exact (h : False).elim
theorem tame.let {Q : Exit → Act → World → Prop} : ¬ LetsOut (tame Q) := fun ⟨a, w, h⟩ => h
theorem tame.letc {Q : Exit → Act → World → Prop} : ¬ LetsOut (calm (tame Q)) := fun ⟨a, w, h⟩ => h
def noDefO (o : Oper) : Bool := match o.op with | .defer _ => false | _ => true
def noDef : Code → Bool
  | .region _ ops _ => ops.toList.all noDefO
  | .seq a b => noDef a && noDef b
  | .cond _ a b => noDef a && noDef b
  | .block _ c => noDef c
  | .loop c => noDef c
  | _ => true
theorem noDefO_ne {o : Oper} (h : noDefO o = true) : ∀ c, o.op ≠ .defer c := fun c e => by simp [noDefO, e] at h
theorem room_Fw (n : Nat) : (Fw rd).room n := fun _ h => by simp [Fw, Fence.wide] at h
theorem callsIn_Fw {n : Nat} {f : FuncId} {args : Array Value} {w : World} {R : Ending → World → Prop} (h : Calls P f args w R) : CallsIn (Fw rd) n P f args w R := callsIn_wide.2 h
theorem rowsIn_Fw {n : Nat} {row : String} {args : Array Value} {w : World} {R : Value → World → Prop} (h : Rows P row args w R) : RowsIn (Fw rd) n P row args w R :=
  fun c cs _ => let ⟨v, w', r, s⟩ := h c cs; ⟨v, w', r, stepsIn_wide.2 s⟩
theorem oper_in {o : Oper} {a : Act} {w : World} {K : Act → World → Prop} {Q : Exit → Act → World → Prop} (hd : rd = none ∨ noDefO o = true) (h : o.wp P a w K Q) : o.wpIn (Fw rd) 0 P a w K Q := by
  refine ⟨fun _ _ => trivial, ?_⟩
  have e : o.semAt (Fw rd).round a.eval = execOp a.eval o := by
    rcases hd with h | h
    · subst h; rfl
    · exact o.semAt_eq _ _ (noDefO_ne h)
  rw [e]
  unfold Oper.wp at h
  generalize (execOp a.eval o).run P w = r at *
  cases r with
  | ok n w' =>
    cases n <;> simp only [Oper.upon, Oper.uponIn] at h ⊢
    case value u => exact h
    case skip => exact h
    case defer d => exact h
    case enter f args => exact ⟨fun hs => by simp [Fw, Fence.wide] at hs, callsIn_Fw h⟩
    case row row args => exact ⟨fun hs => by simp [Fw, Fence.wide] at hs, rowsIn_Fw h⟩
  | halt x w' =>
    cases x <;> simp only [Oper.upon, Oper.uponIn] at h ⊢
    case panic u => exact h
variable {ops : Array Oper} {Q : Exit → Act → World → Prop}
theorem wpList_in (hL : ¬ LetsOut Q) : ∀ {l : List Oper} {a : Act} {w : World}, (rd = none ∨ l.all noDefO = true) → wpList P ops Q l a w → wpListIn (Fw rd) 0 P ops Q l a w
  | [], _, _, _, h => h
  | o :: r, a, w, hd, h => by
    have h1 : rd = none ∨ noDefO o = true := hd.imp id fun h => by simp only [List.all_cons, Bool.and_eq_true] at h; exact h.1
    have h2 : rd = none ∨ r.all noDefO = true := hd.imp id fun h => by simp only [List.all_cons, Bool.and_eq_true] at h; exact h.2
    unfold wpList at h
    unfold wpListIn
    split
    · rename_i hw
      rw [if_pos hw] at h
      rcases h with h | h
      · exact Oper.wpIn_mono (fun a w h => wpList_in hL h2 h) (oper_in h1 h)
      · exact absurd h.2 hL
    · rename_i hw
      rw [if_neg hw] at h
      exact ⟨fun _ _ => trivial, wpList_in hL h2 h⟩
theorem wpAny_in {md : Region.Mode} (hd : rd = none ∨ ops.toList.all noDefO = true) (hL : ¬ LetsOut Q) : ∀ {f : Nat} {listed : Array Bool} {a : Act} {w : World}, wpAny P md ops Q f listed a w → wpAnyIn (Fw rd) 0 P md ops Q f listed a w
  | 0, _, _, _, h => h
  | f + 1, listed, a, w, h => by
    refine ⟨h.1, fun i hi => ?_⟩
    have h2 := h.2 i hi
    unfold wpOp at h2
    unfold wpOpIn
    cases ho : ops[i]? with
    | none => simp only [ho] at h2 ⊢; exact wpAny_in hd hL h2
    | some o =>
      simp only [ho] at h2 ⊢
      have h1 : rd = none ∨ noDefO o = true := hd.imp id fun h => List.all_eq_true.1 h o (by simpa using Array.mem_of_getElem? ho)
      split
      · rename_i hw
        rw [if_pos hw] at h2
        rcases h2 with h2 | h2
        · exact Oper.wpIn_mono (fun a w h => wpAny_in hd hL h) (oper_in h1 h2)
        · exact absurd h2.2 hL
      · rename_i hw
        rw [if_neg hw] at h2
        exact ⟨fun _ _ => trivial, wpAny_in hd hL h2⟩
theorem region_in {id : Nat} {a : Act} {w : World} (hd : rd = none ∨ ops.toList.all noDefO = true) (h : wpList P ops (tame Q) ops.toList a w) : (Code.region id ops false).wpIn (Fw rd) 0 P Q a w :=
  wpIn_mono (wpIn_region_list (wpList_in tame.let hd h)) fun e a w h => tame.imp e a w (by cases e <;> first | exact h | exact (h : False).elim)
theorem region_any_in {id : Nat} {a : Act} {w : World} (hm : P.follows .mixedOrders = true) (hd : rd = none ∨ ops.toList.all noDefO = true)
    (h : wpAny P .any ops (calm (tame Q)) ops.size (Array.replicate ops.size false) a { w with drawn := w.drawn + 1 }) : (Code.region id ops true).wpIn (Fw rd) 0 P Q a w :=
  wpIn_mono (wpIn_region_any hm (wpAny_in hd tame.letc h)) tame.imp
end Go.Rx

/- The evaluator's soundness, whole. -/
set_option linter.unusedVariables false
set_option linter.unusedSimpArgs false
namespace Go.Rx
open M

section
variable {S : Nat → List Int → List Int → Prop} {L : V → Env → Prop} {w0 : Base} {P : Program} {gl : Glo} {cal : Cal} {rd : Option Nat}

def EKok (S : Nat → List Int → List Int → Prop) (L : V → Env → Prop) (w0 : Base) (k : EK) (n nb : Nat) (ρ : Env) (m : Nat → Nat) (G : Again) (Q : Exit → Act → World → Prop) : Prop :=
  ∀ x n' ρ' m' tm' bl' G' a' w', Later n nb ρ m n' (List.length bl') ρ' m' → AgA n G G' → R w0 n' ρ' m' tm' bl' a' w' → (k x n' tm' bl').holds S L G' ρ' → Q x.to a' w'
theorem EKok.later {k : EK} {n nb n1 nb1 : Nat} {ρ ρ1 : Env} {m m1 : Nat → Nat} {G G1 : Again} {Q : Exit → Act → World → Prop} (h : EKok S L w0 k n nb ρ m G Q) (hl : Later n nb ρ m n1 nb1 ρ1 m1) (hA : AgA n G G1) : EKok S L w0 k n1 nb1 ρ1 m1 G1 Q :=
  fun x n' ρ' m' tm' bl' G' a' w' h1 h2 h3 h4 => h x n' ρ' m' tm' bl' G' a' w' (hl.trans h1) (hA.trans h2 hl.hn) h3 h4
def BodyOk (rd : Option Nat) (S : Nat → List Int → List Int → Prop) (L : V → Env → Prop) (w0 : Base) (P : Program) (c : Code) (e : Nat → List V → List Blk → EK → T) : Prop := (rd = none ∨ noDef c = true) →
  ∀ n tm bl k G ρ m a w Q, R w0 n ρ m tm bl a w → (e n tm bl k).holds S L G ρ → EKok S L w0 k n bl.length ρ m G Q → c.wpIn (Fw rd) 0 P Q a w

theorem rounds_wp {c : Code} {e : Nat → List V → List Blk → EK → T} (hd : rd = none ∨ noDef c = true) (he : BodyOk rd S L w0 P c e) {Q : Exit → Act → World → Prop} : ∀ (r : Nat) {n : Nat} {ρ : Env} {m : Nat → Nat} {tm : List V} {bl : List Blk} {a : Act} {w : World} {G : Again} {k : EK},
    R w0 n ρ m tm bl a w → (roundsE e r n tm bl k).holds S L G ρ → EKok S L w0 k n bl.length ρ m G Q → Code.roundsIn (Fw rd) 0 P c Q r a w
  | 0, _, _, _, _, _, _, _, _, _, _, hh, _ => hh.elim
  | r + 1, n, ρ, m, tm, bl, a, w, G, k, h, hh, hk => by
    rw [roundsIn_succ]
    refine he hd n tm bl _ G ρ m a w _ h hh fun x n' ρ' m' tm' bl' G' a' w' h1 h2 h3 h4 => ?_
    cases x with
    | normal => exact rounds_wp hd he r h3 h4 (hk.later h1 h2)
    | exit id => exact hk (.exit id) n' ρ' m' tm' bl' G' a' w' h1 h2 h3 h4
    | ret => exact hk .ret n' ρ' m' tm' bl' G' a' w' h1 h2 h3 h4

theorem LR_of_TRel' {n nb : Nat} {ρ : Env} {m : Nat → Nat} {tm : List V} {xs : Array Value} (h : TRel n nb ρ m tm xs) : LR n nb ρ m tm xs.toList := LR_of_TRel (by simpa using h)

/-- The state at a loop's head, at an environment where the new unknowns are what the slots and cells hold. -/
theorem head_R {li : LoopI} {n : Nat} {ρ0 ρ' : Env} {m0 m' : Nat → Nat} {tm tm' tmH tmE : List V} {bl bl' blH blE : List Blk} {l1 l2 v1 v2 ext : List Lin} {b1 b2 b1' b2' : List (Int × Int)} {n' : Nat} {a : Act} {w : World}
    (hlen : bl.length ≤ bl'.length)
    (ha : agree n ρ0 ρ') (hm : ∀ b, b < bl.length → m' b = m0 b) (ht : ∀ v ∈ tm, V.ok n bl.length ρ0 v) (hb0 : BlOk n bl.length ρ0 bl)
    (h : R w0 n' ρ' m' tm' bl' a w) (e1 : hs li.keep li.ints 0 (n + 1) tm = some (tmH, l1, b1)) (e2 : hb li.cells 0 (n + 1 + l1.length) bl = some (blH, l2, b2))
    (e3 : hs li.keep li.ints 0 (n + 1) tm' = some (tmE, v1, b1')) (e4 : hb li.cells 0 (n + 1 + v1.length) (bl'.take bl.length) = some (blE, v2, b2'))
    (f1 : fitV tmH tmE = true) (f2 : fitB blH blE = true) :
    v1.length + v2.length = l1.length + l2.length ∧ inB (b1 ++ b2) ((v1 ++ v2).map (·.den ρ')) ∧ R w0 (n + 1 + l1.length + l2.length + ext.length) (updL ρ0 (n + 1) ((v1 ++ v2 ++ ext).map (·.den ρ'))) m0 tmH blH a w ∧ blH.length = bl.length ∧ ∀ (i : Nat) (p : Blk), blH[i]? = some p → i < bl.length ∧ ∃ p' : Blk, bl'[i]? = some p' ∧ kindC (updL ρ0 (n + 1) ((v1 ++ v2 ++ ext).map (·.den ρ'))) p.1 = kindC ρ' p'.1 := by
  have hag2 : agree n ρ0 (updL ρ0 (n + 1) ((v1 ++ v2 ++ ext).map (·.den ρ'))) := (agree.updL _ (n + 1) ρ0).mono (by omega)
  have hget : ∀ j, j < (v1 ++ v2).length → updL ρ0 (n + 1) ((v1 ++ v2 ++ ext).map (·.den ρ')) (n + 1 + j) = ((v1 ++ v2).getD j (.const 0)).den ρ' := fun j hj => by
    rw [updL_ge _ _ _ j (by simp at hj ⊢; omega)]
    have hj2 : j < (v1 ++ v2 ++ ext).length := by simp at hj ⊢; omega
    have e : (v1 ++ v2 ++ ext)[j] = (v1 ++ v2)[j] := List.getElem_append_left hj
    simp only [List.getD, List.getElem?_map, List.getElem?_eq_getElem hj, List.getElem?_eq_getElem hj2, Option.map_some, Option.getD_some, e]
  have hlen1 : v1.length + v2.length = (v1 ++ v2).length := by simp
  -- slots
  obtain ⟨p1, p2, p3⟩ := hs_spec (N := n + 1 + v1.length + v2.length + ext.length) ha hag2 hm (by omega) ht (LR_of_TRel' h.t) e1 e3 f1 (fun j hj => by
    rw [hget j (by simp; omega), getD_append_l hj]) (by omega)
  rw [← p3] at e2
  -- cells
  have hbt : BlOk n' bl'.length ρ' (bl'.take bl.length) := fun p hp => h.b p (List.mem_of_mem_take hp)
  obtain ⟨q1, q2, q3, q4⟩ := hb_spec (N := n + 1 + v1.length + v2.length + ext.length) ha hag2 hm (by omega) hb0 hbt e2 e4 f2 (fun j hj => by
    rw [show n + 1 + v1.length + j = n + 1 + (v1.length + j) by omega, hget (v1.length + j) (by simp; omega), getD_append_r]) (by omega)
  have hbl : blH.length = bl.length := (hb_len e2).2
  refine ⟨by omega, by rw [List.map_append]; exact inB_append p2 q2, ?_⟩
  rw [← p3, ← q3]
  have hE : ∀ (i : Nat) (p : Blk), blH[i]? = some p → i < bl.length ∧ ∃ p' : Blk, bl'[i]? = some p' ∧ isOrd p.1 = isOrd p'.1 ∧ p.2 = p'.2 ∧ (isOrd p.1 = false → ∃ sh off code code' cap k, p.1 = [.rows sh off code cap k] ∧ p'.1 = [.rows sh off code' cap k] ∧ off.sc n ∧ cap.sc n) := fun i p hi => by
    have hib : i < bl.length := by rw [← hbl]; exact (List.getElem?_eq_some_iff.1 hi).1
    obtain ⟨p', h1, h2, h2', h3⟩ := hb_get e4 i p (fitB_get f2 i p hi)
    rw [List.getElem?_take, if_pos hib] at h1
    obtain ⟨p0, g1, _, _, g3⟩ := hb_get e2 i p hi
    refine ⟨hib, p', h1, h2, h2', fun ho => ?_⟩
    obtain ⟨sh, off, code, code', cap, k, s1, s2⟩ := h3 ho
    obtain ⟨sh', off', c1, c2, cap', k', s3, s4⟩ := g3 ho
    rw [s1] at s3
    cases s3
    have hok : A.ok n bl.length ρ0 (.rows sh off c2 cap k) := hb0 _ (List.mem_of_getElem? g1) _ (by rw [s4]; simp)
    exact ⟨sh, off, code, code', cap, k, s1, s2, hok.1.1, hok.1.2.2⟩
  have hag3 : agree n ρ' (updL ρ0 (n + 1) ((v1 ++ v2 ++ ext).map (·.den ρ'))) := ha.sym.trans hag2 (Nat.le_refl _)
  have hk2 : ∀ (p p' : Blk), isOrd p.1 = isOrd p'.1 → (isOrd p.1 = false → ∃ sh off code code' cap k, p.1 = [.rows sh off code cap k] ∧ p'.1 = [.rows sh off code' cap k] ∧ off.sc n ∧ cap.sc n) → kindC (updL ρ0 (n + 1) ((v1 ++ v2 ++ ext).map (·.den ρ'))) p.1 = kindC ρ' p'.1 := fun p p' h1 h2 => by
    cases ho : isOrd p.1 with
    | true => rw [kind_ord ho, kind_ord (h1 ▸ ho)]
    | false =>
      obtain ⟨sh, off, code, code', cap, k, s1, s2, s3, s4⟩ := h2 ho
      rw [s1, s2]
      simp only [kindC]
      rw [Lin.den_agree hag3 s4]
  refine ⟨?_, hbl, fun i p hi => by
    obtain ⟨g1, p', g2, g3, _, g4⟩ := hE i p hi
    exact ⟨g1, p', g2, hk2 p p' g3 g4⟩⟩
  refine ⟨?_, h.d, by rw [hbl]; exact q1, ⟨h.mm.ext, h.mm.hos, h.mm.htape, h.mm.hout, h.mm.hsize, h.mm.frm, fun i cs t hi ho => ?_, fun i sh off code cap kind t hi => ?_, fun i j p q hi hj he => ?_⟩⟩
  · rw [hbl]
    have := TRel_of_LR p1
    simpa using this
  · obtain ⟨c', h1, h2⟩ := q4 i cs t hi
    obtain ⟨hib, p', k1, k2, _⟩ := hE i _ hi
    rw [List.getElem?_take, if_pos hib, k1] at h1
    have h1 := Option.some.inj h1
    subst h1
    obtain ⟨g1, g1', r, hr, g2⟩ := h.mm.blk i c' t k1 (k2 ▸ ho)
    rw [← hm i hib]
    exact ⟨g1, g1', r, hr, by rw [h2]; exact g2⟩
  · obtain ⟨hib, p', k1, _, k2, k3⟩ := hE i _ hi
    obtain ⟨sh', off', c1, c2, cap', k', s1, s2, s3, s4⟩ := k3 rfl
    cases s1
    obtain ⟨C, t'⟩ := p'
    simp only at s2 k2
    subst s2; subst k2
    obtain ⟨c', h1, h2⟩ := q4 i _ t hi
    rw [List.getElem?_take, if_pos hib, k1] at h1
    cases h1
    simp only [List.map_cons, List.map_nil, A.den, List.cons.injEq, Value.int.injEq, and_true, true_and] at h2
    rw [← hm i hib]
    have hR := h.mm.rws i sh off c2 cap kind t k1
    unfold RRel at hR ⊢
    rw [Lin.den_agree hag3 s3, Lin.den_agree hag3 s4, h2]
    exact hR
  · obtain ⟨hib, p', k1, k2, _, k3⟩ := hE i p hi
    obtain ⟨hjb, q', l1, l2, _, l3⟩ := hE j q hj
    rw [hk2 p p' k2 k3, hk2 q q' l2 l3]
    rw [← hm i hib, ← hm j hjb] at he
    exact h.mm.inj i j p' q' k1 l1 he

/-! ### What grows in a loop -/
theorem TRel.set {n nb : Nat} {ρ : Env} {m : Nat → Nat} {tm : List V} {xs : Array Value} {s : Nat} {v : V} (h : TRel n nb ρ m tm xs) (hv : v.ok n nb ρ) (hr : ∀ x, xs[s]? = some x → v.rel ρ m x) : TRel n nb ρ m (setV tm s v) xs := by
  rw [setV_eq]
  refine ⟨by simp [h.1], fun i u hu => ?_⟩
  rw [List.getElem?_set] at hu
  split at hu
  · rename_i hsi
    subst hsi
    split at hu
    · rename_i hlt
      cases hu
      rw [h.1] at hlt
      exact ⟨hv, _, Array.getElem?_eq_getElem hlt, hr _ (Array.getElem?_eq_getElem hlt)⟩
    · cases hu
  · exact h.2 i u hu
def BoolF (tmps : Array Value) : List Nat → List Int → Prop
  | [], [] => True
  | s :: r, z :: zs => (0 ≤ z ∧ z ≤ 1) ∧ (∀ x, tmps[s]? = some x → x = .bool (decide (z = 1))) ∧ BoolF tmps r zs
  | _, _ => False
def AccF (w0 : Base) (w : World) (tmps : Array Value) (F : Nat → Prop) : List (Nat × List CK × TypeId) → List Int → Prop
  | [], [] => True
  | (s, sh, e) :: r, code :: len :: cap :: zs => ∃ g : Nat, (∀ x, tmps[s]? = some x → x = if cap < 0 then .slice none 0 0 else .slice (some ⟨g, 0, none⟩) len.toNat cap.toNat) ∧ slOk 0 0 len cap ∧ (0 ≤ code ∧ code ≤ RB) ∧ (cap < 0 → rOf code = []) ∧
      (0 ≤ cap → ∃ cells : Array Value, w.heap[g]? = some (.cells cells e (0, 0)) ∧ RowsAt cells 0 sh (rOf code) ∧ cells.size = cap.toNat * sh.length ∧ w0.b.heap.size ≤ g ∧ (w0.ex g ∨ w0.r.heap.size ≤ g)) ∧
      (0 ≤ cap → F g) ∧ AccF w0 w tmps (fun g' => F g' ∧ (0 ≤ cap → g' ≠ g)) r zs
  | _, _ => False
theorem boolsM_snd {nb : Nat} {tm : List V} {m : Nat → Nat} {tmps : Array Value} : ∀ {l : List Nat} {n : Nat} {ρ : Env}, TRel n nb ρ m tm tmps → Snd S L (boolsM tm l) n ρ fun ρ' n' ls => (∀ x ∈ ls, Lin.sc n' x) ∧ ls.length = l.length ∧ BoolF tmps l (ls.map (·.den ρ'))
  | [], n, ρ, ht => Snd.pure ⟨fun _ h => by simp at h, rfl, trivial⟩
  | s :: r, n, ρ, ht => by
    unfold boolsM
    split
    · rename_i e hs
      obtain ⟨h1, x, h2, h3⟩ := ht.2 s _ hs
      have h3 : x = .bool (e.den ρ) := h3
      have key : Snd S L (match e with | .lit v => pure (Lin.const (cond v 1 0)) | e => indM e) n ρ fun ρ' n' l => l.sc n' ∧ (0 ≤ l.den ρ' ∧ l.den ρ' ≤ 1) ∧ e.den ρ = decide (l.den ρ' = 1) := by
        cases e with
        | lit v => cases v <;> exact Snd.pure ⟨Lin.sc_const _ _, by simp only [Lin.den_const]; decide, by simp only [Lin.den_const, BE.den]; rfl⟩
        | _ => exact indM_snd
      refine key.bind fun ρ1 n1 l hn ha ⟨g1, g2, g3⟩ => (boolsM_snd (l := r) (ht.ext ha hn (Nat.le_refl _) (fun _ _ => rfl))).bind fun ρ2 n2 ls hn2 ha2 ⟨k1, k2, k3⟩ => Snd.pure ⟨fun y hy => ?_, by simp [k2], ?_⟩
      · rcases List.mem_cons.1 hy with rfl | hy
        · exact g1.mono hn2
        · exact k1 y hy
      · have e1 := Lin.den_agree ha2 g1
        simp only [List.map_cons, BoolF, e1]
        refine ⟨g2, fun y hy => ?_, k3⟩
        rw [h2] at hy
        cases hy
        rw [h3, g3]
    · exact Snd.fail
theorem fitM_snd {nb : Nat} {m : Nat → Nat} {tmps : Array Value} : ∀ {l : List (Nat × Int × Int)} {tm : List V} {n : Nat} {ρ : Env}, TRel n nb ρ m tm tmps → Snd S L (fitM l tm) n ρ fun ρ' n' tm' => TRel n' nb ρ' m tm' tmps
  | [], tm, n, ρ, ht => Snd.pure ht
  | (s, lo, hi) :: r, tm, n, ρ, ht => by
    unfold fitM
    split
    · rename_i k x hs
      cases hc : (decide (lo ≤ x.lo) && decide (x.hi ≤ hi)) with
      | true => simp only [cond_true]; exact fitM_snd ht
      | false =>
        simp only [cond_false]
        refine chkM_snd fun hk => ?_
        simp only [List.map_cons, List.map_nil, chkD, Lin.den_const] at hk
        obtain ⟨h1, y, h2, h3⟩ := ht.2 s _ hs
        have h1 : x.ok n ρ := h1
        exact fitM_snd (ht.set (v := .w (.one (.int k ⟨x.l, lo, hi⟩))) ⟨h1.1, hk.1, hk.2⟩ fun z hz => by
          rw [h2] at hz; cases hz; exact h3)
    · exact fitM_snd ht
theorem accE_spec {n lo : Nat} {ρ : Env} {m : Nat → Nat} {tm : List V} {bl : List Blk} {a : Act} {w : World} (h : R w0 n ρ m tm bl a w) : ∀ {l : List (Nat × List CK × TypeId)} {used : List Nat} {ls : List Lin} {u : List Nat}, accE lo l tm bl used = some (ls, u) →
    (∀ x ∈ ls, Lin.sc n x) ∧ ls.length = (accBds l).length ∧ (∀ b ∈ used, b ∈ u) ∧ (∀ b ∈ u, b ∈ used ∨ lo ≤ b) ∧ ∀ F : Nat → Prop, (∀ (b : Nat) (p : Blk), b ∈ u → b ∉ used → bl[b]? = some p → kindC ρ p.1 = 2 → isOrd p.1 = false → F (m b)) → AccF w0 w a.tmps F l (ls.map (·.den ρ))
  | [], used, ls, u, he => by
    simp only [accE, Option.some.injEq, Prod.mk.injEq] at he
    obtain ⟨rfl, rfl⟩ := he
    exact ⟨fun _ h => by simp at h, rfl, fun _ h => h, fun _ h => .inl h, fun _ _ => trivial⟩
  | (s, sh, e) :: r, used, ls, u, he => by
    unfold accE at he
    split at he
    · rename_i hs
      split at he
      · rename_i l1 u1 hr
        simp only [Option.some.injEq, Prod.mk.injEq] at he
        obtain ⟨rfl, rfl⟩ := he
        obtain ⟨g1, g2, g3, g4, g5⟩ := accE_spec h hr
        refine ⟨fun x hx => ?_, by simp [accBds] at g2 ⊢; omega, g3, g4, fun F hF => ⟨0, fun x hx => ?_, ?_, ?_, ?_, ?_, ?_, ?_⟩⟩
        · simp only [List.mem_cons] at hx
          rcases hx with rfl | rfl | rfl | hx
          · exact Lin.sc_const _ _
          · exact Lin.sc_const _ _
          · exact Lin.sc_const _ _
          · exact g1 x hx
        · obtain ⟨_, y, h2, h3⟩ := h.t.2 s _ hs
          rw [h2] at hx; cases hx
          have e9 : (Lin.const (-1)).den ρ < 0 := by rw [Lin.den_const]; decide
          simp only [e9, if_true]
          exact h3
        · simp only [Lin.den_const]; exact ⟨⟨by omega, by omega, by omega, by omega⟩, ⟨by omega, by omega⟩, fun _ => rfl, fun h => by omega⟩
        · simp only [Lin.den_const]; exact ⟨Int.le_refl _, Int.le_trans (rc_nonneg []) (RB_c (l := []) (by simp) (by simp))⟩
        · intro _; simp only [Lin.den_const]; exact rOf_zero
        · simp only [Lin.den_const]; intro h; omega
        · simp only [Lin.den_const]; intro h; omega
        · refine g5 _ fun b p hb hu hbl hk ho => ⟨hF b p hb hu hbl hk ho, ?_⟩
          simp only [Lin.den_const]; intro h; omega
      · cases he
    · rename_i b sz o ro len cap hs
      split at he
      · rename_i sh' off code capb kind t hbl
        cases hc : (shBeq sh sh' && Nat.beq kind 2 && Lin.beq o (.const 0) && Lin.beq off (.const 0) && Lin.beq ro (.const 0) && Lin.beq cap capb && Nat.beq t.1 e && Nat.beq sz sh.length && Nat.ble lo b && !(used.any (Nat.beq b))) with
        | false => rw [hc] at he; cases he
        | true =>
          rw [hc] at he
          simp only [cond_true] at he
          split at he
          · rename_i l1 u1 hr
            simp only [Option.some.injEq, Prod.mk.injEq] at he
            obtain ⟨rfl, rfl⟩ := he
            simp only [Bool.and_eq_true] at hc
            obtain ⟨⟨⟨⟨⟨⟨⟨⟨⟨c1, c2⟩, c3⟩, c4⟩, c5⟩, c6⟩, c7⟩, c8⟩, c9⟩, c10⟩ := hc
            have c1 := shBeq_eq c1; have c2 := Nat.eq_of_beq_eq_true c2; have c3 := Lin.beq_eq c3; have c4 := Lin.beq_eq c4; have c5 := Lin.beq_eq c5; have c6 := Lin.beq_eq c6
            have c7 := Nat.eq_of_beq_eq_true c7; have c8 := Nat.eq_of_beq_eq_true c8; have c9 := Nat.le_of_ble_eq_true c9
            have hnu : b ∉ used := fun hb => by
              have : used.any (Nat.beq b) = true := List.any_eq_true.2 ⟨b, hb, Nat.beq_refl b⟩
              rw [this] at c10; cases c10
            subst c1; subst c2; subst c3; subst c4; subst c5; subst c6; subst c7; subst c8
            obtain ⟨g1, g2, g3, g4, g5⟩ := accE_spec h hr
            obtain ⟨hok, y, h2, h3⟩ := h.t.2 s _ hs
            have hok : (A.sl b sh.length (.const 0) (.const 0) len cap).ok n bl.length ρ := hok
            obtain ⟨x1, ⟨x2, x3, x4, x5⟩, x6⟩ := hok
            simp only [Lin.den_const] at x6
            have hAok : (A.rows sh (.const 0) code cap 2).ok n bl.length ρ := h.b _ (List.mem_of_getElem? hbl) _ (by simp)
            obtain ⟨⟨r1, r2, r3⟩, r4, r5⟩ := hAok
            have hrr := h.mm.rws b sh (.const 0) code cap 2 t hbl (by decide)
            refine ⟨fun x hx => ?_, by simp [accBds] at g2 ⊢; omega, fun b' hb' => g3 b' (List.mem_cons_of_mem _ hb'), fun b' hb' => ?_, fun F hF => ⟨m b, fun x hx => ?_, x6, r4, hrr.1, fun h0 => ?_, fun h0 => ?_, ?_⟩⟩
            · simp only [List.mem_cons] at hx
              rcases hx with rfl | rfl | rfl | hx
              · exact r2
              · exact x4
              · exact x5
              · exact g1 x hx
            · rcases g4 b' hb' with h5 | h5
              · rcases List.mem_cons.1 h5 with rfl | h5
                · exact .inr c9
                · exact .inl h5
              · exact .inr h5
            · have hxy : y = x := Option.some.inj (h2.symm.trans hx)
              subst hxy
              have h3 : y = (A.sl b sh.length (.const 0) (.const 0) len cap).den ρ m := h3
              rw [h3]
              simp only [A.den, Lin.den_const]
              split <;> simp
            · obtain ⟨_, cells, tq, fz, k1, ⟨k2, k3⟩, k4⟩ := hrr.2 h0
              obtain ⟨k0, k5, k6, k7, k8, k9⟩ := k4 (by decide)
              subst k0
              have k6 := k6.two
              subst k6
              rw [Lin.den_const] at k3
              exact ⟨cells, k1, k3, k7, k8, k9⟩
            · exact hF b _ (g3 b (by simp)) hnu hbl (kindC_rows (by decide) h0) rfl
            · refine g5 _ fun b' p hb' hu hbl' hk ho => ⟨hF b' p hb' (fun h => hu (List.mem_cons_of_mem _ h)) hbl' hk ho, fun h0 => ?_⟩
              have hkb : kindC ρ [A.rows sh (.const 0) code cap 2] = 2 := kindC_rows (by decide) h0
              exact h.mm.ne hbl' hbl (by rw [hk]; exact Nat.le_refl 2) (by simp only [hkb]; decide) fun e => hu (by simp [e])
          · cases he
      · cases he
    · cases he
theorem ord_false {c : List A} (h : isOrd c = false) : ∃ sh off code cap k, c = [.rows sh off code cap k] := by
  unfold isOrd at h
  split at h
  · exact ⟨_, _, _, _, _, rfl⟩
  · cases h
theorem killL_spec {n : Nat} {ρ : Env} {m : Nat → Nat} {tm : List V} {a : Act} {w : World} : ∀ {us : List Nat} {bl : List Blk}, R w0 n ρ m tm bl a w → R w0 n ρ m tm (killL us bl) a w ∧ (killL us bl).length = bl.length ∧ ∀ (i : Nat) (p : Blk), (killL us bl)[i]? = some p → (bl[i]? = some p ∧ (i ∈ us → isOrd p.1 = true ∨ kindC ρ p.1 = 0)) ∨ kindC ρ p.1 = 0
  | [], bl, h => ⟨h, rfl, fun i p hp => .inl ⟨hp, fun h => by simp at h⟩⟩
  | b :: r, bl, h => by
    unfold killL
    split
    · rename_i sh off code cap k t hbl
      obtain ⟨g1, g2, g3⟩ := killL_spec (us := r) (h.kill hbl)
      refine ⟨g1, by rw [g2, setB_length], fun i p hp => ?_⟩
      rcases g3 i p hp with ⟨g4, g5⟩ | g4
      · by_cases hib : i = b
        · subst hib
          rw [setB_eq, List.getElem?_set_self (List.getElem?_eq_some_iff.1 hbl).1] at g4
          cases g4
          exact .inr (by simp [kindC])
        · rw [setB_eq, List.getElem?_set_ne (fun e => hib e.symm)] at g4
          exact .inl ⟨g4, fun hi => g5 (by simpa [hib] using hi)⟩
      · exact .inr g4
    · rename_i hno
      obtain ⟨g1, g2, g3⟩ := killL_spec (us := r) h
      refine ⟨g1, g2, fun i p hp => ?_⟩
      rcases g3 i p hp with ⟨g4, g5⟩ | g4
      · refine .inl ⟨g4, fun hi => ?_⟩
        rcases List.mem_cons.1 hi with rfl | hi
        · cases ho : isOrd p.1 with
          | true => exact .inl rfl
          | false =>
            exfalso
            obtain ⟨c, t⟩ := p
            obtain ⟨sh, off, code, cap, k, rfl⟩ := ord_false ho
            exact hno _ _ _ _ _ _ g4
        · exact g5 hi
      · exact .inr g4
theorem headB_len : ∀ {l : List Nat} {v : Nat} {tm : List V}, (headB l v tm).length = tm.length
  | [], _, _ => rfl
  | s :: r, v, tm => by unfold headB; rw [headB_len, setV_eq]; simp
theorem headB_R {N : Nat} {ρ2 : Env} {m : Nat → Nat} {bl : List Blk} {a : Act} {w : World} : ∀ {l : List Nat} {zs : List Int} {v : Nat} {tm : List V}, R w0 N ρ2 m tm bl a w → BoolF a.tmps l zs → (∀ j, j < zs.length → ρ2 (v + j) = zs.getD j 0) → v + zs.length ≤ N → R w0 N ρ2 m (headB l v tm) bl a w
  | [], [], v, tm, h, _, _, _ => h
  | s :: r, z :: zs, v, tm, h, hb, hv, hN => by
    unfold headB
    have h0 := hv 0 (by simp)
    simp only [Nat.add_zero, List.getD_cons_zero] at h0
    simp only [List.length_cons] at hN
    refine headB_R (l := r) (zs := zs) ⟨TRel.set h.t ?_ fun x hx => ?_, h.d, h.b, h.mm⟩ hb.2.2 (fun j hj => by
      have := hv (j + 1) (by simpa using hj)
      rw [show v + 1 + j = v + (j + 1) by omega]; simpa using this) (by omega)
    · exact ⟨Lin.sc_var (by omega), Lin.sc_const _ _⟩
    · rw [hb.2.1 x hx]
      simp [V.rel, W.den, A.den, BE.den, Lin.den_var, Lin.den_const, h0]
  | [], _ :: _, _, _, _, h, _, _ => h.elim
  | _ :: _, [], _, _, _, h, _, _ => h.elim
theorem headA_R {N : Nat} {ρ2 : Env} {a : Act} {w : World} : ∀ {l : List (Nat × List CK × TypeId)} {zs : List Int} {v : Nat} {tm : List V} {bl : List Blk} {m : Nat → Nat} {F : Nat → Prop}, R w0 N ρ2 m tm bl a w → AccF w0 w a.tmps F l zs → (∀ g, F g → ∀ (i : Nat) (p : Blk), bl[i]? = some p → m i = g → kindC ρ2 p.1 = 0) →
    (∀ j, j < zs.length → ρ2 (v + j) = zs.getD j 0) → v + zs.length ≤ N → ∃ m2, (∀ b, b < bl.length → m2 b = m b) ∧ bl.length ≤ (headA l v tm bl).2.length ∧ R w0 N ρ2 m2 (headA l v tm bl).1 (headA l v tm bl).2 a w
  | [], [], v, tm, bl, m, F, h, _, _, _, _ => ⟨m, fun _ _ => rfl, Nat.le_refl _, h⟩
  | (s, sh, e) :: r, code :: len :: cap :: zs, v, tm, bl, m, F, h, hf, hF, hv, hN => by
    obtain ⟨g, f1, f2, f3, f4, f5, f6, f7⟩ := hf
    have v0 := hv 0 (by simp)
    have v1 := hv 1 (by simp)
    have v2 := hv 2 (by simp)
    simp only [List.getD_cons_zero, List.getD_cons_succ, Nat.add_zero] at v0 v1 v2
    simp only [List.length_cons] at hN
    have hc : (-1 : Int) ≤ cap ∧ cap ≤ 9223372036854775807 := ⟨f2.2.1.1, by have := f2.2.1.2; omega⟩
    have hA : (A.rows sh (.const 0) (.var v) (.var (v + 2)) 2).ok N bl.length ρ2 := ⟨⟨Lin.sc_const _ _, Lin.sc_var (by omega), Lin.sc_var (by omega)⟩, by rw [Lin.den_var, v0]; exact f3, by rw [Lin.den_var, v2]; exact hc⟩
    have hM := h.mm.push (x := ([.rows sh (.const 0) (.var v) (.var (v + 2)) 2], (e, false))) (g := g) h.b (fun y hy => by simp at hy; subst hy; exact hA) (fun ho => by cases ho) (fun sh' off' code' cap' kind' he => by
        cases he
        intro _
        simp only [Lin.den_var, v0, v2, Lin.den_const]
        refine ⟨f4, fun h0 => ?_⟩
        obtain ⟨cells, k1, k2, k3, k4, k5⟩ := f5 h0
        exact ⟨k5.elim .inl fun h => .inr (.inr h), cells, e, (0, 0), k1, ⟨Int.le_refl _, k2⟩, fun _ => ⟨rfl, by trivial, .mk2, k3, k4, k5⟩⟩) (fun i p hi he => by
        rcases Int.lt_or_le cap 0 with h0 | h0
        · refine .inr (.inr ?_)
          simp only [kindC, Lin.den_var, v2]
          rw [if_pos h0]
        · exact .inr (.inl (hF g (f6 h0) i p hi he)))
    have hL := Later.alloc N ρ2 m bl ([A.rows sh (.const 0) (.var v) (.var (v + 2)) 2], (e, false)) g
    have hR : R w0 N ρ2 (updM m bl.length g) (setV tm s (.w (.one (.sl bl.length sh.length (.const 0) (.const 0) (.var (v + 1)) (.var (v + 2)))))) (bl ++ [([.rows sh (.const 0) (.var v) (.var (v + 2)) 2], (e, false))]) a w := by
      refine ⟨TRel.set (h.t.ext hL.ha hL.hn hL.hb hL.hm) ?_ fun x hx => ?_, h.d, h.b.alloc (fun y hy => by simp at hy; subst hy; exact hA), hM⟩
      · refine ⟨by simp, ⟨Lin.sc_const _ _, Lin.sc_const _ _, Lin.sc_var (by omega), Lin.sc_var (by omega)⟩, ?_⟩
        simp only [Lin.den_const, Lin.den_var, v1, v2]; exact f2
      · rw [f1 x hx]
        simp only [V.rel, W.den, A.den, Lin.den_const, Lin.den_var, v1, v2, updM_same]
        split <;> simp
    obtain ⟨m2, q1, q2, q3⟩ := headA_R (l := r) (zs := zs) (v := v + 3) hR f7 (fun g' hg' i p hi he => by
      rw [List.getElem?_append] at hi
      split at hi
      · rename_i hil
        rw [updM_lt hil] at he
        exact hF g' hg'.1 i p hi he
      · have hil := (List.getElem?_eq_some_iff.1 hi).1
        have : i = bl.length := by simp at hil; omega
        subst this
        simp only [Nat.sub_self, List.getElem?_cons_zero, Option.some.injEq] at hi
        subst hi
        rw [updM_same] at he
        rcases Int.lt_or_le cap 0 with h0 | h0
        · simp only [kindC, Lin.den_var, v2]
          rw [if_pos h0]
        · exact absurd he.symm (hg'.2 h0)) (fun j hj => by
      have := hv (j + 3) (by simp only [List.length_cons]; omega)
      rw [show v + 3 + j = v + (j + 3) by omega]; simpa using this) (by omega)
    simp only [List.length_append, List.length_cons, List.length_nil] at q1 q2
    exact ⟨m2, fun b hb => by rw [q1 b (by omega)]; exact updM_lt hb, by unfold headA; omega, by unfold headA; exact q3⟩
  | [], _ :: _, _, _, _, _, _, _, h, _, _, _ => h.elim
  | _ :: _, [], _, _, _, _, _, _, h, _, _, _ => h.elim
  | _ :: _, [_], _, _, _, _, _, _, h, _, _, _ => h.elim
  | _ :: _, [_, _], _, _, _, _, _, _, h, _, _, _ => h.elim
theorem inB_bool {tmps : Array Value} : ∀ {l : List Nat} {zs : List Int}, BoolF tmps l zs → inB (boolBds l) zs
  | [], [], _ => trivial
  | s :: r, z :: zs, h => ⟨h.1.1, h.1.2, inB_bool h.2.2⟩
  | [], _ :: _, h => h.elim
  | _ :: _, [], h => h.elim
theorem inB_acc {w : World} {tmps : Array Value} : ∀ {l : List (Nat × List CK × TypeId)} {zs : List Int} {F : Nat → Prop}, AccF w0 w tmps F l zs → inB (accBds l) zs
  | [], [], _, _ => trivial
  | (s, sh, e) :: r, code :: len :: cap :: zs, F, ⟨g, f1, f2, f3, f4, f5, f6, f7⟩ => ⟨f3.1, f3.2, f2.1.2.2.1, f2.1.2.2.2, f2.2.1.1, by have := f2.2.1.2; omega, inB_acc f7⟩
  | [], _ :: _, _, h => h.elim
  | _ :: _, [], _, h => h.elim
  | _ :: _, [_], _, h => h.elim
  | _ :: _, [_, _], _, h => h.elim

/-- An array that is told as rows. -/
theorem Mem.rowz {n : Nat} {ρ : Env} {m : Nat → Nat} {bl : List Blk} {w : World} {b c : Nat} {C : List A} {sh : List CK} {code : Lin} {t : TypeId × Bool} (h : Mem w0 ρ m bl w) (hbl : bl[b]? = some (C, t)) (ho : isOrd C = true) (ht : t.2 = false)
    (hrk : ∀ row ∈ rOf (code.den ρ), RowOk sh row) (hfl : flatV sh (rOf (code.den ρ)) = C.map (A.den ρ m)) (hlen : C.length = c * sh.length) : Mem w0 ρ m (setB bl b ([.rows sh (.const 0) code (.const c) 2], t)) w := by
  have hblen : b < bl.length := (List.getElem?_eq_some_iff.1 hbl).1
  obtain ⟨q1, q2, r, hr, q3⟩ := h.blk b C t hbl ho
  have hr := hr ht
  subst hr
  rw [List.append_nil] at q3
  have hset : ∀ (i : Nat) (p : Blk), (setB bl b ([.rows sh (.const 0) code (.const c) 2], t))[i]? = some p → (i = b ∧ p = ([.rows sh (.const 0) code (.const c) 2], t)) ∨ (i ≠ b ∧ bl[i]? = some p) := fun i p hi => by
    rw [setB_eq, List.getElem?_set] at hi
    split at hi
    · rename_i hbi
      subst hbi
      simp only [hblen, if_true, Option.some.injEq] at hi
      exact .inl ⟨rfl, hi.symm⟩
    · rename_i hbi; exact .inr ⟨fun e => hbi e.symm, hi⟩
  have hk2 : kindC ρ [.rows sh (.const 0) code (.const c) 2] = 2 := kindC_rows (by decide) (by rw [Lin.den_const]; omega)
  refine ⟨h.ext, h.hos, h.htape, h.hout, h.hsize, h.frm, fun i cs' t' hi ho' => ?_, fun i sh' off' code' cap' kind' t' hi => ?_, fun i j p q hi hj he => ?_⟩
  · rcases hset i _ hi with ⟨rfl, hi2⟩ | ⟨hne, hi⟩
    · cases hi2; cases ho'
    · exact h.blk i cs' t' hi ho'
  · rcases hset i _ hi with ⟨rfl, hi2⟩ | ⟨hne, hi⟩
    · cases hi2
      intro _
      simp only [Lin.den_const]
      refine ⟨fun h0 => by omega, fun _ => ⟨q2.elim .inl fun h => .inr (.inr h), _, _, _, q3, ⟨Int.le_refl _, hrk, [], [], by simp [hfl], rfl⟩, fun _ => ⟨rfl, by trivial, .mk2, by simp [hlen], q1, q2⟩⟩⟩
    · exact h.rws i sh' off' _ cap' kind' t' hi
  · have hk : ∀ (i : Nat) (p : Blk), (setB bl b ([.rows sh (.const 0) code (.const c) 2], t))[i]? = some p → ∃ p', bl[i]? = some p' ∧ kindC ρ p'.1 = kindC ρ p.1 := fun i p hi => by
      rcases hset i _ hi with ⟨rfl, hi2⟩ | ⟨hne, hi⟩
      · exact ⟨_, hbl, by rw [hi2]; simp only [hk2, kind_ord ho]⟩
      · exact ⟨p, hi, rfl⟩
    obtain ⟨p', hp, ep⟩ := hk i p hi
    obtain ⟨q', hq, eq⟩ := hk j q hj
    rw [← ep, ← eq]
    exact h.inj i j p' q' hp hq he
theorem rowzM_snd {m : Nat → Nat} {tm : List V} {a : Act} {w : World} : ∀ {l : List (Nat × List CK × Nat)} {bl : List Blk} {n : Nat} {ρ : Env}, R w0 n ρ m tm bl a w → Snd S L (rowzM l bl) n ρ fun ρ' n' bl' => R w0 n' ρ' m tm bl' a w ∧ bl'.length = bl.length
  | [], bl, n, ρ, h => Snd.pure ⟨h, rfl⟩
  | (b, sh, c) :: r, bl, n, ρ, h => by
    unfold rowzM
    split
    · rename_i C t hbl
      cases ho : isOrd C with
      | false => simp only [cond_false]; exact rowzM_snd h
      | true =>
        simp only [cond_true]
        refine snd_guard fun hc => ?_
        simp only [Bool.and_eq_true] at hc
        obtain ⟨⟨⟨c1, c2⟩, c3⟩, c4⟩ := hc
        have c1 : t.2 = false := by simpa using c1
        have c2 := Nat.eq_of_beq_eq_true c2
        have c4 := Nat.le_of_ble_eq_true c4
        have hok : ∀ x ∈ C, A.ok n bl.length ρ x := h.b _ (List.mem_of_getElem? hbl)
        have hch := chunkA_flat (w := sh.length) (k := c) c2
        have e0 : rOf ((Lin.const 0).den ρ) = [] := by rw [Lin.den_const]; exact rOf_zero
        have hz : (0 : Int) ≤ RB := Int.le_trans (rc_nonneg []) (RB_c (l := []) (by simp) (by simp))
        refine (appRowsM_snd (nb := bl.length) (m := m) c3 (rs := chunkA sh.length c C) (c := .const 0) (fun row hr x hx => hok x (chunkA_mem row hr x hx)) (Lin.sc_const _ _) (by rw [Lin.den_const]; exact ⟨Int.le_refl _, hz⟩) (by rw [e0]; intro _ h; simp at h) (by rw [e0, hch.1]; simp; omega)).bind fun ρ1 n1 code hn1 ha1 ⟨p1, p2, rows', p3, p4, p5, p6⟩ => ?_
        rw [e0, List.nil_append] at p3
        have h1 := h.later hn1 ha1
        have hmap : C.map (A.den ρ1 m) = C.map (A.den ρ m) := map_den_ext hok ha1 (fun _ _ => rfl)
        have hM := h1.mm.rowz (n := n1) (c := c) (sh := sh) (code := code) hbl ho c1 (by rw [p3]; exact p5) (by rw [p3, p6, hch.2, hmap]) c2
        have hb1 : BlOk n1 (setB bl b ([.rows sh (.const 0) code (.const c) 2], t)).length ρ1 (setB bl b ([.rows sh (.const 0) code (.const c) 2], t)) := h1.b.set (fun y hy => by
          have hy : y = .rows sh (.const 0) code (.const c) 2 := by simpa using hy
          subst hy
          exact ⟨⟨Lin.sc_const _ _, p1, Lin.sc_const _ _⟩, p2, by rw [Lin.den_const]; omega⟩)
        have hR : R w0 n1 ρ1 m tm (setB bl b ([.rows sh (.const 0) code (.const c) 2], t)) a w := ⟨by rw [setB_length]; exact h1.t, h1.d, hb1, hM⟩
        exact (rowzM_snd (l := r) hR).mono fun ρ2 n2 bl2 _ _ ⟨g1, g2⟩ => ⟨g1, by rw [g2, setB_length]⟩
    · exact Snd.fail
theorem natsM_holds {G : Again} {κ : Unit → Nat → T} : ∀ {k n : Nat} {ρ : Env} {offs : List Int}, (natsM k n κ).holds S L G ρ → offs.length = k → (∀ z ∈ offs, 0 ≤ z) → (κ () (n + k)).holds S L G (updL ρ n offs)
  | 0, n, ρ, [], h, _, _ => h
  | k + 1, n, ρ, z :: zs, h, hl, h0 => by
    have h1 : (natsM k (n + 1) κ).holds S L G (upd ρ n z) := h z (h0 z (by simp))
    have := natsM_holds (offs := zs) h1 (by simpa using hl) fun y hy => h0 y (List.mem_cons_of_mem _ hy)
    rw [show n + (k + 1) = n + 1 + k by omega]; exact this
  | 0, _, _, _ :: _, _, hl, _ => by simp at hl
  | _ + 1, _, _, [], _, hl, _ => by simp at hl
/-- Slices for reading, at the slots. -/
def RdF (w0 : Base) (w : World) (tmps : Array Value) (F : Nat → Prop) : List (Nat × List CK) → List Nat → List Int → List Int → Prop
  | [], [], [], [] => True
  | (s, sh) :: r, g :: gs, o :: os, code :: len :: cap :: zs => (∀ x, tmps[s]? = some x → x = if cap < 0 then .slice none 0 0 else .slice (some ⟨g, o.toNat, none⟩) len.toNat cap.toNat) ∧ slOk o 0 len cap ∧ (0 ≤ code ∧ code ≤ RB) ∧ (cap < 0 → rOf code = []) ∧
      (0 ≤ cap → (w0.ex g ∨ w0.ro g ∨ w0.r.heap.size ≤ g) ∧ ∃ (cells : Array Value) (t : TypeId) (fz : Nat × Nat), w.heap[g]? = some (.cells cells t fz) ∧ RowsAt cells o.toNat sh (rOf code)) ∧
      (0 ≤ cap → F g) ∧ RdF w0 w tmps F r gs os zs
  | _, _, _, _ => False
theorem RdF.len {w : World} {tmps : Array Value} {F : Nat → Prop} : ∀ {l : List (Nat × List CK)} {gs : List Nat} {os zs : List Int}, RdF w0 w tmps F l gs os zs → os.length = l.length ∧ ∀ z ∈ os, 0 ≤ z
  | [], [], [], [], _ => ⟨rfl, fun _ h => by simp at h⟩
  | (s, sh) :: r, g :: gs, o :: os, code :: len :: cap :: zs, h => by
    obtain ⟨_, h2, _, _, _, _, h7⟩ := h
    obtain ⟨i1, i2⟩ := RdF.len h7
    exact ⟨by simp [i1], fun z hz => by
      rcases List.mem_cons.1 hz with rfl | hz
      · exact h2.1.1
      · exact i2 z hz⟩
  | _ :: _, [], _, _, h => h.elim
  | _ :: _, _ :: _, [], _, h => h.elim
  | _ :: _, _ :: _, _ :: _, [], h => h.elim
  | _ :: _, _ :: _, _ :: _, [_], h => h.elim
  | _ :: _, _ :: _, _ :: _, [_, _], h => h.elim
  | [], _ :: _, _, _, h => h.elim
  | [], [], _ :: _, _, h => h.elim
  | [], [], [], _ :: _, h => h.elim
theorem inB_rd {w : World} {tmps : Array Value} {F : Nat → Prop} : ∀ {l : List (Nat × List CK)} {gs : List Nat} {os zs : List Int}, RdF w0 w tmps F l gs os zs → inB (rdBds l) zs
  | [], [], [], [], _ => trivial
  | (s, sh) :: r, g :: gs, o :: os, code :: len :: cap :: zs, ⟨f1, f2, f3, f4, f5, f6, f7⟩ => ⟨f3.1, f3.2, f2.1.2.2.1, f2.1.2.2.2, f2.2.1.1, by have := f2.2.1.2; omega, inB_rd f7⟩
  | _ :: _, [], _, _, h => h.elim
  | _ :: _, _ :: _, [], _, h => h.elim
  | _ :: _, _ :: _, _ :: _, [], h => h.elim
  | _ :: _, _ :: _, _ :: _, [_], h => h.elim
  | _ :: _, _ :: _, _ :: _, [_, _], h => h.elim
  | [], _ :: _, _, _, h => h.elim
  | [], [], _ :: _, _, h => h.elim
  | [], [], [], _ :: _, h => h.elim
theorem rdE_spec {n : Nat} {ρ : Env} {m : Nat → Nat} {tm : List V} {bl : List Blk} {a : Act} {w : World} (h : R w0 n ρ m tm bl a w) : ∀ {l : List (Nat × List CK)} {ls : List Lin}, rdE l tm bl = some ls →
    (∀ x ∈ ls, Lin.sc n x) ∧ ls.length = (rdBds l).length ∧ ∃ gs os, RdF w0 w a.tmps (fun g => ∃ (i : Nat) (p : Blk), bl[i]? = some p ∧ m i = g ∧ kindC ρ p.1 = 1) l gs os (ls.map (·.den ρ))
  | [], ls, he => by
    simp only [rdE, Option.some.injEq] at he
    subst he
    exact ⟨fun _ h => by simp at h, rfl, [], [], trivial⟩
  | (s, sh) :: r, ls, he => by
    unfold rdE at he
    split at he
    · rename_i hs
      split at he
      · rename_i l1 hr
        simp only [Option.some.injEq] at he
        subst he
        obtain ⟨g1, g2, gs, os, g3⟩ := rdE_spec h hr
        refine ⟨fun x hx => ?_, by simp [rdBds] at g2 ⊢; omega, 0 :: gs, 0 :: os, fun x hx => ?_, ?_, ?_, ?_, ?_, ?_, g3⟩
        · simp only [List.mem_cons] at hx
          rcases hx with rfl | rfl | rfl | hx
          · exact Lin.sc_const _ _
          · exact Lin.sc_const _ _
          · exact Lin.sc_const _ _
          · exact g1 x hx
        · obtain ⟨_, y, h2, h3⟩ := h.t.2 s _ hs
          rw [h2] at hx; cases hx
          have e9 : (Lin.const (-1)).den ρ < 0 := by rw [Lin.den_const]; decide
          simp only [e9, if_true]
          exact h3
        · simp only [Lin.den_const]; exact ⟨⟨by omega, by omega, by omega, by omega⟩, ⟨by omega, by omega⟩, fun _ => rfl, fun h => by omega⟩
        · simp only [Lin.den_const]; exact ⟨Int.le_refl _, Int.le_trans (rc_nonneg []) (RB_c (l := []) (by simp) (by simp))⟩
        · intro _; simp only [Lin.den_const]; exact rOf_zero
        · simp only [Lin.den_const]; intro h; omega
        · simp only [Lin.den_const]; intro h; omega
      · cases he
    · rename_i b sz o ro len cap hs
      split at he
      · rename_i sh' off code capb kind t hbl
        cases hc : (shBeq sh sh' && Nat.beq kind 1 && Lin.beq o off && Lin.beq ro (.const 0) && Lin.beq cap capb && Nat.beq sz sh.length) with
        | false => rw [hc] at he; cases he
        | true =>
          rw [hc] at he
          simp only [cond_true] at he
          split at he
          · rename_i l1 hr
            simp only [Option.some.injEq] at he
            subst he
            simp only [Bool.and_eq_true] at hc
            obtain ⟨⟨⟨⟨⟨c1, c2⟩, c3⟩, c4⟩, c5⟩, c6⟩ := hc
            have c1 := shBeq_eq c1; have c2 := Nat.eq_of_beq_eq_true c2; have c3 := Lin.beq_eq c3; have c4 := Lin.beq_eq c4; have c5 := Lin.beq_eq c5; have c6 := Nat.eq_of_beq_eq_true c6
            subst c1; subst c2; subst c3; subst c4; subst c5; subst c6
            obtain ⟨g1, g2, gs, os, g3⟩ := rdE_spec h hr
            obtain ⟨hok, y, h2, h3⟩ := h.t.2 s _ hs
            have hok : (A.sl b sh.length o (.const 0) len cap).ok n bl.length ρ := hok
            obtain ⟨x1, ⟨x2, x3, x4, x5⟩, x6⟩ := hok
            simp only [Lin.den_const] at x6
            have hAok : (A.rows sh o code cap 1).ok n bl.length ρ := h.b _ (List.mem_of_getElem? hbl) _ (by simp)
            obtain ⟨⟨r1, r2, r3⟩, r4, r5⟩ := hAok
            have hrr := h.mm.rws b sh o code cap 1 t hbl (by decide)
            refine ⟨fun x hx => ?_, by simp [rdBds] at g2 ⊢; omega, m b :: gs, o.den ρ :: os, fun x hx => ?_, x6, r4, hrr.1, fun h0 => ?_, fun h0 => ?_, g3⟩
            · simp only [List.mem_cons] at hx
              rcases hx with rfl | rfl | rfl | hx
              · exact r2
              · exact x4
              · exact x5
              · exact g1 x hx
            · have hxy : y = x := Option.some.inj (h2.symm.trans hx)
              subst hxy
              have h3 : y = (A.sl b sh.length o (.const 0) len cap).den ρ m := h3
              rw [h3]
              simp only [A.den, Lin.den_const]
              split <;> simp
            · obtain ⟨q0, cells, tq, fz, k1, ⟨k2, k3⟩, k4⟩ := hrr.2 h0
              exact ⟨q0, cells, tq, fz, k1, k3⟩
            · exact ⟨b, _, hbl, rfl, kindC_rows (by decide) h0⟩
          · cases he
      · cases he
    · cases he
theorem RdF.mono {w : World} {tmps : Array Value} {F F' : Nat → Prop} (hF : ∀ g, F g → F' g) : ∀ {l : List (Nat × List CK)} {gs : List Nat} {os zs : List Int}, RdF w0 w tmps F l gs os zs → RdF w0 w tmps F' l gs os zs
  | [], [], [], [], _ => trivial
  | (s, sh) :: r, g :: gs, o :: os, code :: len :: cap :: zs, ⟨f1, f2, f3, f4, f5, f6, f7⟩ => ⟨f1, f2, f3, f4, f5, fun h => hF g (f6 h), RdF.mono hF f7⟩
  | _ :: _, [], _, _, h => h.elim
  | _ :: _, _ :: _, [], _, h => h.elim
  | _ :: _, _ :: _, _ :: _, [], h => h.elim
  | _ :: _, _ :: _, _ :: _, [_], h => h.elim
  | _ :: _, _ :: _, _ :: _, [_, _], h => h.elim
  | [], _ :: _, _, _, h => h.elim
  | [], [], _ :: _, _, h => h.elim
  | [], [], [], _ :: _, h => h.elim
theorem accE_two {lo : Nat} {tm : List V} {bl : List Blk} : ∀ {l : List (Nat × List CK × TypeId)} {used : List Nat} {ls : List Lin} {u : List Nat}, accE lo l tm bl used = some (ls, u) → ∀ b ∈ u, b ∈ used ∨ ∃ sh off code cap t, bl[b]? = some ([.rows sh off code cap 2], t)
  | [], used, ls, u, he => by
    simp only [accE, Option.some.injEq, Prod.mk.injEq] at he
    obtain ⟨rfl, rfl⟩ := he
    exact fun b hb => .inl hb
  | (s, sh, e) :: r, used, ls, u, he => by
    unfold accE at he
    split at he
    · split at he
      · rename_i l1 u1 hr
        simp only [Option.some.injEq, Prod.mk.injEq] at he
        obtain ⟨rfl, rfl⟩ := he
        exact accE_two hr
      · cases he
    · rename_i b sz o ro len cap hs
      split at he
      · rename_i sh' off code capb kind t hbl
        cases hc : (shBeq sh sh' && Nat.beq kind 2 && Lin.beq o (.const 0) && Lin.beq off (.const 0) && Lin.beq ro (.const 0) && Lin.beq cap capb && Nat.beq t.1 e && Nat.beq sz sh.length && Nat.ble lo b && !(used.any (Nat.beq b))) with
        | false => rw [hc] at he; cases he
        | true =>
          rw [hc] at he
          simp only [cond_true] at he
          split at he
          · rename_i l1 u1 hr
            simp only [Option.some.injEq, Prod.mk.injEq] at he
            obtain ⟨rfl, rfl⟩ := he
            simp only [Bool.and_eq_true] at hc
            obtain ⟨⟨⟨⟨⟨⟨⟨⟨⟨c1, c2⟩, c3⟩, c4⟩, c5⟩, c6⟩, c7⟩, c8⟩, c9⟩, c10⟩ := hc
            have c2 := Nat.eq_of_beq_eq_true c2
            subst c2
            intro b' hb'
            rcases accE_two hr b' hb' with h5 | h5
            · rcases List.mem_cons.1 h5 with rfl | h5
              · exact .inr ⟨_, _, _, _, _, hbl⟩
              · exact .inl h5
            · exact .inr h5
          · cases he
      · cases he
    · cases he
theorem killL_keep {i : Nat} {p : Blk} : ∀ {us : List Nat} {bl : List Blk}, bl[i]? = some p → i ∉ us → (killL us bl)[i]? = some p
  | [], bl, h, _ => h
  | b :: r, bl, h, hi => by
    unfold killL
    split
    · refine killL_keep ?_ fun h => hi (List.mem_cons_of_mem _ h)
      rw [setB_eq, List.getElem?_set_ne (fun e => hi (by simp [e]))]; exact h
    · exact killL_keep h fun h => hi (List.mem_cons_of_mem _ h)
theorem headD_R {N : Nat} {ρ2 : Env} {a : Act} {w : World} {F : Nat → Prop} : ∀ {l : List (Nat × List CK)} {gs : List Nat} {os zs : List Int} {v u : Nat} {tm : List V} {bl : List Blk} {m : Nat → Nat}, R w0 N ρ2 m tm bl a w → RdF w0 w a.tmps F l gs os zs → (∀ g, F g → ∀ (i : Nat) (p : Blk), bl[i]? = some p → m i = g → kindC ρ2 p.1 ≤ 1) →
    (∀ j, j < zs.length → ρ2 (v + j) = zs.getD j 0) → (∀ j, j < os.length → ρ2 (u + j) = os.getD j 0) → v + zs.length ≤ N → u + os.length ≤ N →
    ∃ m2, (∀ b, b < bl.length → m2 b = m b) ∧ bl.length ≤ (headD l v u tm bl).2.length ∧ R w0 N ρ2 m2 (headD l v u tm bl).1 (headD l v u tm bl).2 a w ∧ ∀ (i : Nat) (p : Blk), (headD l v u tm bl).2[i]? = some p → (i < bl.length ∧ bl[i]? = some p) ∨ (kindC ρ2 p.1 ≠ 0 → F (m2 i))
  | [], [], [], [], v, u, tm, bl, m, h, _, _, _, _, _, _ => ⟨m, fun _ _ => rfl, Nat.le_refl _, h, fun i p hp => .inl ⟨(List.getElem?_eq_some_iff.1 hp).1, hp⟩⟩
  | (s, sh) :: r, g :: gs, o :: os, code :: len :: cap :: zs, v, u, tm, bl, m, h, hf, hF, hv, hu, hN, hN2 => by
    obtain ⟨f1, f2, f3, f4, f5, f6, f7⟩ := hf
    have v0 := hv 0 (by simp)
    have v1 := hv 1 (by simp)
    have v2 := hv 2 (by simp)
    have u0 := hu 0 (by simp)
    simp only [List.getD_cons_zero, List.getD_cons_succ, Nat.add_zero] at v0 v1 v2 u0
    simp only [List.length_cons] at hN hN2
    have hc : (-1 : Int) ≤ cap ∧ cap ≤ 9223372036854775807 := ⟨f2.2.1.1, by have := f2.2.1.2; omega⟩
    have hA : (A.rows sh (.var u) (.var v) (.var (v + 2)) 1).ok N bl.length ρ2 := ⟨⟨Lin.sc_var (by omega), Lin.sc_var (by omega), Lin.sc_var (by omega)⟩, by rw [Lin.den_var, v0]; exact f3, by rw [Lin.den_var, v2]; exact hc⟩
    have hkind : kindC ρ2 [A.rows sh (.var u) (.var v) (.var (v + 2)) 1] ≤ 1 := by
      simp only [kindC]
      split <;> omega
    have hM := h.mm.push (x := ([.rows sh (.var u) (.var v) (.var (v + 2)) 1], (0, false))) (g := g) h.b (fun y hy => by simp at hy; subst hy; exact hA) (fun ho => by cases ho) (fun sh' off' code' cap' kind' he => by
        cases he
        intro _
        simp only [Lin.den_var, v0, v2, u0]
        refine ⟨f4, fun h0 => ?_⟩
        obtain ⟨k0, cells, t, fz, k1, k2⟩ := f5 h0
        exact ⟨k0, cells, t, fz, k1, ⟨f2.1.1, k2⟩, fun h9 => by omega⟩) (fun i p hi he => by
        rcases Int.lt_or_le cap 0 with h0 | h0
        · refine .inr (.inr ?_)
          simp only [kindC, Lin.den_var, v2]
          rw [if_pos h0]
        · exact .inl ⟨hF g (f6 h0) i p hi he, hkind⟩)
    have hL := Later.alloc N ρ2 m bl ([A.rows sh (.var u) (.var v) (.var (v + 2)) 1], (0, false)) g
    have hR : R w0 N ρ2 (updM m bl.length g) (setV tm s (.w (.one (.sl bl.length sh.length (.var u) (.const 0) (.var (v + 1)) (.var (v + 2)))))) (bl ++ [([.rows sh (.var u) (.var v) (.var (v + 2)) 1], (0, false))]) a w := by
      refine ⟨TRel.set (h.t.ext hL.ha hL.hn hL.hb hL.hm) ?_ fun x hx => ?_, h.d, h.b.alloc (fun y hy => by simp at hy; subst hy; exact hA), hM⟩
      · refine ⟨by simp, ⟨Lin.sc_var (by omega), Lin.sc_const _ _, Lin.sc_var (by omega), Lin.sc_var (by omega)⟩, ?_⟩
        simp only [Lin.den_const, Lin.den_var, v1, v2, u0]; exact f2
      · rw [f1 x hx]
        simp only [V.rel, W.den, A.den, Lin.den_const, Lin.den_var, v1, v2, u0, updM_same]
        split <;> simp
    obtain ⟨m2, q1, q2, q3, q4⟩ := headD_R (F := F) (l := r) (gs := gs) (os := os) (zs := zs) (v := v + 3) (u := u + 1) hR f7 (fun g' hg' i p hi he => by
      rw [List.getElem?_append] at hi
      split at hi
      · rename_i hil
        rw [updM_lt hil] at he
        exact hF g' hg' i p hi he
      · have hil := (List.getElem?_eq_some_iff.1 hi).1
        have : i = bl.length := by simp at hil; omega
        subst this
        simp only [Nat.sub_self, List.getElem?_cons_zero, Option.some.injEq] at hi
        subst hi
        exact hkind) (fun j hj => by
      have := hv (j + 3) (by simp only [List.length_cons]; omega)
      rw [show v + 3 + j = v + (j + 3) by omega]; simpa using this) (fun j hj => by
      have := hu (j + 1) (by simp only [List.length_cons]; omega)
      rw [show u + 1 + j = u + (j + 1) by omega]; simpa using this) (by omega) (by omega)
    simp only [List.length_append, List.length_cons, List.length_nil] at q1 q2
    refine ⟨m2, fun b hb => by rw [q1 b (by omega)]; exact updM_lt hb, by unfold headD; omega, by unfold headD; exact q3, fun i p hp => ?_⟩
    unfold headD at hp
    rcases q4 i p hp with ⟨q5, q6⟩ | q5
    · simp only [List.length_append, List.length_cons, List.length_nil] at q5
      rw [List.getElem?_append] at q6
      split at q6
      · rename_i hil; exact .inl ⟨hil, q6⟩
      · rename_i hil
        have hi : i = bl.length := by omega
        subst hi
        simp only [Nat.sub_self, List.getElem?_cons_zero, Option.some.injEq] at q6
        subst q6
        refine .inr fun h0 => ?_
        rw [q1 bl.length (by omega), updM_same]
        refine f6 ?_
        rcases Int.lt_or_le cap 0 with h1 | h1
        · refine absurd ?_ h0
          simp only [kindC, Lin.den_var, v2]
          rw [if_pos h1]
        · exact h1
    · exact .inr q5
  | _ :: _, [], _, _, _, _, _, _, _, _, h, _, _, _, _, _ => h.elim
  | _ :: _, _ :: _, [], _, _, _, _, _, _, _, h, _, _, _, _, _ => h.elim
  | _ :: _, _ :: _, _ :: _, [], _, _, _, _, _, _, h, _, _, _, _, _ => h.elim
  | _ :: _, _ :: _, _ :: _, [_], _, _, _, _, _, _, h, _, _, _, _, _ => h.elim
  | _ :: _, _ :: _, _ :: _, [_, _], _, _, _, _, _, _, h, _, _, _, _, _ => h.elim
  | [], _ :: _, _, _, _, _, _, _, _, _, h, _, _, _, _, _ => h.elim
  | [], [], _ :: _, _, _, _, _, _, _, _, h, _, _, _, _, _ => h.elim
  | [], [], [], _ :: _, _, _, _, _, _, _, h, _, _, _, _, _ => h.elim

theorem head_all {li : LoopI} {n : Nat} {ρ0 ρ' : Env} {m0 m' : Nat → Nat} {tm tm' tmH tmE : List V} {bl bl' blH blE : List Blk} {l1 l2 v1 v2 lb la lr : List Lin} {b1 b2 b1' b2' : List (Int × Int)} {n' : Nat} {a : Act} {w : World} {NA ND NN : Nat} {gs : List Nat} {os : List Int}
    (hlen : bl.length ≤ bl'.length)
    (ha : agree n ρ0 ρ') (hm : ∀ b, b < bl.length → m' b = m0 b) (ht : ∀ v ∈ tm, V.ok n bl.length ρ0 v) (hb0 : BlOk n bl.length ρ0 bl)
    (h : R w0 n' ρ' m' tm' bl' a w) (e1 : hs li.keep li.ints 0 (n + 1) tm = some (tmH, l1, b1)) (e2 : hb li.cells 0 (n + 1 + l1.length) bl = some (blH, l2, b2))
    (e3 : hs li.keep li.ints 0 (n + 1) tm' = some (tmE, v1, b1')) (e4 : hb li.cells 0 (n + 1 + v1.length) (bl'.take bl.length) = some (blE, v2, b2'))
    (f1 : fitV tmH tmE = true) (f2 : fitB blH blE = true) (hbf : BoolF a.tmps li.bools (lb.map (·.den ρ'))) (haf : AccF w0 w a.tmps (fun g => (∀ (i : Nat) (p : Blk), i < bl.length → bl'[i]? = some p → m' i = g → kindC ρ' p.1 = 0) ∧ ¬ ∃ (i : Nat) (p : Blk), bl'[i]? = some p ∧ m' i = g ∧ kindC ρ' p.1 = 1) li.accs (la.map (·.den ρ')))
    (hrf : RdF w0 w a.tmps (fun g => ∃ (i : Nat) (p : Blk), bl'[i]? = some p ∧ m' i = g ∧ kindC ρ' p.1 = 1) li.rds gs os (lr.map (·.den ρ')))
    (hNA : NA = n + 1 + l1.length + l2.length + lb.length) (hND : ND = n + 1 + l1.length + l2.length + (lb ++ la).length) (hNN : NN = n + 1 + l1.length + l2.length + (lb ++ la ++ lr).length) :
    inB (b1 ++ b2 ++ (boolBds li.bools ++ accBds li.accs ++ rdBds li.rds)) ((v1 ++ v2 ++ (lb ++ la ++ lr)).map (·.den ρ')) ∧ ∃ m2, (∀ b, b < bl.length → m2 b = m0 b) ∧ bl.length ≤ (headA li.accs NA (headD li.rds ND NN (headB li.bools (n + 1 + l1.length + l2.length) tmH) blH).1 (headD li.rds ND NN (headB li.bools (n + 1 + l1.length + l2.length) tmH) blH).2).2.length ∧
      R w0 (NN + li.rds.length) (updL (updL ρ0 (n + 1) ((v1 ++ v2 ++ (lb ++ la ++ lr)).map (·.den ρ'))) NN os) m2 (headA li.accs NA (headD li.rds ND NN (headB li.bools (n + 1 + l1.length + l2.length) tmH) blH).1 (headD li.rds ND NN (headB li.bools (n + 1 + l1.length + l2.length) tmH) blH).2).1 (headA li.accs NA (headD li.rds ND NN (headB li.bools (n + 1 + l1.length + l2.length) tmH) blH).1 (headD li.rds ND NN (headB li.bools (n + 1 + l1.length + l2.length) tmH) blH).2).2 a w := by
  obtain ⟨hvl, i1, i2, i3, i4⟩ := head_R (ext := lb ++ la ++ lr) hlen ha hm ht hb0 h e1 e2 e3 e4 f1 f2
  obtain ⟨hol, ho0⟩ := hrf.len
  subst hNA; subst hND; subst hNN
  have hget : ∀ j, j < (lb ++ la ++ lr).length → updL ρ0 (n + 1) ((v1 ++ v2 ++ (lb ++ la ++ lr)).map (·.den ρ')) (n + 1 + l1.length + l2.length + j) = ((lb ++ la ++ lr).map (·.den ρ')).getD j 0 := fun j hj => by
    rw [show n + 1 + l1.length + l2.length + j = n + 1 + (v1.length + v2.length + j) by omega, updL_ge _ _ _ _ (by simp at hj ⊢; omega)]
    rw [List.map_append (l₁ := v1 ++ v2), List.getD_eq_getElem?_getD, List.getElem?_append_right (by simp), List.getD_eq_getElem?_getD]
    congr 2
    simp
  generalize hρ2 : updL ρ0 (n + 1) ((v1 ++ v2 ++ (lb ++ la ++ lr)).map (·.den ρ')) = ρ2 at *
  have ha3 : agree (n + 1 + l1.length + l2.length + (lb ++ la ++ lr).length) ρ2 (updL ρ2 (n + 1 + l1.length + l2.length + (lb ++ la ++ lr).length) os) := agree.updL os _ ρ2
  have i2' := i2.later (Nat.le_add_right _ li.rds.length) ha3
  have hget3 : ∀ j, j < (lb ++ la ++ lr).length → updL ρ2 (n + 1 + l1.length + l2.length + (lb ++ la ++ lr).length) os (n + 1 + l1.length + l2.length + j) = ((lb ++ la ++ lr).map (·.den ρ')).getD j 0 := fun j hj => by
    rw [← hget j hj]
    exact (ha3 _ (by omega))
  have hk3 : ∀ (i : Nat) (p : Blk), blH[i]? = some p → kindC (updL ρ2 (n + 1 + l1.length + l2.length + (lb ++ la ++ lr).length) os) p.1 = kindC ρ2 p.1 := fun i p hi => kindC_agree (i2.b p (List.mem_of_getElem? hi)) ha3
  generalize hρ3 : updL ρ2 (n + 1 + l1.length + l2.length + (lb ++ la ++ lr).length) os = ρ3 at *
  have hB := headB_R (v := n + 1 + l1.length + l2.length) i2' hbf (fun j hj => by
    simp only [List.length_map] at hj
    rw [hget3 j (by simp; omega), List.append_assoc, List.map_append, List.getD_eq_getElem?_getD, List.getElem?_append_left (by simpa using hj), List.getD_eq_getElem?_getD]) (by simp; omega)
  obtain ⟨m1, p1, p2, p3, p4⟩ := headD_R (v := n + 1 + l1.length + l2.length + (lb ++ la).length) (u := n + 1 + l1.length + l2.length + (lb ++ la ++ lr).length) hB hrf (fun g hg i p hi he => by
    obtain ⟨g1, p', g2, g3⟩ := i4 i p hi
    rw [hk3 i p hi, g3]
    obtain ⟨j, q, q1, q2, q3⟩ := hg
    rcases h.mm.inj i j p' q g2 q1 (by rw [q2, ← he, hm i g1]) with h9 | h9 | h9 | h9
    · subst h9
      rw [g2] at q1; cases q1
      omega
    · exact h9.1
    · omega
    · omega) (fun j hj => by
    simp only [List.length_map] at hj
    rw [show n + 1 + l1.length + l2.length + (lb ++ la).length + j = n + 1 + l1.length + l2.length + ((lb ++ la).length + j) by omega, hget3 _ (by simp at hj ⊢; omega), List.map_append (l₁ := lb ++ la), List.getD_eq_getElem?_getD, List.getElem?_append_right (by simp), List.getD_eq_getElem?_getD]
    congr 2
    simp) (fun j hj => by rw [← hρ3, updL_ge _ _ _ _ hj]) (by simp only [List.length_map, List.length_append]; omega) (by rw [hol]; exact Nat.le_refl _)
  obtain ⟨m2, q1, q2, q3⟩ := headA_R (v := n + 1 + l1.length + l2.length + lb.length) p3 haf (fun g hg i p hi he => by
    rcases p4 i p hi with ⟨g0, g1⟩ | g1
    · obtain ⟨g1', p', g2, g3⟩ := i4 i p g1
      rw [hk3 i p g1, g3]
      exact hg.1 i p' g1' g2 (by rw [hm i g1', ← p1 i g0]; exact he)
    · by_cases h0 : kindC ρ3 p.1 = 0
      · exact h0
      · have := g1 h0
        rw [he] at this
        exact absurd this hg.2) (fun j hj => by
    simp only [List.length_map] at hj
    rw [show n + 1 + l1.length + l2.length + lb.length + j = n + 1 + l1.length + l2.length + (lb.length + j) by omega, hget3 _ (by simp; omega), List.append_assoc, List.map_append, List.getD_eq_getElem?_getD, List.getElem?_append_right (by simp), List.map_append, List.getElem?_append_left (by simp; omega), List.getD_eq_getElem?_getD]
    congr 2
    simp) (by simp; omega)
  refine ⟨?_, m2, fun b hb => by rw [q1 b (by rw [i3] at p2; omega), p1 b (by rw [i3]; exact hb)], by rw [i3] at p2; omega, q3⟩
  rw [List.map_append, List.map_append (l₁ := lb ++ la), List.map_append (l₁ := lb)]
  exact inB_append i1 (inB_append (inB_append (inB_bool hbf) (inB_acc haf)) (inB_rd hrf))

theorem boolsM_len {a b c : Nat} (h : a = c) (h' : b = c) : b = a := h'.trans h.symm
theorem loop_wp {li : LoopI} {c : Code} {e : Nat → List V → List Blk → EK → T} (hd : rd = none ∨ noDef c = true) (he : BodyOk rd S L w0 P c e) {Q : Exit → Act → World → Prop} {n : Nat} {ρ : Env} {m : Nat → Nat} {tm : List V} {bl : List Blk} {a : Act} {w : World} {G : Again} {k : EK}
    (h : R w0 n ρ m tm bl a w) (hh : (loopE li e n tm bl k).holds S L G ρ) (hk : EKok S L w0 k n bl.length ρ m G Q) : (Code.loop c).wpIn (Fw rd) 0 P Q a w := by
  unfold loopE at hh
  obtain ⟨ρz, nz, blz, hnz, haz, ⟨hz1, hz2⟩, hh⟩ := rowzM_snd (S := S) (L := L) h G _ hh
  have hk := hk.later (⟨hnz, haz, by rw [hz2]; exact Nat.le_refl _, fun _ _ => rfl⟩ : Later n bl.length ρ m nz blz.length ρz m) (AgA.refl _ G)
  clear h
  have h := hz1
  clear hz1 hz2 hnz haz
  revert h hk hh
  generalize nz = n
  generalize ρz = ρ
  generalize blz = bl
  intro hh hk h
  obtain ⟨ρ0, n0, tm, hn0, ha0, ht0, hh⟩ := fitM_snd (S := S) (L := L) h.t G _ hh
  have h00 := h.later hn0 ha0
  have h : R w0 n0 ρ0 m tm bl a w := ⟨ht0, h00.d, h00.b, h00.mm⟩
  have hk := hk.later (⟨hn0, ha0, Nat.le_refl _, fun _ _ => rfl⟩ : Later n bl.length ρ m n0 bl.length ρ0 m) (AgA.refl _ G)
  obtain ⟨ρ1, n1, lb, hn1, ha1, ⟨s1, s2, s3⟩, hh⟩ := boolsM_snd (S := S) (L := L) h.t G _ hh
  have h1 := h.later hn1 ha1
  have hk := hk.later (⟨hn1, ha1, Nat.le_refl _, fun _ _ => rfl⟩ : Later n0 bl.length ρ0 m n1 bl.length ρ1 m) (AgA.refl _ G)
  split at hh
  rotate_left
  · exact hh.elim
  rename_i tmH l1 b1 la us lr e1 eA eD
  obtain ⟨a1, a2, _, _, a5⟩ := accE_spec h1 eA
  obtain ⟨k1, k2, k3⟩ := killL_spec (us := us) h1
  obtain ⟨r1, r2, gs, os, r3⟩ := rdE_spec h1 eD
  cases e2 : hb li.cells 0 (n1 + 1 + l1.length) (killL us bl) with
  | none => rw [e2] at hh; exact hh.elim
  | some q2 =>
    obtain ⟨blH, l2, b2⟩ := q2
    rw [e2] at hh
    simp only at hh
    cases hf : (fitV tmH tmH && fitB blH blH) with
    | false => rw [hf] at hh; exact hh.elim
    | true =>
      rw [hf] at hh
      simp only [Bool.not_true, cond_false, T.holds] at hh
      simp only [Bool.and_eq_true] at hf
      obtain ⟨I, μ, hI0, hB⟩ := hh
      have htok : ∀ v ∈ tm, V.ok n1 (killL us bl).length ρ1 v := fun v hv => by
        obtain ⟨i, hi⟩ := List.getElem?_of_mem hv
        exact (k1.t.2 i v hi).1
      have e2' : hb li.cells 0 (n1 + 1 + l1.length) ((killL us bl).take (killL us bl).length) = some (blH, l2, b2) := by rw [List.take_length]; exact e2
      have hacc : AccF w0 w a.tmps (fun g => (∀ (i : Nat) (p : Blk), i < (killL us bl).length → (killL us bl)[i]? = some p → m i = g → kindC ρ1 p.1 = 0) ∧ ¬ ∃ (i : Nat) (p : Blk), (killL us bl)[i]? = some p ∧ m i = g ∧ kindC ρ1 p.1 = 1) li.accs (la.map (·.den ρ1)) := by
        refine a5 _ fun b p hb _ hbl hkb hord => ?_
        have key : ∀ (i : Nat) (q : Blk), (killL us bl)[i]? = some q → m i = m b → kindC ρ1 q.1 = 0 := fun i q hi he => by
          rcases k3 i q hi with ⟨g1, g2⟩ | g1
          · by_cases hib : i = b
            · subst hib
              rw [hbl] at g1; cases g1
              rcases g2 hb with g2 | g2
              · rw [hord] at g2; cases g2
              · exact g2
            · rcases h1.mm.inj i b q p g1 hbl he with g3 | g3 | g3 | g3
              · exact absurd g3 hib
              · omega
              · exact g3
              · omega
          · exact g1
        exact ⟨fun i q _ hi he => key i q hi he, fun ⟨i, q, hi, he, hk⟩ => by have := key i q hi he; omega⟩
      have hrf : RdF w0 w a.tmps (fun g => ∃ (i : Nat) (p : Blk), (killL us bl)[i]? = some p ∧ m i = g ∧ kindC ρ1 p.1 = 1) li.rds gs os (lr.map (·.den ρ1)) := by
        refine r3.mono fun g ⟨i, p, hi, he, hk⟩ => ⟨i, p, killL_keep hi fun hu => ?_, he, hk⟩
        rcases accE_two eA i hu with h9 | ⟨sh, off, code, cap, t, h9⟩
        · simp at h9
        · rw [hi] at h9
          cases h9
          simp only [kindC] at hk
          split at hk <;> omega
      obtain ⟨i1, m2, i2, i3, i4⟩ := head_all (Nat.le_refl _) (agree.refl n1 ρ1) (fun _ _ => rfl) htok k1.b k1 e1 e2 e1 e2' hf.1 hf.2 s3 hacc hrf rfl rfl rfl
      generalize hNN : n1 + 1 + l1.length + l2.length + (lb ++ la ++ lr).length = NN at *
      generalize hND : n1 + 1 + l1.length + l2.length + (lb ++ la).length = ND at *
      generalize hNA : n1 + 1 + l1.length + l2.length + lb.length = NA at *
      generalize hdd : headD li.rds ND NN (headB li.bools (n1 + 1 + l1.length + l2.length) tmH) blH = d at *
      refine wpIn_loop_ghost (fun N a' w' => ∃ zs os m2, inB (b1 ++ b2 ++ (boolBds li.bools ++ accBds li.accs ++ rdBds li.rds)) zs ∧ I zs ∧ μ zs = N ∧ (os.length = li.rds.length ∧ ∀ z ∈ os, 0 ≤ z) ∧ (∀ b, b < (killL us bl).length → m2 b = m b) ∧
        R w0 (NN + li.rds.length) (updL (updL ρ1 (n1 + 1) zs) NN os) m2 (headA li.accs NA d.1 d.2).1 (headA li.accs NA d.1 d.2).2 a' w') (μ ((l1 ++ l2 ++ (lb ++ la ++ lr)).map (·.den ρ1))) ⟨_, os, m2, i1, hI0, rfl, hrf.len, i2, i4⟩ ?_
      rintro N a1 w1 ⟨zs, os1, m2, hz1, hz2, rfl, ⟨hz5, hz6⟩, hz3, hz4⟩
      have hbody := natsM_holds (allB_elim hB hz1 hz2) hz5 hz6
      refine he hd _ _ _ _ _ _ _ a1 w1 _ hz4 hbody fun x n' ρ' m' tm' bl' G' a' w' h1 h2 h3 h4 => ?_
      have hag1 : agree n1 ρ1 (updL ρ1 (n1 + 1) zs) := (agree.updL _ (n1 + 1) ρ1).mono (by omega)
      have hag0 : agree n1 ρ1 (updL (updL ρ1 (n1 + 1) zs) NN os1) := hag1.trans (agree.updL os1 NN _) (by omega)
      have hL0 : Later n1 bl.length ρ1 m (NN + li.rds.length) (headA li.accs NA d.1 d.2).2.length (updL (updL ρ1 (n1 + 1) zs) NN os1) m2 := ⟨by omega, hag0, by rw [k2] at i3; exact i3, fun b hb => hz3 b (by rw [k2]; exact hb)⟩
      have hA0 : AgA n1 G (G.set n1 fun vs => I vs ∧ μ vs < μ zs) := fun l hl => by
        unfold Again.set
        cases hb : Nat.beq l n1 with
        | true => have := Nat.eq_of_beq_eq_true hb; omega
        | false => rfl
      have hL := hL0.trans h1
      have hGn : G' n1 = fun vs => I vs ∧ μ vs < μ zs := by
        rw [h2 n1 (by omega)]
        unfold Again.set
        have : Nat.beq n1 n1 = true := Nat.beq_refl n1
        rw [this]; rfl
      cases x with
      | exit id => exact hk (.exit id) n' ρ' m' tm' bl' G' a' w' hL (hA0.trans h2 (by omega)) h3 h4
      | ret => exact hk .ret n' ρ' m' tm' bl' G' a' w' hL (hA0.trans h2 (by omega)) h3 h4
      | normal =>
        simp only at h4
        obtain ⟨ρ5, n5, tm', hn5, ha5, ht5, h4⟩ := fitM_snd (S := S) (L := L) h3.t G' _ h4
        have h35 := h3.later hn5 ha5
        have h3 : R w0 n5 ρ5 m' tm' bl' a' w' := ⟨ht5, h35.d, h35.b, h35.mm⟩
        have hL := hL.trans (⟨hn5, ha5, Nat.le_refl _, fun _ _ => rfl⟩ : Later n' bl'.length ρ' m' n5 bl'.length ρ5 m')
        obtain ⟨ρ'', n'', lb', hn2, ha2, ⟨t1, t2, t3⟩, h4⟩ := boolsM_snd (S := S) (L := L) h3.t G' _ h4
        have h3 := h3.later hn2 ha2
        split at h4
        rotate_left
        · exact h4.elim
        rename_i tmE v1 b1' la' us' lr' e3 eA' eD'
        obtain ⟨c1, c2, _, c4, c5⟩ := accE_spec h3 eA'
        obtain ⟨d1, d2, gs', os', d3⟩ := rdE_spec h3 eD'
        cases e4 : hb li.cells 0 (n1 + 1 + v1.length) (bl'.take bl.length) with
        | none => rw [e4] at h4; exact h4.elim
        | some q4 =>
          obtain ⟨blE, v2, b2'⟩ := q4
          rw [e4] at h4
          simp only at h4
          cases hf2 : (fitV tmH tmE && fitB blH blE) with
          | false => rw [hf2] at h4; exact h4.elim
          | true =>
            rw [hf2] at h4
            simp only [cond_true, T.holds, hGn] at h4
            simp only [Bool.and_eq_true] at hf2
            have hL2 := hL.trans (⟨hn2, ha2, Nat.le_refl _, fun _ _ => rfl⟩ : Later n5 bl'.length ρ5 m' n'' bl'.length ρ'' m')
            have hacc' : AccF w0 w' a'.tmps (fun g => (∀ (i : Nat) (p : Blk), i < (killL us bl).length → bl'[i]? = some p → m' i = g → kindC ρ'' p.1 = 0) ∧ ¬ ∃ (i : Nat) (p : Blk), bl'[i]? = some p ∧ m' i = g ∧ kindC ρ'' p.1 = 1) li.accs (la'.map (·.den ρ'')) := by
              refine c5 _ fun b p hb _ hbl hkb hord => ⟨fun i q hil hi he => ?_, fun ⟨i, q, hi, he, hk⟩ => ?_⟩
              · have hbn : bl.length ≤ b := by
                  rcases c4 b hb with h | h
                  · simp at h
                  · exact h
                rw [k2] at hil
                rcases h3.mm.inj i b q p hi hbl he with g3 | g3 | g3 | g3
                · omega
                · omega
                · exact g3
                · omega
              · rcases h3.mm.inj i b q p hi hbl he with g3 | g3 | g3 | g3
                · subst g3
                  rw [hi] at hbl; cases hbl
                  omega
                · omega
                · omega
                · omega
            obtain ⟨j1, m3, j2, j3, j4⟩ := head_all (NA := NA) (ND := ND) (NN := NN) (by rw [k2]; exact hL2.hb) hL2.ha (fun b hb => hL2.hm b (by rw [k2] at hb; exact hb)) htok k1.b h3 e1 e2 e3 (by rw [k2]; exact e4) hf2.1 hf2.2 t3 hacc' d3 (by have := t2; have := boolsM_len s2 t2; omega) (by have := boolsM_len s2 t2; simp only [List.length_append] at *; omega) (by have := boolsM_len s2 t2; simp only [List.length_append] at *; omega)
            rw [hdd] at j4
            exact ⟨_, h4.2, _, os', m3, j1, h4.1, rfl, d3.len, j2, j4⟩

theorem toL {ops : Array Oper} : ops.toList.toArray = ops := Array.toArray_toList

/-! ### Short regions whose order is open -/
theorem frO_len (N : Nat) : ∀ (i : Nat) (bl : List Blk), (frO N i bl).length = bl.length
  | _, [] => rfl
  | i, _ :: r => by simp [frO, frO_len N (i + 1) r]
theorem frO_get (N : Nat) : ∀ (i : Nat) (bl : List Blk) (k : Nat) (p : Blk), (frO N i bl)[k]? = some p → p = deadB ∨ (i + k < N ∧ isOrd p.1 = true ∧ bl[k]? = some p)
  | _, [], k, p, h => by simp [frO] at h
  | i, q :: r, 0, p, h => by
    simp only [frO, List.getElem?_cons_zero, Option.some.injEq] at h
    cases hc : (Nat.blt i N && isOrd q.1) with
    | false => rw [hc] at h; exact .inl h.symm
    | true =>
      rw [hc] at h
      simp only [cond_true] at h
      subst h
      simp only [Bool.and_eq_true] at hc
      exact .inr ⟨by simpa using blt_lt hc.1, hc.2, rfl⟩
  | i, q :: r, k + 1, p, h => by
    rcases frO_get N (i + 1) r k p (by simpa [frO] using h) with h1 | ⟨h1, h2, h3⟩
    · exact .inl h1
    · exact .inr ⟨by omega, h2, by simpa using h3⟩
theorem preB_get : ∀ {a b : List Blk}, preB a b = true → ∀ (k : Nat) (p : Blk), a[k]? = some p → b[k]? = some p
  | [], _, _, _, _, h => by simp at h
  | (c, t) :: r, (c', t') :: s, hf, k, p, h => by
    simp only [preB, Bool.and_eq_true] at hf
    obtain ⟨⟨⟨h1, h2⟩, h3⟩, h4⟩ := hf
    cases k with
    | zero =>
      have e1 := beqL_eq h1; have e2 := Nat.eq_of_beq_eq_true h2; have e3 : t.2 = t'.2 := by simpa using h3
      have : t = t' := Prod.ext e2 e3
      subst e1; subst this
      simpa using h
    | succ k => have := preB_get h4 k p (by simpa using h); simpa using this
  | _ :: _, [], h, _, _, _ => by simp [preB] at h
theorem Mem.sub {ρ ρ2 : Env} {m m2 : Nat → Nat} {bl bl2 : List Blk} {w : World} (h : Mem w0 ρ m bl w) (hs : ∀ (i : Nat) (p : Blk), bl2[i]? = some p → p = deadB ∨ (bl[i]? = some p ∧ isOrd p.1 = true ∧ m2 i = m i ∧ p.1.map (A.den ρ2 m2) = p.1.map (A.den ρ m))) : Mem w0 ρ2 m2 bl2 w := by
  have hk0 : kindC ρ2 deadB.1 = 0 := by simp [deadB, kindC]
  refine ⟨h.ext, h.hos, h.htape, h.hout, h.hsize, h.frm, fun i cs t hi ho => ?_, fun i sh off code cap kind t hi => ?_, fun i j p q hi hj he => ?_⟩
  · rcases hs i _ hi with h1 | ⟨h1, _, h3, h4⟩
    · cases h1; simp [isOrd] at ho
    · rw [h3, h4]; exact h.blk i cs t h1 ho
  · rcases hs i _ hi with h1 | ⟨_, h2, _, _⟩
    · cases h1; intro hk; exact absurd rfl hk
    · simp [isOrd] at h2
  · rcases hs i _ hi with h1 | ⟨h1, h2, h3, _⟩
    · subst h1; exact .inr (.inr (.inl hk0))
    · rcases hs j _ hj with g1 | ⟨g1, g2, g3, _⟩
      · subst g1; exact .inr (.inr (.inr hk0))
      · rcases h.inj i j p q h1 g1 (by rw [← h3, ← g3]; exact he) with h5 | h5 | h5 | h5
        · exact .inl h5
        · rw [kind_ord h2] at h5; omega
        · rw [kind_ord h2] at h5; cases h5
        · rw [kind_ord g2] at h5; cases h5
theorem BlOk.frO {n nb : Nat} {ρ : Env} {bl : List Blk} (h : BlOk n nb ρ bl) (N : Nat) : BlOk n nb ρ (Go.Rx.frO N 0 bl) := fun p hp => by
  obtain ⟨i, hi⟩ := List.mem_iff_getElem?.1 hp
  rcases frO_get N 0 bl i p hi with h1 | ⟨_, _, h3⟩
  · subst h1
    intro a ha
    simp only [deadB, List.mem_singleton] at ha
    subst ha
    exact ⟨⟨Lin.sc_const _ _, Lin.sc_const _ _, Lin.sc_const _ _⟩, ⟨by simp [Lin.den_const], by rw [Lin.den_const]; exact Int.le_trans (rc_nonneg []) (RB_c (by simp) (fun _ h => by cases h))⟩, by simp [Lin.den_const]⟩
  · exact h p (List.mem_of_getElem? h3)
theorem held_run {ops : Array Oper} {N : Nat} {tm : List V} {bl : List Blk} {o : Oper} {a : Act} {w : World} {v : Value} (ho : heldO N tm bl o = true) (h : QRes P o a w v) : (execOp a.eval o).run P w = .ok (.value v) w := by
  rcases h with h | ⟨f, args, h, _⟩
  · exact h
  · exfalso
    have key : ∀ s : Sem Value, (do pure (Next.value (← s)) : Sem Next).run P w = .ok (.enter f args) w → False := fun s hs => by
      simp only [Sem.run_bind] at hs
      cases hx : s.run P w with
      | ok u w' => rw [hx] at hs; simp at hs
      | halt x w' => rw [hx] at hs; simp at hs
    unfold heldO at ho
    split at ho
    · rename_i x hop; simp [execOp, hop] at h
    · rename_i x hop; simp [execOp, hop] at h
    · rename_i x i hop; exact key (Instr.extract (a.eval x) i) (by simpa [execOp, hop] using h)
    · rename_i s x i hop; exact key (Instr.fieldAt s (a.eval x) i) (by simpa [execOp, hop] using h)
    · rename_i t p hop; exact key (Instr.loadAt t (a.eval p)) (by simpa [execOp, hop] using h)
    · rename_i t x lo hi mx hop; exact key (Instr.sliceAt t (a.eval x) (lo.map a.eval) (hi.map a.eval) (mx.map a.eval)) (by simpa [execOp, hop] using h)
    · cases ho
theorem anyE_wp {ops : Array Oper} {Q : Exit → Act → World → Prop} {inl : Inl} (hcal : CalOk S P gl w0 cal) (hg : GOk gl w0) (hinl : InlOk S L w0 P inl) (hQ : ∀ c a w, ¬ Q (.panic c) a w)
    {N n0 : Nat} {bl0 : List Blk} {ρ0 : Env} {m0 : Nat → Nat} (hN : N ≤ bl0.length) (hb0 : BlOk n0 bl0.length ρ0 bl0) : ∀ (f : Nat) {listed : Array Bool} {n : Nat} {ρ : Env} {m : Nat → Nat} {tm : List V} {bl : List Blk} {a : Act} {w : World} {G : Again} {k : SK},
    R w0 n ρ m tm bl a w → Later n0 bl0.length ρ0 m0 n bl.length ρ m → (∀ (k : Nat) (p : Blk), (frO N 0 bl0)[k]? = some p → (frO N 0 bl)[k]? = some p) → (anyE P gl cal inl ops N (frO N 0 bl0) f listed n tm bl k).holds S L G ρ → SKok S L w0 k n bl.length ρ m G (Q .normal) → wpAnyH P .any ops Q (fun w => Mem w0 ρ0 m0 (frO N 0 bl0) w) f listed a w := by
  -- the class of worlds, from the state at hand and back
  have down : ∀ {n : Nat} {ρ : Env} {m : Nat → Nat} {bl : List Blk} {w : World}, Later n0 bl0.length ρ0 m0 n bl.length ρ m → (∀ (k : Nat) (p : Blk), (frO N 0 bl0)[k]? = some p → (frO N 0 bl)[k]? = some p) → Mem w0 ρ m bl w → Mem w0 ρ0 m0 (frO N 0 bl0) w := fun hl hp hm => by
    refine hm.sub fun i p hi => ?_
    rcases frO_get N 0 bl0 i p hi with h1 | ⟨h1, h2, h3⟩
    · exact .inl h1
    · refine .inr ?_
      rcases frO_get N 0 _ i p (hp i p hi) with g1 | ⟨_, _, g3⟩
      · subst g1; simp [deadB, isOrd] at h2
      · exact ⟨g3, h2, (hl.hm i (by omega)).symm, (map_den_ext (hb0 p (List.mem_of_getElem? h3)) hl.ha hl.hm).symm⟩
  have up : ∀ {n : Nat} {ρ : Env} {m : Nat → Nat} {bl : List Blk} {w : World}, Later n0 bl0.length ρ0 m0 n bl.length ρ m → (∀ (k : Nat) (p : Blk), (frO N 0 bl0)[k]? = some p → (frO N 0 bl)[k]? = some p) → Mem w0 ρ0 m0 (frO N 0 bl0) w → Mem w0 ρ m (frO N 0 bl) w := fun {n ρ m bl w} hl hp hm => by
    refine hm.sub fun i p hi => ?_
    rcases frO_get N 0 bl i p hi with h1 | ⟨h1, h2, h3⟩
    · exact .inl h1
    · refine .inr ?_
      have hlt : i < (frO N 0 bl0).length := by rw [frO_len]; omega
      have hq := hp i _ (List.getElem?_eq_getElem hlt)
      rw [hi] at hq
      have hq : p = (frO N 0 bl0)[i] := Option.some.inj hq
      have h0 : (frO N 0 bl0)[i]? = some p := by rw [List.getElem?_eq_getElem hlt, hq]
      rcases frO_get N 0 bl0 i p h0 with g1 | ⟨_, _, g3⟩
      · subst g1; simp [deadB, isOrd] at h2
      · exact ⟨h0, h2, hl.hm i (by omega), map_den_ext (hb0 p (List.mem_of_getElem? g3)) hl.ha hl.hm⟩
  intro f
  induction f with
  | zero =>
    intro listed n ρ m tm bl a w G k h hl hp hh hk
    unfold anyE at hh
    unfold wpAnyH
    split at hh
    · rename_i hr
      exact ⟨hr, hk n ρ m tm bl G a w (Later.refl _ _ _ _) (AgA.refl _ _) h hh⟩
    · exact hh.elim
  | succ f ih =>
    intro listed n ρ m tm bl a w G k h hl hp hh hk
    unfold anyE at hh
    split at hh
    · rename_i hr
      exact ⟨fun _ => hk n ρ m tm bl G a w (Later.refl _ _ _ _) (AgA.refl _ _) h hh, fun i hi => by rw [hr] at hi; cases hi⟩
    · rename_i l hl0
      split at hh
      · rename_i i hi
        unfold held1 at hi
        cases hns : Region.noSelect ops with
        | false => rw [hns] at hi; cases hi
        | true =>
        rw [hns, cond_true] at hi
        have hi2 := List.find?_some hi
        have hi1 := List.mem_of_find?_eq_some hi
        simp only [Bool.and_eq_true] at hi2
        cases ho : ops[i]? with
        | none => simp only [ho] at hh; exact hh.elim
        | some o =>
          simp only [ho] at hh
          have hfl : heldO N tm bl o = true := by have := hi2.1; simp only [ho] at this; exact this
          obtain ⟨tm', ht', hgd⟩ := guard_spec h.t hh
          have h : R w0 n ρ m tm' bl a w := ⟨ht', h.d, h.b, h.mm⟩
          have hS := down hl hp h.mm
          rcases hgd with ⟨hw, hh⟩ | ⟨hw, hh⟩
          · have hlen : (frO N 0 bl).length = bl.length := frO_len N 0 bl
            obtain ⟨ρ', n', v, hn', ha', ⟨hv, val, hr, hq⟩, hh'⟩ := qop_snd (L := L) (bl := frO N 0 bl) hcal (by rw [hlen]; exact h.b.frO N) hg ⟨w, up hl hp hS⟩ (by rw [hlen]; exact ht') o G _ hh
            rw [hlen] at hv
            have hy : YieldsIf P ops (fun w => Mem w0 ρ0 m0 (frO N 0 bl0) w) o val a := .inl ⟨hw, fun w' hw' => held_run (ops := ops) hfl (hq w' (up hl hp hw'))⟩
            refine wpAnyH_take ho hns hi2.2 (by simpa using hi1) (fun c a w hp => absurd hp (hQ _ _ _)) hy hS ?_
            have hlt : Later n bl.length ρ m n' bl.length ρ' m := ⟨hn', ha', Nat.le_refl _, fun _ _ => rfl⟩
            exact ih ⟨TRel.put (ht'.ext ha' hn' (Nat.le_refl _) (fun _ _ => rfl)) o.dst hv hr, by rw [put_defers]; exact h.d, h.b.ext ha' hn' (Nat.le_refl _), h.mm.rho h.b ha'⟩ (hl.trans hlt) hp hh' (hk.later hlt (AgA.refl _ _))
          · refine wpAnyH_take ho hns hi2.2 (by simpa using hi1) (fun c a w hp => absurd hp (hQ _ _ _)) (.inr ⟨hw, rfl⟩) hS ?_
            exact ih (h.skip o.dst) hl hp hh hk
      split at hh
      · rename_i i hi
        unfold off1 at hi
        cases hns : Region.noSelect ops with
        | false => rw [hns] at hi; cases hi
        | true =>
        rw [hns, cond_true] at hi
        have hi2 := List.find?_some hi
        have hi1 := List.mem_of_find?_eq_some hi
        simp only [Bool.and_eq_true] at hi2
        cases ho : ops[i]? with
        | none => simp only [ho] at hh; exact hh.elim
        | some o =>
          simp only [ho] at hh
          obtain ⟨tm', ht', hgd⟩ := guard_spec h.t hh
          have h : R w0 n ρ m tm' bl a w := ⟨ht', h.d, h.b, h.mm⟩
          have hS := down hl hp h.mm
          rcases hgd with ⟨_, hh⟩ | ⟨hw, hh⟩
          · exact hh.elim
          · refine wpAnyH_take ho hns hi2.2 (by simpa using hi1) (fun c a w hp => absurd hp (hQ _ _ _)) (.inr ⟨hw, rfl⟩) hS ?_
            exact ih (h.skip o.dst) hl hp hh hk
      unfold wpAnyH
      refine ⟨fun hr => absurd hr hl0, fun i hi => ?_⟩
      have hi2 := allT_holds hh i hi
      unfold wpOp
      cases ho : ops[i]? with
      | none => simp only [ho] at hi2; exact hi2.elim
      | some o =>
        simp only [ho] at hi2 ⊢
        obtain ⟨tm', ht', hgd⟩ := guard_spec h.t hi2
        have h : R w0 n ρ m tm' bl a w := ⟨ht', h.d, h.b, h.mm⟩
        rcases hgd with ⟨hw, hi3⟩ | ⟨hw, hi3⟩
        · rw [if_pos hw]
          refine .inl (stepE_wp hcal hg hinl h hi3 fun n' ρ' m' tm' bl' G' a' w' h1 h2 h3 h4 => ?_)
          cases hf : preB (frO N 0 bl0) (frO N 0 bl') with
          | false => rw [hf] at h4; exact h4.elim
          | true =>
            rw [hf, cond_true] at h4
            have hl' := hl.trans h1
            have hf := preB_get hf
            exact ⟨down hl' hf h3.mm, ih h3 hl' hf h4 (hk.later h1 h2)⟩
        · rw [if_neg (by simp [hw])]
          exact ⟨down hl hp h.mm, ih (h.skip o.dst) hl hp hi3 hk⟩

theorem codeE_wp {inl : Inl} {li : Nat → Option LoopI} {rounds : Nat} (hm : P.follows .mixedOrders = true) (hcal : CalOk S P gl w0 cal) (hg : GOk gl w0) (hinl : InlOk S L w0 P inl) : ∀ (c : Code), BodyOk rd S L w0 P c (codeE P gl cal inl li rounds c) := by
  intro c
  induction c with
  | skip => intro hd n tm bl k G ρ m a w Q h hh hk; exact wpIn_skip (hk .normal n ρ m tm bl G a w (Later.refl _ _ _ _) (AgA.refl _ _) h hh)
  | exit id => intro hd n tm bl k G ρ m a w Q h hh hk; exact wpIn_exit (hk (.exit id) n ρ m tm bl G a w (Later.refl _ _ _ _) (AgA.refl _ _) h hh)
  | ret => intro hd n tm bl k G ρ m a w Q h hh hk; exact wpIn_ret (hk .ret n ρ m tm bl G a w (Later.refl _ _ _ _) (AgA.refl _ _) h hh)
  | region id ops draw =>
    intro hd n tm bl k G ρ m a w Q h hh hk
    have hSK : SKok S L w0 (k .normal) n bl.length ρ m G (tame Q .normal) := fun n' ρ' m' tm' bl' G' a' w' h1 h2 h3 h4 => hk .normal n' ρ' m' tm' bl' G' a' w' h1 h2 h3 h4
    cases draw with
    | false =>
      simp only [codeE, cond_false] at hh
      refine region_in hd ?_
      exact opsE_wp hcal hg hinl ops.toList h hh hSK
    | true =>
      simp only [codeE, cond_true] at hh
      cases ht : (tailB ops (headN P cal ops) && zeroOk P (ops.toList.take (headN P cal ops))) with
      | false =>
        simp only [ht, cond_false] at hh
        cases hsz : Nat.ble (ops.toList.filter fun o => !looseO o).length 12 with
        | false => simp only [hsz, cond_false] at hh; exact hh.elim
        | true =>
          simp only [hsz, cond_true] at hh
          have hdrew : R w0 n ρ m tm bl a w.drew := ⟨h.t, h.d, h.b, h.mm.grow (World.Extends.drew (World.Extends.refl w))⟩
          refine region_any_in hm hd (wpAny_of_held (S := fun w => Mem w0 ρ m (frO (heldN ops bl) 0 bl) w) _ _ _ _ ?_)
          exact anyE_wp hcal hg hinl (fun c a w h => h) (N := heldN ops bl) (by unfold heldN; cases ops.toList.any isStO <;> simp) h.b ops.size hdrew (Later.refl _ _ _ _) (fun _ _ h => h) hh hSK
      | true =>
        simp only [ht, cond_true] at hh
        simp only [Bool.and_eq_true] at ht
        have hle : headN P cal ops ≤ ops.toList.length := by
          have h1 := ht.1
          simp only [tailB, Bool.and_eq_true] at h1
          simpa using Nat.le_of_ble_eq_true h1.1.1.2
        generalize headN P cal ops = hl0 at *
        have hdrew : R w0 n ρ m tm bl a w.drew := ⟨h.t, h.d, h.b, h.mm.grow (World.Extends.drew (World.Extends.refl w))⟩
        have key := wp_region_quiet_tail (P := P) (Q := tame Q) (a := a) (w := w) (l := ops.toList) (C := fun w' => Mem w0 ρ m bl w') hl0 (zeroObj P ops) hm (by rw [toL]; exact ht.1) (fun w' hw' => hdrew.mm.grow hw') (fun j o hj ho hal b w' => by
            have := zeroOk_run (l := ops.toList) (P := P) ht.2 hj ho hal b w'
            rw [toL] at this; exact this) (by
          rw [toL]
          refine headE_wp hcal hg h.b ⟨_, h.mm⟩ _ (Nat.le_refl _) (agree.refl _ _) h.t h.d hh fun n' ρ' tm' an h1 h2 h3 h4 h5 γ b w' hfin hEx hnw => ?_
          have hl : Later n bl.length ρ m n' bl.length ρ' m := ⟨h1, h2, Nat.le_refl _, fun _ _ => rfl⟩
          have hMw := (hdrew.mm.grow hEx).rho h.b h2
          refine allocsE_wp (S := S) (L := L) (w0 := w0) (P := P) (K := fun b w' => wpList P ops (calm (tame Q)) (ops.toList.drop hl0) b w') hfin hnw hdrew.mm.ext.size hdrew.mm.hsize (ops.toList.take hl0) 0 (fun j hj => ?_) (by simp; exact Nat.min_eq_left (by simpa using hle)) ⟨h3, h4, h.b.ext h2 h1 (Nat.le_refl _), hMw⟩ (fun kk p hkk hp => .inl ?_) rfl (fun t => ⟨fun ⟨j, o, hj, _⟩ => by omega, fun _ => rfl⟩) h5 (fun n'' ρ'' m'' tm'' bl'' G'' a'' w'' k1 k2 k3 k4 => opsE_wp hcal hg hinl _ k3 k4 ((hSK.later hl (AgA.refl _ _)).later k1 k2)) h4
          · have hj' : j < hl0 := by simp at hj; omega
            rw [List.getElem?_take, if_pos hj']; simp
          · rw [kindC_agree (h.b _ (List.mem_of_getElem? hkk)) h2] at hp
            exact hdrew.mm.lt hkk hp)
        rw [toL] at key
        exact region_any_in hm hd key
  | seq x y ihx ihy =>
    intro hd n tm bl k G ρ m a w Q h hh hk
    have hd1 : rd = none ∨ noDef x = true := hd.imp id fun h => by simp only [noDef, Bool.and_eq_true] at h; exact h.1
    have hd2 : rd = none ∨ noDef y = true := hd.imp id fun h => by simp only [noDef, Bool.and_eq_true] at h; exact h.2
    refine wpIn_seq (ihx hd1 n tm bl _ G ρ m a w _ h hh fun x n' ρ' m' tm' bl' G' a' w' h1 h2 h3 h4 => ?_)
    cases x with
    | normal => exact ihy hd2 n' tm' bl' k G' ρ' m' a' w' Q h3 h4 (hk.later h1 h2)
    | exit id => exact hk (.exit id) n' ρ' m' tm' bl' G' a' w' h1 h2 h3 h4
    | ret => exact hk .ret n' ρ' m' tm' bl' G' a' w' h1 h2 h3 h4
  | cond x y z ihy ihz =>
    intro hd n tm bl k G ρ m a w Q h hh hk
    simp only [codeE] at hh
    have hx := opV_spec h.t x
    split at hh
    · rename_i b hb
      rw [hb] at hx
      have hxr : a.eval x = .bool (b.den ρ) := hx.2
      have hd1 : rd = none ∨ noDef y = true := hd.imp id fun h => by simp only [noDef, Bool.and_eq_true] at h; exact h.1
      have hd2 : rd = none ∨ noDef z = true := hd.imp id fun h => by simp only [noDef, Bool.and_eq_true] at h; exact h.2
      refine wpIn_cond hxr ?_
      split at hh
      · rename_i v
        cases v with
        | true => simp only [cond_true] at hh; exact ihy hd1 n tm bl k G ρ m a w Q h hh hk
        | false => simp only [cond_false] at hh; exact ihz hd2 n tm bl k G ρ m a w Q h hh hk
      · simp only [T.holds] at hh
        cases hd : BE.den ρ b with
        | true => exact ihy hd1 n _ bl k G ρ m a w Q ⟨subB_spec' hd h.t, h.d, h.b, h.mm⟩ (hh.1 (by simpa using hd)) hk
        | false => exact ihz hd2 n _ bl k G ρ m a w Q ⟨subB_spec' hd h.t, h.d, h.b, h.mm⟩ (hh.2 (by simpa using hd)) hk
    · exact hh.elim
  | block id x ih =>
    intro hd n tm bl k G ρ m a w Q h hh hk
    refine wpIn_block (ih hd n tm bl _ G ρ m a w _ h hh fun x n' ρ' m' tm' bl' G' a' w' h1 h2 h3 h4 => ?_)
    cases x with
    | normal => exact hk .normal n' ρ' m' tm' bl' G' a' w' h1 h2 h3 h4
    | ret => exact hk .ret n' ρ' m' tm' bl' G' a' w' h1 h2 h3 h4
    | exit id' =>
      simp only at h4
      simp only [X.to, Exit.inBlock]
      cases hb : Nat.beq id' id with
      | true =>
        simp only [hb, cond_true] at h4
        rw [if_pos (Nat.eq_of_beq_eq_true hb)]
        exact hk .normal n' ρ' m' tm' bl' G' a' w' h1 h2 h3 h4
      | false =>
        simp only [hb, cond_false] at h4
        rw [if_neg (fun e => by subst e; rw [show Nat.beq id' id' = true from Nat.beq_refl id'] at hb; cases hb)]
        exact hk (.exit id') n' ρ' m' tm' bl' G' a' w' h1 h2 h3 h4
  | loop x ih =>
    intro hd n tm bl k G ρ m a w Q h hh hk
    simp only [codeE] at hh
    split at hh
    · exact loop_wp (c := x) hd ih h hh hk
    · exact wpIn_loop_rounds rounds (rounds_wp (c := x) hd ih rounds h hh hk)
  | _ => intro hd n tm bl k G ρ m a w Q h hh hk; exact hh.elim

/-! ### Results, calls -/
def resF (a : Act) : ResultVar → Sem Value
  | .tmp t => Pure.pure (a.tmps.getD t undef)
  | .cell x t => do loadVar t (← asAddr (a.tmps.getD x undef))
theorem resW_spec {n : Nat} {ρ : Env} {m : Nat → Nat} {bl : List Blk} {tm : List V} {a : Act} {w : World} {r : ResultVar} {u : W} (hg : GOk gl w0) (h : R w0 n ρ m tm bl a w) (hr : resW P gl bl tm r = some u) :
    u.ok n bl.length ρ ∧ (resF a r).run P w = .ok (u.den ρ m) w := by
  cases r with
  | tmp t =>
    simp only [resW] at hr
    cases ht : tm[t]? with
    | none => simp [ht] at hr
    | some v =>
      obtain ⟨h1, x, h2, h3⟩ := h.t.2 t v ht
      simp only [ht] at hr
      cases v with
      | w u' =>
        simp only [Option.some.injEq] at hr
        subst hr
        refine ⟨h1, ?_⟩
        have : a.tmps.getD t undef = u'.den ρ m := by simp [h2]; exact h3
        simp only [resF, this]; rfl
      | _ => simp at hr
  | cell x t =>
    simp only [resW] at hr
    cases ht : tm[x]? with
    | none => simp [ht] at hr
    | some v =>
      obtain ⟨h1, y, h2, h3⟩ := h.t.2 x v ht
      simp only [ht] at hr
      cases v with
      | tup l => simp at hr
      | any => simp at hr
      | osl _ _ _ => simp at hr
      | clo _ _ => simp at hr
      | w q =>
        cases q with
        | agg l => simp at hr
        | one p =>
          simp only at hr
          have hy : a.tmps.getD x undef = p.den ρ m := by simp [h2]; exact h3
          cases hc : cellsAt bl gl p with
          | none => simp [hc] at hr
          | some cs =>
            obtain ⟨g, o, hp, hok, hcell⟩ := cellsAt_spec h.mm h.b hg hc
            simp only [resF, hy, hp]
            cases hagg : isAggB P t with
            | none => simp [hc, hagg] at hr
            | some b =>
              cases b with
              | true =>
                cases hs : szB P t with
                | none => simp [hc, hagg, hs] at hr
                | some k =>
                  simp only [hc, hagg, hs] at hr
                  cases hk : Nat.ble k cs.length with
                  | false => simp [hk] at hr
                  | true =>
                    simp only [hk, cond_true, Option.some.injEq] at hr
                    subst hr
                    have hk := Nat.le_of_ble_eq_true hk
                    refine ⟨fun a h => hok a (List.mem_of_mem_take h), ?_⟩
                    have hl := run_loadCells_list (P := P) w ⟨g, o, none⟩ ((cs.take k).map (A.den ρ m)) fun j v hj => by
                      rw [addr_add]
                      rw [List.getElem?_map] at hj
                      cases hq : (cs.take k)[j]? with
                      | none => simp [hq] at hj
                      | some a =>
                        simp only [hq, Option.map_some, Option.some.injEq] at hj
                        subst hj
                        refine hcell j a ?_
                        rw [List.getElem?_take] at hq
                        split at hq
                        · exact hq
                        · cases hq
                    simp only [List.length_map, List.length_take, Nat.min_eq_left hk] at hl
                    simp [asAddr, loadVar, run_isAggB hagg, run_szB hs, hl, W.den]
              | false =>
                cases cs with
                | nil => simp [hc, hagg] at hr
                | cons z r =>
                  simp only [hc, hagg, Option.some.injEq] at hr
                  subst hr
                  refine ⟨hok z (by simp), ?_⟩
                  have := hcell 0 z rfl
                  simp only [Nat.add_zero] at this
                  simp [asAddr, loadVar, run_isAggB hagg, this, W.den]

theorem resL_spec {n : Nat} {ρ : Env} {m : Nat → Nat} {bl : List Blk} {tm : List V} {a : Act} {w : World} (hg : GOk gl w0) (h : R w0 n ρ m tm bl a w) : ∀ {rs : List ResultVar} {l : List W}, resL P gl bl tm rs = some l →
    (∀ u ∈ l, W.ok n bl.length ρ u) ∧ (rs.mapM (m := Sem) (resF a)).run P w = .ok (l.map (W.den ρ m)) w
  | [], l, hr => by simp [resL] at hr; subst hr; exact ⟨by simp, by simp⟩
  | r :: s, l, hr => by
    simp only [resL] at hr
    cases h1 : resW P gl bl tm r with
    | none => simp [h1] at hr
    | some u =>
      cases h2 : resL P gl bl tm s with
      | none => simp [h1, h2] at hr
      | some l' =>
        simp only [h1, h2, Option.some.injEq] at hr
        subst hr
        have e1 := resW_spec hg h h1
        have e2 := resL_spec hg h h2
        refine ⟨fun x hx => by rcases List.mem_cons.1 hx with rfl | hx; exact e1.1; exact e2.1 x hx, ?_⟩
        rw [List.mapM_cons, Sem.run_bind]
        simp only [e1.2, e2.2, Result.andThen_ok, Sem.run_bind, Sem.run_pure, List.map_cons]

theorem resE_spec {fn : Func} {n : Nat} {ρ : Env} {m : Nat → Nat} {bl : List Blk} {tm : List V} {a : Act} {w : World} {k : RK} {G : Again} (hg : GOk gl w0) (h : R w0 n ρ m tm bl a w) (hh : (resE P gl fn n tm bl k).holds S L G ρ) :
    ∃ v val, V.ok n bl.length ρ v ∧ v.rel ρ m val ∧ (results fn a.tmps).run P w = .ok val w ∧ (k n v bl).holds S L G ρ := by
  unfold resE at hh
  cases hr : resL P gl bl tm fn.results.toList with
  | none =>
    simp only [hr] at hh
    cases ho : oneR tm fn.results.toList with
    | none => simp [ho, T.holds] at hh
    | some v =>
      simp only [ho] at hh
      obtain ⟨t, e, hv⟩ : ∃ t, fn.results.toList = [.tmp t] ∧ tm[t]? = some v := by
        unfold oneR at ho
        split at ho
        · rename_i t he
          refine ⟨t, he, ?_⟩
          split at ho <;> first | (cases ho; assumption) | cases ho
        · cases ho
      obtain ⟨h1, x, h2, h3⟩ := h.t.2 t v hv
      refine ⟨v, x, h1, h3, ?_, hh⟩
      have er : fn.results = #[.tmp t] := by rw [← Array.toArray_toList (xs := fn.results), e]
      have ex : a.tmps.getD t undef = x := by simp [h2]
      have e : results fn a.tmps = (do let vs ← fn.results.mapM (resF a); Pure.pure (if h : vs.size = 1 then vs[0] else .tuple vs)) := by
        unfold results
        congr 1
      rw [e, er, Array.mapM_eq_mapM_toList]
      simp [Sem.run_bind, Sem.run_map, Result.andThen_ok, resF, h2]
  | some l =>
    obtain ⟨h1, h2⟩ := resL_spec hg h hr
    have hrun : (results fn a.tmps).run P w = .ok (if h : (l.map (W.den ρ m)).toArray.size = 1 then (l.map (W.den ρ m)).toArray[0] else .tuple (l.map (W.den ρ m)).toArray) w := by
      have e : results fn a.tmps = (do let vs ← fn.results.mapM (resF a); Pure.pure (if h : vs.size = 1 then vs[0] else .tuple vs)) := by
        unfold results
        congr 1
      rw [e, Array.mapM_eq_mapM_toList]
      simp only [Sem.run_bind, Sem.run_map, Result.andThen_ok, h2, Sem.run_pure]
    simp only [hr] at hh
    split at hh
    · rename_i u heq
      have heq := Option.some.inj heq
      subst heq
      exact ⟨.w u, _, h1 u (by simp), rfl, by rw [hrun]; simp, hh⟩
    · rename_i l' hne heq
      have heq := Option.some.inj heq
      subst heq
      refine ⟨.tup l, _, h1, rfl, ?_, hh⟩
      rw [hrun, dif_neg]
      intro hs
      simp at hs
      match l, hs, hne with
      | [u], _, hne => exact hne u rfl
    · rename_i heq; cases heq

theorem LRel_len {ρ : Env} {m : Nat → Nat} : ∀ {vs : List V} {xs : List Value}, LRel ρ m vs xs → vs.length = xs.length
  | [], [], _ => rfl
  | _ :: _, _ :: _, h => by simp [LRel_len h.2]
  | [], _ :: _, h => h.elim
  | _ :: _, [], h => h.elim
theorem LR_args {n nb : Nat} {ρ : Env} {m : Nat → Nat} (k : Nat) : ∀ {vs : List V} {xs : List Value}, (∀ v ∈ vs, V.ok n nb ρ v) → LRel ρ m vs xs → LR n nb ρ m (vs ++ replV k) (xs ++ List.replicate k undef)
  | [], [], _, _ => by
    simp only [List.nil_append]
    induction k with
    | zero => trivial
    | succ k ih => exact ⟨by intro x hx; simp at hx, rfl, ih⟩
  | v :: r, x :: s, h, hr => ⟨h v (by simp), hr.1, LR_args k (fun u hu => h u (List.mem_cons_of_mem _ hu)) hr.2⟩
  | [], _ :: _, _, h => h.elim
  | _ :: _, [], _, h => h.elim

theorem bodyE_ok (hds : w0.ds = []) {li : FuncId → Nat → Option LoopI} {rounds : Nat} {inl : Inl} (hm : P.follows .mixedOrders = true) (hcal : CalOk S P gl w0 cal) (hg : GOk gl w0) (ih : InlOk S L w0 P inl) : InlOk S L w0 P (bodyE P gl cal inl li rounds) := by
    intro f n vs bl k G ρ m w xs R' hb hmem hvs hrel hh hk
    unfold bodyE at hh
    cases hf : P.funcs[f]? with
    | none => simp [hf, T.holds] at hh
    | some fn =>
      cases hbody : fn.body with
      | none => simp [hf, hbody, T.holds] at hh
      | some c =>
        simp only [hf, hbody] at hh
        cases hc : (!(fn.name == "runtime.NumGoroutine") && Nat.ble vs.length fn.ntmps) with
        | false => simp [hc, T.holds] at hh
        | true =>
          simp only [hc, cond_true] at hh
          simp only [Bool.and_eq_true, Bool.not_eq_true'] at hc
          have hlen := LRel_len hrel
          refine ⟨?_, calls_of_wp hf hbody ?_⟩
          · have h1 : ¬ fn.name = "runtime.NumGoroutine" := by have := hc.1; simpa using this
            simp [callFunc, hf, hbody, h1]
          · have hR : R w0 n ρ m (vs ++ replV (fn.ntmps - vs.length)) bl { tmps := xs.toArray ++ Array.replicate (fn.ntmps - xs.toArray.size) undef, defers := [] } w := by
              refine ⟨?_, hds.symm, hb, hmem⟩
              have := TRel_of_LR (LR_args (fn.ntmps - vs.length) hvs hrel)
              have e : (xs ++ List.replicate (fn.ntmps - vs.length) undef).toArray = xs.toArray ++ Array.replicate (fn.ntmps - xs.toArray.size) undef := by
                simp [hlen]
              rw [e] at this
              exact this
            refine wpIn_wide.1 (codeE_wp (rd := none) hm hcal hg ih c (.inl rfl) n _ bl _ G ρ m _ w _ hR hh fun x n' ρ' m' tm' bl' G' a' w' h1 h2 h3 h4 => ?_)
            cases x with
            | exit id => exact h4.elim
            | normal =>
              obtain ⟨v, val, p1, p2, p3, p4⟩ := resE_spec hg h3 h4
              exact ⟨h3.d.trans hds, val, p3, hk n' v bl' G' ρ' m' w' val h1 h2 p1 p2 h3.b h3.mm p4⟩
            | ret =>
              obtain ⟨v, val, p1, p2, p3, p4⟩ := resE_spec hg h3 h4
              exact ⟨h3.d.trans hds, val, p3, hk n' v bl' G' ρ' m' w' val h1 h2 p1 p2 h3.b h3.mm p4⟩

theorem callE_ok (hds : w0.ds = []) {li : FuncId → Nat → Option LoopI} {rounds : Nat} (hm : P.follows .mixedOrders = true) (hcal : CalOk S P gl w0 cal) (hg : GOk gl w0) : ∀ d, InlOk S L w0 P (callE P gl cal li rounds d)
  | 0 => fun f n vs bl k G ρ m w xs R' _ _ _ _ hh _ => hh.elim
  | d + 1 => bodyE_ok hds hm hcal hg (callE_ok hds hm hcal hg d)
/-- What is known of functions that hand back slices. -/
def BcOk (S : Nat → List Int → List Int → Prop) (L : V → Env → Prop) (w0 : Base) (P : Program) (bc : BC) : Prop :=
  ∀ f g, bc f = some g → ∀ n vs bl k G ρ m w xs R', BlOk n (List.length bl) ρ bl → Mem w0 ρ m bl w → (∀ v ∈ vs, V.ok n bl.length ρ v) → LRel ρ m vs xs → (g n vs bl k).holds S L G ρ → RKok S L w0 k n bl.length ρ m G R' →
    (callFunc f xs.toArray).run P w = .ok (.enter f xs.toArray) w ∧ Calls P f xs.toArray w R'
theorem orB_ok {bc : BC} {inl : Inl} (hbc : BcOk S L w0 P bc) (h : InlOk S L w0 P inl) : InlOk S L w0 P (orB bc inl) := by
  intro f n vs bl k G ρ m w xs R' h1 h2 h3 h4 h5 h6
  unfold orB at h5
  cases hf : bc f with
  | none => rw [hf] at h5; exact h f n vs bl k G ρ m w xs R' h1 h2 h3 h4 h5 h6
  | some g => rw [hf] at h5; exact hbc f g hf n vs bl k G ρ m w xs R' h1 h2 h3 h4 h5 h6
theorem callB_ok (hds : w0.ds = []) {bc : BC} {li : FuncId → Nat → Option LoopI} {rounds : Nat} (hm : P.follows .mixedOrders = true) (hcal : CalOk S P gl w0 cal) (hg : GOk gl w0) (hbc : BcOk S L w0 P bc) : ∀ d, InlOk S L w0 P (callB bc P gl cal li rounds d)
  | 0 => fun f n vs bl k G ρ m w xs R' _ _ _ _ hh _ => hh.elim
  | d + 1 => bodyE_ok hds hm hcal hg (orB_ok hbc (callB_ok hds hm hcal hg hbc d))

/-- A call, by its tree: what the leaf says of the result, and of the blocks that were handed in. -/
theorem Mem.extends {b w w' : World} {ρ : Env} {m : Nat → Nat} {bl : List Blk} (h : Mem ⟨b, w, fun _ => False, fun _ => False, []⟩ ρ m bl w') : w.Extends w' := by
  have hblk : ∀ i : Nat, i < w.heap.size → w'.heap[i]? = w.heap[i]? := fun i hi => h.frm i hi id
  exact ⟨h.hos, h.htape, h.hout, h.hsize, fun a ha => by simp only [World.cell?, hblk a.block ha], fun a ha => by simp only [World.frozen?, hblk a.block ha], hblk⟩
theorem calls_of_tree {b w : World} {li : FuncId → Nat → Option LoopI} {rounds d : Nat} (hm : P.follows .mixedOrders = true) (hcal : CalOk S P gl ⟨b, w, fun _ => False, fun _ => False, []⟩ cal) (hg : GOk gl ⟨b, w, fun _ => False, fun _ => False, []⟩) (f : FuncId) (n : Nat) (vs : List V) (ρ : Env) (xs : List Value) (he : b.Extends w)
    (hvs : ∀ v ∈ vs, V.ok n 0 ρ v) (hrel : LRel ρ (fun _ => 0) vs xs) (hh : (callE P gl cal li rounds d f n vs [] fun n' v _ => .leaf v).holds S (fun v ρ' => L v ρ') (fun _ _ => False) ρ) :
    Calls P f xs.toArray w fun e w' => ∃ v ρ' m val nb, e = .returned val ∧ v.rel ρ' m val ∧ (∃ n', V.ok n' nb ρ' v) ∧ L v ρ' ∧ w.Extends w' := by
  have hmem : Mem ⟨b, w, fun _ => False, fun _ => False, []⟩ ρ (fun _ => 0) [] w := ⟨he, rfl, rfl, rfl, Nat.le_refl _, fun _ _ _ => rfl, fun i cs t h => by simp at h, fun i sh off code cap kind t h => by simp at h, fun i j p q h => by simp at h⟩
  refine (callE_ok rfl (L := L) (li := li) (rounds := rounds) hm hcal hg d f n vs [] (fun n' v _ => .leaf v) (fun _ _ => False) ρ (fun _ => 0) w xs _ (fun p hp => by simp at hp) hmem hvs hrel hh ?_).2
  intro n' v bl' G' ρ' m' w' val h1 h2 h3 h4 h5 h6 h7
  exact ⟨v, ρ', m', val, _, rfl, h4, ⟨n', h3⟩, h7, h6.extends⟩
end
end Go.Rx

/- Contracts: calls answered by what is known of them; the sums and products of words. -/
set_option linter.unusedVariables false
set_option linter.unusedSimpArgs false
namespace Go.Rx
open M

def CK.sym (s : Nat) : CK → A
  | int k lo hi => .int k ⟨.var s, lo, hi⟩
  | str => .str (.var s)
  | bool => .bool (.eq (.var s) (.const 1))
/-- The shape of a value made of integers and truth values (a truth value: 0 or 1). -/
inductive D where
  | str
  | int (k : IntKind) (lo hi : Int)
  | bool
  | agg (k : IntKind) (n : Nat) (lo hi : Int)
  | mix (l : List CK)
  | strk (l : List UInt8)
  | ik (k : IntKind) (c : Int)
def repB (lo hi : Int) : Nat → List (Int × Int)
  | 0 => []
  | n + 1 => (lo, hi) :: repB lo hi n
noncomputable def D.bds : D → List (Int × Int)
  | str => [(0, HB)]
  | int _ lo hi => [(lo, hi)]
  | bool => [(0, 1)]
  | agg _ n lo hi => repB lo hi n
  | mix l => l.map CK.bd
  | strk _ => []
  | ik .. => []
def D.num : D → Nat
  | str => 1
  | int .. => 1
  | bool => 1
  | agg _ n _ _ => n
  | mix l => l.length
  | strk _ => 0
  | ik .. => 0
def D.val : D → List Int → Value
  | str, zs => .string (bA (sOf (zs.getD 0 0)))
  | int k _ _, zs => .int k (zs.getD 0 0)
  | bool, zs => .bool (decide (zs.getD 0 0 = 1))
  | agg k n _ _, zs => .agg ((zs.take n).map (.int k)).toArray
  | mix l, zs => .agg (List.zipWith CK.val l zs).toArray
  | strk l, _ => .string (bA (kL l))
  | ik k c, _ => .int k c
/-- The same with unknowns from n on. -/
def repA (k : IntKind) (lo hi : Int) : Nat → Nat → List A
  | _, 0 => []
  | s, n + 1 => .int k ⟨.var s, lo, hi⟩ :: repA k lo hi (s + 1) n
def mixA : Nat → List CK → List A
  | _, [] => []
  | s, c :: r => c.sym s :: mixA (s + 1) r
def D.sym (s : Nat) : D → W
  | str => .one (.str (.var s))
  | int k lo hi => .one (.int k ⟨.var s, lo, hi⟩)
  | bool => .one (.bool (.eq (.var s) (.const 1)))
  | agg k n lo hi => .agg (repA k lo hi s n)
  | mix l => .agg (mixA s l)
  | strk l => .one (.str (.const (cOf (kL l))))
  | ik k c => .one (.int k (IV.const c))
noncomputable def bdsL : List D → List (Int × Int)
  | [] => []
  | d :: r => d.bds ++ bdsL r
def valL : List D → List Int → List Value
  | [], _ => []
  | d :: r, zs => d.val zs :: valL r (zs.drop d.num)
def symL : Nat → List D → List W
  | _, [] => []
  | s, d :: r => d.sym s :: symL (s + d.num) r

theorem inB_len : ∀ {b : List (Int × Int)} {l : List Int}, inB b l → l.length = b.length
  | [], [], _ => rfl
  | _ :: _, _ :: _, h => by simp [inB_len h.2.2]
  | [], _ :: _, h => h.elim
  | _ :: _, [], h => h.elim
theorem repB_len (lo hi : Int) : ∀ n, (repB lo hi n).length = n
  | 0 => rfl
  | n + 1 => by simp [repB, repB_len lo hi n]
theorem D.bds_len (d : D) : d.bds.length = d.num := by cases d <;> simp [D.bds, D.num, repB_len]
theorem inB_split : ∀ {b b' : List (Int × Int)} {l : List Int}, inB (b ++ b') l → inB b (l.take b.length) ∧ inB b' (l.drop b.length)
  | [], _, _, h => ⟨trivial, h⟩
  | _ :: _, _, _ :: _, h => by
    have ih := inB_split h.2.2
    exact ⟨⟨h.1, h.2.1, ih.1⟩, ih.2⟩
  | _ :: _, _, [], h => h.elim

/-- At the environment where the unknowns from s on are zs. -/
def At (ρ : Env) (s : Nat) (zs : List Int) : Prop := ∀ j, j < zs.length → ρ (s + j) = zs.getD j 0
theorem At.updL (ρ : Env) (s : Nat) (zs : List Int) : At (updL ρ s zs) s zs := fun j hj => updL_ge zs s ρ j hj
theorem At.tail {ρ : Env} {s : Nat} {z : Int} {zs : List Int} (h : At ρ s (z :: zs)) : ρ s = z ∧ At ρ (s + 1) zs := by
  refine ⟨by simpa using h 0 (by simp), fun j hj => ?_⟩
  have := h (j + 1) (by simpa using hj)
  rw [show s + 1 + j = s + (j + 1) by omega, this]; simp
theorem At.drop {ρ : Env} {s : Nat} {zs : List Int} (h : At ρ s zs) (k : Nat) : At ρ (s + k) (zs.drop k) := fun j hj => by
  have := h (k + j) (by simp at hj; omega)
  rw [show s + k + j = s + (k + j) by omega, this]
  simp [List.getD]

theorem repA_spec {ρ : Env} {m : Nat → Nat} {N nb : Nat} {k : IntKind} {lo hi : Int} : ∀ (n s : Nat) (zs : List Int), inB (repB lo hi n) (zs.take n) → At ρ s zs → s + n ≤ N →
    (∀ a ∈ repA k lo hi s n, A.ok N nb ρ a) ∧ (repA k lo hi s n).map (A.den ρ m) = (zs.take n).map (.int k)
  | 0, s, zs, _, _, _ => by simp [repA]
  | n + 1, s, [], h, _, _ => by simp [repB, inB] at h
  | n + 1, s, z :: zs, h, ha, hN => by
    have ht := ha.tail
    simp only [repB, List.take_succ_cons, inB] at h
    obtain ⟨h1, h2⟩ := repA_spec (m := m) (nb := nb) (k := k) (N := N) n (s + 1) zs h.2.2 ht.2 (by omega)
    refine ⟨fun a hm => ?_, by simp only [repA, List.map_cons, A.den, Lin.den_var, ht.1, h2, List.take_succ_cons]⟩
    rcases List.mem_cons.1 hm with rfl | hm
    · exact ⟨Lin.sc_var (by omega), by simp only [Lin.den_var, ht.1]; exact h.1, by simp only [Lin.den_var, ht.1]; exact h.2.1⟩
    · exact h1 a hm
theorem CK.sym_spec {ρ : Env} {m : Nat → Nat} {N nb : Nat} (c : CK) {s : Nat} {z : Int} (h0 : c.bd.1 ≤ z) (h1 : z ≤ c.bd.2) (hz : ρ s = z) (hN : s < N) : (c.sym s).ok N nb ρ ∧ (c.sym s).den ρ m = c.val z := by
  cases c with
  | int k lo hi => exact ⟨⟨Lin.sc_var hN, by simp only [Lin.den_var, hz]; exact h0, by simp only [Lin.den_var, hz]; exact h1⟩, by simp [CK.sym, CK.val, A.den, Lin.den_var, hz]⟩
  | str => exact ⟨⟨Lin.sc_var hN, by rw [Lin.den_var, hz]; exact h0, by rw [Lin.den_var, hz]; exact h1⟩, by simp [CK.sym, CK.val, A.den, Lin.den_var, hz]⟩
  | bool => exact ⟨⟨Lin.sc_var hN, Lin.sc_const _ _⟩, by simp [CK.sym, CK.val, A.den, BE.den, Lin.den_var, Lin.den_const, hz]⟩
theorem mixA_spec {ρ : Env} {m : Nat → Nat} {N nb : Nat} : ∀ (l : List CK) (s : Nat) (zs : List Int), inB (l.map CK.bd) (zs.take l.length) → At ρ s zs → s + l.length ≤ N →
    (∀ a ∈ mixA s l, A.ok N nb ρ a) ∧ (mixA s l).map (A.den ρ m) = List.zipWith CK.val l zs
  | [], s, zs, _, _, _ => by simp [mixA]
  | _ :: _, s, [], h, _, _ => by simp [inB] at h
  | c :: r, s, z :: zs, h, ha, hN => by
    have ht := ha.tail
    simp only [List.map_cons, List.length_cons, List.take_succ_cons, inB] at h
    obtain ⟨h1, h2⟩ := mixA_spec (m := m) (nb := nb) (N := N) r (s + 1) zs h.2.2 ht.2 (by simp at hN; omega)
    have hc := c.sym_spec (m := m) (nb := nb) (N := N) h.1 h.2.1 ht.1 (by simp at hN; omega)
    refine ⟨fun a hm => ?_, by simp only [mixA, List.map_cons, hc.2, h2, List.zipWith_cons_cons]⟩
    rcases List.mem_cons.1 hm with rfl | hm
    · exact hc.1
    · exact h1 a hm
theorem D.sym_spec {ρ : Env} {m : Nat → Nat} {N nb : Nat} (d : D) {s : Nat} {zs : List Int} (h : inB d.bds (zs.take d.num)) (ha : At ρ s zs) (hN : s + d.num ≤ N) : (d.sym s).ok N nb ρ ∧ (d.sym s).den ρ m = d.val zs := by
  cases d with
  | str =>
    cases zs with
    | nil => simp [D.bds, inB] at h
    | cons z r =>
      have ht := ha.tail
      simp only [D.bds, D.num, List.take_succ_cons, inB] at h
      simp only [D.num] at hN
      exact ⟨⟨Lin.sc_var (by omega), by rw [Lin.den_var, ht.1]; exact h.1, by rw [Lin.den_var, ht.1]; exact h.2.1⟩, by simp [D.sym, W.den, A.den, D.val, Lin.den_var, ht.1]⟩
  | int k lo hi =>
    cases zs with
    | nil => simp [D.bds, inB] at h
    | cons z r =>
      have ht := ha.tail
      simp only [D.bds, D.num, List.take_succ_cons, inB] at h
      simp only [D.num] at hN
      exact ⟨⟨Lin.sc_var (by omega), by simp only [Lin.den_var, ht.1]; exact h.1, by simp only [Lin.den_var, ht.1]; exact h.2.1⟩, by simp [D.sym, W.den, A.den, D.val, Lin.den_var, ht.1]⟩
  | bool =>
    cases zs with
    | nil => simp [D.bds, inB] at h
    | cons z r =>
      have ht := ha.tail
      simp only [D.num] at hN
      exact ⟨⟨Lin.sc_var (by omega), Lin.sc_const _ _⟩, by simp [D.sym, W.den, A.den, D.val, BE.den, Lin.den_var, Lin.den_const, ht.1]⟩
  | agg k n lo hi =>
    have := repA_spec (m := m) (nb := nb) (k := k) n s zs h ha hN
    exact ⟨this.1, by simp only [D.sym, W.den, D.val, this.2]⟩
  | mix l =>
    have := mixA_spec (m := m) (nb := nb) l s zs h ha hN
    exact ⟨this.1, by simp only [D.sym, W.den, D.val, this.2]⟩
  | strk l => exact ⟨⟨Lin.sc_const _ _, by rw [Lin.den_const]; exact kL_HB l⟩, by simp [D.sym, W.den, A.den, D.val, Lin.den_const, sOf_cOf]⟩
  | ik k c => exact ⟨IV.const_ok _ _ c, by simp [D.sym, W.den, A.den, D.val, IV.const, Lin.den_const]⟩
theorem symL_spec {ρ : Env} {m : Nat → Nat} {N nb : Nat} : ∀ (ds : List D) {s : Nat} {zs : List Int}, inB (bdsL ds) zs → At ρ s zs → s + (bdsL ds).length ≤ N → (∀ u ∈ symL s ds, W.ok N nb ρ u) ∧ (symL s ds).map (W.den ρ m) = valL ds zs
  | [], s, zs, _, _, _ => by simp [symL, valL]
  | d :: r, s, zs, h, ha, hN => by
    have hs := inB_split h
    rw [D.bds_len] at hs
    simp only [bdsL, List.length_append, D.bds_len] at hN
    have h1 := d.sym_spec (m := m) (nb := nb) hs.1 ha (N := N) (by omega)
    have h2 := symL_spec (m := m) (nb := nb) (N := N) r hs.2 (ha.drop d.num) (by omega)
    exact ⟨fun u hu => by rcases List.mem_cons.1 hu with rfl | hu; exact h1.1; exact h2.1 u hu, by simp [symL, valL, h1.2, h2.2]⟩

/-- What a call's results look like. -/
def resV (ds : List D) (s : Nat) : V := match symL s ds with | [u] => .w u | l => .tup l
def resVal (ds : List D) (zs : List Int) : Value := match valL ds zs with | [x] => x | l => .tuple l.toArray

/-- Arguments against a shape: the linear forms. -/
def fitI (lo hi : Int) (x : IV) : Bool := decide (lo ≤ x.lo) && decide (x.hi ≤ hi)
def flatA (k : IntKind) (lo hi : Int) : List A → Option (List Lin)
  | [] => some []
  | .int k' x :: r => cond (decide (k = k') && fitI lo hi x) (match flatA k lo hi r with | some l => some (x.l :: l) | none => none) none
  | _ :: _ => none
/-- A cell against a shape. -/
def CK.fit : CK → A → Option Lin
  | int k lo hi, .int k' x => cond (decide (k = k') && fitI lo hi x) (some x.l) none
  | str, .str l => some l
  | bool, .bool (.lit b) => some (.const (cond b 1 0))
  | _, _ => none
def flatM : List CK → List A → Option (List Lin)
  | [], [] => some []
  | c :: r, a :: s => match c.fit a, flatM r s with | some x, some l => some (x :: l) | _, _ => none
  | _, _ => none
def flatD : D → V → Option (List Lin)
  | .int k lo hi, .w (.one (.int k' x)) => cond (decide (k = k') && fitI lo hi x) (some [x.l]) none
  | .agg k n lo hi, .w (.agg l) => cond (Nat.beq l.length n) (flatA k lo hi l) none
  | .mix l, .w (.agg s) => flatM l s
  | .str, .w (.one (.str l)) => some [l]
  | .bool, .w (.one (.bool (.lit b))) => some [.const (cond b 1 0)]
  | .strk l, .w (.one (.str x)) => match x.isC with | some c => cond (decide (c = cOf (kL l))) (some []) none | none => none
  | .ik k c, .w (.one (.int k' x)) => match x.l.isC with | some d => cond (decide (k = k') && decide (d = c)) (some []) none | none => none
  | _, _ => none
def flatL : List D → List V → Option (List Lin)
  | [], [] => some []
  | d :: r, v :: s => match flatD d v, flatL r s with | some a, some b => some (a ++ b) | _, _ => none
  | _, _ => none
theorem fitI_spec {n : Nat} {ρ : Env} {lo hi : Int} {x : IV} (h : fitI lo hi x = true) (hx : x.ok n ρ) : lo ≤ x.l.den ρ ∧ x.l.den ρ ≤ hi := by
  simp only [fitI, Bool.and_eq_true, decide_eq_true_eq] at h
  have := hx.2; omega
theorem flatA_spec {n nb : Nat} {ρ : Env} {m : Nat → Nat} {k : IntKind} {lo hi : Int} : ∀ {l : List A} {r : List Lin}, flatA k lo hi l = some r → (∀ a ∈ l, A.ok n nb ρ a) → r.length = l.length ∧ inB (repB lo hi l.length) (r.map (·.den ρ)) ∧ l.map (A.den ρ m) = (r.map (·.den ρ)).map (.int k)
  | [], r, h, _ => by simp [flatA] at h; subst h; exact ⟨rfl, trivial, rfl⟩
  | .int k' x :: s, r, h, hok => by
    simp only [flatA] at h
    cases hc : (decide (k = k') && fitI lo hi x) with
    | false => simp [hc] at h
    | true =>
      simp only [hc, cond_true] at h
      simp only [Bool.and_eq_true, decide_eq_true_eq] at hc
      cases hr : flatA k lo hi s with
      | none => simp [hr] at h
      | some r' =>
        simp only [hr, Option.some.injEq] at h
        subst h
        obtain ⟨h1, h2, h3⟩ := flatA_spec (m := m) hr fun a ha => hok a (List.mem_cons_of_mem _ ha)
        have hx : x.ok n ρ := hok (.int k' x) (by simp)
        have hf := fitI_spec hc.2 hx
        exact ⟨by simp [h1], ⟨hf.1, hf.2, h2⟩, by simp only [List.map_cons, h3, A.den, hc.1]⟩
  | .bool _ :: _, _, h, _ => by simp [flatA] at h
  | .ptr .. :: _, _, h, _ => by simp [flatA] at h
  | .pix .. :: _, _, h, _ => by simp [flatA] at h
  | .gptr .. :: _, _, h, _ => by simp [flatA] at h
  | .slc .. :: _, _, h, _ => by simp [flatA] at h
  | .con _ :: _, _, h, _ => by simp [flatA] at h
  | .str _ :: _, _, h, _ => by simp [flatA] at h
theorem CK.fit_spec {n nb : Nat} {ρ : Env} {m : Nat → Nat} {c : CK} {a : A} {l : Lin} (h : c.fit a = some l) (hok : a.ok n nb ρ) : (c.bd.1 ≤ l.den ρ ∧ l.den ρ ≤ c.bd.2) ∧ a.den ρ m = c.val (l.den ρ) := by
  unfold CK.fit at h
  split at h
  · rename_i k lo hi k' x
    cases hc : (decide (k = k') && fitI lo hi x) with
    | false => simp [hc] at h
    | true =>
      simp only [hc, cond_true, Option.some.injEq] at h
      subst h
      simp only [Bool.and_eq_true, decide_eq_true_eq] at hc
      exact ⟨fitI_spec hc.2 hok, by simp only [A.den, CK.val, hc.1]⟩
  · simp only [Option.some.injEq] at h; subst h
    exact ⟨hok.2, rfl⟩
  · rename_i b
    simp only [Option.some.injEq] at h; subst h
    cases b <;> simp [CK.bd, CK.val, A.den, BE.den, Lin.den_const]
  · cases h
theorem flatM_spec {n nb : Nat} {ρ : Env} {m : Nat → Nat} : ∀ {d : List CK} {l : List A} {r : List Lin}, flatM d l = some r → (∀ a ∈ l, A.ok n nb ρ a) → r.length = d.length ∧ inB (d.map CK.bd) (r.map (·.den ρ)) ∧ l.map (A.den ρ m) = List.zipWith CK.val d (r.map (·.den ρ))
  | [], [], r, h, _ => by simp [flatM] at h; subst h; exact ⟨rfl, trivial, rfl⟩
  | c :: d, a :: s, r, h, hok => by
    simp only [flatM] at h
    cases hx : c.fit a with
    | none => simp [hx] at h
    | some x =>
      cases hr : flatM d s with
      | none => simp [hx, hr] at h
      | some r' =>
        simp only [hx, hr, Option.some.injEq] at h
        subst h
        obtain ⟨h1, h2, h3⟩ := flatM_spec (m := m) hr fun a ha => hok a (List.mem_cons_of_mem _ ha)
        have hf := CK.fit_spec (m := m) hx (hok a (by simp))
        exact ⟨by simp [h1], ⟨hf.1.1, hf.1.2, h2⟩, by simp only [List.map_cons, h3, hf.2, List.zipWith_cons_cons]⟩
  | [], _ :: _, _, h, _ => by simp [flatM] at h
  | _ :: _, [], _, h, _ => by simp [flatM] at h
theorem strk_den {n : Nat} {ρ : Env} {l : List UInt8} {x : Lin} {c : Int} (hc : x.isC = some c) (h : c = cOf (kL l)) : sOf (x.den ρ) = kL l := by rw [Lin.den_isC hc, h, sOf_cOf]
theorem flatD_spec {n nb : Nat} {ρ : Env} {m : Nat → Nat} {d : D} {v : V} {r : List Lin} {x : Value} (h : flatD d v = some r) (hok : v.ok n nb ρ) (hx : v.rel ρ m x) : r.length = d.num ∧ inB d.bds (r.map (·.den ρ)) ∧ ∀ zs, d.val ((r.map (·.den ρ)) ++ zs) = x := by
  unfold flatD at h
  split at h
  · rename_i k lo hi k' y
    cases hc : (decide (k = k') && fitI lo hi y) with
    | false => simp [hc] at h
    | true =>
      simp only [hc, cond_true, Option.some.injEq] at h
      subst h
      simp only [Bool.and_eq_true, decide_eq_true_eq] at hc
      have hf := fitI_spec hc.2 hok
      simp only [V.rel, W.den, A.den] at hx
      exact ⟨rfl, ⟨hf.1, hf.2, trivial⟩, fun zs => by simp [D.val, hx, hc.1]⟩
  · rename_i k n' lo hi l
    cases hc : Nat.beq l.length n' with
    | false => simp [hc] at h
    | true =>
      simp only [hc, cond_true] at h
      have hl := Nat.eq_of_beq_eq_true hc
      subst hl
      obtain ⟨h1, h2, h3⟩ := flatA_spec (m := m) h hok
      simp only [V.rel, W.den] at hx
      exact ⟨h1, h2, fun zs => by rw [hx, h3]; simp only [D.val]; rw [List.take_append_of_le_length (by simp [h1]), List.take_of_length_le (by simp [h1])]⟩
  · rename_i l s
    obtain ⟨h1, h2, h3⟩ := flatM_spec (m := m) h hok
    simp only [V.rel, W.den] at hx
    refine ⟨h1, h2, fun zs => ?_⟩
    rw [hx, h3]
    simp only [D.val]
    congr 2
    have key : ∀ (a : List CK) (b c : List Int), b.length = a.length → List.zipWith CK.val a (b ++ c) = List.zipWith CK.val a b := by
      intro a
      induction a with
      | nil => intro b c _; simp
      | cons p a ih =>
        intro b c hb
        cases b with
        | nil => simp at hb
        | cons z b => simp [ih b c (by simpa using hb)]
    exact key _ _ _ (by simp [h1])
  · rename_i l
    simp only [Option.some.injEq] at h; subst h
    simp only [V.rel, W.den, A.den] at hx
    exact ⟨rfl, ⟨hok.2.1, hok.2.2, trivial⟩, fun zs => by rw [hx]; rfl⟩
  · rename_i b
    simp only [Option.some.injEq] at h; subst h
    simp only [V.rel, W.den, A.den, BE.den] at hx
    cases b <;> exact ⟨rfl, by simp [D.bds, inB, Lin.den_const], fun zs => by rw [hx]; simp [D.val, Lin.den_const]⟩
  · rename_i l y
    cases hc : y.isC with
    | none => simp [hc] at h
    | some c =>
      simp only [hc] at h
      cases hd : decide (c = cOf (kL l)) with
      | false => simp [hd] at h
      | true =>
        simp only [hd, cond_true, Option.some.injEq] at h
        subst h
        have hd : c = cOf (kL l) := by simpa using hd
        refine ⟨rfl, trivial, fun zs => ?_⟩
        have hx : x = .string (bA (sOf (y.den ρ))) := hx
        rw [hx, strk_den (n := n) hc hd]; rfl
  · rename_i k c k' y
    cases hc : y.l.isC with
    | none => simp [hc] at h
    | some d =>
      simp only [hc] at h
      cases hd : (decide (k = k') && decide (d = c)) with
      | false => simp [hd] at h
      | true =>
        simp only [hd, cond_true, Option.some.injEq] at h
        subst h
        simp only [Bool.and_eq_true, decide_eq_true_eq] at hd
        refine ⟨rfl, trivial, fun zs => ?_⟩
        have hx : x = .int k' (y.l.den ρ) := hx
        rw [hx, Lin.den_isC hc, ← hd.1, hd.2]; rfl
  · cases h
theorem flatL_spec {n nb : Nat} {ρ : Env} {m : Nat → Nat} : ∀ {ds : List D} {vs : List V} {r : List Lin} {xs : List Value}, flatL ds vs = some r → (∀ v ∈ vs, V.ok n nb ρ v) → LRel ρ m vs xs → inB (bdsL ds) (r.map (·.den ρ)) ∧ valL ds (r.map (·.den ρ)) = xs
  | [], [], r, [], h, _, _ => by simp [flatL] at h; subst h; exact ⟨trivial, rfl⟩
  | d :: ds, v :: vs, r, x :: xs, h, hok, hr => by
    simp only [flatL] at h
    cases h1 : flatD d v with
    | none => simp [h1] at h
    | some a =>
      cases h2 : flatL ds vs with
      | none => simp [h1, h2] at h
      | some b =>
        simp only [h1, h2, Option.some.injEq] at h
        subst h
        obtain ⟨p1, p2, p3⟩ := flatD_spec (m := m) h1 (hok v (by simp)) hr.1
        obtain ⟨q1, q2⟩ := flatL_spec h2 (fun u hu => hok u (List.mem_cons_of_mem _ hu)) hr.2
        refine ⟨by rw [List.map_append]; exact inB_append p2 q1, ?_⟩
        rw [List.map_append]
        simp only [valL, p3]
        rw [show d.num = (a.map (·.den ρ)).length by simp [p1], List.drop_left, q2]
  | [], _ :: _, _, _, h, _, _ => by simp [flatL] at h
  | _ :: _, [], _, _, h, _, _ => by simp [flatL] at h
  | [], [], _, _ :: _, _, _, hr => hr.elim
  | _ :: _, _ :: _, _, [], _, _, hr => hr.elim

/-- A contract: the function, its number among the contracts, the shapes. -/
structure Con where
  f : FuncId
  id : Nat
  args : List D
  res : List D
def Con.Ok (P : Program) (wb : World) (c : Con) (spec : List Int → List Int → Prop) : Prop :=
  (∀ args w, (callFunc c.f args).run P w = .ok (.enter c.f args) w) ∧
  ∀ zs, inB (bdsL c.args) zs → ∃ rs, inB (bdsL c.res) rs ∧ spec zs rs ∧ ∀ w, wb.Extends w → Calls P c.f (valL c.args zs).toArray w fun e w' => e = .returned (resVal c.res rs) ∧ w.Extends w'
/-- Arguments, where truth values are told by new unknowns. -/
noncomputable def flatDI (d : D) (v : V) : M (List Lin) :=
  match d, v with
  | .bool, .w (.one (.bool e)) => bind (indM e) fun l => pure [l]
  | .mix l, .w (.agg s) => rowLinM l s
  | .int k lo hi, .w (.one (.int k' x)) => cond (decide (k = k')) (cond (fitI lo hi x) (pure [x.l]) (bind (chkM 39 [x.l, .const lo, .const hi]) fun _ => pure [x.l])) fail
  | d, v => match flatD d v with | some r => pure r | none => fail
noncomputable def flatLI : List D → List V → M (List Lin)
  | [], [] => pure []
  | d :: r, v :: s => bind (flatDI d v) fun a => bind (flatLI r s) fun b => pure (a ++ b)
  | _, _ => fail
noncomputable def Con.M (c : Con) : List Blk → List V → M V := fun _ vs n k =>
  match flatL c.args vs with
  | some l => .call c.id l n (bdsL c.res) (k (resV c.res n) (n + (bdsL c.res).length))
  | none => flatLI c.args vs n fun l n => .call c.id l n (bdsL c.res) (k (resV c.res n) (n + (bdsL c.res).length))
section
variable {S : Nat → List Int → List Int → Prop} {L : V → Env → Prop}
theorem flatA_sc {k : IntKind} {lo hi : Int} {n nb : Nat} {ρ : Env} : ∀ {l : List A} {r : List Lin}, flatA k lo hi l = some r → (∀ a ∈ l, A.ok n nb ρ a) → ∀ x ∈ r, Lin.sc n x
  | [], r, h, _ => by simp [flatA] at h; subst h; intro x hx; simp at hx
  | a :: s, r, h, hok => by
    cases a with
    | int k' x =>
      simp only [flatA] at h
      cases hc : (decide (k = k') && fitI lo hi x) with
      | false => simp [hc] at h
      | true =>
        cases hr : flatA k lo hi s with
        | none => simp [hc, hr] at h
        | some r' =>
          simp only [hc, hr, cond_true, Option.some.injEq] at h
          subst h
          intro y hy
          rcases List.mem_cons.1 hy with hy | hy
          · rw [hy]
            have h0 : A.ok n nb ρ (.int k' x) := hok _ (List.mem_cons_self ..)
            have h0 : x.ok n ρ := h0
            exact h0.1
          · exact flatA_sc hr (fun a ha => hok a (List.mem_cons_of_mem _ ha)) y hy
    | _ => simp [flatA] at h
theorem flatM_sc {n nb : Nat} {ρ : Env} : ∀ {d : List CK} {l : List A} {r : List Lin}, flatM d l = some r → (∀ a ∈ l, A.ok n nb ρ a) → ∀ x ∈ r, Lin.sc n x
  | [], [], r, h, _ => by simp [flatM] at h; subst h; intro x hx; simp at hx
  | c :: d, a :: s, r, h, hok => by
    simp only [flatM] at h
    cases hx : c.fit a with
    | none => simp [hx] at h
    | some x =>
      cases hr : flatM d s with
      | none => simp [hx, hr] at h
      | some r' =>
        simp only [hx, hr, Option.some.injEq] at h
        subst h
        intro y hy
        rcases List.mem_cons.1 hy with hy | hy
        · subst hy
          have h0 := hok a (by simp)
          unfold CK.fit at hx
          split at hx
          · rename_i k lo hi k' z
            cases hc : (decide (k = k') && fitI lo hi z) with
            | false => simp [hc] at hx
            | true =>
              simp only [hc, cond_true, Option.some.injEq] at hx
              subst hx
              have h0 : z.ok n ρ := h0
              exact h0.1
          · simp only [Option.some.injEq] at hx; subst hx
            exact h0.1
          · simp only [Option.some.injEq] at hx; subst hx
            exact Lin.sc_const _ _
          · cases hx
        · exact flatM_sc hr (fun a ha => hok a (List.mem_cons_of_mem _ ha)) y hy
  | [], _ :: _, _, h, _ => by simp [flatM] at h
  | _ :: _, [], _, h, _ => by simp [flatM] at h
theorem flatD_sc {n nb : Nat} {ρ : Env} {d : D} {v : V} {r : List Lin} (h : flatD d v = some r) (hok : v.ok n nb ρ) : ∀ x ∈ r, Lin.sc n x := by
  unfold flatD at h
  split at h
  · rename_i k lo hi k' y
    cases hc : (decide (k = k') && fitI lo hi y) with
    | false => simp [hc] at h
    | true =>
      simp only [hc, cond_true, Option.some.injEq] at h
      subst h
      have h0 : y.ok n ρ := hok
      intro x hx
      simp at hx; subst hx
      exact h0.1
  · rename_i k n' lo hi l
    cases hc : Nat.beq l.length n' with
    | false => simp [hc] at h
    | true =>
      simp only [hc, cond_true] at h
      exact flatA_sc h hok
  · exact flatM_sc h hok
  · simp only [Option.some.injEq] at h; subst h
    intro x hx
    simp at hx; subst hx
    exact hok.1
  · simp only [Option.some.injEq] at h; subst h
    intro x hx
    simp at hx; subst hx
    exact Lin.sc_const _ _
  · rename_i l y
    cases hc : y.isC with
    | none => simp [hc] at h
    | some c =>
      simp only [hc] at h
      cases hd : decide (c = cOf (kL l)) with
      | false => simp [hd] at h
      | true =>
        simp only [hd, cond_true, Option.some.injEq] at h
        subst h
        intro x hx; simp at hx
  · rename_i k c k' y
    cases hc : y.l.isC with
    | none => simp [hc] at h
    | some d =>
      simp only [hc] at h
      cases hd : (decide (k = k') && decide (d = c)) with
      | false => simp [hd] at h
      | true =>
        simp only [hd, cond_true, Option.some.injEq] at h
        subst h
        intro x hx; simp at hx
  · cases h
theorem RowOk.inZ : ∀ {sh : List CK} {zs : List Int}, RowOk sh zs → inB (sh.map CK.bd) zs ∧ List.zipWith CK.val sh zs = rowV sh zs
  | [], [], _ => ⟨trivial, rfl⟩
  | c :: sh, z :: zs, h => ⟨⟨h.1.1, h.1.2, (RowOk.inZ h.2).1⟩, by simp [rowV, (RowOk.inZ h.2).2]⟩
  | [], _ :: _, h => h.elim
  | _ :: _, [], h => h.elim
theorem zipWith_app {f : CK → Int → Value} : ∀ (a : List CK) (b c : List Int), b.length = a.length → List.zipWith f a (b ++ c) = List.zipWith f a b
  | [], b, c, _ => by simp
  | _ :: a, [], c, h => by simp at h
  | _ :: a, z :: b, c, h => by simp [zipWith_app a b c (by simpa using h)]
theorem flatDI_snd {d : D} {v : V} {X : Value} {n nb : Nat} {ρ : Env} {m : Nat → Nat} (hv : v.ok n nb ρ) (hX : v.rel ρ m X) : Snd S L (flatDI d v) n ρ fun ρ' n' ls => (∀ x ∈ ls, Lin.sc n' x) ∧ ls.length = d.num ∧ inB d.bds (ls.map (·.den ρ')) ∧ ∀ zs, d.val ((ls.map (·.den ρ')) ++ zs) = X := by
  unfold flatDI
  split
  · rename_i e
    have hX : X = .bool (e.den ρ) := hX
    exact indM_snd.bind fun ρ1 n1 l hn ha ⟨g1, g2, g3⟩ => Snd.pure ⟨fun x hx => by simp at hx; subst hx; exact g1, rfl, ⟨g2.1, g2.2, trivial⟩, fun zs => by rw [hX, g3]; rfl⟩
  · rename_i l s
    have hX : X = .agg (s.map (A.den ρ m)).toArray := hX
    refine (rowLinM_snd (nb := nb) (m := m) hv).mono fun ρ1 n1 ls hn ha ⟨g1, g2, g3⟩ => ?_
    have h1 := RowOk.inZ g2
    have h2 := g2.len
    refine ⟨g1, by simpa [D.num] using h2, h1.1, fun zs => ?_⟩
    rw [hX, ← g3, ← h1.2]
    simp only [D.val]
    rw [zipWith_app _ _ _ (by simpa using h2)]
  · rename_i k lo hi k' x
    have hX : X = .int k' (x.l.den ρ) := hX
    have hv : x.ok n ρ := hv
    refine snd_guard fun hk => ?_
    have hk := of_decide_eq_true hk
    subst hk
    cases hf : fitI lo hi x with
    | true =>
      have := fitI_spec hf hv
      exact Snd.pure ⟨fun y hy => by simp at hy; subst hy; exact hv.1, rfl, ⟨this.1, this.2, trivial⟩, fun zs => by rw [hX]; rfl⟩
    | false =>
      refine chkM_snd fun hc => Snd.pure ?_
      simp only [List.map_cons, List.map_nil, chkD, Lin.den_const] at hc
      exact ⟨fun y hy => by simp at hy; subst hy; exact hv.1, rfl, ⟨hc.1, hc.2, trivial⟩, fun zs => by rw [hX]; rfl⟩
  · split
    · rename_i hf
      obtain ⟨p1, p2, p3⟩ := flatD_spec (m := m) hf hv hX
      exact Snd.pure ⟨flatD_sc hf hv, p1, p2, p3⟩
    · exact Snd.fail
theorem LRel.ext {n nb : Nat} {ρ ρ' : Env} {m m' : Nat → Nat} : ∀ {vs : List V} {xs : List Value}, LRel ρ m vs xs → (∀ v ∈ vs, V.ok n nb ρ v) → agree n ρ ρ' → (∀ b, b < nb → m' b = m b) → LRel ρ' m' vs xs
  | [], [], _, _, _, _ => trivial
  | v :: vs, x :: xs, h, hok, ha, hm => ⟨V.rel.ext h.1 (hok v (by simp)) ha hm, LRel.ext h.2 (fun u hu => hok u (List.mem_cons_of_mem _ hu)) ha hm⟩
  | [], _ :: _, h, _, _, _ => h.elim
  | _ :: _, [], h, _, _, _ => h.elim
theorem flatLI_snd {nb : Nat} {m : Nat → Nat} : ∀ {ds : List D} {vs : List V} {xs : List Value} {n : Nat} {ρ : Env}, (∀ v ∈ vs, V.ok n nb ρ v) → LRel ρ m vs xs → Snd S L (flatLI ds vs) n ρ fun ρ' n' ls => (∀ x ∈ ls, Lin.sc n' x) ∧ inB (bdsL ds) (ls.map (·.den ρ')) ∧ valL ds (ls.map (·.den ρ')) = xs
  | [], [], [], n, ρ, _, _ => Snd.pure ⟨fun _ h => by simp at h, trivial, rfl⟩
  | d :: ds, v :: vs, x :: xs, n, ρ, hok, hr => by
    unfold flatLI
    refine (flatDI_snd (nb := nb) (hok v (by simp)) hr.1).bind fun ρ1 n1 a hn1 ha1 ⟨p0, p1, p2, p3⟩ => (flatLI_snd (ds := ds) (vs := vs) (fun u hu => (hok u (List.mem_cons_of_mem _ hu)).ext ha1 hn1 (Nat.le_refl _)) (LRel.ext hr.2 (fun u hu => hok u (List.mem_cons_of_mem _ hu)) ha1 (fun _ _ => rfl))).bind fun ρ2 n2 b hn2 ha2 ⟨q0, q1, q2⟩ => Snd.pure ⟨fun y hy => ?_, ?_, ?_⟩
    · rcases List.mem_append.1 hy with hy | hy
      · exact (p0 y hy).mono hn2
      · exact q0 y hy
    · have e : a.map (·.den ρ2) = a.map (·.den ρ1) := List.map_congr_left fun y hy => Lin.den_agree ha2 (p0 y hy)
      rw [List.map_append, e]; exact inB_append p2 q1
    · have e : a.map (·.den ρ2) = a.map (·.den ρ1) := List.map_congr_left fun y hy => Lin.den_agree ha2 (p0 y hy)
      rw [List.map_append, e]
      simp only [valL, p3]
      rw [show d.num = (a.map (·.den ρ1)).length by simp [p1], List.drop_left, q2]
  | [], _ :: _, _, _, _, _, _ => Snd.fail
  | _ :: _, [], _, _, _, _, _ => Snd.fail
  | [], [], _ :: _, _, _, _, hr => hr.elim
  | _ :: _, _ :: _, [], _, _, _, hr => hr.elim
end

section
variable {S : Nat → List Int → List Int → Prop} {P : Program} {gl : Glo} {w0 : Base}
theorem callL {L : V → Env → Prop} {id : Nat} {l : List Lin} {n : Nat} {bds : List (Int × Int)} {r : T} {G : Again} {ρ : Env} (h : (T.call id l n bds r).holds S L G ρ) {rs : List Int} (hi : inB bds rs) (hs : S id (l.map (·.den ρ)) rs) : r.holds S L G (updL ρ n rs) :=
  allB_elim h hi hs
theorem resV_spec {ρ : Env} {m : Nat → Nat} {N nb : Nat} {ds : List D} {s : Nat} {zs : List Int} (h : inB (bdsL ds) zs) (ha : At ρ s zs) (hN : s + (bdsL ds).length ≤ N) : (resV ds s).ok N nb ρ ∧ (resV ds s).rel ρ m (resVal ds zs) := by
  have hs := symL_spec (m := m) (nb := nb) ds h ha hN
  unfold resV resVal
  rw [← hs.2]
  split
  · rename_i u heq
    rw [heq] at hs
    rw [heq]
    exact ⟨hs.1 u (by simp), rfl⟩
  · rename_i l hne
    refine ⟨hs.1, ?_⟩
    split
    · rename_i x heq
      have : ∃ u, symL s ds = [u] := by
        cases hl : symL s ds with
        | nil => rw [hl] at heq; simp at heq
        | cons u r =>
          cases r with
          | nil => exact ⟨u, rfl⟩
          | cons _ _ => rw [hl] at heq; simp at heq
      obtain ⟨u, hu⟩ := this
      exact absurd hu (hne u)
    · rfl

/-- The same, of a function with a body or without one. -/
def Con.OkF (P : Program) (wb : World) (c : Con) (spec : List Int → List Int → Prop) : Prop :=
  ∀ zs, inB (bdsL c.args) zs → ∃ rs, inB (bdsL c.res) rs ∧ spec zs rs ∧ ∀ w, wb.Extends w → FRes P c.f (valL c.args zs).toArray w (resVal c.res rs)
theorem Con.Ok.f {wb : World} {c : Con} {spec : List Int → List Int → Prop} (h : c.Ok P wb spec) : c.OkF P wb spec := fun zs hz => by
  obtain ⟨rs, h1, h2, h3⟩ := h.2 zs hz
  exact ⟨rs, h1, h2, fun w hw => .inr ⟨h.1 _ _, h3 w hw⟩⟩
theorem Con.snd {c : Con} {spec : List Int → List Int → Prop} (hc : c.OkF P w0.b spec) (hS : ∀ zs rs, spec zs rs → S c.id zs rs) (L : V → Env → Prop) (n : Nat) (ρ : Env) (m : Nat → Nat) (bl : List Blk) (vs : List V) (xs : List Value)
    (hvs : ∀ v ∈ vs, V.ok n bl.length ρ v) (hr : LRel ρ m vs xs) : Snd S L (c.M bl vs) n ρ fun ρ' n' v => v.ok n' bl.length ρ' ∧ ∃ val, v.rel ρ' m val ∧ ∀ w, Mem w0 ρ m bl w → FRes P c.f xs.toArray w val := by
  intro G k hk
  unfold Con.M at hk
  cases hl : flatL c.args vs with
  | none =>
    simp only [hl] at hk
    obtain ⟨ρ1, n1, l, hn1, ha1, ⟨_, h1, h2⟩, hk⟩ := flatLI_snd (S := S) (L := L) (nb := bl.length) hvs hr G _ hk
    obtain ⟨rs, r1, r2, r3⟩ := hc _ h1
    have hh := callL hk r1 (hS _ _ r2)
    have hlen := inB_len r1
    have hres := resV_spec (m := m) (nb := bl.length) (N := n1 + (bdsL c.res).length) r1 (At.updL ρ1 n1 rs) (Nat.le_refl _)
    refine ⟨_, _, _, Nat.le_trans hn1 (Nat.le_add_right _ _), ha1.trans (agree.updL rs n1 ρ1) hn1, ⟨hres.1, _, hres.2, fun w hw => ?_⟩, hh⟩
    rw [h2] at r3
    exact r3 w hw.ext
  | some l =>
    simp only [hl] at hk
    obtain ⟨h1, h2⟩ := flatL_spec hl hvs hr
    obtain ⟨rs, r1, r2, r3⟩ := hc _ h1
    have hh := callL hk r1 (hS _ _ r2)
    have hlen := inB_len r1
    have hres := resV_spec (m := m) (nb := bl.length) (N := n + (bdsL c.res).length) r1 (At.updL ρ n rs) (Nat.le_refl _)
    refine ⟨_, _, _, Nat.le_add_right _ _, agree.updL rs n ρ, ⟨hres.1, _, hres.2, fun w hw => ?_⟩, hh⟩
    rw [h2] at r3
    exact r3 w hw.ext

/-! ### Words: math/bits -/
/-- 'Mul64'. -/
def mul64M : List Blk → List V → M V := fun _ vs =>
  match vs with
  | [.w (.one (.int .u64 x)), .w (.one (.int .u64 y))] =>
    cond (decide (0 ≤ x.lo) && decide (x.hi < 18446744073709551616) && decide (0 ≤ y.lo) && decide (y.hi < 18446744073709551616)) (bind (mulM x y) fun p => bind (divM p 18446744073709551616) fun q =>
      pure (.tup [.one (.int .u64 q), .one (.int .u64 ⟨p.l.sub (q.l.smul 18446744073709551616), 0, 18446744073709551615⟩)])) fail
  | _ => fail
/-- 'Add64', 'Sub64'. -/
def add64M : List Blk → List V → M V := fun _ vs =>
  match vs with
  | [.w (.one (.int .u64 x)), .w (.one (.int .u64 y)), .w (.one (.int .u64 c))] =>
    cond (decide (0 ≤ x.lo) && decide (0 ≤ y.lo) && decide (0 ≤ c.lo) && decide (c.hi ≤ 1)) (bind (divM ⟨(x.l.add y.l).add c.l, x.lo + y.lo + c.lo, x.hi + y.hi + c.hi⟩ 18446744073709551616) fun q =>
      pure (.tup [.one (.int .u64 ⟨((x.l.add y.l).add c.l).sub (q.l.smul 18446744073709551616), 0, 18446744073709551615⟩), .one (.int .u64 q)])) fail
  | _ => fail
def sub64M : List Blk → List V → M V := fun _ vs =>
  match vs with
  | [.w (.one (.int .u64 x)), .w (.one (.int .u64 y)), .w (.one (.int .u64 c))] =>
    cond (decide (0 ≤ x.lo) && decide (x.hi < 18446744073709551616) && decide (0 ≤ y.lo) && decide (y.hi < 18446744073709551616) && decide (0 ≤ c.lo) && decide (c.hi ≤ 1)) (bind (divM ⟨(x.l.sub y.l).sub c.l, x.lo - y.hi - c.hi, x.hi - y.lo - c.lo⟩ 18446744073709551616) fun q =>
      pure (.tup [.one (.int .u64 ⟨((x.l.sub y.l).sub c.l).sub (q.l.smul 18446744073709551616), 0, 18446744073709551615⟩), .one (.int .u64 ⟨q.l.smul (-1), 0, 1⟩)])) fail
  | _ => fail
def Mul64Ok (P : Program) (f : FuncId) : Prop := ∀ x y : Int, 0 ≤ x → x < 18446744073709551616 → 0 ≤ y → y < 18446744073709551616 → ∀ w, FRes P f #[.int .u64 x, .int .u64 y] w (.tuple #[.int .u64 (x * y / 18446744073709551616), .int .u64 (x * y % 18446744073709551616)])
def Add64Ok (P : Program) (f : FuncId) : Prop := ∀ x y c : Int, 0 ≤ x → 0 ≤ y → 0 ≤ c → c ≤ 1 → ∀ w, FRes P f #[.int .u64 x, .int .u64 y, .int .u64 c] w (.tuple #[.int .u64 ((x + y + c) % 18446744073709551616), .int .u64 ((x + y + c) / 18446744073709551616)])
def Sub64Ok (P : Program) (f : FuncId) : Prop := ∀ x y c : Int, 0 ≤ x → x < 18446744073709551616 → 0 ≤ y → y < 18446744073709551616 → 0 ≤ c → c ≤ 1 → ∀ w, FRes P f #[.int .u64 x, .int .u64 y, .int .u64 c] w (.tuple #[.int .u64 ((x - y - c) % 18446744073709551616), .int .u64 (-((x - y - c) / 18446744073709551616))])

variable {L : V → Env → Prop} {n : Nat} {ρ : Env} {m : Nat → Nat} {bl : List Blk} {vs : List V} {xs : List Value}
theorem lrel3 {x y c : A} (hr : LRel ρ m [.w (.one x), .w (.one y), .w (.one c)] xs) : xs = [x.den ρ m, y.den ρ m, c.den ρ m] := by
  match xs, hr with
  | [a, b, d], h => obtain ⟨rfl, rfl, rfl, _⟩ := h; rfl
  | [], h => exact h.elim
  | [_], h => exact h.2.elim
  | [_, _], h => exact h.2.2.elim
  | _ :: _ :: _ :: _ :: _, h => exact h.2.2.2.elim
theorem lrel2 {x y : A} (hr : LRel ρ m [.w (.one x), .w (.one y)] xs) : xs = [x.den ρ m, y.den ρ m] := by
  match xs, hr with
  | [a, b], h => obtain ⟨rfl, rfl, _⟩ := h; rfl
  | [], h => exact h.elim
  | [_], h => exact h.2.elim
  | _ :: _ :: _ :: _, h => exact h.2.2.elim

theorem mul64_snd {f : FuncId} (hf : Mul64Ok P f) (hvs : ∀ v ∈ vs, V.ok n bl.length ρ v) (hr : LRel ρ m vs xs) : Snd S L (mul64M bl vs) n ρ fun ρ' n' v => v.ok n' bl.length ρ' ∧ ∃ val, v.rel ρ' m val ∧ ∀ w, Mem w0 ρ m bl w → FRes P f xs.toArray w val := by
  unfold mul64M
  split
  · rename_i x y
    refine snd_guard fun hc => ?_
    simp only [Bool.and_eq_true, decide_eq_true_eq] at hc
    have hx : x.ok n ρ := hvs (.w (.one (.int .u64 x))) (by simp)
    have hy : y.ok n ρ := hvs (.w (.one (.int .u64 y))) (by simp)
    have bx := hx.2; have by' := hy.2
    refine (mulM_snd hx hy).bind fun ρ1 n1 p hn1 ha1 ⟨hp, ep⟩ => ?_
    refine (divM_snd (by decide) hp).bind fun ρ2 n2 q hn2 ha2 ⟨hq, eq, _⟩ => Snd.pure ?_
    have hp2 := hp.agree ha2 hn2
    have ep2 : p.l.den ρ2 = x.l.den ρ * y.l.den ρ := by rw [Lin.den_agree ha2 hp.1, ep]
    have e2 : (p.l.sub (q.l.smul 18446744073709551616)).den ρ2 = x.l.den ρ * y.l.den ρ % 18446744073709551616 := by
      rw [Lin.den_sub, Lin.den_smul, ep2, eq, ep]; omega
    refine ⟨fun u hu => ?_, _, rfl, fun w _ => ?_⟩
    · simp at hu
      rcases hu with rfl | rfl
      · exact hq
      · exact ⟨Lin.sc_sub hp2.1 (Lin.sc_smul hq.1), by simp only [e2]; omega, by simp only [e2]; omega⟩
    · rw [lrel2 hr]
      have := hf (x.l.den ρ) (y.l.den ρ) (by omega) (by omega) (by omega) (by omega) w
      simpa [A.den, W.den, e2, eq, ep] using this
  · exact Snd.fail
theorem add64_snd {f : FuncId} (hf : Add64Ok P f) (hvs : ∀ v ∈ vs, V.ok n bl.length ρ v) (hr : LRel ρ m vs xs) : Snd S L (add64M bl vs) n ρ fun ρ' n' v => v.ok n' bl.length ρ' ∧ ∃ val, v.rel ρ' m val ∧ ∀ w, Mem w0 ρ m bl w → FRes P f xs.toArray w val := by
  unfold add64M
  split
  · rename_i x y c
    refine snd_guard fun hc => ?_
    simp only [Bool.and_eq_true, decide_eq_true_eq] at hc
    have hx : x.ok n ρ := hvs (.w (.one (.int .u64 x))) (by simp)
    have hy : y.ok n ρ := hvs (.w (.one (.int .u64 y))) (by simp)
    have hcc : c.ok n ρ := hvs (.w (.one (.int .u64 c))) (by simp)
    have bx := hx.2; have by' := hy.2; have bc := hcc.2
    have hs : (IV.mk ((x.l.add y.l).add c.l) (x.lo + y.lo + c.lo) (x.hi + y.hi + c.hi)).ok n ρ := ⟨Lin.sc_add (Lin.sc_add hx.1 hy.1) hcc.1, by simp only [Lin.den_add]; omega, by simp only [Lin.den_add]; omega⟩
    refine (divM_snd (x := ⟨(x.l.add y.l).add c.l, x.lo + y.lo + c.lo, x.hi + y.hi + c.hi⟩) (by decide) hs).bind fun ρ2 n2 q hn2 ha2 ⟨hq, eq, _⟩ => Snd.pure ?_
    have hs2 := hs.agree ha2 hn2
    simp only [Lin.den_add] at eq
    have e2 : (((x.l.add y.l).add c.l).sub (q.l.smul 18446744073709551616)).den ρ2 = (x.l.den ρ + y.l.den ρ + c.l.den ρ) % 18446744073709551616 := by
      rw [Lin.den_sub, Lin.den_smul, Lin.den_agree ha2 hs.1, Lin.den_add, Lin.den_add, eq]; omega
    refine ⟨fun u hu => ?_, _, rfl, fun w _ => ?_⟩
    · simp at hu
      rcases hu with rfl | rfl
      · exact ⟨Lin.sc_sub hs2.1 (Lin.sc_smul hq.1), by simp only [e2]; omega, by simp only [e2]; omega⟩
      · exact hq
    · rw [lrel3 hr]
      have := hf (x.l.den ρ) (y.l.den ρ) (c.l.den ρ) (by omega) (by omega) (by omega) (by omega) w
      simpa [A.den, W.den, e2, eq] using this
  · exact Snd.fail
theorem sub64_snd {f : FuncId} (hf : Sub64Ok P f) (hvs : ∀ v ∈ vs, V.ok n bl.length ρ v) (hr : LRel ρ m vs xs) : Snd S L (sub64M bl vs) n ρ fun ρ' n' v => v.ok n' bl.length ρ' ∧ ∃ val, v.rel ρ' m val ∧ ∀ w, Mem w0 ρ m bl w → FRes P f xs.toArray w val := by
  unfold sub64M
  split
  · rename_i x y c
    refine snd_guard fun hc => ?_
    simp only [Bool.and_eq_true, decide_eq_true_eq] at hc
    have hx : x.ok n ρ := hvs (.w (.one (.int .u64 x))) (by simp)
    have hy : y.ok n ρ := hvs (.w (.one (.int .u64 y))) (by simp)
    have hcc : c.ok n ρ := hvs (.w (.one (.int .u64 c))) (by simp)
    have bx := hx.2; have by' := hy.2; have bc := hcc.2
    have hs : (IV.mk ((x.l.sub y.l).sub c.l) (x.lo - y.hi - c.hi) (x.hi - y.lo - c.lo)).ok n ρ := ⟨Lin.sc_sub (Lin.sc_sub hx.1 hy.1) hcc.1, by simp only [Lin.den_sub]; omega, by simp only [Lin.den_sub]; omega⟩
    refine (divM_snd (x := ⟨(x.l.sub y.l).sub c.l, x.lo - y.hi - c.hi, x.hi - y.lo - c.lo⟩) (by decide) hs).bind fun ρ2 n2 q hn2 ha2 ⟨hq, eq, _⟩ => Snd.pure ?_
    have hs2 := hs.agree ha2 hn2
    simp only [Lin.den_sub] at eq
    have e2 : (((x.l.sub y.l).sub c.l).sub (q.l.smul 18446744073709551616)).den ρ2 = (x.l.den ρ - y.l.den ρ - c.l.den ρ) % 18446744073709551616 := by
      rw [Lin.den_sub, Lin.den_smul, Lin.den_agree ha2 hs.1, Lin.den_sub, Lin.den_sub, eq]; omega
    have e3 : (q.l.smul (-1)).den ρ2 = -((x.l.den ρ - y.l.den ρ - c.l.den ρ) / 18446744073709551616) := by
      rw [Lin.den_smul, eq]; omega
    refine ⟨fun u hu => ?_, _, rfl, fun w _ => ?_⟩
    · simp at hu
      rcases hu with rfl | rfl
      · exact ⟨Lin.sc_sub hs2.1 (Lin.sc_smul hq.1), by simp only [e2]; omega, by simp only [e2]; omega⟩
      · exact ⟨Lin.sc_smul hq.1, by simp only [e3]; omega, by simp only [e3]; omega⟩
    · rw [lrel3 hr]
      have := hf (x.l.den ρ) (y.l.den ρ) (c.l.den ρ) (by omega) (by omega) (by omega) (by omega) (by omega) (by omega) w
      simpa [A.den, W.den, e2, e3] using this
  · exact Snd.fail
end
end Go.Rx
