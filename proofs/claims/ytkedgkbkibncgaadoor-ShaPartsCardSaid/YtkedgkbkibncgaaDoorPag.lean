/- A contract out of a tree. -/
import Derived.Test.YtkedgkbkibncgaaDoorPaf
import Derived.Laws.Externs
import Derived.ChangeMaps5
import Derived.ChangeSame
import Derived.OpenShut
import Derived.Handed
import Derived.ProofKit
import Derived.LaidMore
import Derived.Stop.Joined

set_option linter.unusedVariables false
set_option linter.unusedSimpArgs false
namespace Go.Rx
open M

/-! ### Trees: what holds at the leaves; the one way through -/
theorem allB_mono : ∀ {b : List (Int × Int)} {P Q : List Int → Prop}, (∀ rs, P rs → Q rs) → allB b P → allB b Q
  | [], _, _, h, hp => h _ hp
  | (l, u) :: b, P, Q, h, hp => fun r h1 h2 => allB_mono (b := b) (P := fun rs => P (r :: rs)) (Q := fun rs => Q (r :: rs)) (fun rs => h (r :: rs)) (hp r h1 h2)
theorem allB_intro : ∀ {b : List (Int × Int)} {P : List Int → Prop}, (∀ rs, inB b rs → P rs) → allB b P
  | [], _, h => h [] trivial
  | (l, u) :: b, P, h => fun r h1 h2 => allB_intro (b := b) (P := fun rs => P (r :: rs)) fun rs hi => h (r :: rs) ⟨h1, h2, hi⟩
theorem holds_mono {S : Nat → List Int → List Int → Prop} {L L' : V → Env → Prop} (h : ∀ v ρ, L v ρ → L' v ρ) : ∀ (t : T) (G : Again) (ρ : Env), t.holds S L G ρ → t.holds S L' G ρ
  | .stuck, _, _, hh => hh
  | .leaf v, _, ρ, hh => h v ρ hh
  | .div n x d lo hi r, G, ρ, hh => fun q h1 h2 h3 h4 => holds_mono h r G _ (hh q h1 h2 h3 h4)
  | .mul n x y lo hi r, G, ρ, hh => fun q h1 h2 h3 => holds_mono h r G _ (hh q h1 h2 h3)
  | .bit n op k x y r, G, ρ, hh => fun q h1 h2 h3 => holds_mono h r G _ (hh q h1 h2 h3)
  | .shr n x y lo hi r, G, ρ, hh => fun q h1 h2 h3 => holds_mono h r G _ (hh q h1 h2 h3)
  | .sel n cs ix lo hi r, G, ρ, hh => fun q h1 h2 h3 => holds_mono h r G _ (hh q h1 h2 h3)
  | .br b t e, G, ρ, hh => ⟨fun hb => holds_mono h t G ρ (hh.1 hb), fun hb => holds_mono h e G ρ (hh.2 hb)⟩
  | .call id args n bds r, G, ρ, hh => allB_mono (fun rs hr hs => holds_mono h r G _ (hr hs)) hh
  | .loop lid init n bds r, G, ρ, hh => by
    obtain ⟨I, μ, h1, h2⟩ := hh
    exact ⟨I, μ, h1, allB_mono (fun zs hz hI => holds_mono h r _ _ (hz hI)) h2⟩
  | .again lid vals, G, ρ, hh => hh
  | .both x y, G, ρ, hh => ⟨holds_mono h x G ρ hh.1, holds_mono h y G ρ hh.2⟩
  | .fn n op args lo hi r, G, ρ, hh => fun q h1 h2 h3 => holds_mono h r G _ (hh q h1 h2 h3)
  | .chk op args r, G, ρ, hh => ⟨hh.1, holds_mono h r G ρ hh.2⟩
  | .unk n lo hi r, G, ρ, hh => fun z h1 h2 => holds_mono h r G _ (hh z h1 h2)
  | .nat n r, G, ρ, hh => fun z h1 => holds_mono h r G _ (hh z h1)
  | .asm op args r, G, ρ, hh => fun h1 => holds_mono h r G ρ (hh h1)
  | .ind n b r, G, ρ, hh => fun z h1 h2 h3 => holds_mono h r G _ (hh z h1 h2 h3)

def T.plain : T → Bool
  | stuck => true
  | leaf _ => true
  | fn _ _ _ _ _ r | chk _ _ r | ind _ _ r | div _ _ _ _ _ r | mul _ _ _ _ _ r | bit _ _ _ _ _ r | shr _ _ _ _ _ r | sel _ _ _ _ _ r | call _ _ _ _ r => r.plain
  | br _ t e => t.plain && e.plain
  | loop .. => false
  | again .. => false
  | both .. => false
  | unk .. => false
  | nat .. => false
  | asm .. => false
def Path (S : Nat → List Int → List Int → Prop) : T → Env → V → Env → Prop
  | .stuck, _, _, _ => False
  | .leaf v, ρ, v', ρ' => v' = v ∧ ρ' = ρ
  | .div n x d lo hi r, ρ, v, ρ' => ∃ q, 0 ≤ x.den ρ - d * q ∧ x.den ρ - d * q < d ∧ Path S r (upd ρ n q) v ρ'
  | .mul n x y lo hi r, ρ, v, ρ' => Path S r (upd ρ n (x.den ρ * y.den ρ)) v ρ'
  | .bit n op k x y r, ρ, v, ρ' => Path S r (upd ρ n (bitI op k (x.den ρ) (y.den ρ))) v ρ'
  | .shr n x y lo hi r, ρ, v, ρ' => Path S r (upd ρ n (x.den ρ / 2 ^ (y.den ρ).toNat)) v ρ'
  | .sel n cs ix lo hi r, ρ, v, ρ' => Path S r (upd ρ n ((cs.map (·.den ρ)).getD (ix.den ρ).toNat 0)) v ρ'
  | .br b t e, ρ, v, ρ' => (b.den ρ = true ∧ Path S t ρ v ρ') ∨ (b.den ρ = false ∧ Path S e ρ v ρ')
  | .call id args n bds r, ρ, v, ρ' => ∃ rs, S id (args.map (·.den ρ)) rs ∧ Path S r (updL ρ n rs) v ρ'
  | .loop .., _, _, _ => False
  | .again .., _, _, _ => False
  | .both .., _, _, _ => False
  | .unk .., _, _, _ => False
  | .nat .., _, _, _ => False
  | .asm .., _, _, _ => False
  | .ind n b r, ρ, v, ρ' => Path S r (upd ρ n (cond (b.den ρ) 1 0)) v ρ'
  | .fn n op args lo hi r, ρ, v, ρ' => Path S r (upd ρ n (fnD op (args.map (·.den ρ)))) v ρ'
  | .chk op args r, ρ, v, ρ' => Path S r ρ v ρ'
theorem holds_path {S : Nat → List Int → List Int → Prop} {L : V → Env → Prop} : ∀ (t : T) (G : Again) (ρ : Env), t.plain = true → t.holds S L G ρ → t.holds S (fun v ρ' => L v ρ' ∧ Path S t ρ v ρ') G ρ
  | .stuck, _, _, _, hh => hh
  | .leaf v, _, ρ, _, hh => ⟨hh, rfl, rfl⟩
  | .div n x d lo hi r, G, ρ, hp, hh => fun q h1 h2 h3 h4 => holds_mono (fun v ρ' h => ⟨h.1, q, h3, h4, h.2⟩) r G _ (holds_path r G _ hp (hh q h1 h2 h3 h4))
  | .mul n x y lo hi r, G, ρ, hp, hh => fun q h1 h2 h3 => holds_mono (fun v ρ' h => ⟨h.1, by subst h3; exact h.2⟩) r G _ (holds_path r G _ hp (hh q h1 h2 h3))
  | .bit n op k x y r, G, ρ, hp, hh => fun q h1 h2 h3 => holds_mono (fun v ρ' h => ⟨h.1, by subst h3; exact h.2⟩) r G _ (holds_path r G _ hp (hh q h1 h2 h3))
  | .shr n x y lo hi r, G, ρ, hp, hh => fun q h1 h2 h3 => holds_mono (fun v ρ' h => ⟨h.1, by subst h3; exact h.2⟩) r G _ (holds_path r G _ hp (hh q h1 h2 h3))
  | .sel n cs ix lo hi r, G, ρ, hp, hh => fun q h1 h2 h3 => holds_mono (fun v ρ' h => ⟨h.1, by subst h3; exact h.2⟩) r G _ (holds_path r G _ hp (hh q h1 h2 h3))
  | .br b t e, G, ρ, hp, hh => by
    simp only [T.plain, Bool.and_eq_true] at hp
    exact ⟨fun hb => holds_mono (fun v ρ' h => ⟨h.1, .inl ⟨hb, h.2⟩⟩) t G ρ (holds_path t G ρ hp.1 (hh.1 hb)), fun hb => holds_mono (fun v ρ' h => ⟨h.1, .inr ⟨hb, h.2⟩⟩) e G ρ (holds_path e G ρ hp.2 (hh.2 hb))⟩
  | .call id args n bds r, G, ρ, hp, hh => allB_mono (fun rs hr hs => holds_mono (fun v ρ' h => ⟨h.1, rs, hs, h.2⟩) r G _ (holds_path r G _ hp (hr hs))) hh
  | .loop .., _, _, hp, _ => by simp [T.plain] at hp
  | .again .., _, _, hp, _ => by simp [T.plain] at hp
  | .both .., _, _, hp, _ => by simp [T.plain] at hp
  | .unk .., _, _, hp, _ => by simp [T.plain] at hp
  | .nat .., _, _, hp, _ => by simp [T.plain] at hp
  | .asm .., _, _, hp, _ => by simp [T.plain] at hp
  | .ind n b r, G, ρ, hp, hh => fun q h1 h2 h3 => holds_mono (fun v ρ' h => ⟨h.1, by
      have : q = cond (b.den ρ) 1 0 := by rw [h3]; by_cases hq : q = 1 <;> simp [hq] <;> omega
      rw [this] at h; exact h.2⟩) r G _ (holds_path r G _ hp (hh q h1 h2 h3))
  | .fn n op args lo hi r, G, ρ, hp, hh => fun q h1 h2 h3 => holds_mono (fun v ρ' h => ⟨h.1, by subst h3; exact h.2⟩) r G _ (holds_path r G _ hp (hh q h1 h2 h3))
  | .chk op args r, G, ρ, hp, hh => ⟨hh.1, holds_mono (fun v ρ' h => ⟨h.1, h.2⟩) r G ρ (holds_path r G ρ hp hh.2)⟩
theorem quot_unique {x d q q' : Int} (h1 : 0 ≤ x - d * q) (h2 : x - d * q < d) (h3 : 0 ≤ x - d * q') (h4 : x - d * q' < d) : q = q' := by
  have hd : 0 < d := by omega
  have e1 : x / d = q := by
    rw [Int.ediv_eq_iff_of_pos hd]; constructor <;> rw [Int.mul_comm] <;> (try rw [Int.mul_add]) <;> omega
  have e2 : x / d = q' := by
    rw [Int.ediv_eq_iff_of_pos hd]; constructor <;> rw [Int.mul_comm] <;> (try rw [Int.mul_add]) <;> omega
  omega
theorem path_fun {S : Nat → List Int → List Int → Prop} (hS : ∀ id a rs rs', S id a rs → S id a rs' → rs = rs') : ∀ (t : T) (ρ : Env) {v v' : V} {ρ1 ρ2 : Env}, Path S t ρ v ρ1 → Path S t ρ v' ρ2 → v = v' ∧ ρ1 = ρ2
  | .stuck, _, _, _, _, _, h, _ => h.elim
  | .leaf v, _, _, _, _, _, h, h' => ⟨h.1.trans h'.1.symm, h.2.trans h'.2.symm⟩
  | .div n x d lo hi r, ρ, _, _, _, _, ⟨q, a1, a2, a3⟩, ⟨q', b1, b2, b3⟩ => by
    have := quot_unique a1 a2 b1 b2
    subst this
    exact path_fun hS r _ a3 b3
  | .mul n x y lo hi r, ρ, _, _, _, _, h, h' => path_fun hS r _ h h'
  | .bit n op k x y r, ρ, _, _, _, _, h, h' => path_fun hS r _ h h'
  | .shr n x y lo hi r, ρ, _, _, _, _, h, h' => path_fun hS r _ h h'
  | .sel n cs ix lo hi r, ρ, _, _, _, _, h, h' => path_fun hS r _ h h'
  | .br b t e, ρ, _, _, _, _, h, h' => by
    rcases h with ⟨h1, h2⟩ | ⟨h1, h2⟩ <;> rcases h' with ⟨h3, h4⟩ | ⟨h3, h4⟩
    · exact path_fun hS t ρ h2 h4
    · rw [h1] at h3; cases h3
    · rw [h1] at h3; cases h3
    · exact path_fun hS e ρ h2 h4
  | .call id args n bds r, ρ, _, _, _, _, ⟨rs, a1, a2⟩, ⟨rs', b1, b2⟩ => by
    have := hS _ _ _ _ a1 b1
    subst this
    exact path_fun hS r _ a2 b2
  | .loop .., _, _, _, _, _, h, _ => h.elim
  | .again .., _, _, _, _, _, h, _ => h.elim
  | .both .., _, _, _, _, _, h, _ => h.elim
  | .unk .., _, _, _, _, _, h, _ => h.elim
  | .nat .., _, _, _, _, _, h, _ => h.elim
  | .asm .., _, _, _, _, _, h, _ => h.elim
  | .ind n b r, ρ, _, _, _, _, h, h' => path_fun hS r _ h h'
  | .fn n op args lo hi r, ρ, _, _, _, _, h, h' => path_fun hS r _ h h'
  | .chk op args r, ρ, _, _, _, _, h, h' => path_fun hS r _ h h'

/-! ### The result as integers -/
inductive O where
  | l (x : Lin)
  | b (x : BE)
def O.den (ρ : Env) : O → Int
  | l x => x.den ρ
  | b x => cond (x.den ρ) 1 0
def outA (k : IntKind) : List A → Option (List O)
  | [] => some []
  | .int k' x :: r => cond (decide (k = k')) (match outA k r with | some l => some (.l x.l :: l) | none => none) none
  | _ :: _ => none
def CK.out : CK → A → Option O
  | .int k _ _, .int k' x => cond (decide (k = k')) (some (.l x.l)) none
  | .str, .str l => some (.l l)
  | .bool, .bool e => some (.b e)
  | _, _ => none
def outM : List CK → List A → Option (List O)
  | [], [] => some []
  | c :: d, a :: r => match c.out a, outM d r with | some o, some l => some (o :: l) | _, _ => none
  | _, _ => none
def outD : D → W → Option (List O)
  | .int k _ _, .one (.int k' x) => cond (decide (k = k')) (some [.l x.l]) none
  | .bool, .one (.bool x) => some [.b x]
  | .agg k n _ _, .agg l => cond (Nat.beq l.length n) (outA k l) none
  | .str, .one (.str l) => some [.l l]
  | .mix d, .agg l => outM d l
  | _, _ => none
def outL : List D → List W → Option (List O)
  | [], [] => some []
  | d :: r, w :: s => match outD d w, outL r s with | some a, some b => some (a ++ b) | _, _ => none
  | _, _ => none
def outs (ds : List D) : V → Option (List O)
  | .w u => match ds with | [d] => outD d u | _ => none
  | .tup l => match ds with | [_] => none | _ => outL ds l
  | _ => none
/-- At a leaf: K of the result's integers. -/
def LeafK (ds : List D) (K : List Int → Prop) (v : V) (ρ : Env) : Prop :=
  match outs ds v with
  | some os => K (os.map (O.den ρ))
  | none => False

theorem outA_spec {ρ : Env} {m : Nat → Nat} {k : IntKind} : ∀ {l : List A} {os : List O}, outA k l = some os → os.length = l.length ∧ l.map (A.den ρ m) = (os.map (O.den ρ)).map (.int k)
  | [], os, h => by simp [outA] at h; subst h; exact ⟨rfl, rfl⟩
  | .int k' x :: r, os, h => by
    simp only [outA] at h
    by_cases hk : k = k'
    · simp only [hk, decide_true, cond_true] at h
      cases hr : outA k' r with
      | none => simp [hr] at h
      | some o =>
        simp only [hr, Option.some.injEq] at h
        subst h
        subst hk
        obtain ⟨h1, h2⟩ := outA_spec (ρ := ρ) (m := m) hr
        exact ⟨by simp [h1], by simp only [List.map_cons, h2, A.den, O.den]⟩
    · simp [hk] at h
  | .bool _ :: _, _, h => by simp [outA] at h
  | .ptr .. :: _, _, h => by simp [outA] at h
  | .pix .. :: _, _, h => by simp [outA] at h
  | .gptr .. :: _, _, h => by simp [outA] at h
  | .slc .. :: _, _, h => by simp [outA] at h
  | .con _ :: _, _, h => by simp [outA] at h
  | .str _ :: _, _, h => by simp [outA] at h
theorem CK.out_spec {ρ : Env} {m : Nat → Nat} {c : CK} {a : A} {o : O} (h : c.out a = some o) : a.den ρ m = c.val (o.den ρ) := by
  unfold CK.out at h
  split at h
  · rename_i k lo hi k' x
    by_cases hk : k = k'
    · subst hk
      simp only [decide_true, cond_true, Option.some.injEq] at h
      subst h; rfl
    · simp [hk] at h
  · simp only [Option.some.injEq] at h; subst h; rfl
  · rename_i e
    simp only [Option.some.injEq] at h; subst h
    have hb : ∀ b : Bool, Value.bool b = Value.bool (decide ((cond b 1 0 : Int) = 1)) := by intro b; cases b <;> rfl
    exact hb (e.den ρ)
  · cases h
theorem outM_spec {ρ : Env} {m : Nat → Nat} : ∀ {d : List CK} {l : List A} {os : List O}, outM d l = some os → os.length = d.length ∧ l.map (A.den ρ m) = List.zipWith CK.val d (os.map (O.den ρ))
  | [], [], os, h => by simp [outM] at h; subst h; exact ⟨rfl, rfl⟩
  | c :: d, a :: r, os, h => by
    simp only [outM] at h
    cases h1 : c.out a with
    | none => simp [h1] at h
    | some o =>
      cases hr : outM d r with
      | none => simp [h1, hr] at h
      | some l =>
        simp only [h1, hr, Option.some.injEq] at h
        subst h
        obtain ⟨p1, p2⟩ := outM_spec (ρ := ρ) (m := m) hr
        exact ⟨by simp [p1], by simp only [List.map_cons, p2, CK.out_spec h1, List.zipWith_cons_cons]⟩
  | [], _ :: _, _, h => by simp [outM] at h
  | _ :: _, [], _, h => by simp [outM] at h
theorem outD_spec {ρ : Env} {m : Nat → Nat} {d : D} {u : W} {os : List O} (h : outD d u = some os) : os.length = d.num ∧ ∀ zs, d.val (os.map (O.den ρ) ++ zs) = u.den ρ m := by
  unfold outD at h
  split at h
  · rename_i k _ _ k' x
    by_cases hk : k = k'
    · subst hk
      simp only [decide_true, cond_true, Option.some.injEq] at h
      subst h
      exact ⟨rfl, fun zs => by simp [D.val, W.den, A.den, O.den]⟩
    · simp [hk] at h
  · rename_i x
    simp only [Option.some.injEq] at h
    subst h
    exact ⟨rfl, fun zs => by cases hx : x.den ρ <;> simp [D.val, W.den, A.den, O.den, hx]⟩
  · rename_i k n' _ _ l
    cases hc : Nat.beq l.length n' with
    | false => simp [hc] at h
    | true =>
      simp only [hc, cond_true] at h
      have hl := Nat.eq_of_beq_eq_true hc
      subst hl
      obtain ⟨h1, h2⟩ := outA_spec (ρ := ρ) (m := m) h
      exact ⟨h1, fun zs => by simp only [D.val, W.den, h2]; rw [List.take_append_of_le_length (by simp [h1]), List.take_of_length_le (by simp [h1])]⟩
  · simp only [Option.some.injEq] at h; subst h
    exact ⟨rfl, fun zs => rfl⟩
  · rename_i d l
    obtain ⟨h1, h2⟩ := outM_spec (ρ := ρ) (m := m) h
    refine ⟨h1, fun zs => ?_⟩
    simp only [D.val, W.den, h2]
    congr 2
    have key : ∀ (a : List CK) (b c : List Int), b.length = a.length → List.zipWith CK.val a (b ++ c) = List.zipWith CK.val a b := by
      intro a
      induction a with
      | nil => intro b c _; simp
      | cons p a ih =>
        intro b c hb
        cases b with
        | nil => simp at hb
        | cons z b => simp [ih b c (by simpa using hb)]
    exact key _ _ _ (by simp [h1])
  · cases h
theorem outL_spec {ρ : Env} {m : Nat → Nat} : ∀ {ds : List D} {l : List W} {os : List O}, outL ds l = some os → valL ds (os.map (O.den ρ)) = l.map (W.den ρ m)
  | [], [], os, h => by simp [outL] at h; subst h; rfl
  | d :: ds, u :: l, os, h => by
    simp only [outL] at h
    cases h1 : outD d u with
    | none => simp [h1] at h
    | some a =>
      cases h2 : outL ds l with
      | none => simp [h1, h2] at h
      | some b =>
        simp only [h1, h2, Option.some.injEq] at h
        subst h
        obtain ⟨p1, p2⟩ := outD_spec (ρ := ρ) (m := m) h1
        rw [List.map_append]
        simp only [valL, p2, List.map_cons]
        rw [show d.num = (a.map (O.den ρ)).length by simp [p1], List.drop_left, outL_spec h2]
  | [], _ :: _, _, h => by simp [outL] at h
  | _ :: _, [], _, h => by simp [outL] at h
theorem valL_len (ds : List D) : ∀ zs, (valL ds zs).length = ds.length := by
  induction ds with
  | nil => intro zs; rfl
  | cons d r ih => intro zs; simp [valL, ih]
theorem LeafK_spec {ds : List D} {K : List Int → Prop} {v : V} {ρ : Env} {m : Nat → Nat} {val : Value} (h : LeafK ds K v ρ) (hr : v.rel ρ m val) : ∃ rs, K rs ∧ val = resVal ds rs := by
  unfold LeafK at h
  cases ho : outs ds v with
  | none => simp [ho] at h
  | some os =>
    simp only [ho] at h
    refine ⟨_, h, ?_⟩
    unfold outs at ho
    cases v with
    | any => cases ho
    | osl _ _ _ => cases ho
    | clo _ _ => cases ho
    | w u =>
      simp only at ho
      split at ho
      · rename_i d
        obtain ⟨p1, p2⟩ := outD_spec (ρ := ρ) (m := m) ho
        simp only [V.rel] at hr
        have := p2 []
        rw [List.append_nil] at this
        simp [resVal, valL, this, hr]
      · cases ho
    | tup l =>
      simp only at ho
      split at ho
      · cases ho
      · rename_i hne
        have := outL_spec (ρ := ρ) (m := m) ho
        simp only [V.rel] at hr
        unfold resVal
        split
        · rename_i x heq
          exfalso
          have hl := valL_len ds (os.map (O.den ρ))
          rw [heq] at hl
          match ds, hl with
          | [d], _ => exact hne d rfl
        · rw [hr, this]

/-! ### Contracts -/
noncomputable def calOf (cons : List Con) (mulF addF subF : FuncId) : Cal := fun f =>
  cond (Nat.beq f mulF) (some mul64M) <| cond (Nat.beq f addF) (some add64M) <| cond (Nat.beq f subF) (some sub64M) <|
  match cons.find? (fun c => Nat.beq f c.f) with
  | some c => some c.M
  | none => none
section
variable {S : Nat → List Int → List Int → Prop} {P : Program} {gl : Glo} {wb : World}
theorem calOf_ok {w0 : Base} {cons : List Con} {mulF addF subF : FuncId} (hm : Mul64Ok P mulF) (ha : Add64Ok P addF) (hs : Sub64Ok P subF) (hc : ∀ c ∈ cons, c.OkF P w0.b (S c.id)) : CalOk S P gl w0 (calOf cons mulF addF subF) := by
  intro f g hfg L n ρ m bl vs xs h1 h2 h3 h4
  unfold calOf at hfg
  cases e1 : Nat.beq f mulF with
  | true =>
    have := Nat.eq_of_beq_eq_true e1; subst this
    simp only [e1, cond_true, Option.some.injEq] at hfg
    subst hfg
    exact mul64_snd hm h3 h4
  | false =>
    cases e2 : Nat.beq f addF with
    | true =>
      have := Nat.eq_of_beq_eq_true e2; subst this
      simp only [e1, e2, cond_true, cond_false, Option.some.injEq] at hfg
      subst hfg
      exact add64_snd ha h3 h4
    | false =>
      cases e3 : Nat.beq f subF with
      | true =>
        have := Nat.eq_of_beq_eq_true e3; subst this
        simp only [e1, e2, e3, cond_true, cond_false, Option.some.injEq] at hfg
        subst hfg
        exact sub64_snd hs h3 h4
      | false =>
        simp only [e1, e2, e3, cond_false] at hfg
        cases e4 : cons.find? (fun c => Nat.beq f c.f) with
        | none => simp [e4] at hfg
        | some c =>
          simp only [e4, Option.some.injEq] at hfg
          subst hfg
          have h5 := List.find?_some e4
          have := Nat.eq_of_beq_eq_true h5
          subst this
          exact Con.snd (hc c (List.mem_of_find?_eq_some e4)) (fun _ _ h => h) L n ρ m bl vs xs h3 h4

/-- Contracts alone; more than one of a function: the first that fits. -/
noncomputable def calC (cons : List Con) : Cal := fun f =>
  match cons.filter (fun c => Nat.beq f c.f) with
  | [] => none
  | l => some fun bl vs n k => match l.find? (fun c => (flatL c.args vs).isSome) with
    | some c => c.M bl vs n k
    | none => match l with
      | c :: _ => c.M bl vs n k
      | [] => .stuck
theorem calC_ok {w0 : Base} {cons : List Con} (hc : ∀ c ∈ cons, c.OkF P w0.b (S c.id)) : CalOk S P gl w0 (calC cons) := by
  intro f g hfg L n ρ m bl vs xs h1 h2 h3 h4
  unfold calC at hfg
  split at hfg
  · cases hfg
  · rename_i l hl
    simp only [Option.some.injEq] at hfg
    subst hfg
    intro G k hk
    simp only at hk
    split at hk
    · rename_i c hcf
      have hin := List.mem_filter.1 (List.mem_of_find?_eq_some hcf)
      have hff := Nat.eq_of_beq_eq_true hin.2
      subst hff
      exact Con.snd (hc c hin.1) (fun _ _ h => h) L n ρ m bl vs xs h3 h4 G k hk
    · split at hk
      · rename_i c r hl2
        have hin := List.mem_filter.1 (show c ∈ cons.filter (fun c => Nat.beq f c.f) from by rw [hl2]; exact List.mem_cons_self (a := c) (l := r))
        have hff := Nat.eq_of_beq_eq_true hin.2
        subst hff
        exact Con.snd (hc c hin.1) (fun _ _ h => h) L n ρ m bl vs xs h3 h4 G k hk
      · exact hk.elim
theorem Calls.some {f : FuncId} {args : Array Value} {w : World} {R : Ending → World → Prop} (h : Calls P f args w R) : ∃ e w', R e w' := by
  obtain ⟨e, w', fr, h1, _⟩ := h []
  exact ⟨e, w', h1⟩

/-- The tree of a contract's function. -/
noncomputable def Con.tree (P : Program) (gl : Glo) (cal : Cal) (li : FuncId → Nat → Option LoopI) (rounds d : Nat) (c : Con) : T :=
  callE P gl cal li rounds d c.f (bdsL c.args).length ((symL 0 c.args).map V.w) [] fun _ v _ => .leaf v
theorem LRel_sym {ρ : Env} {m : Nat → Nat} : ∀ (l : List W), LRel ρ m (l.map V.w) (l.map (W.den ρ m))
  | [] => trivial
  | _ :: r => ⟨rfl, LRel_sym r⟩

theorem Con.calls {c : Con} {cal : Cal} {li : FuncId → Nat → Option LoopI} {rounds d : Nat} {L : V → Env → Prop} (hm : P.follows .mixedOrders = true) (hcal : ∀ r ex ro, CalOk S P gl ⟨wb, r, ex, ro, []⟩ cal) (hg : GOk gl ⟨wb, wb, fun _ => False, fun _ => False, []⟩) {zs : List Int} (hz : inB (bdsL c.args) zs)
    (ht : (c.tree P gl cal li rounds d).holds S L (fun _ _ => False) (updL (fun _ => 0) 0 zs)) (w : World) (hw : wb.Extends w) :
    Calls P c.f (valL c.args zs).toArray w fun e w' => ∃ v ρ' m val, e = .returned val ∧ v.rel ρ' m val ∧ L v ρ' ∧ w.Extends w' := by
  have hs := symL_spec (m := fun _ => 0) (nb := 0) (N := (bdsL c.args).length) c.args hz (At.updL (fun _ => 0) 0 zs) (by omega)
  have := calls_of_tree (L := L) (b := wb) (w := w) hm (hcal w _ _) hg c.f _ _ _ ((symL 0 c.args).map (W.den (updL (fun _ => 0) 0 zs) fun _ => 0)) hw (fun v hv => by
    obtain ⟨u, hu, rfl⟩ := List.mem_map.1 hv
    exact hs.1 u hu) (LRel_sym _) ht
  rw [hs.2] at this
  refine this.mono fun e w' ⟨v, ρ', m, val, nb, h1, h2, _, h3, h4⟩ => ⟨v, ρ', m, val, h1, h2, h3, h4⟩

/-- **A contract, out of the tree**: where the specification leaves one result. -/
theorem Con.of_tree {c : Con} {cal : Cal} {li : FuncId → Nat → Option LoopI} {rounds d : Nat} {spec : List Int → List Int → Prop} (hm : P.follows .mixedOrders = true) (hcal : ∀ r ex ro, CalOk S P gl ⟨wb, r, ex, ro, []⟩ cal) (hg : GOk gl ⟨wb, wb, fun _ => False, fun _ => False, []⟩)
    (hf : ∀ args w, (callFunc c.f args).run P w = .ok (.enter c.f args) w) (hu : ∀ zs rs rs', spec zs rs → spec zs rs' → rs = rs')
    (ht : ∀ zs, inB (bdsL c.args) zs → (c.tree P gl cal li rounds d).holds S (LeafK c.res fun rs => inB (bdsL c.res) rs ∧ spec zs rs) (fun _ _ => False) (updL (fun _ => 0) 0 zs)) : c.Ok P wb spec := by
  refine ⟨hf, fun zs hz => ?_⟩
  have h0 := Con.calls hm hcal hg hz (ht zs hz) wb (World.Extends.refl wb)
  obtain ⟨e, w', v, ρ', m, val, h1, h2, h3, h4⟩ := Calls.some h0
  obtain ⟨rs, ⟨hb, hs⟩, hv⟩ := LeafK_spec h3 h2
  refine ⟨rs, hb, hs, fun w hw => ?_⟩
  refine (Con.calls hm hcal hg hz (ht zs hz) w hw).mono fun e w' ⟨v, ρ', m, val, h1, h2, h3, h4⟩ => ?_
  obtain ⟨rs', ⟨hb', hs'⟩, hv'⟩ := LeafK_spec h3 h2
  rw [hu zs rs' rs hs' hs] at hv'
  exact ⟨by rw [h1, hv'], h4⟩
/-- The same where the way through is one: no loop by an invariant, and callees with one result each. -/
theorem Con.of_plain {c : Con} {cal : Cal} {li : FuncId → Nat → Option LoopI} {rounds d : Nat} {spec : List Int → List Int → Prop} (hm : P.follows .mixedOrders = true) (hcal : ∀ r ex ro, CalOk S P gl ⟨wb, r, ex, ro, []⟩ cal) (hg : GOk gl ⟨wb, wb, fun _ => False, fun _ => False, []⟩)
    (hf : ∀ args w, (callFunc c.f args).run P w = .ok (.enter c.f args) w) (hS : ∀ id a rs rs', S id a rs → S id a rs' → rs = rs') (hp : (c.tree P gl cal li rounds d).plain = true)
    (ht : ∀ zs, inB (bdsL c.args) zs → (c.tree P gl cal li rounds d).holds S (LeafK c.res fun rs => inB (bdsL c.res) rs ∧ spec zs rs) (fun _ _ => False) (updL (fun _ => 0) 0 zs)) : c.Ok P wb spec := by
  refine ⟨hf, fun zs hz => ?_⟩
  have ht' := holds_path _ _ _ hp (ht zs hz)
  have h0 := Con.calls hm hcal hg hz ht' wb (World.Extends.refl wb)
  obtain ⟨e, w', v0, ρ0, m0, val0, h1, h2, ⟨h3, h3'⟩, h4⟩ := Calls.some h0
  obtain ⟨rs, ⟨hb, hs⟩, hv⟩ := LeafK_spec h3 h2
  refine ⟨rs, hb, hs, fun w hw => ?_⟩
  refine (Con.calls hm hcal hg hz ht' w hw).mono fun e w' ⟨v, ρ', m, val, g1, g2, ⟨g3, g3'⟩, g4⟩ => ?_
  obtain ⟨e1, e2⟩ := path_fun hS _ _ g3' h3'
  subst e1; subst e2
  unfold LeafK at g3 h3
  have : val = resVal c.res rs := by
    -- both readings are of one leaf
    cases ho : outs c.res v with
    | none => simp [ho] at h3
    | some os =>
      have key : ∀ {m val}, v.rel ρ' m val → val = resVal c.res (os.map (O.den ρ')) := fun {m val} hr => by
        have hK : LeafK c.res (fun rs => rs = os.map (O.den ρ')) v ρ' := by unfold LeafK; simp [ho]
        obtain ⟨rs', hrs, hv⟩ := LeafK_spec hK hr
        rw [hv, hrs]
      rw [key g2, ← key h2, hv]
  exact ⟨by rw [g1, this], g4⟩
theorem Con.Ok.fn {c : Con} {spec : List Int → List Int → Prop} (h : c.Ok P wb spec) : ∃ F : List Int → List Int, c.Ok P wb fun zs rs => rs = F zs ∧ spec zs rs := by
  have h2 : ∀ zs, ∃ rs, inB (bdsL c.args) zs → inB (bdsL c.res) rs ∧ spec zs rs ∧ ∀ w, wb.Extends w → Calls P c.f (valL c.args zs).toArray w fun e w' => e = .returned (resVal c.res rs) ∧ w.Extends w' := fun zs => by
    by_cases hz : inB (bdsL c.args) zs
    · obtain ⟨rs, h3⟩ := h.2 zs hz
      exact ⟨rs, fun _ => h3⟩
    · exact ⟨[], fun hz' => absurd hz' hz⟩
  obtain ⟨F, hF⟩ := Classical.axiomOfChoice h2
  exact ⟨F, h.1, fun zs hz => ⟨F zs, (hF zs hz).1, ⟨rfl, (hF zs hz).2.1⟩, (hF zs hz).2.2⟩⟩
end
end Go.Rx

/- Contracts of functions that read a slice of a block of one's own. -/
set_option linter.unusedVariables false
set_option linter.unusedSimpArgs false
namespace Go.Rx
open M

structure SCon where
  f : FuncId
  id : Nat
  k : IntKind
  N : Nat
  lo : Int
  hi : Int
  ty : TypeId
  off : Nat
  len : Nat
  cap : Nat
  args : List D
  res : List D
noncomputable def SCon.bds (c : SCon) : List (Int × Int) := repB c.lo c.hi c.N ++ bdsL c.args
def SCon.Ok (P : Program) (wb : World) (c : SCon) (spec : List Int → List Int → Prop) : Prop :=
  (∀ args w, (callFunc c.f args).run P w = .ok (.enter c.f args) w) ∧
  ∀ zs, inB c.bds zs → ∃ rs, inB (bdsL c.res) rs ∧ spec zs rs ∧ ∀ (w : World) (g : Nat), wb.Extends w → wb.heap.size ≤ g → w.heap[g]? = some (.cells ((zs.take c.N).map (.int c.k)).toArray c.ty (0, 0)) →
    Calls P c.f (.slice (some ⟨g, c.off, none⟩) c.len c.cap :: valL c.args (zs.drop c.N)).toArray w fun e w' => e = .returned (resVal c.res rs) ∧ w.Extends w'
noncomputable def SCon.M (c : SCon) : List Blk → List V → M V := fun bl vs n k =>
  match vs with
  | .w (.one (.slc b off len cap)) :: rest => match bl[b]? with
    | some (cs, t) => cond (Nat.beq off c.off && Nat.beq len c.len && Nat.beq cap c.cap && Nat.beq t.1 c.ty && !t.2 && Nat.beq cs.length c.N && isOrd cs) (match flatA c.k c.lo c.hi cs, flatL c.args rest with
      | some l1, some l2 => .call c.id (l1 ++ l2) n (bdsL c.res) (k (resV c.res n) (n + (bdsL c.res).length))
      | _, _ => .stuck) .stuck
    | none => .stuck
  | _ => .stuck
section
variable {S : Nat → List Int → List Int → Prop} {P : Program} {gl : Glo} {w0 : Base}
theorem SCon.snd {c : SCon} {spec : List Int → List Int → Prop} (hc : c.Ok P w0.b spec) (hS : ∀ zs rs, spec zs rs → S c.id zs rs) (L : V → Env → Prop) (n : Nat) (ρ : Env) (m : Nat → Nat) (bl : List Blk) (vs : List V) (xs : List Value)
    (hb : BlOk n bl.length ρ bl) (hvs : ∀ v ∈ vs, V.ok n bl.length ρ v) (hr : LRel ρ m vs xs) : Snd S L (c.M bl vs) n ρ fun ρ' n' v => v.ok n' bl.length ρ' ∧ ∃ val, v.rel ρ' m val ∧ ∀ w, Mem w0 ρ m bl w → FRes P c.f xs.toArray w val := by
  intro G k hk
  unfold SCon.M at hk
  split at hk
  · rename_i b off len cap rest
    cases hbl : bl[b]? with
    | none => simp [hbl, T.holds] at hk
    | some q =>
      obtain ⟨cs, t⟩ := q
      simp only [hbl] at hk
      cases hq : (Nat.beq off c.off && Nat.beq len c.len && Nat.beq cap c.cap && Nat.beq t.1 c.ty && !t.2 && Nat.beq cs.length c.N && isOrd cs) with
      | false => rw [hq] at hk; exact hk.elim
      | true =>
        simp only [hq, cond_true] at hk
        simp only [Bool.and_eq_true] at hq
        obtain ⟨⟨⟨⟨⟨⟨q1, q2⟩, q3⟩, q4⟩, q6⟩, q5⟩, q7⟩ := hq
        have q1 := Nat.eq_of_beq_eq_true q1; have q2 := Nat.eq_of_beq_eq_true q2; have q3 := Nat.eq_of_beq_eq_true q3; have q4 := Nat.eq_of_beq_eq_true q4; have q5 := Nat.eq_of_beq_eq_true q5
        cases h1 : flatA c.k c.lo c.hi cs with
        | none => simp [h1, T.holds] at hk
        | some l1 =>
          cases h2 : flatL c.args rest with
          | none => simp [h1, h2, T.holds] at hk
          | some l2 =>
            simp only [h1, h2] at hk
            have hcs : ∀ a ∈ cs, A.ok n bl.length ρ a := hb (cs, t) (List.mem_of_getElem? hbl)
            obtain ⟨a1, a2, a3⟩ := flatA_spec (m := m) h1 hcs
            cases xs with
            | nil => exact hr.elim
            | cons x xs =>
              obtain ⟨hx, hr⟩ := hr
              obtain ⟨b1, b2⟩ := flatL_spec h2 (fun v hv => hvs v (List.mem_cons_of_mem _ hv)) hr
              have hin : inB c.bds ((l1 ++ l2).map (·.den ρ)) := by
                rw [List.map_append]; unfold SCon.bds; rw [← q5]; exact inB_append a2 b1
              obtain ⟨rs, r1, r2, r3⟩ := hc.2 _ hin
              have hh := callL hk r1 (hS _ _ r2)
              have hres := resV_spec (m := m) (nb := bl.length) (N := n + (bdsL c.res).length) r1 (At.updL ρ n rs) (Nat.le_refl _)
              refine ⟨_, _, _, Nat.le_add_right _ _, agree.updL rs n ρ, ⟨hres.1, _, hres.2, fun w hw => .inr ⟨hc.1 _ _, ?_⟩⟩, hh⟩
              obtain ⟨g1, g2, r0, hr0, g3⟩ := hw.blk b cs t hbl q7
              have hlen : ((l1.map (·.den ρ)).length) = c.N := by simp [a1, q5]
              have e1 : ((l1 ++ l2).map (·.den ρ)).take c.N = l1.map (·.den ρ) := by rw [List.map_append, ← hlen, List.take_left]
              have e2 : ((l1 ++ l2).map (·.den ρ)).drop c.N = l2.map (·.den ρ) := by rw [List.map_append, ← hlen, List.drop_left]
              have := r3 w (m b) hw.ext g1 (by rw [e1, ← a3, ← q4]; rw [hr0 (by simpa using q6), List.append_nil] at g3; exact g3)
              rw [e2, b2, ← q1, ← q2, ← q3] at this
              simp only [V.rel, W.den, A.den] at hx
              rw [hx]
              exact this
  · exact hk.elim

theorem repA_ord (k : IntKind) (lo hi : Int) (i N : Nat) : isOrd (repA k lo hi i N) = true := by cases N <;> rfl
noncomputable def SCon.tree (P : Program) (gl : Glo) (cal : Cal) (li : FuncId → Nat → Option LoopI) (rounds d : Nat) (c : SCon) : T :=
  callE P gl cal li rounds d c.f (c.bds.length) (.w (.one (.slc 0 c.off c.len c.cap)) :: (symL c.N c.args).map V.w) [(repA c.k c.lo c.hi 0 c.N, (c.ty, false))] fun _ v bl' => match bl' with
    | (cs, t) :: _ => cond (beqL (repA c.k c.lo c.hi 0 c.N) cs && Nat.beq c.ty t.1 && !t.2) (.leaf v) .stuck
    | [] => .stuck
theorem SCon.calls {wb : World} {c : SCon} {cal : Cal} {li : FuncId → Nat → Option LoopI} {rounds d : Nat} {L : V → Env → Prop} (hm : P.follows .mixedOrders = true) (hcal : ∀ r ex ro, CalOk S P gl ⟨wb, r, ex, ro, []⟩ cal) (hg : GOk gl ⟨wb, wb, fun _ => False, fun _ => False, []⟩) {zs : List Int} (hz : inB c.bds zs)
    (ht : (c.tree P gl cal li rounds d).holds S L (fun _ _ => False) (updL (fun _ => 0) 0 zs)) (w : World) (g : Nat) (hw : wb.Extends w) (hgb : wb.heap.size ≤ g) (hcell : w.heap[g]? = some (.cells ((zs.take c.N).map (.int c.k)).toArray c.ty (0, 0))) :
    Calls P c.f (.slice (some ⟨g, c.off, none⟩) c.len c.cap :: valL c.args (zs.drop c.N)).toArray w fun e w' => ∃ v ρ' m val, e = .returned val ∧ v.rel ρ' m val ∧ L v ρ' ∧ w.Extends w' := by
  have hat := At.updL (fun _ => 0) 0 zs
  have hsp := inB_split hz
  rw [repB_len] at hsp
  have hN : c.bds.length = c.N + (bdsL c.args).length := by simp [SCon.bds, repB_len]
  have h1 := repA_spec (ρ := updL (fun _ => 0) 0 zs) (m := fun _ => g) (N := c.bds.length) (nb := 1) (k := c.k) c.N 0 zs hsp.1 hat (by omega)
  have h2 := symL_spec (ρ := updL (fun _ => 0) 0 zs) (m := fun _ => g) (N := c.bds.length) (nb := 1) (s := c.N) c.args hsp.2 (by have := hat.drop c.N; simpa using this) (by omega)
  have hmem : Mem ⟨wb, w, fun i => i = g, fun _ => False, []⟩ (updL (fun _ => 0) 0 zs) (fun _ => g) [(repA c.k c.lo c.hi 0 c.N, (c.ty, false))] w := by
    refine ⟨hw, rfl, rfl, rfl, Nat.le_refl _, fun _ _ _ => rfl, fun i cs t h _ => ?_, fun i sh off code cap kind t h => ?_, fun i j p q hi hj _ => .inl (by have h1 := (List.getElem?_eq_some_iff.1 hi).1; have h2 := (List.getElem?_eq_some_iff.1 hj).1; simp at h1 h2; omega)⟩
    rotate_left
    · cases i with
      | zero =>
        simp only [List.getElem?_cons_zero, Option.some.injEq, Prod.mk.injEq] at h
        have := repA_ord c.k c.lo c.hi 0 c.N
        rw [h.1] at this; cases this
      | succ i => simp at h
    cases i with
    | zero => simp at h; obtain ⟨rfl, rfl⟩ := h; exact ⟨hgb, .inl rfl, [], fun _ => rfl, by rw [h1.2, List.append_nil]; exact hcell⟩
    | succ i => simp at h
  have hb0 : BlOk c.bds.length 1 (updL (fun _ => 0) 0 zs) [(repA c.k c.lo c.hi 0 c.N, (c.ty, false))] := fun p hp => by simp at hp; subst hp; exact h1.1
  have hrel : LRel (updL (fun _ => 0) 0 zs) (fun _ => g) (V.w (.one (.slc 0 c.off c.len c.cap)) :: (symL c.N c.args).map V.w) (Value.slice (some ⟨g, c.off, none⟩) c.len c.cap :: (symL c.N c.args).map (W.den (updL (fun _ => 0) 0 zs) fun _ => g)) := ⟨rfl, LRel_sym _⟩
  have hvs : ∀ v ∈ (V.w (.one (.slc 0 c.off c.len c.cap)) :: (symL c.N c.args).map V.w), V.ok c.bds.length 1 (updL (fun _ => 0) 0 zs) v := fun v hv => by
    rcases List.mem_cons.1 hv with rfl | hv
    · simp [V.ok, W.ok, A.ok]
    · obtain ⟨u, hu, rfl⟩ := List.mem_map.1 hv
      exact h2.1 u hu
  have key := (callE_ok rfl (L := L) (li := li) (rounds := rounds) hm (hcal w (fun i => i = g) (fun _ => False)) hg d c.f c.bds.length _ [(repA c.k c.lo c.hi 0 c.N, (c.ty, false))] _ (fun _ _ => False) _ (fun _ => g) w _ (fun e w' => ∃ v ρ' m val, e = .returned val ∧ V.rel ρ' m v val ∧ L v ρ' ∧ w.Extends w') hb0 hmem hvs hrel ht ?_).2
  · rw [h2.2] at key; exact key
  · intro n' v bl' G' ρ' m' w' val p1 p2 p3 p4 p5 p6 p7
    match bl', p7, p6, p1 with
    | [], p7, _, _ => exact p7.elim
    | (cs, t) :: r, p7, p6, p1 =>
      simp only at p7
      cases hc : (beqL (repA c.k c.lo c.hi 0 c.N) cs && Nat.beq c.ty t.1 && !t.2) with
      | false => simp [hc, T.holds] at p7
      | true =>
        simp only [hc, cond_true, T.holds] at p7
        simp only [Bool.and_eq_true] at hc
        have e1 := beqL_eq hc.1.1
        have e2 : t = (c.ty, false) := Prod.ext (Nat.eq_of_beq_eq_true hc.1.2).symm (by simpa using hc.2)
        subst e1; subst e2
        refine ⟨v, ρ', m', val, rfl, p4, p7, ?_⟩
        have hm0 : m' 0 = g := p1.hm 0 (by simp)
        have hblk : ∀ i : Nat, i < w.heap.size → w'.heap[i]? = w.heap[i]? := fun i hi => by
          by_cases hig : i = g
          · subst hig
            obtain ⟨_, _, r3, hr3, h3⟩ := p6.blk 0 _ _ rfl (repA_ord _ _ _ _ _)
            rw [hm0, hr3 rfl, List.append_nil] at h3
            rw [h3, hcell, ← h1.2, map_den_ext h1.1 p1.ha (fun b hb => p1.hm b (by simpa using hb))]
          · exact p6.frm i hi hig
        exact ⟨p6.hos, p6.htape, p6.hout, p6.hsize, fun a ha => by simp only [World.cell?, hblk a.block ha], fun a ha => by simp only [World.frozen?, hblk a.block ha], hblk⟩

theorem SCon.of_tree {wb : World} {c : SCon} {cal : Cal} {li : FuncId → Nat → Option LoopI} {rounds d : Nat} {spec : List Int → List Int → Prop} (hm : P.follows .mixedOrders = true) (hcal : ∀ r ex ro, CalOk S P gl ⟨wb, r, ex, ro, []⟩ cal) (hg : GOk gl ⟨wb, wb, fun _ => False, fun _ => False, []⟩)
    (hf : ∀ args w, (callFunc c.f args).run P w = .ok (.enter c.f args) w) (hu : ∀ zs rs, spec zs rs → inB (bdsL c.res) rs) (F : List Int → List Int) (hF : ∀ zs rs, spec zs rs → rs = F zs) (hFs : ∀ zs, inB c.bds zs → spec zs (F zs))
    (ht : ∀ zs, inB c.bds zs → (c.tree P gl cal li rounds d).holds S (LeafK c.res fun rs => spec zs rs) (fun _ _ => False) (updL (fun _ => 0) 0 zs)) : c.Ok P wb spec := by
  refine ⟨hf, fun zs hz => ⟨F zs, hu _ _ (hFs zs hz), hFs zs hz, fun w g hw hgb hcell => ?_⟩⟩
  refine (SCon.calls hm hcal hg hz (ht zs hz) w g hw hgb hcell).mono fun e w' ⟨v, ρ', m, val, h1, h2, h3, h4⟩ => ?_
  obtain ⟨rs', hs', hv'⟩ := LeafK_spec h3 h2
  rw [hF zs rs' hs'] at hv'
  exact ⟨by rw [h1, hv'], h4⟩

/-- Contracts, those with a slice too, and math/bits. -/
noncomputable def calS (scons : List SCon) (cons : List Con) (mulF addF subF : FuncId) : Cal := fun f =>
  match scons.filter (fun c => Nat.beq f c.f) with
  | [] => calOf cons mulF addF subF f
  | l => some fun bl vs n k => match l.find? (fun c => match vs with | .w (.one (.slc b off len cap)) :: _ => (match bl[b]? with | some (cs, t) => Nat.beq off c.off && Nat.beq len c.len && Nat.beq cap c.cap && Nat.beq t.1 c.ty && !t.2 && Nat.beq cs.length c.N | none => false) | _ => false) with
    | some c => c.M bl vs n k
    | none => .stuck
theorem calS_ok {scons : List SCon} {cons : List Con} {mulF addF subF : FuncId} (hm : Mul64Ok P mulF) (ha : Add64Ok P addF) (hs : Sub64Ok P subF) (hsc : ∀ c ∈ scons, c.Ok P w0.b (S c.id)) (hc : ∀ c ∈ cons, c.OkF P w0.b (S c.id)) : CalOk S P gl w0 (calS scons cons mulF addF subF) := by
  intro f g hfg L n ρ m bl vs xs h1 h2 h3 h4
  unfold calS at hfg
  split at hfg
  · exact calOf_ok (gl := gl) hm ha hs hc f g hfg L n ρ m bl vs xs h1 h2 h3 h4
  · rename_i l hl
    simp only [Option.some.injEq] at hfg
    subst hfg
    intro G k hk
    simp only at hk
    split at hk
    · rename_i c hcf
      have hmem := List.mem_of_find?_eq_some hcf
      have hin := List.mem_filter.1 hmem
      have hff := Nat.eq_of_beq_eq_true hin.2
      subst hff
      exact SCon.snd (hsc c hin.1) (fun _ _ h => h) L n ρ m bl vs xs h1 h3 h4 G k hk
    · exact hk.elim
end
end Go.Rx

/- The entries of math/bits; contracts out of conditions; digits. -/
set_option linter.unusedVariables false
set_option linter.unusedSimpArgs false
namespace Go.Rx

theorem add64Ok_of {P : Program} {f : FuncId} {fn : Func} (hf : P.funcs[f]? = some fn) (hname : (fn.name == "runtime.NumGoroutine") = false) (hb : fn.body.isNone = true) (hn : Extern.findNext fn = none) (he : Extern.find fn = some add64Entry) : Add64Ok P f := by
  intro x y c hx hy hc hc1 w
  refine .inl ?_
  rw [run_callFunc_extern hf hname hb hn he, run_add64 x y c hx hy hc hc1]
  rfl
def sub64Ent : Array Value → Sem Value := fun args => do
  let (x, y, b) ← Extern.MathBitsCarry.three "Sub64" args
  pure (Extern.MathBitsCarry.pair ((x + Extern.MathBitsCarry.m64 - y - b) % Extern.MathBitsCarry.m64) (if x < y + b then 1 else 0))
theorem run_sub64E {P : Program} (x y b : Nat) (hb : b ≤ 1) (w : World) :
    (sub64Ent #[.int .u64 x, .int .u64 y, .int .u64 b]).run P w =
      .ok (.tuple #[.int .u64 (((x + 18446744073709551616 - y - b) % 18446744073709551616 : Nat) : Int), .int .u64 ((if x < y + b then 1 else 0 : Nat) : Int)]) w := by
  have : b = 0 ∨ b = 1 := by omega
  rcases this with rfl | rfl <;> rfl
theorem sub64Ok_of {P : Program} {f : FuncId} {fn : Func} (hf : P.funcs[f]? = some fn) (hname : (fn.name == "runtime.NumGoroutine") = false) (hb : fn.body.isNone = true) (hn : Extern.findNext fn = none) (he : Extern.find fn = some sub64Ent) : Sub64Ok P f := by
  intro x y c hx hx1 hy hy1 hc hc1 w
  refine .inl ?_
  obtain ⟨X, rfl⟩ := Int.eq_ofNat_of_zero_le hx
  obtain ⟨Y, rfl⟩ := Int.eq_ofNat_of_zero_le hy
  obtain ⟨C, rfl⟩ := Int.eq_ofNat_of_zero_le hc
  rw [run_callFunc_extern hf hname hb hn he, run_sub64E X Y C (by omega)]
  have e1 : (((X + 18446744073709551616 - Y - C) % 18446744073709551616 : Nat) : Int) = ((X : Int) - Y - C) % 18446744073709551616 := by omega
  have e2 : (((if X < Y + C then 1 else 0 : Nat)) : Int) = -(((X : Int) - Y - C) / 18446744073709551616) := by split <;> omega
  rw [e1, e2]
  rfl

/-- Go code of one's own. -/
def goB (P : Program) (f : FuncId) : Bool := match P.funcs[f]? with
  | some fn => !(fn.name == "runtime.NumGoroutine") && fn.body.isSome
  | none => false
theorem enters {P : Program} {f : FuncId} (h : goB P f = true) (args : Array Value) (w : World) : (callFunc f args).run P w = .ok (.enter f args) w := by
  unfold goB at h
  cases hf : P.funcs[f]? with
  | none => simp [hf] at h
  | some fn =>
    simp only [hf, Bool.and_eq_true, Bool.not_eq_true'] at h
    have h1 : fn.name ≠ "runtime.NumGoroutine" := by simpa using h.1
    obtain ⟨c, hc⟩ := Option.isSome_iff_exists.1 h.2
    simp [callFunc, hf, h1, hc, Sem.run]
section
variable {S : Nat → List Int → List Int → Prop} {P : Program} {gl : Glo} {wb : World}
/-- **A contract, out of its condition.** -/
theorem Con.of_vc {c : Con} {cal : Cal} {li : FuncId → Nat → Option LoopI} {rounds d : Nat} {spec : List Int → List Int → Prop} (hm : P.follows .mixedOrders = true) (hcal : ∀ r ex ro, CalOk S P gl ⟨wb, r, ex, ro, []⟩ cal) (hg : GOk gl ⟨wb, wb, fun _ => False, fun _ => False, []⟩)
    (hf : ∀ args w, (callFunc c.f args).run P w = .ok (.enter c.f args) w) (hu : ∀ zs rs rs', inB (bdsL c.args) zs → inB (bdsL c.res) rs → inB (bdsL c.res) rs' → spec zs rs → spec zs rs' → rs = rs')
    (ht : allB (bdsL c.args) fun zs => (c.tree P gl cal li rounds d).holds S (LeafK c.res fun rs => inB (bdsL c.res) rs ∧ spec zs rs) (fun _ _ => False) (updL (fun _ => 0) 0 zs)) : c.Ok P wb spec := by
  refine ⟨hf, fun zs hz => ?_⟩
  have h0 := Con.calls hm hcal hg hz (allB_elim ht hz) wb (World.Extends.refl wb)
  obtain ⟨e, w', v, ρ', m, val, h1, h2, h3, h4⟩ := Calls.some h0
  obtain ⟨rs, ⟨hb, hs⟩, hv⟩ := LeafK_spec h3 h2
  refine ⟨rs, hb, hs, fun w hw => ?_⟩
  refine (Con.calls hm hcal hg hz (allB_elim ht hz) w hw).mono fun e w' ⟨v, ρ', m, val, h1, h2, h3, h4⟩ => ?_
  obtain ⟨rs', ⟨hb', hs'⟩, hv'⟩ := LeafK_spec h3 h2
  rw [hu zs rs' rs hz hb' hb hs' hs] at hv'
  exact ⟨by rw [h1, hv'], h4⟩
theorem SCon.of_vc {c : SCon} {cal : Cal} {li : FuncId → Nat → Option LoopI} {rounds d : Nat} {spec : List Int → List Int → Prop} (hm : P.follows .mixedOrders = true) (hcal : ∀ r ex ro, CalOk S P gl ⟨wb, r, ex, ro, []⟩ cal) (hg : GOk gl ⟨wb, wb, fun _ => False, fun _ => False, []⟩)
    (hf : ∀ args w, (callFunc c.f args).run P w = .ok (.enter c.f args) w) (hu : ∀ zs rs rs', inB c.bds zs → inB (bdsL c.res) rs → inB (bdsL c.res) rs' → spec zs rs → spec zs rs' → rs = rs') (hex : ∀ zs, inB c.bds zs → ∃ rs, inB (bdsL c.res) rs ∧ spec zs rs)
    (ht : allB c.bds fun zs => (c.tree P gl cal li rounds d).holds S (LeafK c.res fun rs => inB (bdsL c.res) rs ∧ spec zs rs) (fun _ _ => False) (updL (fun _ => 0) 0 zs)) : c.Ok P wb spec := by
  refine ⟨hf, fun zs hz => ?_⟩
  obtain ⟨rs, hb, hs⟩ := hex zs hz
  refine ⟨rs, hb, hs, fun w g hw hgb hcell => ?_⟩
  refine (SCon.calls hm hcal hg hz (allB_elim ht hz) w g hw hgb hcell).mono fun e w' ⟨v, ρ', m, val, h1, h2, h3, h4⟩ => ?_
  obtain ⟨rs', ⟨hb', hs'⟩, hv'⟩ := LeafK_spec h3 h2
  rw [hu zs rs' rs hz hb' hb hs' hs] at hv'
  exact ⟨by rw [h1, hv'], h4⟩
end

/-! ### Digits -/
/-- The number whose digits to the base b these are, the lowest first. -/
def num (b : Int) : List Int → Int
  | [] => 0
  | x :: r => x + b * num b r
theorem num_nonneg {b lo hi : Int} (hb : 0 < b) (hl : 0 ≤ lo) : ∀ {n : Nat} {l : List Int}, inB (repB lo hi n) l → 0 ≤ num b l
  | 0, [], _ => Int.le_refl _
  | _ + 1, x :: r, h => by
    have := num_nonneg hb hl h.2.2
    have h2 : 0 ≤ b * num b r := Int.mul_nonneg (Int.le_of_lt hb) this
    have := h.1
    simp only [num]; omega
  | 0, _ :: _, h => h.elim
  | _ + 1, [], h => h.elim
theorem num_lt {b : Int} (hb : 0 < b) : ∀ {n : Nat} {l : List Int}, inB (repB 0 (b - 1) n) l → num b l < b ^ n
  | 0, [], _ => by simp [num]
  | n + 1, x :: r, h => by
    have := num_lt hb h.2.2
    have h2 : b * (num b r + 1) ≤ b * b ^ n := Int.mul_le_mul_of_nonneg_left (by omega) (Int.le_of_lt hb)
    have := h.2.1
    simp only [num]
    rw [Int.pow_succ, Int.mul_comm _ b]
    have : b * (num b r + 1) = b * num b r + b := by rw [Int.mul_add, Int.mul_one]
    omega
  | 0, _ :: _, h => h.elim
  | _ + 1, [], h => h.elim
theorem num_inj {b : Int} (hb : 0 < b) : ∀ {n : Nat} {l l' : List Int}, inB (repB 0 (b - 1) n) l → inB (repB 0 (b - 1) n) l' → num b l = num b l' → l = l'
  | 0, [], [], _, _, _ => rfl
  | n + 1, x :: r, x' :: r', h, h', he => by
    simp only [num] at he
    have e1 : (x + b * num b r) % b = (x' + b * num b r') % b := by rw [he]
    rw [Int.add_mul_emod_self_left, Int.add_mul_emod_self_left, Int.emod_eq_of_lt h.1 (by have := h.2.1; omega), Int.emod_eq_of_lt h'.1 (by have := h'.2.1; omega)] at e1
    subst e1
    have e2 : b * num b r = b * num b r' := by omega
    have e3 := Int.eq_of_mul_eq_mul_left (by omega) e2
    rw [num_inj hb h.2.2 h'.2.2 e3]
  | 0, _ :: _, _, h, _, _ => h.elim
  | _ + 1, [], _, h, _, _ => h.elim
  | 0, [], _ :: _, _, h', _ => h'.elim
  | _ + 1, _ :: _, [], _, h', _ => h'.elim
/-- The n lowest digits. -/
def digs (b : Int) : Nat → Int → List Int
  | 0, _ => []
  | n + 1, x => x % b :: digs b n (x / b)
theorem digs_in {b : Int} (hb : 0 < b) : ∀ (n : Nat) (x : Int), inB (repB 0 (b - 1) n) (digs b n x)
  | 0, _ => trivial
  | n + 1, x => ⟨Int.emod_nonneg _ (by omega), by have := Int.emod_lt_of_pos x hb; omega, digs_in hb n _⟩
theorem num_digs {b : Int} (hb : 0 < b) : ∀ (n : Nat) (x : Int), 0 ≤ x → x < b ^ n → num b (digs b n x) = x
  | 0, x, h0, h => by simp at h; simp [digs, num]; omega
  | n + 1, x, h0, h => by
    have h1 : x / b < b ^ n := Int.ediv_lt_of_lt_mul hb (by rw [Int.pow_succ] at h; exact h)
    have h2 : 0 ≤ x / b := Int.ediv_nonneg h0 (Int.le_of_lt hb)
    simp only [digs, num, num_digs hb n _ h2 h1]
    have := Int.emod_add_mul_ediv x b
    omega

/-! ### math/bits.Mul64, out of its own tree -/
def mulVC (K : List Int → List Int → Prop) : Prop :=
 ∀ z0 : Int, 0 ≤ z0 → z0 ≤ 18446744073709551615 →
 ∀ z1 : Int, 0 ≤ z1 → z1 ≤ 18446744073709551615 →
 ∀ z2 : Int, 0 ≤ z2 → z2 ≤ 4294967295 → 0 ≤ ((1 * z0 + 0) + 0) - 4294967296 * z2 → ((1 * z0 + 0) + 0) - 4294967296 * z2 < 4294967296 →
 ∀ z3 : Int, 0 ≤ z3 → z3 ≤ 4294967295 → 0 ≤ ((1 * z0 + 0) + 0) - 4294967296 * z3 → ((1 * z0 + 0) + 0) - 4294967296 * z3 < 4294967296 →
 ∀ z4 : Int, 0 ≤ z4 → z4 ≤ 4294967295 → 0 ≤ ((1 * z1 + 0) + 0) - 4294967296 * z4 → ((1 * z1 + 0) + 0) - 4294967296 * z4 < 4294967296 →
 ∀ z5 : Int, 0 ≤ z5 → z5 ≤ 4294967295 → 0 ≤ ((1 * z1 + 0) + 0) - 4294967296 * z5 → ((1 * z1 + 0) + 0) - 4294967296 * z5 < 4294967296 →
 ∀ z6 : Int, 0 ≤ z6 → z6 ≤ 18446744065119617025 → z6 = ((1 * z0 + ((-4294967296) * z2 + 0)) + 0) * ((1 * z1 + ((-4294967296) * z4 + 0)) + 0) →
 ∀ z7 : Int, 0 ≤ z7 → z7 ≤ 18446744065119617025 → z7 = ((1 * z3 + 0) + 0) * ((1 * z1 + ((-4294967296) * z4 + 0)) + 0) →
 ∀ z8 : Int, 0 ≤ z8 → z8 ≤ 4294967294 → 0 ≤ ((1 * z6 + 0) + 0) - 4294967296 * z8 → ((1 * z6 + 0) + 0) - 4294967296 * z8 < 4294967296 →
 ∀ z9 : Int, 0 ≤ z9 → z9 ≤ 4294967294 → 0 ≤ ((1 * z7 + (1 * z8 + 0)) + 0) - 4294967296 * z9 → ((1 * z7 + (1 * z8 + 0)) + 0) - 4294967296 * z9 < 4294967296 →
 ∀ z10 : Int, 0 ≤ z10 → z10 ≤ 4294967294 → 0 ≤ ((1 * z7 + (1 * z8 + 0)) + 0) - 4294967296 * z10 → ((1 * z7 + (1 * z8 + 0)) + 0) - 4294967296 * z10 < 4294967296 →
 ∀ z11 : Int, 0 ≤ z11 → z11 ≤ 18446744065119617025 → z11 = ((1 * z0 + ((-4294967296) * z2 + 0)) + 0) * ((1 * z5 + 0) + 0) →
 ∀ z12 : Int, 0 ≤ z12 → z12 ≤ 18446744065119617025 → z12 = ((1 * z3 + 0) + 0) * ((1 * z5 + 0) + 0) →
 ∀ z13 : Int, 0 ≤ z13 → z13 ≤ 4294967295 → 0 ≤ ((1 * z7 + (1 * z8 + ((-4294967296) * z9 + (1 * z11 + 0)))) + 0) - 4294967296 * z13 → ((1 * z7 + (1 * z8 + ((-4294967296) * z9 + (1 * z11 + 0)))) + 0) - 4294967296 * z13 < 4294967296 →
 ∀ z14 : Int, 0 ≤ z14 → z14 ≤ 340282366920938463426481119284349108225 → z14 = ((1 * z0 + 0) + 0) * ((1 * z1 + 0) + 0) →
 ∀ z15 : Int, 0 ≤ z15 → z15 ≤ 18446744073709551614 → 0 ≤ ((1 * z14 + 0) + 0) - 18446744073709551616 * z15 → ((1 * z14 + 0) + 0) - 18446744073709551616 * z15 < 18446744073709551616 →
 K [z0, z1] [((1 * z10 + (1 * z12 + (1 * z13 + 0))) + 0), ((1 * z14 + ((-18446744073709551616) * z15 + 0)) + 0)]
def wd : D := .int .u64 0 18446744073709551615
def cMul (f : FuncId) : Con := ⟨f, 0, [wd, wd], [wd, wd]⟩
theorem mul_alg (x y a b : Int) : x * y = (x + (-4294967296) * a) * (y + (-4294967296) * b) + 4294967296 * (a * (y + (-4294967296) * b) + (x + (-4294967296) * a) * b) + 18446744073709551616 * (a * b) := by
  grind
theorem mulVC_holds : mulVC fun zs rs => inB (bdsL [wd, wd]) rs ∧ rs = [zs.getD 0 0 * zs.getD 1 0 / 18446744073709551616, zs.getD 0 0 * zs.getD 1 0 % 18446744073709551616] := by
  unfold mulVC
  intro x h1 h2 y h3 h4 a h5 h6 h7 h8 a' h9 h10 h11 h12 b h13 h14 h15 h16 b' h17 h18 h19 h20 p h21 h22 h23 q h24 h25 h26 c h27 h28 h29 h30 d h31 h32 h33 h34 d' h35 h36 h37 h38 r h39 h40 h41 s h42 h43 h44 t h45 h46 h47 h48 m h49 h50 h51 u h52 h53 h54 h55
  have e1 : a' = a := by omega
  have e2 : b' = b := by omega
  have e3 : d' = d := by omega
  subst e1; subst e2; subst e3
  simp only [Int.one_mul, Int.add_zero] at *
  have := mul_alg x y a' b'
  rw [← h51, ← h23, ← h26, ← h41, ← h44] at this
  simp only [List.getD_cons_zero, List.getD_cons_succ, ← h51, bdsL, wd, D.bds, List.cons_append, List.nil_append, inB, and_true, List.cons.injEq]
  omega
theorem mul64Ok_of {P : Program} {f : FuncId} (hm : P.follows .mixedOrders = true) (hf : ∀ args w, (callFunc f args).run P w = .ok (.enter f args) w)
    (h : ∀ K, (allB (bdsL (cMul f).args) fun zs => ((cMul f).tree P [] (fun _ => none) (fun _ _ => none) 600 6).holds (fun _ _ _ => True) (LeafK (cMul f).res (K zs)) (fun _ _ => False) (updL (fun _ => 0) 0 zs)) = mulVC K) : Mul64Ok P f := by
  intro x y hx hx1 hy hy1 w
  have hv := mulVC_holds
  rw [← h] at hv
  have hin : inB (bdsL (cMul f).args) [x, y] := ⟨hx, by omega, hy, by omega, trivial⟩
  refine .inr ⟨hf _ _, ?_⟩
  have := Con.calls (wb := w) hm (fun r ex ro f g hfg => by cases hfg) (fun g cs hg => by cases hg) hin (allB_elim hv hin) w (World.Extends.refl w)
  refine this.mono fun e w' ⟨v, ρ', m, val, h1, h2, h3, h4⟩ => ?_
  obtain ⟨rs, ⟨_, hr⟩, hv⟩ := LeafK_spec h3 h2
  rw [h1, hv, hr]
  exact ⟨rfl, h4⟩
end Go.Rx

/- Conditions by blocks: an array that a call hands back is one list; what is handed on whole is that list. -/
set_option linter.unusedVariables false
set_option linter.unusedSimpArgs false
namespace Go.Rx

/-- Where the blocks lie, the newest first; and what they hold. -/
abbrev BSt := List (Nat × Nat)
abbrev BDy := List (List Int)
def lookB : BSt → BDy → Nat → Int
  | (s, k) :: st, l :: dy, i => cond (Nat.ble s i && Nat.blt i (s + k)) (l.getD (i - s) 0) (lookB st dy i)
  | _, _, _ => 0
def lensB : BSt → BDy → Prop
  | (_, k) :: st, l :: dy => l.length = k ∧ lensB st dy
  | [], [] => True
  | _, _ => False
/-- The blocks tell the unknowns. -/
def Tells (ρ : Env) (st : BSt) (dy : BDy) : Prop := lensB st dy ∧ ∀ i, ρ i = lookB st dy i

def denTB (st : BSt) (dy : BDy) : List (Int × Nat) → Int
  | [] => 0
  | (k, i) :: r => match r with
    | [] => cond (k == 1) (lookB st dy i) (k * lookB st dy i)
    | _ => cond (k == 1) (lookB st dy i) (k * lookB st dy i) + denTB st dy r
def Lin.denB (st : BSt) (dy : BDy) (l : Lin) : Int :=
  match l.ts with
  | [] => l.c
  | ts => cond (l.c == 0) (denTB st dy ts) (denTB st dy ts + l.c)
theorem denTB_eq {ρ : Env} {st : BSt} {dy : BDy} (h : ∀ i, ρ i = lookB st dy i) : ∀ ts, denTB st dy ts = denT ρ ts
  | [] => rfl
  | (k, i) :: [] => by
    simp only [denTB, denT, ← h i]
    cases hk : (k == 1) with
    | true => have : k = 1 := by simpa using hk
              subst this; simp
    | false => simp
  | (k, i) :: t :: r => by
    have ih := denTB_eq h (t :: r)
    rw [denTB, denT, ih, ← h i]
    · cases hk : (k == 1) with
      | true => have : k = 1 := by simpa using hk
                subst this; simp
      | false => simp
    · intro hc; cases hc
theorem Lin.denB_eq {ρ : Env} {st : BSt} {dy : BDy} (h : ∀ i, ρ i = lookB st dy i) (l : Lin) : l.denB st dy = l.den ρ := by
  unfold Lin.denB Lin.den
  cases hl : l.ts with
  | nil => simp [denT]
  | cons t r =>
    simp only [denTB_eq h]
    cases hc : (l.c == 0) with
    | true => have : l.c = 0 := by simpa using hc
              rw [this]; simp
    | false => simp

def findBlk : BSt → BDy → Nat → Nat → Option (List Int)
  | (s, k) :: st, l :: dy, i, len => cond (Nat.beq s i && Nat.beq k len) (some l) (cond (Nat.ble (i + len) s || Nat.ble (s + k) i) (findBlk st dy i len) none)
  | _, _, _, _ => none
theorem findBlk_spec : ∀ {st : BSt} {dy : BDy} {i len : Nat} {l : List Int}, findBlk st dy i len = some l → lensB st dy → l.length = len ∧ ∀ j, j < len → lookB st dy (i + j) = l.getD j 0
  | [], _, _, _, _, h, _ => by simp [findBlk] at h
  | _ :: _, [], _, _, _, h, _ => by simp [findBlk] at h
  | (s, k) :: st, l' :: dy, i, len, l, h, hl => by
    unfold findBlk at h
    cases h1 : (Nat.beq s i && Nat.beq k len) with
    | true =>
      simp only [h1, cond_true, Option.some.injEq] at h
      subst h
      simp only [Bool.and_eq_true] at h1
      have e1 := Nat.eq_of_beq_eq_true h1.1
      have e2 := Nat.eq_of_beq_eq_true h1.2
      subst e1; subst e2
      refine ⟨hl.1, fun j hj => ?_⟩
      unfold lookB
      have : (Nat.ble s (s + j) && Nat.blt (s + j) (s + k)) = true := by simp [Nat.blt]; omega
      rw [this, cond_true, Nat.add_sub_cancel_left]
    | false =>
      simp only [h1, cond_false] at h
      cases h2 : (Nat.ble (i + len) s || Nat.ble (s + k) i) with
      | false => simp [h2] at h
      | true =>
        simp only [h2, cond_true] at h
        obtain ⟨g1, g2⟩ := findBlk_spec h hl.2
        refine ⟨g1, fun j hj => ?_⟩
        rw [← g2 j hj]
        conv => lhs; unfold lookB
        have : (Nat.ble s (i + j) && Nat.blt (i + j) (s + k)) = false := by
          simp only [Bool.or_eq_true, Nat.ble_eq] at h2
          cases h3 : (Nat.ble s (i + j) && Nat.blt (i + j) (s + k)) with
          | false => rfl
          | true => simp [Nat.blt] at h3; omega
        rw [this, cond_false]
def isVars : Nat → List Lin → Bool
  | _, [] => true
  | i, l :: r => (l.c == 0 && (match l.ts with | [(k, j)] => k == 1 && Nat.beq i j | _ => false)) && isVars (i + 1) r
def firstVar : List Lin → Nat
  | [] => 0
  | l :: _ => match l.ts with | [(_, j)] => j | _ => 0
theorem isVars_spec {ρ : Env} : ∀ {ls : List Lin} {i : Nat}, isVars i ls = true → ∀ j, j < ls.length → (ls.map (·.den ρ)).getD j 0 = ρ (i + j)
  | [], _, _, j, hj => by simp at hj
  | l :: r, i, h, j, hj => by
    simp only [isVars, Bool.and_eq_true] at h
    cases j with
    | zero =>
      obtain ⟨⟨h1, h2⟩, _⟩ := h
      have hc : l.c = 0 := by simpa using h1
      cases hl : l.ts with
      | nil => simp [hl] at h2
      | cons t s =>
        cases s with
        | cons t' s' => simp [hl] at h2
        | nil =>
          obtain ⟨k, q⟩ := t
          simp only [hl, Bool.and_eq_true] at h2
          have e1 : k = 1 := by simpa using h2.1
          have e2 := Nat.eq_of_beq_eq_true h2.2
          subst e1; subst e2
          simp [Lin.den, hl, denT, hc]
    | succ j =>
      have := isVars_spec (ρ := ρ) h.2 j (by simpa using hj)
      simp only [List.map_cons, List.getD_cons_succ]
      rw [this]
      congr 1; omega
/-- What linear forms stand for: a block whole, if they are its unknowns. -/
def segB (st : BSt) (dy : BDy) (ls : List Lin) : List Int :=
  cond (Nat.blt 1 ls.length && isVars (firstVar ls) ls) (match findBlk st dy (firstVar ls) ls.length with | some l => l | none => ls.map (Lin.denB st dy)) (ls.map (Lin.denB st dy))
theorem list_ext_getD {l l' : List Int} (hl : l.length = l'.length) (h : ∀ j, j < l.length → l.getD j 0 = l'.getD j 0) : l = l' := by
  apply List.ext_getElem hl
  intro j h1 h2
  have := h j h1
  simpa [List.getD_eq_getElem?_getD, List.getElem?_eq_getElem h1, List.getElem?_eq_getElem h2] using this
theorem segB_eq {ρ : Env} {st : BSt} {dy : BDy} (h : Tells ρ st dy) (ls : List Lin) : segB st dy ls = ls.map (·.den ρ) := by
  have e0 : ls.map (Lin.denB st dy) = ls.map (·.den ρ) := List.map_congr_left fun l _ => Lin.denB_eq h.2 l
  unfold segB
  cases h1 : (Nat.blt 1 ls.length && isVars (firstVar ls) ls) with
  | false => simpa using e0
  | true =>
    simp only [cond_true]
    simp only [Bool.and_eq_true] at h1
    cases h2 : findBlk st dy (firstVar ls) ls.length with
    | none => exact e0
    | some l =>
      obtain ⟨g1, g2⟩ := findBlk_spec h2 h.1
      show l = _
      refine list_ext_getD (by simp [g1]) fun j hj => ?_
      rw [isVars_spec h1.2 j (by omega), h.2, g2 j (by omega)]

def eqsB : BE → Option (List Lin × List Lin)
  | .eq a b => some ([a], [b])
  | .and (.eq a b) r => match eqsB r with | some (x, y) => some (a :: x, b :: y) | none => none
  | _ => none
def BE.denB (st : BSt) (dy : BDy) : BE → Bool
  | lit b => b
  | eq a b => decide (a.denB st dy = b.denB st dy)
  | lt a b => decide (a.denB st dy < b.denB st dy)
  | le a b => decide (a.denB st dy ≤ b.denB st dy)
  | not a => !a.denB st dy
  | and a b => match eqsB (.and a b) with
    | some (x, y) => decide (segB st dy x = segB st dy y)
    | none => a.denB st dy && b.denB st dy
  | iff a b => a.denB st dy == b.denB st dy
theorem eqsB_spec {ρ : Env} : ∀ {b : BE} {x y : List Lin}, eqsB b = some (x, y) → b.den ρ = decide (x.map (·.den ρ) = y.map (·.den ρ))
  | .eq a b, x, y, h => by
    simp only [eqsB, Option.some.injEq, Prod.mk.injEq] at h
    obtain ⟨rfl, rfl⟩ := h
    simp [BE.den]
  | .and (.eq a b) r, x, y, h => by
    simp only [eqsB] at h
    cases hr : eqsB r with
    | none => simp [hr] at h
    | some p =>
      obtain ⟨x', y'⟩ := p
      simp only [hr, Option.some.injEq, Prod.mk.injEq] at h
      obtain ⟨rfl, rfl⟩ := h
      have ih := eqsB_spec (ρ := ρ) hr
      simp only [BE.den, ih, List.map_cons, List.cons.injEq]
      simp
  | .lit _, _, _, h => by simp [eqsB] at h
  | .lt _ _, _, _, h => by simp [eqsB] at h
  | .le _ _, _, _, h => by simp [eqsB] at h
  | .not _, _, _, h => by simp [eqsB] at h
  | .iff _ _, _, _, h => by simp [eqsB] at h
  | .and (.lit _) _, _, _, h => by simp [eqsB] at h
  | .and (.lt _ _) _, _, _, h => by simp [eqsB] at h
  | .and (.le _ _) _, _, _, h => by simp [eqsB] at h
  | .and (.not _) _, _, _, h => by simp [eqsB] at h
  | .and (.and _ _) _, _, _, h => by simp [eqsB] at h
  | .and (.iff _ _) _, _, _, h => by simp [eqsB] at h
theorem BE.denB_eq {ρ : Env} {st : BSt} {dy : BDy} (h : Tells ρ st dy) : ∀ b : BE, b.denB st dy = b.den ρ
  | lit _ => rfl
  | eq a b => by simp only [denB, den, Lin.denB_eq h.2]
  | lt a b => by simp only [denB, den, Lin.denB_eq h.2]
  | le a b => by simp only [denB, den, Lin.denB_eq h.2]
  | not a => by simp only [denB, den, BE.denB_eq h a]
  | and a b => by
    have e1 := BE.denB_eq h a
    have e2 := BE.denB_eq h b
    unfold denB
    cases hq : eqsB (.and a b) with
    | none => simp only [den, e1, e2]
    | some p =>
      obtain ⟨x, y⟩ := p
      simp only [eqsB_spec (ρ := ρ) hq, segB_eq h]
  | iff a b => by simp only [denB, den, BE.denB_eq h a, BE.denB_eq h b]

/-- A list by pieces of these lengths. -/
def splitL {α : Type} : List Nat → List α → List (List α)
  | [], [] => []
  | [], x :: l => [x :: l]
  | k :: ks, l => l.take k :: splitL ks (l.drop k)
theorem splitL_map {α β : Type} (f : α → β) : ∀ (ks : List Nat) (l : List α), splitL ks (l.map f) = (splitL ks l).map (List.map f)
  | [], [] => rfl
  | [], _ :: _ => rfl
  | k :: ks, l => by simp only [splitL, List.map_cons, ← List.map_take, ← List.map_drop, splitL_map f ks]
def sumL : List Nat → Nat
  | [] => 0
  | k :: ks => k + sumL ks
theorem splitL_flat {α : Type} : ∀ {ks : List Nat} {l : List α}, l.length = sumL ks → (splitL ks l).flatten = l
  | [], [], _ => rfl
  | [], _ :: _, h => by simp [sumL] at h
  | k :: ks, l, h => by
    simp only [sumL] at h
    simp only [splitL, List.flatten_cons]
    rw [splitL_flat (by simp; omega), List.take_append_drop]

/-- New unknowns, by pieces of these lengths. -/
def allBl : List Nat → Nat → List (Int × Int) → (BSt → BDy → List (List Int) → Prop) → BSt → BDy → Prop
  | [], _, [], P, st, dy => P st dy []
  | [], _, _ :: _, _, _, _ => False
  | k :: ks, n, bds, P, st, dy => cond (Nat.beq k 1)
      (match bds with
      | (lo, hi) :: bds' => ∀ z : Int, lo ≤ z → z ≤ hi → allBl ks (n + 1) bds' (fun st' dy' ls => P st' dy' ([z] :: ls)) ((n, 1) :: st) ([z] :: dy)
      | [] => False)
      (cond (Nat.ble k bds.length) (∀ r : List Int, inB (bds.take k) r → allBl ks (n + k) (bds.drop k) (fun st' dy' ls => P st' dy' (r :: ls)) ((n, k) :: st) (r :: dy)) False)
theorem updL_app : ∀ (a b : List Int) (n : Nat) (ρ : Env), updL ρ n (a ++ b) = updL (updL ρ n a) (n + a.length) b
  | [], b, n, ρ => rfl
  | z :: a, b, n, ρ => by
    simp only [List.cons_append, updL, List.length_cons]
    rw [updL_app a b]
    congr 1; omega
theorem updL_get : ∀ (l : List Int) (n : Nat) (ρ : Env) (i : Nat), updL ρ n l i = cond (Nat.ble n i && Nat.blt i (n + l.length)) (l.getD (i - n) 0) (ρ i)
  | [], n, ρ, i => by
    have : (Nat.ble n i && Nat.blt i (n + 0)) = false := by
      cases h : (Nat.ble n i && Nat.blt i (n + 0)) with
      | false => rfl
      | true => simp [Nat.blt] at h; omega
    simp only [updL, List.length_nil, this, cond_false]
  | z :: l, n, ρ, i => by
    simp only [updL]
    rw [updL_get l (n + 1)]
    by_cases h1 : i = n
    · subst h1
      have e1 : (Nat.ble (i + 1) i && Nat.blt i (i + 1 + l.length)) = false := by
        have : Nat.ble (i + 1) i = false := by
          cases h : Nat.ble (i + 1) i with
          | false => rfl
          | true => exact absurd (Nat.le_of_ble_eq_true h) (by omega)
        simp [this]
      have e2 : (Nat.ble i i && Nat.blt i (i + (z :: l).length)) = true := by simp [Nat.blt]
      rw [e1, e2]
      simp [upd]
    · have hu : upd ρ n z i = ρ i := upd_ne ρ z h1
      by_cases h2 : n ≤ i ∧ i < n + 1 + l.length
      · have e1 : (Nat.ble (n + 1) i && Nat.blt i (n + 1 + l.length)) = true := by simp [Nat.blt]; omega
        have e2 : (Nat.ble n i && Nat.blt i (n + (z :: l).length)) = true := by simp [Nat.blt]; omega
        rw [e1, e2]
        simp only [cond_true]
        rw [show i - n = (i - (n + 1)) + 1 by omega, List.getD_cons_succ]
      · have e1 : (Nat.ble (n + 1) i && Nat.blt i (n + 1 + l.length)) = false := by
          cases h : (Nat.ble (n + 1) i && Nat.blt i (n + 1 + l.length)) with
          | false => rfl
          | true => simp [Nat.blt] at h; omega
        have e2 : (Nat.ble n i && Nat.blt i (n + (z :: l).length)) = false := by
          cases h : (Nat.ble n i && Nat.blt i (n + (z :: l).length)) with
          | false => rfl
          | true => simp [Nat.blt] at h; omega
        rw [e1, e2]
        simp [hu]
theorem Tells.push {ρ : Env} {st : BSt} {dy : BDy} (h : Tells ρ st dy) (n : Nat) (l : List Int) : Tells (updL ρ n l) ((n, l.length) :: st) (l :: dy) :=
  ⟨⟨rfl, h.1⟩, fun i => by rw [updL_get, lookB, ← h.2 i]⟩
theorem inB_take_drop : ∀ {bds : List (Int × Int)} {zs : List Int} (k : Nat), inB bds zs → inB (bds.take k) (zs.take k) ∧ inB (bds.drop k) (zs.drop k)
  | [], [], k, _ => by simp [inB]
  | [], _ :: _, _, h => h.elim
  | (_, _) :: _, [], _, h => h.elim
  | (l, u) :: b, z :: zs, 0, h => by simpa [inB] using h
  | (l, u) :: b, z :: zs, k + 1, h => by
    obtain ⟨h1, h2, h3⟩ := h
    obtain ⟨g1, g2⟩ := inB_take_drop (bds := b) (zs := zs) k h3
    exact ⟨⟨h1, h2, g1⟩, g2⟩
theorem allBl_elim : ∀ {ks : List Nat} {n : Nat} {bds : List (Int × Int)} {P : BSt → BDy → List (List Int) → Prop} {st : BSt} {dy : BDy} {ρ : Env} {zs : List Int}, allBl ks n bds P st dy → Tells ρ st dy → inB bds zs → ∃ st' dy', Tells (updL ρ n zs) st' dy' ∧ P st' dy' (splitL ks zs)
  | [], n, [], P, st, dy, ρ, [], h, ht, _ => ⟨st, dy, ht, h⟩
  | [], _, [], _, _, _, _, _ :: _, _, _, hi => hi.elim
  | [], _, _ :: _, _, _, _, _, _, h, _, _ => h.elim
  | k :: ks, n, bds, P, st, dy, ρ, zs, h, ht, hi => by
    unfold allBl at h
    cases hk : Nat.beq k 1 with
    | true =>
      have e := Nat.eq_of_beq_eq_true hk
      subst e
      simp only [hk, cond_true] at h
      cases bds with
      | nil => exact h.elim
      | cons b bds' =>
        obtain ⟨lo, hi'⟩ := b
        cases zs with
        | nil => exact hi.elim
        | cons z zs =>
          obtain ⟨h1, h2, h3⟩ := hi
          have := allBl_elim (h z h1 h2) (ht.push n [z]) h3
          obtain ⟨st', dy', g1, g2⟩ := this
          refine ⟨st', dy', g1, ?_⟩
          simpa [splitL] using g2
    | false =>
      simp only [hk, cond_false] at h
      cases hb : Nat.ble k bds.length with
      | false => simp only [hb, cond_false] at h
      | true =>
        simp only [hb, cond_true] at h
        have hb' : k ≤ bds.length := by simpa using hb
        have hlen := inB_len hi
        obtain ⟨i1, i2⟩ := inB_take_drop k hi
        have e : (zs.take k).length = k := by simp; omega
        have ht' := ht.push n (zs.take k)
        rw [e] at ht'
        obtain ⟨st', dy', g1, g2⟩ := allBl_elim (h _ i1) ht' i2
        refine ⟨st', dy', ?_, g2⟩
        have e2 := updL_app (zs.take k) (zs.drop k) n ρ
        rw [List.take_append_drop, e] at e2
        rw [e2]; exact g1

abbrev AgainB := Nat → List (List Int) → Prop
def AgainB.set (A : AgainB) (lid : Nat) (p : List (List Int) → Prop) : AgainB := fun i => cond (Nat.beq i lid) p (A i)
/-- What a tree says, by blocks. -/
def T.holdsB (sh : Nat → List Nat × List Nat) (lsh : Nat → List Nat) (S : Nat → List (List Int) → List (List Int) → Prop) (L : V → BSt → BDy → Prop) : T → AgainB → BSt → BDy → Prop
  | stuck, _, _, _ => False
  | leaf v, _, st, dy => L v st dy
  | div n x d lo hi r, A, st, dy => ∀ q : Int, lo ≤ q → q ≤ hi → 0 ≤ x.denB st dy - d * q → x.denB st dy - d * q < d → r.holdsB sh lsh S L A ((n, 1) :: st) ([q] :: dy)
  | mul n x y lo hi r, A, st, dy => ∀ p : Int, lo ≤ p → p ≤ hi → p = x.denB st dy * y.denB st dy → r.holdsB sh lsh S L A ((n, 1) :: st) ([p] :: dy)
  | bit n op k x y r, A, st, dy => ∀ z : Int, 0 ≤ z → z ≤ k.max → z = bitI op k (x.denB st dy) (y.denB st dy) → r.holdsB sh lsh S L A ((n, 1) :: st) ([z] :: dy)
  | shr n x y lo hi r, A, st, dy => ∀ z : Int, lo ≤ z → z ≤ hi → z = x.denB st dy / 2 ^ (y.denB st dy).toNat → r.holdsB sh lsh S L A ((n, 1) :: st) ([z] :: dy)
  | sel n cs ix lo hi r, A, st, dy => ∀ z : Int, lo ≤ z → z ≤ hi → z = (segB st dy cs).getD (ix.denB st dy).toNat 0 → r.holdsB sh lsh S L A ((n, 1) :: st) ([z] :: dy)
  | br b t e, A, st, dy => (b.denB st dy = true → t.holdsB sh lsh S L A st dy) ∧ (b.denB st dy = false → e.holdsB sh lsh S L A st dy)
  | call id args n bds r, A, st, dy => allBl (sh id).2 n bds (fun st' dy' rs => S id ((splitL (sh id).1 args).map (segB st dy)) rs → r.holdsB sh lsh S L A st' dy') st dy
  | loop lid init n bds r, A, st, dy => ∃ (I : List (List Int) → Prop) (μ : List (List Int) → Nat), I ((splitL (lsh lid) init).map (segB st dy)) ∧
      allBl (lsh lid) n bds (fun st' dy' zs => I zs → r.holdsB sh lsh S L (A.set lid fun vs => I vs ∧ μ vs < μ zs) st' dy') st dy
  | again lid vals, A, st, dy => A lid ((splitL (lsh lid) vals).map (segB st dy))
  | both a b, A, st, dy => a.holdsB sh lsh S L A st dy ∧ b.holdsB sh lsh S L A st dy
  | fn n op args lo hi r, A, st, dy => ∀ z : Int, lo ≤ z → z ≤ hi → z = fnD op (args.map (Lin.denB st dy)) → r.holdsB sh lsh S L A ((n, 1) :: st) ([z] :: dy)
  | ind n b r, A, st, dy => ∀ z : Int, 0 ≤ z → z ≤ 1 → b.denB st dy = decide (z = 1) → r.holdsB sh lsh S L A ((n, 1) :: st) ([z] :: dy)
  | unk n lo hi r, A, st, dy => ∀ z : Int, lo ≤ z → z ≤ hi → r.holdsB sh lsh S L A ((n, 1) :: st) ([z] :: dy)
  | nat n r, A, st, dy => ∀ z : Int, 0 ≤ z → r.holdsB sh lsh S L A ((n, 1) :: st) ([z] :: dy)
  | asm op args r, A, st, dy => chkD op (args.map (Lin.denB st dy)) → r.holdsB sh lsh S L A st dy
  | chk op args r, A, st, dy => chkD op (args.map (Lin.denB st dy)) ∧ r.holdsB sh lsh S L A st dy

theorem seg_split {ρ : Env} {st : BSt} {dy : BDy} (h : Tells ρ st dy) (ks : List Nat) (l : List Lin) : (splitL ks l).map (segB st dy) = splitL ks (l.map (·.den ρ)) := by
  rw [splitL_map]; exact List.map_congr_left fun x _ => segB_eq h x
def flatS (sh : Nat → List Nat × List Nat) (S : Nat → List (List Int) → List (List Int) → Prop) : Nat → List Int → List Int → Prop := fun id zs rs => S id (splitL (sh id).1 zs) (splitL (sh id).2 rs)
theorem map_denB {ρ : Env} {st : BSt} {dy : BDy} (h : Tells ρ st dy) (l : List Lin) : l.map (Lin.denB st dy) = l.map (·.den ρ) := List.map_congr_left fun x _ => Lin.denB_eq h.2 x
theorem holdsB_sound {sh : Nat → List Nat × List Nat} {lsh : Nat → List Nat} {S : Nat → List (List Int) → List (List Int) → Prop} {LB : V → BSt → BDy → Prop} {L : V → Env → Prop} (hL : ∀ v ρ st dy, Tells ρ st dy → LB v st dy → L v ρ) :
    ∀ (t : T) (AB : AgainB) (A : Again) (ρ : Env) (st : BSt) (dy : BDy), (∀ lid vs, AB lid (splitL (lsh lid) vs) → A lid vs) → Tells ρ st dy → t.holdsB sh lsh S LB AB st dy → t.holds (flatS sh S) L A ρ
  | .stuck, _, _, _, _, _, _, _, h => h
  | .leaf v, _, _, ρ, st, dy, _, ht, h => hL v ρ st dy ht h
  | .div n x d lo hi r, AB, A, ρ, st, dy, hA, ht, h => fun q h1 h2 h3 h4 => holdsB_sound hL r AB A _ _ _ hA (ht.push n [q]) (h q h1 h2 (by rw [Lin.denB_eq ht.2]; exact h3) (by rw [Lin.denB_eq ht.2]; exact h4))
  | .mul n x y lo hi r, AB, A, ρ, st, dy, hA, ht, h => fun q h1 h2 h3 => holdsB_sound hL r AB A _ _ _ hA (ht.push n [q]) (h q h1 h2 (by rw [Lin.denB_eq ht.2, Lin.denB_eq ht.2]; exact h3))
  | .bit n op k x y r, AB, A, ρ, st, dy, hA, ht, h => fun q h1 h2 h3 => holdsB_sound hL r AB A _ _ _ hA (ht.push n [q]) (h q h1 h2 (by rw [Lin.denB_eq ht.2, Lin.denB_eq ht.2]; exact h3))
  | .shr n x y lo hi r, AB, A, ρ, st, dy, hA, ht, h => fun q h1 h2 h3 => holdsB_sound hL r AB A _ _ _ hA (ht.push n [q]) (h q h1 h2 (by rw [Lin.denB_eq ht.2, Lin.denB_eq ht.2]; exact h3))
  | .sel n cs ix lo hi r, AB, A, ρ, st, dy, hA, ht, h => fun q h1 h2 h3 => holdsB_sound hL r AB A _ _ _ hA (ht.push n [q]) (h q h1 h2 (by rw [segB_eq ht, Lin.denB_eq ht.2]; exact h3))
  | .br b t e, AB, A, ρ, st, dy, hA, ht, h => ⟨fun hb => holdsB_sound hL t AB A _ _ _ hA ht (h.1 (by rw [BE.denB_eq ht]; exact hb)), fun hb => holdsB_sound hL e AB A _ _ _ hA ht (h.2 (by rw [BE.denB_eq ht]; exact hb))⟩
  | .call id args n bds r, AB, A, ρ, st, dy, hA, ht, h => by
    refine allB_intro fun rs hi hs => ?_
    obtain ⟨st', dy', h1, h2⟩ := allBl_elim h ht hi
    exact holdsB_sound hL r AB A _ _ _ hA h1 (h2 (by rw [seg_split ht]; exact hs))
  | .loop lid init n bds r, AB, A, ρ, st, dy, hA, ht, h => by
    obtain ⟨I, μ, h1, h2⟩ := h
    refine ⟨fun zs => I (splitL (lsh lid) zs), fun zs => μ (splitL (lsh lid) zs), ?_, ?_⟩
    · rw [seg_split ht] at h1; exact h1
    · refine allB_intro fun zs hi hI => ?_
      obtain ⟨st', dy', g1, g2⟩ := allBl_elim h2 ht hi
      refine holdsB_sound hL r _ _ _ _ _ (fun lid' vs hv => ?_) g1 (g2 hI)
      unfold AgainB.set at hv
      unfold Again.set
      cases hq : Nat.beq lid' lid with
      | true =>
        rw [hq] at hv
        have e := Nat.eq_of_beq_eq_true hq
        subst e
        exact hv
      | false => rw [hq] at hv; exact hA _ _ hv
  | .again lid vals, AB, A, ρ, st, dy, hA, ht, h => hA lid _ (by rw [← seg_split ht]; exact h)
  | .both x y, AB, A, ρ, st, dy, hA, ht, h => ⟨holdsB_sound hL x AB A ρ st dy hA ht h.1, holdsB_sound hL y AB A ρ st dy hA ht h.2⟩
  | .fn n op args lo hi r, AB, A, ρ, st, dy, hA, ht, h => fun q h1 h2 h3 => holdsB_sound hL r AB A _ _ _ hA (ht.push n [q]) (h q h1 h2 (by rw [map_denB ht]; exact h3))
  | .ind n b r, AB, A, ρ, st, dy, hA, ht, h => fun q h1 h2 h3 => holdsB_sound hL r AB A _ _ _ hA (ht.push n [q]) (h q h1 h2 (by rw [BE.denB_eq ht]; exact h3))
  | .unk n lo hi r, AB, A, ρ, st, dy, hA, ht, h => fun q h1 h2 => holdsB_sound hL r AB A _ _ _ hA (ht.push n [q]) (h q h1 h2)
  | .nat n r, AB, A, ρ, st, dy, hA, ht, h => fun q h1 => holdsB_sound hL r AB A _ _ _ hA (ht.push n [q]) (h q h1)
  | .asm op args r, AB, A, ρ, st, dy, hA, ht, h => fun h1 => holdsB_sound hL r AB A ρ st dy hA ht (h (by rw [map_denB ht]; exact h1))
  | .chk op args r, AB, A, ρ, st, dy, hA, ht, h => ⟨by rw [← map_denB ht]; exact h.1, holdsB_sound hL r AB A _ _ _ hA ht h.2⟩

/-! ### Leaves -/
def linsO : List O → Option (List Lin)
  | [] => some []
  | .l x :: r => match linsO r with | some l => some (x :: l) | none => none
  | .b _ :: _ => none
def O.denB (st : BSt) (dy : BDy) : O → Int
  | l x => x.denB st dy
  | b x => cond (x.denB st dy) 1 0
def segO (st : BSt) (dy : BDy) (os : List O) : List Int :=
  match linsO os with
  | some ls => segB st dy ls
  | none => os.map (O.denB st dy)
theorem linsO_spec {ρ : Env} : ∀ {os : List O} {ls : List Lin}, linsO os = some ls → ls.map (·.den ρ) = os.map (O.den ρ)
  | [], ls, h => by simp [linsO] at h; subst h; rfl
  | .l x :: r, ls, h => by
    simp only [linsO] at h
    cases hr : linsO r with
    | none => simp [hr] at h
    | some l =>
      simp only [hr, Option.some.injEq] at h
      subst h
      simp only [List.map_cons, linsO_spec hr, O.den]
  | .b _ :: _, _, h => by simp [linsO] at h
theorem O.denB_eq {ρ : Env} {st : BSt} {dy : BDy} (h : Tells ρ st dy) : ∀ o : O, o.denB st dy = o.den ρ
  | .l x => Lin.denB_eq h.2 x
  | .b x => by simp only [denB, den, BE.denB_eq h]
theorem segO_eq {ρ : Env} {st : BSt} {dy : BDy} (h : Tells ρ st dy) (os : List O) : segO st dy os = os.map (O.den ρ) := by
  unfold segO
  cases hl : linsO os with
  | some ls => exact (segB_eq h ls).trans (linsO_spec hl)
  | none => exact List.map_congr_left fun o _ => O.denB_eq h o
/-- How a record of field numbers falls into numbers. -/
def mixNums (k : Nat) : List Nat := match k with
  | 12 => [4, 4, 4]
  | 15 => [5, 5, 5]
  | 20 => [5, 5, 5, 5]
  | k => [k]
def D.nums : D → List Nat
  | .mix l => mixNums l.length
  | .strk _ => []
  | .ik .. => []
  | d => [d.num]
def numsD (ds : List D) : List Nat := ds.flatMap D.nums
/-- At a leaf, by blocks. -/
def LeafB (ds : List D) (K : List (List Int) → Prop) (v : V) (st : BSt) (dy : BDy) : Prop :=
  match outs ds v with
  | some os => K ((splitL (numsD ds) os).map (segO st dy))
  | none => False
theorem LeafB_sound {ds : List D} {K : List (List Int) → Prop} (v : V) (ρ : Env) (st : BSt) (dy : BDy) (ht : Tells ρ st dy) (h : LeafB ds K v st dy) : LeafK ds (fun rs => K (splitL (numsD ds) rs)) v ρ := by
  unfold LeafB at h
  unfold LeafK
  cases ho : outs ds v with
  | none => simp [ho] at h
  | some os =>
    simp only [ho] at h ⊢
    rw [splitL_map]
    rwa [show (splitL (numsD ds) os).map (segO st dy) = (splitL (numsD ds) os).map (List.map (O.den ρ)) from List.map_congr_left fun o _ => segO_eq ht o] at h

/-- **A condition, by blocks.** -/
def VcB (sh : Nat → List Nat × List Nat) (lsh : Nat → List Nat) (S : Nat → List (List Int) → List (List Int) → Prop) (K : List (List Int) → List (List Int) → Prop) (lens : List Nat) (bds : List (Int × Int)) (ds : List D) (t : T) : Prop :=
  allBl lens 0 bds (fun st dy zs => t.holdsB sh lsh S (LeafB ds (K zs)) (fun _ _ => False) st dy) [] []
theorem VcB_sound {sh : Nat → List Nat × List Nat} {lsh : Nat → List Nat} {S : Nat → List (List Int) → List (List Int) → Prop} {K : List (List Int) → List (List Int) → Prop} {lens : List Nat} {bds : List (Int × Int)} {ds : List D} {t : T}
    (h : VcB sh lsh S K lens bds ds t) : allB bds fun zs => t.holds (flatS sh S) (LeafK ds fun rs => K (splitL lens zs) (splitL (numsD ds) rs)) (fun _ _ => False) (updL (fun _ => 0) 0 zs) := by
  refine allB_intro fun zs hi => ?_
  obtain ⟨st, dy, h1, h2⟩ := allBl_elim h (show Tells (fun _ => 0) [] [] from ⟨trivial, fun _ => rfl⟩) hi
  exact holdsB_sound (fun v ρ st dy ht hl => LeafB_sound v ρ st dy ht hl) t _ _ _ st dy (fun _ _ hf => hf.elim) h1 h2
end Go.Rx

/- Rows of laws whose parameters are integers, truth values and arrays of integers: opened, shut, and the row out of a contract. -/
set_option linter.unusedVariables false
set_option linter.unusedSimpArgs false
namespace Go.Rx
open Go.ChangeShapes Go.WideShapes Go.RowKit
variable {H : Type} {enc : TypeId × Value → H} {P : Program}

theorem wf_iff {k : IntKind} {z : Int} : (Lit.int k z).wf = true ↔ k.min ≤ z ∧ z ≤ k.max := by simp [Lit.wf]
theorem cells_ints {k : IntKind} : ∀ (cs : List Value) (xs : List (DataW H × List MemPlace)), cs.length = xs.length →
    (∀ i, i < xs.length → ∃ z, (cs.drop i).take 1 = [.int k z] ∧ xs[i]? = some (.lit (.int k z), []) ∧ (Lit.int k z).wf = true) →
    ∃ zs : List Int, cs = zs.map (.int k) ∧ xs = zs.map (fun z => (.lit (.int k z), [])) ∧ ∀ z ∈ zs, (Lit.int k z).wf = true
  | [], [], _, _ => ⟨[], rfl, rfl, fun _ h => by cases h⟩
  | [], _ :: _, h, _ => by simp at h
  | _ :: _, [], h, _ => by simp at h
  | c :: cs, x :: xs, hl, h => by
    obtain ⟨z, h1, h2, h3⟩ := h 0 (by simp)
    simp at h1 h2
    obtain ⟨zs, e1, e2, e3⟩ := cells_ints cs xs (by simpa using hl) fun i hi => by
      obtain ⟨y, g1, g2, g3⟩ := h (i + 1) (by simpa using hi)
      exact ⟨y, by simpa using g1, by simpa using g2, g3⟩
    refine ⟨z :: zs, by rw [h1, e1]; rfl, by rw [h2, e2]; rfl, fun y hy => ?_⟩
    rcases List.mem_cons.1 hy with rfl | hy
    · exact h3
    · exact e3 y hy
theorem inB_app : ∀ {b b' : List (Int × Int)} {l l' : List Int}, inB b l → inB b' l' → inB (b ++ b') (l ++ l')
  | [], _, [], _, _, h => h
  | _ :: _, _, _ :: _, _, h, h' => ⟨h.1, h.2.1, inB_app h.2.2 h'⟩
  | [], _, _ :: _, _, h, _ => h.elim
  | _ :: _, _, [], _, h, _ => h.elim
theorem D.val_app (d : D) {zs l : List Int} (h : zs.length = d.num) : d.val (zs ++ l) = d.val zs := by
  cases d with
  | str => match zs, h with | [z], _ => rfl
  | int k lo hi => match zs, h with | [z], _ => rfl
  | bool => match zs, h with | [z], _ => rfl
  | agg k n lo hi => simp only [D.num] at h; simp only [D.val, ← h]; simp
  | strk p => rfl
  | ik k c => rfl
  | mix p =>
    simp only [D.num] at h
    simp only [D.val]
    congr 2
    revert zs
    induction p with
    | nil => intro zs h; simp
    | cons a p ih =>
      intro zs h
      match zs, h with
      | z :: zs, h => simp only [List.cons_append, List.zipWith_cons_cons, ih (zs := zs) (by simpa using h)]
theorem keptBut_extends {w w' : World} (h : w.Extends w') (may : MemPlace → Prop) : w.keptBut w' may :=
  Below.frame (W := w) ⟨h.os, h.tape, h.output, h.size, fun i hi => h.block i hi⟩ may
theorem gl_of_laid {w : World} {name : String} {g : Nat} {t e : TypeId} {k : IntKind} {n : Nat} {cs : Array Value} {fuel : Nat} {p : List MemPlace} {zs : List Int} {spare : Nat → Bool} {held : Bool} {base : Nat} {enc : TypeId × Value → Unit}
    (hg : P.globalNamed name = some g) (ht : P.underlying t = some (.array n e)) (he : P.underlying e = some (.int k)) (hce : P.cellsOf e = 1) (hct : P.cellsOf t = n)
    (hv : w.var? P name = some cs) (hd : DataW.trod enc P w base spare held fuel t cs.toList = some (.agg (zs.map fun z => .lit (.int k z)), p)) :
    g < w.heap.size ∧ ∃ t' fr, w.heap[g]? = some (Obj.cells (zs.map (Value.int k)).toArray t' fr) := by
  obtain ⟨xs, m, rfl, hx, hlen, hn, hel⟩ := DataW.trod_array ht hd
  obtain ⟨ys, e1, e2, e3⟩ := cells_ints (k := k) cs.toList xs (by rw [hlen, hct, hn]) fun i hi => by
    have := hel i (by omega)
    rw [hce, Nat.mul_one] at this
    cases hxi : xs[i]? with
    | none => simp at hxi; omega
    | some y =>
      rw [hxi] at this
      obtain ⟨z, g1, g2, g3⟩ := DataW.trod_int he this
      exact ⟨z, g1, by rw [g2], g3⟩
  simp only [Prod.mk.injEq, DataW.agg.injEq] at hx
  have hy : ys = zs := by
    have h1 := hx.1
    rw [e2, List.map_map] at h1
    have hinj : ∀ a b : Int, (DataW.lit (.int k a) : DataW Unit) = .lit (.int k b) → a = b := fun a b h => by cases h; rfl
    exact ((List.map_inj_right (f := fun z : Int => (DataW.lit (.int k z) : DataW Unit)) hinj).1 h1).symm
  subst hy
  simp only [World.var?, hg, Option.bind_some] at hv
  split at hv
  · rename_i cs' t' fr hb
    simp only [Option.some.injEq] at hv
    subst hv
    refine ⟨?_, t', fr, ?_⟩
    · exact (Array.getElem?_eq_some_iff.1 hb).1
    · rw [hb, ← e1]
  · cases hv
end Go.Rx


/- Contracts of functions that take slices and hand slices back. -/
set_option linter.unusedVariables false
set_option linter.unusedSimpArgs false
namespace Go.Rx
open M

/-- What a function takes or hands back: a value of numbers, rows to be read, rows of one's own. -/
inductive BD where
  | d (x : D)
  | rd (sh : List CK)
  | ow (sh : List CK) (e : TypeId)
def BD.num : BD → Nat
  | d x => x.num
  | _ => 1
noncomputable def BD.bds : BD → List (Int × Int)
  | d x => x.bds
  | _ => [(0, RB)]
noncomputable def bbds : List BD → List (Int × Int)
  | [] => []
  | x :: r => x.bds ++ bbds r
theorem BD.bds_len (b : BD) : b.bds.length = b.num := by cases b <;> simp [BD.bds, BD.num, D.bds_len]
def BD.isD : BD → Bool
  | d _ => true
  | _ => false
def BD.isOw : BD → Bool
  | ow _ _ => true
  | _ => false
def BD.isRd : BD → Bool
  | rd _ => true
  | _ => false
/-- One slice of one's own alone, or slices for reading. -/
def bdOk : List BD → Bool
  | [] => true
  | .d _ :: r => bdOk r
  | .rd _ :: r => r.all (fun b => !b.isOw) && bdOk r
  | .ow _ _ :: r => r.all BD.isD && bdOk r

/-- A slice that reads as rows; it lies where F says. -/
def SlAt (F : Nat → Prop) (w : World) (sh : List CK) (rows : List (List Int)) (v : Value) : Prop :=
  (v = .slice none 0 0 ∧ rows = []) ∨ ∃ (g o cap : Nat) (cells : Array Value) (t : TypeId) (fz : Nat × Nat), v = .slice (some ⟨g, o, none⟩) rows.length cap ∧ (rows.length ≤ cap ∧ (cap : Int) ≤ 9223372036854775807) ∧ F g ∧ w.heap[g]? = some (.cells cells t fz) ∧ RowsAt cells o sh rows
def SlOw (N : Nat → Prop) (w : World) (sh : List CK) (e : TypeId) (rows : List (List Int)) (v : Value) : Prop :=
  (v = .slice none 0 0 ∧ rows = []) ∨ ∃ (g cap : Nat) (cells : Array Value), v = .slice (some ⟨g, 0, none⟩) rows.length cap ∧ (rows.length ≤ cap ∧ (cap : Int) ≤ 9223372036854775807) ∧ N g ∧ w.heap[g]? = some (.cells cells e (0, 0)) ∧ RowsAt cells 0 sh rows ∧ cells.size = cap * sh.length
def BD.at (F N : Nat → Prop) (w : World) : BD → List Int → Value → Prop
  | d x, zs, v => v = x.val zs
  | rd sh, zs, v => SlAt F w sh (rOf (zs.getD 0 0)) v
  | ow sh e, zs, v => SlOw N w sh e (rOf (zs.getD 0 0)) v
def atL (F N : Nat → Prop) (w : World) : List BD → List Int → List Value → Prop
  | [], _, [] => True
  | b :: r, zs, v :: vs => b.at F N w zs v ∧ atL F N w r (zs.drop b.num) vs
  | _, _, _ => False
def tupV (us : List Value) : Value := match us with | [x] => x | l => .tuple l.toArray

/-- A contract. -/
structure BCon where
  f : FuncId
  id : Nat
  args : List BD
  res : List BD
  pre : Nat := 0
/-- What a contract asks of its arguments' numbers. -/
def preD : Nat → List Int → Prop
  | 0, _ => True
  | p + 1, l => chkD (p + 1) l
def preM : Nat → List Lin → T → T
  | 0, _, r => r
  | p + 1, ls, r => .chk (p + 1) ls r
def preA : Nat → List Lin → T → T
  | 0, _, r => r
  | p + 1, ls, r => .asm (p + 1) ls r
theorem preM_holds {S : Nat → List Int → List Int → Prop} {L : V → Env → Prop} {A : Again} {ρ : Env} {p : Nat} {ls : List Lin} {r : T} (h : (preM p ls r).holds S L A ρ) : preD p (ls.map (·.den ρ)) ∧ r.holds S L A ρ := by
  cases p with
  | zero => exact ⟨trivial, h⟩
  | succ p => exact h
theorem preA_holds {S : Nat → List Int → List Int → Prop} {L : V → Env → Prop} {A : Again} {ρ : Env} {p : Nat} {ls : List Lin} {r : T} (h : (preA p ls r).holds S L A ρ) (hp : preD p (ls.map (·.den ρ))) : r.holds S L A ρ := by
  cases p with
  | zero => exact h
  | succ p => exact h hp
def BCon.Ok (P : Program) (wb : World) (c : BCon) (spec : List Int → List Int → Prop) : Prop :=
  (∀ args w, (callFunc c.f args).run P w = .ok (.enter c.f args) w) ∧
  ∀ (F : Nat → Prop) (w : World) (vs : List Value) (zs : List Int), wb.Extends w → inB (bbds c.args) zs → preD c.pre zs → atL F (fun _ => False) w c.args zs vs →
    Calls P c.f vs.toArray w fun e w' => w.Extends w' ∧ ∃ rs us, inB (bbds c.res) rs ∧ spec zs rs ∧ atL (fun g => F g ∨ w.heap.size ≤ g) (fun g => w.heap.size ≤ g) w' c.res rs us ∧ e = .returned (tupV us)

/-! ### New symbols for what comes in -/
noncomputable def argE : List BD → Nat → Nat → List W → List Blk → (Nat → List W → List Blk → T) → T
  | [], _, n, us, bl, k => k n us bl
  | .d x :: r, s, n, us, bl, k => argE r (s + x.num) n (us ++ [x.sym s]) bl k
  | .rd sh :: r, s, n, us, bl, k => .nat n (.unk (n + 1) (-1) 9223372036854775807 (.fn (n + 2) 20 [.var s] 0 9223372036854775807
      (argE r (s + 1) (n + 3) (us ++ [.one (.sl bl.length sh.length (.var n) (.const 0) (.var (n + 2)) (.var (n + 1)))]) (bl ++ [([.rows sh (.var n) (.var s) (.var (n + 1)) 1], (0, false))]) k)))
  | .ow sh e :: r, s, n, us, bl, k => .unk n (-1) 9223372036854775807 (.fn (n + 1) 20 [.var s] 0 9223372036854775807
      (argE r (s + 1) (n + 2) (us ++ [.one (.sl bl.length sh.length (.const 0) (.const 0) (.var (n + 1)) (.var n))]) (bl ++ [([.rows sh (.const 0) (.var s) (.var n) 2], (e, false))]) k))

section
variable {S : Nat → List Int → List Int → Prop} {L : V → Env → Prop} {w0 : Base} {P : Program} {gl : Glo} {cal : Cal}
theorem At.agree {ρ ρ' : Env} {s n : Nat} {zs : List Int} (h : At ρ s zs) (ha : agree n ρ ρ') (hn : s + zs.length ≤ n) : At ρ' s zs := fun j hj => by rw [ha (s + j) (by omega)]; exact h j hj
theorem upd_lt {ρ : Env} {n i : Nat} {z : Int} (h : i < n) : upd ρ n z i = ρ i := upd_ne ρ z (by omega)

theorem argE_ok {F N : Nat → Prop} (hF : ∀ g, F g → w0.ex g ∨ w0.ro g ∨ w0.r.heap.size ≤ g) (hN : ∀ g, N g → w0.b.heap.size ≤ g ∧ w0.r.heap.size ≤ g) : ∀ {l : List BD} {s n : Nat} {us : List W} {bl : List Blk} {k : Nat → List W → List Blk → T} {G : Again} {ρ : Env} {m : Nat → Nat} {w : World} {zs : List Int} {vals : List Value},
    bdOk l = true → BlOk n bl.length ρ bl → Mem w0 ρ m bl w → At ρ s zs → inB (bbds l) zs → s + (bbds l).length ≤ n → atL F N w l zs vals →
    ((l.all fun b => !b.isRd) = true ∨ ∀ (i : Nat) (p : Blk), bl[i]? = some p → F (m i) → kindC ρ p.1 ≤ 1) → ((l.all fun b => !b.isOw) = true ∨ ∀ (i : Nat) (p : Blk), bl[i]? = some p → N (m i) → kindC ρ p.1 = 0) →
    (∀ u ∈ us, W.ok n bl.length ρ u) →
    (argE l s n us bl k).holds S L G ρ → ∃ n' ρ' m' us' bl', Later n bl.length ρ m n' (List.length bl') ρ' m' ∧ BlOk n' bl'.length ρ' bl' ∧ Mem w0 ρ' m' bl' w ∧ us'.map (W.den ρ' m') = us.map (W.den ρ m) ++ vals ∧ (∀ u ∈ us', W.ok n' bl'.length ρ' u) ∧ (k n' us' bl').holds S L G ρ'
  | [], s, n, us, bl, k, G, ρ, m, w, zs, vals, _, hb, hm, _, _, _, hat, _, _, hus, hh => by
    match vals, hat with
    | [], _ => exact ⟨n, ρ, m, us, bl, Later.refl _ _ _ _, hb, hm, by simp, hus, hh⟩
  | .d x :: r, s, n, us, bl, k, G, ρ, m, w, zs, vals, hok, hb, hm, hA, hz, hn, hat, h1, h2, hus, hh => by
    match vals, hat with
    | v :: vs, hat =>
      obtain ⟨hv, hat⟩ := hat
      have hv : v = x.val zs := hv
      simp only [bbds, BD.bds] at hz hn
      simp only [List.length_append] at hn
      obtain ⟨i1, i2⟩ := inB_split hz
      rw [D.bds_len] at i1 i2 hn
      have hs := D.sym_spec (ρ := ρ) (m := m) (N := n) (nb := bl.length) x i1 hA (by omega)
      obtain ⟨n', ρ', m', us', bl', g1, g2, g3, g4, g5, g6⟩ := argE_ok hF hN (l := r) (s := s + x.num) (us := us ++ [x.sym s]) (zs := zs.drop x.num) hok hb hm (hA.drop x.num) i2 (by omega) hat (by
        rcases h1 with h1 | h1
        · left; simpa [BD.isRd] using h1
        · exact .inr h1) (by
        rcases h2 with h2 | h2
        · left; simpa [BD.isOw] using h2
        · exact .inr h2) (fun u hu => by
        rcases List.mem_append.1 hu with hu | hu
        · exact hus u hu
        · simp at hu; subst hu; exact hs.1) hh
      exact ⟨n', ρ', m', us', bl', g1, g2, g3, by rw [g4, List.map_append, hv]; simp [hs.2], g5, g6⟩
  | .rd sh :: r, s, n, us, bl, k, G, ρ, m, w, zs, vals, hok, hb, hm, hA, hz, hn, hat, h1, h2, hus, hh => by
    match vals, hat with
    | v :: vs, hat =>
      obtain ⟨hv, hat⟩ := hat
      match zs, hz with
      | z :: zs, hz =>
        obtain ⟨z1, z2, hz⟩ := hz
        have hv : SlAt F w sh (rOf z) v := hv
        obtain ⟨hA0, hA1⟩ := hA.tail
        have h1 : ∀ (i : Nat) (p : Blk), bl[i]? = some p → F (m i) → kindC ρ p.1 ≤ 1 := by
          rcases h1 with h1 | h1
          · simp [BD.isRd] at h1
          · exact h1
        simp only [bbds, BD.bds, List.length_append, List.length_cons, List.length_nil] at hn
        simp only [bdOk, Bool.and_eq_true] at hok
        have hlen : (rOf z).length ≤ 9223372036854775807 := by
          rcases hv with ⟨_, h⟩ | ⟨_, _, cap, _, _, _, _, ⟨h3, h4⟩, _⟩
          · simp [h]
          · omega
        have hzl : zs.length = (bbds r).length := inB_len hz
        -- where it lies
        obtain ⟨g, o, cap, hg1, hg2, hg3, hg4, hg5⟩ : ∃ (g : Nat) (o : Nat) (cap : Int), (-1 ≤ cap ∧ cap ≤ 9223372036854775807) ∧ (cap < 0 → rOf z = []) ∧ (0 ≤ cap → ((rOf z).length : Int) ≤ cap) ∧
            (v = if cap < 0 then Value.slice none 0 0 else .slice (some ⟨g, o, none⟩) (rOf z).length cap.toNat) ∧
            (0 ≤ cap → F g ∧ ∃ cells t fz, w.heap[g]? = some (.cells cells t fz) ∧ RowsAt cells o sh (rOf z)) := by
          rcases hv with ⟨h3, h4⟩ | ⟨g, o, cap, cells, t, fz, h3, ⟨h4, h5⟩, h6, h7, h8⟩
          · exact ⟨0, 0, -1, by omega, fun _ => h4, fun h => by omega, by simp [h3], fun h => by omega⟩
          · exact ⟨g, o, cap, by omega, fun h => by omega, fun _ => by omega, by rw [if_neg (by omega)]; simpa using h3, fun _ => ⟨h6, cells, t, fz, h7, h8⟩⟩
        have hh3 := hh (o : Int) (by omega) cap hg1.1 hg1.2 (rOf z).length (by omega) (by omega) (by
          simp only [List.map_cons, List.map_nil, fnD, Lin.den_var]
          rw [upd_lt (by omega), upd_lt (by omega), hA0])
        generalize hρ : upd (upd (upd ρ n (o : Int)) (n + 1) cap) (n + 2) ((rOf z).length : Int) = ρ3 at hh3
        have ha : agree n ρ ρ3 := by
          rw [← hρ]
          intro i hi
          rw [upd_lt (by omega), upd_lt (by omega), upd_lt hi]
        have e0 : ρ3 n = o := by rw [← hρ, upd_lt (by omega), upd_lt (by omega), upd_same]
        have e1 : ρ3 (n + 1) = cap := by rw [← hρ, upd_lt (by omega), upd_same]
        have e2 : ρ3 (n + 2) = (rOf z).length := by rw [← hρ, upd_same]
        have e3 : ρ3 s = z := by rw [ha s (by omega)]; exact hA0
        have hm3 := hm.rho hb ha
        have hb3 := hb.ext ha (show n ≤ n + 3 by omega) (Nat.le_refl bl.length)
        have hAk : (A.rows sh (.var n) (.var s) (.var (n + 1)) 1).ok (n + 3) bl.length ρ3 := ⟨⟨Lin.sc_var (by omega), Lin.sc_var (by omega), Lin.sc_var (by omega)⟩, by rw [Lin.den_var, e3]; exact ⟨z1, z2⟩, by rw [Lin.den_var, e1]; exact hg1⟩
        have hM := hm3.push (x := ([.rows sh (.var n) (.var s) (.var (n + 1)) 1], (0, false))) (g := g) hb3 (fun y hy => by simp at hy; subst hy; exact hAk) (fun ho => by cases ho) (fun sh' off' code' cap' kind' he => by
            cases he
            intro _
            refine ⟨fun h => by rw [Lin.den_var, e1] at h; rw [Lin.den_var, e3]; exact hg2 h, fun h => ?_⟩
            rw [Lin.den_var, e1] at h
            obtain ⟨hFg, cells, t, fz, k1, k2⟩ := hg5 h
            exact ⟨hF g hFg, cells, t, fz, k1, ⟨by rw [Lin.den_var, e0]; omega, by rw [Lin.den_var, Lin.den_var, e0, e3]; exact k2⟩, fun h2 => by omega⟩) (fun i p hi he => by
              by_cases hc : 0 ≤ cap
              · refine .inl ⟨?_, ?_⟩
                · rw [kindC_agree (hb _ (List.mem_of_getElem? hi)) ha]
                  exact h1 i p hi (by rw [he]; exact (hg5 hc).1)
                · rw [kindC_rows (by decide) (by rw [Lin.den_var, e1]; exact hc)]; exact Nat.le_refl 1
              · refine .inr (.inr ?_)
                simp only [kindC, Lin.den_var, e1]
                rw [if_pos (by omega)])
        have hlat : Later n bl.length ρ m (n + 3) (bl ++ [([A.rows sh (.var n) (.var s) (.var (n + 1)) 1], ((0 : TypeId), false))]).length ρ3 (updM m bl.length g) := ⟨by omega, ha, by simp, fun b hb => updM_lt hb⟩
        have hbl3 : BlOk (n + 3) (bl ++ [([A.rows sh (.var n) (.var s) (.var (n + 1)) 1], ((0 : TypeId), false))]).length ρ3 (bl ++ [([.rows sh (.var n) (.var s) (.var (n + 1)) 1], (0, false))]) := fun p hp a ha' => by
          rcases List.mem_append.1 hp with hp | hp
          · exact (hb3 p hp a ha').ext (agree.refl _ _) (Nat.le_refl _) (by simp)
          · simp at hp; subst hp; simp at ha'; subst ha'
            exact hAk.ext (agree.refl _ _) (Nat.le_refl _) (by simp)
        have hu0 : W.ok (n + 3) (bl ++ [([A.rows sh (.var n) (.var s) (.var (n + 1)) 1], ((0 : TypeId), false))]).length ρ3 (.one (.sl bl.length sh.length (.var n) (.const 0) (.var (n + 2)) (.var (n + 1)))) := by
          refine ⟨by simp, ⟨Lin.sc_var (by omega), Lin.sc_const _ _, Lin.sc_var (by omega), Lin.sc_var (by omega)⟩, ?_⟩
          simp only [Lin.den_var, Lin.den_const, e0, e1, e2]
          exact ⟨by omega, by omega, fun h => by rw [hg2 h]; rfl, hg3⟩
        obtain ⟨n', ρ', m', us', bl', g1, g2, g3, g4, g5, g6⟩ := argE_ok hF hN (l := r) (s := s + 1) (us := us ++ [.one (.sl bl.length sh.length (.var n) (.const 0) (.var (n + 2)) (.var (n + 1)))]) (zs := zs) (vals := vs) hok.2 hbl3 hM (hA1.agree ha (by omega)) hz (by omega) hat (.inr fun i p hi hf => by
            rw [List.getElem?_append] at hi
            split at hi
            · rename_i hil
              rw [updM_lt hil] at hf
              rw [kindC_agree (hb _ (List.mem_of_getElem? hi)) ha]
              exact h1 i p hi hf
            · have : i = bl.length := by
                have := (List.getElem?_eq_some_iff.1 hi).1
                simp at this; omega
              subst this
              simp at hi
              subst hi
              simp only [kindC]; split <;> omega) (.inl hok.1) (fun u hu => by
            rcases List.mem_append.1 hu with hu | hu
            · exact (hus u hu).ext ha (by omega) (by simp)
            · simp at hu; subst hu; exact hu0) hh3
        refine ⟨n', ρ', m', us', bl', hlat.trans g1, g2, g3, ?_, g5, g6⟩
        rw [g4, List.map_append, List.append_assoc]
        congr 1
        · exact List.map_congr_left fun u hu => W.den_ext (hus u hu) ha (fun b hb => updM_lt hb)
        · simp only [List.map_cons, List.map_nil, List.cons_append, List.nil_append, W.den, A.den, Lin.den_var, Lin.den_const, e0, e1, e2, updM_same]
          rw [hg4]
          simp
  | .ow sh e :: r, s, n, us, bl, k, G, ρ, m, w, zs, vals, hok, hb, hm, hA, hz, hn, hat, h1, h2, hus, hh => by
    match vals, hat with
    | v :: vs, hat =>
      obtain ⟨hv, hat⟩ := hat
      match zs, hz with
      | z :: zs, hz =>
        obtain ⟨z1, z2, hz⟩ := hz
        have hv : SlOw N w sh e (rOf z) v := hv
        obtain ⟨hA0, hA1⟩ := hA.tail
        simp only [bbds, BD.bds, List.length_append, List.length_cons, List.length_nil] at hn
        simp only [bdOk, Bool.and_eq_true] at hok
        have h2 : ∀ (i : Nat) (p : Blk), bl[i]? = some p → N (m i) → kindC ρ p.1 = 0 := by
          rcases h2 with h2 | h2
          · simp [BD.isOw] at h2
          · exact h2
        have hlen : (rOf z).length ≤ 9223372036854775807 := by
          rcases hv with ⟨_, h⟩ | ⟨_, cap, _, _, ⟨h3, h4⟩, _⟩
          · simp [h]
          · omega
        have hzl : zs.length = (bbds r).length := inB_len hz
        obtain ⟨g, cap, hg1, hg2, hg3, hg4, hg5⟩ : ∃ (g : Nat) (cap : Int), (-1 ≤ cap ∧ cap ≤ 9223372036854775807) ∧ (cap < 0 → rOf z = []) ∧ (0 ≤ cap → ((rOf z).length : Int) ≤ cap) ∧
            (v = if cap < 0 then Value.slice none 0 0 else .slice (some ⟨g, 0, none⟩) (rOf z).length cap.toNat) ∧
            (0 ≤ cap → N g ∧ ∃ cells, w.heap[g]? = some (.cells cells e (0, 0)) ∧ RowsAt cells 0 sh (rOf z) ∧ cells.size = cap.toNat * sh.length) := by
          rcases hv with ⟨h3, h4⟩ | ⟨g, cap, cells, h3, ⟨h4, h5⟩, h6, h7, h8, h9⟩
          · exact ⟨0, -1, by omega, fun _ => h4, fun h => by omega, by simp [h3], fun h => by omega⟩
          · exact ⟨g, cap, by omega, fun h => by omega, fun _ => by omega, by rw [if_neg (by omega)]; simpa using h3, fun _ => ⟨h6, cells, h7, h8, by simpa using h9⟩⟩
        have hh3 := hh cap hg1.1 hg1.2 (rOf z).length (by omega) (by omega) (by
          simp only [List.map_cons, List.map_nil, fnD, Lin.den_var]
          rw [upd_lt (by omega), hA0])
        generalize hρ : upd (upd ρ n cap) (n + 1) ((rOf z).length : Int) = ρ3 at hh3
        have ha : agree n ρ ρ3 := by
          rw [← hρ]
          intro i hi
          rw [upd_lt (by omega), upd_lt hi]
        have e1 : ρ3 n = cap := by rw [← hρ, upd_lt (by omega), upd_same]
        have e2 : ρ3 (n + 1) = (rOf z).length := by rw [← hρ, upd_same]
        have e3 : ρ3 s = z := by rw [ha s (by omega)]; exact hA0
        have hm3 := hm.rho hb ha
        have hb3 := hb.ext ha (show n ≤ n + 2 by omega) (Nat.le_refl bl.length)
        have hAk : (A.rows sh (.const 0) (.var s) (.var n) 2).ok (n + 2) bl.length ρ3 := ⟨⟨Lin.sc_const _ _, Lin.sc_var (by omega), Lin.sc_var (by omega)⟩, by rw [Lin.den_var, e3]; exact ⟨z1, z2⟩, by rw [Lin.den_var, e1]; exact hg1⟩
        have hM := hm3.push (x := ([.rows sh (.const 0) (.var s) (.var n) 2], (e, false))) (g := g) hb3 (fun y hy => by simp at hy; subst hy; exact hAk) (fun ho => by cases ho) (fun sh' off' code' cap' kind' he => by
            cases he
            intro _
            refine ⟨fun h => by rw [Lin.den_var, e1] at h; rw [Lin.den_var, e3]; exact hg2 h, fun h => ?_⟩
            rw [Lin.den_var, e1] at h
            obtain ⟨hNg, cells, k1, k2, k3⟩ := hg5 h
            have hn2 := hN g hNg
            exact ⟨.inr (.inr hn2.2), cells, e, (0, 0), k1, ⟨by rw [Lin.den_const]; exact Int.le_refl _, by rw [Lin.den_const, Lin.den_var, e3]; exact k2⟩, fun _ => ⟨rfl, Lin.den_const _ _, .mk2, by rw [Lin.den_var, e1]; exact k3, hn2.1, .inr hn2.2⟩⟩) (fun i p hi he => by
              by_cases hc : 0 ≤ cap
              · refine .inr (.inl ?_)
                rw [kindC_agree (hb _ (List.mem_of_getElem? hi)) ha]
                exact h2 i p hi (by rw [he]; exact (hg5 hc).1)
              · refine .inr (.inr ?_)
                simp only [kindC, Lin.den_var, e1]
                rw [if_pos (by omega)])
        have hlat : Later n bl.length ρ m (n + 2) (bl ++ [([A.rows sh (.const 0) (.var s) (.var n) 2], (e, false))]).length ρ3 (updM m bl.length g) := ⟨by omega, ha, by simp, fun b hb => updM_lt hb⟩
        have hbl3 : BlOk (n + 2) (bl ++ [([A.rows sh (.const 0) (.var s) (.var n) 2], (e, false))]).length ρ3 (bl ++ [([.rows sh (.const 0) (.var s) (.var n) 2], (e, false))]) := fun p hp a ha' => by
          rcases List.mem_append.1 hp with hp | hp
          · exact (hb3 p hp a ha').ext (agree.refl _ _) (Nat.le_refl _) (by simp)
          · simp at hp; subst hp; simp at ha'; subst ha'
            exact hAk.ext (agree.refl _ _) (Nat.le_refl _) (by simp)
        have hu0 : W.ok (n + 2) (bl ++ [([A.rows sh (.const 0) (.var s) (.var n) 2], (e, false))]).length ρ3 (.one (.sl bl.length sh.length (.const 0) (.const 0) (.var (n + 1)) (.var n))) := by
          refine ⟨by simp, ⟨Lin.sc_const _ _, Lin.sc_const _ _, Lin.sc_var (by omega), Lin.sc_var (by omega)⟩, ?_⟩
          simp only [Lin.den_var, Lin.den_const, e1, e2]
          exact ⟨by omega, by omega, fun h => by rw [hg2 h]; rfl, hg3⟩
        obtain ⟨n', ρ', m', us', bl', g1, g2, g3, g4, g5, g6⟩ := argE_plain (w0 := w0) (l := r) (s := s + 1) (us := us ++ [.one (.sl bl.length sh.length (.const 0) (.const 0) (.var (n + 1)) (.var n))]) (zs := zs) (vals := vs) hok.1 hbl3 hM (hA1.agree ha (by omega)) hz (by omega) hat (fun u hu => by
            rcases List.mem_append.1 hu with hu | hu
            · exact (hus u hu).ext ha (by omega) (by simp)
            · simp at hu; subst hu; exact hu0) hh3
        refine ⟨n', ρ', m', us', bl', hlat.trans g1, g2, g3, ?_, g5, g6⟩
        rw [g4, List.map_append, List.append_assoc]
        congr 1
        · exact List.map_congr_left fun u hu => W.den_ext (hus u hu) ha (fun b hb => updM_lt hb)
        · simp only [List.map_cons, List.map_nil, List.cons_append, List.nil_append, W.den, A.den, Lin.den_var, Lin.den_const, e1, e2, updM_same]
          rw [hg4]
          simp
where
  argE_plain {w0 : Base} {F N : Nat → Prop} : ∀ {l : List BD} {s n : Nat} {us : List W} {bl : List Blk} {k : Nat → List W → List Blk → T} {G : Again} {ρ : Env} {m : Nat → Nat} {w : World} {zs : List Int} {vals : List Value},
    (l.all BD.isD) = true → BlOk n bl.length ρ bl → Mem w0 ρ m bl w → At ρ s zs → inB (bbds l) zs → s + (bbds l).length ≤ n → atL F N w l zs vals →
    (∀ u ∈ us, W.ok n bl.length ρ u) →
    (argE l s n us bl k).holds S L G ρ → ∃ n' ρ' m' us' bl', Later n bl.length ρ m n' (List.length bl') ρ' m' ∧ BlOk n' bl'.length ρ' bl' ∧ Mem w0 ρ' m' bl' w ∧ us'.map (W.den ρ' m') = us.map (W.den ρ m) ++ vals ∧ (∀ u ∈ us', W.ok n' bl'.length ρ' u) ∧ (k n' us' bl').holds S L G ρ'
  | [], s, n, us, bl, k, G, ρ, m, w, zs, vals, _, hb, hm, _, _, _, hat, hus, hh => by
    match vals, hat with
    | [], _ => exact ⟨n, ρ, m, us, bl, Later.refl _ _ _ _, hb, hm, by simp, hus, hh⟩
  | .d x :: r, s, n, us, bl, k, G, ρ, m, w, zs, vals, hok, hb, hm, hA, hz, hn, hat, hus, hh => by
    match vals, hat with
    | v :: vs, hat =>
      obtain ⟨hv, hat⟩ := hat
      have hv : v = x.val zs := hv
      simp only [bbds, BD.bds] at hz hn
      simp only [List.length_append] at hn
      obtain ⟨i1, i2⟩ := inB_split hz
      rw [D.bds_len] at i1 i2 hn
      have hs := D.sym_spec (ρ := ρ) (m := m) (N := n) (nb := bl.length) x i1 hA (by omega)
      obtain ⟨n', ρ', m', us', bl', g1, g2, g3, g4, g5, g6⟩ := argE_plain (l := r) (s := s + x.num) (us := us ++ [x.sym s]) (zs := zs.drop x.num) (by simpa [BD.isD] using hok) hb hm (hA.drop x.num) i2 (by omega) hat (fun u hu => by
        rcases List.mem_append.1 hu with hu | hu
        · exact hus u hu
        · simp at hu; subst hu; exact hs.1) hh
      exact ⟨n', ρ', m', us', bl', g1, g2, g3, by rw [g4, List.map_append, hv]; simp [hs.2], g5, g6⟩
  | .rd _ :: _, _, _, _, _, _, _, _, _, _, _, _, hok, _, _, _, _, _, _, _, _ => by simp [BD.isD] at hok
  | .ow _ _ :: _, _, _, _, _, _, _, _, _, _, _, _, hok, _, _, _, _, _, _, _, _ => by simp [BD.isD] at hok
end
end Go.Rx

/- Contracts with slices: at a call, and out of a tree. -/
set_option linter.unusedVariables false
set_option linter.unusedSimpArgs false
namespace Go.Rx
open M

/-! ### Rows within rows -/
theorem lc_cons (x : Nat) (r : List Nat) : lc (x :: r) = 2 ^ x * (2 * lc r + 1) := rfl
theorem lc_tail (x : Nat) (r : List Nat) : lc r ≤ lc (x :: r) := by
  rw [lc_cons]
  have h1 : 1 ≤ 2 ^ x := Nat.one_le_two_pow
  have h2 : 2 * lc r + 1 ≤ 2 ^ x * (2 * lc r + 1) := Nat.le_mul_of_pos_left _ h1
  omega
theorem lc_drop : ∀ (a : Nat) (l : List Nat), lc (l.drop a) ≤ lc l
  | 0, l => by simp
  | a + 1, [] => by simp
  | a + 1, x :: r => by rw [List.drop_succ_cons]; exact Nat.le_trans (lc_drop a r) (lc_tail x r)
theorem lc_take : ∀ (k : Nat) (l : List Nat), lc (l.take k) ≤ lc l
  | 0, l => by simp [lc]
  | k + 1, [] => by simp
  | k + 1, x :: r => by
    rw [List.take_succ_cons, lc_cons, lc_cons]
    exact Nat.mul_le_mul_left _ (by have := lc_take k r; omega)
theorem rc_sub (l : List (List Int)) (a k : Nat) : rc ((l.drop a).take k) ≤ rc l := by
  unfold rc
  rw [List.map_take, List.map_drop]
  exact_mod_cast Nat.le_trans (lc_take k _) (lc_drop a _)
theorem zz_uz (n : Nat) : zz (uz n) = n := by
  unfold zz uz
  by_cases h : n % 2 = 0
  · rw [if_pos h, if_pos (by omega)]; omega
  · rw [if_neg h, if_neg (by omega)]; omega
theorem tz_spec : ∀ (f n : Nat), 0 < n → n ≤ f → n = 2 ^ tz f n * (2 * (n / 2 ^ tz f n / 2) + 1)
  | 0, n, h, h' => by omega
  | f + 1, n, h, h' => by
    unfold tz
    by_cases hn : n % 2 = 0
    · rw [if_pos hn]
      have ih := tz_spec f (n / 2) (by omega) (by omega)
      have e : n / 2 ^ (tz f (n / 2) + 1) = n / 2 / 2 ^ tz f (n / 2) := by rw [Nat.pow_succ, Nat.mul_comm, Nat.div_div_eq_div_mul]
      rw [e, Nat.pow_succ, Nat.mul_comm (2 ^ _) 2, Nat.mul_assoc, ← ih]; omega
    · rw [if_neg hn]; simp; omega
theorem lc_ld : ∀ (f n : Nat), n ≤ f → lc (ld f n) = n
  | 0, n, h => by
    have : n = 0 := by omega
    subst this; rfl
  | f + 1, n, h => by
    unfold ld
    by_cases hn : n = 0
    · rw [if_pos hn, hn]; rfl
    · rw [if_neg hn, lc_cons]
      have hp : 0 < 2 ^ tz n n := Nat.two_pow_pos _
      have hd : n / 2 ^ tz n n / 2 ≤ f := by
        have h1 : n / 2 ^ tz n n ≤ n := Nat.div_le_self _ _
        omega
      rw [lc_ld f _ hd]
      exact (tz_spec n n (by omega) (Nat.le_refl _)).symm
theorem rc_rOf {z : Int} (h : 0 ≤ z) : rc (rOf z) = z := by
  unfold rc rOf
  rw [List.map_map]
  have e : ((fun row : List Int => lc (row.map zz)) ∘ fun n => (ld n n).map uz) = id := by
    funext n
    simp only [Function.comp, List.map_map, id]
    have : (zz ∘ uz) = id := by funext k; exact zz_uz k
    rw [this, List.map_id, lc_ld n n (Nat.le_refl _)]
  rw [e, List.map_id, lc_ld _ _ (Nat.le_refl _)]
  omega
/-- The slice's blocks. -/
def baseV : V → List Nat
  | .w (.one (.sl b _ _ _ _ _)) => [b]
  | .w (.one (.slc b _ _ _)) => [b]
  | _ => []
def capM (cap capb : Lin) : M Unit := cond (Lin.beq cap capb) (pure ()) (chkM 40 [cap, capb])
noncomputable def rdM (sh : List CK) (bl : List Blk) (v : V) : M Lin :=
  match v with
  | .w (.one (.con (.slice none 0 0))) => pure (.const 0)
  | .w (.one (.sl b sz o ro len cap)) => match bl[b]? with
    | some ([.rows sh' off code capb kind], _) => cond (Nat.blt 0 kind && shBeq sh sh' && Lin.beq o off && Nat.beq sz sh.length) (bind (chkM 22 [code, ro, ro.add len]) fun _ => bind (capM cap capb) fun _ => fnM 22 [code, ro, ro.add len] 0 RB) fail
    | _ => fail
  | .w (.one (.slc b off len cap)) => match headC bl b off (len * sh.length) with
    | some cs => cond (shOk sh && Nat.ble len 1073741824 && Nat.ble len cap && Nat.ble cap 9223372036854775807) (appRowsM sh (chunkA sh.length len cs) (.const 0)) fail
    | none => fail
  | _ => fail
noncomputable def owM (sh : List CK) (e : TypeId) (bl : List Blk) (v : V) : M Lin :=
  match v with
  | .w (.one (.con (.slice none 0 0))) => pure (.const 0)
  | .w (.one (.sl b sz o ro len cap)) => match bl[b]? with
    | some ([.rows sh' off code capb kind], t) => cond (Nat.beq kind 2 && shBeq sh sh' && Lin.beq o (.const 0) && Lin.beq off (.const 0) && Lin.beq ro (.const 0) && Lin.beq cap capb && Nat.beq sz sh.length && Nat.beq t.1 e) (bind (chkM 22 [code, .const 0, len]) fun _ => fnM 22 [code, .const 0, len] 0 RB) fail
    | _ => fail
  | .w (.one (.slc b off len cap)) => match bl[b]? with
    | some (C, t) => match headC bl b off (len * sh.length) with
      | some cs => cond (shOk sh && Nat.ble len 1073741824 && Nat.ble len cap && Nat.ble cap 9223372036854775807 && Nat.beq off 0 && Nat.beq C.length (cap * sh.length) && !t.2 && Nat.beq t.1 e) (appRowsM sh (chunkA sh.length len cs) (.const 0)) fail
      | none => fail
    | none => fail
  | _ => fail
def slcV : V → List Nat
  | .w (.one (.slc b _ _ _)) => [b]
  | _ => []
def BF (w0 : Base) (ρ : Env) (m : Nat → Nat) (bl : List Blk) (bs os : List Nat) (g : Nat) : Prop :=
  (∃ b ∈ bs, m b = g ∧ ∃ p, bl[b]? = some p ∧ kindC ρ p.1 ≠ 0 ∧ (isOrd p.1 = true → b ∈ os)) ∧ (w0.ex g ∨ w0.ro g ∨ w0.r.heap.size ≤ g)
section
variable {S : Nat → List Int → List Int → Prop} {L : V → Env → Prop} {n : Nat} {ρ : Env} {m : Nat → Nat} {bl : List Blk} {gl : Glo} {w0 : Base} {P : Program} {w : World}

theorem SlAt.mono {F F' : Nat → Prop} {sh : List CK} {rows : List (List Int)} {v : Value} (h : SlAt F w sh rows v) (hF : ∀ g, F g → F' g) : SlAt F' w sh rows v := by
  rcases h with h | ⟨g, o, cap, cells, t, fz, h1, h2, h3, h4⟩
  · exact .inl h
  · exact .inr ⟨g, o, cap, cells, t, fz, h1, h2, hF g h3, h4⟩
/-- Cells of an ordinary block as rows. -/
theorem slc_rows {b off len : Nat} {C : List A} {t : TypeId × Bool} {cs : List A} {sh : List CK} {rows : List (List Int)} (hb : BlOk n bl.length ρ bl) (hw : Mem w0 ρ m bl w) (hbl : bl[b]? = some (C, t)) (hcs : headC bl b off (len * sh.length) = some cs)
    (hrk : ∀ row ∈ rows, RowOk sh row) (hfl : flatV sh rows = cs.map (A.den ρ m)) : w0.b.heap.size ≤ m b ∧ (w0.ex (m b) ∨ w0.r.heap.size ≤ m b) ∧ ∃ cells : Array Value, w.heap[m b]? = some (.cells cells t.1 (0, 0)) ∧ RowsAt cells off sh rows ∧ (t.2 = false → cells.size = C.length) := by
  unfold headC at hcs
  rw [hbl] at hcs
  simp only at hcs
  cases hc : (Nat.ble (off + len * sh.length) C.length && isOrd C) with
  | false => rw [hc] at hcs; cases hcs
  | true =>
    rw [hc] at hcs
    simp only [cond_true, Option.some.injEq] at hcs
    simp only [Bool.and_eq_true] at hc
    have hle := Nat.le_of_ble_eq_true hc.1
    obtain ⟨g1, g2, r, hr, g3⟩ := hw.blk b C t hbl hc.2
    refine ⟨g1, g2, _, g3, ⟨hrk, (C.take off).map (A.den ρ m), ((C.drop off).drop (len * sh.length)).map (A.den ρ m) ++ r, ?_, by simp; omega⟩, fun ht => by rw [hr ht]; simp⟩
    rw [hfl, ← hcs]
    show C.map (A.den ρ m) ++ r = _
    have e : C = C.take off ++ ((C.drop off).take (len * sh.length) ++ (C.drop off).drop (len * sh.length)) := by rw [List.take_append_drop, List.take_append_drop]
    conv => lhs; rw [e]
    simp only [List.map_append, List.append_assoc]
theorem rOf_const0 : rOf ((Lin.const 0).den ρ) = [] := by rw [Lin.den_const]; exact rOf_zero
theorem RB_nonneg : (0 : Int) ≤ RB := Int.le_trans (rc_nonneg []) (RB_c (l := []) (by simp) (by simp))

theorem slc_M {sh : List CK} {len : Nat} {cs : List A} (hsh : shOk sh = true) (hl : len ≤ 1073741824) (hok : ∀ a ∈ cs, A.ok n bl.length ρ a) (hcl : cs.length = len * sh.length) :
    Snd S L (appRowsM sh (chunkA sh.length len cs) (.const 0)) n ρ fun ρ' n' l => l.sc n' ∧ (0 ≤ l.den ρ' ∧ l.den ρ' ≤ RB) ∧ (rOf (l.den ρ')).length = len ∧ (∀ row ∈ rOf (l.den ρ'), RowOk sh row) ∧ flatV sh (rOf (l.den ρ')) = cs.map (A.den ρ m) := by
  have hch := chunkA_flat (w := sh.length) (k := len) hcl
  refine (appRowsM_snd (nb := bl.length) (m := m) hsh (rs := chunkA sh.length len cs) (c := .const 0) (fun row hr a ha => hok a (chunkA_mem row hr a ha)) (Lin.sc_const _ _) (by rw [Lin.den_const]; exact ⟨Int.le_refl _, RB_nonneg⟩) (by rw [rOf_const0]; intro _ h; simp at h) (by rw [rOf_const0, hch.1]; simpa using hl)).mono fun ρ1 n1 l hn ha ⟨p1, p2, rows', p3, p4, p5, p6⟩ => ?_
  rw [rOf_const0, List.nil_append] at p3
  rw [p3]
  exact ⟨p1, p2, by rw [p4, hch.1], p5, by rw [p6, hch.2]⟩
theorem capM_snd {cap capb : Lin} {α : Type} {x : M α} {R : Env → Nat → α → Prop} (h : (0 ≤ cap.den ρ → 0 ≤ capb.den ρ) → Snd S L x n ρ R) : Snd S L (bind (capM cap capb) fun _ => x) n ρ R := by
  unfold capM
  cases hc : Lin.beq cap capb with
  | true => exact h (by rw [Lin.beq_eq hc]; exact id)
  | false => exact chkM_snd h
theorem rdM_snd {sh : List CK} {v : V} {X : Value} (hb : BlOk n bl.length ρ bl) (hw : Mem w0 ρ m bl w) (hv : v.ok n bl.length ρ) (hX : v.rel ρ m X) :
    Snd S L (rdM sh bl v) n ρ fun ρ' n' l => l.sc n' ∧ (0 ≤ l.den ρ' ∧ l.den ρ' ≤ RB) ∧ SlAt (BF w0 ρ m bl (baseV v) (slcV v)) w sh (rOf (l.den ρ')) X := by
  unfold rdM
  split
  · refine Snd.pure ⟨Lin.sc_const _ _, by rw [Lin.den_const]; exact ⟨Int.le_refl _, RB_nonneg⟩, .inl ⟨hX, rOf_const0⟩⟩
  · rename_i b sz o ro len cap
    split
    · rename_i sh' off code capb kind t hbl
      refine snd_guard fun hc => chkM_snd fun hk => ?_
      simp only [Bool.and_eq_true] at hc
      obtain ⟨⟨⟨c1, c2⟩, c3⟩, c4⟩ := hc
      have c1 : 0 < kind := Nat.le_of_ble_eq_true c1
      have c2 := shBeq_eq c2; have c3 := Lin.beq_eq c3; have c4 := Nat.eq_of_beq_eq_true c4
      subst c2; subst c3; subst c4
      simp only [List.map_cons, List.map_nil, chkD, Lin.den_add] at hk
      have hvo : (A.sl b sh.length o ro len cap).ok n bl.length ρ := hv
      obtain ⟨ptr, e1, e2, e3⟩ := sl_den (m := m) hvo
      have hX : X = (A.sl b sh.length o ro len cap).den ρ m := hX
      obtain ⟨x1, ⟨x2, x3, x4, x5⟩, ⟨x6, x7, x8, x9⟩, ⟨x10, x13⟩, x11, x12⟩ := hvo
      have hAok : (A.rows sh o code capb kind).ok n bl.length ρ := hb _ (List.mem_of_getElem? hbl) _ (by simp)
      have hf : fnD 22 ([code, ro, ro.add len].map (·.den ρ)) = rc (((rOf (code.den ρ)).drop (ro.den ρ).toNat).take (len.den ρ).toNat) := by
        simp only [List.map_cons, List.map_nil, fnD, Lin.den_add]
        congr 2; omega
      have hbd : rc (((rOf (code.den ρ)).drop (ro.den ρ).toNat).take (len.den ρ).toNat) ≤ RB := by
        have h1 := rc_sub (rOf (code.den ρ)) (ro.den ρ).toNat (len.den ρ).toNat
        rw [rc_rOf hAok.2.1.1] at h1
        exact Int.le_trans h1 hAok.2.1.2
      refine capM_snd fun hcc => ?_
      refine (fnM_snd (by rw [hf]; exact rc_nonneg _) (by rw [hf]; exact hbd)).mono fun ρ1 n1 l hn ha ⟨k1, k2⟩ => ?_
      rw [hf] at k2
      refine ⟨k1, by rw [k2]; exact ⟨rc_nonneg _, hbd⟩, ?_⟩
      rw [k2, rOf_rc]
      have hlen : (((rOf (code.den ρ)).drop (ro.den ρ).toNat).take (len.den ρ).toNat).length = (len.den ρ).toNat := by simp; omega
      rcases Int.lt_or_le (cap.den ρ) 0 with hcap | hcap
      · left
        have := x11 hcap
        refine ⟨by rw [hX, e1, e2 hcap, if_pos hcap, this]; rfl, by rw [this]; simp⟩
      · right
        clear hbd
        rcases Int.lt_or_le (capb.den ρ) 0 with hcb | hcb
        · have := hcc hcap; omega
        · obtain ⟨q0, cells, tq, fz, q1, ⟨q2, q3⟩, _⟩ := (hw.rws b sh o code capb kind t hbl (by omega)).2 hcb
          refine ⟨m b, (o.den ρ).toNat + (ro.den ρ).toNat * sh.length, (cap.den ρ).toNat, cells, tq, fz, ?_, ⟨by rw [hlen]; have := x12 hcap; omega, by omega⟩, ⟨⟨b, by simp [baseV], rfl, _, hbl, by rw [kindC_rows (by omega) hcb]; omega, fun h => by cases h⟩, q0⟩, q1, ?_⟩
          · rw [hX, e1, e3 hcap, hlen, if_neg (by omega)]
          · exact q3.sub _ _ (by omega)
    · exact Snd.fail
  · rename_i b off len cap
    split
    · rename_i cs hcs
      refine snd_guard fun hc => ?_
      simp only [Bool.and_eq_true] at hc
      obtain ⟨⟨⟨c1, c2⟩, c3⟩, c4⟩ := hc
      have c2 := Nat.le_of_ble_eq_true c2; have c3 := Nat.le_of_ble_eq_true c3; have c4 := Nat.le_of_ble_eq_true c4
      obtain ⟨d1, d2, d3⟩ := headC_spec hw hb hcs
      refine (slc_M (m := m) c1 c2 d2 d1).mono fun ρ1 n1 l hn ha ⟨k1, k2, k3, k4, k5⟩ => ⟨k1, k2, .inr ?_⟩
      have hX : X = .slice (some ⟨m b, off, none⟩) len cap := hX
      cases hbl : bl[b]? with
      | none => unfold headC at hcs; rw [hbl] at hcs; cases hcs
      | some q =>
        obtain ⟨C, t⟩ := q
        obtain ⟨g1, g2, cells, g3, g4, _⟩ := slc_rows hb hw hbl hcs k4 k5
        have hord : isOrd C = true := by
          unfold headC at hcs
          rw [hbl] at hcs
          simp only at hcs
          cases hc : (Nat.ble (off + len * sh.length) C.length && isOrd C) with
          | false => rw [hc] at hcs; cases hcs
          | true => simp only [Bool.and_eq_true] at hc; exact hc.2
        exact ⟨m b, off, cap, cells, t.1, (0, 0), by rw [hX, k3], ⟨by omega, by omega⟩, ⟨⟨b, by simp [baseV], rfl, _, hbl, by rw [kind_ord hord]; decide, fun _ => by simp [slcV]⟩, g2.elim .inl fun h => .inr (.inr h)⟩, g3, g4⟩
    · exact Snd.fail
  · exact Snd.fail
theorem owM_snd {sh : List CK} {e : TypeId} {v : V} {X : Value} (hex : ∀ g, ¬ w0.ex g) (hb : BlOk n bl.length ρ bl) (hw : Mem w0 ρ m bl w) (hv : v.ok n bl.length ρ) (hX : v.rel ρ m X) :
    Snd S L (owM sh e bl v) n ρ fun ρ' n' l => l.sc n' ∧ (0 ≤ l.den ρ' ∧ l.den ρ' ≤ RB) ∧ SlOw (fun g => w0.r.heap.size ≤ g) w sh e (rOf (l.den ρ')) X := by
  unfold owM
  split
  · refine Snd.pure ⟨Lin.sc_const _ _, by rw [Lin.den_const]; exact ⟨Int.le_refl _, RB_nonneg⟩, .inl ⟨hX, rOf_const0⟩⟩
  · rename_i b sz o ro len cap
    split
    · rename_i sh' off code capb kind t hbl
      refine snd_guard fun hc => chkM_snd fun hk => ?_
      simp only [Bool.and_eq_true] at hc
      obtain ⟨⟨⟨⟨⟨⟨⟨c1, c2⟩, c3⟩, c3'⟩, c3''⟩, c6⟩, c4⟩, c5⟩ := hc
      have c1 := Nat.eq_of_beq_eq_true c1
      have c2 := shBeq_eq c2; have c3 := Lin.beq_eq c3; have c3' := Lin.beq_eq c3'; have c3'' := Lin.beq_eq c3''; have c6 := Lin.beq_eq c6; have c4 := Nat.eq_of_beq_eq_true c4; have c5 := Nat.eq_of_beq_eq_true c5
      subst c2; subst c3; subst c4; subst c3'; subst c3''; subst c6; subst c5; subst c1
      simp only [List.map_cons, List.map_nil, chkD, Lin.den_const] at hk
      have hvo : (A.sl b sh.length (.const 0) (.const 0) len cap).ok n bl.length ρ := hv
      obtain ⟨ptr, e1, e2, e3⟩ := sl_den (m := m) hvo
      have hX : X = (A.sl b sh.length (.const 0) (.const 0) len cap).den ρ m := hX
      obtain ⟨x1, ⟨x2, x3, x4, x5⟩, ⟨x6, x7, x8, x9⟩, ⟨x10, x13⟩, x11, x12⟩ := hvo
      rw [Lin.den_const] at x13
      have hAok : (A.rows sh (.const 0) code cap 2).ok n bl.length ρ := hb _ (List.mem_of_getElem? hbl) _ (by simp)
      have hf : fnD 22 ([code, .const 0, len].map (·.den ρ)) = rc (((rOf (code.den ρ)).drop 0).take (len.den ρ).toNat) := by
        simp only [List.map_cons, List.map_nil, fnD, Lin.den_const]
        congr 2
      have hbd : rc (((rOf (code.den ρ)).drop 0).take (len.den ρ).toNat) ≤ RB := by
        have h1 := rc_sub (rOf (code.den ρ)) 0 (len.den ρ).toNat
        rw [rc_rOf hAok.2.1.1] at h1
        exact Int.le_trans h1 hAok.2.1.2
      refine (fnM_snd (by rw [hf]; exact rc_nonneg _) (by rw [hf]; exact hbd)).mono fun ρ1 n1 l hn ha ⟨k1, k2⟩ => ?_
      rw [hf] at k2
      refine ⟨k1, by rw [k2]; exact ⟨rc_nonneg _, hbd⟩, ?_⟩
      rw [k2, rOf_rc]
      have hlen : (((rOf (code.den ρ)).drop 0).take (len.den ρ).toNat).length = (len.den ρ).toNat := by simp; omega
      rcases Int.lt_or_le (cap.den ρ) 0 with hcap | hcap
      · left
        have := x11 hcap
        refine ⟨by rw [hX, e1, e2 hcap, if_pos hcap, this]; rfl, by rw [this]; simp⟩
      · right
        clear hbd
        obtain ⟨q0, cells, tq, fz, q1, ⟨q2, q3⟩, q4⟩ := (hw.rws b sh (.const 0) code cap 2 t hbl (by omega)).2 hcap
        obtain ⟨p0, p1, p2, p3, p4, p5⟩ := q4 (by omega)
        have p2 := p2.two
        subst p0; subst p2
        rw [Lin.den_const] at q3
        refine ⟨m b, (cap.den ρ).toNat, cells, ?_, ⟨by rw [hlen]; have := x12 hcap; omega, by omega⟩, p5.elim (fun h => absurd h (hex _)) id, q1, ?_, p3⟩
        · rw [hX, e1, e3 hcap, hlen, if_neg (by omega)]; simp [Lin.den_const]
        · have := q3.sub 0 (len.den ρ).toNat (by omega)
          simpa using this
    · exact Snd.fail
  · rename_i b off len cap
    split
    · rename_i C t hbl
      split
      · rename_i cs hcs
        refine snd_guard fun hc => ?_
        simp only [Bool.and_eq_true] at hc
        obtain ⟨⟨⟨⟨⟨⟨⟨c1, c2⟩, c3⟩, c4⟩, c5⟩, c6⟩, c7⟩, c8⟩ := hc
        have c2 := Nat.le_of_ble_eq_true c2; have c3 := Nat.le_of_ble_eq_true c3; have c4 := Nat.le_of_ble_eq_true c4
        have c5 := Nat.eq_of_beq_eq_true c5; have c6 := Nat.eq_of_beq_eq_true c6; have c8 := Nat.eq_of_beq_eq_true c8
        subst c5; subst c8
        obtain ⟨d1, d2, d3⟩ := headC_spec hw hb hcs
        refine (slc_M (m := m) c1 c2 d2 d1).mono fun ρ1 n1 l hn ha ⟨k1, k2, k3, k4, k5⟩ => ⟨k1, k2, .inr ?_⟩
        have hX : X = .slice (some ⟨m b, 0, none⟩) len cap := hX
        obtain ⟨g1, g2, cells, g3, g4, g5⟩ := slc_rows hb hw hbl hcs k4 k5
        exact ⟨m b, cap, cells, by rw [hX, k3], ⟨by omega, by omega⟩, g2.elim (fun h => absurd h (hex _)) id, g3, g4, by rw [g5 (by simpa using c7), c6]⟩
      · exact Snd.fail
    · exact Snd.fail
  · exact Snd.fail
end

/-! ### Arguments -/
def flatDM (d : D) (v : V) : M (List Lin) :=
  match d, v with
  | .bool, .w (.one (.bool e)) => match e with
    | .lit v => pure [.const (cond v 1 0)]
    | e => bind (indM e) fun l => pure [l]
  | .int k lo hi, .w (.one (.int k' x)) => cond (decide (k = k')) (cond (fitI lo hi x) (pure [x.l]) (bind (chkM 39 [x.l, .const lo, .const hi]) fun _ => pure [x.l])) fail
  | .mix l, .w (.agg s) => rowLinM l s
  | .str, .w (.one (.str l)) => pure [l]
  | .strk l, .w (.one (.str x)) => match x.isC with | some c => cond (decide (c = cOf (kL l))) (pure []) fail | none => fail
  | .ik k c, .w (.one (.int k' x)) => match x.l.isC with | some d => cond (decide (k = k') && decide (d = c)) (pure []) fail | none => fail
  | .agg k n lo hi, .w (.agg l) => cond (Nat.beq l.length n) (match flatA k lo hi l with | some r => pure r | none => fail) fail
  | _, _ => fail
noncomputable def flatBM (bl : List Blk) : List BD → List V → M (List Lin)
  | [], [] => pure []
  | .d x :: r, v :: s => bind (flatDM x v) fun a => bind (flatBM bl r s) fun b => pure (a ++ b)
  | .rd sh :: r, v :: s => bind (rdM sh bl v) fun a => bind (flatBM bl r s) fun b => pure (a :: b)
  | _, _ => fail
section
variable {S : Nat → List Int → List Int → Prop} {L : V → Env → Prop} {w0 : Base} {P : Program} {w : World}
theorem rowOk_inB : ∀ {sh : List CK} {zs : List Int}, RowOk sh zs → inB (sh.map CK.bd) zs ∧ List.zipWith CK.val sh zs = rowV sh zs
  | [], [], _ => ⟨trivial, rfl⟩
  | c :: sh, z :: zs, h => ⟨⟨h.1.1, h.1.2, (rowOk_inB h.2).1⟩, by simp [rowV, (rowOk_inB h.2).2]⟩
  | [], _ :: _, h => h.elim
  | _ :: _, [], h => h.elim
theorem flatDM_snd {d : D} {v : V} {X : Value} {n nb : Nat} {ρ : Env} {m : Nat → Nat} (hv : v.ok n nb ρ) (hX : v.rel ρ m X) : Snd S L (flatDM d v) n ρ fun ρ' n' ls => (∀ x ∈ ls, Lin.sc n' x) ∧ inB d.bds (ls.map (·.den ρ')) ∧ X = d.val (ls.map (·.den ρ')) := by
  unfold flatDM
  split
  · rename_i e
    have hX : X = .bool (e.den ρ) := hX
    have key : Snd S L (bind (indM e) fun l => pure [l]) n ρ fun ρ' n' ls => (∀ x ∈ ls, Lin.sc n' x) ∧ inB D.bool.bds (ls.map (·.den ρ')) ∧ X = D.bool.val (ls.map (·.den ρ')) :=
      indM_snd.bind fun ρ1 n1 l hn ha ⟨g1, g2, g3⟩ => Snd.pure ⟨fun x hx => by simp at hx; subst hx; exact g1, ⟨g2.1, g2.2, trivial⟩, by rw [hX, g3]; rfl⟩
    cases e with
    | lit b =>
      refine Snd.pure ⟨fun x hx => by simp at hx; subst hx; exact Lin.sc_const _ _, ?_, ?_⟩
      · simp only [List.map_cons, List.map_nil, Lin.den_const, D.bds]; cases b <;> exact ⟨by decide, by decide, trivial⟩
      · rw [hX]; simp only [List.map_cons, List.map_nil, Lin.den_const]; cases b <;> rfl
    | _ => exact key
  · rename_i k lo hi k' x
    refine snd_guard fun hk => ?_
    have hk : k = k' := by simpa using hk
    subst hk
    have hv : x.ok n ρ := hv
    have hX : X = .int k (x.l.den ρ) := hX
    cases hf : fitI lo hi x with
    | true =>
      have := fitI_spec hf hv
      exact Snd.pure ⟨fun y hy => by simp at hy; subst hy; exact hv.1, ⟨this.1, this.2, trivial⟩, hX⟩
    | false =>
      refine chkM_snd fun hk => Snd.pure ?_
      simp only [List.map_cons, List.map_nil, chkD, Lin.den_const] at hk
      exact ⟨fun y hy => by simp at hy; subst hy; exact hv.1, ⟨hk.1, hk.2, trivial⟩, hX⟩
  · rename_i l s
    have hX : X = .agg (s.map (A.den ρ m)).toArray := hX
    refine (rowLinM_snd (nb := nb) (m := m) hv).mono fun ρ1 n1 ls hn ha ⟨g1, g2, g3⟩ => ?_
    have := rowOk_inB g2
    refine ⟨g1, this.1, ?_⟩
    rw [hX, ← g3]
    simp only [D.val, this.2]
  · rename_i l
    have hX : X = .string (bA (sOf (l.den ρ))) := hX
    have hv : l.sc n ∧ 0 ≤ l.den ρ ∧ l.den ρ ≤ HB := hv
    exact Snd.pure ⟨fun y hy => by simp at hy; subst hy; exact hv.1, ⟨hv.2.1, hv.2.2, trivial⟩, hX⟩
  · rename_i l x
    have hX : X = .string (bA (sOf (x.den ρ))) := hX
    cases hc : x.isC with
    | none => exact Snd.fail
    | some c =>
      refine snd_guard fun hd => Snd.pure ⟨fun y hy => by simp at hy, trivial, ?_⟩
      rw [hX, strk_den (n := n) hc (by simpa using hd)]; rfl
  · rename_i k c k' x
    have hX : X = .int k' (x.l.den ρ) := hX
    cases hc : x.l.isC with
    | none => exact Snd.fail
    | some d =>
      refine snd_guard fun hd => Snd.pure ⟨fun y hy => by simp at hy, trivial, ?_⟩
      simp only [Bool.and_eq_true, decide_eq_true_eq] at hd
      rw [hX, Lin.den_isC hc, ← hd.1, hd.2]; rfl
  · rename_i k n' lo hi l
    refine snd_guard fun hk => ?_
    have hk := Nat.eq_of_beq_eq_true hk
    have hX : X = .agg (l.map (A.den ρ m)).toArray := hX
    cases hf : flatA k lo hi l with
    | none => exact Snd.fail
    | some r =>
      obtain ⟨g1, g2, g3⟩ := flatA_spec (m := m) hf hv
      rw [hk] at g2
      refine Snd.pure ⟨flatA_sc hf hv, g2, ?_⟩
      rw [hX, g3]
      simp only [D.val]
      rw [List.take_of_length_le (by simp [g1, hk])]
  · exact Snd.fail
theorem map_den_sc {n : Nat} {ρ ρ' : Env} {ls : List Lin} (h : ∀ x ∈ ls, Lin.sc n x) (ha : agree n ρ ρ') : ls.map (·.den ρ') = ls.map (·.den ρ) := List.map_congr_left fun x hx => Lin.den_agree ha (h x hx)
theorem BF.later {n nb : Nat} {ρ ρ' : Env} {m : Nat → Nat} {bl : List Blk} {bs os : List Nat} {g : Nat} (hb : BlOk n nb ρ bl) (ha : agree n ρ ρ') (h : BF w0 ρ' m bl bs os g) : BF w0 ρ m bl bs os g := by
  obtain ⟨⟨b, h1, h2, p, h3, h4, h6⟩, h5⟩ := h
  exact ⟨⟨b, h1, h2, p, h3, by rw [← kindC_agree (hb p (List.mem_of_getElem? h3)) ha]; exact h4, h6⟩, h5⟩
theorem flatBM_snd {bl : List Blk} {m : Nat → Nat} : ∀ {ds : List BD} {vs : List V} {xs : List Value} {n : Nat} {ρ : Env}, BlOk n bl.length ρ bl → Mem w0 ρ m bl w → (∀ v ∈ vs, V.ok n bl.length ρ v) → LRel ρ m vs xs →
    Snd S L (flatBM bl ds vs) n ρ fun ρ' n' ls => (∀ x ∈ ls, Lin.sc n' x) ∧ inB (bbds ds) (ls.map (·.den ρ')) ∧ ∀ F : Nat → Prop, (∀ g, BF w0 ρ m bl (vs.flatMap baseV) (vs.flatMap slcV) g → F g) → atL F (fun _ => False) w ds (ls.map (·.den ρ')) xs
  | [], [], [], n, ρ, _, _, _, _ => Snd.pure ⟨fun _ h => by simp at h, trivial, fun _ _ => trivial⟩
  | .d x :: r, v :: s, X :: xs, n, ρ, hb, hw, hv, hr => by
    unfold flatBM
    refine (flatDM_snd (hv v (by simp)) hr.1).bind fun ρ1 n1 a hn ha ⟨g1, g2, g3⟩ => ?_
    refine (flatBM_snd (ds := r) (vs := s) (xs := xs) (hb.ext ha hn (Nat.le_refl _)) (hw.rho hb ha) (fun u hu => (hv u (List.mem_cons_of_mem _ hu)).ext ha hn (Nat.le_refl _)) (LRel.later (fun u hu => hv u (List.mem_cons_of_mem _ hu)) ha hr.2)).bind fun ρ2 n2 b hn2 ha2 ⟨k1, k2, k3⟩ => Snd.pure ⟨fun y hy => ?_, ?_, fun F hF => ?_⟩
    · rcases List.mem_append.1 hy with hy | hy
      · exact (g1 y hy).mono hn2
      · exact k1 y hy
    · rw [List.map_append, map_den_sc g1 ha2]
      exact inB_append g2 k2
    · have hl : (a.map (·.den ρ1)).length = x.num := by rw [inB_len g2, D.bds_len]
      rw [List.map_append, map_den_sc g1 ha2]
      refine ⟨?_, ?_⟩
      · show X = x.val _
        rw [D.val_app x hl]; exact g3
      · show atL F _ w r (List.drop x.num _) xs
        rw [← hl, List.drop_left]
        exact k3 F fun g hg => hF g (by
          have := BF.later hb ha hg
          obtain ⟨⟨b', h1, h2, p, h4, h5, h6⟩, h3⟩ := this
          exact ⟨⟨b', by simp only [List.flatMap_cons, List.mem_append]; exact .inr h1, h2, p, h4, h5, fun h => by simp only [List.flatMap_cons, List.mem_append]; exact .inr (h6 h)⟩, h3⟩)
  | .rd sh :: r, v :: s, X :: xs, n, ρ, hb, hw, hv, hr => by
    unfold flatBM
    refine (rdM_snd hb hw (hv v (by simp)) hr.1).bind fun ρ1 n1 a hn ha ⟨g1, g2, g3⟩ => ?_
    refine (flatBM_snd (ds := r) (vs := s) (xs := xs) (hb.ext ha hn (Nat.le_refl _)) (hw.rho hb ha) (fun u hu => (hv u (List.mem_cons_of_mem _ hu)).ext ha hn (Nat.le_refl _)) (LRel.later (fun u hu => hv u (List.mem_cons_of_mem _ hu)) ha hr.2)).bind fun ρ2 n2 b hn2 ha2 ⟨k1, k2, k3⟩ => Snd.pure ⟨fun y hy => ?_, ?_, fun F hF => ?_⟩
    · rcases List.mem_cons.1 hy with rfl | hy
      · exact g1.mono hn2
      · exact k1 y hy
    · simp only [List.map_cons, Lin.den_agree ha2 g1]
      exact ⟨g2.1, g2.2, k2⟩
    · simp only [List.map_cons, Lin.den_agree ha2 g1]
      refine ⟨?_, ?_⟩
      · show SlAt F w sh (rOf _) X
        exact g3.mono fun g hg => hF g (by
          obtain ⟨⟨b', h1, h2, p, h4, h5, h6⟩, h3⟩ := hg
          exact ⟨⟨b', by simp only [List.flatMap_cons, List.mem_append]; exact .inl h1, h2, p, h4, h5, fun h => by simp only [List.flatMap_cons, List.mem_append]; exact .inl (h6 h)⟩, h3⟩)
      · exact k3 F fun g hg => hF g (by
          have := BF.later hb ha hg
          obtain ⟨⟨b', h1, h2, p, h4, h5, h6⟩, h3⟩ := this
          exact ⟨⟨b', by simp only [List.flatMap_cons, List.mem_append]; exact .inr h1, h2, p, h4, h5, fun h => by simp only [List.flatMap_cons, List.mem_append]; exact .inr (h6 h)⟩, h3⟩)
  | [], _ :: _, _, _, _, _, _, _, _ => Snd.fail
  | .d _ :: _, [], _, _, _, _, _, _, _ => Snd.fail
  | .rd _ :: _, [], _, _, _, _, _, _, _ => Snd.fail
  | .ow _ _ :: _, [], _, _, _, _, _, _, _ => Snd.fail
  | .ow _ _ :: _, _ :: _, _, _, _, _, _, _, _ => Snd.fail
  | _, [], _ :: _, _, _, _, _, _, hr => hr.elim
  | _, _ :: _, [], _, _, _, _, _, hr => hr.elim
where
  LRel.later {n nb : Nat} {ρ ρ' : Env} {m : Nat → Nat} : ∀ {vs : List V} {xs : List Value}, (∀ v ∈ vs, V.ok n nb ρ v) → agree n ρ ρ' → LRel ρ m vs xs → LRel ρ' m vs xs
  | [], [], _, _, _ => trivial
  | v :: vs, x :: xs, hv, ha, hr => ⟨V.rel.ext hr.1 (hv v (by simp)) ha (fun _ _ => rfl), LRel.later (fun u hu => hv u (List.mem_cons_of_mem _ hu)) ha hr.2⟩
  | [], _ :: _, _, _, hr => hr.elim
  | _ :: _, [], _, _, hr => hr.elim
end
end Go.Rx
