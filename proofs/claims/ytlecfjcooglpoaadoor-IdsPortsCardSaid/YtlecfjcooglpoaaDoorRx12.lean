/- A contract out of a tree. -/
import Derived.Test.YtlecfjcooglpoaaDoorRx11
set_option linter.unusedVariables false
set_option linter.unusedSimpArgs false
namespace Go.Rx
open M

/-! ### Trees: what holds at the leaves; the one way through -/
theorem allB_mono : ∀ {b : List (Int × Int)} {P Q : List Int → Prop}, (∀ rs, P rs → Q rs) → allB b P → allB b Q
  | [], _, _, h, hp => h _ hp
  | (l, u) :: b, P, Q, h, hp => fun r h1 h2 => allB_mono (b := b) (P := fun rs => P (r :: rs)) (Q := fun rs => Q (r :: rs)) (fun rs => h (r :: rs)) (hp r h1 h2)
theorem allB_intro : ∀ {b : List (Int × Int)} {P : List Int → Prop}, (∀ rs, inB b rs → P rs) → allB b P
  | [], _, h => h [] trivial
  | (l, u) :: b, P, h => fun r h1 h2 => allB_intro (b := b) (P := fun rs => P (r :: rs)) fun rs hi => h (r :: rs) ⟨h1, h2, hi⟩
theorem holds_mono {S : Nat → List Int → List Int → Prop} {L L' : V → Env → Prop} (h : ∀ v ρ, L v ρ → L' v ρ) : ∀ (t : T) (G : Again) (ρ : Env), t.holds S L G ρ → t.holds S L' G ρ
  | .stuck, _, _, hh => hh
  | .leaf v, _, ρ, hh => h v ρ hh
  | .div n x d lo hi r, G, ρ, hh => fun q h1 h2 h3 h4 => holds_mono h r G _ (hh q h1 h2 h3 h4)
  | .mul n x y lo hi r, G, ρ, hh => fun q h1 h2 h3 => holds_mono h r G _ (hh q h1 h2 h3)
  | .bit n op k x y r, G, ρ, hh => fun q h1 h2 h3 => holds_mono h r G _ (hh q h1 h2 h3)
  | .shr n x y lo hi r, G, ρ, hh => fun q h1 h2 h3 => holds_mono h r G _ (hh q h1 h2 h3)
  | .sel n cs ix lo hi r, G, ρ, hh => fun q h1 h2 h3 => holds_mono h r G _ (hh q h1 h2 h3)
  | .br b t e, G, ρ, hh => ⟨fun hb => holds_mono h t G ρ (hh.1 hb), fun hb => holds_mono h e G ρ (hh.2 hb)⟩
  | .call id args n bds r, G, ρ, hh => allB_mono (fun rs hr hs => holds_mono h r G _ (hr hs)) hh
  | .loop lid init n bds r, G, ρ, hh => by
    obtain ⟨I, μ, h1, h2⟩ := hh
    exact ⟨I, μ, h1, allB_mono (fun zs hz hI => holds_mono h r _ _ (hz hI)) h2⟩
  | .again lid vals, G, ρ, hh => hh
  | .both x y, G, ρ, hh => ⟨holds_mono h x G ρ hh.1, holds_mono h y G ρ hh.2⟩
  | .fn n op args lo hi r, G, ρ, hh => fun q h1 h2 h3 => holds_mono h r G _ (hh q h1 h2 h3)
  | .chk op args r, G, ρ, hh => ⟨hh.1, holds_mono h r G ρ hh.2⟩
  | .unk n lo hi r, G, ρ, hh => fun z h1 h2 => holds_mono h r G _ (hh z h1 h2)
  | .nat n r, G, ρ, hh => fun z h1 => holds_mono h r G _ (hh z h1)
  | .asm op args r, G, ρ, hh => fun h1 => holds_mono h r G ρ (hh h1)
  | .ind n b r, G, ρ, hh => fun z h1 h2 h3 => holds_mono h r G _ (hh z h1 h2 h3)

def T.plain : T → Bool
  | stuck => true
  | leaf _ => true
  | fn _ _ _ _ _ r | chk _ _ r | ind _ _ r | div _ _ _ _ _ r | mul _ _ _ _ _ r | bit _ _ _ _ _ r | shr _ _ _ _ _ r | sel _ _ _ _ _ r | call _ _ _ _ r => r.plain
  | br _ t e => t.plain && e.plain
  | loop .. => false
  | again .. => false
  | both .. => false
  | unk .. => false
  | nat .. => false
  | asm .. => false
def Path (S : Nat → List Int → List Int → Prop) : T → Env → V → Env → Prop
  | .stuck, _, _, _ => False
  | .leaf v, ρ, v', ρ' => v' = v ∧ ρ' = ρ
  | .div n x d lo hi r, ρ, v, ρ' => ∃ q, 0 ≤ x.den ρ - d * q ∧ x.den ρ - d * q < d ∧ Path S r (upd ρ n q) v ρ'
  | .mul n x y lo hi r, ρ, v, ρ' => Path S r (upd ρ n (x.den ρ * y.den ρ)) v ρ'
  | .bit n op k x y r, ρ, v, ρ' => Path S r (upd ρ n (bitI op k (x.den ρ) (y.den ρ))) v ρ'
  | .shr n x y lo hi r, ρ, v, ρ' => Path S r (upd ρ n (x.den ρ / 2 ^ (y.den ρ).toNat)) v ρ'
  | .sel n cs ix lo hi r, ρ, v, ρ' => Path S r (upd ρ n ((cs.map (·.den ρ)).getD (ix.den ρ).toNat 0)) v ρ'
  | .br b t e, ρ, v, ρ' => (b.den ρ = true ∧ Path S t ρ v ρ') ∨ (b.den ρ = false ∧ Path S e ρ v ρ')
  | .call id args n bds r, ρ, v, ρ' => ∃ rs, S id (args.map (·.den ρ)) rs ∧ Path S r (updL ρ n rs) v ρ'
  | .loop .., _, _, _ => False
  | .again .., _, _, _ => False
  | .both .., _, _, _ => False
  | .unk .., _, _, _ => False
  | .nat .., _, _, _ => False
  | .asm .., _, _, _ => False
  | .ind n b r, ρ, v, ρ' => Path S r (upd ρ n (cond (b.den ρ) 1 0)) v ρ'
  | .fn n op args lo hi r, ρ, v, ρ' => Path S r (upd ρ n (fnD op (args.map (·.den ρ)))) v ρ'
  | .chk op args r, ρ, v, ρ' => Path S r ρ v ρ'
theorem holds_path {S : Nat → List Int → List Int → Prop} {L : V → Env → Prop} : ∀ (t : T) (G : Again) (ρ : Env), t.plain = true → t.holds S L G ρ → t.holds S (fun v ρ' => L v ρ' ∧ Path S t ρ v ρ') G ρ
  | .stuck, _, _, _, hh => hh
  | .leaf v, _, ρ, _, hh => ⟨hh, rfl, rfl⟩
  | .div n x d lo hi r, G, ρ, hp, hh => fun q h1 h2 h3 h4 => holds_mono (fun v ρ' h => ⟨h.1, q, h3, h4, h.2⟩) r G _ (holds_path r G _ hp (hh q h1 h2 h3 h4))
  | .mul n x y lo hi r, G, ρ, hp, hh => fun q h1 h2 h3 => holds_mono (fun v ρ' h => ⟨h.1, by subst h3; exact h.2⟩) r G _ (holds_path r G _ hp (hh q h1 h2 h3))
  | .bit n op k x y r, G, ρ, hp, hh => fun q h1 h2 h3 => holds_mono (fun v ρ' h => ⟨h.1, by subst h3; exact h.2⟩) r G _ (holds_path r G _ hp (hh q h1 h2 h3))
  | .shr n x y lo hi r, G, ρ, hp, hh => fun q h1 h2 h3 => holds_mono (fun v ρ' h => ⟨h.1, by subst h3; exact h.2⟩) r G _ (holds_path r G _ hp (hh q h1 h2 h3))
  | .sel n cs ix lo hi r, G, ρ, hp, hh => fun q h1 h2 h3 => holds_mono (fun v ρ' h => ⟨h.1, by subst h3; exact h.2⟩) r G _ (holds_path r G _ hp (hh q h1 h2 h3))
  | .br b t e, G, ρ, hp, hh => by
    simp only [T.plain, Bool.and_eq_true] at hp
    exact ⟨fun hb => holds_mono (fun v ρ' h => ⟨h.1, .inl ⟨hb, h.2⟩⟩) t G ρ (holds_path t G ρ hp.1 (hh.1 hb)), fun hb => holds_mono (fun v ρ' h => ⟨h.1, .inr ⟨hb, h.2⟩⟩) e G ρ (holds_path e G ρ hp.2 (hh.2 hb))⟩
  | .call id args n bds r, G, ρ, hp, hh => allB_mono (fun rs hr hs => holds_mono (fun v ρ' h => ⟨h.1, rs, hs, h.2⟩) r G _ (holds_path r G _ hp (hr hs))) hh
  | .loop .., _, _, hp, _ => by simp [T.plain] at hp
  | .again .., _, _, hp, _ => by simp [T.plain] at hp
  | .both .., _, _, hp, _ => by simp [T.plain] at hp
  | .unk .., _, _, hp, _ => by simp [T.plain] at hp
  | .nat .., _, _, hp, _ => by simp [T.plain] at hp
  | .asm .., _, _, hp, _ => by simp [T.plain] at hp
  | .ind n b r, G, ρ, hp, hh => fun q h1 h2 h3 => holds_mono (fun v ρ' h => ⟨h.1, by
      have : q = cond (b.den ρ) 1 0 := by rw [h3]; by_cases hq : q = 1 <;> simp [hq] <;> omega
      rw [this] at h; exact h.2⟩) r G _ (holds_path r G _ hp (hh q h1 h2 h3))
  | .fn n op args lo hi r, G, ρ, hp, hh => fun q h1 h2 h3 => holds_mono (fun v ρ' h => ⟨h.1, by subst h3; exact h.2⟩) r G _ (holds_path r G _ hp (hh q h1 h2 h3))
  | .chk op args r, G, ρ, hp, hh => ⟨hh.1, holds_mono (fun v ρ' h => ⟨h.1, h.2⟩) r G ρ (holds_path r G ρ hp hh.2)⟩
theorem quot_unique {x d q q' : Int} (h1 : 0 ≤ x - d * q) (h2 : x - d * q < d) (h3 : 0 ≤ x - d * q') (h4 : x - d * q' < d) : q = q' := by
  have hd : 0 < d := by omega
  have e1 : x / d = q := by
    rw [Int.ediv_eq_iff_of_pos hd]; constructor <;> rw [Int.mul_comm] <;> (try rw [Int.mul_add]) <;> omega
  have e2 : x / d = q' := by
    rw [Int.ediv_eq_iff_of_pos hd]; constructor <;> rw [Int.mul_comm] <;> (try rw [Int.mul_add]) <;> omega
  omega
theorem path_fun {S : Nat → List Int → List Int → Prop} (hS : ∀ id a rs rs', S id a rs → S id a rs' → rs = rs') : ∀ (t : T) (ρ : Env) {v v' : V} {ρ1 ρ2 : Env}, Path S t ρ v ρ1 → Path S t ρ v' ρ2 → v = v' ∧ ρ1 = ρ2
  | .stuck, _, _, _, _, _, h, _ => h.elim
  | .leaf v, _, _, _, _, _, h, h' => ⟨h.1.trans h'.1.symm, h.2.trans h'.2.symm⟩
  | .div n x d lo hi r, ρ, _, _, _, _, ⟨q, a1, a2, a3⟩, ⟨q', b1, b2, b3⟩ => by
    have := quot_unique a1 a2 b1 b2
    subst this
    exact path_fun hS r _ a3 b3
  | .mul n x y lo hi r, ρ, _, _, _, _, h, h' => path_fun hS r _ h h'
  | .bit n op k x y r, ρ, _, _, _, _, h, h' => path_fun hS r _ h h'
  | .shr n x y lo hi r, ρ, _, _, _, _, h, h' => path_fun hS r _ h h'
  | .sel n cs ix lo hi r, ρ, _, _, _, _, h, h' => path_fun hS r _ h h'
  | .br b t e, ρ, _, _, _, _, h, h' => by
    rcases h with ⟨h1, h2⟩ | ⟨h1, h2⟩ <;> rcases h' with ⟨h3, h4⟩ | ⟨h3, h4⟩
    · exact path_fun hS t ρ h2 h4
    · rw [h1] at h3; cases h3
    · rw [h1] at h3; cases h3
    · exact path_fun hS e ρ h2 h4
  | .call id args n bds r, ρ, _, _, _, _, ⟨rs, a1, a2⟩, ⟨rs', b1, b2⟩ => by
    have := hS _ _ _ _ a1 b1
    subst this
    exact path_fun hS r _ a2 b2
  | .loop .., _, _, _, _, _, h, _ => h.elim
  | .again .., _, _, _, _, _, h, _ => h.elim
  | .both .., _, _, _, _, _, h, _ => h.elim
  | .unk .., _, _, _, _, _, h, _ => h.elim
  | .nat .., _, _, _, _, _, h, _ => h.elim
  | .asm .., _, _, _, _, _, h, _ => h.elim
  | .ind n b r, ρ, _, _, _, _, h, h' => path_fun hS r _ h h'
  | .fn n op args lo hi r, ρ, _, _, _, _, h, h' => path_fun hS r _ h h'
  | .chk op args r, ρ, _, _, _, _, h, h' => path_fun hS r _ h h'

/-! ### The result as integers -/
inductive O where
  | l (x : Lin)
  | b (x : BE)
def O.den (ρ : Env) : O → Int
  | l x => x.den ρ
  | b x => cond (x.den ρ) 1 0
def outA (k : IntKind) : List A → Option (List O)
  | [] => some []
  | .int k' x :: r => cond (decide (k = k')) (match outA k r with | some l => some (.l x.l :: l) | none => none) none
  | _ :: _ => none
def CK.out : CK → A → Option O
  | .int k _ _, .int k' x => cond (decide (k = k')) (some (.l x.l)) none
  | .str, .str l => some (.l l)
  | .bool, .bool e => some (.b e)
  | _, _ => none
def outM : List CK → List A → Option (List O)
  | [], [] => some []
  | c :: d, a :: r => match c.out a, outM d r with | some o, some l => some (o :: l) | _, _ => none
  | _, _ => none
def outD : D → W → Option (List O)
  | .int k _ _, .one (.int k' x) => cond (decide (k = k')) (some [.l x.l]) none
  | .bool, .one (.bool x) => some [.b x]
  | .agg k n _ _, .agg l => cond (Nat.beq l.length n) (outA k l) none
  | .str, .one (.str l) => some [.l l]
  | .mix d, .agg l => outM d l
  | _, _ => none
def outL : List D → List W → Option (List O)
  | [], [] => some []
  | d :: r, w :: s => match outD d w, outL r s with | some a, some b => some (a ++ b) | _, _ => none
  | _, _ => none
def outs (ds : List D) : V → Option (List O)
  | .w u => match ds with | [d] => outD d u | _ => none
  | .tup l => match ds with | [_] => none | _ => outL ds l
  | _ => none
/-- At a leaf: K of the result's integers. -/
def LeafK (ds : List D) (K : List Int → Prop) (v : V) (ρ : Env) : Prop :=
  match outs ds v with
  | some os => K (os.map (O.den ρ))
  | none => False

theorem outA_spec {ρ : Env} {m : Nat → Nat} {k : IntKind} : ∀ {l : List A} {os : List O}, outA k l = some os → os.length = l.length ∧ l.map (A.den ρ m) = (os.map (O.den ρ)).map (.int k)
  | [], os, h => by simp [outA] at h; subst h; exact ⟨rfl, rfl⟩
  | .int k' x :: r, os, h => by
    simp only [outA] at h
    by_cases hk : k = k'
    · simp only [hk, decide_true, cond_true] at h
      cases hr : outA k' r with
      | none => simp [hr] at h
      | some o =>
        simp only [hr, Option.some.injEq] at h
        subst h
        subst hk
        obtain ⟨h1, h2⟩ := outA_spec (ρ := ρ) (m := m) hr
        exact ⟨by simp [h1], by simp only [List.map_cons, h2, A.den, O.den]⟩
    · simp [hk] at h
  | .bool _ :: _, _, h => by simp [outA] at h
  | .ptr .. :: _, _, h => by simp [outA] at h
  | .pix .. :: _, _, h => by simp [outA] at h
  | .gptr .. :: _, _, h => by simp [outA] at h
  | .slc .. :: _, _, h => by simp [outA] at h
  | .con _ :: _, _, h => by simp [outA] at h
  | .str _ :: _, _, h => by simp [outA] at h
theorem CK.out_spec {ρ : Env} {m : Nat → Nat} {c : CK} {a : A} {o : O} (h : c.out a = some o) : a.den ρ m = c.val (o.den ρ) := by
  unfold CK.out at h
  split at h
  · rename_i k lo hi k' x
    by_cases hk : k = k'
    · subst hk
      simp only [decide_true, cond_true, Option.some.injEq] at h
      subst h; rfl
    · simp [hk] at h
  · simp only [Option.some.injEq] at h; subst h; rfl
  · rename_i e
    simp only [Option.some.injEq] at h; subst h
    have hb : ∀ b : Bool, Value.bool b = Value.bool (decide ((cond b 1 0 : Int) = 1)) := by intro b; cases b <;> rfl
    exact hb (e.den ρ)
  · cases h
theorem outM_spec {ρ : Env} {m : Nat → Nat} : ∀ {d : List CK} {l : List A} {os : List O}, outM d l = some os → os.length = d.length ∧ l.map (A.den ρ m) = List.zipWith CK.val d (os.map (O.den ρ))
  | [], [], os, h => by simp [outM] at h; subst h; exact ⟨rfl, rfl⟩
  | c :: d, a :: r, os, h => by
    simp only [outM] at h
    cases h1 : c.out a with
    | none => simp [h1] at h
    | some o =>
      cases hr : outM d r with
      | none => simp [h1, hr] at h
      | some l =>
        simp only [h1, hr, Option.some.injEq] at h
        subst h
        obtain ⟨p1, p2⟩ := outM_spec (ρ := ρ) (m := m) hr
        exact ⟨by simp [p1], by simp only [List.map_cons, p2, CK.out_spec h1, List.zipWith_cons_cons]⟩
  | [], _ :: _, _, h => by simp [outM] at h
  | _ :: _, [], _, h => by simp [outM] at h
theorem outD_spec {ρ : Env} {m : Nat → Nat} {d : D} {u : W} {os : List O} (h : outD d u = some os) : os.length = d.num ∧ ∀ zs, d.val (os.map (O.den ρ) ++ zs) = u.den ρ m := by
  unfold outD at h
  split at h
  · rename_i k _ _ k' x
    by_cases hk : k = k'
    · subst hk
      simp only [decide_true, cond_true, Option.some.injEq] at h
      subst h
      exact ⟨rfl, fun zs => by simp [D.val, W.den, A.den, O.den]⟩
    · simp [hk] at h
  · rename_i x
    simp only [Option.some.injEq] at h
    subst h
    exact ⟨rfl, fun zs => by cases hx : x.den ρ <;> simp [D.val, W.den, A.den, O.den, hx]⟩
  · rename_i k n' _ _ l
    cases hc : Nat.beq l.length n' with
    | false => simp [hc] at h
    | true =>
      simp only [hc, cond_true] at h
      have hl := Nat.eq_of_beq_eq_true hc
      subst hl
      obtain ⟨h1, h2⟩ := outA_spec (ρ := ρ) (m := m) h
      exact ⟨h1, fun zs => by simp only [D.val, W.den, h2]; rw [List.take_append_of_le_length (by simp [h1]), List.take_of_length_le (by simp [h1])]⟩
  · simp only [Option.some.injEq] at h; subst h
    exact ⟨rfl, fun zs => rfl⟩
  · rename_i d l
    obtain ⟨h1, h2⟩ := outM_spec (ρ := ρ) (m := m) h
    refine ⟨h1, fun zs => ?_⟩
    simp only [D.val, W.den, h2]
    congr 2
    have key : ∀ (a : List CK) (b c : List Int), b.length = a.length → List.zipWith CK.val a (b ++ c) = List.zipWith CK.val a b := by
      intro a
      induction a with
      | nil => intro b c _; simp
      | cons p a ih =>
        intro b c hb
        cases b with
        | nil => simp at hb
        | cons z b => simp [ih b c (by simpa using hb)]
    exact key _ _ _ (by simp [h1])
  · cases h
theorem outL_spec {ρ : Env} {m : Nat → Nat} : ∀ {ds : List D} {l : List W} {os : List O}, outL ds l = some os → valL ds (os.map (O.den ρ)) = l.map (W.den ρ m)
  | [], [], os, h => by simp [outL] at h; subst h; rfl
  | d :: ds, u :: l, os, h => by
    simp only [outL] at h
    cases h1 : outD d u with
    | none => simp [h1] at h
    | some a =>
      cases h2 : outL ds l with
      | none => simp [h1, h2] at h
      | some b =>
        simp only [h1, h2, Option.some.injEq] at h
        subst h
        obtain ⟨p1, p2⟩ := outD_spec (ρ := ρ) (m := m) h1
        rw [List.map_append]
        simp only [valL, p2, List.map_cons]
        rw [show d.num = (a.map (O.den ρ)).length by simp [p1], List.drop_left, outL_spec h2]
  | [], _ :: _, _, h => by simp [outL] at h
  | _ :: _, [], _, h => by simp [outL] at h
theorem valL_len (ds : List D) : ∀ zs, (valL ds zs).length = ds.length := by
  induction ds with
  | nil => intro zs; rfl
  | cons d r ih => intro zs; simp [valL, ih]
theorem LeafK_spec {ds : List D} {K : List Int → Prop} {v : V} {ρ : Env} {m : Nat → Nat} {val : Value} (h : LeafK ds K v ρ) (hr : v.rel ρ m val) : ∃ rs, K rs ∧ val = resVal ds rs := by
  unfold LeafK at h
  cases ho : outs ds v with
  | none => simp [ho] at h
  | some os =>
    simp only [ho] at h
    refine ⟨_, h, ?_⟩
    unfold outs at ho
    cases v with
    | any => cases ho
    | osl _ _ _ => cases ho
    | clo _ _ => cases ho
    | w u =>
      simp only at ho
      split at ho
      · rename_i d
        obtain ⟨p1, p2⟩ := outD_spec (ρ := ρ) (m := m) ho
        simp only [V.rel] at hr
        have := p2 []
        rw [List.append_nil] at this
        simp [resVal, valL, this, hr]
      · cases ho
    | tup l =>
      simp only at ho
      split at ho
      · cases ho
      · rename_i hne
        have := outL_spec (ρ := ρ) (m := m) ho
        simp only [V.rel] at hr
        unfold resVal
        split
        · rename_i x heq
          exfalso
          have hl := valL_len ds (os.map (O.den ρ))
          rw [heq] at hl
          match ds, hl with
          | [d], _ => exact hne d rfl
        · rw [hr, this]

/-! ### Contracts -/
noncomputable def calOf (cons : List Con) (mulF addF subF : FuncId) : Cal := fun f =>
  cond (Nat.beq f mulF) (some mul64M) <| cond (Nat.beq f addF) (some add64M) <| cond (Nat.beq f subF) (some sub64M) <|
  match cons.find? (fun c => Nat.beq f c.f) with
  | some c => some c.M
  | none => none
section
variable {S : Nat → List Int → List Int → Prop} {P : Program} {gl : Glo} {wb : World}
theorem calOf_ok {w0 : Base} {cons : List Con} {mulF addF subF : FuncId} (hm : Mul64Ok P mulF) (ha : Add64Ok P addF) (hs : Sub64Ok P subF) (hc : ∀ c ∈ cons, c.OkF P w0.b (S c.id)) : CalOk S P gl w0 (calOf cons mulF addF subF) := by
  intro f g hfg L n ρ m bl vs xs h1 h2 h3 h4
  unfold calOf at hfg
  cases e1 : Nat.beq f mulF with
  | true =>
    have := Nat.eq_of_beq_eq_true e1; subst this
    simp only [e1, cond_true, Option.some.injEq] at hfg
    subst hfg
    exact mul64_snd hm h3 h4
  | false =>
    cases e2 : Nat.beq f addF with
    | true =>
      have := Nat.eq_of_beq_eq_true e2; subst this
      simp only [e1, e2, cond_true, cond_false, Option.some.injEq] at hfg
      subst hfg
      exact add64_snd ha h3 h4
    | false =>
      cases e3 : Nat.beq f subF with
      | true =>
        have := Nat.eq_of_beq_eq_true e3; subst this
        simp only [e1, e2, e3, cond_true, cond_false, Option.some.injEq] at hfg
        subst hfg
        exact sub64_snd hs h3 h4
      | false =>
        simp only [e1, e2, e3, cond_false] at hfg
        cases e4 : cons.find? (fun c => Nat.beq f c.f) with
        | none => simp [e4] at hfg
        | some c =>
          simp only [e4, Option.some.injEq] at hfg
          subst hfg
          have h5 := List.find?_some e4
          have := Nat.eq_of_beq_eq_true h5
          subst this
          exact Con.snd (hc c (List.mem_of_find?_eq_some e4)) (fun _ _ h => h) L n ρ m bl vs xs h3 h4

/-- Contracts alone; more than one of a function: the first that fits. -/
noncomputable def calC (cons : List Con) : Cal := fun f =>
  match cons.filter (fun c => Nat.beq f c.f) with
  | [] => none
  | l => some fun bl vs n k => match l.find? (fun c => (flatL c.args vs).isSome) with
    | some c => c.M bl vs n k
    | none => .stuck
theorem calC_ok {w0 : Base} {cons : List Con} (hc : ∀ c ∈ cons, c.OkF P w0.b (S c.id)) : CalOk S P gl w0 (calC cons) := by
  intro f g hfg L n ρ m bl vs xs h1 h2 h3 h4
  unfold calC at hfg
  split at hfg
  · cases hfg
  · rename_i l hl
    simp only [Option.some.injEq] at hfg
    subst hfg
    intro G k hk
    simp only at hk
    split at hk
    · rename_i c hcf
      have hin := List.mem_filter.1 (List.mem_of_find?_eq_some hcf)
      have hff := Nat.eq_of_beq_eq_true hin.2
      subst hff
      exact Con.snd (hc c hin.1) (fun _ _ h => h) L n ρ m bl vs xs h3 h4 G k hk
    · exact hk.elim
theorem Calls.some {f : FuncId} {args : Array Value} {w : World} {R : Ending → World → Prop} (h : Calls P f args w R) : ∃ e w', R e w' := by
  obtain ⟨e, w', fr, h1, _⟩ := h []
  exact ⟨e, w', h1⟩

/-- The tree of a contract's function. -/
noncomputable def Con.tree (P : Program) (gl : Glo) (cal : Cal) (li : FuncId → Nat → Option LoopI) (rounds d : Nat) (c : Con) : T :=
  callE P gl cal li rounds d c.f (bdsL c.args).length ((symL 0 c.args).map V.w) [] fun _ v _ => .leaf v
theorem LRel_sym {ρ : Env} {m : Nat → Nat} : ∀ (l : List W), LRel ρ m (l.map V.w) (l.map (W.den ρ m))
  | [] => trivial
  | _ :: r => ⟨rfl, LRel_sym r⟩

theorem Con.calls {c : Con} {cal : Cal} {li : FuncId → Nat → Option LoopI} {rounds d : Nat} {L : V → Env → Prop} (hm : P.follows .mixedOrders = true) (hcal : ∀ r ex ro, CalOk S P gl ⟨wb, r, ex, ro⟩ cal) (hg : GOk gl ⟨wb, wb, fun _ => False, fun _ => False⟩) {zs : List Int} (hz : inB (bdsL c.args) zs)
    (ht : (c.tree P gl cal li rounds d).holds S L (fun _ _ => False) (updL (fun _ => 0) 0 zs)) (w : World) (hw : wb.Extends w) :
    Calls P c.f (valL c.args zs).toArray w fun e w' => ∃ v ρ' m val, e = .returned val ∧ v.rel ρ' m val ∧ L v ρ' ∧ w.Extends w' := by
  have hs := symL_spec (m := fun _ => 0) (nb := 0) (N := (bdsL c.args).length) c.args hz (At.updL (fun _ => 0) 0 zs) (by omega)
  have := calls_of_tree (L := L) (b := wb) (w := w) hm (hcal w _ _) hg c.f _ _ _ ((symL 0 c.args).map (W.den (updL (fun _ => 0) 0 zs) fun _ => 0)) hw (fun v hv => by
    obtain ⟨u, hu, rfl⟩ := List.mem_map.1 hv
    exact hs.1 u hu) (LRel_sym _) ht
  rw [hs.2] at this
  refine this.mono fun e w' ⟨v, ρ', m, val, nb, h1, h2, _, h3, h4⟩ => ⟨v, ρ', m, val, h1, h2, h3, h4⟩

/-- **A contract, out of the tree**: where the specification leaves one result. -/
theorem Con.of_tree {c : Con} {cal : Cal} {li : FuncId → Nat → Option LoopI} {rounds d : Nat} {spec : List Int → List Int → Prop} (hm : P.follows .mixedOrders = true) (hcal : ∀ r ex ro, CalOk S P gl ⟨wb, r, ex, ro⟩ cal) (hg : GOk gl ⟨wb, wb, fun _ => False, fun _ => False⟩)
    (hf : ∀ args w, (callFunc c.f args).run P w = .ok (.enter c.f args) w) (hu : ∀ zs rs rs', spec zs rs → spec zs rs' → rs = rs')
    (ht : ∀ zs, inB (bdsL c.args) zs → (c.tree P gl cal li rounds d).holds S (LeafK c.res fun rs => inB (bdsL c.res) rs ∧ spec zs rs) (fun _ _ => False) (updL (fun _ => 0) 0 zs)) : c.Ok P wb spec := by
  refine ⟨hf, fun zs hz => ?_⟩
  have h0 := Con.calls hm hcal hg hz (ht zs hz) wb (World.Extends.refl wb)
  obtain ⟨e, w', v, ρ', m, val, h1, h2, h3, h4⟩ := Calls.some h0
  obtain ⟨rs, ⟨hb, hs⟩, hv⟩ := LeafK_spec h3 h2
  refine ⟨rs, hb, hs, fun w hw => ?_⟩
  refine (Con.calls hm hcal hg hz (ht zs hz) w hw).mono fun e w' ⟨v, ρ', m, val, h1, h2, h3, h4⟩ => ?_
  obtain ⟨rs', ⟨hb', hs'⟩, hv'⟩ := LeafK_spec h3 h2
  rw [hu zs rs' rs hs' hs] at hv'
  exact ⟨by rw [h1, hv'], h4⟩
/-- The same where the way through is one: no loop by an invariant, and callees with one result each. -/
theorem Con.of_plain {c : Con} {cal : Cal} {li : FuncId → Nat → Option LoopI} {rounds d : Nat} {spec : List Int → List Int → Prop} (hm : P.follows .mixedOrders = true) (hcal : ∀ r ex ro, CalOk S P gl ⟨wb, r, ex, ro⟩ cal) (hg : GOk gl ⟨wb, wb, fun _ => False, fun _ => False⟩)
    (hf : ∀ args w, (callFunc c.f args).run P w = .ok (.enter c.f args) w) (hS : ∀ id a rs rs', S id a rs → S id a rs' → rs = rs') (hp : (c.tree P gl cal li rounds d).plain = true)
    (ht : ∀ zs, inB (bdsL c.args) zs → (c.tree P gl cal li rounds d).holds S (LeafK c.res fun rs => inB (bdsL c.res) rs ∧ spec zs rs) (fun _ _ => False) (updL (fun _ => 0) 0 zs)) : c.Ok P wb spec := by
  refine ⟨hf, fun zs hz => ?_⟩
  have ht' := holds_path _ _ _ hp (ht zs hz)
  have h0 := Con.calls hm hcal hg hz ht' wb (World.Extends.refl wb)
  obtain ⟨e, w', v0, ρ0, m0, val0, h1, h2, ⟨h3, h3'⟩, h4⟩ := Calls.some h0
  obtain ⟨rs, ⟨hb, hs⟩, hv⟩ := LeafK_spec h3 h2
  refine ⟨rs, hb, hs, fun w hw => ?_⟩
  refine (Con.calls hm hcal hg hz ht' w hw).mono fun e w' ⟨v, ρ', m, val, g1, g2, ⟨g3, g3'⟩, g4⟩ => ?_
  obtain ⟨e1, e2⟩ := path_fun hS _ _ g3' h3'
  subst e1; subst e2
  unfold LeafK at g3 h3
  have : val = resVal c.res rs := by
    -- both readings are of one leaf
    cases ho : outs c.res v with
    | none => simp [ho] at h3
    | some os =>
      have key : ∀ {m val}, v.rel ρ' m val → val = resVal c.res (os.map (O.den ρ')) := fun {m val} hr => by
        have hK : LeafK c.res (fun rs => rs = os.map (O.den ρ')) v ρ' := by unfold LeafK; simp [ho]
        obtain ⟨rs', hrs, hv⟩ := LeafK_spec hK hr
        rw [hv, hrs]
      rw [key g2, ← key h2, hv]
  exact ⟨by rw [g1, this], g4⟩
theorem Con.Ok.fn {c : Con} {spec : List Int → List Int → Prop} (h : c.Ok P wb spec) : ∃ F : List Int → List Int, c.Ok P wb fun zs rs => rs = F zs ∧ spec zs rs := by
  have h2 : ∀ zs, ∃ rs, inB (bdsL c.args) zs → inB (bdsL c.res) rs ∧ spec zs rs ∧ ∀ w, wb.Extends w → Calls P c.f (valL c.args zs).toArray w fun e w' => e = .returned (resVal c.res rs) ∧ w.Extends w' := fun zs => by
    by_cases hz : inB (bdsL c.args) zs
    · obtain ⟨rs, h3⟩ := h.2 zs hz
      exact ⟨rs, fun _ => h3⟩
    · exact ⟨[], fun hz' => absurd hz' hz⟩
  obtain ⟨F, hF⟩ := Classical.axiomOfChoice h2
  exact ⟨F, h.1, fun zs hz => ⟨F zs, (hF zs hz).1, ⟨rfl, (hF zs hz).2.1⟩, (hF zs hz).2.2⟩⟩
end
end Go.Rx
