/- Contracts with slices out of trees and conditions. -/
import Derived.Test.YtlecfjcooglpoaaDoorRxF
set_option linter.unusedVariables false
set_option linter.unusedSimpArgs false
namespace Go.Rx
open M

/-! ### Results -/
def O.sc (n : Nat) : O → Prop
  | l x => x.sc n
  | b x => x.sc n
theorem O.den_agree {n : Nat} {ρ ρ' : Env} (ha : agree n ρ ρ') : ∀ {o : O}, o.sc n → o.den ρ' = o.den ρ
  | .l x, h => Lin.den_agree ha h
  | .b x, h => by simp only [O.den]; rw [BE.den_agree ha h]
theorem outA_sc {k : IntKind} {n nb : Nat} {ρ : Env} : ∀ {l : List A} {os : List O}, outA k l = some os → (∀ a ∈ l, A.ok n nb ρ a) → ∀ o ∈ os, O.sc n o
  | [], os, h, _ => by simp [outA] at h; subst h; intro x hx; simp at hx
  | .int k' x :: s, os, h, hok => by
    simp only [outA] at h
    cases hc : decide (k = k') with
    | false => simp [hc] at h
    | true =>
      cases hr : outA k s with
      | none => simp [hc, hr] at h
      | some r' =>
        simp only [hc, hr, cond_true, Option.some.injEq] at h
        subst h
        intro y hy
        rcases List.mem_cons.1 hy with hy | hy
        · rw [hy]
          have h0 : A.ok n nb ρ (.int k' x) := hok _ (List.mem_cons_self ..)
          have h0 : x.ok n ρ := h0
          exact h0.1
        · exact outA_sc hr (fun a ha => hok a (List.mem_cons_of_mem _ ha)) y hy
  | .bool _ :: _, _, h, _ => by simp [outA] at h
  | .ptr .. :: _, _, h, _ => by simp [outA] at h
  | .pix .. :: _, _, h, _ => by simp [outA] at h
  | .gptr .. :: _, _, h, _ => by simp [outA] at h
  | .slc .. :: _, _, h, _ => by simp [outA] at h
  | .con _ :: _, _, h, _ => by simp [outA] at h
  | .str _ :: _, _, h, _ => by simp [outA] at h
  | .rows .. :: _, _, h, _ => by simp [outA] at h
  | .sl .. :: _, _, h, _ => by simp [outA] at h
  | .ep .. :: _, _, h, _ => by simp [outA] at h
theorem CK.out_sc {c : CK} {a : A} {o : O} {n nb : Nat} {ρ : Env} (h : c.out a = some o) (ha : a.ok n nb ρ) : o.sc n := by
  unfold CK.out at h
  split at h
  · rename_i k _ _ k' x
    cases hk : decide (k = k') with
    | false => simp [hk] at h
    | true =>
      simp only [hk, cond_true, Option.some.injEq] at h
      subst h
      have ha : x.ok n ρ := ha
      exact ha.1
  · simp only [Option.some.injEq] at h; subst h
    exact ha.1
  · simp only [Option.some.injEq] at h; subst h
    exact ha
  · cases h
theorem outM_sc {n nb : Nat} {ρ : Env} : ∀ {d : List CK} {l : List A} {os : List O}, outM d l = some os → (∀ a ∈ l, A.ok n nb ρ a) → ∀ o ∈ os, O.sc n o
  | [], [], os, h, _ => by simp [outM] at h; subst h; intro x hx; simp at hx
  | c :: d, a :: s, os, h, hok => by
    simp only [outM] at h
    cases h1 : c.out a with
    | none => simp [h1] at h
    | some o =>
      cases h2 : outM d s with
      | none => simp [h1, h2] at h
      | some os' =>
        simp only [h1, h2, Option.some.injEq] at h
        subst h
        intro y hy
        rcases List.mem_cons.1 hy with hy | hy
        · rw [hy]; exact CK.out_sc h1 (hok a (List.mem_cons_self ..))
        · exact outM_sc h2 (fun b hb => hok b (List.mem_cons_of_mem _ hb)) y hy
  | [], _ :: _, _, h, _ => by simp [outM] at h
  | _ :: _, [], _, h, _ => by simp [outM] at h
theorem outD_sc {d : D} {u : W} {os : List O} {n nb : Nat} {ρ : Env} (h : outD d u = some os) (hu : u.ok n nb ρ) : ∀ o ∈ os, O.sc n o := by
  unfold outD at h
  split at h
  · rename_i k _ _ k' x
    cases hk : decide (k = k') with
    | false => simp [hk] at h
    | true =>
      simp only [hk, cond_true, Option.some.injEq] at h
      subst h
      have hu : x.ok n ρ := hu
      intro o ho; simp at ho; subst ho; exact hu.1
  · simp only [Option.some.injEq] at h; subst h
    intro o ho; simp at ho; subst ho; exact hu
  · rename_i k n' _ _ l
    cases hk : Nat.beq l.length n' with
    | false => simp [hk] at h
    | true =>
      simp only [hk, cond_true] at h
      exact outA_sc h hu
  · simp only [Option.some.injEq] at h; subst h
    intro o ho; simp at ho; subst ho; exact hu.1
  · exact outM_sc h hu
  · cases h
noncomputable def resM1 (bl : List Blk) : BD → W → M (List O)
  | .d x, u => match outD x u with | some os => pure os | none => fail
  | .rd sh, u => bind (rdM sh bl (.w u)) fun l => pure [.l l]
  | .ow sh e, u => bind (owM sh e bl (.w u)) fun l => pure [.l l]
noncomputable def resMs (bl : List Blk) : List BD → List W → M (List O)
  | [], [] => pure []
  | b :: r, u :: s => bind (resM1 bl b u) fun a => bind (resMs bl r s) fun c => pure (a ++ c)
  | _, _ => fail
noncomputable def resM (bl : List Blk) (ds : List BD) (v : V) : M (List O) :=
  match v with
  | .w u => match ds with | [d] => resM1 bl d u | _ => fail
  | .tup l => match ds with | [_] => fail | _ => resMs bl ds l
  | _ => fail
def O.toW : O → W
  | l x => .one (.int .u8 ⟨x, 0, 0⟩)
  | b x => .one (.bool x)
def W.toO : W → O
  | .one (.int _ x) => .l x.l
  | .one (.bool e) => .b e
  | _ => .l (.const 0)
theorem O.toW_toO (o : O) : o.toW.toO = o := by cases o <;> rfl
def osV (os : List O) : V := .tup (os.map O.toW)
def LeafF (K : List Int → Prop) (v : V) (ρ : Env) : Prop :=
  match v with
  | .tup l => K (l.map fun u => u.toO.den ρ)
  | _ => False
theorem LeafF_osV {K : List Int → Prop} {os : List O} {ρ : Env} : LeafF K (osV os) ρ = K (os.map (O.den ρ)) := by
  unfold LeafF osV
  simp only [List.map_map]
  congr 1
  exact List.map_congr_left fun o _ => by simp [Function.comp, O.toW_toO]
section
variable {S : Nat → List Int → List Int → Prop} {L : V → Env → Prop} {w0 : Base} {P : Program} {w : World}
theorem SlOw.mono {N N' : Nat → Prop} {sh : List CK} {e : TypeId} {rows : List (List Int)} {v : Value} (h : SlOw N w sh e rows v) (hN : ∀ g, N g → N' g) : SlOw N' w sh e rows v := by
  rcases h with h | ⟨g, cap, cells, h1, h2, h3, h4⟩
  · exact .inl h
  · exact .inr ⟨g, cap, cells, h1, h2, hN g h3, h4⟩
def F0 (w0 : Base) (g : Nat) : Prop := w0.ex g ∨ w0.ro g ∨ w0.r.heap.size ≤ g
theorem resM1_snd {d : BD} {u : W} {n : Nat} {ρ : Env} {m : Nat → Nat} {bl : List Blk} (hex : ∀ g, ¬ w0.ex g) (hb : BlOk n bl.length ρ bl) (hw : Mem w0 ρ m bl w) (hu : u.ok n bl.length ρ) :
    Snd S L (resM1 bl d u) n ρ fun ρ' n' os => (∀ o ∈ os, O.sc n' o) ∧ os.length = d.num ∧ (d.isD = false → inB d.bds (os.map (O.den ρ'))) ∧ ∀ zs, d.at (F0 w0) (fun g => w0.r.heap.size ≤ g) w (os.map (O.den ρ') ++ zs) (u.den ρ m) := by
  cases d with
  | d x =>
    unfold resM1
    cases ho : outD x u with
    | none => simp only [ho]; exact Snd.fail
    | some os =>
      simp only [ho]
      have := outD_spec (ρ := ρ) (m := m) ho
      exact Snd.pure ⟨outD_sc ho hu, this.1, fun h => (by simp [BD.isD] at h), fun zs => (this.2 zs).symm⟩
  | rd sh =>
    unfold resM1
    refine (rdM_snd (v := .w u) hb hw hu rfl).bind fun ρ1 n1 l hn ha ⟨g1, g2, g3⟩ => Snd.pure ⟨fun o ho => by simp at ho; subst ho; exact g1, rfl, fun _ => ⟨g2.1, g2.2, trivial⟩, fun zs => ?_⟩
    exact g3.mono fun g hg => hg.2
  | ow sh e =>
    unfold resM1
    refine (owM_snd (v := .w u) hex hb hw hu rfl).bind fun ρ1 n1 l hn ha ⟨g1, g2, g3⟩ => Snd.pure ⟨fun o ho => by simp at ho; subst ho; exact g1, rfl, fun _ => ⟨g2.1, g2.2, trivial⟩, fun zs => g3⟩
theorem map_O_sc {n : Nat} {ρ ρ' : Env} {os : List O} (h : ∀ x ∈ os, O.sc n x) (ha : agree n ρ ρ') : os.map (O.den ρ') = os.map (O.den ρ) := List.map_congr_left fun x hx => O.den_agree ha (h x hx)
theorem resMs_snd {m : Nat → Nat} {bl : List Blk} (hex : ∀ g, ¬ w0.ex g) : ∀ {ds : List BD} {us : List W} {n : Nat} {ρ : Env}, BlOk n bl.length ρ bl → Mem w0 ρ m bl w → (∀ u ∈ us, W.ok n bl.length ρ u) →
    Snd S L (resMs bl ds us) n ρ fun ρ' n' os => (∀ o ∈ os, O.sc n' o) ∧ atL (F0 w0) (fun g => w0.r.heap.size ≤ g) w ds (os.map (O.den ρ')) (us.map (W.den ρ m))
  | [], [], n, ρ, _, _, _ => Snd.pure ⟨fun _ h => by simp at h, trivial⟩
  | b :: r, u :: s, n, ρ, hb, hw, hu => by
    unfold resMs
    refine (resM1_snd hex hb hw (hu u (by simp))).bind fun ρ1 n1 a hn ha ⟨g1, g2, _, g3⟩ => ?_
    refine (resMs_snd (ds := r) (us := s) hex (hb.ext ha hn (Nat.le_refl _)) (hw.rho hb ha) (fun x hx => (hu x (List.mem_cons_of_mem _ hx)).ext ha hn (Nat.le_refl _))).bind fun ρ2 n2 c hn2 ha2 ⟨k1, k2⟩ => Snd.pure ⟨fun o ho => ?_, ?_⟩
    · rcases List.mem_append.1 ho with ho | ho
      · have := g1 o ho
        cases o with
        | l x => exact Lin.sc.mono this hn2
        | b x => exact BE.sc.mono hn2 this
      · exact k1 o ho
    · rw [List.map_append, map_O_sc g1 ha2]
      refine ⟨g3 _, ?_⟩
      rw [← g2, ← List.length_map (f := O.den ρ1) (as := a), List.drop_left]
      have e : s.map (W.den ρ m) = s.map (W.den ρ1 m) := List.map_congr_left fun x hx => (W.den_ext (hu x (List.mem_cons_of_mem _ hx)) ha (fun _ _ => rfl)).symm
      rw [e]; exact k2
  | [], _ :: _, _, _, _, _, _ => Snd.fail
  | _ :: _, [], _, _, _, _, _ => Snd.fail
theorem resM_snd {ds : List BD} {v : V} {val : Value} {n : Nat} {ρ : Env} {m : Nat → Nat} {bl : List Blk} (hex : ∀ g, ¬ w0.ex g) (hb : BlOk n bl.length ρ bl) (hw : Mem w0 ρ m bl w) (hv : v.ok n bl.length ρ) (hr : v.rel ρ m val) :
    Snd S L (resM bl ds v) n ρ fun ρ' n' os => ∃ us, val = tupV us ∧ atL (F0 w0) (fun g => w0.r.heap.size ≤ g) w ds (os.map (O.den ρ')) us := by
  unfold resM
  split
  · rename_i u
    split
    · rename_i d
      refine (resM1_snd hex hb hw hv).mono fun ρ1 n1 os hn ha ⟨g1, g2, _, g3⟩ => ⟨[u.den ρ m], hr, ?_, trivial⟩
      have := g3 []
      rwa [List.append_nil] at this
    · exact Snd.fail
  · rename_i l
    split
    · exact Snd.fail
    · rename_i hne
      refine (resMs_snd (ds := ds) hex hb hw hv).mono fun ρ1 n1 os hn ha ⟨g1, g2⟩ => ⟨l.map (W.den ρ m), ?_, g2⟩
      have hr : val = .tuple (l.map (W.den ρ m)).toArray := hr
      rw [hr]
      unfold tupV
      split
      · rename_i x hx
        exfalso
        have hl : l.length = 1 := by have := congrArg List.length hx; simpa using this
        match ds, l, hl, g2, hne with
        | [d], [u], _, _, hne => exact hne d rfl
        | [], [u], _, g2, _ => simp [atL] at g2
        | _ :: _ :: _, [u], _, g2, _ => simp [atL] at g2
      · rfl
  · exact Snd.fail

/-! ### The tree -/
def lvar (i : Nat) : Lin := ⟨0, [(1, i)]⟩
theorem lvars_den (ρ : Env) (zs : List Int) : ((List.range zs.length).map lvar).map (·.den (updL ρ 0 zs)) = zs := by
  refine list_ext_getD (by simp) fun j hj => ?_
  have hj : j < zs.length := by simpa using hj
  have := At.updL ρ 0 zs j hj
  rw [Nat.zero_add] at this
  simp [lvar, Lin.den, denT, List.getD, hj] at this ⊢
  exact this
noncomputable def BCon.tree (bc : BC) (P : Program) (gl : Glo) (cal : Cal) (li : FuncId → Nat → Option LoopI) (rounds d : Nat) (c : BCon) : T :=
  cond (bdOk c.args && !(c.args.any BD.isOw)) (preA c.pre ((List.range (bbds c.args).length).map lvar) (argE c.args 0 (bbds c.args).length [] [] fun n us bl => callB bc P gl cal li rounds d c.f n (us.map V.w) bl fun n' v bl' => resM bl' c.res v n' fun os _ => .leaf (osV os))) .stuck
theorem LRel_W {ρ : Env} {m : Nat → Nat} : ∀ {us : List W} {xs : List Value}, us.map (W.den ρ m) = xs → LRel ρ m (us.map V.w) xs
  | [], [], _ => trivial
  | u :: us, x :: xs, h => by
    simp only [List.map_cons, List.cons.injEq] at h
    exact ⟨h.1.symm, LRel_W h.2⟩
  | [], _ :: _, h => by simp at h
  | _ :: _, [], h => by simp at h
/-- What is known of the callees. -/
noncomputable def bcOf : List BCon → BC
  | [], _ => none
  | c :: r, f => cond (Nat.beq c.f f) (some c.E) (bcOf r f)
theorem bcOf_ok {wb : World} {r : World} {ex ro : Nat → Prop} : ∀ {l : List BCon}, (∀ c ∈ l, c.Ok P wb (S c.id)) → BcOk S L ⟨wb, r, ex, ro⟩ P (bcOf l)
  | [], _ => fun f g h => by cases h
  | c :: l, h => fun f g hf => by
    unfold bcOf at hf
    cases hb : Nat.beq c.f f with
    | true =>
      rw [hb] at hf
      simp only [cond_true, Option.some.injEq] at hf
      have := Nat.eq_of_beq_eq_true hb
      subst this; subst hf
      intro n vs bl k G ρ m w xs R' h1 h2 h3 h4 h5 h6
      exact BCon.E_ok (w0 := ⟨wb, r, ex, ro⟩) (h c (by simp)) (fun _ _ h => h) n vs bl k G ρ m w xs R' h1 h2 h3 h4 h5 h6
    | false =>
      rw [hb] at hf
      exact bcOf_ok (fun c hc => h c (List.mem_cons_of_mem _ hc)) f g hf
/-- **A contract, out of its condition.** -/
theorem BCon.of_vc {wb : World} {gl : Glo} {c : BCon} {bcs : List BCon} {cal : Cal} {li : FuncId → Nat → Option LoopI} {rounds d : Nat} {spec : List Int → List Int → Prop} (hm : P.follows .mixedOrders = true) (hcal : ∀ r ex ro, CalOk S P gl ⟨wb, r, ex, ro⟩ cal) (hg : GOk gl ⟨wb, wb, fun _ => False, fun _ => False⟩)
    (hbc : ∀ b ∈ bcs, b.Ok P wb (S b.id)) (hf : ∀ args w, (callFunc c.f args).run P w = .ok (.enter c.f args) w)
    (ht : allB (bbds c.args) fun zs => (c.tree (bcOf bcs) P gl cal li rounds d).holds S (LeafF fun rs => inB (bbds c.res) rs ∧ spec zs rs) (fun _ _ => False) (updL (fun _ => 0) 0 zs)) : c.Ok P wb spec := by
  refine ⟨hf, fun F w vs zs hw hz hpz hat => ?_⟩
  have hh := allB_elim ht hz
  have hzl := inB_len hz
  unfold BCon.tree at hh
  cases hq : (bdOk c.args && !(c.args.any BD.isOw)) with
  | false => rw [hq] at hh; exact hh.elim
  | true =>
    rw [hq] at hh
    simp only [cond_true] at hh
    have hh := preA_holds hh (by rw [← hzl, lvars_den]; exact hpz)
    simp only [Bool.and_eq_true, Bool.not_eq_true'] at hq
    have hmem : Mem ⟨wb, w, fun _ => False, F⟩ (updL (fun _ => 0) 0 zs) (fun _ => 0) [] w := ⟨hw, rfl, rfl, rfl, Nat.le_refl _, fun _ _ _ => rfl, fun i cs t h => by simp at h, fun i sh off code cap kind t h => by simp at h, fun i j p q h => by simp at h⟩
    have hall : (c.args.all fun b => !b.isOw) = true := by
      rw [List.all_eq_true]
      intro b hb
      cases hbd : b.isOw with
      | false => rfl
      | true => rw [List.any_eq_true.2 ⟨b, hb, hbd⟩] at hq; cases hq.2
    obtain ⟨n', ρ', m', us, bl, p1, p2, p3, p4, p5, p6⟩ := argE_ok (S := S) (L := _) (w0 := ⟨wb, w, fun _ => False, F⟩) (F := F) (N := fun _ => False) (fun g hg => .inr (.inl hg)) (fun g hg => hg.elim) (l := c.args) (s := 0) (us := []) (bl := []) (m := fun _ => 0) hq.1 (fun p hp => by simp at hp) hmem (At.updL _ 0 zs) hz (by omega) hat (.inr fun i p h => by simp at h) (.inl hall) (fun u hu => by simp at hu) hh
    have hgl : GOk gl ⟨wb, w, fun _ => False, F⟩ := hg
    refine (callB_ok (S := S) (w0 := ⟨wb, w, fun _ => False, F⟩) hm (hcal w (fun _ => False) F) hgl (bcOf_ok hbc) d c.f n' (us.map V.w) bl _ _ ρ' m' w vs _ p2 p3 (fun v hv => by
      obtain ⟨u, hu, rfl⟩ := List.mem_map.1 hv
      exact p5 u hu) (LRel_W (by simpa using p4)) p6 ?_).2
    intro n2 v bl' G' ρ2 m2 w' val h1 h2 h3 h4 h5 h6 h7
    obtain ⟨ρ3, n3, os, hn3, ha3, ⟨xs, hx1, hx2⟩, hl⟩ := resM_snd (S := S) (w0 := ⟨wb, w, fun _ => False, F⟩) (fun g hg => hg) h5 h6 h3 h4 G' _ h7
    have hl : LeafF _ (osV os) ρ3 := hl
    rw [LeafF_osV] at hl
    refine ⟨?_, os.map (O.den ρ3), xs, hl.1, hl.2, ?_, by rw [hx1]⟩
    · have hblk : ∀ i : Nat, i < w.heap.size → w'.heap[i]? = w.heap[i]? := fun i hi => h6.frm i hi fun h => h
      exact ⟨h6.hos, h6.htape, h6.hout, h6.hsize, fun a ha => by simp only [World.cell?, hblk a.block ha], fun a ha => by simp only [World.frozen?, hblk a.block ha], hblk⟩
    · exact atL_mono (fun g hg => by
        rcases hg with hg | hg | hg
        · exact hg.elim
        · exact .inl hg
        · exact .inr hg) (fun g hg => hg) hx2
where
  atL_mono {F F' N N' : Nat → Prop} {w : World} (hF : ∀ g, F g → F' g) (hN : ∀ g, N g → N' g) : ∀ {ds : List BD} {zs : List Int} {vs : List Value}, atL F N w ds zs vs → atL F' N' w ds zs vs
  | [], _, [], _ => trivial
  | .d x :: r, zs, v :: vs, h => ⟨h.1, atL_mono hF hN h.2⟩
  | .rd sh :: r, zs, v :: vs, h => ⟨SlAt.mono h.1 hF, atL_mono hF hN h.2⟩
  | .ow sh e :: r, zs, v :: vs, h => ⟨SlOw.mono h.1 hN, atL_mono hF hN h.2⟩
  | [], _, _ :: _, h => h.elim
  | _ :: _, _, [], h => by simp [atL] at h
end

/-! ### By blocks -/
def BD.nums : BD → List Nat
  | .d x => x.nums
  | _ => [1]
def numsBD (ds : List BD) : List Nat := ds.flatMap BD.nums
def LeafFB (ds : List BD) (K : List (List Int) → Prop) (v : V) (st : BSt) (dy : BDy) : Prop :=
  match v with
  | .tup l => K ((splitL (numsBD ds) (l.map W.toO)).map (segO st dy))
  | _ => False
theorem LeafFB_sound {ds : List BD} {K : List (List Int) → Prop} (v : V) (ρ : Env) (st : BSt) (dy : BDy) (ht : Tells ρ st dy) (h : LeafFB ds K v st dy) : LeafF (fun rs => K (splitL (numsBD ds) rs)) v ρ := by
  unfold LeafFB at h
  unfold LeafF
  split at h
  · rename_i l
    have e : l.map (fun u => u.toO.den ρ) = (l.map W.toO).map (O.den ρ) := by simp
    simp only [e]
    rw [splitL_map]
    rwa [show (splitL (numsBD ds) (l.map W.toO)).map (segO st dy) = (splitL (numsBD ds) (l.map W.toO)).map (List.map (O.den ρ)) from List.map_congr_left fun o _ => segO_eq ht o] at h
  · exact h.elim
/-- **A condition, by blocks.** -/
def VcF (sh : Nat → List Nat × List Nat) (lsh : Nat → List Nat) (S : Nat → List (List Int) → List (List Int) → Prop) (K : List (List Int) → List (List Int) → Prop) (lens : List Nat) (bds : List (Int × Int)) (ds : List BD) (t : T) : Prop :=
  allBl lens 0 bds (fun st dy zs => t.holdsB sh lsh S (LeafFB ds (K zs)) (fun _ _ => False) st dy) [] []
theorem VcF_sound {sh : Nat → List Nat × List Nat} {lsh : Nat → List Nat} {S : Nat → List (List Int) → List (List Int) → Prop} {K : List (List Int) → List (List Int) → Prop} {lens : List Nat} {bds : List (Int × Int)} {ds : List BD} {t : T}
    (h : VcF sh lsh S K lens bds ds t) : allB bds fun zs => t.holds (flatS sh S) (LeafF fun rs => K (splitL lens zs) (splitL (numsBD ds) rs)) (fun _ _ => False) (updL (fun _ => 0) 0 zs) := by
  refine allB_intro fun zs hi => ?_
  obtain ⟨st, dy, h1, h2⟩ := allBl_elim h (show Tells (fun _ => 0) [] [] from ⟨trivial, fun _ => rfl⟩) hi
  exact holdsB_sound (fun v ρ st dy ht hl => LeafFB_sound v ρ st dy ht hl) t _ _ _ st dy (fun _ _ hf => hf.elim) h1 h2
end Go.Rx
