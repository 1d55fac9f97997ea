/- The entries of math/bits; contracts out of conditions; digits. -/
import Derived.Test.YtlecfjcooglpoaaDoorRx13
import Derived.Laws.Externs
set_option linter.unusedVariables false
set_option linter.unusedSimpArgs false
namespace Go.Rx

theorem add64Ok_of {P : Program} {f : FuncId} {fn : Func} (hf : P.funcs[f]? = some fn) (hname : (fn.name == "runtime.NumGoroutine") = false) (hb : fn.body.isNone = true) (hn : Extern.findNext fn = none) (he : Extern.find fn = some add64Entry) : Add64Ok P f := by
  intro x y c hx hy hc hc1 w
  refine .inl ?_
  rw [run_callFunc_extern hf hname hb hn he, run_add64 x y c hx hy hc hc1]
  rfl
def sub64Ent : Array Value → Sem Value := fun args => do
  let (x, y, b) ← Extern.MathBitsCarry.three "Sub64" args
  pure (Extern.MathBitsCarry.pair ((x + Extern.MathBitsCarry.m64 - y - b) % Extern.MathBitsCarry.m64) (if x < y + b then 1 else 0))
theorem run_sub64E {P : Program} (x y b : Nat) (hb : b ≤ 1) (w : World) :
    (sub64Ent #[.int .u64 x, .int .u64 y, .int .u64 b]).run P w =
      .ok (.tuple #[.int .u64 (((x + 18446744073709551616 - y - b) % 18446744073709551616 : Nat) : Int), .int .u64 ((if x < y + b then 1 else 0 : Nat) : Int)]) w := by
  have : b = 0 ∨ b = 1 := by omega
  rcases this with rfl | rfl <;> rfl
theorem sub64Ok_of {P : Program} {f : FuncId} {fn : Func} (hf : P.funcs[f]? = some fn) (hname : (fn.name == "runtime.NumGoroutine") = false) (hb : fn.body.isNone = true) (hn : Extern.findNext fn = none) (he : Extern.find fn = some sub64Ent) : Sub64Ok P f := by
  intro x y c hx hx1 hy hy1 hc hc1 w
  refine .inl ?_
  obtain ⟨X, rfl⟩ := Int.eq_ofNat_of_zero_le hx
  obtain ⟨Y, rfl⟩ := Int.eq_ofNat_of_zero_le hy
  obtain ⟨C, rfl⟩ := Int.eq_ofNat_of_zero_le hc
  rw [run_callFunc_extern hf hname hb hn he, run_sub64E X Y C (by omega)]
  have e1 : (((X + 18446744073709551616 - Y - C) % 18446744073709551616 : Nat) : Int) = ((X : Int) - Y - C) % 18446744073709551616 := by omega
  have e2 : (((if X < Y + C then 1 else 0 : Nat)) : Int) = -(((X : Int) - Y - C) / 18446744073709551616) := by split <;> omega
  rw [e1, e2]
  rfl

/-- Go code of one's own. -/
def goB (P : Program) (f : FuncId) : Bool := match P.funcs[f]? with
  | some fn => !(fn.name == "runtime.NumGoroutine") && fn.body.isSome
  | none => false
theorem enters {P : Program} {f : FuncId} (h : goB P f = true) (args : Array Value) (w : World) : (callFunc f args).run P w = .ok (.enter f args) w := by
  unfold goB at h
  cases hf : P.funcs[f]? with
  | none => simp [hf] at h
  | some fn =>
    simp only [hf, Bool.and_eq_true, Bool.not_eq_true'] at h
    have h1 : fn.name ≠ "runtime.NumGoroutine" := by simpa using h.1
    obtain ⟨c, hc⟩ := Option.isSome_iff_exists.1 h.2
    simp [callFunc, hf, h1, hc, Sem.run]
section
variable {S : Nat → List Int → List Int → Prop} {P : Program} {gl : Glo} {wb : World}
/-- **A contract, out of its condition.** -/
theorem Con.of_vc {c : Con} {cal : Cal} {li : FuncId → Nat → Option LoopI} {rounds d : Nat} {spec : List Int → List Int → Prop} (hm : P.follows .mixedOrders = true) (hcal : ∀ r ex ro, CalOk S P gl ⟨wb, r, ex, ro⟩ cal) (hg : GOk gl ⟨wb, wb, fun _ => False, fun _ => False⟩)
    (hf : ∀ args w, (callFunc c.f args).run P w = .ok (.enter c.f args) w) (hu : ∀ zs rs rs', inB (bdsL c.args) zs → inB (bdsL c.res) rs → inB (bdsL c.res) rs' → spec zs rs → spec zs rs' → rs = rs')
    (ht : allB (bdsL c.args) fun zs => (c.tree P gl cal li rounds d).holds S (LeafK c.res fun rs => inB (bdsL c.res) rs ∧ spec zs rs) (fun _ _ => False) (updL (fun _ => 0) 0 zs)) : c.Ok P wb spec := by
  refine ⟨hf, fun zs hz => ?_⟩
  have h0 := Con.calls hm hcal hg hz (allB_elim ht hz) wb (World.Extends.refl wb)
  obtain ⟨e, w', v, ρ', m, val, h1, h2, h3, h4⟩ := Calls.some h0
  obtain ⟨rs, ⟨hb, hs⟩, hv⟩ := LeafK_spec h3 h2
  refine ⟨rs, hb, hs, fun w hw => ?_⟩
  refine (Con.calls hm hcal hg hz (allB_elim ht hz) w hw).mono fun e w' ⟨v, ρ', m, val, h1, h2, h3, h4⟩ => ?_
  obtain ⟨rs', ⟨hb', hs'⟩, hv'⟩ := LeafK_spec h3 h2
  rw [hu zs rs' rs hz hb' hb hs' hs] at hv'
  exact ⟨by rw [h1, hv'], h4⟩
theorem SCon.of_vc {c : SCon} {cal : Cal} {li : FuncId → Nat → Option LoopI} {rounds d : Nat} {spec : List Int → List Int → Prop} (hm : P.follows .mixedOrders = true) (hcal : ∀ r ex ro, CalOk S P gl ⟨wb, r, ex, ro⟩ cal) (hg : GOk gl ⟨wb, wb, fun _ => False, fun _ => False⟩)
    (hf : ∀ args w, (callFunc c.f args).run P w = .ok (.enter c.f args) w) (hu : ∀ zs rs rs', inB c.bds zs → inB (bdsL c.res) rs → inB (bdsL c.res) rs' → spec zs rs → spec zs rs' → rs = rs') (hex : ∀ zs, inB c.bds zs → ∃ rs, inB (bdsL c.res) rs ∧ spec zs rs)
    (ht : allB c.bds fun zs => (c.tree P gl cal li rounds d).holds S (LeafK c.res fun rs => inB (bdsL c.res) rs ∧ spec zs rs) (fun _ _ => False) (updL (fun _ => 0) 0 zs)) : c.Ok P wb spec := by
  refine ⟨hf, fun zs hz => ?_⟩
  obtain ⟨rs, hb, hs⟩ := hex zs hz
  refine ⟨rs, hb, hs, fun w g hw hgb hcell => ?_⟩
  refine (SCon.calls hm hcal hg hz (allB_elim ht hz) w g hw hgb hcell).mono fun e w' ⟨v, ρ', m, val, h1, h2, h3, h4⟩ => ?_
  obtain ⟨rs', ⟨hb', hs'⟩, hv'⟩ := LeafK_spec h3 h2
  rw [hu zs rs' rs hz hb' hb hs' hs] at hv'
  exact ⟨by rw [h1, hv'], h4⟩
end

/-! ### Digits -/
/-- The number whose digits to the base b these are, the lowest first. -/
def num (b : Int) : List Int → Int
  | [] => 0
  | x :: r => x + b * num b r
theorem num_nonneg {b lo hi : Int} (hb : 0 < b) (hl : 0 ≤ lo) : ∀ {n : Nat} {l : List Int}, inB (repB lo hi n) l → 0 ≤ num b l
  | 0, [], _ => Int.le_refl _
  | _ + 1, x :: r, h => by
    have := num_nonneg hb hl h.2.2
    have h2 : 0 ≤ b * num b r := Int.mul_nonneg (Int.le_of_lt hb) this
    have := h.1
    simp only [num]; omega
  | 0, _ :: _, h => h.elim
  | _ + 1, [], h => h.elim
theorem num_lt {b : Int} (hb : 0 < b) : ∀ {n : Nat} {l : List Int}, inB (repB 0 (b - 1) n) l → num b l < b ^ n
  | 0, [], _ => by simp [num]
  | n + 1, x :: r, h => by
    have := num_lt hb h.2.2
    have h2 : b * (num b r + 1) ≤ b * b ^ n := Int.mul_le_mul_of_nonneg_left (by omega) (Int.le_of_lt hb)
    have := h.2.1
    simp only [num]
    rw [Int.pow_succ, Int.mul_comm _ b]
    have : b * (num b r + 1) = b * num b r + b := by rw [Int.mul_add, Int.mul_one]
    omega
  | 0, _ :: _, h => h.elim
  | _ + 1, [], h => h.elim
theorem num_inj {b : Int} (hb : 0 < b) : ∀ {n : Nat} {l l' : List Int}, inB (repB 0 (b - 1) n) l → inB (repB 0 (b - 1) n) l' → num b l = num b l' → l = l'
  | 0, [], [], _, _, _ => rfl
  | n + 1, x :: r, x' :: r', h, h', he => by
    simp only [num] at he
    have e1 : (x + b * num b r) % b = (x' + b * num b r') % b := by rw [he]
    rw [Int.add_mul_emod_self_left, Int.add_mul_emod_self_left, Int.emod_eq_of_lt h.1 (by have := h.2.1; omega), Int.emod_eq_of_lt h'.1 (by have := h'.2.1; omega)] at e1
    subst e1
    have e2 : b * num b r = b * num b r' := by omega
    have e3 := Int.eq_of_mul_eq_mul_left (by omega) e2
    rw [num_inj hb h.2.2 h'.2.2 e3]
  | 0, _ :: _, _, h, _, _ => h.elim
  | _ + 1, [], _, h, _, _ => h.elim
  | 0, [], _ :: _, _, h', _ => h'.elim
  | _ + 1, _ :: _, [], _, h', _ => h'.elim
/-- The n lowest digits. -/
def digs (b : Int) : Nat → Int → List Int
  | 0, _ => []
  | n + 1, x => x % b :: digs b n (x / b)
theorem digs_in {b : Int} (hb : 0 < b) : ∀ (n : Nat) (x : Int), inB (repB 0 (b - 1) n) (digs b n x)
  | 0, _ => trivial
  | n + 1, x => ⟨Int.emod_nonneg _ (by omega), by have := Int.emod_lt_of_pos x hb; omega, digs_in hb n _⟩
theorem num_digs {b : Int} (hb : 0 < b) : ∀ (n : Nat) (x : Int), 0 ≤ x → x < b ^ n → num b (digs b n x) = x
  | 0, x, h0, h => by simp at h; simp [digs, num]; omega
  | n + 1, x, h0, h => by
    have h1 : x / b < b ^ n := Int.ediv_lt_of_lt_mul hb (by rw [Int.pow_succ] at h; exact h)
    have h2 : 0 ≤ x / b := Int.ediv_nonneg h0 (Int.le_of_lt hb)
    simp only [digs, num, num_digs hb n _ h2 h1]
    have := Int.emod_add_mul_ediv x b
    omega

/-! ### math/bits.Mul64, out of its own tree -/
def mulVC (K : List Int → List Int → Prop) : Prop :=
 ∀ z0 : Int, 0 ≤ z0 → z0 ≤ 18446744073709551615 →
 ∀ z1 : Int, 0 ≤ z1 → z1 ≤ 18446744073709551615 →
 ∀ z2 : Int, 0 ≤ z2 → z2 ≤ 4294967295 → 0 ≤ ((1 * z0 + 0) + 0) - 4294967296 * z2 → ((1 * z0 + 0) + 0) - 4294967296 * z2 < 4294967296 →
 ∀ z3 : Int, 0 ≤ z3 → z3 ≤ 4294967295 → 0 ≤ ((1 * z0 + 0) + 0) - 4294967296 * z3 → ((1 * z0 + 0) + 0) - 4294967296 * z3 < 4294967296 →
 ∀ z4 : Int, 0 ≤ z4 → z4 ≤ 4294967295 → 0 ≤ ((1 * z1 + 0) + 0) - 4294967296 * z4 → ((1 * z1 + 0) + 0) - 4294967296 * z4 < 4294967296 →
 ∀ z5 : Int, 0 ≤ z5 → z5 ≤ 4294967295 → 0 ≤ ((1 * z1 + 0) + 0) - 4294967296 * z5 → ((1 * z1 + 0) + 0) - 4294967296 * z5 < 4294967296 →
 ∀ z6 : Int, 0 ≤ z6 → z6 ≤ 18446744065119617025 → z6 = ((1 * z0 + ((-4294967296) * z2 + 0)) + 0) * ((1 * z1 + ((-4294967296) * z4 + 0)) + 0) →
 ∀ z7 : Int, 0 ≤ z7 → z7 ≤ 18446744065119617025 → z7 = ((1 * z3 + 0) + 0) * ((1 * z1 + ((-4294967296) * z4 + 0)) + 0) →
 ∀ z8 : Int, 0 ≤ z8 → z8 ≤ 4294967294 → 0 ≤ ((1 * z6 + 0) + 0) - 4294967296 * z8 → ((1 * z6 + 0) + 0) - 4294967296 * z8 < 4294967296 →
 ∀ z9 : Int, 0 ≤ z9 → z9 ≤ 4294967294 → 0 ≤ ((1 * z7 + (1 * z8 + 0)) + 0) - 4294967296 * z9 → ((1 * z7 + (1 * z8 + 0)) + 0) - 4294967296 * z9 < 4294967296 →
 ∀ z10 : Int, 0 ≤ z10 → z10 ≤ 4294967294 → 0 ≤ ((1 * z7 + (1 * z8 + 0)) + 0) - 4294967296 * z10 → ((1 * z7 + (1 * z8 + 0)) + 0) - 4294967296 * z10 < 4294967296 →
 ∀ z11 : Int, 0 ≤ z11 → z11 ≤ 18446744065119617025 → z11 = ((1 * z0 + ((-4294967296) * z2 + 0)) + 0) * ((1 * z5 + 0) + 0) →
 ∀ z12 : Int, 0 ≤ z12 → z12 ≤ 18446744065119617025 → z12 = ((1 * z3 + 0) + 0) * ((1 * z5 + 0) + 0) →
 ∀ z13 : Int, 0 ≤ z13 → z13 ≤ 4294967295 → 0 ≤ ((1 * z7 + (1 * z8 + ((-4294967296) * z9 + (1 * z11 + 0)))) + 0) - 4294967296 * z13 → ((1 * z7 + (1 * z8 + ((-4294967296) * z9 + (1 * z11 + 0)))) + 0) - 4294967296 * z13 < 4294967296 →
 ∀ z14 : Int, 0 ≤ z14 → z14 ≤ 340282366920938463426481119284349108225 → z14 = ((1 * z0 + 0) + 0) * ((1 * z1 + 0) + 0) →
 ∀ z15 : Int, 0 ≤ z15 → z15 ≤ 18446744073709551614 → 0 ≤ ((1 * z14 + 0) + 0) - 18446744073709551616 * z15 → ((1 * z14 + 0) + 0) - 18446744073709551616 * z15 < 18446744073709551616 →
 K [z0, z1] [((1 * z10 + (1 * z12 + (1 * z13 + 0))) + 0), ((1 * z14 + ((-18446744073709551616) * z15 + 0)) + 0)]
def wd : D := .int .u64 0 18446744073709551615
def cMul (f : FuncId) : Con := ⟨f, 0, [wd, wd], [wd, wd]⟩
theorem mul_alg (x y a b : Int) : x * y = (x + (-4294967296) * a) * (y + (-4294967296) * b) + 4294967296 * (a * (y + (-4294967296) * b) + (x + (-4294967296) * a) * b) + 18446744073709551616 * (a * b) := by
  grind
theorem mulVC_holds : mulVC fun zs rs => inB (bdsL [wd, wd]) rs ∧ rs = [zs.getD 0 0 * zs.getD 1 0 / 18446744073709551616, zs.getD 0 0 * zs.getD 1 0 % 18446744073709551616] := by
  unfold mulVC
  intro x h1 h2 y h3 h4 a h5 h6 h7 h8 a' h9 h10 h11 h12 b h13 h14 h15 h16 b' h17 h18 h19 h20 p h21 h22 h23 q h24 h25 h26 c h27 h28 h29 h30 d h31 h32 h33 h34 d' h35 h36 h37 h38 r h39 h40 h41 s h42 h43 h44 t h45 h46 h47 h48 m h49 h50 h51 u h52 h53 h54 h55
  have e1 : a' = a := by omega
  have e2 : b' = b := by omega
  have e3 : d' = d := by omega
  subst e1; subst e2; subst e3
  simp only [Int.one_mul, Int.add_zero] at *
  have := mul_alg x y a' b'
  rw [← h51, ← h23, ← h26, ← h41, ← h44] at this
  simp only [List.getD_cons_zero, List.getD_cons_succ, ← h51, bdsL, wd, D.bds, List.cons_append, List.nil_append, inB, and_true, List.cons.injEq]
  omega
theorem mul64Ok_of {P : Program} {f : FuncId} (hm : P.follows .mixedOrders = true) (hf : ∀ args w, (callFunc f args).run P w = .ok (.enter f args) w)
    (h : ∀ K, (allB (bdsL (cMul f).args) fun zs => ((cMul f).tree P [] (fun _ => none) (fun _ _ => none) 600 6).holds (fun _ _ _ => True) (LeafK (cMul f).res (K zs)) (fun _ _ => False) (updL (fun _ => 0) 0 zs)) = mulVC K) : Mul64Ok P f := by
  intro x y hx hx1 hy hy1 w
  have hv := mulVC_holds
  rw [← h] at hv
  have hin : inB (bdsL (cMul f).args) [x, y] := ⟨hx, by omega, hy, by omega, trivial⟩
  refine .inr ⟨hf _ _, ?_⟩
  have := Con.calls (wb := w) hm (fun r ex ro f g hfg => by cases hfg) (fun g cs hg => by cases hg) hin (allB_elim hv hin) w (World.Extends.refl w)
  refine this.mono fun e w' ⟨v, ρ', m, val, h1, h2, h3, h4⟩ => ?_
  obtain ⟨rs, ⟨_, hr⟩, hv⟩ := LeafK_spec h3 h2
  rw [h1, hv, hr]
  exact ⟨rfl, h4⟩
end Go.Rx
