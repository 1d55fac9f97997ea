/- The row of a law whose call leans on the world's shape (a variable of the library's own). -/
import Derived.Test.YtcellhafdgmkjaaDoorRxJ
import Derived.HandedShaped
import Derived.SizedLaws
set_option linter.unusedVariables false
set_option linter.unusedSimpArgs false
namespace Go.Rx
open Go.ChangeShapes Go.WideShapes Go.RowKit
variable {H : Type} {enc : TypeId × Value → H} {P : Program}
/-- How much texts take. -/
def D.szd : D → List Int → Prop
  | .str, zs => (sOf (zs.getD 0 0)).length ≤ reachBytes
  | .mix l, zs => ∀ (j : Nat), l[j]? = some CK.str → (sOf (zs.getD j 0)).length ≤ reachBytes
  | _, _ => True
def szL : List D → List Int → Prop
  | [], _ => True
  | d :: r, zs => d.szd zs ∧ szL r (zs.drop d.num)
theorem szd_cells : ∀ {l : List CK} {fs : List Field} {i : Nat} {zs : List Int}, mixTy P i l fs → inB (l.map CK.bd) zs → (∀ n ∈ DataW.weightsEach P (fs.map (·.type)) (List.zipWith CK.dat l zs : List (DataW H)), n ≤ reachBytes) → ∀ (j : Nat), l[j]? = some CK.str → (sOf (zs.getD j 0)).length ≤ reachBytes
  | [], _, _, _, _, _, _, j, hj => by simp at hj
  | _ :: _, [], _, _, h, _, _, _, _ => h.elim
  | _ :: _, _ :: _, _, [], _, h, _, _, _ => h.elim
  | c :: l, f :: fs, i, z :: zs, h, hz, hw, j, hj => by
    obtain ⟨_, _, ht, hr⟩ := h
    simp only [List.map_cons, List.zipWith_cons_cons, DataW.weightsEach, List.mem_append] at hw
    cases j with
    | zero =>
      simp only [List.getElem?_cons_zero, Option.some.injEq] at hj
      subst hj
      exact hw _ (.inl (by simp [CK.dat, DataW.weights]))
    | succ j =>
      simp only [List.getElem?_cons_succ] at hj
      simpa using szd_cells hr hz.2.2 (fun n hn => hw n (.inr hn)) j hj
theorem szd_of {t : TypeId} {d : D} {zs : List Int} (ht : DTy P t d) (hz : inB d.bds zs) (hw : ∀ n ∈ (d.dat zs : DataW H).weights P t, n ≤ reachBytes) : d.szd zs := by
  cases d with
  | str => exact hw _ (by simp [D.dat, DataW.weights])
  | mix l =>
    obtain ⟨fs, h1, h2, h3⟩ := ht
    simp only [D.dat, DataW.weights, h1] at hw
    exact szd_cells h3 hz hw
  | _ => trivial
theorem D.szd_app (d : D) {zs l : List Int} (h : zs.length = d.num) (hs : d.szd (zs ++ l)) : d.szd zs := by
  cases d with
  | str => match zs, h with | [z], _ => exact hs
  | mix p =>
    intro j hj
    have := hs j hj
    have hlt := (List.getElem?_eq_some_iff.1 hj).1
    simp only [D.num] at h
    simp only [List.getD] at this ⊢
    rwa [List.getElem?_append_left (by omega)] at this
  | _ => trivial
theorem szL_of : ∀ {ts : List TypeId} {ds : List D} {zs : List Int}, DTys P ts ds → inB (bdsL ds) zs → (∀ n ∈ DataW.weightsEach P ts (datL ds zs : List (DataW H)), n ≤ reachBytes) → szL ds zs
  | [], [], _, _, _, _ => trivial
  | [], _ :: _, _, h, _, _ => h.elim
  | _ :: _, [], _, h, _, _ => h.elim
  | t :: ts, d :: ds, zs, ht, hz, hw => by
    obtain ⟨h1, h2⟩ := inB_split hz
    rw [D.bds_len] at h1 h2
    have hl : (zs.take d.num).length = d.num := by rw [inB_len h1, D.bds_len]
    simp only [datL, DataW.weightsEach, List.mem_append] at hw
    refine ⟨?_, szL_of ht.2 h2 fun n hn => hw n (.inr hn)⟩
    have e2 := D.dat_app (H := H) d (l := zs.drop d.num) hl
    rw [List.take_append_drop] at e2
    have := szd_of (H := H) ht.1 h1 fun n hn => hw n (.inl (by rw [e2]; exact hn))
    have e3 : zs = zs.take d.num ++ zs.drop d.num := (List.take_append_drop _ _).symm
    cases d with
    | str =>
      match zs, hz with
      | z :: zs, _ => exact this
    | mix p =>
      intro j hj
      have h5 := this j hj
      have hlt := (List.getElem?_eq_some_iff.1 hj).1
      simp only [D.num] at h5
      simp only [List.getD, List.getElem?_take] at h5
      rw [if_pos hlt] at h5
      simpa [List.getD] using h5
    | _ => trivial
theorem change_and_sh {C : Checked} {os : Os} {f : FuncId} {fn : Func} {s : ChangeSpec} {apart : Bool} {X : World → Array Value → Prop}
    (hX : ∀ (w w' : World) (args : Array Value), w.heap = w'.heap → X w args → X w' args)
    (own : ownKnob C.prog.godebug = none) (started : os.Started) (noInit : C.prog.inits.idxOf? f = none) (hfn : C.prog.funcs[f]? = some fn)
    (witness : ∃ (w : World) (tape : Tape) (i : Input), w.os = os ∧ (w.forCall tape i).Shaped C.prog ∧ i.vars = [] ∧ Input.okWide C.prog (w.forCall tape i) .any w.heap.size f i ∧
      ((s.pre enc C.prog fn [] apart (w.forCall tape i).memory i.args ∧ X (w.forCall tape i).memory i.args) ∧ sizedMet enc C.prog fn (OpenSpec.ofChange s) apart (w.forCall tape i).memory i.args) ∧ ({} : Assume).holds C.prog (lone (Frame.enter C.prog f i.args .normal) [] (w.forCall tape i)))
    (contract : ∀ (W : World) (base : Nat) (args : Array Value) (ds gs : List (DataW H)) (before : List MemPlace),
      (∀ (j : Nat) t v, fn.params[j]? = some t → args[j]? = some v → Value.okWide C.prog W .any base t v) →
      DataW.Whole enc C.prog fn.params.toList s.vars apart W args.toList ds gs before → (DataW.weightsEach C.prog (fn.params.toList ++ s.plain.varTypes C.prog) (ds ++ gs)).all (· ≤ reachBytes) = true → X W args → W.ShapedOpen C.prog →
      Calls C.prog f args W fun e W' => ∃ v, e = .returned v ∧ s.post enc C.prog fn apart true false false W args v W') :
    ReturnsInHanded {} C os f .any (fun w args => (s.pre enc C.prog fn [] apart w args ∧ X w args) ∧ sizedMet enc C.prog fn (OpenSpec.ofChange s) apart w args) (s.post enc C.prog fn apart true false false) := by
  refine returnsInHanded_of_calls own started noInit witness ?_
  intro w tape i _ hsh _ hok hpre hholds
  obtain ⟨_, _, _, fn', hfn', _, _, _, _, hval⟩ := hok
  have e : fn' = fn := Option.some.inj (hfn'.symm.trans hfn)
  subst e
  obtain ⟨⟨⟨ds, gs, before, hw, hc⟩, hx⟩, hz⟩ := hpre
  have hw' := DataW.Whole.of_heap (w' := w.forCall tape i) (by rfl) hw
  refine (contract (w.forCall tape i) w.heap.size i.args ds gs before hval hw' (hz.weights hw) (hX _ _ _ (by rfl) hx) hsh).mono fun e W' ⟨v, he, hp⟩ => ?_
  subst he
  exact ChangeSpec.post_blind hp
/-- **The row of a law, out of its call.** -/
theorem law_lift_sh {C : Checked} {os : Os} {f : FuncId} {fn : Func} {s : ChangeSpec} {X : World → Array Value → Prop} {apart : Bool} {ts : List TypeId} {tb : TypeId} {ds : List D}
    (hX : ∀ (w w' : World) (args : Array Value), w.heap = w'.heap → X w args → X w' args)
    (own : ownKnob C.prog.godebug = none) (started : os.Started) (noInit : C.prog.inits.idxOf? f = none) (hfn : C.prog.funcs[f]? = some fn)
    (witness : ∃ (w : World) (tape : Tape) (i : Input), w.os = os ∧ (w.forCall tape i).Shaped C.prog ∧ i.vars = [] ∧ Input.okWide C.prog (w.forCall tape i) .any w.heap.size f i ∧
      ((s.pre enc C.prog fn [] apart (w.forCall tape i).memory i.args ∧ X (w.forCall tape i).memory i.args) ∧ sizedMet enc C.prog fn (OpenSpec.ofChange s) apart (w.forCall tape i).memory i.args) ∧ ({} : Assume).holds C.prog (lone (Frame.enter C.prog f i.args .normal) [] (w.forCall tape i)))
    (hp : fn.params.toList = ts) (hr : fn.resultTypes.toList = [tb]) (hr1 : fn.resultTypes.size = 1) (htb : C.prog.underlying tb = some .bool) (hty : DTys C.prog ts ds) (hvars : s.vars = [])
    (hs : ∀ xs : List (DataW H), xs.length = ds.length → s.fn H xs = { results := [.lit (.bool true)], args := xs, vars := [] })
    (contract : ∀ (W : World) (zs : List Int), inB (bdsL ds) zs → szL ds zs → X W (valL ds zs).toArray → W.ShapedOpen C.prog → Calls C.prog f (valL ds zs).toArray W fun e W' => e = .returned (.bool true) ∧ W.Extends W') :
    ReturnsInHanded {} C os f .any (fun w args => (s.pre enc C.prog fn [] apart w args ∧ X w args) ∧ sizedMet enc C.prog fn (OpenSpec.ofChange s) apart w args) (s.post enc C.prog fn apart true false false) := by
  refine change_and_sh hX own started noInit hfn witness ?_
  intro W base args xs gs before hval0 hW hsz hx hsh
  have hW' := hW
  obtain ⟨p, q, hA, hV, rfl, hfz, hnd⟩ := hW
  rw [hp] at hA
  rw [hvars] at hV
  obtain ⟨rfl, rfl⟩ : gs = [] ∧ q = [] := by
    cases gs with
    | nil => exact ⟨rfl, hV⟩
    | cons g r => exact absurd hV (by intro h; cases h)
  have hval : ∀ (j : Nat) t v, ts[j]? = some t → args.toList[j]? = some v → Value.okWide C.prog W .any base t v := fun j t v h1 h2 => hval0 j t v (by rw [← hp] at h1; simpa using h1) (by simpa using h2)
  obtain ⟨zs, hz, hvs, rfl, rfl⟩ := open_Ds hty hval hA
  have hargs : args = (valL ds zs).toArray := by rw [← hvs]
  subst hargs
  have hs' : szL ds zs := by
    have e : (fn.params.toList ++ s.plain.varTypes C.prog) = ts := by rw [hp]; simp [DataSpec.varTypes, ChangeSpec.plain, hvars]
    rw [e, List.append_nil, List.all_eq_true] at hsz
    exact szL_of (H := H) hty hz fun n hn => by simpa using hsz n hn
  refine (contract W zs hz hs' hx hsh).mono fun e W' ⟨he, hw⟩ => ?_
  subst he
  have hfn' := hs (datL ds zs ++ []) (by simp [datL_len])
  refine ⟨_, rfl, _, _, _, [], [], [], hW', ?_, ?_, ?_, keptBut_extends hw _, fun h => by cases h⟩
  · rw [hfn', hr, hr1]; exact trodAll_mk1 (shut_bool htb true)
  · rw [hfn', hp, List.append_nil]; exact shut_Ds hty hz
  · rw [hfn', hvars]; rfl

end Go.Rx
