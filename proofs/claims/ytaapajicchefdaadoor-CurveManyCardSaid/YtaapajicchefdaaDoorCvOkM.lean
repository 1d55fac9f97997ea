/- The curve seat: every function's contract. -/
import Derived.Test.YtaapajicchefdaaDoorCvEqQ
import Derived.Test.YtaapajicchefdaaDoorCvEqC
import Derived.Test.YtaapajicchefdaaDoorCvEqD
import Derived.Test.YtaapajicchefdaaDoorCvEqE
import Derived.Test.YtaapajicchefdaaDoorCvEqR
import Derived.Test.YtaapajicchefdaaDoorCvEqL
import Derived.Test.YtaapajicchefdaaDoorRx16
set_option linter.unusedVariables false
set_option maxRecDepth 100000
namespace Go.Fd
open Go Go.Rx Go.Proofs
theorem mx : Tryd.prog.follows .mixedOrders = true := by kernel_rfl
theorem add77 : Add64Ok Tryd.prog 77 := add64Ok_of Tryd.func77 (by kernel_rfl) (by kernel_rfl) (by kernel_rfl) (by kernel_rfl)
theorem sub87 : Sub64Ok Tryd.prog 87 := sub64Ok_of Tryd.func87 (by kernel_rfl) (by kernel_rfl) (by kernel_rfl) (by kernel_rfl)
theorem mul76 : Mul64Ok Tryd.prog 76 := mul64Ok_of mx (enters (by kernel_rfl)) (fun K => by kernel_rfl)
theorem splitL_flatten {α : Type} : ∀ (ks : List Nat) (l : List α), (splitL ks l).flatten = l
  | [], [] => rfl
  | [], _ :: _ => by simp [splitL]
  | k :: ks, l => by simp only [splitL, List.flatten_cons, splitL_flatten ks, List.take_append_drop]
/-- What a function says, its numbers in one list. -/
def fS (id : Nat) : List Int → List Int → Prop := fun zs rs => SB id (splitL (sh id).1 zs) (splitL (sh id).2 rs)
abbrev FG (G : Nat → List Int → List Int) : Nat → List Int → List Int → Prop := flatS sh (SG G)
theorem FG_fun (G : Nat → List Int → List Int) : ∀ id a rs rs', FG G id a rs → FG G id a rs' → rs = rs' := fun id a rs rs' h h' => by
  have e := h.2
  have e' := h'.2
  rw [splitL_flatten, splitL_flatten] at e e'
  exact e.trans e'.symm
theorem vcb_flat {lsh : Nat → List Nat} {G : Nat → List Int → List Int} {id : Nat} {lens : List Nat} {bds : List (Int × Int)} {ds : List D} {t : T} (hl : lens = (sh id).1) (hd : numsD ds = (sh id).2) (h : VcB sh lsh (SG G) (KB ds id) lens bds ds t) :
    ∀ zs, inB bds zs → t.holds (FG G) (LeafK ds fun rs => inB (bdsL ds) rs ∧ fS id zs rs) (fun _ _ => False) (updL (fun _ => 0) 0 zs) := fun zs hz => by
  have h := allB_elim (VcB_sound h) hz
  simp only [KB, splitL_flatten] at h
  rw [hl, hd] at h
  exact h
theorem Ok_mono {P : Program} {wb : World} {c : Con} {s s' : List Int → List Int → Prop} (h : c.Ok P wb s) (hs : ∀ zs rs, s zs rs → s' zs rs) : c.Ok P wb s' :=
  ⟨h.1, fun zs hz => by obtain ⟨rs, h1, h2, h3⟩ := h.2 zs hz; exact ⟨rs, h1, hs zs rs h2, h3⟩⟩
def AllOk (wb : World) (L : List Con) (G : Nat → List Int → List Int) : Prop := ∀ c ∈ L, c.Ok Tryd.prog wb (FG G c.id)
theorem AllOk.step {wb : World} {L : List Con} {G : Nat → List Int → List Int} {c : Con} (h : AllOk wb L G) (hne : (L.all fun c' => !(Nat.beq c'.id c.id)) = true) (h0 : c.Ok Tryd.prog wb (fS c.id)) : ∃ G', AllOk wb (c :: L) G' := by
  obtain ⟨F, hF⟩ := h0.fn
  refine ⟨fun id => if id = c.id then F else G id, fun c' hc' => ?_⟩
  rcases List.mem_cons.1 hc' with rfl | hm
  · refine Ok_mono hF fun zs rs ⟨h1, h2⟩ => ⟨h2, ?_⟩
    simp only [splitL_flatten, if_true]
    exact h1
  · refine Ok_mono (h c' hm) fun zs rs ⟨h1, h2⟩ => ⟨h1, ?_⟩
    have hb := List.all_eq_true.1 hne c' hm
    have hn : ¬ c'.id = c.id := fun e => by rw [e] at hb; simp at hb
    simp only [if_neg hn]
    exact h2
theorem mem_at {α : Type} {l : List α} {i : Nat} {a : α} (h : l[i]? = some a) : a ∈ l := List.mem_of_getElem? h
theorem nil0 {α : Type} {p : α → Prop} : ∀ x ∈ ([] : List α), p x := fun _ h => by cases h
theorem split2 {zs : List Int} {a b : Nat} (h : zs.length = a + b) : splitL [a, b] zs = [zs.take a, zs.drop a] := by
  have e1 : (zs.drop a).take b = zs.drop a := List.take_of_length_le (by rw [List.length_drop]; omega)
  have e2 : (zs.drop a).drop b = [] := List.drop_of_length_le (by rw [List.length_drop]; omega)
  show zs.take a :: (zs.drop a).take b :: splitL [] ((zs.drop a).drop b) = _
  rw [e1, e2]
  rfl
theorem split1 {zs : List Int} {a : Nat} (h : zs.length = a) : splitL [a] zs = [zs] := by
  have e1 : zs.take a = zs := List.take_of_length_le (by omega)
  have e2 : zs.drop a = [] := List.drop_of_length_le (by omega)
  show zs.take a :: splitL [] (zs.drop a) = _
  rw [e1, e2]
  rfl
theorem of_vcb {wb : World} {G : Nat → List Int → List Int} {c : Con} {cal : Cal} {li : FuncId → Nat → Option LoopI} {rounds d : Nat} {lsh : Nat → List Nat} {lens : List Nat} (hcal : ∀ r ex, CalOk (FG G) Tryd.prog gl ⟨wb, r, ex⟩ cal) (hg : GOk gl ⟨wb, wb, fun _ => False⟩)
    (hf : ∀ args w, (callFunc c.f args).run Tryd.prog w = .ok (.enter c.f args) w) (hp : (c.tree Tryd.prog gl cal li rounds d).plain = true) (hl : lens = (sh c.id).1) (hd : numsD c.res = (sh c.id).2)
    (hv : VcB sh lsh (SG G) (KB c.res c.id) lens (bdsL c.args) c.res (c.tree Tryd.prog gl cal li rounds d)) : c.Ok Tryd.prog wb (fS c.id) :=
  Con.of_plain (S := FG G) (spec := fS c.id) mx hcal hg hf (FG_fun G) hp (vcb_flat hl hd hv)
theorem split3 {zs : List Int} {a b c : Nat} (h : zs.length = a + (b + c)) : splitL [a, b, c] zs = [zs.take a, (zs.drop a).take b, (zs.drop a).drop b] := by
  have e : splitL [a, b, c] zs = zs.take a :: splitL [b, c] (zs.drop a) := rfl
  rw [e, split2 (zs := zs.drop a) (a := b) (b := c) (by rw [List.length_drop]; omega)]
theorem rs33 {rs : List Int} (h : inB (bdsL [by32, er]) rs) : splitL [32, 1] rs = [rs.take 32, rs.drop 32] ∧ inB (repB 0 255 32) (rs.take 32) ∧ ∃ e, rs.drop 32 = [e] := by
  rw [bd_be] at h
  have hl : rs.length = 32 + 1 := inB_len h
  have hs := inB_split h
  rw [repB_len] at hs
  refine ⟨split2 hl, hs.1, ?_⟩
  have h2 := hs.2
  match rs.drop 32, h2 with
  | [e], _ => exact ⟨e, rfl⟩
theorem uniq33 {id : Nat} {zs rs rs' : List Int} {al : List (List Int)} {o : Option (Int × Int)} (hr : (sh id).2 = [32, 1]) (ha : splitL (sh id).1 zs = al) (hS : ∀ r e, SB id al [r, [e]] → RT r e o) (h1 : inB (bdsL [by32, er]) rs) (h2 : inB (bdsL [by32, er]) rs') (e : fS id zs rs) (e' : fS id zs rs') : rs = rs' := by
  obtain ⟨a1, a2, x, a3⟩ := rs33 h1
  obtain ⟨b1, b2, y, b3⟩ := rs33 h2
  unfold fS at e e'
  rw [hr, ha, a1, a3] at e
  rw [hr, ha, b1, b3] at e'
  have k := RT_eq (hS _ _ e) (hS _ _ e') a2 b2
  rw [← List.take_append_drop 32 rs, ← List.take_append_drop 32 rs', a3, b3, k.1, k.2]
theorem take_take_drop (zs : List Int) : [zs.take 5, (zs.drop 5).take 5, ((zs.drop 5).drop 5).take 5, (((zs.drop 5).drop 5).drop 5).take 5].flatten = zs.take 20 := by
  simp only [List.flatten_cons, List.flatten_nil, List.append_nil, List.drop_drop, Nat.reduceAdd]
  rw [show (20 : Nat) = 5 + (5 + (5 + 5)) by rfl, List.take_add, List.take_add, List.take_add]
  simp only [List.drop_drop, Nat.reduceAdd]
theorem many_split {G : Nat → List Int → List Int} {zs : List Int} {r : List (List Int)} (lz : zs.length = 20 + 32) (h : KM G (splitL [5, 5, 5, 5, 32] zs) r) : KB k_many.res 107 (splitL [5, 5, 5, 5, 32] zs) r ∧ r.flatten = manyF G (zs.take 20) (nb (zs.drop 20)).toNat 256 := by
  have e : splitL [5, 5, 5, 5, 32] zs = [zs.take 5, (zs.drop 5).take 5, ((zs.drop 5).drop 5).take 5, (((zs.drop 5).drop 5).drop 5).take 5, zs.drop 20] := by
    have e0 : splitL [5, 5, 5, 5, 32] zs = zs.take 5 :: (zs.drop 5).take 5 :: ((zs.drop 5).drop 5).take 5 :: (((zs.drop 5).drop 5).drop 5).take 5 :: splitL [32] ((((zs.drop 5).drop 5).drop 5).drop 5) := rfl
    have e1 : ((((zs.drop 5).drop 5).drop 5).drop 5) = zs.drop 20 := by simp only [List.drop_drop]
    rw [e0, e1, split1 (by rw [List.length_drop]; omega)]
  rw [e] at h ⊢
  refine ⟨h.1, ?_⟩
  have h2 := h.2
  simp only at h2
  rw [take_take_drop] at h2
  exact h2
theorem rmany_split {G : Nat → List Int → List Int} {zs : List Int} {r : List (List Int)} (lz : zs.length = 32 + 12) (h : KMR G (splitL [32, 4, 4, 4] zs) r) : KB k_rmany.res 123 (splitL [32, 4, 4, 4] zs) r ∧ r.flatten = rmanyF G (zs.drop 32) (nb (zs.take 32)).toNat 256 := by
  have e0 : splitL [32, 4, 4, 4] zs = zs.take 32 :: splitL [4, 4, 4] (zs.drop 32) := rfl
  have e1 := split3 (zs := zs.drop 32) (a := 4) (b := 4) (c := 4) (by rw [List.length_drop]; omega)
  rw [e0, e1] at h ⊢
  refine ⟨h.1, ?_⟩
  have h2 := h.2
  simp only at h2
  rw [h2]
  congr 1
  have e2 := splitL_flatten [4, 4, 4] (zs.drop 32)
  rw [e1] at e2
  exact e2
section
variable {wb : World} (hg : GOk gl ⟨wb, wb, fun _ => False⟩) {G : Nat → List Int → List Int}
include hg G
theorem ok_rbytes : k_rbytes.Ok Tryd.prog wb (fS k_rbytes.id) := by
  refine of_vcb (G := G) (c := k_rbytes) (cal := (calS [] [] 76 77 87)) (li := li_none) (rounds := 600) (d := 6) (lsh := lsh_none) (fun r ex => calS_ok mul76 add77 sub87 nil0 nil0) hg (enters (by kernel_rfl)) pl_rbytes rfl rfl (lens := [4]) ?_
  rw [u_rbytes]
  exact p_rbytes G
theorem ok_carried : k_carried.Ok Tryd.prog wb (fS k_carried.id) := by
  refine of_vcb (G := G) (c := k_carried) (cal := (calS [] [] 76 77 87)) (li := li_none) (rounds := 600) (d := 6) (lsh := lsh_none) (fun r ex => calS_ok mul76 add77 sub87 nil0 nil0) hg (enters (by kernel_rfl)) pl_carried rfl rfl (lens := [5]) ?_
  rw [u_carried]
  exact p_carried G
theorem ok_from (h : ∀ c ∈ [k_carried], c.Ok Tryd.prog wb (FG G c.id)) : k_from.Ok Tryd.prog wb (fS k_from.id) := by
  refine of_vcb (G := G) (c := k_from) (cal := (calS [] [k_carried] 76 77 87)) (li := li_none) (rounds := 600) (d := 6) (lsh := lsh_none) (fun r ex => calS_ok mul76 add77 sub87 nil0 h) hg (enters (by kernel_rfl)) pl_from rfl rfl (lens := [32]) ?_
  rw [u_from]
  exact p_from G
theorem ok_bytes (h : ∀ c ∈ [k_carried], c.Ok Tryd.prog wb (FG G c.id)) : k_bytes.Ok Tryd.prog wb (fS k_bytes.id) := by
  refine of_vcb (G := G) (c := k_bytes) (cal := (calS [] [k_carried] 76 77 87)) (li := li_none) (rounds := 600) (d := 6) (lsh := lsh_none) (fun r ex => calS_ok mul76 add77 sub87 nil0 h) hg (enters (by kernel_rfl)) pl_bytes rfl rfl (lens := [5]) ?_
  rw [u_bytes]
  exact p_bytes G
theorem ok_plus (h : ∀ c ∈ [k_carried], c.Ok Tryd.prog wb (FG G c.id)) : k_plus.Ok Tryd.prog wb (fS k_plus.id) := by
  refine of_vcb (G := G) (c := k_plus) (cal := (calS [] [k_carried] 76 77 87)) (li := li_none) (rounds := 600) (d := 6) (lsh := lsh_none) (fun r ex => calS_ok mul76 add77 sub87 nil0 h) hg (enters (by kernel_rfl)) pl_plus rfl rfl (lens := [5, 5]) ?_
  rw [u_plus]
  exact p_plus G
theorem ok_minus (h : ∀ c ∈ [k_carried], c.Ok Tryd.prog wb (FG G c.id)) : k_minus.Ok Tryd.prog wb (fS k_minus.id) := by
  refine of_vcb (G := G) (c := k_minus) (cal := (calS [] [k_carried] 76 77 87)) (li := li_none) (rounds := 600) (d := 6) (lsh := lsh_none) (fun r ex => calS_ok mul76 add77 sub87 nil0 h) hg (enters (by kernel_rfl)) pl_minus rfl rfl (lens := [5, 5]) ?_
  rw [u_minus]
  exact p_minus G
theorem ok_times (h : ∀ c ∈ [k_carried], c.Ok Tryd.prog wb (FG G c.id)) : k_times.Ok Tryd.prog wb (fS k_times.id) := by
  refine of_vcb (G := G) (c := k_times) (cal := (calS [] [k_carried] 76 77 87)) (li := li_none) (rounds := 600) (d := 6) (lsh := lsh_none) (fun r ex => calS_ok mul76 add77 sub87 nil0 h) hg (enters (by kernel_rfl)) pl_times rfl rfl (lens := [5, 5]) ?_
  rw [u_times]
  exact p_times G
theorem ok_squared (h : ∀ c ∈ [k_times], c.Ok Tryd.prog wb (FG G c.id)) : k_squared.Ok Tryd.prog wb (fS k_squared.id) := by
  refine of_vcb (G := G) (c := k_squared) (cal := (calS [] [k_times] 76 77 87)) (li := li_none) (rounds := 600) (d := 6) (lsh := lsh_none) (fun r ex => calS_ok mul76 add77 sub87 nil0 h) hg (enters (by kernel_rfl)) pl_squared rfl rfl (lens := [5]) ?_
  rw [u_squared]
  exact p_squared G
theorem ok_negated (h : ∀ c ∈ [k_minus], c.Ok Tryd.prog wb (FG G c.id)) : k_negated.Ok Tryd.prog wb (fS k_negated.id) := by
  refine of_vcb (G := G) (c := k_negated) (cal := (calS [] [k_minus] 76 77 87)) (li := li_none) (rounds := 600) (d := 6) (lsh := lsh_none) (fun r ex => calS_ok mul76 add77 sub87 nil0 h) hg (enters (by kernel_rfl)) pl_negated rfl rfl (lens := [5]) ?_
  rw [u_negated]
  exact p_negated G
theorem ok_raised (h : ∀ c ∈ [k_squared, k_times], c.Ok Tryd.prog wb (FG G c.id)) : k_raised.Ok Tryd.prog wb (fS 43) :=
  Ok_mono (Con.of_vc (S := FG G) (spec := fun zs rs => fS 43 zs rs ∧ rs = raisedF G (zs.take 5) (nw (zs.drop 5)).toNat 256) (c := k_raised) (cal := (calS [] [k_squared, k_times] 76 77 87)) (li := li_raised) (rounds := 600) (d := 6) mx (fun r ex => calS_ok mul76 add77 sub87 nil0 h) hg (enters (by kernel_rfl)) (fun zs rs rs' hz h1 h2 e e' => e.2.trans e'.2.symm)
    (allB_intro fun zs hz => by
      have hv := allB_elim (VcB_sound (S := SG G) (K := KR G) (sh := sh) (lsh := lsh_raised) (lens := [5, 4]) (bds := bdsL k_raised.args) (ds := k_raised.res) (t := (k_raised.tree Tryd.prog gl (calS [] [k_squared, k_times] 76 77 87) li_raised 600 6)) (by rw [u_raised]; exact p_raised G)) hz
      have lz : zs.length = 5 + 4 := inB_len hz
      refine holds_mono (fun v ρ hl => ?_) _ _ _ hv
      unfold LeafK at hl ⊢
      split
      · rename_i os ho
        rw [ho] at hl
        simp only [KR, KB, splitL_flatten, split2 lz] at hl
        refine ⟨hl.1.1, ?_, hl.2⟩
        unfold fS
        rw [show (sh 43).1 = [5, 4] by rfl, split2 lz]
        exact hl.1.2
      · rename_i ho
        rw [ho] at hl
        exact hl)) fun zs rs h => h.1
theorem ok_inverted (h : ∀ c ∈ [k_raised], c.Ok Tryd.prog wb (FG G c.id)) : k_inverted.Ok Tryd.prog wb (fS k_inverted.id) := by
  refine of_vcb (G := G) (c := k_inverted) (cal := (calS [] [k_raised] 76 77 87)) (li := li_none) (rounds := 600) (d := 6) (lsh := lsh_none) (fun r ex => calS_ok mul76 add77 sub87 nil0 h) hg (enters (by kernel_rfl)) pl_inverted rfl rfl (lens := [5]) ?_
  rw [u_inverted]
  exact p_inverted G
theorem ok_same (h : ∀ c ∈ [k_bytes], c.Ok Tryd.prog wb (FG G c.id)) : k_same.Ok Tryd.prog wb (fS k_same.id) := by
  refine of_vcb (G := G) (c := k_same) (cal := (calS [] [k_bytes] 76 77 87)) (li := li_none) (rounds := 600) (d := 6) (lsh := lsh_none) (fun r ex => calS_ok mul76 add77 sub87 nil0 h) hg (enters (by kernel_rfl)) pl_same rfl rfl (lens := [5, 5]) ?_
  rw [u_same]
  exact p_same G
theorem ok_odd (h : ∀ c ∈ [k_bytes], c.Ok Tryd.prog wb (FG G c.id)) : k_odd.Ok Tryd.prog wb (fS k_odd.id) := by
  refine of_vcb (G := G) (c := k_odd) (cal := (calS [] [k_bytes] 76 77 87)) (li := li_none) (rounds := 600) (d := 6) (lsh := lsh_none) (fun r ex => calS_ok mul76 add77 sub87 nil0 h) hg (enters (by kernel_rfl)) pl_odd rfl rfl (lens := [5]) ?_
  rw [u_odd]
  exact p_odd G
theorem ok_rooted (h : ∀ c ∈ [k_raised, k_squared, k_same, k_odd, k_negated, k_times], c.Ok Tryd.prog wb (FG G c.id)) : k_rooted.Ok Tryd.prog wb (fS k_rooted.id) := by
  refine of_vcb (G := G) (c := k_rooted) (cal := (calS [] [k_raised, k_squared, k_same, k_odd, k_negated, k_times] 76 77 87)) (li := li_none) (rounds := 600) (d := 6) (lsh := lsh_none) (fun r ex => calS_ok mul76 add77 sub87 nil0 h) hg (enters (by kernel_rfl)) pl_rooted rfl rfl (lens := [5]) ?_
  rw [u_rooted]
  exact p_rooted G
theorem ok_reduce (h : ∀ c ∈ [k_from, k_bytes], c.Ok Tryd.prog wb (FG G c.id)) : k_reduce.Ok Tryd.prog wb (fS k_reduce.id) := by
  refine of_vcb (G := G) (c := k_reduce) (cal := (calS [] [k_from, k_bytes] 76 77 87)) (li := li_none) (rounds := 600) (d := 6) (lsh := lsh_none) (fun r ex => calS_ok mul76 add77 sub87 nil0 h) hg (enters (by kernel_rfl)) pl_reduce rfl rfl (lens := [32]) ?_
  rw [u_reduce]
  exact p_reduce G
theorem ok_right (h : ∀ c ∈ [k_reduce], c.Ok Tryd.prog wb (FG G c.id)) : k_right.Ok Tryd.prog wb (fS k_right.id) := by
  refine of_vcb (G := G) (c := k_right) (cal := (calS [] [k_reduce] 76 77 87)) (li := li_none) (rounds := 600) (d := 6) (lsh := lsh_none) (fun r ex => calS_ok mul76 add77 sub87 nil0 h) hg (enters (by kernel_rfl)) pl_right rfl rfl (lens := [32]) ?_
  rw [u_right]
  exact p_right G
theorem ok_twice (h : ∀ c ∈ [k_plus], c.Ok Tryd.prog wb (FG G c.id)) : k_twice.Ok Tryd.prog wb (fS k_twice.id) := by
  refine of_vcb (G := G) (c := k_twice) (cal := (calS [] [k_plus] 76 77 87)) (li := li_none) (rounds := 600) (d := 6) (lsh := lsh_none) (fun r ex => calS_ok mul76 add77 sub87 nil0 h) hg (enters (by kernel_rfl)) pl_twice rfl rfl (lens := []) ?_
  rw [u_twice]
  exact p_twice G
theorem ok_flat (h : ∀ c ∈ [k_times], c.Ok Tryd.prog wb (FG G c.id)) : k_flat.Ok Tryd.prog wb (fS k_flat.id) := by
  refine of_vcb (G := G) (c := k_flat) (cal := (calS [] [k_times] 76 77 87)) (li := li_none) (rounds := 600) (d := 6) (lsh := lsh_none) (fun r ex => calS_ok mul76 add77 sub87 nil0 h) hg (enters (by kernel_rfl)) pl_flat rfl rfl (lens := [5, 5]) ?_
  rw [u_flat]
  exact p_flat G
theorem ok_cbase (h : ∀ c ∈ [k_flat], c.Ok Tryd.prog wb (FG G c.id)) : k_cbase.Ok Tryd.prog wb (fS k_cbase.id) := by
  refine of_vcb (G := G) (c := k_cbase) (cal := (calS [] [k_flat] 76 77 87)) (li := li_none) (rounds := 600) (d := 6) (lsh := lsh_none) (fun r ex => calS_ok mul76 add77 sub87 nil0 h) hg (enters (by kernel_rfl)) pl_cbase rfl rfl (lens := []) ?_
  rw [u_cbase]
  exact p_cbase G
theorem ok_czero (h : ∀ c ∈ [k_flat], c.Ok Tryd.prog wb (FG G c.id)) : k_czero.Ok Tryd.prog wb (fS k_czero.id) := by
  refine of_vcb (G := G) (c := k_czero) (cal := (calS [] [k_flat] 76 77 87)) (li := li_none) (rounds := 600) (d := 6) (lsh := lsh_none) (fun r ex => calS_ok mul76 add77 sub87 nil0 h) hg (enters (by kernel_rfl)) pl_czero rfl rfl (lens := []) ?_
  rw [u_czero]
  exact p_czero G
theorem ok_corner (h : ∀ c ∈ [k_times], c.Ok Tryd.prog wb (FG G c.id)) : k_corner.Ok Tryd.prog wb (fS k_corner.id) := by
  refine of_vcb (G := G) (c := k_corner) (cal := (calS [] [k_times] 76 77 87)) (li := li_none) (rounds := 600) (d := 6) (lsh := lsh_none) (fun r ex => calS_ok mul76 add77 sub87 nil0 h) hg (enters (by kernel_rfl)) pl_corner rfl rfl (lens := [5, 5, 5, 5]) ?_
  rw [u_corner]
  exact p_corner G
theorem ok_cplus (h : ∀ c ∈ [k_minus, k_times, k_plus, k_twice, k_corner], c.Ok Tryd.prog wb (FG G c.id)) : k_cplus.Ok Tryd.prog wb (fS k_cplus.id) := by
  refine of_vcb (G := G) (c := k_cplus) (cal := (calS [] [k_minus, k_times, k_plus, k_twice, k_corner] 76 77 87)) (li := li_none) (rounds := 600) (d := 6) (lsh := lsh_none) (fun r ex => calS_ok mul76 add77 sub87 nil0 h) hg (enters (by kernel_rfl)) pl_cplus rfl rfl (lens := [5, 5, 5, 5, 5, 5, 5, 5]) ?_
  rw [u_cplus]
  exact p_cplus G
theorem ok_doubled (h : ∀ c ∈ [k_squared, k_plus, k_minus, k_corner], c.Ok Tryd.prog wb (FG G c.id)) : k_doubled.Ok Tryd.prog wb (fS k_doubled.id) := by
  refine of_vcb (G := G) (c := k_doubled) (cal := (calS [] [k_squared, k_plus, k_minus, k_corner] 76 77 87)) (li := li_none) (rounds := 600) (d := 6) (lsh := lsh_none) (fun r ex => calS_ok mul76 add77 sub87 nil0 h) hg (enters (by kernel_rfl)) pl_doubled rfl rfl (lens := [5, 5, 5]) ?_
  rw [u_doubled]
  exact p_doubled G
theorem ok_many (h : ∀ c ∈ [k_czero, k_doubled, k_cplus], c.Ok Tryd.prog wb (FG G c.id)) : k_many.Ok Tryd.prog wb (fS 107) :=
  Ok_mono (Con.of_vc (S := FG G) (spec := fun zs rs => fS 107 zs rs ∧ rs = manyF G (zs.take 20) (nb (zs.drop 20)).toNat 256) (c := k_many) (cal := (calS [] [k_czero, k_doubled, k_cplus] 76 77 87)) (li := li_many) (rounds := 600) (d := 6) mx (fun r ex => calS_ok mul76 add77 sub87 nil0 h) hg (enters (by kernel_rfl)) (fun zs rs rs' hz h1 h2 e e' => e.2.trans e'.2.symm)
    (allB_intro fun zs hz => by
      have hv := allB_elim (VcB_sound (S := SG G) (K := KM G) (sh := sh) (lsh := lsh_many) (lens := [5, 5, 5, 5, 32]) (bds := bdsL k_many.args) (ds := k_many.res) (t := (k_many.tree Tryd.prog gl (calS [] [k_czero, k_doubled, k_cplus] 76 77 87) li_many 600 6)) (by rw [u_many]; exact p_many G)) hz
      have lz : zs.length = 20 + 32 := inB_len hz
      refine holds_mono (fun v ρ hl => ?_) _ _ _ hv
      unfold LeafK at hl ⊢
      split
      · rename_i os ho
        rw [ho] at hl
        have hl : KB k_many.res 107 (splitL [5, 5, 5, 5, 32] zs) (splitL (numsD k_many.res) (os.map (O.den ρ))) ∧ (splitL (numsD k_many.res) (os.map (O.den ρ))).flatten = manyF G (zs.take 20) (nb (zs.drop 20)).toNat 256 := many_split lz hl
        simp only [KB, splitL_flatten] at hl
        exact ⟨hl.1.1, hl.1.2, hl.2⟩
      · rename_i ho
        rw [ho] at hl
        exact hl)) fun zs rs h => h.1
theorem ok_cbytes (h : ∀ c ∈ [k_inverted, k_times, k_bytes, k_odd], c.Ok Tryd.prog wb (FG G c.id)) : k_cbytes.Ok Tryd.prog wb (fS k_cbytes.id) := by
  refine of_vcb (G := G) (c := k_cbytes) (cal := (calS [] [k_inverted, k_times, k_bytes, k_odd] 76 77 87)) (li := li_none) (rounds := 600) (d := 6) (lsh := lsh_none) (fun r ex => calS_ok mul76 add77 sub87 nil0 h) hg (enters (by kernel_rfl)) pl_cbytes rfl rfl (lens := [5, 5, 5]) ?_
  rw [u_cbytes]
  exact p_cbytes G
theorem ok_read (h : ∀ c ∈ [k_right, k_from, k_squared, k_minus, k_times, k_plus, k_inverted, k_rooted, k_same, k_negated, k_flat], c.Ok Tryd.prog wb (FG G c.id)) : k_read.Ok Tryd.prog wb (fS k_read.id) := by
  refine of_vcb (G := G) (c := k_read) (cal := (calS [] [k_right, k_from, k_squared, k_minus, k_times, k_plus, k_inverted, k_rooted, k_same, k_negated, k_flat] 76 77 87)) (li := li_none) (rounds := 600) (d := 6) (lsh := lsh_none) (fun r ex => calS_ok mul76 add77 sub87 nil0 h) hg (enters (by kernel_rfl)) pl_read rfl rfl (lens := [32]) ?_
  rw [u_read]
  exact p_read G
theorem ok_cright (h : ∀ c ∈ [k_read], c.Ok Tryd.prog wb (FG G c.id)) : k_cright.Ok Tryd.prog wb (fS k_cright.id) := by
  refine of_vcb (G := G) (c := k_cright) (cal := (calS [] [k_read] 76 77 87)) (li := li_none) (rounds := 600) (d := 6) (lsh := lsh_none) (fun r ex => calS_ok mul76 add77 sub87 nil0 h) hg (enters (by kernel_rfl)) pl_cright rfl rfl (lens := [32]) ?_
  rw [u_cright]
  exact p_cright G
theorem ok_cadd (h : ∀ c ∈ [k_read, k_cplus, k_cbytes], c.Ok Tryd.prog wb (FG G c.id)) : k_cadd.Ok Tryd.prog wb (fS 111) :=
  Con.of_vc (S := FG G) (spec := fS 111) (c := k_cadd) (cal := (calS [] [k_read, k_cplus, k_cbytes] 76 77 87)) (li := li_none) (rounds := 600) (d := 6) mx (fun r ex => calS_ok mul76 add77 sub87 nil0 h) hg (enters (by kernel_rfl)) (fun zs rs rs' hz h1 h2 e e' => by
    have lz : zs.length = 32 + 32 := inB_len hz
    exact uniq33 (id := 111) (al := [zs.take 32, zs.drop 32]) (o := (dec (nb (zs.take 32))).bind fun A => (dec (nb (zs.drop 32))).map fun B => addP A B) rfl (by rw [show (sh 111).1 = [32, 32] by rfl]; exact split2 lz) (fun r e h => h) h1 h2 e e')
    (allB_intro (vcb_flat (G := G) (id := 111) (lens := [32, 32]) (bds := (bdsL k_cadd.args)) (ds := k_cadd.res) rfl rfl (by rw [u_cadd]; exact p_cadd G)))
theorem ok_ctimes (h : ∀ c ∈ [k_read, k_many, k_cbytes], c.Ok Tryd.prog wb (FG G c.id)) : k_ctimes.Ok Tryd.prog wb (fS 113) :=
  Con.of_vc (S := FG G) (spec := fS 113) (c := k_ctimes) (cal := (calS [] [k_read, k_many, k_cbytes] 76 77 87)) (li := li_none) (rounds := 600) (d := 6) mx (fun r ex => calS_ok mul76 add77 sub87 nil0 h) hg (enters (by kernel_rfl)) (fun zs rs rs' hz h1 h2 e e' => by
    have lz : zs.length = 32 + 32 := inB_len hz
    exact uniq33 (id := 113) (al := [zs.take 32, zs.drop 32]) (o := (dec (nb (zs.drop 32))).map (mulP (nb (zs.take 32)).toNat)) rfl (by rw [show (sh 113).1 = [32, 32] by rfl]; exact split2 lz) (fun r e h => h) h1 h2 e e')
    (allB_intro (vcb_flat (G := G) (id := 113) (lens := [32, 32]) (bds := (bdsL k_ctimes.args)) (ds := k_ctimes.res) rfl rfl (by rw [u_ctimes]; exact p_ctimes G)))
theorem ok_base (h : ∀ c ∈ [k_cbase, k_many, k_cbytes], c.Ok Tryd.prog wb (FG G c.id)) : k_base.Ok Tryd.prog wb (fS k_base.id) := by
  refine of_vcb (G := G) (c := k_base) (cal := (calS [] [k_cbase, k_many, k_cbytes] 76 77 87)) (li := li_none) (rounds := 600) (d := 6) (lsh := lsh_none) (fun r ex => calS_ok mul76 add77 sub87 nil0 h) hg (enters (by kernel_rfl)) pl_base rfl rfl (lens := [32]) ?_
  rw [u_base]
  exact p_base G
theorem ok_rl : k_rl.Ok Tryd.prog wb (fS k_rl.id) := by
  refine of_vcb (G := G) (c := k_rl) (cal := (calS [] [] 76 77 87)) (li := li_none) (rounds := 600) (d := 6) (lsh := lsh_none) (fun r ex => calS_ok mul76 add77 sub87 nil0 nil0) hg (enters (by kernel_rfl)) pl_rl rfl rfl (lens := []) ?_
  rw [u_rl]
  exact p_rl G
theorem ok_calive (h : ∀ c ∈ [k_base, k_cright], c.Ok Tryd.prog wb (FG G c.id)) : k_calive.Ok Tryd.prog wb (fS k_calive.id) := by
  refine of_vcb (G := G) (c := k_calive) (cal := (calS [] [k_base, k_cright] 76 77 87)) (li := li_none) (rounds := 600) (d := 6) (lsh := lsh_none) (fun r ex => calS_ok mul76 add77 sub87 nil0 h) hg (enters (by kernel_rfl)) pl_calive rfl rfl (lens := []) ?_
  rw [u_calive]
  exact p_calive G
end
theorem all_ok {wb : World} (hg : GOk gl ⟨wb, wb, fun _ => False⟩) : ∃ G, AllOk wb [k_calive, k_rl, k_base, k_ctimes, k_cadd, k_cright, k_read, k_cbytes, k_many, k_doubled, k_cplus, k_corner, k_czero, k_cbase, k_flat, k_twice, k_right, k_reduce, k_rooted, k_odd, k_same, k_inverted, k_raised, k_negated, k_squared, k_times, k_minus, k_plus, k_bytes, k_from, k_carried, k_rbytes] G := by
  obtain ⟨G0, h0⟩ : ∃ G, AllOk wb [] G := ⟨fun _ _ => [], nil0⟩
  obtain ⟨G1, h1⟩ := AllOk.step (c := k_rbytes) h0 (by decide) (ok_rbytes hg (G := G0))
  obtain ⟨G2, h2⟩ := AllOk.step (c := k_carried) h1 (by decide) (ok_carried hg (G := G1))
  obtain ⟨G3, h3⟩ := AllOk.step (c := k_from) h2 (by decide) (ok_from hg (G := G2) (List.forall_mem_cons.2 ⟨h2 _ (mem_at (i := 0) rfl), nil0⟩))
  obtain ⟨G4, h4⟩ := AllOk.step (c := k_bytes) h3 (by decide) (ok_bytes hg (G := G3) (List.forall_mem_cons.2 ⟨h3 _ (mem_at (i := 1) rfl), nil0⟩))
  obtain ⟨G5, h5⟩ := AllOk.step (c := k_plus) h4 (by decide) (ok_plus hg (G := G4) (List.forall_mem_cons.2 ⟨h4 _ (mem_at (i := 2) rfl), nil0⟩))
  obtain ⟨G6, h6⟩ := AllOk.step (c := k_minus) h5 (by decide) (ok_minus hg (G := G5) (List.forall_mem_cons.2 ⟨h5 _ (mem_at (i := 3) rfl), nil0⟩))
  obtain ⟨G7, h7⟩ := AllOk.step (c := k_times) h6 (by decide) (ok_times hg (G := G6) (List.forall_mem_cons.2 ⟨h6 _ (mem_at (i := 4) rfl), nil0⟩))
  obtain ⟨G8, h8⟩ := AllOk.step (c := k_squared) h7 (by decide) (ok_squared hg (G := G7) (List.forall_mem_cons.2 ⟨h7 _ (mem_at (i := 0) rfl), nil0⟩))
  obtain ⟨G9, h9⟩ := AllOk.step (c := k_negated) h8 (by decide) (ok_negated hg (G := G8) (List.forall_mem_cons.2 ⟨h8 _ (mem_at (i := 2) rfl), nil0⟩))
  obtain ⟨G10, h10⟩ := AllOk.step (c := k_raised) h9 (by decide) (ok_raised hg (G := G9) (List.forall_mem_cons.2 ⟨h9 _ (mem_at (i := 1) rfl), (List.forall_mem_cons.2 ⟨h9 _ (mem_at (i := 2) rfl), nil0⟩)⟩))
  obtain ⟨G11, h11⟩ := AllOk.step (c := k_inverted) h10 (by decide) (ok_inverted hg (G := G10) (List.forall_mem_cons.2 ⟨h10 _ (mem_at (i := 0) rfl), nil0⟩))
  obtain ⟨G12, h12⟩ := AllOk.step (c := k_same) h11 (by decide) (ok_same hg (G := G11) (List.forall_mem_cons.2 ⟨h11 _ (mem_at (i := 7) rfl), nil0⟩))
  obtain ⟨G13, h13⟩ := AllOk.step (c := k_odd) h12 (by decide) (ok_odd hg (G := G12) (List.forall_mem_cons.2 ⟨h12 _ (mem_at (i := 8) rfl), nil0⟩))
  obtain ⟨G14, h14⟩ := AllOk.step (c := k_rooted) h13 (by decide) (ok_rooted hg (G := G13) (List.forall_mem_cons.2 ⟨h13 _ (mem_at (i := 3) rfl), (List.forall_mem_cons.2 ⟨h13 _ (mem_at (i := 5) rfl), (List.forall_mem_cons.2 ⟨h13 _ (mem_at (i := 1) rfl), (List.forall_mem_cons.2 ⟨h13 _ (mem_at (i := 0) rfl), (List.forall_mem_cons.2 ⟨h13 _ (mem_at (i := 4) rfl), (List.forall_mem_cons.2 ⟨h13 _ (mem_at (i := 6) rfl), nil0⟩)⟩)⟩)⟩)⟩)⟩))
  obtain ⟨G15, h15⟩ := AllOk.step (c := k_reduce) h14 (by decide) (ok_reduce hg (G := G14) (List.forall_mem_cons.2 ⟨h14 _ (mem_at (i := 11) rfl), (List.forall_mem_cons.2 ⟨h14 _ (mem_at (i := 10) rfl), nil0⟩)⟩))
  obtain ⟨G16, h16⟩ := AllOk.step (c := k_right) h15 (by decide) (ok_right hg (G := G15) (List.forall_mem_cons.2 ⟨h15 _ (mem_at (i := 0) rfl), nil0⟩))
  obtain ⟨G17, h17⟩ := AllOk.step (c := k_twice) h16 (by decide) (ok_twice hg (G := G16) (List.forall_mem_cons.2 ⟨h16 _ (mem_at (i := 11) rfl), nil0⟩))
  obtain ⟨G18, h18⟩ := AllOk.step (c := k_flat) h17 (by decide) (ok_flat hg (G := G17) (List.forall_mem_cons.2 ⟨h17 _ (mem_at (i := 10) rfl), nil0⟩))
  obtain ⟨G19, h19⟩ := AllOk.step (c := k_cbase) h18 (by decide) (ok_cbase hg (G := G18) (List.forall_mem_cons.2 ⟨h18 _ (mem_at (i := 0) rfl), nil0⟩))
  obtain ⟨G20, h20⟩ := AllOk.step (c := k_czero) h19 (by decide) (ok_czero hg (G := G19) (List.forall_mem_cons.2 ⟨h19 _ (mem_at (i := 1) rfl), nil0⟩))
  obtain ⟨G21, h21⟩ := AllOk.step (c := k_corner) h20 (by decide) (ok_corner hg (G := G20) (List.forall_mem_cons.2 ⟨h20 _ (mem_at (i := 13) rfl), nil0⟩))
  obtain ⟨G22, h22⟩ := AllOk.step (c := k_cplus) h21 (by decide) (ok_cplus hg (G := G21) (List.forall_mem_cons.2 ⟨h21 _ (mem_at (i := 15) rfl), (List.forall_mem_cons.2 ⟨h21 _ (mem_at (i := 14) rfl), (List.forall_mem_cons.2 ⟨h21 _ (mem_at (i := 16) rfl), (List.forall_mem_cons.2 ⟨h21 _ (mem_at (i := 4) rfl), (List.forall_mem_cons.2 ⟨h21 _ (mem_at (i := 0) rfl), nil0⟩)⟩)⟩)⟩)⟩))
  obtain ⟨G23, h23⟩ := AllOk.step (c := k_doubled) h22 (by decide) (ok_doubled hg (G := G22) (List.forall_mem_cons.2 ⟨h22 _ (mem_at (i := 14) rfl), (List.forall_mem_cons.2 ⟨h22 _ (mem_at (i := 17) rfl), (List.forall_mem_cons.2 ⟨h22 _ (mem_at (i := 16) rfl), (List.forall_mem_cons.2 ⟨h22 _ (mem_at (i := 1) rfl), nil0⟩)⟩)⟩)⟩))
  obtain ⟨G24, h24⟩ := AllOk.step (c := k_many) h23 (by decide) (ok_many hg (G := G23) (List.forall_mem_cons.2 ⟨h23 _ (mem_at (i := 3) rfl), (List.forall_mem_cons.2 ⟨h23 _ (mem_at (i := 0) rfl), (List.forall_mem_cons.2 ⟨h23 _ (mem_at (i := 1) rfl), nil0⟩)⟩)⟩))
  obtain ⟨G25, h25⟩ := AllOk.step (c := k_cbytes) h24 (by decide) (ok_cbytes hg (G := G24) (List.forall_mem_cons.2 ⟨h24 _ (mem_at (i := 13) rfl), (List.forall_mem_cons.2 ⟨h24 _ (mem_at (i := 17) rfl), (List.forall_mem_cons.2 ⟨h24 _ (mem_at (i := 20) rfl), (List.forall_mem_cons.2 ⟨h24 _ (mem_at (i := 11) rfl), nil0⟩)⟩)⟩)⟩))
  obtain ⟨G26, h26⟩ := AllOk.step (c := k_read) h25 (by decide) (ok_read hg (G := G25) (List.forall_mem_cons.2 ⟨h25 _ (mem_at (i := 9) rfl), (List.forall_mem_cons.2 ⟨h25 _ (mem_at (i := 22) rfl), (List.forall_mem_cons.2 ⟨h25 _ (mem_at (i := 17) rfl), (List.forall_mem_cons.2 ⟨h25 _ (mem_at (i := 19) rfl), (List.forall_mem_cons.2 ⟨h25 _ (mem_at (i := 18) rfl), (List.forall_mem_cons.2 ⟨h25 _ (mem_at (i := 20) rfl), (List.forall_mem_cons.2 ⟨h25 _ (mem_at (i := 14) rfl), (List.forall_mem_cons.2 ⟨h25 _ (mem_at (i := 11) rfl), (List.forall_mem_cons.2 ⟨h25 _ (mem_at (i := 13) rfl), (List.forall_mem_cons.2 ⟨h25 _ (mem_at (i := 16) rfl), (List.forall_mem_cons.2 ⟨h25 _ (mem_at (i := 7) rfl), nil0⟩)⟩)⟩)⟩)⟩)⟩)⟩)⟩)⟩)⟩)⟩))
  obtain ⟨G27, h27⟩ := AllOk.step (c := k_cright) h26 (by decide) (ok_cright hg (G := G26) (List.forall_mem_cons.2 ⟨h26 _ (mem_at (i := 0) rfl), nil0⟩))
  obtain ⟨G28, h28⟩ := AllOk.step (c := k_cadd) h27 (by decide) (ok_cadd hg (G := G27) (List.forall_mem_cons.2 ⟨h27 _ (mem_at (i := 1) rfl), (List.forall_mem_cons.2 ⟨h27 _ (mem_at (i := 5) rfl), (List.forall_mem_cons.2 ⟨h27 _ (mem_at (i := 2) rfl), nil0⟩)⟩)⟩))
  obtain ⟨G29, h29⟩ := AllOk.step (c := k_ctimes) h28 (by decide) (ok_ctimes hg (G := G28) (List.forall_mem_cons.2 ⟨h28 _ (mem_at (i := 2) rfl), (List.forall_mem_cons.2 ⟨h28 _ (mem_at (i := 4) rfl), (List.forall_mem_cons.2 ⟨h28 _ (mem_at (i := 3) rfl), nil0⟩)⟩)⟩))
  obtain ⟨G30, h30⟩ := AllOk.step (c := k_base) h29 (by decide) (ok_base hg (G := G29) (List.forall_mem_cons.2 ⟨h29 _ (mem_at (i := 10) rfl), (List.forall_mem_cons.2 ⟨h29 _ (mem_at (i := 5) rfl), (List.forall_mem_cons.2 ⟨h29 _ (mem_at (i := 4) rfl), nil0⟩)⟩)⟩))
  obtain ⟨G31, h31⟩ := AllOk.step (c := k_rl) h30 (by decide) (ok_rl hg (G := G30))
  obtain ⟨G32, h32⟩ := AllOk.step (c := k_calive) h31 (by decide) (ok_calive hg (G := G31) (List.forall_mem_cons.2 ⟨h31 _ (mem_at (i := 1) rfl), (List.forall_mem_cons.2 ⟨h31 _ (mem_at (i := 4) rfl), nil0⟩)⟩))
  exact ⟨G32, h32⟩
end Go.Fd

