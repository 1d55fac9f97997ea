/- The field seat: every function's contract. -/
import Derived.Test.YtjngbbnmcadolaaDoorFdEqA
import Derived.Test.YtjngbbnmcadolaaDoorFdEqB
import Derived.Test.YtjngbbnmcadolaaDoorFdEqC
import Derived.Test.YtjngbbnmcadolaaDoorFdEqD
import Derived.Test.YtjngbbnmcadolaaDoorFdEqE
import Derived.Test.YtjngbbnmcadolaaDoorRx16
set_option linter.unusedVariables false
set_option maxRecDepth 100000
namespace Go.Fd
open Go Go.Rx Go.Proofs
theorem mx : Tryd.prog.follows .mixedOrders = true := by kernel_rfl
theorem add53 : Add64Ok Tryd.prog 53 := add64Ok_of Tryd.func53 (by kernel_rfl) (by kernel_rfl) (by kernel_rfl) (by kernel_rfl)
theorem sub57 : Sub64Ok Tryd.prog 57 := sub64Ok_of Tryd.func57 (by kernel_rfl) (by kernel_rfl) (by kernel_rfl) (by kernel_rfl)
theorem mul52 : Mul64Ok Tryd.prog 52 := mul64Ok_of mx (enters (by kernel_rfl)) (fun K => by kernel_rfl)
theorem splitL_flatten {α : Type} : ∀ (ks : List Nat) (l : List α), (splitL ks l).flatten = l
  | [], [] => rfl
  | [], _ :: _ => by simp [splitL]
  | k :: ks, l => by simp only [splitL, List.flatten_cons, splitL_flatten ks, List.take_append_drop]
/-- What a function says, its numbers in one list. -/
def fS (id : Nat) : List Int → List Int → Prop := fun zs rs => SB id (splitL (sh id).1 zs) (splitL (sh id).2 rs)
abbrev FG (G : Nat → List Int → List Int) : Nat → List Int → List Int → Prop := flatS sh (SG G)
theorem FG_fun (G : Nat → List Int → List Int) : ∀ id a rs rs', FG G id a rs → FG G id a rs' → rs = rs' := fun id a rs rs' h h' => by
  have e := h.2
  have e' := h'.2
  rw [splitL_flatten, splitL_flatten] at e e'
  exact e.trans e'.symm
theorem vcb_flat {lsh : Nat → List Nat} {G : Nat → List Int → List Int} {id : Nat} {lens : List Nat} {bds : List (Int × Int)} {ds : List D} {t : T} (hl : lens = (sh id).1) (hd : numsD ds = (sh id).2) (h : VcB sh lsh (SG G) (KB ds id) lens bds ds t) :
    ∀ zs, inB bds zs → t.holds (FG G) (LeafK ds fun rs => inB (bdsL ds) rs ∧ fS id zs rs) (fun _ _ => False) (updL (fun _ => 0) 0 zs) := fun zs hz => by
  have h := allB_elim (VcB_sound h) hz
  simp only [KB, splitL_flatten] at h
  rw [hl, hd] at h
  exact h
theorem Ok_mono {P : Program} {wb : World} {c : Con} {s s' : List Int → List Int → Prop} (h : c.Ok P wb s) (hs : ∀ zs rs, s zs rs → s' zs rs) : c.Ok P wb s' :=
  ⟨h.1, fun zs hz => by obtain ⟨rs, h1, h2, h3⟩ := h.2 zs hz; exact ⟨rs, h1, hs zs rs h2, h3⟩⟩
def AllOk (wb : World) (L : List Con) (G : Nat → List Int → List Int) : Prop := ∀ c ∈ L, c.Ok Tryd.prog wb (FG G c.id)
theorem AllOk.step {wb : World} {L : List Con} {G : Nat → List Int → List Int} {c : Con} (h : AllOk wb L G) (hne : (L.all fun c' => !(Nat.beq c'.id c.id)) = true) (h0 : c.Ok Tryd.prog wb (fS c.id)) : ∃ G', AllOk wb (c :: L) G' := by
  obtain ⟨F, hF⟩ := h0.fn
  refine ⟨fun id => if id = c.id then F else G id, fun c' hc' => ?_⟩
  rcases List.mem_cons.1 hc' with rfl | hm
  · refine Ok_mono hF fun zs rs ⟨h1, h2⟩ => ⟨h2, ?_⟩
    simp only [splitL_flatten, if_true]
    exact h1
  · refine Ok_mono (h c' hm) fun zs rs ⟨h1, h2⟩ => ⟨h1, ?_⟩
    have hb := List.all_eq_true.1 hne c' hm
    have hn : ¬ c'.id = c.id := fun e => by rw [e] at hb; simp at hb
    simp only [if_neg hn]
    exact h2
theorem mem_at {α : Type} {l : List α} {i : Nat} {a : α} (h : l[i]? = some a) : a ∈ l := List.mem_of_getElem? h
theorem nil0 {α : Type} {p : α → Prop} : ∀ x ∈ ([] : List α), p x := fun _ h => by cases h
theorem split2 {zs : List Int} {a b : Nat} (h : zs.length = a + b) : splitL [a, b] zs = [zs.take a, zs.drop a] := by
  have e1 : (zs.drop a).take b = zs.drop a := List.take_of_length_le (by rw [List.length_drop]; omega)
  have e2 : (zs.drop a).drop b = [] := List.drop_of_length_le (by rw [List.length_drop]; omega)
  show zs.take a :: (zs.drop a).take b :: splitL [] ((zs.drop a).drop b) = _
  rw [e1, e2]
  rfl
theorem split1 {zs : List Int} {a : Nat} (h : zs.length = a) : splitL [a] zs = [zs] := by
  have e1 : zs.take a = zs := List.take_of_length_le (by omega)
  have e2 : zs.drop a = [] := List.drop_of_length_le (by omega)
  show zs.take a :: splitL [] (zs.drop a) = _
  rw [e1, e2]
  rfl
theorem of_vcb {wb : World} {G : Nat → List Int → List Int} {c : Con} {cal : Cal} {li : FuncId → Nat → Option LoopI} {rounds d : Nat} {lsh : Nat → List Nat} {lens : List Nat} (hcal : ∀ r ex, CalOk (FG G) Tryd.prog gl ⟨wb, r, ex⟩ cal) (hg : GOk gl ⟨wb, wb, fun _ => False⟩)
    (hf : ∀ args w, (callFunc c.f args).run Tryd.prog w = .ok (.enter c.f args) w) (hp : (c.tree Tryd.prog gl cal li rounds d).plain = true) (hl : lens = (sh c.id).1) (hd : numsD c.res = (sh c.id).2)
    (hv : VcB sh lsh (SG G) (KB c.res c.id) lens (bdsL c.args) c.res (c.tree Tryd.prog gl cal li rounds d)) : c.Ok Tryd.prog wb (fS c.id) :=
  Con.of_plain (S := FG G) (spec := fS c.id) mx hcal hg hf (FG_fun G) hp (vcb_flat hl hd hv)
section
variable {wb : World} (hg : GOk gl ⟨wb, wb, fun _ => False⟩) {G : Nat → List Int → List Int}
include hg G
theorem ok_load : k_load.Ok Tryd.prog wb (fS k_load.id) := by
  refine of_vcb (G := G) (c := k_load) (cal := (calS [] [] 52 53 57)) (li := li_none) (rounds := 600) (d := 6) (lsh := lsh_none) (fun r ex => calS_ok mul52 add53 sub57 nil0 nil0) hg (enters (by kernel_rfl)) pl_load rfl rfl (lens := [32]) ?_
  rw [u_load]
  exact p_load G
theorem ok_rbytes : k_rbytes.Ok Tryd.prog wb (fS k_rbytes.id) := by
  refine of_vcb (G := G) (c := k_rbytes) (cal := (calS [] [] 52 53 57)) (li := li_none) (rounds := 600) (d := 6) (lsh := lsh_none) (fun r ex => calS_ok mul52 add53 sub57 nil0 nil0) hg (enters (by kernel_rfl)) pl_rbytes rfl rfl (lens := [4]) ?_
  rw [u_rbytes]
  exact p_rbytes G
theorem ok_rp : k_rp.Ok Tryd.prog wb (fS k_rp.id) := by
  refine of_vcb (G := G) (c := k_rp) (cal := (calS [] [] 52 53 57)) (li := li_none) (rounds := 600) (d := 6) (lsh := lsh_none) (fun r ex => calS_ok mul52 add53 sub57 nil0 nil0) hg (enters (by kernel_rfl)) pl_rp rfl rfl (lens := []) ?_
  rw [u_rp]
  exact p_rp G
theorem ok_rless : k_rless.Ok Tryd.prog wb (fS k_rless.id) := by
  refine of_vcb (G := G) (c := k_rless) (cal := (calS [] [] 52 53 57)) (li := li_none) (rounds := 600) (d := 6) (lsh := lsh_none) (fun r ex => calS_ok mul52 add53 sub57 nil0 nil0) hg (enters (by kernel_rfl)) pl_rless rfl rfl (lens := [4, 4]) ?_
  rw [u_rless]
  exact p_rless G
theorem ok_rminus : k_rminus.Ok Tryd.prog wb (fS k_rminus.id) := by
  refine of_vcb (G := G) (c := k_rminus) (cal := (calS [] [] 52 53 57)) (li := li_none) (rounds := 600) (d := 6) (lsh := lsh_none) (fun r ex => calS_ok mul52 add53 sub57 nil0 nil0) hg (enters (by kernel_rfl)) pl_rminus rfl rfl (lens := [4, 4]) ?_
  rw [u_rminus]
  exact p_rminus G
theorem ok_rplus : k_rplus.Ok Tryd.prog wb (fS k_rplus.id) := by
  refine of_vcb (G := G) (c := k_rplus) (cal := (calS [] [] 52 53 57)) (li := li_none) (rounds := 600) (d := 6) (lsh := lsh_none) (fun r ex => calS_ok mul52 add53 sub57 nil0 nil0) hg (enters (by kernel_rfl)) pl_rplus rfl rfl (lens := [4, 4]) ?_
  rw [u_rplus]
  exact p_rplus G
theorem ok_rcut (h : ∀ c ∈ [k_rless, k_rp, k_rminus], c.Ok Tryd.prog wb (FG G c.id)) : k_rcut.Ok Tryd.prog wb (fS k_rcut.id) := by
  refine of_vcb (G := G) (c := k_rcut) (cal := (calS [] [k_rless, k_rp, k_rminus] 52 53 57)) (li := li_none) (rounds := 600) (d := 6) (lsh := lsh_none) (fun r ex => calS_ok mul52 add53 sub57 nil0 h) hg (enters (by kernel_rfl)) pl_rcut rfl rfl (lens := [4]) ?_
  rw [u_rcut]
  exact p_rcut G
theorem ok_rsum (h : ∀ c ∈ [k_rplus, k_rcut], c.Ok Tryd.prog wb (FG G c.id)) : k_rsum.Ok Tryd.prog wb (fS k_rsum.id) := by
  refine of_vcb (G := G) (c := k_rsum) (cal := (calS [] [k_rplus, k_rcut] 52 53 57)) (li := li_none) (rounds := 600) (d := 6) (lsh := lsh_none) (fun r ex => calS_ok mul52 add53 sub57 nil0 h) hg (enters (by kernel_rfl)) pl_rsum rfl rfl (lens := [4, 4]) ?_
  rw [u_rsum]
  exact p_rsum G
theorem ok_rdiff (h : ∀ c ∈ [k_rless, k_rplus, k_rp, k_rminus], c.Ok Tryd.prog wb (FG G c.id)) : k_rdiff.Ok Tryd.prog wb (fS k_rdiff.id) := by
  refine of_vcb (G := G) (c := k_rdiff) (cal := (calS [] [k_rless, k_rplus, k_rp, k_rminus] 52 53 57)) (li := li_none) (rounds := 600) (d := 6) (lsh := lsh_none) (fun r ex => calS_ok mul52 add53 sub57 nil0 h) hg (enters (by kernel_rfl)) pl_rdiff rfl rfl (lens := [4, 4]) ?_
  rw [u_rdiff]
  exact p_rdiff G
theorem ok_rfold (h : ∀ c ∈ [k_rplus, k_rcut], c.Ok Tryd.prog wb (FG G c.id)) : k_rfold.Ok Tryd.prog wb (fS k_rfold.id) := by
  refine of_vcb (G := G) (c := k_rfold) (cal := (calS [] [k_rplus, k_rcut] 52 53 57)) (li := li_none) (rounds := 600) (d := 6) (lsh := lsh_none) (fun r ex => calS_ok mul52 add53 sub57 nil0 h) hg (enters (by kernel_rfl)) pl_rfold rfl rfl (lens := [4, 4]) ?_
  rw [u_rfold]
  exact p_rfold G
theorem ok_rprod (h : ∀ c ∈ [k_rfold], c.Ok Tryd.prog wb (FG G c.id)) : k_rprod.Ok Tryd.prog wb (fS k_rprod.id) := by
  refine of_vcb (G := G) (c := k_rprod) (cal := (calS [] [k_rfold] 52 53 57)) (li := li_none) (rounds := 600) (d := 6) (lsh := lsh_none) (fun r ex => calS_ok mul52 add53 sub57 nil0 h) hg (enters (by kernel_rfl)) pl_rprod rfl rfl (lens := [4, 4]) ?_
  rw [u_rprod]
  exact p_rprod G
theorem ok_rtake (h : ∀ c ∈ [k_rprod], c.Ok Tryd.prog wb (FG G c.id)) : k_rtake.Ok Tryd.prog wb (fS 44) :=
  Con.of_vc (S := FG G) (spec := fS 44) (c := k_rtake) (cal := (calS [] [k_rprod] 52 53 57)) (li := li_rtake) (rounds := 600) (d := 6) mx (fun r ex => calS_ok mul52 add53 sub57 nil0 h) hg (enters (by kernel_rfl)) (fun zs rs rs' hz h1 h2 e e' => by
    have lz : zs.length = 4 + 4 := inB_len hz
    have l1 : rs.length = 4 := inB_len h1
    have l2 : rs'.length = 4 := inB_len h2
    unfold fS at e e'
    have hs : sh 44 = ([4, 4], [4]) := rfl
    rw [hs] at e e'
    simp only [split2 lz, split1 l1] at e
    simp only [split2 lz, split1 l2] at e'
    have e : nw rs = pw (nw (zs.take 4)) (nw (zs.drop 4)).toNat := e
    have e' : nw rs' = pw (nw (zs.take 4)) (nw (zs.drop 4)).toNat := e'
    exact nw_inj h1 h2 (e.trans e'.symm))
    (allB_intro (vcb_flat (G := G) (id := 44) (lens := [4, 4]) (bds := (bdsL k_rtake.args)) (ds := k_rtake.res) rfl rfl (by rw [u_rtake]; exact p_rtake G)))
theorem ok_rinvert (h : ∀ c ∈ [k_rminus, k_rp, k_rtake], c.Ok Tryd.prog wb (FG G c.id)) : k_rinvert.Ok Tryd.prog wb (fS k_rinvert.id) := by
  refine of_vcb (G := G) (c := k_rinvert) (cal := (calS [] [k_rminus, k_rp, k_rtake] 52 53 57)) (li := li_none) (rounds := 600) (d := 6) (lsh := lsh_none) (fun r ex => calS_ok mul52 add53 sub57 nil0 h) hg (enters (by kernel_rfl)) pl_rinvert rfl rfl (lens := [4]) ?_
  rw [u_rinvert]
  exact p_rinvert G
theorem ok_rright (h : ∀ c ∈ [k_rless, k_load, k_rp], c.Ok Tryd.prog wb (FG G c.id)) : k_rright.Ok Tryd.prog wb (fS k_rright.id) := by
  refine of_vcb (G := G) (c := k_rright) (cal := (calS [] [k_rless, k_load, k_rp] 52 53 57)) (li := li_none) (rounds := 600) (d := 6) (lsh := lsh_none) (fun r ex => calS_ok mul52 add53 sub57 nil0 h) hg (enters (by kernel_rfl)) pl_rright rfl rfl (lens := [32]) ?_
  rw [u_rright]
  exact p_rright G
theorem ok_rreduce (h : ∀ c ∈ [k_rbytes, k_rcut, k_load], c.Ok Tryd.prog wb (FG G c.id)) : k_rreduce.Ok Tryd.prog wb (fS k_rreduce.id) := by
  refine of_vcb (G := G) (c := k_rreduce) (cal := (calS [] [k_rbytes, k_rcut, k_load] 52 53 57)) (li := li_none) (rounds := 600) (d := 6) (lsh := lsh_none) (fun r ex => calS_ok mul52 add53 sub57 nil0 h) hg (enters (by kernel_rfl)) pl_rreduce rfl rfl (lens := [32]) ?_
  rw [u_rreduce]
  exact p_rreduce G
theorem ok_radd (h : ∀ c ∈ [k_rbytes, k_rsum, k_rcut, k_load], c.Ok Tryd.prog wb (FG G c.id)) : k_radd.Ok Tryd.prog wb (fS k_radd.id) := by
  refine of_vcb (G := G) (c := k_radd) (cal := (calS [] [k_rbytes, k_rsum, k_rcut, k_load] 52 53 57)) (li := li_none) (rounds := 600) (d := 6) (lsh := lsh_none) (fun r ex => calS_ok mul52 add53 sub57 nil0 h) hg (enters (by kernel_rfl)) pl_radd rfl rfl (lens := [32, 32]) ?_
  rw [u_radd]
  exact p_radd G
theorem ok_rsub (h : ∀ c ∈ [k_rbytes, k_rdiff, k_rcut, k_load], c.Ok Tryd.prog wb (FG G c.id)) : k_rsub.Ok Tryd.prog wb (fS k_rsub.id) := by
  refine of_vcb (G := G) (c := k_rsub) (cal := (calS [] [k_rbytes, k_rdiff, k_rcut, k_load] 52 53 57)) (li := li_none) (rounds := 600) (d := 6) (lsh := lsh_none) (fun r ex => calS_ok mul52 add53 sub57 nil0 h) hg (enters (by kernel_rfl)) pl_rsub rfl rfl (lens := [32, 32]) ?_
  rw [u_rsub]
  exact p_rsub G
theorem ok_rmul (h : ∀ c ∈ [k_rbytes, k_rprod, k_load], c.Ok Tryd.prog wb (FG G c.id)) : k_rmul.Ok Tryd.prog wb (fS k_rmul.id) := by
  refine of_vcb (G := G) (c := k_rmul) (cal := (calS [] [k_rbytes, k_rprod, k_load] 52 53 57)) (li := li_none) (rounds := 600) (d := 6) (lsh := lsh_none) (fun r ex => calS_ok mul52 add53 sub57 nil0 h) hg (enters (by kernel_rfl)) pl_rmul rfl rfl (lens := [32, 32]) ?_
  rw [u_rmul]
  exact p_rmul G
theorem ok_rinv (h : ∀ c ∈ [k_rbytes, k_rinvert, k_rcut, k_load], c.Ok Tryd.prog wb (FG G c.id)) : k_rinv.Ok Tryd.prog wb (fS k_rinv.id) := by
  refine of_vcb (G := G) (c := k_rinv) (cal := (calS [] [k_rbytes, k_rinvert, k_rcut, k_load] 52 53 57)) (li := li_none) (rounds := 600) (d := 6) (lsh := lsh_none) (fun r ex => calS_ok mul52 add53 sub57 nil0 h) hg (enters (by kernel_rfl)) pl_rinv rfl rfl (lens := [32]) ?_
  rw [u_rinv]
  exact p_rinv G
theorem ok_rpower (h : ∀ c ∈ [k_rbytes, k_rtake, k_rcut, k_load], c.Ok Tryd.prog wb (FG G c.id)) : k_rpower.Ok Tryd.prog wb (fS k_rpower.id) := by
  refine of_vcb (G := G) (c := k_rpower) (cal := (calS [] [k_rbytes, k_rtake, k_rcut, k_load] 52 53 57)) (li := li_none) (rounds := 600) (d := 6) (lsh := lsh_none) (fun r ex => calS_ok mul52 add53 sub57 nil0 h) hg (enters (by kernel_rfl)) pl_rpower rfl rfl (lens := [32, 32]) ?_
  rw [u_rpower]
  exact p_rpower G
theorem ok_rsquare (h : ∀ c ∈ [k_rtake, k_rprod, k_rdiff], c.Ok Tryd.prog wb (FG G c.id)) : k_rsquare.Ok Tryd.prog wb (fS k_rsquare.id) := by
  refine of_vcb (G := G) (c := k_rsquare) (cal := (calS [] [k_rtake, k_rprod, k_rdiff] 52 53 57)) (li := li_none) (rounds := 600) (d := 6) (lsh := lsh_none) (fun r ex => calS_ok mul52 add53 sub57 nil0 h) hg (enters (by kernel_rfl)) pl_rsquare rfl rfl (lens := [4]) ?_
  rw [u_rsquare]
  exact p_rsquare G
theorem ok_rroot (h : ∀ c ∈ [k_rsquare, k_rcut, k_load, k_rbytes], c.Ok Tryd.prog wb (FG G c.id)) : k_rroot.Ok Tryd.prog wb (fS k_rroot.id) := by
  refine of_vcb (G := G) (c := k_rroot) (cal := (calS [] [k_rsquare, k_rcut, k_load, k_rbytes] 52 53 57)) (li := li_none) (rounds := 600) (d := 6) (lsh := lsh_none) (fun r ex => calS_ok mul52 add53 sub57 nil0 h) hg (enters (by kernel_rfl)) pl_rroot rfl rfl (lens := [32]) ?_
  rw [u_rroot]
  exact p_rroot G
theorem ok_carried : k_carried.Ok Tryd.prog wb (fS k_carried.id) := by
  refine of_vcb (G := G) (c := k_carried) (cal := (calS [] [] 52 53 57)) (li := li_none) (rounds := 600) (d := 6) (lsh := lsh_none) (fun r ex => calS_ok mul52 add53 sub57 nil0 nil0) hg (enters (by kernel_rfl)) pl_carried rfl rfl (lens := [5]) ?_
  rw [u_carried]
  exact p_carried G
theorem ok_from (h : ∀ c ∈ [k_carried], c.Ok Tryd.prog wb (FG G c.id)) : k_from.Ok Tryd.prog wb (fS k_from.id) := by
  refine of_vcb (G := G) (c := k_from) (cal := (calS [] [k_carried] 52 53 57)) (li := li_none) (rounds := 600) (d := 6) (lsh := lsh_none) (fun r ex => calS_ok mul52 add53 sub57 nil0 h) hg (enters (by kernel_rfl)) pl_from rfl rfl (lens := [32]) ?_
  rw [u_from]
  exact p_from G
theorem ok_bytes (h : ∀ c ∈ [k_carried], c.Ok Tryd.prog wb (FG G c.id)) : k_bytes.Ok Tryd.prog wb (fS k_bytes.id) := by
  refine of_vcb (G := G) (c := k_bytes) (cal := (calS [] [k_carried] 52 53 57)) (li := li_none) (rounds := 600) (d := 6) (lsh := lsh_none) (fun r ex => calS_ok mul52 add53 sub57 nil0 h) hg (enters (by kernel_rfl)) pl_bytes rfl rfl (lens := [5]) ?_
  rw [u_bytes]
  exact p_bytes G
theorem ok_plus (h : ∀ c ∈ [k_carried], c.Ok Tryd.prog wb (FG G c.id)) : k_plus.Ok Tryd.prog wb (fS k_plus.id) := by
  refine of_vcb (G := G) (c := k_plus) (cal := (calS [] [k_carried] 52 53 57)) (li := li_none) (rounds := 600) (d := 6) (lsh := lsh_none) (fun r ex => calS_ok mul52 add53 sub57 nil0 h) hg (enters (by kernel_rfl)) pl_plus rfl rfl (lens := [5, 5]) ?_
  rw [u_plus]
  exact p_plus G
theorem ok_minus (h : ∀ c ∈ [k_carried], c.Ok Tryd.prog wb (FG G c.id)) : k_minus.Ok Tryd.prog wb (fS k_minus.id) := by
  refine of_vcb (G := G) (c := k_minus) (cal := (calS [] [k_carried] 52 53 57)) (li := li_none) (rounds := 600) (d := 6) (lsh := lsh_none) (fun r ex => calS_ok mul52 add53 sub57 nil0 h) hg (enters (by kernel_rfl)) pl_minus rfl rfl (lens := [5, 5]) ?_
  rw [u_minus]
  exact p_minus G
theorem ok_times (h : ∀ c ∈ [k_carried], c.Ok Tryd.prog wb (FG G c.id)) : k_times.Ok Tryd.prog wb (fS k_times.id) := by
  refine of_vcb (G := G) (c := k_times) (cal := (calS [] [k_carried] 52 53 57)) (li := li_none) (rounds := 600) (d := 6) (lsh := lsh_none) (fun r ex => calS_ok mul52 add53 sub57 nil0 h) hg (enters (by kernel_rfl)) pl_times rfl rfl (lens := [5, 5]) ?_
  rw [u_times]
  exact p_times G
theorem ok_squared (h : ∀ c ∈ [k_times], c.Ok Tryd.prog wb (FG G c.id)) : k_squared.Ok Tryd.prog wb (fS k_squared.id) := by
  refine of_vcb (G := G) (c := k_squared) (cal := (calS [] [k_times] 52 53 57)) (li := li_none) (rounds := 600) (d := 6) (lsh := lsh_none) (fun r ex => calS_ok mul52 add53 sub57 nil0 h) hg (enters (by kernel_rfl)) pl_squared rfl rfl (lens := [5]) ?_
  rw [u_squared]
  exact p_squared G
theorem ok_negated (h : ∀ c ∈ [k_minus], c.Ok Tryd.prog wb (FG G c.id)) : k_negated.Ok Tryd.prog wb (fS k_negated.id) := by
  refine of_vcb (G := G) (c := k_negated) (cal := (calS [] [k_minus] 52 53 57)) (li := li_none) (rounds := 600) (d := 6) (lsh := lsh_none) (fun r ex => calS_ok mul52 add53 sub57 nil0 h) hg (enters (by kernel_rfl)) pl_negated rfl rfl (lens := [5]) ?_
  rw [u_negated]
  exact p_negated G
theorem ok_raised (h : ∀ c ∈ [k_squared, k_times], c.Ok Tryd.prog wb (FG G c.id)) : k_raised.Ok Tryd.prog wb (fS 43) :=
  Ok_mono (Con.of_vc (S := FG G) (spec := fun zs rs => fS 43 zs rs ∧ rs = raisedF G (zs.take 5) (nw (zs.drop 5)).toNat 256) (c := k_raised) (cal := (calS [] [k_squared, k_times] 52 53 57)) (li := li_raised) (rounds := 600) (d := 6) mx (fun r ex => calS_ok mul52 add53 sub57 nil0 h) hg (enters (by kernel_rfl)) (fun zs rs rs' hz h1 h2 e e' => e.2.trans e'.2.symm)
    (allB_intro fun zs hz => by
      have hv := allB_elim (VcB_sound (S := SG G) (K := KR G) (sh := sh) (lsh := lsh_raised) (lens := [5, 4]) (bds := bdsL k_raised.args) (ds := k_raised.res) (t := (k_raised.tree Tryd.prog gl (calS [] [k_squared, k_times] 52 53 57) li_raised 600 6)) (by rw [u_raised]; exact p_raised G)) hz
      have lz : zs.length = 5 + 4 := inB_len hz
      refine holds_mono (fun v ρ hl => ?_) _ _ _ hv
      unfold LeafK at hl ⊢
      split
      · rename_i os ho
        rw [ho] at hl
        simp only [KR, KB, splitL_flatten, split2 lz] at hl
        refine ⟨hl.1.1, ?_, hl.2⟩
        unfold fS
        rw [show (sh 43).1 = [5, 4] by rfl, split2 lz]
        exact hl.1.2
      · rename_i ho
        rw [ho] at hl
        exact hl)) fun zs rs h => h.1
theorem ok_inverted (h : ∀ c ∈ [k_raised], c.Ok Tryd.prog wb (FG G c.id)) : k_inverted.Ok Tryd.prog wb (fS k_inverted.id) := by
  refine of_vcb (G := G) (c := k_inverted) (cal := (calS [] [k_raised] 52 53 57)) (li := li_none) (rounds := 600) (d := 6) (lsh := lsh_none) (fun r ex => calS_ok mul52 add53 sub57 nil0 h) hg (enters (by kernel_rfl)) pl_inverted rfl rfl (lens := [5]) ?_
  rw [u_inverted]
  exact p_inverted G
theorem ok_same (h : ∀ c ∈ [k_bytes], c.Ok Tryd.prog wb (FG G c.id)) : k_same.Ok Tryd.prog wb (fS k_same.id) := by
  refine of_vcb (G := G) (c := k_same) (cal := (calS [] [k_bytes] 52 53 57)) (li := li_none) (rounds := 600) (d := 6) (lsh := lsh_none) (fun r ex => calS_ok mul52 add53 sub57 nil0 h) hg (enters (by kernel_rfl)) pl_same rfl rfl (lens := [5, 5]) ?_
  rw [u_same]
  exact p_same G
theorem ok_odd (h : ∀ c ∈ [k_bytes], c.Ok Tryd.prog wb (FG G c.id)) : k_odd.Ok Tryd.prog wb (fS k_odd.id) := by
  refine of_vcb (G := G) (c := k_odd) (cal := (calS [] [k_bytes] 52 53 57)) (li := li_none) (rounds := 600) (d := 6) (lsh := lsh_none) (fun r ex => calS_ok mul52 add53 sub57 nil0 h) hg (enters (by kernel_rfl)) pl_odd rfl rfl (lens := [5]) ?_
  rw [u_odd]
  exact p_odd G
theorem ok_rooted (h : ∀ c ∈ [k_raised, k_squared, k_same, k_odd, k_negated, k_times], c.Ok Tryd.prog wb (FG G c.id)) : k_rooted.Ok Tryd.prog wb (fS k_rooted.id) := by
  refine of_vcb (G := G) (c := k_rooted) (cal := (calS [] [k_raised, k_squared, k_same, k_odd, k_negated, k_times] 52 53 57)) (li := li_none) (rounds := 600) (d := 6) (lsh := lsh_none) (fun r ex => calS_ok mul52 add53 sub57 nil0 h) hg (enters (by kernel_rfl)) pl_rooted rfl rfl (lens := [5]) ?_
  rw [u_rooted]
  exact p_rooted G
theorem ok_reduce (h : ∀ c ∈ [k_from, k_bytes], c.Ok Tryd.prog wb (FG G c.id)) : k_reduce.Ok Tryd.prog wb (fS k_reduce.id) := by
  refine of_vcb (G := G) (c := k_reduce) (cal := (calS [] [k_from, k_bytes] 52 53 57)) (li := li_none) (rounds := 600) (d := 6) (lsh := lsh_none) (fun r ex => calS_ok mul52 add53 sub57 nil0 h) hg (enters (by kernel_rfl)) pl_reduce rfl rfl (lens := [32]) ?_
  rw [u_reduce]
  exact p_reduce G
theorem ok_right (h : ∀ c ∈ [k_reduce], c.Ok Tryd.prog wb (FG G c.id)) : k_right.Ok Tryd.prog wb (fS k_right.id) := by
  refine of_vcb (G := G) (c := k_right) (cal := (calS [] [k_reduce] 52 53 57)) (li := li_none) (rounds := 600) (d := 6) (lsh := lsh_none) (fun r ex => calS_ok mul52 add53 sub57 nil0 h) hg (enters (by kernel_rfl)) pl_right rfl rfl (lens := [32]) ?_
  rw [u_right]
  exact p_right G
theorem ok_add (h : ∀ c ∈ [k_from, k_plus, k_bytes], c.Ok Tryd.prog wb (FG G c.id)) : k_add.Ok Tryd.prog wb (fS k_add.id) := by
  refine of_vcb (G := G) (c := k_add) (cal := (calS [] [k_from, k_plus, k_bytes] 52 53 57)) (li := li_none) (rounds := 600) (d := 6) (lsh := lsh_none) (fun r ex => calS_ok mul52 add53 sub57 nil0 h) hg (enters (by kernel_rfl)) pl_add rfl rfl (lens := [32, 32]) ?_
  rw [u_add]
  exact p_add G
theorem ok_sub (h : ∀ c ∈ [k_from, k_minus, k_bytes], c.Ok Tryd.prog wb (FG G c.id)) : k_sub.Ok Tryd.prog wb (fS k_sub.id) := by
  refine of_vcb (G := G) (c := k_sub) (cal := (calS [] [k_from, k_minus, k_bytes] 52 53 57)) (li := li_none) (rounds := 600) (d := 6) (lsh := lsh_none) (fun r ex => calS_ok mul52 add53 sub57 nil0 h) hg (enters (by kernel_rfl)) pl_sub rfl rfl (lens := [32, 32]) ?_
  rw [u_sub]
  exact p_sub G
theorem ok_mul (h : ∀ c ∈ [k_from, k_times, k_bytes], c.Ok Tryd.prog wb (FG G c.id)) : k_mul.Ok Tryd.prog wb (fS k_mul.id) := by
  refine of_vcb (G := G) (c := k_mul) (cal := (calS [] [k_from, k_times, k_bytes] 52 53 57)) (li := li_none) (rounds := 600) (d := 6) (lsh := lsh_none) (fun r ex => calS_ok mul52 add53 sub57 nil0 h) hg (enters (by kernel_rfl)) pl_mul rfl rfl (lens := [32, 32]) ?_
  rw [u_mul]
  exact p_mul G
theorem ok_inv (h : ∀ c ∈ [k_from, k_inverted, k_bytes], c.Ok Tryd.prog wb (FG G c.id)) : k_inv.Ok Tryd.prog wb (fS k_inv.id) := by
  refine of_vcb (G := G) (c := k_inv) (cal := (calS [] [k_from, k_inverted, k_bytes] 52 53 57)) (li := li_none) (rounds := 600) (d := 6) (lsh := lsh_none) (fun r ex => calS_ok mul52 add53 sub57 nil0 h) hg (enters (by kernel_rfl)) pl_inv rfl rfl (lens := [32]) ?_
  rw [u_inv]
  exact p_inv G
theorem ok_root (h : ∀ c ∈ [k_from, k_rooted, k_bytes], c.Ok Tryd.prog wb (FG G c.id)) : k_root.Ok Tryd.prog wb (fS k_root.id) := by
  refine of_vcb (G := G) (c := k_root) (cal := (calS [] [k_from, k_rooted, k_bytes] 52 53 57)) (li := li_none) (rounds := 600) (d := 6) (lsh := lsh_none) (fun r ex => calS_ok mul52 add53 sub57 nil0 h) hg (enters (by kernel_rfl)) pl_root rfl rfl (lens := [32]) ?_
  rw [u_root]
  exact p_root G
theorem ok_power (h : ∀ c ∈ [k_from, k_raised, k_bytes], c.Ok Tryd.prog wb (FG G c.id)) : k_power.Ok Tryd.prog wb (fS k_power.id) := by
  refine of_vcb (G := G) (c := k_power) (cal := (calS [] [k_from, k_raised, k_bytes] 52 53 57)) (li := li_none) (rounds := 600) (d := 6) (lsh := lsh_none) (fun r ex => calS_ok mul52 add53 sub57 nil0 h) hg (enters (by kernel_rfl)) pl_power rfl rfl (lens := [32, 32]) ?_
  rw [u_power]
  exact p_power G
theorem ok_alive (h : ∀ c ∈ [k_rbytes, k_rp, k_root, k_reduce, k_add, k_mul, k_right], c.Ok Tryd.prog wb (FG G c.id)) : k_alive.Ok Tryd.prog wb (fS k_alive.id) := by
  refine of_vcb (G := G) (c := k_alive) (cal := (calS [] [k_rbytes, k_rp, k_root, k_reduce, k_add, k_mul, k_right] 52 53 57)) (li := li_none) (rounds := 600) (d := 6) (lsh := lsh_none) (fun r ex => calS_ok mul52 add53 sub57 nil0 h) hg (enters (by kernel_rfl)) pl_alive rfl rfl (lens := []) ?_
  rw [u_alive]
  exact p_alive G
theorem ok_lone (h : ∀ c ∈ [k_alive, k_root, k_sub, k_mul, k_reduce], c.Ok Tryd.prog wb (FG G c.id)) : k_lone.Ok Tryd.prog wb (fS k_lone.id) := by
  refine of_vcb (G := G) (c := k_lone) (cal := (calS [] [k_alive, k_root, k_sub, k_mul, k_reduce] 52 53 57)) (li := li_none) (rounds := 600) (d := 6) (lsh := lsh_none) (fun r ex => calS_ok mul52 add53 sub57 nil0 h) hg (enters (by kernel_rfl)) pl_lone rfl rfl (lens := [32]) ?_
  rw [u_lone]
  exact p_lone G
theorem ok_llaws (h : ∀ c ∈ [k_alive, k_add, k_mul, k_sub, k_reduce, k_inv], c.Ok Tryd.prog wb (FG G c.id)) : k_llaws.Ok Tryd.prog wb (fS k_llaws.id) := by
  refine of_vcb (G := G) (c := k_llaws) (cal := (calS [] [k_alive, k_add, k_mul, k_sub, k_reduce, k_inv] 52 53 57)) (li := li_none) (rounds := 600) (d := 6) (lsh := lsh_none) (fun r ex => calS_ok mul52 add53 sub57 nil0 h) hg (enters (by kernel_rfl)) pl_llaws rfl rfl (lens := [32, 32, 32]) ?_
  rw [u_llaws]
  exact p_llaws G
theorem ok_lproducts (h : ∀ c ∈ [k_alive, k_mul, k_rmul], c.Ok Tryd.prog wb (FG G c.id)) : k_lproducts.Ok Tryd.prog wb (fS k_lproducts.id) := by
  refine of_vcb (G := G) (c := k_lproducts) (cal := (calS [] [k_alive, k_mul, k_rmul] 52 53 57)) (li := li_none) (rounds := 600) (d := 6) (lsh := lsh_none) (fun r ex => calS_ok mul52 add53 sub57 nil0 h) hg (enters (by kernel_rfl)) pl_lproducts rfl rfl (lens := [32, 32]) ?_
  rw [u_lproducts]
  exact p_lproducts G
theorem ok_lroots (h : ∀ c ∈ [k_alive, k_root, k_rroot, k_mul, k_reduce], c.Ok Tryd.prog wb (FG G c.id)) : k_lroots.Ok Tryd.prog wb (fS k_lroots.id) := by
  refine of_vcb (G := G) (c := k_lroots) (cal := (calS [] [k_alive, k_root, k_rroot, k_mul, k_reduce] 52 53 57)) (li := li_none) (rounds := 600) (d := 6) (lsh := lsh_none) (fun r ex => calS_ok mul52 add53 sub57 nil0 h) hg (enters (by kernel_rfl)) pl_lroots rfl rfl (lens := [32]) ?_
  rw [u_lroots]
  exact p_lroots G
theorem ok_lsums (h : ∀ c ∈ [k_alive, k_add, k_radd, k_sub, k_rsub, k_reduce, k_rreduce, k_right, k_rright], c.Ok Tryd.prog wb (FG G c.id)) : k_lsums.Ok Tryd.prog wb (fS k_lsums.id) := by
  refine of_vcb (G := G) (c := k_lsums) (cal := (calS [] [k_alive, k_add, k_radd, k_sub, k_rsub, k_reduce, k_rreduce, k_right, k_rright] 52 53 57)) (li := li_none) (rounds := 600) (d := 6) (lsh := lsh_none) (fun r ex => calS_ok mul52 add53 sub57 nil0 h) hg (enters (by kernel_rfl)) pl_lsums rfl rfl (lens := [32, 32]) ?_
  rw [u_lsums]
  exact p_lsums G
theorem ok_lsteps (h : ∀ c ∈ [k_alive, k_power, k_mul, k_reduce], c.Ok Tryd.prog wb (FG G c.id)) : k_lsteps.Ok Tryd.prog wb (fS k_lsteps.id) := by
  refine of_vcb (G := G) (c := k_lsteps) (cal := (calS [] [k_alive, k_power, k_mul, k_reduce] 52 53 57)) (li := li_none) (rounds := 600) (d := 6) (lsh := lsh_none) (fun r ex => calS_ok mul52 add53 sub57 nil0 h) hg (enters (by kernel_rfl)) pl_lsteps rfl rfl (lens := [32, 1, 1]) ?_
  rw [u_lsteps]
  exact p_lsteps G
theorem ok_lpowers (h : ∀ c ∈ [k_alive, k_power, k_rpower, k_inv, k_rinv], c.Ok Tryd.prog wb (FG G c.id)) : k_lpowers.Ok Tryd.prog wb (fS k_lpowers.id) := by
  refine of_vcb (G := G) (c := k_lpowers) (cal := (calS [] [k_alive, k_power, k_rpower, k_inv, k_rinv] 52 53 57)) (li := li_none) (rounds := 600) (d := 6) (lsh := lsh_none) (fun r ex => calS_ok mul52 add53 sub57 nil0 h) hg (enters (by kernel_rfl)) pl_lpowers rfl rfl (lens := [32, 32]) ?_
  rw [u_lpowers]
  exact p_lpowers G
end
theorem all_ok {wb : World} (hg : GOk gl ⟨wb, wb, fun _ => False⟩) : ∃ G, AllOk wb [k_lpowers, k_lsteps, k_lsums, k_lroots, k_lproducts, k_llaws, k_lone, k_alive, k_power, k_root, k_inv, k_mul, k_sub, k_add, k_right, k_reduce, k_rooted, k_odd, k_same, k_inverted, k_raised, k_negated, k_squared, k_times, k_minus, k_plus, k_bytes, k_from, k_carried, k_rroot, k_rsquare, k_rpower, k_rinv, k_rmul, k_rsub, k_radd, k_rreduce, k_rright, k_rinvert, k_rtake, k_rprod, k_rfold, k_rdiff, k_rsum, k_rcut, k_rplus, k_rminus, k_rless, k_rp, k_rbytes, k_load] G := by
  obtain ⟨G0, h0⟩ : ∃ G, AllOk wb [] G := ⟨fun _ _ => [], nil0⟩
  obtain ⟨G1, h1⟩ := AllOk.step (c := k_load) h0 (by decide) (ok_load hg (G := G0))
  obtain ⟨G2, h2⟩ := AllOk.step (c := k_rbytes) h1 (by decide) (ok_rbytes hg (G := G1))
  obtain ⟨G3, h3⟩ := AllOk.step (c := k_rp) h2 (by decide) (ok_rp hg (G := G2))
  obtain ⟨G4, h4⟩ := AllOk.step (c := k_rless) h3 (by decide) (ok_rless hg (G := G3))
  obtain ⟨G5, h5⟩ := AllOk.step (c := k_rminus) h4 (by decide) (ok_rminus hg (G := G4))
  obtain ⟨G6, h6⟩ := AllOk.step (c := k_rplus) h5 (by decide) (ok_rplus hg (G := G5))
  obtain ⟨G7, h7⟩ := AllOk.step (c := k_rcut) h6 (by decide) (ok_rcut hg (G := G6) (List.forall_mem_cons.2 ⟨h6 _ (mem_at (i := 2) rfl), (List.forall_mem_cons.2 ⟨h6 _ (mem_at (i := 3) rfl), (List.forall_mem_cons.2 ⟨h6 _ (mem_at (i := 1) rfl), nil0⟩)⟩)⟩))
  obtain ⟨G8, h8⟩ := AllOk.step (c := k_rsum) h7 (by decide) (ok_rsum hg (G := G7) (List.forall_mem_cons.2 ⟨h7 _ (mem_at (i := 1) rfl), (List.forall_mem_cons.2 ⟨h7 _ (mem_at (i := 0) rfl), nil0⟩)⟩))
  obtain ⟨G9, h9⟩ := AllOk.step (c := k_rdiff) h8 (by decide) (ok_rdiff hg (G := G8) (List.forall_mem_cons.2 ⟨h8 _ (mem_at (i := 4) rfl), (List.forall_mem_cons.2 ⟨h8 _ (mem_at (i := 2) rfl), (List.forall_mem_cons.2 ⟨h8 _ (mem_at (i := 5) rfl), (List.forall_mem_cons.2 ⟨h8 _ (mem_at (i := 3) rfl), nil0⟩)⟩)⟩)⟩))
  obtain ⟨G10, h10⟩ := AllOk.step (c := k_rfold) h9 (by decide) (ok_rfold hg (G := G9) (List.forall_mem_cons.2 ⟨h9 _ (mem_at (i := 3) rfl), (List.forall_mem_cons.2 ⟨h9 _ (mem_at (i := 2) rfl), nil0⟩)⟩))
  obtain ⟨G11, h11⟩ := AllOk.step (c := k_rprod) h10 (by decide) (ok_rprod hg (G := G10) (List.forall_mem_cons.2 ⟨h10 _ (mem_at (i := 0) rfl), nil0⟩))
  obtain ⟨G12, h12⟩ := AllOk.step (c := k_rtake) h11 (by decide) (ok_rtake hg (G := G11) (List.forall_mem_cons.2 ⟨h11 _ (mem_at (i := 0) rfl), nil0⟩))
  obtain ⟨G13, h13⟩ := AllOk.step (c := k_rinvert) h12 (by decide) (ok_rinvert hg (G := G12) (List.forall_mem_cons.2 ⟨h12 _ (mem_at (i := 7) rfl), (List.forall_mem_cons.2 ⟨h12 _ (mem_at (i := 9) rfl), (List.forall_mem_cons.2 ⟨h12 _ (mem_at (i := 0) rfl), nil0⟩)⟩)⟩))
  obtain ⟨G14, h14⟩ := AllOk.step (c := k_rright) h13 (by decide) (ok_rright hg (G := G13) (List.forall_mem_cons.2 ⟨h13 _ (mem_at (i := 9) rfl), (List.forall_mem_cons.2 ⟨h13 _ (mem_at (i := 12) rfl), (List.forall_mem_cons.2 ⟨h13 _ (mem_at (i := 10) rfl), nil0⟩)⟩)⟩))
  obtain ⟨G15, h15⟩ := AllOk.step (c := k_rreduce) h14 (by decide) (ok_rreduce hg (G := G14) (List.forall_mem_cons.2 ⟨h14 _ (mem_at (i := 12) rfl), (List.forall_mem_cons.2 ⟨h14 _ (mem_at (i := 7) rfl), (List.forall_mem_cons.2 ⟨h14 _ (mem_at (i := 13) rfl), nil0⟩)⟩)⟩))
  obtain ⟨G16, h16⟩ := AllOk.step (c := k_radd) h15 (by decide) (ok_radd hg (G := G15) (List.forall_mem_cons.2 ⟨h15 _ (mem_at (i := 13) rfl), (List.forall_mem_cons.2 ⟨h15 _ (mem_at (i := 7) rfl), (List.forall_mem_cons.2 ⟨h15 _ (mem_at (i := 8) rfl), (List.forall_mem_cons.2 ⟨h15 _ (mem_at (i := 14) rfl), nil0⟩)⟩)⟩)⟩))
  obtain ⟨G17, h17⟩ := AllOk.step (c := k_rsub) h16 (by decide) (ok_rsub hg (G := G16) (List.forall_mem_cons.2 ⟨h16 _ (mem_at (i := 14) rfl), (List.forall_mem_cons.2 ⟨h16 _ (mem_at (i := 7) rfl), (List.forall_mem_cons.2 ⟨h16 _ (mem_at (i := 9) rfl), (List.forall_mem_cons.2 ⟨h16 _ (mem_at (i := 15) rfl), nil0⟩)⟩)⟩)⟩))
  obtain ⟨G18, h18⟩ := AllOk.step (c := k_rmul) h17 (by decide) (ok_rmul hg (G := G17) (List.forall_mem_cons.2 ⟨h17 _ (mem_at (i := 15) rfl), (List.forall_mem_cons.2 ⟨h17 _ (mem_at (i := 6) rfl), (List.forall_mem_cons.2 ⟨h17 _ (mem_at (i := 16) rfl), nil0⟩)⟩)⟩))
  obtain ⟨G19, h19⟩ := AllOk.step (c := k_rinv) h18 (by decide) (ok_rinv hg (G := G18) (List.forall_mem_cons.2 ⟨h18 _ (mem_at (i := 16) rfl), (List.forall_mem_cons.2 ⟨h18 _ (mem_at (i := 5) rfl), (List.forall_mem_cons.2 ⟨h18 _ (mem_at (i := 11) rfl), (List.forall_mem_cons.2 ⟨h18 _ (mem_at (i := 17) rfl), nil0⟩)⟩)⟩)⟩))
  obtain ⟨G20, h20⟩ := AllOk.step (c := k_rpower) h19 (by decide) (ok_rpower hg (G := G19) (List.forall_mem_cons.2 ⟨h19 _ (mem_at (i := 17) rfl), (List.forall_mem_cons.2 ⟨h19 _ (mem_at (i := 7) rfl), (List.forall_mem_cons.2 ⟨h19 _ (mem_at (i := 12) rfl), (List.forall_mem_cons.2 ⟨h19 _ (mem_at (i := 18) rfl), nil0⟩)⟩)⟩)⟩))
  obtain ⟨G21, h21⟩ := AllOk.step (c := k_rsquare) h20 (by decide) (ok_rsquare hg (G := G20) (List.forall_mem_cons.2 ⟨h20 _ (mem_at (i := 8) rfl), (List.forall_mem_cons.2 ⟨h20 _ (mem_at (i := 9) rfl), (List.forall_mem_cons.2 ⟨h20 _ (mem_at (i := 11) rfl), nil0⟩)⟩)⟩))
  obtain ⟨G22, h22⟩ := AllOk.step (c := k_rroot) h21 (by decide) (ok_rroot hg (G := G21) (List.forall_mem_cons.2 ⟨h21 _ (mem_at (i := 0) rfl), (List.forall_mem_cons.2 ⟨h21 _ (mem_at (i := 14) rfl), (List.forall_mem_cons.2 ⟨h21 _ (mem_at (i := 20) rfl), (List.forall_mem_cons.2 ⟨h21 _ (mem_at (i := 19) rfl), nil0⟩)⟩)⟩)⟩))
  obtain ⟨G23, h23⟩ := AllOk.step (c := k_carried) h22 (by decide) (ok_carried hg (G := G22))
  obtain ⟨G24, h24⟩ := AllOk.step (c := k_from) h23 (by decide) (ok_from hg (G := G23) (List.forall_mem_cons.2 ⟨h23 _ (mem_at (i := 0) rfl), nil0⟩))
  obtain ⟨G25, h25⟩ := AllOk.step (c := k_bytes) h24 (by decide) (ok_bytes hg (G := G24) (List.forall_mem_cons.2 ⟨h24 _ (mem_at (i := 1) rfl), nil0⟩))
  obtain ⟨G26, h26⟩ := AllOk.step (c := k_plus) h25 (by decide) (ok_plus hg (G := G25) (List.forall_mem_cons.2 ⟨h25 _ (mem_at (i := 2) rfl), nil0⟩))
  obtain ⟨G27, h27⟩ := AllOk.step (c := k_minus) h26 (by decide) (ok_minus hg (G := G26) (List.forall_mem_cons.2 ⟨h26 _ (mem_at (i := 3) rfl), nil0⟩))
  obtain ⟨G28, h28⟩ := AllOk.step (c := k_times) h27 (by decide) (ok_times hg (G := G27) (List.forall_mem_cons.2 ⟨h27 _ (mem_at (i := 4) rfl), nil0⟩))
  obtain ⟨G29, h29⟩ := AllOk.step (c := k_squared) h28 (by decide) (ok_squared hg (G := G28) (List.forall_mem_cons.2 ⟨h28 _ (mem_at (i := 0) rfl), nil0⟩))
  obtain ⟨G30, h30⟩ := AllOk.step (c := k_negated) h29 (by decide) (ok_negated hg (G := G29) (List.forall_mem_cons.2 ⟨h29 _ (mem_at (i := 2) rfl), nil0⟩))
  obtain ⟨G31, h31⟩ := AllOk.step (c := k_raised) h30 (by decide) (ok_raised hg (G := G30) (List.forall_mem_cons.2 ⟨h30 _ (mem_at (i := 1) rfl), (List.forall_mem_cons.2 ⟨h30 _ (mem_at (i := 2) rfl), nil0⟩)⟩))
  obtain ⟨G32, h32⟩ := AllOk.step (c := k_inverted) h31 (by decide) (ok_inverted hg (G := G31) (List.forall_mem_cons.2 ⟨h31 _ (mem_at (i := 0) rfl), nil0⟩))
  obtain ⟨G33, h33⟩ := AllOk.step (c := k_same) h32 (by decide) (ok_same hg (G := G32) (List.forall_mem_cons.2 ⟨h32 _ (mem_at (i := 7) rfl), nil0⟩))
  obtain ⟨G34, h34⟩ := AllOk.step (c := k_odd) h33 (by decide) (ok_odd hg (G := G33) (List.forall_mem_cons.2 ⟨h33 _ (mem_at (i := 8) rfl), nil0⟩))
  obtain ⟨G35, h35⟩ := AllOk.step (c := k_rooted) h34 (by decide) (ok_rooted hg (G := G34) (List.forall_mem_cons.2 ⟨h34 _ (mem_at (i := 3) rfl), (List.forall_mem_cons.2 ⟨h34 _ (mem_at (i := 5) rfl), (List.forall_mem_cons.2 ⟨h34 _ (mem_at (i := 1) rfl), (List.forall_mem_cons.2 ⟨h34 _ (mem_at (i := 0) rfl), (List.forall_mem_cons.2 ⟨h34 _ (mem_at (i := 4) rfl), (List.forall_mem_cons.2 ⟨h34 _ (mem_at (i := 6) rfl), nil0⟩)⟩)⟩)⟩)⟩)⟩))
  obtain ⟨G36, h36⟩ := AllOk.step (c := k_reduce) h35 (by decide) (ok_reduce hg (G := G35) (List.forall_mem_cons.2 ⟨h35 _ (mem_at (i := 11) rfl), (List.forall_mem_cons.2 ⟨h35 _ (mem_at (i := 10) rfl), nil0⟩)⟩))
  obtain ⟨G37, h37⟩ := AllOk.step (c := k_right) h36 (by decide) (ok_right hg (G := G36) (List.forall_mem_cons.2 ⟨h36 _ (mem_at (i := 0) rfl), nil0⟩))
  obtain ⟨G38, h38⟩ := AllOk.step (c := k_add) h37 (by decide) (ok_add hg (G := G37) (List.forall_mem_cons.2 ⟨h37 _ (mem_at (i := 13) rfl), (List.forall_mem_cons.2 ⟨h37 _ (mem_at (i := 11) rfl), (List.forall_mem_cons.2 ⟨h37 _ (mem_at (i := 12) rfl), nil0⟩)⟩)⟩))
  obtain ⟨G39, h39⟩ := AllOk.step (c := k_sub) h38 (by decide) (ok_sub hg (G := G38) (List.forall_mem_cons.2 ⟨h38 _ (mem_at (i := 14) rfl), (List.forall_mem_cons.2 ⟨h38 _ (mem_at (i := 11) rfl), (List.forall_mem_cons.2 ⟨h38 _ (mem_at (i := 13) rfl), nil0⟩)⟩)⟩))
  obtain ⟨G40, h40⟩ := AllOk.step (c := k_mul) h39 (by decide) (ok_mul hg (G := G39) (List.forall_mem_cons.2 ⟨h39 _ (mem_at (i := 15) rfl), (List.forall_mem_cons.2 ⟨h39 _ (mem_at (i := 11) rfl), (List.forall_mem_cons.2 ⟨h39 _ (mem_at (i := 14) rfl), nil0⟩)⟩)⟩))
  obtain ⟨G41, h41⟩ := AllOk.step (c := k_inv) h40 (by decide) (ok_inv hg (G := G40) (List.forall_mem_cons.2 ⟨h40 _ (mem_at (i := 16) rfl), (List.forall_mem_cons.2 ⟨h40 _ (mem_at (i := 8) rfl), (List.forall_mem_cons.2 ⟨h40 _ (mem_at (i := 15) rfl), nil0⟩)⟩)⟩))
  obtain ⟨G42, h42⟩ := AllOk.step (c := k_root) h41 (by decide) (ok_root hg (G := G41) (List.forall_mem_cons.2 ⟨h41 _ (mem_at (i := 17) rfl), (List.forall_mem_cons.2 ⟨h41 _ (mem_at (i := 6) rfl), (List.forall_mem_cons.2 ⟨h41 _ (mem_at (i := 16) rfl), nil0⟩)⟩)⟩))
  obtain ⟨G43, h43⟩ := AllOk.step (c := k_power) h42 (by decide) (ok_power hg (G := G42) (List.forall_mem_cons.2 ⟨h42 _ (mem_at (i := 18) rfl), (List.forall_mem_cons.2 ⟨h42 _ (mem_at (i := 11) rfl), (List.forall_mem_cons.2 ⟨h42 _ (mem_at (i := 17) rfl), nil0⟩)⟩)⟩))
  obtain ⟨G44, h44⟩ := AllOk.step (c := k_alive) h43 (by decide) (ok_alive hg (G := G43) (List.forall_mem_cons.2 ⟨h43 _ (mem_at (i := 41) rfl), (List.forall_mem_cons.2 ⟨h43 _ (mem_at (i := 40) rfl), (List.forall_mem_cons.2 ⟨h43 _ (mem_at (i := 1) rfl), (List.forall_mem_cons.2 ⟨h43 _ (mem_at (i := 7) rfl), (List.forall_mem_cons.2 ⟨h43 _ (mem_at (i := 5) rfl), (List.forall_mem_cons.2 ⟨h43 _ (mem_at (i := 3) rfl), (List.forall_mem_cons.2 ⟨h43 _ (mem_at (i := 6) rfl), nil0⟩)⟩)⟩)⟩)⟩)⟩)⟩))
  obtain ⟨G45, h45⟩ := AllOk.step (c := k_lone) h44 (by decide) (ok_lone hg (G := G44) (List.forall_mem_cons.2 ⟨h44 _ (mem_at (i := 0) rfl), (List.forall_mem_cons.2 ⟨h44 _ (mem_at (i := 2) rfl), (List.forall_mem_cons.2 ⟨h44 _ (mem_at (i := 5) rfl), (List.forall_mem_cons.2 ⟨h44 _ (mem_at (i := 4) rfl), (List.forall_mem_cons.2 ⟨h44 _ (mem_at (i := 8) rfl), nil0⟩)⟩)⟩)⟩)⟩))
  obtain ⟨G46, h46⟩ := AllOk.step (c := k_llaws) h45 (by decide) (ok_llaws hg (G := G45) (List.forall_mem_cons.2 ⟨h45 _ (mem_at (i := 1) rfl), (List.forall_mem_cons.2 ⟨h45 _ (mem_at (i := 7) rfl), (List.forall_mem_cons.2 ⟨h45 _ (mem_at (i := 5) rfl), (List.forall_mem_cons.2 ⟨h45 _ (mem_at (i := 6) rfl), (List.forall_mem_cons.2 ⟨h45 _ (mem_at (i := 9) rfl), (List.forall_mem_cons.2 ⟨h45 _ (mem_at (i := 4) rfl), nil0⟩)⟩)⟩)⟩)⟩)⟩))
  obtain ⟨G47, h47⟩ := AllOk.step (c := k_lproducts) h46 (by decide) (ok_lproducts hg (G := G46) (List.forall_mem_cons.2 ⟨h46 _ (mem_at (i := 2) rfl), (List.forall_mem_cons.2 ⟨h46 _ (mem_at (i := 6) rfl), (List.forall_mem_cons.2 ⟨h46 _ (mem_at (i := 28) rfl), nil0⟩)⟩)⟩))
  obtain ⟨G48, h48⟩ := AllOk.step (c := k_lroots) h47 (by decide) (ok_lroots hg (G := G47) (List.forall_mem_cons.2 ⟨h47 _ (mem_at (i := 3) rfl), (List.forall_mem_cons.2 ⟨h47 _ (mem_at (i := 5) rfl), (List.forall_mem_cons.2 ⟨h47 _ (mem_at (i := 25) rfl), (List.forall_mem_cons.2 ⟨h47 _ (mem_at (i := 7) rfl), (List.forall_mem_cons.2 ⟨h47 _ (mem_at (i := 11) rfl), nil0⟩)⟩)⟩)⟩)⟩))
  obtain ⟨G49, h49⟩ := AllOk.step (c := k_lsums) h48 (by decide) (ok_lsums hg (G := G48) (List.forall_mem_cons.2 ⟨h48 _ (mem_at (i := 4) rfl), (List.forall_mem_cons.2 ⟨h48 _ (mem_at (i := 10) rfl), (List.forall_mem_cons.2 ⟨h48 _ (mem_at (i := 32) rfl), (List.forall_mem_cons.2 ⟨h48 _ (mem_at (i := 9) rfl), (List.forall_mem_cons.2 ⟨h48 _ (mem_at (i := 31) rfl), (List.forall_mem_cons.2 ⟨h48 _ (mem_at (i := 12) rfl), (List.forall_mem_cons.2 ⟨h48 _ (mem_at (i := 33) rfl), (List.forall_mem_cons.2 ⟨h48 _ (mem_at (i := 11) rfl), (List.forall_mem_cons.2 ⟨h48 _ (mem_at (i := 34) rfl), nil0⟩)⟩)⟩)⟩)⟩)⟩)⟩)⟩)⟩))
  obtain ⟨G50, h50⟩ := AllOk.step (c := k_lsteps) h49 (by decide) (ok_lsteps hg (G := G49) (List.forall_mem_cons.2 ⟨h49 _ (mem_at (i := 5) rfl), (List.forall_mem_cons.2 ⟨h49 _ (mem_at (i := 6) rfl), (List.forall_mem_cons.2 ⟨h49 _ (mem_at (i := 9) rfl), (List.forall_mem_cons.2 ⟨h49 _ (mem_at (i := 13) rfl), nil0⟩)⟩)⟩)⟩))
  obtain ⟨G51, h51⟩ := AllOk.step (c := k_lpowers) h50 (by decide) (ok_lpowers hg (G := G50) (List.forall_mem_cons.2 ⟨h50 _ (mem_at (i := 6) rfl), (List.forall_mem_cons.2 ⟨h50 _ (mem_at (i := 7) rfl), (List.forall_mem_cons.2 ⟨h50 _ (mem_at (i := 30) rfl), (List.forall_mem_cons.2 ⟨h50 _ (mem_at (i := 9) rfl), (List.forall_mem_cons.2 ⟨h50 _ (mem_at (i := 31) rfl), nil0⟩)⟩)⟩)⟩)⟩))
  exact ⟨G51, h51⟩
end Go.Fd

