/- AdOk: a part of the proof of statements of this seat. -/
import Derived.Test.YtcellhafdgmkjaaDoorAdEqA
import Derived.Test.YtcellhafdgmkjaaDoorAdEqB
import Derived.Test.YtcellhafdgmkjaaDoorAdEqC
import Derived.KernelRfl
set_option linter.unusedVariables false
set_option maxRecDepth 100000
namespace Go.Ad
open Go Go.Rx Go.Proofs
abbrev OC (wb : World) (k : Con) : Prop := k.OkF Tryd.prog wb (flatS sh SB k.id)
abbrev OQ (wb : World) (q : QCon) : Prop := q.Ok Tryd.prog wb (flatS sh SB q.c.id)
theorem mx : Tryd.prog.follows .mixedOrders = true := by kernel_rfl
theorem nil0 {α : Type} {p : α → Prop} : ∀ x ∈ ([] : List α), p x := fun _ h => by cases h
theorem cons0 {α : Type} {p : α → Prop} {a : α} {l : List α} (h : p a) (hl : ∀ x ∈ l, p x) : ∀ x ∈ a :: l, p x := fun x hx => by
  rcases List.mem_cons.1 hx with rfl | hx
  · exact h
  · exact hl x hx
theorem rv0 {a0 b0 : Int} (h0 : a0 = b0) : resVal [.int .i64 (-1) 9223372036854775807] [a0] = resVal [.int .i64 (-1) 9223372036854775807] [b0] := by
  show (.int .i64 a0 : Value) = (.int .i64 b0 : Value)
  rw [h0]
theorem rv1 {a0 b0 : Int} (h0 : sOf a0 = sOf b0) : resVal [.str] [a0] = resVal [.str] [b0] := by
  show (.string (bA (sOf a0)) : Value) = (.string (bA (sOf b0)) : Value)
  rw [h0]
theorem rv2 {a0 a1 a2 b0 b1 b2 : Int} (h0 : sOf a0 = sOf b0) (h1 : sOf a1 = sOf b1) (h2 : a2 = b2) : resVal [.str, .str, .bool] [a0, a1, a2] = resVal [.str, .str, .bool] [b0, b1, b2] := by
  show (.tuple #[.string (bA (sOf a0)), .string (bA (sOf a1)), .bool (decide (a2 = 1))] : Value) = (.tuple #[.string (bA (sOf b0)), .string (bA (sOf b1)), .bool (decide (b2 = 1))] : Value)
  rw [h0, h1, h2]
theorem rv3 {a0 b0 : Int} (h0 : a0 = b0) : resVal [.bool] [a0] = resVal [.bool] [b0] := by
  show (.bool (decide (a0 = 1)) : Value) = (.bool (decide (b0 = 1)) : Value)
  rw [h0]
theorem rv4 {a0 a1 a2 b0 b1 b2 : Int} (h0 : sOf a0 = sOf b0) (h1 : a1 = b1) (h2 : a2 = b2) : resVal [.str, .bool, .bool] [a0, a1, a2] = resVal [.str, .bool, .bool] [b0, b1, b2] := by
  show (.tuple #[.string (bA (sOf a0)), .bool (decide (a1 = 1)), .bool (decide (a2 = 1))] : Value) = (.tuple #[.string (bA (sOf b0)), .bool (decide (b1 = 1)), .bool (decide (b2 = 1))] : Value)
  rw [h0, h1, h2]
theorem rv5 {a0 a1 b0 b1 : Int} (h0 : sOf a0 = sOf b0) (h1 : a1 = b1) : resVal [.str, .int .i64 0 21] [a0, a1] = resVal [.str, .int .i64 0 21] [b0, b1] := by
  show (.tuple #[.string (bA (sOf a0)), .int .i64 a1] : Value) = (.tuple #[.string (bA (sOf b0)), .int .i64 b1] : Value)
  rw [h0, h1]
theorem rv6 {a0 a1 a2 b0 b1 b2 : Int} (h0 : sOf a0 = sOf b0) (h1 : sOf a1 = sOf b1) (h2 : a2 = b2) : resVal [.mix [.str, .str], .bool] [a0, a1, a2] = resVal [.mix [.str, .str], .bool] [b0, b1, b2] := by
  show (.tuple #[.agg #[.string (bA (sOf a0)), .string (bA (sOf a1))], .bool (decide (a2 = 1))] : Value) = (.tuple #[.agg #[.string (bA (sOf b0)), .string (bA (sOf b1))], .bool (decide (b2 = 1))] : Value)
  rw [h0, h1, h2]
theorem rv7 {a0 a1 a2 b0 b1 b2 : Int} (h0 : sOf a0 = sOf b0) (h1 : sOf a1 = sOf b1) (h2 : a2 = b2) : resVal [.mix [.str, .str], .int .i64 0 21] [a0, a1, a2] = resVal [.mix [.str, .str], .int .i64 0 21] [b0, b1, b2] := by
  show (.tuple #[.agg #[.string (bA (sOf a0)), .string (bA (sOf a1))], .int .i64 a2] : Value) = (.tuple #[.agg #[.string (bA (sOf b0)), .string (bA (sOf b1))], .int .i64 b2] : Value)
  rw [h0, h1, h2]
theorem uv_tlb : OneV k_tlb.args k_tlb.res (flatS sh SB 36) := by
  intro zs rs rs' hz hr hr' h h'
  match zs, rs, rs', hz, hr, hr', h, h' with
  | [z0, z1], [a0], [b0], _, _, _, h, h' =>
    exact rv1 (Eq.trans h (Eq.symm h'))
theorem ok_tlb {wb : World} (hg : GOk [] ⟨wb, wb, fun _ => False, fun _ => False⟩)  : OC wb k_tlb := by
  refine Con.Ok.f (ok_vcb (SB := SB) (sh := sh) (c := k_tlb) (cal := (calQ [] [])) (li := li_tlb) (rounds := 600) (d := 6) (lsh := lsh_tlb) (lens := [1, 1]) mx (fun _ _ _ => calQ_ok nil0 nil0) hg (by kernel_rfl) uv_tlb rfl rfl ?_)
  rw [u_tlb]
  exact p_tlb
theorem uv_trb : OneV k_trb.args k_trb.res (flatS sh SB 37) := by
  intro zs rs rs' hz hr hr' h h'
  match zs, rs, rs', hz, hr, hr', h, h' with
  | [z0, z1], [a0], [b0], _, _, _, h, h' =>
    exact rv1 (Eq.trans h (Eq.symm h'))
theorem ok_trb {wb : World} (hg : GOk [] ⟨wb, wb, fun _ => False, fun _ => False⟩)  : OC wb k_trb := by
  refine Con.Ok.f (ok_vcb (SB := SB) (sh := sh) (c := k_trb) (cal := (calQ [] [])) (li := li_trb) (rounds := 600) (d := 6) (lsh := lsh_trb) (lens := [1, 1]) mx (fun _ _ _ => calQ_ok nil0 nil0) hg (by kernel_rfl) uv_trb rfl rfl ?_)
  rw [u_trb]
  exact p_trb
theorem uv_tsp : OneV k_tsp.args k_tsp.res (flatS sh SB 120) := by
  intro zs rs rs' hz hr hr' h h'
  match zs, rs, rs', hz, hr, hr', h, h' with
  | [z0], [a0], [b0], _, _, _, h, h' =>
    exact rv1 (Eq.trans h (Eq.symm h'))
theorem ok_tsp {wb : World} (hg : GOk [] ⟨wb, wb, fun _ => False, fun _ => False⟩) (h_tlb : OC wb k_tlb) (h_trb : OC wb k_trb) : OC wb k_tsp := by
  refine Con.Ok.f (ok_vcb (SB := SB) (sh := sh) (c := k_tsp) (cal := (calQ [] [k_tlb, k_trb])) (li := li_none) (rounds := 600) (d := 6) (lsh := lsh_none) (lens := [1]) mx (fun _ _ _ => calQ_ok nil0 (cons0 h_tlb (cons0 h_trb nil0))) hg (by kernel_rfl) uv_tsp rfl rfl ?_)
  rw [u_tsp]
  exact p_tsp
theorem uv_tdot : OneV k_tdot.args k_tdot.res (flatS sh SB 121) := by
  intro zs rs rs' hz hr hr' h h'
  match zs, rs, rs', hz, hr, hr', h, h' with
  | [z0], [a0], [b0], _, _, _, h, h' =>
    exact rv1 (Eq.trans h (Eq.symm h'))
theorem ok_tdot {wb : World} (hg : GOk [] ⟨wb, wb, fun _ => False, fun _ => False⟩) (h_tlb : OC wb k_tlb) (h_trb : OC wb k_trb) : OC wb k_tdot := by
  refine Con.Ok.f (ok_vcb (SB := SB) (sh := sh) (c := k_tdot) (cal := (calQ [] [k_tlb, k_trb])) (li := li_none) (rounds := 600) (d := 6) (lsh := lsh_none) (lens := [1]) mx (fun _ _ _ => calQ_ok nil0 (cons0 h_tlb (cons0 h_trb nil0))) hg (by kernel_rfl) uv_tdot rfl rfl ?_)
  rw [u_tdot]
  exact p_tdot
theorem uv_tdm : OneV k_tdm.args k_tdm.res (flatS sh SB 122) := by
  intro zs rs rs' hz hr hr' h h'
  match zs, rs, rs', hz, hr, hr', h, h' with
  | [z0], [a0], [b0], _, _, _, h, h' =>
    exact rv1 (Eq.trans h (Eq.symm h'))
theorem ok_tdm {wb : World} (hg : GOk [] ⟨wb, wb, fun _ => False, fun _ => False⟩)  : OC wb k_tdm := by
  refine Con.Ok.f (ok_vcb (SB := SB) (sh := sh) (c := k_tdm) (cal := (calQ [] [])) (li := li_tdm) (rounds := 600) (d := 6) (lsh := lsh_tdm) (lens := [1]) mx (fun _ _ _ => calQ_ok nil0 nil0) hg (by kernel_rfl) uv_tdm rfl rfl ?_)
  rw [u_tdm]
  exact p_tdm
theorem uv_cutat : OneV k_cutat.args k_cutat.res (flatS sh SB 125) := by
  intro zs rs rs' hz hr hr' h h'
  match zs, rs, rs', hz, hr, hr', h, h' with
  | [z0], [a0, a1, a2], [b0, b1, b2], _, _, _, h, h' =>
    have e : (sOf a0, sOf a1, a2) = (sOf b0, sOf b1, b2) := Eq.trans h (Eq.symm h')
    simp only [Prod.mk.injEq] at e
    exact rv2 e.1 e.2.1 e.2.2
theorem ok_cutat {wb : World} (hg : GOk [] ⟨wb, wb, fun _ => False, fun _ => False⟩) (h_ibs : OC wb k_ibs) : OC wb k_cutat := by
  refine Con.Ok.f (ok_vcb (SB := SB) (sh := sh) (c := k_cutat) (cal := (calQ [] [k_ibs])) (li := li_none) (rounds := 600) (d := 6) (lsh := lsh_none) (lens := [1]) mx (fun _ _ _ => calQ_ok nil0 (cons0 h_ibs nil0)) hg (by kernel_rfl) uv_cutat rfl rfl ?_)
  rw [u_cutat]
  exact p_cutat
theorem uv_cutcol : OneV k_cutcol.args k_cutcol.res (flatS sh SB 126) := by
  intro zs rs rs' hz hr hr' h h'
  match zs, rs, rs', hz, hr, hr', h, h' with
  | [z0], [a0, a1, a2], [b0, b1, b2], _, _, _, h, h' =>
    have e : (sOf a0, sOf a1, a2) = (sOf b0, sOf b1, b2) := Eq.trans h (Eq.symm h')
    simp only [Prod.mk.injEq] at e
    exact rv2 e.1 e.2.1 e.2.2
theorem ok_cutcol {wb : World} (hg : GOk [] ⟨wb, wb, fun _ => False, fun _ => False⟩) (h_ibs : OC wb k_ibs) : OC wb k_cutcol := by
  refine Con.Ok.f (ok_vcb (SB := SB) (sh := sh) (c := k_cutcol) (cal := (calQ [] [k_ibs])) (li := li_none) (rounds := 600) (d := 6) (lsh := lsh_none) (lens := [1]) mx (fun _ _ _ => calQ_ok nil0 (cons0 h_ibs nil0)) hg (by kernel_rfl) uv_cutcol rfl rfl ?_)
  rw [u_cutcol]
  exact p_cutcol
theorem uv_cdot : OneV k_cdot.args k_cdot.res (flatS sh SB 127) := by
  intro zs rs rs' hz hr hr' h h'
  match zs, rs, rs', hz, hr, hr', h, h' with
  | [z0], [a0], [b0], _, _, _, h, h' =>
    exact rv3 (Eq.trans h (Eq.symm h'))
theorem ok_cdot {wb : World} (hg : GOk [] ⟨wb, wb, fun _ => False, fun _ => False⟩) (h_ibs : OC wb k_ibs) : OC wb k_cdot := by
  refine Con.Ok.f (ok_vcb (SB := SB) (sh := sh) (c := k_cdot) (cal := (calQ [] [k_ibs])) (li := li_none) (rounds := 600) (d := 6) (lsh := lsh_none) (lens := [1]) mx (fun _ _ _ => calQ_ok nil0 (cons0 h_ibs nil0)) hg (by kernel_rfl) uv_cdot rfl rfl ?_)
  rw [u_cdot]
  exact p_cdot
theorem uv_only : OneV k_only.args k_only.res (flatS sh SB 44) := by
  intro zs rs rs' hz hr hr' h h'
  match zs, rs, rs', hz, hr, hr', h, h' with
  | [z0, z1], [a0], [b0], _, _, _, h, h' =>
    exact rv3 (Eq.trans h (Eq.symm h'))
theorem ok_only {wb : World} (hg : GOk [] ⟨wb, wb, fun _ => False, fun _ => False⟩) (h_ibs : OC wb k_ibs) : OC wb k_only := by
  refine Con.Ok.f (ok_vcb (SB := SB) (sh := sh) (c := k_only) (cal := (calQ [] [k_ibs])) (li := li_only) (rounds := 600) (d := 6) (lsh := lsh_only) (lens := [1, 1]) mx (fun _ _ _ => calQ_ok nil0 (cons0 h_ibs nil0)) hg (by kernel_rfl) uv_only rfl rfl ?_)
  rw [u_only]
  exact p_only
theorem uv_ionly : OneV k_ionly.args k_ionly.res (flatS sh SB 65) := by
  intro zs rs rs' hz hr hr' h h'
  match zs, rs, rs', hz, hr, hr', h, h' with
  | [z0, z1], [a0], [b0], _, _, _, h, h' =>
    exact rv3 (Eq.trans h (Eq.symm h'))
theorem ok_ionly {wb : World} (hg : GOk [] ⟨wb, wb, fun _ => False, fun _ => False⟩) (h_ibs : OC wb k_ibs) : OC wb k_ionly := by
  refine Con.Ok.f (ok_vcb (SB := SB) (sh := sh) (c := k_ionly) (cal := (calQ [] [k_ibs])) (li := li_ionly) (rounds := 600) (d := 6) (lsh := lsh_ionly) (lens := [1, 1]) mx (fun _ _ _ => calQ_ok nil0 (cons0 h_ibs nil0)) hg (by kernel_rfl) uv_ionly rfl rfl ?_)
  rw [u_ionly]
  exact p_ionly
theorem uv_low : OneV k_low.args k_low.res (flatS sh SB 28) := by
  intro zs rs rs' hz hr hr' h h'
  match zs, rs, rs', hz, hr, hr', h, h' with
  | [z0], [a0], [b0], _, _, _, h, h' =>
    exact rv1 (Eq.trans h (Eq.symm h'))
theorem ok_low {wb : World} (hg : GOk [] ⟨wb, wb, fun _ => False, fun _ => False⟩)  : OC wb k_low := by
  refine Con.Ok.f (ok_vcb (SB := SB) (sh := sh) (c := k_low) (cal := (calQ [] [])) (li := li_low) (rounds := 600) (d := 6) (lsh := lsh_low) (lens := [1]) mx (fun _ _ _ => calQ_ok nil0 nil0) hg (by kernel_rfl) uv_low rfl rfl ?_)
  rw [u_low]
  exact p_low
theorem uv_rlow : OneV k_rlow.args k_rlow.res (flatS sh SB 17) := by
  intro zs rs rs' hz hr hr' h h'
  match zs, rs, rs', hz, hr, hr', h, h' with
  | [z0], [a0], [b0], _, _, _, h, h' =>
    exact rv1 (Eq.trans h (Eq.symm h'))
theorem ok_rlow {wb : World} (hg : GOk [] ⟨wb, wb, fun _ => False, fun _ => False⟩)  : OC wb k_rlow := by
  refine Con.Ok.f (ok_vcb (SB := SB) (sh := sh) (c := k_rlow) (cal := (calQ [] [])) (li := li_rlow) (rounds := 600) (d := 6) (lsh := lsh_rlow) (lens := [1]) mx (fun _ _ _ => calQ_ok nil0 nil0) hg (by kernel_rfl) uv_rlow rfl rfl ?_)
  rw [u_rlow]
  exact p_rlow
theorem uv_rhas : OneV k_rhas.args k_rhas.res (flatS sh SB 31) := by
  intro zs rs rs' hz hr hr' h h'
  match zs, rs, rs', hz, hr, hr', h, h' with
  | [z0, z1], [a0], [b0], _, _, _, h, h' =>
    exact rv3 (Eq.trans h (Eq.symm h'))
theorem ok_rhas {wb : World} (hg : GOk [] ⟨wb, wb, fun _ => False, fun _ => False⟩)  : OC wb k_rhas := by
  refine Con.Ok.f (ok_vcb (SB := SB) (sh := sh) (c := k_rhas) (cal := (calQ [] [])) (li := li_rhas) (rounds := 600) (d := 6) (lsh := lsh_rhas) (lens := [1, 1]) mx (fun _ _ _ => calQ_ok nil0 nil0) hg (by kernel_rfl) uv_rhas rfl rfl ?_)
  rw [u_rhas]
  exact p_rhas
theorem uv_thost : OneV k_thost.args k_thost.res (flatS sh SB 123) := by
  intro zs rs rs' hz hr hr' h h'
  match zs, rs, rs', hz, hr, hr', h, h' with
  | [z0], [a0], [b0], _, _, _, h, h' =>
    exact rv1 (Eq.trans h (Eq.symm h'))
theorem ok_thost {wb : World} (hg : GOk [] ⟨wb, wb, fun _ => False, fun _ => False⟩)  : OC wb k_thost := by
  refine Con.Ok.f (ok_vcb (SB := SB) (sh := sh) (c := k_thost) (cal := (calQ [] [])) (li := li_thost) (rounds := 600) (d := 6) (lsh := lsh_thost) (lens := [1]) mx (fun _ _ _ => calQ_ok nil0 nil0) hg (by kernel_rfl) uv_thost rfl rfl ?_)
  rw [u_thost]
  exact p_thost
theorem uv_tdig : OneV k_tdig.args k_tdig.res (flatS sh SB 124) := by
  intro zs rs rs' hz hr hr' h h'
  match zs, rs, rs', hz, hr, hr', h, h' with
  | [z0], [a0], [b0], _, _, _, h, h' =>
    exact rv1 (Eq.trans h (Eq.symm h'))
theorem ok_tdig {wb : World} (hg : GOk [] ⟨wb, wb, fun _ => False, fun _ => False⟩)  : OC wb k_tdig := by
  refine Con.Ok.f (ok_vcb (SB := SB) (sh := sh) (c := k_tdig) (cal := (calQ [] [])) (li := li_tdig) (rounds := 600) (d := 6) (lsh := lsh_tdig) (lens := [1]) mx (fun _ _ _ => calQ_ok nil0 nil0) hg (by kernel_rfl) uv_tdig rfl rfl ?_)
  rw [u_tdig]
  exact p_tdig
theorem uv_host : OneV k_host.args k_host.res (flatS sh SB 47) := by
  intro zs rs rs' hz hr hr' h h'
  match zs, rs, rs', hz, hr, hr', h, h' with
  | [z0], [a0], [b0], _, _, _, h, h' =>
    exact rv3 (Eq.trans h (Eq.symm h'))
theorem ok_host {wb : World} (hg : GOk [] ⟨wb, wb, fun _ => False, fun _ => False⟩) (h_cdd : OQ wb q_cdd) (h_thost : OC wb k_thost) (h_tdm : OC wb k_tdm) (h_ionly : OC wb k_ionly) : OC wb k_host := by
  refine Con.Ok.f (ok_vcb (SB := SB) (sh := sh) (c := k_host) (cal := (calQ [q_cdd] [k_thost, k_tdm, k_ionly])) (li := li_none) (rounds := 600) (d := 6) (lsh := lsh_none) (lens := [1]) mx (fun _ _ _ => calQ_ok (cons0 h_cdd nil0) (cons0 h_thost (cons0 h_tdm (cons0 h_ionly nil0)))) hg (by kernel_rfl) uv_host rfl rfl ?_)
  rw [u_host]
  exact p_host
theorem uv_server : OneV k_server.args k_server.res (flatS sh SB 27) := by
  intro zs rs rs' hz hr hr' h h'
  match zs, rs, rs', hz, hr, hr', h, h' with
  | [z0], [a0], [b0], _, _, _, h, h' =>
    exact rv3 (Eq.trans h (Eq.symm h'))
theorem ok_server {wb : World} (hg : GOk [] ⟨wb, wb, fun _ => False, fun _ => False⟩) (h_cutcol : OC wb k_cutcol) (h_host : OC wb k_host) (h_tdig : OC wb k_tdig) (h_ionly : OC wb k_ionly) : OC wb k_server := by
  refine Con.Ok.f (ok_vcb (SB := SB) (sh := sh) (c := k_server) (cal := (calQ [] [k_cutcol, k_host, k_tdig, k_ionly])) (li := li_none) (rounds := 600) (d := 6) (lsh := lsh_none) (lens := [1]) mx (fun _ _ _ => calQ_ok nil0 (cons0 h_cutcol (cons0 h_host (cons0 h_tdig (cons0 h_ionly nil0))))) hg (by kernel_rfl) uv_server rfl rfl ?_)
  rw [u_server]
  exact p_server
theorem uv_local : OneV k_local.args k_local.res (flatS sh SB 24) := by
  intro zs rs rs' hz hr hr' h h'
  match zs, rs, rs', hz, hr, hr', h, h' with
  | [z0], [a0], [b0], _, _, _, h, h' =>
    exact rv3 (Eq.trans h (Eq.symm h'))
theorem ok_local {wb : World} (hg : GOk [] ⟨wb, wb, fun _ => False, fun _ => False⟩) (h_cdd : OQ wb q_cdd) (h_only : OC wb k_only) (h_tdot : OC wb k_tdot) : OC wb k_local := by
  refine Con.Ok.f (ok_vcb (SB := SB) (sh := sh) (c := k_local) (cal := (calQ [q_cdd] [k_only, k_tdot])) (li := li_none) (rounds := 600) (d := 6) (lsh := lsh_none) (lens := [1]) mx (fun _ _ _ => calQ_ok (cons0 h_cdd nil0) (cons0 h_only (cons0 h_tdot nil0))) hg (by kernel_rfl) uv_local rfl rfl ?_)
  rw [u_local]
  exact p_local
theorem uv_rlocal : OneV k_rlocal.args k_rlocal.res (flatS sh SB 29) := by
  intro zs rs rs' hz hr hr' h h'
  match zs, rs, rs', hz, hr, hr', h, h' with
  | [z0], [a0], [b0], _, _, _, h, h' =>
    exact rv3 (Eq.trans h (Eq.symm h'))
theorem ok_rlocal {wb : World} (hg : GOk [] ⟨wb, wb, fun _ => False, fun _ => False⟩)  : OC wb k_rlocal := by
  refine Con.Ok.f (ok_vcb (SB := SB) (sh := sh) (c := k_rlocal) (cal := (calQ [] [])) (li := li_rlocal) (rounds := 600) (d := 6) (lsh := lsh_rlocal) (lens := [1]) mx (fun _ _ _ => calQ_ok nil0 nil0) hg (by kernel_rfl) uv_rlocal rfl rfl ?_)
  rw [u_rlocal]
  exact p_rlocal
theorem uv_small : OneV k_small.args k_small.res (flatS sh SB 50) := by
  intro zs rs rs' hz hr hr' h h'
  match zs, rs, rs', hz, hr, hr', h, h' with
  | [z0], [a0], [b0], _, _, _, h, h' =>
    exact rv3 (Eq.trans h (Eq.symm h'))
theorem ok_small {wb : World} (hg : GOk [] ⟨wb, wb, fun _ => False, fun _ => False⟩)  : OC wb k_small := by
  refine Con.Ok.f (ok_vcb (SB := SB) (sh := sh) (c := k_small) (cal := (calQ [] [])) (li := li_none) (rounds := 600) (d := 6) (lsh := lsh_none) (lens := [1]) mx (fun _ _ _ => calQ_ok nil0 nil0) hg (by kernel_rfl) uv_small rfl rfl ?_)
  rw [u_small]
  exact p_small
theorem uv_great : OneV k_great.args k_great.res (flatS sh SB 51) := by
  intro zs rs rs' hz hr hr' h h'
  match zs, rs, rs', hz, hr, hr', h, h' with
  | [z0], [a0], [b0], _, _, _, h, h' =>
    exact rv3 (Eq.trans h (Eq.symm h'))
theorem ok_great {wb : World} (hg : GOk [] ⟨wb, wb, fun _ => False, fun _ => False⟩)  : OC wb k_great := by
  refine Con.Ok.f (ok_vcb (SB := SB) (sh := sh) (c := k_great) (cal := (calQ [] [])) (li := li_none) (rounds := 600) (d := 6) (lsh := lsh_none) (lens := [1]) mx (fun _ _ _ => calQ_ok nil0 nil0) hg (by kernel_rfl) uv_great rfl rfl ?_)
  rw [u_great]
  exact p_great
theorem uv_digit : OneV k_digit.args k_digit.res (flatS sh SB 52) := by
  intro zs rs rs' hz hr hr' h h'
  match zs, rs, rs', hz, hr, hr', h, h' with
  | [z0], [a0], [b0], _, _, _, h, h' =>
    exact rv3 (Eq.trans h (Eq.symm h'))
theorem ok_digit {wb : World} (hg : GOk [] ⟨wb, wb, fun _ => False, fun _ => False⟩)  : OC wb k_digit := by
  refine Con.Ok.f (ok_vcb (SB := SB) (sh := sh) (c := k_digit) (cal := (calQ [] [])) (li := li_none) (rounds := 600) (d := 6) (lsh := lsh_none) (lens := [1]) mx (fun _ _ _ => calQ_ok nil0 nil0) hg (by kernel_rfl) uv_digit rfl rfl ?_)
  rw [u_digit]
  exact p_digit
theorem uv_rhost : OneV k_rhost.args k_rhost.res (flatS sh SB 30) := by
  intro zs rs rs' hz hr hr' h h'
  match zs, rs, rs', hz, hr, hr', h, h' with
  | [z0], [a0], [b0], _, _, _, h, h' =>
    exact rv3 (Eq.trans h (Eq.symm h'))
theorem ok_rhost {wb : World} (hg : GOk [] ⟨wb, wb, fun _ => False, fun _ => False⟩) (h_small : OC wb k_small) (h_great : OC wb k_great) (h_digit : OC wb k_digit) : OC wb k_rhost := by
  refine Con.Ok.f (ok_vcb (SB := SB) (sh := sh) (c := k_rhost) (cal := (calQ [] [k_small, k_great, k_digit])) (li := li_rhost) (rounds := 600) (d := 6) (lsh := lsh_rhost) (lens := [1]) mx (fun _ _ _ => calQ_ok nil0 (cons0 h_small (cons0 h_great (cons0 h_digit nil0)))) hg (by kernel_rfl) uv_rhost rfl rfl ?_)
  rw [u_rhost]
  exact p_rhost
theorem uv_rcountry : OneV k_rcountry.args k_rcountry.res (flatS sh SB 35) := by
  intro zs rs rs' hz hr hr' h h'
  match zs, rs, rs', hz, hr, hr', h, h' with
  | [z0], [a0, a1, a2], [b0, b1, b2], _, _, _, h, h' =>
    have h : (match ctry (sOf z0) with | some (code, trunk) => sOf a0 = code ∧ a1 = b01 (!trunk.isEmpty) ∧ a2 = 1 | none => sOf a0 = [] ∧ a1 = 0 ∧ a2 = 0) := h
    have h' : (match ctry (sOf z0) with | some (code, trunk) => sOf b0 = code ∧ b1 = b01 (!trunk.isEmpty) ∧ b2 = 1 | none => sOf b0 = [] ∧ b1 = 0 ∧ b2 = 0) := h'
    cases hc : ctry (sOf z0) with
    | none => rw [hc] at h h'; exact rv4 (h.1.trans h'.1.symm) (h.2.1.trans h'.2.1.symm) (h.2.2.trans h'.2.2.symm)
    | some ct =>
      obtain ⟨c, t⟩ := ct
      rw [hc] at h h'; exact rv4 (h.1.trans h'.1.symm) (h.2.1.trans h'.2.1.symm) (h.2.2.trans h'.2.2.symm)
theorem ok_rcountry {wb : World} (hg : GOk [] ⟨wb, wb, fun _ => False, fun _ => False⟩)  : OC wb k_rcountry := by
  refine Con.Ok.f (ok_vcb (SB := SB) (sh := sh) (c := k_rcountry) (cal := (calQ [] [])) (li := li_none) (rounds := 600) (d := 6) (lsh := lsh_none) (lens := [1]) mx (fun _ _ _ => calQ_ok nil0 nil0) hg (by kernel_rfl) uv_rcountry rfl rfl ?_)
  rw [u_rcountry]
  exact p_rcountry
theorem uv_rphone : OneV k_rphone.args k_rphone.res (flatS sh SB 13) := by
  intro zs rs rs' hz hr hr' h h'
  match zs, rs, rs', hz, hr, hr', h, h' with
  | [z0, z1], [a0, a1], [b0, b1], _, _, _, h, h' =>
    have e : (sOf a0, a1) = (sOf b0, b1) := Eq.trans h (Eq.symm h')
    simp only [Prod.mk.injEq] at e
    exact rv5 e.1 e.2
theorem ok_rphone {wb : World} (hg : GOk [] ⟨wb, wb, fun _ => False, fun _ => False⟩) (h_rcountry : OC wb k_rcountry) : OQ wb q_rphone := by
  refine qok_vcb (SB := SB) (sh := sh) (q := q_rphone) (cal := (calQ [] [k_rcountry])) (li := li_rphone) (rounds := 600) (d := 6) (lsh := lsh_rphone) (lens := [1, 1]) mx (fun _ _ _ => calQ_ok nil0 (cons0 h_rcountry nil0)) hg (by kernel_rfl) uv_rphone rfl rfl ?_
  rw [show q_rphone.c = k_rphone from rfl, u_rphone]
  exact p_rphone
theorem uv_remail : OneV k_remail.args k_remail.res (flatS sh SB 11) := by
  intro zs rs rs' hz hr hr' h h'
  match zs, rs, rs', hz, hr, hr', h, h' with
  | [z0], [a0, a1], [b0, b1], _, _, _, h, h' =>
    have e : (sOf a0, a1) = (sOf b0, b1) := Eq.trans h (Eq.symm h')
    simp only [Prod.mk.injEq] at e
    exact rv5 e.1 e.2
theorem ok_remail {wb : World} (hg : GOk [] ⟨wb, wb, fun _ => False, fun _ => False⟩) (h_rlocal : OC wb k_rlocal) (h_rhost : OC wb k_rhost) (h_rhas : OC wb k_rhas) (h_rlow : OC wb k_rlow) : OC wb k_remail := by
  refine Con.Ok.f (ok_vcb (SB := SB) (sh := sh) (c := k_remail) (cal := (calQ [] [k_rlocal, k_rhost, k_rhas, k_rlow])) (li := li_remail) (rounds := 600) (d := 6) (lsh := lsh_remail) (lens := [1]) mx (fun _ _ _ => calQ_ok nil0 (cons0 h_rlocal (cons0 h_rhost (cons0 h_rhas (cons0 h_rlow nil0))))) hg (by kernel_rfl) uv_remail rfl rfl ?_)
  rw [u_remail]
  exact p_remail
theorem uv_email : OneV k_email.args k_email.res (flatS sh SB 10) := by
  intro zs rs rs' hz hr hr' h h'
  match zs, rs, rs', hz, hr, hr', h, h' with
  | [z0], [a0, a1], [b0, b1], _, _, _, h, h' =>
    have e : (sOf a0, a1) = (sOf b0, b1) := Eq.trans h (Eq.symm h')
    simp only [Prod.mk.injEq] at e
    exact rv5 e.1 e.2
theorem ok_email {wb : World} (hg : GOk [] ⟨wb, wb, fun _ => False, fun _ => False⟩) (h_tsp : OC wb k_tsp) (h_cutat : OC wb k_cutat) (h_local : OC wb k_local) (h_cdot : OC wb k_cdot) (h_server : OC wb k_server) (h_low : OC wb k_low) (h_ibs : OC wb k_ibs) : OC wb k_email := by
  refine Con.Ok.f (ok_vcb (SB := SB) (sh := sh) (c := k_email) (cal := (calQ [] [k_tsp, k_cutat, k_local, k_cdot, k_server, k_low, k_ibs])) (li := li_none) (rounds := 600) (d := 6) (lsh := lsh_none) (lens := [1]) mx (fun _ _ _ => calQ_ok nil0 (cons0 h_tsp (cons0 h_cutat (cons0 h_local (cons0 h_cdot (cons0 h_server (cons0 h_low (cons0 h_ibs nil0)))))))) hg (by kernel_rfl) uv_email rfl rfl ?_)
  rw [u_email]
  exact p_email
theorem uv_tpre : OneV k_tpre.args k_tpre.res (flatS sh SB 34) := by
  intro zs rs rs' hz hr hr' h h'
  match zs, rs, rs', hz, hr, hr', h, h' with
  | [z0, z1], [a0], [b0], _, _, _, h, h' =>
    exact rv1 (Eq.trans h (Eq.symm h'))
theorem ok_tpre {wb : World} (hg : GOk [] ⟨wb, wb, fun _ => False, fun _ => False⟩)  : OC wb k_tpre := by
  refine Con.Ok.f (ok_vcb (SB := SB) (sh := sh) (c := k_tpre) (cal := (calQ [] [])) (li := li_none) (rounds := 600) (d := 6) (lsh := lsh_none) (lens := [1, 1]) mx (fun _ _ _ => calQ_ok nil0 nil0) hg (by kernel_rfl) uv_tpre rfl rfl ?_)
  rw [u_tpre]
  exact p_tpre
theorem uv_phone : OneV k_phone.args k_phone.res (flatS sh SB 12) := by
  intro zs rs rs' hz hr hr' h h'
  match zs, rs, rs', hz, hr, hr', h, h' with
  | [z0, z1], [a0, a1], [b0, b1], _, _, _, h, h' =>
    have e : (sOf a0, a1) = (sOf b0, b1) := Eq.trans h (Eq.symm h')
    simp only [Prod.mk.injEq] at e
    exact rv5 e.1 e.2
theorem ok_phone {wb : World} (hg : GOk [] ⟨wb, wb, fun _ => False, fun _ => False⟩) (h_bare : OQ wb q_bare) (h_country : OC wb k_country) (h_tpre : OC wb k_tpre) : OQ wb q_phone := by
  refine qok_vcb (SB := SB) (sh := sh) (q := q_phone) (cal := (calQ [q_bare] [k_country, k_tpre])) (li := li_none) (rounds := 600) (d := 6) (lsh := lsh_none) (lens := [1, 1]) mx (fun _ _ _ => calQ_ok (cons0 h_bare nil0) (cons0 h_country (cons0 h_tpre nil0))) hg (by kernel_rfl) uv_phone rfl rfl ?_
  rw [show q_phone.c = k_phone from rfl, u_phone]
  exact p_phone
theorem uv_make : OneV k_make.args k_make.res (flatS sh SB 15) := by
  intro zs rs rs' hz hr hr' h h'
  match zs, rs, rs', hz, hr, hr', h, h' with
  | [z0, z1], [a0, a1, a2], [b0, b1, b2], _, _, _, h, h' =>
    have e : (sOf a0, sOf a1, a2) = (sOf b0, sOf b1, b2) := Eq.trans h (Eq.symm h')
    simp only [Prod.mk.injEq] at e
    exact rv7 e.1 e.2.1 e.2.2
theorem ok_make {wb : World} (hg : GOk [] ⟨wb, wb, fun _ => False, fun _ => False⟩) (h_phone : OQ wb q_phone) (h_email : OC wb k_email) : OQ wb q_make := by
  refine qok_vcb (SB := SB) (sh := sh) (q := q_make) (cal := (calQ [q_phone] [k_email])) (li := li_none) (rounds := 600) (d := 6) (lsh := lsh_none) (lens := [1, 1]) mx (fun _ _ _ => calQ_ok (cons0 h_phone nil0) (cons0 h_email nil0)) hg (by kernel_rfl) uv_make rfl rfl ?_
  rw [show q_make.c = k_make from rfl, u_make]
  exact p_make
theorem uv_rmake : OneV k_rmake.args k_rmake.res (flatS sh SB 18) := by
  intro zs rs rs' hz hr hr' h h'
  match zs, rs, rs', hz, hr, hr', h, h' with
  | [z0, z1], [a0, a1, a2], [b0, b1, b2], _, _, _, h, h' =>
    have e : (sOf a0, sOf a1, a2) = (sOf b0, sOf b1, b2) := Eq.trans h (Eq.symm h')
    simp only [Prod.mk.injEq] at e
    exact rv7 e.1 e.2.1 e.2.2
theorem ok_rmake {wb : World} (hg : GOk [] ⟨wb, wb, fun _ => False, fun _ => False⟩) (h_rphone : OQ wb q_rphone) (h_remail : OC wb k_remail) : OQ wb q_rmake := by
  refine qok_vcb (SB := SB) (sh := sh) (q := q_rmake) (cal := (calQ [q_rphone] [k_remail])) (li := li_none) (rounds := 600) (d := 6) (lsh := lsh_none) (lens := [1, 1]) mx (fun _ _ _ => calQ_ok (cons0 h_rphone nil0) (cons0 h_remail nil0)) hg (by kernel_rfl) uv_rmake rfl rfl ?_
  rw [show q_rmake.c = k_rmake from rfl, u_rmake]
  exact p_rmake
theorem uv_right : OneV k_right.args k_right.res (flatS sh SB 16) := by
  intro zs rs rs' hz hr hr' h h'
  match zs, rs, rs', hz, hr, hr', h, h' with
  | [z0, z1], [a0], [b0], _, _, _, h, h' =>
    exact rv3 (Eq.trans h (Eq.symm h'))
theorem ok_right {wb : World} (hg : GOk [] ⟨wb, wb, fun _ => False, fun _ => False⟩) (h_make : OQ wb q_make) : OQ wb q_right := by
  refine qok_vcb (SB := SB) (sh := sh) (q := q_right) (cal := (calQ [q_make] [])) (li := li_none) (rounds := 600) (d := 6) (lsh := lsh_none) (lens := [2]) mx (fun _ _ _ => calQ_ok (cons0 h_make nil0) nil0) hg (by kernel_rfl) uv_right rfl rfl ?_
  rw [show q_right.c = k_right from rfl, u_right]
  exact p_right
theorem uv_rright : OneV k_rright.args k_rright.res (flatS sh SB 19) := by
  intro zs rs rs' hz hr hr' h h'
  match zs, rs, rs', hz, hr, hr', h, h' with
  | [z0, z1], [a0], [b0], _, _, _, h, h' =>
    exact rv3 (Eq.trans h (Eq.symm h'))
theorem ok_rright {wb : World} (hg : GOk [] ⟨wb, wb, fun _ => False, fun _ => False⟩) (h_rmake : OQ wb q_rmake) : OQ wb q_rright := by
  refine qok_vcb (SB := SB) (sh := sh) (q := q_rright) (cal := (calQ [q_rmake] [])) (li := li_none) (rounds := 600) (d := 6) (lsh := lsh_none) (lens := [2]) mx (fun _ _ _ => calQ_ok (cons0 h_rmake nil0) nil0) hg (by kernel_rfl) uv_rright rfl rfl ?_
  rw [show q_rright.c = k_rright from rfl, u_rright]
  exact p_rright
theorem uv_text : OneV k_text.args k_text.res (flatS sh SB 20) := by
  intro zs rs rs' hz hr hr' h h'
  match zs, rs, rs', hz, hr, hr', h, h' with
  | [z0, z1], [a0], [b0], _, _, _, h, h' =>
    exact rv1 (Eq.trans h (Eq.symm h'))
theorem ok_text {wb : World} (hg : GOk [] ⟨wb, wb, fun _ => False, fun _ => False⟩)  : OQ wb q_text := by
  refine qok_vcb (SB := SB) (sh := sh) (q := q_text) (cal := (calQ [] [])) (li := li_none) (rounds := 600) (d := 6) (lsh := lsh_none) (lens := [2]) mx (fun _ _ _ => calQ_ok nil0 nil0) hg (by kernel_rfl) uv_text rfl rfl ?_
  rw [show q_text.c = k_text from rfl, u_text]
  exact p_text
theorem uv_alive : OneV k_alive.args k_alive.res (flatS sh SB 9) := by
  intro zs rs rs' hz hr hr' h h'
  match zs, rs, rs', hz, hr, hr', h, h' with
  | [], [a0], [b0], _, _, _, h, h' =>
    exact rv3 (Eq.trans h (Eq.symm h'))
theorem ok_alive {wb : World} (hg : GOk [] ⟨wb, wb, fun _ => False, fun _ => False⟩) (h_phone : OQ wb q_phone) (h_email : OC wb k_email) : OC wb k_alive := by
  refine Con.Ok.f (ok_vcb (SB := SB) (sh := sh) (c := k_alive) (cal := (calQ [q_phone] [k_email])) (li := li_none) (rounds := 600) (d := 6) (lsh := lsh_none) (lens := []) mx (fun _ _ _ => calQ_ok (cons0 h_phone nil0) (cons0 h_email nil0)) hg (by kernel_rfl) uv_alive rfl rfl ?_)
  rw [u_alive]
  exact p_alive
theorem uv_lemails : OneV k_lemails.args k_lemails.res (flatS sh SB 3) := by
  intro zs rs rs' hz hr hr' h h'
  match zs, rs, rs', hz, hr, hr', h, h' with
  | [z0], [a0], [b0], _, _, _, h, h' =>
    exact rv3 (Eq.trans h (Eq.symm h'))
theorem ok_lemails {wb : World} (hg : GOk [] ⟨wb, wb, fun _ => False, fun _ => False⟩) (h_alive : OC wb k_alive) (h_email : OC wb k_email) (h_remail : OC wb k_remail) : OC wb k_lemails := by
  refine Con.Ok.f (ok_vcb (SB := SB) (sh := sh) (c := k_lemails) (cal := (calQ [] [k_alive, k_email, k_remail])) (li := li_none) (rounds := 600) (d := 6) (lsh := lsh_none) (lens := [1]) mx (fun _ _ _ => calQ_ok nil0 (cons0 h_alive (cons0 h_email (cons0 h_remail nil0)))) hg (by kernel_rfl) uv_lemails rfl rfl ?_)
  rw [u_lemails]
  exact p_lemails
theorem uv_lphones : OneV k_lphones.args k_lphones.res (flatS sh SB 4) := by
  intro zs rs rs' hz hr hr' h h'
  match zs, rs, rs', hz, hr, hr', h, h' with
  | [z0, z1], [a0], [b0], _, _, _, h, h' =>
    exact rv3 (Eq.trans h (Eq.symm h'))
theorem ok_lphones {wb : World} (hg : GOk [] ⟨wb, wb, fun _ => False, fun _ => False⟩) (h_phone : OQ wb q_phone) (h_rphone : OQ wb q_rphone) (h_alive : OC wb k_alive) : OC wb k_lphones := by
  refine Con.Ok.f (ok_vcb (SB := SB) (sh := sh) (c := k_lphones) (cal := (calQ [q_phone, q_rphone] [k_alive])) (li := li_none) (rounds := 600) (d := 6) (lsh := lsh_none) (lens := [1, 1]) mx (fun _ _ _ => calQ_ok (cons0 h_phone (cons0 h_rphone nil0)) (cons0 h_alive nil0)) hg (by kernel_rfl) uv_lphones rfl rfl ?_)
  rw [u_lphones]
  exact p_lphones
theorem uv_rless : OneV k_rless.args k_rless.res (flatS sh SB 21) := by
  intro zs rs rs' hz hr hr' h h'
  match zs, rs, rs', hz, hr, hr', h, h' with
  | [z0, z1, z2, z3], [a0], [b0], _, _, _, h, h' =>
    exact rv3 (Eq.trans h (Eq.symm h'))
theorem ok_rless {wb : World} (hg : GOk [] ⟨wb, wb, fun _ => False, fun _ => False⟩)  : OC wb k_rless := by
  refine Con.Ok.f (ok_vcb (SB := SB) (sh := sh) (c := k_rless) (cal := (calQ [] [])) (li := li_none) (rounds := 600) (d := 6) (lsh := lsh_none) (lens := [2, 2]) mx (fun _ _ _ => calQ_ok nil0 nil0) hg (by kernel_rfl) uv_rless rfl rfl ?_)
  rw [u_rless]
  exact p_rless
theorem uv_less : OneV k_less.args k_less.res (flatS sh SB 14) := by
  intro zs rs rs' hz hr hr' h h'
  match zs, rs, rs', hz, hr, hr', h, h' with
  | [z0, z1, z2, z3], [a0], [b0], _, _, _, h, h' =>
    exact rv3 (Eq.trans h (Eq.symm h'))
theorem ok_less {wb : World} (hg : GOk [] ⟨wb, wb, fun _ => False, fun _ => False⟩)  : OC wb k_less := by
  refine Con.Ok.f (ok_vcb (SB := SB) (sh := sh) (c := k_less) (cal := (calQ [] [])) (li := li_none) (rounds := 600) (d := 6) (lsh := lsh_none) (lens := [2, 2]) mx (fun _ _ _ => calQ_ok nil0 nil0) hg (by kernel_rfl) uv_less rfl rfl ?_)
  rw [u_less]
  exact p_less
theorem uv_lorder : OneV k_lorder.args k_lorder.res (flatS sh SB 6) := by
  intro zs rs rs' hz hr hr' h h'
  match zs, rs, rs', hz, hr, hr', h, h' with
  | [z0, z1, z2, z3, z4, z5], [a0], [b0], _, _, _, h, h' =>
    exact rv3 (Eq.trans h (Eq.symm h'))
theorem ok_lorder {wb : World} (hg : GOk [] ⟨wb, wb, fun _ => False, fun _ => False⟩) (h_alive : OC wb k_alive) (h_less : OC wb k_less) : OC wb k_lorder := by
  refine Con.Ok.f (ok_vcb (SB := SB) (sh := sh) (c := k_lorder) (cal := (calQ [] [k_alive, k_less])) (li := li_none) (rounds := 600) (d := 6) (lsh := lsh_none) (lens := [2, 2, 2]) mx (fun _ _ _ => calQ_ok nil0 (cons0 h_alive (cons0 h_less nil0))) hg (by kernel_rfl) uv_lorder rfl rfl ?_)
  rw [u_lorder]
  exact p_lorder
theorem uv_lmakes : OneV k_lmakes.args k_lmakes.res (flatS sh SB 8) := by
  intro zs rs rs' hz hr hr' h h'
  match zs, rs, rs', hz, hr, hr', h, h' with
  | [z0, z1, z2, z3], [a0], [b0], _, _, _, h, h' =>
    exact rv3 (Eq.trans h (Eq.symm h'))
theorem ok_lmakes {wb : World} (hg : GOk [] ⟨wb, wb, fun _ => False, fun _ => False⟩) (h_make : OQ wb q_make) (h_rmake : OQ wb q_rmake) (h_right : OQ wb q_right) (h_rright : OQ wb q_rright) (h_text : OQ wb q_text) (h_alive : OC wb k_alive) (h_less : OC wb k_less) (h_rless : OC wb k_rless) : OQ wb q_lmakes := by
  refine qok_vcb (SB := SB) (sh := sh) (q := q_lmakes) (cal := (calQ [q_make, q_rmake, q_right, q_rright, q_text] [k_alive, k_less, k_rless])) (li := li_none) (rounds := 600) (d := 6) (lsh := lsh_none) (lens := [2, 2]) mx (fun _ _ _ => calQ_ok (cons0 h_make (cons0 h_rmake (cons0 h_right (cons0 h_rright (cons0 h_text nil0))))) (cons0 h_alive (cons0 h_less (cons0 h_rless nil0)))) hg (by kernel_rfl) uv_lmakes rfl rfl ?_
  rw [show q_lmakes.c = k_lmakes from rfl, u_lmakes]
  exact p_lmakes
end Go.Ad
