/- AdOk: a part of the proof of statements of this seat. -/
import Derived.Test.YtlecfjcooglpoaaDoorAdEqA
import Derived.Test.YtlecfjcooglpoaaDoorAdEqB
import Derived.Test.YtlecfjcooglpoaaDoorAdEqC
import Derived.Test.YtlecfjcooglpoaaDoorAdEqD
import Derived.KernelRfl
set_option linter.unusedVariables false
set_option maxRecDepth 100000
namespace Go.Ad
open Go Go.Rx Go.Proofs
abbrev OC (wb : World) (k : Con) : Prop := k.OkF Tryd.prog wb (flatS sh SB k.id)
abbrev OQ (wb : World) (q : QCon) : Prop := q.Ok Tryd.prog wb (flatS sh SB q.c.id)
abbrev OB (wb : World) (k : BCon) : Prop := k.Ok Tryd.prog wb (flatS sh SB k.id)
theorem mx : Tryd.prog.follows .mixedOrders = true := by kernel_rfl
theorem nil0 {α : Type} {p : α → Prop} : ∀ x ∈ ([] : List α), p x := fun _ h => by cases h
theorem cons0 {α : Type} {p : α → Prop} {a : α} {l : List α} (h : p a) (hl : ∀ x ∈ l, p x) : ∀ x ∈ a :: l, p x := fun x hx => by
  rcases List.mem_cons.1 hx with rfl | hx
  · exact h
  · exact hl x hx
theorem rv0 {a0 b0 : Int} (h0 : a0 = b0) : resVal [.int .i64 (-1) 9223372036854775807] [a0] = resVal [.int .i64 (-1) 9223372036854775807] [b0] := by
  show (.int .i64 a0 : Value) = (.int .i64 b0 : Value)
  rw [h0]
theorem rv1 {a0 a1 a2 b0 b1 b2 : Int} (h0 : sOf a0 = sOf b0) (h1 : sOf a1 = sOf b1) (h2 : a2 = b2) : resVal [.str, .str, .bool] [a0, a1, a2] = resVal [.str, .str, .bool] [b0, b1, b2] := by
  show (.tuple #[.string (bA (sOf a0)), .string (bA (sOf a1)), .bool (decide (a2 = 1))] : Value) = (.tuple #[.string (bA (sOf b0)), .string (bA (sOf b1)), .bool (decide (b2 = 1))] : Value)
  rw [h0, h1, h2]
theorem rv2 {a0 b0 : Int} (h0 : a0 = b0) : resVal [.bool] [a0] = resVal [.bool] [b0] := by
  show (.bool (decide (a0 = 1)) : Value) = (.bool (decide (b0 = 1)) : Value)
  rw [h0]
theorem rv3 {a0 b0 : Int} (h0 : sOf a0 = sOf b0) : resVal [.str] [a0] = resVal [.str] [b0] := by
  show (.string (bA (sOf a0)) : Value) = (.string (bA (sOf b0)) : Value)
  rw [h0]
theorem rv4 {a0 a1 a2 b0 b1 b2 : Int} (h0 : sOf a0 = sOf b0) (h1 : sOf a1 = sOf b1) (h2 : a2 = b2) : resVal [.str, .str, .int .i64 0 21] [a0, a1, a2] = resVal [.str, .str, .int .i64 0 21] [b0, b1, b2] := by
  show (.tuple #[.string (bA (sOf a0)), .string (bA (sOf a1)), .int .i64 a2] : Value) = (.tuple #[.string (bA (sOf b0)), .string (bA (sOf b1)), .int .i64 b2] : Value)
  rw [h0, h1, h2]
theorem rv5 {a0 b0 : Int} (h0 : a0 = b0) : resVal [.int .i64 (-1) 63] [a0] = resVal [.int .i64 (-1) 63] [b0] := by
  show (.int .i64 a0 : Value) = (.int .i64 b0 : Value)
  rw [h0]
theorem uv_cutcol : OneV k_cutcol.args k_cutcol.res (flatS sh SB 126) := by
  intro zs rs rs' hz hr hr' h h'
  match zs, rs, rs', hz, hr, hr', h, h' with
  | [z0], [a0, a1, a2], [b0, b1, b2], _, _, _, h, h' =>
    have e : (sOf a0, sOf a1, a2) = (sOf b0, sOf b1, b2) := Eq.trans h (Eq.symm h')
    simp only [Prod.mk.injEq] at e
    exact rv1 e.1 e.2.1 e.2.2
theorem ok_cutcol {wb : World} (hg : GOk [] ⟨wb, wb, fun _ => False, fun _ => False⟩) (h_ibs : OC wb k_ibs) : OC wb k_cutcol := by
  refine Con.Ok.f (ok_vcb (SB := SB) (sh := sh) (c := k_cutcol) (cal := (calQ [] [k_ibs])) (li := li_none) (rounds := 600) (d := 6) (lsh := lsh_none) (lens := [1]) mx (fun _ _ _ => calQ_ok nil0 (cons0 h_ibs nil0)) hg (by kernel_rfl) uv_cutcol rfl rfl ?_)
  rw [u_cutcol]
  exact p_cutcol
theorem uv_ionly : OneV k_ionly.args k_ionly.res (flatS sh SB 65) := by
  intro zs rs rs' hz hr hr' h h'
  match zs, rs, rs', hz, hr, hr', h, h' with
  | [z0, z1], [a0], [b0], _, _, _, h, h' =>
    exact rv2 (Eq.trans h (Eq.symm h'))
theorem ok_ionly {wb : World} (hg : GOk [] ⟨wb, wb, fun _ => False, fun _ => False⟩) (h_ibs : OC wb k_ibs) : OC wb k_ionly := by
  refine Con.Ok.f (ok_vcb (SB := SB) (sh := sh) (c := k_ionly) (cal := (calQ [] [k_ibs])) (li := li_ionly) (rounds := 600) (d := 6) (lsh := lsh_ionly) (lens := [1, 1]) mx (fun _ _ _ => calQ_ok nil0 (cons0 h_ibs nil0)) hg (by kernel_rfl) uv_ionly rfl rfl ?_)
  rw [u_ionly]
  exact p_ionly
theorem uv_tdm : OneV k_tdm.args k_tdm.res (flatS sh SB 122) := by
  intro zs rs rs' hz hr hr' h h'
  match zs, rs, rs', hz, hr, hr', h, h' with
  | [z0], [a0], [b0], _, _, _, h, h' =>
    exact rv3 (Eq.trans h (Eq.symm h'))
theorem ok_tdm {wb : World} (hg : GOk [] ⟨wb, wb, fun _ => False, fun _ => False⟩)  : OC wb k_tdm := by
  refine Con.Ok.f (ok_vcb (SB := SB) (sh := sh) (c := k_tdm) (cal := (calQ [] [])) (li := li_tdm) (rounds := 600) (d := 6) (lsh := lsh_tdm) (lens := [1]) mx (fun _ _ _ => calQ_ok nil0 nil0) hg (by kernel_rfl) uv_tdm rfl rfl ?_)
  rw [u_tdm]
  exact p_tdm
theorem uv_thost : OneV k_thost.args k_thost.res (flatS sh SB 123) := by
  intro zs rs rs' hz hr hr' h h'
  match zs, rs, rs', hz, hr, hr', h, h' with
  | [z0], [a0], [b0], _, _, _, h, h' =>
    exact rv3 (Eq.trans h (Eq.symm h'))
theorem ok_thost {wb : World} (hg : GOk [] ⟨wb, wb, fun _ => False, fun _ => False⟩)  : OC wb k_thost := by
  refine Con.Ok.f (ok_vcb (SB := SB) (sh := sh) (c := k_thost) (cal := (calQ [] [])) (li := li_thost) (rounds := 600) (d := 6) (lsh := lsh_thost) (lens := [1]) mx (fun _ _ _ => calQ_ok nil0 nil0) hg (by kernel_rfl) uv_thost rfl rfl ?_)
  rw [u_thost]
  exact p_thost
theorem uv_tdig : OneV k_tdig.args k_tdig.res (flatS sh SB 124) := by
  intro zs rs rs' hz hr hr' h h'
  match zs, rs, rs', hz, hr, hr', h, h' with
  | [z0], [a0], [b0], _, _, _, h, h' =>
    exact rv3 (Eq.trans h (Eq.symm h'))
theorem ok_tdig {wb : World} (hg : GOk [] ⟨wb, wb, fun _ => False, fun _ => False⟩)  : OC wb k_tdig := by
  refine Con.Ok.f (ok_vcb (SB := SB) (sh := sh) (c := k_tdig) (cal := (calQ [] [])) (li := li_tdig) (rounds := 600) (d := 6) (lsh := lsh_tdig) (lens := [1]) mx (fun _ _ _ => calQ_ok nil0 nil0) hg (by kernel_rfl) uv_tdig rfl rfl ?_)
  rw [u_tdig]
  exact p_tdig
theorem uv_host : OneV k_host.args k_host.res (flatS sh SB 47) := by
  intro zs rs rs' hz hr hr' h h'
  match zs, rs, rs', hz, hr, hr', h, h' with
  | [z0], [a0], [b0], _, _, _, h, h' =>
    exact rv2 (Eq.trans h (Eq.symm h'))
theorem ok_host {wb : World} (hg : GOk [] ⟨wb, wb, fun _ => False, fun _ => False⟩) (h_cdd : OQ wb q_cdd) (h_thost : OC wb k_thost) (h_tdm : OC wb k_tdm) (h_ionly : OC wb k_ionly) : OC wb k_host := by
  refine Con.Ok.f (ok_vcb (SB := SB) (sh := sh) (c := k_host) (cal := (calQ [q_cdd] [k_thost, k_tdm, k_ionly])) (li := li_none) (rounds := 600) (d := 6) (lsh := lsh_none) (lens := [1]) mx (fun _ _ _ => calQ_ok (cons0 h_cdd nil0) (cons0 h_thost (cons0 h_tdm (cons0 h_ionly nil0)))) hg (by kernel_rfl) uv_host rfl rfl ?_)
  rw [u_host]
  exact p_host
theorem uv_server : OneV k_server.args k_server.res (flatS sh SB 27) := by
  intro zs rs rs' hz hr hr' h h'
  match zs, rs, rs', hz, hr, hr', h, h' with
  | [z0], [a0], [b0], _, _, _, h, h' =>
    exact rv2 (Eq.trans h (Eq.symm h'))
theorem ok_server {wb : World} (hg : GOk [] ⟨wb, wb, fun _ => False, fun _ => False⟩) (h_cutcol : OC wb k_cutcol) (h_host : OC wb k_host) (h_tdig : OC wb k_tdig) (h_ionly : OC wb k_ionly) : OC wb k_server := by
  refine Con.Ok.f (ok_vcb (SB := SB) (sh := sh) (c := k_server) (cal := (calQ [] [k_cutcol, k_host, k_tdig, k_ionly])) (li := li_none) (rounds := 600) (d := 6) (lsh := lsh_none) (lens := [1]) mx (fun _ _ _ => calQ_ok nil0 (cons0 h_cutcol (cons0 h_host (cons0 h_tdig (cons0 h_ionly nil0))))) hg (by kernel_rfl) uv_server rfl rfl ?_)
  rw [u_server]
  exact p_server
theorem uv_small : OneV k_small.args k_small.res (flatS sh SB 50) := by
  intro zs rs rs' hz hr hr' h h'
  match zs, rs, rs', hz, hr, hr', h, h' with
  | [z0], [a0], [b0], _, _, _, h, h' =>
    exact rv2 (Eq.trans h (Eq.symm h'))
theorem ok_small {wb : World} (hg : GOk [] ⟨wb, wb, fun _ => False, fun _ => False⟩)  : OC wb k_small := by
  refine Con.Ok.f (ok_vcb (SB := SB) (sh := sh) (c := k_small) (cal := (calQ [] [])) (li := li_none) (rounds := 600) (d := 6) (lsh := lsh_none) (lens := [1]) mx (fun _ _ _ => calQ_ok nil0 nil0) hg (by kernel_rfl) uv_small rfl rfl ?_)
  rw [u_small]
  exact p_small
theorem uv_great : OneV k_great.args k_great.res (flatS sh SB 51) := by
  intro zs rs rs' hz hr hr' h h'
  match zs, rs, rs', hz, hr, hr', h, h' with
  | [z0], [a0], [b0], _, _, _, h, h' =>
    exact rv2 (Eq.trans h (Eq.symm h'))
theorem ok_great {wb : World} (hg : GOk [] ⟨wb, wb, fun _ => False, fun _ => False⟩)  : OC wb k_great := by
  refine Con.Ok.f (ok_vcb (SB := SB) (sh := sh) (c := k_great) (cal := (calQ [] [])) (li := li_none) (rounds := 600) (d := 6) (lsh := lsh_none) (lens := [1]) mx (fun _ _ _ => calQ_ok nil0 nil0) hg (by kernel_rfl) uv_great rfl rfl ?_)
  rw [u_great]
  exact p_great
theorem uv_digit : OneV k_digit.args k_digit.res (flatS sh SB 52) := by
  intro zs rs rs' hz hr hr' h h'
  match zs, rs, rs', hz, hr, hr', h, h' with
  | [z0], [a0], [b0], _, _, _, h, h' =>
    exact rv2 (Eq.trans h (Eq.symm h'))
theorem ok_digit {wb : World} (hg : GOk [] ⟨wb, wb, fun _ => False, fun _ => False⟩)  : OC wb k_digit := by
  refine Con.Ok.f (ok_vcb (SB := SB) (sh := sh) (c := k_digit) (cal := (calQ [] [])) (li := li_none) (rounds := 600) (d := 6) (lsh := lsh_none) (lens := [1]) mx (fun _ _ _ => calQ_ok nil0 nil0) hg (by kernel_rfl) uv_digit rfl rfl ?_)
  rw [u_digit]
  exact p_digit
theorem uv_rhost : OneV k_rhost.args k_rhost.res (flatS sh SB 30) := by
  intro zs rs rs' hz hr hr' h h'
  match zs, rs, rs', hz, hr, hr', h, h' with
  | [z0], [a0], [b0], _, _, _, h, h' =>
    exact rv2 (Eq.trans h (Eq.symm h'))
theorem ok_rhost {wb : World} (hg : GOk [] ⟨wb, wb, fun _ => False, fun _ => False⟩) (h_small : OC wb k_small) (h_great : OC wb k_great) (h_digit : OC wb k_digit) : OC wb k_rhost := by
  refine Con.Ok.f (ok_vcb (SB := SB) (sh := sh) (c := k_rhost) (cal := (calQ [] [k_small, k_great, k_digit])) (li := li_rhost) (rounds := 600) (d := 6) (lsh := lsh_rhost) (lens := [1]) mx (fun _ _ _ => calQ_ok nil0 (cons0 h_small (cons0 h_great (cons0 h_digit nil0)))) hg (by kernel_rfl) uv_rhost rfl rfl ?_)
  rw [u_rhost]
  exact p_rhost
theorem uv_tus : OneV k_tus.args k_tus.res (flatS sh SB 202) := by
  intro zs rs rs' hz hr hr' h h'
  match zs, rs, rs', hz, hr, hr', h, h' with
  | [z0], [a0], [b0], _, _, _, h, h' =>
    exact rv3 (Eq.trans h (Eq.symm h'))
theorem ok_tus {wb : World} (hg : GOk [] ⟨wb, wb, fun _ => False, fun _ => False⟩)  : OC wb k_tus := by
  refine Con.Ok.f (ok_vcb (SB := SB) (sh := sh) (c := k_tus) (cal := (calQ [] [])) (li := li_tus) (rounds := 600) (d := 6) (lsh := lsh_tus) (lens := [1]) mx (fun _ _ _ => calQ_ok nil0 nil0) hg (by kernel_rfl) uv_tus rfl rfl ?_)
  rw [u_tus]
  exact p_tus
theorem uv_trs : OneV k_trs.args k_trs.res (flatS sh SB 203) := by
  intro zs rs rs' hz hr hr' h h'
  match zs, rs, rs', hz, hr, hr', h, h' with
  | [z0], [a0], [b0], _, _, _, h, h' =>
    exact rv3 (Eq.trans h (Eq.symm h'))
theorem ok_trs {wb : World} (hg : GOk [] ⟨wb, wb, fun _ => False, fun _ => False⟩)  : OC wb k_trs := by
  refine Con.Ok.f (ok_vcb (SB := SB) (sh := sh) (c := k_trs) (cal := (calQ [] [])) (li := li_trs) (rounds := 600) (d := 6) (lsh := lsh_trs) (lens := [1]) mx (fun _ _ _ => calQ_ok nil0 nil0) hg (by kernel_rfl) uv_trs rfl rfl ?_)
  rw [u_trs]
  exact p_trs
theorem uv_user : OneV k_user.args k_user.res (flatS sh SB 200) := by
  intro zs rs rs' hz hr hr' h h'
  match zs, rs, rs', hz, hr, hr', h, h' with
  | [z0], [a0], [b0], _, _, _, h, h' =>
    exact rv2 (Eq.trans h (Eq.symm h'))
theorem ok_user {wb : World} (hg : GOk [] ⟨wb, wb, fun _ => False, fun _ => False⟩) (h_cutcol : OC wb k_cutcol) (h_tus : OC wb k_tus) (h_ionly : OC wb k_ionly) (h_server : OC wb k_server) : OC wb k_user := by
  refine Con.Ok.f (ok_vcb (SB := SB) (sh := sh) (c := k_user) (cal := (calQ [] [k_cutcol, k_tus, k_ionly, k_server])) (li := li_none) (rounds := 600) (d := 6) (lsh := lsh_none) (lens := [1]) mx (fun _ _ _ => calQ_ok nil0 (cons0 h_cutcol (cons0 h_tus (cons0 h_ionly (cons0 h_server nil0))))) hg (by kernel_rfl) uv_user rfl rfl ?_)
  rw [u_user]
  exact p_user
theorem uv_room : OneV k_room.args k_room.res (flatS sh SB 201) := by
  intro zs rs rs' hz hr hr' h h'
  match zs, rs, rs', hz, hr, hr', h, h' with
  | [z0], [a0], [b0], _, _, _, h, h' =>
    exact rv2 (Eq.trans h (Eq.symm h'))
theorem ok_room {wb : World} (hg : GOk [] ⟨wb, wb, fun _ => False, fun _ => False⟩) (h_cutcol : OC wb k_cutcol) (h_trs : OC wb k_trs) (h_ionly : OC wb k_ionly) (h_server : OC wb k_server) : OC wb k_room := by
  refine Con.Ok.f (ok_vcb (SB := SB) (sh := sh) (c := k_room) (cal := (calQ [] [k_cutcol, k_trs, k_ionly, k_server])) (li := li_none) (rounds := 600) (d := 6) (lsh := lsh_none) (lens := [1]) mx (fun _ _ _ => calQ_ok nil0 (cons0 h_cutcol (cons0 h_trs (cons0 h_ionly (cons0 h_server nil0))))) hg (by kernel_rfl) uv_room rfl rfl ?_)
  rw [u_room]
  exact p_room
theorem uv_colon : OneV k_colon.args k_colon.res (flatS sh SB 204) := by
  intro zs rs rs' hz hr hr' h h'
  match zs, rs, rs', hz, hr, hr', h, h' with
  | [z0], [a0], [b0], _, _, _, h, h' =>
    exact rv0 (Eq.trans h (Eq.symm h'))
theorem ok_colon {wb : World} (hg : GOk [] ⟨wb, wb, fun _ => False, fun _ => False⟩)  : OC wb k_colon := by
  refine Con.Ok.f (ok_vcb (SB := SB) (sh := sh) (c := k_colon) (cal := (calQ [] [])) (li := li_colon) (rounds := 600) (d := 6) (lsh := lsh_colon) (lens := [1]) mx (fun _ _ _ => calQ_ok nil0 nil0) hg (by kernel_rfl) uv_colon rfl rfl ?_)
  rw [u_colon]
  exact p_colon
theorem uv_rserver : OneV k_rserver.args k_rserver.res (flatS sh SB 205) := by
  intro zs rs rs' hz hr hr' h h'
  match zs, rs, rs', hz, hr, hr', h, h' with
  | [z0], [a0], [b0], _, _, _, h, h' =>
    exact rv2 (Eq.trans h (Eq.symm h'))
theorem ok_rserver {wb : World} (hg : GOk [] ⟨wb, wb, fun _ => False, fun _ => False⟩) (h_colon : OC wb k_colon) (h_rhost : OC wb k_rhost) (h_digit : OC wb k_digit) : OC wb k_rserver := by
  refine Con.Ok.f (ok_vcb (SB := SB) (sh := sh) (c := k_rserver) (cal := (calQ [] [k_colon, k_rhost, k_digit])) (li := li_rserver) (rounds := 600) (d := 6) (lsh := lsh_rserver) (lens := [1]) mx (fun _ _ _ => calQ_ok nil0 (cons0 h_colon (cons0 h_rhost (cons0 h_digit nil0)))) hg (by kernel_rfl) uv_rserver rfl rfl ?_)
  rw [u_rserver]
  exact p_rserver
theorem uv_partsu : OneV k_partsu.args k_partsu.res (flatS sh SB 206) := by
  intro zs rs rs' hz hr hr' h h'
  match zs, rs, rs', hz, hr, hr', h, h' with
  | [z0, z1], [a0, a1, a2], [b0, b1, b2], _, _, _, h, h' =>
    have e : (sOf a0, sOf a1, a2) = (sOf b0, sOf b1, b2) := Eq.trans h (Eq.symm h')
    simp only [Prod.mk.injEq] at e
    exact rv1 e.1 e.2.1 e.2.2
theorem ok_partsu {wb : World} (hg : GOk [] ⟨wb, wb, fun _ => False, fun _ => False⟩) (h_colon : OC wb k_colon) (h_rserver : OC wb k_rserver) : OC wb k_partsu := by
  refine Con.Ok.f (ok_vcb (SB := SB) (sh := sh) (c := k_partsu) (cal := (calQ [] [k_colon, k_rserver])) (li := li_none) (rounds := 600) (d := 6) (lsh := lsh_none) (lens := [1, 1]) mx (fun _ _ _ => calQ_ok nil0 (cons0 h_colon (cons0 h_rserver nil0))) hg (by kernel_rfl) uv_partsu rfl rfl ?_)
  rw [u_partsu]
  exact p_partsu
theorem uv_partsr : OneV k_partsr.args k_partsr.res (flatS sh SB 211) := by
  intro zs rs rs' hz hr hr' h h'
  match zs, rs, rs', hz, hr, hr', h, h' with
  | [z0, z1], [a0, a1, a2], [b0, b1, b2], _, _, _, h, h' =>
    have e : (sOf a0, sOf a1, a2) = (sOf b0, sOf b1, b2) := Eq.trans h (Eq.symm h')
    simp only [Prod.mk.injEq] at e
    exact rv1 e.1 e.2.1 e.2.2
theorem ok_partsr {wb : World} (hg : GOk [] ⟨wb, wb, fun _ => False, fun _ => False⟩) (h_colon : OC wb k_colon) (h_rserver : OC wb k_rserver) : OC wb k_partsr := by
  refine Con.Ok.f (ok_vcb (SB := SB) (sh := sh) (c := k_partsr) (cal := (calQ [] [k_colon, k_rserver])) (li := li_none) (rounds := 600) (d := 6) (lsh := lsh_none) (lens := [1, 1]) mx (fun _ _ _ => calQ_ok nil0 (cons0 h_colon (cons0 h_rserver nil0))) hg (by kernel_rfl) uv_partsr rfl rfl ?_)
  rw [u_partsr]
  exact p_partsr
theorem uv_ruser : OneV k_ruser.args k_ruser.res (flatS sh SB 207) := by
  intro zs rs rs' hz hr hr' h h'
  match zs, rs, rs', hz, hr, hr', h, h' with
  | [z0], [a0], [b0], _, _, _, h, h' =>
    exact rv2 (Eq.trans h (Eq.symm h'))
theorem ok_ruser {wb : World} (hg : GOk [] ⟨wb, wb, fun _ => False, fun _ => False⟩) (h_partsu : OC wb k_partsu) (h_small : OC wb k_small) (h_digit : OC wb k_digit) : OC wb k_ruser := by
  refine Con.Ok.f (ok_vcb (SB := SB) (sh := sh) (c := k_ruser) (cal := (calQ [] [k_partsu, k_small, k_digit])) (li := li_ruser) (rounds := 600) (d := 6) (lsh := lsh_ruser) (lens := [1]) mx (fun _ _ _ => calQ_ok nil0 (cons0 h_partsu (cons0 h_small (cons0 h_digit nil0)))) hg (by kernel_rfl) uv_ruser rfl rfl ?_)
  rw [u_ruser]
  exact p_ruser
theorem uv_rroom : OneV k_rroom.args k_rroom.res (flatS sh SB 208) := by
  intro zs rs rs' hz hr hr' h h'
  match zs, rs, rs', hz, hr, hr', h, h' with
  | [z0], [a0], [b0], _, _, _, h, h' =>
    exact rv2 (Eq.trans h (Eq.symm h'))
theorem ok_rroom {wb : World} (hg : GOk [] ⟨wb, wb, fun _ => False, fun _ => False⟩) (h_partsr : OC wb k_partsr) (h_small : OC wb k_small) (h_great : OC wb k_great) (h_digit : OC wb k_digit) : OC wb k_rroom := by
  refine Con.Ok.f (ok_vcb (SB := SB) (sh := sh) (c := k_rroom) (cal := (calQ [] [k_partsr, k_small, k_great, k_digit])) (li := li_rroom) (rounds := 600) (d := 6) (lsh := lsh_rroom) (lens := [1]) mx (fun _ _ _ => calQ_ok nil0 (cons0 h_partsr (cons0 h_small (cons0 h_great (cons0 h_digit nil0))))) hg (by kernel_rfl) uv_rroom rfl rfl ?_)
  rw [u_rroom]
  exact p_rroom
theorem uv_split : OneV k_split.args k_split.res (flatS sh SB 209) := by
  intro zs rs rs' hz hr hr' h h'
  match zs, rs, rs', hz, hr, hr', h, h' with
  | [z0], [a0, a1, a2], [b0, b1, b2], _, _, _, h, h' =>
    have e : (sOf a0, sOf a1, a2) = (sOf b0, sOf b1, b2) := Eq.trans h (Eq.symm h')
    simp only [Prod.mk.injEq] at e
    exact rv4 e.1 e.2.1 e.2.2
theorem ok_split {wb : World} (hg : GOk [] ⟨wb, wb, fun _ => False, fun _ => False⟩) (h_user : OC wb k_user) (h_room : OC wb k_room) (h_cutcol : OC wb k_cutcol) : OC wb k_split := by
  refine Con.Ok.f (ok_vcb (SB := SB) (sh := sh) (c := k_split) (cal := (calQ [] [k_user, k_room, k_cutcol])) (li := li_none) (rounds := 600) (d := 6) (lsh := lsh_none) (lens := [1]) mx (fun _ _ _ => calQ_ok nil0 (cons0 h_user (cons0 h_room (cons0 h_cutcol nil0)))) hg (by kernel_rfl) uv_split rfl rfl ?_)
  rw [u_split]
  exact p_split
theorem uv_rsplit : OneV k_rsplit.args k_rsplit.res (flatS sh SB 210) := by
  intro zs rs rs' hz hr hr' h h'
  match zs, rs, rs', hz, hr, hr', h, h' with
  | [z0], [a0, a1, a2], [b0, b1, b2], _, _, _, h, h' =>
    have e : (sOf a0, sOf a1, a2) = (sOf b0, sOf b1, b2) := Eq.trans h (Eq.symm h')
    simp only [Prod.mk.injEq] at e
    exact rv4 e.1 e.2.1 e.2.2
theorem ok_rsplit {wb : World} (hg : GOk [] ⟨wb, wb, fun _ => False, fun _ => False⟩) (h_ruser : OC wb k_ruser) (h_rroom : OC wb k_rroom) (h_colon : OC wb k_colon) : OC wb k_rsplit := by
  refine Con.Ok.f (ok_vcb (SB := SB) (sh := sh) (c := k_rsplit) (cal := (calQ [] [k_ruser, k_rroom, k_colon])) (li := li_none) (rounds := 600) (d := 6) (lsh := lsh_none) (lens := [1]) mx (fun _ _ _ => calQ_ok nil0 (cons0 h_ruser (cons0 h_rroom (cons0 h_colon nil0)))) hg (by kernel_rfl) uv_rsplit rfl rfl ?_)
  rw [u_rsplit]
  exact p_rsplit
theorem ok_renc {wb : World} (hg : GOk [] ⟨wb, wb, fun _ => False, fun _ => False⟩)  : OB wb k_renc := by
  refine bok_vcf (SB := SB) (sh := sh) (c := k_renc) (bcs := []) (cal := (calQ [] [])) (li := li_renc) (rounds := 600) (d := 6) (lsh := lsh_renc) (lens := [1]) mx (fun _ _ _ => calQ_ok nil0 nil0) hg nil0 (by kernel_rfl) rfl rfl ?_
  rw [u_renc]
  exact p_renc
theorem ok_rdec {wb : World} (hg : GOk [] ⟨wb, wb, fun _ => False, fun _ => False⟩) (h_renc : OB wb k_renc) : OB wb k_rdec := by
  refine bok_vcf (SB := SB) (sh := sh) (c := k_rdec) (bcs := [k_renc]) (cal := (calQ [] [])) (li := li_rdec) (rounds := 600) (d := 6) (lsh := lsh_rdec) (lens := [1]) mx (fun _ _ _ => calQ_ok nil0 nil0) hg (cons0 h_renc nil0) (by kernel_rfl) rfl rfl ?_
  rw [u_rdec]
  exact p_rdec
theorem ok_idec {wb : World} (hg : GOk [] ⟨wb, wb, fun _ => False, fun _ => False⟩) (h_ibsafe : OC wb k_ibsafe) : OB wb k_idec := by
  refine bok_vcf (SB := SB) (sh := sh) (c := k_idec) (bcs := []) (cal := (calQ [] [k_ibsafe])) (li := li_idec) (rounds := 600) (d := 6) (lsh := lsh_idec) (lens := [1]) mx (fun _ _ _ => calQ_ok nil0 (cons0 h_ibsafe nil0)) hg nil0 (by kernel_rfl) rfl rfl ?_
  rw [u_idec]
  exact p_idec
theorem ok_event {wb : World} (hg : GOk [] ⟨wb, wb, fun _ => False, fun _ => False⟩) (h_idec : OB wb k_idec) : OB wb k_event := by
  refine bok_vcf (SB := SB) (sh := sh) (c := k_event) (bcs := [k_idec]) (cal := (calQ [] [])) (li := li_none) (rounds := 600) (d := 6) (lsh := lsh_none) (lens := [1]) mx (fun _ _ _ => calQ_ok nil0 nil0) hg (cons0 h_idec nil0) (by kernel_rfl) rfl rfl ?_
  rw [u_event]
  exact p_event
theorem ok_revent {wb : World} (hg : GOk [] ⟨wb, wb, fun _ => False, fun _ => False⟩) (h_rdec : OB wb k_rdec) : OB wb k_revent := by
  refine bok_vcf (SB := SB) (sh := sh) (c := k_revent) (bcs := [k_rdec]) (cal := (calQ [] [])) (li := li_none) (rounds := 600) (d := 6) (lsh := lsh_none) (lens := [1]) mx (fun _ _ _ => calQ_ok nil0 nil0) hg (cons0 h_rdec nil0) (by kernel_rfl) rfl rfl ?_
  rw [u_revent]
  exact p_revent
theorem ok_ialive {wb : World} (hg : GOk [] ⟨wb, wb, fun _ => False, fun _ => False⟩) (h_split : OC wb k_split) (h_user : OC wb k_user) (h_room : OC wb k_room) (h_server : OC wb k_server) (h_ienc : OB wb k_ienc) (h_event : OB wb k_event) : OB wb k_ialive := by
  refine bok_vcf (SB := SB) (sh := sh) (c := k_ialive) (bcs := [k_ienc, k_event]) (cal := (calQ [] [k_split, k_user, k_room, k_server])) (li := li_none) (rounds := 600) (d := 6) (lsh := lsh_none) (lens := []) mx (fun _ _ _ => calQ_ok nil0 (cons0 h_split (cons0 h_user (cons0 h_room (cons0 h_server nil0))))) hg (cons0 h_ienc (cons0 h_event nil0)) (by kernel_rfl) rfl rfl ?_
  rw [u_ialive]
  exact p_ialive
theorem ok_lnames {wb : World} (hg : GOk [] ⟨wb, wb, fun _ => False, fun _ => False⟩) (h_split : OC wb k_split) (h_rsplit : OC wb k_rsplit) (h_server : OC wb k_server) (h_rserver : OC wb k_rserver) (h_user : OC wb k_user) (h_ruser : OC wb k_ruser) (h_room : OC wb k_room) (h_rroom : OC wb k_rroom) (h_ialive : OB wb k_ialive) (h_event : OB wb k_event) (h_revent : OB wb k_revent) : OB wb k_lnames := by
  refine bok_vcf (SB := SB) (sh := sh) (c := k_lnames) (bcs := [k_ialive, k_event, k_revent]) (cal := (calQ [] [k_split, k_rsplit, k_server, k_rserver, k_user, k_ruser, k_room, k_rroom])) (li := li_none) (rounds := 600) (d := 6) (lsh := lsh_none) (lens := [1]) mx (fun _ _ _ => calQ_ok nil0 (cons0 h_split (cons0 h_rsplit (cons0 h_server (cons0 h_rserver (cons0 h_user (cons0 h_ruser (cons0 h_room (cons0 h_rroom nil0))))))))) hg (cons0 h_ialive (cons0 h_event (cons0 h_revent nil0))) (by kernel_rfl) rfl rfl ?_
  rw [u_lnames]
  exact p_lnames
theorem ok_lkinds {wb : World} (hg : GOk [] ⟨wb, wb, fun _ => False, fun _ => False⟩) (h_server : OC wb k_server) (h_user : OC wb k_user) (h_room : OC wb k_room) (h_ialive : OB wb k_ialive) (h_event : OB wb k_event) : OB wb k_lkinds := by
  refine bok_vcf (SB := SB) (sh := sh) (c := k_lkinds) (bcs := [k_ialive, k_event]) (cal := (calQ [] [k_server, k_user, k_room])) (li := li_none) (rounds := 600) (d := 6) (lsh := lsh_none) (lens := [1]) mx (fun _ _ _ => calQ_ok nil0 (cons0 h_server (cons0 h_user (cons0 h_room nil0)))) hg (cons0 h_ialive (cons0 h_event nil0)) (by kernel_rfl) rfl rfl ?_
  rw [u_lkinds]
  exact p_lkinds
theorem ok_lports {wb : World} (hg : GOk [] ⟨wb, wb, fun _ => False, fun _ => False⟩) (h_server : OC wb k_server) (h_ialive : OB wb k_ialive) : OB wb k_lports := by
  refine bok_vcf (SB := SB) (sh := sh) (c := k_lports) (bcs := [k_ialive]) (cal := (calQ [] [k_server])) (li := li_lports) (rounds := 600) (d := 6) (lsh := lsh_lports) (lens := [1, 1]) mx (fun _ _ _ => calQ_ok nil0 (cons0 h_server nil0)) hg (cons0 h_ialive nil0) (by kernel_rfl) rfl rfl ?_
  rw [u_lports]
  exact p_lports
end Go.Ad
