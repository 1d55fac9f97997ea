/- Pak: a part of the proof of statements of this seat. -/
import Derived.Test.YtodhngllhbgndaaDoorPaj
import Derived.Test.YtodhngllhbgndaaDoorProg
import Derived.KernelRfl
import Derived.Shelf.Lay
import Derived.Shelf.LaySoft
import Derived.Shelf.Strings.Search1
import Derived.Shelf.Strings.Search3
import Derived.Shelf.Small.Strs
import Derived.BigCall
import Derived.Shelf.Strings.Builder1
import Derived.Lib.IndexMore
import Derived.Test.YtodhngllhbgndaaDoorPah
import Derived.WalkKit
import Derived.WideMake
import Derived.Laws.ResultCell
import Derived.Laws.Rows
import Derived.Lib.IndexAny
import Derived.OwnWalk
import Derived.Deep.RegionLaw
import Derived.Laws.CopyOwn
import Derived.Lib.Builder
import Derived.Lib.Overlaps
import Derived.Lib.AppendZerosOnto
import Derived.Test.YtodhngllhbgndaaDoorPag
import Derived.Shelf.Vars
import Derived.Test.YtodhngllhbgndaaDoorRows
import Derived.Test.YtodhngllhbgndaaDoorTie
import Derived.Test.YtodhngllhbgndaaDoorCards
import Derived.SevenTiedAt
import Derived.Lay
set_option maxRecDepth 100000
namespace Go.Ad
open Go Go.Rx Go.Proofs
theorem u_print (S K) : VcB sh lsh_print S K [1] (bdsL k_print.args) k_print.res (k_print.tree Tryd.prog [] (calQ [] []) li_print 600 6) = B_print S K := by kernel_rfl
theorem u_secr (S K) : VcB sh lsh_secr S K [1] (bdsL k_secr.args) k_secr.res (k_secr.tree Tryd.prog [] (calQ [] [k_print]) li_secr 600 6) = B_secr S K := by kernel_rfl
theorem u_sright (S K) : VcB sh lsh_none S K [10] (bdsL k_sright.args) k_sright.res (k_sright.tree Tryd.prog [] (calQ [] [k_secr, k_right]) li_none 600 6) = B_sright S K := by kernel_rfl
theorem u_sRight (S K) : VcF sh lsh_sRight S K [1] (bbds k_sRight.args) k_sRight.res (k_sRight.tree (bcOf []) Tryd.prog [] (calQ [] [k_sright]) li_sRight 600 6) = B_sRight S K := by kernel_rfl
theorem u_splace (S K) : VcF sh lsh_splace S K [1, 1] (bbds k_splace.args) k_splace.res (k_splace.tree (bcOf []) Tryd.prog [] (calQ [] []) li_splace 600 6) = B_splace S K := by kernel_rfl
theorem u_sover (S K) : VcB sh lsh_none S K [10, 1] (bdsL k_sover.args) k_sover.res (k_sover.tree Tryd.prog [] (calQ [] []) li_none 600 6) = B_sover S K := by kernel_rfl
theorem u_sFind (S K) : VcF sh lsh_none S K [1, 1] (bbds k_sFind.args) k_sFind.res (k_sFind.tree (bcOf [k_sRight, k_splace]) Tryd.prog [] (calQ [] []) li_none 600 6) = B_sFind S K := by kernel_rfl
theorem u_sopen (S K) : VcF sh lsh_none S K [1, 1, 10] (bbds k_sopen.args) k_sopen.res (k_sopen.tree (bcOf [k_sRight, k_splace]) Tryd.prog [] (calQ [] [k_sover]) li_none 600 6) = B_sopen S K := by kernel_rfl
theorem u_sShown (S K) : VcF sh lsh_none S K [1, 1, 10] (bbds k_sShown.args) k_sShown.res (k_sShown.tree (bcOf [k_sopen]) Tryd.prog [] (calQ [] []) li_none 600 6) = B_sShown S K := by kernel_rfl
theorem u_sSubmit (S K) : VcF sh lsh_none S K [1, 1, 10] (bbds k_sSubmit.args) k_sSubmit.res (k_sSubmit.tree (bcOf [k_sopen]) Tryd.prog [] (calQ [] []) li_none 600 6) = B_sSubmit S K := by kernel_rfl
theorem u_sprune (S K) : VcF sh lsh_sprune S K [1, 1] (bbds k_sprune.args) k_sprune.res (k_sprune.tree (bcOf []) Tryd.prog [] (calQ [] []) li_sprune 600 6) = B_sprune S K := by kernel_rfl
theorem u_sPrune (S K) : VcF sh lsh_none S K [1, 1] (bbds k_sPrune.args) k_sPrune.res (k_sPrune.tree (bcOf [k_sRight, k_sprune]) Tryd.prog [] (calQ [] []) li_none 600 6) = B_sPrune S K := by kernel_rfl
end Go.Ad

set_option maxRecDepth 100000
namespace Go.Ad
open Go Go.Rx Go.Proofs
theorem u_sReq (S K) : VcF sh lsh_sReq S K [1, 10] (bbds k_sReq.args) k_sReq.res (k_sReq.tree (icOf [k_sins] (bcOf [k_sRight, k_sprune, k_splace])) Tryd.prog [] (calQ [] [k_sright]) li_sReq 600 6) = B_sReq S K := by kernel_rfl
theorem u_sask (S K) : VcB sh lsh_none S K [] (bdsL k_sask.args) k_sask.res (k_sask.tree Tryd.prog [] (calQ [] []) li_none 600 6) = B_sask S K := by kernel_rfl
theorem u_salive (S K) : VcF sh lsh_none S K [] (bbds k_salive.args) k_salive.res (k_salive.tree (bcOf [k_sReq, k_sSubmit, k_sShown]) Tryd.prog [] (calQ [] [k_sask]) li_none 600 6) = B_salive S K := by kernel_rfl
theorem u_ySame (S K) : VcF sh lsh_ySame S K [1, 1] (bbds k_ySame.args) k_ySame.res (k_ySame.tree (bcOf []) Tryd.prog [] (calQ [] []) li_ySame 600 6) = B_ySame S K := by kernel_rfl
theorem u_lprunes (S K) : VcF sh lsh_lprunes S K [1, 1] (bbds k_lprunes.args) k_lprunes.res (k_lprunes.tree (bcOf [k_salive, k_sRight, k_sPrune, k_sFind, k_ySame]) Tryd.prog [] (calQ [] []) li_lprunes 600 6) = B_lprunes S K := by kernel_rfl
end Go.Ad

set_option maxRecDepth 100000
namespace Go.Ad
open Go Go.Rx Go.Proofs
theorem u_tpre (S K) : VcB sh lsh_none S K [1, 1] (bdsL k_tpre.args) k_tpre.res (k_tpre.tree Tryd.prog [] (calQ [] []) li_none 600 6) = B_tpre S K := by kernel_rfl
theorem u_ltoken (S K) : VcF sh lsh_ltoken S K [1] (bbds k_ltoken.args) k_ltoken.res (k_ltoken.tree (bcOf [k_salive, k_sReq, k_sSubmit, k_sShown]) Tryd.prog [] (calQ [] [k_sask]) li_ltoken 600 6) = B_ltoken S K := by kernel_rfl
end Go.Ad

set_option linter.unusedVariables false
set_option maxRecDepth 100000
namespace Go.Ad
open Go Go.Rx Go.Proofs
abbrev OC (wb : World) (k : Con) : Prop := k.OkF Tryd.prog wb (flatS sh SB k.id)
abbrev OQ (wb : World) (q : QCon) : Prop := q.Ok Tryd.prog wb (flatS sh SB q.c.id)
abbrev OB (wb : World) (k : BCon) : Prop := k.Ok Tryd.prog wb (flatS sh SB k.id)
abbrev OI (wb : World) (k : ICon) : Prop := k.Ok Tryd.prog wb (flatS sh SB k.id)
theorem mx : Tryd.prog.follows .mixedOrders = true := by kernel_rfl
theorem nil0 {α : Type} {p : α → Prop} : ∀ x ∈ ([] : List α), p x := fun _ h => by cases h
theorem cons0 {α : Type} {p : α → Prop} {a : α} {l : List α} (h : p a) (hl : ∀ x ∈ l, p x) : ∀ x ∈ a :: l, p x := fun x hx => by
  rcases List.mem_cons.1 hx with rfl | hx
  · exact h
  · exact hl x hx
theorem rv0 {a0 b0 : Int} (h0 : a0 = b0) : resVal [.int .i64 (-1) 9223372036854775807] [a0] = resVal [.int .i64 (-1) 9223372036854775807] [b0] := by
  show (.int .i64 a0 : Value) = (.int .i64 b0 : Value)
  rw [h0]
theorem rv1 {a0 b0 : Int} (h0 : sOf a0 = sOf b0) : resVal [.str] [a0] = resVal [.str] [b0] := by
  show (.string (bA (sOf a0)) : Value) = (.string (bA (sOf b0)) : Value)
  rw [h0]
theorem rv2 {a0 b0 : Int} (h0 : a0 = b0) : resVal [.bool] [a0] = resVal [.bool] [b0] := by
  show (.bool (decide (a0 = 1)) : Value) = (.bool (decide (b0 = 1)) : Value)
  rw [h0]
theorem rv3 {a0 a1 a2 b0 b1 b2 : Int} (h0 : sOf a0 = sOf b0) (h1 : sOf a1 = sOf b1) (h2 : a2 = b2) : resVal [.str, .str, .bool] [a0, a1, a2] = resVal [.str, .str, .bool] [b0, b1, b2] := by
  show (.tuple #[.string (bA (sOf a0)), .string (bA (sOf a1)), .bool (decide (a2 = 1))] : Value) = (.tuple #[.string (bA (sOf b0)), .string (bA (sOf b1)), .bool (decide (b2 = 1))] : Value)
  rw [h0, h1, h2]
theorem rv4 {a0 a1 a2 b0 b1 b2 : Int} (h0 : sOf a0 = sOf b0) (h1 : sOf a1 = sOf b1) (h2 : a2 = b2) : resVal [.mix [.str, .str], .bool] [a0, a1, a2] = resVal [.mix [.str, .str], .bool] [b0, b1, b2] := by
  show (.tuple #[.agg #[.string (bA (sOf a0)), .string (bA (sOf a1))], .bool (decide (a2 = 1))] : Value) = (.tuple #[.agg #[.string (bA (sOf b0)), .string (bA (sOf b1))], .bool (decide (b2 = 1))] : Value)
  rw [h0, h1, h2]
theorem rv5 {a0 a1 a2 b0 b1 b2 : Int} (h0 : sOf a0 = sOf b0) (h1 : a1 = b1) (h2 : a2 = b2) : resVal [.str, .bool, .bool] [a0, a1, a2] = resVal [.str, .bool, .bool] [b0, b1, b2] := by
  show (.tuple #[.string (bA (sOf a0)), .bool (decide (a1 = 1)), .bool (decide (a2 = 1))] : Value) = (.tuple #[.string (bA (sOf b0)), .bool (decide (b1 = 1)), .bool (decide (b2 = 1))] : Value)
  rw [h0, h1, h2]
theorem rv6 {a0 a1 b0 b1 : Int} (h0 : sOf a0 = sOf b0) (h1 : a1 = b1) : resVal [.str, .int .i64 0 21] [a0, a1] = resVal [.str, .int .i64 0 21] [b0, b1] := by
  show (.tuple #[.string (bA (sOf a0)), .int .i64 a1] : Value) = (.tuple #[.string (bA (sOf b0)), .int .i64 b1] : Value)
  rw [h0, h1]
theorem rv7 {a0 a1 a2 b0 b1 b2 : Int} (h0 : sOf a0 = sOf b0) (h1 : sOf a1 = sOf b1) (h2 : a2 = b2) : resVal [.mix [.str, .str], .int .i64 0 21] [a0, a1, a2] = resVal [.mix [.str, .str], .int .i64 0 21] [b0, b1, b2] := by
  show (.tuple #[.agg #[.string (bA (sOf a0)), .string (bA (sOf a1))], .int .i64 a2] : Value) = (.tuple #[.agg #[.string (bA (sOf b0)), .string (bA (sOf b1))], .int .i64 b2] : Value)
  rw [h0, h1, h2]
theorem rv8 {a0 a1 a2 a3 a4 a5 a6 a7 a8 a9 b0 b1 b2 b3 b4 b5 b6 b7 b8 b9 : Int} (h0 : a0 = b0) (h1 : sOf a1 = sOf b1) (h2 : sOf a2 = sOf b2) (h3 : sOf a3 = sOf b3) (h4 : sOf a4 = sOf b4) (h5 : a5 = b5) (h6 : a6 = b6) (h7 : a7 = b7) (h8 : a8 = b8) (h9 : a9 = b9) : resVal [.mix [.int .i64 (-9223372036854775808) 9223372036854775807, .str, .str, .str, .str, .int .i64 (-9223372036854775808) 9223372036854775807, .int .i64 (-9223372036854775808) 9223372036854775807, .int .i64 (-9223372036854775808) 9223372036854775807, .bool, .int .i64 (-9223372036854775808) 9223372036854775807]] [a0, a1, a2, a3, a4, a5, a6, a7, a8, a9] = resVal [.mix [.int .i64 (-9223372036854775808) 9223372036854775807, .str, .str, .str, .str, .int .i64 (-9223372036854775808) 9223372036854775807, .int .i64 (-9223372036854775808) 9223372036854775807, .int .i64 (-9223372036854775808) 9223372036854775807, .bool, .int .i64 (-9223372036854775808) 9223372036854775807]] [b0, b1, b2, b3, b4, b5, b6, b7, b8, b9] := by
  show (.agg #[.int .i64 a0, .string (bA (sOf a1)), .string (bA (sOf a2)), .string (bA (sOf a3)), .string (bA (sOf a4)), .int .i64 a5, .int .i64 a6, .int .i64 a7, .bool (decide (a8 = 1)), .int .i64 a9] : Value) = (.agg #[.int .i64 b0, .string (bA (sOf b1)), .string (bA (sOf b2)), .string (bA (sOf b3)), .string (bA (sOf b4)), .int .i64 b5, .int .i64 b6, .int .i64 b7, .bool (decide (b8 = 1)), .int .i64 b9] : Value)
  rw [h0, h1, h2, h3, h4, h5, h6, h7, h8, h9]
theorem uv_tlb : OneV k_tlb.args k_tlb.res (flatS sh SB 36) := by
  intro zs rs rs' hz hr hr' h h'
  match zs, rs, rs', hz, hr, hr', h, h' with
  | [z0, z1], [a0], [b0], _, _, _, h, h' =>
    exact rv1 (Eq.trans h (Eq.symm h'))
theorem ok_tlb {wb : World} (hg : GOk [] ⟨wb, wb, fun _ => False, fun _ => False⟩)  : OC wb k_tlb := by
  refine Con.Ok.f (ok_vcb (SB := SB) (sh := sh) (c := k_tlb) (cal := (calQ [] [])) (li := li_tlb) (rounds := 600) (d := 6) (lsh := lsh_tlb) (lens := [1, 1]) mx (fun _ _ _ => calQ_ok nil0 nil0) hg (by kernel_rfl) uv_tlb rfl rfl ?_)
  rw [u_tlb]
  exact p_tlb
theorem uv_trb : OneV k_trb.args k_trb.res (flatS sh SB 37) := by
  intro zs rs rs' hz hr hr' h h'
  match zs, rs, rs', hz, hr, hr', h, h' with
  | [z0, z1], [a0], [b0], _, _, _, h, h' =>
    exact rv1 (Eq.trans h (Eq.symm h'))
theorem ok_trb {wb : World} (hg : GOk [] ⟨wb, wb, fun _ => False, fun _ => False⟩)  : OC wb k_trb := by
  refine Con.Ok.f (ok_vcb (SB := SB) (sh := sh) (c := k_trb) (cal := (calQ [] [])) (li := li_trb) (rounds := 600) (d := 6) (lsh := lsh_trb) (lens := [1, 1]) mx (fun _ _ _ => calQ_ok nil0 nil0) hg (by kernel_rfl) uv_trb rfl rfl ?_)
  rw [u_trb]
  exact p_trb
theorem uv_tsp : OneV k_tsp.args k_tsp.res (flatS sh SB 120) := by
  intro zs rs rs' hz hr hr' h h'
  match zs, rs, rs', hz, hr, hr', h, h' with
  | [z0], [a0], [b0], _, _, _, h, h' =>
    exact rv1 (Eq.trans h (Eq.symm h'))
theorem ok_tsp {wb : World} (hg : GOk [] ⟨wb, wb, fun _ => False, fun _ => False⟩) (h_tlb : OC wb k_tlb) (h_trb : OC wb k_trb) : OC wb k_tsp := by
  refine Con.Ok.f (ok_vcb (SB := SB) (sh := sh) (c := k_tsp) (cal := (calQ [] [k_tlb, k_trb])) (li := li_none) (rounds := 600) (d := 6) (lsh := lsh_none) (lens := [1]) mx (fun _ _ _ => calQ_ok nil0 (cons0 h_tlb (cons0 h_trb nil0))) hg (by kernel_rfl) uv_tsp rfl rfl ?_)
  rw [u_tsp]
  exact p_tsp
theorem uv_tdot : OneV k_tdot.args k_tdot.res (flatS sh SB 121) := by
  intro zs rs rs' hz hr hr' h h'
  match zs, rs, rs', hz, hr, hr', h, h' with
  | [z0], [a0], [b0], _, _, _, h, h' =>
    exact rv1 (Eq.trans h (Eq.symm h'))
theorem ok_tdot {wb : World} (hg : GOk [] ⟨wb, wb, fun _ => False, fun _ => False⟩) (h_tlb : OC wb k_tlb) (h_trb : OC wb k_trb) : OC wb k_tdot := by
  refine Con.Ok.f (ok_vcb (SB := SB) (sh := sh) (c := k_tdot) (cal := (calQ [] [k_tlb, k_trb])) (li := li_none) (rounds := 600) (d := 6) (lsh := lsh_none) (lens := [1]) mx (fun _ _ _ => calQ_ok nil0 (cons0 h_tlb (cons0 h_trb nil0))) hg (by kernel_rfl) uv_tdot rfl rfl ?_)
  rw [u_tdot]
  exact p_tdot
theorem uv_cdot : OneV k_cdot.args k_cdot.res (flatS sh SB 127) := by
  intro zs rs rs' hz hr hr' h h'
  match zs, rs, rs', hz, hr, hr', h, h' with
  | [z0], [a0], [b0], _, _, _, h, h' =>
    exact rv2 (Eq.trans h (Eq.symm h'))
theorem ok_cdot {wb : World} (hg : GOk [] ⟨wb, wb, fun _ => False, fun _ => False⟩) (h_ibs : OC wb k_ibs) : OC wb k_cdot := by
  refine Con.Ok.f (ok_vcb (SB := SB) (sh := sh) (c := k_cdot) (cal := (calQ [] [k_ibs])) (li := li_none) (rounds := 600) (d := 6) (lsh := lsh_none) (lens := [1]) mx (fun _ _ _ => calQ_ok nil0 (cons0 h_ibs nil0)) hg (by kernel_rfl) uv_cdot rfl rfl ?_)
  rw [u_cdot]
  exact p_cdot
theorem uv_tdm : OneV k_tdm.args k_tdm.res (flatS sh SB 122) := by
  intro zs rs rs' hz hr hr' h h'
  match zs, rs, rs', hz, hr, hr', h, h' with
  | [z0], [a0], [b0], _, _, _, h, h' =>
    exact rv1 (Eq.trans h (Eq.symm h'))
theorem ok_tdm {wb : World} (hg : GOk [] ⟨wb, wb, fun _ => False, fun _ => False⟩)  : OC wb k_tdm := by
  refine Con.Ok.f (ok_vcb (SB := SB) (sh := sh) (c := k_tdm) (cal := (calQ [] [])) (li := li_tdm) (rounds := 600) (d := 6) (lsh := lsh_tdm) (lens := [1]) mx (fun _ _ _ => calQ_ok nil0 nil0) hg (by kernel_rfl) uv_tdm rfl rfl ?_)
  rw [u_tdm]
  exact p_tdm
theorem uv_cutat : OneV k_cutat.args k_cutat.res (flatS sh SB 125) := by
  intro zs rs rs' hz hr hr' h h'
  match zs, rs, rs', hz, hr, hr', h, h' with
  | [z0], [a0, a1, a2], [b0, b1, b2], _, _, _, h, h' =>
    have e : (sOf a0, sOf a1, a2) = (sOf b0, sOf b1, b2) := Eq.trans h (Eq.symm h')
    simp only [Prod.mk.injEq] at e
    exact rv3 e.1 e.2.1 e.2.2
theorem ok_cutat {wb : World} (hg : GOk [] ⟨wb, wb, fun _ => False, fun _ => False⟩) (h_ibs : OC wb k_ibs) : OC wb k_cutat := by
  refine Con.Ok.f (ok_vcb (SB := SB) (sh := sh) (c := k_cutat) (cal := (calQ [] [k_ibs])) (li := li_none) (rounds := 600) (d := 6) (lsh := lsh_none) (lens := [1]) mx (fun _ _ _ => calQ_ok nil0 (cons0 h_ibs nil0)) hg (by kernel_rfl) uv_cutat rfl rfl ?_)
  rw [u_cutat]
  exact p_cutat
theorem uv_cutcol : OneV k_cutcol.args k_cutcol.res (flatS sh SB 126) := by
  intro zs rs rs' hz hr hr' h h'
  match zs, rs, rs', hz, hr, hr', h, h' with
  | [z0], [a0, a1, a2], [b0, b1, b2], _, _, _, h, h' =>
    have e : (sOf a0, sOf a1, a2) = (sOf b0, sOf b1, b2) := Eq.trans h (Eq.symm h')
    simp only [Prod.mk.injEq] at e
    exact rv3 e.1 e.2.1 e.2.2
theorem ok_cutcol {wb : World} (hg : GOk [] ⟨wb, wb, fun _ => False, fun _ => False⟩) (h_ibs : OC wb k_ibs) : OC wb k_cutcol := by
  refine Con.Ok.f (ok_vcb (SB := SB) (sh := sh) (c := k_cutcol) (cal := (calQ [] [k_ibs])) (li := li_none) (rounds := 600) (d := 6) (lsh := lsh_none) (lens := [1]) mx (fun _ _ _ => calQ_ok nil0 (cons0 h_ibs nil0)) hg (by kernel_rfl) uv_cutcol rfl rfl ?_)
  rw [u_cutcol]
  exact p_cutcol
theorem uv_only : OneV k_only.args k_only.res (flatS sh SB 44) := by
  intro zs rs rs' hz hr hr' h h'
  match zs, rs, rs', hz, hr, hr', h, h' with
  | [z0, z1], [a0], [b0], _, _, _, h, h' =>
    exact rv2 (Eq.trans h (Eq.symm h'))
theorem ok_only {wb : World} (hg : GOk [] ⟨wb, wb, fun _ => False, fun _ => False⟩) (h_ibs : OC wb k_ibs) : OC wb k_only := by
  refine Con.Ok.f (ok_vcb (SB := SB) (sh := sh) (c := k_only) (cal := (calQ [] [k_ibs])) (li := li_only) (rounds := 600) (d := 6) (lsh := lsh_only) (lens := [1, 1]) mx (fun _ _ _ => calQ_ok nil0 (cons0 h_ibs nil0)) hg (by kernel_rfl) uv_only rfl rfl ?_)
  rw [u_only]
  exact p_only
theorem uv_ionly : OneV k_ionly.args k_ionly.res (flatS sh SB 65) := by
  intro zs rs rs' hz hr hr' h h'
  match zs, rs, rs', hz, hr, hr', h, h' with
  | [z0, z1], [a0], [b0], _, _, _, h, h' =>
    exact rv2 (Eq.trans h (Eq.symm h'))
theorem ok_ionly {wb : World} (hg : GOk [] ⟨wb, wb, fun _ => False, fun _ => False⟩) (h_ibs : OC wb k_ibs) : OC wb k_ionly := by
  refine Con.Ok.f (ok_vcb (SB := SB) (sh := sh) (c := k_ionly) (cal := (calQ [] [k_ibs])) (li := li_ionly) (rounds := 600) (d := 6) (lsh := lsh_ionly) (lens := [1, 1]) mx (fun _ _ _ => calQ_ok nil0 (cons0 h_ibs nil0)) hg (by kernel_rfl) uv_ionly rfl rfl ?_)
  rw [u_ionly]
  exact p_ionly
theorem uv_low : OneV k_low.args k_low.res (flatS sh SB 28) := by
  intro zs rs rs' hz hr hr' h h'
  match zs, rs, rs', hz, hr, hr', h, h' with
  | [z0], [a0], [b0], _, _, _, h, h' =>
    exact rv1 (Eq.trans h (Eq.symm h'))
theorem ok_low {wb : World} (hg : GOk [] ⟨wb, wb, fun _ => False, fun _ => False⟩)  : OC wb k_low := by
  refine Con.Ok.f (ok_vcb (SB := SB) (sh := sh) (c := k_low) (cal := (calQ [] [])) (li := li_low) (rounds := 600) (d := 6) (lsh := lsh_low) (lens := [1]) mx (fun _ _ _ => calQ_ok nil0 nil0) hg (by kernel_rfl) uv_low rfl rfl ?_)
  rw [u_low]
  exact p_low
theorem uv_thost : OneV k_thost.args k_thost.res (flatS sh SB 123) := by
  intro zs rs rs' hz hr hr' h h'
  match zs, rs, rs', hz, hr, hr', h, h' with
  | [z0], [a0], [b0], _, _, _, h, h' =>
    exact rv1 (Eq.trans h (Eq.symm h'))
theorem ok_thost {wb : World} (hg : GOk [] ⟨wb, wb, fun _ => False, fun _ => False⟩)  : OC wb k_thost := by
  refine Con.Ok.f (ok_vcb (SB := SB) (sh := sh) (c := k_thost) (cal := (calQ [] [])) (li := li_thost) (rounds := 600) (d := 6) (lsh := lsh_thost) (lens := [1]) mx (fun _ _ _ => calQ_ok nil0 nil0) hg (by kernel_rfl) uv_thost rfl rfl ?_)
  rw [u_thost]
  exact p_thost
theorem uv_tdig : OneV k_tdig.args k_tdig.res (flatS sh SB 124) := by
  intro zs rs rs' hz hr hr' h h'
  match zs, rs, rs', hz, hr, hr', h, h' with
  | [z0], [a0], [b0], _, _, _, h, h' =>
    exact rv1 (Eq.trans h (Eq.symm h'))
theorem ok_tdig {wb : World} (hg : GOk [] ⟨wb, wb, fun _ => False, fun _ => False⟩)  : OC wb k_tdig := by
  refine Con.Ok.f (ok_vcb (SB := SB) (sh := sh) (c := k_tdig) (cal := (calQ [] [])) (li := li_tdig) (rounds := 600) (d := 6) (lsh := lsh_tdig) (lens := [1]) mx (fun _ _ _ => calQ_ok nil0 nil0) hg (by kernel_rfl) uv_tdig rfl rfl ?_)
  rw [u_tdig]
  exact p_tdig
theorem uv_host : OneV k_host.args k_host.res (flatS sh SB 47) := by
  intro zs rs rs' hz hr hr' h h'
  match zs, rs, rs', hz, hr, hr', h, h' with
  | [z0], [a0], [b0], _, _, _, h, h' =>
    exact rv2 (Eq.trans h (Eq.symm h'))
theorem ok_host {wb : World} (hg : GOk [] ⟨wb, wb, fun _ => False, fun _ => False⟩) (h_cdd : OQ wb q_cdd) (h_thost : OC wb k_thost) (h_tdm : OC wb k_tdm) (h_ionly : OC wb k_ionly) : OC wb k_host := by
  refine Con.Ok.f (ok_vcb (SB := SB) (sh := sh) (c := k_host) (cal := (calQ [q_cdd] [k_thost, k_tdm, k_ionly])) (li := li_none) (rounds := 600) (d := 6) (lsh := lsh_none) (lens := [1]) mx (fun _ _ _ => calQ_ok (cons0 h_cdd nil0) (cons0 h_thost (cons0 h_tdm (cons0 h_ionly nil0)))) hg (by kernel_rfl) uv_host rfl rfl ?_)
  rw [u_host]
  exact p_host
theorem uv_server : OneV k_server.args k_server.res (flatS sh SB 27) := by
  intro zs rs rs' hz hr hr' h h'
  match zs, rs, rs', hz, hr, hr', h, h' with
  | [z0], [a0], [b0], _, _, _, h, h' =>
    exact rv2 (Eq.trans h (Eq.symm h'))
theorem ok_server {wb : World} (hg : GOk [] ⟨wb, wb, fun _ => False, fun _ => False⟩) (h_cutcol : OC wb k_cutcol) (h_host : OC wb k_host) (h_tdig : OC wb k_tdig) (h_ionly : OC wb k_ionly) : OC wb k_server := by
  refine Con.Ok.f (ok_vcb (SB := SB) (sh := sh) (c := k_server) (cal := (calQ [] [k_cutcol, k_host, k_tdig, k_ionly])) (li := li_none) (rounds := 600) (d := 6) (lsh := lsh_none) (lens := [1]) mx (fun _ _ _ => calQ_ok nil0 (cons0 h_cutcol (cons0 h_host (cons0 h_tdig (cons0 h_ionly nil0))))) hg (by kernel_rfl) uv_server rfl rfl ?_)
  rw [u_server]
  exact p_server
theorem uv_local : OneV k_local.args k_local.res (flatS sh SB 24) := by
  intro zs rs rs' hz hr hr' h h'
  match zs, rs, rs', hz, hr, hr', h, h' with
  | [z0], [a0], [b0], _, _, _, h, h' =>
    exact rv2 (Eq.trans h (Eq.symm h'))
theorem ok_local {wb : World} (hg : GOk [] ⟨wb, wb, fun _ => False, fun _ => False⟩) (h_cdd : OQ wb q_cdd) (h_only : OC wb k_only) (h_tdot : OC wb k_tdot) : OC wb k_local := by
  refine Con.Ok.f (ok_vcb (SB := SB) (sh := sh) (c := k_local) (cal := (calQ [q_cdd] [k_only, k_tdot])) (li := li_none) (rounds := 600) (d := 6) (lsh := lsh_none) (lens := [1]) mx (fun _ _ _ => calQ_ok (cons0 h_cdd nil0) (cons0 h_only (cons0 h_tdot nil0))) hg (by kernel_rfl) uv_local rfl rfl ?_)
  rw [u_local]
  exact p_local
theorem uv_tpre : OneV k_tpre.args k_tpre.res (flatS sh SB 34) := by
  intro zs rs rs' hz hr hr' h h'
  match zs, rs, rs', hz, hr, hr', h, h' with
  | [z0, z1], [a0], [b0], _, _, _, h, h' =>
    exact rv1 (Eq.trans h (Eq.symm h'))
theorem ok_tpre {wb : World} (hg : GOk [] ⟨wb, wb, fun _ => False, fun _ => False⟩)  : OC wb k_tpre := by
  refine Con.Ok.f (ok_vcb (SB := SB) (sh := sh) (c := k_tpre) (cal := (calQ [] [])) (li := li_none) (rounds := 600) (d := 6) (lsh := lsh_none) (lens := [1, 1]) mx (fun _ _ _ => calQ_ok nil0 nil0) hg (by kernel_rfl) uv_tpre rfl rfl ?_)
  rw [u_tpre]
  exact p_tpre
theorem uv_email : OneV k_email.args k_email.res (flatS sh SB 10) := by
  intro zs rs rs' hz hr hr' h h'
  match zs, rs, rs', hz, hr, hr', h, h' with
  | [z0], [a0, a1], [b0, b1], _, _, _, h, h' =>
    have e : (sOf a0, a1) = (sOf b0, b1) := Eq.trans h (Eq.symm h')
    simp only [Prod.mk.injEq] at e
    exact rv6 e.1 e.2
theorem ok_email {wb : World} (hg : GOk [] ⟨wb, wb, fun _ => False, fun _ => False⟩) (h_tsp : OC wb k_tsp) (h_cutat : OC wb k_cutat) (h_local : OC wb k_local) (h_cdot : OC wb k_cdot) (h_server : OC wb k_server) (h_low : OC wb k_low) (h_ibs : OC wb k_ibs) : OC wb k_email := by
  refine Con.Ok.f (ok_vcb (SB := SB) (sh := sh) (c := k_email) (cal := (calQ [] [k_tsp, k_cutat, k_local, k_cdot, k_server, k_low, k_ibs])) (li := li_none) (rounds := 600) (d := 6) (lsh := lsh_none) (lens := [1]) mx (fun _ _ _ => calQ_ok nil0 (cons0 h_tsp (cons0 h_cutat (cons0 h_local (cons0 h_cdot (cons0 h_server (cons0 h_low (cons0 h_ibs nil0)))))))) hg (by kernel_rfl) uv_email rfl rfl ?_)
  rw [u_email]
  exact p_email
theorem uv_phone : OneV k_phone.args k_phone.res (flatS sh SB 12) := by
  intro zs rs rs' hz hr hr' h h'
  match zs, rs, rs', hz, hr, hr', h, h' with
  | [z0, z1], [a0, a1], [b0, b1], _, _, _, h, h' =>
    have e : (sOf a0, a1) = (sOf b0, b1) := Eq.trans h (Eq.symm h')
    simp only [Prod.mk.injEq] at e
    exact rv6 e.1 e.2
theorem ok_phone {wb : World} (hg : GOk [] ⟨wb, wb, fun _ => False, fun _ => False⟩) (h_country : OC wb k_country) (h_bare : OC wb k_bare) (h_tpre : OC wb k_tpre) : OQ wb q_phone := by
  refine qok_vcb (SB := SB) (sh := sh) (q := q_phone) (cal := (calQ [] [k_country, k_bare, k_tpre])) (li := li_none) (rounds := 600) (d := 6) (lsh := lsh_none) (lens := [1, 1]) mx (fun _ _ _ => calQ_ok nil0 (cons0 h_country (cons0 h_bare (cons0 h_tpre nil0)))) hg (by kernel_rfl) uv_phone rfl rfl ?_
  rw [show q_phone.c = k_phone from rfl, u_phone]
  exact p_phone
theorem uv_make : OneV k_make.args k_make.res (flatS sh SB 15) := by
  intro zs rs rs' hz hr hr' h h'
  match zs, rs, rs', hz, hr, hr', h, h' with
  | [z0, z1], [a0, a1, a2], [b0, b1, b2], _, _, _, h, h' =>
    have e : (sOf a0, sOf a1, a2) = (sOf b0, sOf b1, b2) := Eq.trans h (Eq.symm h')
    simp only [Prod.mk.injEq] at e
    exact rv7 e.1 e.2.1 e.2.2
theorem ok_make {wb : World} (hg : GOk [] ⟨wb, wb, fun _ => False, fun _ => False⟩) (h_phone : OQ wb q_phone) (h_email : OC wb k_email) : OC wb k_make := by
  refine Con.Ok.f (ok_vcb (SB := SB) (sh := sh) (c := k_make) (cal := (calQ [q_phone] [k_email])) (li := li_none) (rounds := 600) (d := 6) (lsh := lsh_none) (lens := [1, 1]) mx (fun _ _ _ => calQ_ok (cons0 h_phone nil0) (cons0 h_email nil0)) hg (by kernel_rfl) uv_make rfl rfl ?_)
  rw [u_make]
  exact p_make
theorem uv_right : OneV k_right.args k_right.res (flatS sh SB 16) := by
  intro zs rs rs' hz hr hr' h h'
  match zs, rs, rs', hz, hr, hr', h, h' with
  | [z0, z1], [a0], [b0], _, _, _, h, h' =>
    exact rv2 (Eq.trans h (Eq.symm h'))
theorem ok_right {wb : World} (hg : GOk [] ⟨wb, wb, fun _ => False, fun _ => False⟩) (h_make : OC wb k_make) : OC wb k_right := by
  refine Con.Ok.f (ok_vcb (SB := SB) (sh := sh) (c := k_right) (cal := (calQ [] [k_make])) (li := li_none) (rounds := 600) (d := 6) (lsh := lsh_none) (lens := [2]) mx (fun _ _ _ => calQ_ok nil0 (cons0 h_make nil0)) hg (by kernel_rfl) uv_right rfl rfl ?_)
  rw [u_right]
  exact p_right
theorem uv_print : OneV k_print.args k_print.res (flatS sh SB 400) := by
  intro zs rs rs' hz hr hr' h h'
  match zs, rs, rs', hz, hr, hr', h, h' with
  | [z0], [a0], [b0], _, _, _, h, h' =>
    exact rv2 (Eq.trans h (Eq.symm h'))
theorem ok_print {wb : World} (hg : GOk [] ⟨wb, wb, fun _ => False, fun _ => False⟩)  : OC wb k_print := by
  refine Con.Ok.f (ok_vcb (SB := SB) (sh := sh) (c := k_print) (cal := (calQ [] [])) (li := li_print) (rounds := 600) (d := 6) (lsh := lsh_print) (lens := [1]) mx (fun _ _ _ => calQ_ok nil0 nil0) hg (by kernel_rfl) uv_print rfl rfl ?_)
  rw [u_print]
  exact p_print
theorem uv_secr : OneV k_secr.args k_secr.res (flatS sh SB 401) := by
  intro zs rs rs' hz hr hr' h h'
  match zs, rs, rs', hz, hr, hr', h, h' with
  | [z0], [a0], [b0], _, _, _, h, h' =>
    exact rv2 (Eq.trans h (Eq.symm h'))
theorem ok_secr {wb : World} (hg : GOk [] ⟨wb, wb, fun _ => False, fun _ => False⟩) (h_print : OC wb k_print) : OC wb k_secr := by
  refine Con.Ok.f (ok_vcb (SB := SB) (sh := sh) (c := k_secr) (cal := (calQ [] [k_print])) (li := li_secr) (rounds := 600) (d := 6) (lsh := lsh_secr) (lens := [1]) mx (fun _ _ _ => calQ_ok nil0 (cons0 h_print nil0)) hg (by kernel_rfl) uv_secr rfl rfl ?_)
  rw [u_secr]
  exact p_secr
theorem uv_sright : OneV k_sright.args k_sright.res (flatS sh SB 402) := by
  intro zs rs rs' hz hr hr' h h'
  match zs, rs, rs', hz, hr, hr', h, h' with
  | [z0, z1, z2, z3, z4, z5, z6, z7, z8, z9], [a0], [b0], _, _, _, h, h' =>
    exact rv2 (Eq.trans h (Eq.symm h'))
theorem ok_sright {wb : World} (hg : GOk [] ⟨wb, wb, fun _ => False, fun _ => False⟩) (h_secr : OC wb k_secr) (h_right : OC wb k_right) : OC wb k_sright := by
  refine Con.Ok.f (ok_vcb (SB := SB) (sh := sh) (c := k_sright) (cal := (calQ [] [k_secr, k_right])) (li := li_none) (rounds := 600) (d := 6) (lsh := lsh_none) (lens := [10]) mx (fun _ _ _ => calQ_ok nil0 (cons0 h_secr (cons0 h_right nil0))) hg (by kernel_rfl) uv_sright rfl rfl ?_)
  rw [u_sright]
  exact p_sright
theorem ok_sRight {wb : World} (hg : GOk [] ⟨wb, wb, fun _ => False, fun _ => False⟩) (h_sright : OC wb k_sright) : OB wb k_sRight := by
  refine bok_vcf (SB := SB) (sh := sh) (c := k_sRight) (bcs := []) (cal := (calQ [] [k_sright])) (li := li_sRight) (rounds := 600) (d := 6) (lsh := lsh_sRight) (lens := [1]) mx (fun _ _ _ => calQ_ok nil0 (cons0 h_sright nil0)) hg nil0 (by kernel_rfl) rfl rfl ?_
  rw [u_sRight]
  exact p_sRight
theorem ok_splace {wb : World} (hg : GOk [] ⟨wb, wb, fun _ => False, fun _ => False⟩)  : OB wb k_splace := by
  refine bok_vcf (SB := SB) (sh := sh) (c := k_splace) (bcs := []) (cal := (calQ [] [])) (li := li_splace) (rounds := 600) (d := 6) (lsh := lsh_splace) (lens := [1, 1]) mx (fun _ _ _ => calQ_ok nil0 nil0) hg nil0 (by kernel_rfl) rfl rfl ?_
  rw [u_splace]
  exact p_splace
theorem uv_sover : OneV k_sover.args k_sover.res (flatS sh SB 417) := by
  intro zs rs rs' hz hr hr' h h'
  match zs, rs, rs', hz, hr, hr', h, h' with
  | [z0, z1, z2, z3, z4, z5, z6, z7, z8, z9, z10], [a0], [b0], _, _, _, h, h' =>
    exact rv2 (Eq.trans h (Eq.symm h'))
theorem ok_sover {wb : World} (hg : GOk [] ⟨wb, wb, fun _ => False, fun _ => False⟩)  : OC wb k_sover := by
  refine Con.Ok.f (ok_vcb (SB := SB) (sh := sh) (c := k_sover) (cal := (calQ [] [])) (li := li_none) (rounds := 600) (d := 6) (lsh := lsh_none) (lens := [10, 1]) mx (fun _ _ _ => calQ_ok nil0 nil0) hg (by kernel_rfl) uv_sover rfl rfl ?_)
  rw [u_sover]
  exact p_sover
theorem ok_sFind {wb : World} (hg : GOk [] ⟨wb, wb, fun _ => False, fun _ => False⟩) (h_sRight : OB wb k_sRight) (h_splace : OB wb k_splace) : OB wb k_sFind := by
  refine bok_vcf (SB := SB) (sh := sh) (c := k_sFind) (bcs := [k_sRight, k_splace]) (cal := (calQ [] [])) (li := li_none) (rounds := 600) (d := 6) (lsh := lsh_none) (lens := [1, 1]) mx (fun _ _ _ => calQ_ok nil0 nil0) hg (cons0 h_sRight (cons0 h_splace nil0)) (by kernel_rfl) rfl rfl ?_
  rw [u_sFind]
  exact p_sFind
theorem ok_sopen {wb : World} (hg : GOk [] ⟨wb, wb, fun _ => False, fun _ => False⟩) (h_sover : OC wb k_sover) (h_sRight : OB wb k_sRight) (h_splace : OB wb k_splace) : OB wb k_sopen := by
  refine bok_vcf (SB := SB) (sh := sh) (c := k_sopen) (bcs := [k_sRight, k_splace]) (cal := (calQ [] [k_sover])) (li := li_none) (rounds := 600) (d := 6) (lsh := lsh_none) (lens := [1, 1, 10]) mx (fun _ _ _ => calQ_ok nil0 (cons0 h_sover nil0)) hg (cons0 h_sRight (cons0 h_splace nil0)) (by kernel_rfl) rfl rfl ?_
  rw [u_sopen]
  exact p_sopen
theorem ok_sShown {wb : World} (hg : GOk [] ⟨wb, wb, fun _ => False, fun _ => False⟩) (h_sopen : OB wb k_sopen) : OB wb k_sShown := by
  refine bok_vcf (SB := SB) (sh := sh) (c := k_sShown) (bcs := [k_sopen]) (cal := (calQ [] [])) (li := li_none) (rounds := 600) (d := 6) (lsh := lsh_none) (lens := [1, 1, 10]) mx (fun _ _ _ => calQ_ok nil0 nil0) hg (cons0 h_sopen nil0) (by kernel_rfl) rfl rfl ?_
  rw [u_sShown]
  exact p_sShown
theorem ok_sSubmit {wb : World} (hg : GOk [] ⟨wb, wb, fun _ => False, fun _ => False⟩) (h_sopen : OB wb k_sopen) : OB wb k_sSubmit := by
  refine bok_vcf (SB := SB) (sh := sh) (c := k_sSubmit) (bcs := [k_sopen]) (cal := (calQ [] [])) (li := li_none) (rounds := 600) (d := 6) (lsh := lsh_none) (lens := [1, 1, 10]) mx (fun _ _ _ => calQ_ok nil0 nil0) hg (cons0 h_sopen nil0) (by kernel_rfl) rfl rfl ?_
  rw [u_sSubmit]
  exact p_sSubmit
theorem ok_sprune {wb : World} (hg : GOk [] ⟨wb, wb, fun _ => False, fun _ => False⟩)  : OB wb k_sprune := by
  refine bok_vcf (SB := SB) (sh := sh) (c := k_sprune) (bcs := []) (cal := (calQ [] [])) (li := li_sprune) (rounds := 600) (d := 6) (lsh := lsh_sprune) (lens := [1, 1]) mx (fun _ _ _ => calQ_ok nil0 nil0) hg nil0 (by kernel_rfl) rfl rfl ?_
  rw [u_sprune]
  exact p_sprune
theorem ok_sPrune {wb : World} (hg : GOk [] ⟨wb, wb, fun _ => False, fun _ => False⟩) (h_sRight : OB wb k_sRight) (h_sprune : OB wb k_sprune) : OB wb k_sPrune := by
  refine bok_vcf (SB := SB) (sh := sh) (c := k_sPrune) (bcs := [k_sRight, k_sprune]) (cal := (calQ [] [])) (li := li_none) (rounds := 600) (d := 6) (lsh := lsh_none) (lens := [1, 1]) mx (fun _ _ _ => calQ_ok nil0 nil0) hg (cons0 h_sRight (cons0 h_sprune nil0)) (by kernel_rfl) rfl rfl ?_
  rw [u_sPrune]
  exact p_sPrune
theorem ok_sReq {wb : World} (hg : GOk [] ⟨wb, wb, fun _ => False, fun _ => False⟩) (h_sright : OC wb k_sright) (h_sRight : OB wb k_sRight) (h_sprune : OB wb k_sprune) (h_splace : OB wb k_splace) (h_sins : OI wb k_sins) : OB wb k_sReq := by
  refine bok_bc (SB := SB) (sh := sh) (c := k_sReq) (bc := (icOf [k_sins] (bcOf [k_sRight, k_sprune, k_splace]))) (cal := (calQ [] [k_sright])) (li := li_sReq) (rounds := 600) (d := 6) (lsh := lsh_sReq) (lens := [1, 10]) mx (fun _ _ _ => calQ_ok nil0 (cons0 h_sright nil0)) hg (fun _ _ _ => icOf_ok (bcOf_ok (cons0 h_sRight (cons0 h_sprune (cons0 h_splace nil0)))) (cons0 h_sins nil0)) (by kernel_rfl) rfl rfl ?_
  rw [u_sReq]
  exact p_sReq
theorem uv_sask : OneV k_sask.args k_sask.res (flatS sh SB 418) := by
  intro zs rs rs' hz hr hr' h h'
  match zs, rs, rs', hz, hr, hr', h, h' with
  | [], [a0, a1, a2, a3, a4, a5, a6, a7, a8, a9], [b0, b1, b2, b3, b4, b5, b6, b7, b8, b9], _, _, _, h, h' =>
    have h : [a0, a1, a2, a3, a4, a5, a6, a7, a8, a9] = ask0 := h
    have h' : [b0, b1, b2, b3, b4, b5, b6, b7, b8, b9] = ask0 := h'
    have e := h.trans h'.symm
    simp only [List.cons.injEq, and_true] at e
    exact rv8 e.1 (congrArg sOf e.2.1) (congrArg sOf e.2.2.1) (congrArg sOf e.2.2.2.1) (congrArg sOf e.2.2.2.2.1) e.2.2.2.2.2.1 e.2.2.2.2.2.2.1 e.2.2.2.2.2.2.2.1 e.2.2.2.2.2.2.2.2.1 e.2.2.2.2.2.2.2.2.2
theorem ok_sask {wb : World} (hg : GOk [] ⟨wb, wb, fun _ => False, fun _ => False⟩)  : OC wb k_sask := by
  refine Con.Ok.f (ok_vcb (SB := SB) (sh := sh) (c := k_sask) (cal := (calQ [] [])) (li := li_none) (rounds := 600) (d := 6) (lsh := lsh_none) (lens := []) mx (fun _ _ _ => calQ_ok nil0 nil0) hg (by kernel_rfl) uv_sask rfl rfl ?_)
  rw [u_sask]
  exact p_sask
theorem ok_salive {wb : World} (hg : GOk [] ⟨wb, wb, fun _ => False, fun _ => False⟩) (h_sask : OC wb k_sask) (h_sReq : OB wb k_sReq) (h_sSubmit : OB wb k_sSubmit) (h_sShown : OB wb k_sShown) : OB wb k_salive := by
  refine bok_vcf (SB := SB) (sh := sh) (c := k_salive) (bcs := [k_sReq, k_sSubmit, k_sShown]) (cal := (calQ [] [k_sask])) (li := li_none) (rounds := 600) (d := 6) (lsh := lsh_none) (lens := []) mx (fun _ _ _ => calQ_ok nil0 (cons0 h_sask nil0)) hg (cons0 h_sReq (cons0 h_sSubmit (cons0 h_sShown nil0))) (by kernel_rfl) rfl rfl ?_
  rw [u_salive]
  exact p_salive
theorem ok_ySame {wb : World} (hg : GOk [] ⟨wb, wb, fun _ => False, fun _ => False⟩)  : OB wb k_ySame := by
  refine bok_vcf (SB := SB) (sh := sh) (c := k_ySame) (bcs := []) (cal := (calQ [] [])) (li := li_ySame) (rounds := 600) (d := 6) (lsh := lsh_ySame) (lens := [1, 1]) mx (fun _ _ _ => calQ_ok nil0 nil0) hg nil0 (by kernel_rfl) rfl rfl ?_
  rw [u_ySame]
  exact p_ySame
theorem ok_ltoken {wb : World} (hg : GOk [] ⟨wb, wb, fun _ => False, fun _ => False⟩) (h_sask : OC wb k_sask) (h_salive : OB wb k_salive) (h_sReq : OB wb k_sReq) (h_sSubmit : OB wb k_sSubmit) (h_sShown : OB wb k_sShown) : OB wb k_ltoken := by
  refine bok_vcf (SB := SB) (sh := sh) (c := k_ltoken) (bcs := [k_salive, k_sReq, k_sSubmit, k_sShown]) (cal := (calQ [] [k_sask])) (li := li_ltoken) (rounds := 600) (d := 6) (lsh := lsh_ltoken) (lens := [1]) mx (fun _ _ _ => calQ_ok nil0 (cons0 h_sask nil0)) hg (cons0 h_salive (cons0 h_sReq (cons0 h_sSubmit (cons0 h_sShown nil0)))) (by kernel_rfl) rfl rfl ?_
  rw [u_ltoken]
  exact p_ltoken
theorem ok_lprunes {wb : World} (hg : GOk [] ⟨wb, wb, fun _ => False, fun _ => False⟩) (h_salive : OB wb k_salive) (h_sRight : OB wb k_sRight) (h_sPrune : OB wb k_sPrune) (h_sFind : OB wb k_sFind) (h_ySame : OB wb k_ySame) : OB wb k_lprunes := by
  refine bok_vcf (SB := SB) (sh := sh) (c := k_lprunes) (bcs := [k_salive, k_sRight, k_sPrune, k_sFind, k_ySame]) (cal := (calQ [] [])) (li := li_lprunes) (rounds := 600) (d := 6) (lsh := lsh_lprunes) (lens := [1, 1]) mx (fun _ _ _ => calQ_ok nil0 nil0) hg (cons0 h_salive (cons0 h_sRight (cons0 h_sPrune (cons0 h_sFind (cons0 h_ySame nil0))))) (by kernel_rfl) rfl rfl ?_
  rw [u_lprunes]
  exact p_lprunes
end Go.Ad

/- The address seat: contracts of the library that this seat lays, . -/
set_option linter.unusedVariables false
namespace Go.Proofs
open Go.Shelf Go.RowKit
shelf_lay Lays.n137 Nm 137 at Tryd as Tryd.lays137
theorem Tryd.strings_IndexByte (s : ByteArray) (c : Int) (w : World) :
    Calls Tryd.prog 73 #[.string s, .int .u8 c] w fun e w' => e = .returned (.int .i64 (Lib.indexByte s.data.toList c.toNat.toUInt8)) ∧ w' = w := Any.strings_IndexByte Tryd.lays137 s c w
shelf_lay Lays.n144 Nm 144 at Tryd as Tryd.lays144
theorem Tryd.strings_Contains (s sub : ByteArray) (m : Int) (w : World) (hs : s.size < 4294967281) (hm : w.cell? ⟨0, 0, none⟩ = some (.int .i64 m)) :
    Calls Tryd.prog 51 #[.string s, .string sub] w fun e w' => e = .returned (.bool (Lib.contains s.data.toList sub.data.toList)) ∧ w' = w := Any.strings_Contains Tryd.lays144 s sub m w hs hm
end Go.Proofs

/- The address seat: contracts of the library that this seat lays, and strings.Builder's WriteByte by a walk of its own. -/
set_option linter.unusedVariables false
namespace Go.Proofs
open Go.Shelf Go.RowKit
shelf_lay Lays.n169 Nm 169 at Tryd as Tryd.lays169
theorem Tryd.Builder_Extra_169 : Builder.Extra Tryd.prog Tryd.lays169_ren where
  sizeBuilder := by kernel_rfl
  liesBuilder := by kernel_rfl
  t5 := Tryd.underlying5
  a5 := Tryd.isAgg5
  z5 := Tryd.sizeOf5
  v5 := Tryd.zeroValue5
  infoByte := by kernel_rfl
  cellsByte := by kernel_rfl
  sizeByte := by kernel_rfl
  neB5 := by decide
theorem Tryd.Builder_String_any (B b : Nat) (l : List UInt8) (w : World) (h : Lib.IsBuilder 103 5 B b (Lib.byteCells l) w) (hBw : B ≤ w.heap.size) :
    Calls Tryd.prog 74 #[.pointer (some ⟨b, 0, none⟩)] w fun e w' => e = .returned (.string ⟨l.toArray⟩) ∧ Below B w w' := Any.Builder_String_any Tryd.lays169 Tryd.Builder_Extra_169 B b l w h hBw
shelf_lay Lays.n170 Nm 170 at Tryd as Tryd.lays170
theorem Tryd.Builder_Len (B b : Nat) (bs : List Value) (w : World) (h : Lib.IsBuilder 103 5 B b bs w) :
    Calls Tryd.prog 72 #[.pointer (some ⟨b, 0, none⟩)] w fun e w' => e = .returned (.int .i64 bs.length) ∧ w' = w := Any.Builder_Len Tryd.lays170 B b bs w h
set_option maxHeartbeats 1000000 in
set_option maxRecDepth 100000 in
theorem Tryd.Builder_copyCheck_used (b : Nat) (w : World) (h0 : w.cell? ⟨b, 0, none⟩ = some (.pointer (some ⟨b, 0, none⟩))) :
    Calls Tryd.prog 84 #[.pointer (some ⟨b, 0, none⟩)] w fun e w' => e = .returned (.tuple #[]) ∧ w' = w := by
  obtain ⟨j, hj, _⟩ := Option.map_eq_some_iff.1 Tryd.Builder_Extra_169.toX72.sizeBuilder
  go_enter Tryd.func84, Tryd.ntmps84
  go_wp2
  rw [Lib.run_neq_ptr_same w _ Tryd.underlying101 hj]
  go_wp2
  go_end0
  exact ⟨rfl, rfl⟩
set_option maxHeartbeats 1000000 in
set_option maxRecDepth 100000 in
theorem Tryd.Builder_copyCheck_fresh (b : Nat) (w : World) (h0 : w.cell? ⟨b, 0, none⟩ = some (.pointer none)) (hsh : w.shape? b = some (103, 2)) (hfz : w.frozen? ⟨b, 0, none⟩ = false) :
    Calls Tryd.prog 84 #[.pointer (some ⟨b, 0, none⟩)] w fun e w' => e = .returned (.tuple #[]) ∧ w' = w.setCell ⟨b, 0, none⟩ (.pointer (some ⟨b, 0, none⟩)) := by
  have X := Tryd.Builder_Extra_169.toX72
  obtain ⟨j, hj, hjs⟩ := Option.map_eq_some_iff.1 X.sizeBuilder
  go_enter Tryd.func84, Tryd.ntmps84
  go_wp2
  rw [Lib.run_to_unsafe w ⟨b, 0, none⟩ Tryd.underlying101 Tryd.underlying116 hj (by rw [hjs]; decide) hsh (Nat.zero_lt_succ 1)]
  simp only [Result.andThen]
  rw [Oper.upon_value]
  go_wp2
  rw [run_callFunc_extern Tryd.func90 (by kernel_rfl) (by kernel_rfl) (by kernel_rfl) (e := Extern.AbiNoEscape.same) (by kernel_rfl)]
  rw [Lib.run_noEscape]
  simp only [Result.andThen]
  rw [Oper.upon_value]
  go_wp2
  rw [Lib.run_from_unsafe w ⟨b, 0, none⟩ Tryd.underlying116 Tryd.underlying101 hj hsh X.liesBuilder]
  simp only [Result.andThen]
  rw [Oper.upon_value]
  go_wp2
  go_end0
  exact ⟨rfl, rfl⟩
theorem Tryd.Builder_copyCheck (B b : Nat) (bs : List Value) (w : World) (h : Lib.IsBuilder 103 5 B b bs w) :
    Calls Tryd.prog 84 #[.pointer (some ⟨b, 0, none⟩)] w fun e w' => e = .returned (.tuple #[]) ∧ (Lib.BuilderAt 103 5 B b (.pointer (some ⟨b, 0, none⟩)) bs w' ∧ Below B w w') := by
  rcases h with h | h
  · refine (Tryd.Builder_copyCheck_fresh b w h.cell0 h.shape h.frozen0).mono ?_
    rintro e w' ⟨rfl, rfl⟩
    exact ⟨rfl, h.used _, (Below.refl B w).setCell (p := ⟨b, 0, none⟩) h.1 _⟩
  · refine (Tryd.Builder_copyCheck_used b w h.cell0).mono ?_
    rintro e w' ⟨rfl, rfl⟩
    exact ⟨rfl, h, Below.refl B _⟩
set_option maxHeartbeats 2000000 in
set_option maxRecDepth 100000 in
theorem Tryd.Builder_WriteByte (B b : Nat) (bs : List Value) (c : Int) (w : World) (h : Lib.IsBuilder 103 5 B b bs w) (hlen : bs.length + 1 ≤ 140737488355328) (hBw : B ≤ w.heap.size) :
    Calls Tryd.prog 71 #[.pointer (some ⟨b, 0, none⟩), .int .u8 c] w fun e w' => e = .returned .nilIface ∧ (Lib.BuilderAt 103 5 B b (.pointer (some ⟨b, 0, none⟩)) (bs ++ [.int .u8 c]) w' ∧ Below B w w') := by
  have X := Tryd.Builder_Extra_169
  obtain ⟨i0, hi, hz0, hz1, hz2⟩ := info_parts X.infoByte
  go_enter Tryd.func71, Tryd.ntmps71
  go_wp2_with (go_at_call 84; refine (Tryd.Builder_copyCheck B b bs _ h).mono ?_)
  rintro e w1 ⟨rfl, h1, hb1⟩
  obtain ⟨hB, v, hbk, hown, hne⟩ := h1
  have c0 : w1.cell? ⟨b, 0, none⟩ = some (.pointer (some ⟨b, 0, none⟩)) := by rw [Lib.cell_of_heap hbk]; rfl
  have c1 : w1.cell? ⟨b, 1, none⟩ = some v := by rw [Lib.cell_of_heap hbk]; rfl
  go_wp2_with (at_builtin; refine wpList_append_own _ rfl _ _ 68 rfl B 5 i0 (.int .u8 0) 1 1 Tryd.underlying68 hi hz0 hz1 hz2 rfl (by decide) _ _ _ rfl (hown.alloc _) ⟨w1.heap.size, 0, none⟩ 1 1 [.int .u8 c] rfl rfl ?c1 ?c2 ?c3 ?c4 ?c5 ?_)
  case c1 =>
    intro j u hj
    match j, hj with
    | 0, hj => simp at hj; subst hj; simp [Addr.add]
  case c2 => intro u hu; simp at hu; subst hu; rfl
  case c3 => unfold maxLen; omega
  case c4 => omega
  case c5 => have := hb1.size; simp; omega
  intro v' w2 hown' hgrow _
  have hlt : b < w1.heap.size := by
    rcases Nat.lt_or_ge b w1.heap.size with h' | h'
    · exact h'
    · simp [Array.getElem?_eq_none h'] at hbk
  have hb2 : w2.heap[b]? = some (.cells #[.pointer (some ⟨b, 0, none⟩), v] 103 (0, 0)) := by
    rw [hgrow.block b (by simp; omega) (fun e => hne e.symm), Lib.alloc_old w1 _ b hlt]
    exact hbk
  have d0 : w2.cell? ⟨b, 0, none⟩ = some (.pointer (some ⟨b, 0, none⟩)) := by rw [Lib.cell_of_heap hb2]; rfl
  have d1 : w2.cell? ⟨b, 1, none⟩ = some v := by rw [Lib.cell_of_heap hb2]; rfl
  have f1 : w2.frozen? ⟨b, 1, none⟩ = false := Lib.frozen_of_heap hb2 1
  obtain ⟨g, cap, rfl⟩ : ∃ g cap, v' = .slice (some ⟨g, 0, none⟩) (bs.length + 1) cap := by
    rcases hown'.2 with ⟨_, h0⟩ | ⟨g, cap, cur, hv, _⟩
    · omega
    · exact ⟨g, cap, hv⟩
  go_wp2
  go_ret
  refine ⟨rfl, ?_, ?_⟩
  · exact Lib.BuilderAt.put (T := 103) (e := 5) hB hb2 (bs' := bs ++ [.int .u8 c]) (by simpa using hown') X.neB5
  · exact ((hb1.alloc (by have := hb1.size; omega) _).grown hgrow (by have := hb1.size; simp; omega) (fun k hk => (hown.lt k hk).1)).setCell (p := ⟨b, 1, none⟩) hB _
end Go.Proofs

/- Contracts that come from walks. -/
set_option linter.unusedVariables false
set_option maxRecDepth 100000
namespace Go.Ad
open Go Go.Rx Go.Proofs Go.RowKit
theorem ext_of {w w' : World} (h : Below w.heap.size w w') : w.Extends w' :=
  ⟨h.os, h.tape, h.output, h.size, fun a ha => by unfold World.cell?; rw [h.block a.block ha], fun a ha => by unfold World.frozen?; rw [h.block a.block ha], h.block⟩
theorem ok_ibs {wb : World} : OC wb k_ibs := by
  intro zs hz
  obtain ⟨rs, h1, h2, h3⟩ := ibs_ok (wb := wb) (f := 91) (id := 73) Tryd.func91 (by kernel_rfl) (by kernel_rfl) (by kernel_rfl) (by kernel_rfl) zs hz
  match zs, hz with
  | [s, c], hz =>
    refine ⟨rs, h1, ?_, h3⟩
    subst h2
    rfl
theorem dd_cons (b : UInt8) (l : Tx) : dd (b :: l) = ((b == 46 && l.getD 0 0 == 46) || dd l) := by
  unfold dd
  rw [List.length_cons, List.range_succ_eq_map, List.any_cons, List.any_map]
  rfl
theorem dd_index : ∀ l : Tx, Lib.contains l [46, 46] = dd l
  | [] => rfl
  | b :: l => by
    have ih := dd_index l
    unfold Lib.contains at ih ⊢
    rw [dd_cons, ← ih]
    have sym : ∀ x : UInt8, ((46 : UInt8) == x) = (x == 46) := fun x => by rw [Bool.eq_iff_iff, beq_iff_eq, beq_iff_eq]; exact eq_comm
    have hp : ([46, 46] : Tx).isPrefixOf (b :: l) = (b == 46 && l.getD 0 0 == 46) := by
      cases l with
      | nil =>
        show ((46 : UInt8) == b && false) = (b == 46 && ((0 : UInt8) == 46))
        rw [sym]; rfl
      | cons c r =>
        show ((46 : UInt8) == b && ((46 : UInt8) == c && true)) = (b == 46 && c == 46)
        rw [sym, sym, Bool.and_true]
    have he : Lib.index (b :: l) [46, 46] = if ([46, 46] : Tx).isPrefixOf (b :: l) = true then 0 else if (Lib.index l [46, 46] == -1) = true then -1 else Lib.index l [46, 46] + 1 := rfl
    rw [he, hp]
    cases (b == 46 && l.getD 0 0 == 46) with
    | true => rfl
    | false =>
      rw [if_neg (by decide), Bool.false_or]
      by_cases he : (Lib.index l [46, 46] == -1) = true
      · rw [if_pos he]
        have := beq_iff_eq.1 he
        rw [this]
      · rw [if_neg he]
        have he : ¬ Lib.index l [46, 46] = -1 := fun e => he (beq_iff_eq.2 e)
        have := Lib.index_ge [46, 46] l
        rw [Bool.eq_iff_iff, decide_eq_true_eq, decide_eq_true_eq]
        omega
theorem ok_cdd {wb : World} (hc : ∃ m, wb.cell? ⟨0, 0, none⟩ = some (.int .i64 m)) (h0 : 0 < wb.heap.size) : OQ wb q_cdd := by
  intro zs hz hp
  match zs, hz with
  | [z], hz =>
    refine ⟨[b01 (dd (sOf z))], ⟨(b01_bd _).1, (b01_bd _).2, trivial⟩, rfl, fun w hw => .inr ⟨enters (by kernel_rfl) _ _, ?_⟩⟩
    obtain ⟨m, hm⟩ := hc
    have hm' : w.cell? ⟨0, 0, none⟩ = some (.int .i64 m) := by rw [hw.cell ⟨0, 0, none⟩ h0]; exact hm
    have hl : (sOf z).length ≤ 4294967280 := hp
    refine (Tryd.strings_Contains (bA (sOf z)) (bA [46, 46]) m w (by show (sOf z).toArray.size < _; simp; omega) hm').mono ?_
    rintro e w' ⟨rfl, rfl⟩
    refine ⟨?_, World.Extends.refl _⟩
    have e1 : (bA (sOf z)).data.toList = sOf z := by simp [bA]
    have e2 : (bA [46, 46]).data.toList = [46, 46] := rfl
    rw [e1, e2, dd_index]
    show _ = Ending.returned (Value.bool (decide (b01 (dd (sOf z)) = 1)))
    rw [b01_one]
theorem HB_1 : (1 : Int) ≤ HB := HB_c (l := [0]) (by decide)
theorem c_bd {l : Tx} {n : Nat} (h : l.length ≤ n) (hn : n ≤ 140737488351232) : 0 ≤ cOf l ∧ cOf l ≤ HB := ⟨cOf_nonneg _, HB_c (by unfold mxL; omega)⟩
end Go.Ad

/- The address seat: the countries (a map), by a walk. -/
set_option linter.unusedSimpArgs false
namespace Go.Proofs
open Go.RowKit Go.Ad
def ctryR (s : Tx) : Value := match ctry s with | some (c, t) => .tuple #[.agg #[.string ⟨c.toArray⟩, .string ⟨t.toArray⟩], .bool true] | none => .tuple #[.agg #[.string ⟨#[]⟩, .string ⟨#[]⟩], .bool false]
theorem push_set {α : Type} (a : Array α) (x y : α) : (a.push x).setIfInBounds a.size y = a.push y := by
  apply Array.ext'
  simp
theorem ba_ne {s t : ByteArray} (h : ¬ s = t) : (s == t) = false := by
  cases h' : (s == t) with
  | false => rfl
  | true =>
    have h' : (s.data == t.data) = true := h'
    exact absurd (ByteArray.ext (eq_of_beq h')) h
def lookV (z : Value) : Option (Nat × Value) → Value
  | some (_, v) => .tuple #[v, .bool true]
  | none => .tuple #[z, .bool false]
theorem map_put {P : Program} {mty kt et : TypeId} (hm : P.underlying mty = some (.map kt et)) (hk : P.underlying kt = some .string) (W : World) (es : Array MapEntry) (clock : Nat) (s : ByteArray) (v : Value) (hf : Instr.findNow .string (.string s) es.toList 0 = some none) :
    (Instr.mapUpdate mty (.map (some W.heap.size)) (.string s) v).run P (W.alloc (.map es clock)) = .ok () (W.alloc (.map (es.push { key := .string s, val := v, born := clock }) (clock + 1))) := by
  have hb : (W.alloc (.map es clock)).heap[W.heap.size]? = some (.map es clock) := heap_alloc_new W _
  have hc : (Instr.checkKey false 10000 kt (.string s)).run P (W.alloc (.map es clock)) = .ok () (W.alloc (.map es clock)) := MapKept.run_checkKey (k := .string s) hk (by simp [MapKept.IsKey]) false 9999
  simp only [Instr.mapUpdate, Sem.run_bind, run_underlying hm, Result.andThen, MapKept.run_getObj_map hb, Sem.run_pure, hc, MapKept.run_findKey hk hf, MapKept.run_setObj_map _ hb]
  simp only [World.alloc, push_set]
theorem map_look {P : Program} {mty kt et : TypeId} {z : Value} (hm : P.underlying mty = some (.map kt et)) (hk : P.underlying kt = some .string) (hz : ∀ w, (zeroValue et).run P w = .ok z w) (W : World) (es : Array MapEntry) (clock : Nat) (s : ByteArray) (a : Option (Nat × Value)) (hf : Instr.findNow .string (.string s) es.toList 0 = some a) :
    (Instr.lookup mty (.map (some W.heap.size)) (.string s) true).run P (W.alloc (.map es clock)) = .ok (lookV z a) (W.alloc (.map es clock)) := by
  have hb : (W.alloc (.map es clock)).heap[W.heap.size]? = some (.map es clock) := heap_alloc_new W _
  have hc : (Instr.checkKey es.isEmpty 10000 kt (.string s)).run P (W.alloc (.map es clock)) = .ok () (W.alloc (.map es clock)) := MapKept.run_checkKey (k := .string s) hk (by simp [MapKept.IsKey]) _ 9999
  simp only [Instr.lookup, Sem.run_bind, run_underlying hm, Result.andThen, MapKept.run_getObj_map hb, Sem.run_pure, hc, MapKept.run_findKey hk hf]
  cases a with
  | none => simp [hz, lookV]
  | some p => simp [lookV]
theorem ba_eq {s t : ByteArray} : s = t ↔ s.data.toList = t.data.toList := ⟨fun h => by rw [h], fun h => ByteArray.ext (Array.toList_inj.1 h)⟩
def lands : Array MapEntry := #[{ key := Value.string { data := #[] }, val := Value.agg #[Value.string { data := #[] }, Value.string { data := #[] }], born := 0 }, { key := Value.string { data := #[71, 66] }, val := Value.agg #[Value.string { data := #[52, 52] }, Value.string { data := #[48] }], born := 1 }, { key := Value.string { data := #[85, 83] }, val := Value.agg #[Value.string { data := #[49] }, Value.string { data := #[] }], born := 2 }, { key := Value.string { data := #[68, 69] }, val := Value.agg #[Value.string { data := #[52, 57] }, Value.string { data := #[48] }], born := 3 }, { key := Value.string { data := #[70, 82] }, val := Value.agg #[Value.string { data := #[51, 51] }, Value.string { data := #[48] }], born := 4 }, { key := Value.string { data := #[67, 72] }, val := Value.agg #[Value.string { data := #[52, 49] }, Value.string { data := #[48] }], born := 5 }]
theorem lands_find (s : ByteArray) : ∃ a, Instr.findNow .string (.string s) lands.toList 0 = some a ∧ lookV (.agg #[.string ⟨#[]⟩, .string ⟨#[]⟩]) a = ctryR s.data.toList := by
  by_cases h0 : s = { data := #[] }
  · subst h0; exact ⟨_, rfl, rfl⟩
  by_cases h1 : s = { data := #[71, 66] }
  · subst h1; exact ⟨_, rfl, rfl⟩
  by_cases h2 : s = { data := #[85, 83] }
  · subst h2; exact ⟨_, rfl, rfl⟩
  by_cases h3 : s = { data := #[68, 69] }
  · subst h3; exact ⟨_, rfl, rfl⟩
  by_cases h4 : s = { data := #[70, 82] }
  · subst h4; exact ⟨_, rfl, rfl⟩
  by_cases h5 : s = { data := #[67, 72] }
  · subst h5; exact ⟨_, rfl, rfl⟩
  have n : ∀ t : ByteArray, ¬ s = t → (s == t) = false := fun t h => ba_ne h
  refine ⟨none, ?_, ?_⟩
  · simp only [lands, Instr.findNow, Instr.sameNow, n _ h0, n _ h1, n _ h2, n _ h3, n _ h4, n _ h5]
  · have m : ∀ t : Tx, ¬ s = ⟨t.toArray⟩ → (s.data.toList == t) = false := fun t h => by
      cases hh : (s.data.toList == t) with
      | false => rfl
      | true => exact absurd (ba_eq.2 (by rw [beq_iff_eq.1 hh])) h
    unfold ctryR ctry
    rw [m [] h0, m [71, 66] h1, m [85, 83] h2, m [68, 69] h3, m [70, 82] h4, m [67, 72] h5]
    rfl
set_option maxHeartbeats 4000000 in
set_option maxRecDepth 1000000 in
theorem Tryd.country_walk (s : ByteArray) (w : World) :
    Calls Tryd.prog 54 #[.string s] w fun e w' => e = .returned (ctryR s.data.toList) ∧ Below w.heap.size w w' := by
  go_enter Tryd.func54, Tryd.ntmps54
  have hmk : ∀ W : World, (Instr.makeMap 100 none).run Tryd.prog W = .ok (.map (some W.heap.size)) (W.alloc (.map #[] 0)) := fun W => run_makeMap 100 W
  have hp0 : (Instr.mapUpdate 100 (.map (some (w.heap.size + 1))) (.string { data := #[] }) (Value.agg #[Value.string { data := #[] }, Value.string { data := #[] }])).run Tryd.prog ((w.alloc (Obj.cells #[Value.string { data := #[] }, Value.string { data := #[] }] 83)).alloc (.map #[] 0)) = .ok () ((w.alloc (Obj.cells #[Value.string { data := #[] }, Value.string { data := #[] }] 83)).alloc (.map #[{ key := Value.string { data := #[] }, val := Value.agg #[Value.string { data := #[] }, Value.string { data := #[] }], born := 0 }] 1)) := by
    have := map_put Tryd.underlying100 Tryd.underlying9 (w.alloc (Obj.cells #[Value.string { data := #[] }, Value.string { data := #[] }] 83)) #[] 0 { data := #[] } (Value.agg #[Value.string { data := #[] }, Value.string { data := #[] }]) rfl
    simpa using this
  have hp1 : (Instr.mapUpdate 100 (.map (some (w.heap.size + 1))) (.string { data := #[71, 66] }) (Value.agg #[Value.string { data := #[52, 52] }, Value.string { data := #[48] }])).run Tryd.prog ((w.alloc (Obj.cells #[Value.string { data := #[] }, Value.string { data := #[] }] 83)).alloc (.map #[{ key := Value.string { data := #[] }, val := Value.agg #[Value.string { data := #[] }, Value.string { data := #[] }], born := 0 }] 1)) = .ok () ((w.alloc (Obj.cells #[Value.string { data := #[] }, Value.string { data := #[] }] 83)).alloc (.map #[{ key := Value.string { data := #[] }, val := Value.agg #[Value.string { data := #[] }, Value.string { data := #[] }], born := 0 }, { key := Value.string { data := #[71, 66] }, val := Value.agg #[Value.string { data := #[52, 52] }, Value.string { data := #[48] }], born := 1 }] 2)) := by
    have := map_put Tryd.underlying100 Tryd.underlying9 (w.alloc (Obj.cells #[Value.string { data := #[] }, Value.string { data := #[] }] 83)) #[{ key := Value.string { data := #[] }, val := Value.agg #[Value.string { data := #[] }, Value.string { data := #[] }], born := 0 }] 1 { data := #[71, 66] } (Value.agg #[Value.string { data := #[52, 52] }, Value.string { data := #[48] }]) rfl
    simpa using this
  have hp2 : (Instr.mapUpdate 100 (.map (some (w.heap.size + 1))) (.string { data := #[85, 83] }) (Value.agg #[Value.string { data := #[49] }, Value.string { data := #[] }])).run Tryd.prog ((w.alloc (Obj.cells #[Value.string { data := #[] }, Value.string { data := #[] }] 83)).alloc (.map #[{ key := Value.string { data := #[] }, val := Value.agg #[Value.string { data := #[] }, Value.string { data := #[] }], born := 0 }, { key := Value.string { data := #[71, 66] }, val := Value.agg #[Value.string { data := #[52, 52] }, Value.string { data := #[48] }], born := 1 }] 2)) = .ok () ((w.alloc (Obj.cells #[Value.string { data := #[] }, Value.string { data := #[] }] 83)).alloc (.map #[{ key := Value.string { data := #[] }, val := Value.agg #[Value.string { data := #[] }, Value.string { data := #[] }], born := 0 }, { key := Value.string { data := #[71, 66] }, val := Value.agg #[Value.string { data := #[52, 52] }, Value.string { data := #[48] }], born := 1 }, { key := Value.string { data := #[85, 83] }, val := Value.agg #[Value.string { data := #[49] }, Value.string { data := #[] }], born := 2 }] 3)) := by
    have := map_put Tryd.underlying100 Tryd.underlying9 (w.alloc (Obj.cells #[Value.string { data := #[] }, Value.string { data := #[] }] 83)) #[{ key := Value.string { data := #[] }, val := Value.agg #[Value.string { data := #[] }, Value.string { data := #[] }], born := 0 }, { key := Value.string { data := #[71, 66] }, val := Value.agg #[Value.string { data := #[52, 52] }, Value.string { data := #[48] }], born := 1 }] 2 { data := #[85, 83] } (Value.agg #[Value.string { data := #[49] }, Value.string { data := #[] }]) rfl
    simpa using this
  have hp3 : (Instr.mapUpdate 100 (.map (some (w.heap.size + 1))) (.string { data := #[68, 69] }) (Value.agg #[Value.string { data := #[52, 57] }, Value.string { data := #[48] }])).run Tryd.prog ((w.alloc (Obj.cells #[Value.string { data := #[] }, Value.string { data := #[] }] 83)).alloc (.map #[{ key := Value.string { data := #[] }, val := Value.agg #[Value.string { data := #[] }, Value.string { data := #[] }], born := 0 }, { key := Value.string { data := #[71, 66] }, val := Value.agg #[Value.string { data := #[52, 52] }, Value.string { data := #[48] }], born := 1 }, { key := Value.string { data := #[85, 83] }, val := Value.agg #[Value.string { data := #[49] }, Value.string { data := #[] }], born := 2 }] 3)) = .ok () ((w.alloc (Obj.cells #[Value.string { data := #[] }, Value.string { data := #[] }] 83)).alloc (.map #[{ key := Value.string { data := #[] }, val := Value.agg #[Value.string { data := #[] }, Value.string { data := #[] }], born := 0 }, { key := Value.string { data := #[71, 66] }, val := Value.agg #[Value.string { data := #[52, 52] }, Value.string { data := #[48] }], born := 1 }, { key := Value.string { data := #[85, 83] }, val := Value.agg #[Value.string { data := #[49] }, Value.string { data := #[] }], born := 2 }, { key := Value.string { data := #[68, 69] }, val := Value.agg #[Value.string { data := #[52, 57] }, Value.string { data := #[48] }], born := 3 }] 4)) := by
    have := map_put Tryd.underlying100 Tryd.underlying9 (w.alloc (Obj.cells #[Value.string { data := #[] }, Value.string { data := #[] }] 83)) #[{ key := Value.string { data := #[] }, val := Value.agg #[Value.string { data := #[] }, Value.string { data := #[] }], born := 0 }, { key := Value.string { data := #[71, 66] }, val := Value.agg #[Value.string { data := #[52, 52] }, Value.string { data := #[48] }], born := 1 }, { key := Value.string { data := #[85, 83] }, val := Value.agg #[Value.string { data := #[49] }, Value.string { data := #[] }], born := 2 }] 3 { data := #[68, 69] } (Value.agg #[Value.string { data := #[52, 57] }, Value.string { data := #[48] }]) rfl
    simpa using this
  have hp4 : (Instr.mapUpdate 100 (.map (some (w.heap.size + 1))) (.string { data := #[70, 82] }) (Value.agg #[Value.string { data := #[51, 51] }, Value.string { data := #[48] }])).run Tryd.prog ((w.alloc (Obj.cells #[Value.string { data := #[] }, Value.string { data := #[] }] 83)).alloc (.map #[{ key := Value.string { data := #[] }, val := Value.agg #[Value.string { data := #[] }, Value.string { data := #[] }], born := 0 }, { key := Value.string { data := #[71, 66] }, val := Value.agg #[Value.string { data := #[52, 52] }, Value.string { data := #[48] }], born := 1 }, { key := Value.string { data := #[85, 83] }, val := Value.agg #[Value.string { data := #[49] }, Value.string { data := #[] }], born := 2 }, { key := Value.string { data := #[68, 69] }, val := Value.agg #[Value.string { data := #[52, 57] }, Value.string { data := #[48] }], born := 3 }] 4)) = .ok () ((w.alloc (Obj.cells #[Value.string { data := #[] }, Value.string { data := #[] }] 83)).alloc (.map #[{ key := Value.string { data := #[] }, val := Value.agg #[Value.string { data := #[] }, Value.string { data := #[] }], born := 0 }, { key := Value.string { data := #[71, 66] }, val := Value.agg #[Value.string { data := #[52, 52] }, Value.string { data := #[48] }], born := 1 }, { key := Value.string { data := #[85, 83] }, val := Value.agg #[Value.string { data := #[49] }, Value.string { data := #[] }], born := 2 }, { key := Value.string { data := #[68, 69] }, val := Value.agg #[Value.string { data := #[52, 57] }, Value.string { data := #[48] }], born := 3 }, { key := Value.string { data := #[70, 82] }, val := Value.agg #[Value.string { data := #[51, 51] }, Value.string { data := #[48] }], born := 4 }] 5)) := by
    have := map_put Tryd.underlying100 Tryd.underlying9 (w.alloc (Obj.cells #[Value.string { data := #[] }, Value.string { data := #[] }] 83)) #[{ key := Value.string { data := #[] }, val := Value.agg #[Value.string { data := #[] }, Value.string { data := #[] }], born := 0 }, { key := Value.string { data := #[71, 66] }, val := Value.agg #[Value.string { data := #[52, 52] }, Value.string { data := #[48] }], born := 1 }, { key := Value.string { data := #[85, 83] }, val := Value.agg #[Value.string { data := #[49] }, Value.string { data := #[] }], born := 2 }, { key := Value.string { data := #[68, 69] }, val := Value.agg #[Value.string { data := #[52, 57] }, Value.string { data := #[48] }], born := 3 }] 4 { data := #[70, 82] } (Value.agg #[Value.string { data := #[51, 51] }, Value.string { data := #[48] }]) rfl
    simpa using this
  have hp5 : (Instr.mapUpdate 100 (.map (some (w.heap.size + 1))) (.string { data := #[67, 72] }) (Value.agg #[Value.string { data := #[52, 49] }, Value.string { data := #[48] }])).run Tryd.prog ((w.alloc (Obj.cells #[Value.string { data := #[] }, Value.string { data := #[] }] 83)).alloc (.map #[{ key := Value.string { data := #[] }, val := Value.agg #[Value.string { data := #[] }, Value.string { data := #[] }], born := 0 }, { key := Value.string { data := #[71, 66] }, val := Value.agg #[Value.string { data := #[52, 52] }, Value.string { data := #[48] }], born := 1 }, { key := Value.string { data := #[85, 83] }, val := Value.agg #[Value.string { data := #[49] }, Value.string { data := #[] }], born := 2 }, { key := Value.string { data := #[68, 69] }, val := Value.agg #[Value.string { data := #[52, 57] }, Value.string { data := #[48] }], born := 3 }, { key := Value.string { data := #[70, 82] }, val := Value.agg #[Value.string { data := #[51, 51] }, Value.string { data := #[48] }], born := 4 }] 5)) = .ok () ((w.alloc (Obj.cells #[Value.string { data := #[] }, Value.string { data := #[] }] 83)).alloc (.map #[{ key := Value.string { data := #[] }, val := Value.agg #[Value.string { data := #[] }, Value.string { data := #[] }], born := 0 }, { key := Value.string { data := #[71, 66] }, val := Value.agg #[Value.string { data := #[52, 52] }, Value.string { data := #[48] }], born := 1 }, { key := Value.string { data := #[85, 83] }, val := Value.agg #[Value.string { data := #[49] }, Value.string { data := #[] }], born := 2 }, { key := Value.string { data := #[68, 69] }, val := Value.agg #[Value.string { data := #[52, 57] }, Value.string { data := #[48] }], born := 3 }, { key := Value.string { data := #[70, 82] }, val := Value.agg #[Value.string { data := #[51, 51] }, Value.string { data := #[48] }], born := 4 }, { key := Value.string { data := #[67, 72] }, val := Value.agg #[Value.string { data := #[52, 49] }, Value.string { data := #[48] }], born := 5 }] 6)) := by
    have := map_put Tryd.underlying100 Tryd.underlying9 (w.alloc (Obj.cells #[Value.string { data := #[] }, Value.string { data := #[] }] 83)) #[{ key := Value.string { data := #[] }, val := Value.agg #[Value.string { data := #[] }, Value.string { data := #[] }], born := 0 }, { key := Value.string { data := #[71, 66] }, val := Value.agg #[Value.string { data := #[52, 52] }, Value.string { data := #[48] }], born := 1 }, { key := Value.string { data := #[85, 83] }, val := Value.agg #[Value.string { data := #[49] }, Value.string { data := #[] }], born := 2 }, { key := Value.string { data := #[68, 69] }, val := Value.agg #[Value.string { data := #[52, 57] }, Value.string { data := #[48] }], born := 3 }, { key := Value.string { data := #[70, 82] }, val := Value.agg #[Value.string { data := #[51, 51] }, Value.string { data := #[48] }], born := 4 }] 5 { data := #[67, 72] } (Value.agg #[Value.string { data := #[52, 49] }, Value.string { data := #[48] }]) rfl
    simpa using this
  obtain ⟨c, t, ok, hl, hv⟩ : ∃ (c t : ByteArray) (ok : Bool), (Instr.lookup 100 (.map (some (w.heap.size + 1))) (.string s) true).run Tryd.prog ((w.alloc (Obj.cells #[Value.string { data := #[] }, Value.string { data := #[] }] 83)).alloc (.map #[{ key := Value.string { data := #[] }, val := Value.agg #[Value.string { data := #[] }, Value.string { data := #[] }], born := 0 }, { key := Value.string { data := #[71, 66] }, val := Value.agg #[Value.string { data := #[52, 52] }, Value.string { data := #[48] }], born := 1 }, { key := Value.string { data := #[85, 83] }, val := Value.agg #[Value.string { data := #[49] }, Value.string { data := #[] }], born := 2 }, { key := Value.string { data := #[68, 69] }, val := Value.agg #[Value.string { data := #[52, 57] }, Value.string { data := #[48] }], born := 3 }, { key := Value.string { data := #[70, 82] }, val := Value.agg #[Value.string { data := #[51, 51] }, Value.string { data := #[48] }], born := 4 }, { key := Value.string { data := #[67, 72] }, val := Value.agg #[Value.string { data := #[52, 49] }, Value.string { data := #[48] }], born := 5 }] 6)) = .ok (.tuple #[.agg #[.string c, .string t], .bool ok]) ((w.alloc (Obj.cells #[Value.string { data := #[] }, Value.string { data := #[] }] 83)).alloc (.map #[{ key := Value.string { data := #[] }, val := Value.agg #[Value.string { data := #[] }, Value.string { data := #[] }], born := 0 }, { key := Value.string { data := #[71, 66] }, val := Value.agg #[Value.string { data := #[52, 52] }, Value.string { data := #[48] }], born := 1 }, { key := Value.string { data := #[85, 83] }, val := Value.agg #[Value.string { data := #[49] }, Value.string { data := #[] }], born := 2 }, { key := Value.string { data := #[68, 69] }, val := Value.agg #[Value.string { data := #[52, 57] }, Value.string { data := #[48] }], born := 3 }, { key := Value.string { data := #[70, 82] }, val := Value.agg #[Value.string { data := #[51, 51] }, Value.string { data := #[48] }], born := 4 }, { key := Value.string { data := #[67, 72] }, val := Value.agg #[Value.string { data := #[52, 49] }, Value.string { data := #[48] }], born := 5 }] 6)) ∧ Hid (Value.tuple #[.agg #[.string c, .string t], .bool ok] = ctryR s.data.toList) := by
    obtain ⟨a, hf, ha⟩ := lands_find s
    have := map_look (z := .agg #[.string ⟨#[]⟩, .string ⟨#[]⟩]) Tryd.underlying100 Tryd.underlying9 (fun w => Tryd.zeroValue83 w) (w.alloc (Obj.cells #[Value.string { data := #[] }, Value.string { data := #[] }] 83)) lands 6 s a hf
    have hsz : (w.alloc (Obj.cells #[Value.string { data := #[] }, Value.string { data := #[] }] 83)).heap.size = w.heap.size + 1 := by simp
    rw [hsz, ha] at this
    have hr : ∃ (c t : ByteArray) (ok : Bool), ctryR s.data.toList = Value.tuple #[.agg #[.string c, .string t], .bool ok] := by
      unfold ctryR
      cases ctry s.data.toList with
      | none => exact ⟨_, _, _, rfl⟩
      | some p => exact ⟨_, _, _, rfl⟩
    obtain ⟨c, t, ok, hr⟩ := hr
    rw [hr] at this
    exact ⟨c, t, ok, this, hr.symm⟩
  go_wp2
  refine bodyPost_ret (v := .tuple #[.agg #[.string c, .string t], .bool ok]) ?_ rfl ⟨congrArg _ hv, (((Below.refl _ w).alloc (Nat.le_refl _) _).alloc (by simp) _).alloc (by simp; omega) _⟩
  have hg : ∀ o1 o2 : Obj, (((w.alloc (Obj.cells #[Value.string c, Value.string t] 83)).alloc o1).alloc o2).heap[w.heap.size]? = some (.cells #[.string c, .string t] 83 (0, 0)) := fun o1 o2 => by
    rw [Lib.alloc_old _ _ _ (by simp; omega), Lib.alloc_old _ _ _ (by simp), heap_alloc_new]
  have h46 := run_loadVar_row (P := Tryd.prog) (((w.alloc (Obj.cells #[Value.string c, Value.string t] 83)).alloc (.map lands 6)).alloc (Obj.cells #[Value.string c, Value.string t] 83)) w.heap.size 83 83 #[.string c, .string t] (0, 0) _ (hg _ _) Tryd.underlying83 rfl (by kernel_rfl)
  rw [results_cell_tmp rfl]
  show ((loadVar 83 ⟨w.heap.size, 0, none⟩).run Tryd.prog (((w.alloc (Obj.cells #[Value.string c, Value.string t] 83)).alloc (.map lands 6)).alloc (Obj.cells #[Value.string c, Value.string t] 83))).andThen _ = _
  rw [h46]
  rfl
end Go.Proofs
set_option linter.unusedVariables false
set_option maxRecDepth 100000
namespace Go.Ad
open Go Go.Rx Go.Proofs Go.RowKit
theorem ok_country {wb : World} : OC wb k_country := by
  intro zs hz
  match zs, hz with
  | [z], hz =>
    have hw := fun w => Tryd.country_walk (bA (sOf z)) w
    have e1 : (bA (sOf z)).data.toList = sOf z := by simp [bA]
    cases hct : ctry (sOf z) with
    | none =>
      refine ⟨[0, 0, 0], ⟨Int.le_refl _, HB_pos, Int.le_refl _, HB_pos, by decide, by decide, trivial⟩, ?_, fun w _ => .inr ⟨enters (by kernel_rfl) _ _, ?_⟩⟩
      · show (match ctry (sOf z) with | some (code, trunk) => sOf 0 = code ∧ sOf 0 = trunk ∧ (0 : Int) = 1 | none => (0 : Int) = 0 ∧ sOf 0 = [] ∧ sOf 0 = [])
        rw [hct]; exact ⟨rfl, rfl, rfl⟩
      · refine (hw w).mono ?_
        rintro e w' ⟨rfl, hb⟩
        refine ⟨?_, ext_of hb⟩
        rw [e1]; unfold ctryR; rw [hct]; rfl
    | some ct =>
      obtain ⟨c, t⟩ := ct
      have h1 := c_bd (ctry_len hct) (by decide)
      have h2 : 0 ≤ cOf t ∧ cOf t ≤ HB := c_bd (n := 1) (by rcases ctry_trunk hct with h | h <;> rw [h] <;> decide) (by decide)
      refine ⟨[cOf c, cOf t, 1], ⟨h1.1, h1.2, h2.1, h2.2, by decide, by decide, trivial⟩, ?_, fun w _ => .inr ⟨enters (by kernel_rfl) _ _, ?_⟩⟩
      · show (match ctry (sOf z) with | some (code, trunk) => sOf (cOf c) = code ∧ sOf (cOf t) = trunk ∧ (1 : Int) = 1 | none => (1 : Int) = 0 ∧ sOf (cOf c) = [] ∧ sOf (cOf t) = [])
        rw [hct]; exact ⟨sOf_cOf _, sOf_cOf _, rfl⟩
      · refine (hw w).mono ?_
        rintro e w' ⟨rfl, hb⟩
        refine ⟨?_, ext_of hb⟩
        rw [e1]; unfold ctryR; rw [hct]
        show _ = Ending.returned (.tuple #[.agg #[.string (bA (sOf (cOf c))), .string (bA (sOf (cOf t)))], .bool true])
        rw [sOf_cOf, sOf_cOf]; rfl
end Go.Ad

/- The address seat: a number's digits (bare), by a walk. -/
namespace Go.Proofs
open Go.RowKit Go.Ad
theorem bsz (s : ByteArray) : s.data.toList.length = s.size := by rw [Array.length_toList]; rfl
def barR (s : Tx) : Value := match bareF s [] false with | some (d, p) => .tuple #[.string ⟨d.toArray⟩, .bool p, .bool true] | none => .tuple #[.string ⟨#[]⟩, .bool false, .bool false]
theorem isD_iff (c : UInt8) : isD c = true ↔ (48 : Int) ≤ c.toNat ∧ (c.toNat : Int) ≤ 57 := by
  unfold isD; rw [Bool.and_eq_true, Nat.ble_eq, Nat.ble_eq]; omega
theorem sep_call (c : UInt8) : ∃ R : Int, (R < 0 ↔ seps.contains c = false) ∧ ∀ w, Calls Tryd.prog 73 #[.string { data := #[32, 45, 46, 40, 41] }, .int .u8 c.toNat] w fun e w' => e = .returned (.int .i64 R) ∧ w' = w := by
  refine ⟨Lib.indexByte seps c, ?_, fun w => ?_⟩
  · rw [Lib.contains_iff_indexByte]; simp
  · have := Tryd.strings_IndexByte ⟨#[32, 45, 46, 40, 41]⟩ (c.toNat : Int) w
    have e : (c.toNat : Int).toNat.toUInt8 = c := by simp
    rw [e] at this
    exact this
theorem len_call (d : Tx) (b : Nat) (w : World) (h : Lib.IsBuilder 103 5 b b (Lib.byteCells d) w) : Calls Tryd.prog 72 #[.pointer (some ⟨b, 0, none⟩)] w fun e w' => e = .returned (.int .i64 d.length) ∧ w' = w := by
  have := Tryd.Builder_Len b b _ w h
  rwa [Lib.byteCells_length] at this
set_option maxHeartbeats 4000000 in
set_option maxRecDepth 1000000 in
theorem Tryd.bare_walk (s : ByteArray) (w : World) (hs : s.size ≤ 140737488351232) :
    Calls Tryd.prog 55 #[.string s] w fun e w' => e = .returned (barR s.data.toList) ∧ Below w.heap.size w w' := by
  go_enter Tryd.func55, Tryd.ntmps55
  go_wp2
  go_loopw [10, 3] (fun vi vp wr => ∃ (i : Nat) (d : List UInt8) (p : Bool), vi = .int .i64 i ∧ vp = .bool p ∧ i ≤ s.size ∧ d.length ≤ i ∧ Hid (bareF (s.data.toList.drop i) d p = bareF s.data.toList [] false) ∧ Lib.IsBuilder 103 5 w.heap.size w.heap.size (Lib.byteCells d) wr ∧ Below w.heap.size w wr) (fun vi _ _ => s.size - (RowKit.intOf vi).toNat)
  case atStart =>
    exact ⟨0, [], false, rfl, rfl, Nat.zero_le _, Nat.le_refl _, rfl, Lib.fresh_isBuilder 103 5 w, (Below.refl _ w).alloc (Nat.le_refl _) _⟩
  case round =>
    obtain ⟨i, d, p, rfl, rfl, hi, hd, hb, hI, hbw⟩ := hrel
    have hsz : s.data.toList.length = s.size := bsz s
    by_cases hlt : i < s.size
    · have hlt' : (i : Int) < (s.size : Int) := by omega
      have hnn : ¬ ((i : Int) < 0) := by omega
      have hc : s.data.toList.getD i 0 = s[i] := by
        simp only [List.getD, List.getElem?_eq_getElem (show i < s.data.toList.length by omega), Option.getD_some]
        rfl
      have hst := bare_step (s := s.data.toList) (d := d) (p := p) (i := i) (by omega)
      rw [hc] at hst
      have hD := isD_iff s[i]
      have fin : ∀ {d' : Tx} {p' : Bool}, bareF (List.drop i s.data.toList) d p = bareF (List.drop (i + 1) s.data.toList) d' p' → Hid (bareF (List.drop (i + 1) s.data.toList) d' p' = bareF s.data.toList [] false) := fun h => by
        have hb : bareF (List.drop i s.data.toList) d p = bareF s.data.toList [] false := hb
        show _ = _
        rw [← hb, h]
      have bad : bareF (List.drop i s.data.toList) d p = none → Value.tuple #[.string ⟨#[]⟩, .bool false, .bool false] = barR s.data.toList := fun h => by
        have hb : bareF (List.drop i s.data.toList) d p = bareF s.data.toList [] false := hb
        unfold barR
        rw [← hb, h]
      obtain ⟨R, hR, hcall⟩ := sep_call s[i]
      have hLen := fun W => len_call d w.heap.size W
      by_cases h48 : (48 : Int) ≤ s[i].toNat ∧ (s[i].toNat : Int) ≤ 57
      · have hdig := hD.2 h48
        obtain ⟨h48, h57⟩ := h48
        rw [hdig, cond_true] at hst
        clear hR hcall hLen bad
        go_wp2_with (go_at_call 71; refine (Tryd.Builder_WriteByte w.heap.size w.heap.size _ _ _ hI (by rw [Lib.byteCells_length]; omega) hbw.size).mono ?_)
        rintro e W1 rfl h1 b1
        go_wp2
        go_roundw
        case rel =>
          refine ⟨i + 1, d ++ [s[i]], p, by simp, rfl, by omega, by simp; omega, fin hst, ?_, hbw.trans b1⟩
          rw [Lib.byteCells_append]; exact Or.inr h1
        case measure => simp [intOf]; omega
      · have hnd : isD s[i] = false := by
          cases hh : isD s[i] with
          | false => rfl
          | true => exact absurd (hD.1 hh) h48
        rw [hnd, cond_false] at hst
        by_cases h43 : s[i] = 43
        · have e43 : (s[i].toNat : Int) = 43 := by rw [h43]; rfl
          have n48 : ¬ (48 : Int) ≤ s[i].toNat := by omega
          have hns : seps.contains s[i] = false := by rw [h43]; rfl
          have hRn := hR.2 hns
          rw [hns, cond_false] at hst
          by_cases hgo : d.length = 0 ∧ p = false
          · obtain ⟨hd0, rfl⟩ := hgo
            have hd0' : d = [] := List.length_eq_zero_iff.1 hd0
            have hst' : bareF (List.drop i s.data.toList) d false = bareF (List.drop (i + 1) s.data.toList) d true := by
              rw [hst, h43, hd0']; rfl
            have hd0i : (d.length : Int) = 0 := by omega
            rw [hd0i] at hLen
            go_wp2_with (go_at_call 72; refine (hLen _ hI).mono ?_)
            go_roundw
            case rel =>
              exact ⟨i + 1, d, true, by simp, rfl, by omega, by omega, fin hst', hI, hbw⟩
            case measure => simp [intOf]; omega
          · have hno : bareF (List.drop i s.data.toList) d p = none := by
              rw [hst]
              have : (d.isEmpty && !p) = false := by
                cases d with
                | nil =>
                  cases p with
                  | true => rfl
                  | false => exact absurd ⟨rfl, rfl⟩ hgo
                | cons x r => rfl
              rw [Bool.and_assoc, this, Bool.and_false]; rfl
            have hbad := bad hno
            clear hR
            rw [e43] at hcall
            by_cases hd0 : d.length = 0
            · have hp : p = true := by
                cases p with
                | true => rfl
                | false => exact absurd ⟨hd0, rfl⟩ hgo
              subst hp
              have hd0i : (d.length : Int) = 0 := by omega
              rw [hd0i] at hLen
              go_wp2_with (go_at_call 72; refine (hLen _ hI).mono ?_)
              go_wp2_with (go_at_call 73; refine (hcall _).mono ?_)
              rintro e W1 ⟨rfl, rfl⟩
              go_wp2
              go_ret3
              refine ⟨?_, hbw⟩
              rw [← hbad]
              rfl
            · have hd0i : ¬ (d.length : Int) = 0 := by omega
              go_wp2_with (go_at_call 72; refine (hLen _ hI).mono ?_)
              go_wp2_with (go_at_call 73; refine (hcall _).mono ?_)
              rintro e W1 ⟨rfl, rfl⟩
              go_wp2
              go_ret3
              refine ⟨?_, hbw⟩
              rw [← hbad]
              rfl
        · have n43 : ¬ (s[i].toNat : Int) = 43 := fun e => h43 (by rw [← UInt8.toNat_inj]; show s[i].toNat = 43; omega)
          have e43 : (s[i] == 43) = false := by simpa using h43
          rw [e43, Bool.false_and, Bool.false_and, cond_false] at hst
          have h48' : ¬ (48 : Int) ≤ s[i].toNat ∨ ((48 : Int) ≤ s[i].toNat ∧ ¬ (s[i].toNat : Int) ≤ 57) := by omega
          cases hsp : seps.contains s[i] with
          | false =>
            have hRn := hR.2 hsp
            rw [hsp, cond_false] at hst
            have hbad := bad hst
            clear hR
            rcases h48' with n48 | ⟨y48, n57⟩
            · go_wp2_with (go_at_call 73; refine (hcall _).mono ?_)
              go_ret3
              refine ⟨?_, hbw⟩
              rw [← hbad]
              rfl
            · go_wp2_with (go_at_call 73; refine (hcall _).mono ?_)
              go_ret3
              refine ⟨?_, hbw⟩
              rw [← hbad]
              rfl
          | true =>
            have hRn : ¬ R < 0 := fun h => by have := hR.1 h; rw [hsp] at this; cases this
            rw [hsp, cond_true] at hst
            clear hR
            rcases h48' with n48 | ⟨y48, n57⟩
            · go_wp2_with (go_at_call 73; refine (hcall _).mono ?_)
              go_roundw
              case rel => exact ⟨i + 1, d, p, by simp, rfl, by omega, by omega, fin hst, hI, hbw⟩
              case measure => simp [intOf]; omega
            · go_wp2_with (go_at_call 73; refine (hcall _).mono ?_)
              go_roundw
              case rel => exact ⟨i + 1, d, p, by simp, rfl, by omega, by omega, fin hst, hI, hbw⟩
              case measure => simp [intOf]; omega
    · have hge : ¬ (i : Int) < (s.size : Int) := by omega
      go_wp2_with (go_at_call 74; refine (Tryd.Builder_String_any w.heap.size w.heap.size d _ hI hbw.size).mono ?_)
      rintro e W1 rfl b1
      go_wp2
      go_ret3
      have hb : bareF (List.drop i s.data.toList) d p = bareF s.data.toList [] false := hb
      rw [List.drop_of_length_le (by omega), bareF] at hb
      refine ⟨?_, hbw.trans b1⟩
      unfold barR
      rw [← hb]
      rfl
end Go.Proofs
set_option linter.unusedVariables false
set_option maxRecDepth 100000
namespace Go.Ad
open Go Go.Rx Go.Proofs Go.RowKit
theorem ok_bare {wb : World} : OC wb k_bare := by
  intro zs hz
  match zs, hz with
  | [z], hz =>
    have hl : (sOf z).length ≤ 140737488351232 := HB_s hz.2.1
    have hw := fun w => Tryd.bare_walk (bA (sOf z)) w (by show (sOf z).toArray.size ≤ _; simpa using hl)
    have e1 : (bA (sOf z)).data.toList = sOf z := by simp [bA]
    cases hct : bareF (sOf z) [] false with
    | none =>
      refine ⟨[0, 0, 0], ⟨Int.le_refl _, HB_pos, by decide, by decide, by decide, by decide, trivial⟩, ?_, fun w _ => .inr ⟨enters (by kernel_rfl) _ _, ?_⟩⟩
      · show (match bareF (sOf z) [] false with | some (d', p') => sOf 0 = d' ∧ (0 : Int) = b01 p' ∧ (0 : Int) = 1 | none => sOf 0 = [] ∧ (0 : Int) = 0 ∧ (0 : Int) = 0)
        rw [hct]; exact ⟨rfl, rfl, rfl⟩
      · refine (hw w).mono ?_
        rintro e w' ⟨rfl, hb⟩
        refine ⟨?_, ext_of hb⟩
        rw [e1]; unfold barR; rw [hct]; rfl
    | some ct =>
      obtain ⟨c, t⟩ := ct
      have h1 := c_bd (bareF_len _ _ _ hct) (by simp; omega)
      refine ⟨[cOf c, b01 t, 1], ⟨h1.1, h1.2, (b01_bd t).1, (b01_bd t).2, by decide, by decide, trivial⟩, ?_, fun w _ => .inr ⟨enters (by kernel_rfl) _ _, ?_⟩⟩
      · show (match bareF (sOf z) [] false with | some (d', p') => sOf (cOf c) = d' ∧ b01 t = b01 p' ∧ (1 : Int) = 1 | none => sOf (cOf c) = [] ∧ b01 t = 0 ∧ (1 : Int) = 0)
        rw [hct]; exact ⟨sOf_cOf _, rfl, rfl⟩
      · refine (hw w).mono ?_
        rintro e w' ⟨rfl, hb⟩
        refine ⟨?_, ext_of hb⟩
        rw [e1]; unfold barR; rw [hct]
        show _ = Ending.returned (.tuple #[.string (bA (sOf (cOf c))), .bool (decide (b01 t = 1)), .bool true])
        rw [sOf_cOf, b01_one]; rfl
end Go.Ad

/- slices.Delete at a struct, by a walk (rows of an own block). NOT WHOLE YET: see NOTES. -/
set_option linter.unusedSimpArgs false
set_option linter.unusedVariables false
namespace Go.Proofs
open Go.RowKit Go.Rx
section
variable {P : Program}
theorem step_append_run {ops : Array Oper} {o : Oper} {a : Act} {w : World} {K : Act → World → Prop} {Q : Exit → Act → World → Prop} {E : Prop}
    (hg : o.guard = none) (s x : Operand) (t t' : TypeId) (hop : o.op = Op.call { callee := Callee.builtin Builtin.append, args := #[s, x], argTypes := #[t, t'] }) (u v : Value) (hs : a.eval s = u) (hx : a.eval x = v) {r : Value} {w' : World}
    (hr : (Builtin.append_ #[t, t'] o.type #[u, v]).run P w = .ok r w') (hK : K (a.put o.dst r) w') : if Region.wanted o (yielded ops a.tmps) = true then Oper.wp P o a w K Q else E := by
  have hw : Region.wanted o (yielded ops a.tmps) = true := by simp [Region.wanted, hg]
  rw [if_pos hw]
  unfold Oper.wp
  simp [execOp, hop, resolve, invoke, builtin, hs, hx, hr, Result.andThen]
  exact hK
theorem wpList_clear_run {w : World} {ops : Array Oper} {rest : List Oper} {o : Oper} {a : Act} {Q : Exit → Act → World → Prop} (hgd : o.guard = none) (s : Operand) (t : TypeId)
    (ho : o.op = .call { callee := .builtin .clear, args := #[s], argTypes := #[t] }) (v : Value) (hs : a.eval s = v) {w' : World}
    (hr : (Builtin.clear_ #[t] o.type #[v]).run P w = .ok (.tuple #[]) w') (h : wpList P ops Q rest (a.put o.dst (.tuple #[])) w') : wpList P ops Q (o :: rest) a w := by
  refine wpList_plain hgd fun K hK => ?_
  unfold Oper.wp
  simp [execOp, ho, resolve, invoke, builtin, hs, hr, Result.andThen]
  exact hK _ _ h
/-- clear at elements of so many cells. -/
theorem run_clear_rows (w : World) (t e ty : TypeId) (z : Value) (ht : P.underlying t = some (.slice e)) (hv : ∀ w, (zeroValue e).run P w = .ok z w) (h1 : ∀ v ∈ z.cells.toList, v.oneCell' = true) (g o n c : Nat) (hn : 0 < n) (cur : Array Value) (et : TypeId) (hg : w.heap[g]? = some (.cells cur et (0, 0))) (hfit : o + n * z.cells.size ≤ cur.size) :
    (Builtin.clear_ #[t] ty #[.slice (some ⟨g, o, none⟩) n c]).run P w = .ok (.tuple #[]) (w.setRow g (cur.toList.take o ++ (Builtin.zeroCells z.cells n).toList ++ cur.toList.drop (o + n * z.cells.size)).toArray) := by
  have hzs : (Builtin.zeroCells z.cells n).toList.length = n * z.cells.size := by rw [Array.length_toList, zeroCells_size]
  have hst := run_storeCells_at P g o et (Builtin.zeroCells z.cells n).toList 0 cur w hg (by rw [hzs]; omega) (fun v hv' => by
    simp only [Builtin.zeroCells] at hv'
    have hm : v ∈ z.cells.toList := by
      simp at hv'
      obtain ⟨k, hk1, hk⟩ := hv'
      have hs : 0 < z.cells.size := by
        rcases Nat.eq_zero_or_pos z.cells.size with h | h
        · rw [h, Nat.mul_zero] at hk1; omega
        · exact h
      rw [getElem!_pos z.cells (k % z.cells.size) (Nat.mod_lt _ hs)] at hk
      rw [← hk]
      exact Array.getElem_mem_toList _
    exact h1 v hm)
  rw [Nat.add_zero, hzs] at hst
  obtain ⟨m, rfl⟩ : ∃ m, n = m + 1 := ⟨n - 1, by omega⟩
  simp [Builtin.clear_, run_underlying ht, hv, hst]
end
theorem slNew_row (w : World) (g : Nat) (a : Array Value) : SlNew w (w.setRow g a) (some g) :=
  ⟨rfl, rfl, rfl, by simp [World.setRow], fun k hk hne => setRow_other w g k a (fun e => hne (by rw [e]))⟩
theorem slNew_rows (w : World) (g : Nat) (a b : Array Value) : SlNew w ((w.drew.setRow g a).setRow g b) (some g) := by
  obtain ⟨h1, h2, h3, h4, h5⟩ := slNew_row w.drew g a
  obtain ⟨k1, k2, k3, k4, k5⟩ := slNew_row (w.drew.setRow g a) g b
  exact ⟨k1.trans h1, k2.trans h2, k3.trans h3, Nat.le_trans h4 k4, fun k hk hne => (k5 k (Nat.lt_of_lt_of_le hk h4) hne).trans (h5 k hk hne)⟩
end Go.Proofs

/- slices.Insert at a struct: run equations for its walk (the walk itself is still to do). -/
set_option linter.unusedVariables false
set_option linter.unusedSimpArgs false
namespace Go.Proofs
open Go.RowKit Go.Rx
section
variable {P : Program}
/-- copy at elements of so many cells: the cells are read first, so the two may overlap. -/
theorem run_copy_rows (w : World) (dT sT ty e : TypeId) (i : TypeInfo) (hu : P.underlying dT = some (.slice e)) (hi : P.info? e = some i) (g o dLen dCap : Nat) (a : Addr) (sLen sCap : Nat) (cur : Array Value) (t : TypeId) (cs : List Value)
    (hg : w.heap[g]? = some (.cells cur t (0, 0))) (hn : cs.length = Nat.min sLen dLen * i.size) (hsrc : ∀ j v, cs[j]? = some v → w.cell? (a.add j) = some v) (hfit : o + cs.length ≤ cur.size) (h1 : ∀ v ∈ cs, v.oneCell' = true) :
    (Builtin.copy_ #[dT, sT] ty #[.slice (some ⟨g, o, none⟩) dLen dCap, .slice (some a) sLen sCap]).run P w = .ok (goInt (Nat.min sLen dLen)) (w.setRow g (cur.toList.take o ++ cs ++ cur.toList.drop (o + cs.length)).toArray) := by
  have hst := run_storeCells_at P g o t cs 0 cur w hg (by simpa using hfit) h1
  rw [Nat.add_zero] at hst
  have hf := run_firstCells_some (P := P) w i.size (Nat.min sLen dLen) a sLen sCap cs hn hsrc
  simp [Builtin.copy_, run_underlying hu, Builtin.lenOf, sizeOf, typeInfo, hi, hf, hst]
theorem wpList_copy_runB {w : World} {ops : Array Oper} {rest : List Oper} {o : Oper} {a : Act} {Q : Exit → Act → World → Prop} (hgd : o.guard = none) (s x : Operand) (t t' : TypeId)
    (ho : o.op = .call { callee := .builtin .copy, args := #[s, x], argTypes := #[t, t'] }) (u v : Value) (hs : a.eval s = u) (hx : a.eval x = v) {r : Value} {w' : World}
    (hr : (Builtin.copy_ #[t, t'] o.type #[u, v]).run P w = .ok r w') (h : wpList P ops Q rest (a.put o.dst r) w') : wpList P ops Q (o :: rest) a w := by
  refine wpList_plain hgd fun K hK => ?_
  unfold Oper.wp
  simp [execOp, ho, resolve, invoke, builtin, hs, hx, hr, Result.andThen]
  exact hK _ _ h
theorem step_copy_run {ops : Array Oper} {o : Oper} {a : Act} {w : World} {K : Act → World → Prop} {Q : Exit → Act → World → Prop} {E : Prop}
    (hg : o.guard = none) (s x : Operand) (t t' : TypeId) (hop : o.op = Op.call { callee := Callee.builtin Builtin.copy, args := #[s, x], argTypes := #[t, t'] }) (u v : Value) (hs : a.eval s = u) (hx : a.eval x = v) {r : Value} {w' : World}
    (hr : (Builtin.copy_ #[t, t'] o.type #[u, v]).run P w = .ok r w') (hK : K (a.put o.dst r) w') : if Region.wanted o (yielded ops a.tmps) = true then Oper.wp P o a w K Q else E := by
  have hw : Region.wanted o (yielded ops a.tmps) = true := by simp [Region.wanted, hg]
  rw [if_pos hw]
  unfold Oper.wp
  simp [execOp, hop, resolve, invoke, builtin, hs, hx, hr, Result.andThen]
  exact hK
theorem wpList_append_runB {w : World} {ops : Array Oper} {rest : List Oper} {o : Oper} {a : Act} {Q : Exit → Act → World → Prop} (hgd : o.guard = none) (s x : Operand) (t t' : TypeId)
    (ho : o.op = .call { callee := .builtin .append, args := #[s, x], argTypes := #[t, t'] }) (u v : Value) (hs : a.eval s = u) (hx : a.eval x = v) {r : Value} {w' : World}
    (hr : (Builtin.append_ #[t, t'] o.type #[u, v]).run P w = .ok r w') (h : wpList P ops Q rest (a.put o.dst r) w') : wpList P ops Q (o :: rest) a w := by
  refine wpList_plain hgd fun K hK => ?_
  unfold Oper.wp
  simp [execOp, ho, resolve, invoke, builtin, hs, hx, hr, Result.andThen]
  exact hK _ _ h
end
set_option maxHeartbeats 4000000 in
set_option maxRecDepth 1000000 in
/-- Insert at the end: an append. -/
theorem Tryd.insert_end (g n cap : Nat) (A : Addr) (vc : Nat) (r : Value) (w W1 : World) (hn : n ≤ cap) (hcap : cap ≤ 9223372036854775807)
    (happ : ∀ ty, (Builtin.append_ #[24, 24] ty #[.slice (some ⟨g, 0, none⟩) n cap, .slice (some A) 1 vc]).run Tryd.prog w = .ok r W1) :
    Calls Tryd.prog 23 #[.slice (some ⟨g, 0, none⟩) n cap, .int .i64 n, .slice (some A) 1 vc] w fun e w' => e = .returned r ∧ w' = W1 := by
  obtain ⟨B, hB⟩ : ∃ B, (if cap = n then some (⟨g, 0, none⟩ : Addr) else some ⟨g, n * 10, none⟩) = B := ⟨_, rfl⟩
  go_enter Tryd.func23, Tryd.ntmps23
  go_wp2_with (at_builtin; refine wpList_append_runB rfl (.tmp 23) (.tmp 24) 24 24 rfl _ _ rfl rfl (happ _) ?_)
  go_wp2
  all_goals (go_ret; exact ⟨rfl, rfl⟩)
set_option maxHeartbeats 4000000 in
set_option maxRecDepth 1000000 in
theorem Tryd.insert_nil (A : Addr) (vc : Nat) (r : Value) (w W1 : World)
    (happ : ∀ ty, (Builtin.append_ #[24, 24] ty #[.slice none 0 0, .slice (some A) 1 vc]).run Tryd.prog w = .ok r W1) :
    Calls Tryd.prog 23 #[.slice none 0 0, .int .i64 0, .slice (some A) 1 vc] w fun e w' => e = .returned r ∧ w' = W1 := by
  go_enter Tryd.func23, Tryd.ntmps23
  go_wp2_with (at_builtin; refine wpList_append_runB rfl (.tmp 23) (.tmp 24) 24 24 rfl _ _ rfl rfl (happ _) ?_)
  go_wp2
  all_goals (go_ret; exact ⟨rfl, rfl⟩)
set_option maxHeartbeats 4000000 in
set_option maxRecDepth 1000000 in
theorem Tryd.insert_grow (g n cap i G C : Nat) (A : Addr) (vc : Nat) (r1 r2 : Value) (w W1 W2 W3 : World) (hin : i < n) (hn : n ≤ cap) (hroom : cap < n + 1) (hC : n + 1 ≤ C) (hn2 : n ≤ 1073741824)
    (happ : ∀ ty, (Builtin.append_ #[24, 3] ty #[.slice (some ⟨g, 0, none⟩) i cap, .int .i64 ((n : Int) + 1 - (i : Int))]).run Tryd.prog w = .ok (.slice (some ⟨G, 0, none⟩) (n + 1) C) W1)
    (hcp1 : ∀ ty, (Builtin.copy_ #[24, 24] ty #[.slice (some ⟨G, i * 10, none⟩) (n + 1 - i) (C - i), .slice (some A) 1 vc]).run Tryd.prog W1 = .ok r1 W2)
    (hcp2 : ∀ ty, (Builtin.copy_ #[24, 24] ty #[.slice (some ⟨G, (i + 1) * 10, none⟩) (n + 1 - (i + 1)) (C - (i + 1)), .slice (some ⟨g, i * 10, none⟩) (n - i) (cap - i)]).run Tryd.prog W2.drew = .ok r2 W3) :
    Calls Tryd.prog 23 #[.slice (some ⟨g, 0, none⟩) n cap, .int .i64 i, .slice (some A) 1 vc] w fun e w' => e = .returned (.slice (some ⟨G, 0, none⟩) (n + 1) C) ∧ w' = W3 := by
  have f1 : ¬ cap = i := by omega
  have f2 : ¬ C = i := by omega
  have f3 : ¬ C = i + 1 := by omega
  have f4 : i ≤ cap := by omega
  have f5 : ¬ ((i : Int) = (n : Int)) := by omega
  have f6 : (cap : Int) < (n : Int) + 1 := by omega
  have f7 : i ≤ C := by omega
  have f8 : i + 1 ≤ C := by omega
  have f9 : ((i : Int) + 1).toNat = i + 1 := by omega
  have f10 : (0 : Int) ≤ (i : Int) + 1 := by omega
  have f11 : (i : Int) + 1 ≤ (n : Int) + 1 := by omega
  have f12 : i ≤ n := by omega
  have f13 : IntKind.i64.wrap ((i : Int) + 1) = (i : Int) + 1 := by rw [IntKind.wrap_i64]; omega
  go_enter Tryd.func23, Tryd.ntmps23
  go_wp2_with (first
    | (at_builtin; refine wpList_append_runB rfl (.tmp 34) (.tmp 39) 24 3 rfl _ _ rfl rfl (happ _) ?_)
    | (at_builtin; refine wpList_copy_runB rfl (.tmp 43) (.tmp 44) 24 24 rfl _ _ rfl rfl (hcp1 _) ?_))
  go_region_law (refine step_copy_run rfl (.tmp 50) (.tmp 53) 24 24 rfl (.slice (some ⟨G, (i + 1) * 10, none⟩) (n + 1 - (i + 1)) (C - (i + 1))) (.slice (some ⟨g, i * 10, none⟩) (n - i) (cap - i)) (by simp [Act.eval, Act.put]) (by simp [Act.eval, Act.put]) (hcp2 _) ?_)
  go_wp2
  go_ret
  exact ⟨rfl, rfl⟩
set_option maxHeartbeats 4000000 in
set_option maxRecDepth 1000000 in
theorem Tryd.insert_room (g n cap i : Nat) (A : Addr) (vc : Nat) (r1 r2 : Value) (w W1 W2 : World) (hin : i < n) (hn : n + 1 ≤ cap) (hn2 : n ≤ 1073741824)
    (hov : (callFunc 36 #[.slice (some A) 1 vc, .slice (some ⟨g, (i + 1) * 10, none⟩) (n - i) (cap - (i + 1))]).run Tryd.prog w = .ok (.value (.bool false)) w)
    (hcp1 : ∀ ty, (Builtin.copy_ #[24, 24] ty #[.slice (some ⟨g, (i + 1) * 10, none⟩) (n + 1 - (i + 1)) (cap - (i + 1)), .slice (some ⟨g, i * 10, none⟩) (n + 1 - i) (cap - i)]).run Tryd.prog w.drew = .ok r1 W1)
    (hcp2 : ∀ ty, (Builtin.copy_ #[24, 24] ty #[.slice (some ⟨g, i * 10, none⟩) (n + 1 - i) (cap - i), .slice (some A) 1 vc]).run Tryd.prog W1 = .ok r2 W2) :
    Calls Tryd.prog 23 #[.slice (some ⟨g, 0, none⟩) n cap, .int .i64 i, .slice (some A) 1 vc] w fun e w' => e = .returned (.slice (some ⟨g, 0, none⟩) (n + 1) cap) ∧ w' = W2 := by
  have f1 : ¬ cap = i := by omega
  have f3 : ¬ cap = i + 1 := by omega
  have f4 : i ≤ cap := by omega
  have f5 : ¬ ((i : Int) = (n : Int)) := by omega
  have f6 : ¬ (cap : Int) < (n : Int) + 1 := by omega
  have f8 : i + 1 ≤ cap := by omega
  have f9 : ((i : Int) + 1).toNat = i + 1 := by omega
  have f10 : (0 : Int) ≤ (i : Int) + 1 := by omega
  have f11 : (i : Int) + 1 ≤ (n : Int) + 1 := by omega
  have f12 : i ≤ n := by omega
  have f13 : IntKind.i64.wrap ((i : Int) + 1) = (i : Int) + 1 := by rw [IntKind.wrap_i64]; omega
  have f14 : ((n : Int) + 1).toNat = n + 1 := by omega
  have f15 : (n : Int) + 1 ≤ (cap : Int) := by omega
  have f16 : i ≤ n + 1 := by omega
  have f17 : (i : Int) ≤ (n : Int) + 1 := by omega
  go_enter Tryd.func23, Tryd.ntmps23
  go_wp2
  go_region_law (refine step_copy_run rfl (.tmp 73) (.tmp 76) 24 24 rfl (.slice (some ⟨g, (i + 1) * 10, none⟩) (n + 1 - (i + 1)) (cap - (i + 1))) (.slice (some ⟨g, i * 10, none⟩) (n + 1 - i) (cap - i)) (by simp [Act.eval, Act.put]) (by simp [Act.eval, Act.put]) (hcp1 _) ?_)
  go_wp2_with (at_builtin; refine wpList_copy_runB rfl (.tmp 80) (.tmp 81) 24 24 rfl _ _ rfl rfl (hcp2 _) ?_)
  go_wp2
  go_ret
  exact ⟨rfl, rfl⟩
end Go.Proofs

/- The contract of slices.Insert at a struct, out of its walks. -/
set_option linter.unusedVariables false
set_option linter.unusedSimpArgs false
set_option maxRecDepth 100000
namespace Go.Ad
open Go Go.Rx Go.Proofs Go.RowKit
theorem slNew_alloc (w : World) (o : Obj) (own : Option Nat) : SlNew w (w.drew.alloc o) own :=
  have h := (World.Extends.refl w.drew).alloc o
  ⟨h.os, h.tape, h.output, h.size, fun k hk _ => h.block k hk⟩
theorem SlNew.trans1 {w w1 w2 : World} {own : Option Nat} {g : Nat} (h : SlNew w w1 own) (h2 : SlNew w1 w2 (some g)) (hg : own = some g ∨ w.heap.size ≤ g) : SlNew w w2 own := by
  obtain ⟨a1, a2, a3, a4, a5⟩ := h
  obtain ⟨b1, b2, b3, b4, b5⟩ := h2
  refine ⟨b1.trans a1, b2.trans a2, b3.trans a3, Nat.le_trans a4 b4, fun k hk hne => ?_⟩
  rw [b5 k (Nat.lt_of_lt_of_le hk a4) (fun e => ?_), a5 k hk hne]
  cases e
  rcases hg with hg | hg
  · exact hne hg
  · omega
theorem SlNew.drew1 {w w1 : World} {own : Option Nat} (h : SlNew w w1 own) : SlNew w w1.drew own := h
/-- slices.overlaps: the second lies in a block of one's own. -/
theorem run_overlaps_own {P : Program} (w : World) (tS tR e : TypeId) (ht : P.underlying tS = some (.slice e)) (size : Nat) (hz : ∀ w, (Go.sizeOf e).run P w = .ok size w)
    (a b : Addr) (la ca lb cb : Nat) (hne : a.block ≠ b.block) (cA cB : Array Value) (tA tB : TypeId) (fA : Nat × Nat)
    (hA : w.heap[a.block]? = some (.cells cA tA fA)) (hB : w.heap[b.block]? = some (.cells cB tB (0, 0))) (h0 : cA.size ≠ 0) :
    (Extern.SlicesOverlaps.overlaps #[tS, tS] #[tR] #[.slice (some a) la ca, .slice (some b) lb cb]).run P w = .ok (.bool false) w := by
  have hnb : (a.block != b.block) = true := by simpa using hne
  have hnb' : (a.block == b.block) = false := by simpa using hne
  have hsa : w.shape? a.block = some (tA, cA.size) := by unfold World.shape?; rw [hA]
  have hsb : w.shape? b.block = some (tB, cB.size) := by unfold World.shape?; rw [hB]
  have hfb : ∀ o, w.frozen? ⟨b.block, o, none⟩ = false := fun o => by unfold World.frozen?; simp only [hB]; simp
  have hfb' : w.frozen? b = false := by unfold World.frozen?; simp only [hB]; simp
  change Sem.run P (α := Value) (do
    let some t := (#[tS, tS] : Array TypeId)[0]? | stuck "slices.overlaps: no parameter types"
    let .slice elem ← underlying t | stuck "slices.overlaps: slice type expected"
    let size ← Go.sizeOf elem
    match (some a : Option Addr), (some b : Option Addr) with
    | some a, some b =>
      if la = 0 ∨ lb = 0 ∨ size = 0 then pure (Value.bool false)
      else if a.block != b.block && (← frozen a) && (← frozen b) then unsupported .addressObserved
      else do
        if a.block != b.block then do
          noView a; noView b
          if ← mayBeOne a b then return Value.bool ((← choose (.extern "sameAddr.stringBytes" 2)) == 1)
        pure (Value.bool (a.block == b.block && a.off < b.off + lb * size && b.off < a.off + la * size))
    | _, _ => pure (Value.bool false)) w = _
  by_cases hl : la = 0 ∨ lb = 0 ∨ size = 0
  · simp [run_underlying ht, hz, hl]
  · obtain ⟨kA, hkA⟩ : ∃ k, cA.size = k + 1 := ⟨cA.size - 1, by omega⟩
    rw [hkA] at hsa
    cases h1 : w.frozen? a <;> cases h2 : w.frozen? ⟨a.block, kA + 1, none⟩ <;> simp [run_underlying ht, hz, hl, hnb, hnb', frozen, noView, viewAt, mayBeOne, stringish, shape, Sem.run, hsa, hsb, hfb, hfb', h1, h2]
theorem room_lists {α : Type} {cells L1 L2 N rest : List α} {x y z : Nat} (h : cells = L1 ++ L2 ++ rest) (h1 : L1.length = x) (hy : z ≤ cells.length) (hN : N = N) (hz : z = x + y) :
    (cells.take z ++ L2 ++ cells.drop (z + L2.length)).toArray.toList.take x ++ N ++ (cells.take z ++ L2 ++ cells.drop (z + L2.length)).toArray.toList.drop (x + y) = L1 ++ N ++ L2 ++ cells.drop (z + L2.length) := by
  simp only
  have e1 : (cells.take z ++ L2 ++ cells.drop (z + L2.length)).take x = L1 := by
    rw [List.append_assoc, List.take_append_of_le_length (by rw [List.length_take]; omega), List.take_take, Nat.min_eq_left (by omega), h, List.append_assoc, List.take_append_of_le_length (by omega), List.take_of_length_le (by omega)]
  have e2 : (cells.take z ++ L2 ++ cells.drop (z + L2.length)).drop (x + y) = L2 ++ cells.drop (z + L2.length) := by
    rw [List.append_assoc, ← hz]
    have : (cells.take z).length = z := by rw [List.length_take]; omega
    conv => lhs; arg 1; rw [← this]
    rw [List.drop_left]
  rw [e1, e2]
  simp
theorem grow_lists {α : Type} {L1 L2 N D : List α} {x y : Nat} (h1 : L1.length = x) (hN : N.length = y) :
    (L1 ++ N ++ D).toArray.toList.take (x + y) ++ L2 ++ (L1 ++ N ++ D).toArray.toList.drop (x + y + L2.length) = L1 ++ N ++ L2 ++ (L1 ++ N ++ D).toArray.toList.drop (x + y + L2.length) := by
  congr 2
  simp only
  rw [List.take_append_of_le_length (by rw [List.length_append]; omega), List.take_of_length_le (by rw [List.length_append]; omega)]
theorem ok_sins {wb : World} : k_sins.Ok Tryd.prog wb (flatS sh SB k_sins.id) := by
  refine ⟨fun args w => enters (by kernel_rfl) _ _, fun F w v0 code vs zs hw ho hc hz hpre hat hF => ?_⟩
  match zs, hz, vs, hat with
  | [i, r], hz, [vi, vv], hat =>
    obtain ⟨hvi, hvv, _⟩ := hat
    have hvi : vi = .int .i64 i := hvi
    have hvw : SlAt F w k_sins.sh (rOf r) vv := hvv
    clear hvv
    have hpre : (0 ≤ i ∧ i ≤ ((rOf code).length : Int)) ∧ (rOf r).length = 1 ∧ (rOf code).length + 1 ≤ 1073741824 := hpre
    obtain ⟨⟨p0, p1⟩, p2, p3⟩ := hpre
    obtain ⟨a, ha⟩ : ∃ a : Nat, i = a := ⟨i.toNat, by omega⟩
    subst ha
    have p1 : a ≤ (rOf code).length := by omega
    rcases hvw with ⟨_, h0⟩ | ⟨gA, oA, vc, cellsA, tA, fzA, hvv, ⟨hcA1, hcA2⟩, hFA, hgA, hrA⟩
    · rw [h0] at p2; simp at p2
    rw [p2] at hvv
    obtain ⟨i0, hi0, hiK, z, hiz, hzK, hiB⟩ : ∃ i0, Tryd.prog.info? 31 = some i0 ∧ i0.size = 10 ∧ ∃ z, i0.zero = some z ∧ z.cells.size = 10 ∧ i0.bytes ≤ 131072 := ⟨_, rfl, by kernel_rfl, _, rfl, by kernel_rfl, by decide +kernel⟩
    have hshl : k_sins.sh.length = 10 := rfl
    have hnone : ∀ row ∈ rOf r, RowOk k_sins.sh row := hrA.1
    have hnl : (flatV k_sins.sh (rOf r)).length = 10 := by rw [flatV_len hnone, p2, hshl, Nat.one_mul]
    have hone : ∀ (rows : List (List Int)), ∀ u ∈ flatV k_sins.sh rows, u.oneCell' = true := fun _ => flatV_one
    have hltA : gA < w.heap.size := (Array.getElem?_eq_some_iff.1 hgA).1
    have hAc : cellsA.size ≠ 0 := by
      obtain ⟨_, pre, post, h2, _⟩ := hrA
      have := congrArg List.length h2
      simp only [List.length_append, hnl, Array.length_toList] at this
      omega
    have hsrc : ∀ w1 : World, w1.heap[gA]? = w.heap[gA]? → ∀ j u, (flatV k_sins.sh (rOf r))[j]? = some u → w1.cell? ((⟨gA, oA, none⟩ : Addr).add j) = some u := fun w1 h1 j u hu => by
      rw [Addr.add_lit]
      have := hrA.flat hu
      simp only [World.cell?, h1, hgA, Option.isSome_none, Bool.false_eq_true, if_false]
      exact this
    have hsrcS : ∀ w1 : World, w1.heap[gA]? = w.heap[gA]? → Src Tryd.prog i0.size 24 (.slice (some ⟨gA, oA, none⟩) 1 vc) 1 (flatV k_sins.sh (rOf r)) w1 := fun w1 h1 =>
      Src.ofSlice w1 Tryd.underlying24 ⟨gA, oA, none⟩ 1 vc _ (by rw [hnl, hiK]) (hsrc w1 h1) (hone _)
    -- what is to be shown at the end
    have fin : ∀ (w' : World) (G C : Nat) (cells : Array Value) (post : List Value), SlNew w w' (ownOf v0) → (∀ row ∈ rOf code, RowOk k_sins.sh row) → w'.heap[G]? = some (.cells cells 31 (0, 0)) → cells.toList = flatV k_sins.sh ((rOf code).take a) ++ flatV k_sins.sh (rOf r) ++ flatV k_sins.sh ((rOf code).drop a) ++ post → cells.size = C * 10 →
        (rOf code).length + 1 ≤ C → (C : Int) ≤ 9223372036854775807 → (ownOf v0 = some G ∨ w.heap.size ≤ G) →
        SlNew w w' (ownOf v0) ∧ ∃ code' v', (0 ≤ code' ∧ code' ≤ RB) ∧ flatS sh SB k_sins.id (code :: [(a : Int), r]) [code'] ∧ SlOw (fun g => ownOf v0 = some g ∨ w.heap.size ≤ g) w' k_sins.sh k_sins.e (rOf code') v' ∧ Ending.returned (.slice (some ⟨G, 0, none⟩) ((rOf code).length + 1) C) = .returned v' := by
      intro w' G C cells post hnew hok hG hcells hsz hC1 hC2 hown
      have hall : ∀ row ∈ (rOf code).take a ++ rOf r ++ (rOf code).drop a, RowOk k_sins.sh row := fun row hr => by
        rcases List.mem_append.1 hr with hr | hr
        · rcases List.mem_append.1 hr with hr | hr
          · exact hok row (List.mem_of_mem_take hr)
          · exact hnone row hr
        · exact hok row (List.mem_of_mem_drop hr)
      have hlen' : ((rOf code).take a ++ rOf r ++ (rOf code).drop a).length = (rOf code).length + 1 := by
        rw [List.length_append, List.length_append, List.length_take, List.length_drop, p2, Nat.min_eq_left p1]; omega
      refine ⟨hnew, rc ((rOf code).take a ++ rOf r ++ (rOf code).drop a), _, ⟨rc_nonneg _, RB_rows (by kernel_rfl) (by rw [hlen']; omega) hall⟩, ?_, Or.inr ⟨G, C, cells, ?_, ⟨?_, hC2⟩, hown, hG, ⟨?_, [], post, ?_, rfl⟩, hsz⟩, rfl⟩
      · show rOf (rc _) = (rOf code).take ((a : Int)).toNat ++ rOf r ++ (rOf code).drop ((a : Int)).toNat
        rw [rOf_rc]; rfl
      · rw [rOf_rc, hlen']
      · rw [rOf_rc, hlen']; exact hC1
      · rw [rOf_rc]; exact hall
      · rw [rOf_rc, hcells, List.nil_append, flatV_append, flatV_append]
    rw [hvi, hvv]
    rcases ho with ⟨hv0, h0⟩ | ⟨g, cap, cells, hv0, ⟨hcap1, hcap2⟩, hwb, hg, hrows, hsz⟩
    · -- nothing there
      have ha0 : a = 0 := by rw [h0] at p1; simpa using p1
      subst ha0
      have hC := grown_le w (0 + 1) 0 31 (by omega)
      have happ : ∀ ty, (Builtin.append_ #[24, 24] ty #[.slice none 0 0, .slice (some ⟨gA, oA, none⟩) 1 vc]).run Tryd.prog w = _ := fun ty =>
        run_append_grow_src w 24 24 ty 31 i0 z Tryd.underlying24 hi0 hiz none 0 0 [] (firstCells_zero _ _ _ _) _ 1 _ (hsrcS w rfl) (by omega) (by omega) (growslice_fits (by omega) (by omega))
      rw [hv0]
      refine (Tryd.insert_nil ⟨gA, oA, none⟩ vc _ w _ happ).mono ?_
      rintro e w' ⟨rfl, rfl⟩
      have hC1 := hC.1
      have := fin _ w.heap.size (grownCap w (0 + 1) 0 31) (([] ++ flatV k_sins.sh (rOf r)).toArray ++ Builtin.zeroCells z.cells (grownCap w (0 + 1) 0 31 - (0 + 1))) (Builtin.zeroCells z.cells (grownCap w (0 + 1) 0 31 - (0 + 1))).toList (slNew_alloc w _ _) (by rw [h0]; intro _ h; cases h) (heap_alloc_new w.drew _) (by rw [h0]; simp [flatV]) (by
        simp only [Array.size_append, List.size_toArray, List.nil_append, hnl, zeroCells_size, hzK]; omega) (by rw [h0]; exact hC.1) (by omega) (.inr (Nat.le_refl _))
      rw [h0] at this
      rw [← hv0]; exact this
    · rw [hshl] at hsz
      obtain ⟨hok, pre, rest, hcells, hpre0⟩ := hrows
      have hpre0 : pre = [] := List.eq_nil_of_length_eq_zero hpre0
      subst hpre0
      rw [List.nil_append] at hcells
      obtain ⟨n, hn⟩ : ∃ n, (rOf code).length = n := ⟨_, rfl⟩
      rw [hn] at p1 p3 hcap1 hv0 fin
      have hsplit : flatV k_sins.sh (rOf code) = flatV k_sins.sh ((rOf code).take a) ++ flatV k_sins.sh ((rOf code).drop a) := by rw [← flatV_append, List.take_append_drop]
      have hl1 : (flatV k_sins.sh ((rOf code).take a)).length = a * 10 := by rw [flatV_len fun r h => hok r (List.mem_of_mem_take h), List.length_take, Nat.min_eq_left (by omega), hshl]
      have hl2 : (flatV k_sins.sh ((rOf code).drop a)).length = (n - a) * 10 := by rw [flatV_len fun r h => hok r (List.mem_of_mem_drop h), List.length_drop, hn, hshl]
      have hl0 : (flatV k_sins.sh (rOf code)).length = n * 10 := by rw [flatV_len hok, hn, hshl]
      have hcl : cells.toList.length = cap * 10 := by rw [Array.length_toList]; exact hsz
      have hne : gA ≠ g ∨ cap = 0 := by
        rcases Nat.eq_zero_or_pos cap with h | h
        · exact .inr h
        · refine .inl fun e => ?_
          obtain ⟨c', rfl⟩ : ∃ c', cap = c' + 1 := ⟨cap - 1, by omega⟩
          refine hF gA hFA ?_
          rw [hv0, e]; rfl
      have hown : cap ≠ 0 → ownOf v0 = some g := fun h => by
        obtain ⟨c', rfl⟩ : ∃ c', cap = c' + 1 := ⟨cap - 1, by omega⟩
        rw [hv0]; rfl
      have hlt : g < w.heap.size := (Array.getElem?_eq_some_iff.1 hg).1
      -- the cells of the rows
      have hcell : ∀ (w1 : World) (o : Nat) (l : List Value) (pre post : List Value), w1.heap[g]? = w.heap[g]? → cells.toList = pre ++ l ++ post → pre.length = o → ∀ j u, l[j]? = some u → w1.cell? ((⟨g, o, none⟩ : Addr).add j) = some u := fun w1 o l pre post h1 h2 h3 j u hu => by
        rw [Addr.add_lit]
        simp only [World.cell?, h1, hg, Option.isSome_none, Bool.false_eq_true, if_false]
        have hlt := (List.getElem?_eq_some_iff.1 hu).1
        rw [← Array.getElem?_toList, h2, List.append_assoc, List.getElem?_append_right (by omega), List.getElem?_append_left (by omega), ← h3]
        rw [show pre.length + j - pre.length = j by omega]; exact hu
      by_cases han : a = n
      · -- at the end
        subst han
        have hd0 : (rOf code).drop a = [] := List.drop_of_length_le (by omega)
        have ht0 : (rOf code).take a = rOf code := List.take_of_length_le (by omega)
        by_cases hroom : a + 1 ≤ cap
        · have happ : ∀ ty, (Builtin.append_ #[24, 24] ty #[.slice (some ⟨g, 0, none⟩) a cap, .slice (some ⟨gA, oA, none⟩) 1 vc]).run Tryd.prog w = _ := fun ty =>
            run_append_room_row (P := Tryd.prog) w 24 24 ty 31 i0 Tryd.underlying24 hi0 g a cap cells 31 hg _ 1 _ (hsrcS w rfl) hroom (by rw [hiK, hnl, hsz]; omega)
          rw [hv0]
          refine (Tryd.insert_end g a cap ⟨gA, oA, none⟩ vc _ w _ (by omega) (by omega) happ).mono ?_
          rintro e w' ⟨rfl, rfl⟩
          rw [← hv0]
          refine fin _ g cap _ (cells.toList.drop (a * 10 + 10)) (by rw [hown (by omega)]; exact slNew_row w g _) hok (setRow_heap w g _ _ _ _ hg) ?_ ?_ hroom hcap2 (.inl (hown (by omega)))
          · rw [hd0, ht0, hiK, hnl]
            simp only [hcells]
            rw [List.take_append_of_le_length (by omega), List.take_of_length_le (by omega)]
            simp [flatV]
          · simp only [List.size_toArray, List.length_append, List.length_take, List.length_drop, hcl, hnl, hiK]
            omega
        · have hC := grown_le w (a + 1) cap 31 (by omega)
          have happ : ∀ ty, (Builtin.append_ #[24, 24] ty #[.slice (some ⟨g, 0, none⟩) a cap, .slice (some ⟨gA, oA, none⟩) 1 vc]).run Tryd.prog w = _ := fun ty =>
            run_append_grow_src w 24 24 ty 31 i0 z Tryd.underlying24 hi0 hiz (some ⟨g, 0, none⟩) a cap (flatV k_sins.sh (rOf code)) (run_firstCells_some w.drew i0.size a ⟨g, 0, none⟩ a cap _ (by rw [hl0, hiK]) (hcell w.drew 0 _ [] rest rfl (by rw [hcells]; rfl) rfl)) _ 1 _ (hsrcS w rfl) (by omega) (by omega) (growslice_fits (by omega) (by
              have := Nat.mul_le_mul (show a + 1 ≤ 1073741824 by omega) hiB
              omega))
          rw [hv0]
          refine (Tryd.insert_end g a cap ⟨gA, oA, none⟩ vc _ w _ (by omega) (by omega) happ).mono ?_
          rintro e w' ⟨rfl, rfl⟩
          rw [← hv0]
          refine fin _ w.heap.size (grownCap w (a + 1) cap 31) _ (Builtin.zeroCells z.cells (grownCap w (a + 1) cap 31 - (a + 1))).toList (slNew_alloc w _ _) hok (heap_alloc_new w.drew _) ?_ ?_ hC.1 (by omega) (.inr (Nat.le_refl _))
          · rw [hd0, ht0]; simp [flatV]
          · simp only [Array.size_append, List.size_toArray, List.length_append, hl0, hnl, zeroCells_size, hzK]
            have := hC.1
            omega
      · have han : a < n := by omega
        have hcap0 : cap ≠ 0 := by omega
        have hne : gA ≠ g := hne.resolve_right hcap0
        have hown := hown hcap0
        by_cases hroom : n + 1 ≤ cap
        · -- room
          have hlr : rest.length = (cap - n) * 10 := by
            have := congrArg List.length hcells
            simp only [List.length_append, hl0, hcl] at this
            rw [Nat.sub_mul]; omega
          have hcs : cells.toList = flatV k_sins.sh ((rOf code).take a) ++ flatV k_sins.sh ((rOf code).drop a) ++ rest := by rw [hcells, hsplit]
          have hcp1 : ∀ ty, (Builtin.copy_ #[24, 24] ty #[.slice (some ⟨g, (a + 1) * 10, none⟩) (n + 1 - (a + 1)) (cap - (a + 1)), .slice (some ⟨g, a * 10, none⟩) (n + 1 - a) (cap - a)]).run Tryd.prog w.drew = _ := fun ty =>
            run_copy_rows w.drew 24 24 ty 31 i0 Tryd.underlying24 hi0 g ((a + 1) * 10) (n + 1 - (a + 1)) (cap - (a + 1)) ⟨g, a * 10, none⟩ (n + 1 - a) (cap - a) cells 31 (flatV k_sins.sh ((rOf code).drop a)) hg
              (by rw [hl2, hiK, show Nat.min (n + 1 - a) (n + 1 - (a + 1)) = n - a by show min _ _ = _; omega]) (hcell w.drew (a * 10) _ (flatV k_sins.sh ((rOf code).take a)) rest rfl hcs hl1) (by rw [hl2, hsz]; omega) (hone _)
          obtain ⟨c1, hc1⟩ : ∃ c1, c1 = (cells.toList.take ((a + 1) * 10) ++ flatV k_sins.sh ((rOf code).drop a) ++ cells.toList.drop ((a + 1) * 10 + (flatV k_sins.sh ((rOf code).drop a)).length)).toArray := ⟨_, rfl⟩
          rw [← hc1] at hcp1
          have hg1 : (w.drew.setRow g c1).heap[g]? = some (.cells c1 31 (0, 0)) := setRow_heap w.drew g _ _ _ _ hg
          have hc1s : c1.size = cap * 10 := by
            rw [hc1]; simp only [List.size_toArray, List.length_append, List.length_take, List.length_drop, hcl, hl2]; omega
          have hcp2 : ∀ ty, (Builtin.copy_ #[24, 24] ty #[.slice (some ⟨g, a * 10, none⟩) (n + 1 - a) (cap - a), .slice (some ⟨gA, oA, none⟩) 1 vc]).run Tryd.prog (w.drew.setRow g c1) = _ := fun ty =>
            run_copy_rows (w.drew.setRow g c1) 24 24 ty 31 i0 Tryd.underlying24 hi0 g (a * 10) (n + 1 - a) (cap - a) ⟨gA, oA, none⟩ 1 vc c1 31 (flatV k_sins.sh (rOf r)) hg1
              (by rw [hnl, hiK, show Nat.min 1 (n + 1 - a) = 1 by show min _ _ = _; omega]) (hsrc _ (setRow_other w.drew g gA c1 hne)) (by rw [hnl, hc1s]; omega) (hone _)
          have hov : (callFunc 36 #[.slice (some ⟨gA, oA, none⟩) 1 vc, .slice (some ⟨g, (a + 1) * 10, none⟩) (n - a) (cap - (a + 1))]).run Tryd.prog w = .ok (.value (.bool false)) w := by
            rw [run_callFunc_extern Tryd.func36 (by kernel_rfl) (by kernel_rfl) (by kernel_rfl) (e := Extern.SlicesOverlaps.overlaps #[24, 24] #[4]) (by kernel_rfl)]
            rw [run_overlaps_own w 24 4 31 Tryd.underlying24 i0.size (fun w => by simp [Go.sizeOf, typeInfo, hi0]) ⟨gA, oA, none⟩ ⟨g, (a + 1) * 10, none⟩ 1 vc (n - a) (cap - (a + 1)) hne cellsA cells tA 31 fzA hgA hg hAc]
            rfl
          rw [hv0]
          refine (Tryd.insert_room g n cap a ⟨gA, oA, none⟩ vc _ _ w _ _ han hroom (by omega) hov hcp1 hcp2).mono ?_
          rintro e w' ⟨rfl, rfl⟩
          rw [← hv0]
          refine fin _ g cap _ (cells.toList.drop ((a + 1) * 10 + (flatV k_sins.sh ((rOf code).drop a)).length)) (by rw [hown]; exact SlNew.trans1 (w := w) (w1 := w.drew.setRow g c1) (slNew_row w.drew g c1) (slNew_row _ g _) (.inl rfl)) hok (setRow_heap _ g _ _ _ _ hg1) ?_ ?_ hroom hcap2 (.inl hown)
          · simp only [hnl]
            rw [hc1]
            exact room_lists hcs hl1 (by simp only [hcl]; omega) rfl (by rw [Nat.succ_mul])
          · simp only [List.size_toArray, List.length_append, List.length_take, List.length_drop, Array.length_toList, hc1s, hnl]
            have : (a + 1) * 10 ≤ cap * 10 := Nat.mul_le_mul_right _ (by omega)
            omega
        · -- no room
          have hka : a + (n + 1 - a) = n + 1 := by omega
          have hki : ((n : Int) + 1 - (a : Int)) = ((n + 1 - a : Nat) : Int) := by omega
          have hC := grown_le w (n + 1) cap 31 (by omega)
          have happ0 := fun ty => Lib.run_append_grow_zeros (P := Tryd.prog) w 24 3 ty 31 i0 z .i64 .i64 Tryd.underlying24 Tryd.underlying3 hi0 hiz (some ⟨g, 0, none⟩) a cap (flatV k_sins.sh ((rOf code).take a))
            (run_firstCells_some w.drew i0.size a ⟨g, 0, none⟩ a cap _ (by rw [hl1, hiK]) (hcell w.drew 0 _ [] (flatV k_sins.sh ((rOf code).drop a) ++ rest) rfl (by rw [hcells, hsplit, List.nil_append, List.append_assoc]) rfl)) (n + 1 - a) (by omega) (by rw [hiK]; decide) (by omega) (by omega)
            (by
              have := Nat.mul_le_mul (show n + 1 - a ≤ 1073741824 by omega) hiB
              omega)
            (growslice_fits (by omega) (by
              have := Nat.mul_le_mul (show a + (n + 1 - a) ≤ 1073741824 by omega) hiB
              omega))
          rw [hka] at happ0
          obtain ⟨C, hCe⟩ : ∃ C, C = grownCap w (n + 1) cap 31 := ⟨_, rfl⟩
          rw [← hCe] at happ0 hC
          obtain ⟨c0, hc0⟩ : ∃ c0 : Array Value, c0 = (flatV k_sins.sh ((rOf code).take a)).toArray ++ Builtin.zeroCells z.cells (n + 1 - a) ++ Builtin.zeroCells z.cells (C - (n + 1)) := ⟨_, rfl⟩
          rw [← hc0, ← hki] at happ0
          have hc0s : c0.size = C * 10 := by
            rw [hc0]; simp only [Array.size_append, List.size_toArray, hl1, zeroCells_size, hzK]; omega
          have hc0t : c0.toList.take (a * 10) = flatV k_sins.sh ((rOf code).take a) := by
            rw [hc0, Array.toList_append, Array.toList_append, List.append_assoc, List.take_append_of_le_length (by simp only [hl1]; omega), List.take_of_length_le (by simp only [hl1]; omega)]
          have hG0 : (w.drew.alloc (.cells c0 31)).heap[w.heap.size]? = some (.cells c0 31 (0, 0)) := heap_alloc_new w.drew _
          have hold : ∀ k : Nat, k < w.heap.size → (w.drew.alloc (.cells c0 31)).heap[k]? = w.heap[k]? := fun k hk => ((World.Extends.refl w.drew).alloc _).block k hk
          have hcp1 : ∀ ty, (Builtin.copy_ #[24, 24] ty #[.slice (some ⟨w.heap.size, a * 10, none⟩) (n + 1 - a) (C - a), .slice (some ⟨gA, oA, none⟩) 1 vc]).run Tryd.prog (w.drew.alloc (.cells c0 31)) = _ := fun ty =>
            run_copy_rows _ 24 24 ty 31 i0 Tryd.underlying24 hi0 w.heap.size (a * 10) (n + 1 - a) (C - a) ⟨gA, oA, none⟩ 1 vc c0 31 (flatV k_sins.sh (rOf r)) hG0
              (by rw [hnl, hiK, show Nat.min 1 (n + 1 - a) = 1 by show min _ _ = _; omega]) (hsrc _ (hold gA hltA)) (by rw [hnl, hc0s]; omega) (hone _)
          obtain ⟨c1, hc1⟩ : ∃ c1, c1 = (c0.toList.take (a * 10) ++ flatV k_sins.sh (rOf r) ++ c0.toList.drop (a * 10 + (flatV k_sins.sh (rOf r)).length)).toArray := ⟨_, rfl⟩
          rw [← hc1] at hcp1
          have hc1s : c1.size = C * 10 := by
            rw [hc1]; simp only [List.size_toArray, List.length_append, List.length_take, List.length_drop, Array.length_toList, hc0s, hnl]; omega
          obtain ⟨W2, hW2⟩ : ∃ W2, W2 = (w.drew.alloc (.cells c0 31)).setRow w.heap.size c1 := ⟨_, rfl⟩
          have hG1 : W2.heap[w.heap.size]? = some (.cells c1 31 (0, 0)) := by rw [hW2]; exact setRow_heap _ _ _ _ _ _ hG0
          have hold2 : W2.drew.heap[g]? = w.heap[g]? := by
            rw [hW2]
            show ((w.drew.alloc (.cells c0 31)).setRow w.heap.size c1).heap[g]? = _
            rw [setRow_other _ _ _ _ (by omega), hold g hlt]
          have hcp2 : ∀ ty, (Builtin.copy_ #[24, 24] ty #[.slice (some ⟨w.heap.size, (a + 1) * 10, none⟩) (n + 1 - (a + 1)) (C - (a + 1)), .slice (some ⟨g, a * 10, none⟩) (n - a) (cap - a)]).run Tryd.prog W2.drew = _ := fun ty =>
            run_copy_rows W2.drew 24 24 ty 31 i0 Tryd.underlying24 hi0 w.heap.size ((a + 1) * 10) (n + 1 - (a + 1)) (C - (a + 1)) ⟨g, a * 10, none⟩ (n - a) (cap - a) c1 31 (flatV k_sins.sh ((rOf code).drop a)) hG1
              (by rw [hl2, hiK, show Nat.min (n - a) (n + 1 - (a + 1)) = n - a by show min _ _ = _; omega]) (hcell W2.drew (a * 10) _ (flatV k_sins.sh ((rOf code).take a)) rest hold2 (by rw [hcells, hsplit]) hl1) (by rw [hl2, hc1s]; omega) (hone _)
          rw [← hW2] at hcp1
          rw [hv0]
          refine (Tryd.insert_grow g n cap a w.heap.size C ⟨gA, oA, none⟩ vc _ _ w _ W2 _ han hcap1 (by omega) hC.1 (by omega) happ0 hcp1 hcp2).mono ?_
          rintro e w' ⟨rfl, rfl⟩
          rw [← hv0]
          refine fin _ w.heap.size C _ (c1.toList.drop ((a + 1) * 10 + (flatV k_sins.sh ((rOf code).drop a)).length)) ?_ hok (setRow_heap _ _ _ _ _ _ hG1) ?_ ?_ hC.1 (by omega) (.inr (Nat.le_refl _))
          · rw [hW2]
            have s1 := SlNew.trans1 (slNew_alloc w (.cells c0 31) (ownOf v0)) (slNew_row _ w.heap.size c1) (.inr (Nat.le_refl _))
            exact SlNew.trans1 (SlNew.drew1 s1) (slNew_row _ w.heap.size _) (.inr (Nat.le_refl _))
          · simp only
            rw [hc1, hnl]
            simp only
            rw [hc0t, Nat.succ_mul]
            exact grow_lists hl1 hnl
          · simp only [List.size_toArray, List.length_append, List.length_take, List.length_drop, Array.length_toList, hc1s, hl2]
            have : (a + 1) * 10 + (n - a) * 10 ≤ C * 10 := by rw [← Nat.add_mul]; exact Nat.mul_le_mul_right _ (by omega)
            omega
end Go.Ad

/- The rows of this seat: what the listed variables give, and a world that meets it. -/
set_option maxRecDepth 100000
namespace Go.Proofs.YtodhngllhbgndaaDoor
open Go Go.Rx Go.Ad Go.ChangeShapes Go.RowKit
theorem own : ownKnob Tryd.prog.godebug = none := by kernel_rfl
theorem lo_b : laidOutB Tryd.prog = true := by kernel_rfl
def laid : List (String × DataW Unit) := [("unicode/utf8.acceptRanges", Rows.laid_unicode_utf8_acceptRanges), ("unicode/utf8.first", Rows.laid_unicode_utf8_first)]
theorem gl_ok (W : World) : GOk [] ⟨W, W, fun _ => False, fun _ => False⟩ := fun g cs hm => by cases hm
theorem laid_plain : (laid.filter fun x => x.2.handleName?.isNone) = laid := by kernel_rfl
theorem door_met (os : Os) (args : Array Value) : laidMetH Tryd.prog laid ((World.laidAll Tryd.prog os laid).forCall (fun _ _ => 0) ⟨#[], args, []⟩).memory :=
  laidMetH_of_parts3 (fuel := 8) (by rw [laid_plain]; exact laidMet_laidAll args (by kernel_rfl) (by kernel_rfl)) (by kernel_rfl) (by kernel_rfl)
theorem ty_dint : BTy Tryd.prog 3 (.d (.int .i64 (-9223372036854775808) 9223372036854775807)) := ⟨Tryd.underlying3, by decide, by decide⟩
theorem ty_lss : BTy Tryd.prog 24 (.rd [.int .i64 (-9223372036854775808) 9223372036854775807, .str, .str, .str, .str, .int .i64 (-9223372036854775808) 9223372036854775807, .int .i64 (-9223372036854775808) 9223372036854775807, .int .i64 (-9223372036854775808) 9223372036854775807, .bool, .int .i64 (-9223372036854775808) 9223372036854775807]) := ⟨31, Tryd.underlying24, by kernel_rfl, by kernel_rfl, by decide⟩
theorem ty_ltry : BTy Tryd.prog 22 (.rd [.int .u16 0 65535, .bool, .bool]) := ⟨35, Tryd.underlying22, by kernel_rfl, by kernel_rfl, by decide⟩
theorem cell0 {W : World} (h : W.ShapedOpen Tryd.prog) : ∃ m, W.cell? ⟨0, 0, none⟩ = some (.int .i64 m) :=
  cell_of_shapedOpen_int (zero := #[.int .i64 0]) (t := 3) h (of_decide_eq_true (by kernel_rfl)) (by kernel_rfl) rfl (by kernel_rfl) (by kernel_rfl) Tryd.underlying3
theorem heap0 {W : World} {m : Int} (h : W.cell? ⟨0, 0, none⟩ = some (.int .i64 m)) : 0 < W.heap.size := by
  rcases Nat.lt_or_ge 0 W.heap.size with h0 | h0
  · exact h0
  · have : W.heap[(0 : Nat)]? = none := Array.getElem?_eq_none h0
    simp [World.cell?, this] at h
theorem one_of {id : Nat} (hid : id = 414 ∨ id = 415) (a : List (List Int)) (z : Int) (h : SB id a [[z]]) : z = 1 := by
  rcases hid with rfl | rfl
  all_goals
    match a, h with
    | [], h => first | exact h | exact h.elim
    | [_], h => first | exact h | exact h.elim
    | [_, _], h => first | exact h | exact h.elim
    | [_, _, _], h => first | exact h | exact h.elim
    | _ :: _ :: _ :: _ :: _, h => exact h.elim
/-- What all laws lean on, at a world. -/
structure AllOk (W : World) : Prop where
  salive_ : OB W k_salive
  sReq_ : OB W k_sReq
  sSubmit_ : OB W k_sSubmit
  sShown_ : OB W k_sShown
  sask_ : OC W k_sask
  sRight_ : OB W k_sRight
  sPrune_ : OB W k_sPrune
  sFind_ : OB W k_sFind
  ySame_ : OB W k_ySame
theorem all_ok {W : World} (h : W.ShapedOpen Tryd.prog) : AllOk W := by
  have hg := gl_ok W
  obtain ⟨m, hm⟩ := cell0 h
  have ibs_ : OC W k_ibs := ok_ibs
  have tlb_ : OC W k_tlb := ok_tlb (hg := hg)
  have trb_ : OC W k_trb := ok_trb (hg := hg)
  have tsp_ : OC W k_tsp := ok_tsp (hg := hg) (h_tlb := tlb_) (h_trb := trb_)
  have tdot_ : OC W k_tdot := ok_tdot (hg := hg) (h_tlb := tlb_) (h_trb := trb_)
  have cdot_ : OC W k_cdot := ok_cdot (hg := hg) (h_ibs := ibs_)
  have tdm_ : OC W k_tdm := ok_tdm (hg := hg)
  have cutat_ : OC W k_cutat := ok_cutat (hg := hg) (h_ibs := ibs_)
  have cutcol_ : OC W k_cutcol := ok_cutcol (hg := hg) (h_ibs := ibs_)
  have only_ : OC W k_only := ok_only (hg := hg) (h_ibs := ibs_)
  have ionly_ : OC W k_ionly := ok_ionly (hg := hg) (h_ibs := ibs_)
  have low_ : OC W k_low := ok_low (hg := hg)
  have cdd_ : OQ W q_cdd := ok_cdd ⟨m, hm⟩ (heap0 hm)
  have thost_ : OC W k_thost := ok_thost (hg := hg)
  have tdig_ : OC W k_tdig := ok_tdig (hg := hg)
  have host_ : OC W k_host := ok_host (hg := hg) (h_thost := thost_) (h_tdm := tdm_) (h_ionly := ionly_) (h_cdd := cdd_)
  have server_ : OC W k_server := ok_server (hg := hg) (h_cutcol := cutcol_) (h_host := host_) (h_tdig := tdig_) (h_ionly := ionly_)
  have local_ : OC W k_local := ok_local (hg := hg) (h_only := only_) (h_tdot := tdot_) (h_cdd := cdd_)
  have country_ : OC W k_country := ok_country
  have bare_ : OC W k_bare := ok_bare
  have tpre_ : OC W k_tpre := ok_tpre (hg := hg)
  have email_ : OC W k_email := ok_email (hg := hg) (h_tsp := tsp_) (h_cutat := cutat_) (h_local := local_) (h_cdot := cdot_) (h_server := server_) (h_low := low_) (h_ibs := ibs_)
  have phone_ : OQ W q_phone := ok_phone (hg := hg) (h_country := country_) (h_bare := bare_) (h_tpre := tpre_)
  have make_ : OC W k_make := ok_make (hg := hg) (h_email := email_) (h_phone := phone_)
  have right_ : OC W k_right := ok_right (hg := hg) (h_make := make_)
  have print_ : OC W k_print := ok_print (hg := hg)
  have secr_ : OC W k_secr := ok_secr (hg := hg) (h_print := print_)
  have sright_ : OC W k_sright := ok_sright (hg := hg) (h_secr := secr_) (h_right := right_)
  have sRight_ : OB W k_sRight := ok_sRight (hg := hg) (h_sright := sright_)
  have splace_ : OB W k_splace := ok_splace (hg := hg)
  have sover_ : OC W k_sover := ok_sover (hg := hg)
  have sFind_ : OB W k_sFind := ok_sFind (hg := hg) (h_sRight := sRight_) (h_splace := splace_)
  have sopen_ : OB W k_sopen := ok_sopen (hg := hg) (h_sRight := sRight_) (h_splace := splace_) (h_sover := sover_)
  have sShown_ : OB W k_sShown := ok_sShown (hg := hg) (h_sopen := sopen_)
  have sSubmit_ : OB W k_sSubmit := ok_sSubmit (hg := hg) (h_sopen := sopen_)
  have sprune_ : OB W k_sprune := ok_sprune (hg := hg)
  have sPrune_ : OB W k_sPrune := ok_sPrune (hg := hg) (h_sRight := sRight_) (h_sprune := sprune_)
  have sins_ : OI W k_sins := ok_sins
  have sReq_ : OB W k_sReq := ok_sReq (hg := hg) (h_sright := sright_) (h_sRight := sRight_) (h_sprune := sprune_) (h_splace := splace_) (h_sins := sins_)
  have sask_ : OC W k_sask := ok_sask (hg := hg)
  have salive_ : OB W k_salive := ok_salive (hg := hg) (h_sReq := sReq_) (h_sSubmit := sSubmit_) (h_sShown := sShown_) (h_sask := sask_)
  have ySame_ : OB W k_ySame := ok_ySame (hg := hg)
  exact ⟨salive_, sReq_, sSubmit_, sShown_, sask_, sRight_, sPrune_, sFind_, ySame_⟩
end Go.Proofs.YtodhngllhbgndaaDoor
