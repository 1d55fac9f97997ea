/- Contracts that come from walks. -/
import Derived.Test.YtlecfjcooglpoaaDoorAdOk
import Derived.Test.YtlecfjcooglpoaaDoorSh1
import Derived.Lib.IndexMore
set_option linter.unusedVariables false
set_option maxRecDepth 100000
namespace Go.Ad
open Go Go.Rx Go.Proofs Go.RowKit
theorem ext_of {w w' : World} (h : Below w.heap.size w w') : w.Extends w' :=
  ⟨h.os, h.tape, h.output, h.size, fun a ha => by unfold World.cell?; rw [h.block a.block ha], fun a ha => by unfold World.frozen?; rw [h.block a.block ha], h.block⟩
theorem ok_ibs {wb : World} : OC wb k_ibs := by
  intro zs hz
  obtain ⟨rs, h1, h2, h3⟩ := ibs_ok (wb := wb) (f := 66) (id := 73) Tryd.func66 (by kernel_rfl) (by kernel_rfl) (by kernel_rfl) (by kernel_rfl) zs hz
  match zs, hz with
  | [s, c], hz =>
    refine ⟨rs, h1, ?_, h3⟩
    subst h2
    rfl
theorem dd_cons (b : UInt8) (l : Tx) : dd (b :: l) = ((b == 46 && l.getD 0 0 == 46) || dd l) := by
  unfold dd
  rw [List.length_cons, List.range_succ_eq_map, List.any_cons, List.any_map]
  rfl
theorem dd_index : ∀ l : Tx, Lib.contains l [46, 46] = dd l
  | [] => rfl
  | b :: l => by
    have ih := dd_index l
    unfold Lib.contains at ih ⊢
    rw [dd_cons, ← ih]
    have sym : ∀ x : UInt8, ((46 : UInt8) == x) = (x == 46) := fun x => by rw [Bool.eq_iff_iff, beq_iff_eq, beq_iff_eq]; exact eq_comm
    have hp : ([46, 46] : Tx).isPrefixOf (b :: l) = (b == 46 && l.getD 0 0 == 46) := by
      cases l with
      | nil =>
        show ((46 : UInt8) == b && false) = (b == 46 && ((0 : UInt8) == 46))
        rw [sym]; rfl
      | cons c r =>
        show ((46 : UInt8) == b && ((46 : UInt8) == c && true)) = (b == 46 && c == 46)
        rw [sym, sym, Bool.and_true]
    have he : Lib.index (b :: l) [46, 46] = if ([46, 46] : Tx).isPrefixOf (b :: l) = true then 0 else if (Lib.index l [46, 46] == -1) = true then -1 else Lib.index l [46, 46] + 1 := rfl
    rw [he, hp]
    cases (b == 46 && l.getD 0 0 == 46) with
    | true => rfl
    | false =>
      rw [if_neg (by decide), Bool.false_or]
      by_cases he : (Lib.index l [46, 46] == -1) = true
      · rw [if_pos he]
        have := beq_iff_eq.1 he
        rw [this]
      · rw [if_neg he]
        have he : ¬ Lib.index l [46, 46] = -1 := fun e => he (beq_iff_eq.2 e)
        have := Lib.index_ge [46, 46] l
        rw [Bool.eq_iff_iff, decide_eq_true_eq, decide_eq_true_eq]
        omega
theorem ok_cdd {wb : World} (hc : ∃ m, wb.cell? ⟨0, 0, none⟩ = some (.int .i64 m)) (h0 : 0 < wb.heap.size) : OQ wb q_cdd := by
  intro zs hz hp
  match zs, hz with
  | [z], hz =>
    refine ⟨[b01 (dd (sOf z))], ⟨(b01_bd _).1, (b01_bd _).2, trivial⟩, rfl, fun w hw => .inr ⟨enters (by kernel_rfl) _ _, ?_⟩⟩
    obtain ⟨m, hm⟩ := hc
    have hm' : w.cell? ⟨0, 0, none⟩ = some (.int .i64 m) := by rw [hw.cell ⟨0, 0, none⟩ h0]; exact hm
    have hl : (sOf z).length ≤ 4294967280 := hp
    refine (Tryd.strings_Contains (bA (sOf z)) (bA [46, 46]) m w (by show (sOf z).toArray.size < _; simp; omega) hm').mono ?_
    rintro e w' ⟨rfl, rfl⟩
    refine ⟨?_, World.Extends.refl _⟩
    have e1 : (bA (sOf z)).data.toList = sOf z := by simp [bA]
    have e2 : (bA [46, 46]).data.toList = [46, 46] := rfl
    rw [e1, e2, dd_index]
    show _ = Ending.returned (Value.bool (decide (b01 (dd (sOf z)) = 1)))
    rw [b01_one]
theorem HB_1 : (1 : Int) ≤ HB := HB_c (l := [0]) (by decide)
theorem c_bd {l : Tx} {n : Nat} (h : l.length ≤ n) (hn : n ≤ 140737488351232) : 0 ≤ cOf l ∧ cOf l ≤ HB := ⟨cOf_nonneg _, HB_c (by unfold mxL; omega)⟩
end Go.Ad
