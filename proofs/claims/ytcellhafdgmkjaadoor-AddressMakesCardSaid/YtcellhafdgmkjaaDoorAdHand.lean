/- The address seat: the contracts that come from walks. -/
import Derived.Test.YtcellhafdgmkjaaDoorAdOk
import Derived.Test.YtcellhafdgmkjaaDoorAdBare
import Derived.Test.YtcellhafdgmkjaaDoorAdCountry
import Derived.Lib.IndexMore
set_option linter.unusedVariables false
set_option maxRecDepth 100000
namespace Go.Ad
open Go Go.Rx Go.Proofs Go.RowKit
theorem ext_of {w w' : World} (h : Below w.heap.size w w') : w.Extends w' :=
  ⟨h.os, h.tape, h.output, h.size, fun a ha => by unfold World.cell?; rw [h.block a.block ha], fun a ha => by unfold World.frozen?; rw [h.block a.block ha], h.block⟩
theorem ok_ibs {wb : World} : OC wb k_ibs := by
  intro zs hz
  obtain ⟨rs, h1, h2, h3⟩ := ibs_ok (wb := wb) (f := 73) (id := 73) Tryd.func73 (by kernel_rfl) (by kernel_rfl) (by kernel_rfl) (by kernel_rfl) zs hz
  match zs, hz with
  | [s, c], hz =>
    refine ⟨rs, h1, ?_, h3⟩
    subst h2
    rfl
theorem dd_cons (b : UInt8) (l : Tx) : dd (b :: l) = ((b == 46 && l.getD 0 0 == 46) || dd l) := by
  unfold dd
  rw [List.length_cons, List.range_succ_eq_map, List.any_cons, List.any_map]
  rfl
theorem dd_index : ∀ l : Tx, Lib.contains l [46, 46] = dd l
  | [] => rfl
  | b :: l => by
    have ih := dd_index l
    unfold Lib.contains at ih ⊢
    rw [dd_cons, ← ih]
    have sym : ∀ x : UInt8, ((46 : UInt8) == x) = (x == 46) := fun x => by rw [Bool.eq_iff_iff, beq_iff_eq, beq_iff_eq]; exact eq_comm
    have hp : ([46, 46] : Tx).isPrefixOf (b :: l) = (b == 46 && l.getD 0 0 == 46) := by
      cases l with
      | nil =>
        show ((46 : UInt8) == b && false) = (b == 46 && ((0 : UInt8) == 46))
        rw [sym]; rfl
      | cons c r =>
        show ((46 : UInt8) == b && ((46 : UInt8) == c && true)) = (b == 46 && c == 46)
        rw [sym, sym, Bool.and_true]
    have he : Lib.index (b :: l) [46, 46] = if ([46, 46] : Tx).isPrefixOf (b :: l) = true then 0 else if (Lib.index l [46, 46] == -1) = true then -1 else Lib.index l [46, 46] + 1 := rfl
    rw [he, hp]
    cases (b == 46 && l.getD 0 0 == 46) with
    | true => rfl
    | false =>
      rw [if_neg (by decide), Bool.false_or]
      by_cases he : (Lib.index l [46, 46] == -1) = true
      · rw [if_pos he]
        have := beq_iff_eq.1 he
        rw [this]
      · rw [if_neg he]
        have he : ¬ Lib.index l [46, 46] = -1 := fun e => he (beq_iff_eq.2 e)
        have := Lib.index_ge [46, 46] l
        rw [Bool.eq_iff_iff, decide_eq_true_eq, decide_eq_true_eq]
        omega
theorem ok_cdd {wb : World} (hc : ∃ m, wb.cell? ⟨0, 0, none⟩ = some (.int .i64 m)) (h0 : 0 < wb.heap.size) : OQ wb q_cdd := by
  intro zs hz hp
  match zs, hz with
  | [z], hz =>
    refine ⟨[b01 (dd (sOf z))], ⟨(b01_bd _).1, (b01_bd _).2, trivial⟩, rfl, fun w hw => .inr ⟨enters (by kernel_rfl) _ _, ?_⟩⟩
    obtain ⟨m, hm⟩ := hc
    have hm' : w.cell? ⟨0, 0, none⟩ = some (.int .i64 m) := by rw [hw.cell ⟨0, 0, none⟩ h0]; exact hm
    have hl : (sOf z).length ≤ 4294967280 := hp
    refine (Tryd.strings_Contains (bA (sOf z)) (bA [46, 46]) m w (by show (sOf z).toArray.size < _; simp; omega) hm').mono ?_
    rintro e w' ⟨rfl, rfl⟩
    refine ⟨?_, World.Extends.refl _⟩
    have e1 : (bA (sOf z)).data.toList = sOf z := by simp [bA]
    have e2 : (bA [46, 46]).data.toList = [46, 46] := rfl
    rw [e1, e2, dd_index]
    show _ = Ending.returned (Value.bool (decide (b01 (dd (sOf z)) = 1)))
    rw [b01_one]
theorem HB_1 : (1 : Int) ≤ HB := HB_c (l := [0]) (by decide)
theorem c_bd {l : Tx} {n : Nat} (h : l.length ≤ n) (hn : n ≤ 9223372036854775807) : 0 ≤ cOf l ∧ cOf l ≤ HB := ⟨cOf_nonneg _, HB_c (by unfold maxLen; omega)⟩
theorem ok_country {wb : World} : OC wb k_country := by
  intro zs hz
  match zs, hz with
  | [z], hz =>
    have hw := fun w => Tryd.country_walk (bA (sOf z)) w
    have e1 : (bA (sOf z)).data.toList = sOf z := by simp [bA]
    cases hct : ctry (sOf z) with
    | none =>
      refine ⟨[0, 0, 0], ⟨Int.le_refl _, HB_pos, Int.le_refl _, HB_pos, by decide, by decide, trivial⟩, ?_, fun w _ => .inr ⟨enters (by kernel_rfl) _ _, ?_⟩⟩
      · show (match ctry (sOf z) with | some (code, trunk) => sOf 0 = code ∧ sOf 0 = trunk ∧ (0 : Int) = 1 | none => (0 : Int) = 0 ∧ sOf 0 = [] ∧ sOf 0 = [])
        rw [hct]; exact ⟨rfl, rfl, rfl⟩
      · refine (hw w).mono ?_
        rintro e w' ⟨rfl, hb⟩
        refine ⟨?_, ext_of hb⟩
        rw [e1]; unfold ctryR; rw [hct]; rfl
    | some ct =>
      obtain ⟨c, t⟩ := ct
      have h1 := c_bd (ctry_len hct) (by decide)
      have h2 : 0 ≤ cOf t ∧ cOf t ≤ HB := c_bd (n := 1) (by rcases ctry_trunk hct with h | h <;> rw [h] <;> decide) (by decide)
      refine ⟨[cOf c, cOf t, 1], ⟨h1.1, h1.2, h2.1, h2.2, by decide, by decide, trivial⟩, ?_, fun w _ => .inr ⟨enters (by kernel_rfl) _ _, ?_⟩⟩
      · show (match ctry (sOf z) with | some (code, trunk) => sOf (cOf c) = code ∧ sOf (cOf t) = trunk ∧ (1 : Int) = 1 | none => (1 : Int) = 0 ∧ sOf (cOf c) = [] ∧ sOf (cOf t) = [])
        rw [hct]; exact ⟨sOf_cOf _, sOf_cOf _, rfl⟩
      · refine (hw w).mono ?_
        rintro e w' ⟨rfl, hb⟩
        refine ⟨?_, ext_of hb⟩
        rw [e1]; unfold ctryR; rw [hct]
        show _ = Ending.returned (.tuple #[.agg #[.string (bA (sOf (cOf c))), .string (bA (sOf (cOf t)))], .bool true])
        rw [sOf_cOf, sOf_cOf]; rfl
theorem ok_bare {wb : World} : OQ wb q_bare := by
  intro zs hz hp
  match zs, hz with
  | [z], hz =>
    have hl : (sOf z).length ≤ 4294967280 := hp
    have hw := fun w => Tryd.bare_walk (bA (sOf z)) w (by show (sOf z).toArray.size ≤ _; simpa using hl)
    have e1 : (bA (sOf z)).data.toList = sOf z := by simp [bA]
    cases hct : bareF (sOf z) [] false with
    | none =>
      refine ⟨[0, 0, 0], ⟨Int.le_refl _, HB_pos, by decide, by decide, by decide, by decide, trivial⟩, ?_, fun w _ => .inr ⟨enters (by kernel_rfl) _ _, ?_⟩⟩
      · show (match bareF (sOf z) [] false with | some (d', p') => sOf 0 = d' ∧ (0 : Int) = b01 p' ∧ (0 : Int) = 1 | none => sOf 0 = [] ∧ (0 : Int) = 0 ∧ (0 : Int) = 0)
        rw [hct]; exact ⟨rfl, rfl, rfl⟩
      · refine (hw w).mono ?_
        rintro e w' ⟨rfl, hb⟩
        refine ⟨?_, ext_of hb⟩
        rw [e1]; unfold barR; rw [hct]; rfl
    | some ct =>
      obtain ⟨c, t⟩ := ct
      have h1 := c_bd (bareF_len _ _ _ hct) (by simp; omega)
      refine ⟨[cOf c, b01 t, 1], ⟨h1.1, h1.2, (b01_bd t).1, (b01_bd t).2, by decide, by decide, trivial⟩, ?_, fun w _ => .inr ⟨enters (by kernel_rfl) _ _, ?_⟩⟩
      · show (match bareF (sOf z) [] false with | some (d', p') => sOf (cOf c) = d' ∧ b01 t = b01 p' ∧ (1 : Int) = 1 | none => sOf (cOf c) = [] ∧ b01 t = 0 ∧ (1 : Int) = 0)
        rw [hct]; exact ⟨sOf_cOf _, rfl, rfl⟩
      · refine (hw w).mono ?_
        rintro e w' ⟨rfl, hb⟩
        refine ⟨?_, ext_of hb⟩
        rw [e1]; unfold barR; rw [hct]
        show _ = Ending.returned (.tuple #[.string (bA (sOf (cOf c))), .bool (decide (b01 t = 1)), .bool true])
        rw [sOf_cOf, b01_one]; rfl
end Go.Ad
