/- The address seat: a number's digits (bare), by a walk. -/
import Derived.Test.YtcellhafdgmkjaaDoorAdV4
import Derived.Test.YtcellhafdgmkjaaDoorAdShelf
import Derived.WalkKit
import Derived.Lib.IndexAny
import Derived.OwnWalk
namespace Go.Proofs
open Go.RowKit Go.Ad
theorem bsz (s : ByteArray) : s.data.toList.length = s.size := by rw [Array.length_toList]; rfl
def barR (s : Tx) : Value := match bareF s [] false with | some (d, p) => .tuple #[.string ⟨d.toArray⟩, .bool p, .bool true] | none => .tuple #[.string ⟨#[]⟩, .bool false, .bool false]
theorem isD_iff (c : UInt8) : isD c = true ↔ (48 : Int) ≤ c.toNat ∧ (c.toNat : Int) ≤ 57 := by
  unfold isD; rw [Bool.and_eq_true, Nat.ble_eq, Nat.ble_eq]; omega
theorem sep_call (c : UInt8) : ∃ R : Int, (R < 0 ↔ seps.contains c = false) ∧ ∀ w, Calls Tryd.prog 55 #[.string { data := #[32, 45, 46, 40, 41] }, .int .u8 c.toNat] w fun e w' => e = .returned (.int .i64 R) ∧ w' = w := by
  refine ⟨Lib.indexByte seps c, ?_, fun w => ?_⟩
  · rw [Lib.contains_iff_indexByte]; simp
  · have := Tryd.strings_IndexByte ⟨#[32, 45, 46, 40, 41]⟩ (c.toNat : Int) w
    have e : (c.toNat : Int).toNat.toUInt8 = c := by simp
    rw [e] at this
    exact this
theorem len_call (d : Tx) (b : Nat) (w : World) (h : Lib.IsBuilder 67 5 b b (Lib.byteCells d) w) : Calls Tryd.prog 54 #[.pointer (some ⟨b, 0, none⟩)] w fun e w' => e = .returned (.int .i64 d.length) ∧ w' = w := by
  have := Tryd.Builder_Len b b _ w h
  rwa [Lib.byteCells_length] at this
set_option maxHeartbeats 4000000 in
set_option maxRecDepth 1000000 in
theorem Tryd.bare_walk (s : ByteArray) (w : World) (hs : s.size ≤ 4294967280) :
    Calls Tryd.prog 33 #[.string s] w fun e w' => e = .returned (barR s.data.toList) ∧ Below w.heap.size w w' := by
  go_enter Tryd.func33, Tryd.ntmps33
  go_wp2
  go_loopw [10, 3] (fun vi vp wr => ∃ (i : Nat) (d : List UInt8) (p : Bool), vi = .int .i64 i ∧ vp = .bool p ∧ i ≤ s.size ∧ d.length ≤ i ∧ Hid (bareF (s.data.toList.drop i) d p = bareF s.data.toList [] false) ∧ Lib.IsBuilder 67 5 w.heap.size w.heap.size (Lib.byteCells d) wr ∧ Below w.heap.size w wr) (fun vi _ _ => s.size - (RowKit.intOf vi).toNat)
  case atStart =>
    exact ⟨0, [], false, rfl, rfl, Nat.zero_le _, Nat.le_refl _, rfl, Lib.fresh_isBuilder 67 5 w, (Below.refl _ w).alloc (Nat.le_refl _) _⟩
  case round =>
    obtain ⟨i, d, p, rfl, rfl, hi, hd, hb, hI, hbw⟩ := hrel
    have hsz : s.data.toList.length = s.size := bsz s
    by_cases hlt : i < s.size
    · have hlt' : (i : Int) < (s.size : Int) := by omega
      have hnn : ¬ ((i : Int) < 0) := by omega
      have hc : s.data.toList.getD i 0 = s[i] := by
        simp only [List.getD, List.getElem?_eq_getElem (show i < s.data.toList.length by omega), Option.getD_some]
        rfl
      have hst := bare_step (s := s.data.toList) (d := d) (p := p) (i := i) (by omega)
      rw [hc] at hst
      have hD := isD_iff s[i]
      have fin : ∀ {d' : Tx} {p' : Bool}, bareF (List.drop i s.data.toList) d p = bareF (List.drop (i + 1) s.data.toList) d' p' → Hid (bareF (List.drop (i + 1) s.data.toList) d' p' = bareF s.data.toList [] false) := fun h => by
        have hb : bareF (List.drop i s.data.toList) d p = bareF s.data.toList [] false := hb
        show _ = _
        rw [← hb, h]
      have bad : bareF (List.drop i s.data.toList) d p = none → Value.tuple #[.string ⟨#[]⟩, .bool false, .bool false] = barR s.data.toList := fun h => by
        have hb : bareF (List.drop i s.data.toList) d p = bareF s.data.toList [] false := hb
        unfold barR
        rw [← hb, h]
      obtain ⟨R, hR, hcall⟩ := sep_call s[i]
      have hLen := fun W => len_call d w.heap.size W
      by_cases h48 : (48 : Int) ≤ s[i].toNat ∧ (s[i].toNat : Int) ≤ 57
      · have hdig := hD.2 h48
        obtain ⟨h48, h57⟩ := h48
        rw [hdig, cond_true] at hst
        clear hR hcall hLen bad
        go_wp2_with (go_at_call 53; refine (Tryd.Builder_WriteByte w.heap.size w.heap.size _ _ _ hI (by rw [Lib.byteCells_length]; omega) hbw.size).mono ?_)
        rintro e W1 rfl h1 b1
        go_wp2
        go_roundw
        case rel =>
          refine ⟨i + 1, d ++ [s[i]], p, by simp, rfl, by omega, by simp; omega, fin hst, ?_, hbw.trans b1⟩
          rw [Lib.byteCells_append]; exact Or.inr h1
        case measure => simp [intOf]; omega
      · have hnd : isD s[i] = false := by
          cases hh : isD s[i] with
          | false => rfl
          | true => exact absurd (hD.1 hh) h48
        rw [hnd, cond_false] at hst
        by_cases h43 : s[i] = 43
        · have e43 : (s[i].toNat : Int) = 43 := by rw [h43]; rfl
          have n48 : ¬ (48 : Int) ≤ s[i].toNat := by omega
          have hns : seps.contains s[i] = false := by rw [h43]; rfl
          have hRn := hR.2 hns
          rw [hns, cond_false] at hst
          by_cases hgo : d.length = 0 ∧ p = false
          · obtain ⟨hd0, rfl⟩ := hgo
            have hd0' : d = [] := List.length_eq_zero_iff.1 hd0
            have hst' : bareF (List.drop i s.data.toList) d false = bareF (List.drop (i + 1) s.data.toList) d true := by
              rw [hst, h43, hd0']; rfl
            have hd0i : (d.length : Int) = 0 := by omega
            rw [hd0i] at hLen
            go_wp2_with (go_at_call 54; refine (hLen _ hI).mono ?_)
            go_roundw
            case rel =>
              exact ⟨i + 1, d, true, by simp, rfl, by omega, by omega, fin hst', hI, hbw⟩
            case measure => simp [intOf]; omega
          · have hno : bareF (List.drop i s.data.toList) d p = none := by
              rw [hst]
              have : (d.isEmpty && !p) = false := by
                cases d with
                | nil =>
                  cases p with
                  | true => rfl
                  | false => exact absurd ⟨rfl, rfl⟩ hgo
                | cons x r => rfl
              rw [Bool.and_assoc, this, Bool.and_false]; rfl
            have hbad := bad hno
            clear hR
            rw [e43] at hcall
            by_cases hd0 : d.length = 0
            · have hp : p = true := by
                cases p with
                | true => rfl
                | false => exact absurd ⟨hd0, rfl⟩ hgo
              subst hp
              have hd0i : (d.length : Int) = 0 := by omega
              rw [hd0i] at hLen
              go_wp2_with (go_at_call 54; refine (hLen _ hI).mono ?_)
              go_wp2_with (go_at_call 55; refine (hcall _).mono ?_)
              rintro e W1 ⟨rfl, rfl⟩
              go_wp2
              go_ret3
              refine ⟨?_, hbw⟩
              rw [← hbad]
              rfl
            · have hd0i : ¬ (d.length : Int) = 0 := by omega
              go_wp2_with (go_at_call 54; refine (hLen _ hI).mono ?_)
              go_wp2_with (go_at_call 55; refine (hcall _).mono ?_)
              rintro e W1 ⟨rfl, rfl⟩
              go_wp2
              go_ret3
              refine ⟨?_, hbw⟩
              rw [← hbad]
              rfl
        · have n43 : ¬ (s[i].toNat : Int) = 43 := fun e => h43 (by rw [← UInt8.toNat_inj]; show s[i].toNat = 43; omega)
          have e43 : (s[i] == 43) = false := by simpa using h43
          rw [e43, Bool.false_and, Bool.false_and, cond_false] at hst
          have h48' : ¬ (48 : Int) ≤ s[i].toNat ∨ ((48 : Int) ≤ s[i].toNat ∧ ¬ (s[i].toNat : Int) ≤ 57) := by omega
          cases hsp : seps.contains s[i] with
          | false =>
            have hRn := hR.2 hsp
            rw [hsp, cond_false] at hst
            have hbad := bad hst
            clear hR
            rcases h48' with n48 | ⟨y48, n57⟩
            · go_wp2_with (go_at_call 55; refine (hcall _).mono ?_)
              go_ret3
              refine ⟨?_, hbw⟩
              rw [← hbad]
              rfl
            · go_wp2_with (go_at_call 55; refine (hcall _).mono ?_)
              go_ret3
              refine ⟨?_, hbw⟩
              rw [← hbad]
              rfl
          | true =>
            have hRn : ¬ R < 0 := fun h => by have := hR.1 h; rw [hsp] at this; cases this
            rw [hsp, cond_true] at hst
            clear hR
            rcases h48' with n48 | ⟨y48, n57⟩
            · go_wp2_with (go_at_call 55; refine (hcall _).mono ?_)
              go_roundw
              case rel => exact ⟨i + 1, d, p, by simp, rfl, by omega, by omega, fin hst, hI, hbw⟩
              case measure => simp [intOf]; omega
            · go_wp2_with (go_at_call 55; refine (hcall _).mono ?_)
              go_roundw
              case rel => exact ⟨i + 1, d, p, by simp, rfl, by omega, by omega, fin hst, hI, hbw⟩
              case measure => simp [intOf]; omega
    · have hge : ¬ (i : Int) < (s.size : Int) := by omega
      go_wp2_with (go_at_call 56; refine (Tryd.Builder_String_any w.heap.size w.heap.size d _ hI hbw.size).mono ?_)
      rintro e W1 rfl b1
      go_wp2
      go_ret3
      have hb : bareF (List.drop i s.data.toList) d p = bareF s.data.toList [] false := hb
      rw [List.drop_of_length_le (by omega), bareF] at hb
      refine ⟨?_, hbw.trans b1⟩
      unfold barR
      rw [← hb]
      rfl
end Go.Proofs
