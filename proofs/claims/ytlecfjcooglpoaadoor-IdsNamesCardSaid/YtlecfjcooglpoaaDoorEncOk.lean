/- base.alphabet: contracts that come from a walk. -/
import Derived.Test.YtlecfjcooglpoaaDoorAdOk
import Derived.Test.YtlecfjcooglpoaaDoorHand1
import Derived.Test.YtlecfjcooglpoaaDoorEnc
import Derived.Test.YtlecfjcooglpoaaDoorSh1
set_option linter.unusedVariables false
set_option maxRecDepth 100000
namespace Go.Ad
open Go Go.Rx Go.Proofs Go.RowKit
theorem ok_ibsafe {wb : World} : OC wb k_ibsafe := by
  intro zs hz
  match zs, hz with
  | [c], hz =>
    obtain ⟨c1, c2, _⟩ := hz
    have hr := idx_range c al64
    have hl64 : al64.length = 64 := rfl
    refine ⟨[idx c al64], (show inB [((-1 : Int), 63)] _ from ⟨by omega, by omega, trivial⟩), rfl, fun w _ => .inl ?_⟩
    have h1 := run_callFunc_extern (args := #[.string (bA al64), .int .u8 c]) (w := w) Tryd.func66 (by kernel_rfl) (by kernel_rfl) (by kernel_rfl) (e := Extern.BytealgIndexByte.indexByte) (by kernel_rfl)
    have h2 := run_indexByte (P := Tryd.prog) al64 c c1 c2 w
    refine Eq.trans h1 ?_
    show ((Extern.BytealgIndexByte.indexByte #[.string (bA al64), .int .u8 c]).run Tryd.prog w).andThen _ = _
    rw [h2]; rfl
theorem penc_len : ∀ l : Tx, (penc l).length ≤ 2 * l.length
  | [] => by simp [penc]
  | [_] => by simp [penc]
  | [_, _] => by simp [penc]
  | a :: b :: c :: r => by
    have := penc_len r
    rw [penc3]; simp; omega
theorem ok_ienc {wb : World} : OB wb k_ienc := by
  refine ⟨fun args w => enters (by kernel_rfl) _ _, fun F w vs zs hw hz hpre hat => ?_⟩
  match zs, hz, vs, hat with
  | [r], hz, [v0, v1], hat =>
    obtain ⟨h0, h1, _⟩ := hat
    have hpre : (rOf r).length ≤ 1099511627776 := hpre
    have h0 : v0 = .string (bA al64) := h0
    have h1 : SlAt F w [.int .u8 0 255] (rOf r) v1 := h1
    have hlen := bytesR_len r
    obtain ⟨p, g, o, cap, hv, hp⟩ : ∃ (p : Option Addr) (g o cap : Nat), v1 = .slice p (bytesR r).length cap ∧ (0 < (bytesR r).length → p = some ⟨g, o, none⟩ ∧ (bytesR r).length ≤ cap ∧ ∀ j, j < (bytesR r).length → w.cell? ⟨g, o + j, none⟩ = some (.int .u8 ((bytesR r).getD j 0).toNat)) := by
      rcases h1 with ⟨h1, h2⟩ | ⟨g, o, cap, cells, t, fz, h1, ⟨h2, _⟩, _, h3, h4⟩
      · exact ⟨none, 0, 0, 0, by rw [h1, hlen, h2]; rfl, fun h => by rw [hlen, h2] at h; simp at h⟩
      · refine ⟨some ⟨g, o, none⟩, g, o, cap, by rw [h1, hlen], fun _ => ⟨rfl, by omega, fun j hj => ?_⟩⟩
        have hj' : j < (rOf r).length := by omega
        have hrow := List.getElem?_eq_getElem hj'
        obtain ⟨z, z0, z1, z2, z3⟩ := (h4.1 _ (List.getElem_mem hj')).get (j := 0) (c := .int .u8 0 255) rfl
        have hc := h4.get hrow z3
        have hb := bytesR_get (z := r) (i := j) (v := z) z1 z2 (by simp only [List.getD, hrow, Option.getD_some, z0])
        have hz' : ((((bytesR r).getD j 0).toNat : Nat) : Int) = z := by rw [hb]; exact Int.toNat_of_nonneg z1
        rw [hz']
        have hc : cells[o + j]? = some (.int .u8 z) := by simpa [CK.val] using hc
        unfold World.cell?
        rw [h3]
        exact hc
    subst h0 hv
    refine (Tryd.enc_walk (bA al64) (by simp [bA]) (bytesR r) p g o cap w hp (by omega)).mono ?_
    rintro e w' ⟨rfl, hb⟩
    have hl := penc_len (bytesR r)
    refine ⟨ext_of hb, [cOf (penc (bytesR r))], [.string ⟨(penc (bytesR r)).toArray⟩], ⟨(c_bd (l := penc (bytesR r)) hl (by omega)).1, (c_bd (l := penc (bytesR r)) hl (by omega)).2, trivial⟩, ?_, ⟨?_, trivial⟩, rfl⟩
    · show sOf (cOf (penc (bytesR r))) = penc (bytesR r)
      exact sOf_cOf _
    · show Value.string _ = Value.string (bA (sOf (cOf (penc (bytesR r)))))
      rw [sOf_cOf]; rfl
end Go.Ad
