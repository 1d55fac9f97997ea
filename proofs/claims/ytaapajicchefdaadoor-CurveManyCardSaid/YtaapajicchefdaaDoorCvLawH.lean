/- The curve seat: what the laws ask for. -/
import Derived.Test.YtaapajicchefdaaDoorCvHelp
set_option linter.unusedVariables false
set_option linter.unusedSimpArgs false
set_option maxRecDepth 20000
namespace Go.Fd
open Go.Rx
theorem in_z0 : inB (repB 0 255 32) [0, 0, 0, 0, 0, 0, 0, 0, 0, 0, 0, 0, 0, 0, 0, 0, 0, 0, 0, 0, 0, 0, 0, 0, 0, 0, 0, 0, 0, 0, 0, 0] := by simp [repB, inB]
theorem nb_z0 : nb [0, 0, 0, 0, 0, 0, 0, 0, 0, 0, 0, 0, 0, 0, 0, 0, 0, 0, 0, 0, 0, 0, 0, 0, 0, 0, 0, 0, 0, 0, 0, 0] = 0 := by decide
theorem in_z1 : inB (repB 0 255 32) [1, 0, 0, 0, 0, 0, 0, 0, 0, 0, 0, 0, 0, 0, 0, 0, 0, 0, 0, 0, 0, 0, 0, 0, 0, 0, 0, 0, 0, 0, 0, 0] := by simp [repB, inB]
theorem nb_z1 : nb [1, 0, 0, 0, 0, 0, 0, 0, 0, 0, 0, 0, 0, 0, 0, 0, 0, 0, 0, 0, 0, 0, 0, 0, 0, 0, 0, 0, 0, 0, 0, 0] = 1 := by decide
theorem in_z2 : inB (repB 0 255 32) [2, 0, 0, 0, 0, 0, 0, 0, 0, 0, 0, 0, 0, 0, 0, 0, 0, 0, 0, 0, 0, 0, 0, 0, 0, 0, 0, 0, 0, 0, 0, 0] := by simp [repB, inB]
theorem nb_z2 : nb [2, 0, 0, 0, 0, 0, 0, 0, 0, 0, 0, 0, 0, 0, 0, 0, 0, 0, 0, 0, 0, 0, 0, 0, 0, 0, 0, 0, 0, 0, 0, 0] = 2 := by decide
theorem in_z8 : inB (repB 0 255 32) [8, 0, 0, 0, 0, 0, 0, 0, 0, 0, 0, 0, 0, 0, 0, 0, 0, 0, 0, 0, 0, 0, 0, 0, 0, 0, 0, 0, 0, 0, 0, 0] := by simp [repB, inB]
theorem nb_z8 : nb [8, 0, 0, 0, 0, 0, 0, 0, 0, 0, 0, 0, 0, 0, 0, 0, 0, 0, 0, 0, 0, 0, 0, 0, 0, 0, 0, 0, 0, 0, 0, 0] = 8 := by decide
theorem in_BL : inB (repB 0 255 32) [88, 102, 102, 102, 102, 102, 102, 102, 102, 102, 102, 102, 102, 102, 102, 102, 102, 102, 102, 102, 102, 102, 102, 102, 102, 102, 102, 102, 102, 102, 102, 102] := by simp [repB, inB]
theorem nb_BL : nb [88, 102, 102, 102, 102, 102, 102, 102, 102, 102, 102, 102, 102, 102, 102, 102, 102, 102, 102, 102, 102, 102, 102, 102, 102, 102, 102, 102, 102, 102, 102, 102] = enc baseP := by decide
theorem k1 {b : Bool} (h : b = true) : (cond b 1 0 : Int) = 1 := by rw [h]; rfl
theorem kt {z : Int} (h : z = 1) : inB (bdsL [.bool]) [[z]].flatten := by subst h; exact ⟨by decide, by decide, trivial⟩
theorem sm_none {z b : Int} (h : z = bit ((dec b).isSome = true)) (hz : ¬ z = 1) : dec b = none := by
  rw [h] at hz
  have := bit_none hz
  cases hd : dec b with
  | none => rfl
  | some A => rw [hd] at this; exact absurd rfl this
theorem sm_some {z b : Int} (h : z = bit ((dec b).isSome = true)) (hz : z = 1) : ∃ A, dec b = some A := by
  rw [h] at hz
  have := bit_one hz
  cases hd : dec b with
  | none => rw [hd] at this; cases this
  | some A => exact ⟨A, rfl⟩
theorem sm_is {z b : Int} {A : Int × Int} (h : z = bit ((dec b).isSome = true)) (hz : dec b = some A) : z = 1 := by rw [h, hz]; rfl
theorem RT_some {r : List Int} {e : Int} {o : Option (Int × Int)} {A : Int × Int} (h : RT r e o) (ho : o = some A) : e = 0 ∧ nb r = enc A := by subst ho; exact h
theorem RT_none {r : List Int} {e : Int} {o : Option (Int × Int)} (h : RT r e o) (ho : o = none) : e = 1 ∧ nb r = 0 := by subst ho; exact h
theorem RT_eq {r r' : List Int} {e e' : Int} {o : Option (Int × Int)} (h : RT r e o) (h' : RT r' e' o) (i : inB (repB 0 255 32) r) (i' : inB (repB 0 255 32) r') : r = r' ∧ e = e' := by
  cases o with
  | none => exact ⟨nb_inj i i' (h.2.trans h'.2.symm), h.1.trans h'.1.symm⟩
  | some A => exact ⟨nb_inj i i' (h.2.trans h'.2.symm), h.1.trans h'.1.symm⟩
theorem add_some {a b r : List Int} {e : Int} {A B : Int × Int} (h : s_cadd [a, b] [r, [e]]) (hA : dec (nb a) = some A) (hB : dec (nb b) = some B) : e = 0 ∧ nb r = enc (addP A B) :=
  RT_some (show RT r e ((dec (nb a)).bind fun A => (dec (nb b)).map fun B => addP A B) from h) (by rw [hA, hB]; rfl)
theorem add_none1 {a b r : List Int} {e : Int} (h : s_cadd [a, b] [r, [e]]) (hA : dec (nb a) = none) : e = 1 :=
  (RT_none (show RT r e ((dec (nb a)).bind fun A => (dec (nb b)).map fun B => addP A B) from h) (by rw [hA]; rfl)).1
theorem add_none2 {a b r : List Int} {e : Int} (h : s_cadd [a, b] [r, [e]]) (hB : dec (nb b) = none) : e = 1 :=
  (RT_none (show RT r e ((dec (nb a)).bind fun A => (dec (nb b)).map fun B => addP A B) from h) (by rw [hB]; cases dec (nb a) <;> rfl)).1
theorem neg_some {a r : List Int} {e : Int} {A : Int × Int} (h : s_cneg [a] [r, [e]]) (hA : dec (nb a) = some A) : e = 0 ∧ nb r = enc (negP A) :=
  RT_some (show RT r e ((dec (nb a)).map negP) from h) (by rw [hA]; rfl)
theorem neg_none {a r : List Int} {e : Int} (h : s_cneg [a] [r, [e]]) (hA : dec (nb a) = none) : e = 1 :=
  (RT_none (show RT r e ((dec (nb a)).map negP) from h) (by rw [hA]; rfl)).1
theorem tm_some {k a r : List Int} {e : Int} {A : Int × Int} (h : s_ctimes [k, a] [r, [e]]) (hA : dec (nb a) = some A) : e = 0 ∧ nb r = enc (mulP (nb k).toNat A) :=
  RT_some (show RT r e ((dec (nb a)).map (mulP (nb k).toNat)) from h) (by rw [hA]; rfl)
theorem tm_none {k a r : List Int} {e : Int} (h : s_ctimes [k, a] [r, [e]]) (hA : dec (nb a) = none) : e = 1 :=
  (RT_none (show RT r e ((dec (nb a)).map (mulP (nb k).toNat)) from h) (by rw [hA]; rfl)).1
theorem dec_of {r : List Int} {A : Int × Int} (hA : on A) (h : nb r = enc A) : dec (nb r) = some A := by rw [h]; exact dec_enc hA
theorem dec_y {b : Int} {A : Int × Int} (h : dec b = some A) : A.2 = b % top1 := by
  rw [dec_eq] at h
  split at h
  · split at h
    · cases h
    · split at h
      · split at h
        · cases h
        · cases h; rfl
      · cases h; rfl
  · cases h
theorem two_pw : pw (3 * (4 * cd + 1)) eH = 57896044618658097711785492504343953926634992332820282019728792003956564819948 := by
  rw [show 3 * (4 * cd + 1) = ((445148471216033272117657002105054782274505366558118628196665426397031283402663 : Nat) : Int) by decide, pw_nat _ _ (by decide)]
  decide +kernel
theorem id_two (x d : Int) : (x * (4 * d + 1)) * (x * (4 * d + 1)) - 3 * (4 * d + 1) = (-(4 * d + 1)) * (2 * 2 - x * x - 1 - d * (x * x * (2 * 2))) := by grind
/-- No point has a 2 for its second number. -/
theorem dec_2 : dec 2 = none := by
  cases hd : dec 2 with
  | none => rfl
  | some A =>
    exfalso
    have ho := (dec_on hd).c
    rw [dec_y hd] at ho
    have h1 := cg.2 (Cv.lc1 ho (id_two A.1 cd))
    have h2 := pw_of_mod h1 eH
    rw [two_pw] at h2
    by_cases hz : A.1 * (4 * cd + 1) % 57896044618658097711785492504343953926634992332820282019728792003956564819949 = 0
    · rw [mul_pw, zero_pw _ hz eH (by decide)] at h2
      revert h2; decide
    · rw [mul_pw, ← pw_double, dbl_h, fermat hz] at h2
      revert h2; decide
theorem L_toNat {l r : List Int} (h1 : s_rl [] [l]) (h2 : nb r = nw l) : (nb r).toNat = ordL := by
  have h1 : nw l = (ordL : Int) := h1
  rw [h2, h1]; rfl
end Go.Fd
