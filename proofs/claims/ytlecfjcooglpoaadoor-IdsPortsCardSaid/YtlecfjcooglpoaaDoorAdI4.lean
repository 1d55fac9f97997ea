/- AdI4: a part of the proof of statements of this seat. -/
import Derived.Test.YtlecfjcooglpoaaDoorAdI3
set_option maxRecDepth 100000
set_option linter.unusedVariables false
set_option linter.unusedSimpArgs false
namespace Go.Ad
open Go Go.Rx
/-! ### The document's decode, letter by letter -/
def dfold : Tx → Nat → Nat → Tx → Option Tx
  | out, _, _, [] => some out
  | out, n, b, c :: r => cond (decide (vb c < 0)) none (cond (decide (8 ≤ b + 6)) (dfold (out ++ [UInt8.ofNat ((64 * n + (vb c).toNat) / 2 ^ (b - 2))]) ((64 * n + (vb c).toNat) % 2 ^ (b - 2)) (b - 2) r) (dfold out (64 * n + (vb c).toNat) (b + 6) r))
theorem dfold_no {out : Tx} {n b : Nat} {c : UInt8} {r : Tx} (h : vb c < 0) : dfold out n b (c :: r) = none := by unfold dfold; rw [decide_eq_true h]; rfl
theorem dfold_lo {out : Tx} {n b : Nat} {c : UInt8} {r : Tx} (h : 0 ≤ vb c) (hb : b < 2) : dfold out n b (c :: r) = dfold out (64 * n + (vb c).toNat) (b + 6) r := by
  conv => lhs; unfold dfold
  rw [decide_eq_false (show ¬ vb c < 0 by omega), decide_eq_false (show ¬ 8 ≤ b + 6 by omega)]; rfl
theorem dfold_hi {out : Tx} {n b : Nat} {c : UInt8} {r : Tx} (h : 0 ≤ vb c) (hb : 2 ≤ b) : dfold out n b (c :: r) = dfold (out ++ [UInt8.ofNat ((64 * n + (vb c).toNat) / 2 ^ (b - 2))]) ((64 * n + (vb c).toNat) % 2 ^ (b - 2)) (b - 2) r := by
  conv => lhs; unfold dfold
  rw [decide_eq_false (show ¬ vb c < 0 by omega), decide_eq_true (show 8 ≤ b + 6 by omega)]; rfl
theorem penc3 (a b c : UInt8) (r : Tx) : penc (a :: b :: c :: r) = lt64 (a.toNat / 4) :: lt64 (a.toNat % 4 * 16 + b.toNat / 16) :: lt64 (b.toNat % 16 * 4 + c.toNat / 64) :: lt64 (c.toNat % 64) :: penc r := by conv => lhs; unfold penc
theorem penc_app : ∀ (p l : Tx), p.length % 3 = 0 → penc (p ++ l) = penc p ++ penc l
  | [], l, _ => rfl
  | [_], _, h => by simp at h
  | [_, _], _, h => by simp at h
  | a :: b :: c :: r, l, h => by
    show penc (a :: b :: c :: (r ++ l)) = _
    rw [penc3, penc3, penc_app r l (by simp at h; omega)]
    simp
def rdecF (o : Option Tx) (s : Tx) : Option Tx := match o with | none => none | some out => cond (decide (penc out = s)) (some out) none
theorem ofNat_u8 {n : Nat} {z : Int} (h : z = (n : Int)) : u8 z = UInt8.ofNat n := by subst h; rfl
theorem u8nat (n : Nat) (h : n < 256) : (UInt8.ofNat n).toNat = n := by simp; omega
theorem lt_vbn {c : UInt8} {n : Nat} (h : 0 ≤ vb c) (hn : n = (vb c).toNat) : lt64 n = c := by rw [hn]; exact lt_vb h
theorem rdecF_eq : ∀ (s out p : Tx), out.length % 3 = 0 → penc out = p → p.length % 4 = 0 → rdecF (dfold out 0 0 s) (p ++ s) = pdec out s
  | [], out, p, h3, hp, _ => by
    show rdecF (some out) (p ++ []) = some out
    unfold rdecF
    rw [List.append_nil]; simp only; rw [decide_eq_true hp]; rfl
  | [a], out, p, h3, hp, h4 => by
    show _ = none
    by_cases ha : 0 ≤ vb a
    · rw [dfold_lo ha (by decide)]
      show rdecF (some out) _ = none
      unfold rdecF
      simp only
      rw [decide_eq_false (by rw [hp]; intro h; have := congrArg List.length h; simp at this)]; rfl
    · rw [dfold_no (by omega)]; rfl
  | [a, b], out, p, h3, hp, h4 => by
    unfold pdec
    by_cases ha : 0 ≤ vb a
    · by_cases hb : 0 ≤ vb b
      · have wa := vb_hi a; have wb := vb_hi b
        rw [dfold_lo ha (by decide), dfold_hi hb (by decide)]
        show rdecF (some (out ++ [UInt8.ofNat _])) _ = _
        unfold rdecF
        simp only [Nat.reduceAdd, Nat.reduceSub, Nat.reducePow, Nat.mul_zero, Nat.zero_add]
        have hD : dv (vb a) (vb b) 0 0 = 262144 * vb a + 4096 * vb b := by unfold dv; omega
        rw [hD, ofNat_u8 (z := (262144 * vb a + 4096 * vb b) / 65536) (n := (64 * (vb a).toNat + (vb b).toNat) / 16) (by omega), penc_app _ _ h3, hp]
        have hx := u8nat ((64 * (vb a).toNat + (vb b).toNat) / 16) (by omega)
        rw [decide_eq_true ha, decide_eq_true hb]
        have hpe : penc [UInt8.ofNat ((64 * (vb a).toNat + (vb b).toNat) / 16)] = [a, lt64 ((64 * (vb a).toNat + (vb b).toNat) / 16 % 4 * 16)] := by
          unfold penc; rw [hx]; rw [lt_vbn ha (by omega)]
        rw [hpe]
        by_cases hz : (262144 * vb a + 4096 * vb b) % 65536 = 0
        · rw [decide_eq_true hz, lt_vbn hb (by omega)]; simp
        · rw [decide_eq_false hz, decide_eq_false (fun h => ?_)]; rfl
          have h := List.append_cancel_left h
          have h : lt64 ((64 * (vb a).toNat + (vb b).toNat) / 16 % 4 * 16) = b := by simpa using h
          have h2 := vb_lt (n := (64 * (vb a).toNat + (vb b).toNat) / 16 % 4 * 16) (by omega)
          rw [h] at h2
          omega
      · rw [dfold_lo ha (by decide), dfold_no (by omega), show decide (0 ≤ vb b) = false from decide_eq_false hb]; simp [rdecF]
    · rw [dfold_no (by omega), show decide (0 ≤ vb a) = false from decide_eq_false ha]; rfl
  | [a, b, c], out, p, h3, hp, h4 => by
    unfold pdec
    by_cases ha : 0 ≤ vb a
    · by_cases hb : 0 ≤ vb b
      · by_cases hc : 0 ≤ vb c
        · have wa := vb_hi a; have wb := vb_hi b; have wc := vb_hi c
          rw [dfold_lo ha (by decide), dfold_hi hb (by decide), dfold_hi hc (by decide)]
          show rdecF (some (out ++ [UInt8.ofNat _] ++ [UInt8.ofNat _])) _ = _
          unfold rdecF
          simp only [Nat.reduceAdd, Nat.reduceSub, Nat.reducePow, Nat.mul_zero, Nat.zero_add]
          have hD : dv (vb a) (vb b) (vb c) 0 = 262144 * vb a + (4096 * vb b + 64 * vb c) := by unfold dv; omega
          rw [hD, ofNat_u8 (z := (262144 * vb a + (4096 * vb b + 64 * vb c)) / 65536) (n := (64 * (vb a).toNat + (vb b).toNat) / 16) (by omega), ofNat_u8 (z := (262144 * vb a + (4096 * vb b + 64 * vb c)) / 256 % 256) (n := (64 * ((64 * (vb a).toNat + (vb b).toNat) % 16) + (vb c).toNat) / 4) (by omega), List.append_assoc, penc_app _ _ h3, hp]
          have hx := u8nat ((64 * (vb a).toNat + (vb b).toNat) / 16) (by omega)
          have hy := u8nat ((64 * ((64 * (vb a).toNat + (vb b).toNat) % 16) + (vb c).toNat) / 4) (by omega)
          rw [decide_eq_true ha, decide_eq_true hb, decide_eq_true hc]
          have hpe : penc [UInt8.ofNat ((64 * (vb a).toNat + (vb b).toNat) / 16), UInt8.ofNat ((64 * ((64 * (vb a).toNat + (vb b).toNat) % 16) + (vb c).toNat) / 4)] = [a, b, lt64 ((64 * ((64 * (vb a).toNat + (vb b).toNat) % 16) + (vb c).toNat) / 4 % 16 * 4)] := by
            unfold penc; rw [hx, hy]; rw [lt_vbn ha (by omega), lt_vbn hb (by omega)]
          rw [show ([UInt8.ofNat ((64 * (vb a).toNat + (vb b).toNat) / 16)] ++ [UInt8.ofNat ((64 * ((64 * (vb a).toNat + (vb b).toNat) % 16) + (vb c).toNat) / 4)] : Tx) = [UInt8.ofNat ((64 * (vb a).toNat + (vb b).toNat) / 16), UInt8.ofNat ((64 * ((64 * (vb a).toNat + (vb b).toNat) % 16) + (vb c).toNat) / 4)] from rfl, hpe]
          by_cases hz : (262144 * vb a + (4096 * vb b + 64 * vb c)) % 256 = 0
          · rw [decide_eq_true hz, lt_vbn hc (by omega)]; simp
          · rw [decide_eq_false hz, decide_eq_false (fun h => ?_)]; rfl
            have h := List.append_cancel_left h
            have h : lt64 ((64 * ((64 * (vb a).toNat + (vb b).toNat) % 16) + (vb c).toNat) / 4 % 16 * 4) = c := by simpa using h
            have h2 := vb_lt (n := (64 * ((64 * (vb a).toNat + (vb b).toNat) % 16) + (vb c).toNat) / 4 % 16 * 4) (by omega)
            rw [h] at h2
            omega
        · rw [dfold_lo ha (by decide), dfold_hi hb (by decide), dfold_no (by omega), show decide (0 ≤ vb c) = false from decide_eq_false hc]; simp [rdecF]
      · rw [dfold_lo ha (by decide), dfold_no (by omega), show decide (0 ≤ vb b) = false from decide_eq_false hb]; simp [rdecF]
    · rw [dfold_no (by omega), show decide (0 ≤ vb a) = false from decide_eq_false ha]; rfl
  | a :: b :: c :: d :: r, out, p, h3, hp, h4 => by
    unfold pdec
    by_cases ha : 0 ≤ vb a
    · by_cases hb : 0 ≤ vb b
      · by_cases hc : 0 ≤ vb c
        · by_cases hd : 0 ≤ vb d
          · have wa := vb_hi a; have wb := vb_hi b; have wc := vb_hi c; have wd := vb_hi d
            rw [dfold_lo ha (by decide), dfold_hi hb (by decide), dfold_hi hc (by decide), dfold_hi hd (by decide)]
            simp only [Nat.reduceAdd, Nat.reduceSub, Nat.reducePow, Nat.mul_zero, Nat.zero_add, Nat.mod_one, Nat.div_one]
            have hD : dv (vb a) (vb b) (vb c) (vb d) = 262144 * vb a + (4096 * vb b + (64 * vb c + vb d)) := by unfold dv; omega
            rw [hD, ofNat_u8 (z := (262144 * vb a + (4096 * vb b + (64 * vb c + vb d))) / 65536) (n := (64 * (vb a).toNat + (vb b).toNat) / 16) (by omega), ofNat_u8 (z := (262144 * vb a + (4096 * vb b + (64 * vb c + vb d))) / 256 % 256) (n := (64 * ((64 * (vb a).toNat + (vb b).toNat) % 16) + (vb c).toNat) / 4) (by omega), ofNat_u8 (z := (262144 * vb a + (4096 * vb b + (64 * vb c + vb d))) % 256) (n := (64 * ((64 * ((64 * (vb a).toNat + (vb b).toNat) % 16) + (vb c).toNat) % 4) + (vb d).toNat)) (by omega)]
            rw [decide_eq_true ha, decide_eq_true hb, decide_eq_true hc, decide_eq_true hd]
            have hx := u8nat ((64 * (vb a).toNat + (vb b).toNat) / 16) (by omega)
            have hy := u8nat ((64 * ((64 * (vb a).toNat + (vb b).toNat) % 16) + (vb c).toNat) / 4) (by omega)
            have hw := u8nat (64 * ((64 * ((64 * (vb a).toNat + (vb b).toNat) % 16) + (vb c).toNat) % 4) + (vb d).toNat) (by omega)
            have hpe : penc [UInt8.ofNat ((64 * (vb a).toNat + (vb b).toNat) / 16), UInt8.ofNat ((64 * ((64 * (vb a).toNat + (vb b).toNat) % 16) + (vb c).toNat) / 4), UInt8.ofNat (64 * ((64 * ((64 * (vb a).toNat + (vb b).toNat) % 16) + (vb c).toNat) % 4) + (vb d).toNat)] = [a, b, c, d] := by
              unfold penc; rw [hx, hy, hw]; rw [lt_vbn ha (by omega), lt_vbn hb (by omega), lt_vbn hc (by omega), lt_vbn hd (by omega)]; rfl
            have ih := rdecF_eq r (out ++ [UInt8.ofNat ((64 * (vb a).toNat + (vb b).toNat) / 16)] ++ [UInt8.ofNat ((64 * ((64 * (vb a).toNat + (vb b).toNat) % 16) + (vb c).toNat) / 4)] ++ [UInt8.ofNat (64 * ((64 * ((64 * (vb a).toNat + (vb b).toNat) % 16) + (vb c).toNat) % 4) + (vb d).toNat)]) (p ++ [a, b, c, d]) (by simp; omega)
              (by rw [show out ++ [UInt8.ofNat ((64 * (vb a).toNat + (vb b).toNat) / 16)] ++ [UInt8.ofNat ((64 * ((64 * (vb a).toNat + (vb b).toNat) % 16) + (vb c).toNat) / 4)] ++ [UInt8.ofNat (64 * ((64 * ((64 * (vb a).toNat + (vb b).toNat) % 16) + (vb c).toNat) % 4) + (vb d).toNat)] = out ++ [UInt8.ofNat ((64 * (vb a).toNat + (vb b).toNat) / 16), UInt8.ofNat ((64 * ((64 * (vb a).toNat + (vb b).toNat) % 16) + (vb c).toNat) / 4), UInt8.ofNat (64 * ((64 * ((64 * (vb a).toNat + (vb b).toNat) % 16) + (vb c).toNat) % 4) + (vb d).toNat)] by simp, penc_app _ _ h3, hp, hpe]) (by simp; omega)
            rw [show p ++ a :: b :: c :: d :: r = p ++ [a, b, c, d] ++ r by simp]
            exact ih
          · rw [dfold_lo ha (by decide), dfold_hi hb (by decide), dfold_hi hc (by decide), dfold_no (by omega), show decide (0 ≤ vb d) = false from decide_eq_false hd]; simp [rdecF]
        · rw [dfold_lo ha (by decide), dfold_hi hb (by decide), dfold_no (by omega), show decide (0 ≤ vb c) = false from decide_eq_false hc]; simp [rdecF]
      · rw [dfold_lo ha (by decide), dfold_no (by omega), show decide (0 ≤ vb b) = false from decide_eq_false hb]; simp [rdecF]
    · rw [dfold_no (by omega), show decide (0 ≤ vb a) = false from decide_eq_false ha]; rfl
theorem rdec_eq (s : Tx) : rdecF (dfold [] 0 0 s) s = pdec [] s := rdecF_eq s [] [] rfl rfl rfl
def B_rdec (S : Nat → List (List Int) → List (List Int) → Prop) (K : List (List Int) → List (List Int) → Prop) : Prop :=
 ∀ z0 : Int, 0 ≤ z0 → z0 ≤ HB → 
 chkD 50 [z0] →
 ∃ (I1 : List (List Int) → Prop) (μ1 : List (List Int) → Nat), I1 [[0], [0], [0], [0], [0], [(-1)]] ∧ (∀ z2 : Int, 0 ≤ z2 → z2 ≤ 63 → ∀ z3 : Int, 0 ≤ z3 → z3 ≤ 6 → ∀ z4 : Int, 0 ≤ z4 → z4 ≤ 9223372036854775807 → ∀ z5 : Int, 0 ≤ z5 → z5 ≤ RB → ∀ z6 : Int, 0 ≤ z6 → z6 ≤ 9223372036854775807 → ∀ z7 : Int, (-1) ≤ z7 → z7 ≤ 9223372036854775807 → I1 [[z2], [z3], [z4], [z5], [z6], [z7]] →
  ∀ z8 : Int, 0 ≤ z8 → z8 ≤ 9223372036854775807 → z8 = fnD 0 [z0] →
  (((decide (z4 < z8)) = true →
   ∃ (I9 : List (List Int) → Prop) (μ9 : List (List Int) → Nat), I9 [[(-1)], [0]] ∧ (∀ z10 : Int, (-1) ≤ z10 → z10 ≤ 63 → ∀ z11 : Int, 0 ≤ z11 → z11 ≤ 64 → I9 [[z10], [z11]] →
    (((decide (z11 < 64)) = true →
     chkD 1 [6439778871455663551411970937238106184867635049510729706117061206185421053633325175573859605394632369959718122663627376643761666518446848593321555565570007, z11] ∧
     ∀ z12 : Int, 0 ≤ z12 → z12 ≤ 255 → z12 = fnD 1 [6439778871455663551411970937238106184867635049510729706117061206185421053633325175573859605394632369959718122663627376643761666518446848593321555565570007, z11] →
     chkD 1 [z0, z4] ∧
     ∀ z13 : Int, 0 ≤ z13 → z13 ≤ 255 → z13 = fnD 1 [z0, z4] →
     (((decide (z12 = z13)) = true →
      (I9 [[z11], [(z11 + 1)]] ∧ μ9 [[z11], [(z11 + 1)]] < μ9 [[z10], [z11]])
     ) ∧ ((decide (z12 = z13)) = false →
      (I9 [[z10], [(z11 + 1)]] ∧ μ9 [[z10], [(z11 + 1)]] < μ9 [[z10], [z11]])
     ))
    ) ∧ ((decide (z11 < 64)) = false →
     (((decide (z10 < 0)) = true →
      K [[z0]] [[0], [2]]
     ) ∧ ((decide (z10 < 0)) = false →
      (((decide (8 ≤ (z3 + 6))) = true →
       ∀ z12 : Int, 0 ≤ z12 → z12 ≤ 4095 → z12 = ((64 * z2) + z10) / 2 ^ ((z3 + (-2))).toNat →
       ∀ z13 : Int, 0 ≤ z13 → z13 ≤ 15 → 0 ≤ z12 - 256 * z13 → z12 - 256 * z13 < 256 →
       chkD 31 [z5, z6] ∧
       chkD 23 [z5, 1] ∧
       ∀ z14 : Int, 0 ≤ z14 → z14 ≤ RB → z14 = fnD 23 [z5, (z12 + ((-256) * z13))] →
       ∀ z15 : Int, (-1) ≤ z15 → z15 ≤ 9223372036854775807 → 
       ∀ z16 : Int, 0 ≤ z16 → z16 ≤ 16 → z16 = fnD 37 [1, (z3 + (-2))] →
       chkD 36 [z16] ∧
       ∀ z17 : Int, 0 ≤ z17 → z17 ≤ 15 → z17 = fnD 38 [((64 * z2) + z10), z16] →
       ∀ z18 : Int, 0 ≤ z18 → z18 ≤ 1 → 0 ≤ (z4 + 9223372036854775809) - 18446744073709551616 * z18 → (z4 + 9223372036854775809) - 18446744073709551616 * z18 < 18446744073709551616 →
       chkD 39 [((z4 + ((-18446744073709551616) * z18)) + 1), 0, 9223372036854775807] ∧
       (I1 [[z17], [(z3 + (-2))], [((z4 + ((-18446744073709551616) * z18)) + 1)], [z14], [(z6 + 1)], [z15]] ∧ μ1 [[z17], [(z3 + (-2))], [((z4 + ((-18446744073709551616) * z18)) + 1)], [z14], [(z6 + 1)], [z15]] < μ1 [[z2], [z3], [z4], [z5], [z6], [z7]])
      ) ∧ ((decide (8 ≤ (z3 + 6))) = false →
       ∀ z12 : Int, 0 ≤ z12 → z12 ≤ 1 → 0 ≤ (z4 + 9223372036854775809) - 18446744073709551616 * z12 → (z4 + 9223372036854775809) - 18446744073709551616 * z12 < 18446744073709551616 →
       chkD 39 [((64 * z2) + z10), 0, 63] ∧
       chkD 39 [(z3 + 6), 0, 6] ∧
       chkD 39 [((z4 + ((-18446744073709551616) * z12)) + 1), 0, 9223372036854775807] ∧
       (I1 [[((64 * z2) + z10)], [(z3 + 6)], [((z4 + ((-18446744073709551616) * z12)) + 1)], [z5], [z6], [z7]] ∧ μ1 [[((64 * z2) + z10)], [(z3 + 6)], [((z4 + ((-18446744073709551616) * z12)) + 1)], [z5], [z6], [z7]] < μ1 [[z2], [z3], [z4], [z5], [z6], [z7]])
      ))
     ))
    ))
   )
  ) ∧ ((decide (z4 < z8)) = false →
   chkD 22 [z5, 0, z6] ∧
   ∀ z9 : Int, 0 ≤ z9 → z9 ≤ RB → z9 = fnD 22 [z5, 0, z6] →
   chkD 48 [z9] ∧
   ∀ z10 : Int, 0 ≤ z10 → z10 ≤ HB → S 222 [[z9]] [[z10]] →
   ∀ z11 : Int, 0 ≤ z11 → z11 ≤ 1 → z11 = fnD 4 [z10, z0] →
   ((((!(decide (z11 = 1)))) = true →
    K [[z0]] [[0], [2]]
   ) ∧ (((!(decide (z11 = 1)))) = false →
    chkD 22 [z5, 0, z6] ∧
    ∀ z12 : Int, 0 ≤ z12 → z12 ≤ RB → z12 = fnD 22 [z5, 0, z6] →
    K [[z0]] [[z12], [0]]
   ))
  ))
 )
/-! ### The document's decode -/
def RdI (z0 : Int) (bl : List (List Int)) : Prop := ∃ (i n b : Nat) (r m c : Int) (out : Tx), bl = [[(n : Int)], [(b : Int)], [(i : Int)], [r], [m], [c]] ∧ rOf r = rowsL out ∧ m = (out.length : Int) ∧ i ≤ (sOf z0).length ∧ out.length ≤ i ∧ n < 2 ^ b ∧ (b = 0 ∨ b = 2 ∨ b = 4 ∨ b = 6) ∧ dfold out n b ((sOf z0).drop i) = dfold [] 0 0 (sOf z0)
def RdM (z0 : Int) (bl : List (List Int)) : Nat := (sOf z0).length - ((bl.getD 2 []).getD 0 0).toNat
def RdJ (c : UInt8) (bl : List (List Int)) : Prop := ∃ (j : Nat) (v : Int), bl = [[v], [(j : Int)]] ∧ j ≤ 64 ∧ ((vb c < j ∧ v = vb c) ∨ (¬ vb c < j ∧ v = -1))
def RdN (bl : List (List Int)) : Nat := 64 - ((bl.getD 1 []).getD 0 0).toNat
theorem al_at {j : Nat} (h : j < 64) : chkD 1 [6439778871455663551411970937238106184867635049510729706117061206185421053633325175573859605394632369959718122663627376643761666518446848593321555565570007, (j : Int)] ∧ ∀ y, y = fnD 1 [6439778871455663551411970937238106184867635049510729706117061206185421053633325175573859605394632369959718122663627376643761666518446848593321555565570007, (j : Int)] → y = ((lt64 j).toNat : Int) := by
  refine ⟨⟨by omega, by rw [cL_al]; show (j : Int) < 64; omega⟩, fun y hy => ?_⟩
  rw [hy]; simp only [fnD, Int.toNat_natCast, cL_al]; rfl
theorem vb_ge (c : UInt8) : -1 ≤ vb c := (idx_range (c.toNat : Int) al64).1
theorem p_rdec : B_rdec SB (KBb SB [.ow [.int .u8 0 255] 5, .d (.int .i64 0 21)] 221) := by
  intro z0 a0 a1 hpre
  have hpre : (sOf z0).length ≤ 1073741824 := hpre
  refine ⟨RdI z0, RdM z0, ⟨0, 0, 0, 0, 0, -1, [], rfl, rfl, rfl, by omega, by simp, by simp, Or.inl rfl, by simp⟩, ?_⟩
  rintro z2 b0 b1 z3 c0 c1 z4 d0 d1 z5 e0 e1 z6 f0 f1 z7 g0 g1 ⟨i, n, b, r, m, c, out, e, hr, hm, hi, hol, hnb, hb, hI⟩ z8 k0 k1 h8
  obtain ⟨rfl, rfl, rfl, rfl, rfl, rfl⟩ : z2 = n ∧ z3 = b ∧ z4 = i ∧ z5 = r ∧ z6 = m ∧ z7 = c := by simpa using e
  have rl : (rOf z5).length = out.length := by rw [hr]; simp [rowsL]
  simp only [fnD] at h8
  have kfail : dfold [] 0 0 (sOf z0) = none → KBb SB [.ow [.int .u8 0 255] 5, .d (.int .i64 0 21)] 221 [[z0]] [[0], [2]] := fun h => kdec (Int.le_refl _) RB_nonneg (by decide) (by decide) (by
    show (match pdec [] (sOf z0) with | some l => bytesR 0 = l ∧ (2 : Int) = 0 | none => bytesR 0 = [] ∧ (2 : Int) = 2)
    rw [← rdec_eq, h]; exact ⟨bytesR_zero, by rfl⟩)
  refine ⟨fun hlt => ?_, fun hge => ?_⟩
  · have hlt : (i : Int) < z8 := of_decide_eq_true hlt
    have hlt' : i < (sOf z0).length := by omega
    have hdr := drop_cons_getD (sOf z0) i hlt'
    refine ⟨RdJ ((sOf z0).getD i 0), RdN, ⟨0, -1, rfl, by decide, ?_⟩, ?_⟩
    · have := vb_ge ((sOf z0).getD i 0)
      omega
    rintro z10 l0 l1 z11 m0 m1 ⟨j, v, ej, hj, hv⟩
    have ej1 : z10 = v ∧ z11 = (j : Int) := by
      injection ej with x1 x2; injection x2 with x3 x4
      injection x1 with x1 _; injection x3 with x3 _
      exact ⟨x1, x3⟩
    obtain ⟨rfl, rfl⟩ := ej1
    refine ⟨fun hjl => ?_, fun hjg => ?_⟩
    · have hjl : (j : Int) < 64 := of_decide_eq_true hjl
      obtain ⟨t1, t2⟩ := al_at (j := j) (by omega)
      have hvj := vb_lt (n := j) (by omega)
      refine ⟨t1, fun z12 _ _ h12 => ⟨⟨by omega, by omega⟩, fun z13 _ _ h13 => ?_⟩⟩
      have h12 := t2 z12 h12
      have h13 : z13 = (((sOf z0).getD i 0).toNat : Int) := by rw [h13]; simp only [fnD, Int.toNat_natCast]
      refine ⟨fun heq => ⟨⟨j + 1, (j : Int), by simp, by omega, ?_⟩, ?_⟩, fun hne => ⟨⟨j + 1, z10, by simp, by omega, ?_⟩, ?_⟩⟩
      · have heq : z12 = z13 := of_decide_eq_true heq
        have hcc : (sOf z0).getD i 0 = lt64 j := by
          apply UInt8.toNat_inj.1; omega
        rw [hcc, hvj]; exact Or.inl ⟨by omega, rfl⟩
      · show 64 - ((j : Int) + 1).toNat < 64 - ((j : Int)).toNat; omega
      · have hne : ¬ z12 = z13 := of_decide_eq_false hne
        have hcc : vb ((sOf z0).getD i 0) ≠ (j : Int) := fun h => by
          apply hne
          rw [h12, h13, ← lt_vb (c := (sOf z0).getD i 0) (by omega), h]; rfl
        omega
      · show 64 - ((j : Int) + 1).toNat < 64 - ((j : Int)).toNat; omega
    · have hjg : ¬ (j : Int) < 64 := of_decide_eq_false hjg
      have hhi := vb_hi ((sOf z0).getD i 0)
      have hz10 : z10 = vb ((sOf z0).getD i 0) := by omega
      refine ⟨fun hn => kfail (by rw [← hI, hdr]; exact dfold_no (by have := of_decide_eq_true hn; omega)), fun hn => ?_⟩
      have hn := of_decide_eq_false hn
      have hv0 : 0 ≤ vb ((sOf z0).getD i 0) := by omega
      have hcast : ((64 * n + (vb ((sOf z0).getD i 0)).toNat : Nat) : Int) = 64 * (n : Int) + z10 := by omega
      refine ⟨fun h8b => ?_, fun h8b => ?_⟩
      · have h8b : (8 : Int) ≤ (b : Int) + 6 := of_decide_eq_true h8b
        have hb2 : 2 ≤ b := by omega
        intro z12 r0 r1 h12 z13 s0 s1 s2 s3
        have hex : (((b : Int) + (-2))).toNat = b - 2 := by omega
        rw [hex] at h12
        have h12' : z12 = (((64 * n + (vb ((sOf z0).getD i 0)).toNat) / 2 ^ (b - 2) : Nat) : Int) := by
          rw [h12, ← hcast]; simp
        have hn2 : 64 * n + (vb ((sOf z0).getD i 0)).toNat < 64 * 2 ^ b := by omega
        have hp4 : (2 : Nat) ^ b = 4 * 2 ^ (b - 2) := by
          conv => lhs; rw [show b = b - 2 + 2 by omega, Nat.pow_add]
          omega
        have hdiv : (64 * n + (vb ((sOf z0).getD i 0)).toNat) / 2 ^ (b - 2) < 256 := by
          rw [Nat.div_lt_iff_lt_mul (Nat.two_pow_pos _)]; omega
        have hz13 : z13 = 0 := by omega
        subst hz13
        refine ⟨by show z6 = _; omega, by show ((rOf z5).length : Int) + 1 ≤ 1073741824; omega, fun z14 t0 t1 h14 z15 u0 u1 z16 w0 w1 h16 => ?_⟩
        have h16' : z16 = ((2 ^ (b - 2) : Nat) : Int) := by
          rw [h16]; simp only [fnD]; rw [hex]; simp
        refine ⟨by show 0 < z16; have := Nat.two_pow_pos (b - 2); omega, fun z17 x0 x1 h17 z18 y0 y1 y2 y3 => ?_⟩
        have h17' : z17 = (((64 * n + (vb ((sOf z0).getD i 0)).toNat) % 2 ^ (b - 2) : Nat) : Int) := by
          rw [h17]; simp only [fnD]; rw [h16', ← hcast]; simp
        rw [show ((i : Int) + (-18446744073709551616) * z18) + 1 = ((i + 1 : Nat) : Int) by omega]
        refine ⟨⟨by omega, by omega⟩, ⟨i + 1, (64 * n + (vb ((sOf z0).getD i 0)).toNat) % 2 ^ (b - 2), b - 2, z14, z6 + 1, z15, out ++ [u8 (z12 + (-256) * 0)], ?_, rows_app hr (by omega) (by omega) h14, by rw [hm]; simp, by omega, by simp; omega, Nat.mod_lt _ (Nat.two_pow_pos _), by omega, ?_⟩, ?_⟩
        · rw [h17', show (b : Int) + -2 = ((b - 2 : Nat) : Int) by omega]
        · rw [← hI, hdr, dfold_hi hv0 hb2, ofNat_u8 (z := z12 + (-256) * 0) (n := (64 * n + (vb ((sOf z0).getD i 0)).toNat) / 2 ^ (b - 2)) (by omega)]
        · show (sOf z0).length - (((i + 1 : Nat) : Int)).toNat < (sOf z0).length - ((i : Int)).toNat; omega
      · have h8b : ¬ (8 : Int) ≤ (b : Int) + 6 := of_decide_eq_false h8b
        have hb0 : b = 0 := by omega
        have hn0 : n = 0 := by rw [hb0] at hnb; exact Nat.lt_one_iff.1 hnb
        intro z12 r0 r1 s0 s1
        rw [show ((i : Int) + (-18446744073709551616) * z12) + 1 = ((i + 1 : Nat) : Int) by omega]
        refine ⟨⟨by omega, by omega⟩, ⟨by omega, by omega⟩, ⟨by omega, by omega⟩, ⟨i + 1, 64 * n + (vb ((sOf z0).getD i 0)).toNat, b + 6, z5, z6, z7, out, ?_, hr, hm, by omega, by omega, ?_, by omega, ?_⟩, ?_⟩
        · rw [hcast]; rfl
        · rw [hb0, hn0]; show 64 * 0 + (vb ((sOf z0).getD i 0)).toNat < 64; omega
        · rw [← hI, hdr, dfold_lo hv0 (by omega)]
        · show (sOf z0).length - (((i + 1 : Nat) : Int)).toNat < (sOf z0).length - ((i : Int)).toNat; omega
  · have hge : ¬ (i : Int) < z8 := of_decide_eq_false hge
    have hnil : (sOf z0).drop i = [] := List.drop_eq_nil_of_le (by omega)
    have hfin : dfold [] 0 0 (sOf z0) = some out := by rw [← hI, hnil]; rfl
    obtain ⟨w1, w2⟩ := whole_rows (y := 0) hr hm
    refine ⟨w1, fun z9 l0 l1 h9 => ?_⟩
    have hr9 := (whole_rows (y := z9) hr hm).2 h9
    refine ⟨by show (rOf z9).length ≤ _; rw [hr9]; simp [rowsL]; omega, fun z10 m0 m1 h10 z11 n0 n1 h11 => ?_⟩
    have h10 : sOf z10 = penc out := by rw [show sOf z10 = penc (bytesR z9) from h10, bytesR_rows hr9]
    have h11 := eq_dec h11
    have hpd := rdec_eq (sOf z0)
    rw [hfin] at hpd
    refine ⟨fun hq => ?_, fun hq => ⟨w1, fun z12 o0 o1 h12 => ?_⟩⟩
    · have hne : ¬ penc out = sOf z0 := fun h => by rw [h10, h, show decide (sOf z0 = sOf z0) = true from decide_eq_true rfl] at h11; rw [h11] at hq; cases hq
      refine kdec (Int.le_refl _) RB_nonneg (by decide) (by decide) (by
        show (match pdec [] (sOf z0) with | some l => bytesR 0 = l ∧ (2 : Int) = 0 | none => bytesR 0 = [] ∧ (2 : Int) = 2)
        rw [← hpd]; unfold rdecF; simp only; rw [decide_eq_false hne]; exact ⟨bytesR_zero, by first | rfl | trivial⟩)
    · have hee : penc out = sOf z0 := by
        cases hx : decide (z11 = 1) with
        | true => rw [← h10]; exact of_decide_eq_true (h11.symm.trans hx)
        | false => rw [hx] at hq; cases hq
      have hr12 := (whole_rows (y := z12) hr hm).2 h12
      refine kdec o0 o1 (by decide) (by decide) (by
        show (match pdec [] (sOf z0) with | some l => bytesR z12 = l ∧ (0 : Int) = 0 | none => bytesR z12 = [] ∧ (0 : Int) = 2)
        rw [← hpd]; unfold rdecF; simp only; rw [decide_eq_true hee]; exact ⟨bytesR_rows hr12, by first | rfl | trivial⟩)
end Go.Ad
