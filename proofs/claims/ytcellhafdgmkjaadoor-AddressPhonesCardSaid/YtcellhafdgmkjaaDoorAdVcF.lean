/- AdVcF: a part of the proof of statements of this seat. -/
import Derived.Test.YtcellhafdgmkjaaDoorAdVcE
import Derived.Test.YtcellhafdgmkjaaDoorAdBase
set_option maxRecDepth 100000
set_option linter.unusedVariables false
set_option linter.unusedSimpArgs false
namespace Go.Ad
open Go Go.Rx
def B_server (S : Nat → List (List Int) → List (List Int) → Prop) (K : List (List Int) → List (List Int) → Prop) : Prop :=
 ∀ z0 : Int, 0 ≤ z0 → z0 ≤ HB → 
 ∀ z1 : Int, 0 ≤ z1 → z1 ≤ HB → ∀ z2 : Int, 0 ≤ z2 → z2 ≤ HB → ∀ z3 : Int, 0 ≤ z3 → z3 ≤ 1 → S 126 [[z0]] [[z1], [z2], [z3]] →
 ∀ z4 : Int, 0 ≤ z4 → z4 ≤ 1 → S 47 [[z1]] [[z4]] →
 (((decide (z4 = 1)) = true →
  ((((!(decide (z3 = 1)))) = true →
   K [[z0]] [[(cond (true) 1 0)]]
  ) ∧ (((!(decide (z3 = 1)))) = false →
   ∀ z5 : Int, 0 ≤ z5 → z5 ≤ 1 → z5 = fnD 4 [z2, 0] →
   ((((!(decide (z5 = 1)))) = true →
    ∀ z6 : Int, 0 ≤ z6 → z6 ≤ 9223372036854775807 → z6 = fnD 0 [z2] →
    (((decide (z6 ≤ 5)) = true →
     ∀ z7 : Int, 0 ≤ z7 → z7 ≤ HB → S 124 [[z2]] [[z7]] →
     ∀ z8 : Int, 0 ≤ z8 → z8 ≤ 1 → z8 = fnD 4 [z7, 0] →
     (((decide (z8 = 1)) = true →
      ∀ z9 : Int, 0 ≤ z9 → z9 ≤ 1 → S 65 [[z2], [284767230291263911083031]] [[z9]] →
      K [[z0]] [[(cond (decide (z9 = 1)) 1 0)]]
     ) ∧ ((decide (z8 = 1)) = false →
      K [[z0]] [[(cond (false) 1 0)]]
     ))
    ) ∧ ((decide (z6 ≤ 5)) = false →
     K [[z0]] [[(cond (false) 1 0)]]
    ))
   ) ∧ (((!(decide (z5 = 1)))) = false →
    K [[z0]] [[(cond (false) 1 0)]]
   ))
  ))
 ) ∧ ((decide (z4 = 1)) = false →
  K [[z0]] [[(cond (false) 1 0)]]
 ))
def B_email (S : Nat → List (List Int) → List (List Int) → Prop) (K : List (List Int) → List (List Int) → Prop) : Prop :=
 ∀ z0 : Int, 0 ≤ z0 → z0 ≤ HB → 
 ∀ z1 : Int, 0 ≤ z1 → z1 ≤ HB → S 120 [[z0]] [[z1]] →
 ∀ z2 : Int, 0 ≤ z2 → z2 ≤ HB → ∀ z3 : Int, 0 ≤ z3 → z3 ≤ HB → ∀ z4 : Int, 0 ≤ z4 → z4 ≤ 1 → S 125 [[z1]] [[z2], [z3], [z4]] →
 ((((!(decide (z4 = 1)))) = true →
  K [[z0]] [[0], [2]]
 ) ∧ (((!(decide (z4 = 1)))) = false →
  ∀ z5 : Int, 0 ≤ z5 → z5 ≤ 9223372036854775807 → z5 = fnD 0 [z1] →
  (((decide (254 < z5)) = true →
   K [[z0]] [[0], [2]]
  ) ∧ ((decide (254 < z5)) = false →
   ∀ z6 : Int, 0 ≤ z6 → z6 ≤ 1 → S 24 [[z2]] [[z6]] →
   ((((!(decide (z6 = 1)))) = true →
    K [[z0]] [[0], [2]]
   ) ∧ (((!(decide (z6 = 1)))) = false →
    ∀ z7 : Int, (-1) ≤ z7 → z7 ≤ 9223372036854775807 → S 73 [[z3], [58]] [[z7]] →
    (((decide (0 ≤ z7)) = true →
     K [[z0]] [[0], [2]]
    ) ∧ ((decide (0 ≤ z7)) = false →
     ∀ z8 : Int, 0 ≤ z8 → z8 ≤ 1 → S 127 [[z3]] [[z8]] →
     ((((!(decide (z8 = 1)))) = true →
      K [[z0]] [[0], [2]]
     ) ∧ (((!(decide (z8 = 1)))) = false →
      ∀ z9 : Int, 0 ≤ z9 → z9 ≤ 1 → S 27 [[z3]] [[z9]] →
      ((((!(decide (z9 = 1)))) = true →
       K [[z0]] [[0], [2]]
      ) ∧ (((!(decide (z9 = 1)))) = false →
       ∀ z10 : Int, 0 ≤ z10 → z10 ≤ HB → S 28 [[z1]] [[z10]] →
       K [[z0]] [[z10], [0]]
      ))
     ))
    ))
   ))
  ))
 ))
def B_small (S : Nat → List (List Int) → List (List Int) → Prop) (K : List (List Int) → List (List Int) → Prop) : Prop :=
 ∀ z0 : Int, 0 ≤ z0 → z0 ≤ 255 → 
 (((decide (97 ≤ z0)) = true →
  K [[z0]] [[(cond (decide (z0 ≤ 122)) 1 0)]]
 ) ∧ ((decide (97 ≤ z0)) = false →
  K [[z0]] [[(cond (false) 1 0)]]
 ))
def B_great (S : Nat → List (List Int) → List (List Int) → Prop) (K : List (List Int) → List (List Int) → Prop) : Prop :=
 ∀ z0 : Int, 0 ≤ z0 → z0 ≤ 255 → 
 (((decide (65 ≤ z0)) = true →
  K [[z0]] [[(cond (decide (z0 ≤ 90)) 1 0)]]
 ) ∧ ((decide (65 ≤ z0)) = false →
  K [[z0]] [[(cond (false) 1 0)]]
 ))
def B_digit (S : Nat → List (List Int) → List (List Int) → Prop) (K : List (List Int) → List (List Int) → Prop) : Prop :=
 ∀ z0 : Int, 0 ≤ z0 → z0 ≤ 255 → 
 (((decide (48 ≤ z0)) = true →
  K [[z0]] [[(cond (decide (z0 ≤ 57)) 1 0)]]
 ) ∧ ((decide (48 ≤ z0)) = false →
  K [[z0]] [[(cond (false) 1 0)]]
 ))
def B_less (S : Nat → List (List Int) → List (List Int) → Prop) (K : List (List Int) → List (List Int) → Prop) : Prop :=
 ∀ r0 : List Int, inB (repB 0 HB 2) r0 → ∀ r2 : List Int, inB (repB 0 HB 2) r2 → 
 ∀ z4 : Int, 0 ≤ z4 → z4 ≤ 1 → z4 = fnD 4 [(List.getD r0 0 0), (List.getD r2 0 0)] →
 ((((!(decide (z4 = 1)))) = true →
  ∀ z5 : Int, 0 ≤ z5 → z5 ≤ 1 → z5 = fnD 5 [(List.getD r0 0 0), (List.getD r2 0 0)] →
  K [r0, r2] [[(cond (decide (z5 = 1)) 1 0)]]
 ) ∧ (((!(decide (z4 = 1)))) = false →
  ∀ z5 : Int, 0 ≤ z5 → z5 ≤ 1 → z5 = fnD 5 [(List.getD r0 1 0), (List.getD r2 1 0)] →
  K [r0, r2] [[(cond (decide (z5 = 1)) 1 0)]]
 ))
def B_rless (S : Nat → List (List Int) → List (List Int) → Prop) (K : List (List Int) → List (List Int) → Prop) : Prop :=
 ∀ r0 : List Int, inB (repB 0 HB 2) r0 → ∀ r2 : List Int, inB (repB 0 HB 2) r2 → 
 ∀ z4 : Int, 0 ≤ z4 → z4 ≤ 1 → z4 = fnD 5 [(List.getD r0 0 0), (List.getD r2 0 0)] →
 (((decide (z4 = 1)) = true →
  K [r0, r2] [[(cond (true) 1 0)]]
 ) ∧ ((decide (z4 = 1)) = false →
  ∀ z5 : Int, 0 ≤ z5 → z5 ≤ 1 → z5 = fnD 4 [(List.getD r0 0 0), (List.getD r2 0 0)] →
  (((decide (z5 = 1)) = true →
   ∀ z6 : Int, 0 ≤ z6 → z6 ≤ 1 → z6 = fnD 5 [(List.getD r0 1 0), (List.getD r2 1 0)] →
   K [r0, r2] [[(cond (decide (z6 = 1)) 1 0)]]
  ) ∧ ((decide (z5 = 1)) = false →
   K [r0, r2] [[(cond (false) 1 0)]]
  ))
 ))
theorem mem58 : inHost 58 = false := by decide
theorem hostb_no58 {s : Tx} (h : hostb s = true) : ¬ (58 : UInt8) ∈ s := fun hm => by
  unfold hostb at h
  rw [okP_eq] at h
  simp only [Bool.and_eq_true] at h
  have := List.all_eq_true.1 h.2.1.1 58 hm
  rw [mem58] at this; cases this
theorem idx_neg {c : Int} (h0 : 0 ≤ c) (h1 : c ≤ 255) {l : Tx} (h : ¬ u8 c ∈ l) : idx c l = -1 := by
  rcases idx_cases h0 h1 l with ⟨h2, _⟩ | ⟨_, _, _, h2, _⟩
  · exact h2
  · exact absurd h2 h
theorem serverb_host {s : Tx} (h : idx 58 s < 0) : serverb s = hostb s := by
  have : decide (0 ≤ idx 58 s) = false := by simpa using h
  unfold serverb cutF
  rw [this]
  simp
theorem p_server : B_server SB (KBv SB [.bool] 27) := by
  intro z0 a0 a1 z1 b0 b1 z2 c0 c1 z3 d0 d1 hS z4 e0 e1 h4
  have hS : (sOf z1, sOf z2, z3) = cutF 58 (sOf z0) := hS
  have h4 : z4 = b01 (hostb (sOf z1)) := h4
  have hv : serverb (sOf z0) = (hostb (sOf z1) && (decide (z3 = 0) || portb (sOf z2))) := by unfold serverb; rw [← hS]
  have kk : ∀ b : Bool, serverb (sOf z0) = b → KBv SB [.bool] 27 [[z0]] [[b01 b]] := fun b h => kb (by show b01 b = b01 (serverb (sOf z0)); rw [h])
  have h3 : (!decide (z3 = 1)) = decide (z3 = 0) := by
    rcases (show z3 = 0 ∨ z3 = 1 by omega) with rfl | rfl <;> rfl
  rw [b01_dec h4, h3]
  refine ⟨fun hp => ⟨fun hq => kk true ?_, fun hq z5 f0 f1 h5 => ?_⟩, fun hp => kk false ?_⟩
  · rw [hv, hp, hq]; rfl
  · have hn := nn_dec h5
    refine ⟨fun hr z6 g0 g1 h6 => ⟨fun hs z7 i0 i1 h7 z8 j0 j1 h8 => ?_, fun hs => kk false ?_⟩, fun hr => kk false ?_⟩
    · rw [hr] at hn
      rw [len_dec (n := 5) 5 rfl h6] at hs
      have h7 : sOf z7 = trimS isD (sOf z2) := h7
      rw [eq_nil h8, h7]
      refine ⟨fun ht z9 k0 k1 h9 => ?_, fun ht => kk false ?_⟩
      · have h9 : z9 = b01 ((sOf z2).all fun c => (sOf 284767230291263911083031).contains c) := h9
        have e : ((sOf z2).all fun c => (sOf 284767230291263911083031).contains c) = (sOf z2).all isD := congrArg (List.all (sOf z2)) (funext (allB256 (p := isD) (by decide +kernel)))
        rw [e] at h9
        rw [b01_dec h9]
        refine kk _ ?_
        rw [hv, hp, hq]; unfold portb; rw [← hn, hs]; simp
      · rw [hv, hp, hq]; unfold portb
        cases ha : (sOf z2).all isD with
        | false => simp
        | true => rw [trimS_all ha] at ht; simp at ht
    · rw [len_dec (n := 5) 5 rfl h6] at hs
      rw [hv, hp, hq]; unfold portb; rw [hs]; simp
    · rw [hr] at hn
      rw [hv, hp, hq]; unfold portb; rw [← hn]; rfl
  · rw [hv, hp]; rfl
theorem kse {id : Nat} {zs : List (List Int)} {a e : Int} (h0 : 0 ≤ a) (h1 : a ≤ HB) (e0 : 0 ≤ e) (e1 : e ≤ 21) (h : SB id zs [[a], [e]]) : KBv SB [.str, .int .i64 0 21] id zs [[a], [e]] := ⟨⟨h0, h1, e0, e1, trivial⟩, h⟩
theorem emailT_no {t : Tx} (h : (decide (0 ≤ idx 64 t) && Nat.ble t.length 254 && localb (t.take (idx 64 t).toNat) && hostb (t.drop ((idx 64 t).toNat + 1)) && (t.drop ((idx 64 t).toNat + 1)).contains 46) = false) : emailT t = ([], 2) := by unfold emailT; rw [h]; rfl
theorem p_email : B_email SB (KBv SB [.str, .int .i64 0 21] 10) := by
  intro z0 a0 a1 z1 b0 b1 h1 z2 c0 c1 z3 d0 d1 z4 e0 e1 hS
  have h1 : sOf z1 = trimS (· == 32) (sOf z0) := h1
  have hS : (sOf z2, sOf z3, z4) = cutF 64 (sOf z1) := hS
  have kk : emailT (sOf z1) = ([], 2) → KBv SB [.str, .int .i64 0 21] 10 [[z0]] [[0], [2]] := fun h => kse (Int.le_refl _) HB_pos (by decide) (by decide) (by
    show (sOf 0, (2 : Int)) = emailF (sOf z0)
    unfold emailF; rw [← h1, h]; rfl)
  unfold cutF at hS
  cases hi : decide (0 ≤ idx 64 (sOf z1)) with
  | false =>
    rw [hi] at hS
    simp only [cond_false, Prod.mk.injEq] at hS
    obtain ⟨_, _, rfl⟩ := hS
    exact ⟨fun _ => kk (emailT_no (by rw [hi]; rfl)), fun h => by simp at h⟩
  | true =>
    rw [hi] at hS
    simp only [cond_true, Prod.mk.injEq] at hS
    obtain ⟨h2, h3, rfl⟩ := hS
    refine ⟨fun h => by simp at h, fun _ z5 f0 f1 h5 => ⟨fun hq => kk (emailT_no ?_), fun hq z6 g0 g1 h6 => ?_⟩⟩
    · rw [len_gt (n := 254) 254 rfl h5, Bool.not_eq_true'] at hq
      rw [hq]; simp
    · rw [len_gt (n := 254) 254 rfl h5, Bool.not_eq_false'] at hq
      have h6 : z6 = b01 (localb (sOf z2)) := h6
      rw [b01_dec h6, h2]
      refine ⟨fun hl => kk (emailT_no ?_), fun hl z7 i0 i1 h7 => ?_⟩
      · rw [Bool.not_eq_true'] at hl
        rw [hl]; simp
      · rw [Bool.not_eq_false'] at hl
        have h7 : z7 = idx 58 (sOf z3) := h7
        refine ⟨fun hc => kk (emailT_no ?_), fun hc z8 j0 j1 h8 => ?_⟩
        · have hc' : u8 58 ∈ sOf z3 := by
            have := idx_mem (c := 58) (by decide) (by decide) (sOf z3)
            rw [← h7, hc] at this
            simpa using this.symm
          have : hostb (sOf z3) = false := by
            cases hh : hostb (sOf z3) with
            | false => rfl
            | true => exact absurd hc' (hostb_no58 hh)
          rw [← h3, this]; simp
        · have hlt : idx 58 (sOf z3) < 0 := by rw [← h7]; simpa using hc
          have h8 : z8 = b01 ((sOf z3).contains 46) := h8
          rw [b01_dec h8]
          refine ⟨fun hd => kk (emailT_no ?_), fun hd z9 k0 k1 h9 => ?_⟩
          · rw [Bool.not_eq_true'] at hd
            rw [← h3, hd]; simp
          · rw [Bool.not_eq_false'] at hd
            have h9 : z9 = b01 (serverb (sOf z3)) := h9
            rw [b01_dec h9, serverb_host hlt]
            refine ⟨fun hh => kk (emailT_no ?_), fun hh z10 l0 l1 h10 => ?_⟩
            · rw [Bool.not_eq_true'] at hh
              rw [← h3, hh]; simp
            · rw [Bool.not_eq_false'] at hh
              have h10 : sOf z10 = lower (sOf z1) := h10
              refine kse l0 l1 (by decide) (by decide) ?_
              show (sOf z10, (0 : Int)) = emailF (sOf z0)
              unfold emailF emailT
              rw [← h1, hi, hq, hl, ← h3, hh, hd, h10]
              rfl
theorem isR {lo hi : Nat} {z : Int} (h0 : 0 ≤ z) (h1 : z ≤ 255) : (Nat.ble lo (u8 z).toNat && Nat.ble (u8 z).toNat hi) = (decide ((lo : Int) ≤ z) && decide (z ≤ (hi : Int))) := by
  have := u8_toNat h0 h1
  rw [Bool.eq_iff_iff]
  simp [Nat.ble_eq]
  omega
theorem p_small : B_small SB (KBv SB [.bool] 50) := by
  intro z0 a0 a1
  have e := isR (lo := 97) (hi := 122) a0 a1
  have kk : ∀ b : Bool, isS (u8 z0) = b → KBv SB [.bool] 50 [[z0]] [[b01 b]] := fun b h => kb (by show b01 b = b01 (isS (u8 z0)); rw [h])
  refine ⟨fun h => kk _ ?_, fun h => kk false ?_⟩
  · unfold isS; rw [e]; have h : decide (((97 : Nat) : Int) ≤ z0) = true := h; rw [h]; rfl
  · unfold isS; rw [e]; have h : decide (((97 : Nat) : Int) ≤ z0) = false := h; rw [h]; rfl
theorem p_great : B_great SB (KBv SB [.bool] 51) := by
  intro z0 a0 a1
  have e := isR (lo := 65) (hi := 90) a0 a1
  have kk : ∀ b : Bool, isG (u8 z0) = b → KBv SB [.bool] 51 [[z0]] [[b01 b]] := fun b h => kb (by show b01 b = b01 (isG (u8 z0)); rw [h])
  refine ⟨fun h => kk _ ?_, fun h => kk false ?_⟩
  · unfold isG; rw [e]; have h : decide (((65 : Nat) : Int) ≤ z0) = true := h; rw [h]; rfl
  · unfold isG; rw [e]; have h : decide (((65 : Nat) : Int) ≤ z0) = false := h; rw [h]; rfl
theorem p_digit : B_digit SB (KBv SB [.bool] 52) := by
  intro z0 a0 a1
  have e := isR (lo := 48) (hi := 57) a0 a1
  have kk : ∀ b : Bool, isD (u8 z0) = b → KBv SB [.bool] 52 [[z0]] [[b01 b]] := fun b h => kb (by show b01 b = b01 (isD (u8 z0)); rw [h])
  refine ⟨fun h => kk _ ?_, fun h => kk false ?_⟩
  · unfold isD; rw [e]; have h : decide (((48 : Nat) : Int) ≤ z0) = true := h; rw [h]; rfl
  · unfold isD; rw [e]; have h : decide (((48 : Nat) : Int) ≤ z0) = false := h; rw [h]; rfl
theorem two_of {r : List Int} (h : inB (repB 0 HB 2) r) : ∃ a b, r = [a, b] ∧ 0 ≤ a ∧ a ≤ HB ∧ 0 ≤ b ∧ b ≤ HB := by
  match r, h with
  | [a, b], h => exact ⟨a, b, rfl, h.1, h.2.1, h.2.2.1, h.2.2.2.1⟩
theorem less_dec {z a b : Int} (h : z = fnD 5 [a, b]) : decide (z = 1) = Op.bytesLess (sOf a) (sOf b) := by
  rw [h]; simp only [fnD]
  cases Op.bytesLess (sOf a) (sOf b) <;> simp
theorem less_irr : ∀ l : Tx, Op.bytesLess l l = false
  | [] => rfl
  | x :: r => by
    have := less_irr r
    simp [Op.bytesLess, this]
theorem p_less : B_less SB (KBv SB [.bool] 14) := by
  intro r0 h0 r2 h2 z4 a0 a1 h4
  obtain ⟨a, b, rfl, _⟩ := two_of h0
  obtain ⟨c, d, rfl, _⟩ := two_of h2
  have h4 : z4 = fnD 4 [a, c] := h4
  rw [eq_dec h4]
  have kk : ∀ x : Bool, lessF (sOf a) (sOf b) (sOf c) (sOf d) = x → KBv SB [.bool] 14 [[a, b], [c, d]] [[b01 x]] := fun x h => kb (by show b01 x = b01 (lessF (sOf a) (sOf b) (sOf c) (sOf d)); rw [h])
  refine ⟨fun hp z5 b0 b1 h5 => ?_, fun hp z5 b0 b1 h5 => ?_⟩
  · have h5 : z5 = fnD 5 [a, c] := h5
    rw [less_dec h5]
    refine kk _ ?_
    have : ¬ sOf a = sOf c := by simpa using hp
    unfold lessF
    rw [show (sOf a == sOf c) = false by simpa using this]; rfl
  · have h5 : z5 = fnD 5 [b, d] := h5
    rw [less_dec h5]
    refine kk _ ?_
    have : sOf a = sOf c := by simpa using hp
    unfold lessF
    rw [this]; simp
theorem p_rless : B_rless SB (KBv SB [.bool] 21) := by
  intro r0 h0 r2 h2 z4 a0 a1 h4
  obtain ⟨a, b, rfl, _⟩ := two_of h0
  obtain ⟨c, d, rfl, _⟩ := two_of h2
  have h4 : z4 = fnD 5 [a, c] := h4
  rw [less_dec h4]
  have kk : ∀ x : Bool, lessF (sOf a) (sOf b) (sOf c) (sOf d) = x → KBv SB [.bool] 21 [[a, b], [c, d]] [[b01 x]] := fun x h => kb (by show b01 x = b01 (lessF (sOf a) (sOf b) (sOf c) (sOf d)); rw [h])
  refine ⟨fun hp => kk true ?_, fun hp z5 b0 b1 h5 => ?_⟩
  · unfold lessF
    cases he : (sOf a == sOf c) with
    | false => exact hp
    | true => rw [beq_iff_eq] at he; rw [he, less_irr] at hp; cases hp
  · have h5 : z5 = fnD 4 [a, c] := h5
    rw [eq_dec h5]
    refine ⟨fun hq z6 c0 c1 h6 => ?_, fun hq => kk false ?_⟩
    · have h6 : z6 = fnD 5 [b, d] := h6
      rw [less_dec h6]
      refine kk _ ?_
      have : sOf a = sOf c := by simpa using hq
      unfold lessF
      rw [this]; simp
    · have : ¬ sOf a = sOf c := by simpa using hq
      unfold lessF
      rw [show (sOf a == sOf c) = false by simpa using this]; exact hp
end Go.Ad
