/- AdL1: a part of the proof of statements of this seat. -/
import Derived.Test.YtcellhafdgmkjaaDoorAdV4
set_option maxRecDepth 100000
set_option linter.unusedVariables false
set_option linter.unusedSimpArgs false
namespace Go.Ad
open Go Go.Rx
def B_alive (S : Nat → List (List Int) → List (List Int) → Prop) (K : List (List Int) → List (List Int) → Prop) : Prop :=
 
 ∀ z0 : Int, 0 ≤ z0 → z0 ≤ HB → ∀ z1 : Int, 0 ≤ z1 → z1 ≤ 21 → S 10 [[37829880002960280196323984369792489275953]] [[z0], [z1]] →
 chkD 44 [17291, 4084009258727161440354222919033] ∧
 ∀ z2 : Int, 0 ≤ z2 → z2 ≤ HB → ∀ z3 : Int, 0 ≤ z3 → z3 ≤ 21 → S 12 [[17291], [4084009258727161440354222919033]] [[z2], [z3]] →
 chkD 44 [0, 4578806963989427769704693613468473100420959] ∧
 ∀ z4 : Int, 0 ≤ z4 → z4 ≤ HB → ∀ z5 : Int, 0 ≤ z5 → z5 ≤ 21 → S 12 [[0], [4578806963989427769704693613468473100420959]] [[z4], [z5]] →
 (((decide (z1 = 0)) = true →
  (((decide (z3 = 0)) = true →
   (((decide (z5 = 0)) = true →
    ∀ z6 : Int, 0 ≤ z6 → z6 ≤ 1 → z6 = fnD 4 [z0, 147197976665215098040171181284709454416] →
    (((decide (z6 = 1)) = true →
     ∀ z7 : Int, 0 ≤ z7 → z7 ≤ 1 → z7 = fnD 4 [z2, 15891086611461867830497589104] →
     (((decide (z7 = 1)) = true →
      ∀ z8 : Int, 0 ≤ z8 → z8 ≤ 1 → z8 = fnD 4 [z2, z4] →
      K [] [[(cond (decide (z8 = 1)) 1 0)]]
     ) ∧ ((decide (z7 = 1)) = false →
      K [] [[(cond (false) 1 0)]]
     ))
    ) ∧ ((decide (z6 = 1)) = false →
     K [] [[(cond (false) 1 0)]]
    ))
   ) ∧ ((decide (z5 = 0)) = false →
    K [] [[(cond (false) 1 0)]]
   ))
  ) ∧ ((decide (z3 = 0)) = false →
   K [] [[(cond (false) 1 0)]]
  ))
 ) ∧ ((decide (z1 = 0)) = false →
  K [] [[(cond (false) 1 0)]]
 ))
def B_lemails (S : Nat → List (List Int) → List (List Int) → Prop) (K : List (List Int) → List (List Int) → Prop) : Prop :=
 ∀ z0 : Int, 0 ≤ z0 → z0 ≤ HB → 
 ∀ z1 : Int, 0 ≤ z1 → z1 ≤ 1 → S 9 [] [[z1]] →
 ((((!(decide (z1 = 1)))) = true →
  K [[z0]] [[(cond (false) 1 0)]]
 ) ∧ (((!(decide (z1 = 1)))) = false →
  ∀ z2 : Int, 0 ≤ z2 → z2 ≤ 9223372036854775807 → z2 = fnD 0 [z0] →
  (((decide (2000 < z2)) = true →
   K [[z0]] [[(cond (true) 1 0)]]
  ) ∧ ((decide (2000 < z2)) = false →
   ∀ z3 : Int, 0 ≤ z3 → z3 ≤ HB → ∀ z4 : Int, 0 ≤ z4 → z4 ≤ 21 → S 10 [[z0]] [[z3], [z4]] →
   ∀ z5 : Int, 0 ≤ z5 → z5 ≤ HB → ∀ z6 : Int, 0 ≤ z6 → z6 ≤ 21 → S 11 [[z0]] [[z5], [z6]] →
   ∀ z7 : Int, 0 ≤ z7 → z7 ≤ 1 → z7 = fnD 4 [z3, z5] →
   (((decide (z7 = 1)) = true →
    K [[z0]] [[(cond (decide (z4 = z6)) 1 0)]]
   ) ∧ ((decide (z7 = 1)) = false →
    K [[z0]] [[(cond (false) 1 0)]]
   ))
  ))
 ))
def B_lphones (S : Nat → List (List Int) → List (List Int) → Prop) (K : List (List Int) → List (List Int) → Prop) : Prop :=
 ∀ z0 : Int, 0 ≤ z0 → z0 ≤ HB → ∀ z1 : Int, 0 ≤ z1 → z1 ≤ HB → 
 ∀ z2 : Int, 0 ≤ z2 → z2 ≤ 1 → S 9 [] [[z2]] →
 ((((!(decide (z2 = 1)))) = true →
  K [[z0], [z1]] [[(cond (false) 1 0)]]
 ) ∧ (((!(decide (z2 = 1)))) = false →
  ∀ z3 : Int, 0 ≤ z3 → z3 ≤ 9223372036854775807 → z3 = fnD 0 [z1] →
  (((decide (2000 < z3)) = true →
   K [[z0], [z1]] [[(cond (true) 1 0)]]
  ) ∧ ((decide (2000 < z3)) = false →
   chkD 44 [z0, z1] ∧
   ∀ z4 : Int, 0 ≤ z4 → z4 ≤ HB → ∀ z5 : Int, 0 ≤ z5 → z5 ≤ 21 → S 12 [[z0], [z1]] [[z4], [z5]] →
   chkD 44 [z0, z1] ∧
   ∀ z6 : Int, 0 ≤ z6 → z6 ≤ HB → ∀ z7 : Int, 0 ≤ z7 → z7 ≤ 21 → S 13 [[z0], [z1]] [[z6], [z7]] →
   ∀ z8 : Int, 0 ≤ z8 → z8 ≤ 1 → z8 = fnD 4 [z4, z6] →
   (((decide (z8 = 1)) = true →
    K [[z0], [z1]] [[(cond (decide (z5 = z7)) 1 0)]]
   ) ∧ ((decide (z8 = 1)) = false →
    K [[z0], [z1]] [[(cond (false) 1 0)]]
   ))
  ))
 ))
theorem a1 : emailF (sOf 37829880002960280196323984369792489275953) = ([97, 110, 110, 97, 64, 101, 120, 97, 109, 112, 108, 101, 46, 111, 114, 103], 0) := by decide +kernel
theorem a1' : sOf 147197976665215098040171181284709454416 = [97, 110, 110, 97, 64, 101, 120, 97, 109, 112, 108, 101, 46, 111, 114, 103] := by decide +kernel
theorem a2 : phoneF (sOf 17291) (sOf 4084009258727161440354222919033) = ([52, 52, 50, 48, 55, 57, 52, 54, 48, 48, 48, 48], 0) := by decide +kernel
theorem a2' : sOf 15891086611461867830497589104 = [52, 52, 50, 48, 55, 57, 52, 54, 48, 48, 48, 48] := by decide +kernel
theorem a3 : phoneF (sOf 0) (sOf 4578806963989427769704693613468473100420959) = ([52, 52, 50, 48, 55, 57, 52, 54, 48, 48, 48, 48], 0) := by decide +kernel
theorem a2l : (sOf 4084009258727161440354222919033).length ≤ 4294967280 := by decide +kernel
theorem a3l : (sOf 4578806963989427769704693613468473100420959).length ≤ 4294967280 := by decide +kernel
theorem kb1 {id : Nat} {zs : List (List Int)} (h : SB id zs [[1]]) : KBv SB [.bool] id zs [[1]] := ⟨⟨by decide, by decide, trivial⟩, h⟩
theorem p_alive : B_alive SB (KBv SB [.bool] 9) := by
  intro z0 x0 x1 z1 y0 y1 h1
  refine ⟨.inr a2l, fun z2 b0 b1 z3 c0 c1 h2 => ⟨.inr a3l, fun z4 d0 d1 z5 e0 e1 h3 => ?_⟩⟩
  have h1 : (sOf z0, z1) = emailF (sOf 37829880002960280196323984369792489275953) := h1
  have h2 : (sOf z2, z3) = phoneF (sOf 17291) (sOf 4084009258727161440354222919033) := h2
  have h3 : (sOf z4, z5) = phoneF (sOf 0) (sOf 4578806963989427769704693613468473100420959) := h3
  rw [a1, Prod.mk.injEq] at h1
  rw [a2, Prod.mk.injEq] at h2
  rw [a3, Prod.mk.injEq] at h3
  obtain ⟨s1, rfl⟩ := h1
  obtain ⟨s2, rfl⟩ := h2
  obtain ⟨s3, rfl⟩ := h3
  refine ⟨fun _ => ⟨fun _ => ⟨fun _ z6 f0 f1 h6 => ?_, (fun h => by cases h)⟩, (fun h => by cases h)⟩, (fun h => by cases h)⟩
  rw [eq_dec h6, s1, a1']
  refine ⟨fun _ z7 g0 g1 h7 => ?_, fun h => by simp at h⟩
  rw [eq_dec h7, s2, a2']
  refine ⟨fun _ z8 i0 i1 h8 => ?_, fun h => by simp at h⟩
  rw [eq_dec h8, s2, s3]
  have : (cond (decide (([52, 52, 50, 48, 55, 57, 52, 54, 48, 48, 48, 48] : Tx) = [52, 52, 50, 48, 55, 57, 52, 54, 48, 48, 48, 48])) 1 0 : Int) = 1 := by simp
  rw [this]
  exact kb1 rfl
theorem p_lemails : B_lemails SB (KBv SB [.bool] 3) := by
  intro z0 x0 x1 z1 y0 y1 h1
  have h1 : z1 = 1 := h1
  subst h1
  refine ⟨(fun h => by cases h), fun _ z2 b0 b1 h2 => ⟨fun _ => kb1 rfl, fun _ z3 c0 c1 z4 d0 d1 h3 z5 e0 e1 z6 f0 f1 h5 z7 g0 g1 h7 => ?_⟩⟩
  have h3 : (sOf z3, z4) = emailF (sOf z0) := h3
  have h5 : (sOf z5, z6) = emailF (sOf z0) := h5
  have e := h3.trans h5.symm
  simp only [Prod.mk.injEq] at e
  obtain ⟨e1, rfl⟩ := e
  rw [eq_dec h7, e1]
  refine ⟨fun _ => ?_, fun h => by simp at h⟩
  rw [show (cond (decide (z4 = z4)) 1 0 : Int) = 1 by simp]
  exact kb1 rfl
theorem p_lphones : B_lphones SB (KBv SB [.bool] 4) := by
  intro z0 x0 x1 z1 y0 y1 z2 w0 w1 h1
  have h1 : z2 = 1 := h1
  subst h1
  refine ⟨(fun h => by cases h), fun _ z3 b0 b1 h2 => ⟨fun _ => kb1 rfl, fun hlen => ?_⟩⟩
  have hl : (sOf z1).length ≤ 4294967280 := by
    simp only [fnD] at h2
    have : ¬ 2000 < z3 := by simpa using hlen
    omega
  refine ⟨.inr hl, fun z4 c0 c1 z5 d0 d1 h3 => ⟨.inr hl, fun z6 e0 e1 z7 f0 f1 h5 z8 g0 g1 h7 => ?_⟩⟩
  have h3 : (sOf z4, z5) = phoneF (sOf z0) (sOf z1) := h3
  have h5 : (sOf z6, z7) = phoneF (sOf z0) (sOf z1) := h5
  have e := h3.trans h5.symm
  simp only [Prod.mk.injEq] at e
  obtain ⟨e1, rfl⟩ := e
  rw [eq_dec h7, e1]
  refine ⟨fun _ => ?_, fun h => by simp at h⟩
  rw [show (cond (decide (z5 = z5)) 1 0 : Int) = 1 by simp]
  exact kb1 rfl
def B_lorder (S : Nat → List (List Int) → List (List Int) → Prop) (K : List (List Int) → List (List Int) → Prop) : Prop :=
 ∀ r0 : List Int, inB (repB 0 HB 2) r0 → ∀ r2 : List Int, inB (repB 0 HB 2) r2 → ∀ r4 : List Int, inB (repB 0 HB 2) r4 → 
 ∀ z6 : Int, 0 ≤ z6 → z6 ≤ 1 → S 9 [] [[z6]] →
 ((((!(decide (z6 = 1)))) = true →
  K [r0, r2, r4] [[(cond (false) 1 0)]]
 ) ∧ (((!(decide (z6 = 1)))) = false →
  ∀ z7 : Int, 0 ≤ z7 → z7 ≤ 9223372036854775807 → z7 = fnD 0 [(List.getD r0 1 0)] →
  (((decide (2000 < z7)) = true →
   K [r0, r2, r4] [[(cond (true) 1 0)]]
  ) ∧ ((decide (2000 < z7)) = false →
   ∀ z8 : Int, 0 ≤ z8 → z8 ≤ 9223372036854775807 → z8 = fnD 0 [(List.getD r2 1 0)] →
   (((decide (2000 < z8)) = true →
    K [r0, r2, r4] [[(cond (true) 1 0)]]
   ) ∧ ((decide (2000 < z8)) = false →
    ∀ z9 : Int, 0 ≤ z9 → z9 ≤ 9223372036854775807 → z9 = fnD 0 [(List.getD r4 1 0)] →
    (((decide (2000 < z9)) = true →
     K [r0, r2, r4] [[(cond (true) 1 0)]]
    ) ∧ ((decide (2000 < z9)) = false →
     ∀ z10 : Int, 0 ≤ z10 → z10 ≤ 1 → S 14 [r0, r2] [[z10]] →
     (((decide (z10 = 1)) = true →
      ∀ z11 : Int, 0 ≤ z11 → z11 ≤ 1 → S 14 [r2, r0] [[z11]] →
      (((decide (z11 = 1)) = true →
       ∀ z12 : Int, 0 ≤ z12 → z12 ≤ 1 → z12 = fnD 4 [(List.getD r0 0 0), (List.getD r2 0 0)] →
       ∀ z13 : Int, 0 ≤ z13 → z13 ≤ 1 → z13 = fnD 4 [(List.getD r0 1 0), (List.getD r2 1 0)] →
       (((decide ([z12, z13] = [1, 1])) = true →
        K [r0, r2, r4] [[(cond (false) 1 0)]]
       ) ∧ ((decide ([z12, z13] = [1, 1])) = false →
        K [r0, r2, r4] [[(cond (false) 1 0)]]
       ))
      ) ∧ ((decide (z11 = 1)) = false →
       ∀ z12 : Int, 0 ≤ z12 → z12 ≤ 1 → z12 = fnD 4 [(List.getD r0 0 0), (List.getD r2 0 0)] →
       ∀ z13 : Int, 0 ≤ z13 → z13 ≤ 1 → z13 = fnD 4 [(List.getD r0 1 0), (List.getD r2 1 0)] →
       (((decide ([z12, z13] = [1, 1])) = true →
        K [r0, r2, r4] [[(cond (false) 1 0)]]
       ) ∧ ((decide ([z12, z13] = [1, 1])) = false →
        ∀ z14 : Int, 0 ≤ z14 → z14 ≤ 1 → S 14 [r0, r2] [[z14]] →
        ((((!(decide (z14 = 1)))) = true →
         K [r0, r2, r4] [[(cond (true) 1 0)]]
        ) ∧ (((!(decide (z14 = 1)))) = false →
         ∀ z15 : Int, 0 ≤ z15 → z15 ≤ 1 → S 14 [r2, r4] [[z15]] →
         ((((!(decide (z15 = 1)))) = true →
          K [r0, r2, r4] [[(cond (true) 1 0)]]
         ) ∧ (((!(decide (z15 = 1)))) = false →
          ∀ z16 : Int, 0 ≤ z16 → z16 ≤ 1 → S 14 [r0, r4] [[z16]] →
          K [r0, r2, r4] [[(cond (decide (z16 = 1)) 1 0)]]
         ))
        ))
       ))
      ))
     ) ∧ ((decide (z10 = 1)) = false →
      ∀ z11 : Int, 0 ≤ z11 → z11 ≤ 1 → S 14 [r2, r0] [[z11]] →
      (((decide (z11 = 1)) = true →
       ∀ z12 : Int, 0 ≤ z12 → z12 ≤ 1 → z12 = fnD 4 [(List.getD r0 0 0), (List.getD r2 0 0)] →
       ∀ z13 : Int, 0 ≤ z13 → z13 ≤ 1 → z13 = fnD 4 [(List.getD r0 1 0), (List.getD r2 1 0)] →
       (((decide ([z12, z13] = [1, 1])) = true →
        K [r0, r2, r4] [[(cond (false) 1 0)]]
       ) ∧ ((decide ([z12, z13] = [1, 1])) = false →
        ∀ z14 : Int, 0 ≤ z14 → z14 ≤ 1 → S 14 [r0, r2] [[z14]] →
        ((((!(decide (z14 = 1)))) = true →
         K [r0, r2, r4] [[(cond (true) 1 0)]]
        ) ∧ (((!(decide (z14 = 1)))) = false →
         ∀ z15 : Int, 0 ≤ z15 → z15 ≤ 1 → S 14 [r2, r4] [[z15]] →
         ((((!(decide (z15 = 1)))) = true →
          K [r0, r2, r4] [[(cond (true) 1 0)]]
         ) ∧ (((!(decide (z15 = 1)))) = false →
          ∀ z16 : Int, 0 ≤ z16 → z16 ≤ 1 → S 14 [r0, r4] [[z16]] →
          K [r0, r2, r4] [[(cond (decide (z16 = 1)) 1 0)]]
         ))
        ))
       ))
      ) ∧ ((decide (z11 = 1)) = false →
       ∀ z12 : Int, 0 ≤ z12 → z12 ≤ 1 → z12 = fnD 4 [(List.getD r0 0 0), (List.getD r2 0 0)] →
       ∀ z13 : Int, 0 ≤ z13 → z13 ≤ 1 → z13 = fnD 4 [(List.getD r0 1 0), (List.getD r2 1 0)] →
       (((decide ([z12, z13] = [1, 1])) = true →
        ∀ z14 : Int, 0 ≤ z14 → z14 ≤ 1 → S 14 [r0, r2] [[z14]] →
        ((((!(decide (z14 = 1)))) = true →
         K [r0, r2, r4] [[(cond (true) 1 0)]]
        ) ∧ (((!(decide (z14 = 1)))) = false →
         ∀ z15 : Int, 0 ≤ z15 → z15 ≤ 1 → S 14 [r2, r4] [[z15]] →
         ((((!(decide (z15 = 1)))) = true →
          K [r0, r2, r4] [[(cond (true) 1 0)]]
         ) ∧ (((!(decide (z15 = 1)))) = false →
          ∀ z16 : Int, 0 ≤ z16 → z16 ≤ 1 → S 14 [r0, r4] [[z16]] →
          K [r0, r2, r4] [[(cond (decide (z16 = 1)) 1 0)]]
         ))
        ))
       ) ∧ ((decide ([z12, z13] = [1, 1])) = false →
        K [r0, r2, r4] [[(cond (false) 1 0)]]
       ))
      ))
     ))
    ))
   ))
  ))
 ))
theorem less_cons (a b : UInt8) (x y : Tx) : Op.bytesLess (a :: x) (b :: y) = true ↔ a.toNat < b.toNat ∨ (a = b ∧ Op.bytesLess x y = true) := by
  simp only [Op.bytesLess, Bool.or_eq_true, Bool.and_eq_true, beq_iff_eq, decide_eq_true_eq, UInt8.lt_iff_toNat_lt]
theorem less_nil (x : Tx) : Op.bytesLess x [] = false := by cases x <;> rfl
theorem less_asym : ∀ x y : Tx, Op.bytesLess x y = true → Op.bytesLess y x = true → False
  | x, [], h, _ => by rw [less_nil] at h; cases h
  | [], _ :: _, _, h => by cases h
  | a :: x, b :: y, h, h' => by
    rw [less_cons] at h h'
    rcases h with h | ⟨rfl, h⟩
    · rcases h' with h' | ⟨e, _⟩
      · omega
      · rw [e] at h; omega
    · rcases h' with h' | ⟨_, h'⟩
      · omega
      · exact less_asym x y h h'
theorem less_tot : ∀ x y : Tx, Op.bytesLess x y = true ∨ Op.bytesLess y x = true ∨ x = y
  | [], [] => .inr (.inr rfl)
  | [], _ :: _ => .inl rfl
  | _ :: _, [] => .inr (.inl rfl)
  | a :: x, b :: y => by
    rw [less_cons, less_cons]
    rcases Nat.lt_trichotomy a.toNat b.toNat with h | h | h
    · exact .inl (.inl h)
    · have e : a = b := UInt8.toNat_inj.1 h
      subst e
      rcases less_tot x y with h | h | h
      · exact .inl (.inr ⟨rfl, h⟩)
      · exact .inr (.inl (.inr ⟨rfl, h⟩))
      · exact .inr (.inr (by rw [h]))
    · exact .inr (.inl (.inl h))
theorem less_trans : ∀ x y z : Tx, Op.bytesLess x y = true → Op.bytesLess y z = true → Op.bytesLess x z = true
  | _, [], _, h, _ => by rw [less_nil] at h; cases h
  | _, _ :: _, [], _, h => by rw [less_nil] at h; cases h
  | [], _ :: _, _ :: _, _, _ => rfl
  | a :: x, b :: y, c :: z, h, h' => by
    rw [less_cons] at h h' ⊢
    rcases h with h | ⟨rfl, h⟩
    · rcases h' with h' | ⟨rfl, _⟩
      · exact .inl (by omega)
      · exact .inl h
    · rcases h' with h' | ⟨rfl, h'⟩
      · exact .inl h'
      · exact .inr ⟨rfl, less_trans x y z h h'⟩
theorem lessF_iff (a b c d : Tx) : lessF a b c d = true ↔ Op.bytesLess a c = true ∨ (a = c ∧ Op.bytesLess b d = true) := by
  unfold lessF
  by_cases h : a = c
  · subst h; simp [less_irr]
  · rw [show (a == c) = false by simpa using h]; simp [h]
theorem lessF_asym {a b c d : Tx} (h : lessF a b c d = true) (h' : lessF c d a b = true) : False := by
  rw [lessF_iff] at h h'
  rcases h with h | ⟨rfl, h⟩
  · rcases h' with h' | ⟨rfl, _⟩
    · exact less_asym _ _ h h'
    · rw [less_irr] at h; cases h
  · rcases h' with h' | ⟨_, h'⟩
    · rw [less_irr] at h'; cases h'
    · exact less_asym _ _ h h'
theorem lessF_tot (a b c d : Tx) : lessF a b c d = true ∨ lessF c d a b = true ∨ (a = c ∧ b = d) := by
  rw [lessF_iff, lessF_iff]
  rcases less_tot a c with h | h | rfl
  · exact .inl (.inl h)
  · exact .inr (.inl (.inl h))
  · rcases less_tot b d with h | h | rfl
    · exact .inl (.inr ⟨rfl, h⟩)
    · exact .inr (.inl (.inr ⟨rfl, h⟩))
    · exact .inr (.inr ⟨rfl, rfl⟩)
theorem lessF_trans {a b c d e f : Tx} (h : lessF a b c d = true) (h' : lessF c d e f = true) : lessF a b e f = true := by
  rw [lessF_iff] at h h' ⊢
  rcases h with h | ⟨rfl, h⟩
  · rcases h' with h' | ⟨rfl, _⟩
    · exact .inl (less_trans _ _ _ h h')
    · exact .inl h
  · rcases h' with h' | ⟨rfl, h'⟩
    · exact .inl h'
    · exact .inr ⟨rfl, less_trans _ _ _ h h'⟩
theorem lessF_irr (a b : Tx) : lessF a b a b = false := by
  cases h : lessF a b a b with
  | false => rfl
  | true => exact (lessF_asym h h).elim
theorem pair_dec {a b c d z w : Int} (h : z = fnD 4 [a, c]) (h' : w = fnD 4 [b, d]) : decide ([z, w] = [1, 1]) = decide (sOf a = sOf c ∧ sOf b = sOf d) := by
  have e := eq_dec h
  have e' := eq_dec h'
  have i : z = 1 ↔ sOf a = sOf c := by rw [← decide_eq_true_eq (p := z = 1), e, decide_eq_true_eq]
  have i' : w = 1 ↔ sOf b = sOf d := by rw [← decide_eq_true_eq (p := w = 1), e', decide_eq_true_eq]
  rw [Bool.eq_iff_iff, decide_eq_true_eq, decide_eq_true_eq]
  simp only [List.cons.injEq, and_true, i, i']
theorem p_lorder : B_lorder SB (KBv SB [.bool] 6) := by
  intro r0 h0 r2 h2 r4 h4 z6 a0 a1 hA
  obtain ⟨a, b, rfl, _⟩ := two_of h0
  obtain ⟨c, d, rfl, _⟩ := two_of h2
  obtain ⟨e, f, rfl, _⟩ := two_of h4
  have hA : z6 = 1 := hA
  subst hA
  have ok : KBv SB [.bool] 6 [[a, b], [c, d], [e, f]] [[1]] := kb1 rfl
  refine ⟨(fun h => by cases h), fun _ z7 b0 b1 h7 => ⟨fun _ => ok, fun _ z8 c0 c1 h8 => ⟨fun _ => ok, fun _ z9 d0 d1 h9 => ⟨fun _ => ok, fun _ z10 e0 e1 h10 => ?_⟩⟩⟩⟩
  have h10 : z10 = b01 (lessF (sOf a) (sOf b) (sOf c) (sOf d)) := h10
  have tail : ∀ z14 : Int, 0 ≤ z14 → z14 ≤ 1 → SB 14 [[a, b], [c, d]] [[z14]] →
        ((((!(decide (z14 = 1)))) = true →
         KBv SB [.bool] 6 [[a, b], [c, d], [e, f]] [[1]]
        ) ∧ (((!(decide (z14 = 1)))) = false →
         ∀ z15 : Int, 0 ≤ z15 → z15 ≤ 1 → SB 14 [[c, d], [e, f]] [[z15]] →
         ((((!(decide (z15 = 1)))) = true →
          KBv SB [.bool] 6 [[a, b], [c, d], [e, f]] [[1]]
         ) ∧ (((!(decide (z15 = 1)))) = false →
          ∀ z16 : Int, 0 ≤ z16 → z16 ≤ 1 → SB 14 [[a, b], [e, f]] [[z16]] →
          KBv SB [.bool] 6 [[a, b], [c, d], [e, f]] [[(cond (decide (z16 = 1)) 1 0)]]
         ))
        )) := fun z14 f0 f1 h14 => ⟨fun _ => ok, fun hx z15 g0 g1 h15 => ⟨fun _ => ok, fun hy z16 i0 i1 h16 => by
      have h14 : z14 = b01 (lessF (sOf a) (sOf b) (sOf c) (sOf d)) := h14
      have h15 : z15 = b01 (lessF (sOf c) (sOf d) (sOf e) (sOf f)) := h15
      have h16 : z16 = b01 (lessF (sOf a) (sOf b) (sOf e) (sOf f)) := h16
      rw [b01_dec h14, Bool.not_eq_false'] at hx
      rw [b01_dec h15, Bool.not_eq_false'] at hy
      rw [b01_dec h16, lessF_trans hx hy]
      exact ok⟩⟩
  rw [b01_dec h10]
  refine ⟨fun hl z11 f0 f1 h11 => ?_, fun hl z11 f0 f1 h11 => ?_⟩
  · have h11 : z11 = b01 (lessF (sOf c) (sOf d) (sOf a) (sOf b)) := h11
    rw [b01_dec h11]
    refine ⟨fun hm => (lessF_asym hl hm).elim, fun hm z12 g0 g1 h12 z13 i0 i1 h13 => ?_⟩
    have h12 : z12 = fnD 4 [a, c] := h12
    have h13 : z13 = fnD 4 [b, d] := h13
    rw [pair_dec h12 h13]
    refine ⟨fun he => ?_, fun _ => tail⟩
    have he := of_decide_eq_true he
    rw [he.1, he.2, lessF_irr] at hl
    cases hl
  · have h11 : z11 = b01 (lessF (sOf c) (sOf d) (sOf a) (sOf b)) := h11
    rw [b01_dec h11]
    refine ⟨fun hm z12 g0 g1 h12 z13 i0 i1 h13 => ?_, fun hm z12 g0 g1 h12 z13 i0 i1 h13 => ?_⟩
    · have h12 : z12 = fnD 4 [a, c] := h12
      have h13 : z13 = fnD 4 [b, d] := h13
      rw [pair_dec h12 h13]
      refine ⟨fun he => ?_, fun _ => tail⟩
      have he := of_decide_eq_true he
      rw [he.1, he.2, lessF_irr] at hm
      cases hm
    · have h12 : z12 = fnD 4 [a, c] := h12
      have h13 : z13 = fnD 4 [b, d] := h13
      rw [pair_dec h12 h13]
      refine ⟨fun _ => tail, fun he => ?_⟩
      have he := of_decide_eq_false he
      rcases lessF_tot (sOf a) (sOf b) (sOf c) (sOf d) with h | h | h
      · rw [h] at hl; cases hl
      · rw [h] at hm; cases hm
      · exact absurd h he
def B_lone (S : Nat → List (List Int) → List (List Int) → Prop) (K : List (List Int) → List (List Int) → Prop) : Prop :=
 ∀ z0 : Int, 0 ≤ z0 → z0 ≤ HB → ∀ z1 : Int, 0 ≤ z1 → z1 ≤ HB → 
 ∀ z2 : Int, 0 ≤ z2 → z2 ≤ 1 → S 9 [] [[z2]] →
 ((((!(decide (z2 = 1)))) = true →
  K [[z0], [z1]] [[(cond (false) 1 0)]]
 ) ∧ (((!(decide (z2 = 1)))) = false →
  ∀ z3 : Int, 0 ≤ z3 → z3 ≤ 9223372036854775807 → z3 = fnD 0 [z1] →
  (((decide (2000 < z3)) = true →
   K [[z0], [z1]] [[(cond (true) 1 0)]]
  ) ∧ ((decide (2000 < z3)) = false →
   ∀ r4 : List Int, inB (repB 0 HB 2) r4 → ∀ z6 : Int, 0 ≤ z6 → z6 ≤ 21 → S 15 [[z0], [z1]] [r4, [z6]] →
   ((((!(decide (z6 = 0)))) = true →
    ∀ z7 : Int, 0 ≤ z7 → z7 ≤ 1 → z7 = fnD 4 [(List.getD r4 0 0), 0] →
    ∀ z8 : Int, 0 ≤ z8 → z8 ≤ 1 → z8 = fnD 4 [(List.getD r4 1 0), 0] →
    K [[z0], [z1]] [[(cond (decide ([z7, z8] = [1, 1])) 1 0)]]
   ) ∧ (((!(decide (z6 = 0)))) = false →
    ∀ r7 : List Int, inB (repB 0 HB 2) r7 → ∀ z9 : Int, 0 ≤ z9 → z9 ≤ 21 → S 15 [[(List.getD r4 0 0)], [(List.getD r4 1 0)]] [r7, [z9]] →
    ((((!(decide (z9 = 0)))) = true →
     K [[z0], [z1]] [[(cond (false) 1 0)]]
    ) ∧ (((!(decide (z9 = 0)))) = false →
     ∀ z10 : Int, 0 ≤ z10 → z10 ≤ 1 → z10 = fnD 4 [(List.getD r4 0 0), (List.getD r7 0 0)] →
     ∀ z11 : Int, 0 ≤ z11 → z11 ≤ 1 → z11 = fnD 4 [(List.getD r4 1 0), (List.getD r7 1 0)] →
     ((((!(decide ([z10, z11] = [1, 1])))) = true →
      K [[z0], [z1]] [[(cond (false) 1 0)]]
     ) ∧ (((!(decide ([z10, z11] = [1, 1])))) = false →
      ∀ z12 : Int, 0 ≤ z12 → z12 ≤ 1 → S 16 [r4] [[z12]] →
      ((((!(decide (z12 = 1)))) = true →
       K [[z0], [z1]] [[(cond (false) 1 0)]]
      ) ∧ (((!(decide (z12 = 1)))) = false →
       ∀ z13 : Int, 0 ≤ z13 → z13 ≤ 1 → z13 = fnD 4 [z0, 477315081741] →
       (((decide (z13 = 1)) = true →
        ∀ z14 : Int, 0 ≤ z14 → z14 ≤ HB → S 17 [[z1]] [[z14]] →
        chkD 3 [8514, z14] ∧
        ∀ z15 : Int, 0 ≤ z15 → z15 ≤ HB → z15 = fnD 3 [8514, z14] →
        chkD 3 [z15, 33] ∧
        ∀ z16 : Int, 0 ≤ z16 → z16 ≤ HB → z16 = fnD 3 [z15, 33] →
        ∀ r17 : List Int, inB (repB 0 HB 2) r17 → ∀ z19 : Int, 0 ≤ z19 → z19 ≤ 21 → S 15 [[z0], [z16]] [r17, [z19]] →
        (((decide (z19 = 0)) = true →
         ∀ z20 : Int, 0 ≤ z20 → z20 ≤ 1 → z20 = fnD 4 [(List.getD r17 0 0), (List.getD r4 0 0)] →
         ∀ z21 : Int, 0 ≤ z21 → z21 ≤ 1 → z21 = fnD 4 [(List.getD r17 1 0), (List.getD r4 1 0)] →
         K [[z0], [z1]] [[(cond (decide ([z20, z21] = [1, 1])) 1 0)]]
        ) ∧ ((decide (z19 = 0)) = false →
         K [[z0], [z1]] [[(cond (false) 1 0)]]
        ))
       ) ∧ ((decide (z13 = 1)) = false →
        ∃ (I14 : List (List Int) → Prop) (μ14 : List (List Int) → Nat), I14 [[10581], [0]] ∧ (∀ z15 : Int, 0 ≤ z15 → z15 ≤ HB → ∀ z16 : Int, 0 ≤ z16 → z16 ≤ 9223372036854775807 → I14 [[z15], [z16]] →
         ∀ z17 : Int, 0 ≤ z17 → z17 ≤ 9223372036854775807 → z17 = fnD 0 [(List.getD r4 1 0)] →
         (((decide (z16 < z17)) = true →
          ∀ z18 : Int, 0 ≤ z18 → z18 ≤ 1 → 0 ≤ (z16 + 9223372036854775809) - 18446744073709551616 * z18 → (z16 + 9223372036854775809) - 18446744073709551616 * z18 < 18446744073709551616 →
          chkD 2 [(List.getD r4 1 0), z16, ((z16 + ((-18446744073709551616) * z18)) + 1)] ∧
          ∀ z19 : Int, 0 ≤ z19 → z19 ≤ HB → z19 = fnD 2 [(List.getD r4 1 0), z16, ((z16 + ((-18446744073709551616) * z18)) + 1)] →
          chkD 3 [z15, z19] ∧
          ∀ z20 : Int, 0 ≤ z20 → z20 ≤ HB → z20 = fnD 3 [z15, z19] →
          ∀ z21 : Int, 0 ≤ z21 → z21 ≤ 1844674407370955161 → 0 ≤ z16 - 5 * z21 → z16 - 5 * z21 < 5 →
          ∀ z22 : Int, 0 ≤ z22 → z22 ≤ 1844674407370955161 → 0 ≤ z16 - 5 * z22 → z16 - 5 * z22 < 5 →
          chkD 2 [179577269713, (z16 + ((-5) * z21)), ((z16 + ((-5) * z22)) + 1)] ∧
          ∀ z23 : Int, 0 ≤ z23 → z23 ≤ HB → z23 = fnD 2 [179577269713, (z16 + ((-5) * z21)), ((z16 + ((-5) * z22)) + 1)] →
          chkD 3 [z20, z23] ∧
          ∀ z24 : Int, 0 ≤ z24 → z24 ≤ HB → z24 = fnD 3 [z20, z23] →
          ∀ z25 : Int, 0 ≤ z25 → z25 ≤ 1 → 0 ≤ (z16 + 9223372036854775809) - 18446744073709551616 * z25 → (z16 + 9223372036854775809) - 18446744073709551616 * z25 < 18446744073709551616 →
          chkD 39 [((z16 + ((-18446744073709551616) * z25)) + 1), 0, 9223372036854775807] ∧
          (I14 [[z24], [((z16 + ((-18446744073709551616) * z25)) + 1)]] ∧ μ14 [[z24], [((z16 + ((-18446744073709551616) * z25)) + 1)]] < μ14 [[z15], [z16]])
         ) ∧ ((decide (z16 < z17)) = false →
          ∀ r18 : List Int, inB (repB 0 HB 2) r18 → ∀ z20 : Int, 0 ≤ z20 → z20 ≤ 21 → S 15 [[z0], [z15]] [r18, [z20]] →
          (((decide (z20 = 0)) = true →
           ∀ z21 : Int, 0 ≤ z21 → z21 ≤ 1 → z21 = fnD 4 [(List.getD r18 0 0), (List.getD r4 0 0)] →
           ∀ z22 : Int, 0 ≤ z22 → z22 ≤ 1 → z22 = fnD 4 [(List.getD r18 1 0), (List.getD r4 1 0)] →
           K [[z0], [z1]] [[(cond (decide ([z21, z22] = [1, 1])) 1 0)]]
          ) ∧ ((decide (z20 = 0)) = false →
           K [[z0], [z1]] [[(cond (false) 1 0)]]
          ))
         ))
        )
       ))
      ))
     ))
    ))
   ))
  ))
 ))
/-! ### What is in one way stays as it is -/
theorem b256 {q : UInt8 → Bool} (h : ((List.range 256).all fun i => q (UInt8.ofNat i)) = true) (c : UInt8) : q c = true := by
  have h2 := List.all_eq_true.1 h c.toNat (List.mem_range.2 c.toNat_lt)
  simpa using h2
theorem lo_lo (c : UInt8) : lo (lo c) = lo c := by
  have := b256 (q := fun c => lo (lo c) == lo c) (by decide +kernel) c
  simpa using this
theorem lo_inHost (c : UInt8) : inHost (lo c) = inHost c := by
  have := b256 (q := fun c => inHost (lo c) == inHost c) (by decide +kernel) c
  simpa using this
theorem lo_inLocal (c : UInt8) : inLocal (lo c) = inLocal c := by
  have := b256 (q := fun c => inLocal (lo c) == inLocal c) (by decide +kernel) c
  simpa using this
theorem lo_edge (c : UInt8) : edgeH (lo c) = edgeH c := by
  have := b256 (q := fun c => edgeH (lo c) == edgeH c) (by decide +kernel) c
  simpa using this
theorem lo_k {k : UInt8} (h : ((List.range 256).all fun i => (lo (UInt8.ofNat i) == k) == (UInt8.ofNat i == k)) = true) (c : UInt8) : (lo c == k) = (c == k) := by
  have := b256 (q := fun c => (lo c == k) == (c == k)) h c
  simpa using this
theorem lo_46 (c : UInt8) : (lo c == 46) = (c == 46) := lo_k (by decide +kernel) c
theorem lo_64 (c : UInt8) : (lo c == 64) = (c == 64) := lo_k (by decide +kernel) c
theorem lo_32 (c : UInt8) : (lo c == 32) = (c == 32) := lo_k (by decide +kernel) c
theorem lower_len (s : Tx) : (lower s).length = s.length := by simp [lower]
theorem lower_lower (s : Tx) : lower (lower s) = lower s := by simp [lower, Function.comp_def, lo_lo]
theorem lower_get (s : Tx) (i : Nat) : (lower s).getD i 0 = lo (s.getD i 0) := by
  unfold lower
  simp only [List.getD, List.getElem?_map]
  cases s[i]? <;> rfl
theorem lower_okP {inn edge : UInt8 → Bool} (h1 : ∀ c, inn (lo c) = inn c) (h2 : ∀ c, edge (lo c) = edge c) (s : Tx) : okP inn edge (lower s) = okP inn edge s := by
  unfold okP
  rw [lower_len]
  congr 1
  funext i
  rw [lower_get, lower_get, h1, h2, lo_46, lo_46]
theorem lower_localb (s : Tx) : localb (lower s) = localb s := by unfold localb; rw [lower_len, lower_okP lo_inLocal lo_46]
theorem lower_hostb (s : Tx) : hostb (lower s) = hostb s := by unfold hostb; rw [lower_len, lower_okP lo_inHost lo_edge]
theorem lower_take (s : Tx) (n : Nat) : (lower s).take n = lower (s.take n) := by simp [lower, List.map_take]
theorem lower_drop (s : Tx) (n : Nat) : (lower s).drop n = lower (s.drop n) := by simp [lower, List.map_drop]
theorem lower_has46 (s : Tx) : (lower s).contains 46 = s.contains 46 := by
  unfold lower
  induction s with
  | nil => rfl
  | cons c r ih =>
    rw [List.map_cons, List.contains_cons, List.contains_cons, ih]
    congr 1
    have := lo_46 c
    rw [Bool.eq_iff_iff] at this ⊢
    simp only [beq_iff_eq] at this ⊢
    exact ⟨fun h => (this.1 h.symm).symm, fun h => (this.2 h.symm).symm⟩
theorem lower_idx (s : Tx) : idx 64 (lower s) = idx 64 s := by
  induction s with
  | nil => rfl
  | cons c r ih =>
    have e : lower (c :: r) = lo c :: lower r := rfl
    rw [e]
    have h1 := u8_eq (b := lo c) (z := 64) (by decide) (by decide)
    have h2 := u8_eq (b := c) (z := 64) (by decide) (by decide)
    have h3 := lo_64 c
    have e64 : u8 64 = 64 := by decide
    rw [e64, h3] at h1
    rw [e64] at h2
    unfold idx
    rw [ih]
    by_cases hc : (c.toNat : Int) = 64
    · rw [if_pos hc, if_pos (h1.2 (h2.1 hc))]
    · rw [if_neg hc, if_neg (fun h => hc (h2.2 (h1.1 h)))]
theorem emailT_lower (t : Tx) : emailT (lower t) = emailT t := by
  unfold emailT
  rw [lower_idx, lower_len, lower_take, lower_drop, lower_localb, lower_hostb, lower_has46, lower_lower]
theorem lower_ltr (p : UInt8 → Bool) (hp : ∀ c, p (lo c) = p c) (s : Tx) : ltr p (lower s) = lower (ltr p s) := by
  unfold ltr lower
  induction s with
  | nil => rfl
  | cons c r ih =>
    rw [List.map_cons, List.dropWhile_cons, List.dropWhile_cons, hp]
    split
    · exact ih
    · rfl
theorem lower_rtr (p : UInt8 → Bool) (hp : ∀ c, p (lo c) = p c) (s : Tx) : rtr p (lower s) = lower (rtr p s) := by
  unfold rtr
  have e : (lower s).reverse = lower s.reverse := by simp [lower, List.map_reverse]
  rw [e]
  have := lower_ltr p hp s.reverse
  unfold ltr at this
  rw [this]
  simp [lower, List.map_reverse]
theorem lower_trimS (s : Tx) : trimS (· == 32) (lower s) = lower (trimS (· == 32) s) := by
  unfold trimS; rw [lower_rtr _ lo_32, lower_ltr _ lo_32]
theorem ltr_head (p : UInt8 → Bool) : ∀ (s r : Tx) (x : UInt8), ltr p s = x :: r → p x = false
  | [], _, _, h => by simp [ltr] at h
  | c :: s, r, x, h => by
    unfold ltr at h
    rw [List.dropWhile_cons] at h
    split at h
    · exact ltr_head p s r x h
    · rename_i hc
      simp only [List.cons.injEq] at h
      rw [← h.1]; simpa using hc
theorem ltr_ltr (p : UInt8 → Bool) (s : Tx) : ltr p (ltr p s) = ltr p s := by
  cases h : ltr p s with
  | nil => rfl
  | cons x r =>
    have := ltr_head p s r x h
    unfold ltr; rw [List.dropWhile_cons]; simp [this]
theorem rtr_rtr (p : UInt8 → Bool) (s : Tx) : rtr p (rtr p s) = rtr p s := by
  have := ltr_ltr p s.reverse
  unfold ltr at this
  unfold rtr; rw [List.reverse_reverse, this]
theorem trimS_trimS (p : UInt8 → Bool) (s : Tx) : trimS p (trimS p s) = trimS p s := by
  unfold trimS
  rw [rtr_ltr, rtr_rtr, ltr_ltr]
theorem emailF_lower (w : Tx) : emailF (lower w) = emailF w := by
  unfold emailF; rw [lower_trimS, emailT_lower]
theorem emailT_ok {t b : Tx} (h : emailT t = (b, 0)) : b = lower t := by
  unfold emailT at h
  cases hb : (decide (0 ≤ idx 64 t) && Nat.ble t.length 254 && localb (t.take (idx 64 t).toNat) && hostb (t.drop ((idx 64 t).toNat + 1)) && (t.drop ((idx 64 t).toNat + 1)).contains 46) with
  | true => rw [hb] at h; simp only [cond_true, Prod.mk.injEq] at h; exact h.1.symm
  | false => rw [hb] at h; simp at h
theorem emailF_ok {w b : Tx} (h : emailF w = (b, 0)) : emailF b = (b, 0) := by
  have hb := emailT_ok h
  unfold emailF at h ⊢
  rw [hb, lower_trimS, trimS_trimS, emailT_lower, ← hb]
  exact h
theorem ltr_pad (p : UInt8 → Bool) (a x : Tx) (h : a.all p = true) : ltr p (a ++ x) = ltr p x := by
  induction a with
  | nil => rfl
  | cons c r ih =>
    simp only [List.all_cons, Bool.and_eq_true] at h
    unfold ltr at ih ⊢
    rw [List.cons_append, List.dropWhile_cons, if_pos h.1, ih h.2]
theorem rtr_pad (p : UInt8 → Bool) (a x : Tx) (h : a.all p = true) : rtr p (x ++ a) = rtr p x := by
  have := ltr_pad p a.reverse x.reverse (by rw [List.all_reverse]; exact h)
  unfold ltr at this
  unfold rtr; rw [List.reverse_append, this]
theorem trimS_pad (p : UInt8 → Bool) (a x b : Tx) (ha : a.all p = true) (hb : b.all p = true) : trimS p (a ++ x ++ b) = trimS p x := by
  unfold trimS
  rw [rtr_pad p b (a ++ x) hb, ← rtr_ltr, ltr_pad p a x ha, rtr_ltr]
theorem emailF_pad (w : Tx) : emailF ([32, 32] ++ lower w ++ [32]) = emailF w := by
  rw [← emailF_lower w]
  unfold emailF
  rw [trimS_pad _ [32, 32] (lower w) [32] (by decide) (by decide)]
/-! Numbers -/
theorem bareF_cons (c : UInt8) (r d : Tx) (p : Bool) : bareF (c :: r) d p = cond (isD c) (bareF r (d ++ [c]) p) (cond (c == 43 && d.isEmpty && !p) (bareF r d true) (cond (seps.contains c) (bareF r d p) none)) := rfl
theorem bareF_app : ∀ (s t d : Tx) (p : Bool), bareF (s ++ t) d p = match bareF s d p with | some (d', p') => bareF t d' p' | none => none
  | [], t, d, p => rfl
  | c :: r, t, d, p => by
    rw [List.cons_append]
    rw [bareF_cons, bareF_cons, bareF_app r t (d ++ [c]) p, bareF_app r t d true, bareF_app r t d p]
    cases isD c with
    | true => rfl
    | false =>
      cases (c == 43 && d.isEmpty && !p) with
      | true => rfl
      | false => cases seps.contains c <;> rfl
theorem bareF_digits : ∀ (s d : Tx) (p : Bool), s.all isD = true → bareF s d p = some (d ++ s, p)
  | [], d, p, _ => by simp [bareF]
  | c :: r, d, p, h => by
    simp only [List.all_cons, Bool.and_eq_true] at h
    unfold bareF
    rw [h.1, cond_true, bareF_digits r _ p h.2]
    simp
theorem bareF_all : ∀ (s d : Tx) (p : Bool) {d' : Tx} {p' : Bool}, bareF s d p = some (d', p') → d.all isD = true → d'.all isD = true
  | [], d, p, d', p', h, hd => by
    unfold bareF at h
    simp only [Option.some.injEq, Prod.mk.injEq] at h
    rw [← h.1]; exact hd
  | c :: r, d, p, d', p', h, hd => by
    unfold bareF at h
    cases h1 : isD c with
    | true => rw [h1, cond_true] at h; exact bareF_all r _ _ h (by rw [List.all_append, hd]; simp [h1])
    | false =>
      rw [h1, cond_false] at h
      cases h2 : (c == 43 && d.isEmpty && !p) with
      | true => rw [h2, cond_true] at h; exact bareF_all r _ _ h hd
      | false =>
        rw [h2, cond_false] at h
        cases h3 : seps.contains c with
        | true => rw [h3, cond_true] at h; exact bareF_all r _ _ h hd
        | false => rw [h3] at h; cases h
theorem phoneF_nil {s : Tx} {d : Tx} {p : Bool} (h : bareF s [] false = some (d, p)) : phoneF [] s = phoneE d := by
  unfold phoneF
  have : ctry [] = some ([], []) := rfl
  rw [this]
  simp only [h]
  unfold phoneN
  simp
theorem phoneE_ok {n b : Tx} (h : phoneE n = (b, 0)) : n = b := by
  unfold phoneE at h
  cases hc : (Nat.blt n.length 6 || Nat.blt 15 n.length || n.getD 0 0 == 48) with
  | true => rw [hc] at h; simp at h
  | false => rw [hc] at h; simpa using h
theorem phoneF_ok {s b : Tx} (h : phoneF [] s = (b, 0)) : b.all isD = true ∧ phoneE b = (b, 0) := by
  cases hb : bareF s [] false with
  | none =>
    unfold phoneF at h
    have : ctry [] = some ([], []) := rfl
    rw [this] at h
    simp [hb] at h
  | some dp =>
    obtain ⟨d, p⟩ := dp
    rw [phoneF_nil hb] at h
    have := phoneE_ok h
    subst this
    exact ⟨bareF_all _ _ _ hb rfl, h⟩
theorem phoneF_back {s b : Tx} (h : phoneF [] s = (b, 0)) : phoneF [] b = (b, 0) := by
  obtain ⟨h1, h2⟩ := phoneF_ok h
  rw [phoneF_nil (bareF_digits b [] false h1)]
  simpa using h2
/-- A number in another dress. -/
theorem phoneF_dress {s b t : Tx} (h : phoneF [] s = (b, 0)) (ht : bareF t [] false = some (b, true)) : phoneF [] t = (b, 0) := by
  rw [phoneF_nil ht]; exact (phoneF_ok h).2
theorem mk1_ne {m a b : Tx} {e : Int} {q : Tx × Int} (h : mk1 m q = (a, b, e)) (he : e ≠ 0) : a = [] ∧ b = [] := by
  unfold mk1 at h
  cases hq : decide (q.2 = 0) with
  | true => rw [hq] at h; simp only [cond_true, Prod.mk.injEq] at h; exact absurd h.2.2.symm he
  | false => rw [hq] at h; simp only [cond_false, Prod.mk.injEq] at h; exact ⟨h.1.symm, h.2.1.symm⟩
theorem mk1_ok {m a b : Tx} {q : Tx × Int} (h : mk1 m q = (a, b, 0)) : a = m ∧ q = (b, 0) := by
  unfold mk1 at h
  cases hq : decide (q.2 = 0) with
  | true =>
    rw [hq] at h; simp only [cond_true, Prod.mk.injEq] at h
    have := of_decide_eq_true hq
    exact ⟨h.1.symm, by rw [← h.2.1, ← this]⟩
  | false => rw [hq] at h; simp only [cond_false, Prod.mk.injEq] at h; rw [h.2.2] at hq; simp at hq
theorem makeF_ne {m w a b : Tx} {e : Int} (h : makeF m w = (a, b, e)) (he : e ≠ 0) : a = [] ∧ b = [] := by
  unfold makeF at h
  cases h1 : (m == emailS) with
  | true => rw [h1, cond_true] at h; exact mk1_ne h he
  | false =>
    rw [h1, cond_false] at h
    cases h2 : (m == msisdnS) with
    | true => rw [h2, cond_true] at h; exact mk1_ne h he
    | false =>
      rw [h2, cond_false] at h
      simp only [Prod.mk.injEq] at h
      exact ⟨h.1.symm, h.2.1.symm⟩
theorem makeF_ok {m w a b : Tx} (h : makeF m w = (a, b, 0)) : a = m ∧ ((m = emailS ∧ emailF w = (b, 0)) ∨ (m = msisdnS ∧ m ≠ emailS ∧ phoneF [] w = (b, 0))) := by
  unfold makeF at h
  cases h1 : (m == emailS) with
  | true =>
    rw [h1, cond_true] at h
    obtain ⟨g1, g2⟩ := mk1_ok h
    exact ⟨g1, .inl ⟨by simpa using h1, g2⟩⟩
  | false =>
    rw [h1, cond_false] at h
    cases h2 : (m == msisdnS) with
    | true =>
      rw [h2, cond_true] at h
      obtain ⟨g1, g2⟩ := mk1_ok h
      exact ⟨g1, .inr ⟨by simpa using h2, by simpa using h1, g2⟩⟩
    | false =>
      rw [h2, cond_false] at h
      simp at h
theorem makeF_email {w b : Tx} (h : emailF w = (b, 0)) : makeF emailS w = (emailS, b, 0) := by
  unfold makeF
  rw [show (emailS == emailS) = true by decide, cond_true, h]; rfl
theorem makeF_phone {w b : Tx} (h : phoneF [] w = (b, 0)) : makeF msisdnS w = (msisdnS, b, 0) := by
  unfold makeF
  rw [show (msisdnS == emailS) = false by decide, cond_false, show (msisdnS == msisdnS) = true by decide, cond_true, h]; rfl
theorem makeF_back {m w a b : Tx} (h : makeF m w = (a, b, 0)) : makeF a b = (a, b, 0) := by
  obtain ⟨e, g⟩ := makeF_ok h
  clear h
  rcases g with ⟨e2, g⟩ | ⟨e2, _, g⟩
  · rw [e, e2]; exact makeF_email (emailF_ok g)
  · rw [e, e2]; exact makeF_phone (phoneF_back g)
theorem rightF_of {a b : Tx} (h : makeF a b = (a, b, 0)) : rightF a b = true := by
  unfold rightF; rw [h]; simp
theorem cL_6 : sOf 10581 = [43, 40] := by decide
theorem cL_sp2 : sOf 8514 = [32, 32] := by decide
theorem cL_sp : sOf 33 = [32] := by decide
theorem cL_seps : sOf 179577269713 = [32, 46, 45, 41, 40] := by decide
/-- Under way: so many digits in their dress. -/
def OneI (b : Tx) (bl : List (List Int)) : Prop := ∃ (i : Nat) (d : Int), bl = [[d], [(i : Int)]] ∧ i ≤ b.length ∧ (sOf d).length = 2 + 2 * i ∧ bareF (sOf d) [] false = some (b.take i, true)
def OneM (b : Tx) (bl : List (List Int)) : Nat := b.length - ((bl.getD 1 []).getD 0 0).toNat
theorem sep_at (q : Nat) (h : q < 5) : seps.contains (([32, 46, 45, 41, 40] : Tx).getD q 0) = true ∧ isD (([32, 46, 45, 41, 40] : Tx).getD q 0) = false ∧ (([32, 46, 45, 41, 40] : Tx).getD q 0 == 43) = false := by
  match q, h with
  | 0, _ | 1, _ | 2, _ | 3, _ | 4, _ => decide
theorem isD_43 {c : UInt8} (h : isD c = true) : (c == 43) = false := by
  have := b256 (q := fun c => !(isD c) || !(c == 43)) (by decide +kernel) c
  rw [h] at this; simpa using this
theorem one_step {b x : Tx} {i q : Nat} (hb : b.all isD = true) (hi : i < b.length) (hq : q < 5) (h : bareF x [] false = some (b.take i, true)) : bareF (x ++ [b.getD i 0] ++ [([32, 46, 45, 41, 40] : Tx).getD q 0]) [] false = some (b.take (i + 1), true) := by
  rw [List.append_assoc, bareF_app, h]
  have hd : isD (b.getD i 0) = true := List.all_eq_true.1 hb _ (by simp [List.getD, hi])
  obtain ⟨s1, s2, s3⟩ := sep_at q hq
  show bareF (b.getD i 0 :: [([32, 46, 45, 41, 40] : Tx).getD q 0]) (b.take i) true = _
  rw [bareF_cons, hd, cond_true, bareF_cons, s2, cond_false, s3, s1]
  simp only [Bool.false_and, cond_false, cond_true]
  rw [take_succ_getD b i hi]
  rfl
theorem sub1 {s i : Int} {n : Nat} (hi : i = (n : Int)) (h : n < (sOf s).length) : (0 ≤ i ∧ i ≤ i + 1 ∧ i + 1 ≤ ((sOf s).length : Int)) ∧ ∀ z, z = fnD 2 [s, i, i + 1] → sOf z = [(sOf s).getD n 0] := by
  subst hi
  refine ⟨⟨by omega, by omega, by omega⟩, fun z hz => ?_⟩
  rw [hz]; simp only [fnD, sOf_cOf]
  rw [show ((n : Int)).toNat = n by omega, show ((n : Int) + 1).toNat - n = 1 by omega, drop_cons_getD _ _ h]
  rfl
theorem p_lone : B_lone SB (KBv SB [.bool] 7) := by
  intro z0 a0 a1 z1 b0 b1 z2 c0 c1 h2
  have h2 : z2 = 1 := h2
  subst h2
  have ok : KBv SB [.bool] 7 [[z0], [z1]] [[1]] := kb1 rfl
  refine ⟨(fun h => by cases h), fun _ z3 d0 d1 h3 => ⟨fun _ => ok, fun hlen r4 h4 z6 e0 e1 hM => ?_⟩⟩
  obtain ⟨a, b, rfl, ga0, ga1, gb0, gb1⟩ := two_of h4
  have hM : (sOf a, sOf b, z6) = makeF (sOf z0) (sOf z1) := hM
  have hl : (sOf z1).length ≤ 2000 := by
    simp only [fnD] at h3
    have : ¬ 2000 < z3 := by simpa using hlen
    omega
  refine ⟨fun hz z7 f0 f1 h7 z8 g0 g1 h8 => ?_, fun hz => ?_⟩
  · have hz : z6 ≠ 0 := by simpa using hz
    obtain ⟨ea, eb⟩ := makeF_ne hM.symm hz
    have h7 : z7 = fnD 4 [a, 0] := h7
    have h8 : z8 = fnD 4 [b, 0] := h8
    rw [pair_dec h7 h8, ea, eb]
    have : (cond (decide ((([] : Tx) = sOf 0) ∧ (([] : Tx) = sOf 0))) 1 0 : Int) = 1 := by rw [sOf_zero]; simp
    rw [this]; exact ok
  · have hz : z6 = 0 := by simpa using hz
    subst hz
    obtain ⟨hm, hw⟩ := makeF_ok hM.symm
    have hback := makeF_back hM.symm
    intro r7 h7 z9 f0 f1 hN
    obtain ⟨c, d, rfl, gc0, gc1, gd0, gd1⟩ := two_of h7
    have hN : (sOf c, sOf d, z9) = makeF (sOf a) (sOf b) := hN
    rw [hback, Prod.mk.injEq, Prod.mk.injEq] at hN
    obtain ⟨ec, ed, rfl⟩ := hN
    refine ⟨fun h => by simp at h, fun _ z10 g0 g1 h10 z11 i0 i1 h11 => ?_⟩
    have h10 : z10 = fnD 4 [a, c] := h10
    have h11 : z11 = fnD 4 [b, d] := h11
    rw [pair_dec h10 h11, ec, ed]
    refine ⟨fun h => by simp at h, fun _ z12 j0 j1 h12 => ?_⟩
    have h12 : z12 = b01 (rightF (sOf a) (sOf b)) := h12
    rw [rightF_of hback] at h12
    subst h12
    refine ⟨(fun h => by cases h), fun _ z13 k0 k1 h13 => ?_⟩
    rw [eq_dec h13, kEmail]
    -- what a made address is compared with
    have fin : ∀ {w : Int}, makeF (sOf z0) (sOf w) = (sOf a, sOf b, 0) → ∀ r : List Int, inB (repB 0 HB 2) r → ∀ z : Int, 0 ≤ z → z ≤ 21 → SB 15 [[z0], [w]] [r, [z]] →
        (((decide (z = 0)) = true →
         ∀ y : Int, 0 ≤ y → y ≤ 1 → y = fnD 4 [(List.getD r 0 0), a] →
         ∀ y' : Int, 0 ≤ y' → y' ≤ 1 → y' = fnD 4 [(List.getD r 1 0), b] →
         KBv SB [.bool] 7 [[z0], [z1]] [[(cond (decide ([y, y'] = [1, 1])) 1 0)]]
        ) ∧ ((decide (z = 0)) = false →
         KBv SB [.bool] 7 [[z0], [z1]] [[(cond (false) 1 0)]]
        )) := fun {w} hw r hr z q0 q1 hS => by
      obtain ⟨e, f, rfl, _⟩ := two_of hr
      have hS : (sOf e, sOf f, z) = makeF (sOf z0) (sOf w) := hS
      rw [hw, Prod.mk.injEq, Prod.mk.injEq] at hS
      obtain ⟨ee, ef, rfl⟩ := hS
      refine ⟨fun _ y m0 m1 hy y' n0 n1 hy' => ?_, fun h => by simp at h⟩
      have hy : y = fnD 4 [e, a] := hy
      have hy' : y' = fnD 4 [f, b] := hy'
      rw [pair_dec hy hy', ee, ef]
      simpa using ok
    refine ⟨fun hE z14 l0 l1 h14 => ?_, fun hE => ?_⟩
    · have hE : sOf z0 = emailS := of_decide_eq_true hE
      have h14 : sOf z14 = lower (sOf z1) := h14
      have hlen14 : (sOf z14).length ≤ 2000 := by rw [h14, lower_len]; exact hl
      refine ⟨by show (sOf 8514).length + (sOf z14).length ≤ mxL; rw [cL_sp2]; unfold mxL; simp; omega, fun z15 m0 m1 h15 => ?_⟩
      have e15 : sOf z15 = [32, 32] ++ lower (sOf z1) := by rw [h15]; simp only [fnD, sOf_cOf, cL_sp2, h14]
      refine ⟨by show (sOf z15).length + (sOf 33).length ≤ mxL; rw [cL_sp, e15]; unfold mxL; simp [lower_len]; omega, fun z16 n0 n1 h16 => fin ?_⟩
      have e16 : sOf z16 = [32, 32] ++ lower (sOf z1) ++ [32] := by rw [h16]; simp only [fnD, sOf_cOf, cL_sp, e15]
      rw [e16, hm, hE]
      rcases hw with ⟨_, h⟩ | ⟨_, h, _⟩
      · exact makeF_email (by rw [emailF_pad]; exact h)
      · exact absurd hE h
    · have hE : ¬ sOf z0 = emailS := of_decide_eq_false hE
      obtain ⟨hms, hp⟩ : sOf z0 = msisdnS ∧ phoneF [] (sOf z1) = (sOf b, 0) := by
        rcases hw with ⟨h, _⟩ | ⟨h, _, h'⟩
        · exact absurd h hE
        · exact ⟨h, h'⟩
      obtain ⟨hdig, hE15⟩ := phoneF_ok hp
      have hb15 : (sOf b).length ≤ 15 := by
        unfold phoneE at hE15
        cases hc : Nat.blt 15 (sOf b).length with
        | true => rw [hc] at hE15; simp at hE15
        | false =>
          have : ¬ Nat.blt 15 (sOf b).length = true := by rw [hc]; simp
          rw [Nat.blt_eq] at this; omega
      refine ⟨OneI (sOf b), OneM (sOf b), ⟨0, 10581, rfl, Nat.zero_le _, by rw [cL_6]; rfl, by rw [cL_6]; rfl⟩, ?_⟩
      rintro z15 l0 l1 z16 m0 m1 ⟨i, x, e, hi, hxl, hbx⟩ z17 n0 n1 h17
      obtain ⟨rfl, rfl⟩ : z15 = x ∧ z16 = i := by simpa using e
      have h17 : z17 = fnD 0 [b] := h17
      simp only [fnD] at h17
      refine ⟨fun hlt q q0 q1 q2 q3 => ?_, fun hge => fin ?_⟩
      · have hlt : (i : Int) < z17 := by simpa using hlt
        rw [wrap1 (L := z17) hlt n1 m0 q0 q2]
        obtain ⟨s1, s2⟩ := sub1 (s := b) (i := (i : Int)) (n := i) rfl (by omega)
        refine ⟨s1, fun z19 o0 o1 h19 => ?_⟩
        have e19 := s2 z19 h19
        refine ⟨by show (sOf z15).length + (sOf z19).length ≤ mxL; rw [e19]; unfold mxL; simp; omega, fun z20 u0 u1 h20 z21 v0 v1 v2 v3 z22 w0 w1 w2 w3 => ?_⟩
        have e20 : sOf z20 = sOf z15 ++ [(sOf b).getD i 0] := by rw [h20]; simp only [fnD, sOf_cOf, e19]
        have eq : z21 = z22 := by omega
        subst eq
        have hq : (i : Int) + -5 * z21 = ((i % 5 : Nat) : Int) := by omega
        rw [hq]
        obtain ⟨t1, t2⟩ := sub1 (s := 179577269713) (i := ((i % 5 : Nat) : Int)) (n := i % 5) rfl (by rw [cL_seps]; simp; omega)
        refine ⟨t1, fun z23 o0 o1 h23 => ?_⟩
        have e23 := t2 z23 h23
        rw [cL_seps] at e23
        refine ⟨by show (sOf z20).length + (sOf z23).length ≤ mxL; rw [e23, e20]; unfold mxL; simp; omega, fun z24 p0 p1 h24 z25 r0 r1 r2 r3 => ?_⟩
        have e24 : sOf z24 = sOf z15 ++ [(sOf b).getD i 0] ++ [([32, 46, 45, 41, 40] : Tx).getD (i % 5) 0] := by rw [h24]; simp only [fnD, sOf_cOf, e23, e20]
        rw [wrap1 (L := z17) hlt n1 m0 r0 r2]
        refine ⟨⟨by omega, by omega⟩, ⟨i + 1, z24, by simp, by omega, by rw [e24]; simp; omega, ?_⟩, ?_⟩
        · rw [e24]; exact one_step hdig (by omega) (Nat.mod_lt _ (by decide)) hbx
        · show (sOf b).length - ((i : Int) + 1).toNat < (sOf b).length - ((i : Int)).toNat
          omega
      · have hge : ¬ (i : Int) < z17 := by simpa using hge
        have hie : i = (sOf b).length := by omega
        rw [hie, List.take_length] at hbx
        rw [hm, hms]
        exact makeF_phone (phoneF_dress hp hbx)
def B_ltrunk (S : Nat → List (List Int) → List (List Int) → Prop) (K : List (List Int) → List (List Int) → Prop) : Prop :=
 ∀ z0 : Int, 0 ≤ z0 → z0 ≤ RB → 
 ∀ z1 : Int, 0 ≤ z1 →
 ∀ z2 : Int, (-1) ≤ z2 → z2 ≤ 9223372036854775807 → 
 ∀ z3 : Int, 0 ≤ z3 → z3 ≤ 9223372036854775807 → z3 = fnD 20 [z0] →
 ∀ z4 : Int, 0 ≤ z4 → z4 ≤ 1 → S 9 [] [[z4]] →
 ((((!(decide (z4 = 1)))) = true →
  K [[z0]] [[(cond (false) 1 0)]]
 ) ∧ (((!(decide (z4 = 1)))) = false →
  (((decide (30 < z3)) = true →
   K [[z0]] [[(cond (true) 1 0)]]
  ) ∧ ((decide (30 < z3)) = false →
   ∃ (I5 : List (List Int) → Prop) (μ5 : List (List Int) → Nat), I5 [[0], [0]] ∧ (∀ z6 : Int, 0 ≤ z6 → z6 ≤ HB → ∀ z7 : Int, 0 ≤ z7 → z7 ≤ 9223372036854775807 → I5 [[z6], [z7]] →
    (((decide (z7 < z3)) = true →
     chkD 30 [z7, z3] ∧
     chkD 21 [z0, z7] ∧
     ∀ z8 : Int, 0 ≤ z8 → z8 ≤ 255 → z8 = fnD 21 [z0, z7, 0] →
     ∀ z9 : Int, 0 ≤ z9 → z9 ≤ 25 → 0 ≤ z8 - 10 * z9 → z8 - 10 * z9 < 10 →
     chkD 30 [z7, z3] ∧
     chkD 21 [z0, z7] ∧
     ∀ z10 : Int, 0 ≤ z10 → z10 ≤ 255 → z10 = fnD 21 [z0, z7, 0] →
     ∀ z11 : Int, 0 ≤ z11 → z11 ≤ 25 → 0 ≤ z10 - 10 * z11 → z10 - 10 * z11 < 10 →
     chkD 2 [284767230291263911083031, (z8 + ((-10) * z9)), ((z10 + ((-10) * z11)) + 1)] ∧
     ∀ z12 : Int, 0 ≤ z12 → z12 ≤ HB → z12 = fnD 2 [284767230291263911083031, (z8 + ((-10) * z9)), ((z10 + ((-10) * z11)) + 1)] →
     chkD 3 [z6, z12] ∧
     ∀ z13 : Int, 0 ≤ z13 → z13 ≤ HB → z13 = fnD 3 [z6, z12] →
     ∀ z14 : Int, 0 ≤ z14 → z14 ≤ 1 → 0 ≤ (z7 + 9223372036854775809) - 18446744073709551616 * z14 → (z7 + 9223372036854775809) - 18446744073709551616 * z14 < 18446744073709551616 →
     chkD 39 [((z7 + ((-18446744073709551616) * z14)) + 1), 0, 9223372036854775807] ∧
     (I5 [[z13], [((z7 + ((-18446744073709551616) * z14)) + 1)]] ∧ μ5 [[z13], [((z7 + ((-18446744073709551616) * z14)) + 1)]] < μ5 [[z6], [z7]])
    ) ∧ ((decide (z7 < z3)) = false →
     ∀ z8 : Int, 0 ≤ z8 → z8 ≤ 1 → z8 = fnD 4 [z6, 0] →
     ((((!(decide (z8 = 1)))) = true →
      chkD 1 [z6, 0] ∧
      ∀ z9 : Int, 0 ≤ z9 → z9 ≤ 255 → z9 = fnD 1 [z6, 0] →
      (((decide (z9 = 48)) = true →
       K [[z0]] [[(cond (true) 1 0)]]
      ) ∧ ((decide (z9 = 48)) = false →
       chkD 44 [17291, z6] ∧
       ∀ z10 : Int, 0 ≤ z10 → z10 ≤ HB → ∀ z11 : Int, 0 ≤ z11 → z11 ≤ 21 → S 12 [[17291], [z6]] [[z10], [z11]] →
       chkD 3 [49, z6] ∧
       ∀ z12 : Int, 0 ≤ z12 → z12 ≤ HB → z12 = fnD 3 [49, z6] →
       chkD 44 [17291, z12] ∧
       ∀ z13 : Int, 0 ≤ z13 → z13 ≤ HB → ∀ z14 : Int, 0 ≤ z14 → z14 ≤ 21 → S 12 [[17291], [z12]] [[z13], [z14]] →
       chkD 3 [3514262, z6] ∧
       ∀ z15 : Int, 0 ≤ z15 → z15 ≤ HB → z15 = fnD 3 [3514262, z6] →
       chkD 44 [0, z15] ∧
       ∀ z16 : Int, 0 ≤ z16 → z16 ≤ HB → ∀ z17 : Int, 0 ≤ z17 → z17 ≤ 21 → S 12 [[0], [z15]] [[z16], [z17]] →
       chkD 3 [3514262, z6] ∧
       ∀ z18 : Int, 0 ≤ z18 → z18 ≤ HB → z18 = fnD 3 [3514262, z6] →
       chkD 44 [17291, z18] ∧
       ∀ z19 : Int, 0 ≤ z19 → z19 ≤ HB → ∀ z20 : Int, 0 ≤ z20 → z20 ≤ 21 → S 12 [[17291], [z18]] [[z19], [z20]] →
       ∀ z21 : Int, 0 ≤ z21 → z21 ≤ 1 → z21 = fnD 4 [z10, z13] →
       (((decide (z21 = 1)) = true →
        (((decide (z11 = z14)) = true →
         ∀ z22 : Int, 0 ≤ z22 → z22 ≤ 1 → z22 = fnD 4 [z13, z16] →
         (((decide (z22 = 1)) = true →
          (((decide (z14 = z17)) = true →
           ∀ z23 : Int, 0 ≤ z23 → z23 ≤ 1 → z23 = fnD 4 [z16, z19] →
           (((decide (z23 = 1)) = true →
            K [[z0]] [[(cond (decide (z17 = z20)) 1 0)]]
           ) ∧ ((decide (z23 = 1)) = false →
            K [[z0]] [[(cond (false) 1 0)]]
           ))
          ) ∧ ((decide (z14 = z17)) = false →
           K [[z0]] [[(cond (false) 1 0)]]
          ))
         ) ∧ ((decide (z22 = 1)) = false →
          K [[z0]] [[(cond (false) 1 0)]]
         ))
        ) ∧ ((decide (z11 = z14)) = false →
         K [[z0]] [[(cond (false) 1 0)]]
        ))
       ) ∧ ((decide (z21 = 1)) = false →
        K [[z0]] [[(cond (false) 1 0)]]
       ))
      ))
     ) ∧ (((!(decide (z8 = 1)))) = false →
      chkD 44 [17291, z6] ∧
      ∀ z9 : Int, 0 ≤ z9 → z9 ≤ HB → ∀ z10 : Int, 0 ≤ z10 → z10 ≤ 21 → S 12 [[17291], [z6]] [[z9], [z10]] →
      chkD 3 [49, z6] ∧
      ∀ z11 : Int, 0 ≤ z11 → z11 ≤ HB → z11 = fnD 3 [49, z6] →
      chkD 44 [17291, z11] ∧
      ∀ z12 : Int, 0 ≤ z12 → z12 ≤ HB → ∀ z13 : Int, 0 ≤ z13 → z13 ≤ 21 → S 12 [[17291], [z11]] [[z12], [z13]] →
      chkD 3 [3514262, z6] ∧
      ∀ z14 : Int, 0 ≤ z14 → z14 ≤ HB → z14 = fnD 3 [3514262, z6] →
      chkD 44 [0, z14] ∧
      ∀ z15 : Int, 0 ≤ z15 → z15 ≤ HB → ∀ z16 : Int, 0 ≤ z16 → z16 ≤ 21 → S 12 [[0], [z14]] [[z15], [z16]] →
      chkD 3 [3514262, z6] ∧
      ∀ z17 : Int, 0 ≤ z17 → z17 ≤ HB → z17 = fnD 3 [3514262, z6] →
      chkD 44 [17291, z17] ∧
      ∀ z18 : Int, 0 ≤ z18 → z18 ≤ HB → ∀ z19 : Int, 0 ≤ z19 → z19 ≤ 21 → S 12 [[17291], [z17]] [[z18], [z19]] →
      ∀ z20 : Int, 0 ≤ z20 → z20 ≤ 1 → z20 = fnD 4 [z9, z12] →
      (((decide (z20 = 1)) = true →
       (((decide (z10 = z13)) = true →
        ∀ z21 : Int, 0 ≤ z21 → z21 ≤ 1 → z21 = fnD 4 [z12, z15] →
        (((decide (z21 = 1)) = true →
         (((decide (z13 = z16)) = true →
          ∀ z22 : Int, 0 ≤ z22 → z22 ≤ 1 → z22 = fnD 4 [z15, z18] →
          (((decide (z22 = 1)) = true →
           K [[z0]] [[(cond (decide (z16 = z19)) 1 0)]]
          ) ∧ ((decide (z22 = 1)) = false →
           K [[z0]] [[(cond (false) 1 0)]]
          ))
         ) ∧ ((decide (z13 = z16)) = false →
          K [[z0]] [[(cond (false) 1 0)]]
         ))
        ) ∧ ((decide (z21 = 1)) = false →
         K [[z0]] [[(cond (false) 1 0)]]
        ))
       ) ∧ ((decide (z10 = z13)) = false →
        K [[z0]] [[(cond (false) 1 0)]]
       ))
      ) ∧ ((decide (z20 = 1)) = false →
       K [[z0]] [[(cond (false) 1 0)]]
      ))
     ))
    ))
   )
  ))
 ))
theorem cL_digs : sOf 284767230291263911083031 = [48, 49, 50, 51, 52, 53, 54, 55, 56, 57] := by decide
theorem cL_p44 : sOf 3514262 = [43, 52, 52] := by decide
theorem cL_0 : sOf 49 = [48] := by decide
def digAt (rows : List (List Int)) (i : Nat) : UInt8 := ([48, 49, 50, 51, 52, 53, 54, 55, 56, 57] : Tx).getD (((rows.getD i []).getD 0 0) % 10).toNat 0
def digsOf (rows : List (List Int)) (k : Nat) : Tx := (List.range k).map (digAt rows)
theorem digs_isD (q : Nat) (h : q < 10) : isD (([48, 49, 50, 51, 52, 53, 54, 55, 56, 57] : Tx).getD q 0) = true := by
  match q, h with
  | 0, _ | 1, _ | 2, _ | 3, _ | 4, _ | 5, _ | 6, _ | 7, _ | 8, _ | 9, _ => decide
theorem digsOf_all (rows : List (List Int)) (k : Nat) : (digsOf rows k).all isD = true := by
  rw [List.all_eq_true]
  intro c hc
  obtain ⟨i, _, rfl⟩ := List.mem_map.1 hc
  exact digs_isD _ (by omega)
theorem digsOf_len (rows : List (List Int)) (k : Nat) : (digsOf rows k).length = k := by simp [digsOf]
theorem digsOf_succ (rows : List (List Int)) (k : Nat) : digsOf rows (k + 1) = digsOf rows k ++ [digAt rows k] := by simp [digsOf, List.range_succ]
def TrI (z0 : Int) (bl : List (List Int)) : Prop := ∃ (i : Nat) (d : Int), bl = [[d], [(i : Int)]] ∧ i ≤ (rOf z0).length ∧ sOf d = digsOf (rOf z0) i
def TrM (z0 : Int) (bl : List (List Int)) : Nat := (rOf z0).length - ((bl.getD 1 []).getD 0 0).toNat
theorem phoneF_GB {s : Tx} {d : Tx} {p : Bool} (h : bareF s [] false = some (d, p)) : phoneF [71, 66] s = phoneE (phoneN [71, 66] [52, 52] [48] d p) := by
  unfold phoneF
  have : ctry [71, 66] = some ([52, 52], [48]) := rfl
  rw [this]
  simp only [h]
theorem trunk_1 {s : Tx} (h : s.all isD = true) (h0 : s.getD 0 0 ≠ 48) : phoneF [71, 66] s = phoneE ([52, 52] ++ s) := by
  rw [phoneF_GB (bareF_digits s [] false h)]
  congr 1
  unfold phoneN
  cases s with
  | nil => rfl
  | cons c r =>
    have : ([48] : Tx).isPrefixOf ([] ++ c :: r) = false := by
      have h0 : c ≠ 48 := h0
      simp [List.isPrefixOf]
      exact fun e => h0 e.symm
    rw [this]; rfl
theorem trunk_2 {s : Tx} (h : s.all isD = true) : phoneF [71, 66] ([48] ++ s) = phoneE ([52, 52] ++ s) := by
  rw [phoneF_GB (bareF_digits ([48] ++ s) [] false (by rw [List.all_append, h]; rfl))]
  congr 1
theorem bare_plus {s : Tx} (h : s.all isD = true) : bareF ([43, 52, 52] ++ s) [] false = some ([52, 52] ++ s, true) := by
  show bareF (43 :: ([52, 52] ++ s)) [] false = _
  rw [bareF_cons]
  have : isD 43 = false := by decide
  rw [this, cond_false]
  have : ((43 : UInt8) == 43 && ([] : Tx).isEmpty && !false) = true := by decide
  rw [this, cond_true, bareF_digits ([52, 52] ++ s) [] true (by rw [List.all_append, h]; rfl)]
  rfl
theorem trunk_3 {s : Tx} (h : s.all isD = true) : phoneF [] ([43, 52, 52] ++ s) = phoneE ([52, 52] ++ s) := phoneF_nil (bare_plus h)
theorem trunk_4 {s : Tx} (h : s.all isD = true) : phoneF [71, 66] ([43, 52, 52] ++ s) = phoneE ([52, 52] ++ s) := by
  rw [phoneF_GB (bare_plus h)]; rfl
theorem kbb1 {id : Nat} {zs : List (List Int)} (h : SB id zs [[1]]) : KBb SB [.d .bool] id zs [[1]] := ⟨⟨by decide, by decide, trivial⟩, h⟩
theorem trunk_end {z0 z6 : Int} (hl : (sOf z6).length ≤ 30) (ha : (sOf z6).all isD = true) (h0 : (sOf z6).getD 0 0 ≠ 48) :
     chkD 44 [17291, z6] ∧
     ∀ z9 : Int, 0 ≤ z9 → z9 ≤ HB → ∀ z10 : Int, 0 ≤ z10 → z10 ≤ 21 → SB 12 [[17291], [z6]] [[z9], [z10]] →
      chkD 3 [49, z6] ∧
      ∀ z11 : Int, 0 ≤ z11 → z11 ≤ HB → z11 = fnD 3 [49, z6] →
      chkD 44 [17291, z11] ∧
      ∀ z12 : Int, 0 ≤ z12 → z12 ≤ HB → ∀ z13 : Int, 0 ≤ z13 → z13 ≤ 21 → SB 12 [[17291], [z11]] [[z12], [z13]] →
      chkD 3 [3514262, z6] ∧
      ∀ z14 : Int, 0 ≤ z14 → z14 ≤ HB → z14 = fnD 3 [3514262, z6] →
      chkD 44 [0, z14] ∧
      ∀ z15 : Int, 0 ≤ z15 → z15 ≤ HB → ∀ z16 : Int, 0 ≤ z16 → z16 ≤ 21 → SB 12 [[0], [z14]] [[z15], [z16]] →
      chkD 3 [3514262, z6] ∧
      ∀ z17 : Int, 0 ≤ z17 → z17 ≤ HB → z17 = fnD 3 [3514262, z6] →
      chkD 44 [17291, z17] ∧
      ∀ z18 : Int, 0 ≤ z18 → z18 ≤ HB → ∀ z19 : Int, 0 ≤ z19 → z19 ≤ 21 → SB 12 [[17291], [z17]] [[z18], [z19]] →
      ∀ z20 : Int, 0 ≤ z20 → z20 ≤ 1 → z20 = fnD 4 [z9, z12] →
      (((decide (z20 = 1)) = true →
       (((decide (z10 = z13)) = true →
        ∀ z21 : Int, 0 ≤ z21 → z21 ≤ 1 → z21 = fnD 4 [z12, z15] →
        (((decide (z21 = 1)) = true →
         (((decide (z13 = z16)) = true →
          ∀ z22 : Int, 0 ≤ z22 → z22 ≤ 1 → z22 = fnD 4 [z15, z18] →
          (((decide (z22 = 1)) = true →
           KBb SB [.d .bool] 5 [[z0]] [[(cond (decide (z16 = z19)) 1 0)]]
          ) ∧ ((decide (z22 = 1)) = false →
           KBb SB [.d .bool] 5 [[z0]] [[(cond (false) 1 0)]]
          ))
         ) ∧ ((decide (z13 = z16)) = false →
          KBb SB [.d .bool] 5 [[z0]] [[(cond (false) 1 0)]]
         ))
        ) ∧ ((decide (z21 = 1)) = false →
         KBb SB [.d .bool] 5 [[z0]] [[(cond (false) 1 0)]]
        ))
       ) ∧ ((decide (z10 = z13)) = false →
        KBb SB [.d .bool] 5 [[z0]] [[(cond (false) 1 0)]]
       ))
      ) ∧ ((decide (z20 = 1)) = false →
       KBb SB [.d .bool] 5 [[z0]] [[(cond (false) 1 0)]]
      )) := by
  refine ⟨.inr (by omega), fun z9 _ _ z10 _ _ h9 => ?_⟩
  have h9 : (sOf z9, z10) = phoneF (sOf 17291) (sOf z6) := h9
  rw [kGB, trunk_1 ha h0] at h9
  refine ⟨by show (sOf 49).length + (sOf z6).length ≤ mxL; rw [cL_0]; unfold mxL; simp; omega, fun z11 _ _ h11 => ?_⟩
  have e11 : sOf z11 = [48] ++ sOf z6 := by rw [h11]; simp only [fnD, sOf_cOf, cL_0]
  refine ⟨.inr (by rw [e11]; simp; omega), fun z12 _ _ z13 _ _ h12 => ?_⟩
  have h12 : (sOf z12, z13) = phoneF (sOf 17291) (sOf z11) := h12
  rw [kGB, e11, trunk_2 ha] at h12
  have hp : chkD 3 [3514262, z6] := by show (sOf 3514262).length + (sOf z6).length ≤ mxL; rw [cL_p44]; unfold mxL; simp; omega
  refine ⟨hp, fun z14 _ _ h14 => ⟨.inl rfl, fun z15 _ _ z16 _ _ h15 => ⟨hp, fun z17 _ _ h17 => ?_⟩⟩⟩
  have e14 : sOf z14 = [43, 52, 52] ++ sOf z6 := by rw [h14]; simp only [fnD, sOf_cOf, cL_p44]
  have e17 : sOf z17 = [43, 52, 52] ++ sOf z6 := by rw [h17]; simp only [fnD, sOf_cOf, cL_p44]
  have h15 : (sOf z15, z16) = phoneF (sOf 0) (sOf z14) := h15
  rw [sOf_zero, e14, trunk_3 ha] at h15
  refine ⟨.inr (by rw [e17]; simp; omega), fun z18 _ _ z19 _ _ h18 z20 _ _ h20 => ?_⟩
  have h18 : (sOf z18, z19) = phoneF (sOf 17291) (sOf z17) := h18
  rw [kGB, e17, trunk_4 ha] at h18
  have q1 := h9.trans h12.symm
  have q2 := h12.trans h15.symm
  have q3 := h15.trans h18.symm
  rw [Prod.mk.injEq] at q1 q2 q3
  obtain ⟨q1, rfl⟩ := q1
  obtain ⟨q2, rfl⟩ := q2
  obtain ⟨q3, rfl⟩ := q3
  rw [eq_dec h20]
  refine ⟨fun _ => ⟨fun _ z21 _ _ h21 => ?_, fun h => by simp at h⟩, fun h => by simp [q1] at h⟩
  rw [eq_dec h21]
  refine ⟨fun _ => ⟨fun _ z22 _ _ h22 => ?_, fun h => by simp at h⟩, fun h => by simp [q2] at h⟩
  rw [eq_dec h22]
  refine ⟨fun _ => ?_, fun h => by simp [q3] at h⟩
  have : (cond (decide (z10 = z10)) 1 0 : Int) = 1 := by simp
  rw [this]
  exact kbb1 rfl
theorem p_ltrunk : B_ltrunk SB (KBb SB [.d .bool] 5) := by
  intro z0 a0 a1 z1 _ z2 _ _ z3 b0 b1 h3 z4 c0 c1 h4
  have h4 : z4 = 1 := h4
  subst h4
  simp only [fnD] at h3
  have ok : KBb SB [.d .bool] 5 [[z0]] [[1]] := kbb1 rfl
  refine ⟨(fun h => by cases h), fun _ => ⟨fun _ => ok, fun hlen => ⟨TrI z0, TrM z0, ⟨0, 0, rfl, Nat.zero_le _, rfl⟩, ?_⟩⟩⟩
  have hlen : ¬ 30 < z3 := by simpa using hlen
  rintro z6 d0 d1 z7 e0 e1 ⟨i, d, e, hi, hd⟩
  obtain ⟨rfl, rfl⟩ : z6 = d ∧ z7 = i := by simpa using e
  refine ⟨fun hlt => ?_, fun hge z8 f0 f1 h8 => ?_⟩
  · have hlt : (i : Int) < z3 := by simpa using hlt
    have k30 : chkD 30 [(i : Int), z3] := ⟨by omega, by omega⟩
    have k21 : chkD 21 [z0, (i : Int)] := ⟨by omega, by omega⟩
    refine ⟨k30, k21, fun z8 f0 f1 h8 z9 g0 g1 g2 g3 => ⟨k30, k21, fun z10 i0 i1 h10 z11 j0 j1 j2 j3 => ?_⟩⟩
    have e10 : z10 = z8 := h10.trans h8.symm
    subst e10
    have eq : z11 = z9 := by omega
    subst eq
    have h8 : z10 = ((rOf z0).getD i []).getD 0 0 := by rw [h8]; simp only [fnD, Int.toNat_natCast]; rfl
    have hq : z10 + -10 * z11 = ((z10 % 10).toNat : Int) := by omega
    rw [hq]
    obtain ⟨t1, t2⟩ := sub1 (s := 284767230291263911083031) (i := ((z10 % 10).toNat : Int)) (n := (z10 % 10).toNat) rfl (by rw [cL_digs]; simp; omega)
    refine ⟨t1, fun z12 k0 k1 h12 => ?_⟩
    have e12 := t2 z12 h12
    rw [cL_digs] at e12
    have hsz : (sOf z6).length = i := by rw [hd, digsOf_len]
    refine ⟨by show (sOf z6).length + (sOf z12).length ≤ mxL; rw [e12, hsz]; unfold mxL; simp; omega, fun z13 l0 l1 h13 z14 m0 m1 m2 m3 => ?_⟩
    rw [wrap1 (L := z3) hlt b1 e0 m0 m2]
    refine ⟨⟨by omega, by omega⟩, ⟨i + 1, z13, by simp, by omega, ?_⟩, ?_⟩
    · rw [h13]; simp only [fnD, sOf_cOf]
      rw [digsOf_succ, ← hd, e12, h8]; rfl
    · show (rOf z0).length - ((i : Int) + 1).toNat < (rOf z0).length - ((i : Int)).toNat
      omega
  · have hge : ¬ (i : Int) < z3 := by simpa using hge
    have hsz : (sOf z6).length = i := by rw [hd, digsOf_len]
    have hall : (sOf z6).all isD = true := by rw [hd]; exact digsOf_all _ _
    rw [eq_nil h8]
    refine ⟨fun hne => ?_, fun he => trunk_end (by omega) hall ?_⟩
    · have hne : ¬ sOf z6 = [] := by simpa using hne
      have hpos : 0 < (sOf z6).length := by
        cases hh : sOf z6 with
        | nil => exact absurd hh hne
        | cons c r => simp
      refine ⟨⟨Int.le_refl _, by omega⟩, fun z9 g0 g1 h9 => ?_⟩
      simp only [fnD, Int.toNat_zero] at h9
      refine ⟨fun _ => ok, fun h48 => trunk_end (by omega) hall fun h => ?_⟩
      rw [h9, h] at h48
      simp at h48
    · have he : sOf z6 = [] := by simpa using he
      rw [he]; decide
end Go.Ad
