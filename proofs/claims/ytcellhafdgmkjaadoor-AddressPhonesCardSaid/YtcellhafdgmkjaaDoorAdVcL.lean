/- AdVcL: a part of the proof of statements of this seat. -/
import Derived.Test.YtcellhafdgmkjaaDoorAdVcK
import Derived.Test.YtcellhafdgmkjaaDoorAdBase
set_option maxRecDepth 100000
set_option linter.unusedVariables false
set_option linter.unusedSimpArgs false
namespace Go.Ad
open Go Go.Rx
def B_alive (S : Nat → List (List Int) → List (List Int) → Prop) (K : List (List Int) → List (List Int) → Prop) : Prop :=
 
 ∀ z0 : Int, 0 ≤ z0 → z0 ≤ HB → ∀ z1 : Int, 0 ≤ z1 → z1 ≤ 21 → S 10 [[37829880002960280196323984369792489275953]] [[z0], [z1]] →
 chkD 44 [17291, 4084009258727161440354222919033] ∧
 ∀ z2 : Int, 0 ≤ z2 → z2 ≤ HB → ∀ z3 : Int, 0 ≤ z3 → z3 ≤ 21 → S 12 [[17291], [4084009258727161440354222919033]] [[z2], [z3]] →
 chkD 44 [0, 4578806963989427769704693613468473100420959] ∧
 ∀ z4 : Int, 0 ≤ z4 → z4 ≤ HB → ∀ z5 : Int, 0 ≤ z5 → z5 ≤ 21 → S 12 [[0], [4578806963989427769704693613468473100420959]] [[z4], [z5]] →
 (((decide (z1 = 0)) = true →
  (((decide (z3 = 0)) = true →
   (((decide (z5 = 0)) = true →
    ∀ z6 : Int, 0 ≤ z6 → z6 ≤ 1 → z6 = fnD 4 [z0, 147197976665215098040171181284709454416] →
    (((decide (z6 = 1)) = true →
     ∀ z7 : Int, 0 ≤ z7 → z7 ≤ 1 → z7 = fnD 4 [z2, 15891086611461867830497589104] →
     (((decide (z7 = 1)) = true →
      ∀ z8 : Int, 0 ≤ z8 → z8 ≤ 1 → z8 = fnD 4 [z2, z4] →
      K [] [[(cond (decide (z8 = 1)) 1 0)]]
     ) ∧ ((decide (z7 = 1)) = false →
      K [] [[(cond (false) 1 0)]]
     ))
    ) ∧ ((decide (z6 = 1)) = false →
     K [] [[(cond (false) 1 0)]]
    ))
   ) ∧ ((decide (z5 = 0)) = false →
    K [] [[(cond (false) 1 0)]]
   ))
  ) ∧ ((decide (z3 = 0)) = false →
   K [] [[(cond (false) 1 0)]]
  ))
 ) ∧ ((decide (z1 = 0)) = false →
  K [] [[(cond (false) 1 0)]]
 ))
def B_lemails (S : Nat → List (List Int) → List (List Int) → Prop) (K : List (List Int) → List (List Int) → Prop) : Prop :=
 ∀ z0 : Int, 0 ≤ z0 → z0 ≤ HB → 
 ∀ z1 : Int, 0 ≤ z1 → z1 ≤ 1 → S 9 [] [[z1]] →
 ((((!(decide (z1 = 1)))) = true →
  K [[z0]] [[(cond (false) 1 0)]]
 ) ∧ (((!(decide (z1 = 1)))) = false →
  ∀ z2 : Int, 0 ≤ z2 → z2 ≤ 9223372036854775807 → z2 = fnD 0 [z0] →
  (((decide (2000 < z2)) = true →
   K [[z0]] [[(cond (true) 1 0)]]
  ) ∧ ((decide (2000 < z2)) = false →
   ∀ z3 : Int, 0 ≤ z3 → z3 ≤ HB → ∀ z4 : Int, 0 ≤ z4 → z4 ≤ 21 → S 10 [[z0]] [[z3], [z4]] →
   ∀ z5 : Int, 0 ≤ z5 → z5 ≤ HB → ∀ z6 : Int, 0 ≤ z6 → z6 ≤ 21 → S 11 [[z0]] [[z5], [z6]] →
   ∀ z7 : Int, 0 ≤ z7 → z7 ≤ 1 → z7 = fnD 4 [z3, z5] →
   (((decide (z7 = 1)) = true →
    K [[z0]] [[(cond (decide (z4 = z6)) 1 0)]]
   ) ∧ ((decide (z7 = 1)) = false →
    K [[z0]] [[(cond (false) 1 0)]]
   ))
  ))
 ))
def B_lphones (S : Nat → List (List Int) → List (List Int) → Prop) (K : List (List Int) → List (List Int) → Prop) : Prop :=
 ∀ z0 : Int, 0 ≤ z0 → z0 ≤ HB → ∀ z1 : Int, 0 ≤ z1 → z1 ≤ HB → 
 ∀ z2 : Int, 0 ≤ z2 → z2 ≤ 1 → S 9 [] [[z2]] →
 ((((!(decide (z2 = 1)))) = true →
  K [[z0], [z1]] [[(cond (false) 1 0)]]
 ) ∧ (((!(decide (z2 = 1)))) = false →
  ∀ z3 : Int, 0 ≤ z3 → z3 ≤ 9223372036854775807 → z3 = fnD 0 [z1] →
  (((decide (2000 < z3)) = true →
   K [[z0], [z1]] [[(cond (true) 1 0)]]
  ) ∧ ((decide (2000 < z3)) = false →
   chkD 44 [z0, z1] ∧
   ∀ z4 : Int, 0 ≤ z4 → z4 ≤ HB → ∀ z5 : Int, 0 ≤ z5 → z5 ≤ 21 → S 12 [[z0], [z1]] [[z4], [z5]] →
   chkD 44 [z0, z1] ∧
   ∀ z6 : Int, 0 ≤ z6 → z6 ≤ HB → ∀ z7 : Int, 0 ≤ z7 → z7 ≤ 21 → S 13 [[z0], [z1]] [[z6], [z7]] →
   ∀ z8 : Int, 0 ≤ z8 → z8 ≤ 1 → z8 = fnD 4 [z4, z6] →
   (((decide (z8 = 1)) = true →
    K [[z0], [z1]] [[(cond (decide (z5 = z7)) 1 0)]]
   ) ∧ ((decide (z8 = 1)) = false →
    K [[z0], [z1]] [[(cond (false) 1 0)]]
   ))
  ))
 ))
theorem a1 : emailF (sOf 37829880002960280196323984369792489275953) = ([97, 110, 110, 97, 64, 101, 120, 97, 109, 112, 108, 101, 46, 111, 114, 103], 0) := by decide +kernel
theorem a1' : sOf 147197976665215098040171181284709454416 = [97, 110, 110, 97, 64, 101, 120, 97, 109, 112, 108, 101, 46, 111, 114, 103] := by decide +kernel
theorem a2 : phoneF (sOf 17291) (sOf 4084009258727161440354222919033) = ([52, 52, 50, 48, 55, 57, 52, 54, 48, 48, 48, 48], 0) := by decide +kernel
theorem a2' : sOf 15891086611461867830497589104 = [52, 52, 50, 48, 55, 57, 52, 54, 48, 48, 48, 48] := by decide +kernel
theorem a3 : phoneF (sOf 0) (sOf 4578806963989427769704693613468473100420959) = ([52, 52, 50, 48, 55, 57, 52, 54, 48, 48, 48, 48], 0) := by decide +kernel
theorem a2l : (sOf 4084009258727161440354222919033).length ≤ 4294967280 := by decide +kernel
theorem a3l : (sOf 4578806963989427769704693613468473100420959).length ≤ 4294967280 := by decide +kernel
theorem kb1 {id : Nat} {zs : List (List Int)} (h : SB id zs [[1]]) : KBv SB [.bool] id zs [[1]] := ⟨⟨by decide, by decide, trivial⟩, h⟩
theorem p_alive : B_alive SB (KBv SB [.bool] 9) := by
  intro z0 x0 x1 z1 y0 y1 h1
  refine ⟨a2l, fun z2 b0 b1 z3 c0 c1 h2 => ⟨a3l, fun z4 d0 d1 z5 e0 e1 h3 => ?_⟩⟩
  have h1 : (sOf z0, z1) = emailF (sOf 37829880002960280196323984369792489275953) := h1
  have h2 : (sOf z2, z3) = phoneF (sOf 17291) (sOf 4084009258727161440354222919033) := h2
  have h3 : (sOf z4, z5) = phoneF (sOf 0) (sOf 4578806963989427769704693613468473100420959) := h3
  rw [a1, Prod.mk.injEq] at h1
  rw [a2, Prod.mk.injEq] at h2
  rw [a3, Prod.mk.injEq] at h3
  obtain ⟨s1, rfl⟩ := h1
  obtain ⟨s2, rfl⟩ := h2
  obtain ⟨s3, rfl⟩ := h3
  refine ⟨fun _ => ⟨fun _ => ⟨fun _ z6 f0 f1 h6 => ?_, (fun h => by cases h)⟩, (fun h => by cases h)⟩, (fun h => by cases h)⟩
  rw [eq_dec h6, s1, a1']
  refine ⟨fun _ z7 g0 g1 h7 => ?_, fun h => by simp at h⟩
  rw [eq_dec h7, s2, a2']
  refine ⟨fun _ z8 i0 i1 h8 => ?_, fun h => by simp at h⟩
  rw [eq_dec h8, s2, s3]
  have : (cond (decide (([52, 52, 50, 48, 55, 57, 52, 54, 48, 48, 48, 48] : Tx) = [52, 52, 50, 48, 55, 57, 52, 54, 48, 48, 48, 48])) 1 0 : Int) = 1 := by simp
  rw [this]
  exact kb1 rfl
theorem p_lemails : B_lemails SB (KBv SB [.bool] 3) := by
  intro z0 x0 x1 z1 y0 y1 h1
  have h1 : z1 = 1 := h1
  subst h1
  refine ⟨(fun h => by cases h), fun _ z2 b0 b1 h2 => ⟨fun _ => kb1 rfl, fun _ z3 c0 c1 z4 d0 d1 h3 z5 e0 e1 z6 f0 f1 h5 z7 g0 g1 h7 => ?_⟩⟩
  have h3 : (sOf z3, z4) = emailF (sOf z0) := h3
  have h5 : (sOf z5, z6) = emailF (sOf z0) := h5
  have e := h3.trans h5.symm
  simp only [Prod.mk.injEq] at e
  obtain ⟨e1, rfl⟩ := e
  rw [eq_dec h7, e1]
  refine ⟨fun _ => ?_, fun h => by simp at h⟩
  rw [show (cond (decide (z4 = z4)) 1 0 : Int) = 1 by simp]
  exact kb1 rfl
theorem p_lphones : B_lphones SB (KBv SB [.bool] 4) := by
  intro z0 x0 x1 z1 y0 y1 z2 w0 w1 h1
  have h1 : z2 = 1 := h1
  subst h1
  refine ⟨(fun h => by cases h), fun _ z3 b0 b1 h2 => ⟨fun _ => kb1 rfl, fun hlen => ?_⟩⟩
  have hl : (sOf z1).length ≤ 4294967280 := by
    simp only [fnD] at h2
    have : ¬ 2000 < z3 := by simpa using hlen
    omega
  refine ⟨hl, fun z4 c0 c1 z5 d0 d1 h3 => ⟨hl, fun z6 e0 e1 z7 f0 f1 h5 z8 g0 g1 h7 => ?_⟩⟩
  have h3 : (sOf z4, z5) = phoneF (sOf z0) (sOf z1) := h3
  have h5 : (sOf z6, z7) = phoneF (sOf z0) (sOf z1) := h5
  have e := h3.trans h5.symm
  simp only [Prod.mk.injEq] at e
  obtain ⟨e1, rfl⟩ := e
  rw [eq_dec h7, e1]
  refine ⟨fun _ => ?_, fun h => by simp at h⟩
  rw [show (cond (decide (z5 = z5)) 1 0 : Int) = 1 by simp]
  exact kb1 rfl
end Go.Ad
