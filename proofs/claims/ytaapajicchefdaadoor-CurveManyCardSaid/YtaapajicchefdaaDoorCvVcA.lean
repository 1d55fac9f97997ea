/- CvVcA: a part of the proof of statements of this seat. -/
import Derived.Test.YtaapajicchefdaaDoorCvHelp
set_option linter.unusedVariables false
set_option linter.unusedSimpArgs false
set_option maxRecDepth 20000
namespace Go.Fd
open Go.Rx
def B_twice (S : Nat → List (List Int) → List (List Int) → Prop) (K : List (List Int) → List (List Int) → Prop) : Prop :=
 
 ∀ r0 : List Int, inB (repB 0 4503599627370495 5) r0 → S 34 [[929955233495203, 466365720129213, 1662059464998953, 2033849074728123, 1442794654840575], [929955233495203, 466365720129213, 1662059464998953, 2033849074728123, 1442794654840575]] [r0] →
 K [] [r0]
theorem p_twice (G) : B_twice (SG G) (KB k_twice.res 100) := by
  unfold B_twice
  intro r0 i0 s0
  have s0 : v5 r0 % 57896044618658097711785492504343953926634992332820282019728792003956564819949 = (v5 [929955233495203, 466365720129213, 1662059464998953, 2033849074728123, 1442794654840575] + v5 [929955233495203, 466365720129213, 1662059464998953, 2033849074728123, 1442794654840575]) % 57896044618658097711785492504343953926634992332820282019728792003956564819949 := s0.1
  refine ⟨app_nil i0, ?_⟩
  show v5 r0 % 57896044618658097711785492504343953926634992332820282019728792003956564819949 = 2 * cd % 57896044618658097711785492504343953926634992332820282019728792003956564819949
  rw [s0, once_v5, ← Int.two_mul]

def B_flat (S : Nat → List (List Int) → List (List Int) → Prop) (K : List (List Int) → List (List Int) → Prop) : Prop :=
 ∀ r0 : List Int, inB (repB 0 4503599627370495 5) r0 → ∀ r5 : List Int, inB (repB 0 4503599627370495 5) r5 → 
 ∀ r10 : List Int, inB (repB 0 4503599627370495 5) r10 → S 33 [r0, r5] [r10] →
 K [r0, r5] [r0, r5, [1, 0, 0, 0, 0], r10]
theorem p_flat (G) : B_flat (SG G) (KB k_flat.res 101) := by
  unfold B_flat
  intro r0 i0 r5 i5 r10 i10 s0
  have s0 : v5 r10 % 57896044618658097711785492504343953926634992332820282019728792003956564819949 = v5 r0 * v5 r5 % 57896044618658097711785492504343953926634992332820282019728792003956564819949 := s0.1
  exact ⟨in_pt i0 i5 in_one5 i10, rfl, rfl, by decide, s0⟩

def B_cbase (S : Nat → List (List Int) → List (List Int) → Prop) (K : List (List Int) → List (List Int) → Prop) : Prop :=
 
 ∀ r0 : List Int, inB (repB 0 4503599627370495 5) r0 → ∀ r5 : List Int, inB (repB 0 4503599627370495 5) r5 → ∀ r10 : List Int, inB (repB 0 4503599627370495 5) r10 → ∀ r15 : List Int, inB (repB 0 4503599627370495 5) r15 → S 101 [[1738742601995546, 1146398526822698, 2070867633025821, 562264141797630, 587772402128613], [1801439850948184, 1351079888211148, 450359962737049, 900719925474099, 1801439850948198]] [r0, r5, r10, r15] →
 K [] [r0, r5, r10, r15]
theorem p_cbase (G) : B_cbase (SG G) (KB k_cbase.res 102) := by
  unfold B_cbase
  intro r0 i0 r5 i5 r10 i10 r15 i15 s0
  have s0 : s_flat [[1738742601995546, 1146398526822698, 2070867633025821, 562264141797630, 587772402128613], [1801439850948184, 1351079888211148, 450359962737049, 900719925474099, 1801439850948198]] [r0, r5, r10, r15] := s0.1
  exact ⟨in_pt i0 i5 i10 i15, s0.1.trans (by decide), s0.2.1.trans (by decide), s0.2.2.1, s0.2.2.2.trans (by decide)⟩

def B_czero (S : Nat → List (List Int) → List (List Int) → Prop) (K : List (List Int) → List (List Int) → Prop) : Prop :=
 
 ∀ r0 : List Int, inB (repB 0 4503599627370495 5) r0 → ∀ r5 : List Int, inB (repB 0 4503599627370495 5) r5 → ∀ r10 : List Int, inB (repB 0 4503599627370495 5) r10 → ∀ r15 : List Int, inB (repB 0 4503599627370495 5) r15 → S 101 [[0, 0, 0, 0, 0], [1, 0, 0, 0, 0]] [r0, r5, r10, r15] →
 K [] [r0, r5, r10, r15]
theorem p_czero (G) : B_czero (SG G) (KB k_czero.res 103) := by
  unfold B_czero
  intro r0 i0 r5 i5 r10 i10 r15 i15 s0
  have s0 : s_flat [[0, 0, 0, 0, 0], [1, 0, 0, 0, 0]] [r0, r5, r10, r15] := s0.1
  exact ⟨in_pt i0 i5 i10 i15, s0.1.trans (by decide), s0.2.1.trans (by decide), s0.2.2.1, s0.2.2.2.trans (by decide)⟩

def B_corner (S : Nat → List (List Int) → List (List Int) → Prop) (K : List (List Int) → List (List Int) → Prop) : Prop :=
 ∀ r0 : List Int, inB (repB 0 4503599627370495 5) r0 → ∀ r5 : List Int, inB (repB 0 4503599627370495 5) r5 → ∀ r10 : List Int, inB (repB 0 4503599627370495 5) r10 → ∀ r15 : List Int, inB (repB 0 4503599627370495 5) r15 → 
 ∀ r20 : List Int, inB (repB 0 4503599627370495 5) r20 → S 33 [r0, r5] [r20] →
 ∀ r25 : List Int, inB (repB 0 4503599627370495 5) r25 → S 33 [r10, r15] [r25] →
 ∀ r30 : List Int, inB (repB 0 4503599627370495 5) r30 → S 33 [r5, r10] [r30] →
 ∀ r35 : List Int, inB (repB 0 4503599627370495 5) r35 → S 33 [r0, r15] [r35] →
 K [r0, r5, r10, r15] [r20, r25, r30, r35]
theorem p_corner (G) : B_corner (SG G) (KB k_corner.res 104) := by
  unfold B_corner
  intro r0 i0 r5 i5 r10 i10 r15 i15 r20 i20 s0 r25 i25 s1 r30 i30 s2 r35 i35 s3
  have s0 : v5 r20 % 57896044618658097711785492504343953926634992332820282019728792003956564819949 = v5 r0 * v5 r5 % 57896044618658097711785492504343953926634992332820282019728792003956564819949 := s0.1
  have s1 : v5 r25 % 57896044618658097711785492504343953926634992332820282019728792003956564819949 = v5 r10 * v5 r15 % 57896044618658097711785492504343953926634992332820282019728792003956564819949 := s1.1
  have s2 : v5 r30 % 57896044618658097711785492504343953926634992332820282019728792003956564819949 = v5 r5 * v5 r10 % 57896044618658097711785492504343953926634992332820282019728792003956564819949 := s2.1
  have s3 : v5 r35 % 57896044618658097711785492504343953926634992332820282019728792003956564819949 = v5 r0 * v5 r15 % 57896044618658097711785492504343953926634992332820282019728792003956564819949 := s3.1
  exact ⟨in_pt i20 i25 i30 i35, s0, s1, s2, s3⟩

def B_cplus (S : Nat → List (List Int) → List (List Int) → Prop) (K : List (List Int) → List (List Int) → Prop) : Prop :=
 ∀ r0 : List Int, inB (repB 0 4503599627370495 5) r0 → ∀ r5 : List Int, inB (repB 0 4503599627370495 5) r5 → ∀ r10 : List Int, inB (repB 0 4503599627370495 5) r10 → ∀ r15 : List Int, inB (repB 0 4503599627370495 5) r15 → ∀ r20 : List Int, inB (repB 0 4503599627370495 5) r20 → ∀ r25 : List Int, inB (repB 0 4503599627370495 5) r25 → ∀ r30 : List Int, inB (repB 0 4503599627370495 5) r30 → ∀ r35 : List Int, inB (repB 0 4503599627370495 5) r35 → 
 ∀ r40 : List Int, inB (repB 0 4503599627370495 5) r40 → S 32 [r5, r0] [r40] →
 ∀ r45 : List Int, inB (repB 0 4503599627370495 5) r45 → S 32 [r25, r20] [r45] →
 ∀ r50 : List Int, inB (repB 0 4503599627370495 5) r50 → S 33 [r40, r45] [r50] →
 ∀ r55 : List Int, inB (repB 0 4503599627370495 5) r55 → S 34 [r5, r0] [r55] →
 ∀ r60 : List Int, inB (repB 0 4503599627370495 5) r60 → S 34 [r25, r20] [r60] →
 ∀ r65 : List Int, inB (repB 0 4503599627370495 5) r65 → S 33 [r55, r60] [r65] →
 ∀ r70 : List Int, inB (repB 0 4503599627370495 5) r70 → S 33 [r15, r35] [r70] →
 ∀ r75 : List Int, inB (repB 0 4503599627370495 5) r75 → S 100 [] [r75] →
 ∀ r80 : List Int, inB (repB 0 4503599627370495 5) r80 → S 33 [r70, r75] [r80] →
 ∀ r85 : List Int, inB (repB 0 4503599627370495 5) r85 → S 33 [r10, r30] [r85] →
 ∀ r90 : List Int, inB (repB 0 4503599627370495 5) r90 → S 34 [r85, r85] [r90] →
 ∀ r95 : List Int, inB (repB 0 4503599627370495 5) r95 → S 32 [r65, r50] [r95] →
 ∀ r100 : List Int, inB (repB 0 4503599627370495 5) r100 → S 32 [r90, r80] [r100] →
 ∀ r105 : List Int, inB (repB 0 4503599627370495 5) r105 → S 34 [r90, r80] [r105] →
 ∀ r110 : List Int, inB (repB 0 4503599627370495 5) r110 → S 34 [r65, r50] [r110] →
 ∀ r115 : List Int, inB (repB 0 4503599627370495 5) r115 → ∀ r120 : List Int, inB (repB 0 4503599627370495 5) r120 → ∀ r125 : List Int, inB (repB 0 4503599627370495 5) r125 → ∀ r130 : List Int, inB (repB 0 4503599627370495 5) r130 → S 104 [r95, r100, r105, r110] [r115, r120, r125, r130] →
 K [r0, r5, r10, r15, r20, r25, r30, r35] [r115, r120, r125, r130]
theorem p_cplus (G) : B_cplus (SG G) (KB k_cplus.res 105) := by
  unfold B_cplus
  intro r0 i0 r5 i5 r10 i10 r15 i15 r20 i20 r25 i25 r30 i30 r35 i35 r40 i40 s0 r45 i45 s1 r50 i50 s2 r55 i55 s3 r60 i60 s4 r65 i65 s5 r70 i70 s6 r75 i75 s7 r80 i80 s8 r85 i85 s9 r90 i90 s10 r95 i95 s11 r100 i100 s12 r105 i105 s13 r110 i110 s14 r115 i115 r120 i120 r125 i125 r130 i130 s15
  have s0 : v5 r40 % 57896044618658097711785492504343953926634992332820282019728792003956564819949 = (v5 r5 - v5 r0) % 57896044618658097711785492504343953926634992332820282019728792003956564819949 := s0.1
  have s1 : v5 r45 % 57896044618658097711785492504343953926634992332820282019728792003956564819949 = (v5 r25 - v5 r20) % 57896044618658097711785492504343953926634992332820282019728792003956564819949 := s1.1
  have s2 : v5 r50 % 57896044618658097711785492504343953926634992332820282019728792003956564819949 = v5 r40 * v5 r45 % 57896044618658097711785492504343953926634992332820282019728792003956564819949 := s2.1
  have s3 : v5 r55 % 57896044618658097711785492504343953926634992332820282019728792003956564819949 = (v5 r5 + v5 r0) % 57896044618658097711785492504343953926634992332820282019728792003956564819949 := s3.1
  have s4 : v5 r60 % 57896044618658097711785492504343953926634992332820282019728792003956564819949 = (v5 r25 + v5 r20) % 57896044618658097711785492504343953926634992332820282019728792003956564819949 := s4.1
  have s5 : v5 r65 % 57896044618658097711785492504343953926634992332820282019728792003956564819949 = v5 r55 * v5 r60 % 57896044618658097711785492504343953926634992332820282019728792003956564819949 := s5.1
  have s6 : v5 r70 % 57896044618658097711785492504343953926634992332820282019728792003956564819949 = v5 r15 * v5 r35 % 57896044618658097711785492504343953926634992332820282019728792003956564819949 := s6.1
  have s7 : s_twice [] [r75] := s7.1
  have s8 : v5 r80 % 57896044618658097711785492504343953926634992332820282019728792003956564819949 = v5 r70 * v5 r75 % 57896044618658097711785492504343953926634992332820282019728792003956564819949 := s8.1
  have s9 : v5 r85 % 57896044618658097711785492504343953926634992332820282019728792003956564819949 = v5 r10 * v5 r30 % 57896044618658097711785492504343953926634992332820282019728792003956564819949 := s9.1
  have s10 : v5 r90 % 57896044618658097711785492504343953926634992332820282019728792003956564819949 = (v5 r85 + v5 r85) % 57896044618658097711785492504343953926634992332820282019728792003956564819949 := s10.1
  have s11 : v5 r95 % 57896044618658097711785492504343953926634992332820282019728792003956564819949 = (v5 r65 - v5 r50) % 57896044618658097711785492504343953926634992332820282019728792003956564819949 := s11.1
  have s12 : v5 r100 % 57896044618658097711785492504343953926634992332820282019728792003956564819949 = (v5 r90 - v5 r80) % 57896044618658097711785492504343953926634992332820282019728792003956564819949 := s12.1
  have s13 : v5 r105 % 57896044618658097711785492504343953926634992332820282019728792003956564819949 = (v5 r90 + v5 r80) % 57896044618658097711785492504343953926634992332820282019728792003956564819949 := s13.1
  have s14 : v5 r110 % 57896044618658097711785492504343953926634992332820282019728792003956564819949 = (v5 r65 + v5 r50) % 57896044618658097711785492504343953926634992332820282019728792003956564819949 := s14.1
  have s15 : s_corner [r95, r100, r105, r110] [r115, r120, r125, r130] := s15.1
  refine ⟨in_pt i115 i120 i125 i130, ?_⟩
  intro A B hA hB q1 q2
  exact rep_plus hA hB q1 q2 s0 s1 s2 s3 s4 s5 s6 s7 s8 s9 s10 s11 s12 s13 s14 s15.1 s15.2.1 s15.2.2.1 s15.2.2.2

def B_doubled (S : Nat → List (List Int) → List (List Int) → Prop) (K : List (List Int) → List (List Int) → Prop) : Prop :=
 ∀ r0 : List Int, inB (repB 0 4503599627370495 5) r0 → ∀ r5 : List Int, inB (repB 0 4503599627370495 5) r5 → ∀ r10 : List Int, inB (repB 0 4503599627370495 5) r10 → 
 ∀ r15 : List Int, inB (repB 0 4503599627370495 5) r15 → S 47 [r0] [r15] →
 ∀ r20 : List Int, inB (repB 0 4503599627370495 5) r20 → S 47 [r5] [r20] →
 ∀ r25 : List Int, inB (repB 0 4503599627370495 5) r25 → S 47 [r10] [r25] →
 ∀ r30 : List Int, inB (repB 0 4503599627370495 5) r30 → S 34 [r25, r25] [r30] →
 ∀ r35 : List Int, inB (repB 0 4503599627370495 5) r35 → S 34 [r15, r20] [r35] →
 ∀ r40 : List Int, inB (repB 0 4503599627370495 5) r40 → S 34 [r0, r5] [r40] →
 ∀ r45 : List Int, inB (repB 0 4503599627370495 5) r45 → S 47 [r40] [r45] →
 ∀ r50 : List Int, inB (repB 0 4503599627370495 5) r50 → S 32 [r35, r45] [r50] →
 ∀ r55 : List Int, inB (repB 0 4503599627370495 5) r55 → S 32 [r15, r20] [r55] →
 ∀ r60 : List Int, inB (repB 0 4503599627370495 5) r60 → S 34 [r30, r55] [r60] →
 ∀ r65 : List Int, inB (repB 0 4503599627370495 5) r65 → ∀ r70 : List Int, inB (repB 0 4503599627370495 5) r70 → ∀ r75 : List Int, inB (repB 0 4503599627370495 5) r75 → ∀ r80 : List Int, inB (repB 0 4503599627370495 5) r80 → S 104 [r50, r60, r55, r35] [r65, r70, r75, r80] →
 K [r0, r5, r10] [r65, r70, r75, r80]
theorem p_doubled (G) : B_doubled (SG G) (KB k_doubled.res 106) := by
  unfold B_doubled
  intro r0 i0 r5 i5 r10 i10 r15 i15 s0 r20 i20 s1 r25 i25 s2 r30 i30 s3 r35 i35 s4 r40 i40 s5 r45 i45 s6 r50 i50 s7 r55 i55 s8 r60 i60 s9 r65 i65 r70 i70 r75 i75 r80 i80 s10
  have s0 : v5 r15 % 57896044618658097711785492504343953926634992332820282019728792003956564819949 = v5 r0 * v5 r0 % 57896044618658097711785492504343953926634992332820282019728792003956564819949 := s0.1
  have s1 : v5 r20 % 57896044618658097711785492504343953926634992332820282019728792003956564819949 = v5 r5 * v5 r5 % 57896044618658097711785492504343953926634992332820282019728792003956564819949 := s1.1
  have s2 : v5 r25 % 57896044618658097711785492504343953926634992332820282019728792003956564819949 = v5 r10 * v5 r10 % 57896044618658097711785492504343953926634992332820282019728792003956564819949 := s2.1
  have s3 : v5 r30 % 57896044618658097711785492504343953926634992332820282019728792003956564819949 = (v5 r25 + v5 r25) % 57896044618658097711785492504343953926634992332820282019728792003956564819949 := s3.1
  have s4 : v5 r35 % 57896044618658097711785492504343953926634992332820282019728792003956564819949 = (v5 r15 + v5 r20) % 57896044618658097711785492504343953926634992332820282019728792003956564819949 := s4.1
  have s5 : v5 r40 % 57896044618658097711785492504343953926634992332820282019728792003956564819949 = (v5 r0 + v5 r5) % 57896044618658097711785492504343953926634992332820282019728792003956564819949 := s5.1
  have s6 : v5 r45 % 57896044618658097711785492504343953926634992332820282019728792003956564819949 = v5 r40 * v5 r40 % 57896044618658097711785492504343953926634992332820282019728792003956564819949 := s6.1
  have s7 : v5 r50 % 57896044618658097711785492504343953926634992332820282019728792003956564819949 = (v5 r35 - v5 r45) % 57896044618658097711785492504343953926634992332820282019728792003956564819949 := s7.1
  have s8 : v5 r55 % 57896044618658097711785492504343953926634992332820282019728792003956564819949 = (v5 r15 - v5 r20) % 57896044618658097711785492504343953926634992332820282019728792003956564819949 := s8.1
  have s9 : v5 r60 % 57896044618658097711785492504343953926634992332820282019728792003956564819949 = (v5 r30 + v5 r55) % 57896044618658097711785492504343953926634992332820282019728792003956564819949 := s9.1
  have s10 : s_corner [r50, r60, r55, r35] [r65, r70, r75, r80] := s10.1
  refine ⟨in_pt i65 i70 i75 i80, ?_⟩
  intro A hA q1
  exact rep_double hA q1 s0 s1 s2 s3 s4 s5 s6 s7 s8 s9 s10.1 s10.2.1 s10.2.2.1 s10.2.2.2

def B_many (S : Nat → List (List Int) → List (List Int) → Prop) (K : List (List Int) → List (List Int) → Prop) : Prop :=
 ∀ r0 : List Int, inB (repB 0 4503599627370495 5) r0 → ∀ r5 : List Int, inB (repB 0 4503599627370495 5) r5 → ∀ r10 : List Int, inB (repB 0 4503599627370495 5) r10 → ∀ r15 : List Int, inB (repB 0 4503599627370495 5) r15 → ∀ r20 : List Int, inB (repB 0 255 32) r20 → 
 ∀ r52 : List Int, inB (repB 0 4503599627370495 5) r52 → ∀ r57 : List Int, inB (repB 0 4503599627370495 5) r57 → ∀ r62 : List Int, inB (repB 0 4503599627370495 5) r62 → ∀ r67 : List Int, inB (repB 0 4503599627370495 5) r67 → S 103 [] [r52, r57, r62, r67] →
 ∃ (I72 : List (List Int) → Prop) (μ72 : List (List Int) → Nat), I72 [[255], r52, r57, r62, r67] ∧ (∀ z73 : Int, (-1) ≤ z73 → z73 ≤ 255 → ∀ r74 : List Int, inB (repB 0 4503599627370495 5) r74 → ∀ r79 : List Int, inB (repB 0 4503599627370495 5) r79 → ∀ r84 : List Int, inB (repB 0 4503599627370495 5) r84 → ∀ r89 : List Int, inB (repB 0 4503599627370495 5) r89 → I72 [[z73], r74, r79, r84, r89] →
  (((decide (0 ≤ z73)) = true →
   ∀ r94 : List Int, inB (repB 0 4503599627370495 5) r94 → ∀ r99 : List Int, inB (repB 0 4503599627370495 5) r99 → ∀ r104 : List Int, inB (repB 0 4503599627370495 5) r104 → ∀ r109 : List Int, inB (repB 0 4503599627370495 5) r109 → S 106 [r74, r79, r84] [r94, r99, r104, r109] →
   ∀ z114 : Int, 0 ≤ z114 → z114 ≤ 31 → 0 ≤ z73 - 8 * z114 → z73 - 8 * z114 < 8 →
   ∀ z115 : Int, 0 ≤ z115 → z115 ≤ 255 → z115 = List.getD r20 (z114).toNat 0 →
   ∀ z116 : Int, 0 ≤ z116 → z116 ≤ 31 → 0 ≤ z73 - 8 * z116 → z73 - 8 * z116 < 8 →
   ∀ z117 : Int, 0 ≤ z117 → z117 ≤ 255 → z117 = z115 / 2 ^ ((z73 + ((-8) * z116))).toNat →
   ∀ z118 : Int, 0 ≤ z118 → z118 ≤ 127 → 0 ≤ z117 - 2 * z118 → z117 - 2 * z118 < 2 →
   (((decide ((z117 + ((-2) * z118)) = 1)) = true →
    ∀ r119 : List Int, inB (repB 0 4503599627370495 5) r119 → ∀ r124 : List Int, inB (repB 0 4503599627370495 5) r124 → ∀ r129 : List Int, inB (repB 0 4503599627370495 5) r129 → ∀ r134 : List Int, inB (repB 0 4503599627370495 5) r134 → S 105 [r94, r99, r104, r109, r0, r5, r10, r15] [r119, r124, r129, r134] →
    (I72 [[(z73 + (-1))], r119, r124, r129, r134] ∧ μ72 [[(z73 + (-1))], r119, r124, r129, r134] < μ72 [[z73], r74, r79, r84, r89])
   ) ∧ ((decide ((z117 + ((-2) * z118)) = 1)) = false →
    (I72 [[(z73 + (-1))], r94, r99, r104, r109] ∧ μ72 [[(z73 + (-1))], r94, r99, r104, r109] < μ72 [[z73], r74, r79, r84, r89])
   ))
  ) ∧ ((decide (0 ≤ z73)) = false →
   K [r0, r5, r10, r15, r20] [r74, r79, r84, r89]
  ))
 )
theorem p_many (G) : B_many (SG G) (KM G) := by
  unfold B_many
  intro r0 i0 r5 i5 r10 i10 r15 i15 r20 i20 r52 i52 r57 i57 r62 i62 r67 i67 s0
  have s0g := s0.2
  have s0 : s_czero [] [r52, r57, r62, r67] := s0.1
  refine ⟨fun l => match l with | [[i], x, y, z, t] => (∀ A, on A → RepI (v5 r0) (v5 r5) (v5 r10) (v5 r15) A → RepI (v5 x) (v5 y) (v5 z) (v5 t) (mulP ((nb r20).toNat / 2 ^ (i + 1).toNat) A)) ∧ [x, y, z, t].flatten = manyF G [r0, r5, r10, r15].flatten (nb r20).toNat (255 - i).toNat | _ => False, fun l => match l with | [[i], _, _, _, _] => (i + 1).toNat | _ => 0, ?_, ?_⟩
  · show (∀ A, on A → RepI (v5 r0) (v5 r5) (v5 r10) (v5 r15) A → RepI (v5 r52) (v5 r57) (v5 r62) (v5 r67) (mulP ((nb r20).toNat / 2 ^ (255 + 1 : Int).toNat) A)) ∧ [r52, r57, r62, r67].flatten = manyF G [r0, r5, r10, r15].flatten (nb r20).toNat (255 - 255 : Int).toNat
    refine ⟨fun A hA hq => ?_, s0g⟩
    rw [top_zero32 i20]
    exact zero_is s0
  · intro z73 a73 b73 r74 i74 r79 i79 r84 i84 r89 i89 hI
    have hI : (∀ A, on A → RepI (v5 r0) (v5 r5) (v5 r10) (v5 r15) A → RepI (v5 r74) (v5 r79) (v5 r84) (v5 r89) (mulP ((nb r20).toNat / 2 ^ (z73 + 1).toNat) A)) ∧ [r74, r79, r84, r89].flatten = manyF G [r0, r5, r10, r15].flatten (nb r20).toNat (255 - z73).toNat := hI
    refine ⟨fun h0 => ?_, fun h0 => ?_⟩
    · skip
      simp only [Bool.not_eq_true', Bool.not_eq_false', Bool.not_true, Bool.not_false, decide_eq_true_eq, decide_eq_false_iff_not] at h0
      intro r94 i94 r99 i99 r104 i104 r109 i109 s1 z114 a114 b114 c114 d114 z115 a115 b115 e115 z116 a116 b116 c116 d116 z117 a117 b117 e117 z118 a118 b118 c118 d118
      have s1g := s1.2
      have s1 : s_doubled [r74, r79, r84] [r94, r99, r104, r109] := s1.1
      refine ⟨fun h1 => ?_, fun h1 => ?_⟩
      · skip
        simp only [Bool.not_eq_true', Bool.not_eq_false', Bool.not_true, Bool.not_false, decide_eq_true_eq, decide_eq_false_iff_not] at h1
        intro r119 i119 r124 i124 r129 i129 r134 i134 s2
        have s2g := s2.2
        have s2 : s_cplus [r94, r99, r104, r109, r0, r5, r10, r15] [r119, r124, r129, r134] := s2.1
        obtain ⟨i, rfl⟩ := Int.eq_ofNat_of_zero_le h0
        have hb := bit32 i20 b73 c114 d114 e115 c116 d116 e117 c118 d118
        have ei : ((i : Int) + 1).toNat = i + 1 := by omega
        have ei2 : ((i : Int) + (-1) + 1).toNat = i := by omega
        obtain ⟨hI, hF⟩ := hI
        rw [ei] at hI
        have ek : (255 - (i : Int)).toNat = 255 - i := by omega
        have ek2 : (255 - ((i : Int) + (-1))).toNat = (255 - i) + 1 := by omega
        have ek3 : 255 - (255 - i) = i := by omega
        rw [ek] at hF
        have g0 : [r94, r99, r104, r109].flatten = G 106 [r74, r79, r84].flatten := s1g
        rw [← take15 i74 i79 i84 i89, hF] at g0
        have g1 : [r119, r124, r129, r134].flatten = G 105 [r94, r99, r104, r109, r0, r5, r10, r15].flatten := s2g
        rw [flat8, g0] at g1
        have hN : (nb r20).toNat / 2 ^ i % 2 = 1 := by omega
        refine ⟨⟨fun A hA hq => ?_, ?_⟩, ?_⟩
        · show RepI (v5 r119) (v5 r124) (v5 r129) (v5 r134) (mulP ((nb r20).toNat / 2 ^ ((i : Int) + (-1) + 1).toNat) A)
          rw [ei2, mulP_bit1 hA hN]
          have k1 := s1 _ (mulP_on hA _) (hI A hA hq).j
          exact s2 _ _ (addP_on (mulP_on hA _) (mulP_on hA _)) hA k1 hq
        · show [r119, r124, r129, r134].flatten = manyF G [r0, r5, r10, r15].flatten (nb r20).toNat (255 - ((i : Int) + (-1))).toNat
          rw [ek2, manyF, ek3]
          have : ((nb r20).toNat / 2 ^ i % 2 == 1) = true := by simpa using hN
          rw [this, cond_true]
          exact g1
        · show ((i : Int) + (-1) + 1).toNat < ((i : Int) + 1).toNat
          omega
      · skip
        simp only [Bool.not_eq_true', Bool.not_eq_false', Bool.not_true, Bool.not_false, decide_eq_true_eq, decide_eq_false_iff_not] at h1
        obtain ⟨i, rfl⟩ := Int.eq_ofNat_of_zero_le h0
        have hb := bit32 i20 b73 c114 d114 e115 c116 d116 e117 c118 d118
        have ei : ((i : Int) + 1).toNat = i + 1 := by omega
        have ei2 : ((i : Int) + (-1) + 1).toNat = i := by omega
        obtain ⟨hI, hF⟩ := hI
        rw [ei] at hI
        have ek : (255 - (i : Int)).toNat = 255 - i := by omega
        have ek2 : (255 - ((i : Int) + (-1))).toNat = (255 - i) + 1 := by omega
        have ek3 : 255 - (255 - i) = i := by omega
        rw [ek] at hF
        have g0 : [r94, r99, r104, r109].flatten = G 106 [r74, r79, r84].flatten := s1g
        rw [← take15 i74 i79 i84 i89, hF] at g0
        have hN : (nb r20).toNat / 2 ^ i % 2 ≠ 1 := by omega
        refine ⟨⟨fun A hA hq => ?_, ?_⟩, ?_⟩
        · show RepI (v5 r94) (v5 r99) (v5 r104) (v5 r109) (mulP ((nb r20).toNat / 2 ^ ((i : Int) + (-1) + 1).toNat) A)
          rw [ei2, mulP_bit0 hA hN]
          exact s1 _ (mulP_on hA _) (hI A hA hq).j
        · show [r94, r99, r104, r109].flatten = manyF G [r0, r5, r10, r15].flatten (nb r20).toNat (255 - ((i : Int) + (-1))).toNat
          rw [ek2, manyF, ek3]
          have : ((nb r20).toNat / 2 ^ i % 2 == 1) = false := by simpa using hN
          rw [this, cond_false]
          exact g0
        · show ((i : Int) + (-1) + 1).toNat < ((i : Int) + 1).toNat
          omega
    · skip
      simp only [Bool.not_eq_true', Bool.not_eq_false', Bool.not_true, Bool.not_false, decide_eq_true_eq, decide_eq_false_iff_not] at h0
      obtain ⟨hI, hF⟩ := hI
      have ei : (z73 + 1).toNat = 0 := by omega
      have ek : (255 - z73).toNat = 256 := by omega
      rw [ei] at hI
      rw [ek] at hF
      refine ⟨⟨in_pt i74 i79 i84 i89, ?_⟩, hF⟩
      intro A hA hq
      have hI := hI A hA hq
      rwa [Nat.pow_zero, Nat.div_one] at hI

def B_cbytes (S : Nat → List (List Int) → List (List Int) → Prop) (K : List (List Int) → List (List Int) → Prop) : Prop :=
 ∀ r0 : List Int, inB (repB 0 4503599627370495 5) r0 → ∀ r5 : List Int, inB (repB 0 4503599627370495 5) r5 → ∀ r10 : List Int, inB (repB 0 4503599627370495 5) r10 → 
 ∀ r15 : List Int, inB (repB 0 4503599627370495 5) r15 → S 35 [r10] [r15] →
 ∀ r20 : List Int, inB (repB 0 4503599627370495 5) r20 → S 33 [r5, r15] [r20] →
 ∀ r25 : List Int, inB (repB 0 255 32) r25 → S 31 [r20] [r25] →
 ∀ r57 : List Int, inB (repB 0 4503599627370495 5) r57 → S 33 [r0, r15] [r57] →
 ∀ z62 : Int, 0 ≤ z62 → z62 ≤ 1 → S 49 [r57] [[z62]] →
 (((decide (z62 = 1)) = true →
  ∀ z63 : Int, 0 ≤ z63 → z63 ≤ IntKind.max .u8 → z63 = bitI .or .u8 (List.getD r25 31 0) 128 →
  K [r0, r5, r10] [[(List.getD r25 0 0), (List.getD r25 1 0), (List.getD r25 2 0), (List.getD r25 3 0), (List.getD r25 4 0), (List.getD r25 5 0), (List.getD r25 6 0), (List.getD r25 7 0), (List.getD r25 8 0), (List.getD r25 9 0), (List.getD r25 10 0), (List.getD r25 11 0), (List.getD r25 12 0), (List.getD r25 13 0), (List.getD r25 14 0), (List.getD r25 15 0), (List.getD r25 16 0), (List.getD r25 17 0), (List.getD r25 18 0), (List.getD r25 19 0), (List.getD r25 20 0), (List.getD r25 21 0), (List.getD r25 22 0), (List.getD r25 23 0), (List.getD r25 24 0), (List.getD r25 25 0), (List.getD r25 26 0), (List.getD r25 27 0), (List.getD r25 28 0), (List.getD r25 29 0), (List.getD r25 30 0), z63]]
 ) ∧ ((decide (z62 = 1)) = false →
  K [r0, r5, r10] [r25]
 ))
theorem p_cbytes (G) : B_cbytes (SG G) (KB k_cbytes.res 108) := by
  unfold B_cbytes
  intro r0 i0 r5 i5 r10 i10 r15 i15 s0 r20 i20 s1 r25 i25 s2 r57 i57 s3 z62 a62 b62 s4
  have s0 : v5 r15 % 57896044618658097711785492504343953926634992332820282019728792003956564819949 = pw (v5 r10) eInv := s0.1
  have s1 : v5 r20 % 57896044618658097711785492504343953926634992332820282019728792003956564819949 = v5 r5 * v5 r15 % 57896044618658097711785492504343953926634992332820282019728792003956564819949 := s1.1
  have s2 : nb r25 = v5 r20 % 57896044618658097711785492504343953926634992332820282019728792003956564819949 := s2.1
  have s3 : v5 r57 % 57896044618658097711785492504343953926634992332820282019728792003956564819949 = v5 r0 * v5 r15 % 57896044618658097711785492504343953926634992332820282019728792003956564819949 := s3.1
  have s4 : z62 = v5 r57 % 57896044618658097711785492504343953926634992332820282019728792003956564819949 % 2 := s4.1
  refine ⟨fun h0 => ?_, fun h0 => ?_⟩
  · skip
    simp only [Bool.not_eq_true', Bool.not_eq_false', Bool.not_true, Bool.not_false, decide_eq_true_eq, decide_eq_false_iff_not] at h0
    intro z63 a63 b63 e63
    have q0 : v5 r20 % 57896044618658097711785492504343953926634992332820282019728792003956564819949 = v5 r5 * iv (v5 r10) % 57896044618658097711785492504343953926634992332820282019728792003956564819949 := s1.trans (cmul rfl (s0.trans (pw_self _ _).symm))
    have q1 : v5 r57 % 57896044618658097711785492504343953926634992332820282019728792003956564819949 = v5 r0 * iv (v5 r10) % 57896044618658097711785492504343953926634992332820282019728792003956564819949 := s3.trans (cmul rfl (s0.trans (pw_self _ _).symm))
    rw [q0] at s2
    rw [q1] at s4
    have hlt : nb r25 < top1 := by rw [s2]; exact Int.lt_trans (mod_r _).2 (by decide)
    have ht := top_lt i25 hlt
    have hg := getD_b i25
    rw [or_top hg.1 ht] at e63
    subst e63
    refine ⟨in_set i25 (by omega) (by omega), ?_⟩
    show nb _ = encI (v5 r0) (v5 r5) (v5 r10)
    rw [nb_set i25]
    unfold encI
    rw [← s4, s2, h0]
    unfold top1
    omega
  · skip
    simp only [Bool.not_eq_true', Bool.not_eq_false', Bool.not_true, Bool.not_false, decide_eq_true_eq, decide_eq_false_iff_not] at h0
    have q0 : v5 r20 % 57896044618658097711785492504343953926634992332820282019728792003956564819949 = v5 r5 * iv (v5 r10) % 57896044618658097711785492504343953926634992332820282019728792003956564819949 := s1.trans (cmul rfl (s0.trans (pw_self _ _).symm))
    have q1 : v5 r57 % 57896044618658097711785492504343953926634992332820282019728792003956564819949 = v5 r0 * iv (v5 r10) % 57896044618658097711785492504343953926634992332820282019728792003956564819949 := s3.trans (cmul rfl (s0.trans (pw_self _ _).symm))
    rw [q0] at s2
    rw [q1] at s4
    have hlt : nb r25 < top1 := by rw [s2]; exact Int.lt_trans (mod_r _).2 (by decide)
    refine ⟨app_nil i25, ?_⟩
    show nb r25 = encI (v5 r0) (v5 r5) (v5 r10)
    unfold encI
    rw [← s4, s2, show z62 = 0 by clear s2 s4 q0 q1 hlt; omega, Int.mul_zero, Int.add_zero]

def B_read (S : Nat → List (List Int) → List (List Int) → Prop) (K : List (List Int) → List (List Int) → Prop) : Prop :=
 ∀ r0 : List Int, inB (repB 0 255 32) r0 → 
 ∀ z32 : Int, 0 ≤ z32 → z32 ≤ 1 → 0 ≤ (List.getD r0 31 0) - 128 * z32 → (List.getD r0 31 0) - 128 * z32 < 128 →
 ∀ z33 : Int, 0 ≤ z33 → z33 ≤ 1 → 0 ≤ (List.getD r0 31 0) - 128 * z33 → (List.getD r0 31 0) - 128 * z33 < 128 →
 ∀ z34 : Int, 0 ≤ z34 → z34 ≤ 1 → S 22 [[(List.getD r0 0 0), (List.getD r0 1 0), (List.getD r0 2 0), (List.getD r0 3 0), (List.getD r0 4 0), (List.getD r0 5 0), (List.getD r0 6 0), (List.getD r0 7 0), (List.getD r0 8 0), (List.getD r0 9 0), (List.getD r0 10 0), (List.getD r0 11 0), (List.getD r0 12 0), (List.getD r0 13 0), (List.getD r0 14 0), (List.getD r0 15 0), (List.getD r0 16 0), (List.getD r0 17 0), (List.getD r0 18 0), (List.getD r0 19 0), (List.getD r0 20 0), (List.getD r0 21 0), (List.getD r0 22 0), (List.getD r0 23 0), (List.getD r0 24 0), (List.getD r0 25 0), (List.getD r0 26 0), (List.getD r0 27 0), (List.getD r0 28 0), (List.getD r0 29 0), (List.getD r0 30 0), ((List.getD r0 31 0) + ((-128) * z33))]] [[z34]] →
 ((((!(decide (z34 = 1)))) = true →
  K [r0] [[0, 0, 0, 0, 0], [0, 0, 0, 0, 0], [0, 0, 0, 0, 0], [0, 0, 0, 0, 0], [(cond (false) 1 0)]]
 ) ∧ (((!(decide (z34 = 1)))) = false →
  ∀ r35 : List Int, inB (repB 0 4503599627370495 5) r35 → S 29 [[(List.getD r0 0 0), (List.getD r0 1 0), (List.getD r0 2 0), (List.getD r0 3 0), (List.getD r0 4 0), (List.getD r0 5 0), (List.getD r0 6 0), (List.getD r0 7 0), (List.getD r0 8 0), (List.getD r0 9 0), (List.getD r0 10 0), (List.getD r0 11 0), (List.getD r0 12 0), (List.getD r0 13 0), (List.getD r0 14 0), (List.getD r0 15 0), (List.getD r0 16 0), (List.getD r0 17 0), (List.getD r0 18 0), (List.getD r0 19 0), (List.getD r0 20 0), (List.getD r0 21 0), (List.getD r0 22 0), (List.getD r0 23 0), (List.getD r0 24 0), (List.getD r0 25 0), (List.getD r0 26 0), (List.getD r0 27 0), (List.getD r0 28 0), (List.getD r0 29 0), (List.getD r0 30 0), ((List.getD r0 31 0) + ((-128) * z33))]] [r35] →
  ∀ r40 : List Int, inB (repB 0 4503599627370495 5) r40 → S 47 [r35] [r40] →
  ∀ r45 : List Int, inB (repB 0 4503599627370495 5) r45 → S 32 [r40, [1, 0, 0, 0, 0]] [r45] →
  ∀ r50 : List Int, inB (repB 0 4503599627370495 5) r50 → S 33 [r40, [929955233495203, 466365720129213, 1662059464998953, 2033849074728123, 1442794654840575]] [r50] →
  ∀ r55 : List Int, inB (repB 0 4503599627370495 5) r55 → S 34 [r50, [1, 0, 0, 0, 0]] [r55] →
  ∀ r60 : List Int, inB (repB 0 4503599627370495 5) r60 → S 35 [r55] [r60] →
  ∀ r65 : List Int, inB (repB 0 4503599627370495 5) r65 → S 33 [r45, r60] [r65] →
  ∀ r70 : List Int, inB (repB 0 4503599627370495 5) r70 → ∀ z75 : Int, 0 ≤ z75 → z75 ≤ 1 → S 30 [r65] [r70, [z75]] →
  ((((!(decide (z75 = 1)))) = true →
   K [r0] [[0, 0, 0, 0, 0], [0, 0, 0, 0, 0], [0, 0, 0, 0, 0], [0, 0, 0, 0, 0], [(cond (false) 1 0)]]
  ) ∧ (((!(decide (z75 = 1)))) = false →
   ((((!(decide ((128 * z32) = 0)))) = true →
    ∀ z76 : Int, 0 ≤ z76 → z76 ≤ 1 → S 48 [r70, [0, 0, 0, 0, 0]] [[z76]] →
    (((decide (z76 = 1)) = true →
     K [r0] [[0, 0, 0, 0, 0], [0, 0, 0, 0, 0], [0, 0, 0, 0, 0], [0, 0, 0, 0, 0], [(cond (false) 1 0)]]
    ) ∧ ((decide (z76 = 1)) = false →
     ∀ r77 : List Int, inB (repB 0 4503599627370495 5) r77 → S 50 [r70] [r77] →
     ∀ r82 : List Int, inB (repB 0 4503599627370495 5) r82 → ∀ r87 : List Int, inB (repB 0 4503599627370495 5) r87 → ∀ r92 : List Int, inB (repB 0 4503599627370495 5) r92 → ∀ r97 : List Int, inB (repB 0 4503599627370495 5) r97 → S 101 [r77, r35] [r82, r87, r92, r97] →
     K [r0] [r82, r87, r92, r97, [(cond (true) 1 0)]]
    ))
   ) ∧ (((!(decide ((128 * z32) = 0)))) = false →
    ∀ r76 : List Int, inB (repB 0 4503599627370495 5) r76 → ∀ r81 : List Int, inB (repB 0 4503599627370495 5) r81 → ∀ r86 : List Int, inB (repB 0 4503599627370495 5) r86 → ∀ r91 : List Int, inB (repB 0 4503599627370495 5) r91 → S 101 [r70, r35] [r76, r81, r86, r91] →
    K [r0] [r76, r81, r86, r91, [(cond (true) 1 0)]]
   ))
  ))
 ))
theorem p_read (G) : B_read (SG G) (KB k_read.res 109) := by
  unfold B_read
  intro r0 i0 z32 a32 b32 c32 d32 z33 a33 b33 c33 d33 z34 a34 b34 s0
  have s0 : z34 = bit (nb [(List.getD r0 0 0), (List.getD r0 1 0), (List.getD r0 2 0), (List.getD r0 3 0), (List.getD r0 4 0), (List.getD r0 5 0), (List.getD r0 6 0), (List.getD r0 7 0), (List.getD r0 8 0), (List.getD r0 9 0), (List.getD r0 10 0), (List.getD r0 11 0), (List.getD r0 12 0), (List.getD r0 13 0), (List.getD r0 14 0), (List.getD r0 15 0), (List.getD r0 16 0), (List.getD r0 17 0), (List.getD r0 18 0), (List.getD r0 19 0), (List.getD r0 20 0), (List.getD r0 21 0), (List.getD r0 22 0), (List.getD r0 23 0), (List.getD r0 24 0), (List.getD r0 25 0), (List.getD r0 26 0), (List.getD r0 27 0), (List.getD r0 28 0), (List.getD r0 29 0), (List.getD r0 30 0), ((List.getD r0 31 0) + ((-128) * z33))] < 57896044618658097711785492504343953926634992332820282019728792003956564819949) := s0.1
  refine ⟨fun h0 => ?_, fun h0 => ?_⟩
  · skip
    simp only [Bool.not_eq_true', Bool.not_eq_false', Bool.not_true, Bool.not_false, decide_eq_true_eq, decide_eq_false_iff_not] at h0
    have hm := mask31 i0 c33 d33
    have hz : z32 = z33 := by clear s0; omega
    rw [hm.1] at s0
    refine ⟨in_ptb in_zero5 in_zero5 in_zero5 in_zero5 (by decide), ?_⟩
    rw [s0] at h0
    show RDP (dec (nb r0)) _ _ _ _ _
    rw [dec_big (bit_none h0)]
    rfl
  · skip
    simp only [Bool.not_eq_true', Bool.not_eq_false', Bool.not_true, Bool.not_false, decide_eq_true_eq, decide_eq_false_iff_not] at h0
    intro r35 i35 s1 r40 i40 s2 r45 i45 s3 r50 i50 s4 r55 i55 s5 r60 i60 s6 r65 i65 s7 r70 i70 z75 a75 b75 s8
    have s1 : v5 r35 % 57896044618658097711785492504343953926634992332820282019728792003956564819949 = nb [(List.getD r0 0 0), (List.getD r0 1 0), (List.getD r0 2 0), (List.getD r0 3 0), (List.getD r0 4 0), (List.getD r0 5 0), (List.getD r0 6 0), (List.getD r0 7 0), (List.getD r0 8 0), (List.getD r0 9 0), (List.getD r0 10 0), (List.getD r0 11 0), (List.getD r0 12 0), (List.getD r0 13 0), (List.getD r0 14 0), (List.getD r0 15 0), (List.getD r0 16 0), (List.getD r0 17 0), (List.getD r0 18 0), (List.getD r0 19 0), (List.getD r0 20 0), (List.getD r0 21 0), (List.getD r0 22 0), (List.getD r0 23 0), (List.getD r0 24 0), (List.getD r0 25 0), (List.getD r0 26 0), (List.getD r0 27 0), (List.getD r0 28 0), (List.getD r0 29 0), (List.getD r0 30 0), ((List.getD r0 31 0) + ((-128) * z33))] % 57896044618658097711785492504343953926634992332820282019728792003956564819949 := s1.1
    have s2 : v5 r40 % 57896044618658097711785492504343953926634992332820282019728792003956564819949 = v5 r35 * v5 r35 % 57896044618658097711785492504343953926634992332820282019728792003956564819949 := s2.1
    have s3 : v5 r45 % 57896044618658097711785492504343953926634992332820282019728792003956564819949 = (v5 r40 - v5 [1, 0, 0, 0, 0]) % 57896044618658097711785492504343953926634992332820282019728792003956564819949 := s3.1
    have s4 : v5 r50 % 57896044618658097711785492504343953926634992332820282019728792003956564819949 = v5 r40 * v5 [929955233495203, 466365720129213, 1662059464998953, 2033849074728123, 1442794654840575] % 57896044618658097711785492504343953926634992332820282019728792003956564819949 := s4.1
    have s5 : v5 r55 % 57896044618658097711785492504343953926634992332820282019728792003956564819949 = (v5 r50 + v5 [1, 0, 0, 0, 0]) % 57896044618658097711785492504343953926634992332820282019728792003956564819949 := s5.1
    have s6 : v5 r60 % 57896044618658097711785492504343953926634992332820282019728792003956564819949 = pw (v5 r55) eInv := s6.1
    have s7 : v5 r65 % 57896044618658097711785492504343953926634992332820282019728792003956564819949 = v5 r45 * v5 r60 % 57896044618658097711785492504343953926634992332820282019728792003956564819949 := s7.1
    have s8 : (v5 r70 % 57896044618658097711785492504343953926634992332820282019728792003956564819949, z75) = sqP (v5 r65 % 57896044618658097711785492504343953926634992332820282019728792003956564819949) := s8.1
    refine ⟨fun h1 => ?_, fun h1 => ?_⟩
    · skip
      simp only [Bool.not_eq_true', Bool.not_eq_false', Bool.not_true, Bool.not_false, decide_eq_true_eq, decide_eq_false_iff_not] at h1
      have hm := mask31 i0 c33 d33
      have hz : z32 = z33 := by clear s0; omega
      rw [hm.1] at s0
      have hy : nb r0 % top1 < 57896044618658097711785492504343953926634992332820282019728792003956564819949 := bit_one (by rw [← s0]; exact h0)
      rw [hm.1] at s1
      have q := read_q s1 s2 s3 s4 s5 s6 s7
      rw [q] at s8
      have hk : z75 = 0 := by omega
      refine ⟨in_ptb in_zero5 in_zero5 in_zero5 in_zero5 (by decide), ?_⟩
      show RDP (dec (nb r0)) _ _ _ _ _
      rw [dec_none hy s8 hk]
      rfl
    · skip
      simp only [Bool.not_eq_true', Bool.not_eq_false', Bool.not_true, Bool.not_false, decide_eq_true_eq, decide_eq_false_iff_not] at h1
      refine ⟨fun h2 => ?_, fun h2 => ?_⟩
      · skip
        simp only [Bool.not_eq_true', Bool.not_eq_false', Bool.not_true, Bool.not_false, decide_eq_true_eq, decide_eq_false_iff_not] at h2
        intro z76 a76 b76 s9
        have s9 : z76 = bit (v5 r70 % 57896044618658097711785492504343953926634992332820282019728792003956564819949 = v5 [0, 0, 0, 0, 0] % 57896044618658097711785492504343953926634992332820282019728792003956564819949) := s9.1
        refine ⟨fun h3 => ?_, fun h3 => ?_⟩
        · skip
          simp only [Bool.not_eq_true', Bool.not_eq_false', Bool.not_true, Bool.not_false, decide_eq_true_eq, decide_eq_false_iff_not] at h3
          have hm := mask31 i0 c33 d33
          have hz : z32 = z33 := by clear s0; omega
          rw [hm.1] at s0
          have hy : nb r0 % top1 < 57896044618658097711785492504343953926634992332820282019728792003956564819949 := bit_one (by rw [← s0]; exact h0)
          rw [hm.1] at s1
          have q := read_q s1 s2 s3 s4 s5 s6 s7
          rw [q] at s8
          have hk : z75 ≠ 0 := by omega
          have ho : nb r0 / top1 = 1 := by rw [← hm.2]; omega
          rw [s9] at h3
          have hq := bit_one h3
          have hq : v5 r70 % 57896044618658097711785492504343953926634992332820282019728792003956564819949 = 0 := hq
          refine ⟨in_ptb in_zero5 in_zero5 in_zero5 in_zero5 (by decide), ?_⟩
          show RDP (dec (nb r0)) _ _ _ _ _
          rw [dec_odd0 hy s8 hk ho hq]
          rfl
        · skip
          simp only [Bool.not_eq_true', Bool.not_eq_false', Bool.not_true, Bool.not_false, decide_eq_true_eq, decide_eq_false_iff_not] at h3
          intro r77 i77 s10 r82 i82 r87 i87 r92 i92 r97 i97 s11
          have s10 : v5 r77 % 57896044618658097711785492504343953926634992332820282019728792003956564819949 = (0 - v5 r70) % 57896044618658097711785492504343953926634992332820282019728792003956564819949 := s10.1
          have s11 : s_flat [r77, r35] [r82, r87, r92, r97] := s11.1
          have hm := mask31 i0 c33 d33
          have hz : z32 = z33 := by clear s0; omega
          rw [hm.1] at s0
          have hy : nb r0 % top1 < 57896044618658097711785492504343953926634992332820282019728792003956564819949 := bit_one (by rw [← s0]; exact h0)
          rw [hm.1] at s1
          have q := read_q s1 s2 s3 s4 s5 s6 s7
          rw [q] at s8
          have hk : z75 ≠ 0 := by omega
          have ho : nb r0 / top1 = 1 := by rw [← hm.2]; omega
          rw [s9] at h3
          have hq := bit_none h3
          have hq : v5 r70 % 57896044618658097711785492504343953926634992332820282019728792003956564819949 ≠ 0 := hq
          refine ⟨in_ptb i82 i87 i92 i97 (by decide), ?_⟩
          show RDP (dec (nb r0)) _ _ _ _ _
          rw [dec_odd hy s8 hk ho hq]
          have u1 : v5 r82 % 57896044618658097711785492504343953926634992332820282019728792003956564819949 = (0 - v5 r70 % 57896044618658097711785492504343953926634992332820282019728792003956564819949) % 57896044618658097711785492504343953926634992332820282019728792003956564819949 := s11.1.trans (s10.trans (csub rfl (Int.emod_emod _ _).symm))
          have u2 : v5 r87 % 57896044618658097711785492504343953926634992332820282019728792003956564819949 = nb r0 % top1 := s11.2.1.trans (s1.trans (Int.emod_eq_of_lt (Int.emod_nonneg _ (by decide)) hy))
          exact ⟨rfl, u1, u2, s11.2.2.1, s11.2.2.2.trans (cmul (s11.1.symm.trans (u1.trans (Int.emod_emod _ _).symm)) s1)⟩
      · skip
        simp only [Bool.not_eq_true', Bool.not_eq_false', Bool.not_true, Bool.not_false, decide_eq_true_eq, decide_eq_false_iff_not] at h2
        intro r76 i76 r81 i81 r86 i86 r91 i91 s9
        have s9 : s_flat [r70, r35] [r76, r81, r86, r91] := s9.1
        have hm := mask31 i0 c33 d33
        have hz : z32 = z33 := by clear s0; omega
        rw [hm.1] at s0
        have hy : nb r0 % top1 < 57896044618658097711785492504343953926634992332820282019728792003956564819949 := bit_one (by rw [← s0]; exact h0)
        rw [hm.1] at s1
        have q := read_q s1 s2 s3 s4 s5 s6 s7
        rw [q] at s8
        have hk : z75 ≠ 0 := by omega
        have ho : ¬ nb r0 / top1 = 1 := by rw [← hm.2]; omega
        refine ⟨in_ptb i76 i81 i86 i91 (by decide), ?_⟩
        show RDP (dec (nb r0)) _ _ _ _ _
        rw [dec_even hy s8 hk ho]
        have u2 : v5 r81 % 57896044618658097711785492504343953926634992332820282019728792003956564819949 = nb r0 % top1 := s9.2.1.trans (s1.trans (Int.emod_eq_of_lt (Int.emod_nonneg _ (by decide)) hy))
        exact ⟨rfl, s9.1, u2, s9.2.2.1, s9.2.2.2.trans (cmul (Int.emod_emod _ _).symm s1)⟩

def B_cright (S : Nat → List (List Int) → List (List Int) → Prop) (K : List (List Int) → List (List Int) → Prop) : Prop :=
 ∀ r0 : List Int, inB (repB 0 255 32) r0 → 
 ∀ r32 : List Int, inB (repB 0 4503599627370495 5) r32 → ∀ r37 : List Int, inB (repB 0 4503599627370495 5) r37 → ∀ r42 : List Int, inB (repB 0 4503599627370495 5) r42 → ∀ r47 : List Int, inB (repB 0 4503599627370495 5) r47 → ∀ z52 : Int, 0 ≤ z52 → z52 ≤ 1 → S 109 [r0] [r32, r37, r42, r47, [z52]] →
 K [r0] [[(cond (decide (z52 = 1)) 1 0)]]
theorem p_cright (G) : B_cright (SG G) (KB k_cright.res 110) := by
  unfold B_cright
  intro r0 i0 r32 i32 r37 i37 r42 i42 r47 i47 z52 a52 b52 s0
  have s0 : s_read [r0] [r32, r37, r42, r47, [z52]] := s0.1
  refine ⟨⟨(cond_in _).1, (cond_in _).2, trivial⟩, ?_⟩
  show cond _ _ _ = bit _
  rw [cond_bit]
  exact rd_bit s0

def B_cadd (S : Nat → List (List Int) → List (List Int) → Prop) (K : List (List Int) → List (List Int) → Prop) : Prop :=
 ∀ r0 : List Int, inB (repB 0 255 32) r0 → ∀ r32 : List Int, inB (repB 0 255 32) r32 → 
 ∀ r64 : List Int, inB (repB 0 4503599627370495 5) r64 → ∀ r69 : List Int, inB (repB 0 4503599627370495 5) r69 → ∀ r74 : List Int, inB (repB 0 4503599627370495 5) r74 → ∀ r79 : List Int, inB (repB 0 4503599627370495 5) r79 → ∀ z84 : Int, 0 ≤ z84 → z84 ≤ 1 → S 109 [r0] [r64, r69, r74, r79, [z84]] →
 ((((!(decide (z84 = 1)))) = true →
  K [r0, r32] [[0, 0, 0, 0, 0, 0, 0, 0, 0, 0, 0, 0, 0, 0, 0, 0, 0, 0, 0, 0, 0, 0, 0, 0, 0, 0, 0, 0, 0, 0, 0, 0], [1]]
 ) ∧ (((!(decide (z84 = 1)))) = false →
  ((
   ∀ r85 : List Int, inB (repB 0 4503599627370495 5) r85 → ∀ r90 : List Int, inB (repB 0 4503599627370495 5) r90 → ∀ r95 : List Int, inB (repB 0 4503599627370495 5) r95 → ∀ r100 : List Int, inB (repB 0 4503599627370495 5) r100 → ∀ z105 : Int, 0 ≤ z105 → z105 ≤ 1 → S 109 [r32] [r85, r90, r95, r100, [z105]] →
   ((((!(decide (z105 = 1)))) = true →
    K [r0, r32] [[0, 0, 0, 0, 0, 0, 0, 0, 0, 0, 0, 0, 0, 0, 0, 0, 0, 0, 0, 0, 0, 0, 0, 0, 0, 0, 0, 0, 0, 0, 0, 0], [1]]
   ) ∧ (((!(decide (z105 = 1)))) = false →
    ((
     ∀ r106 : List Int, inB (repB 0 4503599627370495 5) r106 → ∀ r111 : List Int, inB (repB 0 4503599627370495 5) r111 → ∀ r116 : List Int, inB (repB 0 4503599627370495 5) r116 → ∀ r121 : List Int, inB (repB 0 4503599627370495 5) r121 → S 105 [r64, r69, r74, r79, r85, r90, r95, r100] [r106, r111, r116, r121] →
     ∀ r126 : List Int, inB (repB 0 255 32) r126 → S 108 [r106, r111, r116] [r126] →
     K [r0, r32] [r126, [0]]
    ) ∧ (
     ∀ r106 : List Int, inB (repB 0 4503599627370495 5) r106 → ∀ r111 : List Int, inB (repB 0 4503599627370495 5) r111 → ∀ r116 : List Int, inB (repB 0 4503599627370495 5) r116 → ∀ r121 : List Int, inB (repB 0 4503599627370495 5) r121 → S 105 [r64, r69, r74, r79, r85, r90, r95, r100] [r106, r111, r116, r121] →
     ∀ r126 : List Int, inB (repB 0 255 32) r126 → S 108 [r106, r111, r116] [r126] →
     K [r0, r32] [r126, [0]]
    ))
   ))
  ) ∧ (
   ∀ r85 : List Int, inB (repB 0 4503599627370495 5) r85 → ∀ r90 : List Int, inB (repB 0 4503599627370495 5) r90 → ∀ r95 : List Int, inB (repB 0 4503599627370495 5) r95 → ∀ r100 : List Int, inB (repB 0 4503599627370495 5) r100 → ∀ z105 : Int, 0 ≤ z105 → z105 ≤ 1 → S 109 [r32] [r85, r90, r95, r100, [z105]] →
   ((((!(decide (z105 = 1)))) = true →
    K [r0, r32] [[0, 0, 0, 0, 0, 0, 0, 0, 0, 0, 0, 0, 0, 0, 0, 0, 0, 0, 0, 0, 0, 0, 0, 0, 0, 0, 0, 0, 0, 0, 0, 0], [1]]
   ) ∧ (((!(decide (z105 = 1)))) = false →
    ∀ r106 : List Int, inB (repB 0 4503599627370495 5) r106 → ∀ r111 : List Int, inB (repB 0 4503599627370495 5) r111 → ∀ r116 : List Int, inB (repB 0 4503599627370495 5) r116 → ∀ r121 : List Int, inB (repB 0 4503599627370495 5) r121 → S 105 [r64, r69, r74, r79, r85, r90, r95, r100] [r106, r111, r116, r121] →
    ∀ r126 : List Int, inB (repB 0 255 32) r126 → S 108 [r106, r111, r116] [r126] →
    K [r0, r32] [r126, [0]]
   ))
  ))
 ))
theorem p_cadd (G) : B_cadd (SG G) (KB k_cadd.res 111) := by
  unfold B_cadd
  intro r0 i0 r32 i32 r64 i64 r69 i69 r74 i74 r79 i79 z84 a84 b84 s0
  have s0 : s_read [r0] [r64, r69, r74, r79, [z84]] := s0.1
  refine ⟨fun h0 => ?_, fun h0 => ?_⟩
  · skip
    simp only [Bool.not_eq_true', Bool.not_eq_false', Bool.not_true, Bool.not_false, decide_eq_true_eq, decide_eq_false_iff_not] at h0
    have e := rd_none s0 h0
    refine ⟨in_be in_zero32 (by decide), ?_⟩
    show RT _ _ _
    rw [e]
    exact ⟨rfl, by decide⟩
  · skip
    simp only [Bool.not_eq_true', Bool.not_eq_false', Bool.not_true, Bool.not_false, decide_eq_true_eq, decide_eq_false_iff_not] at h0
    refine ⟨?_, ?_⟩
    · skip
      intro r85 i85 r90 i90 r95 i95 r100 i100 z105 a105 b105 s1
      have s1 : s_read [r32] [r85, r90, r95, r100, [z105]] := s1.1
      refine ⟨fun h1 => ?_, fun h1 => ?_⟩
      · skip
        simp only [Bool.not_eq_true', Bool.not_eq_false', Bool.not_true, Bool.not_false, decide_eq_true_eq, decide_eq_false_iff_not] at h1
        obtain ⟨A1, e1, q1⟩ := rd_some s0 h0
        have e := rd_none s1 h1
        refine ⟨in_be in_zero32 (by decide), ?_⟩
        show RT _ _ _
        rw [e1, e]
        exact ⟨rfl, by decide⟩
      · skip
        simp only [Bool.not_eq_true', Bool.not_eq_false', Bool.not_true, Bool.not_false, decide_eq_true_eq, decide_eq_false_iff_not] at h1
        refine ⟨?_, ?_⟩
        · skip
          intro r106 i106 r111 i111 r116 i116 r121 i121 s2 r126 i126 s3
          have s2 : s_cplus [r64, r69, r74, r79, r85, r90, r95, r100] [r106, r111, r116, r121] := s2.1
          have s3 : s_cbytes [r106, r111, r116] [r126] := s3.1
          obtain ⟨A1, e1, q1⟩ := rd_some s0 h0
          obtain ⟨A2, e2, q2⟩ := rd_some s1 h1
          have o1 := dec_on e1
          have o2 := dec_on e2
          have q := s2 _ _ o1 o2 q1 q2
          refine ⟨in_be i126 (by decide), ?_⟩
          show RT _ _ _
          rw [e1, e2]
          exact ⟨rfl, s3.trans (rep_enc (addP_on o1 o2) q.j)⟩
        · skip
          intro r106 i106 r111 i111 r116 i116 r121 i121 s2 r126 i126 s3
          have s2 : s_cplus [r64, r69, r74, r79, r85, r90, r95, r100] [r106, r111, r116, r121] := s2.1
          have s3 : s_cbytes [r106, r111, r116] [r126] := s3.1
          obtain ⟨A1, e1, q1⟩ := rd_some s0 h0
          obtain ⟨A2, e2, q2⟩ := rd_some s1 h1
          have o1 := dec_on e1
          have o2 := dec_on e2
          have q := s2 _ _ o1 o2 q1 q2
          refine ⟨in_be i126 (by decide), ?_⟩
          show RT _ _ _
          rw [e1, e2]
          exact ⟨rfl, s3.trans (rep_enc (addP_on o1 o2) q.j)⟩
    · skip
      intro r85 i85 r90 i90 r95 i95 r100 i100 z105 a105 b105 s1
      have s1 : s_read [r32] [r85, r90, r95, r100, [z105]] := s1.1
      refine ⟨fun h2 => ?_, fun h2 => ?_⟩
      · skip
        simp only [Bool.not_eq_true', Bool.not_eq_false', Bool.not_true, Bool.not_false, decide_eq_true_eq, decide_eq_false_iff_not] at h2
        obtain ⟨A1, e1, q1⟩ := rd_some s0 h0
        have e := rd_none s1 h2
        refine ⟨in_be in_zero32 (by decide), ?_⟩
        show RT _ _ _
        rw [e1, e]
        exact ⟨rfl, by decide⟩
      · skip
        simp only [Bool.not_eq_true', Bool.not_eq_false', Bool.not_true, Bool.not_false, decide_eq_true_eq, decide_eq_false_iff_not] at h2
        intro r106 i106 r111 i111 r116 i116 r121 i121 s2 r126 i126 s3
        have s2 : s_cplus [r64, r69, r74, r79, r85, r90, r95, r100] [r106, r111, r116, r121] := s2.1
        have s3 : s_cbytes [r106, r111, r116] [r126] := s3.1
        obtain ⟨A1, e1, q1⟩ := rd_some s0 h0
        obtain ⟨A2, e2, q2⟩ := rd_some s1 h2
        have o1 := dec_on e1
        have o2 := dec_on e2
        have q := s2 _ _ o1 o2 q1 q2
        refine ⟨in_be i126 (by decide), ?_⟩
        show RT _ _ _
        rw [e1, e2]
        exact ⟨rfl, s3.trans (rep_enc (addP_on o1 o2) q.j)⟩

def B_cneg (S : Nat → List (List Int) → List (List Int) → Prop) (K : List (List Int) → List (List Int) → Prop) : Prop :=
 ∀ r0 : List Int, inB (repB 0 255 32) r0 → 
 ∀ r32 : List Int, inB (repB 0 4503599627370495 5) r32 → ∀ r37 : List Int, inB (repB 0 4503599627370495 5) r37 → ∀ r42 : List Int, inB (repB 0 4503599627370495 5) r42 → ∀ r47 : List Int, inB (repB 0 4503599627370495 5) r47 → ∀ z52 : Int, 0 ≤ z52 → z52 ≤ 1 → S 109 [r0] [r32, r37, r42, r47, [z52]] →
 ((((!(decide (z52 = 1)))) = true →
  K [r0] [[0, 0, 0, 0, 0, 0, 0, 0, 0, 0, 0, 0, 0, 0, 0, 0, 0, 0, 0, 0, 0, 0, 0, 0, 0, 0, 0, 0, 0, 0, 0, 0], [1]]
 ) ∧ (((!(decide (z52 = 1)))) = false →
  ((
   ∀ r53 : List Int, inB (repB 0 4503599627370495 5) r53 → S 50 [r32] [r53] →
   ∀ r58 : List Int, inB (repB 0 255 32) r58 → S 108 [r53, r37, r42] [r58] →
   K [r0] [r58, [0]]
  ) ∧ (
   ∀ r53 : List Int, inB (repB 0 4503599627370495 5) r53 → S 50 [r32] [r53] →
   ∀ r58 : List Int, inB (repB 0 255 32) r58 → S 108 [r53, r37, r42] [r58] →
   K [r0] [r58, [0]]
  ))
 ))
theorem p_cneg (G) : B_cneg (SG G) (KB k_cneg.res 112) := by
  unfold B_cneg
  intro r0 i0 r32 i32 r37 i37 r42 i42 r47 i47 z52 a52 b52 s0
  have s0 : s_read [r0] [r32, r37, r42, r47, [z52]] := s0.1
  refine ⟨fun h0 => ?_, fun h0 => ?_⟩
  · skip
    simp only [Bool.not_eq_true', Bool.not_eq_false', Bool.not_true, Bool.not_false, decide_eq_true_eq, decide_eq_false_iff_not] at h0
    have e := rd_none s0 h0
    refine ⟨in_be in_zero32 (by decide), ?_⟩
    show RT _ _ _
    rw [e]
    exact ⟨rfl, by decide⟩
  · skip
    simp only [Bool.not_eq_true', Bool.not_eq_false', Bool.not_true, Bool.not_false, decide_eq_true_eq, decide_eq_false_iff_not] at h0
    refine ⟨?_, ?_⟩
    · skip
      intro r53 i53 s1 r58 i58 s2
      have s1 : v5 r53 % 57896044618658097711785492504343953926634992332820282019728792003956564819949 = (0 - v5 r32) % 57896044618658097711785492504343953926634992332820282019728792003956564819949 := s1.1
      have s2 : s_cbytes [r53, r37, r42] [r58] := s2.1
      obtain ⟨A1, e1, q1⟩ := rd_some s0 h0
      have o1 := dec_on e1
      refine ⟨in_be i58 (by decide), ?_⟩
      show RT _ _ _
      rw [e1]
      exact ⟨rfl, s2.trans (rep_enc (negP_on o1) (neg_rep (s1) q1.j))⟩
    · skip
      intro r53 i53 s1 r58 i58 s2
      have s1 : v5 r53 % 57896044618658097711785492504343953926634992332820282019728792003956564819949 = (0 - v5 r32) % 57896044618658097711785492504343953926634992332820282019728792003956564819949 := s1.1
      have s2 : s_cbytes [r53, r37, r42] [r58] := s2.1
      obtain ⟨A1, e1, q1⟩ := rd_some s0 h0
      have o1 := dec_on e1
      refine ⟨in_be i58 (by decide), ?_⟩
      show RT _ _ _
      rw [e1]
      exact ⟨rfl, s2.trans (rep_enc (negP_on o1) (neg_rep (s1) q1.j))⟩

def B_ctimes (S : Nat → List (List Int) → List (List Int) → Prop) (K : List (List Int) → List (List Int) → Prop) : Prop :=
 ∀ r0 : List Int, inB (repB 0 255 32) r0 → ∀ r32 : List Int, inB (repB 0 255 32) r32 → 
 ∀ r64 : List Int, inB (repB 0 4503599627370495 5) r64 → ∀ r69 : List Int, inB (repB 0 4503599627370495 5) r69 → ∀ r74 : List Int, inB (repB 0 4503599627370495 5) r74 → ∀ r79 : List Int, inB (repB 0 4503599627370495 5) r79 → ∀ z84 : Int, 0 ≤ z84 → z84 ≤ 1 → S 109 [r32] [r64, r69, r74, r79, [z84]] →
 ((((!(decide (z84 = 1)))) = true →
  K [r0, r32] [[0, 0, 0, 0, 0, 0, 0, 0, 0, 0, 0, 0, 0, 0, 0, 0, 0, 0, 0, 0, 0, 0, 0, 0, 0, 0, 0, 0, 0, 0, 0, 0], [1]]
 ) ∧ (((!(decide (z84 = 1)))) = false →
  ((
   ∀ r85 : List Int, inB (repB 0 4503599627370495 5) r85 → ∀ r90 : List Int, inB (repB 0 4503599627370495 5) r90 → ∀ r95 : List Int, inB (repB 0 4503599627370495 5) r95 → ∀ r100 : List Int, inB (repB 0 4503599627370495 5) r100 → S 107 [r64, r69, r74, r79, r0] [r85, r90, r95, r100] →
   ∀ r105 : List Int, inB (repB 0 255 32) r105 → S 108 [r85, r90, r95] [r105] →
   K [r0, r32] [r105, [0]]
  ) ∧ (
   ∀ r85 : List Int, inB (repB 0 4503599627370495 5) r85 → ∀ r90 : List Int, inB (repB 0 4503599627370495 5) r90 → ∀ r95 : List Int, inB (repB 0 4503599627370495 5) r95 → ∀ r100 : List Int, inB (repB 0 4503599627370495 5) r100 → S 107 [r64, r69, r74, r79, r0] [r85, r90, r95, r100] →
   ∀ r105 : List Int, inB (repB 0 255 32) r105 → S 108 [r85, r90, r95] [r105] →
   K [r0, r32] [r105, [0]]
  ))
 ))
theorem p_ctimes (G) : B_ctimes (SG G) (KB k_ctimes.res 113) := by
  unfold B_ctimes
  intro r0 i0 r32 i32 r64 i64 r69 i69 r74 i74 r79 i79 z84 a84 b84 s0
  have s0 : s_read [r32] [r64, r69, r74, r79, [z84]] := s0.1
  refine ⟨fun h0 => ?_, fun h0 => ?_⟩
  · skip
    simp only [Bool.not_eq_true', Bool.not_eq_false', Bool.not_true, Bool.not_false, decide_eq_true_eq, decide_eq_false_iff_not] at h0
    have e := rd_none s0 h0
    refine ⟨in_be in_zero32 (by decide), ?_⟩
    show RT _ _ _
    rw [e]
    exact ⟨rfl, by decide⟩
  · skip
    simp only [Bool.not_eq_true', Bool.not_eq_false', Bool.not_true, Bool.not_false, decide_eq_true_eq, decide_eq_false_iff_not] at h0
    refine ⟨?_, ?_⟩
    · skip
      intro r85 i85 r90 i90 r95 i95 r100 i100 s1 r105 i105 s2
      have s1 : s_many [r64, r69, r74, r79, r0] [r85, r90, r95, r100] := s1.1
      have s2 : s_cbytes [r85, r90, r95] [r105] := s2.1
      obtain ⟨A1, e1, q1⟩ := rd_some s0 h0
      have o1 := dec_on e1
      refine ⟨in_be i105 (by decide), ?_⟩
      show RT _ _ _
      rw [e1]
      exact ⟨rfl, s2.trans (rep_enc (mulP_on o1 _) (s1 _ o1 q1).j)⟩
    · skip
      intro r85 i85 r90 i90 r95 i95 r100 i100 s1 r105 i105 s2
      have s1 : s_many [r64, r69, r74, r79, r0] [r85, r90, r95, r100] := s1.1
      have s2 : s_cbytes [r85, r90, r95] [r105] := s2.1
      obtain ⟨A1, e1, q1⟩ := rd_some s0 h0
      have o1 := dec_on e1
      refine ⟨in_be i105 (by decide), ?_⟩
      show RT _ _ _
      rw [e1]
      exact ⟨rfl, s2.trans (rep_enc (mulP_on o1 _) (s1 _ o1 q1).j)⟩

def B_base (S : Nat → List (List Int) → List (List Int) → Prop) (K : List (List Int) → List (List Int) → Prop) : Prop :=
 ∀ r0 : List Int, inB (repB 0 255 32) r0 → 
 ∀ r32 : List Int, inB (repB 0 4503599627370495 5) r32 → ∀ r37 : List Int, inB (repB 0 4503599627370495 5) r37 → ∀ r42 : List Int, inB (repB 0 4503599627370495 5) r42 → ∀ r47 : List Int, inB (repB 0 4503599627370495 5) r47 → S 102 [] [r32, r37, r42, r47] →
 ∀ r52 : List Int, inB (repB 0 4503599627370495 5) r52 → ∀ r57 : List Int, inB (repB 0 4503599627370495 5) r57 → ∀ r62 : List Int, inB (repB 0 4503599627370495 5) r62 → ∀ r67 : List Int, inB (repB 0 4503599627370495 5) r67 → S 107 [r32, r37, r42, r47, r0] [r52, r57, r62, r67] →
 ∀ r72 : List Int, inB (repB 0 255 32) r72 → S 108 [r52, r57, r62] [r72] →
 K [r0] [r72]
theorem p_base (G) : B_base (SG G) (KB k_base.res 114) := by
  unfold B_base
  intro r0 i0 r32 i32 r37 i37 r42 i42 r47 i47 s0 r52 i52 r57 i57 r62 i62 r67 i67 s1 r72 i72 s2
  have s0 : s_cbase [] [r32, r37, r42, r47] := s0.1
  have s1 : s_many [r32, r37, r42, r47, r0] [r52, r57, r62, r67] := s1.1
  have s2 : s_cbytes [r52, r57, r62] [r72] := s2.1
  exact ⟨app_nil i72, s2.trans (rep_enc (mulP_on base_on _) (s1 _ base_on (base_rep s0)).j)⟩

def B_cmix (S : Nat → List (List Int) → List (List Int) → Prop) (K : List (List Int) → List (List Int) → Prop) : Prop :=
 ∀ r0 : List Int, inB (repB 0 255 32) r0 → ∀ r32 : List Int, inB (repB 0 255 32) r32 → ∀ r64 : List Int, inB (repB 0 255 32) r64 → 
 ∀ r96 : List Int, inB (repB 0 4503599627370495 5) r96 → ∀ r101 : List Int, inB (repB 0 4503599627370495 5) r101 → ∀ r106 : List Int, inB (repB 0 4503599627370495 5) r106 → ∀ r111 : List Int, inB (repB 0 4503599627370495 5) r111 → ∀ z116 : Int, 0 ≤ z116 → z116 ≤ 1 → S 109 [r32] [r96, r101, r106, r111, [z116]] →
 ((((!(decide (z116 = 1)))) = true →
  K [r0, r32, r64] [[0, 0, 0, 0, 0, 0, 0, 0, 0, 0, 0, 0, 0, 0, 0, 0, 0, 0, 0, 0, 0, 0, 0, 0, 0, 0, 0, 0, 0, 0, 0, 0], [1]]
 ) ∧ (((!(decide (z116 = 1)))) = false →
  ((
   ∀ r117 : List Int, inB (repB 0 4503599627370495 5) r117 → ∀ r122 : List Int, inB (repB 0 4503599627370495 5) r122 → ∀ r127 : List Int, inB (repB 0 4503599627370495 5) r127 → ∀ r132 : List Int, inB (repB 0 4503599627370495 5) r132 → S 107 [r96, r101, r106, r111, r0] [r117, r122, r127, r132] →
   ∀ r137 : List Int, inB (repB 0 4503599627370495 5) r137 → ∀ r142 : List Int, inB (repB 0 4503599627370495 5) r142 → ∀ r147 : List Int, inB (repB 0 4503599627370495 5) r147 → ∀ r152 : List Int, inB (repB 0 4503599627370495 5) r152 → S 102 [] [r137, r142, r147, r152] →
   ∀ r157 : List Int, inB (repB 0 4503599627370495 5) r157 → ∀ r162 : List Int, inB (repB 0 4503599627370495 5) r162 → ∀ r167 : List Int, inB (repB 0 4503599627370495 5) r167 → ∀ r172 : List Int, inB (repB 0 4503599627370495 5) r172 → S 107 [r137, r142, r147, r152, r64] [r157, r162, r167, r172] →
   ∀ r177 : List Int, inB (repB 0 4503599627370495 5) r177 → ∀ r182 : List Int, inB (repB 0 4503599627370495 5) r182 → ∀ r187 : List Int, inB (repB 0 4503599627370495 5) r187 → ∀ r192 : List Int, inB (repB 0 4503599627370495 5) r192 → S 105 [r117, r122, r127, r132, r157, r162, r167, r172] [r177, r182, r187, r192] →
   ∀ r197 : List Int, inB (repB 0 255 32) r197 → S 108 [r177, r182, r187] [r197] →
   K [r0, r32, r64] [r197, [0]]
  ) ∧ (
   ∀ r117 : List Int, inB (repB 0 4503599627370495 5) r117 → ∀ r122 : List Int, inB (repB 0 4503599627370495 5) r122 → ∀ r127 : List Int, inB (repB 0 4503599627370495 5) r127 → ∀ r132 : List Int, inB (repB 0 4503599627370495 5) r132 → S 107 [r96, r101, r106, r111, r0] [r117, r122, r127, r132] →
   ∀ r137 : List Int, inB (repB 0 4503599627370495 5) r137 → ∀ r142 : List Int, inB (repB 0 4503599627370495 5) r142 → ∀ r147 : List Int, inB (repB 0 4503599627370495 5) r147 → ∀ r152 : List Int, inB (repB 0 4503599627370495 5) r152 → S 102 [] [r137, r142, r147, r152] →
   ∀ r157 : List Int, inB (repB 0 4503599627370495 5) r157 → ∀ r162 : List Int, inB (repB 0 4503599627370495 5) r162 → ∀ r167 : List Int, inB (repB 0 4503599627370495 5) r167 → ∀ r172 : List Int, inB (repB 0 4503599627370495 5) r172 → S 107 [r137, r142, r147, r152, r64] [r157, r162, r167, r172] →
   ∀ r177 : List Int, inB (repB 0 4503599627370495 5) r177 → ∀ r182 : List Int, inB (repB 0 4503599627370495 5) r182 → ∀ r187 : List Int, inB (repB 0 4503599627370495 5) r187 → ∀ r192 : List Int, inB (repB 0 4503599627370495 5) r192 → S 105 [r117, r122, r127, r132, r157, r162, r167, r172] [r177, r182, r187, r192] →
   ∀ r197 : List Int, inB (repB 0 255 32) r197 → S 108 [r177, r182, r187] [r197] →
   K [r0, r32, r64] [r197, [0]]
  ))
 ))
theorem p_cmix (G) : B_cmix (SG G) (KB k_cmix.res 115) := by
  unfold B_cmix
  intro r0 i0 r32 i32 r64 i64 r96 i96 r101 i101 r106 i106 r111 i111 z116 a116 b116 s0
  have s0 : s_read [r32] [r96, r101, r106, r111, [z116]] := s0.1
  refine ⟨fun h0 => ?_, fun h0 => ?_⟩
  · skip
    simp only [Bool.not_eq_true', Bool.not_eq_false', Bool.not_true, Bool.not_false, decide_eq_true_eq, decide_eq_false_iff_not] at h0
    have e := rd_none s0 h0
    refine ⟨in_be in_zero32 (by decide), ?_⟩
    show RT _ _ _
    rw [e]
    exact ⟨rfl, by decide⟩
  · skip
    simp only [Bool.not_eq_true', Bool.not_eq_false', Bool.not_true, Bool.not_false, decide_eq_true_eq, decide_eq_false_iff_not] at h0
    refine ⟨?_, ?_⟩
    · skip
      intro r117 i117 r122 i122 r127 i127 r132 i132 s1 r137 i137 r142 i142 r147 i147 r152 i152 s2 r157 i157 r162 i162 r167 i167 r172 i172 s3 r177 i177 r182 i182 r187 i187 r192 i192 s4 r197 i197 s5
      have s1 : s_many [r96, r101, r106, r111, r0] [r117, r122, r127, r132] := s1.1
      have s2 : s_cbase [] [r137, r142, r147, r152] := s2.1
      have s3 : s_many [r137, r142, r147, r152, r64] [r157, r162, r167, r172] := s3.1
      have s4 : s_cplus [r117, r122, r127, r132, r157, r162, r167, r172] [r177, r182, r187, r192] := s4.1
      have s5 : s_cbytes [r177, r182, r187] [r197] := s5.1
      obtain ⟨A1, e1, q1⟩ := rd_some s0 h0
      have o1 := dec_on e1
      refine ⟨in_be i197 (by decide), ?_⟩
      show RT _ _ _
      rw [e1]
      have k1 := s1 _ o1 q1
      have k2 := s3 _ base_on (base_rep s2)
      exact ⟨rfl, s5.trans (rep_enc (addP_on (mulP_on o1 _) (mulP_on base_on _)) (s4 _ _ (mulP_on o1 _) (mulP_on base_on _) k1 k2).j)⟩
    · skip
      intro r117 i117 r122 i122 r127 i127 r132 i132 s1 r137 i137 r142 i142 r147 i147 r152 i152 s2 r157 i157 r162 i162 r167 i167 r172 i172 s3 r177 i177 r182 i182 r187 i187 r192 i192 s4 r197 i197 s5
      have s1 : s_many [r96, r101, r106, r111, r0] [r117, r122, r127, r132] := s1.1
      have s2 : s_cbase [] [r137, r142, r147, r152] := s2.1
      have s3 : s_many [r137, r142, r147, r152, r64] [r157, r162, r167, r172] := s3.1
      have s4 : s_cplus [r117, r122, r127, r132, r157, r162, r167, r172] [r177, r182, r187, r192] := s4.1
      have s5 : s_cbytes [r177, r182, r187] [r197] := s5.1
      obtain ⟨A1, e1, q1⟩ := rd_some s0 h0
      have o1 := dec_on e1
      refine ⟨in_be i197 (by decide), ?_⟩
      show RT _ _ _
      rw [e1]
      have k1 := s1 _ o1 q1
      have k2 := s3 _ base_on (base_rep s2)
      exact ⟨rfl, s5.trans (rep_enc (addP_on (mulP_on o1 _) (mulP_on base_on _)) (s4 _ _ (mulP_on o1 _) (mulP_on base_on _) k1 k2).j)⟩
end Go.Fd
