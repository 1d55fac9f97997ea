/- ScVcC: a part of the proof of statements of this seat. -/
import Derived.Test.YtlebpfhdhpobeaaDoorScBase
set_option linter.unusedVariables false
set_option linter.unusedSimpArgs false
set_option maxRecDepth 20000
namespace Go.Sc
open Go.Rx
def V_reduce (S : Nat → List Int → List Int → Prop) (K : List Int → List Int → Prop) : Prop :=
 ∀ z0 : Int, 0 ≤ z0 → z0 ≤ 255 →
 ∀ z1 : Int, 0 ≤ z1 → z1 ≤ 255 →
 ∀ z2 : Int, 0 ≤ z2 → z2 ≤ 255 →
 ∀ z3 : Int, 0 ≤ z3 → z3 ≤ 255 →
 ∀ z4 : Int, 0 ≤ z4 → z4 ≤ 255 →
 ∀ z5 : Int, 0 ≤ z5 → z5 ≤ 255 →
 ∀ z6 : Int, 0 ≤ z6 → z6 ≤ 255 →
 ∀ z7 : Int, 0 ≤ z7 → z7 ≤ 255 →
 ∀ z8 : Int, 0 ≤ z8 → z8 ≤ 255 →
 ∀ z9 : Int, 0 ≤ z9 → z9 ≤ 255 →
 ∀ z10 : Int, 0 ≤ z10 → z10 ≤ 255 →
 ∀ z11 : Int, 0 ≤ z11 → z11 ≤ 255 →
 ∀ z12 : Int, 0 ≤ z12 → z12 ≤ 255 →
 ∀ z13 : Int, 0 ≤ z13 → z13 ≤ 255 →
 ∀ z14 : Int, 0 ≤ z14 → z14 ≤ 255 →
 ∀ z15 : Int, 0 ≤ z15 → z15 ≤ 255 →
 ∀ z16 : Int, 0 ≤ z16 → z16 ≤ 255 →
 ∀ z17 : Int, 0 ≤ z17 → z17 ≤ 255 →
 ∀ z18 : Int, 0 ≤ z18 → z18 ≤ 255 →
 ∀ z19 : Int, 0 ≤ z19 → z19 ≤ 255 →
 ∀ z20 : Int, 0 ≤ z20 → z20 ≤ 255 →
 ∀ z21 : Int, 0 ≤ z21 → z21 ≤ 255 →
 ∀ z22 : Int, 0 ≤ z22 → z22 ≤ 255 →
 ∀ z23 : Int, 0 ≤ z23 → z23 ≤ 255 →
 ∀ z24 : Int, 0 ≤ z24 → z24 ≤ 255 →
 ∀ z25 : Int, 0 ≤ z25 → z25 ≤ 255 →
 ∀ z26 : Int, 0 ≤ z26 → z26 ≤ 255 →
 ∀ z27 : Int, 0 ≤ z27 → z27 ≤ 255 →
 ∀ z28 : Int, 0 ≤ z28 → z28 ≤ 255 →
 ∀ z29 : Int, 0 ≤ z29 → z29 ≤ 255 →
 ∀ z30 : Int, 0 ≤ z30 → z30 ≤ 255 →
 ∀ z31 : Int, 0 ≤ z31 → z31 ≤ 255 →
 ∀ z32 : Int, 0 ≤ z32 → z32 ≤ 255 →
 ∀ z33 : Int, 0 ≤ z33 → z33 ≤ 255 →
 ∀ z34 : Int, 0 ≤ z34 → z34 ≤ 255 →
 ∀ z35 : Int, 0 ≤ z35 → z35 ≤ 255 →
 ∀ z36 : Int, 0 ≤ z36 → z36 ≤ 255 →
 ∀ z37 : Int, 0 ≤ z37 → z37 ≤ 255 →
 ∀ z38 : Int, 0 ≤ z38 → z38 ≤ 255 →
 ∀ z39 : Int, 0 ≤ z39 → z39 ≤ 255 →
 ∀ z40 : Int, 0 ≤ z40 → z40 ≤ 255 →
 ∀ z41 : Int, 0 ≤ z41 → z41 ≤ 255 →
 ∀ z42 : Int, 0 ≤ z42 → z42 ≤ 255 →
 ∀ z43 : Int, 0 ≤ z43 → z43 ≤ 255 →
 ∀ z44 : Int, 0 ≤ z44 → z44 ≤ 255 →
 ∀ z45 : Int, 0 ≤ z45 → z45 ≤ 255 →
 ∀ z46 : Int, 0 ≤ z46 → z46 ≤ 255 →
 ∀ z47 : Int, 0 ≤ z47 → z47 ≤ 255 →
 ∀ z48 : Int, 0 ≤ z48 → z48 ≤ 255 →
 ∀ z49 : Int, 0 ≤ z49 → z49 ≤ 255 →
 ∀ z50 : Int, 0 ≤ z50 → z50 ≤ 255 →
 ∀ z51 : Int, 0 ≤ z51 → z51 ≤ 255 →
 ∀ z52 : Int, 0 ≤ z52 → z52 ≤ 255 →
 ∀ z53 : Int, 0 ≤ z53 → z53 ≤ 255 →
 ∀ z54 : Int, 0 ≤ z54 → z54 ≤ 255 →
 ∀ z55 : Int, 0 ≤ z55 → z55 ≤ 255 →
 ∀ z56 : Int, 0 ≤ z56 → z56 ≤ 255 →
 ∀ z57 : Int, 0 ≤ z57 → z57 ≤ 255 →
 ∀ z58 : Int, 0 ≤ z58 → z58 ≤ 255 →
 ∀ z59 : Int, 0 ≤ z59 → z59 ≤ 255 →
 ∀ z60 : Int, 0 ≤ z60 → z60 ≤ 255 →
 ∀ z61 : Int, 0 ≤ z61 → z61 ≤ 255 →
 ∀ z62 : Int, 0 ≤ z62 → z62 ≤ 255 →
 ∀ z63 : Int, 0 ≤ z63 → z63 ≤ 255 →
 ∀ z64 : Int, 0 ≤ z64 → z64 ≤ 18446744073709551615 → ∀ z65 : Int, 0 ≤ z65 → z65 ≤ 18446744073709551615 → ∀ z66 : Int, 0 ≤ z66 → z66 ≤ 18446744073709551615 → ∀ z67 : Int, 0 ≤ z67 → z67 ≤ 18446744073709551615 → S 122 [((1 * z0 + 0) + 0), ((1 * z1 + 0) + 0), ((1 * z2 + 0) + 0), ((1 * z3 + 0) + 0), ((1 * z4 + 0) + 0), ((1 * z5 + 0) + 0), ((1 * z6 + 0) + 0), ((1 * z7 + 0) + 0), ((1 * z8 + 0) + 0), ((1 * z9 + 0) + 0), ((1 * z10 + 0) + 0), ((1 * z11 + 0) + 0), ((1 * z12 + 0) + 0), ((1 * z13 + 0) + 0), ((1 * z14 + 0) + 0), ((1 * z15 + 0) + 0), ((1 * z16 + 0) + 0), ((1 * z17 + 0) + 0), ((1 * z18 + 0) + 0), ((1 * z19 + 0) + 0), ((1 * z20 + 0) + 0), ((1 * z21 + 0) + 0), ((1 * z22 + 0) + 0), ((1 * z23 + 0) + 0), ((1 * z24 + 0) + 0), ((1 * z25 + 0) + 0), ((1 * z26 + 0) + 0), ((1 * z27 + 0) + 0), ((1 * z28 + 0) + 0), ((1 * z29 + 0) + 0), ((1 * z30 + 0) + 0), ((1 * z31 + 0) + 0), ((1 * z32 + 0) + 0), ((1 * z33 + 0) + 0), ((1 * z34 + 0) + 0), ((1 * z35 + 0) + 0), ((1 * z36 + 0) + 0), ((1 * z37 + 0) + 0), ((1 * z38 + 0) + 0), ((1 * z39 + 0) + 0), ((1 * z40 + 0) + 0), ((1 * z41 + 0) + 0), ((1 * z42 + 0) + 0), ((1 * z43 + 0) + 0), ((1 * z44 + 0) + 0), ((1 * z45 + 0) + 0), ((1 * z46 + 0) + 0), ((1 * z47 + 0) + 0), ((1 * z48 + 0) + 0), ((1 * z49 + 0) + 0), ((1 * z50 + 0) + 0), ((1 * z51 + 0) + 0), ((1 * z52 + 0) + 0), ((1 * z53 + 0) + 0), ((1 * z54 + 0) + 0), ((1 * z55 + 0) + 0), ((1 * z56 + 0) + 0), ((1 * z57 + 0) + 0), ((1 * z58 + 0) + 0), ((1 * z59 + 0) + 0), ((1 * z60 + 0) + 0), ((1 * z61 + 0) + 0), ((1 * z62 + 0) + 0), ((1 * z63 + 0) + 0)] [z64, z65, z66, z67] →
 ∀ z68 : Int, 0 ≤ z68 → z68 ≤ 18446744073709551615 → ∀ z69 : Int, 0 ≤ z69 → z69 ≤ 18446744073709551615 → ∀ z70 : Int, 0 ≤ z70 → z70 ≤ 18446744073709551615 → ∀ z71 : Int, 0 ≤ z71 → z71 ≤ 18446744073709551615 → S 222 [((1 * z0 + 0) + 0), ((1 * z1 + 0) + 0), ((1 * z2 + 0) + 0), ((1 * z3 + 0) + 0), ((1 * z4 + 0) + 0), ((1 * z5 + 0) + 0), ((1 * z6 + 0) + 0), ((1 * z7 + 0) + 0), ((1 * z8 + 0) + 0), ((1 * z9 + 0) + 0), ((1 * z10 + 0) + 0), ((1 * z11 + 0) + 0), ((1 * z12 + 0) + 0), ((1 * z13 + 0) + 0), ((1 * z14 + 0) + 0), ((1 * z15 + 0) + 0), ((1 * z16 + 0) + 0), ((1 * z17 + 0) + 0), ((1 * z18 + 0) + 0), ((1 * z19 + 0) + 0), ((1 * z20 + 0) + 0), ((1 * z21 + 0) + 0), ((1 * z22 + 0) + 0), ((1 * z23 + 0) + 0), ((1 * z24 + 0) + 0), ((1 * z25 + 0) + 0), ((1 * z26 + 0) + 0), ((1 * z27 + 0) + 0), ((1 * z28 + 0) + 0), ((1 * z29 + 0) + 0), ((1 * z30 + 0) + 0), ((1 * z31 + 0) + 0), ((1 * z32 + 0) + 0), ((1 * z33 + 0) + 0), ((1 * z34 + 0) + 0), ((1 * z35 + 0) + 0), ((1 * z36 + 0) + 0), ((1 * z37 + 0) + 0), ((1 * z38 + 0) + 0), ((1 * z39 + 0) + 0), ((1 * z40 + 0) + 0), ((1 * z41 + 0) + 0), ((1 * z42 + 0) + 0), ((1 * z43 + 0) + 0), ((1 * z44 + 0) + 0), ((1 * z45 + 0) + 0), ((1 * z46 + 0) + 0), ((1 * z47 + 0) + 0), ((1 * z48 + 0) + 0), ((1 * z49 + 0) + 0), ((1 * z50 + 0) + 0), ((1 * z51 + 0) + 0), ((1 * z52 + 0) + 0), ((1 * z53 + 0) + 0), ((1 * z54 + 0) + 0), ((1 * z55 + 0) + 0), ((1 * z56 + 0) + 0), ((1 * z57 + 0) + 0), ((1 * z58 + 0) + 0), ((1 * z59 + 0) + 0), ((1 * z60 + 0) + 0), ((1 * z61 + 0) + 0), ((1 * z62 + 0) + 0), ((1 * z63 + 0) + 0)] [z68, z69, z70, z71] →
 ∀ z72 : Int, 0 ≤ z72 → z72 ≤ 18446744073709551615 → ∀ z73 : Int, 0 ≤ z73 → z73 ≤ 18446744073709551615 → ∀ z74 : Int, 0 ≤ z74 → z74 ≤ 18446744073709551615 → ∀ z75 : Int, 0 ≤ z75 → z75 ≤ 18446744073709551615 → S 23 [((1 * z64 + 0) + 0), ((1 * z65 + 0) + 0), ((1 * z66 + 0) + 0), ((1 * z67 + 0) + 0), ((1 * z68 + 0) + 0), ((1 * z69 + 0) + 0), ((1 * z70 + 0) + 0), ((1 * z71 + 0) + 0)] [z72, z73, z74, z75] →
 ∀ z76 : Int, 0 ≤ z76 → z76 ≤ 255 → ∀ z77 : Int, 0 ≤ z77 → z77 ≤ 255 → ∀ z78 : Int, 0 ≤ z78 → z78 ≤ 255 → ∀ z79 : Int, 0 ≤ z79 → z79 ≤ 255 → ∀ z80 : Int, 0 ≤ z80 → z80 ≤ 255 → ∀ z81 : Int, 0 ≤ z81 → z81 ≤ 255 → ∀ z82 : Int, 0 ≤ z82 → z82 ≤ 255 → ∀ z83 : Int, 0 ≤ z83 → z83 ≤ 255 → ∀ z84 : Int, 0 ≤ z84 → z84 ≤ 255 → ∀ z85 : Int, 0 ≤ z85 → z85 ≤ 255 → ∀ z86 : Int, 0 ≤ z86 → z86 ≤ 255 → ∀ z87 : Int, 0 ≤ z87 → z87 ≤ 255 → ∀ z88 : Int, 0 ≤ z88 → z88 ≤ 255 → ∀ z89 : Int, 0 ≤ z89 → z89 ≤ 255 → ∀ z90 : Int, 0 ≤ z90 → z90 ≤ 255 → ∀ z91 : Int, 0 ≤ z91 → z91 ≤ 255 → ∀ z92 : Int, 0 ≤ z92 → z92 ≤ 255 → ∀ z93 : Int, 0 ≤ z93 → z93 ≤ 255 → ∀ z94 : Int, 0 ≤ z94 → z94 ≤ 255 → ∀ z95 : Int, 0 ≤ z95 → z95 ≤ 255 → ∀ z96 : Int, 0 ≤ z96 → z96 ≤ 255 → ∀ z97 : Int, 0 ≤ z97 → z97 ≤ 255 → ∀ z98 : Int, 0 ≤ z98 → z98 ≤ 255 → ∀ z99 : Int, 0 ≤ z99 → z99 ≤ 255 → ∀ z100 : Int, 0 ≤ z100 → z100 ≤ 255 → ∀ z101 : Int, 0 ≤ z101 → z101 ≤ 255 → ∀ z102 : Int, 0 ≤ z102 → z102 ≤ 255 → ∀ z103 : Int, 0 ≤ z103 → z103 ≤ 255 → ∀ z104 : Int, 0 ≤ z104 → z104 ≤ 255 → ∀ z105 : Int, 0 ≤ z105 → z105 ≤ 255 → ∀ z106 : Int, 0 ≤ z106 → z106 ≤ 255 → ∀ z107 : Int, 0 ≤ z107 → z107 ≤ 255 → S 26 [((1 * z72 + 0) + 0), ((1 * z73 + 0) + 0), ((1 * z74 + 0) + 0), ((1 * z75 + 0) + 0)] [z76, z77, z78, z79, z80, z81, z82, z83, z84, z85, z86, z87, z88, z89, z90, z91, z92, z93, z94, z95, z96, z97, z98, z99, z100, z101, z102, z103, z104, z105, z106, z107] →
 K [z0, z1, z2, z3, z4, z5, z6, z7, z8, z9, z10, z11, z12, z13, z14, z15, z16, z17, z18, z19, z20, z21, z22, z23, z24, z25, z26, z27, z28, z29, z30, z31, z32, z33, z34, z35, z36, z37, z38, z39, z40, z41, z42, z43, z44, z45, z46, z47, z48, z49, z50, z51, z52, z53, z54, z55, z56, z57, z58, z59, z60, z61, z62, z63] [((1 * z76 + 0) + 0), ((1 * z77 + 0) + 0), ((1 * z78 + 0) + 0), ((1 * z79 + 0) + 0), ((1 * z80 + 0) + 0), ((1 * z81 + 0) + 0), ((1 * z82 + 0) + 0), ((1 * z83 + 0) + 0), ((1 * z84 + 0) + 0), ((1 * z85 + 0) + 0), ((1 * z86 + 0) + 0), ((1 * z87 + 0) + 0), ((1 * z88 + 0) + 0), ((1 * z89 + 0) + 0), ((1 * z90 + 0) + 0), ((1 * z91 + 0) + 0), ((1 * z92 + 0) + 0), ((1 * z93 + 0) + 0), ((1 * z94 + 0) + 0), ((1 * z95 + 0) + 0), ((1 * z96 + 0) + 0), ((1 * z97 + 0) + 0), ((1 * z98 + 0) + 0), ((1 * z99 + 0) + 0), ((1 * z100 + 0) + 0), ((1 * z101 + 0) + 0), ((1 * z102 + 0) + 0), ((1 * z103 + 0) + 0), ((1 * z104 + 0) + 0), ((1 * z105 + 0) + 0), ((1 * z106 + 0) + 0), ((1 * z107 + 0) + 0)]
theorem p_reduce : V_reduce SC fun zs rs => inB (bdsL k_reduce.res) rs ∧ SC 11 zs rs := by
  unfold V_reduce
  simp (maxSteps := 4000000) only [Int.one_mul, Int.add_zero, Int.zero_add]
  intro z0 a0 b0 z1 a1 b1 z2 a2 b2 z3 a3 b3 z4 a4 b4 z5 a5 b5 z6 a6 b6 z7 a7 b7 z8 a8 b8 z9 a9 b9 z10 a10 b10 z11 a11 b11 z12 a12 b12 z13 a13 b13 z14 a14 b14 z15 a15 b15 z16 a16 b16 z17 a17 b17 z18 a18 b18 z19 a19 b19 z20 a20 b20 z21 a21 b21 z22 a22 b22 z23 a23 b23 z24 a24 b24 z25 a25 b25 z26 a26 b26 z27 a27 b27 z28 a28 b28 z29 a29 b29 z30 a30 b30 z31 a31 b31 z32 a32 b32 z33 a33 b33 z34 a34 b34 z35 a35 b35 z36 a36 b36 z37 a37 b37 z38 a38 b38 z39 a39 b39 z40 a40 b40 z41 a41 b41 z42 a42 b42 z43 a43 b43 z44 a44 b44 z45 a45 b45 z46 a46 b46 z47 a47 b47 z48 a48 b48 z49 a49 b49 z50 a50 b50 z51 a51 b51 z52 a52 b52 z53 a53 b53 z54 a54 b54 z55 a55 b55 z56 a56 b56 z57 a57 b57 z58 a58 b58 z59 a59 b59 z60 a60 b60 z61 a61 b61 z62 a62 b62 z63 a63 b63 z64 a64 b64 z65 a65 b65 z66 a66 b66 z67 a67 b67 s0 z68 a68 b68 z69 a69 b69 z70 a70 b70 z71 a71 b71 s1 z72 a72 b72 z73 a73 b73 z74 a74 b74 z75 a75 b75 s2 z76 a76 b76 z77 a77 b77 z78 a78 b78 z79 a79 b79 z80 a80 b80 z81 a81 b81 z82 a82 b82 z83 a83 b83 z84 a84 b84 z85 a85 b85 z86 a86 b86 z87 a87 b87 z88 a88 b88 z89 a89 b89 z90 a90 b90 z91 a91 b91 z92 a92 b92 z93 a93 b93 z94 a94 b94 z95 a95 b95 z96 a96 b96 z97 a97 b97 z98 a98 b98 z99 a99 b99 z100 a100 b100 z101 a101 b101 z102 a102 b102 z103 a103 b103 z104 a104 b104 z105 a105 b105 z106 a106 b106 z107 a107 b107 s3
  simp (maxSteps := 2000000) only [SC, s_load, s_loada, s_loadb, s_minus, s_plus, s_bytes, s_product, s_folded, s_left, s_wide, s_right, s_neg, s_reduce, s_muladd, s_clamp, s_l, s_less, s_sum, s_rleft, s_true, List.take_succ_cons, List.take_zero, List.drop_succ_cons, List.drop_zero, List.getD_cons_zero, List.getD_cons_succ] at s0 s1 s2 s3
  refine ⟨?_, ?_⟩
  · simp only [k_reduce, bdsL, by32, D.bds, repB, List.cons_append, List.nil_append, List.append_nil, inB, and_true]
    exact ⟨a76, b76, a77, b77, a78, b78, a79, b79, a80, b80, a81, b81, a82, b82, a83, b83, a84, b84, a85, b85, a86, b86, a87, b87, a88, b88, a89, b89, a90, b90, a91, b91, a92, b92, a93, b93, a94, b94, a95, b95, a96, b96, a97, b97, a98, b98, a99, b99, a100, b100, a101, b101, a102, b102, a103, b103, a104, b104, a105, b105, a106, b106, a107, b107⟩
  · simp only [SC, s_load, s_loada, s_loadb, s_minus, s_plus, s_bytes, s_product, s_folded, s_left, s_wide, s_right, s_neg, s_reduce, s_muladd, s_clamp, s_l, s_less, s_sum, s_rleft, s_true]
    rw [s3, s2]
    have e1 : nw [z64, z65, z66, z67, z68, z69, z70, z71] = nw [z64, z65, z66, z67] + 115792089237316195423570985008687907853269984665640564039457584007913129639936 * nw [z68, z69, z70, z71] := by simp only [num]; omega
    have e2 : nb [z0, z1, z2, z3, z4, z5, z6, z7, z8, z9, z10, z11, z12, z13, z14, z15, z16, z17, z18, z19, z20, z21, z22, z23, z24, z25, z26, z27, z28, z29, z30, z31, z32, z33, z34, z35, z36, z37, z38, z39, z40, z41, z42, z43, z44, z45, z46, z47, z48, z49, z50, z51, z52, z53, z54, z55, z56, z57, z58, z59, z60, z61, z62, z63] = nb [z0, z1, z2, z3, z4, z5, z6, z7, z8, z9, z10, z11, z12, z13, z14, z15, z16, z17, z18, z19, z20, z21, z22, z23, z24, z25, z26, z27, z28, z29, z30, z31] + 115792089237316195423570985008687907853269984665640564039457584007913129639936 * nb [z32, z33, z34, z35, z36, z37, z38, z39, z40, z41, z42, z43, z44, z45, z46, z47, z48, z49, z50, z51, z52, z53, z54, z55, z56, z57, z58, z59, z60, z61, z62, z63] := by simp only [num]; omega
    rw [e1, e2, s0, s1]
def V_muladd (S : Nat → List Int → List Int → Prop) (K : List Int → List Int → Prop) : Prop :=
 ∀ z0 : Int, 0 ≤ z0 → z0 ≤ 255 →
 ∀ z1 : Int, 0 ≤ z1 → z1 ≤ 255 →
 ∀ z2 : Int, 0 ≤ z2 → z2 ≤ 255 →
 ∀ z3 : Int, 0 ≤ z3 → z3 ≤ 255 →
 ∀ z4 : Int, 0 ≤ z4 → z4 ≤ 255 →
 ∀ z5 : Int, 0 ≤ z5 → z5 ≤ 255 →
 ∀ z6 : Int, 0 ≤ z6 → z6 ≤ 255 →
 ∀ z7 : Int, 0 ≤ z7 → z7 ≤ 255 →
 ∀ z8 : Int, 0 ≤ z8 → z8 ≤ 255 →
 ∀ z9 : Int, 0 ≤ z9 → z9 ≤ 255 →
 ∀ z10 : Int, 0 ≤ z10 → z10 ≤ 255 →
 ∀ z11 : Int, 0 ≤ z11 → z11 ≤ 255 →
 ∀ z12 : Int, 0 ≤ z12 → z12 ≤ 255 →
 ∀ z13 : Int, 0 ≤ z13 → z13 ≤ 255 →
 ∀ z14 : Int, 0 ≤ z14 → z14 ≤ 255 →
 ∀ z15 : Int, 0 ≤ z15 → z15 ≤ 255 →
 ∀ z16 : Int, 0 ≤ z16 → z16 ≤ 255 →
 ∀ z17 : Int, 0 ≤ z17 → z17 ≤ 255 →
 ∀ z18 : Int, 0 ≤ z18 → z18 ≤ 255 →
 ∀ z19 : Int, 0 ≤ z19 → z19 ≤ 255 →
 ∀ z20 : Int, 0 ≤ z20 → z20 ≤ 255 →
 ∀ z21 : Int, 0 ≤ z21 → z21 ≤ 255 →
 ∀ z22 : Int, 0 ≤ z22 → z22 ≤ 255 →
 ∀ z23 : Int, 0 ≤ z23 → z23 ≤ 255 →
 ∀ z24 : Int, 0 ≤ z24 → z24 ≤ 255 →
 ∀ z25 : Int, 0 ≤ z25 → z25 ≤ 255 →
 ∀ z26 : Int, 0 ≤ z26 → z26 ≤ 255 →
 ∀ z27 : Int, 0 ≤ z27 → z27 ≤ 255 →
 ∀ z28 : Int, 0 ≤ z28 → z28 ≤ 255 →
 ∀ z29 : Int, 0 ≤ z29 → z29 ≤ 255 →
 ∀ z30 : Int, 0 ≤ z30 → z30 ≤ 255 →
 ∀ z31 : Int, 0 ≤ z31 → z31 ≤ 255 →
 ∀ z32 : Int, 0 ≤ z32 → z32 ≤ 255 →
 ∀ z33 : Int, 0 ≤ z33 → z33 ≤ 255 →
 ∀ z34 : Int, 0 ≤ z34 → z34 ≤ 255 →
 ∀ z35 : Int, 0 ≤ z35 → z35 ≤ 255 →
 ∀ z36 : Int, 0 ≤ z36 → z36 ≤ 255 →
 ∀ z37 : Int, 0 ≤ z37 → z37 ≤ 255 →
 ∀ z38 : Int, 0 ≤ z38 → z38 ≤ 255 →
 ∀ z39 : Int, 0 ≤ z39 → z39 ≤ 255 →
 ∀ z40 : Int, 0 ≤ z40 → z40 ≤ 255 →
 ∀ z41 : Int, 0 ≤ z41 → z41 ≤ 255 →
 ∀ z42 : Int, 0 ≤ z42 → z42 ≤ 255 →
 ∀ z43 : Int, 0 ≤ z43 → z43 ≤ 255 →
 ∀ z44 : Int, 0 ≤ z44 → z44 ≤ 255 →
 ∀ z45 : Int, 0 ≤ z45 → z45 ≤ 255 →
 ∀ z46 : Int, 0 ≤ z46 → z46 ≤ 255 →
 ∀ z47 : Int, 0 ≤ z47 → z47 ≤ 255 →
 ∀ z48 : Int, 0 ≤ z48 → z48 ≤ 255 →
 ∀ z49 : Int, 0 ≤ z49 → z49 ≤ 255 →
 ∀ z50 : Int, 0 ≤ z50 → z50 ≤ 255 →
 ∀ z51 : Int, 0 ≤ z51 → z51 ≤ 255 →
 ∀ z52 : Int, 0 ≤ z52 → z52 ≤ 255 →
 ∀ z53 : Int, 0 ≤ z53 → z53 ≤ 255 →
 ∀ z54 : Int, 0 ≤ z54 → z54 ≤ 255 →
 ∀ z55 : Int, 0 ≤ z55 → z55 ≤ 255 →
 ∀ z56 : Int, 0 ≤ z56 → z56 ≤ 255 →
 ∀ z57 : Int, 0 ≤ z57 → z57 ≤ 255 →
 ∀ z58 : Int, 0 ≤ z58 → z58 ≤ 255 →
 ∀ z59 : Int, 0 ≤ z59 → z59 ≤ 255 →
 ∀ z60 : Int, 0 ≤ z60 → z60 ≤ 255 →
 ∀ z61 : Int, 0 ≤ z61 → z61 ≤ 255 →
 ∀ z62 : Int, 0 ≤ z62 → z62 ≤ 255 →
 ∀ z63 : Int, 0 ≤ z63 → z63 ≤ 255 →
 ∀ z64 : Int, 0 ≤ z64 → z64 ≤ 255 →
 ∀ z65 : Int, 0 ≤ z65 → z65 ≤ 255 →
 ∀ z66 : Int, 0 ≤ z66 → z66 ≤ 255 →
 ∀ z67 : Int, 0 ≤ z67 → z67 ≤ 255 →
 ∀ z68 : Int, 0 ≤ z68 → z68 ≤ 255 →
 ∀ z69 : Int, 0 ≤ z69 → z69 ≤ 255 →
 ∀ z70 : Int, 0 ≤ z70 → z70 ≤ 255 →
 ∀ z71 : Int, 0 ≤ z71 → z71 ≤ 255 →
 ∀ z72 : Int, 0 ≤ z72 → z72 ≤ 255 →
 ∀ z73 : Int, 0 ≤ z73 → z73 ≤ 255 →
 ∀ z74 : Int, 0 ≤ z74 → z74 ≤ 255 →
 ∀ z75 : Int, 0 ≤ z75 → z75 ≤ 255 →
 ∀ z76 : Int, 0 ≤ z76 → z76 ≤ 255 →
 ∀ z77 : Int, 0 ≤ z77 → z77 ≤ 255 →
 ∀ z78 : Int, 0 ≤ z78 → z78 ≤ 255 →
 ∀ z79 : Int, 0 ≤ z79 → z79 ≤ 255 →
 ∀ z80 : Int, 0 ≤ z80 → z80 ≤ 255 →
 ∀ z81 : Int, 0 ≤ z81 → z81 ≤ 255 →
 ∀ z82 : Int, 0 ≤ z82 → z82 ≤ 255 →
 ∀ z83 : Int, 0 ≤ z83 → z83 ≤ 255 →
 ∀ z84 : Int, 0 ≤ z84 → z84 ≤ 255 →
 ∀ z85 : Int, 0 ≤ z85 → z85 ≤ 255 →
 ∀ z86 : Int, 0 ≤ z86 → z86 ≤ 255 →
 ∀ z87 : Int, 0 ≤ z87 → z87 ≤ 255 →
 ∀ z88 : Int, 0 ≤ z88 → z88 ≤ 255 →
 ∀ z89 : Int, 0 ≤ z89 → z89 ≤ 255 →
 ∀ z90 : Int, 0 ≤ z90 → z90 ≤ 255 →
 ∀ z91 : Int, 0 ≤ z91 → z91 ≤ 255 →
 ∀ z92 : Int, 0 ≤ z92 → z92 ≤ 255 →
 ∀ z93 : Int, 0 ≤ z93 → z93 ≤ 255 →
 ∀ z94 : Int, 0 ≤ z94 → z94 ≤ 255 →
 ∀ z95 : Int, 0 ≤ z95 → z95 ≤ 255 →
 ∀ z96 : Int, 0 ≤ z96 → z96 ≤ 18446744073709551615 → ∀ z97 : Int, 0 ≤ z97 → z97 ≤ 18446744073709551615 → ∀ z98 : Int, 0 ≤ z98 → z98 ≤ 18446744073709551615 → ∀ z99 : Int, 0 ≤ z99 → z99 ≤ 18446744073709551615 → S 22 [((1 * z0 + 0) + 0), ((1 * z1 + 0) + 0), ((1 * z2 + 0) + 0), ((1 * z3 + 0) + 0), ((1 * z4 + 0) + 0), ((1 * z5 + 0) + 0), ((1 * z6 + 0) + 0), ((1 * z7 + 0) + 0), ((1 * z8 + 0) + 0), ((1 * z9 + 0) + 0), ((1 * z10 + 0) + 0), ((1 * z11 + 0) + 0), ((1 * z12 + 0) + 0), ((1 * z13 + 0) + 0), ((1 * z14 + 0) + 0), ((1 * z15 + 0) + 0), ((1 * z16 + 0) + 0), ((1 * z17 + 0) + 0), ((1 * z18 + 0) + 0), ((1 * z19 + 0) + 0), ((1 * z20 + 0) + 0), ((1 * z21 + 0) + 0), ((1 * z22 + 0) + 0), ((1 * z23 + 0) + 0), ((1 * z24 + 0) + 0), ((1 * z25 + 0) + 0), ((1 * z26 + 0) + 0), ((1 * z27 + 0) + 0), ((1 * z28 + 0) + 0), ((1 * z29 + 0) + 0), ((1 * z30 + 0) + 0), ((1 * z31 + 0) + 0)] [z96, z97, z98, z99] →
 ∀ z100 : Int, 0 ≤ z100 → z100 ≤ 18446744073709551615 → ∀ z101 : Int, 0 ≤ z101 → z101 ≤ 18446744073709551615 → ∀ z102 : Int, 0 ≤ z102 → z102 ≤ 18446744073709551615 → ∀ z103 : Int, 0 ≤ z103 → z103 ≤ 18446744073709551615 → S 22 [((1 * z32 + 0) + 0), ((1 * z33 + 0) + 0), ((1 * z34 + 0) + 0), ((1 * z35 + 0) + 0), ((1 * z36 + 0) + 0), ((1 * z37 + 0) + 0), ((1 * z38 + 0) + 0), ((1 * z39 + 0) + 0), ((1 * z40 + 0) + 0), ((1 * z41 + 0) + 0), ((1 * z42 + 0) + 0), ((1 * z43 + 0) + 0), ((1 * z44 + 0) + 0), ((1 * z45 + 0) + 0), ((1 * z46 + 0) + 0), ((1 * z47 + 0) + 0), ((1 * z48 + 0) + 0), ((1 * z49 + 0) + 0), ((1 * z50 + 0) + 0), ((1 * z51 + 0) + 0), ((1 * z52 + 0) + 0), ((1 * z53 + 0) + 0), ((1 * z54 + 0) + 0), ((1 * z55 + 0) + 0), ((1 * z56 + 0) + 0), ((1 * z57 + 0) + 0), ((1 * z58 + 0) + 0), ((1 * z59 + 0) + 0), ((1 * z60 + 0) + 0), ((1 * z61 + 0) + 0), ((1 * z62 + 0) + 0), ((1 * z63 + 0) + 0)] [z100, z101, z102, z103] →
 ∀ z104 : Int, 0 ≤ z104 → z104 ≤ 18446744073709551615 → ∀ z105 : Int, 0 ≤ z105 → z105 ≤ 18446744073709551615 → ∀ z106 : Int, 0 ≤ z106 → z106 ≤ 18446744073709551615 → ∀ z107 : Int, 0 ≤ z107 → z107 ≤ 18446744073709551615 → ∀ z108 : Int, 0 ≤ z108 → z108 ≤ 18446744073709551615 → ∀ z109 : Int, 0 ≤ z109 → z109 ≤ 18446744073709551615 → ∀ z110 : Int, 0 ≤ z110 → z110 ≤ 18446744073709551615 → ∀ z111 : Int, 0 ≤ z111 → z111 ≤ 18446744073709551615 → S 21 [((1 * z96 + 0) + 0), ((1 * z97 + 0) + 0), ((1 * z98 + 0) + 0), ((1 * z99 + 0) + 0), ((1 * z100 + 0) + 0), ((1 * z101 + 0) + 0), ((1 * z102 + 0) + 0), ((1 * z103 + 0) + 0)] [z104, z105, z106, z107, z108, z109, z110, z111] →
 ∀ z112 : Int, 0 ≤ z112 → z112 ≤ 18446744073709551615 → ∀ z113 : Int, 0 ≤ z113 → z113 ≤ 18446744073709551615 → ∀ z114 : Int, 0 ≤ z114 → z114 ≤ 18446744073709551615 → ∀ z115 : Int, 0 ≤ z115 → z115 ≤ 18446744073709551615 → S 23 [((1 * z104 + 0) + 0), ((1 * z105 + 0) + 0), ((1 * z106 + 0) + 0), ((1 * z107 + 0) + 0), ((1 * z108 + 0) + 0), ((1 * z109 + 0) + 0), ((1 * z110 + 0) + 0), ((1 * z111 + 0) + 0)] [z112, z113, z114, z115] →
 ∀ z116 : Int, 0 ≤ z116 → z116 ≤ 18446744073709551615 → ∀ z117 : Int, 0 ≤ z117 → z117 ≤ 18446744073709551615 → ∀ z118 : Int, 0 ≤ z118 → z118 ≤ 18446744073709551615 → ∀ z119 : Int, 0 ≤ z119 → z119 ≤ 18446744073709551615 → S 22 [((1 * z64 + 0) + 0), ((1 * z65 + 0) + 0), ((1 * z66 + 0) + 0), ((1 * z67 + 0) + 0), ((1 * z68 + 0) + 0), ((1 * z69 + 0) + 0), ((1 * z70 + 0) + 0), ((1 * z71 + 0) + 0), ((1 * z72 + 0) + 0), ((1 * z73 + 0) + 0), ((1 * z74 + 0) + 0), ((1 * z75 + 0) + 0), ((1 * z76 + 0) + 0), ((1 * z77 + 0) + 0), ((1 * z78 + 0) + 0), ((1 * z79 + 0) + 0), ((1 * z80 + 0) + 0), ((1 * z81 + 0) + 0), ((1 * z82 + 0) + 0), ((1 * z83 + 0) + 0), ((1 * z84 + 0) + 0), ((1 * z85 + 0) + 0), ((1 * z86 + 0) + 0), ((1 * z87 + 0) + 0), ((1 * z88 + 0) + 0), ((1 * z89 + 0) + 0), ((1 * z90 + 0) + 0), ((1 * z91 + 0) + 0), ((1 * z92 + 0) + 0), ((1 * z93 + 0) + 0), ((1 * z94 + 0) + 0), ((1 * z95 + 0) + 0)] [z116, z117, z118, z119] →
 ∀ z120 : Int, 0 ≤ z120 → z120 ≤ 18446744073709551615 → ∀ z121 : Int, 0 ≤ z121 → z121 ≤ 18446744073709551615 → ∀ z122 : Int, 0 ≤ z122 → z122 ≤ 18446744073709551615 → ∀ z123 : Int, 0 ≤ z123 → z123 ≤ 18446744073709551615 → S 25 [((1 * z116 + 0) + 0), ((1 * z117 + 0) + 0), ((1 * z118 + 0) + 0), ((1 * z119 + 0) + 0)] [z120, z121, z122, z123] →
 ∀ z124 : Int, 0 ≤ z124 → z124 ≤ 18446744073709551615 → ∀ z125 : Int, 0 ≤ z125 → z125 ≤ 18446744073709551615 → ∀ z126 : Int, 0 ≤ z126 → z126 ≤ 18446744073709551615 → ∀ z127 : Int, 0 ≤ z127 → z127 ≤ 18446744073709551615 → ∀ z128 : Int, 0 ≤ z128 → z128 ≤ 1 → S 24 [((1 * z112 + 0) + 0), ((1 * z113 + 0) + 0), ((1 * z114 + 0) + 0), ((1 * z115 + 0) + 0), ((1 * z120 + 0) + 0), ((1 * z121 + 0) + 0), ((1 * z122 + 0) + 0), ((1 * z123 + 0) + 0)] [z124, z125, z126, z127, z128] →
 ∀ z129 : Int, 0 ≤ z129 → z129 ≤ 18446744073709551615 → ∀ z130 : Int, 0 ≤ z130 → z130 ≤ 18446744073709551615 → ∀ z131 : Int, 0 ≤ z131 → z131 ≤ 18446744073709551615 → ∀ z132 : Int, 0 ≤ z132 → z132 ≤ 18446744073709551615 → S 25 [((1 * z124 + 0) + 0), ((1 * z125 + 0) + 0), ((1 * z126 + 0) + 0), ((1 * z127 + 0) + 0)] [z129, z130, z131, z132] →
 ∀ z133 : Int, 0 ≤ z133 → z133 ≤ 255 → ∀ z134 : Int, 0 ≤ z134 → z134 ≤ 255 → ∀ z135 : Int, 0 ≤ z135 → z135 ≤ 255 → ∀ z136 : Int, 0 ≤ z136 → z136 ≤ 255 → ∀ z137 : Int, 0 ≤ z137 → z137 ≤ 255 → ∀ z138 : Int, 0 ≤ z138 → z138 ≤ 255 → ∀ z139 : Int, 0 ≤ z139 → z139 ≤ 255 → ∀ z140 : Int, 0 ≤ z140 → z140 ≤ 255 → ∀ z141 : Int, 0 ≤ z141 → z141 ≤ 255 → ∀ z142 : Int, 0 ≤ z142 → z142 ≤ 255 → ∀ z143 : Int, 0 ≤ z143 → z143 ≤ 255 → ∀ z144 : Int, 0 ≤ z144 → z144 ≤ 255 → ∀ z145 : Int, 0 ≤ z145 → z145 ≤ 255 → ∀ z146 : Int, 0 ≤ z146 → z146 ≤ 255 → ∀ z147 : Int, 0 ≤ z147 → z147 ≤ 255 → ∀ z148 : Int, 0 ≤ z148 → z148 ≤ 255 → ∀ z149 : Int, 0 ≤ z149 → z149 ≤ 255 → ∀ z150 : Int, 0 ≤ z150 → z150 ≤ 255 → ∀ z151 : Int, 0 ≤ z151 → z151 ≤ 255 → ∀ z152 : Int, 0 ≤ z152 → z152 ≤ 255 → ∀ z153 : Int, 0 ≤ z153 → z153 ≤ 255 → ∀ z154 : Int, 0 ≤ z154 → z154 ≤ 255 → ∀ z155 : Int, 0 ≤ z155 → z155 ≤ 255 → ∀ z156 : Int, 0 ≤ z156 → z156 ≤ 255 → ∀ z157 : Int, 0 ≤ z157 → z157 ≤ 255 → ∀ z158 : Int, 0 ≤ z158 → z158 ≤ 255 → ∀ z159 : Int, 0 ≤ z159 → z159 ≤ 255 → ∀ z160 : Int, 0 ≤ z160 → z160 ≤ 255 → ∀ z161 : Int, 0 ≤ z161 → z161 ≤ 255 → ∀ z162 : Int, 0 ≤ z162 → z162 ≤ 255 → ∀ z163 : Int, 0 ≤ z163 → z163 ≤ 255 → ∀ z164 : Int, 0 ≤ z164 → z164 ≤ 255 → S 26 [((1 * z129 + 0) + 0), ((1 * z130 + 0) + 0), ((1 * z131 + 0) + 0), ((1 * z132 + 0) + 0)] [z133, z134, z135, z136, z137, z138, z139, z140, z141, z142, z143, z144, z145, z146, z147, z148, z149, z150, z151, z152, z153, z154, z155, z156, z157, z158, z159, z160, z161, z162, z163, z164] →
 K [z0, z1, z2, z3, z4, z5, z6, z7, z8, z9, z10, z11, z12, z13, z14, z15, z16, z17, z18, z19, z20, z21, z22, z23, z24, z25, z26, z27, z28, z29, z30, z31, z32, z33, z34, z35, z36, z37, z38, z39, z40, z41, z42, z43, z44, z45, z46, z47, z48, z49, z50, z51, z52, z53, z54, z55, z56, z57, z58, z59, z60, z61, z62, z63, z64, z65, z66, z67, z68, z69, z70, z71, z72, z73, z74, z75, z76, z77, z78, z79, z80, z81, z82, z83, z84, z85, z86, z87, z88, z89, z90, z91, z92, z93, z94, z95] [((1 * z133 + 0) + 0), ((1 * z134 + 0) + 0), ((1 * z135 + 0) + 0), ((1 * z136 + 0) + 0), ((1 * z137 + 0) + 0), ((1 * z138 + 0) + 0), ((1 * z139 + 0) + 0), ((1 * z140 + 0) + 0), ((1 * z141 + 0) + 0), ((1 * z142 + 0) + 0), ((1 * z143 + 0) + 0), ((1 * z144 + 0) + 0), ((1 * z145 + 0) + 0), ((1 * z146 + 0) + 0), ((1 * z147 + 0) + 0), ((1 * z148 + 0) + 0), ((1 * z149 + 0) + 0), ((1 * z150 + 0) + 0), ((1 * z151 + 0) + 0), ((1 * z152 + 0) + 0), ((1 * z153 + 0) + 0), ((1 * z154 + 0) + 0), ((1 * z155 + 0) + 0), ((1 * z156 + 0) + 0), ((1 * z157 + 0) + 0), ((1 * z158 + 0) + 0), ((1 * z159 + 0) + 0), ((1 * z160 + 0) + 0), ((1 * z161 + 0) + 0), ((1 * z162 + 0) + 0), ((1 * z163 + 0) + 0), ((1 * z164 + 0) + 0)]
theorem p_muladd : V_muladd SC fun zs rs => inB (bdsL k_muladd.res) rs ∧ SC 8 zs rs := by
  unfold V_muladd
  simp (maxSteps := 4000000) only [Int.one_mul, Int.add_zero, Int.zero_add]
  intro z0 a0 b0 z1 a1 b1 z2 a2 b2 z3 a3 b3 z4 a4 b4 z5 a5 b5 z6 a6 b6 z7 a7 b7 z8 a8 b8 z9 a9 b9 z10 a10 b10 z11 a11 b11 z12 a12 b12 z13 a13 b13 z14 a14 b14 z15 a15 b15 z16 a16 b16 z17 a17 b17 z18 a18 b18 z19 a19 b19 z20 a20 b20 z21 a21 b21 z22 a22 b22 z23 a23 b23 z24 a24 b24 z25 a25 b25 z26 a26 b26 z27 a27 b27 z28 a28 b28 z29 a29 b29 z30 a30 b30 z31 a31 b31 z32 a32 b32 z33 a33 b33 z34 a34 b34 z35 a35 b35 z36 a36 b36 z37 a37 b37 z38 a38 b38 z39 a39 b39 z40 a40 b40 z41 a41 b41 z42 a42 b42 z43 a43 b43 z44 a44 b44 z45 a45 b45 z46 a46 b46 z47 a47 b47 z48 a48 b48 z49 a49 b49 z50 a50 b50 z51 a51 b51 z52 a52 b52 z53 a53 b53 z54 a54 b54 z55 a55 b55 z56 a56 b56 z57 a57 b57 z58 a58 b58 z59 a59 b59 z60 a60 b60 z61 a61 b61 z62 a62 b62 z63 a63 b63 z64 a64 b64 z65 a65 b65 z66 a66 b66 z67 a67 b67 z68 a68 b68 z69 a69 b69 z70 a70 b70 z71 a71 b71 z72 a72 b72 z73 a73 b73 z74 a74 b74 z75 a75 b75 z76 a76 b76 z77 a77 b77 z78 a78 b78 z79 a79 b79 z80 a80 b80 z81 a81 b81 z82 a82 b82 z83 a83 b83 z84 a84 b84 z85 a85 b85 z86 a86 b86 z87 a87 b87 z88 a88 b88 z89 a89 b89 z90 a90 b90 z91 a91 b91 z92 a92 b92 z93 a93 b93 z94 a94 b94 z95 a95 b95 z96 a96 b96 z97 a97 b97 z98 a98 b98 z99 a99 b99 s0 z100 a100 b100 z101 a101 b101 z102 a102 b102 z103 a103 b103 s1 z104 a104 b104 z105 a105 b105 z106 a106 b106 z107 a107 b107 z108 a108 b108 z109 a109 b109 z110 a110 b110 z111 a111 b111 s2 z112 a112 b112 z113 a113 b113 z114 a114 b114 z115 a115 b115 s3 z116 a116 b116 z117 a117 b117 z118 a118 b118 z119 a119 b119 s4 z120 a120 b120 z121 a121 b121 z122 a122 b122 z123 a123 b123 s5 z124 a124 b124 z125 a125 b125 z126 a126 b126 z127 a127 b127 z128 a128 b128 s6 z129 a129 b129 z130 a130 b130 z131 a131 b131 z132 a132 b132 s7 z133 a133 b133 z134 a134 b134 z135 a135 b135 z136 a136 b136 z137 a137 b137 z138 a138 b138 z139 a139 b139 z140 a140 b140 z141 a141 b141 z142 a142 b142 z143 a143 b143 z144 a144 b144 z145 a145 b145 z146 a146 b146 z147 a147 b147 z148 a148 b148 z149 a149 b149 z150 a150 b150 z151 a151 b151 z152 a152 b152 z153 a153 b153 z154 a154 b154 z155 a155 b155 z156 a156 b156 z157 a157 b157 z158 a158 b158 z159 a159 b159 z160 a160 b160 z161 a161 b161 z162 a162 b162 z163 a163 b163 z164 a164 b164 s8
  simp (maxSteps := 2000000) only [SC, s_load, s_loada, s_loadb, s_minus, s_plus, s_bytes, s_product, s_folded, s_left, s_wide, s_right, s_neg, s_reduce, s_muladd, s_clamp, s_l, s_less, s_sum, s_rleft, s_true, List.take_succ_cons, List.take_zero, List.drop_succ_cons, List.drop_zero, List.getD_cons_zero, List.getD_cons_succ] at s0 s1 s2 s3 s4 s5 s6 s7 s8
  have n112 := nw4 a112 b112 a113 b113 a114 b114 a115 b115
  have n120 := nw4 a120 b120 a121 b121 a122 b122 a123 b123
  have n124 := nw4 a124 b124 a125 b125 a126 b126 a127 b127
  refine ⟨?_, ?_⟩
  · simp only [k_muladd, bdsL, by32, D.bds, repB, List.cons_append, List.nil_append, List.append_nil, inB, and_true]
    exact ⟨a133, b133, a134, b134, a135, b135, a136, b136, a137, b137, a138, b138, a139, b139, a140, b140, a141, b141, a142, b142, a143, b143, a144, b144, a145, b145, a146, b146, a147, b147, a148, b148, a149, b149, a150, b150, a151, b151, a152, b152, a153, b153, a154, b154, a155, b155, a156, b156, a157, b157, a158, b158, a159, b159, a160, b160, a161, b161, a162, b162, a163, b163, a164, b164⟩
  · simp only [SC, s_load, s_loada, s_loadb, s_minus, s_plus, s_bytes, s_product, s_folded, s_left, s_wide, s_right, s_neg, s_reduce, s_muladd, s_clamp, s_l, s_less, s_sum, s_rleft, s_true, List.take_succ_cons, List.take_zero, List.drop_succ_cons, List.drop_zero, List.getD_cons_zero, List.getD_cons_succ]
    rw [s8, s7]
    rw [s2, s0, s1] at s3
    rw [s4] at s5
    clear s0 s1 s2 s4 s7 s8 a0 b0 a1 b1 a2 b2 a3 b3 a4 b4 a5 b5 a6 b6 a7 b7 a8 b8 a9 b9 a10 b10 a11 b11 a12 b12 a13 b13 a14 b14 a15 b15 a16 b16 a17 b17 a18 b18 a19 b19 a20 b20 a21 b21 a22 b22 a23 b23 a24 b24 a25 b25 a26 b26 a27 b27 a28 b28 a29 b29 a30 b30 a31 b31 a32 b32 a33 b33 a34 b34 a35 b35 a36 b36 a37 b37 a38 b38 a39 b39 a40 b40 a41 b41 a42 b42 a43 b43 a44 b44 a45 b45 a46 b46 a47 b47 a48 b48 a49 b49 a50 b50 a51 b51 a52 b52 a53 b53 a54 b54 a55 b55 a56 b56 a57 b57 a58 b58 a59 b59 a60 b60 a61 b61 a62 b62 a63 b63 a64 b64 a65 b65 a66 b66 a67 b67 a68 b68 a69 b69 a70 b70 a71 b71 a72 b72 a73 b73 a74 b74 a75 b75 a76 b76 a77 b77 a78 b78 a79 b79 a80 b80 a81 b81 a82 b82 a83 b83 a84 b84 a85 b85 a86 b86 a87 b87 a88 b88 a89 b89 a90 b90 a91 b91 a92 b92 a93 b93 a94 b94 a95 b95 a96 b96 a97 b97 a98 b98 a99 b99 a100 b100 a101 b101 a102 b102 a103 b103 a104 b104 a105 b105 a106 b106 a107 b107 a108 b108 a109 b109 a110 b110 a111 b111 a112 b112 a113 b113 a114 b114 a115 b115 a116 b116 a117 b117 a118 b118 a119 b119 a120 b120 a121 b121 a122 b122 a123 b123 a124 b124 a125 b125 a126 b126 a127 b127 a129 b129 a130 b130 a131 b131 a132 b132 a133 b133 a134 b134 a135 b135 a136 b136 a137 b137 a138 b138 a139 b139 a140 b140 a141 b141 a142 b142 a143 b143 a144 b144 a145 b145 a146 b146 a147 b147 a148 b148 a149 b149 a150 b150 a151 b151 a152 b152 a153 b153 a154 b154 a155 b155 a156 b156 a157 b157 a158 b158 a159 b159 a160 b160 a161 b161 a162 b162 a163 b163 a164 b164
    generalize nw [z112, z113, z114, z115] = N112 at *
    generalize nw [z120, z121, z122, z123] = N120 at *
    generalize nw [z124, z125, z126, z127] = N124 at *
    generalize nb [z0, z1, z2, z3, z4, z5, z6, z7, z8, z9, z10, z11, z12, z13, z14, z15, z16, z17, z18, z19, z20, z21, z22, z23, z24, z25, z26, z27, z28, z29, z30, z31] * nb [z32, z33, z34, z35, z36, z37, z38, z39, z40, z41, z42, z43, z44, z45, z46, z47, z48, z49, z50, z51, z52, z53, z54, z55, z56, z57, z58, z59, z60, z61, z62, z63] = M at *
    generalize nb [z64, z65, z66, z67, z68, z69, z70, z71, z72, z73, z74, z75, z76, z77, z78, z79, z80, z81, z82, z83, z84, z85, z86, z87, z88, z89, z90, z91, z92, z93, z94, z95] = C at *
    omega
def V_rleft (S : Nat → List Int → List Int → Prop) (K : List Int → List Int → Prop) : Prop :=
 ∀ z0 : Int, 0 ≤ z0 → z0 ≤ 255 →
 ∀ z1 : Int, 0 ≤ z1 → z1 ≤ 255 →
 ∀ z2 : Int, 0 ≤ z2 → z2 ≤ 255 →
 ∀ z3 : Int, 0 ≤ z3 → z3 ≤ 255 →
 ∀ z4 : Int, 0 ≤ z4 → z4 ≤ 255 →
 ∀ z5 : Int, 0 ≤ z5 → z5 ≤ 255 →
 ∀ z6 : Int, 0 ≤ z6 → z6 ≤ 255 →
 ∀ z7 : Int, 0 ≤ z7 → z7 ≤ 255 →
 ∀ z8 : Int, 0 ≤ z8 → z8 ≤ 255 →
 ∀ z9 : Int, 0 ≤ z9 → z9 ≤ 255 →
 ∀ z10 : Int, 0 ≤ z10 → z10 ≤ 255 →
 ∀ z11 : Int, 0 ≤ z11 → z11 ≤ 255 →
 ∀ z12 : Int, 0 ≤ z12 → z12 ≤ 255 →
 ∀ z13 : Int, 0 ≤ z13 → z13 ≤ 255 →
 ∀ z14 : Int, 0 ≤ z14 → z14 ≤ 255 →
 ∀ z15 : Int, 0 ≤ z15 → z15 ≤ 255 →
 ∀ z16 : Int, 0 ≤ z16 → z16 ≤ 255 →
 ∀ z17 : Int, 0 ≤ z17 → z17 ≤ 255 →
 ∀ z18 : Int, 0 ≤ z18 → z18 ≤ 255 →
 ∀ z19 : Int, 0 ≤ z19 → z19 ≤ 255 →
 ∀ z20 : Int, 0 ≤ z20 → z20 ≤ 255 →
 ∀ z21 : Int, 0 ≤ z21 → z21 ≤ 255 →
 ∀ z22 : Int, 0 ≤ z22 → z22 ≤ 255 →
 ∀ z23 : Int, 0 ≤ z23 → z23 ≤ 255 →
 ∀ z24 : Int, 0 ≤ z24 → z24 ≤ 255 →
 ∀ z25 : Int, 0 ≤ z25 → z25 ≤ 255 →
 ∀ z26 : Int, 0 ≤ z26 → z26 ≤ 255 →
 ∀ z27 : Int, 0 ≤ z27 → z27 ≤ 255 →
 ∀ z28 : Int, 0 ≤ z28 → z28 ≤ 255 →
 ∀ z29 : Int, 0 ≤ z29 → z29 ≤ 255 →
 ∀ z30 : Int, 0 ≤ z30 → z30 ≤ 255 →
 ∀ z31 : Int, 0 ≤ z31 → z31 ≤ 255 →
 ∃ (I32 : List Int → Prop) (μ32 : List Int → Nat), I32 [(0 + 255), (0 + 0), (0 + 0), (0 + 0), (0 + 0)] ∧ (∀ z33 : Int, (-1) ≤ z33 → z33 ≤ 255 → ∀ z34 : Int, 0 ≤ z34 → z34 ≤ 18446744073709551615 → ∀ z35 : Int, 0 ≤ z35 → z35 ≤ 18446744073709551615 → ∀ z36 : Int, 0 ≤ z36 → z36 ≤ 18446744073709551615 → ∀ z37 : Int, 0 ≤ z37 → z37 ≤ 18446744073709551615 → I32 [z33, z34, z35, z36, z37] →
  (((decide ((0 + 0) ≤ ((1 * z33 + 0) + 0))) = true →
   ∀ z38 : Int, 0 ≤ z38 → z38 ≤ 18446744073709551615 → ∀ z39 : Int, 0 ≤ z39 → z39 ≤ 18446744073709551615 → ∀ z40 : Int, 0 ≤ z40 → z40 ≤ 18446744073709551615 → ∀ z41 : Int, 0 ≤ z41 → z41 ≤ 18446744073709551615 → S 28 [((1 * z34 + 0) + 0), ((1 * z35 + 0) + 0), ((1 * z36 + 0) + 0), ((1 * z37 + 0) + 0), ((1 * z34 + 0) + 0), ((1 * z35 + 0) + 0), ((1 * z36 + 0) + 0), ((1 * z37 + 0) + 0)] [z38, z39, z40, z41] →
   ∀ z42 : Int, 0 ≤ z42 → z42 ≤ 31 → 0 ≤ ((1 * z33 + 0) + 0) - 8 * z42 → ((1 * z33 + 0) + 0) - 8 * z42 < 8 →
   ∀ z43 : Int, 0 ≤ z43 → z43 ≤ 255 → z43 = List.getD [((1 * z0 + 0) + 0), ((1 * z1 + 0) + 0), ((1 * z2 + 0) + 0), ((1 * z3 + 0) + 0), ((1 * z4 + 0) + 0), ((1 * z5 + 0) + 0), ((1 * z6 + 0) + 0), ((1 * z7 + 0) + 0), ((1 * z8 + 0) + 0), ((1 * z9 + 0) + 0), ((1 * z10 + 0) + 0), ((1 * z11 + 0) + 0), ((1 * z12 + 0) + 0), ((1 * z13 + 0) + 0), ((1 * z14 + 0) + 0), ((1 * z15 + 0) + 0), ((1 * z16 + 0) + 0), ((1 * z17 + 0) + 0), ((1 * z18 + 0) + 0), ((1 * z19 + 0) + 0), ((1 * z20 + 0) + 0), ((1 * z21 + 0) + 0), ((1 * z22 + 0) + 0), ((1 * z23 + 0) + 0), ((1 * z24 + 0) + 0), ((1 * z25 + 0) + 0), ((1 * z26 + 0) + 0), ((1 * z27 + 0) + 0), ((1 * z28 + 0) + 0), ((1 * z29 + 0) + 0), ((1 * z30 + 0) + 0), ((1 * z31 + 0) + 0)] (((1 * z42 + 0) + 0)).toNat 0 →
   ∀ z44 : Int, 0 ≤ z44 → z44 ≤ 31 → 0 ≤ ((1 * z33 + 0) + 0) - 8 * z44 → ((1 * z33 + 0) + 0) - 8 * z44 < 8 →
   ∀ z45 : Int, 0 ≤ z45 → z45 ≤ 255 → z45 = ((1 * z43 + 0) + 0) / 2 ^ (((1 * z33 + ((-8) * z44 + 0)) + 0)).toNat →
   ∀ z46 : Int, 0 ≤ z46 → z46 ≤ 127 → 0 ≤ ((1 * z45 + 0) + 0) - 2 * z46 → ((1 * z45 + 0) + 0) - 2 * z46 < 2 →
   (((decide (((1 * z45 + ((-2) * z46 + 0)) + 0) = (0 + 1))) = true →
    ∀ z47 : Int, 0 ≤ z47 → z47 ≤ 18446744073709551615 → ∀ z48 : Int, 0 ≤ z48 → z48 ≤ 18446744073709551615 → ∀ z49 : Int, 0 ≤ z49 → z49 ≤ 18446744073709551615 → ∀ z50 : Int, 0 ≤ z50 → z50 ≤ 18446744073709551615 → S 28 [((1 * z38 + 0) + 0), ((1 * z39 + 0) + 0), ((1 * z40 + 0) + 0), ((1 * z41 + 0) + 0), (0 + 1), (0 + 0), (0 + 0), (0 + 0)] [z47, z48, z49, z50] →
    (I32 [((1 * z33 + 0) + (-1)), ((1 * z47 + 0) + 0), ((1 * z48 + 0) + 0), ((1 * z49 + 0) + 0), ((1 * z50 + 0) + 0)] ∧ μ32 [((1 * z33 + 0) + (-1)), ((1 * z47 + 0) + 0), ((1 * z48 + 0) + 0), ((1 * z49 + 0) + 0), ((1 * z50 + 0) + 0)] < μ32 [z33, z34, z35, z36, z37])
   ) ∧ ((decide (((1 * z45 + ((-2) * z46 + 0)) + 0) = (0 + 1))) = false →
    (I32 [((1 * z33 + 0) + (-1)), ((1 * z38 + 0) + 0), ((1 * z39 + 0) + 0), ((1 * z40 + 0) + 0), ((1 * z41 + 0) + 0)] ∧ μ32 [((1 * z33 + 0) + (-1)), ((1 * z38 + 0) + 0), ((1 * z39 + 0) + 0), ((1 * z40 + 0) + 0), ((1 * z41 + 0) + 0)] < μ32 [z33, z34, z35, z36, z37])
   ))
  ) ∧ ((decide ((0 + 0) ≤ ((1 * z33 + 0) + 0))) = false →
   K [z0, z1, z2, z3, z4, z5, z6, z7, z8, z9, z10, z11, z12, z13, z14, z15, z16, z17, z18, z19, z20, z21, z22, z23, z24, z25, z26, z27, z28, z29, z30, z31] [((1 * z34 + 0) + 0), ((1 * z35 + 0) + 0), ((1 * z36 + 0) + 0), ((1 * z37 + 0) + 0)]
  ))
 )
theorem p_rleft : V_rleft SC fun zs rs => inB (bdsL k_rleft.res) rs ∧ SC 27 zs rs := by
  unfold V_rleft
  simp (maxSteps := 4000000) only [Int.one_mul, Int.add_zero, Int.zero_add]
  intro z0 a0 b0 z1 a1 b1 z2 a2 b2 z3 a3 b3 z4 a4 b4 z5 a5 b5 z6 a6 b6 z7 a7 b7 z8 a8 b8 z9 a9 b9 z10 a10 b10 z11 a11 b11 z12 a12 b12 z13 a13 b13 z14 a14 b14 z15 a15 b15 z16 a16 b16 z17 a17 b17 z18 a18 b18 z19 a19 b19 z20 a20 b20 z21 a21 b21 z22 a22 b22 z23 a23 b23 z24 a24 b24 z25 a25 b25 z26 a26 b26 z27 a27 b27 z28 a28 b28 z29 a29 b29 z30 a30 b30 z31 a31 b31
  have n0 : inB (repB 0 255 32) [z0, z1, z2, z3, z4, z5, z6, z7, z8, z9, z10, z11, z12, z13, z14, z15, z16, z17, z18, z19, z20, z21, z22, z23, z24, z25, z26, z27, z28, z29, z30, z31] := by
    simp only [repB, inB, and_true]
    exact ⟨a0, b0, a1, b1, a2, b2, a3, b3, a4, b4, a5, b5, a6, b6, a7, b7, a8, b8, a9, b9, a10, b10, a11, b11, a12, b12, a13, b13, a14, b14, a15, b15, a16, b16, a17, b17, a18, b18, a19, b19, a20, b20, a21, b21, a22, b22, a23, b23, a24, b24, a25, b25, a26, b26, a27, b27, a28, b28, a29, b29, a30, b30, a31, b31⟩
  have m0 := nb_bd n0
  refine ⟨fun l => nw (l.drop 1) = nb [z0, z1, z2, z3, z4, z5, z6, z7, z8, z9, z10, z11, z12, z13, z14, z15, z16, z17, z18, z19, z20, z21, z22, z23, z24, z25, z26, z27, z28, z29, z30, z31] / 2 ^ (l.getD 0 0 + 1).toNat % 7237005577332262213973186563042994240857116359379907606001950938285454250989, fun l => (l.getD 0 0 + 1).toNat, ?_, ?_⟩
  · simp only [List.take_succ_cons, List.take_zero, List.drop_succ_cons, List.drop_zero, List.getD_cons_zero, List.getD_cons_succ]
    rw [nw_0, show (255 + 1 : Int).toNat = 256 by decide]
    rw [Int.ediv_eq_zero_of_lt m0.1 (by have h := m0.2; rw [pow256] at h; exact h)]
    decide
  · intro z33 a33 b33 z34 a34 b34 z35 a35 b35 z36 a36 b36 z37 a37 b37 hI
    simp only [List.take_succ_cons, List.take_zero, List.drop_succ_cons, List.drop_zero, List.getD_cons_zero, List.getD_cons_succ] at hI
    have n34 := nw4 a34 b34 a35 b35 a36 b36 a37 b37
    refine ⟨fun h => ?_, fun h => ?_⟩
    · simp only [decide_eq_true_eq] at h
      intro z38 a38 b38 z39 a39 b39 z40 a40 b40 z41 a41 b41 s1 z42 a42 b42 c42 d42 z43 a43 b43 e43 z44 a44 b44 c44 d44 z45 a45 b45 e45 z46 a46 b46 c46 d46
      simp (maxSteps := 2000000) only [SC, s_load, s_loada, s_loadb, s_minus, s_plus, s_bytes, s_product, s_folded, s_left, s_wide, s_right, s_neg, s_reduce, s_muladd, s_clamp, s_l, s_less, s_sum, s_rleft, s_true, List.take_succ_cons, List.take_zero, List.drop_succ_cons, List.drop_zero, List.getD_cons_zero, List.getD_cons_succ] at s1
      have n38 := nw4 a38 b38 a39 b39 a40 b40 a41 b41
      obtain ⟨i, hi⟩ := Int.eq_ofNat_of_zero_le h
      have hi' : z33 = (i : Int) := hi
      have hb := nb_bit i n0 (by omega)
      have hh := half_step (nb [z0, z1, z2, z3, z4, z5, z6, z7, z8, z9, z10, z11, z12, z13, z14, z15, z16, z17, z18, z19, z20, z21, z22, z23, z24, z25, z26, z27, z28, z29, z30, z31]) i
      have ei : (z33 + 1).toNat = i + 1 := by omega
      have ei2 : (z33 + -1 + 1).toNat = i := by omega
      have q1 : z42 = i / 8 := by omega
      have q2 : z44 = i / 8 := by omega
      have q3 : z42.toNat = i / 8 := by omega
      have q4 : (z33 + -8 * z44).toNat = i % 8 := by omega
      rw [q3] at e43
      rw [q4] at e45
      have hbit : z45 + -2 * z46 = nb [z0, z1, z2, z3, z4, z5, z6, z7, z8, z9, z10, z11, z12, z13, z14, z15, z16, z17, z18, z19, z20, z21, z22, z23, z24, z25, z26, z27, z28, z29, z30, z31] / 2 ^ i % 2 := by rw [hb, ← e43, ← e45]; omega
      rw [ei] at hI
      have hI0 : 0 ≤ nw [z34, z35, z36, z37] ∧ nw [z34, z35, z36, z37] < 7237005577332262213973186563042994240857116359379907606001950938285454250989 := by rw [hI]; exact ⟨Int.emod_nonneg _ (by decide), Int.emod_lt_of_pos _ (by decide)⟩
      have d1 := sum_red hI0.1 hI0.2 hI0.1 hI0.2 s1
      rw [mod_double hI] at d1
      have hmu : (z33 + -1 + 1).toNat < (z33 + 1).toNat := by omega
      refine ⟨fun g => ?_, fun g => ?_⟩
      · intro z47 a47 b47 z48 a48 b48 z49 a49 b49 z50 a50 b50 s2
        simp (maxSteps := 2000000) only [SC, s_load, s_loada, s_loadb, s_minus, s_plus, s_bytes, s_product, s_folded, s_left, s_wide, s_right, s_neg, s_reduce, s_muladd, s_clamp, s_l, s_less, s_sum, s_rleft, s_true, List.take_succ_cons, List.take_zero, List.drop_succ_cons, List.drop_zero, List.getD_cons_zero, List.getD_cons_succ] at s2
        simp only [decide_eq_true_eq] at g
        rw [nw_1] at s2
        have d2 := sum_red d1.2.1 d1.2.2 (by decide : (0 : Int) ≤ 1) (by decide : (1 : Int) < 7237005577332262213973186563042994240857116359379907606001950938285454250989) s2
        refine ⟨?_, ?_⟩
        · simp only [List.take_succ_cons, List.take_zero, List.drop_succ_cons, List.drop_zero, List.getD_cons_zero, List.getD_cons_succ]
          rw [ei2, hh, ← hbit, g, d2.1, mod_step d1.1 (by decide : (1 : Int) = 1 % 7237005577332262213973186563042994240857116359379907606001950938285454250989)]
        · simp only [List.take_succ_cons, List.take_zero, List.drop_succ_cons, List.drop_zero, List.getD_cons_zero, List.getD_cons_succ]; exact hmu
      · simp only [decide_eq_false_iff_not] at g
        have g0 : z45 + -2 * z46 = 0 := by omega
        refine ⟨?_, ?_⟩
        · simp only [List.take_succ_cons, List.take_zero, List.drop_succ_cons, List.drop_zero, List.getD_cons_zero, List.getD_cons_succ]
          rw [ei2, hh, ← hbit, g0, d1.1, Int.add_zero]
        · simp only [List.take_succ_cons, List.take_zero, List.drop_succ_cons, List.drop_zero, List.getD_cons_zero, List.getD_cons_succ]; exact hmu
    · simp only [decide_eq_false_iff_not] at h
      refine ⟨?_, ?_⟩
      · simp only [k_rleft, bdsL, w4, D.bds, repB, List.cons_append, List.nil_append, List.append_nil, inB, and_true]
        exact ⟨a34, b34, a35, b35, a36, b36, a37, b37⟩
      · simp only [SC, s_load, s_loada, s_loadb, s_minus, s_plus, s_bytes, s_product, s_folded, s_left, s_wide, s_right, s_neg, s_reduce, s_muladd, s_clamp, s_l, s_less, s_sum, s_rleft, s_true]
        have ei : (z33 + 1).toNat = 0 := by omega
        rw [ei] at hI
        simpa using hI
def V_rleftb (S : Nat → List Int → List Int → Prop) (K : List Int → List Int → Prop) : Prop :=
 ∀ z0 : Int, 0 ≤ z0 → z0 ≤ 255 →
 ∀ z1 : Int, 0 ≤ z1 → z1 ≤ 255 →
 ∀ z2 : Int, 0 ≤ z2 → z2 ≤ 255 →
 ∀ z3 : Int, 0 ≤ z3 → z3 ≤ 255 →
 ∀ z4 : Int, 0 ≤ z4 → z4 ≤ 255 →
 ∀ z5 : Int, 0 ≤ z5 → z5 ≤ 255 →
 ∀ z6 : Int, 0 ≤ z6 → z6 ≤ 255 →
 ∀ z7 : Int, 0 ≤ z7 → z7 ≤ 255 →
 ∀ z8 : Int, 0 ≤ z8 → z8 ≤ 255 →
 ∀ z9 : Int, 0 ≤ z9 → z9 ≤ 255 →
 ∀ z10 : Int, 0 ≤ z10 → z10 ≤ 255 →
 ∀ z11 : Int, 0 ≤ z11 → z11 ≤ 255 →
 ∀ z12 : Int, 0 ≤ z12 → z12 ≤ 255 →
 ∀ z13 : Int, 0 ≤ z13 → z13 ≤ 255 →
 ∀ z14 : Int, 0 ≤ z14 → z14 ≤ 255 →
 ∀ z15 : Int, 0 ≤ z15 → z15 ≤ 255 →
 ∀ z16 : Int, 0 ≤ z16 → z16 ≤ 255 →
 ∀ z17 : Int, 0 ≤ z17 → z17 ≤ 255 →
 ∀ z18 : Int, 0 ≤ z18 → z18 ≤ 255 →
 ∀ z19 : Int, 0 ≤ z19 → z19 ≤ 255 →
 ∀ z20 : Int, 0 ≤ z20 → z20 ≤ 255 →
 ∀ z21 : Int, 0 ≤ z21 → z21 ≤ 255 →
 ∀ z22 : Int, 0 ≤ z22 → z22 ≤ 255 →
 ∀ z23 : Int, 0 ≤ z23 → z23 ≤ 255 →
 ∀ z24 : Int, 0 ≤ z24 → z24 ≤ 255 →
 ∀ z25 : Int, 0 ≤ z25 → z25 ≤ 255 →
 ∀ z26 : Int, 0 ≤ z26 → z26 ≤ 255 →
 ∀ z27 : Int, 0 ≤ z27 → z27 ≤ 255 →
 ∀ z28 : Int, 0 ≤ z28 → z28 ≤ 255 →
 ∀ z29 : Int, 0 ≤ z29 → z29 ≤ 255 →
 ∀ z30 : Int, 0 ≤ z30 → z30 ≤ 255 →
 ∀ z31 : Int, 0 ≤ z31 → z31 ≤ 255 →
 ∀ z32 : Int, 0 ≤ z32 → z32 ≤ 255 →
 ∀ z33 : Int, 0 ≤ z33 → z33 ≤ 255 →
 ∀ z34 : Int, 0 ≤ z34 → z34 ≤ 255 →
 ∀ z35 : Int, 0 ≤ z35 → z35 ≤ 255 →
 ∀ z36 : Int, 0 ≤ z36 → z36 ≤ 255 →
 ∀ z37 : Int, 0 ≤ z37 → z37 ≤ 255 →
 ∀ z38 : Int, 0 ≤ z38 → z38 ≤ 255 →
 ∀ z39 : Int, 0 ≤ z39 → z39 ≤ 255 →
 ∀ z40 : Int, 0 ≤ z40 → z40 ≤ 255 →
 ∀ z41 : Int, 0 ≤ z41 → z41 ≤ 255 →
 ∀ z42 : Int, 0 ≤ z42 → z42 ≤ 255 →
 ∀ z43 : Int, 0 ≤ z43 → z43 ≤ 255 →
 ∀ z44 : Int, 0 ≤ z44 → z44 ≤ 255 →
 ∀ z45 : Int, 0 ≤ z45 → z45 ≤ 255 →
 ∀ z46 : Int, 0 ≤ z46 → z46 ≤ 255 →
 ∀ z47 : Int, 0 ≤ z47 → z47 ≤ 255 →
 ∀ z48 : Int, 0 ≤ z48 → z48 ≤ 255 →
 ∀ z49 : Int, 0 ≤ z49 → z49 ≤ 255 →
 ∀ z50 : Int, 0 ≤ z50 → z50 ≤ 255 →
 ∀ z51 : Int, 0 ≤ z51 → z51 ≤ 255 →
 ∀ z52 : Int, 0 ≤ z52 → z52 ≤ 255 →
 ∀ z53 : Int, 0 ≤ z53 → z53 ≤ 255 →
 ∀ z54 : Int, 0 ≤ z54 → z54 ≤ 255 →
 ∀ z55 : Int, 0 ≤ z55 → z55 ≤ 255 →
 ∀ z56 : Int, 0 ≤ z56 → z56 ≤ 255 →
 ∀ z57 : Int, 0 ≤ z57 → z57 ≤ 255 →
 ∀ z58 : Int, 0 ≤ z58 → z58 ≤ 255 →
 ∀ z59 : Int, 0 ≤ z59 → z59 ≤ 255 →
 ∀ z60 : Int, 0 ≤ z60 → z60 ≤ 255 →
 ∀ z61 : Int, 0 ≤ z61 → z61 ≤ 255 →
 ∀ z62 : Int, 0 ≤ z62 → z62 ≤ 255 →
 ∀ z63 : Int, 0 ≤ z63 → z63 ≤ 255 →
 ∃ (I64 : List Int → Prop) (μ64 : List Int → Nat), I64 [(0 + 511), (0 + 0), (0 + 0), (0 + 0), (0 + 0)] ∧ (∀ z65 : Int, (-1) ≤ z65 → z65 ≤ 511 → ∀ z66 : Int, 0 ≤ z66 → z66 ≤ 18446744073709551615 → ∀ z67 : Int, 0 ≤ z67 → z67 ≤ 18446744073709551615 → ∀ z68 : Int, 0 ≤ z68 → z68 ≤ 18446744073709551615 → ∀ z69 : Int, 0 ≤ z69 → z69 ≤ 18446744073709551615 → I64 [z65, z66, z67, z68, z69] →
  (((decide ((0 + 0) ≤ ((1 * z65 + 0) + 0))) = true →
   ∀ z70 : Int, 0 ≤ z70 → z70 ≤ 18446744073709551615 → ∀ z71 : Int, 0 ≤ z71 → z71 ≤ 18446744073709551615 → ∀ z72 : Int, 0 ≤ z72 → z72 ≤ 18446744073709551615 → ∀ z73 : Int, 0 ≤ z73 → z73 ≤ 18446744073709551615 → S 28 [((1 * z66 + 0) + 0), ((1 * z67 + 0) + 0), ((1 * z68 + 0) + 0), ((1 * z69 + 0) + 0), ((1 * z66 + 0) + 0), ((1 * z67 + 0) + 0), ((1 * z68 + 0) + 0), ((1 * z69 + 0) + 0)] [z70, z71, z72, z73] →
   ∀ z74 : Int, 0 ≤ z74 → z74 ≤ 63 → 0 ≤ ((1 * z65 + 0) + 0) - 8 * z74 → ((1 * z65 + 0) + 0) - 8 * z74 < 8 →
   ∀ z75 : Int, 0 ≤ z75 → z75 ≤ 255 → z75 = List.getD [((1 * z0 + 0) + 0), ((1 * z1 + 0) + 0), ((1 * z2 + 0) + 0), ((1 * z3 + 0) + 0), ((1 * z4 + 0) + 0), ((1 * z5 + 0) + 0), ((1 * z6 + 0) + 0), ((1 * z7 + 0) + 0), ((1 * z8 + 0) + 0), ((1 * z9 + 0) + 0), ((1 * z10 + 0) + 0), ((1 * z11 + 0) + 0), ((1 * z12 + 0) + 0), ((1 * z13 + 0) + 0), ((1 * z14 + 0) + 0), ((1 * z15 + 0) + 0), ((1 * z16 + 0) + 0), ((1 * z17 + 0) + 0), ((1 * z18 + 0) + 0), ((1 * z19 + 0) + 0), ((1 * z20 + 0) + 0), ((1 * z21 + 0) + 0), ((1 * z22 + 0) + 0), ((1 * z23 + 0) + 0), ((1 * z24 + 0) + 0), ((1 * z25 + 0) + 0), ((1 * z26 + 0) + 0), ((1 * z27 + 0) + 0), ((1 * z28 + 0) + 0), ((1 * z29 + 0) + 0), ((1 * z30 + 0) + 0), ((1 * z31 + 0) + 0), ((1 * z32 + 0) + 0), ((1 * z33 + 0) + 0), ((1 * z34 + 0) + 0), ((1 * z35 + 0) + 0), ((1 * z36 + 0) + 0), ((1 * z37 + 0) + 0), ((1 * z38 + 0) + 0), ((1 * z39 + 0) + 0), ((1 * z40 + 0) + 0), ((1 * z41 + 0) + 0), ((1 * z42 + 0) + 0), ((1 * z43 + 0) + 0), ((1 * z44 + 0) + 0), ((1 * z45 + 0) + 0), ((1 * z46 + 0) + 0), ((1 * z47 + 0) + 0), ((1 * z48 + 0) + 0), ((1 * z49 + 0) + 0), ((1 * z50 + 0) + 0), ((1 * z51 + 0) + 0), ((1 * z52 + 0) + 0), ((1 * z53 + 0) + 0), ((1 * z54 + 0) + 0), ((1 * z55 + 0) + 0), ((1 * z56 + 0) + 0), ((1 * z57 + 0) + 0), ((1 * z58 + 0) + 0), ((1 * z59 + 0) + 0), ((1 * z60 + 0) + 0), ((1 * z61 + 0) + 0), ((1 * z62 + 0) + 0), ((1 * z63 + 0) + 0)] (((1 * z74 + 0) + 0)).toNat 0 →
   ∀ z76 : Int, 0 ≤ z76 → z76 ≤ 63 → 0 ≤ ((1 * z65 + 0) + 0) - 8 * z76 → ((1 * z65 + 0) + 0) - 8 * z76 < 8 →
   ∀ z77 : Int, 0 ≤ z77 → z77 ≤ 255 → z77 = ((1 * z75 + 0) + 0) / 2 ^ (((1 * z65 + ((-8) * z76 + 0)) + 0)).toNat →
   ∀ z78 : Int, 0 ≤ z78 → z78 ≤ 127 → 0 ≤ ((1 * z77 + 0) + 0) - 2 * z78 → ((1 * z77 + 0) + 0) - 2 * z78 < 2 →
   (((decide (((1 * z77 + ((-2) * z78 + 0)) + 0) = (0 + 1))) = true →
    ∀ z79 : Int, 0 ≤ z79 → z79 ≤ 18446744073709551615 → ∀ z80 : Int, 0 ≤ z80 → z80 ≤ 18446744073709551615 → ∀ z81 : Int, 0 ≤ z81 → z81 ≤ 18446744073709551615 → ∀ z82 : Int, 0 ≤ z82 → z82 ≤ 18446744073709551615 → S 28 [((1 * z70 + 0) + 0), ((1 * z71 + 0) + 0), ((1 * z72 + 0) + 0), ((1 * z73 + 0) + 0), (0 + 1), (0 + 0), (0 + 0), (0 + 0)] [z79, z80, z81, z82] →
    (I64 [((1 * z65 + 0) + (-1)), ((1 * z79 + 0) + 0), ((1 * z80 + 0) + 0), ((1 * z81 + 0) + 0), ((1 * z82 + 0) + 0)] ∧ μ64 [((1 * z65 + 0) + (-1)), ((1 * z79 + 0) + 0), ((1 * z80 + 0) + 0), ((1 * z81 + 0) + 0), ((1 * z82 + 0) + 0)] < μ64 [z65, z66, z67, z68, z69])
   ) ∧ ((decide (((1 * z77 + ((-2) * z78 + 0)) + 0) = (0 + 1))) = false →
    (I64 [((1 * z65 + 0) + (-1)), ((1 * z70 + 0) + 0), ((1 * z71 + 0) + 0), ((1 * z72 + 0) + 0), ((1 * z73 + 0) + 0)] ∧ μ64 [((1 * z65 + 0) + (-1)), ((1 * z70 + 0) + 0), ((1 * z71 + 0) + 0), ((1 * z72 + 0) + 0), ((1 * z73 + 0) + 0)] < μ64 [z65, z66, z67, z68, z69])
   ))
  ) ∧ ((decide ((0 + 0) ≤ ((1 * z65 + 0) + 0))) = false →
   K [z0, z1, z2, z3, z4, z5, z6, z7, z8, z9, z10, z11, z12, z13, z14, z15, z16, z17, z18, z19, z20, z21, z22, z23, z24, z25, z26, z27, z28, z29, z30, z31, z32, z33, z34, z35, z36, z37, z38, z39, z40, z41, z42, z43, z44, z45, z46, z47, z48, z49, z50, z51, z52, z53, z54, z55, z56, z57, z58, z59, z60, z61, z62, z63] [((1 * z66 + 0) + 0), ((1 * z67 + 0) + 0), ((1 * z68 + 0) + 0), ((1 * z69 + 0) + 0)]
  ))
 )
theorem p_rleftb : V_rleftb SC fun zs rs => inB (bdsL k_rleftb.res) rs ∧ SC 127 zs rs := by
  unfold V_rleftb
  simp (maxSteps := 4000000) only [Int.one_mul, Int.add_zero, Int.zero_add]
  intro z0 a0 b0 z1 a1 b1 z2 a2 b2 z3 a3 b3 z4 a4 b4 z5 a5 b5 z6 a6 b6 z7 a7 b7 z8 a8 b8 z9 a9 b9 z10 a10 b10 z11 a11 b11 z12 a12 b12 z13 a13 b13 z14 a14 b14 z15 a15 b15 z16 a16 b16 z17 a17 b17 z18 a18 b18 z19 a19 b19 z20 a20 b20 z21 a21 b21 z22 a22 b22 z23 a23 b23 z24 a24 b24 z25 a25 b25 z26 a26 b26 z27 a27 b27 z28 a28 b28 z29 a29 b29 z30 a30 b30 z31 a31 b31 z32 a32 b32 z33 a33 b33 z34 a34 b34 z35 a35 b35 z36 a36 b36 z37 a37 b37 z38 a38 b38 z39 a39 b39 z40 a40 b40 z41 a41 b41 z42 a42 b42 z43 a43 b43 z44 a44 b44 z45 a45 b45 z46 a46 b46 z47 a47 b47 z48 a48 b48 z49 a49 b49 z50 a50 b50 z51 a51 b51 z52 a52 b52 z53 a53 b53 z54 a54 b54 z55 a55 b55 z56 a56 b56 z57 a57 b57 z58 a58 b58 z59 a59 b59 z60 a60 b60 z61 a61 b61 z62 a62 b62 z63 a63 b63
  have n0 : inB (repB 0 255 64) [z0, z1, z2, z3, z4, z5, z6, z7, z8, z9, z10, z11, z12, z13, z14, z15, z16, z17, z18, z19, z20, z21, z22, z23, z24, z25, z26, z27, z28, z29, z30, z31, z32, z33, z34, z35, z36, z37, z38, z39, z40, z41, z42, z43, z44, z45, z46, z47, z48, z49, z50, z51, z52, z53, z54, z55, z56, z57, z58, z59, z60, z61, z62, z63] := by
    simp only [repB, inB, and_true]
    exact ⟨a0, b0, a1, b1, a2, b2, a3, b3, a4, b4, a5, b5, a6, b6, a7, b7, a8, b8, a9, b9, a10, b10, a11, b11, a12, b12, a13, b13, a14, b14, a15, b15, a16, b16, a17, b17, a18, b18, a19, b19, a20, b20, a21, b21, a22, b22, a23, b23, a24, b24, a25, b25, a26, b26, a27, b27, a28, b28, a29, b29, a30, b30, a31, b31, a32, b32, a33, b33, a34, b34, a35, b35, a36, b36, a37, b37, a38, b38, a39, b39, a40, b40, a41, b41, a42, b42, a43, b43, a44, b44, a45, b45, a46, b46, a47, b47, a48, b48, a49, b49, a50, b50, a51, b51, a52, b52, a53, b53, a54, b54, a55, b55, a56, b56, a57, b57, a58, b58, a59, b59, a60, b60, a61, b61, a62, b62, a63, b63⟩
  have m0 := nb_bd n0
  refine ⟨fun l => nw (l.drop 1) = nb [z0, z1, z2, z3, z4, z5, z6, z7, z8, z9, z10, z11, z12, z13, z14, z15, z16, z17, z18, z19, z20, z21, z22, z23, z24, z25, z26, z27, z28, z29, z30, z31, z32, z33, z34, z35, z36, z37, z38, z39, z40, z41, z42, z43, z44, z45, z46, z47, z48, z49, z50, z51, z52, z53, z54, z55, z56, z57, z58, z59, z60, z61, z62, z63] / 2 ^ (l.getD 0 0 + 1).toNat % 7237005577332262213973186563042994240857116359379907606001950938285454250989, fun l => (l.getD 0 0 + 1).toNat, ?_, ?_⟩
  · simp only [List.take_succ_cons, List.take_zero, List.drop_succ_cons, List.drop_zero, List.getD_cons_zero, List.getD_cons_succ]
    rw [nw_0, show (511 + 1 : Int).toNat = 512 by decide]
    rw [Int.ediv_eq_zero_of_lt m0.1 (by have h := m0.2; rw [pow256] at h; exact h)]
    decide
  · intro z65 a65 b65 z66 a66 b66 z67 a67 b67 z68 a68 b68 z69 a69 b69 hI
    simp only [List.take_succ_cons, List.take_zero, List.drop_succ_cons, List.drop_zero, List.getD_cons_zero, List.getD_cons_succ] at hI
    have n66 := nw4 a66 b66 a67 b67 a68 b68 a69 b69
    refine ⟨fun h => ?_, fun h => ?_⟩
    · simp only [decide_eq_true_eq] at h
      intro z70 a70 b70 z71 a71 b71 z72 a72 b72 z73 a73 b73 s1 z74 a74 b74 c74 d74 z75 a75 b75 e75 z76 a76 b76 c76 d76 z77 a77 b77 e77 z78 a78 b78 c78 d78
      simp (maxSteps := 2000000) only [SC, s_load, s_loada, s_loadb, s_minus, s_plus, s_bytes, s_product, s_folded, s_left, s_wide, s_right, s_neg, s_reduce, s_muladd, s_clamp, s_l, s_less, s_sum, s_rleft, s_true, List.take_succ_cons, List.take_zero, List.drop_succ_cons, List.drop_zero, List.getD_cons_zero, List.getD_cons_succ] at s1
      have n70 := nw4 a70 b70 a71 b71 a72 b72 a73 b73
      obtain ⟨i, hi⟩ := Int.eq_ofNat_of_zero_le h
      have hi' : z65 = (i : Int) := hi
      have hb := nb_bit i n0 (by omega)
      have hh := half_step (nb [z0, z1, z2, z3, z4, z5, z6, z7, z8, z9, z10, z11, z12, z13, z14, z15, z16, z17, z18, z19, z20, z21, z22, z23, z24, z25, z26, z27, z28, z29, z30, z31, z32, z33, z34, z35, z36, z37, z38, z39, z40, z41, z42, z43, z44, z45, z46, z47, z48, z49, z50, z51, z52, z53, z54, z55, z56, z57, z58, z59, z60, z61, z62, z63]) i
      have ei : (z65 + 1).toNat = i + 1 := by omega
      have ei2 : (z65 + -1 + 1).toNat = i := by omega
      have q1 : z74 = i / 8 := by omega
      have q2 : z76 = i / 8 := by omega
      have q3 : z74.toNat = i / 8 := by omega
      have q4 : (z65 + -8 * z76).toNat = i % 8 := by omega
      rw [q3] at e75
      rw [q4] at e77
      have hbit : z77 + -2 * z78 = nb [z0, z1, z2, z3, z4, z5, z6, z7, z8, z9, z10, z11, z12, z13, z14, z15, z16, z17, z18, z19, z20, z21, z22, z23, z24, z25, z26, z27, z28, z29, z30, z31, z32, z33, z34, z35, z36, z37, z38, z39, z40, z41, z42, z43, z44, z45, z46, z47, z48, z49, z50, z51, z52, z53, z54, z55, z56, z57, z58, z59, z60, z61, z62, z63] / 2 ^ i % 2 := by rw [hb, ← e75, ← e77]; omega
      rw [ei] at hI
      have hI0 : 0 ≤ nw [z66, z67, z68, z69] ∧ nw [z66, z67, z68, z69] < 7237005577332262213973186563042994240857116359379907606001950938285454250989 := by rw [hI]; exact ⟨Int.emod_nonneg _ (by decide), Int.emod_lt_of_pos _ (by decide)⟩
      have d1 := sum_red hI0.1 hI0.2 hI0.1 hI0.2 s1
      rw [mod_double hI] at d1
      have hmu : (z65 + -1 + 1).toNat < (z65 + 1).toNat := by omega
      refine ⟨fun g => ?_, fun g => ?_⟩
      · intro z79 a79 b79 z80 a80 b80 z81 a81 b81 z82 a82 b82 s2
        simp (maxSteps := 2000000) only [SC, s_load, s_loada, s_loadb, s_minus, s_plus, s_bytes, s_product, s_folded, s_left, s_wide, s_right, s_neg, s_reduce, s_muladd, s_clamp, s_l, s_less, s_sum, s_rleft, s_true, List.take_succ_cons, List.take_zero, List.drop_succ_cons, List.drop_zero, List.getD_cons_zero, List.getD_cons_succ] at s2
        simp only [decide_eq_true_eq] at g
        rw [nw_1] at s2
        have d2 := sum_red d1.2.1 d1.2.2 (by decide : (0 : Int) ≤ 1) (by decide : (1 : Int) < 7237005577332262213973186563042994240857116359379907606001950938285454250989) s2
        refine ⟨?_, ?_⟩
        · simp only [List.take_succ_cons, List.take_zero, List.drop_succ_cons, List.drop_zero, List.getD_cons_zero, List.getD_cons_succ]
          rw [ei2, hh, ← hbit, g, d2.1, mod_step d1.1 (by decide : (1 : Int) = 1 % 7237005577332262213973186563042994240857116359379907606001950938285454250989)]
        · simp only [List.take_succ_cons, List.take_zero, List.drop_succ_cons, List.drop_zero, List.getD_cons_zero, List.getD_cons_succ]; exact hmu
      · simp only [decide_eq_false_iff_not] at g
        have g0 : z77 + -2 * z78 = 0 := by omega
        refine ⟨?_, ?_⟩
        · simp only [List.take_succ_cons, List.take_zero, List.drop_succ_cons, List.drop_zero, List.getD_cons_zero, List.getD_cons_succ]
          rw [ei2, hh, ← hbit, g0, d1.1, Int.add_zero]
        · simp only [List.take_succ_cons, List.take_zero, List.drop_succ_cons, List.drop_zero, List.getD_cons_zero, List.getD_cons_succ]; exact hmu
    · simp only [decide_eq_false_iff_not] at h
      refine ⟨?_, ?_⟩
      · simp only [k_rleftb, bdsL, w4, D.bds, repB, List.cons_append, List.nil_append, List.append_nil, inB, and_true]
        exact ⟨a66, b66, a67, b67, a68, b68, a69, b69⟩
      · simp only [SC, s_load, s_loada, s_loadb, s_minus, s_plus, s_bytes, s_product, s_folded, s_left, s_wide, s_right, s_neg, s_reduce, s_muladd, s_clamp, s_l, s_less, s_sum, s_rleft, s_true]
        have ei : (z65 + 1).toNat = 0 := by omega
        rw [ei] at hI
        simpa using hI
def V_rreduce (S : Nat → List Int → List Int → Prop) (K : List Int → List Int → Prop) : Prop :=
 ∀ z0 : Int, 0 ≤ z0 → z0 ≤ 255 →
 ∀ z1 : Int, 0 ≤ z1 → z1 ≤ 255 →
 ∀ z2 : Int, 0 ≤ z2 → z2 ≤ 255 →
 ∀ z3 : Int, 0 ≤ z3 → z3 ≤ 255 →
 ∀ z4 : Int, 0 ≤ z4 → z4 ≤ 255 →
 ∀ z5 : Int, 0 ≤ z5 → z5 ≤ 255 →
 ∀ z6 : Int, 0 ≤ z6 → z6 ≤ 255 →
 ∀ z7 : Int, 0 ≤ z7 → z7 ≤ 255 →
 ∀ z8 : Int, 0 ≤ z8 → z8 ≤ 255 →
 ∀ z9 : Int, 0 ≤ z9 → z9 ≤ 255 →
 ∀ z10 : Int, 0 ≤ z10 → z10 ≤ 255 →
 ∀ z11 : Int, 0 ≤ z11 → z11 ≤ 255 →
 ∀ z12 : Int, 0 ≤ z12 → z12 ≤ 255 →
 ∀ z13 : Int, 0 ≤ z13 → z13 ≤ 255 →
 ∀ z14 : Int, 0 ≤ z14 → z14 ≤ 255 →
 ∀ z15 : Int, 0 ≤ z15 → z15 ≤ 255 →
 ∀ z16 : Int, 0 ≤ z16 → z16 ≤ 255 →
 ∀ z17 : Int, 0 ≤ z17 → z17 ≤ 255 →
 ∀ z18 : Int, 0 ≤ z18 → z18 ≤ 255 →
 ∀ z19 : Int, 0 ≤ z19 → z19 ≤ 255 →
 ∀ z20 : Int, 0 ≤ z20 → z20 ≤ 255 →
 ∀ z21 : Int, 0 ≤ z21 → z21 ≤ 255 →
 ∀ z22 : Int, 0 ≤ z22 → z22 ≤ 255 →
 ∀ z23 : Int, 0 ≤ z23 → z23 ≤ 255 →
 ∀ z24 : Int, 0 ≤ z24 → z24 ≤ 255 →
 ∀ z25 : Int, 0 ≤ z25 → z25 ≤ 255 →
 ∀ z26 : Int, 0 ≤ z26 → z26 ≤ 255 →
 ∀ z27 : Int, 0 ≤ z27 → z27 ≤ 255 →
 ∀ z28 : Int, 0 ≤ z28 → z28 ≤ 255 →
 ∀ z29 : Int, 0 ≤ z29 → z29 ≤ 255 →
 ∀ z30 : Int, 0 ≤ z30 → z30 ≤ 255 →
 ∀ z31 : Int, 0 ≤ z31 → z31 ≤ 255 →
 ∀ z32 : Int, 0 ≤ z32 → z32 ≤ 255 →
 ∀ z33 : Int, 0 ≤ z33 → z33 ≤ 255 →
 ∀ z34 : Int, 0 ≤ z34 → z34 ≤ 255 →
 ∀ z35 : Int, 0 ≤ z35 → z35 ≤ 255 →
 ∀ z36 : Int, 0 ≤ z36 → z36 ≤ 255 →
 ∀ z37 : Int, 0 ≤ z37 → z37 ≤ 255 →
 ∀ z38 : Int, 0 ≤ z38 → z38 ≤ 255 →
 ∀ z39 : Int, 0 ≤ z39 → z39 ≤ 255 →
 ∀ z40 : Int, 0 ≤ z40 → z40 ≤ 255 →
 ∀ z41 : Int, 0 ≤ z41 → z41 ≤ 255 →
 ∀ z42 : Int, 0 ≤ z42 → z42 ≤ 255 →
 ∀ z43 : Int, 0 ≤ z43 → z43 ≤ 255 →
 ∀ z44 : Int, 0 ≤ z44 → z44 ≤ 255 →
 ∀ z45 : Int, 0 ≤ z45 → z45 ≤ 255 →
 ∀ z46 : Int, 0 ≤ z46 → z46 ≤ 255 →
 ∀ z47 : Int, 0 ≤ z47 → z47 ≤ 255 →
 ∀ z48 : Int, 0 ≤ z48 → z48 ≤ 255 →
 ∀ z49 : Int, 0 ≤ z49 → z49 ≤ 255 →
 ∀ z50 : Int, 0 ≤ z50 → z50 ≤ 255 →
 ∀ z51 : Int, 0 ≤ z51 → z51 ≤ 255 →
 ∀ z52 : Int, 0 ≤ z52 → z52 ≤ 255 →
 ∀ z53 : Int, 0 ≤ z53 → z53 ≤ 255 →
 ∀ z54 : Int, 0 ≤ z54 → z54 ≤ 255 →
 ∀ z55 : Int, 0 ≤ z55 → z55 ≤ 255 →
 ∀ z56 : Int, 0 ≤ z56 → z56 ≤ 255 →
 ∀ z57 : Int, 0 ≤ z57 → z57 ≤ 255 →
 ∀ z58 : Int, 0 ≤ z58 → z58 ≤ 255 →
 ∀ z59 : Int, 0 ≤ z59 → z59 ≤ 255 →
 ∀ z60 : Int, 0 ≤ z60 → z60 ≤ 255 →
 ∀ z61 : Int, 0 ≤ z61 → z61 ≤ 255 →
 ∀ z62 : Int, 0 ≤ z62 → z62 ≤ 255 →
 ∀ z63 : Int, 0 ≤ z63 → z63 ≤ 255 →
 ∀ z64 : Int, 0 ≤ z64 → z64 ≤ 18446744073709551615 → ∀ z65 : Int, 0 ≤ z65 → z65 ≤ 18446744073709551615 → ∀ z66 : Int, 0 ≤ z66 → z66 ≤ 18446744073709551615 → ∀ z67 : Int, 0 ≤ z67 → z67 ≤ 18446744073709551615 → S 127 [((1 * z0 + 0) + 0), ((1 * z1 + 0) + 0), ((1 * z2 + 0) + 0), ((1 * z3 + 0) + 0), ((1 * z4 + 0) + 0), ((1 * z5 + 0) + 0), ((1 * z6 + 0) + 0), ((1 * z7 + 0) + 0), ((1 * z8 + 0) + 0), ((1 * z9 + 0) + 0), ((1 * z10 + 0) + 0), ((1 * z11 + 0) + 0), ((1 * z12 + 0) + 0), ((1 * z13 + 0) + 0), ((1 * z14 + 0) + 0), ((1 * z15 + 0) + 0), ((1 * z16 + 0) + 0), ((1 * z17 + 0) + 0), ((1 * z18 + 0) + 0), ((1 * z19 + 0) + 0), ((1 * z20 + 0) + 0), ((1 * z21 + 0) + 0), ((1 * z22 + 0) + 0), ((1 * z23 + 0) + 0), ((1 * z24 + 0) + 0), ((1 * z25 + 0) + 0), ((1 * z26 + 0) + 0), ((1 * z27 + 0) + 0), ((1 * z28 + 0) + 0), ((1 * z29 + 0) + 0), ((1 * z30 + 0) + 0), ((1 * z31 + 0) + 0), ((1 * z32 + 0) + 0), ((1 * z33 + 0) + 0), ((1 * z34 + 0) + 0), ((1 * z35 + 0) + 0), ((1 * z36 + 0) + 0), ((1 * z37 + 0) + 0), ((1 * z38 + 0) + 0), ((1 * z39 + 0) + 0), ((1 * z40 + 0) + 0), ((1 * z41 + 0) + 0), ((1 * z42 + 0) + 0), ((1 * z43 + 0) + 0), ((1 * z44 + 0) + 0), ((1 * z45 + 0) + 0), ((1 * z46 + 0) + 0), ((1 * z47 + 0) + 0), ((1 * z48 + 0) + 0), ((1 * z49 + 0) + 0), ((1 * z50 + 0) + 0), ((1 * z51 + 0) + 0), ((1 * z52 + 0) + 0), ((1 * z53 + 0) + 0), ((1 * z54 + 0) + 0), ((1 * z55 + 0) + 0), ((1 * z56 + 0) + 0), ((1 * z57 + 0) + 0), ((1 * z58 + 0) + 0), ((1 * z59 + 0) + 0), ((1 * z60 + 0) + 0), ((1 * z61 + 0) + 0), ((1 * z62 + 0) + 0), ((1 * z63 + 0) + 0)] [z64, z65, z66, z67] →
 ∀ z68 : Int, 0 ≤ z68 → z68 ≤ 255 → ∀ z69 : Int, 0 ≤ z69 → z69 ≤ 255 → ∀ z70 : Int, 0 ≤ z70 → z70 ≤ 255 → ∀ z71 : Int, 0 ≤ z71 → z71 ≤ 255 → ∀ z72 : Int, 0 ≤ z72 → z72 ≤ 255 → ∀ z73 : Int, 0 ≤ z73 → z73 ≤ 255 → ∀ z74 : Int, 0 ≤ z74 → z74 ≤ 255 → ∀ z75 : Int, 0 ≤ z75 → z75 ≤ 255 → ∀ z76 : Int, 0 ≤ z76 → z76 ≤ 255 → ∀ z77 : Int, 0 ≤ z77 → z77 ≤ 255 → ∀ z78 : Int, 0 ≤ z78 → z78 ≤ 255 → ∀ z79 : Int, 0 ≤ z79 → z79 ≤ 255 → ∀ z80 : Int, 0 ≤ z80 → z80 ≤ 255 → ∀ z81 : Int, 0 ≤ z81 → z81 ≤ 255 → ∀ z82 : Int, 0 ≤ z82 → z82 ≤ 255 → ∀ z83 : Int, 0 ≤ z83 → z83 ≤ 255 → ∀ z84 : Int, 0 ≤ z84 → z84 ≤ 255 → ∀ z85 : Int, 0 ≤ z85 → z85 ≤ 255 → ∀ z86 : Int, 0 ≤ z86 → z86 ≤ 255 → ∀ z87 : Int, 0 ≤ z87 → z87 ≤ 255 → ∀ z88 : Int, 0 ≤ z88 → z88 ≤ 255 → ∀ z89 : Int, 0 ≤ z89 → z89 ≤ 255 → ∀ z90 : Int, 0 ≤ z90 → z90 ≤ 255 → ∀ z91 : Int, 0 ≤ z91 → z91 ≤ 255 → ∀ z92 : Int, 0 ≤ z92 → z92 ≤ 255 → ∀ z93 : Int, 0 ≤ z93 → z93 ≤ 255 → ∀ z94 : Int, 0 ≤ z94 → z94 ≤ 255 → ∀ z95 : Int, 0 ≤ z95 → z95 ≤ 255 → ∀ z96 : Int, 0 ≤ z96 → z96 ≤ 255 → ∀ z97 : Int, 0 ≤ z97 → z97 ≤ 255 → ∀ z98 : Int, 0 ≤ z98 → z98 ≤ 255 → ∀ z99 : Int, 0 ≤ z99 → z99 ≤ 255 → S 19 [((1 * z64 + 0) + 0), ((1 * z65 + 0) + 0), ((1 * z66 + 0) + 0), ((1 * z67 + 0) + 0)] [z68, z69, z70, z71, z72, z73, z74, z75, z76, z77, z78, z79, z80, z81, z82, z83, z84, z85, z86, z87, z88, z89, z90, z91, z92, z93, z94, z95, z96, z97, z98, z99] →
 K [z0, z1, z2, z3, z4, z5, z6, z7, z8, z9, z10, z11, z12, z13, z14, z15, z16, z17, z18, z19, z20, z21, z22, z23, z24, z25, z26, z27, z28, z29, z30, z31, z32, z33, z34, z35, z36, z37, z38, z39, z40, z41, z42, z43, z44, z45, z46, z47, z48, z49, z50, z51, z52, z53, z54, z55, z56, z57, z58, z59, z60, z61, z62, z63] [((1 * z68 + 0) + 0), ((1 * z69 + 0) + 0), ((1 * z70 + 0) + 0), ((1 * z71 + 0) + 0), ((1 * z72 + 0) + 0), ((1 * z73 + 0) + 0), ((1 * z74 + 0) + 0), ((1 * z75 + 0) + 0), ((1 * z76 + 0) + 0), ((1 * z77 + 0) + 0), ((1 * z78 + 0) + 0), ((1 * z79 + 0) + 0), ((1 * z80 + 0) + 0), ((1 * z81 + 0) + 0), ((1 * z82 + 0) + 0), ((1 * z83 + 0) + 0), ((1 * z84 + 0) + 0), ((1 * z85 + 0) + 0), ((1 * z86 + 0) + 0), ((1 * z87 + 0) + 0), ((1 * z88 + 0) + 0), ((1 * z89 + 0) + 0), ((1 * z90 + 0) + 0), ((1 * z91 + 0) + 0), ((1 * z92 + 0) + 0), ((1 * z93 + 0) + 0), ((1 * z94 + 0) + 0), ((1 * z95 + 0) + 0), ((1 * z96 + 0) + 0), ((1 * z97 + 0) + 0), ((1 * z98 + 0) + 0), ((1 * z99 + 0) + 0)]
theorem p_rreduce : V_rreduce SC fun zs rs => inB (bdsL k_rreduce.res) rs ∧ SC 15 zs rs := by
  unfold V_rreduce
  simp (maxSteps := 4000000) only [Int.one_mul, Int.add_zero, Int.zero_add]
  intro z0 a0 b0 z1 a1 b1 z2 a2 b2 z3 a3 b3 z4 a4 b4 z5 a5 b5 z6 a6 b6 z7 a7 b7 z8 a8 b8 z9 a9 b9 z10 a10 b10 z11 a11 b11 z12 a12 b12 z13 a13 b13 z14 a14 b14 z15 a15 b15 z16 a16 b16 z17 a17 b17 z18 a18 b18 z19 a19 b19 z20 a20 b20 z21 a21 b21 z22 a22 b22 z23 a23 b23 z24 a24 b24 z25 a25 b25 z26 a26 b26 z27 a27 b27 z28 a28 b28 z29 a29 b29 z30 a30 b30 z31 a31 b31 z32 a32 b32 z33 a33 b33 z34 a34 b34 z35 a35 b35 z36 a36 b36 z37 a37 b37 z38 a38 b38 z39 a39 b39 z40 a40 b40 z41 a41 b41 z42 a42 b42 z43 a43 b43 z44 a44 b44 z45 a45 b45 z46 a46 b46 z47 a47 b47 z48 a48 b48 z49 a49 b49 z50 a50 b50 z51 a51 b51 z52 a52 b52 z53 a53 b53 z54 a54 b54 z55 a55 b55 z56 a56 b56 z57 a57 b57 z58 a58 b58 z59 a59 b59 z60 a60 b60 z61 a61 b61 z62 a62 b62 z63 a63 b63 z64 a64 b64 z65 a65 b65 z66 a66 b66 z67 a67 b67 s0 z68 a68 b68 z69 a69 b69 z70 a70 b70 z71 a71 b71 z72 a72 b72 z73 a73 b73 z74 a74 b74 z75 a75 b75 z76 a76 b76 z77 a77 b77 z78 a78 b78 z79 a79 b79 z80 a80 b80 z81 a81 b81 z82 a82 b82 z83 a83 b83 z84 a84 b84 z85 a85 b85 z86 a86 b86 z87 a87 b87 z88 a88 b88 z89 a89 b89 z90 a90 b90 z91 a91 b91 z92 a92 b92 z93 a93 b93 z94 a94 b94 z95 a95 b95 z96 a96 b96 z97 a97 b97 z98 a98 b98 z99 a99 b99 s1
  simp (maxSteps := 2000000) only [SC, s_load, s_loada, s_loadb, s_minus, s_plus, s_bytes, s_product, s_folded, s_left, s_wide, s_right, s_neg, s_reduce, s_muladd, s_clamp, s_l, s_less, s_sum, s_rleft, s_true, List.take_succ_cons, List.take_zero, List.drop_succ_cons, List.drop_zero, List.getD_cons_zero, List.getD_cons_succ] at s0 s1
  refine ⟨?_, ?_⟩
  · simp only [k_rreduce, bdsL, by32, D.bds, repB, List.cons_append, List.nil_append, List.append_nil, inB, and_true]
    exact ⟨a68, b68, a69, b69, a70, b70, a71, b71, a72, b72, a73, b73, a74, b74, a75, b75, a76, b76, a77, b77, a78, b78, a79, b79, a80, b80, a81, b81, a82, b82, a83, b83, a84, b84, a85, b85, a86, b86, a87, b87, a88, b88, a89, b89, a90, b90, a91, b91, a92, b92, a93, b93, a94, b94, a95, b95, a96, b96, a97, b97, a98, b98, a99, b99⟩
  · simp only [SC, s_load, s_loada, s_loadb, s_minus, s_plus, s_bytes, s_product, s_folded, s_left, s_wide, s_right, s_neg, s_reduce, s_muladd, s_clamp, s_l, s_less, s_sum, s_rleft, s_true]
    rw [s1, s0]
def V_rmuladd (S : Nat → List Int → List Int → Prop) (K : List Int → List Int → Prop) : Prop :=
 ∀ z0 : Int, 0 ≤ z0 → z0 ≤ 255 →
 ∀ z1 : Int, 0 ≤ z1 → z1 ≤ 255 →
 ∀ z2 : Int, 0 ≤ z2 → z2 ≤ 255 →
 ∀ z3 : Int, 0 ≤ z3 → z3 ≤ 255 →
 ∀ z4 : Int, 0 ≤ z4 → z4 ≤ 255 →
 ∀ z5 : Int, 0 ≤ z5 → z5 ≤ 255 →
 ∀ z6 : Int, 0 ≤ z6 → z6 ≤ 255 →
 ∀ z7 : Int, 0 ≤ z7 → z7 ≤ 255 →
 ∀ z8 : Int, 0 ≤ z8 → z8 ≤ 255 →
 ∀ z9 : Int, 0 ≤ z9 → z9 ≤ 255 →
 ∀ z10 : Int, 0 ≤ z10 → z10 ≤ 255 →
 ∀ z11 : Int, 0 ≤ z11 → z11 ≤ 255 →
 ∀ z12 : Int, 0 ≤ z12 → z12 ≤ 255 →
 ∀ z13 : Int, 0 ≤ z13 → z13 ≤ 255 →
 ∀ z14 : Int, 0 ≤ z14 → z14 ≤ 255 →
 ∀ z15 : Int, 0 ≤ z15 → z15 ≤ 255 →
 ∀ z16 : Int, 0 ≤ z16 → z16 ≤ 255 →
 ∀ z17 : Int, 0 ≤ z17 → z17 ≤ 255 →
 ∀ z18 : Int, 0 ≤ z18 → z18 ≤ 255 →
 ∀ z19 : Int, 0 ≤ z19 → z19 ≤ 255 →
 ∀ z20 : Int, 0 ≤ z20 → z20 ≤ 255 →
 ∀ z21 : Int, 0 ≤ z21 → z21 ≤ 255 →
 ∀ z22 : Int, 0 ≤ z22 → z22 ≤ 255 →
 ∀ z23 : Int, 0 ≤ z23 → z23 ≤ 255 →
 ∀ z24 : Int, 0 ≤ z24 → z24 ≤ 255 →
 ∀ z25 : Int, 0 ≤ z25 → z25 ≤ 255 →
 ∀ z26 : Int, 0 ≤ z26 → z26 ≤ 255 →
 ∀ z27 : Int, 0 ≤ z27 → z27 ≤ 255 →
 ∀ z28 : Int, 0 ≤ z28 → z28 ≤ 255 →
 ∀ z29 : Int, 0 ≤ z29 → z29 ≤ 255 →
 ∀ z30 : Int, 0 ≤ z30 → z30 ≤ 255 →
 ∀ z31 : Int, 0 ≤ z31 → z31 ≤ 255 →
 ∀ z32 : Int, 0 ≤ z32 → z32 ≤ 255 →
 ∀ z33 : Int, 0 ≤ z33 → z33 ≤ 255 →
 ∀ z34 : Int, 0 ≤ z34 → z34 ≤ 255 →
 ∀ z35 : Int, 0 ≤ z35 → z35 ≤ 255 →
 ∀ z36 : Int, 0 ≤ z36 → z36 ≤ 255 →
 ∀ z37 : Int, 0 ≤ z37 → z37 ≤ 255 →
 ∀ z38 : Int, 0 ≤ z38 → z38 ≤ 255 →
 ∀ z39 : Int, 0 ≤ z39 → z39 ≤ 255 →
 ∀ z40 : Int, 0 ≤ z40 → z40 ≤ 255 →
 ∀ z41 : Int, 0 ≤ z41 → z41 ≤ 255 →
 ∀ z42 : Int, 0 ≤ z42 → z42 ≤ 255 →
 ∀ z43 : Int, 0 ≤ z43 → z43 ≤ 255 →
 ∀ z44 : Int, 0 ≤ z44 → z44 ≤ 255 →
 ∀ z45 : Int, 0 ≤ z45 → z45 ≤ 255 →
 ∀ z46 : Int, 0 ≤ z46 → z46 ≤ 255 →
 ∀ z47 : Int, 0 ≤ z47 → z47 ≤ 255 →
 ∀ z48 : Int, 0 ≤ z48 → z48 ≤ 255 →
 ∀ z49 : Int, 0 ≤ z49 → z49 ≤ 255 →
 ∀ z50 : Int, 0 ≤ z50 → z50 ≤ 255 →
 ∀ z51 : Int, 0 ≤ z51 → z51 ≤ 255 →
 ∀ z52 : Int, 0 ≤ z52 → z52 ≤ 255 →
 ∀ z53 : Int, 0 ≤ z53 → z53 ≤ 255 →
 ∀ z54 : Int, 0 ≤ z54 → z54 ≤ 255 →
 ∀ z55 : Int, 0 ≤ z55 → z55 ≤ 255 →
 ∀ z56 : Int, 0 ≤ z56 → z56 ≤ 255 →
 ∀ z57 : Int, 0 ≤ z57 → z57 ≤ 255 →
 ∀ z58 : Int, 0 ≤ z58 → z58 ≤ 255 →
 ∀ z59 : Int, 0 ≤ z59 → z59 ≤ 255 →
 ∀ z60 : Int, 0 ≤ z60 → z60 ≤ 255 →
 ∀ z61 : Int, 0 ≤ z61 → z61 ≤ 255 →
 ∀ z62 : Int, 0 ≤ z62 → z62 ≤ 255 →
 ∀ z63 : Int, 0 ≤ z63 → z63 ≤ 255 →
 ∀ z64 : Int, 0 ≤ z64 → z64 ≤ 255 →
 ∀ z65 : Int, 0 ≤ z65 → z65 ≤ 255 →
 ∀ z66 : Int, 0 ≤ z66 → z66 ≤ 255 →
 ∀ z67 : Int, 0 ≤ z67 → z67 ≤ 255 →
 ∀ z68 : Int, 0 ≤ z68 → z68 ≤ 255 →
 ∀ z69 : Int, 0 ≤ z69 → z69 ≤ 255 →
 ∀ z70 : Int, 0 ≤ z70 → z70 ≤ 255 →
 ∀ z71 : Int, 0 ≤ z71 → z71 ≤ 255 →
 ∀ z72 : Int, 0 ≤ z72 → z72 ≤ 255 →
 ∀ z73 : Int, 0 ≤ z73 → z73 ≤ 255 →
 ∀ z74 : Int, 0 ≤ z74 → z74 ≤ 255 →
 ∀ z75 : Int, 0 ≤ z75 → z75 ≤ 255 →
 ∀ z76 : Int, 0 ≤ z76 → z76 ≤ 255 →
 ∀ z77 : Int, 0 ≤ z77 → z77 ≤ 255 →
 ∀ z78 : Int, 0 ≤ z78 → z78 ≤ 255 →
 ∀ z79 : Int, 0 ≤ z79 → z79 ≤ 255 →
 ∀ z80 : Int, 0 ≤ z80 → z80 ≤ 255 →
 ∀ z81 : Int, 0 ≤ z81 → z81 ≤ 255 →
 ∀ z82 : Int, 0 ≤ z82 → z82 ≤ 255 →
 ∀ z83 : Int, 0 ≤ z83 → z83 ≤ 255 →
 ∀ z84 : Int, 0 ≤ z84 → z84 ≤ 255 →
 ∀ z85 : Int, 0 ≤ z85 → z85 ≤ 255 →
 ∀ z86 : Int, 0 ≤ z86 → z86 ≤ 255 →
 ∀ z87 : Int, 0 ≤ z87 → z87 ≤ 255 →
 ∀ z88 : Int, 0 ≤ z88 → z88 ≤ 255 →
 ∀ z89 : Int, 0 ≤ z89 → z89 ≤ 255 →
 ∀ z90 : Int, 0 ≤ z90 → z90 ≤ 255 →
 ∀ z91 : Int, 0 ≤ z91 → z91 ≤ 255 →
 ∀ z92 : Int, 0 ≤ z92 → z92 ≤ 255 →
 ∀ z93 : Int, 0 ≤ z93 → z93 ≤ 255 →
 ∀ z94 : Int, 0 ≤ z94 → z94 ≤ 255 →
 ∀ z95 : Int, 0 ≤ z95 → z95 ≤ 255 →
 ∀ z96 : Int, 0 ≤ z96 → z96 ≤ 18446744073709551615 → ∀ z97 : Int, 0 ≤ z97 → z97 ≤ 18446744073709551615 → ∀ z98 : Int, 0 ≤ z98 → z98 ≤ 18446744073709551615 → ∀ z99 : Int, 0 ≤ z99 → z99 ≤ 18446744073709551615 → S 27 [((1 * z0 + 0) + 0), ((1 * z1 + 0) + 0), ((1 * z2 + 0) + 0), ((1 * z3 + 0) + 0), ((1 * z4 + 0) + 0), ((1 * z5 + 0) + 0), ((1 * z6 + 0) + 0), ((1 * z7 + 0) + 0), ((1 * z8 + 0) + 0), ((1 * z9 + 0) + 0), ((1 * z10 + 0) + 0), ((1 * z11 + 0) + 0), ((1 * z12 + 0) + 0), ((1 * z13 + 0) + 0), ((1 * z14 + 0) + 0), ((1 * z15 + 0) + 0), ((1 * z16 + 0) + 0), ((1 * z17 + 0) + 0), ((1 * z18 + 0) + 0), ((1 * z19 + 0) + 0), ((1 * z20 + 0) + 0), ((1 * z21 + 0) + 0), ((1 * z22 + 0) + 0), ((1 * z23 + 0) + 0), ((1 * z24 + 0) + 0), ((1 * z25 + 0) + 0), ((1 * z26 + 0) + 0), ((1 * z27 + 0) + 0), ((1 * z28 + 0) + 0), ((1 * z29 + 0) + 0), ((1 * z30 + 0) + 0), ((1 * z31 + 0) + 0)] [z96, z97, z98, z99] →
 ∃ (I100 : List Int → Prop) (μ100 : List Int → Nat), I100 [(0 + 255), (0 + 0), (0 + 0), (0 + 0), (0 + 0)] ∧ (∀ z101 : Int, (-1) ≤ z101 → z101 ≤ 255 → ∀ z102 : Int, 0 ≤ z102 → z102 ≤ 18446744073709551615 → ∀ z103 : Int, 0 ≤ z103 → z103 ≤ 18446744073709551615 → ∀ z104 : Int, 0 ≤ z104 → z104 ≤ 18446744073709551615 → ∀ z105 : Int, 0 ≤ z105 → z105 ≤ 18446744073709551615 → I100 [z101, z102, z103, z104, z105] →
  (((decide ((0 + 0) ≤ ((1 * z101 + 0) + 0))) = true →
   ∀ z106 : Int, 0 ≤ z106 → z106 ≤ 18446744073709551615 → ∀ z107 : Int, 0 ≤ z107 → z107 ≤ 18446744073709551615 → ∀ z108 : Int, 0 ≤ z108 → z108 ≤ 18446744073709551615 → ∀ z109 : Int, 0 ≤ z109 → z109 ≤ 18446744073709551615 → S 28 [((1 * z102 + 0) + 0), ((1 * z103 + 0) + 0), ((1 * z104 + 0) + 0), ((1 * z105 + 0) + 0), ((1 * z102 + 0) + 0), ((1 * z103 + 0) + 0), ((1 * z104 + 0) + 0), ((1 * z105 + 0) + 0)] [z106, z107, z108, z109] →
   ∀ z110 : Int, 0 ≤ z110 → z110 ≤ 31 → 0 ≤ ((1 * z101 + 0) + 0) - 8 * z110 → ((1 * z101 + 0) + 0) - 8 * z110 < 8 →
   ∀ z111 : Int, 0 ≤ z111 → z111 ≤ 255 → z111 = List.getD [((1 * z32 + 0) + 0), ((1 * z33 + 0) + 0), ((1 * z34 + 0) + 0), ((1 * z35 + 0) + 0), ((1 * z36 + 0) + 0), ((1 * z37 + 0) + 0), ((1 * z38 + 0) + 0), ((1 * z39 + 0) + 0), ((1 * z40 + 0) + 0), ((1 * z41 + 0) + 0), ((1 * z42 + 0) + 0), ((1 * z43 + 0) + 0), ((1 * z44 + 0) + 0), ((1 * z45 + 0) + 0), ((1 * z46 + 0) + 0), ((1 * z47 + 0) + 0), ((1 * z48 + 0) + 0), ((1 * z49 + 0) + 0), ((1 * z50 + 0) + 0), ((1 * z51 + 0) + 0), ((1 * z52 + 0) + 0), ((1 * z53 + 0) + 0), ((1 * z54 + 0) + 0), ((1 * z55 + 0) + 0), ((1 * z56 + 0) + 0), ((1 * z57 + 0) + 0), ((1 * z58 + 0) + 0), ((1 * z59 + 0) + 0), ((1 * z60 + 0) + 0), ((1 * z61 + 0) + 0), ((1 * z62 + 0) + 0), ((1 * z63 + 0) + 0)] (((1 * z110 + 0) + 0)).toNat 0 →
   ∀ z112 : Int, 0 ≤ z112 → z112 ≤ 31 → 0 ≤ ((1 * z101 + 0) + 0) - 8 * z112 → ((1 * z101 + 0) + 0) - 8 * z112 < 8 →
   ∀ z113 : Int, 0 ≤ z113 → z113 ≤ 255 → z113 = ((1 * z111 + 0) + 0) / 2 ^ (((1 * z101 + ((-8) * z112 + 0)) + 0)).toNat →
   ∀ z114 : Int, 0 ≤ z114 → z114 ≤ 127 → 0 ≤ ((1 * z113 + 0) + 0) - 2 * z114 → ((1 * z113 + 0) + 0) - 2 * z114 < 2 →
   (((decide (((1 * z113 + ((-2) * z114 + 0)) + 0) = (0 + 1))) = true →
    ∀ z115 : Int, 0 ≤ z115 → z115 ≤ 18446744073709551615 → ∀ z116 : Int, 0 ≤ z116 → z116 ≤ 18446744073709551615 → ∀ z117 : Int, 0 ≤ z117 → z117 ≤ 18446744073709551615 → ∀ z118 : Int, 0 ≤ z118 → z118 ≤ 18446744073709551615 → S 28 [((1 * z106 + 0) + 0), ((1 * z107 + 0) + 0), ((1 * z108 + 0) + 0), ((1 * z109 + 0) + 0), ((1 * z96 + 0) + 0), ((1 * z97 + 0) + 0), ((1 * z98 + 0) + 0), ((1 * z99 + 0) + 0)] [z115, z116, z117, z118] →
    (I100 [((1 * z101 + 0) + (-1)), ((1 * z115 + 0) + 0), ((1 * z116 + 0) + 0), ((1 * z117 + 0) + 0), ((1 * z118 + 0) + 0)] ∧ μ100 [((1 * z101 + 0) + (-1)), ((1 * z115 + 0) + 0), ((1 * z116 + 0) + 0), ((1 * z117 + 0) + 0), ((1 * z118 + 0) + 0)] < μ100 [z101, z102, z103, z104, z105])
   ) ∧ ((decide (((1 * z113 + ((-2) * z114 + 0)) + 0) = (0 + 1))) = false →
    (I100 [((1 * z101 + 0) + (-1)), ((1 * z106 + 0) + 0), ((1 * z107 + 0) + 0), ((1 * z108 + 0) + 0), ((1 * z109 + 0) + 0)] ∧ μ100 [((1 * z101 + 0) + (-1)), ((1 * z106 + 0) + 0), ((1 * z107 + 0) + 0), ((1 * z108 + 0) + 0), ((1 * z109 + 0) + 0)] < μ100 [z101, z102, z103, z104, z105])
   ))
  ) ∧ ((decide ((0 + 0) ≤ ((1 * z101 + 0) + 0))) = false →
   ∀ z106 : Int, 0 ≤ z106 → z106 ≤ 18446744073709551615 → ∀ z107 : Int, 0 ≤ z107 → z107 ≤ 18446744073709551615 → ∀ z108 : Int, 0 ≤ z108 → z108 ≤ 18446744073709551615 → ∀ z109 : Int, 0 ≤ z109 → z109 ≤ 18446744073709551615 → S 27 [((1 * z64 + 0) + 0), ((1 * z65 + 0) + 0), ((1 * z66 + 0) + 0), ((1 * z67 + 0) + 0), ((1 * z68 + 0) + 0), ((1 * z69 + 0) + 0), ((1 * z70 + 0) + 0), ((1 * z71 + 0) + 0), ((1 * z72 + 0) + 0), ((1 * z73 + 0) + 0), ((1 * z74 + 0) + 0), ((1 * z75 + 0) + 0), ((1 * z76 + 0) + 0), ((1 * z77 + 0) + 0), ((1 * z78 + 0) + 0), ((1 * z79 + 0) + 0), ((1 * z80 + 0) + 0), ((1 * z81 + 0) + 0), ((1 * z82 + 0) + 0), ((1 * z83 + 0) + 0), ((1 * z84 + 0) + 0), ((1 * z85 + 0) + 0), ((1 * z86 + 0) + 0), ((1 * z87 + 0) + 0), ((1 * z88 + 0) + 0), ((1 * z89 + 0) + 0), ((1 * z90 + 0) + 0), ((1 * z91 + 0) + 0), ((1 * z92 + 0) + 0), ((1 * z93 + 0) + 0), ((1 * z94 + 0) + 0), ((1 * z95 + 0) + 0)] [z106, z107, z108, z109] →
   ∀ z110 : Int, 0 ≤ z110 → z110 ≤ 18446744073709551615 → ∀ z111 : Int, 0 ≤ z111 → z111 ≤ 18446744073709551615 → ∀ z112 : Int, 0 ≤ z112 → z112 ≤ 18446744073709551615 → ∀ z113 : Int, 0 ≤ z113 → z113 ≤ 18446744073709551615 → S 28 [((1 * z102 + 0) + 0), ((1 * z103 + 0) + 0), ((1 * z104 + 0) + 0), ((1 * z105 + 0) + 0), ((1 * z106 + 0) + 0), ((1 * z107 + 0) + 0), ((1 * z108 + 0) + 0), ((1 * z109 + 0) + 0)] [z110, z111, z112, z113] →
   ∀ z114 : Int, 0 ≤ z114 → z114 ≤ 255 → ∀ z115 : Int, 0 ≤ z115 → z115 ≤ 255 → ∀ z116 : Int, 0 ≤ z116 → z116 ≤ 255 → ∀ z117 : Int, 0 ≤ z117 → z117 ≤ 255 → ∀ z118 : Int, 0 ≤ z118 → z118 ≤ 255 → ∀ z119 : Int, 0 ≤ z119 → z119 ≤ 255 → ∀ z120 : Int, 0 ≤ z120 → z120 ≤ 255 → ∀ z121 : Int, 0 ≤ z121 → z121 ≤ 255 → ∀ z122 : Int, 0 ≤ z122 → z122 ≤ 255 → ∀ z123 : Int, 0 ≤ z123 → z123 ≤ 255 → ∀ z124 : Int, 0 ≤ z124 → z124 ≤ 255 → ∀ z125 : Int, 0 ≤ z125 → z125 ≤ 255 → ∀ z126 : Int, 0 ≤ z126 → z126 ≤ 255 → ∀ z127 : Int, 0 ≤ z127 → z127 ≤ 255 → ∀ z128 : Int, 0 ≤ z128 → z128 ≤ 255 → ∀ z129 : Int, 0 ≤ z129 → z129 ≤ 255 → ∀ z130 : Int, 0 ≤ z130 → z130 ≤ 255 → ∀ z131 : Int, 0 ≤ z131 → z131 ≤ 255 → ∀ z132 : Int, 0 ≤ z132 → z132 ≤ 255 → ∀ z133 : Int, 0 ≤ z133 → z133 ≤ 255 → ∀ z134 : Int, 0 ≤ z134 → z134 ≤ 255 → ∀ z135 : Int, 0 ≤ z135 → z135 ≤ 255 → ∀ z136 : Int, 0 ≤ z136 → z136 ≤ 255 → ∀ z137 : Int, 0 ≤ z137 → z137 ≤ 255 → ∀ z138 : Int, 0 ≤ z138 → z138 ≤ 255 → ∀ z139 : Int, 0 ≤ z139 → z139 ≤ 255 → ∀ z140 : Int, 0 ≤ z140 → z140 ≤ 255 → ∀ z141 : Int, 0 ≤ z141 → z141 ≤ 255 → ∀ z142 : Int, 0 ≤ z142 → z142 ≤ 255 → ∀ z143 : Int, 0 ≤ z143 → z143 ≤ 255 → ∀ z144 : Int, 0 ≤ z144 → z144 ≤ 255 → ∀ z145 : Int, 0 ≤ z145 → z145 ≤ 255 → S 19 [((1 * z110 + 0) + 0), ((1 * z111 + 0) + 0), ((1 * z112 + 0) + 0), ((1 * z113 + 0) + 0)] [z114, z115, z116, z117, z118, z119, z120, z121, z122, z123, z124, z125, z126, z127, z128, z129, z130, z131, z132, z133, z134, z135, z136, z137, z138, z139, z140, z141, z142, z143, z144, z145] →
   K [z0, z1, z2, z3, z4, z5, z6, z7, z8, z9, z10, z11, z12, z13, z14, z15, z16, z17, z18, z19, z20, z21, z22, z23, z24, z25, z26, z27, z28, z29, z30, z31, z32, z33, z34, z35, z36, z37, z38, z39, z40, z41, z42, z43, z44, z45, z46, z47, z48, z49, z50, z51, z52, z53, z54, z55, z56, z57, z58, z59, z60, z61, z62, z63, z64, z65, z66, z67, z68, z69, z70, z71, z72, z73, z74, z75, z76, z77, z78, z79, z80, z81, z82, z83, z84, z85, z86, z87, z88, z89, z90, z91, z92, z93, z94, z95] [((1 * z114 + 0) + 0), ((1 * z115 + 0) + 0), ((1 * z116 + 0) + 0), ((1 * z117 + 0) + 0), ((1 * z118 + 0) + 0), ((1 * z119 + 0) + 0), ((1 * z120 + 0) + 0), ((1 * z121 + 0) + 0), ((1 * z122 + 0) + 0), ((1 * z123 + 0) + 0), ((1 * z124 + 0) + 0), ((1 * z125 + 0) + 0), ((1 * z126 + 0) + 0), ((1 * z127 + 0) + 0), ((1 * z128 + 0) + 0), ((1 * z129 + 0) + 0), ((1 * z130 + 0) + 0), ((1 * z131 + 0) + 0), ((1 * z132 + 0) + 0), ((1 * z133 + 0) + 0), ((1 * z134 + 0) + 0), ((1 * z135 + 0) + 0), ((1 * z136 + 0) + 0), ((1 * z137 + 0) + 0), ((1 * z138 + 0) + 0), ((1 * z139 + 0) + 0), ((1 * z140 + 0) + 0), ((1 * z141 + 0) + 0), ((1 * z142 + 0) + 0), ((1 * z143 + 0) + 0), ((1 * z144 + 0) + 0), ((1 * z145 + 0) + 0)]
  ))
 )
theorem p_rmuladd : V_rmuladd SC fun zs rs => inB (bdsL k_rmuladd.res) rs ∧ SC 9 zs rs := by
  unfold V_rmuladd
  simp (maxSteps := 4000000) only [Int.one_mul, Int.add_zero, Int.zero_add]
  intro z0 a0 b0 z1 a1 b1 z2 a2 b2 z3 a3 b3 z4 a4 b4 z5 a5 b5 z6 a6 b6 z7 a7 b7 z8 a8 b8 z9 a9 b9 z10 a10 b10 z11 a11 b11 z12 a12 b12 z13 a13 b13 z14 a14 b14 z15 a15 b15 z16 a16 b16 z17 a17 b17 z18 a18 b18 z19 a19 b19 z20 a20 b20 z21 a21 b21 z22 a22 b22 z23 a23 b23 z24 a24 b24 z25 a25 b25 z26 a26 b26 z27 a27 b27 z28 a28 b28 z29 a29 b29 z30 a30 b30 z31 a31 b31 z32 a32 b32 z33 a33 b33 z34 a34 b34 z35 a35 b35 z36 a36 b36 z37 a37 b37 z38 a38 b38 z39 a39 b39 z40 a40 b40 z41 a41 b41 z42 a42 b42 z43 a43 b43 z44 a44 b44 z45 a45 b45 z46 a46 b46 z47 a47 b47 z48 a48 b48 z49 a49 b49 z50 a50 b50 z51 a51 b51 z52 a52 b52 z53 a53 b53 z54 a54 b54 z55 a55 b55 z56 a56 b56 z57 a57 b57 z58 a58 b58 z59 a59 b59 z60 a60 b60 z61 a61 b61 z62 a62 b62 z63 a63 b63 z64 a64 b64 z65 a65 b65 z66 a66 b66 z67 a67 b67 z68 a68 b68 z69 a69 b69 z70 a70 b70 z71 a71 b71 z72 a72 b72 z73 a73 b73 z74 a74 b74 z75 a75 b75 z76 a76 b76 z77 a77 b77 z78 a78 b78 z79 a79 b79 z80 a80 b80 z81 a81 b81 z82 a82 b82 z83 a83 b83 z84 a84 b84 z85 a85 b85 z86 a86 b86 z87 a87 b87 z88 a88 b88 z89 a89 b89 z90 a90 b90 z91 a91 b91 z92 a92 b92 z93 a93 b93 z94 a94 b94 z95 a95 b95 z96 a96 b96 z97 a97 b97 z98 a98 b98 z99 a99 b99 s0
  simp (maxSteps := 2000000) only [SC, s_load, s_loada, s_loadb, s_minus, s_plus, s_bytes, s_product, s_folded, s_left, s_wide, s_right, s_neg, s_reduce, s_muladd, s_clamp, s_l, s_less, s_sum, s_rleft, s_true, List.take_succ_cons, List.take_zero, List.drop_succ_cons, List.drop_zero, List.getD_cons_zero, List.getD_cons_succ] at s0
  have n32 : inB (repB 0 255 32) [z32, z33, z34, z35, z36, z37, z38, z39, z40, z41, z42, z43, z44, z45, z46, z47, z48, z49, z50, z51, z52, z53, z54, z55, z56, z57, z58, z59, z60, z61, z62, z63] := by
    simp only [repB, inB, and_true]
    exact ⟨a32, b32, a33, b33, a34, b34, a35, b35, a36, b36, a37, b37, a38, b38, a39, b39, a40, b40, a41, b41, a42, b42, a43, b43, a44, b44, a45, b45, a46, b46, a47, b47, a48, b48, a49, b49, a50, b50, a51, b51, a52, b52, a53, b53, a54, b54, a55, b55, a56, b56, a57, b57, a58, b58, a59, b59, a60, b60, a61, b61, a62, b62, a63, b63⟩
  have m32 := nb_bd n32
  have n96 := nw4 a96 b96 a97 b97 a98 b98 a99 b99
  have hX : 0 ≤ nw [z96, z97, z98, z99] ∧ nw [z96, z97, z98, z99] < 7237005577332262213973186563042994240857116359379907606001950938285454250989 := by rw [s0]; exact ⟨Int.emod_nonneg _ (by decide), Int.emod_lt_of_pos _ (by decide)⟩
  refine ⟨fun l => nw (l.drop 1) = nw [z96, z97, z98, z99] * (nb [z32, z33, z34, z35, z36, z37, z38, z39, z40, z41, z42, z43, z44, z45, z46, z47, z48, z49, z50, z51, z52, z53, z54, z55, z56, z57, z58, z59, z60, z61, z62, z63] / 2 ^ (l.getD 0 0 + 1).toNat) % 7237005577332262213973186563042994240857116359379907606001950938285454250989, fun l => (l.getD 0 0 + 1).toNat, ?_, ?_⟩
  · simp only [List.take_succ_cons, List.take_zero, List.drop_succ_cons, List.drop_zero, List.getD_cons_zero, List.getD_cons_succ]
    rw [nw_0, show (255 + 1 : Int).toNat = 256 by decide]
    rw [Int.ediv_eq_zero_of_lt m32.1 (by have h := m32.2; rw [pow256] at h; exact h)]
    simp
  · intro z101 a101 b101 z102 a102 b102 z103 a103 b103 z104 a104 b104 z105 a105 b105 hI
    simp only [List.take_succ_cons, List.take_zero, List.drop_succ_cons, List.drop_zero, List.getD_cons_zero, List.getD_cons_succ] at hI
    have n102 := nw4 a102 b102 a103 b103 a104 b104 a105 b105
    refine ⟨fun h => ?_, fun h => ?_⟩
    · simp only [decide_eq_true_eq] at h
      intro z106 a106 b106 z107 a107 b107 z108 a108 b108 z109 a109 b109 s1 z110 a110 b110 c110 d110 z111 a111 b111 e111 z112 a112 b112 c112 d112 z113 a113 b113 e113 z114 a114 b114 c114 d114
      simp (maxSteps := 2000000) only [SC, s_load, s_loada, s_loadb, s_minus, s_plus, s_bytes, s_product, s_folded, s_left, s_wide, s_right, s_neg, s_reduce, s_muladd, s_clamp, s_l, s_less, s_sum, s_rleft, s_true, List.take_succ_cons, List.take_zero, List.drop_succ_cons, List.drop_zero, List.getD_cons_zero, List.getD_cons_succ] at s1
      have n106 := nw4 a106 b106 a107 b107 a108 b108 a109 b109
      obtain ⟨i, hi⟩ := Int.eq_ofNat_of_zero_le h
      have hi' : z101 = (i : Int) := hi
      have hb := nb_bit i n32 (by omega)
      have hh := half_step (nb [z32, z33, z34, z35, z36, z37, z38, z39, z40, z41, z42, z43, z44, z45, z46, z47, z48, z49, z50, z51, z52, z53, z54, z55, z56, z57, z58, z59, z60, z61, z62, z63]) i
      have ei : (z101 + 1).toNat = i + 1 := by omega
      have ei2 : (z101 + -1 + 1).toNat = i := by omega
      have q1 : z110 = i / 8 := by omega
      have q2 : z112 = i / 8 := by omega
      have q3 : z110.toNat = i / 8 := by omega
      have q4 : (z101 + -8 * z112).toNat = i % 8 := by omega
      rw [q3] at e111
      rw [q4] at e113
      have hbit : z113 + -2 * z114 = nb [z32, z33, z34, z35, z36, z37, z38, z39, z40, z41, z42, z43, z44, z45, z46, z47, z48, z49, z50, z51, z52, z53, z54, z55, z56, z57, z58, z59, z60, z61, z62, z63] / 2 ^ i % 2 := by rw [hb, ← e111, ← e113]; omega
      rw [ei] at hI
      have hI0 : 0 ≤ nw [z102, z103, z104, z105] ∧ nw [z102, z103, z104, z105] < 7237005577332262213973186563042994240857116359379907606001950938285454250989 := by rw [hI]; exact ⟨Int.emod_nonneg _ (by decide), Int.emod_lt_of_pos _ (by decide)⟩
      have d1 := sum_red hI0.1 hI0.2 hI0.1 hI0.2 s1
      rw [mod_double hI] at d1
      have hmu : (z101 + -1 + 1).toNat < (z101 + 1).toNat := by omega
      refine ⟨fun g => ?_, fun g => ?_⟩
      · intro z115 a115 b115 z116 a116 b116 z117 a117 b117 z118 a118 b118 s2
        simp (maxSteps := 2000000) only [SC, s_load, s_loada, s_loadb, s_minus, s_plus, s_bytes, s_product, s_folded, s_left, s_wide, s_right, s_neg, s_reduce, s_muladd, s_clamp, s_l, s_less, s_sum, s_rleft, s_true, List.take_succ_cons, List.take_zero, List.drop_succ_cons, List.drop_zero, List.getD_cons_zero, List.getD_cons_succ] at s2
        simp only [decide_eq_true_eq] at g
        have d2 := sum_red d1.2.1 d1.2.2 hX.1 hX.2 s2
        refine ⟨?_, ?_⟩
        · simp only [List.take_succ_cons, List.take_zero, List.drop_succ_cons, List.drop_zero, List.getD_cons_zero, List.getD_cons_succ]
          rw [ei2, hh, ← hbit, g, d2.1, mod_step d1.1 (Int.emod_eq_of_lt hX.1 hX.2).symm]
          congr 1
          rw [Int.mul_add, Int.mul_one]
          congr 1
          ac_rfl
        · simp only [List.take_succ_cons, List.take_zero, List.drop_succ_cons, List.drop_zero, List.getD_cons_zero, List.getD_cons_succ]; exact hmu
      · simp only [decide_eq_false_iff_not] at g
        have g0 : z113 + -2 * z114 = 0 := by omega
        refine ⟨?_, ?_⟩
        · simp only [List.take_succ_cons, List.take_zero, List.drop_succ_cons, List.drop_zero, List.getD_cons_zero, List.getD_cons_succ]
          rw [ei2, hh, ← hbit, g0, d1.1, Int.add_zero]
          congr 1
          ac_rfl
        · simp only [List.take_succ_cons, List.take_zero, List.drop_succ_cons, List.drop_zero, List.getD_cons_zero, List.getD_cons_succ]; exact hmu
    · simp only [decide_eq_false_iff_not] at h
      intro z106 a106 b106 z107 a107 b107 z108 a108 b108 z109 a109 b109 t0 z110 a110 b110 z111 a111 b111 z112 a112 b112 z113 a113 b113 t1 z114 a114 b114 z115 a115 b115 z116 a116 b116 z117 a117 b117 z118 a118 b118 z119 a119 b119 z120 a120 b120 z121 a121 b121 z122 a122 b122 z123 a123 b123 z124 a124 b124 z125 a125 b125 z126 a126 b126 z127 a127 b127 z128 a128 b128 z129 a129 b129 z130 a130 b130 z131 a131 b131 z132 a132 b132 z133 a133 b133 z134 a134 b134 z135 a135 b135 z136 a136 b136 z137 a137 b137 z138 a138 b138 z139 a139 b139 z140 a140 b140 z141 a141 b141 z142 a142 b142 z143 a143 b143 z144 a144 b144 z145 a145 b145 t2
      simp (maxSteps := 2000000) only [SC, s_load, s_loada, s_loadb, s_minus, s_plus, s_bytes, s_product, s_folded, s_left, s_wide, s_right, s_neg, s_reduce, s_muladd, s_clamp, s_l, s_less, s_sum, s_rleft, s_true, List.take_succ_cons, List.take_zero, List.drop_succ_cons, List.drop_zero, List.getD_cons_zero, List.getD_cons_succ] at t0 t1 t2
      have ei : (z101 + 1).toNat = 0 := by omega
      rw [ei] at hI
      rw [Int.pow_zero, Int.ediv_one] at hI
      have h1 : 0 ≤ nw [z102, z103, z104, z105] ∧ nw [z102, z103, z104, z105] < 7237005577332262213973186563042994240857116359379907606001950938285454250989 := by rw [hI]; exact ⟨Int.emod_nonneg _ (by decide), Int.emod_lt_of_pos _ (by decide)⟩
      have h2 : 0 ≤ nw [z106, z107, z108, z109] ∧ nw [z106, z107, z108, z109] < 7237005577332262213973186563042994240857116359379907606001950938285454250989 := by rw [t0]; exact ⟨Int.emod_nonneg _ (by decide), Int.emod_lt_of_pos _ (by decide)⟩
      have h3 := (sum_red h1.1 h1.2 h2.1 h2.2 t1).1
      refine ⟨?_, ?_⟩
      · simp only [k_rmuladd, bdsL, by32, D.bds, repB, List.cons_append, List.nil_append, List.append_nil, inB, and_true]
        exact ⟨a114, b114, a115, b115, a116, b116, a117, b117, a118, b118, a119, b119, a120, b120, a121, b121, a122, b122, a123, b123, a124, b124, a125, b125, a126, b126, a127, b127, a128, b128, a129, b129, a130, b130, a131, b131, a132, b132, a133, b133, a134, b134, a135, b135, a136, b136, a137, b137, a138, b138, a139, b139, a140, b140, a141, b141, a142, b142, a143, b143, a144, b144, a145, b145⟩
      · simp only [SC, s_load, s_loada, s_loadb, s_minus, s_plus, s_bytes, s_product, s_folded, s_left, s_wide, s_right, s_neg, s_reduce, s_muladd, s_clamp, s_l, s_less, s_sum, s_rleft, s_true, List.take_succ_cons, List.take_zero, List.drop_succ_cons, List.drop_zero, List.getD_cons_zero, List.getD_cons_succ]
        rw [t2, h3, mod_step hI t0]
        rw [s0]
        rw [Int.add_emod, Int.mul_emod, Int.emod_emod, ← Int.mul_emod, ← Int.add_emod]
end Go.Sc
