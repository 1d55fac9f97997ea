/- FdVcA: a part of the proof of statements of this seat. -/
import Derived.Test.YtaapajicchefdaaDoorFdBase
set_option linter.unusedVariables false
set_option linter.unusedSimpArgs false
set_option maxRecDepth 20000
namespace Go.Fd
open Go.Rx
def B_load (S : Nat → List (List Int) → List (List Int) → Prop) (K : List (List Int) → List (List Int) → Prop) : Prop :=
 ∀ r0 : List Int, inB (repB 0 255 32) r0 → 
 K [r0] [[((List.getD r0 0 0) + ((256 * (List.getD r0 1 0)) + ((65536 * (List.getD r0 2 0)) + ((16777216 * (List.getD r0 3 0)) + ((4294967296 * (List.getD r0 4 0)) + ((1099511627776 * (List.getD r0 5 0)) + ((281474976710656 * (List.getD r0 6 0)) + (72057594037927936 * (List.getD r0 7 0))))))))), ((List.getD r0 8 0) + ((256 * (List.getD r0 9 0)) + ((65536 * (List.getD r0 10 0)) + ((16777216 * (List.getD r0 11 0)) + ((4294967296 * (List.getD r0 12 0)) + ((1099511627776 * (List.getD r0 13 0)) + ((281474976710656 * (List.getD r0 14 0)) + (72057594037927936 * (List.getD r0 15 0))))))))), ((List.getD r0 16 0) + ((256 * (List.getD r0 17 0)) + ((65536 * (List.getD r0 18 0)) + ((16777216 * (List.getD r0 19 0)) + ((4294967296 * (List.getD r0 20 0)) + ((1099511627776 * (List.getD r0 21 0)) + ((281474976710656 * (List.getD r0 22 0)) + (72057594037927936 * (List.getD r0 23 0))))))))), ((List.getD r0 24 0) + ((256 * (List.getD r0 25 0)) + ((65536 * (List.getD r0 26 0)) + ((16777216 * (List.getD r0 27 0)) + ((4294967296 * (List.getD r0 28 0)) + ((1099511627776 * (List.getD r0 29 0)) + ((281474976710656 * (List.getD r0 30 0)) + (72057594037927936 * (List.getD r0 31 0)))))))))]]
theorem p_load (G) : B_load (SG G) (KB k_load.res 37) := by
  unfold B_load
  intro r0 i0
  refine ⟨?_, ?_⟩
  · obtain ⟨x0, x1, x2, x3, x4, x5, x6, x7, x8, x9, x10, x11, x12, x13, x14, x15, x16, x17, x18, x19, x20, x21, x22, x23, x24, x25, x26, x27, x28, x29, x30, x31, rfl, x0l, x0u, x1l, x1u, x2l, x2u, x3l, x3u, x4l, x4u, x5l, x5u, x6l, x6u, x7l, x7u, x8l, x8u, x9l, x9u, x10l, x10u, x11l, x11u, x12l, x12u, x13l, x13u, x14l, x14u, x15l, x15u, x16l, x16u, x17l, x17u, x18l, x18u, x19l, x19u, x20l, x20u, x21l, x21u, x22l, x22u, x23l, x23u, x24l, x24u, x25l, x25u, x26l, x26u, x27l, x27u, x28l, x28u, x29l, x29u, x30l, x30u, x31l, x31u⟩ := in_32 i0
    simp only [k_load, bdsL, D.bds, n4, repB, List.cons_append, List.nil_append, List.append_nil, List.flatten_cons, List.flatten_nil, inB, and_true, List.getD_cons_zero, List.getD_cons_succ]
    omega
  · show nw [((List.getD r0 0 0) + ((256 * (List.getD r0 1 0)) + ((65536 * (List.getD r0 2 0)) + ((16777216 * (List.getD r0 3 0)) + ((4294967296 * (List.getD r0 4 0)) + ((1099511627776 * (List.getD r0 5 0)) + ((281474976710656 * (List.getD r0 6 0)) + (72057594037927936 * (List.getD r0 7 0))))))))), ((List.getD r0 8 0) + ((256 * (List.getD r0 9 0)) + ((65536 * (List.getD r0 10 0)) + ((16777216 * (List.getD r0 11 0)) + ((4294967296 * (List.getD r0 12 0)) + ((1099511627776 * (List.getD r0 13 0)) + ((281474976710656 * (List.getD r0 14 0)) + (72057594037927936 * (List.getD r0 15 0))))))))), ((List.getD r0 16 0) + ((256 * (List.getD r0 17 0)) + ((65536 * (List.getD r0 18 0)) + ((16777216 * (List.getD r0 19 0)) + ((4294967296 * (List.getD r0 20 0)) + ((1099511627776 * (List.getD r0 21 0)) + ((281474976710656 * (List.getD r0 22 0)) + (72057594037927936 * (List.getD r0 23 0))))))))), ((List.getD r0 24 0) + ((256 * (List.getD r0 25 0)) + ((65536 * (List.getD r0 26 0)) + ((16777216 * (List.getD r0 27 0)) + ((4294967296 * (List.getD r0 28 0)) + ((1099511627776 * (List.getD r0 29 0)) + ((281474976710656 * (List.getD r0 30 0)) + (72057594037927936 * (List.getD r0 31 0)))))))))] = nb r0
    obtain ⟨x0, x1, x2, x3, x4, x5, x6, x7, x8, x9, x10, x11, x12, x13, x14, x15, x16, x17, x18, x19, x20, x21, x22, x23, x24, x25, x26, x27, x28, x29, x30, x31, rfl, x0l, x0u, x1l, x1u, x2l, x2u, x3l, x3u, x4l, x4u, x5l, x5u, x6l, x6u, x7l, x7u, x8l, x8u, x9l, x9u, x10l, x10u, x11l, x11u, x12l, x12u, x13l, x13u, x14l, x14u, x15l, x15u, x16l, x16u, x17l, x17u, x18l, x18u, x19l, x19u, x20l, x20u, x21l, x21u, x22l, x22u, x23l, x23u, x24l, x24u, x25l, x25u, x26l, x26u, x27l, x27u, x28l, x28u, x29l, x29u, x30l, x30u, x31l, x31u⟩ := in_32 i0
    simp only [num, List.getD_cons_zero, List.getD_cons_succ]
    omega

def B_rbytes (S : Nat → List (List Int) → List (List Int) → Prop) (K : List (List Int) → List (List Int) → Prop) : Prop :=
 ∀ r0 : List Int, inB (repB 0 18446744073709551615 4) r0 → 
 ∀ z4 : Int, 0 ≤ z4 → z4 ≤ 72057594037927935 → 0 ≤ (List.getD r0 0 0) - 256 * z4 → (List.getD r0 0 0) - 256 * z4 < 256 →
 ∀ z5 : Int, 0 ≤ z5 → z5 ≤ 72057594037927935 → 0 ≤ (List.getD r0 0 0) - 256 * z5 → (List.getD r0 0 0) - 256 * z5 < 256 →
 ∀ z6 : Int, 0 ≤ z6 → z6 ≤ 281474976710655 → 0 ≤ z5 - 256 * z6 → z5 - 256 * z6 < 256 →
 ∀ z7 : Int, 0 ≤ z7 → z7 ≤ 281474976710655 → 0 ≤ (List.getD r0 0 0) - 65536 * z7 → (List.getD r0 0 0) - 65536 * z7 < 65536 →
 ∀ z8 : Int, 0 ≤ z8 → z8 ≤ 1099511627775 → 0 ≤ z7 - 256 * z8 → z7 - 256 * z8 < 256 →
 ∀ z9 : Int, 0 ≤ z9 → z9 ≤ 1099511627775 → 0 ≤ (List.getD r0 0 0) - 16777216 * z9 → (List.getD r0 0 0) - 16777216 * z9 < 16777216 →
 ∀ z10 : Int, 0 ≤ z10 → z10 ≤ 4294967295 → 0 ≤ z9 - 256 * z10 → z9 - 256 * z10 < 256 →
 ∀ z11 : Int, 0 ≤ z11 → z11 ≤ 4294967295 → 0 ≤ (List.getD r0 0 0) - 4294967296 * z11 → (List.getD r0 0 0) - 4294967296 * z11 < 4294967296 →
 ∀ z12 : Int, 0 ≤ z12 → z12 ≤ 16777215 → 0 ≤ z11 - 256 * z12 → z11 - 256 * z12 < 256 →
 ∀ z13 : Int, 0 ≤ z13 → z13 ≤ 16777215 → 0 ≤ (List.getD r0 0 0) - 1099511627776 * z13 → (List.getD r0 0 0) - 1099511627776 * z13 < 1099511627776 →
 ∀ z14 : Int, 0 ≤ z14 → z14 ≤ 65535 → 0 ≤ z13 - 256 * z14 → z13 - 256 * z14 < 256 →
 ∀ z15 : Int, 0 ≤ z15 → z15 ≤ 65535 → 0 ≤ (List.getD r0 0 0) - 281474976710656 * z15 → (List.getD r0 0 0) - 281474976710656 * z15 < 281474976710656 →
 ∀ z16 : Int, 0 ≤ z16 → z16 ≤ 255 → 0 ≤ z15 - 256 * z16 → z15 - 256 * z16 < 256 →
 ∀ z17 : Int, 0 ≤ z17 → z17 ≤ 255 → 0 ≤ (List.getD r0 0 0) - 72057594037927936 * z17 → (List.getD r0 0 0) - 72057594037927936 * z17 < 72057594037927936 →
 ∀ z18 : Int, 0 ≤ z18 → z18 ≤ 72057594037927935 → 0 ≤ (List.getD r0 1 0) - 256 * z18 → (List.getD r0 1 0) - 256 * z18 < 256 →
 ∀ z19 : Int, 0 ≤ z19 → z19 ≤ 72057594037927935 → 0 ≤ (List.getD r0 1 0) - 256 * z19 → (List.getD r0 1 0) - 256 * z19 < 256 →
 ∀ z20 : Int, 0 ≤ z20 → z20 ≤ 281474976710655 → 0 ≤ z19 - 256 * z20 → z19 - 256 * z20 < 256 →
 ∀ z21 : Int, 0 ≤ z21 → z21 ≤ 281474976710655 → 0 ≤ (List.getD r0 1 0) - 65536 * z21 → (List.getD r0 1 0) - 65536 * z21 < 65536 →
 ∀ z22 : Int, 0 ≤ z22 → z22 ≤ 1099511627775 → 0 ≤ z21 - 256 * z22 → z21 - 256 * z22 < 256 →
 ∀ z23 : Int, 0 ≤ z23 → z23 ≤ 1099511627775 → 0 ≤ (List.getD r0 1 0) - 16777216 * z23 → (List.getD r0 1 0) - 16777216 * z23 < 16777216 →
 ∀ z24 : Int, 0 ≤ z24 → z24 ≤ 4294967295 → 0 ≤ z23 - 256 * z24 → z23 - 256 * z24 < 256 →
 ∀ z25 : Int, 0 ≤ z25 → z25 ≤ 4294967295 → 0 ≤ (List.getD r0 1 0) - 4294967296 * z25 → (List.getD r0 1 0) - 4294967296 * z25 < 4294967296 →
 ∀ z26 : Int, 0 ≤ z26 → z26 ≤ 16777215 → 0 ≤ z25 - 256 * z26 → z25 - 256 * z26 < 256 →
 ∀ z27 : Int, 0 ≤ z27 → z27 ≤ 16777215 → 0 ≤ (List.getD r0 1 0) - 1099511627776 * z27 → (List.getD r0 1 0) - 1099511627776 * z27 < 1099511627776 →
 ∀ z28 : Int, 0 ≤ z28 → z28 ≤ 65535 → 0 ≤ z27 - 256 * z28 → z27 - 256 * z28 < 256 →
 ∀ z29 : Int, 0 ≤ z29 → z29 ≤ 65535 → 0 ≤ (List.getD r0 1 0) - 281474976710656 * z29 → (List.getD r0 1 0) - 281474976710656 * z29 < 281474976710656 →
 ∀ z30 : Int, 0 ≤ z30 → z30 ≤ 255 → 0 ≤ z29 - 256 * z30 → z29 - 256 * z30 < 256 →
 ∀ z31 : Int, 0 ≤ z31 → z31 ≤ 255 → 0 ≤ (List.getD r0 1 0) - 72057594037927936 * z31 → (List.getD r0 1 0) - 72057594037927936 * z31 < 72057594037927936 →
 ∀ z32 : Int, 0 ≤ z32 → z32 ≤ 72057594037927935 → 0 ≤ (List.getD r0 2 0) - 256 * z32 → (List.getD r0 2 0) - 256 * z32 < 256 →
 ∀ z33 : Int, 0 ≤ z33 → z33 ≤ 72057594037927935 → 0 ≤ (List.getD r0 2 0) - 256 * z33 → (List.getD r0 2 0) - 256 * z33 < 256 →
 ∀ z34 : Int, 0 ≤ z34 → z34 ≤ 281474976710655 → 0 ≤ z33 - 256 * z34 → z33 - 256 * z34 < 256 →
 ∀ z35 : Int, 0 ≤ z35 → z35 ≤ 281474976710655 → 0 ≤ (List.getD r0 2 0) - 65536 * z35 → (List.getD r0 2 0) - 65536 * z35 < 65536 →
 ∀ z36 : Int, 0 ≤ z36 → z36 ≤ 1099511627775 → 0 ≤ z35 - 256 * z36 → z35 - 256 * z36 < 256 →
 ∀ z37 : Int, 0 ≤ z37 → z37 ≤ 1099511627775 → 0 ≤ (List.getD r0 2 0) - 16777216 * z37 → (List.getD r0 2 0) - 16777216 * z37 < 16777216 →
 ∀ z38 : Int, 0 ≤ z38 → z38 ≤ 4294967295 → 0 ≤ z37 - 256 * z38 → z37 - 256 * z38 < 256 →
 ∀ z39 : Int, 0 ≤ z39 → z39 ≤ 4294967295 → 0 ≤ (List.getD r0 2 0) - 4294967296 * z39 → (List.getD r0 2 0) - 4294967296 * z39 < 4294967296 →
 ∀ z40 : Int, 0 ≤ z40 → z40 ≤ 16777215 → 0 ≤ z39 - 256 * z40 → z39 - 256 * z40 < 256 →
 ∀ z41 : Int, 0 ≤ z41 → z41 ≤ 16777215 → 0 ≤ (List.getD r0 2 0) - 1099511627776 * z41 → (List.getD r0 2 0) - 1099511627776 * z41 < 1099511627776 →
 ∀ z42 : Int, 0 ≤ z42 → z42 ≤ 65535 → 0 ≤ z41 - 256 * z42 → z41 - 256 * z42 < 256 →
 ∀ z43 : Int, 0 ≤ z43 → z43 ≤ 65535 → 0 ≤ (List.getD r0 2 0) - 281474976710656 * z43 → (List.getD r0 2 0) - 281474976710656 * z43 < 281474976710656 →
 ∀ z44 : Int, 0 ≤ z44 → z44 ≤ 255 → 0 ≤ z43 - 256 * z44 → z43 - 256 * z44 < 256 →
 ∀ z45 : Int, 0 ≤ z45 → z45 ≤ 255 → 0 ≤ (List.getD r0 2 0) - 72057594037927936 * z45 → (List.getD r0 2 0) - 72057594037927936 * z45 < 72057594037927936 →
 ∀ z46 : Int, 0 ≤ z46 → z46 ≤ 72057594037927935 → 0 ≤ (List.getD r0 3 0) - 256 * z46 → (List.getD r0 3 0) - 256 * z46 < 256 →
 ∀ z47 : Int, 0 ≤ z47 → z47 ≤ 72057594037927935 → 0 ≤ (List.getD r0 3 0) - 256 * z47 → (List.getD r0 3 0) - 256 * z47 < 256 →
 ∀ z48 : Int, 0 ≤ z48 → z48 ≤ 281474976710655 → 0 ≤ z47 - 256 * z48 → z47 - 256 * z48 < 256 →
 ∀ z49 : Int, 0 ≤ z49 → z49 ≤ 281474976710655 → 0 ≤ (List.getD r0 3 0) - 65536 * z49 → (List.getD r0 3 0) - 65536 * z49 < 65536 →
 ∀ z50 : Int, 0 ≤ z50 → z50 ≤ 1099511627775 → 0 ≤ z49 - 256 * z50 → z49 - 256 * z50 < 256 →
 ∀ z51 : Int, 0 ≤ z51 → z51 ≤ 1099511627775 → 0 ≤ (List.getD r0 3 0) - 16777216 * z51 → (List.getD r0 3 0) - 16777216 * z51 < 16777216 →
 ∀ z52 : Int, 0 ≤ z52 → z52 ≤ 4294967295 → 0 ≤ z51 - 256 * z52 → z51 - 256 * z52 < 256 →
 ∀ z53 : Int, 0 ≤ z53 → z53 ≤ 4294967295 → 0 ≤ (List.getD r0 3 0) - 4294967296 * z53 → (List.getD r0 3 0) - 4294967296 * z53 < 4294967296 →
 ∀ z54 : Int, 0 ≤ z54 → z54 ≤ 16777215 → 0 ≤ z53 - 256 * z54 → z53 - 256 * z54 < 256 →
 ∀ z55 : Int, 0 ≤ z55 → z55 ≤ 16777215 → 0 ≤ (List.getD r0 3 0) - 1099511627776 * z55 → (List.getD r0 3 0) - 1099511627776 * z55 < 1099511627776 →
 ∀ z56 : Int, 0 ≤ z56 → z56 ≤ 65535 → 0 ≤ z55 - 256 * z56 → z55 - 256 * z56 < 256 →
 ∀ z57 : Int, 0 ≤ z57 → z57 ≤ 65535 → 0 ≤ (List.getD r0 3 0) - 281474976710656 * z57 → (List.getD r0 3 0) - 281474976710656 * z57 < 281474976710656 →
 ∀ z58 : Int, 0 ≤ z58 → z58 ≤ 255 → 0 ≤ z57 - 256 * z58 → z57 - 256 * z58 < 256 →
 ∀ z59 : Int, 0 ≤ z59 → z59 ≤ 255 → 0 ≤ (List.getD r0 3 0) - 72057594037927936 * z59 → (List.getD r0 3 0) - 72057594037927936 * z59 < 72057594037927936 →
 K [r0] [[((List.getD r0 0 0) + ((-256) * z4)), (z5 + ((-256) * z6)), (z7 + ((-256) * z8)), (z9 + ((-256) * z10)), (z11 + ((-256) * z12)), (z13 + ((-256) * z14)), (z15 + ((-256) * z16)), z17, ((List.getD r0 1 0) + ((-256) * z18)), (z19 + ((-256) * z20)), (z21 + ((-256) * z22)), (z23 + ((-256) * z24)), (z25 + ((-256) * z26)), (z27 + ((-256) * z28)), (z29 + ((-256) * z30)), z31, ((List.getD r0 2 0) + ((-256) * z32)), (z33 + ((-256) * z34)), (z35 + ((-256) * z36)), (z37 + ((-256) * z38)), (z39 + ((-256) * z40)), (z41 + ((-256) * z42)), (z43 + ((-256) * z44)), z45, ((List.getD r0 3 0) + ((-256) * z46)), (z47 + ((-256) * z48)), (z49 + ((-256) * z50)), (z51 + ((-256) * z52)), (z53 + ((-256) * z54)), (z55 + ((-256) * z56)), (z57 + ((-256) * z58)), z59]]
theorem p_rbytes (G) : B_rbytes (SG G) (KB k_rbytes.res 27) := by
  unfold B_rbytes
  intro r0 i0 z4 a4 b4 c4 d4 z5 a5 b5 c5 d5 z6 a6 b6 c6 d6 z7 a7 b7 c7 d7 z8 a8 b8 c8 d8 z9 a9 b9 c9 d9 z10 a10 b10 c10 d10 z11 a11 b11 c11 d11 z12 a12 b12 c12 d12 z13 a13 b13 c13 d13 z14 a14 b14 c14 d14 z15 a15 b15 c15 d15 z16 a16 b16 c16 d16 z17 a17 b17 c17 d17 z18 a18 b18 c18 d18 z19 a19 b19 c19 d19 z20 a20 b20 c20 d20 z21 a21 b21 c21 d21 z22 a22 b22 c22 d22 z23 a23 b23 c23 d23 z24 a24 b24 c24 d24 z25 a25 b25 c25 d25 z26 a26 b26 c26 d26 z27 a27 b27 c27 d27 z28 a28 b28 c28 d28 z29 a29 b29 c29 d29 z30 a30 b30 c30 d30 z31 a31 b31 c31 d31 z32 a32 b32 c32 d32 z33 a33 b33 c33 d33 z34 a34 b34 c34 d34 z35 a35 b35 c35 d35 z36 a36 b36 c36 d36 z37 a37 b37 c37 d37 z38 a38 b38 c38 d38 z39 a39 b39 c39 d39 z40 a40 b40 c40 d40 z41 a41 b41 c41 d41 z42 a42 b42 c42 d42 z43 a43 b43 c43 d43 z44 a44 b44 c44 d44 z45 a45 b45 c45 d45 z46 a46 b46 c46 d46 z47 a47 b47 c47 d47 z48 a48 b48 c48 d48 z49 a49 b49 c49 d49 z50 a50 b50 c50 d50 z51 a51 b51 c51 d51 z52 a52 b52 c52 d52 z53 a53 b53 c53 d53 z54 a54 b54 c54 d54 z55 a55 b55 c55 d55 z56 a56 b56 c56 d56 z57 a57 b57 c57 d57 z58 a58 b58 c58 d58 z59 a59 b59 c59 d59
  refine ⟨?_, ?_⟩
  · obtain ⟨x0, x1, x2, x3, rfl, x0l, x0u, x1l, x1u, x2l, x2u, x3l, x3u⟩ := in_4 i0
    simp only [List.getD_cons_zero, List.getD_cons_succ] at *
    simp only [k_rbytes, bdsL, D.bds, by32, repB, List.cons_append, List.nil_append, List.append_nil, List.flatten_cons, List.flatten_nil, inB, and_true]
    exact ⟨by clear a5 b5 c5 d5 a6 b6 c6 d6 a7 b7 c7 d7 a8 b8 c8 d8 a9 b9 c9 d9 a10 b10 c10 d10 a11 b11 c11 d11 a12 b12 c12 d12 a13 b13 c13 d13 a14 b14 c14 d14 a15 b15 c15 d15 a16 b16 c16 d16 a17 b17 c17 d17 a18 b18 c18 d18 a19 b19 c19 d19 a20 b20 c20 d20 a21 b21 c21 d21 a22 b22 c22 d22 a23 b23 c23 d23 a24 b24 c24 d24 a25 b25 c25 d25 a26 b26 c26 d26 a27 b27 c27 d27 a28 b28 c28 d28 a29 b29 c29 d29 a30 b30 c30 d30 a31 b31 c31 d31 a32 b32 c32 d32 a33 b33 c33 d33 a34 b34 c34 d34 a35 b35 c35 d35 a36 b36 c36 d36 a37 b37 c37 d37 a38 b38 c38 d38 a39 b39 c39 d39 a40 b40 c40 d40 a41 b41 c41 d41 a42 b42 c42 d42 a43 b43 c43 d43 a44 b44 c44 d44 a45 b45 c45 d45 a46 b46 c46 d46 a47 b47 c47 d47 a48 b48 c48 d48 a49 b49 c49 d49 a50 b50 c50 d50 a51 b51 c51 d51 a52 b52 c52 d52 a53 b53 c53 d53 a54 b54 c54 d54 a55 b55 c55 d55 a56 b56 c56 d56 a57 b57 c57 d57 a58 b58 c58 d58 a59 b59 c59 d59 x0l x0u x1l x1u x2l x2u x3l x3u; omega,
      by clear a5 b5 c5 d5 a6 b6 c6 d6 a7 b7 c7 d7 a8 b8 c8 d8 a9 b9 c9 d9 a10 b10 c10 d10 a11 b11 c11 d11 a12 b12 c12 d12 a13 b13 c13 d13 a14 b14 c14 d14 a15 b15 c15 d15 a16 b16 c16 d16 a17 b17 c17 d17 a18 b18 c18 d18 a19 b19 c19 d19 a20 b20 c20 d20 a21 b21 c21 d21 a22 b22 c22 d22 a23 b23 c23 d23 a24 b24 c24 d24 a25 b25 c25 d25 a26 b26 c26 d26 a27 b27 c27 d27 a28 b28 c28 d28 a29 b29 c29 d29 a30 b30 c30 d30 a31 b31 c31 d31 a32 b32 c32 d32 a33 b33 c33 d33 a34 b34 c34 d34 a35 b35 c35 d35 a36 b36 c36 d36 a37 b37 c37 d37 a38 b38 c38 d38 a39 b39 c39 d39 a40 b40 c40 d40 a41 b41 c41 d41 a42 b42 c42 d42 a43 b43 c43 d43 a44 b44 c44 d44 a45 b45 c45 d45 a46 b46 c46 d46 a47 b47 c47 d47 a48 b48 c48 d48 a49 b49 c49 d49 a50 b50 c50 d50 a51 b51 c51 d51 a52 b52 c52 d52 a53 b53 c53 d53 a54 b54 c54 d54 a55 b55 c55 d55 a56 b56 c56 d56 a57 b57 c57 d57 a58 b58 c58 d58 a59 b59 c59 d59 x0l x0u x1l x1u x2l x2u x3l x3u; omega,
      by clear a4 b4 c4 d4 a7 b7 c7 d7 a8 b8 c8 d8 a9 b9 c9 d9 a10 b10 c10 d10 a11 b11 c11 d11 a12 b12 c12 d12 a13 b13 c13 d13 a14 b14 c14 d14 a15 b15 c15 d15 a16 b16 c16 d16 a17 b17 c17 d17 a18 b18 c18 d18 a19 b19 c19 d19 a20 b20 c20 d20 a21 b21 c21 d21 a22 b22 c22 d22 a23 b23 c23 d23 a24 b24 c24 d24 a25 b25 c25 d25 a26 b26 c26 d26 a27 b27 c27 d27 a28 b28 c28 d28 a29 b29 c29 d29 a30 b30 c30 d30 a31 b31 c31 d31 a32 b32 c32 d32 a33 b33 c33 d33 a34 b34 c34 d34 a35 b35 c35 d35 a36 b36 c36 d36 a37 b37 c37 d37 a38 b38 c38 d38 a39 b39 c39 d39 a40 b40 c40 d40 a41 b41 c41 d41 a42 b42 c42 d42 a43 b43 c43 d43 a44 b44 c44 d44 a45 b45 c45 d45 a46 b46 c46 d46 a47 b47 c47 d47 a48 b48 c48 d48 a49 b49 c49 d49 a50 b50 c50 d50 a51 b51 c51 d51 a52 b52 c52 d52 a53 b53 c53 d53 a54 b54 c54 d54 a55 b55 c55 d55 a56 b56 c56 d56 a57 b57 c57 d57 a58 b58 c58 d58 a59 b59 c59 d59 x0l x0u x1l x1u x2l x2u x3l x3u; omega,
      by clear a4 b4 c4 d4 a7 b7 c7 d7 a8 b8 c8 d8 a9 b9 c9 d9 a10 b10 c10 d10 a11 b11 c11 d11 a12 b12 c12 d12 a13 b13 c13 d13 a14 b14 c14 d14 a15 b15 c15 d15 a16 b16 c16 d16 a17 b17 c17 d17 a18 b18 c18 d18 a19 b19 c19 d19 a20 b20 c20 d20 a21 b21 c21 d21 a22 b22 c22 d22 a23 b23 c23 d23 a24 b24 c24 d24 a25 b25 c25 d25 a26 b26 c26 d26 a27 b27 c27 d27 a28 b28 c28 d28 a29 b29 c29 d29 a30 b30 c30 d30 a31 b31 c31 d31 a32 b32 c32 d32 a33 b33 c33 d33 a34 b34 c34 d34 a35 b35 c35 d35 a36 b36 c36 d36 a37 b37 c37 d37 a38 b38 c38 d38 a39 b39 c39 d39 a40 b40 c40 d40 a41 b41 c41 d41 a42 b42 c42 d42 a43 b43 c43 d43 a44 b44 c44 d44 a45 b45 c45 d45 a46 b46 c46 d46 a47 b47 c47 d47 a48 b48 c48 d48 a49 b49 c49 d49 a50 b50 c50 d50 a51 b51 c51 d51 a52 b52 c52 d52 a53 b53 c53 d53 a54 b54 c54 d54 a55 b55 c55 d55 a56 b56 c56 d56 a57 b57 c57 d57 a58 b58 c58 d58 a59 b59 c59 d59 x0l x0u x1l x1u x2l x2u x3l x3u; omega,
      by clear a4 b4 c4 d4 a5 b5 c5 d5 a6 b6 c6 d6 a9 b9 c9 d9 a10 b10 c10 d10 a11 b11 c11 d11 a12 b12 c12 d12 a13 b13 c13 d13 a14 b14 c14 d14 a15 b15 c15 d15 a16 b16 c16 d16 a17 b17 c17 d17 a18 b18 c18 d18 a19 b19 c19 d19 a20 b20 c20 d20 a21 b21 c21 d21 a22 b22 c22 d22 a23 b23 c23 d23 a24 b24 c24 d24 a25 b25 c25 d25 a26 b26 c26 d26 a27 b27 c27 d27 a28 b28 c28 d28 a29 b29 c29 d29 a30 b30 c30 d30 a31 b31 c31 d31 a32 b32 c32 d32 a33 b33 c33 d33 a34 b34 c34 d34 a35 b35 c35 d35 a36 b36 c36 d36 a37 b37 c37 d37 a38 b38 c38 d38 a39 b39 c39 d39 a40 b40 c40 d40 a41 b41 c41 d41 a42 b42 c42 d42 a43 b43 c43 d43 a44 b44 c44 d44 a45 b45 c45 d45 a46 b46 c46 d46 a47 b47 c47 d47 a48 b48 c48 d48 a49 b49 c49 d49 a50 b50 c50 d50 a51 b51 c51 d51 a52 b52 c52 d52 a53 b53 c53 d53 a54 b54 c54 d54 a55 b55 c55 d55 a56 b56 c56 d56 a57 b57 c57 d57 a58 b58 c58 d58 a59 b59 c59 d59 x0l x0u x1l x1u x2l x2u x3l x3u; omega,
      by clear a4 b4 c4 d4 a5 b5 c5 d5 a6 b6 c6 d6 a9 b9 c9 d9 a10 b10 c10 d10 a11 b11 c11 d11 a12 b12 c12 d12 a13 b13 c13 d13 a14 b14 c14 d14 a15 b15 c15 d15 a16 b16 c16 d16 a17 b17 c17 d17 a18 b18 c18 d18 a19 b19 c19 d19 a20 b20 c20 d20 a21 b21 c21 d21 a22 b22 c22 d22 a23 b23 c23 d23 a24 b24 c24 d24 a25 b25 c25 d25 a26 b26 c26 d26 a27 b27 c27 d27 a28 b28 c28 d28 a29 b29 c29 d29 a30 b30 c30 d30 a31 b31 c31 d31 a32 b32 c32 d32 a33 b33 c33 d33 a34 b34 c34 d34 a35 b35 c35 d35 a36 b36 c36 d36 a37 b37 c37 d37 a38 b38 c38 d38 a39 b39 c39 d39 a40 b40 c40 d40 a41 b41 c41 d41 a42 b42 c42 d42 a43 b43 c43 d43 a44 b44 c44 d44 a45 b45 c45 d45 a46 b46 c46 d46 a47 b47 c47 d47 a48 b48 c48 d48 a49 b49 c49 d49 a50 b50 c50 d50 a51 b51 c51 d51 a52 b52 c52 d52 a53 b53 c53 d53 a54 b54 c54 d54 a55 b55 c55 d55 a56 b56 c56 d56 a57 b57 c57 d57 a58 b58 c58 d58 a59 b59 c59 d59 x0l x0u x1l x1u x2l x2u x3l x3u; omega,
      by clear a4 b4 c4 d4 a5 b5 c5 d5 a6 b6 c6 d6 a7 b7 c7 d7 a8 b8 c8 d8 a11 b11 c11 d11 a12 b12 c12 d12 a13 b13 c13 d13 a14 b14 c14 d14 a15 b15 c15 d15 a16 b16 c16 d16 a17 b17 c17 d17 a18 b18 c18 d18 a19 b19 c19 d19 a20 b20 c20 d20 a21 b21 c21 d21 a22 b22 c22 d22 a23 b23 c23 d23 a24 b24 c24 d24 a25 b25 c25 d25 a26 b26 c26 d26 a27 b27 c27 d27 a28 b28 c28 d28 a29 b29 c29 d29 a30 b30 c30 d30 a31 b31 c31 d31 a32 b32 c32 d32 a33 b33 c33 d33 a34 b34 c34 d34 a35 b35 c35 d35 a36 b36 c36 d36 a37 b37 c37 d37 a38 b38 c38 d38 a39 b39 c39 d39 a40 b40 c40 d40 a41 b41 c41 d41 a42 b42 c42 d42 a43 b43 c43 d43 a44 b44 c44 d44 a45 b45 c45 d45 a46 b46 c46 d46 a47 b47 c47 d47 a48 b48 c48 d48 a49 b49 c49 d49 a50 b50 c50 d50 a51 b51 c51 d51 a52 b52 c52 d52 a53 b53 c53 d53 a54 b54 c54 d54 a55 b55 c55 d55 a56 b56 c56 d56 a57 b57 c57 d57 a58 b58 c58 d58 a59 b59 c59 d59 x0l x0u x1l x1u x2l x2u x3l x3u; omega,
      by clear a4 b4 c4 d4 a5 b5 c5 d5 a6 b6 c6 d6 a7 b7 c7 d7 a8 b8 c8 d8 a11 b11 c11 d11 a12 b12 c12 d12 a13 b13 c13 d13 a14 b14 c14 d14 a15 b15 c15 d15 a16 b16 c16 d16 a17 b17 c17 d17 a18 b18 c18 d18 a19 b19 c19 d19 a20 b20 c20 d20 a21 b21 c21 d21 a22 b22 c22 d22 a23 b23 c23 d23 a24 b24 c24 d24 a25 b25 c25 d25 a26 b26 c26 d26 a27 b27 c27 d27 a28 b28 c28 d28 a29 b29 c29 d29 a30 b30 c30 d30 a31 b31 c31 d31 a32 b32 c32 d32 a33 b33 c33 d33 a34 b34 c34 d34 a35 b35 c35 d35 a36 b36 c36 d36 a37 b37 c37 d37 a38 b38 c38 d38 a39 b39 c39 d39 a40 b40 c40 d40 a41 b41 c41 d41 a42 b42 c42 d42 a43 b43 c43 d43 a44 b44 c44 d44 a45 b45 c45 d45 a46 b46 c46 d46 a47 b47 c47 d47 a48 b48 c48 d48 a49 b49 c49 d49 a50 b50 c50 d50 a51 b51 c51 d51 a52 b52 c52 d52 a53 b53 c53 d53 a54 b54 c54 d54 a55 b55 c55 d55 a56 b56 c56 d56 a57 b57 c57 d57 a58 b58 c58 d58 a59 b59 c59 d59 x0l x0u x1l x1u x2l x2u x3l x3u; omega,
      by clear a4 b4 c4 d4 a5 b5 c5 d5 a6 b6 c6 d6 a7 b7 c7 d7 a8 b8 c8 d8 a9 b9 c9 d9 a10 b10 c10 d10 a13 b13 c13 d13 a14 b14 c14 d14 a15 b15 c15 d15 a16 b16 c16 d16 a17 b17 c17 d17 a18 b18 c18 d18 a19 b19 c19 d19 a20 b20 c20 d20 a21 b21 c21 d21 a22 b22 c22 d22 a23 b23 c23 d23 a24 b24 c24 d24 a25 b25 c25 d25 a26 b26 c26 d26 a27 b27 c27 d27 a28 b28 c28 d28 a29 b29 c29 d29 a30 b30 c30 d30 a31 b31 c31 d31 a32 b32 c32 d32 a33 b33 c33 d33 a34 b34 c34 d34 a35 b35 c35 d35 a36 b36 c36 d36 a37 b37 c37 d37 a38 b38 c38 d38 a39 b39 c39 d39 a40 b40 c40 d40 a41 b41 c41 d41 a42 b42 c42 d42 a43 b43 c43 d43 a44 b44 c44 d44 a45 b45 c45 d45 a46 b46 c46 d46 a47 b47 c47 d47 a48 b48 c48 d48 a49 b49 c49 d49 a50 b50 c50 d50 a51 b51 c51 d51 a52 b52 c52 d52 a53 b53 c53 d53 a54 b54 c54 d54 a55 b55 c55 d55 a56 b56 c56 d56 a57 b57 c57 d57 a58 b58 c58 d58 a59 b59 c59 d59 x0l x0u x1l x1u x2l x2u x3l x3u; omega,
      by clear a4 b4 c4 d4 a5 b5 c5 d5 a6 b6 c6 d6 a7 b7 c7 d7 a8 b8 c8 d8 a9 b9 c9 d9 a10 b10 c10 d10 a13 b13 c13 d13 a14 b14 c14 d14 a15 b15 c15 d15 a16 b16 c16 d16 a17 b17 c17 d17 a18 b18 c18 d18 a19 b19 c19 d19 a20 b20 c20 d20 a21 b21 c21 d21 a22 b22 c22 d22 a23 b23 c23 d23 a24 b24 c24 d24 a25 b25 c25 d25 a26 b26 c26 d26 a27 b27 c27 d27 a28 b28 c28 d28 a29 b29 c29 d29 a30 b30 c30 d30 a31 b31 c31 d31 a32 b32 c32 d32 a33 b33 c33 d33 a34 b34 c34 d34 a35 b35 c35 d35 a36 b36 c36 d36 a37 b37 c37 d37 a38 b38 c38 d38 a39 b39 c39 d39 a40 b40 c40 d40 a41 b41 c41 d41 a42 b42 c42 d42 a43 b43 c43 d43 a44 b44 c44 d44 a45 b45 c45 d45 a46 b46 c46 d46 a47 b47 c47 d47 a48 b48 c48 d48 a49 b49 c49 d49 a50 b50 c50 d50 a51 b51 c51 d51 a52 b52 c52 d52 a53 b53 c53 d53 a54 b54 c54 d54 a55 b55 c55 d55 a56 b56 c56 d56 a57 b57 c57 d57 a58 b58 c58 d58 a59 b59 c59 d59 x0l x0u x1l x1u x2l x2u x3l x3u; omega,
      by clear a4 b4 c4 d4 a5 b5 c5 d5 a6 b6 c6 d6 a7 b7 c7 d7 a8 b8 c8 d8 a9 b9 c9 d9 a10 b10 c10 d10 a11 b11 c11 d11 a12 b12 c12 d12 a15 b15 c15 d15 a16 b16 c16 d16 a17 b17 c17 d17 a18 b18 c18 d18 a19 b19 c19 d19 a20 b20 c20 d20 a21 b21 c21 d21 a22 b22 c22 d22 a23 b23 c23 d23 a24 b24 c24 d24 a25 b25 c25 d25 a26 b26 c26 d26 a27 b27 c27 d27 a28 b28 c28 d28 a29 b29 c29 d29 a30 b30 c30 d30 a31 b31 c31 d31 a32 b32 c32 d32 a33 b33 c33 d33 a34 b34 c34 d34 a35 b35 c35 d35 a36 b36 c36 d36 a37 b37 c37 d37 a38 b38 c38 d38 a39 b39 c39 d39 a40 b40 c40 d40 a41 b41 c41 d41 a42 b42 c42 d42 a43 b43 c43 d43 a44 b44 c44 d44 a45 b45 c45 d45 a46 b46 c46 d46 a47 b47 c47 d47 a48 b48 c48 d48 a49 b49 c49 d49 a50 b50 c50 d50 a51 b51 c51 d51 a52 b52 c52 d52 a53 b53 c53 d53 a54 b54 c54 d54 a55 b55 c55 d55 a56 b56 c56 d56 a57 b57 c57 d57 a58 b58 c58 d58 a59 b59 c59 d59 x0l x0u x1l x1u x2l x2u x3l x3u; omega,
      by clear a4 b4 c4 d4 a5 b5 c5 d5 a6 b6 c6 d6 a7 b7 c7 d7 a8 b8 c8 d8 a9 b9 c9 d9 a10 b10 c10 d10 a11 b11 c11 d11 a12 b12 c12 d12 a15 b15 c15 d15 a16 b16 c16 d16 a17 b17 c17 d17 a18 b18 c18 d18 a19 b19 c19 d19 a20 b20 c20 d20 a21 b21 c21 d21 a22 b22 c22 d22 a23 b23 c23 d23 a24 b24 c24 d24 a25 b25 c25 d25 a26 b26 c26 d26 a27 b27 c27 d27 a28 b28 c28 d28 a29 b29 c29 d29 a30 b30 c30 d30 a31 b31 c31 d31 a32 b32 c32 d32 a33 b33 c33 d33 a34 b34 c34 d34 a35 b35 c35 d35 a36 b36 c36 d36 a37 b37 c37 d37 a38 b38 c38 d38 a39 b39 c39 d39 a40 b40 c40 d40 a41 b41 c41 d41 a42 b42 c42 d42 a43 b43 c43 d43 a44 b44 c44 d44 a45 b45 c45 d45 a46 b46 c46 d46 a47 b47 c47 d47 a48 b48 c48 d48 a49 b49 c49 d49 a50 b50 c50 d50 a51 b51 c51 d51 a52 b52 c52 d52 a53 b53 c53 d53 a54 b54 c54 d54 a55 b55 c55 d55 a56 b56 c56 d56 a57 b57 c57 d57 a58 b58 c58 d58 a59 b59 c59 d59 x0l x0u x1l x1u x2l x2u x3l x3u; omega,
      by clear a4 b4 c4 d4 a5 b5 c5 d5 a6 b6 c6 d6 a7 b7 c7 d7 a8 b8 c8 d8 a9 b9 c9 d9 a10 b10 c10 d10 a11 b11 c11 d11 a12 b12 c12 d12 a13 b13 c13 d13 a14 b14 c14 d14 a17 b17 c17 d17 a18 b18 c18 d18 a19 b19 c19 d19 a20 b20 c20 d20 a21 b21 c21 d21 a22 b22 c22 d22 a23 b23 c23 d23 a24 b24 c24 d24 a25 b25 c25 d25 a26 b26 c26 d26 a27 b27 c27 d27 a28 b28 c28 d28 a29 b29 c29 d29 a30 b30 c30 d30 a31 b31 c31 d31 a32 b32 c32 d32 a33 b33 c33 d33 a34 b34 c34 d34 a35 b35 c35 d35 a36 b36 c36 d36 a37 b37 c37 d37 a38 b38 c38 d38 a39 b39 c39 d39 a40 b40 c40 d40 a41 b41 c41 d41 a42 b42 c42 d42 a43 b43 c43 d43 a44 b44 c44 d44 a45 b45 c45 d45 a46 b46 c46 d46 a47 b47 c47 d47 a48 b48 c48 d48 a49 b49 c49 d49 a50 b50 c50 d50 a51 b51 c51 d51 a52 b52 c52 d52 a53 b53 c53 d53 a54 b54 c54 d54 a55 b55 c55 d55 a56 b56 c56 d56 a57 b57 c57 d57 a58 b58 c58 d58 a59 b59 c59 d59 x0l x0u x1l x1u x2l x2u x3l x3u; omega,
      by clear a4 b4 c4 d4 a5 b5 c5 d5 a6 b6 c6 d6 a7 b7 c7 d7 a8 b8 c8 d8 a9 b9 c9 d9 a10 b10 c10 d10 a11 b11 c11 d11 a12 b12 c12 d12 a13 b13 c13 d13 a14 b14 c14 d14 a17 b17 c17 d17 a18 b18 c18 d18 a19 b19 c19 d19 a20 b20 c20 d20 a21 b21 c21 d21 a22 b22 c22 d22 a23 b23 c23 d23 a24 b24 c24 d24 a25 b25 c25 d25 a26 b26 c26 d26 a27 b27 c27 d27 a28 b28 c28 d28 a29 b29 c29 d29 a30 b30 c30 d30 a31 b31 c31 d31 a32 b32 c32 d32 a33 b33 c33 d33 a34 b34 c34 d34 a35 b35 c35 d35 a36 b36 c36 d36 a37 b37 c37 d37 a38 b38 c38 d38 a39 b39 c39 d39 a40 b40 c40 d40 a41 b41 c41 d41 a42 b42 c42 d42 a43 b43 c43 d43 a44 b44 c44 d44 a45 b45 c45 d45 a46 b46 c46 d46 a47 b47 c47 d47 a48 b48 c48 d48 a49 b49 c49 d49 a50 b50 c50 d50 a51 b51 c51 d51 a52 b52 c52 d52 a53 b53 c53 d53 a54 b54 c54 d54 a55 b55 c55 d55 a56 b56 c56 d56 a57 b57 c57 d57 a58 b58 c58 d58 a59 b59 c59 d59 x0l x0u x1l x1u x2l x2u x3l x3u; omega,
      by clear a4 b4 c4 d4 a5 b5 c5 d5 a6 b6 c6 d6 a7 b7 c7 d7 a8 b8 c8 d8 a9 b9 c9 d9 a10 b10 c10 d10 a11 b11 c11 d11 a12 b12 c12 d12 a13 b13 c13 d13 a14 b14 c14 d14 a15 b15 c15 d15 a16 b16 c16 d16 a18 b18 c18 d18 a19 b19 c19 d19 a20 b20 c20 d20 a21 b21 c21 d21 a22 b22 c22 d22 a23 b23 c23 d23 a24 b24 c24 d24 a25 b25 c25 d25 a26 b26 c26 d26 a27 b27 c27 d27 a28 b28 c28 d28 a29 b29 c29 d29 a30 b30 c30 d30 a31 b31 c31 d31 a32 b32 c32 d32 a33 b33 c33 d33 a34 b34 c34 d34 a35 b35 c35 d35 a36 b36 c36 d36 a37 b37 c37 d37 a38 b38 c38 d38 a39 b39 c39 d39 a40 b40 c40 d40 a41 b41 c41 d41 a42 b42 c42 d42 a43 b43 c43 d43 a44 b44 c44 d44 a45 b45 c45 d45 a46 b46 c46 d46 a47 b47 c47 d47 a48 b48 c48 d48 a49 b49 c49 d49 a50 b50 c50 d50 a51 b51 c51 d51 a52 b52 c52 d52 a53 b53 c53 d53 a54 b54 c54 d54 a55 b55 c55 d55 a56 b56 c56 d56 a57 b57 c57 d57 a58 b58 c58 d58 a59 b59 c59 d59 x0l x0u x1l x1u x2l x2u x3l x3u; omega,
      by clear a4 b4 c4 d4 a5 b5 c5 d5 a6 b6 c6 d6 a7 b7 c7 d7 a8 b8 c8 d8 a9 b9 c9 d9 a10 b10 c10 d10 a11 b11 c11 d11 a12 b12 c12 d12 a13 b13 c13 d13 a14 b14 c14 d14 a15 b15 c15 d15 a16 b16 c16 d16 a18 b18 c18 d18 a19 b19 c19 d19 a20 b20 c20 d20 a21 b21 c21 d21 a22 b22 c22 d22 a23 b23 c23 d23 a24 b24 c24 d24 a25 b25 c25 d25 a26 b26 c26 d26 a27 b27 c27 d27 a28 b28 c28 d28 a29 b29 c29 d29 a30 b30 c30 d30 a31 b31 c31 d31 a32 b32 c32 d32 a33 b33 c33 d33 a34 b34 c34 d34 a35 b35 c35 d35 a36 b36 c36 d36 a37 b37 c37 d37 a38 b38 c38 d38 a39 b39 c39 d39 a40 b40 c40 d40 a41 b41 c41 d41 a42 b42 c42 d42 a43 b43 c43 d43 a44 b44 c44 d44 a45 b45 c45 d45 a46 b46 c46 d46 a47 b47 c47 d47 a48 b48 c48 d48 a49 b49 c49 d49 a50 b50 c50 d50 a51 b51 c51 d51 a52 b52 c52 d52 a53 b53 c53 d53 a54 b54 c54 d54 a55 b55 c55 d55 a56 b56 c56 d56 a57 b57 c57 d57 a58 b58 c58 d58 a59 b59 c59 d59 x0l x0u x1l x1u x2l x2u x3l x3u; omega,
      by clear a4 b4 c4 d4 a5 b5 c5 d5 a6 b6 c6 d6 a7 b7 c7 d7 a8 b8 c8 d8 a9 b9 c9 d9 a10 b10 c10 d10 a11 b11 c11 d11 a12 b12 c12 d12 a13 b13 c13 d13 a14 b14 c14 d14 a15 b15 c15 d15 a16 b16 c16 d16 a17 b17 c17 d17 a19 b19 c19 d19 a20 b20 c20 d20 a21 b21 c21 d21 a22 b22 c22 d22 a23 b23 c23 d23 a24 b24 c24 d24 a25 b25 c25 d25 a26 b26 c26 d26 a27 b27 c27 d27 a28 b28 c28 d28 a29 b29 c29 d29 a30 b30 c30 d30 a31 b31 c31 d31 a32 b32 c32 d32 a33 b33 c33 d33 a34 b34 c34 d34 a35 b35 c35 d35 a36 b36 c36 d36 a37 b37 c37 d37 a38 b38 c38 d38 a39 b39 c39 d39 a40 b40 c40 d40 a41 b41 c41 d41 a42 b42 c42 d42 a43 b43 c43 d43 a44 b44 c44 d44 a45 b45 c45 d45 a46 b46 c46 d46 a47 b47 c47 d47 a48 b48 c48 d48 a49 b49 c49 d49 a50 b50 c50 d50 a51 b51 c51 d51 a52 b52 c52 d52 a53 b53 c53 d53 a54 b54 c54 d54 a55 b55 c55 d55 a56 b56 c56 d56 a57 b57 c57 d57 a58 b58 c58 d58 a59 b59 c59 d59 x0l x0u x1l x1u x2l x2u x3l x3u; omega,
      by clear a4 b4 c4 d4 a5 b5 c5 d5 a6 b6 c6 d6 a7 b7 c7 d7 a8 b8 c8 d8 a9 b9 c9 d9 a10 b10 c10 d10 a11 b11 c11 d11 a12 b12 c12 d12 a13 b13 c13 d13 a14 b14 c14 d14 a15 b15 c15 d15 a16 b16 c16 d16 a17 b17 c17 d17 a19 b19 c19 d19 a20 b20 c20 d20 a21 b21 c21 d21 a22 b22 c22 d22 a23 b23 c23 d23 a24 b24 c24 d24 a25 b25 c25 d25 a26 b26 c26 d26 a27 b27 c27 d27 a28 b28 c28 d28 a29 b29 c29 d29 a30 b30 c30 d30 a31 b31 c31 d31 a32 b32 c32 d32 a33 b33 c33 d33 a34 b34 c34 d34 a35 b35 c35 d35 a36 b36 c36 d36 a37 b37 c37 d37 a38 b38 c38 d38 a39 b39 c39 d39 a40 b40 c40 d40 a41 b41 c41 d41 a42 b42 c42 d42 a43 b43 c43 d43 a44 b44 c44 d44 a45 b45 c45 d45 a46 b46 c46 d46 a47 b47 c47 d47 a48 b48 c48 d48 a49 b49 c49 d49 a50 b50 c50 d50 a51 b51 c51 d51 a52 b52 c52 d52 a53 b53 c53 d53 a54 b54 c54 d54 a55 b55 c55 d55 a56 b56 c56 d56 a57 b57 c57 d57 a58 b58 c58 d58 a59 b59 c59 d59 x0l x0u x1l x1u x2l x2u x3l x3u; omega,
      by clear a4 b4 c4 d4 a5 b5 c5 d5 a6 b6 c6 d6 a7 b7 c7 d7 a8 b8 c8 d8 a9 b9 c9 d9 a10 b10 c10 d10 a11 b11 c11 d11 a12 b12 c12 d12 a13 b13 c13 d13 a14 b14 c14 d14 a15 b15 c15 d15 a16 b16 c16 d16 a17 b17 c17 d17 a18 b18 c18 d18 a21 b21 c21 d21 a22 b22 c22 d22 a23 b23 c23 d23 a24 b24 c24 d24 a25 b25 c25 d25 a26 b26 c26 d26 a27 b27 c27 d27 a28 b28 c28 d28 a29 b29 c29 d29 a30 b30 c30 d30 a31 b31 c31 d31 a32 b32 c32 d32 a33 b33 c33 d33 a34 b34 c34 d34 a35 b35 c35 d35 a36 b36 c36 d36 a37 b37 c37 d37 a38 b38 c38 d38 a39 b39 c39 d39 a40 b40 c40 d40 a41 b41 c41 d41 a42 b42 c42 d42 a43 b43 c43 d43 a44 b44 c44 d44 a45 b45 c45 d45 a46 b46 c46 d46 a47 b47 c47 d47 a48 b48 c48 d48 a49 b49 c49 d49 a50 b50 c50 d50 a51 b51 c51 d51 a52 b52 c52 d52 a53 b53 c53 d53 a54 b54 c54 d54 a55 b55 c55 d55 a56 b56 c56 d56 a57 b57 c57 d57 a58 b58 c58 d58 a59 b59 c59 d59 x0l x0u x1l x1u x2l x2u x3l x3u; omega,
      by clear a4 b4 c4 d4 a5 b5 c5 d5 a6 b6 c6 d6 a7 b7 c7 d7 a8 b8 c8 d8 a9 b9 c9 d9 a10 b10 c10 d10 a11 b11 c11 d11 a12 b12 c12 d12 a13 b13 c13 d13 a14 b14 c14 d14 a15 b15 c15 d15 a16 b16 c16 d16 a17 b17 c17 d17 a18 b18 c18 d18 a21 b21 c21 d21 a22 b22 c22 d22 a23 b23 c23 d23 a24 b24 c24 d24 a25 b25 c25 d25 a26 b26 c26 d26 a27 b27 c27 d27 a28 b28 c28 d28 a29 b29 c29 d29 a30 b30 c30 d30 a31 b31 c31 d31 a32 b32 c32 d32 a33 b33 c33 d33 a34 b34 c34 d34 a35 b35 c35 d35 a36 b36 c36 d36 a37 b37 c37 d37 a38 b38 c38 d38 a39 b39 c39 d39 a40 b40 c40 d40 a41 b41 c41 d41 a42 b42 c42 d42 a43 b43 c43 d43 a44 b44 c44 d44 a45 b45 c45 d45 a46 b46 c46 d46 a47 b47 c47 d47 a48 b48 c48 d48 a49 b49 c49 d49 a50 b50 c50 d50 a51 b51 c51 d51 a52 b52 c52 d52 a53 b53 c53 d53 a54 b54 c54 d54 a55 b55 c55 d55 a56 b56 c56 d56 a57 b57 c57 d57 a58 b58 c58 d58 a59 b59 c59 d59 x0l x0u x1l x1u x2l x2u x3l x3u; omega,
      by clear a4 b4 c4 d4 a5 b5 c5 d5 a6 b6 c6 d6 a7 b7 c7 d7 a8 b8 c8 d8 a9 b9 c9 d9 a10 b10 c10 d10 a11 b11 c11 d11 a12 b12 c12 d12 a13 b13 c13 d13 a14 b14 c14 d14 a15 b15 c15 d15 a16 b16 c16 d16 a17 b17 c17 d17 a18 b18 c18 d18 a19 b19 c19 d19 a20 b20 c20 d20 a23 b23 c23 d23 a24 b24 c24 d24 a25 b25 c25 d25 a26 b26 c26 d26 a27 b27 c27 d27 a28 b28 c28 d28 a29 b29 c29 d29 a30 b30 c30 d30 a31 b31 c31 d31 a32 b32 c32 d32 a33 b33 c33 d33 a34 b34 c34 d34 a35 b35 c35 d35 a36 b36 c36 d36 a37 b37 c37 d37 a38 b38 c38 d38 a39 b39 c39 d39 a40 b40 c40 d40 a41 b41 c41 d41 a42 b42 c42 d42 a43 b43 c43 d43 a44 b44 c44 d44 a45 b45 c45 d45 a46 b46 c46 d46 a47 b47 c47 d47 a48 b48 c48 d48 a49 b49 c49 d49 a50 b50 c50 d50 a51 b51 c51 d51 a52 b52 c52 d52 a53 b53 c53 d53 a54 b54 c54 d54 a55 b55 c55 d55 a56 b56 c56 d56 a57 b57 c57 d57 a58 b58 c58 d58 a59 b59 c59 d59 x0l x0u x1l x1u x2l x2u x3l x3u; omega,
      by clear a4 b4 c4 d4 a5 b5 c5 d5 a6 b6 c6 d6 a7 b7 c7 d7 a8 b8 c8 d8 a9 b9 c9 d9 a10 b10 c10 d10 a11 b11 c11 d11 a12 b12 c12 d12 a13 b13 c13 d13 a14 b14 c14 d14 a15 b15 c15 d15 a16 b16 c16 d16 a17 b17 c17 d17 a18 b18 c18 d18 a19 b19 c19 d19 a20 b20 c20 d20 a23 b23 c23 d23 a24 b24 c24 d24 a25 b25 c25 d25 a26 b26 c26 d26 a27 b27 c27 d27 a28 b28 c28 d28 a29 b29 c29 d29 a30 b30 c30 d30 a31 b31 c31 d31 a32 b32 c32 d32 a33 b33 c33 d33 a34 b34 c34 d34 a35 b35 c35 d35 a36 b36 c36 d36 a37 b37 c37 d37 a38 b38 c38 d38 a39 b39 c39 d39 a40 b40 c40 d40 a41 b41 c41 d41 a42 b42 c42 d42 a43 b43 c43 d43 a44 b44 c44 d44 a45 b45 c45 d45 a46 b46 c46 d46 a47 b47 c47 d47 a48 b48 c48 d48 a49 b49 c49 d49 a50 b50 c50 d50 a51 b51 c51 d51 a52 b52 c52 d52 a53 b53 c53 d53 a54 b54 c54 d54 a55 b55 c55 d55 a56 b56 c56 d56 a57 b57 c57 d57 a58 b58 c58 d58 a59 b59 c59 d59 x0l x0u x1l x1u x2l x2u x3l x3u; omega,
      by clear a4 b4 c4 d4 a5 b5 c5 d5 a6 b6 c6 d6 a7 b7 c7 d7 a8 b8 c8 d8 a9 b9 c9 d9 a10 b10 c10 d10 a11 b11 c11 d11 a12 b12 c12 d12 a13 b13 c13 d13 a14 b14 c14 d14 a15 b15 c15 d15 a16 b16 c16 d16 a17 b17 c17 d17 a18 b18 c18 d18 a19 b19 c19 d19 a20 b20 c20 d20 a21 b21 c21 d21 a22 b22 c22 d22 a25 b25 c25 d25 a26 b26 c26 d26 a27 b27 c27 d27 a28 b28 c28 d28 a29 b29 c29 d29 a30 b30 c30 d30 a31 b31 c31 d31 a32 b32 c32 d32 a33 b33 c33 d33 a34 b34 c34 d34 a35 b35 c35 d35 a36 b36 c36 d36 a37 b37 c37 d37 a38 b38 c38 d38 a39 b39 c39 d39 a40 b40 c40 d40 a41 b41 c41 d41 a42 b42 c42 d42 a43 b43 c43 d43 a44 b44 c44 d44 a45 b45 c45 d45 a46 b46 c46 d46 a47 b47 c47 d47 a48 b48 c48 d48 a49 b49 c49 d49 a50 b50 c50 d50 a51 b51 c51 d51 a52 b52 c52 d52 a53 b53 c53 d53 a54 b54 c54 d54 a55 b55 c55 d55 a56 b56 c56 d56 a57 b57 c57 d57 a58 b58 c58 d58 a59 b59 c59 d59 x0l x0u x1l x1u x2l x2u x3l x3u; omega,
      by clear a4 b4 c4 d4 a5 b5 c5 d5 a6 b6 c6 d6 a7 b7 c7 d7 a8 b8 c8 d8 a9 b9 c9 d9 a10 b10 c10 d10 a11 b11 c11 d11 a12 b12 c12 d12 a13 b13 c13 d13 a14 b14 c14 d14 a15 b15 c15 d15 a16 b16 c16 d16 a17 b17 c17 d17 a18 b18 c18 d18 a19 b19 c19 d19 a20 b20 c20 d20 a21 b21 c21 d21 a22 b22 c22 d22 a25 b25 c25 d25 a26 b26 c26 d26 a27 b27 c27 d27 a28 b28 c28 d28 a29 b29 c29 d29 a30 b30 c30 d30 a31 b31 c31 d31 a32 b32 c32 d32 a33 b33 c33 d33 a34 b34 c34 d34 a35 b35 c35 d35 a36 b36 c36 d36 a37 b37 c37 d37 a38 b38 c38 d38 a39 b39 c39 d39 a40 b40 c40 d40 a41 b41 c41 d41 a42 b42 c42 d42 a43 b43 c43 d43 a44 b44 c44 d44 a45 b45 c45 d45 a46 b46 c46 d46 a47 b47 c47 d47 a48 b48 c48 d48 a49 b49 c49 d49 a50 b50 c50 d50 a51 b51 c51 d51 a52 b52 c52 d52 a53 b53 c53 d53 a54 b54 c54 d54 a55 b55 c55 d55 a56 b56 c56 d56 a57 b57 c57 d57 a58 b58 c58 d58 a59 b59 c59 d59 x0l x0u x1l x1u x2l x2u x3l x3u; omega,
      by clear a4 b4 c4 d4 a5 b5 c5 d5 a6 b6 c6 d6 a7 b7 c7 d7 a8 b8 c8 d8 a9 b9 c9 d9 a10 b10 c10 d10 a11 b11 c11 d11 a12 b12 c12 d12 a13 b13 c13 d13 a14 b14 c14 d14 a15 b15 c15 d15 a16 b16 c16 d16 a17 b17 c17 d17 a18 b18 c18 d18 a19 b19 c19 d19 a20 b20 c20 d20 a21 b21 c21 d21 a22 b22 c22 d22 a23 b23 c23 d23 a24 b24 c24 d24 a27 b27 c27 d27 a28 b28 c28 d28 a29 b29 c29 d29 a30 b30 c30 d30 a31 b31 c31 d31 a32 b32 c32 d32 a33 b33 c33 d33 a34 b34 c34 d34 a35 b35 c35 d35 a36 b36 c36 d36 a37 b37 c37 d37 a38 b38 c38 d38 a39 b39 c39 d39 a40 b40 c40 d40 a41 b41 c41 d41 a42 b42 c42 d42 a43 b43 c43 d43 a44 b44 c44 d44 a45 b45 c45 d45 a46 b46 c46 d46 a47 b47 c47 d47 a48 b48 c48 d48 a49 b49 c49 d49 a50 b50 c50 d50 a51 b51 c51 d51 a52 b52 c52 d52 a53 b53 c53 d53 a54 b54 c54 d54 a55 b55 c55 d55 a56 b56 c56 d56 a57 b57 c57 d57 a58 b58 c58 d58 a59 b59 c59 d59 x0l x0u x1l x1u x2l x2u x3l x3u; omega,
      by clear a4 b4 c4 d4 a5 b5 c5 d5 a6 b6 c6 d6 a7 b7 c7 d7 a8 b8 c8 d8 a9 b9 c9 d9 a10 b10 c10 d10 a11 b11 c11 d11 a12 b12 c12 d12 a13 b13 c13 d13 a14 b14 c14 d14 a15 b15 c15 d15 a16 b16 c16 d16 a17 b17 c17 d17 a18 b18 c18 d18 a19 b19 c19 d19 a20 b20 c20 d20 a21 b21 c21 d21 a22 b22 c22 d22 a23 b23 c23 d23 a24 b24 c24 d24 a27 b27 c27 d27 a28 b28 c28 d28 a29 b29 c29 d29 a30 b30 c30 d30 a31 b31 c31 d31 a32 b32 c32 d32 a33 b33 c33 d33 a34 b34 c34 d34 a35 b35 c35 d35 a36 b36 c36 d36 a37 b37 c37 d37 a38 b38 c38 d38 a39 b39 c39 d39 a40 b40 c40 d40 a41 b41 c41 d41 a42 b42 c42 d42 a43 b43 c43 d43 a44 b44 c44 d44 a45 b45 c45 d45 a46 b46 c46 d46 a47 b47 c47 d47 a48 b48 c48 d48 a49 b49 c49 d49 a50 b50 c50 d50 a51 b51 c51 d51 a52 b52 c52 d52 a53 b53 c53 d53 a54 b54 c54 d54 a55 b55 c55 d55 a56 b56 c56 d56 a57 b57 c57 d57 a58 b58 c58 d58 a59 b59 c59 d59 x0l x0u x1l x1u x2l x2u x3l x3u; omega,
      by clear a4 b4 c4 d4 a5 b5 c5 d5 a6 b6 c6 d6 a7 b7 c7 d7 a8 b8 c8 d8 a9 b9 c9 d9 a10 b10 c10 d10 a11 b11 c11 d11 a12 b12 c12 d12 a13 b13 c13 d13 a14 b14 c14 d14 a15 b15 c15 d15 a16 b16 c16 d16 a17 b17 c17 d17 a18 b18 c18 d18 a19 b19 c19 d19 a20 b20 c20 d20 a21 b21 c21 d21 a22 b22 c22 d22 a23 b23 c23 d23 a24 b24 c24 d24 a25 b25 c25 d25 a26 b26 c26 d26 a29 b29 c29 d29 a30 b30 c30 d30 a31 b31 c31 d31 a32 b32 c32 d32 a33 b33 c33 d33 a34 b34 c34 d34 a35 b35 c35 d35 a36 b36 c36 d36 a37 b37 c37 d37 a38 b38 c38 d38 a39 b39 c39 d39 a40 b40 c40 d40 a41 b41 c41 d41 a42 b42 c42 d42 a43 b43 c43 d43 a44 b44 c44 d44 a45 b45 c45 d45 a46 b46 c46 d46 a47 b47 c47 d47 a48 b48 c48 d48 a49 b49 c49 d49 a50 b50 c50 d50 a51 b51 c51 d51 a52 b52 c52 d52 a53 b53 c53 d53 a54 b54 c54 d54 a55 b55 c55 d55 a56 b56 c56 d56 a57 b57 c57 d57 a58 b58 c58 d58 a59 b59 c59 d59 x0l x0u x1l x1u x2l x2u x3l x3u; omega,
      by clear a4 b4 c4 d4 a5 b5 c5 d5 a6 b6 c6 d6 a7 b7 c7 d7 a8 b8 c8 d8 a9 b9 c9 d9 a10 b10 c10 d10 a11 b11 c11 d11 a12 b12 c12 d12 a13 b13 c13 d13 a14 b14 c14 d14 a15 b15 c15 d15 a16 b16 c16 d16 a17 b17 c17 d17 a18 b18 c18 d18 a19 b19 c19 d19 a20 b20 c20 d20 a21 b21 c21 d21 a22 b22 c22 d22 a23 b23 c23 d23 a24 b24 c24 d24 a25 b25 c25 d25 a26 b26 c26 d26 a29 b29 c29 d29 a30 b30 c30 d30 a31 b31 c31 d31 a32 b32 c32 d32 a33 b33 c33 d33 a34 b34 c34 d34 a35 b35 c35 d35 a36 b36 c36 d36 a37 b37 c37 d37 a38 b38 c38 d38 a39 b39 c39 d39 a40 b40 c40 d40 a41 b41 c41 d41 a42 b42 c42 d42 a43 b43 c43 d43 a44 b44 c44 d44 a45 b45 c45 d45 a46 b46 c46 d46 a47 b47 c47 d47 a48 b48 c48 d48 a49 b49 c49 d49 a50 b50 c50 d50 a51 b51 c51 d51 a52 b52 c52 d52 a53 b53 c53 d53 a54 b54 c54 d54 a55 b55 c55 d55 a56 b56 c56 d56 a57 b57 c57 d57 a58 b58 c58 d58 a59 b59 c59 d59 x0l x0u x1l x1u x2l x2u x3l x3u; omega,
      by clear a4 b4 c4 d4 a5 b5 c5 d5 a6 b6 c6 d6 a7 b7 c7 d7 a8 b8 c8 d8 a9 b9 c9 d9 a10 b10 c10 d10 a11 b11 c11 d11 a12 b12 c12 d12 a13 b13 c13 d13 a14 b14 c14 d14 a15 b15 c15 d15 a16 b16 c16 d16 a17 b17 c17 d17 a18 b18 c18 d18 a19 b19 c19 d19 a20 b20 c20 d20 a21 b21 c21 d21 a22 b22 c22 d22 a23 b23 c23 d23 a24 b24 c24 d24 a25 b25 c25 d25 a26 b26 c26 d26 a27 b27 c27 d27 a28 b28 c28 d28 a31 b31 c31 d31 a32 b32 c32 d32 a33 b33 c33 d33 a34 b34 c34 d34 a35 b35 c35 d35 a36 b36 c36 d36 a37 b37 c37 d37 a38 b38 c38 d38 a39 b39 c39 d39 a40 b40 c40 d40 a41 b41 c41 d41 a42 b42 c42 d42 a43 b43 c43 d43 a44 b44 c44 d44 a45 b45 c45 d45 a46 b46 c46 d46 a47 b47 c47 d47 a48 b48 c48 d48 a49 b49 c49 d49 a50 b50 c50 d50 a51 b51 c51 d51 a52 b52 c52 d52 a53 b53 c53 d53 a54 b54 c54 d54 a55 b55 c55 d55 a56 b56 c56 d56 a57 b57 c57 d57 a58 b58 c58 d58 a59 b59 c59 d59 x0l x0u x1l x1u x2l x2u x3l x3u; omega,
      by clear a4 b4 c4 d4 a5 b5 c5 d5 a6 b6 c6 d6 a7 b7 c7 d7 a8 b8 c8 d8 a9 b9 c9 d9 a10 b10 c10 d10 a11 b11 c11 d11 a12 b12 c12 d12 a13 b13 c13 d13 a14 b14 c14 d14 a15 b15 c15 d15 a16 b16 c16 d16 a17 b17 c17 d17 a18 b18 c18 d18 a19 b19 c19 d19 a20 b20 c20 d20 a21 b21 c21 d21 a22 b22 c22 d22 a23 b23 c23 d23 a24 b24 c24 d24 a25 b25 c25 d25 a26 b26 c26 d26 a27 b27 c27 d27 a28 b28 c28 d28 a31 b31 c31 d31 a32 b32 c32 d32 a33 b33 c33 d33 a34 b34 c34 d34 a35 b35 c35 d35 a36 b36 c36 d36 a37 b37 c37 d37 a38 b38 c38 d38 a39 b39 c39 d39 a40 b40 c40 d40 a41 b41 c41 d41 a42 b42 c42 d42 a43 b43 c43 d43 a44 b44 c44 d44 a45 b45 c45 d45 a46 b46 c46 d46 a47 b47 c47 d47 a48 b48 c48 d48 a49 b49 c49 d49 a50 b50 c50 d50 a51 b51 c51 d51 a52 b52 c52 d52 a53 b53 c53 d53 a54 b54 c54 d54 a55 b55 c55 d55 a56 b56 c56 d56 a57 b57 c57 d57 a58 b58 c58 d58 a59 b59 c59 d59 x0l x0u x1l x1u x2l x2u x3l x3u; omega,
      by clear a4 b4 c4 d4 a5 b5 c5 d5 a6 b6 c6 d6 a7 b7 c7 d7 a8 b8 c8 d8 a9 b9 c9 d9 a10 b10 c10 d10 a11 b11 c11 d11 a12 b12 c12 d12 a13 b13 c13 d13 a14 b14 c14 d14 a15 b15 c15 d15 a16 b16 c16 d16 a17 b17 c17 d17 a18 b18 c18 d18 a19 b19 c19 d19 a20 b20 c20 d20 a21 b21 c21 d21 a22 b22 c22 d22 a23 b23 c23 d23 a24 b24 c24 d24 a25 b25 c25 d25 a26 b26 c26 d26 a27 b27 c27 d27 a28 b28 c28 d28 a29 b29 c29 d29 a30 b30 c30 d30 a32 b32 c32 d32 a33 b33 c33 d33 a34 b34 c34 d34 a35 b35 c35 d35 a36 b36 c36 d36 a37 b37 c37 d37 a38 b38 c38 d38 a39 b39 c39 d39 a40 b40 c40 d40 a41 b41 c41 d41 a42 b42 c42 d42 a43 b43 c43 d43 a44 b44 c44 d44 a45 b45 c45 d45 a46 b46 c46 d46 a47 b47 c47 d47 a48 b48 c48 d48 a49 b49 c49 d49 a50 b50 c50 d50 a51 b51 c51 d51 a52 b52 c52 d52 a53 b53 c53 d53 a54 b54 c54 d54 a55 b55 c55 d55 a56 b56 c56 d56 a57 b57 c57 d57 a58 b58 c58 d58 a59 b59 c59 d59 x0l x0u x1l x1u x2l x2u x3l x3u; omega,
      by clear a4 b4 c4 d4 a5 b5 c5 d5 a6 b6 c6 d6 a7 b7 c7 d7 a8 b8 c8 d8 a9 b9 c9 d9 a10 b10 c10 d10 a11 b11 c11 d11 a12 b12 c12 d12 a13 b13 c13 d13 a14 b14 c14 d14 a15 b15 c15 d15 a16 b16 c16 d16 a17 b17 c17 d17 a18 b18 c18 d18 a19 b19 c19 d19 a20 b20 c20 d20 a21 b21 c21 d21 a22 b22 c22 d22 a23 b23 c23 d23 a24 b24 c24 d24 a25 b25 c25 d25 a26 b26 c26 d26 a27 b27 c27 d27 a28 b28 c28 d28 a29 b29 c29 d29 a30 b30 c30 d30 a32 b32 c32 d32 a33 b33 c33 d33 a34 b34 c34 d34 a35 b35 c35 d35 a36 b36 c36 d36 a37 b37 c37 d37 a38 b38 c38 d38 a39 b39 c39 d39 a40 b40 c40 d40 a41 b41 c41 d41 a42 b42 c42 d42 a43 b43 c43 d43 a44 b44 c44 d44 a45 b45 c45 d45 a46 b46 c46 d46 a47 b47 c47 d47 a48 b48 c48 d48 a49 b49 c49 d49 a50 b50 c50 d50 a51 b51 c51 d51 a52 b52 c52 d52 a53 b53 c53 d53 a54 b54 c54 d54 a55 b55 c55 d55 a56 b56 c56 d56 a57 b57 c57 d57 a58 b58 c58 d58 a59 b59 c59 d59 x0l x0u x1l x1u x2l x2u x3l x3u; omega,
      by clear a4 b4 c4 d4 a5 b5 c5 d5 a6 b6 c6 d6 a7 b7 c7 d7 a8 b8 c8 d8 a9 b9 c9 d9 a10 b10 c10 d10 a11 b11 c11 d11 a12 b12 c12 d12 a13 b13 c13 d13 a14 b14 c14 d14 a15 b15 c15 d15 a16 b16 c16 d16 a17 b17 c17 d17 a18 b18 c18 d18 a19 b19 c19 d19 a20 b20 c20 d20 a21 b21 c21 d21 a22 b22 c22 d22 a23 b23 c23 d23 a24 b24 c24 d24 a25 b25 c25 d25 a26 b26 c26 d26 a27 b27 c27 d27 a28 b28 c28 d28 a29 b29 c29 d29 a30 b30 c30 d30 a31 b31 c31 d31 a33 b33 c33 d33 a34 b34 c34 d34 a35 b35 c35 d35 a36 b36 c36 d36 a37 b37 c37 d37 a38 b38 c38 d38 a39 b39 c39 d39 a40 b40 c40 d40 a41 b41 c41 d41 a42 b42 c42 d42 a43 b43 c43 d43 a44 b44 c44 d44 a45 b45 c45 d45 a46 b46 c46 d46 a47 b47 c47 d47 a48 b48 c48 d48 a49 b49 c49 d49 a50 b50 c50 d50 a51 b51 c51 d51 a52 b52 c52 d52 a53 b53 c53 d53 a54 b54 c54 d54 a55 b55 c55 d55 a56 b56 c56 d56 a57 b57 c57 d57 a58 b58 c58 d58 a59 b59 c59 d59 x0l x0u x1l x1u x2l x2u x3l x3u; omega,
      by clear a4 b4 c4 d4 a5 b5 c5 d5 a6 b6 c6 d6 a7 b7 c7 d7 a8 b8 c8 d8 a9 b9 c9 d9 a10 b10 c10 d10 a11 b11 c11 d11 a12 b12 c12 d12 a13 b13 c13 d13 a14 b14 c14 d14 a15 b15 c15 d15 a16 b16 c16 d16 a17 b17 c17 d17 a18 b18 c18 d18 a19 b19 c19 d19 a20 b20 c20 d20 a21 b21 c21 d21 a22 b22 c22 d22 a23 b23 c23 d23 a24 b24 c24 d24 a25 b25 c25 d25 a26 b26 c26 d26 a27 b27 c27 d27 a28 b28 c28 d28 a29 b29 c29 d29 a30 b30 c30 d30 a31 b31 c31 d31 a33 b33 c33 d33 a34 b34 c34 d34 a35 b35 c35 d35 a36 b36 c36 d36 a37 b37 c37 d37 a38 b38 c38 d38 a39 b39 c39 d39 a40 b40 c40 d40 a41 b41 c41 d41 a42 b42 c42 d42 a43 b43 c43 d43 a44 b44 c44 d44 a45 b45 c45 d45 a46 b46 c46 d46 a47 b47 c47 d47 a48 b48 c48 d48 a49 b49 c49 d49 a50 b50 c50 d50 a51 b51 c51 d51 a52 b52 c52 d52 a53 b53 c53 d53 a54 b54 c54 d54 a55 b55 c55 d55 a56 b56 c56 d56 a57 b57 c57 d57 a58 b58 c58 d58 a59 b59 c59 d59 x0l x0u x1l x1u x2l x2u x3l x3u; omega,
      by clear a4 b4 c4 d4 a5 b5 c5 d5 a6 b6 c6 d6 a7 b7 c7 d7 a8 b8 c8 d8 a9 b9 c9 d9 a10 b10 c10 d10 a11 b11 c11 d11 a12 b12 c12 d12 a13 b13 c13 d13 a14 b14 c14 d14 a15 b15 c15 d15 a16 b16 c16 d16 a17 b17 c17 d17 a18 b18 c18 d18 a19 b19 c19 d19 a20 b20 c20 d20 a21 b21 c21 d21 a22 b22 c22 d22 a23 b23 c23 d23 a24 b24 c24 d24 a25 b25 c25 d25 a26 b26 c26 d26 a27 b27 c27 d27 a28 b28 c28 d28 a29 b29 c29 d29 a30 b30 c30 d30 a31 b31 c31 d31 a32 b32 c32 d32 a35 b35 c35 d35 a36 b36 c36 d36 a37 b37 c37 d37 a38 b38 c38 d38 a39 b39 c39 d39 a40 b40 c40 d40 a41 b41 c41 d41 a42 b42 c42 d42 a43 b43 c43 d43 a44 b44 c44 d44 a45 b45 c45 d45 a46 b46 c46 d46 a47 b47 c47 d47 a48 b48 c48 d48 a49 b49 c49 d49 a50 b50 c50 d50 a51 b51 c51 d51 a52 b52 c52 d52 a53 b53 c53 d53 a54 b54 c54 d54 a55 b55 c55 d55 a56 b56 c56 d56 a57 b57 c57 d57 a58 b58 c58 d58 a59 b59 c59 d59 x0l x0u x1l x1u x2l x2u x3l x3u; omega,
      by clear a4 b4 c4 d4 a5 b5 c5 d5 a6 b6 c6 d6 a7 b7 c7 d7 a8 b8 c8 d8 a9 b9 c9 d9 a10 b10 c10 d10 a11 b11 c11 d11 a12 b12 c12 d12 a13 b13 c13 d13 a14 b14 c14 d14 a15 b15 c15 d15 a16 b16 c16 d16 a17 b17 c17 d17 a18 b18 c18 d18 a19 b19 c19 d19 a20 b20 c20 d20 a21 b21 c21 d21 a22 b22 c22 d22 a23 b23 c23 d23 a24 b24 c24 d24 a25 b25 c25 d25 a26 b26 c26 d26 a27 b27 c27 d27 a28 b28 c28 d28 a29 b29 c29 d29 a30 b30 c30 d30 a31 b31 c31 d31 a32 b32 c32 d32 a35 b35 c35 d35 a36 b36 c36 d36 a37 b37 c37 d37 a38 b38 c38 d38 a39 b39 c39 d39 a40 b40 c40 d40 a41 b41 c41 d41 a42 b42 c42 d42 a43 b43 c43 d43 a44 b44 c44 d44 a45 b45 c45 d45 a46 b46 c46 d46 a47 b47 c47 d47 a48 b48 c48 d48 a49 b49 c49 d49 a50 b50 c50 d50 a51 b51 c51 d51 a52 b52 c52 d52 a53 b53 c53 d53 a54 b54 c54 d54 a55 b55 c55 d55 a56 b56 c56 d56 a57 b57 c57 d57 a58 b58 c58 d58 a59 b59 c59 d59 x0l x0u x1l x1u x2l x2u x3l x3u; omega,
      by clear a4 b4 c4 d4 a5 b5 c5 d5 a6 b6 c6 d6 a7 b7 c7 d7 a8 b8 c8 d8 a9 b9 c9 d9 a10 b10 c10 d10 a11 b11 c11 d11 a12 b12 c12 d12 a13 b13 c13 d13 a14 b14 c14 d14 a15 b15 c15 d15 a16 b16 c16 d16 a17 b17 c17 d17 a18 b18 c18 d18 a19 b19 c19 d19 a20 b20 c20 d20 a21 b21 c21 d21 a22 b22 c22 d22 a23 b23 c23 d23 a24 b24 c24 d24 a25 b25 c25 d25 a26 b26 c26 d26 a27 b27 c27 d27 a28 b28 c28 d28 a29 b29 c29 d29 a30 b30 c30 d30 a31 b31 c31 d31 a32 b32 c32 d32 a33 b33 c33 d33 a34 b34 c34 d34 a37 b37 c37 d37 a38 b38 c38 d38 a39 b39 c39 d39 a40 b40 c40 d40 a41 b41 c41 d41 a42 b42 c42 d42 a43 b43 c43 d43 a44 b44 c44 d44 a45 b45 c45 d45 a46 b46 c46 d46 a47 b47 c47 d47 a48 b48 c48 d48 a49 b49 c49 d49 a50 b50 c50 d50 a51 b51 c51 d51 a52 b52 c52 d52 a53 b53 c53 d53 a54 b54 c54 d54 a55 b55 c55 d55 a56 b56 c56 d56 a57 b57 c57 d57 a58 b58 c58 d58 a59 b59 c59 d59 x0l x0u x1l x1u x2l x2u x3l x3u; omega,
      by clear a4 b4 c4 d4 a5 b5 c5 d5 a6 b6 c6 d6 a7 b7 c7 d7 a8 b8 c8 d8 a9 b9 c9 d9 a10 b10 c10 d10 a11 b11 c11 d11 a12 b12 c12 d12 a13 b13 c13 d13 a14 b14 c14 d14 a15 b15 c15 d15 a16 b16 c16 d16 a17 b17 c17 d17 a18 b18 c18 d18 a19 b19 c19 d19 a20 b20 c20 d20 a21 b21 c21 d21 a22 b22 c22 d22 a23 b23 c23 d23 a24 b24 c24 d24 a25 b25 c25 d25 a26 b26 c26 d26 a27 b27 c27 d27 a28 b28 c28 d28 a29 b29 c29 d29 a30 b30 c30 d30 a31 b31 c31 d31 a32 b32 c32 d32 a33 b33 c33 d33 a34 b34 c34 d34 a37 b37 c37 d37 a38 b38 c38 d38 a39 b39 c39 d39 a40 b40 c40 d40 a41 b41 c41 d41 a42 b42 c42 d42 a43 b43 c43 d43 a44 b44 c44 d44 a45 b45 c45 d45 a46 b46 c46 d46 a47 b47 c47 d47 a48 b48 c48 d48 a49 b49 c49 d49 a50 b50 c50 d50 a51 b51 c51 d51 a52 b52 c52 d52 a53 b53 c53 d53 a54 b54 c54 d54 a55 b55 c55 d55 a56 b56 c56 d56 a57 b57 c57 d57 a58 b58 c58 d58 a59 b59 c59 d59 x0l x0u x1l x1u x2l x2u x3l x3u; omega,
      by clear a4 b4 c4 d4 a5 b5 c5 d5 a6 b6 c6 d6 a7 b7 c7 d7 a8 b8 c8 d8 a9 b9 c9 d9 a10 b10 c10 d10 a11 b11 c11 d11 a12 b12 c12 d12 a13 b13 c13 d13 a14 b14 c14 d14 a15 b15 c15 d15 a16 b16 c16 d16 a17 b17 c17 d17 a18 b18 c18 d18 a19 b19 c19 d19 a20 b20 c20 d20 a21 b21 c21 d21 a22 b22 c22 d22 a23 b23 c23 d23 a24 b24 c24 d24 a25 b25 c25 d25 a26 b26 c26 d26 a27 b27 c27 d27 a28 b28 c28 d28 a29 b29 c29 d29 a30 b30 c30 d30 a31 b31 c31 d31 a32 b32 c32 d32 a33 b33 c33 d33 a34 b34 c34 d34 a35 b35 c35 d35 a36 b36 c36 d36 a39 b39 c39 d39 a40 b40 c40 d40 a41 b41 c41 d41 a42 b42 c42 d42 a43 b43 c43 d43 a44 b44 c44 d44 a45 b45 c45 d45 a46 b46 c46 d46 a47 b47 c47 d47 a48 b48 c48 d48 a49 b49 c49 d49 a50 b50 c50 d50 a51 b51 c51 d51 a52 b52 c52 d52 a53 b53 c53 d53 a54 b54 c54 d54 a55 b55 c55 d55 a56 b56 c56 d56 a57 b57 c57 d57 a58 b58 c58 d58 a59 b59 c59 d59 x0l x0u x1l x1u x2l x2u x3l x3u; omega,
      by clear a4 b4 c4 d4 a5 b5 c5 d5 a6 b6 c6 d6 a7 b7 c7 d7 a8 b8 c8 d8 a9 b9 c9 d9 a10 b10 c10 d10 a11 b11 c11 d11 a12 b12 c12 d12 a13 b13 c13 d13 a14 b14 c14 d14 a15 b15 c15 d15 a16 b16 c16 d16 a17 b17 c17 d17 a18 b18 c18 d18 a19 b19 c19 d19 a20 b20 c20 d20 a21 b21 c21 d21 a22 b22 c22 d22 a23 b23 c23 d23 a24 b24 c24 d24 a25 b25 c25 d25 a26 b26 c26 d26 a27 b27 c27 d27 a28 b28 c28 d28 a29 b29 c29 d29 a30 b30 c30 d30 a31 b31 c31 d31 a32 b32 c32 d32 a33 b33 c33 d33 a34 b34 c34 d34 a35 b35 c35 d35 a36 b36 c36 d36 a39 b39 c39 d39 a40 b40 c40 d40 a41 b41 c41 d41 a42 b42 c42 d42 a43 b43 c43 d43 a44 b44 c44 d44 a45 b45 c45 d45 a46 b46 c46 d46 a47 b47 c47 d47 a48 b48 c48 d48 a49 b49 c49 d49 a50 b50 c50 d50 a51 b51 c51 d51 a52 b52 c52 d52 a53 b53 c53 d53 a54 b54 c54 d54 a55 b55 c55 d55 a56 b56 c56 d56 a57 b57 c57 d57 a58 b58 c58 d58 a59 b59 c59 d59 x0l x0u x1l x1u x2l x2u x3l x3u; omega,
      by clear a4 b4 c4 d4 a5 b5 c5 d5 a6 b6 c6 d6 a7 b7 c7 d7 a8 b8 c8 d8 a9 b9 c9 d9 a10 b10 c10 d10 a11 b11 c11 d11 a12 b12 c12 d12 a13 b13 c13 d13 a14 b14 c14 d14 a15 b15 c15 d15 a16 b16 c16 d16 a17 b17 c17 d17 a18 b18 c18 d18 a19 b19 c19 d19 a20 b20 c20 d20 a21 b21 c21 d21 a22 b22 c22 d22 a23 b23 c23 d23 a24 b24 c24 d24 a25 b25 c25 d25 a26 b26 c26 d26 a27 b27 c27 d27 a28 b28 c28 d28 a29 b29 c29 d29 a30 b30 c30 d30 a31 b31 c31 d31 a32 b32 c32 d32 a33 b33 c33 d33 a34 b34 c34 d34 a35 b35 c35 d35 a36 b36 c36 d36 a37 b37 c37 d37 a38 b38 c38 d38 a41 b41 c41 d41 a42 b42 c42 d42 a43 b43 c43 d43 a44 b44 c44 d44 a45 b45 c45 d45 a46 b46 c46 d46 a47 b47 c47 d47 a48 b48 c48 d48 a49 b49 c49 d49 a50 b50 c50 d50 a51 b51 c51 d51 a52 b52 c52 d52 a53 b53 c53 d53 a54 b54 c54 d54 a55 b55 c55 d55 a56 b56 c56 d56 a57 b57 c57 d57 a58 b58 c58 d58 a59 b59 c59 d59 x0l x0u x1l x1u x2l x2u x3l x3u; omega,
      by clear a4 b4 c4 d4 a5 b5 c5 d5 a6 b6 c6 d6 a7 b7 c7 d7 a8 b8 c8 d8 a9 b9 c9 d9 a10 b10 c10 d10 a11 b11 c11 d11 a12 b12 c12 d12 a13 b13 c13 d13 a14 b14 c14 d14 a15 b15 c15 d15 a16 b16 c16 d16 a17 b17 c17 d17 a18 b18 c18 d18 a19 b19 c19 d19 a20 b20 c20 d20 a21 b21 c21 d21 a22 b22 c22 d22 a23 b23 c23 d23 a24 b24 c24 d24 a25 b25 c25 d25 a26 b26 c26 d26 a27 b27 c27 d27 a28 b28 c28 d28 a29 b29 c29 d29 a30 b30 c30 d30 a31 b31 c31 d31 a32 b32 c32 d32 a33 b33 c33 d33 a34 b34 c34 d34 a35 b35 c35 d35 a36 b36 c36 d36 a37 b37 c37 d37 a38 b38 c38 d38 a41 b41 c41 d41 a42 b42 c42 d42 a43 b43 c43 d43 a44 b44 c44 d44 a45 b45 c45 d45 a46 b46 c46 d46 a47 b47 c47 d47 a48 b48 c48 d48 a49 b49 c49 d49 a50 b50 c50 d50 a51 b51 c51 d51 a52 b52 c52 d52 a53 b53 c53 d53 a54 b54 c54 d54 a55 b55 c55 d55 a56 b56 c56 d56 a57 b57 c57 d57 a58 b58 c58 d58 a59 b59 c59 d59 x0l x0u x1l x1u x2l x2u x3l x3u; omega,
      by clear a4 b4 c4 d4 a5 b5 c5 d5 a6 b6 c6 d6 a7 b7 c7 d7 a8 b8 c8 d8 a9 b9 c9 d9 a10 b10 c10 d10 a11 b11 c11 d11 a12 b12 c12 d12 a13 b13 c13 d13 a14 b14 c14 d14 a15 b15 c15 d15 a16 b16 c16 d16 a17 b17 c17 d17 a18 b18 c18 d18 a19 b19 c19 d19 a20 b20 c20 d20 a21 b21 c21 d21 a22 b22 c22 d22 a23 b23 c23 d23 a24 b24 c24 d24 a25 b25 c25 d25 a26 b26 c26 d26 a27 b27 c27 d27 a28 b28 c28 d28 a29 b29 c29 d29 a30 b30 c30 d30 a31 b31 c31 d31 a32 b32 c32 d32 a33 b33 c33 d33 a34 b34 c34 d34 a35 b35 c35 d35 a36 b36 c36 d36 a37 b37 c37 d37 a38 b38 c38 d38 a39 b39 c39 d39 a40 b40 c40 d40 a43 b43 c43 d43 a44 b44 c44 d44 a45 b45 c45 d45 a46 b46 c46 d46 a47 b47 c47 d47 a48 b48 c48 d48 a49 b49 c49 d49 a50 b50 c50 d50 a51 b51 c51 d51 a52 b52 c52 d52 a53 b53 c53 d53 a54 b54 c54 d54 a55 b55 c55 d55 a56 b56 c56 d56 a57 b57 c57 d57 a58 b58 c58 d58 a59 b59 c59 d59 x0l x0u x1l x1u x2l x2u x3l x3u; omega,
      by clear a4 b4 c4 d4 a5 b5 c5 d5 a6 b6 c6 d6 a7 b7 c7 d7 a8 b8 c8 d8 a9 b9 c9 d9 a10 b10 c10 d10 a11 b11 c11 d11 a12 b12 c12 d12 a13 b13 c13 d13 a14 b14 c14 d14 a15 b15 c15 d15 a16 b16 c16 d16 a17 b17 c17 d17 a18 b18 c18 d18 a19 b19 c19 d19 a20 b20 c20 d20 a21 b21 c21 d21 a22 b22 c22 d22 a23 b23 c23 d23 a24 b24 c24 d24 a25 b25 c25 d25 a26 b26 c26 d26 a27 b27 c27 d27 a28 b28 c28 d28 a29 b29 c29 d29 a30 b30 c30 d30 a31 b31 c31 d31 a32 b32 c32 d32 a33 b33 c33 d33 a34 b34 c34 d34 a35 b35 c35 d35 a36 b36 c36 d36 a37 b37 c37 d37 a38 b38 c38 d38 a39 b39 c39 d39 a40 b40 c40 d40 a43 b43 c43 d43 a44 b44 c44 d44 a45 b45 c45 d45 a46 b46 c46 d46 a47 b47 c47 d47 a48 b48 c48 d48 a49 b49 c49 d49 a50 b50 c50 d50 a51 b51 c51 d51 a52 b52 c52 d52 a53 b53 c53 d53 a54 b54 c54 d54 a55 b55 c55 d55 a56 b56 c56 d56 a57 b57 c57 d57 a58 b58 c58 d58 a59 b59 c59 d59 x0l x0u x1l x1u x2l x2u x3l x3u; omega,
      by clear a4 b4 c4 d4 a5 b5 c5 d5 a6 b6 c6 d6 a7 b7 c7 d7 a8 b8 c8 d8 a9 b9 c9 d9 a10 b10 c10 d10 a11 b11 c11 d11 a12 b12 c12 d12 a13 b13 c13 d13 a14 b14 c14 d14 a15 b15 c15 d15 a16 b16 c16 d16 a17 b17 c17 d17 a18 b18 c18 d18 a19 b19 c19 d19 a20 b20 c20 d20 a21 b21 c21 d21 a22 b22 c22 d22 a23 b23 c23 d23 a24 b24 c24 d24 a25 b25 c25 d25 a26 b26 c26 d26 a27 b27 c27 d27 a28 b28 c28 d28 a29 b29 c29 d29 a30 b30 c30 d30 a31 b31 c31 d31 a32 b32 c32 d32 a33 b33 c33 d33 a34 b34 c34 d34 a35 b35 c35 d35 a36 b36 c36 d36 a37 b37 c37 d37 a38 b38 c38 d38 a39 b39 c39 d39 a40 b40 c40 d40 a41 b41 c41 d41 a42 b42 c42 d42 a45 b45 c45 d45 a46 b46 c46 d46 a47 b47 c47 d47 a48 b48 c48 d48 a49 b49 c49 d49 a50 b50 c50 d50 a51 b51 c51 d51 a52 b52 c52 d52 a53 b53 c53 d53 a54 b54 c54 d54 a55 b55 c55 d55 a56 b56 c56 d56 a57 b57 c57 d57 a58 b58 c58 d58 a59 b59 c59 d59 x0l x0u x1l x1u x2l x2u x3l x3u; omega,
      by clear a4 b4 c4 d4 a5 b5 c5 d5 a6 b6 c6 d6 a7 b7 c7 d7 a8 b8 c8 d8 a9 b9 c9 d9 a10 b10 c10 d10 a11 b11 c11 d11 a12 b12 c12 d12 a13 b13 c13 d13 a14 b14 c14 d14 a15 b15 c15 d15 a16 b16 c16 d16 a17 b17 c17 d17 a18 b18 c18 d18 a19 b19 c19 d19 a20 b20 c20 d20 a21 b21 c21 d21 a22 b22 c22 d22 a23 b23 c23 d23 a24 b24 c24 d24 a25 b25 c25 d25 a26 b26 c26 d26 a27 b27 c27 d27 a28 b28 c28 d28 a29 b29 c29 d29 a30 b30 c30 d30 a31 b31 c31 d31 a32 b32 c32 d32 a33 b33 c33 d33 a34 b34 c34 d34 a35 b35 c35 d35 a36 b36 c36 d36 a37 b37 c37 d37 a38 b38 c38 d38 a39 b39 c39 d39 a40 b40 c40 d40 a41 b41 c41 d41 a42 b42 c42 d42 a45 b45 c45 d45 a46 b46 c46 d46 a47 b47 c47 d47 a48 b48 c48 d48 a49 b49 c49 d49 a50 b50 c50 d50 a51 b51 c51 d51 a52 b52 c52 d52 a53 b53 c53 d53 a54 b54 c54 d54 a55 b55 c55 d55 a56 b56 c56 d56 a57 b57 c57 d57 a58 b58 c58 d58 a59 b59 c59 d59 x0l x0u x1l x1u x2l x2u x3l x3u; omega,
      by clear a4 b4 c4 d4 a5 b5 c5 d5 a6 b6 c6 d6 a7 b7 c7 d7 a8 b8 c8 d8 a9 b9 c9 d9 a10 b10 c10 d10 a11 b11 c11 d11 a12 b12 c12 d12 a13 b13 c13 d13 a14 b14 c14 d14 a15 b15 c15 d15 a16 b16 c16 d16 a17 b17 c17 d17 a18 b18 c18 d18 a19 b19 c19 d19 a20 b20 c20 d20 a21 b21 c21 d21 a22 b22 c22 d22 a23 b23 c23 d23 a24 b24 c24 d24 a25 b25 c25 d25 a26 b26 c26 d26 a27 b27 c27 d27 a28 b28 c28 d28 a29 b29 c29 d29 a30 b30 c30 d30 a31 b31 c31 d31 a32 b32 c32 d32 a33 b33 c33 d33 a34 b34 c34 d34 a35 b35 c35 d35 a36 b36 c36 d36 a37 b37 c37 d37 a38 b38 c38 d38 a39 b39 c39 d39 a40 b40 c40 d40 a41 b41 c41 d41 a42 b42 c42 d42 a43 b43 c43 d43 a44 b44 c44 d44 a46 b46 c46 d46 a47 b47 c47 d47 a48 b48 c48 d48 a49 b49 c49 d49 a50 b50 c50 d50 a51 b51 c51 d51 a52 b52 c52 d52 a53 b53 c53 d53 a54 b54 c54 d54 a55 b55 c55 d55 a56 b56 c56 d56 a57 b57 c57 d57 a58 b58 c58 d58 a59 b59 c59 d59 x0l x0u x1l x1u x2l x2u x3l x3u; omega,
      by clear a4 b4 c4 d4 a5 b5 c5 d5 a6 b6 c6 d6 a7 b7 c7 d7 a8 b8 c8 d8 a9 b9 c9 d9 a10 b10 c10 d10 a11 b11 c11 d11 a12 b12 c12 d12 a13 b13 c13 d13 a14 b14 c14 d14 a15 b15 c15 d15 a16 b16 c16 d16 a17 b17 c17 d17 a18 b18 c18 d18 a19 b19 c19 d19 a20 b20 c20 d20 a21 b21 c21 d21 a22 b22 c22 d22 a23 b23 c23 d23 a24 b24 c24 d24 a25 b25 c25 d25 a26 b26 c26 d26 a27 b27 c27 d27 a28 b28 c28 d28 a29 b29 c29 d29 a30 b30 c30 d30 a31 b31 c31 d31 a32 b32 c32 d32 a33 b33 c33 d33 a34 b34 c34 d34 a35 b35 c35 d35 a36 b36 c36 d36 a37 b37 c37 d37 a38 b38 c38 d38 a39 b39 c39 d39 a40 b40 c40 d40 a41 b41 c41 d41 a42 b42 c42 d42 a43 b43 c43 d43 a44 b44 c44 d44 a46 b46 c46 d46 a47 b47 c47 d47 a48 b48 c48 d48 a49 b49 c49 d49 a50 b50 c50 d50 a51 b51 c51 d51 a52 b52 c52 d52 a53 b53 c53 d53 a54 b54 c54 d54 a55 b55 c55 d55 a56 b56 c56 d56 a57 b57 c57 d57 a58 b58 c58 d58 a59 b59 c59 d59 x0l x0u x1l x1u x2l x2u x3l x3u; omega,
      by clear a4 b4 c4 d4 a5 b5 c5 d5 a6 b6 c6 d6 a7 b7 c7 d7 a8 b8 c8 d8 a9 b9 c9 d9 a10 b10 c10 d10 a11 b11 c11 d11 a12 b12 c12 d12 a13 b13 c13 d13 a14 b14 c14 d14 a15 b15 c15 d15 a16 b16 c16 d16 a17 b17 c17 d17 a18 b18 c18 d18 a19 b19 c19 d19 a20 b20 c20 d20 a21 b21 c21 d21 a22 b22 c22 d22 a23 b23 c23 d23 a24 b24 c24 d24 a25 b25 c25 d25 a26 b26 c26 d26 a27 b27 c27 d27 a28 b28 c28 d28 a29 b29 c29 d29 a30 b30 c30 d30 a31 b31 c31 d31 a32 b32 c32 d32 a33 b33 c33 d33 a34 b34 c34 d34 a35 b35 c35 d35 a36 b36 c36 d36 a37 b37 c37 d37 a38 b38 c38 d38 a39 b39 c39 d39 a40 b40 c40 d40 a41 b41 c41 d41 a42 b42 c42 d42 a43 b43 c43 d43 a44 b44 c44 d44 a45 b45 c45 d45 a47 b47 c47 d47 a48 b48 c48 d48 a49 b49 c49 d49 a50 b50 c50 d50 a51 b51 c51 d51 a52 b52 c52 d52 a53 b53 c53 d53 a54 b54 c54 d54 a55 b55 c55 d55 a56 b56 c56 d56 a57 b57 c57 d57 a58 b58 c58 d58 a59 b59 c59 d59 x0l x0u x1l x1u x2l x2u x3l x3u; omega,
      by clear a4 b4 c4 d4 a5 b5 c5 d5 a6 b6 c6 d6 a7 b7 c7 d7 a8 b8 c8 d8 a9 b9 c9 d9 a10 b10 c10 d10 a11 b11 c11 d11 a12 b12 c12 d12 a13 b13 c13 d13 a14 b14 c14 d14 a15 b15 c15 d15 a16 b16 c16 d16 a17 b17 c17 d17 a18 b18 c18 d18 a19 b19 c19 d19 a20 b20 c20 d20 a21 b21 c21 d21 a22 b22 c22 d22 a23 b23 c23 d23 a24 b24 c24 d24 a25 b25 c25 d25 a26 b26 c26 d26 a27 b27 c27 d27 a28 b28 c28 d28 a29 b29 c29 d29 a30 b30 c30 d30 a31 b31 c31 d31 a32 b32 c32 d32 a33 b33 c33 d33 a34 b34 c34 d34 a35 b35 c35 d35 a36 b36 c36 d36 a37 b37 c37 d37 a38 b38 c38 d38 a39 b39 c39 d39 a40 b40 c40 d40 a41 b41 c41 d41 a42 b42 c42 d42 a43 b43 c43 d43 a44 b44 c44 d44 a45 b45 c45 d45 a47 b47 c47 d47 a48 b48 c48 d48 a49 b49 c49 d49 a50 b50 c50 d50 a51 b51 c51 d51 a52 b52 c52 d52 a53 b53 c53 d53 a54 b54 c54 d54 a55 b55 c55 d55 a56 b56 c56 d56 a57 b57 c57 d57 a58 b58 c58 d58 a59 b59 c59 d59 x0l x0u x1l x1u x2l x2u x3l x3u; omega,
      by clear a4 b4 c4 d4 a5 b5 c5 d5 a6 b6 c6 d6 a7 b7 c7 d7 a8 b8 c8 d8 a9 b9 c9 d9 a10 b10 c10 d10 a11 b11 c11 d11 a12 b12 c12 d12 a13 b13 c13 d13 a14 b14 c14 d14 a15 b15 c15 d15 a16 b16 c16 d16 a17 b17 c17 d17 a18 b18 c18 d18 a19 b19 c19 d19 a20 b20 c20 d20 a21 b21 c21 d21 a22 b22 c22 d22 a23 b23 c23 d23 a24 b24 c24 d24 a25 b25 c25 d25 a26 b26 c26 d26 a27 b27 c27 d27 a28 b28 c28 d28 a29 b29 c29 d29 a30 b30 c30 d30 a31 b31 c31 d31 a32 b32 c32 d32 a33 b33 c33 d33 a34 b34 c34 d34 a35 b35 c35 d35 a36 b36 c36 d36 a37 b37 c37 d37 a38 b38 c38 d38 a39 b39 c39 d39 a40 b40 c40 d40 a41 b41 c41 d41 a42 b42 c42 d42 a43 b43 c43 d43 a44 b44 c44 d44 a45 b45 c45 d45 a46 b46 c46 d46 a49 b49 c49 d49 a50 b50 c50 d50 a51 b51 c51 d51 a52 b52 c52 d52 a53 b53 c53 d53 a54 b54 c54 d54 a55 b55 c55 d55 a56 b56 c56 d56 a57 b57 c57 d57 a58 b58 c58 d58 a59 b59 c59 d59 x0l x0u x1l x1u x2l x2u x3l x3u; omega,
      by clear a4 b4 c4 d4 a5 b5 c5 d5 a6 b6 c6 d6 a7 b7 c7 d7 a8 b8 c8 d8 a9 b9 c9 d9 a10 b10 c10 d10 a11 b11 c11 d11 a12 b12 c12 d12 a13 b13 c13 d13 a14 b14 c14 d14 a15 b15 c15 d15 a16 b16 c16 d16 a17 b17 c17 d17 a18 b18 c18 d18 a19 b19 c19 d19 a20 b20 c20 d20 a21 b21 c21 d21 a22 b22 c22 d22 a23 b23 c23 d23 a24 b24 c24 d24 a25 b25 c25 d25 a26 b26 c26 d26 a27 b27 c27 d27 a28 b28 c28 d28 a29 b29 c29 d29 a30 b30 c30 d30 a31 b31 c31 d31 a32 b32 c32 d32 a33 b33 c33 d33 a34 b34 c34 d34 a35 b35 c35 d35 a36 b36 c36 d36 a37 b37 c37 d37 a38 b38 c38 d38 a39 b39 c39 d39 a40 b40 c40 d40 a41 b41 c41 d41 a42 b42 c42 d42 a43 b43 c43 d43 a44 b44 c44 d44 a45 b45 c45 d45 a46 b46 c46 d46 a49 b49 c49 d49 a50 b50 c50 d50 a51 b51 c51 d51 a52 b52 c52 d52 a53 b53 c53 d53 a54 b54 c54 d54 a55 b55 c55 d55 a56 b56 c56 d56 a57 b57 c57 d57 a58 b58 c58 d58 a59 b59 c59 d59 x0l x0u x1l x1u x2l x2u x3l x3u; omega,
      by clear a4 b4 c4 d4 a5 b5 c5 d5 a6 b6 c6 d6 a7 b7 c7 d7 a8 b8 c8 d8 a9 b9 c9 d9 a10 b10 c10 d10 a11 b11 c11 d11 a12 b12 c12 d12 a13 b13 c13 d13 a14 b14 c14 d14 a15 b15 c15 d15 a16 b16 c16 d16 a17 b17 c17 d17 a18 b18 c18 d18 a19 b19 c19 d19 a20 b20 c20 d20 a21 b21 c21 d21 a22 b22 c22 d22 a23 b23 c23 d23 a24 b24 c24 d24 a25 b25 c25 d25 a26 b26 c26 d26 a27 b27 c27 d27 a28 b28 c28 d28 a29 b29 c29 d29 a30 b30 c30 d30 a31 b31 c31 d31 a32 b32 c32 d32 a33 b33 c33 d33 a34 b34 c34 d34 a35 b35 c35 d35 a36 b36 c36 d36 a37 b37 c37 d37 a38 b38 c38 d38 a39 b39 c39 d39 a40 b40 c40 d40 a41 b41 c41 d41 a42 b42 c42 d42 a43 b43 c43 d43 a44 b44 c44 d44 a45 b45 c45 d45 a46 b46 c46 d46 a47 b47 c47 d47 a48 b48 c48 d48 a51 b51 c51 d51 a52 b52 c52 d52 a53 b53 c53 d53 a54 b54 c54 d54 a55 b55 c55 d55 a56 b56 c56 d56 a57 b57 c57 d57 a58 b58 c58 d58 a59 b59 c59 d59 x0l x0u x1l x1u x2l x2u x3l x3u; omega,
      by clear a4 b4 c4 d4 a5 b5 c5 d5 a6 b6 c6 d6 a7 b7 c7 d7 a8 b8 c8 d8 a9 b9 c9 d9 a10 b10 c10 d10 a11 b11 c11 d11 a12 b12 c12 d12 a13 b13 c13 d13 a14 b14 c14 d14 a15 b15 c15 d15 a16 b16 c16 d16 a17 b17 c17 d17 a18 b18 c18 d18 a19 b19 c19 d19 a20 b20 c20 d20 a21 b21 c21 d21 a22 b22 c22 d22 a23 b23 c23 d23 a24 b24 c24 d24 a25 b25 c25 d25 a26 b26 c26 d26 a27 b27 c27 d27 a28 b28 c28 d28 a29 b29 c29 d29 a30 b30 c30 d30 a31 b31 c31 d31 a32 b32 c32 d32 a33 b33 c33 d33 a34 b34 c34 d34 a35 b35 c35 d35 a36 b36 c36 d36 a37 b37 c37 d37 a38 b38 c38 d38 a39 b39 c39 d39 a40 b40 c40 d40 a41 b41 c41 d41 a42 b42 c42 d42 a43 b43 c43 d43 a44 b44 c44 d44 a45 b45 c45 d45 a46 b46 c46 d46 a47 b47 c47 d47 a48 b48 c48 d48 a51 b51 c51 d51 a52 b52 c52 d52 a53 b53 c53 d53 a54 b54 c54 d54 a55 b55 c55 d55 a56 b56 c56 d56 a57 b57 c57 d57 a58 b58 c58 d58 a59 b59 c59 d59 x0l x0u x1l x1u x2l x2u x3l x3u; omega,
      by clear a4 b4 c4 d4 a5 b5 c5 d5 a6 b6 c6 d6 a7 b7 c7 d7 a8 b8 c8 d8 a9 b9 c9 d9 a10 b10 c10 d10 a11 b11 c11 d11 a12 b12 c12 d12 a13 b13 c13 d13 a14 b14 c14 d14 a15 b15 c15 d15 a16 b16 c16 d16 a17 b17 c17 d17 a18 b18 c18 d18 a19 b19 c19 d19 a20 b20 c20 d20 a21 b21 c21 d21 a22 b22 c22 d22 a23 b23 c23 d23 a24 b24 c24 d24 a25 b25 c25 d25 a26 b26 c26 d26 a27 b27 c27 d27 a28 b28 c28 d28 a29 b29 c29 d29 a30 b30 c30 d30 a31 b31 c31 d31 a32 b32 c32 d32 a33 b33 c33 d33 a34 b34 c34 d34 a35 b35 c35 d35 a36 b36 c36 d36 a37 b37 c37 d37 a38 b38 c38 d38 a39 b39 c39 d39 a40 b40 c40 d40 a41 b41 c41 d41 a42 b42 c42 d42 a43 b43 c43 d43 a44 b44 c44 d44 a45 b45 c45 d45 a46 b46 c46 d46 a47 b47 c47 d47 a48 b48 c48 d48 a49 b49 c49 d49 a50 b50 c50 d50 a53 b53 c53 d53 a54 b54 c54 d54 a55 b55 c55 d55 a56 b56 c56 d56 a57 b57 c57 d57 a58 b58 c58 d58 a59 b59 c59 d59 x0l x0u x1l x1u x2l x2u x3l x3u; omega,
      by clear a4 b4 c4 d4 a5 b5 c5 d5 a6 b6 c6 d6 a7 b7 c7 d7 a8 b8 c8 d8 a9 b9 c9 d9 a10 b10 c10 d10 a11 b11 c11 d11 a12 b12 c12 d12 a13 b13 c13 d13 a14 b14 c14 d14 a15 b15 c15 d15 a16 b16 c16 d16 a17 b17 c17 d17 a18 b18 c18 d18 a19 b19 c19 d19 a20 b20 c20 d20 a21 b21 c21 d21 a22 b22 c22 d22 a23 b23 c23 d23 a24 b24 c24 d24 a25 b25 c25 d25 a26 b26 c26 d26 a27 b27 c27 d27 a28 b28 c28 d28 a29 b29 c29 d29 a30 b30 c30 d30 a31 b31 c31 d31 a32 b32 c32 d32 a33 b33 c33 d33 a34 b34 c34 d34 a35 b35 c35 d35 a36 b36 c36 d36 a37 b37 c37 d37 a38 b38 c38 d38 a39 b39 c39 d39 a40 b40 c40 d40 a41 b41 c41 d41 a42 b42 c42 d42 a43 b43 c43 d43 a44 b44 c44 d44 a45 b45 c45 d45 a46 b46 c46 d46 a47 b47 c47 d47 a48 b48 c48 d48 a49 b49 c49 d49 a50 b50 c50 d50 a53 b53 c53 d53 a54 b54 c54 d54 a55 b55 c55 d55 a56 b56 c56 d56 a57 b57 c57 d57 a58 b58 c58 d58 a59 b59 c59 d59 x0l x0u x1l x1u x2l x2u x3l x3u; omega,
      by clear a4 b4 c4 d4 a5 b5 c5 d5 a6 b6 c6 d6 a7 b7 c7 d7 a8 b8 c8 d8 a9 b9 c9 d9 a10 b10 c10 d10 a11 b11 c11 d11 a12 b12 c12 d12 a13 b13 c13 d13 a14 b14 c14 d14 a15 b15 c15 d15 a16 b16 c16 d16 a17 b17 c17 d17 a18 b18 c18 d18 a19 b19 c19 d19 a20 b20 c20 d20 a21 b21 c21 d21 a22 b22 c22 d22 a23 b23 c23 d23 a24 b24 c24 d24 a25 b25 c25 d25 a26 b26 c26 d26 a27 b27 c27 d27 a28 b28 c28 d28 a29 b29 c29 d29 a30 b30 c30 d30 a31 b31 c31 d31 a32 b32 c32 d32 a33 b33 c33 d33 a34 b34 c34 d34 a35 b35 c35 d35 a36 b36 c36 d36 a37 b37 c37 d37 a38 b38 c38 d38 a39 b39 c39 d39 a40 b40 c40 d40 a41 b41 c41 d41 a42 b42 c42 d42 a43 b43 c43 d43 a44 b44 c44 d44 a45 b45 c45 d45 a46 b46 c46 d46 a47 b47 c47 d47 a48 b48 c48 d48 a49 b49 c49 d49 a50 b50 c50 d50 a51 b51 c51 d51 a52 b52 c52 d52 a55 b55 c55 d55 a56 b56 c56 d56 a57 b57 c57 d57 a58 b58 c58 d58 a59 b59 c59 d59 x0l x0u x1l x1u x2l x2u x3l x3u; omega,
      by clear a4 b4 c4 d4 a5 b5 c5 d5 a6 b6 c6 d6 a7 b7 c7 d7 a8 b8 c8 d8 a9 b9 c9 d9 a10 b10 c10 d10 a11 b11 c11 d11 a12 b12 c12 d12 a13 b13 c13 d13 a14 b14 c14 d14 a15 b15 c15 d15 a16 b16 c16 d16 a17 b17 c17 d17 a18 b18 c18 d18 a19 b19 c19 d19 a20 b20 c20 d20 a21 b21 c21 d21 a22 b22 c22 d22 a23 b23 c23 d23 a24 b24 c24 d24 a25 b25 c25 d25 a26 b26 c26 d26 a27 b27 c27 d27 a28 b28 c28 d28 a29 b29 c29 d29 a30 b30 c30 d30 a31 b31 c31 d31 a32 b32 c32 d32 a33 b33 c33 d33 a34 b34 c34 d34 a35 b35 c35 d35 a36 b36 c36 d36 a37 b37 c37 d37 a38 b38 c38 d38 a39 b39 c39 d39 a40 b40 c40 d40 a41 b41 c41 d41 a42 b42 c42 d42 a43 b43 c43 d43 a44 b44 c44 d44 a45 b45 c45 d45 a46 b46 c46 d46 a47 b47 c47 d47 a48 b48 c48 d48 a49 b49 c49 d49 a50 b50 c50 d50 a51 b51 c51 d51 a52 b52 c52 d52 a55 b55 c55 d55 a56 b56 c56 d56 a57 b57 c57 d57 a58 b58 c58 d58 a59 b59 c59 d59 x0l x0u x1l x1u x2l x2u x3l x3u; omega,
      by clear a4 b4 c4 d4 a5 b5 c5 d5 a6 b6 c6 d6 a7 b7 c7 d7 a8 b8 c8 d8 a9 b9 c9 d9 a10 b10 c10 d10 a11 b11 c11 d11 a12 b12 c12 d12 a13 b13 c13 d13 a14 b14 c14 d14 a15 b15 c15 d15 a16 b16 c16 d16 a17 b17 c17 d17 a18 b18 c18 d18 a19 b19 c19 d19 a20 b20 c20 d20 a21 b21 c21 d21 a22 b22 c22 d22 a23 b23 c23 d23 a24 b24 c24 d24 a25 b25 c25 d25 a26 b26 c26 d26 a27 b27 c27 d27 a28 b28 c28 d28 a29 b29 c29 d29 a30 b30 c30 d30 a31 b31 c31 d31 a32 b32 c32 d32 a33 b33 c33 d33 a34 b34 c34 d34 a35 b35 c35 d35 a36 b36 c36 d36 a37 b37 c37 d37 a38 b38 c38 d38 a39 b39 c39 d39 a40 b40 c40 d40 a41 b41 c41 d41 a42 b42 c42 d42 a43 b43 c43 d43 a44 b44 c44 d44 a45 b45 c45 d45 a46 b46 c46 d46 a47 b47 c47 d47 a48 b48 c48 d48 a49 b49 c49 d49 a50 b50 c50 d50 a51 b51 c51 d51 a52 b52 c52 d52 a53 b53 c53 d53 a54 b54 c54 d54 a57 b57 c57 d57 a58 b58 c58 d58 a59 b59 c59 d59 x0l x0u x1l x1u x2l x2u x3l x3u; omega,
      by clear a4 b4 c4 d4 a5 b5 c5 d5 a6 b6 c6 d6 a7 b7 c7 d7 a8 b8 c8 d8 a9 b9 c9 d9 a10 b10 c10 d10 a11 b11 c11 d11 a12 b12 c12 d12 a13 b13 c13 d13 a14 b14 c14 d14 a15 b15 c15 d15 a16 b16 c16 d16 a17 b17 c17 d17 a18 b18 c18 d18 a19 b19 c19 d19 a20 b20 c20 d20 a21 b21 c21 d21 a22 b22 c22 d22 a23 b23 c23 d23 a24 b24 c24 d24 a25 b25 c25 d25 a26 b26 c26 d26 a27 b27 c27 d27 a28 b28 c28 d28 a29 b29 c29 d29 a30 b30 c30 d30 a31 b31 c31 d31 a32 b32 c32 d32 a33 b33 c33 d33 a34 b34 c34 d34 a35 b35 c35 d35 a36 b36 c36 d36 a37 b37 c37 d37 a38 b38 c38 d38 a39 b39 c39 d39 a40 b40 c40 d40 a41 b41 c41 d41 a42 b42 c42 d42 a43 b43 c43 d43 a44 b44 c44 d44 a45 b45 c45 d45 a46 b46 c46 d46 a47 b47 c47 d47 a48 b48 c48 d48 a49 b49 c49 d49 a50 b50 c50 d50 a51 b51 c51 d51 a52 b52 c52 d52 a53 b53 c53 d53 a54 b54 c54 d54 a57 b57 c57 d57 a58 b58 c58 d58 a59 b59 c59 d59 x0l x0u x1l x1u x2l x2u x3l x3u; omega,
      by clear a4 b4 c4 d4 a5 b5 c5 d5 a6 b6 c6 d6 a7 b7 c7 d7 a8 b8 c8 d8 a9 b9 c9 d9 a10 b10 c10 d10 a11 b11 c11 d11 a12 b12 c12 d12 a13 b13 c13 d13 a14 b14 c14 d14 a15 b15 c15 d15 a16 b16 c16 d16 a17 b17 c17 d17 a18 b18 c18 d18 a19 b19 c19 d19 a20 b20 c20 d20 a21 b21 c21 d21 a22 b22 c22 d22 a23 b23 c23 d23 a24 b24 c24 d24 a25 b25 c25 d25 a26 b26 c26 d26 a27 b27 c27 d27 a28 b28 c28 d28 a29 b29 c29 d29 a30 b30 c30 d30 a31 b31 c31 d31 a32 b32 c32 d32 a33 b33 c33 d33 a34 b34 c34 d34 a35 b35 c35 d35 a36 b36 c36 d36 a37 b37 c37 d37 a38 b38 c38 d38 a39 b39 c39 d39 a40 b40 c40 d40 a41 b41 c41 d41 a42 b42 c42 d42 a43 b43 c43 d43 a44 b44 c44 d44 a45 b45 c45 d45 a46 b46 c46 d46 a47 b47 c47 d47 a48 b48 c48 d48 a49 b49 c49 d49 a50 b50 c50 d50 a51 b51 c51 d51 a52 b52 c52 d52 a53 b53 c53 d53 a54 b54 c54 d54 a55 b55 c55 d55 a56 b56 c56 d56 a59 b59 c59 d59 x0l x0u x1l x1u x2l x2u x3l x3u; omega,
      by clear a4 b4 c4 d4 a5 b5 c5 d5 a6 b6 c6 d6 a7 b7 c7 d7 a8 b8 c8 d8 a9 b9 c9 d9 a10 b10 c10 d10 a11 b11 c11 d11 a12 b12 c12 d12 a13 b13 c13 d13 a14 b14 c14 d14 a15 b15 c15 d15 a16 b16 c16 d16 a17 b17 c17 d17 a18 b18 c18 d18 a19 b19 c19 d19 a20 b20 c20 d20 a21 b21 c21 d21 a22 b22 c22 d22 a23 b23 c23 d23 a24 b24 c24 d24 a25 b25 c25 d25 a26 b26 c26 d26 a27 b27 c27 d27 a28 b28 c28 d28 a29 b29 c29 d29 a30 b30 c30 d30 a31 b31 c31 d31 a32 b32 c32 d32 a33 b33 c33 d33 a34 b34 c34 d34 a35 b35 c35 d35 a36 b36 c36 d36 a37 b37 c37 d37 a38 b38 c38 d38 a39 b39 c39 d39 a40 b40 c40 d40 a41 b41 c41 d41 a42 b42 c42 d42 a43 b43 c43 d43 a44 b44 c44 d44 a45 b45 c45 d45 a46 b46 c46 d46 a47 b47 c47 d47 a48 b48 c48 d48 a49 b49 c49 d49 a50 b50 c50 d50 a51 b51 c51 d51 a52 b52 c52 d52 a53 b53 c53 d53 a54 b54 c54 d54 a55 b55 c55 d55 a56 b56 c56 d56 a59 b59 c59 d59 x0l x0u x1l x1u x2l x2u x3l x3u; omega,
      by clear a4 b4 c4 d4 a5 b5 c5 d5 a6 b6 c6 d6 a7 b7 c7 d7 a8 b8 c8 d8 a9 b9 c9 d9 a10 b10 c10 d10 a11 b11 c11 d11 a12 b12 c12 d12 a13 b13 c13 d13 a14 b14 c14 d14 a15 b15 c15 d15 a16 b16 c16 d16 a17 b17 c17 d17 a18 b18 c18 d18 a19 b19 c19 d19 a20 b20 c20 d20 a21 b21 c21 d21 a22 b22 c22 d22 a23 b23 c23 d23 a24 b24 c24 d24 a25 b25 c25 d25 a26 b26 c26 d26 a27 b27 c27 d27 a28 b28 c28 d28 a29 b29 c29 d29 a30 b30 c30 d30 a31 b31 c31 d31 a32 b32 c32 d32 a33 b33 c33 d33 a34 b34 c34 d34 a35 b35 c35 d35 a36 b36 c36 d36 a37 b37 c37 d37 a38 b38 c38 d38 a39 b39 c39 d39 a40 b40 c40 d40 a41 b41 c41 d41 a42 b42 c42 d42 a43 b43 c43 d43 a44 b44 c44 d44 a45 b45 c45 d45 a46 b46 c46 d46 a47 b47 c47 d47 a48 b48 c48 d48 a49 b49 c49 d49 a50 b50 c50 d50 a51 b51 c51 d51 a52 b52 c52 d52 a53 b53 c53 d53 a54 b54 c54 d54 a55 b55 c55 d55 a56 b56 c56 d56 a57 b57 c57 d57 a58 b58 c58 d58 x0l x0u x1l x1u x2l x2u x3l x3u; omega,
      by clear a4 b4 c4 d4 a5 b5 c5 d5 a6 b6 c6 d6 a7 b7 c7 d7 a8 b8 c8 d8 a9 b9 c9 d9 a10 b10 c10 d10 a11 b11 c11 d11 a12 b12 c12 d12 a13 b13 c13 d13 a14 b14 c14 d14 a15 b15 c15 d15 a16 b16 c16 d16 a17 b17 c17 d17 a18 b18 c18 d18 a19 b19 c19 d19 a20 b20 c20 d20 a21 b21 c21 d21 a22 b22 c22 d22 a23 b23 c23 d23 a24 b24 c24 d24 a25 b25 c25 d25 a26 b26 c26 d26 a27 b27 c27 d27 a28 b28 c28 d28 a29 b29 c29 d29 a30 b30 c30 d30 a31 b31 c31 d31 a32 b32 c32 d32 a33 b33 c33 d33 a34 b34 c34 d34 a35 b35 c35 d35 a36 b36 c36 d36 a37 b37 c37 d37 a38 b38 c38 d38 a39 b39 c39 d39 a40 b40 c40 d40 a41 b41 c41 d41 a42 b42 c42 d42 a43 b43 c43 d43 a44 b44 c44 d44 a45 b45 c45 d45 a46 b46 c46 d46 a47 b47 c47 d47 a48 b48 c48 d48 a49 b49 c49 d49 a50 b50 c50 d50 a51 b51 c51 d51 a52 b52 c52 d52 a53 b53 c53 d53 a54 b54 c54 d54 a55 b55 c55 d55 a56 b56 c56 d56 a57 b57 c57 d57 a58 b58 c58 d58 x0l x0u x1l x1u x2l x2u x3l x3u; omega⟩
  · show nb [((List.getD r0 0 0) + ((-256) * z4)), (z5 + ((-256) * z6)), (z7 + ((-256) * z8)), (z9 + ((-256) * z10)), (z11 + ((-256) * z12)), (z13 + ((-256) * z14)), (z15 + ((-256) * z16)), z17, ((List.getD r0 1 0) + ((-256) * z18)), (z19 + ((-256) * z20)), (z21 + ((-256) * z22)), (z23 + ((-256) * z24)), (z25 + ((-256) * z26)), (z27 + ((-256) * z28)), (z29 + ((-256) * z30)), z31, ((List.getD r0 2 0) + ((-256) * z32)), (z33 + ((-256) * z34)), (z35 + ((-256) * z36)), (z37 + ((-256) * z38)), (z39 + ((-256) * z40)), (z41 + ((-256) * z42)), (z43 + ((-256) * z44)), z45, ((List.getD r0 3 0) + ((-256) * z46)), (z47 + ((-256) * z48)), (z49 + ((-256) * z50)), (z51 + ((-256) * z52)), (z53 + ((-256) * z54)), (z55 + ((-256) * z56)), (z57 + ((-256) * z58)), z59] = nw r0
    obtain ⟨x0, x1, x2, x3, rfl, x0l, x0u, x1l, x1u, x2l, x2u, x3l, x3u⟩ := in_4 i0
    simp only [List.getD_cons_zero, List.getD_cons_succ] at *
    have q5 : z4 = z5 := by
      clear a4 b4 a5 b5 a6 b6 c6 d6 a7 b7 c7 d7 a8 b8 c8 d8 a9 b9 c9 d9 a10 b10 c10 d10 a11 b11 c11 d11 a12 b12 c12 d12 a13 b13 c13 d13 a14 b14 c14 d14 a15 b15 c15 d15 a16 b16 c16 d16 a17 b17 c17 d17 a18 b18 c18 d18 a19 b19 c19 d19 a20 b20 c20 d20 a21 b21 c21 d21 a22 b22 c22 d22 a23 b23 c23 d23 a24 b24 c24 d24 a25 b25 c25 d25 a26 b26 c26 d26 a27 b27 c27 d27 a28 b28 c28 d28 a29 b29 c29 d29 a30 b30 c30 d30 a31 b31 c31 d31 a32 b32 c32 d32 a33 b33 c33 d33 a34 b34 c34 d34 a35 b35 c35 d35 a36 b36 c36 d36 a37 b37 c37 d37 a38 b38 c38 d38 a39 b39 c39 d39 a40 b40 c40 d40 a41 b41 c41 d41 a42 b42 c42 d42 a43 b43 c43 d43 a44 b44 c44 d44 a45 b45 c45 d45 a46 b46 c46 d46 a47 b47 c47 d47 a48 b48 c48 d48 a49 b49 c49 d49 a50 b50 c50 d50 a51 b51 c51 d51 a52 b52 c52 d52 a53 b53 c53 d53 a54 b54 c54 d54 a55 b55 c55 d55 a56 b56 c56 d56 a57 b57 c57 d57 a58 b58 c58 d58 a59 b59 c59 d59
      omega
    subst q5
    have q7 : z6 = z7 := by
      clear a4 b4 a5 b5 c5 d5 a6 b6 a7 b7 a8 b8 c8 d8 a9 b9 c9 d9 a10 b10 c10 d10 a11 b11 c11 d11 a12 b12 c12 d12 a13 b13 c13 d13 a14 b14 c14 d14 a15 b15 c15 d15 a16 b16 c16 d16 a17 b17 c17 d17 a18 b18 c18 d18 a19 b19 c19 d19 a20 b20 c20 d20 a21 b21 c21 d21 a22 b22 c22 d22 a23 b23 c23 d23 a24 b24 c24 d24 a25 b25 c25 d25 a26 b26 c26 d26 a27 b27 c27 d27 a28 b28 c28 d28 a29 b29 c29 d29 a30 b30 c30 d30 a31 b31 c31 d31 a32 b32 c32 d32 a33 b33 c33 d33 a34 b34 c34 d34 a35 b35 c35 d35 a36 b36 c36 d36 a37 b37 c37 d37 a38 b38 c38 d38 a39 b39 c39 d39 a40 b40 c40 d40 a41 b41 c41 d41 a42 b42 c42 d42 a43 b43 c43 d43 a44 b44 c44 d44 a45 b45 c45 d45 a46 b46 c46 d46 a47 b47 c47 d47 a48 b48 c48 d48 a49 b49 c49 d49 a50 b50 c50 d50 a51 b51 c51 d51 a52 b52 c52 d52 a53 b53 c53 d53 a54 b54 c54 d54 a55 b55 c55 d55 a56 b56 c56 d56 a57 b57 c57 d57 a58 b58 c58 d58 a59 b59 c59 d59
      omega
    subst q7
    have q9 : z8 = z9 := by
      clear a4 b4 a5 b5 c5 d5 a6 b6 a7 b7 c7 d7 a8 b8 a9 b9 a10 b10 c10 d10 a11 b11 c11 d11 a12 b12 c12 d12 a13 b13 c13 d13 a14 b14 c14 d14 a15 b15 c15 d15 a16 b16 c16 d16 a17 b17 c17 d17 a18 b18 c18 d18 a19 b19 c19 d19 a20 b20 c20 d20 a21 b21 c21 d21 a22 b22 c22 d22 a23 b23 c23 d23 a24 b24 c24 d24 a25 b25 c25 d25 a26 b26 c26 d26 a27 b27 c27 d27 a28 b28 c28 d28 a29 b29 c29 d29 a30 b30 c30 d30 a31 b31 c31 d31 a32 b32 c32 d32 a33 b33 c33 d33 a34 b34 c34 d34 a35 b35 c35 d35 a36 b36 c36 d36 a37 b37 c37 d37 a38 b38 c38 d38 a39 b39 c39 d39 a40 b40 c40 d40 a41 b41 c41 d41 a42 b42 c42 d42 a43 b43 c43 d43 a44 b44 c44 d44 a45 b45 c45 d45 a46 b46 c46 d46 a47 b47 c47 d47 a48 b48 c48 d48 a49 b49 c49 d49 a50 b50 c50 d50 a51 b51 c51 d51 a52 b52 c52 d52 a53 b53 c53 d53 a54 b54 c54 d54 a55 b55 c55 d55 a56 b56 c56 d56 a57 b57 c57 d57 a58 b58 c58 d58 a59 b59 c59 d59
      omega
    subst q9
    have q11 : z10 = z11 := by
      clear a4 b4 a5 b5 c5 d5 a6 b6 a7 b7 c7 d7 a8 b8 a9 b9 c9 d9 a10 b10 a11 b11 a12 b12 c12 d12 a13 b13 c13 d13 a14 b14 c14 d14 a15 b15 c15 d15 a16 b16 c16 d16 a17 b17 c17 d17 a18 b18 c18 d18 a19 b19 c19 d19 a20 b20 c20 d20 a21 b21 c21 d21 a22 b22 c22 d22 a23 b23 c23 d23 a24 b24 c24 d24 a25 b25 c25 d25 a26 b26 c26 d26 a27 b27 c27 d27 a28 b28 c28 d28 a29 b29 c29 d29 a30 b30 c30 d30 a31 b31 c31 d31 a32 b32 c32 d32 a33 b33 c33 d33 a34 b34 c34 d34 a35 b35 c35 d35 a36 b36 c36 d36 a37 b37 c37 d37 a38 b38 c38 d38 a39 b39 c39 d39 a40 b40 c40 d40 a41 b41 c41 d41 a42 b42 c42 d42 a43 b43 c43 d43 a44 b44 c44 d44 a45 b45 c45 d45 a46 b46 c46 d46 a47 b47 c47 d47 a48 b48 c48 d48 a49 b49 c49 d49 a50 b50 c50 d50 a51 b51 c51 d51 a52 b52 c52 d52 a53 b53 c53 d53 a54 b54 c54 d54 a55 b55 c55 d55 a56 b56 c56 d56 a57 b57 c57 d57 a58 b58 c58 d58 a59 b59 c59 d59
      omega
    subst q11
    have q13 : z12 = z13 := by
      clear a4 b4 a5 b5 c5 d5 a6 b6 a7 b7 c7 d7 a8 b8 a9 b9 c9 d9 a10 b10 a11 b11 c11 d11 a12 b12 a13 b13 a14 b14 c14 d14 a15 b15 c15 d15 a16 b16 c16 d16 a17 b17 c17 d17 a18 b18 c18 d18 a19 b19 c19 d19 a20 b20 c20 d20 a21 b21 c21 d21 a22 b22 c22 d22 a23 b23 c23 d23 a24 b24 c24 d24 a25 b25 c25 d25 a26 b26 c26 d26 a27 b27 c27 d27 a28 b28 c28 d28 a29 b29 c29 d29 a30 b30 c30 d30 a31 b31 c31 d31 a32 b32 c32 d32 a33 b33 c33 d33 a34 b34 c34 d34 a35 b35 c35 d35 a36 b36 c36 d36 a37 b37 c37 d37 a38 b38 c38 d38 a39 b39 c39 d39 a40 b40 c40 d40 a41 b41 c41 d41 a42 b42 c42 d42 a43 b43 c43 d43 a44 b44 c44 d44 a45 b45 c45 d45 a46 b46 c46 d46 a47 b47 c47 d47 a48 b48 c48 d48 a49 b49 c49 d49 a50 b50 c50 d50 a51 b51 c51 d51 a52 b52 c52 d52 a53 b53 c53 d53 a54 b54 c54 d54 a55 b55 c55 d55 a56 b56 c56 d56 a57 b57 c57 d57 a58 b58 c58 d58 a59 b59 c59 d59
      omega
    subst q13
    have q15 : z14 = z15 := by
      clear a4 b4 a5 b5 c5 d5 a6 b6 a7 b7 c7 d7 a8 b8 a9 b9 c9 d9 a10 b10 a11 b11 c11 d11 a12 b12 a13 b13 c13 d13 a14 b14 a15 b15 a16 b16 c16 d16 a17 b17 c17 d17 a18 b18 c18 d18 a19 b19 c19 d19 a20 b20 c20 d20 a21 b21 c21 d21 a22 b22 c22 d22 a23 b23 c23 d23 a24 b24 c24 d24 a25 b25 c25 d25 a26 b26 c26 d26 a27 b27 c27 d27 a28 b28 c28 d28 a29 b29 c29 d29 a30 b30 c30 d30 a31 b31 c31 d31 a32 b32 c32 d32 a33 b33 c33 d33 a34 b34 c34 d34 a35 b35 c35 d35 a36 b36 c36 d36 a37 b37 c37 d37 a38 b38 c38 d38 a39 b39 c39 d39 a40 b40 c40 d40 a41 b41 c41 d41 a42 b42 c42 d42 a43 b43 c43 d43 a44 b44 c44 d44 a45 b45 c45 d45 a46 b46 c46 d46 a47 b47 c47 d47 a48 b48 c48 d48 a49 b49 c49 d49 a50 b50 c50 d50 a51 b51 c51 d51 a52 b52 c52 d52 a53 b53 c53 d53 a54 b54 c54 d54 a55 b55 c55 d55 a56 b56 c56 d56 a57 b57 c57 d57 a58 b58 c58 d58 a59 b59 c59 d59
      omega
    subst q15
    have q17 : z16 = z17 := by
      clear a4 b4 a5 b5 c5 d5 a6 b6 a7 b7 c7 d7 a8 b8 a9 b9 c9 d9 a10 b10 a11 b11 c11 d11 a12 b12 a13 b13 c13 d13 a14 b14 a15 b15 c15 d15 a16 b16 a17 b17 a18 b18 c18 d18 a19 b19 c19 d19 a20 b20 c20 d20 a21 b21 c21 d21 a22 b22 c22 d22 a23 b23 c23 d23 a24 b24 c24 d24 a25 b25 c25 d25 a26 b26 c26 d26 a27 b27 c27 d27 a28 b28 c28 d28 a29 b29 c29 d29 a30 b30 c30 d30 a31 b31 c31 d31 a32 b32 c32 d32 a33 b33 c33 d33 a34 b34 c34 d34 a35 b35 c35 d35 a36 b36 c36 d36 a37 b37 c37 d37 a38 b38 c38 d38 a39 b39 c39 d39 a40 b40 c40 d40 a41 b41 c41 d41 a42 b42 c42 d42 a43 b43 c43 d43 a44 b44 c44 d44 a45 b45 c45 d45 a46 b46 c46 d46 a47 b47 c47 d47 a48 b48 c48 d48 a49 b49 c49 d49 a50 b50 c50 d50 a51 b51 c51 d51 a52 b52 c52 d52 a53 b53 c53 d53 a54 b54 c54 d54 a55 b55 c55 d55 a56 b56 c56 d56 a57 b57 c57 d57 a58 b58 c58 d58 a59 b59 c59 d59
      omega
    subst q17
    have q19 : z18 = z19 := by
      clear a4 b4 c4 d4 a5 b5 c5 d5 a6 b6 c6 d6 a7 b7 c7 d7 a8 b8 c8 d8 a9 b9 c9 d9 a10 b10 c10 d10 a11 b11 c11 d11 a12 b12 c12 d12 a13 b13 c13 d13 a14 b14 c14 d14 a15 b15 c15 d15 a16 b16 c16 d16 a17 b17 c17 d17 a18 b18 a19 b19 a20 b20 c20 d20 a21 b21 c21 d21 a22 b22 c22 d22 a23 b23 c23 d23 a24 b24 c24 d24 a25 b25 c25 d25 a26 b26 c26 d26 a27 b27 c27 d27 a28 b28 c28 d28 a29 b29 c29 d29 a30 b30 c30 d30 a31 b31 c31 d31 a32 b32 c32 d32 a33 b33 c33 d33 a34 b34 c34 d34 a35 b35 c35 d35 a36 b36 c36 d36 a37 b37 c37 d37 a38 b38 c38 d38 a39 b39 c39 d39 a40 b40 c40 d40 a41 b41 c41 d41 a42 b42 c42 d42 a43 b43 c43 d43 a44 b44 c44 d44 a45 b45 c45 d45 a46 b46 c46 d46 a47 b47 c47 d47 a48 b48 c48 d48 a49 b49 c49 d49 a50 b50 c50 d50 a51 b51 c51 d51 a52 b52 c52 d52 a53 b53 c53 d53 a54 b54 c54 d54 a55 b55 c55 d55 a56 b56 c56 d56 a57 b57 c57 d57 a58 b58 c58 d58 a59 b59 c59 d59
      omega
    subst q19
    have q21 : z20 = z21 := by
      clear a4 b4 c4 d4 a5 b5 c5 d5 a6 b6 c6 d6 a7 b7 c7 d7 a8 b8 c8 d8 a9 b9 c9 d9 a10 b10 c10 d10 a11 b11 c11 d11 a12 b12 c12 d12 a13 b13 c13 d13 a14 b14 c14 d14 a15 b15 c15 d15 a16 b16 c16 d16 a17 b17 c17 d17 a18 b18 a19 b19 c19 d19 a20 b20 a21 b21 a22 b22 c22 d22 a23 b23 c23 d23 a24 b24 c24 d24 a25 b25 c25 d25 a26 b26 c26 d26 a27 b27 c27 d27 a28 b28 c28 d28 a29 b29 c29 d29 a30 b30 c30 d30 a31 b31 c31 d31 a32 b32 c32 d32 a33 b33 c33 d33 a34 b34 c34 d34 a35 b35 c35 d35 a36 b36 c36 d36 a37 b37 c37 d37 a38 b38 c38 d38 a39 b39 c39 d39 a40 b40 c40 d40 a41 b41 c41 d41 a42 b42 c42 d42 a43 b43 c43 d43 a44 b44 c44 d44 a45 b45 c45 d45 a46 b46 c46 d46 a47 b47 c47 d47 a48 b48 c48 d48 a49 b49 c49 d49 a50 b50 c50 d50 a51 b51 c51 d51 a52 b52 c52 d52 a53 b53 c53 d53 a54 b54 c54 d54 a55 b55 c55 d55 a56 b56 c56 d56 a57 b57 c57 d57 a58 b58 c58 d58 a59 b59 c59 d59
      omega
    subst q21
    have q23 : z22 = z23 := by
      clear a4 b4 c4 d4 a5 b5 c5 d5 a6 b6 c6 d6 a7 b7 c7 d7 a8 b8 c8 d8 a9 b9 c9 d9 a10 b10 c10 d10 a11 b11 c11 d11 a12 b12 c12 d12 a13 b13 c13 d13 a14 b14 c14 d14 a15 b15 c15 d15 a16 b16 c16 d16 a17 b17 c17 d17 a18 b18 a19 b19 c19 d19 a20 b20 a21 b21 c21 d21 a22 b22 a23 b23 a24 b24 c24 d24 a25 b25 c25 d25 a26 b26 c26 d26 a27 b27 c27 d27 a28 b28 c28 d28 a29 b29 c29 d29 a30 b30 c30 d30 a31 b31 c31 d31 a32 b32 c32 d32 a33 b33 c33 d33 a34 b34 c34 d34 a35 b35 c35 d35 a36 b36 c36 d36 a37 b37 c37 d37 a38 b38 c38 d38 a39 b39 c39 d39 a40 b40 c40 d40 a41 b41 c41 d41 a42 b42 c42 d42 a43 b43 c43 d43 a44 b44 c44 d44 a45 b45 c45 d45 a46 b46 c46 d46 a47 b47 c47 d47 a48 b48 c48 d48 a49 b49 c49 d49 a50 b50 c50 d50 a51 b51 c51 d51 a52 b52 c52 d52 a53 b53 c53 d53 a54 b54 c54 d54 a55 b55 c55 d55 a56 b56 c56 d56 a57 b57 c57 d57 a58 b58 c58 d58 a59 b59 c59 d59
      omega
    subst q23
    have q25 : z24 = z25 := by
      clear a4 b4 c4 d4 a5 b5 c5 d5 a6 b6 c6 d6 a7 b7 c7 d7 a8 b8 c8 d8 a9 b9 c9 d9 a10 b10 c10 d10 a11 b11 c11 d11 a12 b12 c12 d12 a13 b13 c13 d13 a14 b14 c14 d14 a15 b15 c15 d15 a16 b16 c16 d16 a17 b17 c17 d17 a18 b18 a19 b19 c19 d19 a20 b20 a21 b21 c21 d21 a22 b22 a23 b23 c23 d23 a24 b24 a25 b25 a26 b26 c26 d26 a27 b27 c27 d27 a28 b28 c28 d28 a29 b29 c29 d29 a30 b30 c30 d30 a31 b31 c31 d31 a32 b32 c32 d32 a33 b33 c33 d33 a34 b34 c34 d34 a35 b35 c35 d35 a36 b36 c36 d36 a37 b37 c37 d37 a38 b38 c38 d38 a39 b39 c39 d39 a40 b40 c40 d40 a41 b41 c41 d41 a42 b42 c42 d42 a43 b43 c43 d43 a44 b44 c44 d44 a45 b45 c45 d45 a46 b46 c46 d46 a47 b47 c47 d47 a48 b48 c48 d48 a49 b49 c49 d49 a50 b50 c50 d50 a51 b51 c51 d51 a52 b52 c52 d52 a53 b53 c53 d53 a54 b54 c54 d54 a55 b55 c55 d55 a56 b56 c56 d56 a57 b57 c57 d57 a58 b58 c58 d58 a59 b59 c59 d59
      omega
    subst q25
    have q27 : z26 = z27 := by
      clear a4 b4 c4 d4 a5 b5 c5 d5 a6 b6 c6 d6 a7 b7 c7 d7 a8 b8 c8 d8 a9 b9 c9 d9 a10 b10 c10 d10 a11 b11 c11 d11 a12 b12 c12 d12 a13 b13 c13 d13 a14 b14 c14 d14 a15 b15 c15 d15 a16 b16 c16 d16 a17 b17 c17 d17 a18 b18 a19 b19 c19 d19 a20 b20 a21 b21 c21 d21 a22 b22 a23 b23 c23 d23 a24 b24 a25 b25 c25 d25 a26 b26 a27 b27 a28 b28 c28 d28 a29 b29 c29 d29 a30 b30 c30 d30 a31 b31 c31 d31 a32 b32 c32 d32 a33 b33 c33 d33 a34 b34 c34 d34 a35 b35 c35 d35 a36 b36 c36 d36 a37 b37 c37 d37 a38 b38 c38 d38 a39 b39 c39 d39 a40 b40 c40 d40 a41 b41 c41 d41 a42 b42 c42 d42 a43 b43 c43 d43 a44 b44 c44 d44 a45 b45 c45 d45 a46 b46 c46 d46 a47 b47 c47 d47 a48 b48 c48 d48 a49 b49 c49 d49 a50 b50 c50 d50 a51 b51 c51 d51 a52 b52 c52 d52 a53 b53 c53 d53 a54 b54 c54 d54 a55 b55 c55 d55 a56 b56 c56 d56 a57 b57 c57 d57 a58 b58 c58 d58 a59 b59 c59 d59
      omega
    subst q27
    have q29 : z28 = z29 := by
      clear a4 b4 c4 d4 a5 b5 c5 d5 a6 b6 c6 d6 a7 b7 c7 d7 a8 b8 c8 d8 a9 b9 c9 d9 a10 b10 c10 d10 a11 b11 c11 d11 a12 b12 c12 d12 a13 b13 c13 d13 a14 b14 c14 d14 a15 b15 c15 d15 a16 b16 c16 d16 a17 b17 c17 d17 a18 b18 a19 b19 c19 d19 a20 b20 a21 b21 c21 d21 a22 b22 a23 b23 c23 d23 a24 b24 a25 b25 c25 d25 a26 b26 a27 b27 c27 d27 a28 b28 a29 b29 a30 b30 c30 d30 a31 b31 c31 d31 a32 b32 c32 d32 a33 b33 c33 d33 a34 b34 c34 d34 a35 b35 c35 d35 a36 b36 c36 d36 a37 b37 c37 d37 a38 b38 c38 d38 a39 b39 c39 d39 a40 b40 c40 d40 a41 b41 c41 d41 a42 b42 c42 d42 a43 b43 c43 d43 a44 b44 c44 d44 a45 b45 c45 d45 a46 b46 c46 d46 a47 b47 c47 d47 a48 b48 c48 d48 a49 b49 c49 d49 a50 b50 c50 d50 a51 b51 c51 d51 a52 b52 c52 d52 a53 b53 c53 d53 a54 b54 c54 d54 a55 b55 c55 d55 a56 b56 c56 d56 a57 b57 c57 d57 a58 b58 c58 d58 a59 b59 c59 d59
      omega
    subst q29
    have q31 : z30 = z31 := by
      clear a4 b4 c4 d4 a5 b5 c5 d5 a6 b6 c6 d6 a7 b7 c7 d7 a8 b8 c8 d8 a9 b9 c9 d9 a10 b10 c10 d10 a11 b11 c11 d11 a12 b12 c12 d12 a13 b13 c13 d13 a14 b14 c14 d14 a15 b15 c15 d15 a16 b16 c16 d16 a17 b17 c17 d17 a18 b18 a19 b19 c19 d19 a20 b20 a21 b21 c21 d21 a22 b22 a23 b23 c23 d23 a24 b24 a25 b25 c25 d25 a26 b26 a27 b27 c27 d27 a28 b28 a29 b29 c29 d29 a30 b30 a31 b31 a32 b32 c32 d32 a33 b33 c33 d33 a34 b34 c34 d34 a35 b35 c35 d35 a36 b36 c36 d36 a37 b37 c37 d37 a38 b38 c38 d38 a39 b39 c39 d39 a40 b40 c40 d40 a41 b41 c41 d41 a42 b42 c42 d42 a43 b43 c43 d43 a44 b44 c44 d44 a45 b45 c45 d45 a46 b46 c46 d46 a47 b47 c47 d47 a48 b48 c48 d48 a49 b49 c49 d49 a50 b50 c50 d50 a51 b51 c51 d51 a52 b52 c52 d52 a53 b53 c53 d53 a54 b54 c54 d54 a55 b55 c55 d55 a56 b56 c56 d56 a57 b57 c57 d57 a58 b58 c58 d58 a59 b59 c59 d59
      omega
    subst q31
    have q33 : z32 = z33 := by
      clear a4 b4 c4 d4 a5 b5 c5 d5 a6 b6 c6 d6 a7 b7 c7 d7 a8 b8 c8 d8 a9 b9 c9 d9 a10 b10 c10 d10 a11 b11 c11 d11 a12 b12 c12 d12 a13 b13 c13 d13 a14 b14 c14 d14 a15 b15 c15 d15 a16 b16 c16 d16 a17 b17 c17 d17 a18 b18 c18 d18 a19 b19 c19 d19 a20 b20 c20 d20 a21 b21 c21 d21 a22 b22 c22 d22 a23 b23 c23 d23 a24 b24 c24 d24 a25 b25 c25 d25 a26 b26 c26 d26 a27 b27 c27 d27 a28 b28 c28 d28 a29 b29 c29 d29 a30 b30 c30 d30 a31 b31 c31 d31 a32 b32 a33 b33 a34 b34 c34 d34 a35 b35 c35 d35 a36 b36 c36 d36 a37 b37 c37 d37 a38 b38 c38 d38 a39 b39 c39 d39 a40 b40 c40 d40 a41 b41 c41 d41 a42 b42 c42 d42 a43 b43 c43 d43 a44 b44 c44 d44 a45 b45 c45 d45 a46 b46 c46 d46 a47 b47 c47 d47 a48 b48 c48 d48 a49 b49 c49 d49 a50 b50 c50 d50 a51 b51 c51 d51 a52 b52 c52 d52 a53 b53 c53 d53 a54 b54 c54 d54 a55 b55 c55 d55 a56 b56 c56 d56 a57 b57 c57 d57 a58 b58 c58 d58 a59 b59 c59 d59
      omega
    subst q33
    have q35 : z34 = z35 := by
      clear a4 b4 c4 d4 a5 b5 c5 d5 a6 b6 c6 d6 a7 b7 c7 d7 a8 b8 c8 d8 a9 b9 c9 d9 a10 b10 c10 d10 a11 b11 c11 d11 a12 b12 c12 d12 a13 b13 c13 d13 a14 b14 c14 d14 a15 b15 c15 d15 a16 b16 c16 d16 a17 b17 c17 d17 a18 b18 c18 d18 a19 b19 c19 d19 a20 b20 c20 d20 a21 b21 c21 d21 a22 b22 c22 d22 a23 b23 c23 d23 a24 b24 c24 d24 a25 b25 c25 d25 a26 b26 c26 d26 a27 b27 c27 d27 a28 b28 c28 d28 a29 b29 c29 d29 a30 b30 c30 d30 a31 b31 c31 d31 a32 b32 a33 b33 c33 d33 a34 b34 a35 b35 a36 b36 c36 d36 a37 b37 c37 d37 a38 b38 c38 d38 a39 b39 c39 d39 a40 b40 c40 d40 a41 b41 c41 d41 a42 b42 c42 d42 a43 b43 c43 d43 a44 b44 c44 d44 a45 b45 c45 d45 a46 b46 c46 d46 a47 b47 c47 d47 a48 b48 c48 d48 a49 b49 c49 d49 a50 b50 c50 d50 a51 b51 c51 d51 a52 b52 c52 d52 a53 b53 c53 d53 a54 b54 c54 d54 a55 b55 c55 d55 a56 b56 c56 d56 a57 b57 c57 d57 a58 b58 c58 d58 a59 b59 c59 d59
      omega
    subst q35
    have q37 : z36 = z37 := by
      clear a4 b4 c4 d4 a5 b5 c5 d5 a6 b6 c6 d6 a7 b7 c7 d7 a8 b8 c8 d8 a9 b9 c9 d9 a10 b10 c10 d10 a11 b11 c11 d11 a12 b12 c12 d12 a13 b13 c13 d13 a14 b14 c14 d14 a15 b15 c15 d15 a16 b16 c16 d16 a17 b17 c17 d17 a18 b18 c18 d18 a19 b19 c19 d19 a20 b20 c20 d20 a21 b21 c21 d21 a22 b22 c22 d22 a23 b23 c23 d23 a24 b24 c24 d24 a25 b25 c25 d25 a26 b26 c26 d26 a27 b27 c27 d27 a28 b28 c28 d28 a29 b29 c29 d29 a30 b30 c30 d30 a31 b31 c31 d31 a32 b32 a33 b33 c33 d33 a34 b34 a35 b35 c35 d35 a36 b36 a37 b37 a38 b38 c38 d38 a39 b39 c39 d39 a40 b40 c40 d40 a41 b41 c41 d41 a42 b42 c42 d42 a43 b43 c43 d43 a44 b44 c44 d44 a45 b45 c45 d45 a46 b46 c46 d46 a47 b47 c47 d47 a48 b48 c48 d48 a49 b49 c49 d49 a50 b50 c50 d50 a51 b51 c51 d51 a52 b52 c52 d52 a53 b53 c53 d53 a54 b54 c54 d54 a55 b55 c55 d55 a56 b56 c56 d56 a57 b57 c57 d57 a58 b58 c58 d58 a59 b59 c59 d59
      omega
    subst q37
    have q39 : z38 = z39 := by
      clear a4 b4 c4 d4 a5 b5 c5 d5 a6 b6 c6 d6 a7 b7 c7 d7 a8 b8 c8 d8 a9 b9 c9 d9 a10 b10 c10 d10 a11 b11 c11 d11 a12 b12 c12 d12 a13 b13 c13 d13 a14 b14 c14 d14 a15 b15 c15 d15 a16 b16 c16 d16 a17 b17 c17 d17 a18 b18 c18 d18 a19 b19 c19 d19 a20 b20 c20 d20 a21 b21 c21 d21 a22 b22 c22 d22 a23 b23 c23 d23 a24 b24 c24 d24 a25 b25 c25 d25 a26 b26 c26 d26 a27 b27 c27 d27 a28 b28 c28 d28 a29 b29 c29 d29 a30 b30 c30 d30 a31 b31 c31 d31 a32 b32 a33 b33 c33 d33 a34 b34 a35 b35 c35 d35 a36 b36 a37 b37 c37 d37 a38 b38 a39 b39 a40 b40 c40 d40 a41 b41 c41 d41 a42 b42 c42 d42 a43 b43 c43 d43 a44 b44 c44 d44 a45 b45 c45 d45 a46 b46 c46 d46 a47 b47 c47 d47 a48 b48 c48 d48 a49 b49 c49 d49 a50 b50 c50 d50 a51 b51 c51 d51 a52 b52 c52 d52 a53 b53 c53 d53 a54 b54 c54 d54 a55 b55 c55 d55 a56 b56 c56 d56 a57 b57 c57 d57 a58 b58 c58 d58 a59 b59 c59 d59
      omega
    subst q39
    have q41 : z40 = z41 := by
      clear a4 b4 c4 d4 a5 b5 c5 d5 a6 b6 c6 d6 a7 b7 c7 d7 a8 b8 c8 d8 a9 b9 c9 d9 a10 b10 c10 d10 a11 b11 c11 d11 a12 b12 c12 d12 a13 b13 c13 d13 a14 b14 c14 d14 a15 b15 c15 d15 a16 b16 c16 d16 a17 b17 c17 d17 a18 b18 c18 d18 a19 b19 c19 d19 a20 b20 c20 d20 a21 b21 c21 d21 a22 b22 c22 d22 a23 b23 c23 d23 a24 b24 c24 d24 a25 b25 c25 d25 a26 b26 c26 d26 a27 b27 c27 d27 a28 b28 c28 d28 a29 b29 c29 d29 a30 b30 c30 d30 a31 b31 c31 d31 a32 b32 a33 b33 c33 d33 a34 b34 a35 b35 c35 d35 a36 b36 a37 b37 c37 d37 a38 b38 a39 b39 c39 d39 a40 b40 a41 b41 a42 b42 c42 d42 a43 b43 c43 d43 a44 b44 c44 d44 a45 b45 c45 d45 a46 b46 c46 d46 a47 b47 c47 d47 a48 b48 c48 d48 a49 b49 c49 d49 a50 b50 c50 d50 a51 b51 c51 d51 a52 b52 c52 d52 a53 b53 c53 d53 a54 b54 c54 d54 a55 b55 c55 d55 a56 b56 c56 d56 a57 b57 c57 d57 a58 b58 c58 d58 a59 b59 c59 d59
      omega
    subst q41
    have q43 : z42 = z43 := by
      clear a4 b4 c4 d4 a5 b5 c5 d5 a6 b6 c6 d6 a7 b7 c7 d7 a8 b8 c8 d8 a9 b9 c9 d9 a10 b10 c10 d10 a11 b11 c11 d11 a12 b12 c12 d12 a13 b13 c13 d13 a14 b14 c14 d14 a15 b15 c15 d15 a16 b16 c16 d16 a17 b17 c17 d17 a18 b18 c18 d18 a19 b19 c19 d19 a20 b20 c20 d20 a21 b21 c21 d21 a22 b22 c22 d22 a23 b23 c23 d23 a24 b24 c24 d24 a25 b25 c25 d25 a26 b26 c26 d26 a27 b27 c27 d27 a28 b28 c28 d28 a29 b29 c29 d29 a30 b30 c30 d30 a31 b31 c31 d31 a32 b32 a33 b33 c33 d33 a34 b34 a35 b35 c35 d35 a36 b36 a37 b37 c37 d37 a38 b38 a39 b39 c39 d39 a40 b40 a41 b41 c41 d41 a42 b42 a43 b43 a44 b44 c44 d44 a45 b45 c45 d45 a46 b46 c46 d46 a47 b47 c47 d47 a48 b48 c48 d48 a49 b49 c49 d49 a50 b50 c50 d50 a51 b51 c51 d51 a52 b52 c52 d52 a53 b53 c53 d53 a54 b54 c54 d54 a55 b55 c55 d55 a56 b56 c56 d56 a57 b57 c57 d57 a58 b58 c58 d58 a59 b59 c59 d59
      omega
    subst q43
    have q45 : z44 = z45 := by
      clear a4 b4 c4 d4 a5 b5 c5 d5 a6 b6 c6 d6 a7 b7 c7 d7 a8 b8 c8 d8 a9 b9 c9 d9 a10 b10 c10 d10 a11 b11 c11 d11 a12 b12 c12 d12 a13 b13 c13 d13 a14 b14 c14 d14 a15 b15 c15 d15 a16 b16 c16 d16 a17 b17 c17 d17 a18 b18 c18 d18 a19 b19 c19 d19 a20 b20 c20 d20 a21 b21 c21 d21 a22 b22 c22 d22 a23 b23 c23 d23 a24 b24 c24 d24 a25 b25 c25 d25 a26 b26 c26 d26 a27 b27 c27 d27 a28 b28 c28 d28 a29 b29 c29 d29 a30 b30 c30 d30 a31 b31 c31 d31 a32 b32 a33 b33 c33 d33 a34 b34 a35 b35 c35 d35 a36 b36 a37 b37 c37 d37 a38 b38 a39 b39 c39 d39 a40 b40 a41 b41 c41 d41 a42 b42 a43 b43 c43 d43 a44 b44 a45 b45 a46 b46 c46 d46 a47 b47 c47 d47 a48 b48 c48 d48 a49 b49 c49 d49 a50 b50 c50 d50 a51 b51 c51 d51 a52 b52 c52 d52 a53 b53 c53 d53 a54 b54 c54 d54 a55 b55 c55 d55 a56 b56 c56 d56 a57 b57 c57 d57 a58 b58 c58 d58 a59 b59 c59 d59
      omega
    subst q45
    have q47 : z46 = z47 := by
      clear a4 b4 c4 d4 a5 b5 c5 d5 a6 b6 c6 d6 a7 b7 c7 d7 a8 b8 c8 d8 a9 b9 c9 d9 a10 b10 c10 d10 a11 b11 c11 d11 a12 b12 c12 d12 a13 b13 c13 d13 a14 b14 c14 d14 a15 b15 c15 d15 a16 b16 c16 d16 a17 b17 c17 d17 a18 b18 c18 d18 a19 b19 c19 d19 a20 b20 c20 d20 a21 b21 c21 d21 a22 b22 c22 d22 a23 b23 c23 d23 a24 b24 c24 d24 a25 b25 c25 d25 a26 b26 c26 d26 a27 b27 c27 d27 a28 b28 c28 d28 a29 b29 c29 d29 a30 b30 c30 d30 a31 b31 c31 d31 a32 b32 c32 d32 a33 b33 c33 d33 a34 b34 c34 d34 a35 b35 c35 d35 a36 b36 c36 d36 a37 b37 c37 d37 a38 b38 c38 d38 a39 b39 c39 d39 a40 b40 c40 d40 a41 b41 c41 d41 a42 b42 c42 d42 a43 b43 c43 d43 a44 b44 c44 d44 a45 b45 c45 d45 a46 b46 a47 b47 a48 b48 c48 d48 a49 b49 c49 d49 a50 b50 c50 d50 a51 b51 c51 d51 a52 b52 c52 d52 a53 b53 c53 d53 a54 b54 c54 d54 a55 b55 c55 d55 a56 b56 c56 d56 a57 b57 c57 d57 a58 b58 c58 d58 a59 b59 c59 d59
      omega
    subst q47
    have q49 : z48 = z49 := by
      clear a4 b4 c4 d4 a5 b5 c5 d5 a6 b6 c6 d6 a7 b7 c7 d7 a8 b8 c8 d8 a9 b9 c9 d9 a10 b10 c10 d10 a11 b11 c11 d11 a12 b12 c12 d12 a13 b13 c13 d13 a14 b14 c14 d14 a15 b15 c15 d15 a16 b16 c16 d16 a17 b17 c17 d17 a18 b18 c18 d18 a19 b19 c19 d19 a20 b20 c20 d20 a21 b21 c21 d21 a22 b22 c22 d22 a23 b23 c23 d23 a24 b24 c24 d24 a25 b25 c25 d25 a26 b26 c26 d26 a27 b27 c27 d27 a28 b28 c28 d28 a29 b29 c29 d29 a30 b30 c30 d30 a31 b31 c31 d31 a32 b32 c32 d32 a33 b33 c33 d33 a34 b34 c34 d34 a35 b35 c35 d35 a36 b36 c36 d36 a37 b37 c37 d37 a38 b38 c38 d38 a39 b39 c39 d39 a40 b40 c40 d40 a41 b41 c41 d41 a42 b42 c42 d42 a43 b43 c43 d43 a44 b44 c44 d44 a45 b45 c45 d45 a46 b46 a47 b47 c47 d47 a48 b48 a49 b49 a50 b50 c50 d50 a51 b51 c51 d51 a52 b52 c52 d52 a53 b53 c53 d53 a54 b54 c54 d54 a55 b55 c55 d55 a56 b56 c56 d56 a57 b57 c57 d57 a58 b58 c58 d58 a59 b59 c59 d59
      omega
    subst q49
    have q51 : z50 = z51 := by
      clear a4 b4 c4 d4 a5 b5 c5 d5 a6 b6 c6 d6 a7 b7 c7 d7 a8 b8 c8 d8 a9 b9 c9 d9 a10 b10 c10 d10 a11 b11 c11 d11 a12 b12 c12 d12 a13 b13 c13 d13 a14 b14 c14 d14 a15 b15 c15 d15 a16 b16 c16 d16 a17 b17 c17 d17 a18 b18 c18 d18 a19 b19 c19 d19 a20 b20 c20 d20 a21 b21 c21 d21 a22 b22 c22 d22 a23 b23 c23 d23 a24 b24 c24 d24 a25 b25 c25 d25 a26 b26 c26 d26 a27 b27 c27 d27 a28 b28 c28 d28 a29 b29 c29 d29 a30 b30 c30 d30 a31 b31 c31 d31 a32 b32 c32 d32 a33 b33 c33 d33 a34 b34 c34 d34 a35 b35 c35 d35 a36 b36 c36 d36 a37 b37 c37 d37 a38 b38 c38 d38 a39 b39 c39 d39 a40 b40 c40 d40 a41 b41 c41 d41 a42 b42 c42 d42 a43 b43 c43 d43 a44 b44 c44 d44 a45 b45 c45 d45 a46 b46 a47 b47 c47 d47 a48 b48 a49 b49 c49 d49 a50 b50 a51 b51 a52 b52 c52 d52 a53 b53 c53 d53 a54 b54 c54 d54 a55 b55 c55 d55 a56 b56 c56 d56 a57 b57 c57 d57 a58 b58 c58 d58 a59 b59 c59 d59
      omega
    subst q51
    have q53 : z52 = z53 := by
      clear a4 b4 c4 d4 a5 b5 c5 d5 a6 b6 c6 d6 a7 b7 c7 d7 a8 b8 c8 d8 a9 b9 c9 d9 a10 b10 c10 d10 a11 b11 c11 d11 a12 b12 c12 d12 a13 b13 c13 d13 a14 b14 c14 d14 a15 b15 c15 d15 a16 b16 c16 d16 a17 b17 c17 d17 a18 b18 c18 d18 a19 b19 c19 d19 a20 b20 c20 d20 a21 b21 c21 d21 a22 b22 c22 d22 a23 b23 c23 d23 a24 b24 c24 d24 a25 b25 c25 d25 a26 b26 c26 d26 a27 b27 c27 d27 a28 b28 c28 d28 a29 b29 c29 d29 a30 b30 c30 d30 a31 b31 c31 d31 a32 b32 c32 d32 a33 b33 c33 d33 a34 b34 c34 d34 a35 b35 c35 d35 a36 b36 c36 d36 a37 b37 c37 d37 a38 b38 c38 d38 a39 b39 c39 d39 a40 b40 c40 d40 a41 b41 c41 d41 a42 b42 c42 d42 a43 b43 c43 d43 a44 b44 c44 d44 a45 b45 c45 d45 a46 b46 a47 b47 c47 d47 a48 b48 a49 b49 c49 d49 a50 b50 a51 b51 c51 d51 a52 b52 a53 b53 a54 b54 c54 d54 a55 b55 c55 d55 a56 b56 c56 d56 a57 b57 c57 d57 a58 b58 c58 d58 a59 b59 c59 d59
      omega
    subst q53
    have q55 : z54 = z55 := by
      clear a4 b4 c4 d4 a5 b5 c5 d5 a6 b6 c6 d6 a7 b7 c7 d7 a8 b8 c8 d8 a9 b9 c9 d9 a10 b10 c10 d10 a11 b11 c11 d11 a12 b12 c12 d12 a13 b13 c13 d13 a14 b14 c14 d14 a15 b15 c15 d15 a16 b16 c16 d16 a17 b17 c17 d17 a18 b18 c18 d18 a19 b19 c19 d19 a20 b20 c20 d20 a21 b21 c21 d21 a22 b22 c22 d22 a23 b23 c23 d23 a24 b24 c24 d24 a25 b25 c25 d25 a26 b26 c26 d26 a27 b27 c27 d27 a28 b28 c28 d28 a29 b29 c29 d29 a30 b30 c30 d30 a31 b31 c31 d31 a32 b32 c32 d32 a33 b33 c33 d33 a34 b34 c34 d34 a35 b35 c35 d35 a36 b36 c36 d36 a37 b37 c37 d37 a38 b38 c38 d38 a39 b39 c39 d39 a40 b40 c40 d40 a41 b41 c41 d41 a42 b42 c42 d42 a43 b43 c43 d43 a44 b44 c44 d44 a45 b45 c45 d45 a46 b46 a47 b47 c47 d47 a48 b48 a49 b49 c49 d49 a50 b50 a51 b51 c51 d51 a52 b52 a53 b53 c53 d53 a54 b54 a55 b55 a56 b56 c56 d56 a57 b57 c57 d57 a58 b58 c58 d58 a59 b59 c59 d59
      omega
    subst q55
    have q57 : z56 = z57 := by
      clear a4 b4 c4 d4 a5 b5 c5 d5 a6 b6 c6 d6 a7 b7 c7 d7 a8 b8 c8 d8 a9 b9 c9 d9 a10 b10 c10 d10 a11 b11 c11 d11 a12 b12 c12 d12 a13 b13 c13 d13 a14 b14 c14 d14 a15 b15 c15 d15 a16 b16 c16 d16 a17 b17 c17 d17 a18 b18 c18 d18 a19 b19 c19 d19 a20 b20 c20 d20 a21 b21 c21 d21 a22 b22 c22 d22 a23 b23 c23 d23 a24 b24 c24 d24 a25 b25 c25 d25 a26 b26 c26 d26 a27 b27 c27 d27 a28 b28 c28 d28 a29 b29 c29 d29 a30 b30 c30 d30 a31 b31 c31 d31 a32 b32 c32 d32 a33 b33 c33 d33 a34 b34 c34 d34 a35 b35 c35 d35 a36 b36 c36 d36 a37 b37 c37 d37 a38 b38 c38 d38 a39 b39 c39 d39 a40 b40 c40 d40 a41 b41 c41 d41 a42 b42 c42 d42 a43 b43 c43 d43 a44 b44 c44 d44 a45 b45 c45 d45 a46 b46 a47 b47 c47 d47 a48 b48 a49 b49 c49 d49 a50 b50 a51 b51 c51 d51 a52 b52 a53 b53 c53 d53 a54 b54 a55 b55 c55 d55 a56 b56 a57 b57 a58 b58 c58 d58 a59 b59 c59 d59
      omega
    subst q57
    have q59 : z58 = z59 := by
      clear a4 b4 c4 d4 a5 b5 c5 d5 a6 b6 c6 d6 a7 b7 c7 d7 a8 b8 c8 d8 a9 b9 c9 d9 a10 b10 c10 d10 a11 b11 c11 d11 a12 b12 c12 d12 a13 b13 c13 d13 a14 b14 c14 d14 a15 b15 c15 d15 a16 b16 c16 d16 a17 b17 c17 d17 a18 b18 c18 d18 a19 b19 c19 d19 a20 b20 c20 d20 a21 b21 c21 d21 a22 b22 c22 d22 a23 b23 c23 d23 a24 b24 c24 d24 a25 b25 c25 d25 a26 b26 c26 d26 a27 b27 c27 d27 a28 b28 c28 d28 a29 b29 c29 d29 a30 b30 c30 d30 a31 b31 c31 d31 a32 b32 c32 d32 a33 b33 c33 d33 a34 b34 c34 d34 a35 b35 c35 d35 a36 b36 c36 d36 a37 b37 c37 d37 a38 b38 c38 d38 a39 b39 c39 d39 a40 b40 c40 d40 a41 b41 c41 d41 a42 b42 c42 d42 a43 b43 c43 d43 a44 b44 c44 d44 a45 b45 c45 d45 a46 b46 a47 b47 c47 d47 a48 b48 a49 b49 c49 d49 a50 b50 a51 b51 c51 d51 a52 b52 a53 b53 c53 d53 a54 b54 a55 b55 c55 d55 a56 b56 a57 b57 c57 d57 a58 b58 a59 b59
      omega
    subst q59
    clear a4 b4 c4 d4 a5 b5 c5 d5 a6 b6 c6 d6 a7 b7 c7 d7 a8 b8 c8 d8 a9 b9 c9 d9 a10 b10 c10 d10 a11 b11 c11 d11 a12 b12 c12 d12 a13 b13 c13 d13 a14 b14 c14 d14 a15 b15 c15 d15 a16 b16 c16 d16 a17 b17 c17 d17 a18 b18 c18 d18 a19 b19 c19 d19 a20 b20 c20 d20 a21 b21 c21 d21 a22 b22 c22 d22 a23 b23 c23 d23 a24 b24 c24 d24 a25 b25 c25 d25 a26 b26 c26 d26 a27 b27 c27 d27 a28 b28 c28 d28 a29 b29 c29 d29 a30 b30 c30 d30 a31 b31 c31 d31 a32 b32 c32 d32 a33 b33 c33 d33 a34 b34 c34 d34 a35 b35 c35 d35 a36 b36 c36 d36 a37 b37 c37 d37 a38 b38 c38 d38 a39 b39 c39 d39 a40 b40 c40 d40 a41 b41 c41 d41 a42 b42 c42 d42 a43 b43 c43 d43 a44 b44 c44 d44 a45 b45 c45 d45 a46 b46 c46 d46 a47 b47 c47 d47 a48 b48 c48 d48 a49 b49 c49 d49 a50 b50 c50 d50 a51 b51 c51 d51 a52 b52 c52 d52 a53 b53 c53 d53 a54 b54 c54 d54 a55 b55 c55 d55 a56 b56 c56 d56 a57 b57 c57 d57 a58 b58 c58 d58 a59 b59 c59 d59
    simp only [num]
    omega

def B_rp (S : Nat → List (List Int) → List (List Int) → Prop) (K : List (List Int) → List (List Int) → Prop) : Prop :=
 
 K [] [[18446744073709551597, 18446744073709551615, 18446744073709551615, 9223372036854775807]]
theorem p_rp (G) : B_rp (SG G) (KB k_rp.res 28) := by
  unfold B_rp
  refine ⟨?_, ?_⟩
  · simp [k_rp, bdsL, D.bds, inB, n4, e5, c1, by32, repB]
  · show nw [18446744073709551597, 18446744073709551615, 18446744073709551615, 9223372036854775807] = 57896044618658097711785492504343953926634992332820282019728792003956564819949
    decide

def B_rless (S : Nat → List (List Int) → List (List Int) → Prop) (K : List (List Int) → List (List Int) → Prop) : Prop :=
 ∀ r0 : List Int, inB (repB 0 18446744073709551615 4) r0 → ∀ r4 : List Int, inB (repB 0 18446744073709551615 4) r4 → 
 ((((!(decide ((List.getD r0 3 0) = (List.getD r4 3 0))))) = true →
  K [r0, r4] [[(cond (decide ((List.getD r0 3 0) < (List.getD r4 3 0))) 1 0)]]
 ) ∧ (((!(decide ((List.getD r0 3 0) = (List.getD r4 3 0))))) = false →
  ((((!(decide ((List.getD r0 2 0) = (List.getD r4 2 0))))) = true →
   K [r0, r4] [[(cond (decide ((List.getD r0 2 0) < (List.getD r4 2 0))) 1 0)]]
  ) ∧ (((!(decide ((List.getD r0 2 0) = (List.getD r4 2 0))))) = false →
   ((((!(decide ((List.getD r0 1 0) = (List.getD r4 1 0))))) = true →
    K [r0, r4] [[(cond (decide ((List.getD r0 1 0) < (List.getD r4 1 0))) 1 0)]]
   ) ∧ (((!(decide ((List.getD r0 1 0) = (List.getD r4 1 0))))) = false →
    ((((!(decide ((List.getD r0 0 0) = (List.getD r4 0 0))))) = true →
     K [r0, r4] [[(cond (decide ((List.getD r0 0 0) < (List.getD r4 0 0))) 1 0)]]
    ) ∧ (((!(decide ((List.getD r0 0 0) = (List.getD r4 0 0))))) = false →
     K [r0, r4] [[(cond (false) 1 0)]]
    ))
   ))
  ))
 ))
theorem p_rless (G) : B_rless (SG G) (KB k_rless.res 42) := by
  unfold B_rless
  intro r0 i0 r4 i4
  refine ⟨fun h0 => ?_, fun h0 => ?_⟩
  · skip
    simp only [Bool.not_eq_true', Bool.not_eq_false', Bool.not_true, Bool.not_false, decide_eq_true_eq, decide_eq_false_iff_not] at h0
    refine ⟨?_, ?_⟩
    · simp only [k_rless, bdsL, D.bds, List.cons_append, List.nil_append, List.flatten_cons, List.flatten_nil, inB, and_true]
      rw [cond_bit]
      unfold bit
      split <;> decide
    · show (cond (decide ((List.getD r0 3 0) < (List.getD r4 3 0))) 1 0) = bit (nw r0 < nw r4)
      obtain ⟨x0, x1, x2, x3, rfl, x0l, x0u, x1l, x1u, x2l, x2u, x3l, x3u⟩ := in_4 i0
      obtain ⟨y0, y1, y2, y3, rfl, y0l, y0u, y1l, y1u, y2l, y2u, y3l, y3u⟩ := in_4 i4
      simp only [num, List.getD_cons_zero, List.getD_cons_succ] at *
      rw [cond_bit]
      unfold bit
      (repeat' split) <;> omega
  · skip
    simp only [Bool.not_eq_true', Bool.not_eq_false', Bool.not_true, Bool.not_false, decide_eq_true_eq, decide_eq_false_iff_not] at h0
    refine ⟨fun h1 => ?_, fun h1 => ?_⟩
    · skip
      simp only [Bool.not_eq_true', Bool.not_eq_false', Bool.not_true, Bool.not_false, decide_eq_true_eq, decide_eq_false_iff_not] at h1
      refine ⟨?_, ?_⟩
      · simp only [k_rless, bdsL, D.bds, List.cons_append, List.nil_append, List.flatten_cons, List.flatten_nil, inB, and_true]
        rw [cond_bit]
        unfold bit
        split <;> decide
      · show (cond (decide ((List.getD r0 2 0) < (List.getD r4 2 0))) 1 0) = bit (nw r0 < nw r4)
        obtain ⟨x0, x1, x2, x3, rfl, x0l, x0u, x1l, x1u, x2l, x2u, x3l, x3u⟩ := in_4 i0
        obtain ⟨y0, y1, y2, y3, rfl, y0l, y0u, y1l, y1u, y2l, y2u, y3l, y3u⟩ := in_4 i4
        simp only [num, List.getD_cons_zero, List.getD_cons_succ] at *
        rw [cond_bit]
        unfold bit
        (repeat' split) <;> omega
    · skip
      simp only [Bool.not_eq_true', Bool.not_eq_false', Bool.not_true, Bool.not_false, decide_eq_true_eq, decide_eq_false_iff_not] at h1
      refine ⟨fun h2 => ?_, fun h2 => ?_⟩
      · skip
        simp only [Bool.not_eq_true', Bool.not_eq_false', Bool.not_true, Bool.not_false, decide_eq_true_eq, decide_eq_false_iff_not] at h2
        refine ⟨?_, ?_⟩
        · simp only [k_rless, bdsL, D.bds, List.cons_append, List.nil_append, List.flatten_cons, List.flatten_nil, inB, and_true]
          rw [cond_bit]
          unfold bit
          split <;> decide
        · show (cond (decide ((List.getD r0 1 0) < (List.getD r4 1 0))) 1 0) = bit (nw r0 < nw r4)
          obtain ⟨x0, x1, x2, x3, rfl, x0l, x0u, x1l, x1u, x2l, x2u, x3l, x3u⟩ := in_4 i0
          obtain ⟨y0, y1, y2, y3, rfl, y0l, y0u, y1l, y1u, y2l, y2u, y3l, y3u⟩ := in_4 i4
          simp only [num, List.getD_cons_zero, List.getD_cons_succ] at *
          rw [cond_bit]
          unfold bit
          (repeat' split) <;> omega
      · skip
        simp only [Bool.not_eq_true', Bool.not_eq_false', Bool.not_true, Bool.not_false, decide_eq_true_eq, decide_eq_false_iff_not] at h2
        refine ⟨fun h3 => ?_, fun h3 => ?_⟩
        · skip
          simp only [Bool.not_eq_true', Bool.not_eq_false', Bool.not_true, Bool.not_false, decide_eq_true_eq, decide_eq_false_iff_not] at h3
          refine ⟨?_, ?_⟩
          · simp only [k_rless, bdsL, D.bds, List.cons_append, List.nil_append, List.flatten_cons, List.flatten_nil, inB, and_true]
            rw [cond_bit]
            unfold bit
            split <;> decide
          · show (cond (decide ((List.getD r0 0 0) < (List.getD r4 0 0))) 1 0) = bit (nw r0 < nw r4)
            obtain ⟨x0, x1, x2, x3, rfl, x0l, x0u, x1l, x1u, x2l, x2u, x3l, x3u⟩ := in_4 i0
            obtain ⟨y0, y1, y2, y3, rfl, y0l, y0u, y1l, y1u, y2l, y2u, y3l, y3u⟩ := in_4 i4
            simp only [num, List.getD_cons_zero, List.getD_cons_succ] at *
            rw [cond_bit]
            unfold bit
            (repeat' split) <;> omega
        · skip
          simp only [Bool.not_eq_true', Bool.not_eq_false', Bool.not_true, Bool.not_false, decide_eq_true_eq, decide_eq_false_iff_not] at h3
          refine ⟨?_, ?_⟩
          · simp only [k_rless, bdsL, D.bds, List.cons_append, List.nil_append, List.flatten_cons, List.flatten_nil, inB, and_true]
            decide
          · show (cond (false) 1 0) = bit (nw r0 < nw r4)
            obtain ⟨x0, x1, x2, x3, rfl, x0l, x0u, x1l, x1u, x2l, x2u, x3l, x3u⟩ := in_4 i0
            obtain ⟨y0, y1, y2, y3, rfl, y0l, y0u, y1l, y1u, y2l, y2u, y3l, y3u⟩ := in_4 i4
            simp only [num, List.getD_cons_zero, List.getD_cons_succ] at *
            unfold bit
            simp only [cond_false]
            split <;> omega

def B_rminus (S : Nat → List (List Int) → List (List Int) → Prop) (K : List (List Int) → List (List Int) → Prop) : Prop :=
 ∀ r0 : List Int, inB (repB 0 18446744073709551615 4) r0 → ∀ r4 : List Int, inB (repB 0 18446744073709551615 4) r4 → 
 ∀ z8 : Int, (-1) ≤ z8 → z8 ≤ 0 → 0 ≤ ((List.getD r0 0 0) + ((-1) * (List.getD r4 0 0))) - 18446744073709551616 * z8 → ((List.getD r0 0 0) + ((-1) * (List.getD r4 0 0))) - 18446744073709551616 * z8 < 18446744073709551616 →
 ∀ z9 : Int, (-1) ≤ z9 → z9 ≤ 0 → 0 ≤ ((List.getD r0 1 0) + (((-1) * (List.getD r4 1 0)) + z8)) - 18446744073709551616 * z9 → ((List.getD r0 1 0) + (((-1) * (List.getD r4 1 0)) + z8)) - 18446744073709551616 * z9 < 18446744073709551616 →
 ∀ z10 : Int, (-1) ≤ z10 → z10 ≤ 0 → 0 ≤ ((List.getD r0 2 0) + (((-1) * (List.getD r4 2 0)) + z9)) - 18446744073709551616 * z10 → ((List.getD r0 2 0) + (((-1) * (List.getD r4 2 0)) + z9)) - 18446744073709551616 * z10 < 18446744073709551616 →
 ∀ z11 : Int, (-1) ≤ z11 → z11 ≤ 0 → 0 ≤ ((List.getD r0 3 0) + (((-1) * (List.getD r4 3 0)) + z10)) - 18446744073709551616 * z11 → ((List.getD r0 3 0) + (((-1) * (List.getD r4 3 0)) + z10)) - 18446744073709551616 * z11 < 18446744073709551616 →
 K [r0, r4] [[((List.getD r0 0 0) + (((-1) * (List.getD r4 0 0)) + ((-18446744073709551616) * z8))), ((List.getD r0 1 0) + (((-1) * (List.getD r4 1 0)) + (z8 + ((-18446744073709551616) * z9)))), ((List.getD r0 2 0) + (((-1) * (List.getD r4 2 0)) + (z9 + ((-18446744073709551616) * z10)))), ((List.getD r0 3 0) + (((-1) * (List.getD r4 3 0)) + (z10 + ((-18446744073709551616) * z11))))], [((-1) * z11)]]
theorem p_rminus (G) : B_rminus (SG G) (KB k_rminus.res 55) := by
  unfold B_rminus
  intro r0 i0 r4 i4 z8 a8 b8 c8 d8 z9 a9 b9 c9 d9 z10 a10 b10 c10 d10 z11 a11 b11 c11 d11
  refine ⟨?_, ?_⟩
  · obtain ⟨x0, x1, x2, x3, rfl, x0l, x0u, x1l, x1u, x2l, x2u, x3l, x3u⟩ := in_4 i0
    obtain ⟨y0, y1, y2, y3, rfl, y0l, y0u, y1l, y1u, y2l, y2u, y3l, y3u⟩ := in_4 i4
    simp only [k_rminus, bdsL, D.bds, n4, c1, repB, List.cons_append, List.nil_append, List.append_nil, List.flatten_cons, List.flatten_nil, inB, and_true, List.getD_cons_zero, List.getD_cons_succ] at *
    omega
  · show nw [((List.getD r0 0 0) + (((-1) * (List.getD r4 0 0)) + ((-18446744073709551616) * z8))), ((List.getD r0 1 0) + (((-1) * (List.getD r4 1 0)) + (z8 + ((-18446744073709551616) * z9)))), ((List.getD r0 2 0) + (((-1) * (List.getD r4 2 0)) + (z9 + ((-18446744073709551616) * z10)))), ((List.getD r0 3 0) + (((-1) * (List.getD r4 3 0)) + (z10 + ((-18446744073709551616) * z11))))] = nw r0 - nw r4 + 115792089237316195423570985008687907853269984665640564039457584007913129639936 * ((-1) * z11)
    obtain ⟨x0, x1, x2, x3, rfl, x0l, x0u, x1l, x1u, x2l, x2u, x3l, x3u⟩ := in_4 i0
    obtain ⟨y0, y1, y2, y3, rfl, y0l, y0u, y1l, y1u, y2l, y2u, y3l, y3u⟩ := in_4 i4
    simp only [num, List.getD_cons_zero, List.getD_cons_succ] at *
    omega

def B_rplus (S : Nat → List (List Int) → List (List Int) → Prop) (K : List (List Int) → List (List Int) → Prop) : Prop :=
 ∀ r0 : List Int, inB (repB 0 18446744073709551615 4) r0 → ∀ r4 : List Int, inB (repB 0 18446744073709551615 4) r4 → 
 ∀ z8 : Int, 0 ≤ z8 → z8 ≤ 1 → 0 ≤ ((List.getD r0 0 0) + (List.getD r4 0 0)) - 18446744073709551616 * z8 → ((List.getD r0 0 0) + (List.getD r4 0 0)) - 18446744073709551616 * z8 < 18446744073709551616 →
 ∀ z9 : Int, 0 ≤ z9 → z9 ≤ 1 → 0 ≤ ((List.getD r0 1 0) + ((List.getD r4 1 0) + z8)) - 18446744073709551616 * z9 → ((List.getD r0 1 0) + ((List.getD r4 1 0) + z8)) - 18446744073709551616 * z9 < 18446744073709551616 →
 ∀ z10 : Int, 0 ≤ z10 → z10 ≤ 1 → 0 ≤ ((List.getD r0 2 0) + ((List.getD r4 2 0) + z9)) - 18446744073709551616 * z10 → ((List.getD r0 2 0) + ((List.getD r4 2 0) + z9)) - 18446744073709551616 * z10 < 18446744073709551616 →
 ∀ z11 : Int, 0 ≤ z11 → z11 ≤ 1 → 0 ≤ ((List.getD r0 3 0) + ((List.getD r4 3 0) + z10)) - 18446744073709551616 * z11 → ((List.getD r0 3 0) + ((List.getD r4 3 0) + z10)) - 18446744073709551616 * z11 < 18446744073709551616 →
 K [r0, r4] [[((List.getD r0 0 0) + ((List.getD r4 0 0) + ((-18446744073709551616) * z8))), ((List.getD r0 1 0) + ((List.getD r4 1 0) + (z8 + ((-18446744073709551616) * z9)))), ((List.getD r0 2 0) + ((List.getD r4 2 0) + (z9 + ((-18446744073709551616) * z10)))), ((List.getD r0 3 0) + ((List.getD r4 3 0) + (z10 + ((-18446744073709551616) * z11))))], [z11]]
theorem p_rplus (G) : B_rplus (SG G) (KB k_rplus.res 56) := by
  unfold B_rplus
  intro r0 i0 r4 i4 z8 a8 b8 c8 d8 z9 a9 b9 c9 d9 z10 a10 b10 c10 d10 z11 a11 b11 c11 d11
  refine ⟨?_, ?_⟩
  · obtain ⟨x0, x1, x2, x3, rfl, x0l, x0u, x1l, x1u, x2l, x2u, x3l, x3u⟩ := in_4 i0
    obtain ⟨y0, y1, y2, y3, rfl, y0l, y0u, y1l, y1u, y2l, y2u, y3l, y3u⟩ := in_4 i4
    simp only [k_rplus, bdsL, D.bds, n4, c1, repB, List.cons_append, List.nil_append, List.append_nil, List.flatten_cons, List.flatten_nil, inB, and_true, List.getD_cons_zero, List.getD_cons_succ] at *
    omega
  · show nw [((List.getD r0 0 0) + ((List.getD r4 0 0) + ((-18446744073709551616) * z8))), ((List.getD r0 1 0) + ((List.getD r4 1 0) + (z8 + ((-18446744073709551616) * z9)))), ((List.getD r0 2 0) + ((List.getD r4 2 0) + (z9 + ((-18446744073709551616) * z10)))), ((List.getD r0 3 0) + ((List.getD r4 3 0) + (z10 + ((-18446744073709551616) * z11))))] = nw r0 + nw r4 - 115792089237316195423570985008687907853269984665640564039457584007913129639936 * z11
    obtain ⟨x0, x1, x2, x3, rfl, x0l, x0u, x1l, x1u, x2l, x2u, x3l, x3u⟩ := in_4 i0
    obtain ⟨y0, y1, y2, y3, rfl, y0l, y0u, y1l, y1u, y2l, y2u, y3l, y3u⟩ := in_4 i4
    simp only [num, List.getD_cons_zero, List.getD_cons_succ] at *
    omega

def B_rcut (S : Nat → List (List Int) → List (List Int) → Prop) (K : List (List Int) → List (List Int) → Prop) : Prop :=
 ∀ r0 : List Int, inB (repB 0 18446744073709551615 4) r0 → 
 ∀ r4 : List Int, inB (repB 0 18446744073709551615 4) r4 → S 28 [] [r4] →
 ∀ z8 : Int, 0 ≤ z8 → z8 ≤ 1 → S 42 [r0, r4] [[z8]] →
 ((((!(decide (z8 = 1)))) = true →
  ∀ r9 : List Int, inB (repB 0 18446744073709551615 4) r9 → S 28 [] [r9] →
  ∀ r13 : List Int, inB (repB 0 18446744073709551615 4) r13 → ∀ z17 : Int, 0 ≤ z17 → z17 ≤ 1 → S 55 [r0, r9] [r13, [z17]] →
  ∀ r18 : List Int, inB (repB 0 18446744073709551615 4) r18 → S 28 [] [r18] →
  ∀ z22 : Int, 0 ≤ z22 → z22 ≤ 1 → S 42 [r13, r18] [[z22]] →
  ((((!(decide (z22 = 1)))) = true →
   ∀ r23 : List Int, inB (repB 0 18446744073709551615 4) r23 → S 28 [] [r23] →
   ∀ r27 : List Int, inB (repB 0 18446744073709551615 4) r27 → ∀ z31 : Int, 0 ≤ z31 → z31 ≤ 1 → S 55 [r13, r23] [r27, [z31]] →
   ∀ r32 : List Int, inB (repB 0 18446744073709551615 4) r32 → S 28 [] [r32] →
   ∀ z36 : Int, 0 ≤ z36 → z36 ≤ 1 → S 42 [r27, r32] [[z36]] →
   ((((!(decide (z36 = 1)))) = true →
    ∀ r37 : List Int, inB (repB 0 18446744073709551615 4) r37 → S 28 [] [r37] →
    ∀ r41 : List Int, inB (repB 0 18446744073709551615 4) r41 → ∀ z45 : Int, 0 ≤ z45 → z45 ≤ 1 → S 55 [r27, r37] [r41, [z45]] →
    K [r0] [r41]
   ) ∧ (((!(decide (z36 = 1)))) = false →
    K [r0] [r27]
   ))
  ) ∧ (((!(decide (z22 = 1)))) = false →
   ∀ r23 : List Int, inB (repB 0 18446744073709551615 4) r23 → S 28 [] [r23] →
   ∀ z27 : Int, 0 ≤ z27 → z27 ≤ 1 → S 42 [r13, r23] [[z27]] →
   ((((!(decide (z27 = 1)))) = true →
    ∀ r28 : List Int, inB (repB 0 18446744073709551615 4) r28 → S 28 [] [r28] →
    ∀ r32 : List Int, inB (repB 0 18446744073709551615 4) r32 → ∀ z36 : Int, 0 ≤ z36 → z36 ≤ 1 → S 55 [r13, r28] [r32, [z36]] →
    K [r0] [r32]
   ) ∧ (((!(decide (z27 = 1)))) = false →
    K [r0] [r13]
   ))
  ))
 ) ∧ (((!(decide (z8 = 1)))) = false →
  ∀ r9 : List Int, inB (repB 0 18446744073709551615 4) r9 → S 28 [] [r9] →
  ∀ z13 : Int, 0 ≤ z13 → z13 ≤ 1 → S 42 [r0, r9] [[z13]] →
  ((((!(decide (z13 = 1)))) = true →
   ∀ r14 : List Int, inB (repB 0 18446744073709551615 4) r14 → S 28 [] [r14] →
   ∀ r18 : List Int, inB (repB 0 18446744073709551615 4) r18 → ∀ z22 : Int, 0 ≤ z22 → z22 ≤ 1 → S 55 [r0, r14] [r18, [z22]] →
   ∀ r23 : List Int, inB (repB 0 18446744073709551615 4) r23 → S 28 [] [r23] →
   ∀ z27 : Int, 0 ≤ z27 → z27 ≤ 1 → S 42 [r18, r23] [[z27]] →
   ((((!(decide (z27 = 1)))) = true →
    ∀ r28 : List Int, inB (repB 0 18446744073709551615 4) r28 → S 28 [] [r28] →
    ∀ r32 : List Int, inB (repB 0 18446744073709551615 4) r32 → ∀ z36 : Int, 0 ≤ z36 → z36 ≤ 1 → S 55 [r18, r28] [r32, [z36]] →
    K [r0] [r32]
   ) ∧ (((!(decide (z27 = 1)))) = false →
    K [r0] [r18]
   ))
  ) ∧ (((!(decide (z13 = 1)))) = false →
   ∀ r14 : List Int, inB (repB 0 18446744073709551615 4) r14 → S 28 [] [r14] →
   ∀ z18 : Int, 0 ≤ z18 → z18 ≤ 1 → S 42 [r0, r14] [[z18]] →
   ((((!(decide (z18 = 1)))) = true →
    ∀ r19 : List Int, inB (repB 0 18446744073709551615 4) r19 → S 28 [] [r19] →
    ∀ r23 : List Int, inB (repB 0 18446744073709551615 4) r23 → ∀ z27 : Int, 0 ≤ z27 → z27 ≤ 1 → S 55 [r0, r19] [r23, [z27]] →
    K [r0] [r23]
   ) ∧ (((!(decide (z18 = 1)))) = false →
    K [r0] [r0]
   ))
  ))
 ))
theorem p_rcut (G) : B_rcut (SG G) (KB k_rcut.res 39) := by
  unfold B_rcut
  intro r0 i0 r4 i4 s0 z8 a8 b8 s1
  have s0 : nw r4 = 57896044618658097711785492504343953926634992332820282019728792003956564819949 := s0.1
  have s1 : z8 = bit (nw r0 < nw r4) := s1.1
  refine ⟨fun h0 => ?_, fun h0 => ?_⟩
  · skip
    simp only [Bool.not_eq_true', Bool.not_eq_false', Bool.not_true, Bool.not_false, decide_eq_true_eq, decide_eq_false_iff_not] at h0
    intro r9 i9 s2 r13 i13 z17 a17 b17 s3 r18 i18 s4 z22 a22 b22 s5
    have s2 : nw r9 = 57896044618658097711785492504343953926634992332820282019728792003956564819949 := s2.1
    have s3 : nw r13 = nw r0 - nw r9 + 115792089237316195423570985008687907853269984665640564039457584007913129639936 * z17 := s3.1
    have s4 : nw r18 = 57896044618658097711785492504343953926634992332820282019728792003956564819949 := s4.1
    have s5 : z22 = bit (nw r13 < nw r18) := s5.1
    refine ⟨fun h1 => ?_, fun h1 => ?_⟩
    · skip
      simp only [Bool.not_eq_true', Bool.not_eq_false', Bool.not_true, Bool.not_false, decide_eq_true_eq, decide_eq_false_iff_not] at h1
      intro r23 i23 s6 r27 i27 z31 a31 b31 s7 r32 i32 s8 z36 a36 b36 s9
      have s6 : nw r23 = 57896044618658097711785492504343953926634992332820282019728792003956564819949 := s6.1
      have s7 : nw r27 = nw r13 - nw r23 + 115792089237316195423570985008687907853269984665640564039457584007913129639936 * z31 := s7.1
      have s8 : nw r32 = 57896044618658097711785492504343953926634992332820282019728792003956564819949 := s8.1
      have s9 : z36 = bit (nw r27 < nw r32) := s9.1
      refine ⟨fun h2 => ?_, fun h2 => ?_⟩
      · skip
        simp only [Bool.not_eq_true', Bool.not_eq_false', Bool.not_true, Bool.not_false, decide_eq_true_eq, decide_eq_false_iff_not] at h2
        intro r37 i37 s10 r41 i41 z45 a45 b45 s11
        have s10 : nw r37 = 57896044618658097711785492504343953926634992332820282019728792003956564819949 := s10.1
        have s11 : nw r41 = nw r27 - nw r37 + 115792089237316195423570985008687907853269984665640564039457584007913129639936 * z45 := s11.1
        refine ⟨?_, ?_⟩
        · exact app_nil i41
        · show nw r41 = nw r0 % 57896044618658097711785492504343953926634992332820282019728792003956564819949
          have n0 := nw_b i0
          have n4 := nw_b i4
          have n9 := nw_b i9
          have n13 := nw_b i13
          have n18 := nw_b i18
          have n23 := nw_b i23
          have n27 := nw_b i27
          have n32 := nw_b i32
          have n37 := nw_b i37
          have n41 := nw_b i41
          generalize nw r0 = N0 at *
          generalize nw r4 = N4 at *
          generalize nw r9 = N9 at *
          generalize nw r13 = N13 at *
          generalize nw r18 = N18 at *
          generalize nw r23 = N23 at *
          generalize nw r27 = N27 at *
          generalize nw r32 = N32 at *
          generalize nw r37 = N37 at *
          generalize nw r41 = N41 at *
          unfold bit at *
          (repeat' split at *) <;> simp_all <;> omega
      · skip
        simp only [Bool.not_eq_true', Bool.not_eq_false', Bool.not_true, Bool.not_false, decide_eq_true_eq, decide_eq_false_iff_not] at h2
        refine ⟨?_, ?_⟩
        · exact app_nil i27
        · show nw r27 = nw r0 % 57896044618658097711785492504343953926634992332820282019728792003956564819949
          have n0 := nw_b i0
          have n4 := nw_b i4
          have n9 := nw_b i9
          have n13 := nw_b i13
          have n18 := nw_b i18
          have n23 := nw_b i23
          have n27 := nw_b i27
          have n32 := nw_b i32
          generalize nw r0 = N0 at *
          generalize nw r4 = N4 at *
          generalize nw r9 = N9 at *
          generalize nw r13 = N13 at *
          generalize nw r18 = N18 at *
          generalize nw r23 = N23 at *
          generalize nw r27 = N27 at *
          generalize nw r32 = N32 at *
          unfold bit at *
          (repeat' split at *) <;> simp_all <;> omega
    · skip
      simp only [Bool.not_eq_true', Bool.not_eq_false', Bool.not_true, Bool.not_false, decide_eq_true_eq, decide_eq_false_iff_not] at h1
      intro r23 i23 s6 z27 a27 b27 s7
      have s6 : nw r23 = 57896044618658097711785492504343953926634992332820282019728792003956564819949 := s6.1
      have s7 : z27 = bit (nw r13 < nw r23) := s7.1
      refine ⟨fun h3 => ?_, fun h3 => ?_⟩
      · skip
        simp only [Bool.not_eq_true', Bool.not_eq_false', Bool.not_true, Bool.not_false, decide_eq_true_eq, decide_eq_false_iff_not] at h3
        intro r28 i28 s8 r32 i32 z36 a36 b36 s9
        have s8 : nw r28 = 57896044618658097711785492504343953926634992332820282019728792003956564819949 := s8.1
        have s9 : nw r32 = nw r13 - nw r28 + 115792089237316195423570985008687907853269984665640564039457584007913129639936 * z36 := s9.1
        refine ⟨?_, ?_⟩
        · exact app_nil i32
        · show nw r32 = nw r0 % 57896044618658097711785492504343953926634992332820282019728792003956564819949
          have n0 := nw_b i0
          have n4 := nw_b i4
          have n9 := nw_b i9
          have n13 := nw_b i13
          have n18 := nw_b i18
          have n23 := nw_b i23
          have n28 := nw_b i28
          have n32 := nw_b i32
          generalize nw r0 = N0 at *
          generalize nw r4 = N4 at *
          generalize nw r9 = N9 at *
          generalize nw r13 = N13 at *
          generalize nw r18 = N18 at *
          generalize nw r23 = N23 at *
          generalize nw r28 = N28 at *
          generalize nw r32 = N32 at *
          unfold bit at *
          (repeat' split at *) <;> simp_all <;> omega
      · skip
        simp only [Bool.not_eq_true', Bool.not_eq_false', Bool.not_true, Bool.not_false, decide_eq_true_eq, decide_eq_false_iff_not] at h3
        refine ⟨?_, ?_⟩
        · exact app_nil i13
        · show nw r13 = nw r0 % 57896044618658097711785492504343953926634992332820282019728792003956564819949
          have n0 := nw_b i0
          have n4 := nw_b i4
          have n9 := nw_b i9
          have n13 := nw_b i13
          have n18 := nw_b i18
          have n23 := nw_b i23
          generalize nw r0 = N0 at *
          generalize nw r4 = N4 at *
          generalize nw r9 = N9 at *
          generalize nw r13 = N13 at *
          generalize nw r18 = N18 at *
          generalize nw r23 = N23 at *
          unfold bit at *
          (repeat' split at *) <;> simp_all <;> omega
  · skip
    simp only [Bool.not_eq_true', Bool.not_eq_false', Bool.not_true, Bool.not_false, decide_eq_true_eq, decide_eq_false_iff_not] at h0
    intro r9 i9 s2 z13 a13 b13 s3
    have s2 : nw r9 = 57896044618658097711785492504343953926634992332820282019728792003956564819949 := s2.1
    have s3 : z13 = bit (nw r0 < nw r9) := s3.1
    refine ⟨fun h4 => ?_, fun h4 => ?_⟩
    · skip
      simp only [Bool.not_eq_true', Bool.not_eq_false', Bool.not_true, Bool.not_false, decide_eq_true_eq, decide_eq_false_iff_not] at h4
      intro r14 i14 s4 r18 i18 z22 a22 b22 s5 r23 i23 s6 z27 a27 b27 s7
      have s4 : nw r14 = 57896044618658097711785492504343953926634992332820282019728792003956564819949 := s4.1
      have s5 : nw r18 = nw r0 - nw r14 + 115792089237316195423570985008687907853269984665640564039457584007913129639936 * z22 := s5.1
      have s6 : nw r23 = 57896044618658097711785492504343953926634992332820282019728792003956564819949 := s6.1
      have s7 : z27 = bit (nw r18 < nw r23) := s7.1
      refine ⟨fun h5 => ?_, fun h5 => ?_⟩
      · skip
        simp only [Bool.not_eq_true', Bool.not_eq_false', Bool.not_true, Bool.not_false, decide_eq_true_eq, decide_eq_false_iff_not] at h5
        intro r28 i28 s8 r32 i32 z36 a36 b36 s9
        have s8 : nw r28 = 57896044618658097711785492504343953926634992332820282019728792003956564819949 := s8.1
        have s9 : nw r32 = nw r18 - nw r28 + 115792089237316195423570985008687907853269984665640564039457584007913129639936 * z36 := s9.1
        refine ⟨?_, ?_⟩
        · exact app_nil i32
        · show nw r32 = nw r0 % 57896044618658097711785492504343953926634992332820282019728792003956564819949
          have n0 := nw_b i0
          have n4 := nw_b i4
          have n9 := nw_b i9
          have n14 := nw_b i14
          have n18 := nw_b i18
          have n23 := nw_b i23
          have n28 := nw_b i28
          have n32 := nw_b i32
          generalize nw r0 = N0 at *
          generalize nw r4 = N4 at *
          generalize nw r9 = N9 at *
          generalize nw r14 = N14 at *
          generalize nw r18 = N18 at *
          generalize nw r23 = N23 at *
          generalize nw r28 = N28 at *
          generalize nw r32 = N32 at *
          unfold bit at *
          (repeat' split at *) <;> simp_all <;> omega
      · skip
        simp only [Bool.not_eq_true', Bool.not_eq_false', Bool.not_true, Bool.not_false, decide_eq_true_eq, decide_eq_false_iff_not] at h5
        refine ⟨?_, ?_⟩
        · exact app_nil i18
        · show nw r18 = nw r0 % 57896044618658097711785492504343953926634992332820282019728792003956564819949
          have n0 := nw_b i0
          have n4 := nw_b i4
          have n9 := nw_b i9
          have n14 := nw_b i14
          have n18 := nw_b i18
          have n23 := nw_b i23
          generalize nw r0 = N0 at *
          generalize nw r4 = N4 at *
          generalize nw r9 = N9 at *
          generalize nw r14 = N14 at *
          generalize nw r18 = N18 at *
          generalize nw r23 = N23 at *
          unfold bit at *
          (repeat' split at *) <;> simp_all <;> omega
    · skip
      simp only [Bool.not_eq_true', Bool.not_eq_false', Bool.not_true, Bool.not_false, decide_eq_true_eq, decide_eq_false_iff_not] at h4
      intro r14 i14 s4 z18 a18 b18 s5
      have s4 : nw r14 = 57896044618658097711785492504343953926634992332820282019728792003956564819949 := s4.1
      have s5 : z18 = bit (nw r0 < nw r14) := s5.1
      refine ⟨fun h6 => ?_, fun h6 => ?_⟩
      · skip
        simp only [Bool.not_eq_true', Bool.not_eq_false', Bool.not_true, Bool.not_false, decide_eq_true_eq, decide_eq_false_iff_not] at h6
        intro r19 i19 s6 r23 i23 z27 a27 b27 s7
        have s6 : nw r19 = 57896044618658097711785492504343953926634992332820282019728792003956564819949 := s6.1
        have s7 : nw r23 = nw r0 - nw r19 + 115792089237316195423570985008687907853269984665640564039457584007913129639936 * z27 := s7.1
        refine ⟨?_, ?_⟩
        · exact app_nil i23
        · show nw r23 = nw r0 % 57896044618658097711785492504343953926634992332820282019728792003956564819949
          have n0 := nw_b i0
          have n4 := nw_b i4
          have n9 := nw_b i9
          have n14 := nw_b i14
          have n19 := nw_b i19
          have n23 := nw_b i23
          generalize nw r0 = N0 at *
          generalize nw r4 = N4 at *
          generalize nw r9 = N9 at *
          generalize nw r14 = N14 at *
          generalize nw r19 = N19 at *
          generalize nw r23 = N23 at *
          unfold bit at *
          (repeat' split at *) <;> simp_all <;> omega
      · skip
        simp only [Bool.not_eq_true', Bool.not_eq_false', Bool.not_true, Bool.not_false, decide_eq_true_eq, decide_eq_false_iff_not] at h6
        refine ⟨?_, ?_⟩
        · exact app_nil i0
        · show nw r0 = nw r0 % 57896044618658097711785492504343953926634992332820282019728792003956564819949
          have n0 := nw_b i0
          have n4 := nw_b i4
          have n9 := nw_b i9
          have n14 := nw_b i14
          generalize nw r0 = N0 at *
          generalize nw r4 = N4 at *
          generalize nw r9 = N9 at *
          generalize nw r14 = N14 at *
          unfold bit at *
          (repeat' split at *) <;> simp_all <;> omega

def B_rsum (S : Nat → List (List Int) → List (List Int) → Prop) (K : List (List Int) → List (List Int) → Prop) : Prop :=
 ∀ r0 : List Int, inB (repB 0 18446744073709551615 4) r0 → ∀ r4 : List Int, inB (repB 0 18446744073709551615 4) r4 → 
 ∀ r8 : List Int, inB (repB 0 18446744073709551615 4) r8 → ∀ z12 : Int, 0 ≤ z12 → z12 ≤ 1 → S 56 [r0, r4] [r8, [z12]] →
 ∀ r13 : List Int, inB (repB 0 18446744073709551615 4) r13 → S 39 [r8] [r13] →
 K [r0, r4] [r13]
theorem p_rsum (G) : B_rsum (SG G) (KB k_rsum.res 40) := by
  unfold B_rsum
  intro r0 i0 r4 i4 r8 i8 z12 a12 b12 s0 r13 i13 s1
  have s0 : nw r8 = nw r0 + nw r4 - 115792089237316195423570985008687907853269984665640564039457584007913129639936 * z12 := s0.1
  have s1 : nw r13 = nw r8 % 57896044618658097711785492504343953926634992332820282019728792003956564819949 := s1.1
  refine ⟨?_, ?_⟩
  · exact app_nil i13
  · show nw r13 = (nw r0 + nw r4) % 115792089237316195423570985008687907853269984665640564039457584007913129639936 % 57896044618658097711785492504343953926634992332820282019728792003956564819949
    have n0 := nw_b i0
    have n4 := nw_b i4
    have n8 := nw_b i8
    have n13 := nw_b i13
    generalize nw r0 = N0 at *
    generalize nw r4 = N4 at *
    generalize nw r8 = N8 at *
    generalize nw r13 = N13 at *
    omega

def B_rdiff (S : Nat → List (List Int) → List (List Int) → Prop) (K : List (List Int) → List (List Int) → Prop) : Prop :=
 ∀ r0 : List Int, inB (repB 0 18446744073709551615 4) r0 → ∀ r4 : List Int, inB (repB 0 18446744073709551615 4) r4 → 
 ∀ z8 : Int, 0 ≤ z8 → z8 ≤ 1 → S 42 [r0, r4] [[z8]] →
 (((decide (z8 = 1)) = true →
  ∀ r9 : List Int, inB (repB 0 18446744073709551615 4) r9 → S 28 [] [r9] →
  ∀ r13 : List Int, inB (repB 0 18446744073709551615 4) r13 → ∀ z17 : Int, 0 ≤ z17 → z17 ≤ 1 → S 56 [r0, r9] [r13, [z17]] →
  ∀ r18 : List Int, inB (repB 0 18446744073709551615 4) r18 → ∀ z22 : Int, 0 ≤ z22 → z22 ≤ 1 → S 55 [r13, r4] [r18, [z22]] →
  K [r0, r4] [r18]
 ) ∧ ((decide (z8 = 1)) = false →
  ∀ r9 : List Int, inB (repB 0 18446744073709551615 4) r9 → ∀ z13 : Int, 0 ≤ z13 → z13 ≤ 1 → S 55 [r0, r4] [r9, [z13]] →
  K [r0, r4] [r9]
 ))
theorem p_rdiff (G) : B_rdiff (SG G) (KB k_rdiff.res 41) := by
  unfold B_rdiff
  intro r0 i0 r4 i4 z8 a8 b8 s0
  have s0 : z8 = bit (nw r0 < nw r4) := s0.1
  refine ⟨fun h0 => ?_, fun h0 => ?_⟩
  · skip
    simp only [Bool.not_eq_true', Bool.not_eq_false', Bool.not_true, Bool.not_false, decide_eq_true_eq, decide_eq_false_iff_not] at h0
    intro r9 i9 s1 r13 i13 z17 a17 b17 s2 r18 i18 z22 a22 b22 s3
    have s1 : nw r9 = 57896044618658097711785492504343953926634992332820282019728792003956564819949 := s1.1
    have s2 : nw r13 = nw r0 + nw r9 - 115792089237316195423570985008687907853269984665640564039457584007913129639936 * z17 := s2.1
    have s3 : nw r18 = nw r13 - nw r4 + 115792089237316195423570985008687907853269984665640564039457584007913129639936 * z22 := s3.1
    refine ⟨?_, ?_⟩
    · exact app_nil i18
    · show nw r18 = (nw r0 - nw r4 + (if nw r0 < nw r4 then 57896044618658097711785492504343953926634992332820282019728792003956564819949 else 0)) % 115792089237316195423570985008687907853269984665640564039457584007913129639936
      have n0 := nw_b i0
      have n4 := nw_b i4
      have n9 := nw_b i9
      have n13 := nw_b i13
      have n18 := nw_b i18
      generalize nw r0 = N0 at *
      generalize nw r4 = N4 at *
      generalize nw r9 = N9 at *
      generalize nw r13 = N13 at *
      generalize nw r18 = N18 at *
      unfold bit at *
      (repeat' split at *) <;> simp_all <;> omega
  · skip
    simp only [Bool.not_eq_true', Bool.not_eq_false', Bool.not_true, Bool.not_false, decide_eq_true_eq, decide_eq_false_iff_not] at h0
    intro r9 i9 z13 a13 b13 s1
    have s1 : nw r9 = nw r0 - nw r4 + 115792089237316195423570985008687907853269984665640564039457584007913129639936 * z13 := s1.1
    refine ⟨?_, ?_⟩
    · exact app_nil i9
    · show nw r9 = (nw r0 - nw r4 + (if nw r0 < nw r4 then 57896044618658097711785492504343953926634992332820282019728792003956564819949 else 0)) % 115792089237316195423570985008687907853269984665640564039457584007913129639936
      have n0 := nw_b i0
      have n4 := nw_b i4
      have n9 := nw_b i9
      generalize nw r0 = N0 at *
      generalize nw r4 = N4 at *
      generalize nw r9 = N9 at *
      unfold bit at *
      (repeat' split at *) <;> simp_all <;> omega

def B_rfold (S : Nat → List (List Int) → List (List Int) → Prop) (K : List (List Int) → List (List Int) → Prop) : Prop :=
 ∀ r0 : List Int, inB (repB 0 18446744073709551615 4) r0 → ∀ r4 : List Int, inB (repB 0 18446744073709551615 4) r4 → 
 ∀ z8 : Int, 0 ≤ z8 → z8 ≤ 37 → 0 ≤ (38 * (List.getD r4 0 0)) - 18446744073709551616 * z8 → (38 * (List.getD r4 0 0)) - 18446744073709551616 * z8 < 18446744073709551616 →
 ∀ z9 : Int, 0 ≤ z9 → z9 ≤ 37 → 0 ≤ (38 * (List.getD r4 1 0)) - 18446744073709551616 * z9 → (38 * (List.getD r4 1 0)) - 18446744073709551616 * z9 < 18446744073709551616 →
 ∀ z10 : Int, 0 ≤ z10 → z10 ≤ 1 → 0 ≤ ((38 * (List.getD r4 1 0)) + (z8 + ((-18446744073709551616) * z9))) - 18446744073709551616 * z10 → ((38 * (List.getD r4 1 0)) + (z8 + ((-18446744073709551616) * z9))) - 18446744073709551616 * z10 < 18446744073709551616 →
 ∀ z11 : Int, 0 ≤ z11 → z11 ≤ 37 → 0 ≤ (38 * (List.getD r4 2 0)) - 18446744073709551616 * z11 → (38 * (List.getD r4 2 0)) - 18446744073709551616 * z11 < 18446744073709551616 →
 ∀ z12 : Int, 0 ≤ z12 → z12 ≤ 1 → 0 ≤ ((38 * (List.getD r4 2 0)) + (z9 + (z10 + ((-18446744073709551616) * z11)))) - 18446744073709551616 * z12 → ((38 * (List.getD r4 2 0)) + (z9 + (z10 + ((-18446744073709551616) * z11)))) - 18446744073709551616 * z12 < 18446744073709551616 →
 ∀ z13 : Int, 0 ≤ z13 → z13 ≤ 37 → 0 ≤ (38 * (List.getD r4 3 0)) - 18446744073709551616 * z13 → (38 * (List.getD r4 3 0)) - 18446744073709551616 * z13 < 18446744073709551616 →
 ∀ z14 : Int, 0 ≤ z14 → z14 ≤ 1 → 0 ≤ ((38 * (List.getD r4 3 0)) + (z11 + (z12 + ((-18446744073709551616) * z13)))) - 18446744073709551616 * z14 → ((38 * (List.getD r4 3 0)) + (z11 + (z12 + ((-18446744073709551616) * z13)))) - 18446744073709551616 * z14 < 18446744073709551616 →
 ∀ r15 : List Int, inB (repB 0 18446744073709551615 4) r15 → ∀ z19 : Int, 0 ≤ z19 → z19 ≤ 1 → S 56 [r0, [((38 * (List.getD r4 0 0)) + ((-18446744073709551616) * z8)), ((38 * (List.getD r4 1 0)) + (z8 + (((-18446744073709551616) * z9) + ((-18446744073709551616) * z10)))), ((38 * (List.getD r4 2 0)) + (z9 + (z10 + (((-18446744073709551616) * z11) + ((-18446744073709551616) * z12))))), ((38 * (List.getD r4 3 0)) + (z11 + (z12 + (((-18446744073709551616) * z13) + ((-18446744073709551616) * z14)))))]] [r15, [z19]] →
 ∀ r20 : List Int, inB (repB 0 18446744073709551615 4) r20 → ∀ z24 : Int, 0 ≤ z24 → z24 ≤ 1 → S 56 [r15, [((38 * z13) + ((38 * z14) + (38 * z19))), 0, 0, 0]] [r20, [z24]] →
 (((decide (0 < z24)) = true →
  ∀ r25 : List Int, inB (repB 0 18446744073709551615 4) r25 → ∀ z29 : Int, 0 ≤ z29 → z29 ≤ 1 → S 56 [r20, [38, 0, 0, 0]] [r25, [z29]] →
  ∀ r30 : List Int, inB (repB 0 18446744073709551615 4) r30 → S 39 [r25] [r30] →
  K [r0, r4] [r30]
 ) ∧ ((decide (0 < z24)) = false →
  ∀ r25 : List Int, inB (repB 0 18446744073709551615 4) r25 → S 39 [r20] [r25] →
  K [r0, r4] [r25]
 ))
theorem p_rfold (G) : B_rfold (SG G) (KB k_rfold.res 54) := by
  unfold B_rfold
  intro r0 i0 r4 i4 z8 a8 b8 c8 d8 z9 a9 b9 c9 d9 z10 a10 b10 c10 d10 z11 a11 b11 c11 d11 z12 a12 b12 c12 d12 z13 a13 b13 c13 d13 z14 a14 b14 c14 d14 r15 i15 z19 a19 b19 s0 r20 i20 z24 a24 b24 s1
  have s0 : nw r15 = nw r0 + nw [((38 * (List.getD r4 0 0)) + ((-18446744073709551616) * z8)), ((38 * (List.getD r4 1 0)) + (z8 + (((-18446744073709551616) * z9) + ((-18446744073709551616) * z10)))), ((38 * (List.getD r4 2 0)) + (z9 + (z10 + (((-18446744073709551616) * z11) + ((-18446744073709551616) * z12))))), ((38 * (List.getD r4 3 0)) + (z11 + (z12 + (((-18446744073709551616) * z13) + ((-18446744073709551616) * z14)))))] - 115792089237316195423570985008687907853269984665640564039457584007913129639936 * z19 := s0.1
  have s1 : nw r20 = nw r15 + nw [((38 * z13) + ((38 * z14) + (38 * z19))), 0, 0, 0] - 115792089237316195423570985008687907853269984665640564039457584007913129639936 * z24 := s1.1
  refine ⟨fun h0 => ?_, fun h0 => ?_⟩
  · skip
    simp only [Bool.not_eq_true', Bool.not_eq_false', Bool.not_true, Bool.not_false, decide_eq_true_eq, decide_eq_false_iff_not] at h0
    intro r25 i25 z29 a29 b29 s2 r30 i30 s3
    have s2 : nw r25 = nw r20 + nw [38, 0, 0, 0] - 115792089237316195423570985008687907853269984665640564039457584007913129639936 * z29 := s2.1
    have s3 : nw r30 = nw r25 % 57896044618658097711785492504343953926634992332820282019728792003956564819949 := s3.1
    refine ⟨?_, ?_⟩
    · exact app_nil i30
    · show nw r30 = (nw r0 + 115792089237316195423570985008687907853269984665640564039457584007913129639936 * nw r4) % 57896044618658097711785492504343953926634992332820282019728792003956564819949
      obtain ⟨y0, y1, y2, y3, rfl, y0l, y0u, y1l, y1u, y2l, y2u, y3l, y3u⟩ := in_4 i4
      simp only [List.getD_cons_zero, List.getD_cons_succ] at *
      rw [nw_x] at s1
      have n0 := nw_b i0
      have n15 := nw_b i15
      have n20 := nw_b i20
      have hT : nw [((38 * (y0)) + ((-18446744073709551616) * z8)), ((38 * (y1)) + (z8 + (((-18446744073709551616) * z9) + ((-18446744073709551616) * z10)))), ((38 * (y2)) + (z9 + (z10 + (((-18446744073709551616) * z11) + ((-18446744073709551616) * z12))))), ((38 * (y3)) + (z11 + (z12 + (((-18446744073709551616) * z13) + ((-18446744073709551616) * z14)))))] + 115792089237316195423570985008687907853269984665640564039457584007913129639936 * (z13 + z14) = 38 * nw [y0, y1, y2, y3] := by
        clear s0 s1
        simp only [nw4]
        omega
      generalize nw [((38 * (y0)) + ((-18446744073709551616) * z8)), ((38 * (y1)) + (z8 + (((-18446744073709551616) * z9) + ((-18446744073709551616) * z10)))), ((38 * (y2)) + (z9 + (z10 + (((-18446744073709551616) * z11) + ((-18446744073709551616) * z12))))), ((38 * (y3)) + (z11 + (z12 + (((-18446744073709551616) * z13) + ((-18446744073709551616) * z14)))))] = t at *
      rw [show nw [38, 0, 0, 0] = 38 by decide] at s2
      have n25 := nw_b i25
      have e1 : z24 = 1 := by omega
      have e2 : z29 = 0 := by clear hT s0; omega
      rw [s3]
      have q2 : nw r20 = nw r15 + 38 * (z13 + z14 + z19) - 115792089237316195423570985008687907853269984665640564039457584007913129639936 * z24 := by clear hT s0; omega
      have q3 : nw r25 = nw r20 + 38 * z24 := by clear hT s0 q2 s1; omega
      exact fold_fin hT s0 q2 q3
  · skip
    simp only [Bool.not_eq_true', Bool.not_eq_false', Bool.not_true, Bool.not_false, decide_eq_true_eq, decide_eq_false_iff_not] at h0
    intro r25 i25 s2
    have s2 : nw r25 = nw r20 % 57896044618658097711785492504343953926634992332820282019728792003956564819949 := s2.1
    refine ⟨?_, ?_⟩
    · exact app_nil i25
    · show nw r25 = (nw r0 + 115792089237316195423570985008687907853269984665640564039457584007913129639936 * nw r4) % 57896044618658097711785492504343953926634992332820282019728792003956564819949
      obtain ⟨y0, y1, y2, y3, rfl, y0l, y0u, y1l, y1u, y2l, y2u, y3l, y3u⟩ := in_4 i4
      simp only [List.getD_cons_zero, List.getD_cons_succ] at *
      rw [nw_x] at s1
      have n0 := nw_b i0
      have n15 := nw_b i15
      have n20 := nw_b i20
      have hT : nw [((38 * (y0)) + ((-18446744073709551616) * z8)), ((38 * (y1)) + (z8 + (((-18446744073709551616) * z9) + ((-18446744073709551616) * z10)))), ((38 * (y2)) + (z9 + (z10 + (((-18446744073709551616) * z11) + ((-18446744073709551616) * z12))))), ((38 * (y3)) + (z11 + (z12 + (((-18446744073709551616) * z13) + ((-18446744073709551616) * z14)))))] + 115792089237316195423570985008687907853269984665640564039457584007913129639936 * (z13 + z14) = 38 * nw [y0, y1, y2, y3] := by
        clear s0 s1
        simp only [nw4]
        omega
      generalize nw [((38 * (y0)) + ((-18446744073709551616) * z8)), ((38 * (y1)) + (z8 + (((-18446744073709551616) * z9) + ((-18446744073709551616) * z10)))), ((38 * (y2)) + (z9 + (z10 + (((-18446744073709551616) * z11) + ((-18446744073709551616) * z12))))), ((38 * (y3)) + (z11 + (z12 + (((-18446744073709551616) * z13) + ((-18446744073709551616) * z14)))))] = t at *
      have e1 : z24 = 0 := by omega
      rw [s2]
      have q2 : nw r20 = nw r15 + 38 * (z13 + z14 + z19) - 115792089237316195423570985008687907853269984665640564039457584007913129639936 * z24 := by clear hT s0; omega
      have q3 : nw r20 = nw r20 + 38 * z24 := by clear hT s0 q2 s1; omega
      exact fold_fin hT s0 q2 q3

def B_rprod (S : Nat → List (List Int) → List (List Int) → Prop) (K : List (List Int) → List (List Int) → Prop) : Prop :=
 ∀ r0 : List Int, inB (repB 0 18446744073709551615 4) r0 → ∀ r4 : List Int, inB (repB 0 18446744073709551615 4) r4 → 
 ∀ z8 : Int, 0 ≤ z8 → z8 ≤ 340282366920938463426481119284349108225 → z8 = (List.getD r0 0 0) * (List.getD r4 0 0) →
 ∀ z9 : Int, 0 ≤ z9 → z9 ≤ 18446744073709551614 → 0 ≤ z8 - 18446744073709551616 * z9 → z8 - 18446744073709551616 * z9 < 18446744073709551616 →
 ∀ z10 : Int, 0 ≤ z10 → z10 ≤ 340282366920938463426481119284349108225 → z10 = (List.getD r0 0 0) * (List.getD r4 1 0) →
 ∀ z11 : Int, 0 ≤ z11 → z11 ≤ 18446744073709551614 → 0 ≤ z10 - 18446744073709551616 * z11 → z10 - 18446744073709551616 * z11 < 18446744073709551616 →
 ∀ z12 : Int, 0 ≤ z12 → z12 ≤ 1 → 0 ≤ (z9 + (z10 + ((-18446744073709551616) * z11))) - 18446744073709551616 * z12 → (z9 + (z10 + ((-18446744073709551616) * z11))) - 18446744073709551616 * z12 < 18446744073709551616 →
 ∀ z13 : Int, 0 ≤ z13 → z13 ≤ 340282366920938463426481119284349108225 → z13 = (List.getD r0 0 0) * (List.getD r4 2 0) →
 ∀ z14 : Int, 0 ≤ z14 → z14 ≤ 18446744073709551614 → 0 ≤ z13 - 18446744073709551616 * z14 → z13 - 18446744073709551616 * z14 < 18446744073709551616 →
 ∀ z15 : Int, 0 ≤ z15 → z15 ≤ 1 → 0 ≤ (z11 + (z12 + (z13 + ((-18446744073709551616) * z14)))) - 18446744073709551616 * z15 → (z11 + (z12 + (z13 + ((-18446744073709551616) * z14)))) - 18446744073709551616 * z15 < 18446744073709551616 →
 ∀ z16 : Int, 0 ≤ z16 → z16 ≤ 340282366920938463426481119284349108225 → z16 = (List.getD r0 0 0) * (List.getD r4 3 0) →
 ∀ z17 : Int, 0 ≤ z17 → z17 ≤ 18446744073709551614 → 0 ≤ z16 - 18446744073709551616 * z17 → z16 - 18446744073709551616 * z17 < 18446744073709551616 →
 ∀ z18 : Int, 0 ≤ z18 → z18 ≤ 1 → 0 ≤ (z14 + (z15 + (z16 + ((-18446744073709551616) * z17)))) - 18446744073709551616 * z18 → (z14 + (z15 + (z16 + ((-18446744073709551616) * z17)))) - 18446744073709551616 * z18 < 18446744073709551616 →
 ∀ z19 : Int, 0 ≤ z19 → z19 ≤ 340282366920938463426481119284349108225 → z19 = (List.getD r0 1 0) * (List.getD r4 0 0) →
 ∀ z20 : Int, 0 ≤ z20 → z20 ≤ 18446744073709551614 → 0 ≤ z19 - 18446744073709551616 * z20 → z19 - 18446744073709551616 * z20 < 18446744073709551616 →
 ∀ z21 : Int, 0 ≤ z21 → z21 ≤ 1 → 0 ≤ (z9 + (z10 + (((-18446744073709551616) * z11) + (((-18446744073709551616) * z12) + (z19 + ((-18446744073709551616) * z20)))))) - 18446744073709551616 * z21 → (z9 + (z10 + (((-18446744073709551616) * z11) + (((-18446744073709551616) * z12) + (z19 + ((-18446744073709551616) * z20)))))) - 18446744073709551616 * z21 < 18446744073709551616 →
 ∀ z22 : Int, 0 ≤ z22 → z22 ≤ 340282366920938463426481119284349108225 → z22 = (List.getD r0 1 0) * (List.getD r4 1 0) →
 ∀ z23 : Int, 0 ≤ z23 → z23 ≤ 18446744073709551614 → 0 ≤ z22 - 18446744073709551616 * z23 → z22 - 18446744073709551616 * z23 < 18446744073709551616 →
 ∀ z24 : Int, 0 ≤ z24 → z24 ≤ 1 → 0 ≤ (z11 + (z12 + (z13 + (((-18446744073709551616) * z14) + (((-18446744073709551616) * z15) + (z22 + ((-18446744073709551616) * z23))))))) - 18446744073709551616 * z24 → (z11 + (z12 + (z13 + (((-18446744073709551616) * z14) + (((-18446744073709551616) * z15) + (z22 + ((-18446744073709551616) * z23))))))) - 18446744073709551616 * z24 < 18446744073709551616 →
 ∀ z25 : Int, 0 ≤ z25 → z25 ≤ 1 → 0 ≤ (z11 + (z12 + (z13 + (((-18446744073709551616) * z14) + (((-18446744073709551616) * z15) + (z20 + (z21 + (z22 + (((-18446744073709551616) * z23) + ((-18446744073709551616) * z24)))))))))) - 18446744073709551616 * z25 → (z11 + (z12 + (z13 + (((-18446744073709551616) * z14) + (((-18446744073709551616) * z15) + (z20 + (z21 + (z22 + (((-18446744073709551616) * z23) + ((-18446744073709551616) * z24)))))))))) - 18446744073709551616 * z25 < 18446744073709551616 →
 ∀ z26 : Int, 0 ≤ z26 → z26 ≤ 1 → 0 ≤ (z23 + (z24 + z25)) - 18446744073709551616 * z26 → (z23 + (z24 + z25)) - 18446744073709551616 * z26 < 18446744073709551616 →
 ∀ z27 : Int, 0 ≤ z27 → z27 ≤ 340282366920938463426481119284349108225 → z27 = (List.getD r0 1 0) * (List.getD r4 2 0) →
 ∀ z28 : Int, 0 ≤ z28 → z28 ≤ 18446744073709551614 → 0 ≤ z27 - 18446744073709551616 * z28 → z27 - 18446744073709551616 * z28 < 18446744073709551616 →
 ∀ z29 : Int, 0 ≤ z29 → z29 ≤ 1 → 0 ≤ (z14 + (z15 + (z16 + (((-18446744073709551616) * z17) + (((-18446744073709551616) * z18) + (z27 + ((-18446744073709551616) * z28))))))) - 18446744073709551616 * z29 → (z14 + (z15 + (z16 + (((-18446744073709551616) * z17) + (((-18446744073709551616) * z18) + (z27 + ((-18446744073709551616) * z28))))))) - 18446744073709551616 * z29 < 18446744073709551616 →
 ∀ z30 : Int, 0 ≤ z30 → z30 ≤ 1 → 0 ≤ (z14 + (z15 + (z16 + (((-18446744073709551616) * z17) + (((-18446744073709551616) * z18) + (z23 + (z24 + (z25 + (((-18446744073709551616) * z26) + (z27 + (((-18446744073709551616) * z28) + ((-18446744073709551616) * z29)))))))))))) - 18446744073709551616 * z30 → (z14 + (z15 + (z16 + (((-18446744073709551616) * z17) + (((-18446744073709551616) * z18) + (z23 + (z24 + (z25 + (((-18446744073709551616) * z26) + (z27 + (((-18446744073709551616) * z28) + ((-18446744073709551616) * z29)))))))))))) - 18446744073709551616 * z30 < 18446744073709551616 →
 ∀ z31 : Int, 0 ≤ z31 → z31 ≤ 1 → 0 ≤ (z28 + (z29 + z30)) - 18446744073709551616 * z31 → (z28 + (z29 + z30)) - 18446744073709551616 * z31 < 18446744073709551616 →
 ∀ z32 : Int, 0 ≤ z32 → z32 ≤ 340282366920938463426481119284349108225 → z32 = (List.getD r0 1 0) * (List.getD r4 3 0) →
 ∀ z33 : Int, 0 ≤ z33 → z33 ≤ 18446744073709551614 → 0 ≤ z32 - 18446744073709551616 * z33 → z32 - 18446744073709551616 * z33 < 18446744073709551616 →
 ∀ z34 : Int, 0 ≤ z34 → z34 ≤ 1 → 0 ≤ (z17 + (z18 + (z32 + ((-18446744073709551616) * z33)))) - 18446744073709551616 * z34 → (z17 + (z18 + (z32 + ((-18446744073709551616) * z33)))) - 18446744073709551616 * z34 < 18446744073709551616 →
 ∀ z35 : Int, 0 ≤ z35 → z35 ≤ 1 → 0 ≤ (z17 + (z18 + (z28 + (z29 + (z30 + (((-18446744073709551616) * z31) + (z32 + (((-18446744073709551616) * z33) + ((-18446744073709551616) * z34))))))))) - 18446744073709551616 * z35 → (z17 + (z18 + (z28 + (z29 + (z30 + (((-18446744073709551616) * z31) + (z32 + (((-18446744073709551616) * z33) + ((-18446744073709551616) * z34))))))))) - 18446744073709551616 * z35 < 18446744073709551616 →
 ∀ z36 : Int, 0 ≤ z36 → z36 ≤ 1 → 0 ≤ (z33 + (z34 + z35)) - 18446744073709551616 * z36 → (z33 + (z34 + z35)) - 18446744073709551616 * z36 < 18446744073709551616 →
 ∀ z37 : Int, 0 ≤ z37 → z37 ≤ 340282366920938463426481119284349108225 → z37 = (List.getD r0 2 0) * (List.getD r4 0 0) →
 ∀ z38 : Int, 0 ≤ z38 → z38 ≤ 18446744073709551614 → 0 ≤ z37 - 18446744073709551616 * z38 → z37 - 18446744073709551616 * z38 < 18446744073709551616 →
 ∀ z39 : Int, 0 ≤ z39 → z39 ≤ 1 → 0 ≤ (z11 + (z12 + (z13 + (((-18446744073709551616) * z14) + (((-18446744073709551616) * z15) + (z20 + (z21 + (z22 + (((-18446744073709551616) * z23) + (((-18446744073709551616) * z24) + (((-18446744073709551616) * z25) + (z37 + ((-18446744073709551616) * z38))))))))))))) - 18446744073709551616 * z39 → (z11 + (z12 + (z13 + (((-18446744073709551616) * z14) + (((-18446744073709551616) * z15) + (z20 + (z21 + (z22 + (((-18446744073709551616) * z23) + (((-18446744073709551616) * z24) + (((-18446744073709551616) * z25) + (z37 + ((-18446744073709551616) * z38))))))))))))) - 18446744073709551616 * z39 < 18446744073709551616 →
 ∀ z40 : Int, 0 ≤ z40 → z40 ≤ 340282366920938463426481119284349108225 → z40 = (List.getD r0 2 0) * (List.getD r4 1 0) →
 ∀ z41 : Int, 0 ≤ z41 → z41 ≤ 18446744073709551614 → 0 ≤ z40 - 18446744073709551616 * z41 → z40 - 18446744073709551616 * z41 < 18446744073709551616 →
 ∀ z42 : Int, 0 ≤ z42 → z42 ≤ 1 → 0 ≤ (z14 + (z15 + (z16 + (((-18446744073709551616) * z17) + (((-18446744073709551616) * z18) + (z23 + (z24 + (z25 + (((-18446744073709551616) * z26) + (z27 + (((-18446744073709551616) * z28) + (((-18446744073709551616) * z29) + (((-18446744073709551616) * z30) + (z40 + ((-18446744073709551616) * z41))))))))))))))) - 18446744073709551616 * z42 → (z14 + (z15 + (z16 + (((-18446744073709551616) * z17) + (((-18446744073709551616) * z18) + (z23 + (z24 + (z25 + (((-18446744073709551616) * z26) + (z27 + (((-18446744073709551616) * z28) + (((-18446744073709551616) * z29) + (((-18446744073709551616) * z30) + (z40 + ((-18446744073709551616) * z41))))))))))))))) - 18446744073709551616 * z42 < 18446744073709551616 →
 ∀ z43 : Int, 0 ≤ z43 → z43 ≤ 1 → 0 ≤ (z14 + (z15 + (z16 + (((-18446744073709551616) * z17) + (((-18446744073709551616) * z18) + (z23 + (z24 + (z25 + (((-18446744073709551616) * z26) + (z27 + (((-18446744073709551616) * z28) + (((-18446744073709551616) * z29) + (((-18446744073709551616) * z30) + (z38 + (z39 + (z40 + (((-18446744073709551616) * z41) + ((-18446744073709551616) * z42)))))))))))))))))) - 18446744073709551616 * z43 → (z14 + (z15 + (z16 + (((-18446744073709551616) * z17) + (((-18446744073709551616) * z18) + (z23 + (z24 + (z25 + (((-18446744073709551616) * z26) + (z27 + (((-18446744073709551616) * z28) + (((-18446744073709551616) * z29) + (((-18446744073709551616) * z30) + (z38 + (z39 + (z40 + (((-18446744073709551616) * z41) + ((-18446744073709551616) * z42)))))))))))))))))) - 18446744073709551616 * z43 < 18446744073709551616 →
 ∀ z44 : Int, 0 ≤ z44 → z44 ≤ 1 → 0 ≤ (z41 + (z42 + z43)) - 18446744073709551616 * z44 → (z41 + (z42 + z43)) - 18446744073709551616 * z44 < 18446744073709551616 →
 ∀ z45 : Int, 0 ≤ z45 → z45 ≤ 340282366920938463426481119284349108225 → z45 = (List.getD r0 2 0) * (List.getD r4 2 0) →
 ∀ z46 : Int, 0 ≤ z46 → z46 ≤ 18446744073709551614 → 0 ≤ z45 - 18446744073709551616 * z46 → z45 - 18446744073709551616 * z46 < 18446744073709551616 →
 ∀ z47 : Int, 0 ≤ z47 → z47 ≤ 1 → 0 ≤ (z17 + (z18 + (z28 + (z29 + (z30 + (((-18446744073709551616) * z31) + (z32 + (((-18446744073709551616) * z33) + (((-18446744073709551616) * z34) + (((-18446744073709551616) * z35) + (z45 + ((-18446744073709551616) * z46)))))))))))) - 18446744073709551616 * z47 → (z17 + (z18 + (z28 + (z29 + (z30 + (((-18446744073709551616) * z31) + (z32 + (((-18446744073709551616) * z33) + (((-18446744073709551616) * z34) + (((-18446744073709551616) * z35) + (z45 + ((-18446744073709551616) * z46)))))))))))) - 18446744073709551616 * z47 < 18446744073709551616 →
 ∀ z48 : Int, 0 ≤ z48 → z48 ≤ 1 → 0 ≤ (z17 + (z18 + (z28 + (z29 + (z30 + (((-18446744073709551616) * z31) + (z32 + (((-18446744073709551616) * z33) + (((-18446744073709551616) * z34) + (((-18446744073709551616) * z35) + (z41 + (z42 + (z43 + (((-18446744073709551616) * z44) + (z45 + (((-18446744073709551616) * z46) + ((-18446744073709551616) * z47))))))))))))))))) - 18446744073709551616 * z48 → (z17 + (z18 + (z28 + (z29 + (z30 + (((-18446744073709551616) * z31) + (z32 + (((-18446744073709551616) * z33) + (((-18446744073709551616) * z34) + (((-18446744073709551616) * z35) + (z41 + (z42 + (z43 + (((-18446744073709551616) * z44) + (z45 + (((-18446744073709551616) * z46) + ((-18446744073709551616) * z47))))))))))))))))) - 18446744073709551616 * z48 < 18446744073709551616 →
 ∀ z49 : Int, 0 ≤ z49 → z49 ≤ 1 → 0 ≤ (z46 + (z47 + z48)) - 18446744073709551616 * z49 → (z46 + (z47 + z48)) - 18446744073709551616 * z49 < 18446744073709551616 →
 ∀ z50 : Int, 0 ≤ z50 → z50 ≤ 340282366920938463426481119284349108225 → z50 = (List.getD r0 2 0) * (List.getD r4 3 0) →
 ∀ z51 : Int, 0 ≤ z51 → z51 ≤ 18446744073709551614 → 0 ≤ z50 - 18446744073709551616 * z51 → z50 - 18446744073709551616 * z51 < 18446744073709551616 →
 ∀ z52 : Int, 0 ≤ z52 → z52 ≤ 1 → 0 ≤ (z33 + (z34 + (z35 + (((-18446744073709551616) * z36) + (z50 + ((-18446744073709551616) * z51)))))) - 18446744073709551616 * z52 → (z33 + (z34 + (z35 + (((-18446744073709551616) * z36) + (z50 + ((-18446744073709551616) * z51)))))) - 18446744073709551616 * z52 < 18446744073709551616 →
 ∀ z53 : Int, 0 ≤ z53 → z53 ≤ 1 → 0 ≤ (z33 + (z34 + (z35 + (((-18446744073709551616) * z36) + (z46 + (z47 + (z48 + (((-18446744073709551616) * z49) + (z50 + (((-18446744073709551616) * z51) + ((-18446744073709551616) * z52))))))))))) - 18446744073709551616 * z53 → (z33 + (z34 + (z35 + (((-18446744073709551616) * z36) + (z46 + (z47 + (z48 + (((-18446744073709551616) * z49) + (z50 + (((-18446744073709551616) * z51) + ((-18446744073709551616) * z52))))))))))) - 18446744073709551616 * z53 < 18446744073709551616 →
 ∀ z54 : Int, 0 ≤ z54 → z54 ≤ 1 → 0 ≤ (z51 + (z52 + z53)) - 18446744073709551616 * z54 → (z51 + (z52 + z53)) - 18446744073709551616 * z54 < 18446744073709551616 →
 ∀ z55 : Int, 0 ≤ z55 → z55 ≤ 340282366920938463426481119284349108225 → z55 = (List.getD r0 3 0) * (List.getD r4 0 0) →
 ∀ z56 : Int, 0 ≤ z56 → z56 ≤ 18446744073709551614 → 0 ≤ z55 - 18446744073709551616 * z56 → z55 - 18446744073709551616 * z56 < 18446744073709551616 →
 ∀ z57 : Int, 0 ≤ z57 → z57 ≤ 1 → 0 ≤ (z14 + (z15 + (z16 + (((-18446744073709551616) * z17) + (((-18446744073709551616) * z18) + (z23 + (z24 + (z25 + (((-18446744073709551616) * z26) + (z27 + (((-18446744073709551616) * z28) + (((-18446744073709551616) * z29) + (((-18446744073709551616) * z30) + (z38 + (z39 + (z40 + (((-18446744073709551616) * z41) + (((-18446744073709551616) * z42) + (((-18446744073709551616) * z43) + (z55 + ((-18446744073709551616) * z56))))))))))))))))))))) - 18446744073709551616 * z57 → (z14 + (z15 + (z16 + (((-18446744073709551616) * z17) + (((-18446744073709551616) * z18) + (z23 + (z24 + (z25 + (((-18446744073709551616) * z26) + (z27 + (((-18446744073709551616) * z28) + (((-18446744073709551616) * z29) + (((-18446744073709551616) * z30) + (z38 + (z39 + (z40 + (((-18446744073709551616) * z41) + (((-18446744073709551616) * z42) + (((-18446744073709551616) * z43) + (z55 + ((-18446744073709551616) * z56))))))))))))))))))))) - 18446744073709551616 * z57 < 18446744073709551616 →
 ∀ z58 : Int, 0 ≤ z58 → z58 ≤ 340282366920938463426481119284349108225 → z58 = (List.getD r0 3 0) * (List.getD r4 1 0) →
 ∀ z59 : Int, 0 ≤ z59 → z59 ≤ 18446744073709551614 → 0 ≤ z58 - 18446744073709551616 * z59 → z58 - 18446744073709551616 * z59 < 18446744073709551616 →
 ∀ z60 : Int, 0 ≤ z60 → z60 ≤ 1 → 0 ≤ (z17 + (z18 + (z28 + (z29 + (z30 + (((-18446744073709551616) * z31) + (z32 + (((-18446744073709551616) * z33) + (((-18446744073709551616) * z34) + (((-18446744073709551616) * z35) + (z41 + (z42 + (z43 + (((-18446744073709551616) * z44) + (z45 + (((-18446744073709551616) * z46) + (((-18446744073709551616) * z47) + (((-18446744073709551616) * z48) + (z58 + ((-18446744073709551616) * z59)))))))))))))))))))) - 18446744073709551616 * z60 → (z17 + (z18 + (z28 + (z29 + (z30 + (((-18446744073709551616) * z31) + (z32 + (((-18446744073709551616) * z33) + (((-18446744073709551616) * z34) + (((-18446744073709551616) * z35) + (z41 + (z42 + (z43 + (((-18446744073709551616) * z44) + (z45 + (((-18446744073709551616) * z46) + (((-18446744073709551616) * z47) + (((-18446744073709551616) * z48) + (z58 + ((-18446744073709551616) * z59)))))))))))))))))))) - 18446744073709551616 * z60 < 18446744073709551616 →
 ∀ z61 : Int, 0 ≤ z61 → z61 ≤ 1 → 0 ≤ (z17 + (z18 + (z28 + (z29 + (z30 + (((-18446744073709551616) * z31) + (z32 + (((-18446744073709551616) * z33) + (((-18446744073709551616) * z34) + (((-18446744073709551616) * z35) + (z41 + (z42 + (z43 + (((-18446744073709551616) * z44) + (z45 + (((-18446744073709551616) * z46) + (((-18446744073709551616) * z47) + (((-18446744073709551616) * z48) + (z56 + (z57 + (z58 + (((-18446744073709551616) * z59) + ((-18446744073709551616) * z60))))))))))))))))))))))) - 18446744073709551616 * z61 → (z17 + (z18 + (z28 + (z29 + (z30 + (((-18446744073709551616) * z31) + (z32 + (((-18446744073709551616) * z33) + (((-18446744073709551616) * z34) + (((-18446744073709551616) * z35) + (z41 + (z42 + (z43 + (((-18446744073709551616) * z44) + (z45 + (((-18446744073709551616) * z46) + (((-18446744073709551616) * z47) + (((-18446744073709551616) * z48) + (z56 + (z57 + (z58 + (((-18446744073709551616) * z59) + ((-18446744073709551616) * z60))))))))))))))))))))))) - 18446744073709551616 * z61 < 18446744073709551616 →
 ∀ z62 : Int, 0 ≤ z62 → z62 ≤ 1 → 0 ≤ (z59 + (z60 + z61)) - 18446744073709551616 * z62 → (z59 + (z60 + z61)) - 18446744073709551616 * z62 < 18446744073709551616 →
 ∀ z63 : Int, 0 ≤ z63 → z63 ≤ 340282366920938463426481119284349108225 → z63 = (List.getD r0 3 0) * (List.getD r4 2 0) →
 ∀ z64 : Int, 0 ≤ z64 → z64 ≤ 18446744073709551614 → 0 ≤ z63 - 18446744073709551616 * z64 → z63 - 18446744073709551616 * z64 < 18446744073709551616 →
 ∀ z65 : Int, 0 ≤ z65 → z65 ≤ 1 → 0 ≤ (z33 + (z34 + (z35 + (((-18446744073709551616) * z36) + (z46 + (z47 + (z48 + (((-18446744073709551616) * z49) + (z50 + (((-18446744073709551616) * z51) + (((-18446744073709551616) * z52) + (((-18446744073709551616) * z53) + (z63 + ((-18446744073709551616) * z64)))))))))))))) - 18446744073709551616 * z65 → (z33 + (z34 + (z35 + (((-18446744073709551616) * z36) + (z46 + (z47 + (z48 + (((-18446744073709551616) * z49) + (z50 + (((-18446744073709551616) * z51) + (((-18446744073709551616) * z52) + (((-18446744073709551616) * z53) + (z63 + ((-18446744073709551616) * z64)))))))))))))) - 18446744073709551616 * z65 < 18446744073709551616 →
 ∀ z66 : Int, 0 ≤ z66 → z66 ≤ 1 → 0 ≤ (z33 + (z34 + (z35 + (((-18446744073709551616) * z36) + (z46 + (z47 + (z48 + (((-18446744073709551616) * z49) + (z50 + (((-18446744073709551616) * z51) + (((-18446744073709551616) * z52) + (((-18446744073709551616) * z53) + (z59 + (z60 + (z61 + (((-18446744073709551616) * z62) + (z63 + (((-18446744073709551616) * z64) + ((-18446744073709551616) * z65))))))))))))))))))) - 18446744073709551616 * z66 → (z33 + (z34 + (z35 + (((-18446744073709551616) * z36) + (z46 + (z47 + (z48 + (((-18446744073709551616) * z49) + (z50 + (((-18446744073709551616) * z51) + (((-18446744073709551616) * z52) + (((-18446744073709551616) * z53) + (z59 + (z60 + (z61 + (((-18446744073709551616) * z62) + (z63 + (((-18446744073709551616) * z64) + ((-18446744073709551616) * z65))))))))))))))))))) - 18446744073709551616 * z66 < 18446744073709551616 →
 ∀ z67 : Int, 0 ≤ z67 → z67 ≤ 1 → 0 ≤ (z64 + (z65 + z66)) - 18446744073709551616 * z67 → (z64 + (z65 + z66)) - 18446744073709551616 * z67 < 18446744073709551616 →
 ∀ z68 : Int, 0 ≤ z68 → z68 ≤ 340282366920938463426481119284349108225 → z68 = (List.getD r0 3 0) * (List.getD r4 3 0) →
 ∀ z69 : Int, 0 ≤ z69 → z69 ≤ 18446744073709551614 → 0 ≤ z68 - 18446744073709551616 * z69 → z68 - 18446744073709551616 * z69 < 18446744073709551616 →
 ∀ z70 : Int, 0 ≤ z70 → z70 ≤ 1 → 0 ≤ (z51 + (z52 + (z53 + (((-18446744073709551616) * z54) + (z68 + ((-18446744073709551616) * z69)))))) - 18446744073709551616 * z70 → (z51 + (z52 + (z53 + (((-18446744073709551616) * z54) + (z68 + ((-18446744073709551616) * z69)))))) - 18446744073709551616 * z70 < 18446744073709551616 →
 ∀ z71 : Int, 0 ≤ z71 → z71 ≤ 1 → 0 ≤ (z51 + (z52 + (z53 + (((-18446744073709551616) * z54) + (z64 + (z65 + (z66 + (((-18446744073709551616) * z67) + (z68 + (((-18446744073709551616) * z69) + ((-18446744073709551616) * z70))))))))))) - 18446744073709551616 * z71 → (z51 + (z52 + (z53 + (((-18446744073709551616) * z54) + (z64 + (z65 + (z66 + (((-18446744073709551616) * z67) + (z68 + (((-18446744073709551616) * z69) + ((-18446744073709551616) * z70))))))))))) - 18446744073709551616 * z71 < 18446744073709551616 →
 ∀ z72 : Int, 0 ≤ z72 → z72 ≤ 1 → 0 ≤ (z69 + (z70 + z71)) - 18446744073709551616 * z72 → (z69 + (z70 + z71)) - 18446744073709551616 * z72 < 18446744073709551616 →
 ∀ r73 : List Int, inB (repB 0 18446744073709551615 4) r73 → S 54 [[(z8 + ((-18446744073709551616) * z9)), (z9 + (z10 + (((-18446744073709551616) * z11) + (((-18446744073709551616) * z12) + (z19 + (((-18446744073709551616) * z20) + ((-18446744073709551616) * z21))))))), (z11 + (z12 + (z13 + (((-18446744073709551616) * z14) + (((-18446744073709551616) * z15) + (z20 + (z21 + (z22 + (((-18446744073709551616) * z23) + (((-18446744073709551616) * z24) + (((-18446744073709551616) * z25) + (z37 + (((-18446744073709551616) * z38) + ((-18446744073709551616) * z39)))))))))))))), (z14 + (z15 + (z16 + (((-18446744073709551616) * z17) + (((-18446744073709551616) * z18) + (z23 + (z24 + (z25 + (((-18446744073709551616) * z26) + (z27 + (((-18446744073709551616) * z28) + (((-18446744073709551616) * z29) + (((-18446744073709551616) * z30) + (z38 + (z39 + (z40 + (((-18446744073709551616) * z41) + (((-18446744073709551616) * z42) + (((-18446744073709551616) * z43) + (z55 + (((-18446744073709551616) * z56) + ((-18446744073709551616) * z57))))))))))))))))))))))], [(z17 + (z18 + (z28 + (z29 + (z30 + (((-18446744073709551616) * z31) + (z32 + (((-18446744073709551616) * z33) + (((-18446744073709551616) * z34) + (((-18446744073709551616) * z35) + (z41 + (z42 + (z43 + (((-18446744073709551616) * z44) + (z45 + (((-18446744073709551616) * z46) + (((-18446744073709551616) * z47) + (((-18446744073709551616) * z48) + (z56 + (z57 + (z58 + (((-18446744073709551616) * z59) + (((-18446744073709551616) * z60) + ((-18446744073709551616) * z61)))))))))))))))))))))))), (z33 + (z34 + (z35 + (((-18446744073709551616) * z36) + (z46 + (z47 + (z48 + (((-18446744073709551616) * z49) + (z50 + (((-18446744073709551616) * z51) + (((-18446744073709551616) * z52) + (((-18446744073709551616) * z53) + (z59 + (z60 + (z61 + (((-18446744073709551616) * z62) + (z63 + (((-18446744073709551616) * z64) + (((-18446744073709551616) * z65) + ((-18446744073709551616) * z66)))))))))))))))))))), (z51 + (z52 + (z53 + (((-18446744073709551616) * z54) + (z64 + (z65 + (z66 + (((-18446744073709551616) * z67) + (z68 + (((-18446744073709551616) * z69) + (((-18446744073709551616) * z70) + ((-18446744073709551616) * z71)))))))))))), (z69 + (z70 + (z71 + ((-18446744073709551616) * z72))))]] [r73] →
 K [r0, r4] [r73]
theorem p_rprod (G) : B_rprod (SG G) (KB k_rprod.res 36) := by
  unfold B_rprod
  intro r0 i0 r4 i4 z8 a8 b8 e8 z9 a9 b9 c9 d9 z10 a10 b10 e10 z11 a11 b11 c11 d11 z12 a12 b12 c12 d12 z13 a13 b13 e13 z14 a14 b14 c14 d14 z15 a15 b15 c15 d15 z16 a16 b16 e16 z17 a17 b17 c17 d17 z18 a18 b18 c18 d18 z19 a19 b19 e19 z20 a20 b20 c20 d20 z21 a21 b21 c21 d21 z22 a22 b22 e22 z23 a23 b23 c23 d23 z24 a24 b24 c24 d24 z25 a25 b25 c25 d25 z26 a26 b26 c26 d26 z27 a27 b27 e27 z28 a28 b28 c28 d28 z29 a29 b29 c29 d29 z30 a30 b30 c30 d30 z31 a31 b31 c31 d31 z32 a32 b32 e32 z33 a33 b33 c33 d33 z34 a34 b34 c34 d34 z35 a35 b35 c35 d35 z36 a36 b36 c36 d36 z37 a37 b37 e37 z38 a38 b38 c38 d38 z39 a39 b39 c39 d39 z40 a40 b40 e40 z41 a41 b41 c41 d41 z42 a42 b42 c42 d42 z43 a43 b43 c43 d43 z44 a44 b44 c44 d44 z45 a45 b45 e45 z46 a46 b46 c46 d46 z47 a47 b47 c47 d47 z48 a48 b48 c48 d48 z49 a49 b49 c49 d49 z50 a50 b50 e50 z51 a51 b51 c51 d51 z52 a52 b52 c52 d52 z53 a53 b53 c53 d53 z54 a54 b54 c54 d54 z55 a55 b55 e55 z56 a56 b56 c56 d56 z57 a57 b57 c57 d57 z58 a58 b58 e58 z59 a59 b59 c59 d59 z60 a60 b60 c60 d60 z61 a61 b61 c61 d61 z62 a62 b62 c62 d62 z63 a63 b63 e63 z64 a64 b64 c64 d64 z65 a65 b65 c65 d65 z66 a66 b66 c66 d66 z67 a67 b67 c67 d67 z68 a68 b68 e68 z69 a69 b69 c69 d69 z70 a70 b70 c70 d70 z71 a71 b71 c71 d71 z72 a72 b72 c72 d72 r73 i73 s0
  have s0 : nw r73 = (nw [(z8 + ((-18446744073709551616) * z9)), (z9 + (z10 + (((-18446744073709551616) * z11) + (((-18446744073709551616) * z12) + (z19 + (((-18446744073709551616) * z20) + ((-18446744073709551616) * z21))))))), (z11 + (z12 + (z13 + (((-18446744073709551616) * z14) + (((-18446744073709551616) * z15) + (z20 + (z21 + (z22 + (((-18446744073709551616) * z23) + (((-18446744073709551616) * z24) + (((-18446744073709551616) * z25) + (z37 + (((-18446744073709551616) * z38) + ((-18446744073709551616) * z39)))))))))))))), (z14 + (z15 + (z16 + (((-18446744073709551616) * z17) + (((-18446744073709551616) * z18) + (z23 + (z24 + (z25 + (((-18446744073709551616) * z26) + (z27 + (((-18446744073709551616) * z28) + (((-18446744073709551616) * z29) + (((-18446744073709551616) * z30) + (z38 + (z39 + (z40 + (((-18446744073709551616) * z41) + (((-18446744073709551616) * z42) + (((-18446744073709551616) * z43) + (z55 + (((-18446744073709551616) * z56) + ((-18446744073709551616) * z57))))))))))))))))))))))] + 115792089237316195423570985008687907853269984665640564039457584007913129639936 * nw [(z17 + (z18 + (z28 + (z29 + (z30 + (((-18446744073709551616) * z31) + (z32 + (((-18446744073709551616) * z33) + (((-18446744073709551616) * z34) + (((-18446744073709551616) * z35) + (z41 + (z42 + (z43 + (((-18446744073709551616) * z44) + (z45 + (((-18446744073709551616) * z46) + (((-18446744073709551616) * z47) + (((-18446744073709551616) * z48) + (z56 + (z57 + (z58 + (((-18446744073709551616) * z59) + (((-18446744073709551616) * z60) + ((-18446744073709551616) * z61)))))))))))))))))))))))), (z33 + (z34 + (z35 + (((-18446744073709551616) * z36) + (z46 + (z47 + (z48 + (((-18446744073709551616) * z49) + (z50 + (((-18446744073709551616) * z51) + (((-18446744073709551616) * z52) + (((-18446744073709551616) * z53) + (z59 + (z60 + (z61 + (((-18446744073709551616) * z62) + (z63 + (((-18446744073709551616) * z64) + (((-18446744073709551616) * z65) + ((-18446744073709551616) * z66)))))))))))))))))))), (z51 + (z52 + (z53 + (((-18446744073709551616) * z54) + (z64 + (z65 + (z66 + (((-18446744073709551616) * z67) + (z68 + (((-18446744073709551616) * z69) + (((-18446744073709551616) * z70) + ((-18446744073709551616) * z71)))))))))))), (z69 + (z70 + (z71 + ((-18446744073709551616) * z72))))]) % 57896044618658097711785492504343953926634992332820282019728792003956564819949 := s0.1
  refine ⟨?_, ?_⟩
  · exact app_nil i73
  · show nw r73 = nw r0 * nw r4 % 57896044618658097711785492504343953926634992332820282019728792003956564819949
    have w26 : z26 = 0 := by
      clear i0 i4 a8 b8 e8 a9 b9 c9 d9 a10 b10 e10 a11 b11 c11 d11 a12 b12 c12 d12 a13 b13 e13 a14 b14 c14 d14 a15 b15 c15 a16 b16 e16 a17 b17 c17 d17 a18 b18 c18 d18 a19 b19 e19 a20 c20 d20 a21 c21 d21 a22 e22 a23 b23 c23 d23 a24 b24 c24 d24 a25 b25 d25 b26 d26 a27 b27 e27 a28 b28 c28 d28 a29 b29 c29 d29 a30 b30 c30 d30 a31 b31 c31 d31 a32 b32 e32 a33 b33 c33 d33 a34 b34 c34 d34 a35 b35 c35 d35 a36 b36 c36 d36 a37 b37 e37 a38 b38 c38 d38 a39 b39 c39 d39 a40 b40 e40 a41 b41 c41 d41 a42 b42 c42 d42 a43 b43 c43 d43 a44 b44 c44 d44 a45 b45 e45 a46 b46 c46 d46 a47 b47 c47 d47 a48 b48 c48 d48 a49 b49 c49 d49 a50 b50 e50 a51 b51 c51 d51 a52 b52 c52 d52 a53 b53 c53 d53 a54 b54 c54 d54 a55 b55 e55 a56 b56 c56 d56 a57 b57 c57 d57 a58 b58 e58 a59 b59 c59 d59 a60 b60 c60 d60 a61 b61 c61 d61 a62 b62 c62 d62 a63 b63 e63 a64 b64 c64 d64 a65 b65 c65 d65 a66 b66 c66 d66 a67 b67 c67 d67 a68 b68 e68 a69 b69 c69 d69 a70 b70 c70 d70 a71 b71 c71 d71 a72 b72 c72 d72 i73 s0
      omega
    have w31 : z31 = 0 := by
      clear i0 i4 a8 b8 e8 a9 b9 c9 d9 a10 b10 e10 a11 b11 c11 d11 a12 b12 c12 d12 a13 b13 e13 a14 b14 c14 d14 a15 b15 c15 d15 a16 b16 e16 a17 b17 c17 d17 a18 b18 c18 a19 b19 e19 a20 b20 c20 d20 a21 b21 c21 d21 a22 b22 e22 a23 b23 c23 d23 a24 b24 c24 d24 a25 b25 c25 d25 a26 b26 c26 a27 e27 a28 b28 c28 d28 a29 b29 c29 d29 a30 b30 d30 b31 d31 a32 b32 e32 a33 b33 c33 d33 a34 b34 c34 d34 a35 b35 c35 d35 a36 b36 c36 d36 a37 b37 e37 a38 b38 c38 d38 a39 b39 c39 d39 a40 b40 e40 a41 b41 c41 d41 a42 b42 c42 d42 a43 b43 c43 d43 a44 b44 c44 d44 a45 b45 e45 a46 b46 c46 d46 a47 b47 c47 d47 a48 b48 c48 d48 a49 b49 c49 d49 a50 b50 e50 a51 b51 c51 d51 a52 b52 c52 d52 a53 b53 c53 d53 a54 b54 c54 d54 a55 b55 e55 a56 b56 c56 d56 a57 b57 c57 d57 a58 b58 e58 a59 b59 c59 d59 a60 b60 c60 d60 a61 b61 c61 d61 a62 b62 c62 d62 a63 b63 e63 a64 b64 c64 d64 a65 b65 c65 d65 a66 b66 c66 d66 a67 b67 c67 d67 a68 b68 e68 a69 b69 c69 d69 a70 b70 c70 d70 a71 b71 c71 d71 a72 b72 c72 d72 i73 s0
      omega
    have w36 : z36 = 0 := by
      clear i0 i4 a8 b8 e8 a9 b9 c9 d9 a10 b10 e10 a11 b11 c11 d11 a12 b12 c12 d12 a13 b13 e13 a14 b14 c14 d14 a15 b15 c15 d15 a16 b16 e16 a17 c17 d17 a18 c18 d18 a19 b19 e19 a20 b20 c20 d20 a21 b21 c21 d21 a22 b22 e22 a23 b23 c23 d23 a24 b24 c24 d24 a25 b25 c25 d25 a26 b26 c26 d26 a27 b27 e27 a28 b28 c28 d28 a29 b29 c29 d29 a30 b30 c30 d30 a31 b31 c31 a32 e32 a33 b33 c33 d33 a34 b34 c34 d34 a35 b35 d35 b36 d36 a37 b37 e37 a38 b38 c38 d38 a39 b39 c39 d39 a40 b40 e40 a41 b41 c41 d41 a42 b42 c42 d42 a43 b43 c43 d43 a44 b44 c44 d44 a45 b45 e45 a46 b46 c46 d46 a47 b47 c47 d47 a48 b48 c48 d48 a49 b49 c49 d49 a50 b50 e50 a51 b51 c51 d51 a52 b52 c52 d52 a53 b53 c53 d53 a54 b54 c54 d54 a55 b55 e55 a56 b56 c56 d56 a57 b57 c57 d57 a58 b58 e58 a59 b59 c59 d59 a60 b60 c60 d60 a61 b61 c61 d61 a62 b62 c62 d62 a63 b63 e63 a64 b64 c64 d64 a65 b65 c65 d65 a66 b66 c66 d66 a67 b67 c67 d67 a68 b68 e68 a69 b69 c69 d69 a70 b70 c70 d70 a71 b71 c71 d71 a72 b72 c72 d72 i73 s0
      omega
    have w44 : z44 = 0 := by
      clear i0 i4 a8 b8 e8 a9 b9 c9 d9 a10 b10 e10 a11 b11 c11 d11 a12 b12 c12 d12 a13 b13 e13 a14 b14 c14 d14 a15 b15 c15 d15 a16 b16 e16 a17 b17 c17 d17 a18 b18 c18 d18 a19 b19 e19 a20 b20 c20 d20 a21 b21 c21 d21 a22 b22 e22 a23 b23 c23 d23 a24 b24 c24 d24 a25 b25 c25 d25 a26 b26 c26 d26 a27 b27 e27 a28 b28 c28 d28 a29 b29 c29 d29 a30 b30 c30 a31 b31 c31 d31 a32 b32 e32 a33 b33 c33 d33 a34 b34 c34 d34 a35 b35 c35 d35 a36 b36 c36 d36 a37 b37 e37 a38 c38 d38 a39 c39 d39 a40 e40 a41 b41 c41 d41 a42 b42 c42 d42 a43 b43 d43 b44 d44 a45 b45 e45 a46 b46 c46 d46 a47 b47 c47 d47 a48 b48 c48 d48 a49 b49 c49 d49 a50 b50 e50 a51 b51 c51 d51 a52 b52 c52 d52 a53 b53 c53 d53 a54 b54 c54 d54 a55 b55 e55 a56 b56 c56 d56 a57 b57 c57 d57 a58 b58 e58 a59 b59 c59 d59 a60 b60 c60 d60 a61 b61 c61 d61 a62 b62 c62 d62 a63 b63 e63 a64 b64 c64 d64 a65 b65 c65 d65 a66 b66 c66 d66 a67 b67 c67 d67 a68 b68 e68 a69 b69 c69 d69 a70 b70 c70 d70 a71 b71 c71 d71 a72 b72 c72 d72 i73 s0
      omega
    have w49 : z49 = 0 := by
      clear i0 i4 a8 b8 e8 a9 b9 c9 d9 a10 b10 e10 a11 b11 c11 d11 a12 b12 c12 d12 a13 b13 e13 a14 b14 c14 d14 a15 b15 c15 d15 a16 b16 e16 a17 b17 c17 d17 a18 b18 c18 d18 a19 b19 e19 a20 b20 c20 d20 a21 b21 c21 d21 a22 b22 e22 a23 b23 c23 d23 a24 b24 c24 d24 a25 b25 c25 d25 a26 b26 c26 d26 a27 b27 e27 a28 b28 c28 d28 a29 b29 c29 d29 a30 b30 c30 d30 a31 b31 c31 d31 a32 b32 e32 a33 b33 c33 d33 a34 b34 c34 d34 a35 b35 c35 a36 b36 c36 d36 a37 b37 e37 a38 b38 c38 d38 a39 b39 c39 d39 a40 b40 e40 a41 b41 c41 d41 a42 b42 c42 d42 a43 b43 c43 d43 a44 b44 c44 a45 e45 a46 b46 c46 d46 a47 b47 c47 d47 a48 b48 d48 b49 d49 a50 b50 e50 a51 b51 c51 d51 a52 b52 c52 d52 a53 b53 c53 d53 a54 b54 c54 d54 a55 b55 e55 a56 b56 c56 d56 a57 b57 c57 d57 a58 b58 e58 a59 b59 c59 d59 a60 b60 c60 d60 a61 b61 c61 d61 a62 b62 c62 d62 a63 b63 e63 a64 b64 c64 d64 a65 b65 c65 d65 a66 b66 c66 d66 a67 b67 c67 d67 a68 b68 e68 a69 b69 c69 d69 a70 b70 c70 d70 a71 b71 c71 d71 a72 b72 c72 d72 i73 s0
      omega
    have w54 : z54 = 0 := by
      clear i0 i4 a8 b8 e8 a9 b9 c9 d9 a10 b10 e10 a11 b11 c11 d11 a12 b12 c12 d12 a13 b13 e13 a14 b14 c14 d14 a15 b15 c15 d15 a16 b16 e16 a17 b17 c17 d17 a18 b18 c18 d18 a19 b19 e19 a20 b20 c20 d20 a21 b21 c21 d21 a22 b22 e22 a23 b23 c23 d23 a24 b24 c24 d24 a25 b25 c25 d25 a26 b26 c26 d26 a27 b27 e27 a28 b28 c28 d28 a29 b29 c29 d29 a30 b30 c30 d30 a31 b31 c31 d31 a32 b32 e32 a33 b33 c33 d33 a34 b34 c34 d34 a35 b35 c35 d35 a36 b36 c36 a37 b37 e37 a38 b38 c38 d38 a39 b39 c39 d39 a40 b40 e40 a41 b41 c41 d41 a42 b42 c42 d42 a43 b43 c43 d43 a44 b44 c44 d44 a45 b45 e45 a46 b46 c46 d46 a47 b47 c47 d47 a48 b48 c48 d48 a49 b49 c49 a50 e50 a51 b51 c51 d51 a52 b52 c52 d52 a53 b53 d53 b54 d54 a55 b55 e55 a56 b56 c56 d56 a57 b57 c57 d57 a58 b58 e58 a59 b59 c59 d59 a60 b60 c60 d60 a61 b61 c61 d61 a62 b62 c62 d62 a63 b63 e63 a64 b64 c64 d64 a65 b65 c65 d65 a66 b66 c66 d66 a67 b67 c67 d67 a68 b68 e68 a69 b69 c69 d69 a70 b70 c70 d70 a71 b71 c71 d71 a72 b72 c72 d72 i73 s0
      omega
    have w62 : z62 = 0 := by
      clear i0 i4 a8 b8 e8 a9 b9 c9 d9 a10 b10 e10 a11 b11 c11 d11 a12 b12 c12 d12 a13 b13 e13 a14 b14 c14 d14 a15 b15 c15 d15 a16 b16 e16 a17 b17 c17 d17 a18 b18 c18 d18 a19 b19 e19 a20 b20 c20 d20 a21 b21 c21 d21 a22 b22 e22 a23 b23 c23 d23 a24 b24 c24 d24 a25 b25 c25 d25 a26 b26 c26 d26 a27 b27 e27 a28 b28 c28 d28 a29 b29 c29 d29 a30 b30 c30 d30 a31 b31 c31 d31 a32 b32 e32 a33 b33 c33 d33 a34 b34 c34 d34 a35 b35 c35 d35 a36 b36 c36 d36 a37 b37 e37 a38 b38 c38 d38 a39 b39 c39 d39 a40 b40 e40 a41 b41 c41 d41 a42 b42 c42 d42 a43 b43 c43 d43 a44 b44 c44 d44 a45 b45 e45 a46 b46 c46 d46 a47 b47 c47 d47 a48 b48 c48 a49 b49 c49 d49 a50 b50 e50 a51 b51 c51 d51 a52 b52 c52 d52 a53 b53 c53 d53 a54 b54 c54 d54 a55 b55 e55 a56 c56 d56 a57 c57 d57 a58 e58 a59 b59 c59 d59 a60 b60 c60 d60 a61 b61 d61 b62 d62 a63 b63 e63 a64 b64 c64 d64 a65 b65 c65 d65 a66 b66 c66 d66 a67 b67 c67 d67 a68 b68 e68 a69 b69 c69 d69 a70 b70 c70 d70 a71 b71 c71 d71 a72 b72 c72 d72 i73 s0
      omega
    have w67 : z67 = 0 := by
      clear i0 i4 a8 b8 e8 a9 b9 c9 d9 a10 b10 e10 a11 b11 c11 d11 a12 b12 c12 d12 a13 b13 e13 a14 b14 c14 d14 a15 b15 c15 d15 a16 b16 e16 a17 b17 c17 d17 a18 b18 c18 d18 a19 b19 e19 a20 b20 c20 d20 a21 b21 c21 d21 a22 b22 e22 a23 b23 c23 d23 a24 b24 c24 d24 a25 b25 c25 d25 a26 b26 c26 d26 a27 b27 e27 a28 b28 c28 d28 a29 b29 c29 d29 a30 b30 c30 d30 a31 b31 c31 d31 a32 b32 e32 a33 b33 c33 d33 a34 b34 c34 d34 a35 b35 c35 d35 a36 b36 c36 d36 a37 b37 e37 a38 b38 c38 d38 a39 b39 c39 d39 a40 b40 e40 a41 b41 c41 d41 a42 b42 c42 d42 a43 b43 c43 d43 a44 b44 c44 d44 a45 b45 e45 a46 b46 c46 d46 a47 b47 c47 d47 a48 b48 c48 d48 a49 b49 c49 d49 a50 b50 e50 a51 b51 c51 d51 a52 b52 c52 d52 a53 b53 c53 a54 b54 c54 d54 a55 b55 e55 a56 b56 c56 d56 a57 b57 c57 d57 a58 b58 e58 a59 b59 c59 d59 a60 b60 c60 d60 a61 b61 c61 d61 a62 b62 c62 a63 e63 a64 b64 c64 d64 a65 b65 c65 d65 a66 b66 d66 b67 d67 a68 b68 e68 a69 b69 c69 d69 a70 b70 c70 d70 a71 b71 c71 d71 a72 b72 c72 d72 i73 s0
      omega
    have w72 : z72 = 0 := by
      clear i0 i4 a8 b8 e8 a9 b9 c9 d9 a10 b10 e10 a11 b11 c11 d11 a12 b12 c12 d12 a13 b13 e13 a14 b14 c14 d14 a15 b15 c15 d15 a16 b16 e16 a17 b17 c17 d17 a18 b18 c18 d18 a19 b19 e19 a20 b20 c20 d20 a21 b21 c21 d21 a22 b22 e22 a23 b23 c23 d23 a24 b24 c24 d24 a25 b25 c25 d25 a26 b26 c26 d26 a27 b27 e27 a28 b28 c28 d28 a29 b29 c29 d29 a30 b30 c30 d30 a31 b31 c31 d31 a32 b32 e32 a33 b33 c33 d33 a34 b34 c34 d34 a35 b35 c35 d35 a36 b36 c36 d36 a37 b37 e37 a38 b38 c38 d38 a39 b39 c39 d39 a40 b40 e40 a41 b41 c41 d41 a42 b42 c42 d42 a43 b43 c43 d43 a44 b44 c44 d44 a45 b45 e45 a46 b46 c46 d46 a47 b47 c47 d47 a48 b48 c48 d48 a49 b49 c49 d49 a50 b50 e50 a51 b51 c51 d51 a52 b52 c52 d52 a53 b53 c53 d53 a54 b54 c54 a55 b55 e55 a56 b56 c56 d56 a57 b57 c57 d57 a58 b58 e58 a59 b59 c59 d59 a60 b60 c60 d60 a61 b61 c61 d61 a62 b62 c62 d62 a63 b63 e63 a64 b64 c64 d64 a65 b65 c65 d65 a66 b66 c66 d66 a67 b67 c67 a68 e68 a69 b69 c69 d69 a70 b70 c70 d70 a71 b71 d71 b72 d72 i73 s0
      omega
    have hE : nw [(z8 + ((-18446744073709551616) * z9)), (z9 + (z10 + (((-18446744073709551616) * z11) + (((-18446744073709551616) * z12) + (z19 + (((-18446744073709551616) * z20) + ((-18446744073709551616) * z21))))))), (z11 + (z12 + (z13 + (((-18446744073709551616) * z14) + (((-18446744073709551616) * z15) + (z20 + (z21 + (z22 + (((-18446744073709551616) * z23) + (((-18446744073709551616) * z24) + (((-18446744073709551616) * z25) + (z37 + (((-18446744073709551616) * z38) + ((-18446744073709551616) * z39)))))))))))))), (z14 + (z15 + (z16 + (((-18446744073709551616) * z17) + (((-18446744073709551616) * z18) + (z23 + (z24 + (z25 + (((-18446744073709551616) * z26) + (z27 + (((-18446744073709551616) * z28) + (((-18446744073709551616) * z29) + (((-18446744073709551616) * z30) + (z38 + (z39 + (z40 + (((-18446744073709551616) * z41) + (((-18446744073709551616) * z42) + (((-18446744073709551616) * z43) + (z55 + (((-18446744073709551616) * z56) + ((-18446744073709551616) * z57))))))))))))))))))))))] + 115792089237316195423570985008687907853269984665640564039457584007913129639936 * nw [(z17 + (z18 + (z28 + (z29 + (z30 + (((-18446744073709551616) * z31) + (z32 + (((-18446744073709551616) * z33) + (((-18446744073709551616) * z34) + (((-18446744073709551616) * z35) + (z41 + (z42 + (z43 + (((-18446744073709551616) * z44) + (z45 + (((-18446744073709551616) * z46) + (((-18446744073709551616) * z47) + (((-18446744073709551616) * z48) + (z56 + (z57 + (z58 + (((-18446744073709551616) * z59) + (((-18446744073709551616) * z60) + ((-18446744073709551616) * z61)))))))))))))))))))))))), (z33 + (z34 + (z35 + (((-18446744073709551616) * z36) + (z46 + (z47 + (z48 + (((-18446744073709551616) * z49) + (z50 + (((-18446744073709551616) * z51) + (((-18446744073709551616) * z52) + (((-18446744073709551616) * z53) + (z59 + (z60 + (z61 + (((-18446744073709551616) * z62) + (z63 + (((-18446744073709551616) * z64) + (((-18446744073709551616) * z65) + ((-18446744073709551616) * z66)))))))))))))))))))), (z51 + (z52 + (z53 + (((-18446744073709551616) * z54) + (z64 + (z65 + (z66 + (((-18446744073709551616) * z67) + (z68 + (((-18446744073709551616) * z69) + (((-18446744073709551616) * z70) + ((-18446744073709551616) * z71)))))))))))), (z69 + (z70 + (z71 + ((-18446744073709551616) * z72))))] = z8 + 18446744073709551616 * z10 + 340282366920938463463374607431768211456 * z13 + 6277101735386680763835789423207666416102355444464034512896 * z16 + 18446744073709551616 * z19 + 340282366920938463463374607431768211456 * z22 + 6277101735386680763835789423207666416102355444464034512896 * z27 + 115792089237316195423570985008687907853269984665640564039457584007913129639936 * z32 + 340282366920938463463374607431768211456 * z37 + 6277101735386680763835789423207666416102355444464034512896 * z40 + 115792089237316195423570985008687907853269984665640564039457584007913129639936 * z45 + 2135987035920910082395021706169552114602704522356652769947041607822219725780640550022962086936576 * z50 + 6277101735386680763835789423207666416102355444464034512896 * z55 + 115792089237316195423570985008687907853269984665640564039457584007913129639936 * z58 + 2135987035920910082395021706169552114602704522356652769947041607822219725780640550022962086936576 * z63 + 39402006196394479212279040100143613805079739270465446667948293404245721771497210611414266254884915640806627990306816 * z68 := by
      clear i0 i4 a8 b8 e8 a9 b9 c9 d9 a10 b10 e10 a11 b11 c11 d11 a12 b12 c12 d12 a13 b13 e13 a14 b14 c14 d14 a15 b15 c15 d15 a16 b16 e16 a17 b17 c17 d17 a18 b18 c18 d18 a19 b19 e19 a20 b20 c20 d20 a21 b21 c21 d21 a22 b22 e22 a23 b23 c23 d23 a24 b24 c24 d24 a25 b25 c25 d25 a26 b26 c26 d26 a27 b27 e27 a28 b28 c28 d28 a29 b29 c29 d29 a30 b30 c30 d30 a31 b31 c31 d31 a32 b32 e32 a33 b33 c33 d33 a34 b34 c34 d34 a35 b35 c35 d35 a36 b36 c36 d36 a37 b37 e37 a38 b38 c38 d38 a39 b39 c39 d39 a40 b40 e40 a41 b41 c41 d41 a42 b42 c42 d42 a43 b43 c43 d43 a44 b44 c44 d44 a45 b45 e45 a46 b46 c46 d46 a47 b47 c47 d47 a48 b48 c48 d48 a49 b49 c49 d49 a50 b50 e50 a51 b51 c51 d51 a52 b52 c52 d52 a53 b53 c53 d53 a54 b54 c54 d54 a55 b55 e55 a56 b56 c56 d56 a57 b57 c57 d57 a58 b58 e58 a59 b59 c59 d59 a60 b60 c60 d60 a61 b61 c61 d61 a62 b62 c62 d62 a63 b63 e63 a64 b64 c64 d64 a65 b65 c65 d65 a66 b66 c66 d66 a67 b67 c67 d67 a68 b68 e68 a69 b69 c69 d69 a70 b70 c70 d70 a71 b71 c71 d71 a72 b72 c72 d72 i73 s0
      simp only [nw4]
      omega
    rw [s0, hE]
    clear hE s0 w26 w31 w36 w44 w49 w54 w62 w67 w72
    obtain ⟨x0, x1, x2, x3, rfl, x0l, x0u, x1l, x1u, x2l, x2u, x3l, x3u⟩ := in_4 i0
    obtain ⟨y0, y1, y2, y3, rfl, y0l, y0u, y1l, y1u, y2l, y2u, y3l, y3u⟩ := in_4 i4
    simp only [List.getD_cons_zero, List.getD_cons_succ] at *
    rw [e8, e10, e13, e16, e19, e22, e27, e32, e37, e40, e45, e50, e55, e58, e63, e68]
    rw [nw4, nw4, prod_alg]
end Go.Fd
