/- The field seat: shapes, contracts, what each says. -/
import Derived.Test.YtjngbbnmcadolaaDoorRx16
import Derived.Test.YtjngbbnmcadolaaDoorNt
set_option linter.unusedVariables false
namespace Go.Fd
open Go.Rx
def gl : Glo := [(0, [(.u64, 1), (.u64, 0), (.u64, 0), (.u64, 0), (.u64, 0)])]
def li_none : FuncId → Nat → Option LoopI := fun _ _ => none
def lsh_none : Nat → List Nat := fun _ => []
def e5 : D := .agg .u64 5 0 4503599627370495
def e5x : D := .agg .u64 5 0 9223372036854775807
def n4 : D := .agg .u64 4 0 18446744073709551615
def by32 : D := .agg .u8 32 0 255
def c1 : D := .int .u64 0 1
def u8 : D := .int .u8 0 255
def k_load : Con := ⟨37, 37, [by32], [n4]⟩
def k_rbytes : Con := ⟨27, 27, [n4], [by32]⟩
def k_rp : Con := ⟨28, 28, [], [n4]⟩
def k_rless : Con := ⟨42, 42, [n4, n4], [.bool]⟩
def k_rminus : Con := ⟨55, 55, [n4, n4], [n4, c1]⟩
def k_rplus : Con := ⟨56, 56, [n4, n4], [n4, c1]⟩
def k_rcut : Con := ⟨39, 39, [n4], [n4]⟩
def k_rsum : Con := ⟨40, 40, [n4, n4], [n4]⟩
def k_rdiff : Con := ⟨41, 41, [n4, n4], [n4]⟩
def k_rfold : Con := ⟨54, 54, [n4, n4], [n4]⟩
def k_rprod : Con := ⟨36, 36, [n4, n4], [n4]⟩
def k_rtake : Con := ⟨44, 44, [n4, n4], [n4]⟩
def li_rtake : FuncId → Nat → Option LoopI := fun f r => match f, r with
  | 44, 3 => some ⟨[2, 3, 4, 5], [(6, -1, 255)], [(3, 0, 0, 18446744073709551615), (3, 1, 0, 18446744073709551615), (3, 2, 0, 18446744073709551615), (3, 3, 0, 18446744073709551615)]⟩
  | _, _ => none
def lsh_rtake : Nat → List Nat
  | 8 => [1, 4]
  | _ => []
def k_rinvert : Con := ⟨45, 45, [n4], [n4]⟩
def k_rright : Con := ⟨23, 23, [by32], [.bool]⟩
def k_rreduce : Con := ⟨21, 21, [by32], [by32]⟩
def k_radd : Con := ⟨19, 19, [by32, by32], [by32]⟩
def k_rsub : Con := ⟨20, 20, [by32, by32], [by32]⟩
def k_rmul : Con := ⟨17, 17, [by32, by32], [by32]⟩
def k_rinv : Con := ⟨26, 26, [by32], [by32]⟩
def k_rpower : Con := ⟨25, 25, [by32, by32], [by32]⟩
def k_rsquare : Con := ⟨38, 38, [n4], [n4, .bool]⟩
def k_rroot : Con := ⟨18, 18, [by32], [by32, .bool]⟩
def k_carried : Con := ⟨46, 46, [e5x], [e5]⟩
def k_from : Con := ⟨29, 29, [by32], [e5]⟩
def k_bytes : Con := ⟨31, 31, [e5], [by32]⟩
def k_plus : Con := ⟨34, 34, [e5, e5], [e5]⟩
def k_minus : Con := ⟨32, 32, [e5, e5], [e5]⟩
def k_times : Con := ⟨33, 33, [e5, e5], [e5]⟩
def k_squared : Con := ⟨47, 47, [e5], [e5]⟩
def k_negated : Con := ⟨50, 50, [e5], [e5]⟩
def k_raised : Con := ⟨43, 43, [e5, n4], [e5]⟩
def li_raised : FuncId → Nat → Option LoopI := fun f r => match f, r with
  | 43, 3 => some ⟨[2, 3, 4, 5], [(6, -1, 255)], [(3, 0, 0, 4503599627370495), (3, 1, 0, 4503599627370495), (3, 2, 0, 4503599627370495), (3, 3, 0, 4503599627370495), (3, 4, 0, 4503599627370495)]⟩
  | _, _ => none
def lsh_raised : Nat → List Nat
  | 9 => [1, 5]
  | _ => []
def k_inverted : Con := ⟨35, 35, [e5], [e5]⟩
def k_same : Con := ⟨48, 48, [e5, e5], [.bool]⟩
def k_odd : Con := ⟨49, 49, [e5], [.bool]⟩
def k_rooted : Con := ⟨30, 30, [e5], [e5, .bool]⟩
def k_reduce : Con := ⟨14, 14, [by32], [by32]⟩
def k_right : Con := ⟨22, 22, [by32], [.bool]⟩
def k_add : Con := ⟨15, 15, [by32, by32], [by32]⟩
def k_sub : Con := ⟨12, 12, [by32, by32], [by32]⟩
def k_mul : Con := ⟨13, 13, [by32, by32], [by32]⟩
def k_inv : Con := ⟨16, 16, [by32], [by32]⟩
def k_root : Con := ⟨11, 11, [by32], [by32, .bool]⟩
def k_power : Con := ⟨24, 24, [by32, by32], [by32]⟩
def k_alive : Con := ⟨10, 10, [], [.bool]⟩
def k_lone : Con := ⟨3, 3, [by32], [.bool]⟩
def k_llaws : Con := ⟨4, 4, [by32, by32, by32], [.bool]⟩
def k_lproducts : Con := ⟨5, 5, [by32, by32], [.bool]⟩
def k_lroots : Con := ⟨6, 6, [by32], [.bool]⟩
def k_lsums : Con := ⟨7, 7, [by32, by32], [.bool]⟩
def k_lsteps : Con := ⟨8, 8, [by32, u8, u8], [.bool]⟩
def k_lpowers : Con := ⟨9, 9, [by32, by32], [.bool]⟩
def sh : Nat → List Nat × List Nat
  | 37 => ([32], [4])
  | 27 => ([4], [32])
  | 28 => ([], [4])
  | 42 => ([4, 4], [1])
  | 55 => ([4, 4], [4, 1])
  | 56 => ([4, 4], [4, 1])
  | 39 => ([4], [4])
  | 40 => ([4, 4], [4])
  | 41 => ([4, 4], [4])
  | 54 => ([4, 4], [4])
  | 36 => ([4, 4], [4])
  | 44 => ([4, 4], [4])
  | 45 => ([4], [4])
  | 23 => ([32], [1])
  | 21 => ([32], [32])
  | 19 => ([32, 32], [32])
  | 20 => ([32, 32], [32])
  | 17 => ([32, 32], [32])
  | 26 => ([32], [32])
  | 25 => ([32, 32], [32])
  | 38 => ([4], [4, 1])
  | 18 => ([32], [32, 1])
  | 46 => ([5], [5])
  | 29 => ([32], [5])
  | 31 => ([5], [32])
  | 34 => ([5, 5], [5])
  | 32 => ([5, 5], [5])
  | 33 => ([5, 5], [5])
  | 47 => ([5], [5])
  | 50 => ([5], [5])
  | 43 => ([5, 4], [5])
  | 35 => ([5], [5])
  | 48 => ([5, 5], [1])
  | 49 => ([5], [1])
  | 30 => ([5], [5, 1])
  | 14 => ([32], [32])
  | 22 => ([32], [1])
  | 15 => ([32, 32], [32])
  | 12 => ([32, 32], [32])
  | 13 => ([32, 32], [32])
  | 16 => ([32], [32])
  | 11 => ([32], [32, 1])
  | 24 => ([32, 32], [32])
  | 10 => ([], [1])
  | 3 => ([32], [1])
  | 4 => ([32, 32, 32], [1])
  | 5 => ([32, 32], [1])
  | 6 => ([32], [1])
  | 7 => ([32, 32], [1])
  | 8 => ([32, 1, 1], [1])
  | 9 => ([32, 32], [1])
  | _ => ([], [])

/-! ### Numbers -/
abbrev nw : List Int → Int := num 18446744073709551616
abbrev nb : List Int → Int := num 256
abbrev v5 : List Int → Int := num 2251799813685248
/-- A power, its remainder: it stays folded. -/
def pw (a : Int) (e : Nat) : Int := a ^ e % 57896044618658097711785492504343953926634992332820282019728792003956564819949
def eInv : Nat := 57896044618658097711785492504343953926634992332820282019728792003956564819947
def eRoot : Nat := 7237005577332262213973186563042994240829374041602535252466099000494570602494
def sqI : Int := 19681161376707505956807079304988542015446066515923890162744021073123829784752
def turn : Int := 19681161376707505956807079304988542015446066515923890162744021073123829784752
/-- The document's root: of a number below p. -/
def sqF (a : Int) : Int × Int :=
  let c0 := pw a eRoot
  let c := if c0 * c0 % 57896044618658097711785492504343953926634992332820282019728792003956564819949 = a then c0 else c0 * sqI % 57896044618658097711785492504343953926634992332820282019728792003956564819949
  if c * c % 57896044618658097711785492504343953926634992332820282019728792003956564819949 = a then (if c % 2 = 1 then (0 - c) % 57896044618658097711785492504343953926634992332820282019728792003956564819949 else c, 1) else (0, 0)
/-- The program's root. -/
def sqP (a : Int) : Int × Int :=
  let c0 := pw a eRoot
  if c0 * c0 % 57896044618658097711785492504343953926634992332820282019728792003956564819949 = a then (if c0 % 2 = 1 then (0 - c0) % 57896044618658097711785492504343953926634992332820282019728792003956564819949 else c0, 1) else
  let c := c0 * turn % 57896044618658097711785492504343953926634992332820282019728792003956564819949
  if c * c % 57896044618658097711785492504343953926634992332820282019728792003956564819949 = a then (if c % 2 = 1 then (0 - c) % 57896044618658097711785492504343953926634992332820282019728792003956564819949 else c, 1) else (0, 0)
def bit (b : Prop) [Decidable b] : Int := if b then 1 else 0
abbrev Sp := List (List Int) → List (List Int) → Prop
def s_load : Sp | [a], [r] => nw r = nb a | _, _ => True
def s_bytes : Sp | [a], [r] => nb r = nw a | _, _ => True
def s_p : Sp | [], [r] => nw r = 57896044618658097711785492504343953926634992332820282019728792003956564819949 | _, _ => True
def s_less : Sp | [a, b], [[z]] => z = bit (nw a < nw b) | _, _ => True
def s_minus : Sp | [a, b], [r, [c]] => nw r = nw a - nw b + 115792089237316195423570985008687907853269984665640564039457584007913129639936 * c | _, _ => True
def s_plus : Sp | [a, b], [r, [c]] => nw r = nw a + nw b - 115792089237316195423570985008687907853269984665640564039457584007913129639936 * c | _, _ => True
def s_cut : Sp | [a], [r] => nw r = nw a % 57896044618658097711785492504343953926634992332820282019728792003956564819949 | _, _ => True
def s_sum : Sp | [a, b], [r] => nw r = (nw a + nw b) % 115792089237316195423570985008687907853269984665640564039457584007913129639936 % 57896044618658097711785492504343953926634992332820282019728792003956564819949 | _, _ => True
def s_diff : Sp | [a, b], [r] => nw r = (nw a - nw b + (if nw a < nw b then 57896044618658097711785492504343953926634992332820282019728792003956564819949 else 0)) % 115792089237316195423570985008687907853269984665640564039457584007913129639936 | _, _ => True
def s_fold : Sp | [a, b], [r] => nw r = (nw a + 115792089237316195423570985008687907853269984665640564039457584007913129639936 * nw b) % 57896044618658097711785492504343953926634992332820282019728792003956564819949 | _, _ => True
def s_prod : Sp | [a, b], [r] => nw r = nw a * nw b % 57896044618658097711785492504343953926634992332820282019728792003956564819949 | _, _ => True
def s_take : Sp | [a, n], [r] => nw r = pw (nw a) (nw n).toNat | _, _ => True
def s_invert : Sp | [a], [r] => nw r = pw (nw a) eInv | _, _ => True
def s_right : Sp | [a], [[z]] => z = bit (nb a < 57896044618658097711785492504343953926634992332820282019728792003956564819949) | _, _ => True
def s_reduce : Sp | [a], [r] => nb r = nb a % 57896044618658097711785492504343953926634992332820282019728792003956564819949 | _, _ => True
def s_add : Sp | [a, b], [r] => nb r = (nb a + nb b) % 57896044618658097711785492504343953926634992332820282019728792003956564819949 | _, _ => True
def s_sub : Sp | [a, b], [r] => nb r = (nb a - nb b) % 57896044618658097711785492504343953926634992332820282019728792003956564819949 | _, _ => True
def s_mul : Sp | [a, b], [r] => nb r = nb a * nb b % 57896044618658097711785492504343953926634992332820282019728792003956564819949 | _, _ => True
def s_inv : Sp | [a], [r] => nb r = pw (nb a) eInv | _, _ => True
def s_power : Sp | [a, n], [r] => nb r = pw (nb a) (nb n).toNat | _, _ => True
def s_square : Sp | [a], [r, [z]] => (nw r, z) = sqF (nw a) | _, _ => True
def s_rroot : Sp | [a], [r, [z]] => (nb r, z) = sqF (nb a % 57896044618658097711785492504343953926634992332820282019728792003956564819949) | _, _ => True
def s_carried : Sp | [a], [r] => v5 r % 57896044618658097711785492504343953926634992332820282019728792003956564819949 = v5 a % 57896044618658097711785492504343953926634992332820282019728792003956564819949 ∧ v5 r < 57896044618658097711785492504343953926634992332820282019728792003956564819949 + 38 | _, _ => True
def s_from : Sp | [a], [r] => v5 r % 57896044618658097711785492504343953926634992332820282019728792003956564819949 = nb a % 57896044618658097711785492504343953926634992332820282019728792003956564819949 | _, _ => True
def s_ebytes : Sp | [a], [r] => nb r = v5 a % 57896044618658097711785492504343953926634992332820282019728792003956564819949 | _, _ => True
def s_eplus : Sp | [a, b], [r] => v5 r % 57896044618658097711785492504343953926634992332820282019728792003956564819949 = (v5 a + v5 b) % 57896044618658097711785492504343953926634992332820282019728792003956564819949 | _, _ => True
def s_eminus : Sp | [a, b], [r] => v5 r % 57896044618658097711785492504343953926634992332820282019728792003956564819949 = (v5 a - v5 b) % 57896044618658097711785492504343953926634992332820282019728792003956564819949 | _, _ => True
def s_times : Sp | [a, b], [r] => v5 r % 57896044618658097711785492504343953926634992332820282019728792003956564819949 = v5 a * v5 b % 57896044618658097711785492504343953926634992332820282019728792003956564819949 | _, _ => True
def s_squared : Sp | [a], [r] => v5 r % 57896044618658097711785492504343953926634992332820282019728792003956564819949 = v5 a * v5 a % 57896044618658097711785492504343953926634992332820282019728792003956564819949 | _, _ => True
def s_negated : Sp | [a], [r] => v5 r % 57896044618658097711785492504343953926634992332820282019728792003956564819949 = (0 - v5 a) % 57896044618658097711785492504343953926634992332820282019728792003956564819949 | _, _ => True
def s_raised : Sp | [a, n], [r] => v5 r % 57896044618658097711785492504343953926634992332820282019728792003956564819949 = pw (v5 a) (nw n).toNat | _, _ => True
def s_inverted : Sp | [a], [r] => v5 r % 57896044618658097711785492504343953926634992332820282019728792003956564819949 = pw (v5 a) eInv | _, _ => True
def s_same : Sp | [a, b], [[z]] => z = bit (v5 a % 57896044618658097711785492504343953926634992332820282019728792003956564819949 = v5 b % 57896044618658097711785492504343953926634992332820282019728792003956564819949) | _, _ => True
def s_odd : Sp | [a], [[z]] => z = v5 a % 57896044618658097711785492504343953926634992332820282019728792003956564819949 % 2 | _, _ => True
def s_rooted : Sp | [a], [r, [z]] => (v5 r % 57896044618658097711785492504343953926634992332820282019728792003956564819949, z) = sqP (v5 a % 57896044618658097711785492504343953926634992332820282019728792003956564819949) | _, _ => True
def s_root : Sp | [a], [r, [z]] => (nb r, z) = sqP (nb a % 57896044618658097711785492504343953926634992332820282019728792003956564819949) | _, _ => True
def s_true : Sp | _, [[z]] => z = 1 | _, _ => True
def SB : Nat → Sp
  | 37 => s_load
  | 27 => s_bytes
  | 28 => s_p
  | 42 => s_less
  | 55 => s_minus
  | 56 => s_plus
  | 39 => s_cut
  | 40 => s_sum
  | 41 => s_diff
  | 54 => s_fold
  | 36 => s_prod
  | 44 => s_take
  | 45 => s_invert
  | 23 => s_right
  | 21 => s_reduce
  | 19 => s_add
  | 20 => s_sub
  | 17 => s_mul
  | 26 => s_inv
  | 25 => s_power
  | 38 => s_square
  | 18 => s_rroot
  | 46 => s_carried
  | 29 => s_from
  | 31 => s_ebytes
  | 34 => s_eplus
  | 32 => s_eminus
  | 33 => s_times
  | 47 => s_squared
  | 50 => s_negated
  | 43 => s_raised
  | 35 => s_inverted
  | 48 => s_same
  | 49 => s_odd
  | 30 => s_rooted
  | 14 => s_reduce
  | 22 => s_right
  | 15 => s_add
  | 12 => s_sub
  | 13 => s_mul
  | 16 => s_inv
  | 11 => s_root
  | 24 => s_power
  | _ => s_true
/-- What is called: what each says, and one result for each argument. -/
def SG (G : Nat → List Int → List Int) : Nat → Sp := fun id a r => SB id a r ∧ r.flatten = G id a.flatten
/-- The result's bounds, and what it says. -/
def KB (ds : List D) (id : Nat) : Sp := fun a r => inB (bdsL ds) r.flatten ∧ SB id a r

/-! ### Lists of so many -/
theorem in_4 {lo hi : Int} {r : List Int} (h : inB (repB lo hi 4) r) : ∃ x0 x1 x2 x3, r = [x0, x1, x2, x3] ∧ lo ≤ x0 ∧ x0 ≤ hi ∧ lo ≤ x1 ∧ x1 ≤ hi ∧ lo ≤ x2 ∧ x2 ≤ hi ∧ lo ≤ x3 ∧ x3 ≤ hi := by
  match r, h with
  | [x0, x1, x2, x3], h =>
    simp only [repB, inB, and_true] at h
    exact ⟨x0, x1, x2, x3, rfl, h⟩
theorem in_5 {lo hi : Int} {r : List Int} (h : inB (repB lo hi 5) r) : ∃ x0 x1 x2 x3 x4, r = [x0, x1, x2, x3, x4] ∧ lo ≤ x0 ∧ x0 ≤ hi ∧ lo ≤ x1 ∧ x1 ≤ hi ∧ lo ≤ x2 ∧ x2 ≤ hi ∧ lo ≤ x3 ∧ x3 ≤ hi ∧ lo ≤ x4 ∧ x4 ≤ hi := by
  match r, h with
  | [x0, x1, x2, x3, x4], h =>
    simp only [repB, inB, and_true] at h
    exact ⟨x0, x1, x2, x3, x4, rfl, h⟩
theorem in_32 {lo hi : Int} {r : List Int} (h : inB (repB lo hi 32) r) : ∃ x0 x1 x2 x3 x4 x5 x6 x7 x8 x9 x10 x11 x12 x13 x14 x15 x16 x17 x18 x19 x20 x21 x22 x23 x24 x25 x26 x27 x28 x29 x30 x31, r = [x0, x1, x2, x3, x4, x5, x6, x7, x8, x9, x10, x11, x12, x13, x14, x15, x16, x17, x18, x19, x20, x21, x22, x23, x24, x25, x26, x27, x28, x29, x30, x31] ∧ lo ≤ x0 ∧ x0 ≤ hi ∧ lo ≤ x1 ∧ x1 ≤ hi ∧ lo ≤ x2 ∧ x2 ≤ hi ∧ lo ≤ x3 ∧ x3 ≤ hi ∧ lo ≤ x4 ∧ x4 ≤ hi ∧ lo ≤ x5 ∧ x5 ≤ hi ∧ lo ≤ x6 ∧ x6 ≤ hi ∧ lo ≤ x7 ∧ x7 ≤ hi ∧ lo ≤ x8 ∧ x8 ≤ hi ∧ lo ≤ x9 ∧ x9 ≤ hi ∧ lo ≤ x10 ∧ x10 ≤ hi ∧ lo ≤ x11 ∧ x11 ≤ hi ∧ lo ≤ x12 ∧ x12 ≤ hi ∧ lo ≤ x13 ∧ x13 ≤ hi ∧ lo ≤ x14 ∧ x14 ≤ hi ∧ lo ≤ x15 ∧ x15 ≤ hi ∧ lo ≤ x16 ∧ x16 ≤ hi ∧ lo ≤ x17 ∧ x17 ≤ hi ∧ lo ≤ x18 ∧ x18 ≤ hi ∧ lo ≤ x19 ∧ x19 ≤ hi ∧ lo ≤ x20 ∧ x20 ≤ hi ∧ lo ≤ x21 ∧ x21 ≤ hi ∧ lo ≤ x22 ∧ x22 ≤ hi ∧ lo ≤ x23 ∧ x23 ≤ hi ∧ lo ≤ x24 ∧ x24 ≤ hi ∧ lo ≤ x25 ∧ x25 ≤ hi ∧ lo ≤ x26 ∧ x26 ≤ hi ∧ lo ≤ x27 ∧ x27 ≤ hi ∧ lo ≤ x28 ∧ x28 ≤ hi ∧ lo ≤ x29 ∧ x29 ≤ hi ∧ lo ≤ x30 ∧ x30 ≤ hi ∧ lo ≤ x31 ∧ x31 ≤ hi := by
  match r, h with
  | [x0, x1, x2, x3, x4, x5, x6, x7, x8, x9, x10, x11, x12, x13, x14, x15, x16, x17, x18, x19, x20, x21, x22, x23, x24, x25, x26, x27, x28, x29, x30, x31], h =>
    simp only [repB, inB, and_true] at h
    exact ⟨x0, x1, x2, x3, x4, x5, x6, x7, x8, x9, x10, x11, x12, x13, x14, x15, x16, x17, x18, x19, x20, x21, x22, x23, x24, x25, x26, x27, x28, x29, x30, x31, rfl, h⟩

theorem len_of {n : Nat} {l : List Int} {lo hi : Int} (h : inB (repB lo hi n) l) : l.length = n := by rw [inB_len h, repB_len]
theorem nw_b {l : List Int} (h : inB (repB 0 18446744073709551615 4) l) : 0 ≤ nw l ∧ nw l < 115792089237316195423570985008687907853269984665640564039457584007913129639936 := ⟨num_nonneg (by decide) (Int.le_refl _) h, num_lt (b := 18446744073709551616) (by decide) h⟩
theorem nb_b {l : List Int} (h : inB (repB 0 255 32) l) : 0 ≤ nb l ∧ nb l < 115792089237316195423570985008687907853269984665640564039457584007913129639936 := ⟨num_nonneg (by decide) (Int.le_refl _) h, num_lt (b := 256) (by decide) h⟩
theorem nb_inj {l l' : List Int} (h : inB (repB 0 255 32) l) (h' : inB (repB 0 255 32) l') (e : nb l = nb l') : l = l' := num_inj (b := 256) (by decide) h h' e
theorem nw_inj {l l' : List Int} (h : inB (repB 0 18446744073709551615 4) l) (h' : inB (repB 0 18446744073709551615 4) l') (e : nw l = nw l') : l = l' := num_inj (b := 18446744073709551616) (by decide) h h' e
theorem app_nil {l : List Int} {b : List (Int × Int)} (h : inB b l) : inB (b ++ []) (l ++ []) := by simpa using h
theorem nw4 (a b c d : Int) : nw [a, b, c, d] = a + 18446744073709551616 * b + 340282366920938463463374607431768211456 * c + 6277101735386680763835789423207666416102355444464034512896 * d := by simp only [num]; omega
theorem v5_5 (a b c d e : Int) : v5 [a, b, c, d, e] = a + 2251799813685248 * b + 5070602400912917605986812821504 * c + 11417981541647679048466287755595961091061972992 * d + 25711008708143844408671393477458601640355247900524685364822016 * e := by simp only [num]; omega
theorem fold_fin {low hi t c s1 d s2 e s3 : Int} (h0 : t + 115792089237316195423570985008687907853269984665640564039457584007913129639936 * c = 38 * hi) (h1 : s1 = low + t - 115792089237316195423570985008687907853269984665640564039457584007913129639936 * d) (h2 : s2 = s1 + 38 * (c + d) - 115792089237316195423570985008687907853269984665640564039457584007913129639936 * e) (h3 : s3 = s2 + 38 * e) : s3 % 57896044618658097711785492504343953926634992332820282019728792003956564819949 = (low + 115792089237316195423570985008687907853269984665640564039457584007913129639936 * hi) % 57896044618658097711785492504343953926634992332820282019728792003956564819949 := by
  have : low + 115792089237316195423570985008687907853269984665640564039457584007913129639936 * hi = s3 + 57896044618658097711785492504343953926634992332820282019728792003956564819949 * (2 * (e + c + d + hi)) := by omega
  rw [this, Int.add_mul_emod_self_left]
theorem prod_alg (a0 a1 a2 a3 b0 b1 b2 b3 : Int) : (a0 + 18446744073709551616 * a1 + 340282366920938463463374607431768211456 * a2 + 6277101735386680763835789423207666416102355444464034512896 * a3) * (b0 + 18446744073709551616 * b1 + 340282366920938463463374607431768211456 * b2 + 6277101735386680763835789423207666416102355444464034512896 * b3) = a0 * b0 + 18446744073709551616 * (a0 * b1) + 340282366920938463463374607431768211456 * (a0 * b2) + 6277101735386680763835789423207666416102355444464034512896 * (a0 * b3) + 18446744073709551616 * (a1 * b0) + 340282366920938463463374607431768211456 * (a1 * b1) + 6277101735386680763835789423207666416102355444464034512896 * (a1 * b2) + 115792089237316195423570985008687907853269984665640564039457584007913129639936 * (a1 * b3) + 340282366920938463463374607431768211456 * (a2 * b0) + 6277101735386680763835789423207666416102355444464034512896 * (a2 * b1) + 115792089237316195423570985008687907853269984665640564039457584007913129639936 * (a2 * b2) + 2135987035920910082395021706169552114602704522356652769947041607822219725780640550022962086936576 * (a2 * b3) + 6277101735386680763835789423207666416102355444464034512896 * (a3 * b0) + 115792089237316195423570985008687907853269984665640564039457584007913129639936 * (a3 * b1) + 2135987035920910082395021706169552114602704522356652769947041607822219725780640550022962086936576 * (a3 * b2) + 39402006196394479212279040100143613805079739270465446667948293404245721771497210611414266254884915640806627990306816 * (a3 * b3) := by grind
theorem nw_x (x : Int) : nw [x, 0, 0, 0] = x := by rw [nw4]; omega
theorem nw_par (l : List Int) : nw l % 2 = l.getD 0 0 % 2 := by
  cases l with
  | nil => rfl
  | cons x r => simp only [num, List.getD_cons_zero]; omega
theorem nb_par (l : List Int) : nb l % 2 = l.getD 0 0 % 2 := by
  cases l with
  | nil => rfl
  | cons x r => simp only [num, List.getD_cons_zero]; omega
theorem bit_congr {a b : Prop} [Decidable a] [Decidable b] (h : a ↔ b) : bit a = bit b := by
  unfold bit; by_cases ha : a
  · rw [if_pos ha, if_pos (h.1 ha)]
  · rw [if_neg ha, if_neg (fun hb => ha (h.2 hb))]
theorem bit_in {b : Prop} [Decidable b] : 0 ≤ bit b ∧ bit b ≤ 1 := by unfold bit; split <;> decide
theorem bit_one {b : Prop} [Decidable b] (h : bit b = 1) : b := by
  unfold bit at h; split at h
  · assumption
  · omega
theorem bit_none {b : Prop} [Decidable b] (h : ¬ bit b = 1) : ¬ b := fun hb => h (if_pos hb)
theorem bit_self {z : Int} (h0 : 0 ≤ z) (h1 : z ≤ 1) : bit (z = 1) = z := by unfold bit; split <;> omega
theorem dup {x d q q' : Int} (h1 : 0 ≤ x - d * q) (h2 : x - d * q < d) (h3 : 0 ≤ x - d * q') (h4 : x - d * q' < d) : q = q' := quot_unique h1 h2 h3 h4
theorem quot_is {x d q : Int} (hd : 0 < d) (h1 : 0 ≤ x - d * q) (h2 : x - d * q < d) : x / d = q := by
  have e := Int.emod_add_mul_ediv x d
  have e1 := Int.emod_nonneg x (show d ≠ 0 by omega)
  have e2 := Int.emod_lt_of_pos x hd
  exact quot_unique (x := x) (d := d) (by omega) (by omega) h1 h2
theorem dd {x d c q q' p : Int} (hd : 0 < d ∧ 0 < c) (a1 : 0 ≤ x - d * q) (a2 : x - d * q < d) (b1 : 0 ≤ q - c * q') (b2 : q - c * q' < c) {e : Int} (c1 : 0 ≤ x - e * p) (c2 : x - e * p < e) (he : e = d * c := by decide) : q' = p := by
  subst he
  rw [← quot_is hd.2 b1 b2, ← quot_is hd.1 a1 a2, Int.ediv_ediv_of_nonneg (Int.le_of_lt hd.1)]
  exact quot_is (Int.mul_pos hd.1 hd.2) c1 c2
theorem five_lt {r0 r1 r2 r3 r4 : Int} (h0 : 0 ≤ r0 ∧ r0 < 2251799813685248) (h1 : 0 ≤ r1 ∧ r1 < 2251799813685248) (h2 : 0 ≤ r2 ∧ r2 < 2251799813685248) (h3 : 0 ≤ r3 ∧ r3 < 2251799813685248) (h4 : 0 ≤ r4 ∧ r4 < 2251799813685248) :
    0 ≤ r0 + 2251799813685248 * r1 + 5070602400912917605986812821504 * r2 + 11417981541647679048466287755595961091061972992 * r3 + 25711008708143844408671393477458601640355247900524685364822016 * r4 ∧ r0 + 2251799813685248 * r1 + 5070602400912917605986812821504 * r2 + 11417981541647679048466287755595961091061972992 * r3 + 25711008708143844408671393477458601640355247900524685364822016 * r4 < 57896044618658097711785492504343953926634992332820282019728792003956564819968 := by omega
theorem canon {A c e : Int} (h0 : 0 ≤ A) (h1 : A < 57896044618658097711785492504343953926634992332820282019728792003956564819949 + 38) (c0 : 0 ≤ A + 19 - 57896044618658097711785492504343953926634992332820282019728792003956564819968 * c) (c1 : A + 19 - 57896044618658097711785492504343953926634992332820282019728792003956564819968 * c < 57896044618658097711785492504343953926634992332820282019728792003956564819968)
    (e0 : 0 ≤ A + 19 * c - 57896044618658097711785492504343953926634992332820282019728792003956564819968 * e) (e1 : A + 19 * c - 57896044618658097711785492504343953926634992332820282019728792003956564819968 * e < 57896044618658097711785492504343953926634992332820282019728792003956564819968) : A + 19 * c - 57896044618658097711785492504343953926634992332820282019728792003956564819968 * e = A % 57896044618658097711785492504343953926634992332820282019728792003956564819949 := by
  have hc : c = 0 ∨ c = 1 := by omega
  rcases hc with rfl | rfl
  · have he : e = 0 := by omega
    subst he
    rw [Int.emod_eq_of_lt h0 (by omega)]; omega
  · have he : e = 1 := by omega
    subst he
    have h2 : 0 ≤ A - 57896044618658097711785492504343953926634992332820282019728792003956564819949 := by omega
    have h3 : A - 57896044618658097711785492504343953926634992332820282019728792003956564819949 < 57896044618658097711785492504343953926634992332820282019728792003956564819949 := by omega
    rw [show A = (A - 57896044618658097711785492504343953926634992332820282019728792003956564819949) + 57896044618658097711785492504343953926634992332820282019728792003956564819949 * 1 by omega, Int.add_mul_emod_self_left, Int.emod_eq_of_lt h2 h3]; omega
theorem v5_nonneg {l : List Int} (h : inB (repB 0 4503599627370495 5) l) : 0 ≤ v5 l := num_nonneg (by decide) (Int.le_refl _) h
theorem times_alg (x0 x1 x2 x3 x4 y0 y1 y2 y3 y4 : Int) : (x0 + 2251799813685248 * x1 + 5070602400912917605986812821504 * x2 + 11417981541647679048466287755595961091061972992 * x3 + 25711008708143844408671393477458601640355247900524685364822016 * x4) * (y0 + 2251799813685248 * y1 + 5070602400912917605986812821504 * y2 + 11417981541647679048466287755595961091061972992 * y3 + 25711008708143844408671393477458601640355247900524685364822016 * y4) = (1 * (x0 * y0) + 2251799813685248 * (x0 * y1) + 5070602400912917605986812821504 * (x0 * y2) + 11417981541647679048466287755595961091061972992 * (x0 * y3) + 25711008708143844408671393477458601640355247900524685364822016 * (x0 * y4) + 2251799813685248 * (x1 * y0) + 5070602400912917605986812821504 * (x1 * y1) + 11417981541647679048466287755595961091061972992 * (x1 * y2) + 25711008708143844408671393477458601640355247900524685364822016 * (x1 * y3) + 1 * (x1 * (19 * y4)) + 5070602400912917605986812821504 * (x2 * y0) + 11417981541647679048466287755595961091061972992 * (x2 * y1) + 25711008708143844408671393477458601640355247900524685364822016 * (x2 * y2) + 1 * (x2 * (19 * y3)) + 2251799813685248 * (x2 * (19 * y4)) + 11417981541647679048466287755595961091061972992 * (x3 * y0) + 25711008708143844408671393477458601640355247900524685364822016 * (x3 * y1) + 1 * (x3 * (19 * y2)) + 2251799813685248 * (x3 * (19 * y3)) + 5070602400912917605986812821504 * (x3 * (19 * y4)) + 25711008708143844408671393477458601640355247900524685364822016 * (x4 * y0) + 1 * (x4 * (19 * y1)) + 2251799813685248 * (x4 * (19 * y2)) + 5070602400912917605986812821504 * (x4 * (19 * y3)) + 11417981541647679048466287755595961091061972992 * (x4 * (19 * y4))) + 57896044618658097711785492504343953926634992332820282019728792003956564819949 * (1 * (x1 * y4) + 1 * (x2 * y3) + 2251799813685248 * (x2 * y4) + 1 * (x3 * y2) + 2251799813685248 * (x3 * y3) + 5070602400912917605986812821504 * (x3 * y4) + 1 * (x4 * y1) + 2251799813685248 * (x4 * y2) + 5070602400912917605986812821504 * (x4 * y3) + 11417981541647679048466287755595961091061972992 * (x4 * y4)) := by grind
theorem neg_mod {c : Int} (h0 : 0 < c) (h1 : c < 57896044618658097711785492504343953926634992332820282019728792003956564819949) : (0 - c) % 57896044618658097711785492504343953926634992332820282019728792003956564819949 = 57896044618658097711785492504343953926634992332820282019728792003956564819949 - c := by
  rw [← Int.emod_eq_of_lt (show 0 ≤ 57896044618658097711785492504343953926634992332820282019728792003956564819949 - c by omega) (show 57896044618658097711785492504343953926634992332820282019728792003956564819949 - c < 57896044618658097711785492504343953926634992332820282019728792003956564819949 by omega), show 57896044618658097711785492504343953926634992332820282019728792003956564819949 - c = (0 - c) + 57896044618658097711785492504343953926634992332820282019728792003956564819949 * 1 by omega, Int.add_mul_emod_self_left]
theorem bit_t {b : Prop} [Decidable b] (h : b) : bit b = 1 := if_pos h
theorem bit_f {b : Prop} [Decidable b] (h : ¬ b) : bit b = 0 := if_neg h
theorem cond_bit {b : Prop} [Decidable b] : (cond (decide b) 1 0 : Int) = bit b := by
  unfold bit; by_cases h : b <;> simp [h]

/-! ### Powers, bit by bit -/
theorem num_bit (w : Nat) : ∀ {n : Nat} {l : List Int} (i : Nat), inB (repB 0 (2 ^ w - 1) n) l → i < w * n → num (2 ^ w) l / 2 ^ i % 2 = l.getD (i / w) 0 / 2 ^ (i % w) % 2
  | 0, _, i, _, h => by omega
  | n + 1, [], i, h, _ => by simp [repB, inB] at h
  | n + 1, x :: l, i, h, hi => by
    obtain ⟨h0, h1, h2⟩ := h
    have hp : ∀ k : Nat, (0 : Int) < 2 ^ k := fun k => by have := Nat.two_pow_pos k; exact_mod_cast this
    have hw : 0 < w := by
      rcases Nat.eq_zero_or_pos w with rfl | h
      · simp at hi
      · exact h
    simp only [num]
    by_cases hiw : i < w
    · rw [Nat.div_eq_of_lt hiw, Nat.mod_eq_of_lt hiw, List.getD_cons_zero]
      obtain ⟨k, rfl⟩ : ∃ k, w = i + (k + 1) := ⟨w - i - 1, by omega⟩
      rw [Int.pow_add 2 i, Int.mul_assoc, Int.add_mul_ediv_left _ _ (by have := hp i; omega), Int.pow_succ, Int.mul_comm (2 ^ k) 2, Int.mul_assoc]
      rw [Int.add_mul_emod_self_left]
    · obtain ⟨k, rfl⟩ : ∃ k, i = k + w := ⟨i - w, by omega⟩
      have ih := num_bit w (n := n) (l := l) k h2 (by rw [Nat.mul_add] at hi; omega)
      have e1 : (k + w) / w = k / w + 1 := Nat.add_div_right k hw
      have e2 : (k + w) % w = k % w := Nat.add_mod_right k w
      rw [e1, e2, List.getD_cons_succ, ← ih]
      congr 1
      rw [Nat.add_comm k w, Int.pow_add, ← Int.ediv_ediv_of_nonneg (Int.le_of_lt (hp w)), Int.add_mul_ediv_left _ _ (by have := hp w; omega)]
      rw [Int.ediv_eq_zero_of_lt h0 (by omega), Int.zero_add]
theorem bitw {l : List Int} {i : Nat} {q x q' y h : Int} (hl : inB (repB 0 18446744073709551615 4) l) (hi : (i : Int) ≤ 255) (c : 0 ≤ (i : Int) - 64 * q) (d : (i : Int) - 64 * q < 64) (e : x = l.getD q.toNat 0)
    (c' : 0 ≤ (i : Int) - 64 * q') (d' : (i : Int) - 64 * q' < 64) (e' : y = x / 2 ^ ((i : Int) + (-64) * q').toNat) (c2 : 0 ≤ y - 2 * h) (d2 : y - 2 * h < 2) : y + (-2) * h = (((nw l).toNat / 2 ^ i % 2 : Nat) : Int) := by
  have hb := num_bit 64 (n := 4) (l := l) i hl (by omega)
  have h0 := (nw_b hl).1
  have q1 : q.toNat = i / 64 := by omega
  have q2 : ((i : Int) + (-64) * q').toNat = i % 64 := by omega
  rw [q1] at e
  rw [q2] at e'
  have e3 : (((nw l).toNat / 2 ^ i % 2 : Nat) : Int) = nw l / 2 ^ i % 2 := by
    have : ((nw l).toNat : Int) = nw l := Int.toNat_of_nonneg h0
    rw [Int.natCast_emod, Int.natCast_ediv, this]
    simp
  rw [e3]
  have hb : nw l / 2 ^ i % 2 = l.getD (i / 64) 0 / 2 ^ (i % 64) % 2 := hb
  rw [hb, ← e, ← e']
  omega
theorem pw_zero (a : Int) : pw a 0 = 1 := by simp [pw]
theorem mul_mod_l (a b : Int) : a % 57896044618658097711785492504343953926634992332820282019728792003956564819949 * b % 57896044618658097711785492504343953926634992332820282019728792003956564819949 = a * b % 57896044618658097711785492504343953926634992332820282019728792003956564819949 := by rw [Int.mul_emod, Int.emod_emod, ← Int.mul_emod]
theorem mul_mod_r (a b : Int) : a * (b % 57896044618658097711785492504343953926634992332820282019728792003956564819949) % 57896044618658097711785492504343953926634992332820282019728792003956564819949 = a * b % 57896044618658097711785492504343953926634992332820282019728792003956564819949 := by rw [Int.mul_comm, mul_mod_l, Int.mul_comm]
theorem pw_succ (a : Int) (k : Nat) : pw a (k + 1) = pw a k * a % 57896044618658097711785492504343953926634992332820282019728792003956564819949 := by unfold pw; rw [Int.pow_succ, mul_mod_l]
theorem pw_double (a : Int) (k : Nat) : pw a (2 * k) = pw a k * pw a k % 57896044618658097711785492504343953926634992332820282019728792003956564819949 := by unfold pw; rw [mul_mod_l, mul_mod_r, ← Int.pow_add, Nat.two_mul]
theorem pw_mod (a : Int) (k : Nat) : pw (a % 57896044618658097711785492504343953926634992332820282019728792003956564819949) k = pw a k := by
  induction k with
  | zero => rw [pw_zero, pw_zero]
  | succ k ih => rw [pw_succ, pw_succ, ih, mul_mod_r]
theorem pw_range (a : Int) (k : Nat) : 0 ≤ pw a k ∧ pw a k < 57896044618658097711785492504343953926634992332820282019728792003956564819949 := ⟨Int.emod_nonneg _ (by decide), Int.emod_lt_of_pos _ (by decide)⟩
theorem nat_half (N i : Nat) : N / 2 ^ i = 2 * (N / 2 ^ (i + 1)) + N / 2 ^ i % 2 := by
  have : N / 2 ^ (i + 1) = N / 2 ^ i / 2 := by rw [Nat.pow_succ, Nat.div_div_eq_div_mul]
  omega
theorem pw_bit1 {a : Int} {N i : Nat} (h : N / 2 ^ i % 2 = 1) : pw a (N / 2 ^ i) = pw a (N / 2 ^ (i + 1)) * pw a (N / 2 ^ (i + 1)) % 57896044618658097711785492504343953926634992332820282019728792003956564819949 * a % 57896044618658097711785492504343953926634992332820282019728792003956564819949 := by
  rw [nat_half N i, h, pw_succ, pw_double]
theorem pw_bit0 {a : Int} {N i : Nat} (h : N / 2 ^ i % 2 ≠ 1) : pw a (N / 2 ^ i) = pw a (N / 2 ^ (i + 1)) * pw a (N / 2 ^ (i + 1)) % 57896044618658097711785492504343953926634992332820282019728792003956564819949 := by
  have h0 : N / 2 ^ i % 2 = 0 := by omega
  rw [nat_half N i, h0, Nat.add_zero, pw_double]
theorem top_zero {l : List Int} (hl : inB (repB 0 18446744073709551615 4) l) : (nw l).toNat / 2 ^ (255 + 1 : Int).toNat = 0 := by
  have h := nw_b hl
  have e : (255 + 1 : Int).toNat = 256 := by decide
  rw [e]
  apply Nat.div_eq_of_lt
  have : ((nw l).toNat : Int) < 2 ^ 256 := by rw [Int.toNat_of_nonneg h.1]; exact h.2
  exact_mod_cast this
/-- What the loop of 'Raised' holds, round by round. -/
def raisedF (G : Nat → List Int → List Int) (e : List Int) (N : Nat) : Nat → List Int
  | 0 => [1, 0, 0, 0, 0]
  | k + 1 => bif N / 2 ^ (255 - k) % 2 == 1 then G 33 (G 47 (raisedF G e N k) ++ e) else G 47 (raisedF G e N k)
theorem eRoot_eq : (nw [18446744073709551614, 18446744073709551615, 18446744073709551615, 1152921504606846975]).toNat = eRoot := by decide
theorem pw_nat (a e : Nat) (h : e < 2 ^ 256) : pw (a : Int) e = ((Nt.pm 256 a e 57896044618658097711785492504343953926634992332820282019728792003956564819949 : Nat) : Int) := by
  rw [Nt.pm_eq 256 a e 57896044618658097711785492504343953926634992332820282019728792003956564819949 h]; unfold pw; rw [Int.natCast_emod]; congr 1
theorem sqI_eq : pw (nw [2, 0, 0, 0]) (nw [18446744073709551611, 18446744073709551615, 18446744073709551615, 2305843009213693951]).toNat = sqI := by
  rw [show nw [2, 0, 0, 0] = ((2 : Nat) : Int) by decide, pw_nat 2 _ (by decide)]
  decide +kernel
theorem turn_eq : v5 [1718705420411056, 234908883556509, 2233514472574048, 2117202627021982, 765476049583133] = turn := by decide
theorem eInv_eq : (nw [18446744073709551595, 18446744073709551615, 18446744073709551615, 9223372036854775807]).toNat = eInv := by decide
/-- What 'Raised' says, and whose function it is. -/
def KR (G : Nat → List Int → List Int) : Sp := fun a r => KB k_raised.res 43 a r ∧ (match a with | [e, n] => r.flatten = raisedF G e (nw n).toNat 256 | _ => True)
theorem v5_1 : v5 [1, 0, 0, 0, 0] = 1 := by decide
end Go.Fd
