/- AdD: a part of the proof of statements of this seat. -/
import Derived.Test.YtcellhafdgmkjaaDoorRxJ
set_option maxRecDepth 100000
set_option linter.unusedVariables false
namespace Go.Ad
open Go Go.Rx
def li_none : FuncId → Nat → Option LoopI := fun _ _ => none
def lsh_none : Nat → List Nat := fun _ => []
def aa : D := .mix [.str, .str]
def du8 : D := .int .u8 0 255
def didx : D := .int .i64 (-1) 9223372036854775807
def derr : D := .int .i64 0 21
def ksp : D := .strk [32]
def kdot : D := .strk [46]
def kdd : D := .strk [46, 46]
def kdm : D := .strk [46, 45]
def kat : D := .strk [64]
def kcol : D := .strk [58]
def khost : D := .strk [97, 98, 99, 100, 101, 102, 103, 104, 105, 106, 107, 108, 109, 110, 111, 112, 113, 114, 115, 116, 117, 118, 119, 120, 121, 122, 65, 66, 67, 68, 69, 70, 71, 72, 73, 74, 75, 76, 77, 78, 79, 80, 81, 82, 83, 84, 85, 86, 87, 88, 89, 90, 48, 49, 50, 51, 52, 53, 54, 55, 56, 57, 46, 45]
def kdig : D := .strk [48, 49, 50, 51, 52, 53, 54, 55, 56, 57]
def k_ibs : Con := ⟨73, 73, [.str, du8], [didx]⟩
def k_tlb : Con := ⟨36, 36, [.str, du8], [.str]⟩
def li_tlb : FuncId → Nat → Option LoopI := fun f r => match f, r with
  | 36, 1 => some ⟨[1], [(0, 0, 0)], [], [], []⟩
  | _, _ => none
def lsh_tlb : Nat → List Nat := fun n => [1]
def k_trb : Con := ⟨37, 37, [.str, du8], [.str]⟩
def li_trb : FuncId → Nat → Option LoopI := fun f r => match f, r with
  | 37, 1 => some ⟨[1], [(0, 0, 0)], [], [], []⟩
  | _, _ => none
def lsh_trb : Nat → List Nat := fun n => [1]
def k_tsp : Con := ⟨22, 120, [.str, ksp], [.str]⟩
def k_tdot : Con := ⟨22, 121, [.str, kdot], [.str]⟩
def k_tdm : Con := ⟨22, 122, [.str, kdm], [.str]⟩
def li_tdm : FuncId → Nat → Option LoopI := fun f r => match f, r with
  | 39, 1 => some ⟨[1], [(0, 0, 0)], [], [], []⟩
  | 40, 1 => some ⟨[1], [(0, 0, 0)], [], [], []⟩
  | _, _ => none
def lsh_tdm : Nat → List Nat := fun n => [1]
def k_cutat : Con := ⟨23, 125, [.str, kat], [.str, .str, .bool]⟩
def k_cutcol : Con := ⟨23, 126, [.str, kcol], [.str, .str, .bool]⟩
def k_cdot : Con := ⟨26, 127, [.str, kdot], [.bool]⟩
def k_only : Con := ⟨44, 44, [.str, .str], [.bool]⟩
def li_only : FuncId → Nat → Option LoopI := fun f r => match f, r with
  | 44, 2 => some ⟨[0, 1, 7], [(8, 0, 9223372036854775807)], [], [], []⟩
  | _, _ => none
def lsh_only : Nat → List Nat := fun n => [1]
def k_ionly : Con := ⟨65, 65, [.str, .str], [.bool]⟩
def li_ionly : FuncId → Nat → Option LoopI := fun f r => match f, r with
  | 65, 2 => some ⟨[0, 1, 7], [(8, 0, 9223372036854775807)], [], [], []⟩
  | _, _ => none
def lsh_ionly : Nat → List Nat := fun n => [1]
def k_low : Con := ⟨28, 28, [.str], [.str]⟩
def li_low : FuncId → Nat → Option LoopI := fun f r => match f, r with
  | 28, 3 => some ⟨[3, 8, 9], [(10, 0, 9223372036854775807)], [(0, 0, 0, 0)], [], []⟩
  | _, _ => none
def lsh_low : Nat → List Nat := fun n => [1, 1]
def k_rlow : Con := ⟨17, 17, [.str], [.str]⟩
def li_rlow : FuncId → Nat → Option LoopI := fun f r => match f, r with
  | 17, 3 => some ⟨[3], [(4, 0, 9223372036854775807)], [(0, 0, 0, 0)], [], []⟩
  | _, _ => none
def lsh_rlow : Nat → List Nat := fun n => [1, 1]
def k_rhas : Con := ⟨31, 31, [.str, du8], [.bool]⟩
def li_rhas : FuncId → Nat → Option LoopI := fun f r => match f, r with
  | 31, 2 => some ⟨[0, 1], [(5, 0, 9223372036854775807)], [], [], []⟩
  | _, _ => none
def lsh_rhas : Nat → List Nat := fun n => [1]
def k_cdd : Con := ⟨26, 128, [.str, kdd], [.bool]⟩
def q_cdd : QCon := ⟨k_cdd, 41⟩
def k_thost : Con := ⟨22, 123, [.str, khost], [.str]⟩
def li_thost : FuncId → Nat → Option LoopI := fun f r => match f, r with
  | 39, 1 => some ⟨[1], [(0, 0, 0)], [], [], []⟩
  | 40, 1 => some ⟨[1], [(0, 0, 0)], [], [], []⟩
  | _, _ => none
def lsh_thost : Nat → List Nat := fun n => [1]
def k_tdig : Con := ⟨22, 124, [.str, kdig], [.str]⟩
def li_tdig : FuncId → Nat → Option LoopI := fun f r => match f, r with
  | 39, 1 => some ⟨[1], [(0, 0, 0)], [], [], []⟩
  | 40, 1 => some ⟨[1], [(0, 0, 0)], [], [], []⟩
  | _, _ => none
def lsh_tdig : Nat → List Nat := fun n => [1]
def k_host : Con := ⟨47, 47, [.str], [.bool]⟩
def k_server : Con := ⟨27, 27, [.str], [.bool]⟩
def k_local : Con := ⟨24, 24, [.str], [.bool]⟩
def k_rlocal : Con := ⟨29, 29, [.str], [.bool]⟩
def li_rlocal : FuncId → Nat → Option LoopI := fun f r => match f, r with
  | 29, 5 => some ⟨[0, 3], [(4, 0, 9223372036854775807)], [], [], []⟩
  | 29, 10 => some ⟨[0, 3, 4, 5], [(7, 0, 9223372036854775807)], [], [6], []⟩
  | _, _ => none
def lsh_rlocal : Nat → List Nat := fun n => cond (Nat.beq n 3) [1] [1, 1]
def k_small : Con := ⟨50, 50, [du8], [.bool]⟩
def k_great : Con := ⟨51, 51, [du8], [.bool]⟩
def k_digit : Con := ⟨52, 52, [du8], [.bool]⟩
def k_rhost : Con := ⟨30, 30, [.str], [.bool]⟩
def li_rhost : FuncId → Nat → Option LoopI := fun f r => match f, r with
  | 30, 4 => some ⟨[0], [(3, 0, 9223372036854775807)], [], [], []⟩
  | _, _ => none
def lsh_rhost : Nat → List Nat := fun n => [1]
def k_rcountry : Con := ⟨35, 35, [.str], [.str, .bool, .bool]⟩
def k_rphone : Con := ⟨13, 13, [.str, .str], [.str, derr]⟩
def q_rphone : QCon := ⟨k_rphone, 44⟩
def li_rphone : FuncId → Nat → Option LoopI := fun f r => match f, r with
  | 13, 7 => some ⟨[0, 1, 6, 7, 8], [(9, 0, 0), (11, 0, 9223372036854775807)], [], [10], []⟩
  | _, _ => none
def lsh_rphone : Nat → List Nat := fun n => [1, 1, 1]
def k_remail : Con := ⟨11, 11, [.str], [.str, derr]⟩
def li_remail : FuncId → Nat → Option LoopI := fun f r => match f, r with
  | 11, 1 => some ⟨[], [(0, 0, 0)], [], [], []⟩
  | 11, 3 => some ⟨[], [(0, 0, 0)], [], [], []⟩
  | 11, 6 => some ⟨[0], [(4, 0, 9223372036854775807)], [], [], []⟩
  | _, _ => none
def lsh_remail : Nat → List Nat := fun n => [1]
def k_email : Con := ⟨10, 10, [.str], [.str, derr]⟩
def k_country : Con := ⟨32, 32, [.str], [aa, .bool]⟩
def k_bare : Con := ⟨33, 33, [.str], [.str, .bool, .bool]⟩
def q_bare : QCon := ⟨k_bare, 41⟩
def k_tpre : Con := ⟨34, 34, [.str, .str], [.str]⟩
def k_phone : Con := ⟨12, 12, [.str, .str], [.str, derr]⟩
def q_phone : QCon := ⟨k_phone, 44⟩
def k_make : Con := ⟨15, 15, [.str, .str], [aa, derr]⟩
def q_make : QCon := ⟨k_make, 44⟩
def k_rmake : Con := ⟨18, 18, [.str, .str], [aa, derr]⟩
def q_rmake : QCon := ⟨k_rmake, 44⟩
def k_right : Con := ⟨16, 16, [aa], [.bool]⟩
def q_right : QCon := ⟨k_right, 44⟩
def k_rright : Con := ⟨19, 19, [aa], [.bool]⟩
def q_rright : QCon := ⟨k_rright, 44⟩
def k_text : Con := ⟨20, 20, [aa], [.str]⟩
def q_text : QCon := ⟨k_text, 46⟩
def k_alive : Con := ⟨9, 9, [], [.bool]⟩
def k_lemails : Con := ⟨3, 3, [.str], [.bool]⟩
def k_lphones : Con := ⟨4, 4, [.str, .str], [.bool]⟩
def k_rless : Con := ⟨21, 21, [aa, aa], [.bool]⟩
def k_less : Con := ⟨14, 14, [aa, aa], [.bool]⟩
def k_lorder : Con := ⟨6, 6, [aa, aa, aa], [.bool]⟩
def k_lmakes : Con := ⟨8, 8, [aa, aa], [.bool]⟩
def q_lmakes : QCon := ⟨k_lmakes, 45⟩
def sh : Nat → List Nat × List Nat
  | 73 => ([1, 1], [1])
  | 36 => ([1, 1], [1])
  | 37 => ([1, 1], [1])
  | 120 => ([1], [1])
  | 121 => ([1], [1])
  | 122 => ([1], [1])
  | 125 => ([1], [1, 1, 1])
  | 126 => ([1], [1, 1, 1])
  | 127 => ([1], [1])
  | 44 => ([1, 1], [1])
  | 65 => ([1, 1], [1])
  | 28 => ([1], [1])
  | 17 => ([1], [1])
  | 31 => ([1, 1], [1])
  | 128 => ([1], [1])
  | 123 => ([1], [1])
  | 124 => ([1], [1])
  | 47 => ([1], [1])
  | 27 => ([1], [1])
  | 24 => ([1], [1])
  | 29 => ([1], [1])
  | 50 => ([1], [1])
  | 51 => ([1], [1])
  | 52 => ([1], [1])
  | 30 => ([1], [1])
  | 35 => ([1], [1, 1, 1])
  | 13 => ([1, 1], [1, 1])
  | 11 => ([1], [1, 1])
  | 10 => ([1], [1, 1])
  | 32 => ([1], [2, 1])
  | 33 => ([1], [1, 1, 1])
  | 34 => ([1, 1], [1])
  | 12 => ([1, 1], [1, 1])
  | 15 => ([1, 1], [2, 1])
  | 18 => ([1, 1], [2, 1])
  | 16 => ([2], [1])
  | 19 => ([2], [1])
  | 20 => ([2], [1])
  | 9 => ([], [1])
  | 3 => ([1], [1])
  | 4 => ([1, 1], [1])
  | 21 => ([2, 2], [1])
  | 14 => ([2, 2], [1])
  | 6 => ([2, 2, 2], [1])
  | 8 => ([2, 2], [1])
  | _ => ([], [])
end Go.Ad
