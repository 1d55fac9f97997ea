/- Dfs: a part of the proof of statements of this seat. -/
import Derived.Test.YtlecfjcooglpoaaDoorRxK
set_option maxRecDepth 100000
set_option linter.unusedVariables false
namespace Go.Ad
open Go Go.Rx
def li_none : FuncId → Nat → Option LoopI := fun _ _ => none
def lsh_none : Nat → List Nat := fun _ => []
def du8 : D := .int .u8 0 255
def didx : D := .int .i64 (-1) 9223372036854775807
def derr : D := .int .i64 0 21
def kdd : D := .strk [46, 46]
def kdm : D := .strk [46, 45]
def kcol : D := .strk [58]
def khost : D := .strk [97, 98, 99, 100, 101, 102, 103, 104, 105, 106, 107, 108, 109, 110, 111, 112, 113, 114, 115, 116, 117, 118, 119, 120, 121, 122, 65, 66, 67, 68, 69, 70, 71, 72, 73, 74, 75, 76, 77, 78, 79, 80, 81, 82, 83, 84, 85, 86, 87, 88, 89, 90, 48, 49, 50, 51, 52, 53, 54, 55, 56, 57, 46, 45]
def kdig : D := .strk [48, 49, 50, 51, 52, 53, 54, 55, 56, 57]
def kus : D := .strk [97, 98, 99, 100, 101, 102, 103, 104, 105, 106, 107, 108, 109, 110, 111, 112, 113, 114, 115, 116, 117, 118, 119, 120, 121, 122, 48, 49, 50, 51, 52, 53, 54, 55, 56, 57, 46, 95, 61, 47, 43, 45]
def krs : D := .strk [97, 98, 99, 100, 101, 102, 103, 104, 105, 106, 107, 108, 109, 110, 111, 112, 113, 114, 115, 116, 117, 118, 119, 120, 121, 122, 65, 66, 67, 68, 69, 70, 71, 72, 73, 74, 75, 76, 77, 78, 79, 80, 81, 82, 83, 84, 85, 86, 87, 88, 89, 90, 48, 49, 50, 51, 52, 53, 54, 55, 56, 57]
def du16 : D := .int .u16 0 65535
def d64 : D := .int .u8 64 64
def d33 : D := .int .u8 33 33
def ksafe : D := .strk [65, 66, 67, 68, 69, 70, 71, 72, 73, 74, 75, 76, 77, 78, 79, 80, 81, 82, 83, 84, 85, 86, 87, 88, 89, 90, 97, 98, 99, 100, 101, 102, 103, 104, 105, 106, 107, 108, 109, 110, 111, 112, 113, 114, 115, 116, 117, 118, 119, 120, 121, 122, 48, 49, 50, 51, 52, 53, 54, 55, 56, 57, 45, 95]
def ou8 : BD := .ow [.int .u8 0 255] 5
def didx64 : D := .int .i64 (-1) 63
def lu8 : BD := .rd [.int .u8 0 255]
def k_ibs : Con := ⟨66, 73, [.str, du8], [didx]⟩
def k_cutcol : Con := ⟨18, 126, [.str, kcol], [.str, .str, .bool]⟩
def k_ionly : Con := ⟨37, 65, [.str, .str], [.bool]⟩
def li_ionly : FuncId → Nat → Option LoopI := fun f r => match f, r with
  | 37, 2 => some ⟨[0, 1, 7], [(8, 0, 9223372036854775807)], [], [], []⟩
  | _, _ => none
def lsh_ionly : Nat → List Nat := fun n => [1]
def k_cdd : Con := ⟨36, 128, [.str, kdd], [.bool]⟩
def q_cdd : QCon := ⟨k_cdd, 41⟩
def k_tdm : Con := ⟨35, 122, [.str, kdm], [.str]⟩
def li_tdm : FuncId → Nat → Option LoopI := fun f r => match f, r with
  | 47, 1 => some ⟨[1], [(0, 0, 0)], [], [], []⟩
  | 48, 1 => some ⟨[1], [(0, 0, 0)], [], [], []⟩
  | _, _ => none
def lsh_tdm : Nat → List Nat := fun n => [1]
def k_thost : Con := ⟨35, 123, [.str, khost], [.str]⟩
def li_thost : FuncId → Nat → Option LoopI := fun f r => match f, r with
  | 47, 1 => some ⟨[1], [(0, 0, 0)], [], [], []⟩
  | 48, 1 => some ⟨[1], [(0, 0, 0)], [], [], []⟩
  | _, _ => none
def lsh_thost : Nat → List Nat := fun n => [1]
def k_tdig : Con := ⟨35, 124, [.str, kdig], [.str]⟩
def li_tdig : FuncId → Nat → Option LoopI := fun f r => match f, r with
  | 47, 1 => some ⟨[1], [(0, 0, 0)], [], [], []⟩
  | 48, 1 => some ⟨[1], [(0, 0, 0)], [], [], []⟩
  | _, _ => none
def lsh_tdig : Nat → List Nat := fun n => [1]
def k_host : Con := ⟨20, 47, [.str], [.bool]⟩
def k_server : Con := ⟨9, 27, [.str], [.bool]⟩
def k_small : Con := ⟨27, 50, [du8], [.bool]⟩
def k_great : Con := ⟨28, 51, [du8], [.bool]⟩
def k_digit : Con := ⟨24, 52, [du8], [.bool]⟩
def k_rhost : Con := ⟨23, 30, [.str], [.bool]⟩
def li_rhost : FuncId → Nat → Option LoopI := fun f r => match f, r with
  | 23, 4 => some ⟨[0], [(3, 0, 9223372036854775807)], [], [], []⟩
  | _, _ => none
def lsh_rhost : Nat → List Nat := fun n => [1]
def k_tus : Con := ⟨35, 202, [.str, kus], [.str]⟩
def li_tus : FuncId → Nat → Option LoopI := fun f r => match f, r with
  | 47, 1 => some ⟨[1], [(0, 0, 0)], [], [], []⟩
  | 48, 1 => some ⟨[1], [(0, 0, 0)], [], [], []⟩
  | _, _ => none
def lsh_tus : Nat → List Nat := fun n => [1]
def k_trs : Con := ⟨35, 203, [.str, krs], [.str]⟩
def li_trs : FuncId → Nat → Option LoopI := fun f r => match f, r with
  | 47, 1 => some ⟨[1], [(0, 0, 0)], [], [], []⟩
  | 48, 1 => some ⟨[1], [(0, 0, 0)], [], [], []⟩
  | _, _ => none
def lsh_trs : Nat → List Nat := fun n => [1]
def k_user : Con := ⟨11, 200, [.str], [.bool]⟩
def k_room : Con := ⟨13, 201, [.str], [.bool]⟩
def k_colon : Con := ⟨19, 204, [.str], [didx]⟩
def li_colon : FuncId → Nat → Option LoopI := fun f r => match f, r with
  | 19, 2 => some ⟨[0], [(3, 0, 9223372036854775807)], [], [], []⟩
  | _, _ => none
def lsh_colon : Nat → List Nat := fun n => [1]
def k_rserver : Con := ⟨10, 205, [.str], [.bool]⟩
def li_rserver : FuncId → Nat → Option LoopI := fun f r => match f, r with
  | 10, 6 => some ⟨[0, 3, 4], [(5, 0, 9223372036854775807)], [], [], []⟩
  | _, _ => none
def lsh_rserver : Nat → List Nat := fun n => [1]
def k_partsu : Con := ⟨26, 206, [.str, d64], [.str, .str, .bool]⟩
def k_partsr : Con := ⟨26, 211, [.str, d33], [.str, .str, .bool]⟩
def k_ruser : Con := ⟨12, 207, [.str], [.bool]⟩
def li_ruser : FuncId → Nat → Option LoopI := fun f r => match f, r with
  | 12, 3 => some ⟨[3, 5], [(6, 0, 9223372036854775807)], [], [], []⟩
  | _, _ => none
def lsh_ruser : Nat → List Nat := fun n => [1]
def k_rroom : Con := ⟨14, 208, [.str], [.bool]⟩
def li_rroom : FuncId → Nat → Option LoopI := fun f r => match f, r with
  | 14, 3 => some ⟨[3, 5], [(6, 0, 9223372036854775807)], [], [], []⟩
  | _, _ => none
def lsh_rroom : Nat → List Nat := fun n => [1]
def k_split : Con := ⟨7, 209, [.str], [.str, .str, derr]⟩
def k_rsplit : Con := ⟨8, 210, [.str], [.str, .str, derr]⟩
def k_ibsafe : Con := ⟨66, 230, [ksafe, du8], [didx64]⟩
def k_renc : BCon := ⟨54, 222, [lu8, .d ksafe], [.d .str], 48⟩
def li_renc : FuncId → Nat → Option LoopI := fun f r => match f, r with
  | 54, 4 => some ⟨[0, 1], [(5, 0, 0), (6, 0, 63), (7, 0, 5), (8, 0, 9223372036854775807)], [], [], []⟩
  | _, _ => none
def lsh_renc : Nat → List Nat := fun n => [1, 1, 1, 1]
def k_rdec : BCon := ⟨41, 221, [.d .str, .d ksafe], [ou8, .d derr], 50⟩
def li_rdec : FuncId → Nat → Option LoopI := fun f r => match f, r with
  | 41, 4 => some ⟨[0, 1], [(7, 0, 63), (8, 0, 6), (9, 0, 9223372036854775807)], [], [], [(6, [.int .u8 0 255], 5)]⟩
  | 41, 8 => some ⟨[0, 1, 6, 7, 8, 9], [(10, -1, 63), (11, 0, 64)], [], [], []⟩
  | _, _ => none
def lsh_rdec : Nat → List Nat := fun n => cond (Nat.beq n 1) [1, 1, 1, 1, 1, 1] [1, 1]
def k_idec : BCon := ⟨40, 220, [.d ksafe, .d .str], [ou8, .d derr], 50⟩
def li_idec : FuncId → Nat → Option LoopI := fun f r => match f, r with
  | 40, 2 => some ⟨[0], [(1, 0, 0)], [], [], [(6, [.int .u8 0 255], 5)]⟩
  | _, _ => none
def lsh_idec : Nat → List Nat := fun n => [1, 1, 1, 1]
def k_event : BCon := ⟨15, 223, [.d .str], [.d .bool], 0⟩
def k_revent : BCon := ⟨16, 224, [.d .str], [.d .bool], 0⟩
def k_ienc : BCon := ⟨42, 225, [.d ksafe, lu8], [.d .str], 48⟩
def k_ialive : BCon := ⟨6, 226, [], [.d .bool], 0⟩
def k_lnames : BCon := ⟨3, 227, [.d .str], [.d .bool], 0⟩
def k_lkinds : BCon := ⟨4, 228, [.d .str], [.d .bool], 0⟩
def k_lports : BCon := ⟨5, 229, [.d .str, .d du16], [.d .bool], 0⟩
def li_lports : FuncId → Nat → Option LoopI := fun f r => match f, r with
  | 5, 7 => some ⟨[0, 1], [(6, 0, 9223372036854775807)], [], [5], []⟩
  | 5, 12 => some ⟨[0, 1, 5], [(7, 0, 0), (8, 0, 65535)], [], [], []⟩
  | _, _ => none
def lsh_lports : Nat → List Nat := fun n => [1, 1]
def sh : Nat → List Nat × List Nat
  | 73 => ([1, 1], [1])
  | 126 => ([1], [1, 1, 1])
  | 65 => ([1, 1], [1])
  | 128 => ([1], [1])
  | 122 => ([1], [1])
  | 123 => ([1], [1])
  | 124 => ([1], [1])
  | 47 => ([1], [1])
  | 27 => ([1], [1])
  | 50 => ([1], [1])
  | 51 => ([1], [1])
  | 52 => ([1], [1])
  | 30 => ([1], [1])
  | 202 => ([1], [1])
  | 203 => ([1], [1])
  | 200 => ([1], [1])
  | 201 => ([1], [1])
  | 204 => ([1], [1])
  | 205 => ([1], [1])
  | 206 => ([1, 1], [1, 1, 1])
  | 211 => ([1, 1], [1, 1, 1])
  | 207 => ([1], [1])
  | 208 => ([1], [1])
  | 209 => ([1], [1, 1, 1])
  | 210 => ([1], [1, 1, 1])
  | 230 => ([1], [1])
  | 222 => ([1], [1])
  | 221 => ([1], [1, 1])
  | 220 => ([1], [1, 1])
  | 223 => ([1], [1])
  | 224 => ([1], [1])
  | 225 => ([1], [1])
  | 226 => ([], [1])
  | 227 => ([1], [1])
  | 228 => ([1], [1])
  | 229 => ([1, 1], [1])
  | _ => ([], [])
end Go.Ad

