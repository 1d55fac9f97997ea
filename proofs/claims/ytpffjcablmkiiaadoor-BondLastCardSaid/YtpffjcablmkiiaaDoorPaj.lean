/- The address seat: the countries (a map), by a walk. -/
import Derived.Test.YtpffjcablmkiiaaDoorPah
import Derived.Test.YtpffjcablmkiiaaDoorPai
import Derived.WalkKit
import Derived.WideMake
import Derived.Laws.ResultCell
import Derived.Laws.Rows
import Derived.Lib.IndexAny
import Derived.OwnWalk
import Derived.Test.YtpffjcablmkiiaaDoorPag
import Derived.KernelRfl
import Derived.Deep.RegionLaw
import Derived.Laws.CopyOwn
import Derived.Lib.Builder
import Derived.Test.YtpffjcablmkiiaaDoorProg
import Derived.Lib.Overlaps
import Derived.Lib.AppendZerosOnto
import Derived.Shelf.Vars
import Derived.Test.YtpffjcablmkiiaaDoorRows
import Derived.Test.YtpffjcablmkiiaaDoorTie
import Derived.Test.YtpffjcablmkiiaaDoorCards
import Derived.SevenTiedAt
import Derived.Lay

set_option linter.unusedSimpArgs false
namespace Go.Proofs
open Go.RowKit Go.Ad
def ctryR (s : Tx) : Value := match ctry s with | some (c, t) => .tuple #[.agg #[.string ⟨c.toArray⟩, .string ⟨t.toArray⟩], .bool true] | none => .tuple #[.agg #[.string ⟨#[]⟩, .string ⟨#[]⟩], .bool false]
theorem push_set {α : Type} (a : Array α) (x y : α) : (a.push x).setIfInBounds a.size y = a.push y := by
  apply Array.ext'
  simp
theorem ba_ne {s t : ByteArray} (h : ¬ s = t) : (s == t) = false := by
  cases h' : (s == t) with
  | false => rfl
  | true =>
    have h' : (s.data == t.data) = true := h'
    exact absurd (ByteArray.ext (eq_of_beq h')) h
def lookV (z : Value) : Option (Nat × Value) → Value
  | some (_, v) => .tuple #[v, .bool true]
  | none => .tuple #[z, .bool false]
theorem map_put {P : Program} {mty kt et : TypeId} (hm : P.underlying mty = some (.map kt et)) (hk : P.underlying kt = some .string) (W : World) (es : Array MapEntry) (clock : Nat) (s : ByteArray) (v : Value) (hf : Instr.findNow .string (.string s) es.toList 0 = some none) :
    (Instr.mapUpdate mty (.map (some W.heap.size)) (.string s) v).run P (W.alloc (.map es clock)) = .ok () (W.alloc (.map (es.push { key := .string s, val := v, born := clock }) (clock + 1))) := by
  have hb : (W.alloc (.map es clock)).heap[W.heap.size]? = some (.map es clock) := heap_alloc_new W _
  have hc : (Instr.checkKey false 10000 kt (.string s)).run P (W.alloc (.map es clock)) = .ok () (W.alloc (.map es clock)) := MapKept.run_checkKey (k := .string s) hk (by simp [MapKept.IsKey]) false 9999
  simp only [Instr.mapUpdate, Sem.run_bind, run_underlying hm, Result.andThen, MapKept.run_getObj_map hb, Sem.run_pure, hc, MapKept.run_findKey hk hf, MapKept.run_setObj_map _ hb]
  simp only [World.alloc, push_set]
theorem map_look {P : Program} {mty kt et : TypeId} {z : Value} (hm : P.underlying mty = some (.map kt et)) (hk : P.underlying kt = some .string) (hz : ∀ w, (zeroValue et).run P w = .ok z w) (W : World) (es : Array MapEntry) (clock : Nat) (s : ByteArray) (a : Option (Nat × Value)) (hf : Instr.findNow .string (.string s) es.toList 0 = some a) :
    (Instr.lookup mty (.map (some W.heap.size)) (.string s) true).run P (W.alloc (.map es clock)) = .ok (lookV z a) (W.alloc (.map es clock)) := by
  have hb : (W.alloc (.map es clock)).heap[W.heap.size]? = some (.map es clock) := heap_alloc_new W _
  have hc : (Instr.checkKey es.isEmpty 10000 kt (.string s)).run P (W.alloc (.map es clock)) = .ok () (W.alloc (.map es clock)) := MapKept.run_checkKey (k := .string s) hk (by simp [MapKept.IsKey]) _ 9999
  simp only [Instr.lookup, Sem.run_bind, run_underlying hm, Result.andThen, MapKept.run_getObj_map hb, Sem.run_pure, hc, MapKept.run_findKey hk hf]
  cases a with
  | none => simp [hz, lookV]
  | some p => simp [lookV]
theorem ba_eq {s t : ByteArray} : s = t ↔ s.data.toList = t.data.toList := ⟨fun h => by rw [h], fun h => ByteArray.ext (Array.toList_inj.1 h)⟩
def lands : Array MapEntry := #[{ key := Value.string { data := #[] }, val := Value.agg #[Value.string { data := #[] }, Value.string { data := #[] }], born := 0 }, { key := Value.string { data := #[71, 66] }, val := Value.agg #[Value.string { data := #[52, 52] }, Value.string { data := #[48] }], born := 1 }, { key := Value.string { data := #[85, 83] }, val := Value.agg #[Value.string { data := #[49] }, Value.string { data := #[] }], born := 2 }, { key := Value.string { data := #[68, 69] }, val := Value.agg #[Value.string { data := #[52, 57] }, Value.string { data := #[48] }], born := 3 }, { key := Value.string { data := #[70, 82] }, val := Value.agg #[Value.string { data := #[51, 51] }, Value.string { data := #[48] }], born := 4 }, { key := Value.string { data := #[67, 72] }, val := Value.agg #[Value.string { data := #[52, 49] }, Value.string { data := #[48] }], born := 5 }]
theorem lands_find (s : ByteArray) : ∃ a, Instr.findNow .string (.string s) lands.toList 0 = some a ∧ lookV (.agg #[.string ⟨#[]⟩, .string ⟨#[]⟩]) a = ctryR s.data.toList := by
  by_cases h0 : s = { data := #[] }
  · subst h0; exact ⟨_, rfl, rfl⟩
  by_cases h1 : s = { data := #[71, 66] }
  · subst h1; exact ⟨_, rfl, rfl⟩
  by_cases h2 : s = { data := #[85, 83] }
  · subst h2; exact ⟨_, rfl, rfl⟩
  by_cases h3 : s = { data := #[68, 69] }
  · subst h3; exact ⟨_, rfl, rfl⟩
  by_cases h4 : s = { data := #[70, 82] }
  · subst h4; exact ⟨_, rfl, rfl⟩
  by_cases h5 : s = { data := #[67, 72] }
  · subst h5; exact ⟨_, rfl, rfl⟩
  have n : ∀ t : ByteArray, ¬ s = t → (s == t) = false := fun t h => ba_ne h
  refine ⟨none, ?_, ?_⟩
  · simp only [lands, Instr.findNow, Instr.sameNow, n _ h0, n _ h1, n _ h2, n _ h3, n _ h4, n _ h5]
  · have m : ∀ t : Tx, ¬ s = ⟨t.toArray⟩ → (s.data.toList == t) = false := fun t h => by
      cases hh : (s.data.toList == t) with
      | false => rfl
      | true => exact absurd (ba_eq.2 (by rw [beq_iff_eq.1 hh])) h
    unfold ctryR ctry
    rw [m [] h0, m [71, 66] h1, m [85, 83] h2, m [68, 69] h3, m [70, 82] h4, m [67, 72] h5]
    rfl
set_option maxHeartbeats 4000000 in
set_option maxRecDepth 1000000 in
theorem Tryd.country_walk (s : ByteArray) (w : World) :
    Calls Tryd.prog 41 #[.string s] w fun e w' => e = .returned (ctryR s.data.toList) ∧ Below w.heap.size w w' := by
  go_enter Tryd.func41, Tryd.ntmps41
  have hmk : ∀ W : World, (Instr.makeMap 89 none).run Tryd.prog W = .ok (.map (some W.heap.size)) (W.alloc (.map #[] 0)) := fun W => run_makeMap 89 W
  have hp0 : (Instr.mapUpdate 89 (.map (some (w.heap.size + 1))) (.string { data := #[] }) (Value.agg #[Value.string { data := #[] }, Value.string { data := #[] }])).run Tryd.prog ((w.alloc (Obj.cells #[Value.string { data := #[] }, Value.string { data := #[] }] 74)).alloc (.map #[] 0)) = .ok () ((w.alloc (Obj.cells #[Value.string { data := #[] }, Value.string { data := #[] }] 74)).alloc (.map #[{ key := Value.string { data := #[] }, val := Value.agg #[Value.string { data := #[] }, Value.string { data := #[] }], born := 0 }] 1)) := by
    have := map_put Tryd.underlying89 Tryd.underlying9 (w.alloc (Obj.cells #[Value.string { data := #[] }, Value.string { data := #[] }] 74)) #[] 0 { data := #[] } (Value.agg #[Value.string { data := #[] }, Value.string { data := #[] }]) rfl
    simpa using this
  have hp1 : (Instr.mapUpdate 89 (.map (some (w.heap.size + 1))) (.string { data := #[71, 66] }) (Value.agg #[Value.string { data := #[52, 52] }, Value.string { data := #[48] }])).run Tryd.prog ((w.alloc (Obj.cells #[Value.string { data := #[] }, Value.string { data := #[] }] 74)).alloc (.map #[{ key := Value.string { data := #[] }, val := Value.agg #[Value.string { data := #[] }, Value.string { data := #[] }], born := 0 }] 1)) = .ok () ((w.alloc (Obj.cells #[Value.string { data := #[] }, Value.string { data := #[] }] 74)).alloc (.map #[{ key := Value.string { data := #[] }, val := Value.agg #[Value.string { data := #[] }, Value.string { data := #[] }], born := 0 }, { key := Value.string { data := #[71, 66] }, val := Value.agg #[Value.string { data := #[52, 52] }, Value.string { data := #[48] }], born := 1 }] 2)) := by
    have := map_put Tryd.underlying89 Tryd.underlying9 (w.alloc (Obj.cells #[Value.string { data := #[] }, Value.string { data := #[] }] 74)) #[{ key := Value.string { data := #[] }, val := Value.agg #[Value.string { data := #[] }, Value.string { data := #[] }], born := 0 }] 1 { data := #[71, 66] } (Value.agg #[Value.string { data := #[52, 52] }, Value.string { data := #[48] }]) rfl
    simpa using this
  have hp2 : (Instr.mapUpdate 89 (.map (some (w.heap.size + 1))) (.string { data := #[85, 83] }) (Value.agg #[Value.string { data := #[49] }, Value.string { data := #[] }])).run Tryd.prog ((w.alloc (Obj.cells #[Value.string { data := #[] }, Value.string { data := #[] }] 74)).alloc (.map #[{ key := Value.string { data := #[] }, val := Value.agg #[Value.string { data := #[] }, Value.string { data := #[] }], born := 0 }, { key := Value.string { data := #[71, 66] }, val := Value.agg #[Value.string { data := #[52, 52] }, Value.string { data := #[48] }], born := 1 }] 2)) = .ok () ((w.alloc (Obj.cells #[Value.string { data := #[] }, Value.string { data := #[] }] 74)).alloc (.map #[{ key := Value.string { data := #[] }, val := Value.agg #[Value.string { data := #[] }, Value.string { data := #[] }], born := 0 }, { key := Value.string { data := #[71, 66] }, val := Value.agg #[Value.string { data := #[52, 52] }, Value.string { data := #[48] }], born := 1 }, { key := Value.string { data := #[85, 83] }, val := Value.agg #[Value.string { data := #[49] }, Value.string { data := #[] }], born := 2 }] 3)) := by
    have := map_put Tryd.underlying89 Tryd.underlying9 (w.alloc (Obj.cells #[Value.string { data := #[] }, Value.string { data := #[] }] 74)) #[{ key := Value.string { data := #[] }, val := Value.agg #[Value.string { data := #[] }, Value.string { data := #[] }], born := 0 }, { key := Value.string { data := #[71, 66] }, val := Value.agg #[Value.string { data := #[52, 52] }, Value.string { data := #[48] }], born := 1 }] 2 { data := #[85, 83] } (Value.agg #[Value.string { data := #[49] }, Value.string { data := #[] }]) rfl
    simpa using this
  have hp3 : (Instr.mapUpdate 89 (.map (some (w.heap.size + 1))) (.string { data := #[68, 69] }) (Value.agg #[Value.string { data := #[52, 57] }, Value.string { data := #[48] }])).run Tryd.prog ((w.alloc (Obj.cells #[Value.string { data := #[] }, Value.string { data := #[] }] 74)).alloc (.map #[{ key := Value.string { data := #[] }, val := Value.agg #[Value.string { data := #[] }, Value.string { data := #[] }], born := 0 }, { key := Value.string { data := #[71, 66] }, val := Value.agg #[Value.string { data := #[52, 52] }, Value.string { data := #[48] }], born := 1 }, { key := Value.string { data := #[85, 83] }, val := Value.agg #[Value.string { data := #[49] }, Value.string { data := #[] }], born := 2 }] 3)) = .ok () ((w.alloc (Obj.cells #[Value.string { data := #[] }, Value.string { data := #[] }] 74)).alloc (.map #[{ key := Value.string { data := #[] }, val := Value.agg #[Value.string { data := #[] }, Value.string { data := #[] }], born := 0 }, { key := Value.string { data := #[71, 66] }, val := Value.agg #[Value.string { data := #[52, 52] }, Value.string { data := #[48] }], born := 1 }, { key := Value.string { data := #[85, 83] }, val := Value.agg #[Value.string { data := #[49] }, Value.string { data := #[] }], born := 2 }, { key := Value.string { data := #[68, 69] }, val := Value.agg #[Value.string { data := #[52, 57] }, Value.string { data := #[48] }], born := 3 }] 4)) := by
    have := map_put Tryd.underlying89 Tryd.underlying9 (w.alloc (Obj.cells #[Value.string { data := #[] }, Value.string { data := #[] }] 74)) #[{ key := Value.string { data := #[] }, val := Value.agg #[Value.string { data := #[] }, Value.string { data := #[] }], born := 0 }, { key := Value.string { data := #[71, 66] }, val := Value.agg #[Value.string { data := #[52, 52] }, Value.string { data := #[48] }], born := 1 }, { key := Value.string { data := #[85, 83] }, val := Value.agg #[Value.string { data := #[49] }, Value.string { data := #[] }], born := 2 }] 3 { data := #[68, 69] } (Value.agg #[Value.string { data := #[52, 57] }, Value.string { data := #[48] }]) rfl
    simpa using this
  have hp4 : (Instr.mapUpdate 89 (.map (some (w.heap.size + 1))) (.string { data := #[70, 82] }) (Value.agg #[Value.string { data := #[51, 51] }, Value.string { data := #[48] }])).run Tryd.prog ((w.alloc (Obj.cells #[Value.string { data := #[] }, Value.string { data := #[] }] 74)).alloc (.map #[{ key := Value.string { data := #[] }, val := Value.agg #[Value.string { data := #[] }, Value.string { data := #[] }], born := 0 }, { key := Value.string { data := #[71, 66] }, val := Value.agg #[Value.string { data := #[52, 52] }, Value.string { data := #[48] }], born := 1 }, { key := Value.string { data := #[85, 83] }, val := Value.agg #[Value.string { data := #[49] }, Value.string { data := #[] }], born := 2 }, { key := Value.string { data := #[68, 69] }, val := Value.agg #[Value.string { data := #[52, 57] }, Value.string { data := #[48] }], born := 3 }] 4)) = .ok () ((w.alloc (Obj.cells #[Value.string { data := #[] }, Value.string { data := #[] }] 74)).alloc (.map #[{ key := Value.string { data := #[] }, val := Value.agg #[Value.string { data := #[] }, Value.string { data := #[] }], born := 0 }, { key := Value.string { data := #[71, 66] }, val := Value.agg #[Value.string { data := #[52, 52] }, Value.string { data := #[48] }], born := 1 }, { key := Value.string { data := #[85, 83] }, val := Value.agg #[Value.string { data := #[49] }, Value.string { data := #[] }], born := 2 }, { key := Value.string { data := #[68, 69] }, val := Value.agg #[Value.string { data := #[52, 57] }, Value.string { data := #[48] }], born := 3 }, { key := Value.string { data := #[70, 82] }, val := Value.agg #[Value.string { data := #[51, 51] }, Value.string { data := #[48] }], born := 4 }] 5)) := by
    have := map_put Tryd.underlying89 Tryd.underlying9 (w.alloc (Obj.cells #[Value.string { data := #[] }, Value.string { data := #[] }] 74)) #[{ key := Value.string { data := #[] }, val := Value.agg #[Value.string { data := #[] }, Value.string { data := #[] }], born := 0 }, { key := Value.string { data := #[71, 66] }, val := Value.agg #[Value.string { data := #[52, 52] }, Value.string { data := #[48] }], born := 1 }, { key := Value.string { data := #[85, 83] }, val := Value.agg #[Value.string { data := #[49] }, Value.string { data := #[] }], born := 2 }, { key := Value.string { data := #[68, 69] }, val := Value.agg #[Value.string { data := #[52, 57] }, Value.string { data := #[48] }], born := 3 }] 4 { data := #[70, 82] } (Value.agg #[Value.string { data := #[51, 51] }, Value.string { data := #[48] }]) rfl
    simpa using this
  have hp5 : (Instr.mapUpdate 89 (.map (some (w.heap.size + 1))) (.string { data := #[67, 72] }) (Value.agg #[Value.string { data := #[52, 49] }, Value.string { data := #[48] }])).run Tryd.prog ((w.alloc (Obj.cells #[Value.string { data := #[] }, Value.string { data := #[] }] 74)).alloc (.map #[{ key := Value.string { data := #[] }, val := Value.agg #[Value.string { data := #[] }, Value.string { data := #[] }], born := 0 }, { key := Value.string { data := #[71, 66] }, val := Value.agg #[Value.string { data := #[52, 52] }, Value.string { data := #[48] }], born := 1 }, { key := Value.string { data := #[85, 83] }, val := Value.agg #[Value.string { data := #[49] }, Value.string { data := #[] }], born := 2 }, { key := Value.string { data := #[68, 69] }, val := Value.agg #[Value.string { data := #[52, 57] }, Value.string { data := #[48] }], born := 3 }, { key := Value.string { data := #[70, 82] }, val := Value.agg #[Value.string { data := #[51, 51] }, Value.string { data := #[48] }], born := 4 }] 5)) = .ok () ((w.alloc (Obj.cells #[Value.string { data := #[] }, Value.string { data := #[] }] 74)).alloc (.map #[{ key := Value.string { data := #[] }, val := Value.agg #[Value.string { data := #[] }, Value.string { data := #[] }], born := 0 }, { key := Value.string { data := #[71, 66] }, val := Value.agg #[Value.string { data := #[52, 52] }, Value.string { data := #[48] }], born := 1 }, { key := Value.string { data := #[85, 83] }, val := Value.agg #[Value.string { data := #[49] }, Value.string { data := #[] }], born := 2 }, { key := Value.string { data := #[68, 69] }, val := Value.agg #[Value.string { data := #[52, 57] }, Value.string { data := #[48] }], born := 3 }, { key := Value.string { data := #[70, 82] }, val := Value.agg #[Value.string { data := #[51, 51] }, Value.string { data := #[48] }], born := 4 }, { key := Value.string { data := #[67, 72] }, val := Value.agg #[Value.string { data := #[52, 49] }, Value.string { data := #[48] }], born := 5 }] 6)) := by
    have := map_put Tryd.underlying89 Tryd.underlying9 (w.alloc (Obj.cells #[Value.string { data := #[] }, Value.string { data := #[] }] 74)) #[{ key := Value.string { data := #[] }, val := Value.agg #[Value.string { data := #[] }, Value.string { data := #[] }], born := 0 }, { key := Value.string { data := #[71, 66] }, val := Value.agg #[Value.string { data := #[52, 52] }, Value.string { data := #[48] }], born := 1 }, { key := Value.string { data := #[85, 83] }, val := Value.agg #[Value.string { data := #[49] }, Value.string { data := #[] }], born := 2 }, { key := Value.string { data := #[68, 69] }, val := Value.agg #[Value.string { data := #[52, 57] }, Value.string { data := #[48] }], born := 3 }, { key := Value.string { data := #[70, 82] }, val := Value.agg #[Value.string { data := #[51, 51] }, Value.string { data := #[48] }], born := 4 }] 5 { data := #[67, 72] } (Value.agg #[Value.string { data := #[52, 49] }, Value.string { data := #[48] }]) rfl
    simpa using this
  obtain ⟨c, t, ok, hl, hv⟩ : ∃ (c t : ByteArray) (ok : Bool), (Instr.lookup 89 (.map (some (w.heap.size + 1))) (.string s) true).run Tryd.prog ((w.alloc (Obj.cells #[Value.string { data := #[] }, Value.string { data := #[] }] 74)).alloc (.map #[{ key := Value.string { data := #[] }, val := Value.agg #[Value.string { data := #[] }, Value.string { data := #[] }], born := 0 }, { key := Value.string { data := #[71, 66] }, val := Value.agg #[Value.string { data := #[52, 52] }, Value.string { data := #[48] }], born := 1 }, { key := Value.string { data := #[85, 83] }, val := Value.agg #[Value.string { data := #[49] }, Value.string { data := #[] }], born := 2 }, { key := Value.string { data := #[68, 69] }, val := Value.agg #[Value.string { data := #[52, 57] }, Value.string { data := #[48] }], born := 3 }, { key := Value.string { data := #[70, 82] }, val := Value.agg #[Value.string { data := #[51, 51] }, Value.string { data := #[48] }], born := 4 }, { key := Value.string { data := #[67, 72] }, val := Value.agg #[Value.string { data := #[52, 49] }, Value.string { data := #[48] }], born := 5 }] 6)) = .ok (.tuple #[.agg #[.string c, .string t], .bool ok]) ((w.alloc (Obj.cells #[Value.string { data := #[] }, Value.string { data := #[] }] 74)).alloc (.map #[{ key := Value.string { data := #[] }, val := Value.agg #[Value.string { data := #[] }, Value.string { data := #[] }], born := 0 }, { key := Value.string { data := #[71, 66] }, val := Value.agg #[Value.string { data := #[52, 52] }, Value.string { data := #[48] }], born := 1 }, { key := Value.string { data := #[85, 83] }, val := Value.agg #[Value.string { data := #[49] }, Value.string { data := #[] }], born := 2 }, { key := Value.string { data := #[68, 69] }, val := Value.agg #[Value.string { data := #[52, 57] }, Value.string { data := #[48] }], born := 3 }, { key := Value.string { data := #[70, 82] }, val := Value.agg #[Value.string { data := #[51, 51] }, Value.string { data := #[48] }], born := 4 }, { key := Value.string { data := #[67, 72] }, val := Value.agg #[Value.string { data := #[52, 49] }, Value.string { data := #[48] }], born := 5 }] 6)) ∧ Hid (Value.tuple #[.agg #[.string c, .string t], .bool ok] = ctryR s.data.toList) := by
    obtain ⟨a, hf, ha⟩ := lands_find s
    have := map_look (z := .agg #[.string ⟨#[]⟩, .string ⟨#[]⟩]) Tryd.underlying89 Tryd.underlying9 (fun w => Tryd.zeroValue74 w) (w.alloc (Obj.cells #[Value.string { data := #[] }, Value.string { data := #[] }] 74)) lands 6 s a hf
    have hsz : (w.alloc (Obj.cells #[Value.string { data := #[] }, Value.string { data := #[] }] 74)).heap.size = w.heap.size + 1 := by simp
    rw [hsz, ha] at this
    have hr : ∃ (c t : ByteArray) (ok : Bool), ctryR s.data.toList = Value.tuple #[.agg #[.string c, .string t], .bool ok] := by
      unfold ctryR
      cases ctry s.data.toList with
      | none => exact ⟨_, _, _, rfl⟩
      | some p => exact ⟨_, _, _, rfl⟩
    obtain ⟨c, t, ok, hr⟩ := hr
    rw [hr] at this
    exact ⟨c, t, ok, this, hr.symm⟩
  go_wp2
  refine bodyPost_ret (v := .tuple #[.agg #[.string c, .string t], .bool ok]) ?_ rfl ⟨congrArg _ hv, (((Below.refl _ w).alloc (Nat.le_refl _) _).alloc (by simp) _).alloc (by simp; omega) _⟩
  have hg : ∀ o1 o2 : Obj, (((w.alloc (Obj.cells #[Value.string c, Value.string t] 74)).alloc o1).alloc o2).heap[w.heap.size]? = some (.cells #[.string c, .string t] 74 (0, 0)) := fun o1 o2 => by
    rw [Lib.alloc_old _ _ _ (by simp; omega), Lib.alloc_old _ _ _ (by simp), heap_alloc_new]
  have h46 := run_loadVar_row (P := Tryd.prog) (((w.alloc (Obj.cells #[Value.string c, Value.string t] 74)).alloc (.map lands 6)).alloc (Obj.cells #[Value.string c, Value.string t] 74)) w.heap.size 74 74 #[.string c, .string t] (0, 0) _ (hg _ _) Tryd.underlying74 rfl (by kernel_rfl)
  rw [results_cell_tmp rfl]
  show ((loadVar 74 ⟨w.heap.size, 0, none⟩).run Tryd.prog (((w.alloc (Obj.cells #[Value.string c, Value.string t] 74)).alloc (.map lands 6)).alloc (Obj.cells #[Value.string c, Value.string t] 74))).andThen _ = _
  rw [h46]
  rfl
end Go.Proofs
set_option linter.unusedVariables false
set_option maxRecDepth 100000
namespace Go.Ad
open Go Go.Rx Go.Proofs Go.RowKit
theorem ok_country {wb : World} : OC wb k_country := by
  intro zs hz
  match zs, hz with
  | [z], hz =>
    have hw := fun w => Tryd.country_walk (bA (sOf z)) w
    have e1 : (bA (sOf z)).data.toList = sOf z := by simp [bA]
    cases hct : ctry (sOf z) with
    | none =>
      refine ⟨[0, 0, 0], ⟨Int.le_refl _, HB_pos, Int.le_refl _, HB_pos, by decide, by decide, trivial⟩, ?_, fun w _ => .inr ⟨enters (by kernel_rfl) _ _, ?_⟩⟩
      · show (match ctry (sOf z) with | some (code, trunk) => sOf 0 = code ∧ sOf 0 = trunk ∧ (0 : Int) = 1 | none => (0 : Int) = 0 ∧ sOf 0 = [] ∧ sOf 0 = [])
        rw [hct]; exact ⟨rfl, rfl, rfl⟩
      · refine (hw w).mono ?_
        rintro e w' ⟨rfl, hb⟩
        refine ⟨?_, ext_of hb⟩
        rw [e1]; unfold ctryR; rw [hct]; rfl
    | some ct =>
      obtain ⟨c, t⟩ := ct
      have h1 := c_bd (ctry_len hct) (by decide)
      have h2 : 0 ≤ cOf t ∧ cOf t ≤ HB := c_bd (n := 1) (by rcases ctry_trunk hct with h | h <;> rw [h] <;> decide) (by decide)
      refine ⟨[cOf c, cOf t, 1], ⟨h1.1, h1.2, h2.1, h2.2, by decide, by decide, trivial⟩, ?_, fun w _ => .inr ⟨enters (by kernel_rfl) _ _, ?_⟩⟩
      · show (match ctry (sOf z) with | some (code, trunk) => sOf (cOf c) = code ∧ sOf (cOf t) = trunk ∧ (1 : Int) = 1 | none => (1 : Int) = 0 ∧ sOf (cOf c) = [] ∧ sOf (cOf t) = [])
        rw [hct]; exact ⟨sOf_cOf _, sOf_cOf _, rfl⟩
      · refine (hw w).mono ?_
        rintro e w' ⟨rfl, hb⟩
        refine ⟨?_, ext_of hb⟩
        rw [e1]; unfold ctryR; rw [hct]
        show _ = Ending.returned (.tuple #[.agg #[.string (bA (sOf (cOf c))), .string (bA (sOf (cOf t)))], .bool true])
        rw [sOf_cOf, sOf_cOf]; rfl
end Go.Ad

/- The address seat: a number's digits (bare), by a walk. -/
namespace Go.Proofs
open Go.RowKit Go.Ad
theorem bsz (s : ByteArray) : s.data.toList.length = s.size := by rw [Array.length_toList]; rfl
def barR (s : Tx) : Value := match bareF s [] false with | some (d, p) => .tuple #[.string ⟨d.toArray⟩, .bool p, .bool true] | none => .tuple #[.string ⟨#[]⟩, .bool false, .bool false]
theorem isD_iff (c : UInt8) : isD c = true ↔ (48 : Int) ≤ c.toNat ∧ (c.toNat : Int) ≤ 57 := by
  unfold isD; rw [Bool.and_eq_true, Nat.ble_eq, Nat.ble_eq]; omega
theorem sep_call (c : UInt8) : ∃ R : Int, (R < 0 ↔ seps.contains c = false) ∧ ∀ w, Calls Tryd.prog 60 #[.string { data := #[32, 45, 46, 40, 41] }, .int .u8 c.toNat] w fun e w' => e = .returned (.int .i64 R) ∧ w' = w := by
  refine ⟨Lib.indexByte seps c, ?_, fun w => ?_⟩
  · rw [Lib.contains_iff_indexByte]; simp
  · have := Tryd.strings_IndexByte ⟨#[32, 45, 46, 40, 41]⟩ (c.toNat : Int) w
    have e : (c.toNat : Int).toNat.toUInt8 = c := by simp
    rw [e] at this
    exact this
theorem len_call (d : Tx) (b : Nat) (w : World) (h : Lib.IsBuilder 92 5 b b (Lib.byteCells d) w) : Calls Tryd.prog 59 #[.pointer (some ⟨b, 0, none⟩)] w fun e w' => e = .returned (.int .i64 d.length) ∧ w' = w := by
  have := Tryd.Builder_Len b b _ w h
  rwa [Lib.byteCells_length] at this
set_option maxHeartbeats 4000000 in
set_option maxRecDepth 1000000 in
theorem Tryd.bare_walk (s : ByteArray) (w : World) (hs : s.size ≤ 140737488351232) :
    Calls Tryd.prog 42 #[.string s] w fun e w' => e = .returned (barR s.data.toList) ∧ Below w.heap.size w w' := by
  go_enter Tryd.func42, Tryd.ntmps42
  go_wp2
  go_loopw [10, 3] (fun vi vp wr => ∃ (i : Nat) (d : List UInt8) (p : Bool), vi = .int .i64 i ∧ vp = .bool p ∧ i ≤ s.size ∧ d.length ≤ i ∧ Hid (bareF (s.data.toList.drop i) d p = bareF s.data.toList [] false) ∧ Lib.IsBuilder 92 5 w.heap.size w.heap.size (Lib.byteCells d) wr ∧ Below w.heap.size w wr) (fun vi _ _ => s.size - (RowKit.intOf vi).toNat)
  case atStart =>
    exact ⟨0, [], false, rfl, rfl, Nat.zero_le _, Nat.le_refl _, rfl, Lib.fresh_isBuilder 92 5 w, (Below.refl _ w).alloc (Nat.le_refl _) _⟩
  case round =>
    obtain ⟨i, d, p, rfl, rfl, hi, hd, hb, hI, hbw⟩ := hrel
    have hsz : s.data.toList.length = s.size := bsz s
    by_cases hlt : i < s.size
    · have hlt' : (i : Int) < (s.size : Int) := by omega
      have hnn : ¬ ((i : Int) < 0) := by omega
      have hc : s.data.toList.getD i 0 = s[i] := by
        simp only [List.getD, List.getElem?_eq_getElem (show i < s.data.toList.length by omega), Option.getD_some]
        rfl
      have hst := bare_step (s := s.data.toList) (d := d) (p := p) (i := i) (by omega)
      rw [hc] at hst
      have hD := isD_iff s[i]
      have fin : ∀ {d' : Tx} {p' : Bool}, bareF (List.drop i s.data.toList) d p = bareF (List.drop (i + 1) s.data.toList) d' p' → Hid (bareF (List.drop (i + 1) s.data.toList) d' p' = bareF s.data.toList [] false) := fun h => by
        have hb : bareF (List.drop i s.data.toList) d p = bareF s.data.toList [] false := hb
        show _ = _
        rw [← hb, h]
      have bad : bareF (List.drop i s.data.toList) d p = none → Value.tuple #[.string ⟨#[]⟩, .bool false, .bool false] = barR s.data.toList := fun h => by
        have hb : bareF (List.drop i s.data.toList) d p = bareF s.data.toList [] false := hb
        unfold barR
        rw [← hb, h]
      obtain ⟨R, hR, hcall⟩ := sep_call s[i]
      have hLen := fun W => len_call d w.heap.size W
      by_cases h48 : (48 : Int) ≤ s[i].toNat ∧ (s[i].toNat : Int) ≤ 57
      · have hdig := hD.2 h48
        obtain ⟨h48, h57⟩ := h48
        rw [hdig, cond_true] at hst
        clear hR hcall hLen bad
        go_wp2_with (go_at_call 58; refine (Tryd.Builder_WriteByte w.heap.size w.heap.size _ _ _ hI (by rw [Lib.byteCells_length]; omega) hbw.size).mono ?_)
        rintro e W1 rfl h1 b1
        go_wp2
        go_roundw
        case rel =>
          refine ⟨i + 1, d ++ [s[i]], p, by simp, rfl, by omega, by simp; omega, fin hst, ?_, hbw.trans b1⟩
          rw [Lib.byteCells_append]; exact Or.inr h1
        case measure => simp [intOf]; omega
      · have hnd : isD s[i] = false := by
          cases hh : isD s[i] with
          | false => rfl
          | true => exact absurd (hD.1 hh) h48
        rw [hnd, cond_false] at hst
        by_cases h43 : s[i] = 43
        · have e43 : (s[i].toNat : Int) = 43 := by rw [h43]; rfl
          have n48 : ¬ (48 : Int) ≤ s[i].toNat := by omega
          have hns : seps.contains s[i] = false := by rw [h43]; rfl
          have hRn := hR.2 hns
          rw [hns, cond_false] at hst
          by_cases hgo : d.length = 0 ∧ p = false
          · obtain ⟨hd0, rfl⟩ := hgo
            have hd0' : d = [] := List.length_eq_zero_iff.1 hd0
            have hst' : bareF (List.drop i s.data.toList) d false = bareF (List.drop (i + 1) s.data.toList) d true := by
              rw [hst, h43, hd0']; rfl
            have hd0i : (d.length : Int) = 0 := by omega
            rw [hd0i] at hLen
            go_wp2_with (go_at_call 59; refine (hLen _ hI).mono ?_)
            go_roundw
            case rel =>
              exact ⟨i + 1, d, true, by simp, rfl, by omega, by omega, fin hst', hI, hbw⟩
            case measure => simp [intOf]; omega
          · have hno : bareF (List.drop i s.data.toList) d p = none := by
              rw [hst]
              have : (d.isEmpty && !p) = false := by
                cases d with
                | nil =>
                  cases p with
                  | true => rfl
                  | false => exact absurd ⟨rfl, rfl⟩ hgo
                | cons x r => rfl
              rw [Bool.and_assoc, this, Bool.and_false]; rfl
            have hbad := bad hno
            clear hR
            rw [e43] at hcall
            by_cases hd0 : d.length = 0
            · have hp : p = true := by
                cases p with
                | true => rfl
                | false => exact absurd ⟨hd0, rfl⟩ hgo
              subst hp
              have hd0i : (d.length : Int) = 0 := by omega
              rw [hd0i] at hLen
              go_wp2_with (go_at_call 59; refine (hLen _ hI).mono ?_)
              go_wp2_with (go_at_call 60; refine (hcall _).mono ?_)
              rintro e W1 ⟨rfl, rfl⟩
              go_wp2
              go_ret3
              refine ⟨?_, hbw⟩
              rw [← hbad]
              rfl
            · have hd0i : ¬ (d.length : Int) = 0 := by omega
              go_wp2_with (go_at_call 59; refine (hLen _ hI).mono ?_)
              go_wp2_with (go_at_call 60; refine (hcall _).mono ?_)
              rintro e W1 ⟨rfl, rfl⟩
              go_wp2
              go_ret3
              refine ⟨?_, hbw⟩
              rw [← hbad]
              rfl
        · have n43 : ¬ (s[i].toNat : Int) = 43 := fun e => h43 (by rw [← UInt8.toNat_inj]; show s[i].toNat = 43; omega)
          have e43 : (s[i] == 43) = false := by simpa using h43
          rw [e43, Bool.false_and, Bool.false_and, cond_false] at hst
          have h48' : ¬ (48 : Int) ≤ s[i].toNat ∨ ((48 : Int) ≤ s[i].toNat ∧ ¬ (s[i].toNat : Int) ≤ 57) := by omega
          cases hsp : seps.contains s[i] with
          | false =>
            have hRn := hR.2 hsp
            rw [hsp, cond_false] at hst
            have hbad := bad hst
            clear hR
            rcases h48' with n48 | ⟨y48, n57⟩
            · go_wp2_with (go_at_call 60; refine (hcall _).mono ?_)
              go_ret3
              refine ⟨?_, hbw⟩
              rw [← hbad]
              rfl
            · go_wp2_with (go_at_call 60; refine (hcall _).mono ?_)
              go_ret3
              refine ⟨?_, hbw⟩
              rw [← hbad]
              rfl
          | true =>
            have hRn : ¬ R < 0 := fun h => by have := hR.1 h; rw [hsp] at this; cases this
            rw [hsp, cond_true] at hst
            clear hR
            rcases h48' with n48 | ⟨y48, n57⟩
            · go_wp2_with (go_at_call 60; refine (hcall _).mono ?_)
              go_roundw
              case rel => exact ⟨i + 1, d, p, by simp, rfl, by omega, by omega, fin hst, hI, hbw⟩
              case measure => simp [intOf]; omega
            · go_wp2_with (go_at_call 60; refine (hcall _).mono ?_)
              go_roundw
              case rel => exact ⟨i + 1, d, p, by simp, rfl, by omega, by omega, fin hst, hI, hbw⟩
              case measure => simp [intOf]; omega
    · have hge : ¬ (i : Int) < (s.size : Int) := by omega
      go_wp2_with (go_at_call 61; refine (Tryd.Builder_String_any w.heap.size w.heap.size d _ hI hbw.size).mono ?_)
      rintro e W1 rfl b1
      go_wp2
      go_ret3
      have hb : bareF (List.drop i s.data.toList) d p = bareF s.data.toList [] false := hb
      rw [List.drop_of_length_le (by omega), bareF] at hb
      refine ⟨?_, hbw.trans b1⟩
      unfold barR
      rw [← hb]
      rfl
end Go.Proofs
set_option linter.unusedVariables false
set_option maxRecDepth 100000
namespace Go.Ad
open Go Go.Rx Go.Proofs Go.RowKit
theorem ok_bare {wb : World} : OC wb k_bare := by
  intro zs hz
  match zs, hz with
  | [z], hz =>
    have hl : (sOf z).length ≤ 140737488351232 := HB_s hz.2.1
    have hw := fun w => Tryd.bare_walk (bA (sOf z)) w (by show (sOf z).toArray.size ≤ _; simpa using hl)
    have e1 : (bA (sOf z)).data.toList = sOf z := by simp [bA]
    cases hct : bareF (sOf z) [] false with
    | none =>
      refine ⟨[0, 0, 0], ⟨Int.le_refl _, HB_pos, by decide, by decide, by decide, by decide, trivial⟩, ?_, fun w _ => .inr ⟨enters (by kernel_rfl) _ _, ?_⟩⟩
      · show (match bareF (sOf z) [] false with | some (d', p') => sOf 0 = d' ∧ (0 : Int) = b01 p' ∧ (0 : Int) = 1 | none => sOf 0 = [] ∧ (0 : Int) = 0 ∧ (0 : Int) = 0)
        rw [hct]; exact ⟨rfl, rfl, rfl⟩
      · refine (hw w).mono ?_
        rintro e w' ⟨rfl, hb⟩
        refine ⟨?_, ext_of hb⟩
        rw [e1]; unfold barR; rw [hct]; rfl
    | some ct =>
      obtain ⟨c, t⟩ := ct
      have h1 := c_bd (bareF_len _ _ _ hct) (by simp; omega)
      refine ⟨[cOf c, b01 t, 1], ⟨h1.1, h1.2, (b01_bd t).1, (b01_bd t).2, by decide, by decide, trivial⟩, ?_, fun w _ => .inr ⟨enters (by kernel_rfl) _ _, ?_⟩⟩
      · show (match bareF (sOf z) [] false with | some (d', p') => sOf (cOf c) = d' ∧ b01 t = b01 p' ∧ (1 : Int) = 1 | none => sOf (cOf c) = [] ∧ b01 t = 0 ∧ (1 : Int) = 0)
        rw [hct]; exact ⟨sOf_cOf _, rfl, rfl⟩
      · refine (hw w).mono ?_
        rintro e w' ⟨rfl, hb⟩
        refine ⟨?_, ext_of hb⟩
        rw [e1]; unfold barR; rw [hct]
        show _ = Ending.returned (.tuple #[.string (bA (sOf (cOf c))), .bool (decide (b01 t = 1)), .bool true])
        rw [sOf_cOf, b01_one]; rfl
end Go.Ad

/- slices.Delete at a struct, by a walk (rows of an own block). NOT WHOLE YET: see NOTES. -/
set_option linter.unusedSimpArgs false
set_option linter.unusedVariables false
namespace Go.Proofs
open Go.RowKit Go.Rx
section
variable {P : Program}
theorem step_append_run {ops : Array Oper} {o : Oper} {a : Act} {w : World} {K : Act → World → Prop} {Q : Exit → Act → World → Prop} {E : Prop}
    (hg : o.guard = none) (s x : Operand) (t t' : TypeId) (hop : o.op = Op.call { callee := Callee.builtin Builtin.append, args := #[s, x], argTypes := #[t, t'] }) (u v : Value) (hs : a.eval s = u) (hx : a.eval x = v) {r : Value} {w' : World}
    (hr : (Builtin.append_ #[t, t'] o.type #[u, v]).run P w = .ok r w') (hK : K (a.put o.dst r) w') : if Region.wanted o (yielded ops a.tmps) = true then Oper.wp P o a w K Q else E := by
  have hw : Region.wanted o (yielded ops a.tmps) = true := by simp [Region.wanted, hg]
  rw [if_pos hw]
  unfold Oper.wp
  simp [execOp, hop, resolve, invoke, builtin, hs, hx, hr, Result.andThen]
  exact hK
theorem wpList_clear_run {w : World} {ops : Array Oper} {rest : List Oper} {o : Oper} {a : Act} {Q : Exit → Act → World → Prop} (hgd : o.guard = none) (s : Operand) (t : TypeId)
    (ho : o.op = .call { callee := .builtin .clear, args := #[s], argTypes := #[t] }) (v : Value) (hs : a.eval s = v) {w' : World}
    (hr : (Builtin.clear_ #[t] o.type #[v]).run P w = .ok (.tuple #[]) w') (h : wpList P ops Q rest (a.put o.dst (.tuple #[])) w') : wpList P ops Q (o :: rest) a w := by
  refine wpList_plain hgd fun K hK => ?_
  unfold Oper.wp
  simp [execOp, ho, resolve, invoke, builtin, hs, hr, Result.andThen]
  exact hK _ _ h
/-- clear at elements of so many cells. -/
theorem run_clear_rows (w : World) (t e ty : TypeId) (z : Value) (ht : P.underlying t = some (.slice e)) (hv : ∀ w, (zeroValue e).run P w = .ok z w) (h1 : ∀ v ∈ z.cells.toList, v.oneCell' = true) (g o n c : Nat) (hn : 0 < n) (cur : Array Value) (et : TypeId) (hg : w.heap[g]? = some (.cells cur et (0, 0))) (hfit : o + n * z.cells.size ≤ cur.size) :
    (Builtin.clear_ #[t] ty #[.slice (some ⟨g, o, none⟩) n c]).run P w = .ok (.tuple #[]) (w.setRow g (cur.toList.take o ++ (Builtin.zeroCells z.cells n).toList ++ cur.toList.drop (o + n * z.cells.size)).toArray) := by
  have hzs : (Builtin.zeroCells z.cells n).toList.length = n * z.cells.size := by rw [Array.length_toList, zeroCells_size]
  have hst := run_storeCells_at P g o et (Builtin.zeroCells z.cells n).toList 0 cur w hg (by rw [hzs]; omega) (fun v hv' => by
    simp only [Builtin.zeroCells] at hv'
    have hm : v ∈ z.cells.toList := by
      simp at hv'
      obtain ⟨k, hk1, hk⟩ := hv'
      have hs : 0 < z.cells.size := by
        rcases Nat.eq_zero_or_pos z.cells.size with h | h
        · rw [h, Nat.mul_zero] at hk1; omega
        · exact h
      rw [getElem!_pos z.cells (k % z.cells.size) (Nat.mod_lt _ hs)] at hk
      rw [← hk]
      exact Array.getElem_mem_toList _
    exact h1 v hm)
  rw [Nat.add_zero, hzs] at hst
  obtain ⟨m, rfl⟩ : ∃ m, n = m + 1 := ⟨n - 1, by omega⟩
  simp [Builtin.clear_, run_underlying ht, hv, hst]
end
theorem slNew_row (w : World) (g : Nat) (a : Array Value) : SlNew w (w.setRow g a) (some g) :=
  ⟨rfl, rfl, rfl, by simp [World.setRow], fun k hk hne => setRow_other w g k a (fun e => hne (by rw [e]))⟩
theorem slNew_rows (w : World) (g : Nat) (a b : Array Value) : SlNew w ((w.drew.setRow g a).setRow g b) (some g) := by
  obtain ⟨h1, h2, h3, h4, h5⟩ := slNew_row w.drew g a
  obtain ⟨k1, k2, k3, k4, k5⟩ := slNew_row (w.drew.setRow g a) g b
  exact ⟨k1.trans h1, k2.trans h2, k3.trans h3, Nat.le_trans h4 k4, fun k hk hne => (k5 k (Nat.lt_of_lt_of_le hk h4) hne).trans (h5 k hk hne)⟩
set_option maxHeartbeats 4000000 in
set_option maxRecDepth 1000000 in
theorem Tryd.delete_walk (g cap n i j : Nat) (cur : Array Value) (w : World) (hg : w.heap[g]? = some (.cells cur 31 (0, 0))) (hsz : cur.size = cap * 4) (hn : n ≤ cap) (hcap : cap ≤ 9223372036854775807) (hij : i < j) (hj : j ≤ n) (one : ∀ v ∈ (cur.toList.drop (j * 4)).take ((n - j) * 4), v.oneCell' = true) :
    Calls Tryd.prog 14 #[.slice (some ⟨g, 0, none⟩) n cap, .int .i64 i, .int .i64 j] w fun e w' => e = .returned (.slice (some ⟨g, 0, none⟩) (i + (n - j)) cap) ∧ ∃ cur' : Array Value, w'.heap[g]? = some (.cells cur' 31 (0, 0)) ∧ cur'.size = cap * 4 ∧ cur'.toList.take ((i + (n - j)) * 4) = cur.toList.take (i * 4) ++ (cur.toList.drop (j * 4)).take ((n - j) * 4) ∧ SlNew w w' (some g) := by
  have hic : i ≤ cap := by omega
  have hjc : j ≤ cap := by omega
  obtain ⟨i0, hi0, hi4⟩ : ∃ i0, Tryd.prog.info? 31 = some i0 ∧ i0.size = 4 := ⟨_, rfl, by kernel_rfl⟩
  obtain ⟨news, hnews⟩ : ∃ news, news = (cur.toList.drop (j * 4)).take ((n - j) * 4) := ⟨_, rfl⟩
  have hcl : cur.toList.length = cap * 4 := by rw [Array.length_toList]; exact hsz
  have hlen : news.length = (n - j) * 4 := by rw [hnews, List.length_take, List.length_drop, hcl]; omega
  obtain ⟨A, hA, hsrc⟩ : ∃ A : Addr, (if cap = j then some (⟨g, 0, none⟩ : Addr) else some ⟨g, j * 4, none⟩) = some A ∧ Hid (∀ t u, news[t]? = some u → w.drew.cell? (A.add t) = some u) := by
    by_cases h : cap = j
    · refine ⟨⟨g, 0, none⟩, by simp [h], fun t u hu => ?_⟩
      have h0 : news.length = 0 := by rw [hlen]; omega
      rw [List.length_eq_zero_iff.1 h0] at hu
      simp at hu
    · refine ⟨⟨g, j * 4, none⟩, by simp [h], fun t u hu => ?_⟩
      have ht := (List.getElem?_eq_some_iff.1 hu).1
      rw [hlen] at ht
      rw [hnews, List.getElem?_take, if_pos ht, List.getElem?_drop] at hu
      rw [Addr.add_lit]
      show w.cell? _ = _
      rw [Lib.cell_of_heap hg, ← Array.getElem?_toList]; exact hu
  obtain ⟨c1, hc1⟩ : ∃ c1 : Array Value, c1 = (cur.toList.take (i * 4) ++ news ++ cur.toList.drop (i * 4 + news.length)).toArray := ⟨_, rfl⟩
  have hc1s : c1.size = cap * 4 := by rw [hc1]; simp [hlen, hcl]; omega
  obtain ⟨W1, hW1⟩ : ∃ W1, W1 = w.drew.setRow g c1 := ⟨_, rfl⟩
  have hgd : w.drew.heap[g]? = some (.cells cur 31 (0, 0)) := hg
  have happ : Hid (∀ ty, (Builtin.append_ #[24, 24] ty #[.slice (some ⟨g, 0, none⟩) i cap, .slice (some A) (n - j) (cap - j)]).run Tryd.prog w.drew = .ok (.slice (some ⟨g, 0, none⟩) (i + (n - j)) cap) W1) := fun ty => by
    have := run_append_room_row (P := Tryd.prog) w.drew 24 24 ty 31 i0 Tryd.underlying24 hi0 g i cap cur 31 hgd (.slice (some A) (n - j) (cap - j)) (n - j) news (Src.ofSlice _ Tryd.underlying24 A (n - j) (cap - j) news (by rw [hi4]; exact hlen) hsrc (fun u hu => by
      rw [hnews] at hu
      exact one u hu)) (by omega) (by rw [hi4, hlen, hsz]; omega)
    rw [this, hW1, hc1, hi4]
  have hg1 : W1.heap[g]? = some (.cells c1 31 (0, 0)) := by rw [hW1]; exact setRow_heap w.drew g _ _ _ _ hgd
  obtain ⟨z, hz, hz4, hz1⟩ : ∃ z : Value, (∀ w, (zeroValue 31).run Tryd.prog w = .ok z w) ∧ z.cells.size = 4 ∧ ∀ v ∈ z.cells.toList, v.oneCell' = true := ⟨_, Tryd.zeroValue31, by kernel_rfl, by decide⟩
  obtain ⟨c2, hc2⟩ : ∃ c2 : Array Value, c2 = (c1.toList.take ((i + (n - j)) * 4) ++ (Builtin.zeroCells z.cells (n - (i + (n - j)))).toList ++ c1.toList.drop ((i + (n - j)) * 4 + (n - (i + (n - j))) * z.cells.size)).toArray := ⟨_, rfl⟩
  obtain ⟨W2, hW2⟩ : ∃ W2, W2 = W1.setRow g c2 := ⟨_, rfl⟩
  have hclr : ∀ ty, (Builtin.clear_ #[24] ty #[.slice (some ⟨g, (i + (n - j)) * 4, none⟩) (n - (i + (n - j))) (cap - (i + (n - j)))]).run Tryd.prog W1 = .ok (.tuple #[]) W2 := fun ty => by
    rw [run_clear_rows W1 24 31 ty z Tryd.underlying24 hz hz1 g ((i + (n - j)) * 4) (n - (i + (n - j))) _ (by omega) c1 31 hg1 (by rw [hz4, hc1s]; omega), hW2, hc2]
  have hg2 : W2.heap[g]? = some (.cells c2 31 (0, 0)) := by rw [hW2]; exact setRow_heap W1 g _ _ _ _ hg1
  have hc1l : c1.toList.length = cap * 4 := by rw [Array.length_toList]; exact hc1s
  have fin : Hid (∃ cur' : Array Value, W2.heap[g]? = some (.cells cur' 31 (0, 0)) ∧ cur'.size = cap * 4 ∧ cur'.toList.take ((i + (n - j)) * 4) = cur.toList.take (i * 4) ++ (cur.toList.drop (j * 4)).take ((n - j) * 4) ∧ SlNew w W2 (some g)) := by
    refine ⟨c2, hg2, ?_, ?_, ?_⟩
    · rw [hc2]; simp [zeroCells_size, hz4, hc1l]; omega
    · rw [hc2]
      simp only
      rw [List.append_assoc, List.take_append_of_le_length (by rw [List.length_take, hc1l]; omega), List.take_of_length_le (by rw [List.length_take]; omega), hc1]
      simp only
      rw [List.take_append_of_le_length (by rw [List.length_append, List.length_take, hlen, hcl]; omega), List.take_of_length_le (by rw [List.length_append, List.length_take, hlen, hcl]; omega), hnews]
    · rw [hW2, hW1]; exact slNew_rows w g _ _
  clear hnews hlen hsrc hc1 hc1s hW1 hgd hg1 hz hz4 hz1 hc2 hW2 hg2 hc1l hcl hg hsz one
  go_enter Tryd.func14, Tryd.ntmps14
  go_wp2_with fail
  go_region_law (refine step_append_run rfl (.tmp 22) (.tmp 25) 24 24 rfl (.slice (some ⟨g, 0, none⟩) i cap) (.slice (some A) (n - j) (cap - j)) (by simp [Act.eval, Act.put]) (by simp [Act.eval, Act.put]) (happ.out _) ?_)
  go_wp2
  go_ret
  exact ⟨rfl, fin.out⟩
end Go.Proofs

/- slices.Insert at a struct: run equations for its walk (the walk itself is still to do). -/
set_option linter.unusedVariables false
set_option linter.unusedSimpArgs false
namespace Go.Proofs
open Go.RowKit Go.Rx
section
variable {P : Program}
/-- copy at elements of so many cells: the cells are read first, so the two may overlap. -/
theorem run_copy_rows (w : World) (dT sT ty e : TypeId) (i : TypeInfo) (hu : P.underlying dT = some (.slice e)) (hi : P.info? e = some i) (g o dLen dCap : Nat) (a : Addr) (sLen sCap : Nat) (cur : Array Value) (t : TypeId) (cs : List Value)
    (hg : w.heap[g]? = some (.cells cur t (0, 0))) (hn : cs.length = Nat.min sLen dLen * i.size) (hsrc : ∀ j v, cs[j]? = some v → w.cell? (a.add j) = some v) (hfit : o + cs.length ≤ cur.size) (h1 : ∀ v ∈ cs, v.oneCell' = true) :
    (Builtin.copy_ #[dT, sT] ty #[.slice (some ⟨g, o, none⟩) dLen dCap, .slice (some a) sLen sCap]).run P w = .ok (goInt (Nat.min sLen dLen)) (w.setRow g (cur.toList.take o ++ cs ++ cur.toList.drop (o + cs.length)).toArray) := by
  have hst := run_storeCells_at P g o t cs 0 cur w hg (by simpa using hfit) h1
  rw [Nat.add_zero] at hst
  have hf := run_firstCells_some (P := P) w i.size (Nat.min sLen dLen) a sLen sCap cs hn hsrc
  simp [Builtin.copy_, run_underlying hu, Builtin.lenOf, sizeOf, typeInfo, hi, hf, hst]
theorem wpList_copy_runB {w : World} {ops : Array Oper} {rest : List Oper} {o : Oper} {a : Act} {Q : Exit → Act → World → Prop} (hgd : o.guard = none) (s x : Operand) (t t' : TypeId)
    (ho : o.op = .call { callee := .builtin .copy, args := #[s, x], argTypes := #[t, t'] }) (u v : Value) (hs : a.eval s = u) (hx : a.eval x = v) {r : Value} {w' : World}
    (hr : (Builtin.copy_ #[t, t'] o.type #[u, v]).run P w = .ok r w') (h : wpList P ops Q rest (a.put o.dst r) w') : wpList P ops Q (o :: rest) a w := by
  refine wpList_plain hgd fun K hK => ?_
  unfold Oper.wp
  simp [execOp, ho, resolve, invoke, builtin, hs, hx, hr, Result.andThen]
  exact hK _ _ h
theorem step_copy_run {ops : Array Oper} {o : Oper} {a : Act} {w : World} {K : Act → World → Prop} {Q : Exit → Act → World → Prop} {E : Prop}
    (hg : o.guard = none) (s x : Operand) (t t' : TypeId) (hop : o.op = Op.call { callee := Callee.builtin Builtin.copy, args := #[s, x], argTypes := #[t, t'] }) (u v : Value) (hs : a.eval s = u) (hx : a.eval x = v) {r : Value} {w' : World}
    (hr : (Builtin.copy_ #[t, t'] o.type #[u, v]).run P w = .ok r w') (hK : K (a.put o.dst r) w') : if Region.wanted o (yielded ops a.tmps) = true then Oper.wp P o a w K Q else E := by
  have hw : Region.wanted o (yielded ops a.tmps) = true := by simp [Region.wanted, hg]
  rw [if_pos hw]
  unfold Oper.wp
  simp [execOp, hop, resolve, invoke, builtin, hs, hx, hr, Result.andThen]
  exact hK
theorem wpList_append_runB {w : World} {ops : Array Oper} {rest : List Oper} {o : Oper} {a : Act} {Q : Exit → Act → World → Prop} (hgd : o.guard = none) (s x : Operand) (t t' : TypeId)
    (ho : o.op = .call { callee := .builtin .append, args := #[s, x], argTypes := #[t, t'] }) (u v : Value) (hs : a.eval s = u) (hx : a.eval x = v) {r : Value} {w' : World}
    (hr : (Builtin.append_ #[t, t'] o.type #[u, v]).run P w = .ok r w') (h : wpList P ops Q rest (a.put o.dst r) w') : wpList P ops Q (o :: rest) a w := by
  refine wpList_plain hgd fun K hK => ?_
  unfold Oper.wp
  simp [execOp, ho, resolve, invoke, builtin, hs, hx, hr, Result.andThen]
  exact hK _ _ h
end
set_option maxHeartbeats 4000000 in
set_option maxRecDepth 1000000 in
/-- Insert at the end: an append. -/
theorem Tryd.insert_end (g n cap : Nat) (A : Addr) (vc : Nat) (r : Value) (w W1 : World) (hn : n ≤ cap) (hcap : cap ≤ 9223372036854775807)
    (happ : ∀ ty, (Builtin.append_ #[24, 24] ty #[.slice (some ⟨g, 0, none⟩) n cap, .slice (some A) 1 vc]).run Tryd.prog w = .ok r W1) :
    Calls Tryd.prog 17 #[.slice (some ⟨g, 0, none⟩) n cap, .int .i64 n, .slice (some A) 1 vc] w fun e w' => e = .returned r ∧ w' = W1 := by
  obtain ⟨B, hB⟩ : ∃ B, (if cap = n then some (⟨g, 0, none⟩ : Addr) else some ⟨g, n * 4, none⟩) = B := ⟨_, rfl⟩
  go_enter Tryd.func17, Tryd.ntmps17
  go_wp2_with (at_builtin; refine wpList_append_runB rfl (.tmp 23) (.tmp 24) 24 24 rfl _ _ rfl rfl (happ _) ?_)
  go_wp2
  all_goals (go_ret; exact ⟨rfl, rfl⟩)
set_option maxHeartbeats 4000000 in
set_option maxRecDepth 1000000 in
theorem Tryd.insert_nil (A : Addr) (vc : Nat) (r : Value) (w W1 : World)
    (happ : ∀ ty, (Builtin.append_ #[24, 24] ty #[.slice none 0 0, .slice (some A) 1 vc]).run Tryd.prog w = .ok r W1) :
    Calls Tryd.prog 17 #[.slice none 0 0, .int .i64 0, .slice (some A) 1 vc] w fun e w' => e = .returned r ∧ w' = W1 := by
  go_enter Tryd.func17, Tryd.ntmps17
  go_wp2_with (at_builtin; refine wpList_append_runB rfl (.tmp 23) (.tmp 24) 24 24 rfl _ _ rfl rfl (happ _) ?_)
  go_wp2
  all_goals (go_ret; exact ⟨rfl, rfl⟩)
set_option maxHeartbeats 4000000 in
set_option maxRecDepth 1000000 in
theorem Tryd.insert_grow (g n cap i G C : Nat) (A : Addr) (vc : Nat) (r1 r2 : Value) (w W1 W2 W3 : World) (hin : i < n) (hn : n ≤ cap) (hroom : cap < n + 1) (hC : n + 1 ≤ C) (hn2 : n ≤ 1073741824)
    (happ : ∀ ty, (Builtin.append_ #[24, 3] ty #[.slice (some ⟨g, 0, none⟩) i cap, .int .i64 ((n : Int) + 1 - (i : Int))]).run Tryd.prog w = .ok (.slice (some ⟨G, 0, none⟩) (n + 1) C) W1)
    (hcp1 : ∀ ty, (Builtin.copy_ #[24, 24] ty #[.slice (some ⟨G, i * 4, none⟩) (n + 1 - i) (C - i), .slice (some A) 1 vc]).run Tryd.prog W1 = .ok r1 W2)
    (hcp2 : ∀ ty, (Builtin.copy_ #[24, 24] ty #[.slice (some ⟨G, (i + 1) * 4, none⟩) (n + 1 - (i + 1)) (C - (i + 1)), .slice (some ⟨g, i * 4, none⟩) (n - i) (cap - i)]).run Tryd.prog W2.drew = .ok r2 W3) :
    Calls Tryd.prog 17 #[.slice (some ⟨g, 0, none⟩) n cap, .int .i64 i, .slice (some A) 1 vc] w fun e w' => e = .returned (.slice (some ⟨G, 0, none⟩) (n + 1) C) ∧ w' = W3 := by
  have f1 : ¬ cap = i := by omega
  have f2 : ¬ C = i := by omega
  have f3 : ¬ C = i + 1 := by omega
  have f4 : i ≤ cap := by omega
  have f5 : ¬ ((i : Int) = (n : Int)) := by omega
  have f6 : (cap : Int) < (n : Int) + 1 := by omega
  have f7 : i ≤ C := by omega
  have f8 : i + 1 ≤ C := by omega
  have f9 : ((i : Int) + 1).toNat = i + 1 := by omega
  have f10 : (0 : Int) ≤ (i : Int) + 1 := by omega
  have f11 : (i : Int) + 1 ≤ (n : Int) + 1 := by omega
  have f12 : i ≤ n := by omega
  have f13 : IntKind.i64.wrap ((i : Int) + 1) = (i : Int) + 1 := by rw [IntKind.wrap_i64]; omega
  go_enter Tryd.func17, Tryd.ntmps17
  go_wp2_with (first
    | (at_builtin; refine wpList_append_runB rfl (.tmp 34) (.tmp 39) 24 3 rfl _ _ rfl rfl (happ _) ?_)
    | (at_builtin; refine wpList_copy_runB rfl (.tmp 43) (.tmp 44) 24 24 rfl _ _ rfl rfl (hcp1 _) ?_))
  go_region_law (refine step_copy_run rfl (.tmp 50) (.tmp 53) 24 24 rfl (.slice (some ⟨G, (i + 1) * 4, none⟩) (n + 1 - (i + 1)) (C - (i + 1))) (.slice (some ⟨g, i * 4, none⟩) (n - i) (cap - i)) (by simp [Act.eval, Act.put]) (by simp [Act.eval, Act.put]) (hcp2 _) ?_)
  go_wp2
  go_ret
  exact ⟨rfl, rfl⟩
set_option maxHeartbeats 4000000 in
set_option maxRecDepth 1000000 in
theorem Tryd.insert_room (g n cap i : Nat) (A : Addr) (vc : Nat) (r1 r2 : Value) (w W1 W2 : World) (hin : i < n) (hn : n + 1 ≤ cap) (hn2 : n ≤ 1073741824)
    (hov : (callFunc 22 #[.slice (some A) 1 vc, .slice (some ⟨g, (i + 1) * 4, none⟩) (n - i) (cap - (i + 1))]).run Tryd.prog w = .ok (.value (.bool false)) w)
    (hcp1 : ∀ ty, (Builtin.copy_ #[24, 24] ty #[.slice (some ⟨g, (i + 1) * 4, none⟩) (n + 1 - (i + 1)) (cap - (i + 1)), .slice (some ⟨g, i * 4, none⟩) (n + 1 - i) (cap - i)]).run Tryd.prog w.drew = .ok r1 W1)
    (hcp2 : ∀ ty, (Builtin.copy_ #[24, 24] ty #[.slice (some ⟨g, i * 4, none⟩) (n + 1 - i) (cap - i), .slice (some A) 1 vc]).run Tryd.prog W1 = .ok r2 W2) :
    Calls Tryd.prog 17 #[.slice (some ⟨g, 0, none⟩) n cap, .int .i64 i, .slice (some A) 1 vc] w fun e w' => e = .returned (.slice (some ⟨g, 0, none⟩) (n + 1) cap) ∧ w' = W2 := by
  have f1 : ¬ cap = i := by omega
  have f3 : ¬ cap = i + 1 := by omega
  have f4 : i ≤ cap := by omega
  have f5 : ¬ ((i : Int) = (n : Int)) := by omega
  have f6 : ¬ (cap : Int) < (n : Int) + 1 := by omega
  have f8 : i + 1 ≤ cap := by omega
  have f9 : ((i : Int) + 1).toNat = i + 1 := by omega
  have f10 : (0 : Int) ≤ (i : Int) + 1 := by omega
  have f11 : (i : Int) + 1 ≤ (n : Int) + 1 := by omega
  have f12 : i ≤ n := by omega
  have f13 : IntKind.i64.wrap ((i : Int) + 1) = (i : Int) + 1 := by rw [IntKind.wrap_i64]; omega
  have f14 : ((n : Int) + 1).toNat = n + 1 := by omega
  have f15 : (n : Int) + 1 ≤ (cap : Int) := by omega
  have f16 : i ≤ n + 1 := by omega
  have f17 : (i : Int) ≤ (n : Int) + 1 := by omega
  go_enter Tryd.func17, Tryd.ntmps17
  go_wp2
  go_region_law (refine step_copy_run rfl (.tmp 73) (.tmp 76) 24 24 rfl (.slice (some ⟨g, (i + 1) * 4, none⟩) (n + 1 - (i + 1)) (cap - (i + 1))) (.slice (some ⟨g, i * 4, none⟩) (n + 1 - i) (cap - i)) (by simp [Act.eval, Act.put]) (by simp [Act.eval, Act.put]) (hcp1 _) ?_)
  go_wp2_with (at_builtin; refine wpList_copy_runB rfl (.tmp 80) (.tmp 81) 24 24 rfl _ _ rfl rfl (hcp2 _) ?_)
  go_wp2
  go_ret
  exact ⟨rfl, rfl⟩
end Go.Proofs

/- Contracts of slices.Delete at bonds, out of its walk. -/
set_option linter.unusedVariables false
set_option maxRecDepth 100000
namespace Go.Ad
open Go Go.Rx Go.Proofs Go.RowKit
theorem ok_bdel {wb : World} : k_bdel.Ok Tryd.prog wb (flatS sh SB k_bdel.id) := by
  refine ⟨fun args w => enters (by kernel_rfl) _ _, fun F w v0 code vs zs hw ho hc hz hpre hat hF => ?_⟩
  match zs, hz, vs, hat with
  | [i, j], hz, [vi, vj], hat =>
    obtain ⟨hvi, hvj, _⟩ := hat
    have hvi : vi = .int .i64 i := hvi
    have hvj : vj = .int .i64 j := hvj
    have hpre : 0 ≤ i ∧ i < j ∧ j ≤ ((rOf code).length : Int) ∧ (rOf code).length ≤ 1073741824 := hpre
    obtain ⟨p0, p1, p2, p3⟩ := hpre
    rcases ho with ⟨_, h0⟩ | ⟨g, cap, cells, hv, ⟨hcap1, hcap2⟩, hwb, hg, hrows, hsz⟩
    · rw [h0] at p2; simp at p2; omega
    · obtain ⟨hok, pre, post, hcells, hpre0⟩ := hrows
      have hpre0 : pre = [] := List.eq_nil_of_length_eq_zero hpre0
      subst hpre0
      have hfl : ∀ rows : List (List Int), (∀ row ∈ rows, RowOk k_bdel.sh row) → (flatV k_bdel.sh rows).length = rows.length * 4 := fun rows h => flatV_len h
      obtain ⟨a, ha⟩ : ∃ a : Nat, i = a := ⟨i.toNat, by omega⟩
      obtain ⟨b, hb⟩ : ∃ b : Nat, j = b := ⟨j.toNat, by omega⟩
      subst ha hb
      have hsplit : flatV k_bdel.sh (rOf code) = flatV k_bdel.sh ((rOf code).take b) ++ flatV k_bdel.sh ((rOf code).drop b) := by rw [← flatV_append, List.take_append_drop]
      have hl1 := hfl ((rOf code).take b) fun r h => hok r (List.mem_of_mem_take h)
      have hl2 := hfl ((rOf code).drop b) fun r h => hok r (List.mem_of_mem_drop h)
      rw [List.length_take, Nat.min_eq_left (by omega)] at hl1
      rw [List.length_drop] at hl2
      have hnews : (cells.toList.drop (b * 4)).take (((rOf code).length - b) * 4) = flatV k_bdel.sh ((rOf code).drop b) := by
        rw [hcells, List.nil_append, hsplit, List.append_assoc, List.drop_append_of_le_length (by omega), List.drop_of_length_le (by omega), List.nil_append, List.take_append_of_le_length (by omega), List.take_of_length_le (by omega)]
      have hhead : cells.toList.take (a * 4) = flatV k_bdel.sh ((rOf code).take a) := by
        have hl3 := hfl ((rOf code).take a) fun r h => hok r (List.mem_of_mem_take h)
        rw [List.length_take, Nat.min_eq_left (by omega)] at hl3
        have : flatV k_bdel.sh (rOf code) = flatV k_bdel.sh ((rOf code).take a) ++ flatV k_bdel.sh ((rOf code).drop a) := by rw [← flatV_append, List.take_append_drop]
        rw [hcells, List.nil_append, this, List.append_assoc, List.take_append_of_le_length (by omega), List.take_of_length_le (by omega)]
      have hown : ownOf v0 = some g := by
        rw [hv]
        obtain ⟨c', rfl⟩ : ∃ c', cap = c' + 1 := ⟨cap - 1, by omega⟩
        rfl
      have hwalk := Tryd.delete_walk g cap (rOf code).length a b cells w hg hsz hcap1 (by omega) (by omega) (by omega) (by rw [hnews]; exact flatV_one)
      rw [hvi, hvj, hv]
      refine hwalk.mono ?_
      rintro e w' ⟨rfl, cur', hg', hs', ht', hnew⟩
      rw [hhead, hnews, ← flatV_append] at ht'
      have hall : ∀ row ∈ (rOf code).take a ++ (rOf code).drop b, RowOk k_bdel.sh row := fun row hr => (List.mem_append.1 hr).elim (fun h => hok row (List.mem_of_mem_take h)) fun h => hok row (List.mem_of_mem_drop h)
      have hlen' : ((rOf code).take a ++ (rOf code).drop b).length = a + ((rOf code).length - b) := by rw [List.length_append, List.length_take, List.length_drop, Nat.min_eq_left (by omega)]
      rw [← hv]
      refine ⟨by rw [hown]; exact hnew, rc ((rOf code).take a ++ (rOf code).drop b), _, ⟨rc_nonneg _, RB_rows (by kernel_rfl) (by rw [hlen']; omega) hall⟩, ?_, Or.inr ⟨g, cap, cur', ?_, ⟨?_, hcap2⟩, .inl hown, hg', ⟨?_, [], cur'.toList.drop ((a + ((rOf code).length - b)) * 4), ?_, rfl⟩, hs'⟩, rfl⟩
      · show rOf (rc _) = (rOf code).take ((a : Int)).toNat ++ (rOf code).drop ((b : Int)).toNat
        rw [rOf_rc]; rfl
      · rw [rOf_rc, hlen']
      · rw [rOf_rc, hlen']; omega
      · rw [rOf_rc]; exact hall
      · rw [rOf_rc, ← ht', List.nil_append, List.take_append_drop]
end Go.Ad

/- The contract of slices.Insert at a struct, out of its walks. -/
set_option linter.unusedVariables false
set_option linter.unusedSimpArgs false
set_option maxRecDepth 100000
namespace Go.Ad
open Go Go.Rx Go.Proofs Go.RowKit
theorem slNew_alloc (w : World) (o : Obj) (own : Option Nat) : SlNew w (w.drew.alloc o) own :=
  have h := (World.Extends.refl w.drew).alloc o
  ⟨h.os, h.tape, h.output, h.size, fun k hk _ => h.block k hk⟩
theorem SlNew.trans1 {w w1 w2 : World} {own : Option Nat} {g : Nat} (h : SlNew w w1 own) (h2 : SlNew w1 w2 (some g)) (hg : own = some g ∨ w.heap.size ≤ g) : SlNew w w2 own := by
  obtain ⟨a1, a2, a3, a4, a5⟩ := h
  obtain ⟨b1, b2, b3, b4, b5⟩ := h2
  refine ⟨b1.trans a1, b2.trans a2, b3.trans a3, Nat.le_trans a4 b4, fun k hk hne => ?_⟩
  rw [b5 k (Nat.lt_of_lt_of_le hk a4) (fun e => ?_), a5 k hk hne]
  cases e
  rcases hg with hg | hg
  · exact hne hg
  · omega
theorem SlNew.drew1 {w w1 : World} {own : Option Nat} (h : SlNew w w1 own) : SlNew w w1.drew own := h
/-- slices.overlaps: the second lies in a block of one's own. -/
theorem run_overlaps_own {P : Program} (w : World) (tS tR e : TypeId) (ht : P.underlying tS = some (.slice e)) (size : Nat) (hz : ∀ w, (Go.sizeOf e).run P w = .ok size w)
    (a b : Addr) (la ca lb cb : Nat) (hne : a.block ≠ b.block) (cA cB : Array Value) (tA tB : TypeId) (fA : Nat × Nat)
    (hA : w.heap[a.block]? = some (.cells cA tA fA)) (hB : w.heap[b.block]? = some (.cells cB tB (0, 0))) (h0 : cA.size ≠ 0) :
    (Extern.SlicesOverlaps.overlaps #[tS, tS] #[tR] #[.slice (some a) la ca, .slice (some b) lb cb]).run P w = .ok (.bool false) w := by
  have hnb : (a.block != b.block) = true := by simpa using hne
  have hnb' : (a.block == b.block) = false := by simpa using hne
  have hsa : w.shape? a.block = some (tA, cA.size) := by unfold World.shape?; rw [hA]
  have hsb : w.shape? b.block = some (tB, cB.size) := by unfold World.shape?; rw [hB]
  have hfb : ∀ o, w.frozen? ⟨b.block, o, none⟩ = false := fun o => by unfold World.frozen?; simp only [hB]; simp
  have hfb' : w.frozen? b = false := by unfold World.frozen?; simp only [hB]; simp
  change Sem.run P (α := Value) (do
    let some t := (#[tS, tS] : Array TypeId)[0]? | stuck "slices.overlaps: no parameter types"
    let .slice elem ← underlying t | stuck "slices.overlaps: slice type expected"
    let size ← Go.sizeOf elem
    match (some a : Option Addr), (some b : Option Addr) with
    | some a, some b =>
      if la = 0 ∨ lb = 0 ∨ size = 0 then pure (Value.bool false)
      else if a.block != b.block && (← frozen a) && (← frozen b) then unsupported .addressObserved
      else do
        if a.block != b.block then do
          noView a; noView b
          if ← mayBeOne a b then return Value.bool ((← choose (.extern "sameAddr.stringBytes" 2)) == 1)
        pure (Value.bool (a.block == b.block && a.off < b.off + lb * size && b.off < a.off + la * size))
    | _, _ => pure (Value.bool false)) w = _
  by_cases hl : la = 0 ∨ lb = 0 ∨ size = 0
  · simp [run_underlying ht, hz, hl]
  · obtain ⟨kA, hkA⟩ : ∃ k, cA.size = k + 1 := ⟨cA.size - 1, by omega⟩
    rw [hkA] at hsa
    cases h1 : w.frozen? a <;> cases h2 : w.frozen? ⟨a.block, kA + 1, none⟩ <;> simp [run_underlying ht, hz, hl, hnb, hnb', frozen, noView, viewAt, mayBeOne, stringish, shape, Sem.run, hsa, hsb, hfb, hfb', h1, h2]
theorem room_lists {α : Type} {cells L1 L2 N rest : List α} {x y z : Nat} (h : cells = L1 ++ L2 ++ rest) (h1 : L1.length = x) (hy : z ≤ cells.length) (hN : N = N) (hz : z = x + y) :
    (cells.take z ++ L2 ++ cells.drop (z + L2.length)).toArray.toList.take x ++ N ++ (cells.take z ++ L2 ++ cells.drop (z + L2.length)).toArray.toList.drop (x + y) = L1 ++ N ++ L2 ++ cells.drop (z + L2.length) := by
  simp only
  have e1 : (cells.take z ++ L2 ++ cells.drop (z + L2.length)).take x = L1 := by
    rw [List.append_assoc, List.take_append_of_le_length (by rw [List.length_take]; omega), List.take_take, Nat.min_eq_left (by omega), h, List.append_assoc, List.take_append_of_le_length (by omega), List.take_of_length_le (by omega)]
  have e2 : (cells.take z ++ L2 ++ cells.drop (z + L2.length)).drop (x + y) = L2 ++ cells.drop (z + L2.length) := by
    rw [List.append_assoc, ← hz]
    have : (cells.take z).length = z := by rw [List.length_take]; omega
    conv => lhs; arg 1; rw [← this]
    rw [List.drop_left]
  rw [e1, e2]
  simp
theorem grow_lists {α : Type} {L1 L2 N D : List α} {x y : Nat} (h1 : L1.length = x) (hN : N.length = y) :
    (L1 ++ N ++ D).toArray.toList.take (x + y) ++ L2 ++ (L1 ++ N ++ D).toArray.toList.drop (x + y + L2.length) = L1 ++ N ++ L2 ++ (L1 ++ N ++ D).toArray.toList.drop (x + y + L2.length) := by
  congr 2
  simp only
  rw [List.take_append_of_le_length (by rw [List.length_append]; omega), List.take_of_length_le (by rw [List.length_append]; omega)]
theorem ok_bins {wb : World} : k_bins.Ok Tryd.prog wb (flatS sh SB k_bins.id) := by
  refine ⟨fun args w => enters (by kernel_rfl) _ _, fun F w v0 code vs zs hw ho hc hz hpre hat hF => ?_⟩
  match zs, hz, vs, hat with
  | [i, r], hz, [vi, vv], hat =>
    obtain ⟨hvi, hvv, _⟩ := hat
    have hvi : vi = .int .i64 i := hvi
    have hvw : SlAt F w k_bins.sh (rOf r) vv := hvv
    clear hvv
    have hpre : (0 ≤ i ∧ i ≤ ((rOf code).length : Int)) ∧ (rOf r).length = 1 ∧ (rOf code).length + 1 ≤ 1073741824 := hpre
    obtain ⟨⟨p0, p1⟩, p2, p3⟩ := hpre
    obtain ⟨a, ha⟩ : ∃ a : Nat, i = a := ⟨i.toNat, by omega⟩
    subst ha
    have p1 : a ≤ (rOf code).length := by omega
    rcases hvw with ⟨_, h0⟩ | ⟨gA, oA, vc, cellsA, tA, fzA, hvv, ⟨hcA1, hcA2⟩, hFA, hgA, hrA⟩
    · rw [h0] at p2; simp at p2
    rw [p2] at hvv
    obtain ⟨i0, hi0, hiK, z, hiz, hzK, hiB⟩ : ∃ i0, Tryd.prog.info? 31 = some i0 ∧ i0.size = 4 ∧ ∃ z, i0.zero = some z ∧ z.cells.size = 4 ∧ i0.bytes ≤ 131072 := ⟨_, rfl, by kernel_rfl, _, rfl, by kernel_rfl, by decide +kernel⟩
    have hshl : k_bins.sh.length = 4 := rfl
    have hnone : ∀ row ∈ rOf r, RowOk k_bins.sh row := hrA.1
    have hnl : (flatV k_bins.sh (rOf r)).length = 4 := by rw [flatV_len hnone, p2, hshl, Nat.one_mul]
    have hone : ∀ (rows : List (List Int)), ∀ u ∈ flatV k_bins.sh rows, u.oneCell' = true := fun _ => flatV_one
    have hltA : gA < w.heap.size := (Array.getElem?_eq_some_iff.1 hgA).1
    have hAc : cellsA.size ≠ 0 := by
      obtain ⟨_, pre, post, h2, _⟩ := hrA
      have := congrArg List.length h2
      simp only [List.length_append, hnl, Array.length_toList] at this
      omega
    have hsrc : ∀ w1 : World, w1.heap[gA]? = w.heap[gA]? → ∀ j u, (flatV k_bins.sh (rOf r))[j]? = some u → w1.cell? ((⟨gA, oA, none⟩ : Addr).add j) = some u := fun w1 h1 j u hu => by
      rw [Addr.add_lit]
      have := hrA.flat hu
      simp only [World.cell?, h1, hgA, Option.isSome_none, Bool.false_eq_true, if_false]
      exact this
    have hsrcS : ∀ w1 : World, w1.heap[gA]? = w.heap[gA]? → Src Tryd.prog i0.size 24 (.slice (some ⟨gA, oA, none⟩) 1 vc) 1 (flatV k_bins.sh (rOf r)) w1 := fun w1 h1 =>
      Src.ofSlice w1 Tryd.underlying24 ⟨gA, oA, none⟩ 1 vc _ (by rw [hnl, hiK]) (hsrc w1 h1) (hone _)
    -- what is to be shown at the end
    have fin : ∀ (w' : World) (G C : Nat) (cells : Array Value) (post : List Value), SlNew w w' (ownOf v0) → (∀ row ∈ rOf code, RowOk k_bins.sh row) → w'.heap[G]? = some (.cells cells 31 (0, 0)) → cells.toList = flatV k_bins.sh ((rOf code).take a) ++ flatV k_bins.sh (rOf r) ++ flatV k_bins.sh ((rOf code).drop a) ++ post → cells.size = C * 4 →
        (rOf code).length + 1 ≤ C → (C : Int) ≤ 9223372036854775807 → (ownOf v0 = some G ∨ w.heap.size ≤ G) →
        SlNew w w' (ownOf v0) ∧ ∃ code' v', (0 ≤ code' ∧ code' ≤ RB) ∧ flatS sh SB k_bins.id (code :: [(a : Int), r]) [code'] ∧ SlOw (fun g => ownOf v0 = some g ∨ w.heap.size ≤ g) w' k_bins.sh k_bins.e (rOf code') v' ∧ Ending.returned (.slice (some ⟨G, 0, none⟩) ((rOf code).length + 1) C) = .returned v' := by
      intro w' G C cells post hnew hok hG hcells hsz hC1 hC2 hown
      have hall : ∀ row ∈ (rOf code).take a ++ rOf r ++ (rOf code).drop a, RowOk k_bins.sh row := fun row hr => by
        rcases List.mem_append.1 hr with hr | hr
        · rcases List.mem_append.1 hr with hr | hr
          · exact hok row (List.mem_of_mem_take hr)
          · exact hnone row hr
        · exact hok row (List.mem_of_mem_drop hr)
      have hlen' : ((rOf code).take a ++ rOf r ++ (rOf code).drop a).length = (rOf code).length + 1 := by
        rw [List.length_append, List.length_append, List.length_take, List.length_drop, p2, Nat.min_eq_left p1]; omega
      refine ⟨hnew, rc ((rOf code).take a ++ rOf r ++ (rOf code).drop a), _, ⟨rc_nonneg _, RB_rows (by kernel_rfl) (by rw [hlen']; omega) hall⟩, ?_, Or.inr ⟨G, C, cells, ?_, ⟨?_, hC2⟩, hown, hG, ⟨?_, [], post, ?_, rfl⟩, hsz⟩, rfl⟩
      · show rOf (rc _) = (rOf code).take ((a : Int)).toNat ++ rOf r ++ (rOf code).drop ((a : Int)).toNat
        rw [rOf_rc]; rfl
      · rw [rOf_rc, hlen']
      · rw [rOf_rc, hlen']; exact hC1
      · rw [rOf_rc]; exact hall
      · rw [rOf_rc, hcells, List.nil_append, flatV_append, flatV_append]
    rw [hvi, hvv]
    rcases ho with ⟨hv0, h0⟩ | ⟨g, cap, cells, hv0, ⟨hcap1, hcap2⟩, hwb, hg, hrows, hsz⟩
    · -- nothing there
      have ha0 : a = 0 := by rw [h0] at p1; simpa using p1
      subst ha0
      have hC := grown_le w (0 + 1) 0 31 (by omega)
      have happ : ∀ ty, (Builtin.append_ #[24, 24] ty #[.slice none 0 0, .slice (some ⟨gA, oA, none⟩) 1 vc]).run Tryd.prog w = _ := fun ty =>
        run_append_grow_src w 24 24 ty 31 i0 z Tryd.underlying24 hi0 hiz none 0 0 [] (firstCells_zero _ _ _ _) _ 1 _ (hsrcS w rfl) (by omega) (by omega) (growslice_fits (by omega) (by omega))
      rw [hv0]
      refine (Tryd.insert_nil ⟨gA, oA, none⟩ vc _ w _ happ).mono ?_
      rintro e w' ⟨rfl, rfl⟩
      have hC1 := hC.1
      have := fin _ w.heap.size (grownCap w (0 + 1) 0 31) (([] ++ flatV k_bins.sh (rOf r)).toArray ++ Builtin.zeroCells z.cells (grownCap w (0 + 1) 0 31 - (0 + 1))) (Builtin.zeroCells z.cells (grownCap w (0 + 1) 0 31 - (0 + 1))).toList (slNew_alloc w _ _) (by rw [h0]; intro _ h; cases h) (heap_alloc_new w.drew _) (by rw [h0]; simp [flatV]) (by
        simp only [Array.size_append, List.size_toArray, List.nil_append, hnl, zeroCells_size, hzK]; omega) (by rw [h0]; exact hC.1) (by omega) (.inr (Nat.le_refl _))
      rw [h0] at this
      rw [← hv0]; exact this
    · rw [hshl] at hsz
      obtain ⟨hok, pre, rest, hcells, hpre0⟩ := hrows
      have hpre0 : pre = [] := List.eq_nil_of_length_eq_zero hpre0
      subst hpre0
      rw [List.nil_append] at hcells
      obtain ⟨n, hn⟩ : ∃ n, (rOf code).length = n := ⟨_, rfl⟩
      rw [hn] at p1 p3 hcap1 hv0 fin
      have hsplit : flatV k_bins.sh (rOf code) = flatV k_bins.sh ((rOf code).take a) ++ flatV k_bins.sh ((rOf code).drop a) := by rw [← flatV_append, List.take_append_drop]
      have hl1 : (flatV k_bins.sh ((rOf code).take a)).length = a * 4 := by rw [flatV_len fun r h => hok r (List.mem_of_mem_take h), List.length_take, Nat.min_eq_left (by omega), hshl]
      have hl2 : (flatV k_bins.sh ((rOf code).drop a)).length = (n - a) * 4 := by rw [flatV_len fun r h => hok r (List.mem_of_mem_drop h), List.length_drop, hn, hshl]
      have hl0 : (flatV k_bins.sh (rOf code)).length = n * 4 := by rw [flatV_len hok, hn, hshl]
      have hcl : cells.toList.length = cap * 4 := by rw [Array.length_toList]; exact hsz
      have hne : gA ≠ g ∨ cap = 0 := by
        rcases Nat.eq_zero_or_pos cap with h | h
        · exact .inr h
        · refine .inl fun e => ?_
          obtain ⟨c', rfl⟩ : ∃ c', cap = c' + 1 := ⟨cap - 1, by omega⟩
          refine hF gA hFA ?_
          rw [hv0, e]; rfl
      have hown : cap ≠ 0 → ownOf v0 = some g := fun h => by
        obtain ⟨c', rfl⟩ : ∃ c', cap = c' + 1 := ⟨cap - 1, by omega⟩
        rw [hv0]; rfl
      have hlt : g < w.heap.size := (Array.getElem?_eq_some_iff.1 hg).1
      -- the cells of the rows
      have hcell : ∀ (w1 : World) (o : Nat) (l : List Value) (pre post : List Value), w1.heap[g]? = w.heap[g]? → cells.toList = pre ++ l ++ post → pre.length = o → ∀ j u, l[j]? = some u → w1.cell? ((⟨g, o, none⟩ : Addr).add j) = some u := fun w1 o l pre post h1 h2 h3 j u hu => by
        rw [Addr.add_lit]
        simp only [World.cell?, h1, hg, Option.isSome_none, Bool.false_eq_true, if_false]
        have hlt := (List.getElem?_eq_some_iff.1 hu).1
        rw [← Array.getElem?_toList, h2, List.append_assoc, List.getElem?_append_right (by omega), List.getElem?_append_left (by omega), ← h3]
        rw [show pre.length + j - pre.length = j by omega]; exact hu
      by_cases han : a = n
      · -- at the end
        subst han
        have hd0 : (rOf code).drop a = [] := List.drop_of_length_le (by omega)
        have ht0 : (rOf code).take a = rOf code := List.take_of_length_le (by omega)
        by_cases hroom : a + 1 ≤ cap
        · have happ : ∀ ty, (Builtin.append_ #[24, 24] ty #[.slice (some ⟨g, 0, none⟩) a cap, .slice (some ⟨gA, oA, none⟩) 1 vc]).run Tryd.prog w = _ := fun ty =>
            run_append_room_row (P := Tryd.prog) w 24 24 ty 31 i0 Tryd.underlying24 hi0 g a cap cells 31 hg _ 1 _ (hsrcS w rfl) hroom (by rw [hiK, hnl, hsz]; omega)
          rw [hv0]
          refine (Tryd.insert_end g a cap ⟨gA, oA, none⟩ vc _ w _ (by omega) (by omega) happ).mono ?_
          rintro e w' ⟨rfl, rfl⟩
          rw [← hv0]
          refine fin _ g cap _ (cells.toList.drop (a * 4 + 4)) (by rw [hown (by omega)]; exact slNew_row w g _) hok (setRow_heap w g _ _ _ _ hg) ?_ ?_ hroom hcap2 (.inl (hown (by omega)))
          · rw [hd0, ht0, hiK, hnl]
            simp only [hcells]
            rw [List.take_append_of_le_length (by omega), List.take_of_length_le (by omega)]
            simp [flatV]
          · simp only [List.size_toArray, List.length_append, List.length_take, List.length_drop, hcl, hnl, hiK]
            omega
        · have hC := grown_le w (a + 1) cap 31 (by omega)
          have happ : ∀ ty, (Builtin.append_ #[24, 24] ty #[.slice (some ⟨g, 0, none⟩) a cap, .slice (some ⟨gA, oA, none⟩) 1 vc]).run Tryd.prog w = _ := fun ty =>
            run_append_grow_src w 24 24 ty 31 i0 z Tryd.underlying24 hi0 hiz (some ⟨g, 0, none⟩) a cap (flatV k_bins.sh (rOf code)) (run_firstCells_some w.drew i0.size a ⟨g, 0, none⟩ a cap _ (by rw [hl0, hiK]) (hcell w.drew 0 _ [] rest rfl (by rw [hcells]; rfl) rfl)) _ 1 _ (hsrcS w rfl) (by omega) (by omega) (growslice_fits (by omega) (by
              have := Nat.mul_le_mul (show a + 1 ≤ 1073741824 by omega) hiB
              omega))
          rw [hv0]
          refine (Tryd.insert_end g a cap ⟨gA, oA, none⟩ vc _ w _ (by omega) (by omega) happ).mono ?_
          rintro e w' ⟨rfl, rfl⟩
          rw [← hv0]
          refine fin _ w.heap.size (grownCap w (a + 1) cap 31) _ (Builtin.zeroCells z.cells (grownCap w (a + 1) cap 31 - (a + 1))).toList (slNew_alloc w _ _) hok (heap_alloc_new w.drew _) ?_ ?_ hC.1 (by omega) (.inr (Nat.le_refl _))
          · rw [hd0, ht0]; simp [flatV]
          · simp only [Array.size_append, List.size_toArray, List.length_append, hl0, hnl, zeroCells_size, hzK]
            have := hC.1
            omega
      · have han : a < n := by omega
        have hcap0 : cap ≠ 0 := by omega
        have hne : gA ≠ g := hne.resolve_right hcap0
        have hown := hown hcap0
        by_cases hroom : n + 1 ≤ cap
        · -- room
          have hlr : rest.length = (cap - n) * 4 := by
            have := congrArg List.length hcells
            simp only [List.length_append, hl0, hcl] at this
            rw [Nat.sub_mul]; omega
          have hcs : cells.toList = flatV k_bins.sh ((rOf code).take a) ++ flatV k_bins.sh ((rOf code).drop a) ++ rest := by rw [hcells, hsplit]
          have hcp1 : ∀ ty, (Builtin.copy_ #[24, 24] ty #[.slice (some ⟨g, (a + 1) * 4, none⟩) (n + 1 - (a + 1)) (cap - (a + 1)), .slice (some ⟨g, a * 4, none⟩) (n + 1 - a) (cap - a)]).run Tryd.prog w.drew = _ := fun ty =>
            run_copy_rows w.drew 24 24 ty 31 i0 Tryd.underlying24 hi0 g ((a + 1) * 4) (n + 1 - (a + 1)) (cap - (a + 1)) ⟨g, a * 4, none⟩ (n + 1 - a) (cap - a) cells 31 (flatV k_bins.sh ((rOf code).drop a)) hg
              (by rw [hl2, hiK, show Nat.min (n + 1 - a) (n + 1 - (a + 1)) = n - a by show min _ _ = _; omega]) (hcell w.drew (a * 4) _ (flatV k_bins.sh ((rOf code).take a)) rest rfl hcs hl1) (by rw [hl2, hsz]; omega) (hone _)
          obtain ⟨c1, hc1⟩ : ∃ c1, c1 = (cells.toList.take ((a + 1) * 4) ++ flatV k_bins.sh ((rOf code).drop a) ++ cells.toList.drop ((a + 1) * 4 + (flatV k_bins.sh ((rOf code).drop a)).length)).toArray := ⟨_, rfl⟩
          rw [← hc1] at hcp1
          have hg1 : (w.drew.setRow g c1).heap[g]? = some (.cells c1 31 (0, 0)) := setRow_heap w.drew g _ _ _ _ hg
          have hc1s : c1.size = cap * 4 := by
            rw [hc1]; simp only [List.size_toArray, List.length_append, List.length_take, List.length_drop, hcl, hl2]; omega
          have hcp2 : ∀ ty, (Builtin.copy_ #[24, 24] ty #[.slice (some ⟨g, a * 4, none⟩) (n + 1 - a) (cap - a), .slice (some ⟨gA, oA, none⟩) 1 vc]).run Tryd.prog (w.drew.setRow g c1) = _ := fun ty =>
            run_copy_rows (w.drew.setRow g c1) 24 24 ty 31 i0 Tryd.underlying24 hi0 g (a * 4) (n + 1 - a) (cap - a) ⟨gA, oA, none⟩ 1 vc c1 31 (flatV k_bins.sh (rOf r)) hg1
              (by rw [hnl, hiK, show Nat.min 1 (n + 1 - a) = 1 by show min _ _ = _; omega]) (hsrc _ (setRow_other w.drew g gA c1 hne)) (by rw [hnl, hc1s]; omega) (hone _)
          have hov : (callFunc 22 #[.slice (some ⟨gA, oA, none⟩) 1 vc, .slice (some ⟨g, (a + 1) * 4, none⟩) (n - a) (cap - (a + 1))]).run Tryd.prog w = .ok (.value (.bool false)) w := by
            rw [run_callFunc_extern Tryd.func22 (by kernel_rfl) (by kernel_rfl) (by kernel_rfl) (e := Extern.SlicesOverlaps.overlaps #[24, 24] #[4]) (by kernel_rfl)]
            rw [run_overlaps_own w 24 4 31 Tryd.underlying24 i0.size (fun w => by simp [Go.sizeOf, typeInfo, hi0]) ⟨gA, oA, none⟩ ⟨g, (a + 1) * 4, none⟩ 1 vc (n - a) (cap - (a + 1)) hne cellsA cells tA 31 fzA hgA hg hAc]
            rfl
          rw [hv0]
          refine (Tryd.insert_room g n cap a ⟨gA, oA, none⟩ vc _ _ w _ _ han hroom (by omega) hov hcp1 hcp2).mono ?_
          rintro e w' ⟨rfl, rfl⟩
          rw [← hv0]
          refine fin _ g cap _ (cells.toList.drop ((a + 1) * 4 + (flatV k_bins.sh ((rOf code).drop a)).length)) (by rw [hown]; exact SlNew.trans1 (w := w) (w1 := w.drew.setRow g c1) (slNew_row w.drew g c1) (slNew_row _ g _) (.inl rfl)) hok (setRow_heap _ g _ _ _ _ hg1) ?_ ?_ hroom hcap2 (.inl hown)
          · simp only [hnl]
            rw [hc1]
            exact room_lists hcs hl1 (by simp only [hcl]; omega) rfl (by rw [Nat.succ_mul])
          · simp only [List.size_toArray, List.length_append, List.length_take, List.length_drop, Array.length_toList, hc1s, hnl]
            have : (a + 1) * 4 ≤ cap * 4 := Nat.mul_le_mul_right _ (by omega)
            omega
        · -- no room
          have hka : a + (n + 1 - a) = n + 1 := by omega
          have hki : ((n : Int) + 1 - (a : Int)) = ((n + 1 - a : Nat) : Int) := by omega
          have hC := grown_le w (n + 1) cap 31 (by omega)
          have happ0 := fun ty => Lib.run_append_grow_zeros (P := Tryd.prog) w 24 3 ty 31 i0 z .i64 .i64 Tryd.underlying24 Tryd.underlying3 hi0 hiz (some ⟨g, 0, none⟩) a cap (flatV k_bins.sh ((rOf code).take a))
            (run_firstCells_some w.drew i0.size a ⟨g, 0, none⟩ a cap _ (by rw [hl1, hiK]) (hcell w.drew 0 _ [] (flatV k_bins.sh ((rOf code).drop a) ++ rest) rfl (by rw [hcells, hsplit, List.nil_append, List.append_assoc]) rfl)) (n + 1 - a) (by omega) (by rw [hiK]; decide) (by omega) (by omega)
            (by
              have := Nat.mul_le_mul (show n + 1 - a ≤ 1073741824 by omega) hiB
              omega)
            (growslice_fits (by omega) (by
              have := Nat.mul_le_mul (show a + (n + 1 - a) ≤ 1073741824 by omega) hiB
              omega))
          rw [hka] at happ0
          obtain ⟨C, hCe⟩ : ∃ C, C = grownCap w (n + 1) cap 31 := ⟨_, rfl⟩
          rw [← hCe] at happ0 hC
          obtain ⟨c0, hc0⟩ : ∃ c0 : Array Value, c0 = (flatV k_bins.sh ((rOf code).take a)).toArray ++ Builtin.zeroCells z.cells (n + 1 - a) ++ Builtin.zeroCells z.cells (C - (n + 1)) := ⟨_, rfl⟩
          rw [← hc0, ← hki] at happ0
          have hc0s : c0.size = C * 4 := by
            rw [hc0]; simp only [Array.size_append, List.size_toArray, hl1, zeroCells_size, hzK]; omega
          have hc0t : c0.toList.take (a * 4) = flatV k_bins.sh ((rOf code).take a) := by
            rw [hc0, Array.toList_append, Array.toList_append, List.append_assoc, List.take_append_of_le_length (by simp only [hl1]; omega), List.take_of_length_le (by simp only [hl1]; omega)]
          have hG0 : (w.drew.alloc (.cells c0 31)).heap[w.heap.size]? = some (.cells c0 31 (0, 0)) := heap_alloc_new w.drew _
          have hold : ∀ k : Nat, k < w.heap.size → (w.drew.alloc (.cells c0 31)).heap[k]? = w.heap[k]? := fun k hk => ((World.Extends.refl w.drew).alloc _).block k hk
          have hcp1 : ∀ ty, (Builtin.copy_ #[24, 24] ty #[.slice (some ⟨w.heap.size, a * 4, none⟩) (n + 1 - a) (C - a), .slice (some ⟨gA, oA, none⟩) 1 vc]).run Tryd.prog (w.drew.alloc (.cells c0 31)) = _ := fun ty =>
            run_copy_rows _ 24 24 ty 31 i0 Tryd.underlying24 hi0 w.heap.size (a * 4) (n + 1 - a) (C - a) ⟨gA, oA, none⟩ 1 vc c0 31 (flatV k_bins.sh (rOf r)) hG0
              (by rw [hnl, hiK, show Nat.min 1 (n + 1 - a) = 1 by show min _ _ = _; omega]) (hsrc _ (hold gA hltA)) (by rw [hnl, hc0s]; omega) (hone _)
          obtain ⟨c1, hc1⟩ : ∃ c1, c1 = (c0.toList.take (a * 4) ++ flatV k_bins.sh (rOf r) ++ c0.toList.drop (a * 4 + (flatV k_bins.sh (rOf r)).length)).toArray := ⟨_, rfl⟩
          rw [← hc1] at hcp1
          have hc1s : c1.size = C * 4 := by
            rw [hc1]; simp only [List.size_toArray, List.length_append, List.length_take, List.length_drop, Array.length_toList, hc0s, hnl]; omega
          obtain ⟨W2, hW2⟩ : ∃ W2, W2 = (w.drew.alloc (.cells c0 31)).setRow w.heap.size c1 := ⟨_, rfl⟩
          have hG1 : W2.heap[w.heap.size]? = some (.cells c1 31 (0, 0)) := by rw [hW2]; exact setRow_heap _ _ _ _ _ _ hG0
          have hold2 : W2.drew.heap[g]? = w.heap[g]? := by
            rw [hW2]
            show ((w.drew.alloc (.cells c0 31)).setRow w.heap.size c1).heap[g]? = _
            rw [setRow_other _ _ _ _ (by omega), hold g hlt]
          have hcp2 : ∀ ty, (Builtin.copy_ #[24, 24] ty #[.slice (some ⟨w.heap.size, (a + 1) * 4, none⟩) (n + 1 - (a + 1)) (C - (a + 1)), .slice (some ⟨g, a * 4, none⟩) (n - a) (cap - a)]).run Tryd.prog W2.drew = _ := fun ty =>
            run_copy_rows W2.drew 24 24 ty 31 i0 Tryd.underlying24 hi0 w.heap.size ((a + 1) * 4) (n + 1 - (a + 1)) (C - (a + 1)) ⟨g, a * 4, none⟩ (n - a) (cap - a) c1 31 (flatV k_bins.sh ((rOf code).drop a)) hG1
              (by rw [hl2, hiK, show Nat.min (n - a) (n + 1 - (a + 1)) = n - a by show min _ _ = _; omega]) (hcell W2.drew (a * 4) _ (flatV k_bins.sh ((rOf code).take a)) rest hold2 (by rw [hcells, hsplit]) hl1) (by rw [hl2, hc1s]; omega) (hone _)
          rw [← hW2] at hcp1
          rw [hv0]
          refine (Tryd.insert_grow g n cap a w.heap.size C ⟨gA, oA, none⟩ vc _ _ w _ W2 _ han hcap1 (by omega) hC.1 (by omega) happ0 hcp1 hcp2).mono ?_
          rintro e w' ⟨rfl, rfl⟩
          rw [← hv0]
          refine fin _ w.heap.size C _ (c1.toList.drop ((a + 1) * 4 + (flatV k_bins.sh ((rOf code).drop a)).length)) ?_ hok (setRow_heap _ _ _ _ _ _ hG1) ?_ ?_ hC.1 (by omega) (.inr (Nat.le_refl _))
          · rw [hW2]
            have s1 := SlNew.trans1 (slNew_alloc w (.cells c0 31) (ownOf v0)) (slNew_row _ w.heap.size c1) (.inr (Nat.le_refl _))
            exact SlNew.trans1 (SlNew.drew1 s1) (slNew_row _ w.heap.size _) (.inr (Nat.le_refl _))
          · simp only
            rw [hc1, hnl]
            simp only
            rw [hc0t, Nat.succ_mul]
            exact grow_lists hl1 hnl
          · simp only [List.size_toArray, List.length_append, List.length_take, List.length_drop, Array.length_toList, hc1s, hl2]
            have : (a + 1) * 4 + (n - a) * 4 ≤ C * 4 := by rw [← Nat.add_mul]; exact Nat.mul_le_mul_right _ (by omega)
            omega
end Go.Ad

/- The rows of this seat: what the listed variables give, and a world that meets it. -/
set_option maxRecDepth 100000
namespace Go.Proofs.YtpffjcablmkiiaaDoor
open Go Go.Rx Go.Ad Go.ChangeShapes Go.RowKit
theorem own : ownKnob Tryd.prog.godebug = none := by kernel_rfl
theorem lo_b : laidOutB Tryd.prog = true := by kernel_rfl
def laid : List (String × DataW Unit) := [("unicode/utf8.acceptRanges", Rows.laid_unicode_utf8_acceptRanges), ("unicode/utf8.first", Rows.laid_unicode_utf8_first)]
theorem gl_ok (W : World) : GOk [] ⟨W, W, fun _ => False, fun _ => False⟩ := fun g cs hm => by cases hm
theorem laid_plain : (laid.filter fun x => x.2.handleName?.isNone) = laid := by kernel_rfl
theorem door_met (os : Os) (args : Array Value) : laidMetH Tryd.prog laid ((World.laidAll Tryd.prog os laid).forCall (fun _ _ => 0) ⟨#[], args, []⟩).memory :=
  laidMetH_of_parts3 (fuel := 8) (by rw [laid_plain]; exact laidMet_laidAll args (by kernel_rfl) (by kernel_rfl)) (by kernel_rfl) (by kernel_rfl)
theorem ty_str : BTy Tryd.prog 9 (.d (.str)) := Tryd.underlying9
theorem ty_lbb : BTy Tryd.prog 24 (.rd [.str, .str, .str, .int .i64 (-9223372036854775808) 9223372036854775807]) := ⟨31, Tryd.underlying24, by kernel_rfl, by kernel_rfl, by decide⟩
theorem ty_lact : BTy Tryd.prog 22 (.rd [.bool, .int .u8 0 255, .int .u8 0 255]) := ⟨27, Tryd.underlying22, by kernel_rfl, by kernel_rfl, by decide⟩
theorem cell0 {W : World} (h : W.ShapedOpen Tryd.prog) : ∃ m, W.cell? ⟨0, 0, none⟩ = some (.int .i64 m) :=
  cell_of_shapedOpen_int (zero := #[.int .i64 0]) (t := 3) h (of_decide_eq_true (by kernel_rfl)) (by kernel_rfl) rfl (by kernel_rfl) (by kernel_rfl) Tryd.underlying3
theorem heap0 {W : World} {m : Int} (h : W.cell? ⟨0, 0, none⟩ = some (.int .i64 m)) : 0 < W.heap.size := by
  rcases Nat.lt_or_ge 0 W.heap.size with h0 | h0
  · exact h0
  · have : W.heap[(0 : Nat)]? = none := Array.getElem?_eq_none h0
    simp [World.cell?, this] at h
theorem one_of {id : Nat} (hid : id = 312) (a : List (List Int)) (z : Int) (h : SB id a [[z]]) : z = 1 := by
  subst hid
  all_goals
    match a, h with
    | [], h => first | exact h | exact h.elim
    | [_], h => first | exact h | exact h.elim
    | [_, _], h => first | exact h | exact h.elim
    | [_, _, _], h => first | exact h | exact h.elim
    | _ :: _ :: _ :: _ :: _, h => exact h.elim
/-- What all laws lean on, at a world. -/
structure AllOk (W : World) : Prop where
  balive_ : OB W k_balive
  bBind_ : OB W k_bBind
  bUnbind_ : OB W k_bUnbind
  bFind_ : OB W k_bFind
  bRight_ : OB W k_bRight
theorem all_ok {W : World} (h : W.ShapedOpen Tryd.prog) : AllOk W := by
  have hg := gl_ok W
  obtain ⟨m, hm⟩ := cell0 h
  have ibs_ : OC W k_ibs := ok_ibs
  have tlb_ : OC W k_tlb := ok_tlb (hg := hg)
  have trb_ : OC W k_trb := ok_trb (hg := hg)
  have tsp_ : OC W k_tsp := ok_tsp (hg := hg) (h_tlb := tlb_) (h_trb := trb_)
  have tdot_ : OC W k_tdot := ok_tdot (hg := hg) (h_tlb := tlb_) (h_trb := trb_)
  have cdot_ : OC W k_cdot := ok_cdot (hg := hg) (h_ibs := ibs_)
  have tdm_ : OC W k_tdm := ok_tdm (hg := hg)
  have cutat_ : OC W k_cutat := ok_cutat (hg := hg) (h_ibs := ibs_)
  have cutcol_ : OC W k_cutcol := ok_cutcol (hg := hg) (h_ibs := ibs_)
  have only_ : OC W k_only := ok_only (hg := hg) (h_ibs := ibs_)
  have ionly_ : OC W k_ionly := ok_ionly (hg := hg) (h_ibs := ibs_)
  have low_ : OC W k_low := ok_low (hg := hg)
  have cdd_ : OQ W q_cdd := ok_cdd ⟨m, hm⟩ (heap0 hm)
  have thost_ : OC W k_thost := ok_thost (hg := hg)
  have tdig_ : OC W k_tdig := ok_tdig (hg := hg)
  have host_ : OC W k_host := ok_host (hg := hg) (h_thost := thost_) (h_tdm := tdm_) (h_ionly := ionly_) (h_cdd := cdd_)
  have server_ : OC W k_server := ok_server (hg := hg) (h_cutcol := cutcol_) (h_host := host_) (h_tdig := tdig_) (h_ionly := ionly_)
  have local_ : OC W k_local := ok_local (hg := hg) (h_only := only_) (h_tdot := tdot_) (h_cdd := cdd_)
  have country_ : OC W k_country := ok_country
  have bare_ : OC W k_bare := ok_bare
  have tpre_ : OC W k_tpre := ok_tpre (hg := hg)
  have email_ : OC W k_email := ok_email (hg := hg) (h_tsp := tsp_) (h_cutat := cutat_) (h_local := local_) (h_cdot := cdot_) (h_server := server_) (h_low := low_) (h_ibs := ibs_)
  have phone_ : OQ W q_phone := ok_phone (hg := hg) (h_country := country_) (h_bare := bare_) (h_tpre := tpre_)
  have make_ : OC W k_make := ok_make (hg := hg) (h_email := email_) (h_phone := phone_)
  have right_ : OC W k_right := ok_right (hg := hg) (h_make := make_)
  have less_ : OC W k_less := ok_less (hg := hg)
  have tus_ : OC W k_tus := ok_tus (hg := hg)
  have user_ : OC W k_user := ok_user (hg := hg) (h_cutcol := cutcol_) (h_tus := tus_) (h_ionly := ionly_) (h_server := server_)
  have bright_ : OC W k_bright := ok_bright (hg := hg) (h_right := right_) (h_user := user_)
  have bcmp_ : OC W k_bcmp := ok_bcmp (hg := hg) (h_less := less_)
  have bplace_ : OB W k_bplace := ok_bplace (hg := hg) (h_bcmp := bcmp_)
  have bRight_ : OB W k_bRight := ok_bRight (hg := hg) (h_bright := bright_) (h_bcmp := bcmp_)
  have bFind_ : OB W k_bFind := ok_bFind (hg := hg) (h_bRight := bRight_) (h_bplace := bplace_)
  have bOf_ : OB W k_bOf := ok_bOf (hg := hg) (h_bRight := bRight_)
  have bins_ : OI W k_bins := ok_bins
  have bdel_ : OI W k_bdel := ok_bdel
  have bBind_ : OB W k_bBind := ok_bBind (hg := hg) (h_bright := bright_) (h_bRight := bRight_) (h_bplace := bplace_) (h_bins := bins_)
  have bUnbind_ : OB W k_bUnbind := ok_bUnbind (hg := hg) (h_bRight := bRight_) (h_bplace := bplace_) (h_bdel := bdel_)
  have balive_ : OB W k_balive := ok_balive (hg := hg) (h_bBind := bBind_) (h_bUnbind := bUnbind_) (h_bFind := bFind_) (h_bOf := bOf_)
  exact ⟨balive_, bBind_, bUnbind_, bFind_, bRight_⟩
end Go.Proofs.YtpffjcablmkiiaaDoor
