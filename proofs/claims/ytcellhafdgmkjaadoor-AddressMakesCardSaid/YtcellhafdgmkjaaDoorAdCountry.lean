/- The address seat: the countries (a map), by a walk. -/
import Derived.Test.YtcellhafdgmkjaaDoorAdV4
import Derived.Test.YtcellhafdgmkjaaDoorAdShelf
import Derived.WalkKit
import Derived.WideMake
import Derived.Laws.ResultCell
import Derived.Laws.Rows
set_option linter.unusedSimpArgs false
namespace Go.Proofs
open Go.RowKit Go.Ad
def ctryR (s : Tx) : Value := match ctry s with | some (c, t) => .tuple #[.agg #[.string ⟨c.toArray⟩, .string ⟨t.toArray⟩], .bool true] | none => .tuple #[.agg #[.string ⟨#[]⟩, .string ⟨#[]⟩], .bool false]
theorem push_set {α : Type} (a : Array α) (x y : α) : (a.push x).setIfInBounds a.size y = a.push y := by
  apply Array.ext'
  simp
theorem ba_ne {s t : ByteArray} (h : ¬ s = t) : (s == t) = false := by
  cases h' : (s == t) with
  | false => rfl
  | true =>
    have h' : (s.data == t.data) = true := h'
    exact absurd (ByteArray.ext (eq_of_beq h')) h
def lookV (z : Value) : Option (Nat × Value) → Value
  | some (_, v) => .tuple #[v, .bool true]
  | none => .tuple #[z, .bool false]
theorem map_put {P : Program} {mty kt et : TypeId} (hm : P.underlying mty = some (.map kt et)) (hk : P.underlying kt = some .string) (W : World) (es : Array MapEntry) (clock : Nat) (s : ByteArray) (v : Value) (hf : Instr.findNow .string (.string s) es.toList 0 = some none) :
    (Instr.mapUpdate mty (.map (some W.heap.size)) (.string s) v).run P (W.alloc (.map es clock)) = .ok () (W.alloc (.map (es.push { key := .string s, val := v, born := clock }) (clock + 1))) := by
  have hb : (W.alloc (.map es clock)).heap[W.heap.size]? = some (.map es clock) := heap_alloc_new W _
  have hc : (Instr.checkKey false 10000 kt (.string s)).run P (W.alloc (.map es clock)) = .ok () (W.alloc (.map es clock)) := MapKept.run_checkKey (k := .string s) hk (by simp [MapKept.IsKey]) false 9999
  simp only [Instr.mapUpdate, Sem.run_bind, run_underlying hm, Result.andThen, MapKept.run_getObj_map hb, Sem.run_pure, hc, MapKept.run_findKey hk hf, MapKept.run_setObj_map _ hb]
  simp only [World.alloc, push_set]
theorem map_look {P : Program} {mty kt et : TypeId} {z : Value} (hm : P.underlying mty = some (.map kt et)) (hk : P.underlying kt = some .string) (hz : ∀ w, (zeroValue et).run P w = .ok z w) (W : World) (es : Array MapEntry) (clock : Nat) (s : ByteArray) (a : Option (Nat × Value)) (hf : Instr.findNow .string (.string s) es.toList 0 = some a) :
    (Instr.lookup mty (.map (some W.heap.size)) (.string s) true).run P (W.alloc (.map es clock)) = .ok (lookV z a) (W.alloc (.map es clock)) := by
  have hb : (W.alloc (.map es clock)).heap[W.heap.size]? = some (.map es clock) := heap_alloc_new W _
  have hc : (Instr.checkKey es.isEmpty 10000 kt (.string s)).run P (W.alloc (.map es clock)) = .ok () (W.alloc (.map es clock)) := MapKept.run_checkKey (k := .string s) hk (by simp [MapKept.IsKey]) _ 9999
  simp only [Instr.lookup, Sem.run_bind, run_underlying hm, Result.andThen, MapKept.run_getObj_map hb, Sem.run_pure, hc, MapKept.run_findKey hk hf]
  cases a with
  | none => simp [hz, lookV]
  | some p => simp [lookV]
theorem ba_eq {s t : ByteArray} : s = t ↔ s.data.toList = t.data.toList := ⟨fun h => by rw [h], fun h => ByteArray.ext (Array.toList_inj.1 h)⟩
def lands : Array MapEntry := #[{ key := Value.string { data := #[] }, val := Value.agg #[Value.string { data := #[] }, Value.string { data := #[] }], born := 0 }, { key := Value.string { data := #[71, 66] }, val := Value.agg #[Value.string { data := #[52, 52] }, Value.string { data := #[48] }], born := 1 }, { key := Value.string { data := #[85, 83] }, val := Value.agg #[Value.string { data := #[49] }, Value.string { data := #[] }], born := 2 }, { key := Value.string { data := #[68, 69] }, val := Value.agg #[Value.string { data := #[52, 57] }, Value.string { data := #[48] }], born := 3 }, { key := Value.string { data := #[70, 82] }, val := Value.agg #[Value.string { data := #[51, 51] }, Value.string { data := #[48] }], born := 4 }, { key := Value.string { data := #[67, 72] }, val := Value.agg #[Value.string { data := #[52, 49] }, Value.string { data := #[48] }], born := 5 }]
theorem lands_find (s : ByteArray) : ∃ a, Instr.findNow .string (.string s) lands.toList 0 = some a ∧ lookV (.agg #[.string ⟨#[]⟩, .string ⟨#[]⟩]) a = ctryR s.data.toList := by
  by_cases h0 : s = { data := #[] }
  · subst h0; exact ⟨_, rfl, rfl⟩
  by_cases h1 : s = { data := #[71, 66] }
  · subst h1; exact ⟨_, rfl, rfl⟩
  by_cases h2 : s = { data := #[85, 83] }
  · subst h2; exact ⟨_, rfl, rfl⟩
  by_cases h3 : s = { data := #[68, 69] }
  · subst h3; exact ⟨_, rfl, rfl⟩
  by_cases h4 : s = { data := #[70, 82] }
  · subst h4; exact ⟨_, rfl, rfl⟩
  by_cases h5 : s = { data := #[67, 72] }
  · subst h5; exact ⟨_, rfl, rfl⟩
  have n : ∀ t : ByteArray, ¬ s = t → (s == t) = false := fun t h => ba_ne h
  refine ⟨none, ?_, ?_⟩
  · simp only [lands, Instr.findNow, Instr.sameNow, n _ h0, n _ h1, n _ h2, n _ h3, n _ h4, n _ h5]
  · have m : ∀ t : Tx, ¬ s = ⟨t.toArray⟩ → (s.data.toList == t) = false := fun t h => by
      cases hh : (s.data.toList == t) with
      | false => rfl
      | true => exact absurd (ba_eq.2 (by rw [beq_iff_eq.1 hh])) h
    unfold ctryR ctry
    rw [m [] h0, m [71, 66] h1, m [85, 83] h2, m [68, 69] h3, m [70, 82] h4, m [67, 72] h5]
    rfl
set_option maxHeartbeats 4000000 in
set_option maxRecDepth 1000000 in
theorem Tryd.country_walk (s : ByteArray) (w : World) :
    Calls Tryd.prog 32 #[.string s] w fun e w' => e = .returned (ctryR s.data.toList) ∧ Below w.heap.size w w' := by
  go_enter Tryd.func32, Tryd.ntmps32
  have hmk : ∀ W : World, (Instr.makeMap 64 none).run Tryd.prog W = .ok (.map (some W.heap.size)) (W.alloc (.map #[] 0)) := fun W => run_makeMap 64 W
  have hp0 : (Instr.mapUpdate 64 (.map (some (w.heap.size + 1))) (.string { data := #[] }) (Value.agg #[Value.string { data := #[] }, Value.string { data := #[] }])).run Tryd.prog ((w.alloc (Obj.cells #[Value.string { data := #[] }, Value.string { data := #[] }] 46)).alloc (.map #[] 0)) = .ok () ((w.alloc (Obj.cells #[Value.string { data := #[] }, Value.string { data := #[] }] 46)).alloc (.map #[{ key := Value.string { data := #[] }, val := Value.agg #[Value.string { data := #[] }, Value.string { data := #[] }], born := 0 }] 1)) := by
    have := map_put Tryd.underlying64 Tryd.underlying9 (w.alloc (Obj.cells #[Value.string { data := #[] }, Value.string { data := #[] }] 46)) #[] 0 { data := #[] } (Value.agg #[Value.string { data := #[] }, Value.string { data := #[] }]) rfl
    simpa using this
  have hp1 : (Instr.mapUpdate 64 (.map (some (w.heap.size + 1))) (.string { data := #[71, 66] }) (Value.agg #[Value.string { data := #[52, 52] }, Value.string { data := #[48] }])).run Tryd.prog ((w.alloc (Obj.cells #[Value.string { data := #[] }, Value.string { data := #[] }] 46)).alloc (.map #[{ key := Value.string { data := #[] }, val := Value.agg #[Value.string { data := #[] }, Value.string { data := #[] }], born := 0 }] 1)) = .ok () ((w.alloc (Obj.cells #[Value.string { data := #[] }, Value.string { data := #[] }] 46)).alloc (.map #[{ key := Value.string { data := #[] }, val := Value.agg #[Value.string { data := #[] }, Value.string { data := #[] }], born := 0 }, { key := Value.string { data := #[71, 66] }, val := Value.agg #[Value.string { data := #[52, 52] }, Value.string { data := #[48] }], born := 1 }] 2)) := by
    have := map_put Tryd.underlying64 Tryd.underlying9 (w.alloc (Obj.cells #[Value.string { data := #[] }, Value.string { data := #[] }] 46)) #[{ key := Value.string { data := #[] }, val := Value.agg #[Value.string { data := #[] }, Value.string { data := #[] }], born := 0 }] 1 { data := #[71, 66] } (Value.agg #[Value.string { data := #[52, 52] }, Value.string { data := #[48] }]) rfl
    simpa using this
  have hp2 : (Instr.mapUpdate 64 (.map (some (w.heap.size + 1))) (.string { data := #[85, 83] }) (Value.agg #[Value.string { data := #[49] }, Value.string { data := #[] }])).run Tryd.prog ((w.alloc (Obj.cells #[Value.string { data := #[] }, Value.string { data := #[] }] 46)).alloc (.map #[{ key := Value.string { data := #[] }, val := Value.agg #[Value.string { data := #[] }, Value.string { data := #[] }], born := 0 }, { key := Value.string { data := #[71, 66] }, val := Value.agg #[Value.string { data := #[52, 52] }, Value.string { data := #[48] }], born := 1 }] 2)) = .ok () ((w.alloc (Obj.cells #[Value.string { data := #[] }, Value.string { data := #[] }] 46)).alloc (.map #[{ key := Value.string { data := #[] }, val := Value.agg #[Value.string { data := #[] }, Value.string { data := #[] }], born := 0 }, { key := Value.string { data := #[71, 66] }, val := Value.agg #[Value.string { data := #[52, 52] }, Value.string { data := #[48] }], born := 1 }, { key := Value.string { data := #[85, 83] }, val := Value.agg #[Value.string { data := #[49] }, Value.string { data := #[] }], born := 2 }] 3)) := by
    have := map_put Tryd.underlying64 Tryd.underlying9 (w.alloc (Obj.cells #[Value.string { data := #[] }, Value.string { data := #[] }] 46)) #[{ key := Value.string { data := #[] }, val := Value.agg #[Value.string { data := #[] }, Value.string { data := #[] }], born := 0 }, { key := Value.string { data := #[71, 66] }, val := Value.agg #[Value.string { data := #[52, 52] }, Value.string { data := #[48] }], born := 1 }] 2 { data := #[85, 83] } (Value.agg #[Value.string { data := #[49] }, Value.string { data := #[] }]) rfl
    simpa using this
  have hp3 : (Instr.mapUpdate 64 (.map (some (w.heap.size + 1))) (.string { data := #[68, 69] }) (Value.agg #[Value.string { data := #[52, 57] }, Value.string { data := #[48] }])).run Tryd.prog ((w.alloc (Obj.cells #[Value.string { data := #[] }, Value.string { data := #[] }] 46)).alloc (.map #[{ key := Value.string { data := #[] }, val := Value.agg #[Value.string { data := #[] }, Value.string { data := #[] }], born := 0 }, { key := Value.string { data := #[71, 66] }, val := Value.agg #[Value.string { data := #[52, 52] }, Value.string { data := #[48] }], born := 1 }, { key := Value.string { data := #[85, 83] }, val := Value.agg #[Value.string { data := #[49] }, Value.string { data := #[] }], born := 2 }] 3)) = .ok () ((w.alloc (Obj.cells #[Value.string { data := #[] }, Value.string { data := #[] }] 46)).alloc (.map #[{ key := Value.string { data := #[] }, val := Value.agg #[Value.string { data := #[] }, Value.string { data := #[] }], born := 0 }, { key := Value.string { data := #[71, 66] }, val := Value.agg #[Value.string { data := #[52, 52] }, Value.string { data := #[48] }], born := 1 }, { key := Value.string { data := #[85, 83] }, val := Value.agg #[Value.string { data := #[49] }, Value.string { data := #[] }], born := 2 }, { key := Value.string { data := #[68, 69] }, val := Value.agg #[Value.string { data := #[52, 57] }, Value.string { data := #[48] }], born := 3 }] 4)) := by
    have := map_put Tryd.underlying64 Tryd.underlying9 (w.alloc (Obj.cells #[Value.string { data := #[] }, Value.string { data := #[] }] 46)) #[{ key := Value.string { data := #[] }, val := Value.agg #[Value.string { data := #[] }, Value.string { data := #[] }], born := 0 }, { key := Value.string { data := #[71, 66] }, val := Value.agg #[Value.string { data := #[52, 52] }, Value.string { data := #[48] }], born := 1 }, { key := Value.string { data := #[85, 83] }, val := Value.agg #[Value.string { data := #[49] }, Value.string { data := #[] }], born := 2 }] 3 { data := #[68, 69] } (Value.agg #[Value.string { data := #[52, 57] }, Value.string { data := #[48] }]) rfl
    simpa using this
  have hp4 : (Instr.mapUpdate 64 (.map (some (w.heap.size + 1))) (.string { data := #[70, 82] }) (Value.agg #[Value.string { data := #[51, 51] }, Value.string { data := #[48] }])).run Tryd.prog ((w.alloc (Obj.cells #[Value.string { data := #[] }, Value.string { data := #[] }] 46)).alloc (.map #[{ key := Value.string { data := #[] }, val := Value.agg #[Value.string { data := #[] }, Value.string { data := #[] }], born := 0 }, { key := Value.string { data := #[71, 66] }, val := Value.agg #[Value.string { data := #[52, 52] }, Value.string { data := #[48] }], born := 1 }, { key := Value.string { data := #[85, 83] }, val := Value.agg #[Value.string { data := #[49] }, Value.string { data := #[] }], born := 2 }, { key := Value.string { data := #[68, 69] }, val := Value.agg #[Value.string { data := #[52, 57] }, Value.string { data := #[48] }], born := 3 }] 4)) = .ok () ((w.alloc (Obj.cells #[Value.string { data := #[] }, Value.string { data := #[] }] 46)).alloc (.map #[{ key := Value.string { data := #[] }, val := Value.agg #[Value.string { data := #[] }, Value.string { data := #[] }], born := 0 }, { key := Value.string { data := #[71, 66] }, val := Value.agg #[Value.string { data := #[52, 52] }, Value.string { data := #[48] }], born := 1 }, { key := Value.string { data := #[85, 83] }, val := Value.agg #[Value.string { data := #[49] }, Value.string { data := #[] }], born := 2 }, { key := Value.string { data := #[68, 69] }, val := Value.agg #[Value.string { data := #[52, 57] }, Value.string { data := #[48] }], born := 3 }, { key := Value.string { data := #[70, 82] }, val := Value.agg #[Value.string { data := #[51, 51] }, Value.string { data := #[48] }], born := 4 }] 5)) := by
    have := map_put Tryd.underlying64 Tryd.underlying9 (w.alloc (Obj.cells #[Value.string { data := #[] }, Value.string { data := #[] }] 46)) #[{ key := Value.string { data := #[] }, val := Value.agg #[Value.string { data := #[] }, Value.string { data := #[] }], born := 0 }, { key := Value.string { data := #[71, 66] }, val := Value.agg #[Value.string { data := #[52, 52] }, Value.string { data := #[48] }], born := 1 }, { key := Value.string { data := #[85, 83] }, val := Value.agg #[Value.string { data := #[49] }, Value.string { data := #[] }], born := 2 }, { key := Value.string { data := #[68, 69] }, val := Value.agg #[Value.string { data := #[52, 57] }, Value.string { data := #[48] }], born := 3 }] 4 { data := #[70, 82] } (Value.agg #[Value.string { data := #[51, 51] }, Value.string { data := #[48] }]) rfl
    simpa using this
  have hp5 : (Instr.mapUpdate 64 (.map (some (w.heap.size + 1))) (.string { data := #[67, 72] }) (Value.agg #[Value.string { data := #[52, 49] }, Value.string { data := #[48] }])).run Tryd.prog ((w.alloc (Obj.cells #[Value.string { data := #[] }, Value.string { data := #[] }] 46)).alloc (.map #[{ key := Value.string { data := #[] }, val := Value.agg #[Value.string { data := #[] }, Value.string { data := #[] }], born := 0 }, { key := Value.string { data := #[71, 66] }, val := Value.agg #[Value.string { data := #[52, 52] }, Value.string { data := #[48] }], born := 1 }, { key := Value.string { data := #[85, 83] }, val := Value.agg #[Value.string { data := #[49] }, Value.string { data := #[] }], born := 2 }, { key := Value.string { data := #[68, 69] }, val := Value.agg #[Value.string { data := #[52, 57] }, Value.string { data := #[48] }], born := 3 }, { key := Value.string { data := #[70, 82] }, val := Value.agg #[Value.string { data := #[51, 51] }, Value.string { data := #[48] }], born := 4 }] 5)) = .ok () ((w.alloc (Obj.cells #[Value.string { data := #[] }, Value.string { data := #[] }] 46)).alloc (.map #[{ key := Value.string { data := #[] }, val := Value.agg #[Value.string { data := #[] }, Value.string { data := #[] }], born := 0 }, { key := Value.string { data := #[71, 66] }, val := Value.agg #[Value.string { data := #[52, 52] }, Value.string { data := #[48] }], born := 1 }, { key := Value.string { data := #[85, 83] }, val := Value.agg #[Value.string { data := #[49] }, Value.string { data := #[] }], born := 2 }, { key := Value.string { data := #[68, 69] }, val := Value.agg #[Value.string { data := #[52, 57] }, Value.string { data := #[48] }], born := 3 }, { key := Value.string { data := #[70, 82] }, val := Value.agg #[Value.string { data := #[51, 51] }, Value.string { data := #[48] }], born := 4 }, { key := Value.string { data := #[67, 72] }, val := Value.agg #[Value.string { data := #[52, 49] }, Value.string { data := #[48] }], born := 5 }] 6)) := by
    have := map_put Tryd.underlying64 Tryd.underlying9 (w.alloc (Obj.cells #[Value.string { data := #[] }, Value.string { data := #[] }] 46)) #[{ key := Value.string { data := #[] }, val := Value.agg #[Value.string { data := #[] }, Value.string { data := #[] }], born := 0 }, { key := Value.string { data := #[71, 66] }, val := Value.agg #[Value.string { data := #[52, 52] }, Value.string { data := #[48] }], born := 1 }, { key := Value.string { data := #[85, 83] }, val := Value.agg #[Value.string { data := #[49] }, Value.string { data := #[] }], born := 2 }, { key := Value.string { data := #[68, 69] }, val := Value.agg #[Value.string { data := #[52, 57] }, Value.string { data := #[48] }], born := 3 }, { key := Value.string { data := #[70, 82] }, val := Value.agg #[Value.string { data := #[51, 51] }, Value.string { data := #[48] }], born := 4 }] 5 { data := #[67, 72] } (Value.agg #[Value.string { data := #[52, 49] }, Value.string { data := #[48] }]) rfl
    simpa using this
  obtain ⟨c, t, ok, hl, hv⟩ : ∃ (c t : ByteArray) (ok : Bool), (Instr.lookup 64 (.map (some (w.heap.size + 1))) (.string s) true).run Tryd.prog ((w.alloc (Obj.cells #[Value.string { data := #[] }, Value.string { data := #[] }] 46)).alloc (.map #[{ key := Value.string { data := #[] }, val := Value.agg #[Value.string { data := #[] }, Value.string { data := #[] }], born := 0 }, { key := Value.string { data := #[71, 66] }, val := Value.agg #[Value.string { data := #[52, 52] }, Value.string { data := #[48] }], born := 1 }, { key := Value.string { data := #[85, 83] }, val := Value.agg #[Value.string { data := #[49] }, Value.string { data := #[] }], born := 2 }, { key := Value.string { data := #[68, 69] }, val := Value.agg #[Value.string { data := #[52, 57] }, Value.string { data := #[48] }], born := 3 }, { key := Value.string { data := #[70, 82] }, val := Value.agg #[Value.string { data := #[51, 51] }, Value.string { data := #[48] }], born := 4 }, { key := Value.string { data := #[67, 72] }, val := Value.agg #[Value.string { data := #[52, 49] }, Value.string { data := #[48] }], born := 5 }] 6)) = .ok (.tuple #[.agg #[.string c, .string t], .bool ok]) ((w.alloc (Obj.cells #[Value.string { data := #[] }, Value.string { data := #[] }] 46)).alloc (.map #[{ key := Value.string { data := #[] }, val := Value.agg #[Value.string { data := #[] }, Value.string { data := #[] }], born := 0 }, { key := Value.string { data := #[71, 66] }, val := Value.agg #[Value.string { data := #[52, 52] }, Value.string { data := #[48] }], born := 1 }, { key := Value.string { data := #[85, 83] }, val := Value.agg #[Value.string { data := #[49] }, Value.string { data := #[] }], born := 2 }, { key := Value.string { data := #[68, 69] }, val := Value.agg #[Value.string { data := #[52, 57] }, Value.string { data := #[48] }], born := 3 }, { key := Value.string { data := #[70, 82] }, val := Value.agg #[Value.string { data := #[51, 51] }, Value.string { data := #[48] }], born := 4 }, { key := Value.string { data := #[67, 72] }, val := Value.agg #[Value.string { data := #[52, 49] }, Value.string { data := #[48] }], born := 5 }] 6)) ∧ Hid (Value.tuple #[.agg #[.string c, .string t], .bool ok] = ctryR s.data.toList) := by
    obtain ⟨a, hf, ha⟩ := lands_find s
    have := map_look (z := .agg #[.string ⟨#[]⟩, .string ⟨#[]⟩]) Tryd.underlying64 Tryd.underlying9 (fun w => Tryd.zeroValue46 w) (w.alloc (Obj.cells #[Value.string { data := #[] }, Value.string { data := #[] }] 46)) lands 6 s a hf
    have hsz : (w.alloc (Obj.cells #[Value.string { data := #[] }, Value.string { data := #[] }] 46)).heap.size = w.heap.size + 1 := by simp
    rw [hsz, ha] at this
    have hr : ∃ (c t : ByteArray) (ok : Bool), ctryR s.data.toList = Value.tuple #[.agg #[.string c, .string t], .bool ok] := by
      unfold ctryR
      cases ctry s.data.toList with
      | none => exact ⟨_, _, _, rfl⟩
      | some p => exact ⟨_, _, _, rfl⟩
    obtain ⟨c, t, ok, hr⟩ := hr
    rw [hr] at this
    exact ⟨c, t, ok, this, hr.symm⟩
  go_wp2
  refine bodyPost_ret (v := .tuple #[.agg #[.string c, .string t], .bool ok]) ?_ rfl ⟨congrArg _ hv, (((Below.refl _ w).alloc (Nat.le_refl _) _).alloc (by simp) _).alloc (by simp; omega) _⟩
  have hg : ∀ o1 o2 : Obj, (((w.alloc (Obj.cells #[Value.string c, Value.string t] 46)).alloc o1).alloc o2).heap[w.heap.size]? = some (.cells #[.string c, .string t] 46 (0, 0)) := fun o1 o2 => by
    rw [Lib.alloc_old _ _ _ (by simp; omega), Lib.alloc_old _ _ _ (by simp), heap_alloc_new]
  have h46 := run_loadVar_row (P := Tryd.prog) (((w.alloc (Obj.cells #[Value.string c, Value.string t] 46)).alloc (.map lands 6)).alloc (Obj.cells #[Value.string c, Value.string t] 46)) w.heap.size 46 46 #[.string c, .string t] (0, 0) _ (hg _ _) Tryd.underlying46 rfl (by kernel_rfl)
  rw [results_cell_tmp rfl]
  show ((loadVar 46 ⟨w.heap.size, 0, none⟩).run Tryd.prog (((w.alloc (Obj.cells #[Value.string c, Value.string t] 46)).alloc (.map lands 6)).alloc (Obj.cells #[Value.string c, Value.string t] 46))).andThen _ = _
  rw [h46]
  rfl
end Go.Proofs
