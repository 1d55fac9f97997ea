/- slices.Delete at a struct,by a walk (rows of an own block). NOT WHOLE YET: see NOTES. -/
import Derived.Test.YtodhngllhbgndaaGreatDoorPah
import Derived.WalkKit
import Derived.OwnWalk
import Derived.KernelRfl
import Derived.Deep.RegionLaw
import Derived.Laws.CopyOwn
import Derived.Lib.Builder
import Derived.Test.YtodhngllhbgndaaGreatDoorProg
import Derived.Test.YtodhngllhbgndaaGreatDoorPal
import Derived.Lib.Overlaps
import Derived.Lib.AppendZerosOnto
import Derived.Test.YtodhngllhbgndaaGreatDoorPag
import Derived.Shelf.Vars
import Derived.Test.YtodhngllhbgndaaGreatDoorRows
import Derived.Test.YtodhngllhbgndaaGreatDoorTie
import Derived.Test.YtodhngllhbgndaaGreatDoorCards
import Derived.SevenTiedAt
import Derived.Lay
set_option linter.unusedSimpArgs false
set_option linter.unusedVariables false
namespace Go.Proofs
open Go.RowKit Go.Rx
section
variable {P : Program}
end
theorem slNew_row (w : World) (g : Nat) (a : Array Value) : SlNew w (w.setRow g a) (some g) :=
 ⟨rfl,rfl,rfl,by simp [World.setRow],fun k hk hne => setRow_other w g k a (fun e => hne (by rw [e]))⟩
end Go.Proofs
set_option linter.unusedVariables false
set_option linter.unusedSimpArgs false
namespace Go.Proofs
open Go.RowKit Go.Rx
section
variable {P : Program}
theorem run_copy_rows (w : World) (dT sT ty e : TypeId) (i : TypeInfo) (hu : P.underlying dT = some (.slice e)) (hi : P.info? e = some i) (g o dLen dCap : Nat) (a : Addr) (sLen sCap : Nat) (cur : Array Value) (t : TypeId) (cs : List Value)
 (hg : w.heap[g]? = some (.cells cur t (0,0))) (hn : cs.length = Nat.min sLen dLen * i.size) (hsrc : ∀ j v,cs[j]? = some v -> w.cell? (a.add j) = some v) (hfit : o + cs.length <= cur.size) (h1 : ∀ v ∈ cs,v.oneCell' = true) :
 (Builtin.copy_ #[dT,sT] ty #[.slice (some ⟨g,o,none⟩) dLen dCap,.slice (some a) sLen sCap]).run P w = .ok (goInt (Nat.min sLen dLen)) (w.setRow g (cur.toList.take o ++ cs ++ cur.toList.drop (o + cs.length)).toArray) := by
 have hst := run_storeCells_at P g o t cs 0 cur w hg (by simpa using hfit) h1
 rw [Nat.add_zero] at hst
 have hf := run_firstCells_some (P := P) w i.size (Nat.min sLen dLen) a sLen sCap cs hn hsrc
 simp [Builtin.copy_,run_underlying hu,Builtin.lenOf,sizeOf,typeInfo,hi,hf,hst]
theorem step_copy_run {ops : Array Oper} {o : Oper} {a : Act} {w : World} {K : Act -> World -> Prop} {Q : Exit -> Act -> World -> Prop} {E : Prop}
 (hg : o.guard = none) (s x : Operand) (t t' : TypeId) (hop : o.op = Op.call { callee := Callee.builtin Builtin.copy,args := #[s,x],argTypes := #[t,t'] }) (u v : Value) (hs : a.eval s = u) (hx : a.eval x = v) {r : Value} {w' : World}
 (hr : (Builtin.copy_ #[t,t'] o.type #[u,v]).run P w = .ok r w') (hK : K (a.put o.dst r) w') : if Region.wanted o (yielded ops a.tmps) = true then Oper.wp P o a w K Q else E := by
 have hw : Region.wanted o (yielded ops a.tmps) = true := by simp [Region.wanted,hg]
 rw [if_pos hw]
 unfold Oper.wp
 simp [execOp,hop,resolve,invoke,builtin,hs,hx,hr,Result.andThen]
 exact hK
theorem wpList_append_runB {w : World} {ops : Array Oper} {rest : List Oper} {o : Oper} {a : Act} {Q : Exit -> Act -> World -> Prop} (hgd : o.guard = none) (s x : Operand) (t t' : TypeId)
 (ho : o.op = .call { callee := .builtin .append,args := #[s,x],argTypes := #[t,t'] }) (u v : Value) (hs : a.eval s = u) (hx : a.eval x = v) {r : Value} {w' : World}
 (hr : (Builtin.append_ #[t,t'] o.type #[u,v]).run P w = .ok r w') (h : wpList P ops Q rest (a.put o.dst r) w') : wpList P ops Q (o :: rest) a w := by
 refine wpList_plain hgd fun K hK => ?_
 unfold Oper.wp
 simp [execOp,ho,resolve,invoke,builtin,hs,hx,hr,Result.andThen]
 exact hK _ _ h
end
set_option maxHeartbeats 4000000 in
set_option maxRecDepth 1000000 in
theorem Tryz.insert_end (g n cap : Nat) (A : Addr) (vc : Nat) (r : Value) (w W1 : World) (hn : n <= cap) (hcap : cap <= 9223372036854775807)
 (happ : ∀ ty,(Builtin.append_ #[22,22] ty #[.slice (some ⟨g,0,none⟩) n cap,.slice (some A) 1 vc]).run Tryz.prog w = .ok r W1) :
 Calls Tryz.prog 29 #[.slice (some ⟨g,0,none⟩) n cap,.int .i64 n,.slice (some A) 1 vc] w fun e w' => e = .returned r /\ w' = W1 := by
 obtain ⟨B,hB⟩ : ∃ B,(if cap = n then some (⟨g,0,none⟩ : Addr) else some ⟨g,n * 10,none⟩) = B := ⟨_,rfl⟩
 go_enter Tryz.func29,Tryz.ntmps29
 go_wp2_with (at_builtin; refine wpList_append_runB rfl (.tmp 23) (.tmp 24) 22 22 rfl _ _ rfl rfl (happ _) ?_)
 go_wp2
 all_goals (go_ret; exact ⟨rfl,rfl⟩)
set_option maxHeartbeats 4000000 in
set_option maxRecDepth 1000000 in
theorem Tryz.insert_nil (A : Addr) (vc : Nat) (r : Value) (w W1 : World)
 (happ : ∀ ty,(Builtin.append_ #[22,22] ty #[.slice none 0 0,.slice (some A) 1 vc]).run Tryz.prog w = .ok r W1) :
 Calls Tryz.prog 29 #[.slice none 0 0,.int .i64 0,.slice (some A) 1 vc] w fun e w' => e = .returned r /\ w' = W1 := by
 go_enter Tryz.func29,Tryz.ntmps29
 go_wp2_with (at_builtin; refine wpList_append_runB rfl (.tmp 23) (.tmp 24) 22 22 rfl _ _ rfl rfl (happ _) ?_)
 go_wp2
 all_goals (go_ret; exact ⟨rfl,rfl⟩)
set_option maxHeartbeats 4000000 in
set_option maxRecDepth 1000000 in
theorem Tryz.insert_grow (g n cap i G C : Nat) (A : Addr) (vc : Nat) (r1 r2 : Value) (w W1 W2 W3 : World) (hin : i < n) (hn : n <= cap) (hroom : cap < n + 1) (hC : n + 1 <= C) (hn2 : n <= 1073741824)
 (happ : ∀ ty,(Builtin.append_ #[22,3] ty #[.slice (some ⟨g,0,none⟩) i cap,.int .i64 ((n : Int) + 1 - (i : Int))]).run Tryz.prog w = .ok (.slice (some ⟨G,0,none⟩) (n + 1) C) W1)
 (hcp1 : ∀ ty,(Builtin.copy_ #[22,22] ty #[.slice (some ⟨G,i * 10,none⟩) (n + 1 - i) (C - i),.slice (some A) 1 vc]).run Tryz.prog W1 = .ok r1 W2)
 (hcp2 : ∀ ty,(Builtin.copy_ #[22,22] ty #[.slice (some ⟨G,(i + 1) * 10,none⟩) (n + 1 - (i + 1)) (C - (i + 1)),.slice (some ⟨g,i * 10,none⟩) (n - i) (cap - i)]).run Tryz.prog W2.drew = .ok r2 W3) :
 Calls Tryz.prog 29 #[.slice (some ⟨g,0,none⟩) n cap,.int .i64 i,.slice (some A) 1 vc] w fun e w' => e = .returned (.slice (some ⟨G,0,none⟩) (n + 1) C) /\ w' = W3 := by
 have f1 : ¬ cap = i := by omega
 have f2 : ¬ C = i := by omega
 have f3 : ¬ C = i + 1 := by omega
 have f4 : i <= cap := by omega
 have f5 : ¬ ((i : Int) = (n : Int)) := by omega
 have f6 : (cap : Int) < (n : Int) + 1 := by omega
 have f7 : i <= C := by omega
 have f8 : i + 1 <= C := by omega
 have f9 : ((i : Int) + 1).toNat = i + 1 := by omega
 have f10 : (0 : Int) <= (i : Int) + 1 := by omega
 have f11 : (i : Int) + 1 <= (n : Int) + 1 := by omega
 have f12 : i <= n := by omega
 have f13 : IntKind.i64.wrap ((i : Int) + 1) = (i : Int) + 1 := by rw [IntKind.wrap_i64]; omega
 go_enter Tryz.func29,Tryz.ntmps29
 go_wp2_with (first
  | (at_builtin; refine wpList_append_runB rfl (.tmp 34) (.tmp 39) 22 3 rfl _ _ rfl rfl (happ _) ?_)
  | (at_builtin; refine wpList_copy_runB rfl (.tmp 43) (.tmp 44) 22 22 rfl _ _ rfl rfl (hcp1 _) ?_))
 go_region_law (refine step_copy_run rfl (.tmp 50) (.tmp 53) 22 22 rfl (.slice (some ⟨G,(i + 1) * 10,none⟩) (n + 1 - (i + 1)) (C - (i + 1))) (.slice (some ⟨g,i * 10,none⟩) (n - i) (cap - i)) (by simp [Act.eval,Act.put]) (by simp [Act.eval,Act.put]) (hcp2 _) ?_)
 go_wp2
 go_ret
 exact ⟨rfl,rfl⟩
set_option maxHeartbeats 4000000 in
set_option maxRecDepth 1000000 in
theorem Tryz.insert_room (g n cap i : Nat) (A : Addr) (vc : Nat) (r1 r2 : Value) (w W1 W2 : World) (hin : i < n) (hn : n + 1 <= cap) (hn2 : n <= 1073741824)
 (hov : (callFunc 45 #[.slice (some A) 1 vc,.slice (some ⟨g,(i + 1) * 10,none⟩) (n - i) (cap - (i + 1))]).run Tryz.prog w = .ok (.value (.bool false)) w)
 (hcp1 : ∀ ty,(Builtin.copy_ #[22,22] ty #[.slice (some ⟨g,(i + 1) * 10,none⟩) (n + 1 - (i + 1)) (cap - (i + 1)),.slice (some ⟨g,i * 10,none⟩) (n + 1 - i) (cap - i)]).run Tryz.prog w.drew = .ok r1 W1)
 (hcp2 : ∀ ty,(Builtin.copy_ #[22,22] ty #[.slice (some ⟨g,i * 10,none⟩) (n + 1 - i) (cap - i),.slice (some A) 1 vc]).run Tryz.prog W1 = .ok r2 W2) :
 Calls Tryz.prog 29 #[.slice (some ⟨g,0,none⟩) n cap,.int .i64 i,.slice (some A) 1 vc] w fun e w' => e = .returned (.slice (some ⟨g,0,none⟩) (n + 1) cap) /\ w' = W2 := by
 have f1 : ¬ cap = i := by omega
 have f3 : ¬ cap = i + 1 := by omega
 have f4 : i <= cap := by omega
 have f5 : ¬ ((i : Int) = (n : Int)) := by omega
 have f6 : ¬ (cap : Int) < (n : Int) + 1 := by omega
 have f8 : i + 1 <= cap := by omega
 have f9 : ((i : Int) + 1).toNat = i + 1 := by omega
 have f10 : (0 : Int) <= (i : Int) + 1 := by omega
 have f11 : (i : Int) + 1 <= (n : Int) + 1 := by omega
 have f12 : i <= n := by omega
 have f13 : IntKind.i64.wrap ((i : Int) + 1) = (i : Int) + 1 := by rw [IntKind.wrap_i64]; omega
 have f14 : ((n : Int) + 1).toNat = n + 1 := by omega
 have f15 : (n : Int) + 1 <= (cap : Int) := by omega
 have f16 : i <= n + 1 := by omega
 have f17 : (i : Int) <= (n : Int) + 1 := by omega
 go_enter Tryz.func29,Tryz.ntmps29
 go_wp2
 go_region_law (refine step_copy_run rfl (.tmp 73) (.tmp 76) 22 22 rfl (.slice (some ⟨g,(i + 1) * 10,none⟩) (n + 1 - (i + 1)) (cap - (i + 1))) (.slice (some ⟨g,i * 10,none⟩) (n + 1 - i) (cap - i)) (by simp [Act.eval,Act.put]) (by simp [Act.eval,Act.put]) (hcp1 _) ?_)
 go_wp2_with (at_builtin; refine wpList_copy_runB rfl (.tmp 80) (.tmp 81) 22 22 rfl _ _ rfl rfl (hcp2 _) ?_)
 go_wp2
 go_ret
 exact ⟨rfl,rfl⟩
end Go.Proofs
set_option linter.unusedVariables false
set_option linter.unusedSimpArgs false
set_option maxRecDepth 100000
namespace Go.Ad
open Go Go.Rx Go.Proofs Go.RowKit
theorem slNew_alloc (w : World) (o : Obj) (own : Option Nat) : SlNew w (w.drew.alloc o) own :=
 have h := (World.Extends.refl w.drew).alloc o
 ⟨h.os,h.tape,h.output,h.size,fun k hk _ => h.block k hk⟩
theorem SlNew.trans1 {w w1 w2 : World} {own : Option Nat} {g : Nat} (h : SlNew w w1 own) (h2 : SlNew w1 w2 (some g)) (hg : own = some g ∨ w.heap.size <= g) : SlNew w w2 own := by
 obtain ⟨a1,a2,a3,a4,a5⟩ := h
 obtain ⟨b1,b2,b3,b4,b5⟩ := h2
 refine ⟨b1.trans a1,b2.trans a2,b3.trans a3,Nat.le_trans a4 b4,fun k hk hne => ?_⟩
 rw [b5 k (Nat.lt_of_lt_of_le hk a4) (fun e => ?_),a5 k hk hne]
 cases e
 rcases hg with hg | hg
 ·exact hne hg
 ·omega
theorem SlNew.drew1 {w w1 : World} {own : Option Nat} (h : SlNew w w1 own) : SlNew w w1.drew own := h
theorem run_overlaps_own {P : Program} (w : World) (tS tR e : TypeId) (ht : P.underlying tS = some (.slice e)) (size : Nat) (hz : ∀ w,(Go.sizeOf e).run P w = .ok size w)
 (a b : Addr) (la ca lb cb : Nat) (hne : a.block ≠ b.block) (cA cB : Array Value) (tA tB : TypeId) (fA : Nat × Nat)
 (hA : w.heap[a.block]? = some (.cells cA tA fA)) (hB : w.heap[b.block]? = some (.cells cB tB (0,0))) (h0 : cA.size ≠ 0) :
 (Extern.SlicesOverlaps.overlaps #[tS,tS] #[tR] #[.slice (some a) la ca,.slice (some b) lb cb]).run P w = .ok (.bool false) w := by
 have hnb : (a.block != b.block) = true := by simpa using hne
 have hnb' : (a.block == b.block) = false := by simpa using hne
 have hsa : w.shape? a.block = some (tA,cA.size) := by unfold World.shape?; rw [hA]
 have hsb : w.shape? b.block = some (tB,cB.size) := by unfold World.shape?; rw [hB]
 have hfb : ∀ o,w.frozen? ⟨b.block,o,none⟩ = false := fun o => by unfold World.frozen?; simp only [hB]; simp
 have hfb' : w.frozen? b = false := by unfold World.frozen?; simp only [hB]; simp
 change Sem.run P (α := Value) (do
  let some t := (#[tS,tS] : Array TypeId)[0]? | stuck "slices.overlaps: no parameter types"
  let .slice elem <- underlying t | stuck "slices.overlaps: slice type expected"
  let size <- Go.sizeOf elem
  match (some a : Option Addr),(some b : Option Addr) with
  | some a,some b =>
   if la = 0 ∨ lb = 0 ∨ size = 0 then pure (Value.bool false)
   else if a.block != b.block && (<- frozen a) && (<- frozen b) then unsupported .addressObserved
   else do
    if a.block != b.block then do
     noView a; noView b
     if <- mayBeOne a b then return Value.bool ((<- choose (.extern "sameAddr.stringBytes" 2)) == 1)
    pure (Value.bool (a.block == b.block && a.off < b.off + lb * size && b.off < a.off + la * size))
  | _,_ => pure (Value.bool false)) w = _
 by_cases hl : la = 0 ∨ lb = 0 ∨ size = 0
 ·simp [run_underlying ht,hz,hl]
 ·obtain ⟨kA,hkA⟩ : ∃ k,cA.size = k + 1 := ⟨cA.size - 1,by omega⟩
  rw [hkA] at hsa
  cases h1 : w.frozen? a <;> cases h2 : w.frozen? ⟨a.block,kA + 1,none⟩ <;> simp [run_underlying ht,hz,hl,hnb,hnb',frozen,noView,viewAt,mayBeOne,stringish,shape,Sem.run,hsa,hsb,hfb,hfb',h1,h2]
theorem room_lists {α : Type} {cells L1 L2 N rest : List α} {x y z : Nat} (h : cells = L1 ++ L2 ++ rest) (h1 : L1.length = x) (hy : z <= cells.length) (hN : N = N) (hz : z = x + y) :
 (cells.take z ++ L2 ++ cells.drop (z + L2.length)).toArray.toList.take x ++ N ++ (cells.take z ++ L2 ++ cells.drop (z + L2.length)).toArray.toList.drop (x + y) = L1 ++ N ++ L2 ++ cells.drop (z + L2.length) := by
 simp only
 have e1 : (cells.take z ++ L2 ++ cells.drop (z + L2.length)).take x = L1 := by
  rw [List.append_assoc,List.take_append_of_le_length (by rw [List.length_take]; omega),List.take_take,Nat.min_eq_left (by omega),h,List.append_assoc,List.take_append_of_le_length (by omega),List.take_of_length_le (by omega)]
 have e2 : (cells.take z ++ L2 ++ cells.drop (z + L2.length)).drop (x + y) = L2 ++ cells.drop (z + L2.length) := by
  rw [List.append_assoc,<- hz]
  have : (cells.take z).length = z := by rw [List.length_take]; omega
  conv => lhs; arg 1; rw [<- this]
  rw [List.drop_left]
 rw [e1,e2]
 simp
theorem grow_lists {α : Type} {L1 L2 N D : List α} {x y : Nat} (h1 : L1.length = x) (hN : N.length = y) :
 (L1 ++ N ++ D).toArray.toList.take (x + y) ++ L2 ++ (L1 ++ N ++ D).toArray.toList.drop (x + y + L2.length) = L1 ++ N ++ L2 ++ (L1 ++ N ++ D).toArray.toList.drop (x + y + L2.length) := by
 congr 2
 simp only
 rw [List.take_append_of_le_length (by rw [List.length_append]; omega),List.take_of_length_le (by rw [List.length_append]; omega)]
theorem ok_sins {wb : World} : k_sins.Ok Tryz.prog wb (flatS sh SB k_sins.id) := by
 refine ⟨fun args w => enters (by kernel_rfl) _ _,fun F w v0 code vs zs hw ho hc hz hpre hat hF => ?_⟩
 match zs,hz,vs,hat with
 | [i,r],hz,[vi,vv],hat =>
  obtain ⟨hvi,hvv,_⟩ := hat
  have hvi : vi = .int .i64 i := hvi
  have hvw : SlAt F w k_sins.sh (rOf r) vv := hvv
  clear hvv
  have hpre : (0 <= i /\ i <= ((rOf code).length : Int)) /\ (rOf r).length = 1 /\ (rOf code).length + 1 <= 1073741824 := hpre
  obtain ⟨⟨p0,p1⟩,p2,p3⟩ := hpre
  obtain ⟨a,ha⟩ : ∃ a : Nat,i = a := ⟨i.toNat,by omega⟩
  subst ha
  have p1 : a <= (rOf code).length := by omega
  rcases hvw with ⟨_,h0⟩ | ⟨gA,oA,vc,cellsA,tA,fzA,hvv,⟨hcA1,hcA2⟩,hFA,hgA,hrA⟩
  ·rw [h0] at p2; simp at p2
  rw [p2] at hvv
  obtain ⟨i0,hi0,hiK,z,hiz,hzK,hiB⟩ : ∃ i0,Tryz.prog.info? 26 = some i0 /\ i0.size = 10 /\ ∃ z,i0.zero = some z /\ z.cells.size = 10 /\ i0.bytes <= 131072 := ⟨_,rfl,by kernel_rfl,_,rfl,by kernel_rfl,by decide +kernel⟩
  have hshl : k_sins.sh.length = 10 := rfl
  have hnone : ∀ row ∈ rOf r,RowOk k_sins.sh row := hrA.1
  have hnl : (flatV k_sins.sh (rOf r)).length = 10 := by rw [flatV_len hnone,p2,hshl,Nat.one_mul]
  have hone : ∀ (rows : List (List Int)),∀ u ∈ flatV k_sins.sh rows,u.oneCell' = true := fun _ => flatV_one
  have hltA : gA < w.heap.size := (Array.getElem?_eq_some_iff.1 hgA).1
  have hAc : cellsA.size ≠ 0 := by
   obtain ⟨_,pre,post,h2,_⟩ := hrA
   have := congrArg List.length h2
   simp only [List.length_append,hnl,Array.length_toList] at this
   omega
  have hsrc : ∀ w1 : World,w1.heap[gA]? = w.heap[gA]? -> ∀ j u,(flatV k_sins.sh (rOf r))[j]? = some u -> w1.cell? ((⟨gA,oA,none⟩ : Addr).add j) = some u := fun w1 h1 j u hu => by
   rw [Addr.add_lit]
   have := hrA.flat hu
   simp only [World.cell?,h1,hgA,Option.isSome_none,Bool.false_eq_true,if_false]
   exact this
  have hsrcS : ∀ w1 : World,w1.heap[gA]? = w.heap[gA]? -> Src Tryz.prog i0.size 22 (.slice (some ⟨gA,oA,none⟩) 1 vc) 1 (flatV k_sins.sh (rOf r)) w1 := fun w1 h1 =>
   Src.ofSlice w1 Tryz.underlying22 ⟨gA,oA,none⟩ 1 vc _ (by rw [hnl,hiK]) (hsrc w1 h1) (hone _)
  have fin : ∀ (w' : World) (G C : Nat) (cells : Array Value) (post : List Value),SlNew w w' (ownOf v0) -> (∀ row ∈ rOf code,RowOk k_sins.sh row) -> w'.heap[G]? = some (.cells cells 26 (0,0)) -> cells.toList = flatV k_sins.sh ((rOf code).take a) ++ flatV k_sins.sh (rOf r) ++ flatV k_sins.sh ((rOf code).drop a) ++ post -> cells.size = C * 10 ->
   (rOf code).length + 1 <= C -> (C : Int) <= 9223372036854775807 -> (ownOf v0 = some G ∨ w.heap.size <= G) ->
   SlNew w w' (ownOf v0) /\ ∃ code' v',(0 <= code' /\ code' <= RB) /\ flatS sh SB k_sins.id (code :: [(a : Int),r]) [code'] /\ SlOw (fun g => ownOf v0 = some g ∨ w.heap.size <= g) w' k_sins.sh k_sins.e (rOf code') v' /\ Ending.returned (.slice (some ⟨G,0,none⟩) ((rOf code).length + 1) C) = .returned v' := by
   intro w' G C cells post hnew hok hG hcells hsz hC1 hC2 hown
   have hall : ∀ row ∈ (rOf code).take a ++ rOf r ++ (rOf code).drop a,RowOk k_sins.sh row := fun row hr => by
    rcases List.mem_append.1 hr with hr | hr
    ·rcases List.mem_append.1 hr with hr | hr
     ·exact hok row (List.mem_of_mem_take hr)
     ·exact hnone row hr
    ·exact hok row (List.mem_of_mem_drop hr)
   have hlen' : ((rOf code).take a ++ rOf r ++ (rOf code).drop a).length = (rOf code).length + 1 := by
    rw [List.length_append,List.length_append,List.length_take,List.length_drop,p2,Nat.min_eq_left p1]; omega
   refine ⟨hnew,rc ((rOf code).take a ++ rOf r ++ (rOf code).drop a),_,⟨rc_nonneg _,RB_rows (by kernel_rfl) (by rw [hlen']; omega) hall⟩,?_,Or.inr ⟨G,C,cells,?_,⟨?_,hC2⟩,hown,hG,⟨?_,[],post,?_,rfl⟩,hsz⟩,rfl⟩
   ·show rOf (rc _) = (rOf code).take ((a : Int)).toNat ++ rOf r ++ (rOf code).drop ((a : Int)).toNat
    rw [rOf_rc]; rfl
   ·rw [rOf_rc,hlen']
   ·rw [rOf_rc,hlen']; exact hC1
   ·rw [rOf_rc]; exact hall
   ·rw [rOf_rc,hcells,List.nil_append,flatV_append,flatV_append]
  rw [hvi,hvv]
  rcases ho with ⟨hv0,h0⟩ | ⟨g,cap,cells,hv0,⟨hcap1,hcap2⟩,hwb,hg,hrows,hsz⟩
  ·
   have ha0 : a = 0 := by rw [h0] at p1; simpa using p1
   subst ha0
   have hC := grown_le w (0 + 1) 0 26 (by omega)
   have happ : ∀ ty,(Builtin.append_ #[22,22] ty #[.slice none 0 0,.slice (some ⟨gA,oA,none⟩) 1 vc]).run Tryz.prog w = _ := fun ty =>
    run_append_grow_src w 22 22 ty 26 i0 z Tryz.underlying22 hi0 hiz none 0 0 [] (firstCells_zero _ _ _ _) _ 1 _ (hsrcS w rfl) (by omega) (by omega) (growslice_fits (by omega) (by omega))
   rw [hv0]
   refine (Tryz.insert_nil ⟨gA,oA,none⟩ vc _ w _ happ).mono ?_
   rintro e w' ⟨rfl,rfl⟩
   have hC1 := hC.1
   have := fin _ w.heap.size (grownCap w (0 + 1) 0 26) (([] ++ flatV k_sins.sh (rOf r)).toArray ++ Builtin.zeroCells z.cells (grownCap w (0 + 1) 0 26 - (0 + 1))) (Builtin.zeroCells z.cells (grownCap w (0 + 1) 0 26 - (0 + 1))).toList (slNew_alloc w _ _) (by rw [h0]; intro _ h; cases h) (heap_alloc_new w.drew _) (by rw [h0]; simp [flatV]) (by
    simp only [Array.size_append,List.size_toArray,List.nil_append,hnl,zeroCells_size,hzK]; omega) (by rw [h0]; exact hC.1) (by omega) (.inr (Nat.le_refl _))
   rw [h0] at this
   rw [<- hv0]; exact this
  ·rw [hshl] at hsz
   obtain ⟨hok,pre,rest,hcells,hpre0⟩ := hrows
   have hpre0 : pre = [] := List.eq_nil_of_length_eq_zero hpre0
   subst hpre0
   rw [List.nil_append] at hcells
   obtain ⟨n,hn⟩ : ∃ n,(rOf code).length = n := ⟨_,rfl⟩
   rw [hn] at p1 p3 hcap1 hv0 fin
   have hsplit : flatV k_sins.sh (rOf code) = flatV k_sins.sh ((rOf code).take a) ++ flatV k_sins.sh ((rOf code).drop a) := by rw [<- flatV_append,List.take_append_drop]
   have hl1 : (flatV k_sins.sh ((rOf code).take a)).length = a * 10 := by rw [flatV_len fun r h => hok r (List.mem_of_mem_take h),List.length_take,Nat.min_eq_left (by omega),hshl]
   have hl2 : (flatV k_sins.sh ((rOf code).drop a)).length = (n - a) * 10 := by rw [flatV_len fun r h => hok r (List.mem_of_mem_drop h),List.length_drop,hn,hshl]
   have hl0 : (flatV k_sins.sh (rOf code)).length = n * 10 := by rw [flatV_len hok,hn,hshl]
   have hcl : cells.toList.length = cap * 10 := by rw [Array.length_toList]; exact hsz
   have hne : gA ≠ g ∨ cap = 0 := by
    rcases Nat.eq_zero_or_pos cap with h | h
    ·exact .inr h
    ·refine .inl fun e => ?_
     obtain ⟨c',rfl⟩ : ∃ c',cap = c' + 1 := ⟨cap - 1,by omega⟩
     refine hF gA hFA ?_
     rw [hv0,e]; rfl
   have hown : cap ≠ 0 -> ownOf v0 = some g := fun h => by
    obtain ⟨c',rfl⟩ : ∃ c',cap = c' + 1 := ⟨cap - 1,by omega⟩
    rw [hv0]; rfl
   have hlt : g < w.heap.size := (Array.getElem?_eq_some_iff.1 hg).1
   have hcell : ∀ (w1 : World) (o : Nat) (l : List Value) (pre post : List Value),w1.heap[g]? = w.heap[g]? -> cells.toList = pre ++ l ++ post -> pre.length = o -> ∀ j u,l[j]? = some u -> w1.cell? ((⟨g,o,none⟩ : Addr).add j) = some u := fun w1 o l pre post h1 h2 h3 j u hu => by
    rw [Addr.add_lit]
    simp only [World.cell?,h1,hg,Option.isSome_none,Bool.false_eq_true,if_false]
    have hlt := (List.getElem?_eq_some_iff.1 hu).1
    rw [<- Array.getElem?_toList,h2,List.append_assoc,List.getElem?_append_right (by omega),List.getElem?_append_left (by omega),<- h3]
    rw [show pre.length + j - pre.length = j by omega]; exact hu
   by_cases han : a = n
   ·
    subst han
    have hd0 : (rOf code).drop a = [] := List.drop_of_length_le (by omega)
    have ht0 : (rOf code).take a = rOf code := List.take_of_length_le (by omega)
    by_cases hroom : a + 1 <= cap
    ·have happ : ∀ ty,(Builtin.append_ #[22,22] ty #[.slice (some ⟨g,0,none⟩) a cap,.slice (some ⟨gA,oA,none⟩) 1 vc]).run Tryz.prog w = _ := fun ty =>
      run_append_room_row (P := Tryz.prog) w 22 22 ty 26 i0 Tryz.underlying22 hi0 g a cap cells 26 hg _ 1 _ (hsrcS w rfl) hroom (by rw [hiK,hnl,hsz]; omega)
     rw [hv0]
     refine (Tryz.insert_end g a cap ⟨gA,oA,none⟩ vc _ w _ (by omega) (by omega) happ).mono ?_
     rintro e w' ⟨rfl,rfl⟩
     rw [<- hv0]
     refine fin _ g cap _ (cells.toList.drop (a * 10 + 10)) (by rw [hown (by omega)]; exact slNew_row w g _) hok (setRow_heap w g _ _ _ _ hg) ?_ ?_ hroom hcap2 (.inl (hown (by omega)))
     ·rw [hd0,ht0,hiK,hnl]
      simp only [hcells]
      rw [List.take_append_of_le_length (by omega),List.take_of_length_le (by omega)]
      simp [flatV]
     ·simp only [List.size_toArray,List.length_append,List.length_take,List.length_drop,hcl,hnl,hiK]
      omega
    ·have hC := grown_le w (a + 1) cap 26 (by omega)
     have happ : ∀ ty,(Builtin.append_ #[22,22] ty #[.slice (some ⟨g,0,none⟩) a cap,.slice (some ⟨gA,oA,none⟩) 1 vc]).run Tryz.prog w = _ := fun ty =>
      run_append_grow_src w 22 22 ty 26 i0 z Tryz.underlying22 hi0 hiz (some ⟨g,0,none⟩) a cap (flatV k_sins.sh (rOf code)) (run_firstCells_some w.drew i0.size a ⟨g,0,none⟩ a cap _ (by rw [hl0,hiK]) (hcell w.drew 0 _ [] rest rfl (by rw [hcells]; rfl) rfl)) _ 1 _ (hsrcS w rfl) (by omega) (by omega) (growslice_fits (by omega) (by
       have := Nat.mul_le_mul (show a + 1 <= 1073741824 by omega) hiB
       omega))
     rw [hv0]
     refine (Tryz.insert_end g a cap ⟨gA,oA,none⟩ vc _ w _ (by omega) (by omega) happ).mono ?_
     rintro e w' ⟨rfl,rfl⟩
     rw [<- hv0]
     refine fin _ w.heap.size (grownCap w (a + 1) cap 26) _ (Builtin.zeroCells z.cells (grownCap w (a + 1) cap 26 - (a + 1))).toList (slNew_alloc w _ _) hok (heap_alloc_new w.drew _) ?_ ?_ hC.1 (by omega) (.inr (Nat.le_refl _))
     ·rw [hd0,ht0]; simp [flatV]
     ·simp only [Array.size_append,List.size_toArray,List.length_append,hl0,hnl,zeroCells_size,hzK]
      have := hC.1
      omega
   ·have han : a < n := by omega
    have hcap0 : cap ≠ 0 := by omega
    have hne : gA ≠ g := hne.resolve_right hcap0
    have hown := hown hcap0
    by_cases hroom : n + 1 <= cap
    ·
     have hlr : rest.length = (cap - n) * 10 := by
      have := congrArg List.length hcells
      simp only [List.length_append,hl0,hcl] at this
      rw [Nat.sub_mul]; omega
     have hcs : cells.toList = flatV k_sins.sh ((rOf code).take a) ++ flatV k_sins.sh ((rOf code).drop a) ++ rest := by rw [hcells,hsplit]
     have hcp1 : ∀ ty,(Builtin.copy_ #[22,22] ty #[.slice (some ⟨g,(a + 1) * 10,none⟩) (n + 1 - (a + 1)) (cap - (a + 1)),.slice (some ⟨g,a * 10,none⟩) (n + 1 - a) (cap - a)]).run Tryz.prog w.drew = _ := fun ty =>
      run_copy_rows w.drew 22 22 ty 26 i0 Tryz.underlying22 hi0 g ((a + 1) * 10) (n + 1 - (a + 1)) (cap - (a + 1)) ⟨g,a * 10,none⟩ (n + 1 - a) (cap - a) cells 26 (flatV k_sins.sh ((rOf code).drop a)) hg
       (by rw [hl2,hiK,show Nat.min (n + 1 - a) (n + 1 - (a + 1)) = n - a by show min _ _ = _; omega]) (hcell w.drew (a * 10) _ (flatV k_sins.sh ((rOf code).take a)) rest rfl hcs hl1) (by rw [hl2,hsz]; omega) (hone _)
     obtain ⟨c1,hc1⟩ : ∃ c1,c1 = (cells.toList.take ((a + 1) * 10) ++ flatV k_sins.sh ((rOf code).drop a) ++ cells.toList.drop ((a + 1) * 10 + (flatV k_sins.sh ((rOf code).drop a)).length)).toArray := ⟨_,rfl⟩
     rw [<- hc1] at hcp1
     have hg1 : (w.drew.setRow g c1).heap[g]? = some (.cells c1 26 (0,0)) := setRow_heap w.drew g _ _ _ _ hg
     have hc1s : c1.size = cap * 10 := by
      rw [hc1]; simp only [List.size_toArray,List.length_append,List.length_take,List.length_drop,hcl,hl2]; omega
     have hcp2 : ∀ ty,(Builtin.copy_ #[22,22] ty #[.slice (some ⟨g,a * 10,none⟩) (n + 1 - a) (cap - a),.slice (some ⟨gA,oA,none⟩) 1 vc]).run Tryz.prog (w.drew.setRow g c1) = _ := fun ty =>
      run_copy_rows (w.drew.setRow g c1) 22 22 ty 26 i0 Tryz.underlying22 hi0 g (a * 10) (n + 1 - a) (cap - a) ⟨gA,oA,none⟩ 1 vc c1 26 (flatV k_sins.sh (rOf r)) hg1
       (by rw [hnl,hiK,show Nat.min 1 (n + 1 - a) = 1 by show min _ _ = _; omega]) (hsrc _ (setRow_other w.drew g gA c1 hne)) (by rw [hnl,hc1s]; omega) (hone _)
     have hov : (callFunc 45 #[.slice (some ⟨gA,oA,none⟩) 1 vc,.slice (some ⟨g,(a + 1) * 10,none⟩) (n - a) (cap - (a + 1))]).run Tryz.prog w = .ok (.value (.bool false)) w := by
      rw [run_callFunc_extern Tryz.func45 (by kernel_rfl) (by kernel_rfl) (by kernel_rfl) (e := Extern.SlicesOverlaps.overlaps #[22,22] #[4]) (by kernel_rfl)]
      rw [run_overlaps_own w 22 4 26 Tryz.underlying22 i0.size (fun w => by simp [Go.sizeOf,typeInfo,hi0]) ⟨gA,oA,none⟩ ⟨g,(a + 1) * 10,none⟩ 1 vc (n - a) (cap - (a + 1)) hne cellsA cells tA 26 fzA hgA hg hAc]
      rfl
     rw [hv0]
     refine (Tryz.insert_room g n cap a ⟨gA,oA,none⟩ vc _ _ w _ _ han hroom (by omega) hov hcp1 hcp2).mono ?_
     rintro e w' ⟨rfl,rfl⟩
     rw [<- hv0]
     refine fin _ g cap _ (cells.toList.drop ((a + 1) * 10 + (flatV k_sins.sh ((rOf code).drop a)).length)) (by rw [hown]; exact SlNew.trans1 (w := w) (w1 := w.drew.setRow g c1) (slNew_row w.drew g c1) (slNew_row _ g _) (.inl rfl)) hok (setRow_heap _ g _ _ _ _ hg1) ?_ ?_ hroom hcap2 (.inl hown)
     ·simp only [hnl]
      rw [hc1]
      exact room_lists hcs hl1 (by simp only [hcl]; omega) rfl (by rw [Nat.succ_mul])
     ·simp only [List.size_toArray,List.length_append,List.length_take,List.length_drop,Array.length_toList,hc1s,hnl]
      have : (a + 1) * 10 <= cap * 10 := Nat.mul_le_mul_right _ (by omega)
      omega
    ·
     have hka : a + (n + 1 - a) = n + 1 := by omega
     have hki : ((n : Int) + 1 - (a : Int)) = ((n + 1 - a : Nat) : Int) := by omega
     have hC := grown_le w (n + 1) cap 26 (by omega)
     have happ0 := fun ty => Lib.run_append_grow_zeros (P := Tryz.prog) w 22 3 ty 26 i0 z .i64 .i64 Tryz.underlying22 Tryz.underlying3 hi0 hiz (some ⟨g,0,none⟩) a cap (flatV k_sins.sh ((rOf code).take a))
      (run_firstCells_some w.drew i0.size a ⟨g,0,none⟩ a cap _ (by rw [hl1,hiK]) (hcell w.drew 0 _ [] (flatV k_sins.sh ((rOf code).drop a) ++ rest) rfl (by rw [hcells,hsplit,List.nil_append,List.append_assoc]) rfl)) (n + 1 - a) (by omega) (by rw [hiK]; decide) (by omega) (by omega)
      (by
        have := Nat.mul_le_mul (show n + 1 - a <= 1073741824 by omega) hiB
        omega)
      (growslice_fits (by omega) (by
        have := Nat.mul_le_mul (show a + (n + 1 - a) <= 1073741824 by omega) hiB
        omega))
     rw [hka] at happ0
     obtain ⟨C,hCe⟩ : ∃ C,C = grownCap w (n + 1) cap 26 := ⟨_,rfl⟩
     rw [<- hCe] at happ0 hC
     obtain ⟨c0,hc0⟩ : ∃ c0 : Array Value,c0 = (flatV k_sins.sh ((rOf code).take a)).toArray ++ Builtin.zeroCells z.cells (n + 1 - a) ++ Builtin.zeroCells z.cells (C - (n + 1)) := ⟨_,rfl⟩
     rw [<- hc0,<- hki] at happ0
     have hc0s : c0.size = C * 10 := by
      rw [hc0]; simp only [Array.size_append,List.size_toArray,hl1,zeroCells_size,hzK]; omega
     have hc0t : c0.toList.take (a * 10) = flatV k_sins.sh ((rOf code).take a) := by
      rw [hc0,Array.toList_append,Array.toList_append,List.append_assoc,List.take_append_of_le_length (by simp only [hl1]; omega),List.take_of_length_le (by simp only [hl1]; omega)]
     have hG0 : (w.drew.alloc (.cells c0 26)).heap[w.heap.size]? = some (.cells c0 26 (0,0)) := heap_alloc_new w.drew _
     have hold : ∀ k : Nat,k < w.heap.size -> (w.drew.alloc (.cells c0 26)).heap[k]? = w.heap[k]? := fun k hk => ((World.Extends.refl w.drew).alloc _).block k hk
     have hcp1 : ∀ ty,(Builtin.copy_ #[22,22] ty #[.slice (some ⟨w.heap.size,a * 10,none⟩) (n + 1 - a) (C - a),.slice (some ⟨gA,oA,none⟩) 1 vc]).run Tryz.prog (w.drew.alloc (.cells c0 26)) = _ := fun ty =>
      run_copy_rows _ 22 22 ty 26 i0 Tryz.underlying22 hi0 w.heap.size (a * 10) (n + 1 - a) (C - a) ⟨gA,oA,none⟩ 1 vc c0 26 (flatV k_sins.sh (rOf r)) hG0
       (by rw [hnl,hiK,show Nat.min 1 (n + 1 - a) = 1 by show min _ _ = _; omega]) (hsrc _ (hold gA hltA)) (by rw [hnl,hc0s]; omega) (hone _)
     obtain ⟨c1,hc1⟩ : ∃ c1,c1 = (c0.toList.take (a * 10) ++ flatV k_sins.sh (rOf r) ++ c0.toList.drop (a * 10 + (flatV k_sins.sh (rOf r)).length)).toArray := ⟨_,rfl⟩
     rw [<- hc1] at hcp1
     have hc1s : c1.size = C * 10 := by
      rw [hc1]; simp only [List.size_toArray,List.length_append,List.length_take,List.length_drop,Array.length_toList,hc0s,hnl]; omega
     obtain ⟨W2,hW2⟩ : ∃ W2,W2 = (w.drew.alloc (.cells c0 26)).setRow w.heap.size c1 := ⟨_,rfl⟩
     have hG1 : W2.heap[w.heap.size]? = some (.cells c1 26 (0,0)) := by rw [hW2]; exact setRow_heap _ _ _ _ _ _ hG0
     have hold2 : W2.drew.heap[g]? = w.heap[g]? := by
      rw [hW2]
      show ((w.drew.alloc (.cells c0 26)).setRow w.heap.size c1).heap[g]? = _
      rw [setRow_other _ _ _ _ (by omega),hold g hlt]
     have hcp2 : ∀ ty,(Builtin.copy_ #[22,22] ty #[.slice (some ⟨w.heap.size,(a + 1) * 10,none⟩) (n + 1 - (a + 1)) (C - (a + 1)),.slice (some ⟨g,a * 10,none⟩) (n - a) (cap - a)]).run Tryz.prog W2.drew = _ := fun ty =>
      run_copy_rows W2.drew 22 22 ty 26 i0 Tryz.underlying22 hi0 w.heap.size ((a + 1) * 10) (n + 1 - (a + 1)) (C - (a + 1)) ⟨g,a * 10,none⟩ (n - a) (cap - a) c1 26 (flatV k_sins.sh ((rOf code).drop a)) hG1
       (by rw [hl2,hiK,show Nat.min (n - a) (n + 1 - (a + 1)) = n - a by show min _ _ = _; omega]) (hcell W2.drew (a * 10) _ (flatV k_sins.sh ((rOf code).take a)) rest hold2 (by rw [hcells,hsplit]) hl1) (by rw [hl2,hc1s]; omega) (hone _)
     rw [<- hW2] at hcp1
     rw [hv0]
     refine (Tryz.insert_grow g n cap a w.heap.size C ⟨gA,oA,none⟩ vc _ _ w _ W2 _ han hcap1 (by omega) hC.1 (by omega) happ0 hcp1 hcp2).mono ?_
     rintro e w' ⟨rfl,rfl⟩
     rw [<- hv0]
     refine fin _ w.heap.size C _ (c1.toList.drop ((a + 1) * 10 + (flatV k_sins.sh ((rOf code).drop a)).length)) ?_ hok (setRow_heap _ _ _ _ _ _ hG1) ?_ ?_ hC.1 (by omega) (.inr (Nat.le_refl _))
     ·rw [hW2]
      have s1 := SlNew.trans1 (slNew_alloc w (.cells c0 26) (ownOf v0)) (slNew_row _ w.heap.size c1) (.inr (Nat.le_refl _))
      exact SlNew.trans1 (SlNew.drew1 s1) (slNew_row _ w.heap.size _) (.inr (Nat.le_refl _))
     ·simp only
      rw [hc1,hnl]
      simp only
      rw [hc0t,Nat.succ_mul]
      exact grow_lists hl1 hnl
     ·simp only [List.size_toArray,List.length_append,List.length_take,List.length_drop,Array.length_toList,hc1s,hl2]
      have : (a + 1) * 10 + (n - a) * 10 <= C * 10 := by rw [<- Nat.add_mul]; exact Nat.mul_le_mul_right _ (by omega)
      omega
end Go.Ad
set_option maxRecDepth 100000
namespace Go.Proofs.YtodhngllhbgndaaGreatDoor
open Go Go.Rx Go.Ad Go.ChangeShapes Go.RowKit
theorem own : ownKnob Tryz.prog.godebug = none := by kernel_rfl
theorem lo_b : laidOutB Tryz.prog = true := by kernel_rfl
def laid : List (String × DataW Unit) := [("unicode/utf8.acceptRanges",Rows.laid_unicode_utf8_acceptRanges),("unicode/utf8.first",Rows.laid_unicode_utf8_first)]
theorem gl_ok (W : World) : GOk [] ⟨W,W,fun _ => False,fun _ => False⟩ := fun g cs hm => by cases hm
theorem laid_plain : (laid.filter fun x => x.2.handleName?.isNone) = laid := by kernel_rfl
theorem door_met (os : Os) (args : Array Value) : laidMetH Tryz.prog laid ((World.laidAll Tryz.prog os laid).forCall (fun _ _ => 0) ⟨#[],args,[]⟩).memory :=
 laidMetH_of_parts3 (fuel := 8) (by rw [laid_plain]; exact laidMet_laidAll args (by kernel_rfl) (by kernel_rfl)) (by kernel_rfl) (by kernel_rfl)
theorem ty_dint : BTy Tryz.prog 3 (.d (.int .i64 (-9223372036854775808) 9223372036854775807)) := ⟨Tryz.underlying3,by decide,by decide⟩
theorem ty_lss : BTy Tryz.prog 22 (.rd [.int .i64 (-9223372036854775808) 9223372036854775807,.str,.str,.str,.str,.int .i64 (-9223372036854775808) 9223372036854775807,.int .i64 (-9223372036854775808) 9223372036854775807,.int .i64 (-9223372036854775808) 9223372036854775807,.bool,.int .i64 (-9223372036854775808) 9223372036854775807]) := ⟨26,Tryz.underlying22,by kernel_rfl,by kernel_rfl,by decide⟩
theorem ty_ss : BTy Tryz.prog 26 (.d (.mix [.int .i64 (-9223372036854775808) 9223372036854775807,.str,.str,.str,.str,.int .i64 (-9223372036854775808) 9223372036854775807,.int .i64 (-9223372036854775808) 9223372036854775807,.int .i64 (-9223372036854775808) 9223372036854775807,.bool,.int .i64 (-9223372036854775808) 9223372036854775807])) := ⟨.inl ⟨_,Tryz.underlying26⟩,by kernel_rfl,by kernel_rfl⟩
theorem cell0 {W : World} (h : W.ShapedOpen Tryz.prog) : ∃ m,W.cell? ⟨0,0,none⟩ = some (.int .i64 m) :=
 cell_of_shapedOpen_int (zero := #[.int .i64 0]) (t := 3) h (of_decide_eq_true (by kernel_rfl)) (by kernel_rfl) rfl (by kernel_rfl) (by kernel_rfl) Tryz.underlying3
theorem heap0 {W : World} {m : Int} (h : W.cell? ⟨0,0,none⟩ = some (.int .i64 m)) : 0 < W.heap.size := by
 rcases Nat.lt_or_ge 0 W.heap.size with h0 | h0
 ·exact h0
 ·have : W.heap[(0 : Nat)]? = none := Array.getElem?_eq_none h0
  simp [World.cell?,this] at h
theorem one_of {id : Nat} (hid : id = 430 ∨ id = 431) (a : List (List Int)) (z : Int) (h : SB id a [[z]]) : z = 1 := by
 rcases hid with rfl | rfl
 all_goals
  match a,h with
  | [],h => first | exact h | exact h.elim
  | [_],h => first | exact h | exact h.elim
  | [_,_],h => first | exact h | exact h.elim
  | [_,_,_],h => first | exact h | exact h.elim
  | _ :: _ :: _ :: _ :: _,h => exact h.elim
structure AllOk (W : World) : Prop where
 salive_ : OB W k_salive
 sReq_ : OB W k_sReq
 xsQ_ : OB W k_xsQ
 ySame_ : OB W k_ySame
 sRight_ : OB W k_sRight
 xsR_ : OB W k_xsR
 sSubmit_ : OB W k_sSubmit
 xsS_ : OB W k_xsS
 sShown_ : OB W k_sShown
 xsH_ : OB W k_xsH
 sFind_ : OB W k_sFind
 xsF_ : OB W k_xsF
 sPrune_ : OB W k_sPrune
 xsP_ : OB W k_xsP
theorem all_ok {W : World} (h : W.ShapedOpen Tryz.prog) : AllOk W := by
 have hg := gl_ok W
 obtain ⟨m,hm⟩ := cell0 h
 have ibs_ : OC W k_ibs := ok_ibs
 have tlb_ : OC W k_tlb := ok_tlb (hg := hg)
 have trb_ : OC W k_trb := ok_trb (hg := hg)
 have tsp_ : OC W k_tsp := ok_tsp (hg := hg) (h_tlb := tlb_) (h_trb := trb_)
 have tdot_ : OC W k_tdot := ok_tdot (hg := hg) (h_tlb := tlb_) (h_trb := trb_)
 have cdot_ : OC W k_cdot := ok_cdot (hg := hg) (h_ibs := ibs_)
 have tdm_ : OC W k_tdm := ok_tdm (hg := hg)
 have cutat_ : OC W k_cutat := ok_cutat (hg := hg) (h_ibs := ibs_)
 have cutcol_ : OC W k_cutcol := ok_cutcol (hg := hg) (h_ibs := ibs_)
 have only_ : OC W k_only := ok_only (hg := hg) (h_ibs := ibs_)
 have ionly_ : OC W k_ionly := ok_ionly (hg := hg) (h_ibs := ibs_)
 have low_ : OC W k_low := ok_low (hg := hg)
 have rlow_ : OC W k_rlow := ok_rlow (hg := hg)
 have rhas_ : OC W k_rhas := ok_rhas (hg := hg)
 have cdd_ : OQ W q_cdd := ok_cdd ⟨m,hm⟩ (heap0 hm)
 have thost_ : OC W k_thost := ok_thost (hg := hg)
 have tdig_ : OC W k_tdig := ok_tdig (hg := hg)
 have host_ : OC W k_host := ok_host (hg := hg) (h_thost := thost_) (h_tdm := tdm_) (h_ionly := ionly_) (h_cdd := cdd_)
 have server_ : OC W k_server := ok_server (hg := hg) (h_cutcol := cutcol_) (h_host := host_) (h_tdig := tdig_) (h_ionly := ionly_)
 have local_ : OC W k_local := ok_local (hg := hg) (h_only := only_) (h_tdot := tdot_) (h_cdd := cdd_)
 have rlocal_ : OC W k_rlocal := ok_rlocal (hg := hg)
 have small_ : OC W k_small := ok_small (hg := hg)
 have great_ : OC W k_great := ok_great (hg := hg)
 have digit_ : OC W k_digit := ok_digit (hg := hg)
 have rhost_ : OC W k_rhost := ok_rhost (hg := hg) (h_small := small_) (h_great := great_) (h_digit := digit_)
 have rcountry_ : OC W k_rcountry := ok_rcountry (hg := hg)
 have rphone_ : OQ W q_rphone := ok_rphone (hg := hg) (h_rcountry := rcountry_)
 have remail_ : OC W k_remail := ok_remail (hg := hg) (h_rlocal := rlocal_) (h_rhost := rhost_) (h_rhas := rhas_) (h_rlow := rlow_)
 have email_ : OC W k_email := ok_email (hg := hg) (h_tsp := tsp_) (h_cutat := cutat_) (h_local := local_) (h_cdot := cdot_) (h_server := server_) (h_low := low_) (h_ibs := ibs_)
 have country_ : OC W k_country := ok_country
 have bare_ : OC W k_bare := ok_bare
 have tpre_ : OC W k_tpre := ok_tpre (hg := hg)
 have phone_ : OQ W q_phone := ok_phone (hg := hg) (h_country := country_) (h_bare := bare_) (h_tpre := tpre_)
 have make_ : OC W k_make := ok_make (hg := hg) (h_email := email_) (h_phone := phone_)
 have rmake_ : OC W k_rmake := ok_rmake (hg := hg) (h_remail := remail_) (h_rphone := rphone_)
 have right_ : OC W k_right := ok_right (hg := hg) (h_make := make_)
 have rright_ : OC W k_rright := ok_rright (hg := hg) (h_rmake := rmake_)
 have print_ : OC W k_print := ok_print (hg := hg)
 have secr_ : OC W k_secr := ok_secr (hg := hg) (h_print := print_)
 have sright_ : OC W k_sright := ok_sright (hg := hg) (h_secr := secr_) (h_right := right_)
 have sRight_ : OB W k_sRight := ok_sRight (hg := hg) (h_sright := sright_)
 have splace_ : OB W k_splace := ok_splace (hg := hg)
 have sover_ : OC W k_sover := ok_sover (hg := hg)
 have sFind_ : OB W k_sFind := ok_sFind (hg := hg) (h_sRight := sRight_) (h_splace := splace_)
 have sopen_ : OB W k_sopen := ok_sopen (hg := hg) (h_sRight := sRight_) (h_splace := splace_) (h_sover := sover_)
 have sShown_ : OB W k_sShown := ok_sShown (hg := hg) (h_sopen := sopen_)
 have sSubmit_ : OB W k_sSubmit := ok_sSubmit (hg := hg) (h_sopen := sopen_)
 have sprune_ : OB W k_sprune := ok_sprune (hg := hg)
 have sPrune_ : OB W k_sPrune := ok_sPrune (hg := hg) (h_sRight := sRight_) (h_sprune := sprune_)
 have sins_ : OI W k_sins := ok_sins
 have sReq_ : OB W k_sReq := ok_sReq (hg := hg) (h_sright := sright_) (h_sRight := sRight_) (h_sprune := sprune_) (h_splace := splace_) (h_sins := sins_)
 have sask_ : OC W k_sask := ok_sask (hg := hg)
 have salive_ : OB W k_salive := ok_salive (hg := hg) (h_sReq := sReq_) (h_sSubmit := sSubmit_) (h_sShown := sShown_) (h_sask := sask_)
 have ySame_ : OB W k_ySame := ok_ySame (hg := hg)
 have xsec_ : OC W k_xsec := ok_xsec (hg := hg)
 have xsr_ : OC W k_xsr := ok_xsr (hg := hg) (h_xsec := xsec_) (h_rright := rright_)
 have xsR_ : OB W k_xsR := ok_xsR (hg := hg) (h_xsr := xsr_)
 have xsP_ : OB W k_xsP := ok_xsP (hg := hg) (h_xsR := xsR_)
 have xsF_ : OB W k_xsF := ok_xsF (hg := hg) (h_xsR := xsR_)
 have xsl_ : OB W k_xsl := ok_xsl (hg := hg)
 have xsS_ : OB W k_xsS := ok_xsS (hg := hg) (h_xsR := xsR_) (h_xsl := xsl_)
 have xsH_ : OB W k_xsH := ok_xsH (hg := hg) (h_xsR := xsR_) (h_xsl := xsl_)
 have xsQ_ : OB W k_xsQ := ok_xsQ (hg := hg) (h_xsR := xsR_) (h_xsr := xsr_) (h_xsP := xsP_)
 exact ⟨salive_,sReq_,xsQ_,ySame_,sRight_,xsR_,sSubmit_,xsS_,sShown_,xsH_,sFind_,xsF_,sPrune_,xsP_⟩
end Go.Proofs.YtodhngllhbgndaaGreatDoor
