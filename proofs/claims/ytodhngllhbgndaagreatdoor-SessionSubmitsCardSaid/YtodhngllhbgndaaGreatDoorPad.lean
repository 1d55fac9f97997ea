/- Rows that grow: soundness. -/
import Derived.Test.YtodhngllhbgndaaGreatDoorPac
import Derived.Deep.AppendSrc
import Derived.Deep.Upon
import Derived.Laws.MakeOwn
import Derived.Lib.ConvBytes
import Derived.ArgAppend
set_option linter.unusedVariables false
set_option linter.unusedSimpArgs false
namespace Go.Rx
open M
theorem RowOk.row {sh : List CK} {row : List Int} (hs : shOk sh = true) (h : RowOk sh row) : rowOk row := by
 unfold shOk at hs
 simp only [Bool.and_eq_true] at hs
 obtain ⟨⟨h0,h00⟩,h2⟩ := hs
 refine ⟨by rw [h.len]; exact Nat.le_of_ble_eq_true h0,?_⟩
 have hp := HB_pos
 clear h0 h00
 induction sh generalizing row with
 | nil =>
  cases row with
  | nil => intro z hz; simp at hz
  | cons _ _ => exact h.elim
 | cons c sh ih =>
  cases row with
  | nil => exact h.elim
  | cons x r =>
   simp only [List.all_cons,Bool.and_eq_true] at h2
   intro z hz
   rcases List.mem_cons.1 hz with rfl | hz
   ·have h3 := h.1
    cases c with
    | int k lo hi =>
     have h4 := h2.1
     simp only [Bool.and_eq_true,decide_eq_true_eq] at h4
     simp only [CK.bd] at h3
     omega
    | str => simp only [CK.bd] at h3; omega
    | bool => simp only [CK.bd] at h3; omega
   ·exact ih h.2 h2.2 z hz
theorem RB_rows {sh : List CK} {rows : List (List Int)} (hs : shOk sh = true) (hl : rows.length <= 1073741824) (h : ∀ row ∈ rows,RowOk sh row) : rc rows <= RB :=
 RB_c (by unfold maxLen; omega) fun row hr => (h row hr).row hs
theorem CK.val_one (c : CK) (z : Int) : (c.val z).oneCell' = true := by cases c <;> rfl
theorem rowV_one : ∀ {sh : List CK} {row : List Int},∀ u ∈ rowV sh row,u.oneCell' = true
 | [],_,u,h => by simp [rowV] at h
 | _ :: _,[],u,h => by simp [rowV] at h
 | c :: sh,z :: r,u,h => by
  simp only [rowV,List.mem_cons] at h
  rcases h with rfl | h
  ·exact CK.val_one c z
  ·exact rowV_one u h
theorem flatV_one {sh : List CK} {rows : List (List Int)} : ∀ u ∈ flatV sh rows,u.oneCell' = true := fun u h => by
 obtain ⟨row,_,h⟩ := List.mem_flatMap.1 h
 exact rowV_one u h
theorem RowsAt.flat {cells : Array Value} {off : Nat} {sh : List CK} {rows : List (List Int)} (h : RowsAt cells off sh rows) {j : Nat} {v : Value} (hj : (flatV sh rows)[j]? = some v) : cells[off + j]? = some v := by
 obtain ⟨h1,pre,post,h2,h3⟩ := h
 have hlt := (List.getElem?_eq_some_iff.1 hj).1
 rw [<- Array.getElem?_toList,h2,List.append_assoc,List.getElem?_append_right (by omega),List.getElem?_append_left (by omega)]
 rw [show off + j - pre.length = j by omega]; exact hj
theorem RowsAt.sub {cells : Array Value} {off : Nat} {sh : List CK} {rows : List (List Int)} (h : RowsAt cells off sh rows) (a k : Nat) (ha : a <= rows.length) : RowsAt cells (off + a * sh.length) sh ((rows.drop a).take k) := by
 obtain ⟨h1,pre,post,h2,h3⟩ := h
 refine ⟨fun row hr => h1 row (List.mem_of_mem_drop (List.mem_of_mem_take hr)),pre ++ flatV sh (rows.take a),flatV sh ((rows.drop a).drop k) ++ post,?_,?_⟩
 ·rw [h2]
  have : rows = rows.take a ++ ((rows.drop a).take k ++ (rows.drop a).drop k) := by rw [List.take_append_drop,List.take_append_drop]
  conv => lhs; rw [this]
  simp only [flatV_append,List.append_assoc]
 ·rw [List.length_append,h3,flatV_len fun row hr => h1 row (List.mem_of_mem_take hr),List.length_take,Nat.min_eq_left ha]
section
variable {S : Nat -> List Int -> List Int -> Prop} {L : V -> Env -> Prop} {n : Nat} {ρ : Env} {m : Nat -> Nat} {bl : List Blk} {gl : Glo} {w0 : Base} {P : Program}
theorem indM_snd {e : BE} : Snd S L (indM e) n ρ fun ρ' n' l => l.sc n' /\ (0 <= l.den ρ' /\ l.den ρ' <= 1) /\ e.den ρ = decide (l.den ρ' = 1) := by
 intro A k hk
 cases h : e.den ρ with
 | true => exact ⟨_,n + 1,_,Nat.le_succ _,agree.upd _ _ _,⟨Lin.sc_var (Nat.lt_succ_self n),by simp [Lin.den_var,upd_same],by simp [Lin.den_var,upd_same]⟩,hk 1 (by decide) (by decide) (by simp [h])⟩
 | false => exact ⟨_,n + 1,_,Nat.le_succ _,agree.upd _ _ _,⟨Lin.sc_var (Nat.lt_succ_self n),by simp [Lin.den_var,upd_same],by simp [Lin.den_var,upd_same]⟩,hk 0 (by decide) (by decide) (by simp [h])⟩
theorem cellLinM_snd {nb : Nat} {c : CK} {a : A} (ha : a.ok n nb ρ) : Snd S L (cellLinM c a) n ρ fun ρ' n' l => l.sc n' /\ (c.bd.1 <= l.den ρ' /\ l.den ρ' <= c.bd.2) /\ c.val (l.den ρ') = a.den ρ m := by
 unfold cellLinM
 split
 ·refine snd_guard fun hc => Snd.pure ?_
  simp only [Bool.and_eq_true,decide_eq_true_eq] at hc
  obtain ⟨⟨h1,h2⟩,h3⟩ := hc
  have h4 := ha.2
  refine ⟨ha.1,⟨?_,?_⟩,?_⟩
  ·simp only [CK.bd]; omega
  ·simp only [CK.bd]; omega
  ·simp only [CK.val,A.den,h1]
 ·exact Snd.pure ⟨ha.1,ha.2,rfl⟩
 ·split
  ·rename_i v
   refine Snd.pure ⟨Lin.sc_const _ _,?_,?_⟩
   ·simp only [CK.bd,Lin.den_const]; cases v <;> decide
   ·simp only [CK.val,A.den,BE.den,Lin.den_const]; cases v <;> rfl
  ·rename_i e _
   exact indM_snd.mono fun ρ' n' l _ _ ⟨h1,h2,h3⟩ => ⟨h1,h2,by simp only [CK.val,A.den,h3]⟩
 ·exact Snd.fail
theorem rowLinM_snd {nb : Nat} : ∀ {sh : List CK} {l : List A} {n : Nat} {ρ : Env},(∀ a ∈ l,A.ok n nb ρ a) -> Snd S L (rowLinM sh l) n ρ fun ρ' n' ls => (∀ x ∈ ls,Lin.sc n' x) /\ RowOk sh (ls.map (·.den ρ')) /\ rowV sh (ls.map (·.den ρ')) = l.map (A.den ρ m)
 | [],[],n,ρ,_ => Snd.pure ⟨fun _ h => by simp at h,trivial,rfl⟩
 | c :: sh,a :: r,n,ρ,h => by
  have h0 := h a (by simp)
  refine (cellLinM_snd (m := m) h0).bind fun ρ1 n1 x hn ha ⟨g1,g2,g3⟩ => (rowLinM_snd (nb := nb) (sh := sh) (l := r) fun b hb => (h b (List.mem_cons_of_mem _ hb)).ext ha hn (Nat.le_refl _)).bind fun ρ2 n2 ls hn2 ha2 ⟨k1,k2,k3⟩ => Snd.pure ⟨fun y hy => ?_,?_,?_⟩
  ·rcases List.mem_cons.1 hy with rfl | hy
   ·exact g1.mono hn2
   ·exact k1 y hy
  ·simp only [List.map_cons]
   exact ⟨by rw [Lin.den_agree ha2 g1]; exact g2,k2⟩
  ·simp only [List.map_cons,rowV,Lin.den_agree ha2 g1,g3,k3]
   rw [map_den_ext (fun b hb => h b (List.mem_cons_of_mem _ hb)) ha (fun _ _ => rfl)]
 | [],_ :: _,_,_,_ => Snd.fail
 | _ :: _,[],_,_,_ => Snd.fail
theorem chunkA_flat {w : Nat} : ∀ {k : Nat} {l : List A},l.length = k * w -> (chunkA w k l).length = k /\ (chunkA w k l).flatten = l
 | 0,l,h => by
  have : l = [] := List.eq_nil_of_length_eq_zero (by omega)
  subst this; exact ⟨rfl,rfl⟩
 | k + 1,l,h => by
  rw [Nat.succ_mul] at h
  have ih := chunkA_flat (w := w) (k := k) (l := l.drop w) (by simp; omega)
  exact ⟨by simp [chunkA,ih.1],by simp [chunkA,ih.2]⟩
theorem chunkA_mem {w : Nat} : ∀ {k : Nat} {l : List A},∀ row ∈ chunkA w k l,∀ a ∈ row,a ∈ l
 | 0,l,row,h,a,ha => by simp [chunkA] at h
 | k + 1,l,row,h,a,ha => by
  simp only [chunkA,List.mem_cons] at h
  rcases h with rfl | h
  ·exact List.mem_of_mem_take ha
  ·exact List.mem_of_mem_drop (chunkA_mem row h a ha)
theorem appRowsM_snd {nb : Nat} {sh : List CK} (hsh : shOk sh = true) : ∀ {rs : List (List A)} {n : Nat} {ρ : Env} {c : Lin},(∀ row ∈ rs,∀ a ∈ row,A.ok n nb ρ a) -> c.sc n -> (0 <= c.den ρ /\ c.den ρ <= RB) -> (∀ row ∈ rOf (c.den ρ),RowOk sh row) -> (rOf (c.den ρ)).length + rs.length <= 1073741824 ->
 Snd S L (appRowsM sh rs c) n ρ fun ρ' n' c' => c'.sc n' /\ (0 <= c'.den ρ' /\ c'.den ρ' <= RB) /\ ∃ rows',rOf (c'.den ρ') = rOf (c.den ρ) ++ rows' /\ rows'.length = rs.length /\ (∀ row ∈ rows',RowOk sh row) /\ flatV sh rows' = rs.flatten.map (A.den ρ m)
 | [],n,ρ,c,_,h1,h2,_,_ => Snd.pure ⟨h1,h2,[],by simp,rfl,fun _ h => by simp at h,rfl⟩
 | row :: rs,n,ρ,c,h0,h1,h2,h3,h4 => by
  refine (rowLinM_snd (nb := nb) (m := m) (sh := sh) (l := row) (h0 row (by simp))).bind fun ρ1 n1 ls hn ha ⟨g1,g2,g3⟩ => ?_
  have e1 : c.den ρ1 = c.den ρ := Lin.den_agree ha h1
  have hf : fnD 23 ((c :: ls).map (·.den ρ1)) = rc (rOf (c.den ρ) ++ [ls.map (·.den ρ1)]) := by
   simp only [List.map_cons,fnD,e1]
  simp only [List.length_cons] at h4
  have hrows : ∀ r ∈ rOf (c.den ρ) ++ [ls.map (·.den ρ1)],RowOk sh r := fun r hr => by
   rcases List.mem_append.1 hr with hr | hr
   ·exact h3 r hr
   ·simp at hr; subst hr; exact g2
  have hb : rc (rOf (c.den ρ) ++ [ls.map (·.den ρ1)]) <= RB := RB_rows hsh (by simp; omega) hrows
  refine (fnM_snd (by rw [hf]; exact rc_nonneg _) (by rw [hf]; exact hb)).bind fun ρ2 n2 c' hn2 ha2 ⟨k1,k2⟩ => ?_
  rw [hf] at k2
  have e2 : rOf (c'.den ρ2) = rOf (c.den ρ) ++ [ls.map (·.den ρ1)] := by rw [k2,rOf_rc]
  have hA := ha.trans ha2 hn
  refine (appRowsM_snd (nb := nb) (rs := rs) (c := c') hsh (fun r hr a har => (h0 r (List.mem_cons_of_mem _ hr) a har).ext hA (Nat.le_trans hn hn2) (Nat.le_refl _)) k1 (by rw [k2]; exact ⟨rc_nonneg _,hb⟩) (by rw [e2]; exact hrows) (by rw [e2]; simp; omega)).mono fun ρ3 n3 c3 hn3 ha3 ⟨p1,p2,rows',p3,p4,p5,p6⟩ => ⟨p1,p2,ls.map (·.den ρ1) :: rows',?_,by simp [p4],fun r hr => ?_,?_⟩
  ·rw [p3,e2]; simp
  ·rcases List.mem_cons.1 hr with rfl | hr
   ·exact g2
   ·exact p5 r hr
  ·show rowV sh (ls.map (·.den ρ1)) ++ flatV sh rows' = _
   rw [p6,g3,List.flatten_cons,List.map_append]
   congr 1
   refine List.map_congr_left fun a haf => A.den_ext (n := n) (nb := nb) ?_ hA (fun _ _ => rfl)
   obtain ⟨r,hr,har⟩ := List.mem_flatten.1 haf
   exact h0 r (List.mem_cons_of_mem _ hr) a har
def SrcR (P : Program) (tx : TypeId) (sh : List CK) (X : Value) (w : World) (old : List (List Int)) (ρ' : Env) (n' : Nat) (p : Lin × Lin) : Prop :=
 p.1.sc n' /\ p.2.sc n' /\ (0 <= p.1.den ρ' /\ p.1.den ρ' <= RB) /\ ∃ rows',rOf (p.1.den ρ') = old ++ rows' /\ p.2.den ρ' = rows'.length /\ (∀ row ∈ rows',RowOk sh row) /\ old.length + rows'.length <= 1073741824 /\ Src P sh.length tx X rows'.length (flatV sh rows') w
theorem srcM_snd {sh : List CK} (hsh : shOk sh = true) {w : World} (hb : BlOk n bl.length ρ bl) (hw : Mem w0 ρ m bl w) {tx : TypeId} {x : V} {X : Value} (hx : x.ok n bl.length ρ) (hX : x.rel ρ m X) {base : Lin} (hbs : base.sc n)
 (hbb : 0 <= base.den ρ /\ base.den ρ <= RB) (hbr : ∀ row ∈ rOf (base.den ρ),RowOk sh row) : Snd S L (srcM P tx sh bl x base) n ρ (SrcR P tx sh X w (rOf (base.den ρ))) := by
 unfold srcM
 split
 ·rename_i b off len cap
  split
  ·rename_i cs e' hcs htx
   obtain ⟨c1,c2,c3⟩ := headC_spec hw hb hcs
   refine chkM_snd fun hk => ?_
   simp only [List.map_cons,List.map_nil,chkD,Lin.den_const] at hk
   have hch := chunkA_flat (w := sh.length) (k := len) c1
   refine (appRowsM_snd (nb := bl.length) (m := m) hsh (rs := chunkA sh.length len cs) (c := base) (fun row hr a ha => c2 a (chunkA_mem row hr a ha)) hbs hbb hbr (by rw [hch.1]; omega)).bind fun ρ1 n1 c' hn ha ⟨p1,p2,rows',p3,p4,p5,p6⟩ => Snd.pure ⟨p1,Lin.sc_const _ _,p2,rows',p3,?_,p5,by rw [p4,hch.1]; omega,?_⟩
   ·rw [Lin.den_const,p4,hch.1]
   ·have hX : X = .slice (some ⟨m b,off,none⟩) len cap := hX
    rw [hch.2] at p6
    rw [hX,p6,p4,hch.1]
    exact Src.ofSlice w (slcOf_spec htx) _ _ _ _ (by simpa using c1) c3 (fun u hu => by
     obtain ⟨a,ha,rfl⟩ := List.mem_map.1 hu
     exact A.oneCell (c2 a ha))
  ·exact Snd.fail
 ·rename_i b sz o ro len cap
  split
  ·rename_i sh' off code capb kind bt e' hbl htx
   refine snd_guard fun hc => chkM_snd fun hk1 => chkM_snd fun hk2 => ?_
   simp only [Bool.and_eq_true] at hc
   obtain ⟨⟨⟨c1,c2⟩,c3⟩,c4⟩ := hc
   have c1 : 0 < kind := Nat.le_of_ble_eq_true c1
   have c2 := shBeq_eq c2
   have c3 := Lin.beq_eq c3
   have c4 := Nat.eq_of_beq_eq_true c4
   subst c2; subst c3; subst c4
   simp only [List.map_cons,List.map_nil,chkD,Lin.den_add] at hk1 hk2
   have hxo : (A.sl b sh.length o ro len cap).ok n bl.length ρ := hx
   obtain ⟨ptr,e1,e2,e3⟩ := sl_den (m := m) hxo
   have hX : X = (A.sl b sh.length o ro len cap).den ρ m := hX
   rw [e1] at hX
   obtain ⟨x1,⟨x2,x3,x4,x5⟩,⟨x6,x7,x8,x9⟩,⟨x10,x13⟩,x11,x12⟩ := hxo
   have hrr := hw.rws b sh o code capb kind bt hbl (by omega)
   have hrk : ∀ row ∈ rOf (code.den ρ),RowOk sh row := fun row hr => by
    rcases Int.lt_or_le (capb.den ρ) 0 with h | h
    ·rw [hrr.1 h] at hr; simp at hr
    ·obtain ⟨_,cells,tq,fz,_,⟨_,g3⟩,_⟩ := hrr.2 h
     exact g3.1 row hr
   have hsub : ∀ row ∈ (((rOf (code.den ρ)).drop (ro.den ρ).toNat).take (len.den ρ).toNat),RowOk sh row := fun row hr => hrk row (List.mem_of_mem_drop (List.mem_of_mem_take hr))
   have hlen : (((rOf (code.den ρ)).drop (ro.den ρ).toNat).take (len.den ρ).toNat).length = (len.den ρ).toNat := by simp; omega
   have hf1 : fnD 22 ([code,ro,ro.add len].map (·.den ρ)) = rc (((rOf (code.den ρ)).drop (ro.den ρ).toNat).take (len.den ρ).toNat) := by
    simp only [List.map_cons,List.map_nil,fnD,Lin.den_add]
    have : (ro.den ρ + len.den ρ).toNat - (ro.den ρ).toNat = (len.den ρ).toNat := by omega
    rw [this]
   have hSrc : Src P sh.length tx X (((rOf (code.den ρ)).drop (ro.den ρ).toNat).take (len.den ρ).toNat).length (flatV sh (((rOf (code.den ρ)).drop (ro.den ρ).toNat).take (len.den ρ).toNat)) w := by
    rw [hX]
    by_cases hcap : cap.den ρ < 0
    ·have h0 := x11 hcap
     rw [e2 hcap,if_pos hcap,h0]
     simp only [Int.toNat_zero,List.take_zero]
     exact Src.ofNil w (slcOf_spec htx) 0
    ·rw [e3 (by omega),if_neg hcap,hlen]
     refine Src.ofSlice w (slcOf_spec htx) _ _ _ _ (by rw [flatV_len hsub,hlen]) (fun j u hu => ?_) flatV_one
     rw [addr_add]
     rcases Int.lt_or_le (capb.den ρ) 0 with h | h
     ·rw [hrr.1 h] at hu; simp [flatV] at hu
     ·obtain ⟨_,cells,tq,fz,g1,⟨_,g3⟩,_⟩ := hrr.2 h
      have := (g3.sub (ro.den ρ).toNat (len.den ρ).toNat (by omega)).flat hu
      simp only [World.cell?,g1,Option.isSome_none,Bool.false_eq_true,if_false]
      exact this
   generalize hmid : (((rOf (code.den ρ)).drop (ro.den ρ).toNat).take (len.den ρ).toNat) = mid at hsub hlen hf1 hSrc
   have hb1 : rc mid <= RB := RB_rows hsh (by omega) hsub
   refine (fnM_snd (by rw [hf1]; exact rc_nonneg _) (by rw [hf1]; exact hb1)).bind fun ρ1 n1 s hn1 ha1 ⟨g1,g2⟩ => ?_
   rw [hf1] at g2
   have eb : base.den ρ1 = base.den ρ := Lin.den_agree ha1 hbs
   have hf2 : fnD 24 ([base,s].map (·.den ρ1)) = rc (rOf (base.den ρ) ++ mid) := by
    simp only [List.map_cons,List.map_nil,fnD,eb,g2,rOf_rc]
   have hall : ∀ row ∈ rOf (base.den ρ) ++ mid,RowOk sh row := fun row hr => (List.mem_append.1 hr).elim (hbr row) (hsub row)
   have hb2 : rc (rOf (base.den ρ) ++ mid) <= RB := RB_rows hsh (by simp; omega) hall
   refine (fnM_snd (by rw [hf2]; exact rc_nonneg _) (by rw [hf2]; exact hb2)).bind fun ρ2 n2 c hn2 ha2 ⟨k1,k2⟩ => Snd.pure ⟨k1,x4.mono (Nat.le_trans hn1 hn2),?_,mid,?_,?_,hsub,by omega,hSrc⟩
   ·rw [k2,hf2]; exact ⟨rc_nonneg _,hb2⟩
   ·rw [k2,hf2,rOf_rc]
   ·rw [Lin.den_agree (ha1.trans ha2 hn1) x4,hlen]; omega
  ·exact Snd.fail
 ·rename_i l
  split
  ·rename_i hu
   refine snd_guard fun hbs1 => ?_
   have hshape : ∃ lo hi,sh = [.int .u8 lo hi] /\ lo = 0 /\ hi = 255 := by
    unfold byteSh at hbs1
    split at hbs1
    ·simp only [Bool.and_eq_true,decide_eq_true_eq] at hbs1
     exact ⟨_,_,rfl,hbs1.1,hbs1.2⟩
    ·cases hbs1
   obtain ⟨lo,hi,rfl,rfl,rfl⟩ := hshape
   have hl : (A.str l).ok n bl.length ρ := hx
   have hX : X = .string (bA (sOf (l.den ρ))) := hX
   have hlm := HB_s hl.2.2
   unfold mxL at hlm
   refine (fnM_snd (op := 0) (args := [l]) (Int.natCast_nonneg _) (by show ((sOf (l.den ρ)).length : Int) <= _; omega)).bind fun ρ1 n1 len hn1 ha1 ⟨g1,g2⟩ => chkM_snd fun hk => ?_
   have g2 : len.den ρ1 = (sOf (l.den ρ)).length := g2
   have eb : base.den ρ1 = base.den ρ := Lin.den_agree ha1 hbs
   have el : l.den ρ1 = l.den ρ := Lin.den_agree ha1 hl.1
   simp only [List.map_cons,List.map_nil,chkD,eb,g2] at hk
   have hf1 : fnD 27 ([l].map (·.den ρ1)) = rc ((sOf (l.den ρ)).map fun b => [(b.toNat : Int)]) := by
    simp only [List.map_cons,List.map_nil,fnD,el]
   have hmid : ∀ row ∈ ((sOf (l.den ρ)).map fun b => [(b.toNat : Int)]),RowOk [.int .u8 0 255] row := fun row hr => by
    obtain ⟨b,_,rfl⟩ := List.mem_map.1 hr
    have := b.toNat_lt
    refine ⟨⟨?_,?_⟩,trivial⟩
    ·simp only [CK.bd]; omega
    ·simp only [CK.bd]; omega
   have hml : ((sOf (l.den ρ)).map fun b => [(b.toNat : Int)]).length = (sOf (l.den ρ)).length := by simp
   have hfl : flatV [.int .u8 0 255] ((sOf (l.den ρ)).map fun b => [(b.toNat : Int)]) = byteCells (bA (sOf (l.den ρ))) := by
    unfold byteCells flatV bA
    simp only [List.flatMap_map]
    generalize sOf (l.den ρ) = q
    induction q with
    | nil => rfl
    | cons y r ih => rw [List.flatMap_cons,List.map_cons,ih]; rfl
   have hSrc := Src.ofString (P := P) w hu (bA (sOf (l.den ρ)))
   rw [<- hfl,bA_size,<- hX] at hSrc
   generalize hmm : ((sOf (l.den ρ)).map fun b => [(b.toNat : Int)]) = mid at hmid hml hf1 hSrc
   have hb1 : rc mid <= RB := RB_rows hsh (by omega) hmid
   refine (fnM_snd (by rw [hf1]; exact rc_nonneg _) (by rw [hf1]; exact hb1)).bind fun ρ2 n2 s hn2 ha2 ⟨h1,h2⟩ => ?_
   rw [hf1] at h2
   have eb2 : base.den ρ2 = base.den ρ := (Lin.den_agree ha2 (hbs.mono hn1)).trans eb
   have hf2 : fnD 24 ([base,s].map (·.den ρ2)) = rc (rOf (base.den ρ) ++ mid) := by
    simp only [List.map_cons,List.map_nil,fnD,eb2,h2,rOf_rc]
   have hall : ∀ row ∈ rOf (base.den ρ) ++ mid,RowOk [.int .u8 0 255] row := fun row hr => (List.mem_append.1 hr).elim (hbr row) (hmid row)
   have hb2 : rc (rOf (base.den ρ) ++ mid) <= RB := RB_rows hsh (by simp; omega) hall
   refine (fnM_snd (by rw [hf2]; exact rc_nonneg _) (by rw [hf2]; exact hb2)).bind fun ρ3 n3 c hn3 ha3 ⟨k1,k2⟩ => Snd.pure ⟨k1,g1.mono (Nat.le_trans hn2 hn3),?_,mid,?_,?_,hmid,by omega,?_⟩
   ·rw [k2,hf2]; exact ⟨rc_nonneg _,hb2⟩
   ·rw [k2,hf2,rOf_rc]
   ·rw [Lin.den_agree (ha2.trans ha3 hn2) g1,g2,hml]
   ·rw [hml]; exact hSrc
  ·exact Snd.fail
 ·split
  ·rename_i e' htx
   refine chkM_snd fun hk => Snd.pure ⟨hbs,Lin.sc_const _ _,hbb,[],by simp,by simp [Lin.den_const],fun _ h => by simp at h,?_,?_⟩
   ·simp only [List.map_cons,List.map_nil,chkD,Lin.den_const] at hk
    simp only [List.length_nil]; omega
   ·have hX : X = .slice none 0 0 := hX
    rw [hX]
    exact Src.ofNil w (slcOf_spec htx) 0
  ·exact Snd.fail
 ·exact Snd.fail
theorem run_append_room_row (w : World) (t tx ty e : TypeId) (i : TypeInfo) (ht : P.underlying t = some (.slice e)) (hi : P.info? e = some i) (g sLen sCap : Nat) (cur : Array Value) (et : TypeId) (hg : w.heap[g]? = some (.cells cur et (0,0))) (x : Value) (k : Nat) (news : List Value) (hs : Src P i.size tx x k news w)
 (hroom : sLen + k <= sCap) (hfit : sLen * i.size + news.length <= cur.size) :
 (Builtin.append_ #[t,tx] ty #[.slice (some ⟨g,0,none⟩) sLen sCap,x]).run P w = .ok (.slice (some ⟨g,0,none⟩) (sLen + k) sCap) (w.setRow g (cur.toList.take (sLen * i.size) ++ news ++ cur.toList.drop (sLen * i.size + news.length)).toArray) := by
 have hst := run_storeCells_at P g (sLen * i.size) et news 0 cur w hg (by simpa using hfit) hs.one
 simp only [Nat.add_zero] at hst
 rcases hs.kind with ⟨e',hk⟩ | hk <;> simp [Builtin.append_,run_underlying ht,run_underlying hk,sizeOf,typeInfo,hi,hs.len,hroom,hs.cells,Addr.add_lit,hst]
theorem zeroCells_size (Z : Array Value) (k : Nat) : (Builtin.zeroCells Z k).size = k * Z.size := by simp [Builtin.zeroCells]
theorem grown_le (w : World) (need old : Nat) (e : TypeId) (h : need <= 1073741824) : need <= grownCap w need old e /\ grownCap w need old e <= 9223372036854775807 := by
 have hlt := Nat.mod_lt (w.tape w.drawn (.appendCap need old e)) (show 0 < 2 ^ 63 - need by omega)
 simp only [grownCap,Question.cut]
 omega
theorem pushK_wp {kd : Nat} {tm : List V} {a : Act} {w : World} {G : Again} {K : Act -> World -> Prop} {k : SK} {e : TypeId} {d : Option Tmp} {sh : List CK} {code len : Lin} {c : Int} {g : Nat}
 (hkd : 2 <= kd) (h : R w0 n ρ m tm bl a w) (hcs : code.sc n) (hls : len.sc n) (hc1 : 0 <= code.den ρ /\ code.den ρ <= RB) (hc : -1 <= c /\ c <= 9223372036854775807) (hsl : slOk 0 0 (len.den ρ) c)
 (hnil : c < 0 -> rOf (code.den ρ) = [])
 (hlive : 0 <= c -> ∃ (cells : Array Value) (fz : Nat × Nat),(w.heap[g]? = some (.cells cells e fz) /\ FzOk kd fz cells.size) /\ RowsAt cells 0 sh (rOf (code.den ρ)) /\ cells.size = c.toNat * sh.length /\ w0.b.heap.size <= g /\ (w0.ex g ∨ w0.r.heap.size <= g))
 (hinj : ∀ (i : Nat) (p : Blk),bl[i]? = some p -> m i = g -> kindC ρ p.1 = 0 ∨ c < 0)
 (hh : (growK kd e d sh code len n tm bl k).holds S L G ρ) (hk : SKok S L w0 k n bl.length ρ m G K) :
 K (a.put d (if c < 0 then .slice none 0 0 else .slice (some ⟨g,0,none⟩) (len.den ρ).toNat c.toNat)) w := by
 unfold growK at hh
 have hh := hh c (by omega) (by omega)
 have ha : agree n ρ (upd ρ n c) := agree.upd _ _ _
 have hb1 : BlOk (n + 1) bl.length (upd ρ n c) bl := h.b.ext ha (Nat.le_succ _) (Nat.le_refl _)
 have hm1 : Mem w0 (upd ρ n c) m bl w := h.mm.rho h.b ha
 have e1 : code.den (upd ρ n c) = code.den ρ := Lin.den_agree ha hcs
 have e2 : len.den (upd ρ n c) = len.den ρ := Lin.den_agree ha hls
 have e3 : (Lin.var n).den (upd ρ n c) = c := by simp [Lin.den_var,upd_same]
 have hA : (A.rows sh (.const 0) code (.var n) kd).ok (n + 1) bl.length (upd ρ n c) := ⟨⟨Lin.sc_const _ _,hcs.mono (Nat.le_succ _),Lin.sc_var (Nat.lt_succ_self n)⟩,by rw [e1]; exact hc1,by rw [e3]; omega⟩
 have hM := hm1.push (x := ([.rows sh (.const 0) code (.var n) kd],(e,false))) (g := g) hb1 (fun y hy => by simp at hy; subst hy; exact hA) (fun ho => by cases ho) (fun sh' off' code' cap' kind' he => by
  cases he
  intro _
  refine ⟨fun h => by rw [e3] at h; rw [e1]; exact hnil h,fun h => ?_⟩
  rw [e3] at h
  obtain ⟨cells,fz,⟨g1,g1'⟩,g2,g3,g4,g5⟩ := hlive h
  exact ⟨g5.elim .inl fun h => .inr (.inr h),cells,e,fz,g1,⟨by rw [Lin.den_const]; exact Int.le_refl _,by rw [e1,Lin.den_const]; exact g2⟩,fun _ => ⟨rfl,Lin.den_const _ _,g1',by rw [e3]; exact g3,g4,g5⟩⟩) (fun i p hi he => by
  rcases hinj i p hi he with h9 | h9
  ·exact .inr (.inl (by rw [kindC_agree (h.b _ (List.mem_of_getElem? hi)) ha]; exact h9))
  ·refine .inr (.inr ?_)
   simp only [kindC,e3]
   rw [if_pos h9])
 have hL : Later n bl.length ρ m (n + 1) (bl ++ [([A.rows sh (.const 0) code (.var n) kd],(e,false))]).length (upd ρ n c) (updM m bl.length g) := ⟨Nat.le_succ _,ha,by simp,fun b hb => updM_lt hb⟩
 refine hk _ _ _ _ _ G _ _ hL (AgA.refl _ _) ⟨TRel.put (h.t.ext hL.ha hL.hn hL.hb hL.hm) d ?_ ?_,by rw [put_defers]; exact h.d,hb1.alloc (fun y hy => by simp at hy; subst hy; exact hA),hM⟩ hh
 ·refine ⟨by simp,⟨Lin.sc_const _ _,Lin.sc_const _ _,hls.mono (Nat.le_succ _),Lin.sc_var (Nat.lt_succ_self n)⟩,?_⟩
  rw [Lin.den_const,e2,e3]
  exact hsl
 ·simp only [V.rel,W.den,A.den,e2,e3,Lin.den_const,updM_same]
  split <;> simp
theorem pushR_wp {tm : List V} {a : Act} {w : World} {G : Again} {K : Act -> World -> Prop} {k : SK} {e : TypeId} {d : Option Tmp} {sh : List CK} {code len : Lin} {c : Int} {g : Nat}
 (h : R w0 n ρ m tm bl a w) (hcs : code.sc n) (hls : len.sc n) (hc1 : 0 <= code.den ρ /\ code.den ρ <= RB) (hc : -1 <= c /\ c <= 9223372036854775807) (hsl : slOk 0 0 (len.den ρ) c)
 (hnil : c < 0 -> rOf (code.den ρ) = [])
 (hlive : 0 <= c -> ∃ cells : Array Value,w.heap[g]? = some (.cells cells e (0,0)) /\ RowsAt cells 0 sh (rOf (code.den ρ)) /\ cells.size = c.toNat * sh.length /\ w0.b.heap.size <= g /\ (w0.ex g ∨ w0.r.heap.size <= g))
 (hinj : ∀ (i : Nat) (p : Blk),bl[i]? = some p -> m i = g -> kindC ρ p.1 = 0 ∨ c < 0)
 (hh : (growR e d sh code len n tm bl k).holds S L G ρ) (hk : SKok S L w0 k n bl.length ρ m G K) :
 K (a.put d (if c < 0 then .slice none 0 0 else .slice (some ⟨g,0,none⟩) (len.den ρ).toNat c.toNat)) w :=
 pushK_wp (kd := 2) (Nat.le_refl 2) h hcs hls hc1 hc hsl hnil (fun h0 => by
  obtain ⟨cells,g1,g2⟩ := hlive h0
  exact ⟨cells,(0,0),⟨g1,.mk2⟩,g2⟩) hinj hh hk
theorem growR_wp {tm : List V} {a : Act} {w : World} {G : Again} {K : Act -> World -> Prop} {k : SK} {e : TypeId} {d : Option Tmp} {sh : List CK} {code len : Lin} {rows : List (List Int)} {c : Nat} {cells : Array Value}
 (h : R w0 n ρ m tm bl a w) (hcs : code.sc n) (hls : len.sc n) (hc1 : 0 <= code.den ρ /\ code.den ρ <= RB) (hrows : rOf (code.den ρ) = rows) (hok : ∀ row ∈ rows,RowOk sh row) (hlen : len.den ρ = rows.length)
 (hcap : rows.length <= c) (hcap2 : c <= 9223372036854775807) (hcells : cells.size = c * sh.length) (hflat : ∃ post,cells.toList = flatV sh rows ++ post)
 (hh : (growR e d sh code len n tm bl k).holds S L G ρ) (hk : SKok S L w0 k n bl.length ρ m G K) :
 K (a.put d (.slice (some ⟨w.heap.size,0,none⟩) rows.length c)) (w.drew.alloc (.cells cells e)) := by
 have hdrew : R w0 n ρ m tm bl a w.drew := ⟨h.t,h.d,h.b,h.mm.grow (World.Extends.drew (World.Extends.refl w))⟩
 have hR : R w0 n ρ m tm bl a (w.drew.alloc (.cells cells e)) := ⟨h.t,h.d,h.b,hdrew.mm.grow ((World.Extends.refl w.drew).alloc _)⟩
 have key := pushR_wp (c := (c : Int)) (g := w.heap.size) hR hcs hls hc1 ⟨by omega,by omega⟩ (by rw [hlen]; exact ⟨⟨by omega,by omega,by omega,by omega⟩,⟨by omega,by omega⟩,fun h => by omega,fun _ => by omega⟩) (fun h => by omega)
  (fun _ => ⟨cells,heap_alloc_new w.drew _,by
    obtain ⟨post,hp⟩ := hflat
    rw [hrows]
    exact ⟨hok,[],post,by simpa using hp,rfl⟩,by simpa using hcells,h.mm.ext.size,.inr h.mm.hsize⟩) (fun i p hi he => by
    by_cases hk0 : kindC ρ p.1 = 0
    ·exact .inl hk0
    ·have := hdrew.mm.lt hi hk0
     have h9 : w.drew.heap.size = w.heap.size := rfl
     omega) hh hk
 rw [if_neg (by omega),hlen] at key
 simpa using key
theorem zcap_spec {nb : Nat} {v : V} {X : Value} (h : zcap v = true) (hv : v.ok n nb ρ) (hr : v.rel ρ m X) : ∃ base,X = .slice base 0 0 := by
 unfold zcap at h
 split at h
 ·rename_i b sz o ro len cap
  split at h
  ·rename_i l c hl hc
   simp only [Bool.and_eq_true,decide_eq_true_eq] at h
   have e1 := Lin.den_isC hl (ρ := ρ)
   have e2 := Lin.den_isC hc (ρ := ρ)
   have hr : X = (A.sl b sz o ro len cap).den ρ m := hr
   simp only [A.den,e1,e2,h.1,h.2] at hr
   exact ⟨_,hr⟩
  ·cases h
 ·rename_i b off len cap
  simp only [Bool.and_eq_true] at h
  have e1 := Nat.eq_of_beq_eq_true h.1
  have e2 := Nat.eq_of_beq_eq_true h.2
  subst e1; subst e2
  exact ⟨_,hr⟩
 ·exact ⟨none,hr⟩
 ·cases h
theorem firstCells_zero (w : World) (size : Nat) (base : Option Addr) (c : Nat) : (Builtin.firstCells size 0 (.slice base 0 c)).run P w = .ok #[] w := by
 cases base with
 | none => exact run_firstCells_none w size 0 0 c
 | some b => exact run_firstCells_some w size 0 b 0 c [] (by simp) (fun j v h => by simp at h)
theorem R.later {n' : Nat} {ρ' : Env} {tm : List V} {a : Act} {w : World} (h : R w0 n ρ m tm bl a w) (hn : n <= n') (ha : agree n ρ ρ') : R w0 n' ρ' m tm bl a w :=
 ⟨h.t.ext ha hn (Nat.le_refl _) (fun _ _ => rfl),h.d,h.b.ext ha hn (Nat.le_refl _),h.mm.rho h.b ha⟩
theorem rOf_zero : rOf 0 = [] := rOf_rc []
theorem R.kill {tm : List V} {a : Act} {w : World} {b k : Nat} {sh : List CK} {off code cap : Lin} {t : TypeId × Bool} (h : R w0 n ρ m tm bl a w) (hbl : bl[b]? = some ([.rows sh off code cap k],t)) : R w0 n ρ m tm (setB bl b ([.rows sh off code cap 0],t)) a w :=
 ⟨by rw [setB_length]; exact h.t,h.d,h.b.set (fun y hy => by
  simp at hy; subst hy
  exact h.b _ (List.mem_of_getElem? hbl) (.rows sh off code cap k) (by simp)),h.mm.kill hbl⟩
theorem appR_wp {tm : List V} {a : Act} {w : World} {G : Again} {o : Oper} {K : Act -> World -> Prop} {Q : Exit -> Act -> World -> Prop} {k : SK} {c : Call} {s x : Operand} {t t' : TypeId} {T0 : T}
 (h : R w0 n ρ m tm bl a w) (hop : o.op = .call c) (hcl : c.callee = .builtin .append) (hxs : c.args.toList = [s,x]) (hts : c.argTypes.toList = [t,t'])
 (hT : appR P o.dst t t' (opV tm s) (opV tm x) n tm bl k = some T0) (hh : T0.holds S L G ρ) (hk : SKok S L w0 k n bl.length ρ m G K) : o.wp P a w K Q := by
 have a1 : c.args = #[s,x] := by rw [<- Array.toArray_toList (xs := c.args),hxs]
 have a2 : c.argTypes = #[t,t'] := by rw [<- Array.toArray_toList (xs := c.argTypes),hts]
 have hex : execOp a.eval o = (do pure (Next.value (<- Builtin.append_ #[t,t'] o.type #[a.eval s,a.eval x]))) := by
  simp [execOp,hop,resolve,hcl,a1,a2,invoke,builtin]
 have hwp : ∀ v w',(Builtin.append_ #[t,t'] o.type #[a.eval s,a.eval x]).run P w = .ok v w' -> K (a.put o.dst v) w' -> o.wp P a w K Q := fun v w' h1 h2 => by
  unfold Oper.wp
  simp only [hex,Sem.run_bind,h1,Result.andThen_ok,Sem.run_pure]
  exact h2
 have hs := opV_spec h.t s
 have hx := opV_spec h.t x
 unfold appR at hT
 split at hT
 ·cases hT
 rename_i e hse
 split at hT
 rotate_left
 ·cases hT
 rename_i i z hi hz
 obtain ⟨inf,zv,hi',hzz,hcz⟩ := zeroL_spec hz
 rw [hi] at hi'
 simp only [Option.some.injEq] at hi'
 subst hi'
 have hzl : zv.cells.size = z.length := by
  have := (constL_spec hcz n bl.length ρ m).2
  have := congrArg List.length this
  simpa using this.symm
 split at hT
 ·
  rename_i hzc
  obtain ⟨base,hsr⟩ := zcap_spec hzc hs.1 hs.2
  split at hT
  rotate_left
  ·cases hT
  rename_i sh _
  cases hgd : goodR sh i z with
  | false => simp [hgd] at hT
  | true =>
  simp only [hgd,cond_true,Option.some.injEq] at hT
  subst hT
  unfold goodR at hgd
  simp only [Bool.and_eq_true] at hgd
  obtain ⟨⟨⟨d1,d2⟩,d3⟩,d4⟩ := hgd
  have d2 := Nat.eq_of_beq_eq_true d2
  have d3 := Nat.eq_of_beq_eq_true d3
  have d4 := Nat.le_of_ble_eq_true d4
  unfold freshR at hh
  have e0 : (Lin.const 0).den ρ = 0 := Lin.den_const _ _
  obtain ⟨ρ',n',p,hn,ha,⟨q1,q2,q3,rows',q4,q5,q6,q7,q8⟩,hh⟩ := (srcM_snd (P := P) d1 h.b h.mm hx.1 hx.2 (Lin.sc_const _ _) (by rw [e0]; exact ⟨Int.le_refl _,by have := RB_c (l := []) (by simp) (by simp); exact Int.le_trans (rc_nonneg []) this⟩) (by rw [e0,rOf_zero]; simp)) G _ hh
  rw [e0,rOf_zero,List.nil_append] at q4
  rw [e0,rOf_zero] at q7
  simp only [List.length_nil,Nat.zero_add] at q7
  have hR' := h.later hn ha
  have hk' := hk.later (G1 := G) (⟨hn,ha,Nat.le_refl _,fun _ _ => rfl⟩ : Later n bl.length ρ m n' bl.length ρ' m) (AgA.refl _ _)
  rw [<- d2] at q8
  have hnone : rows'.length = 0 -> (k n' (putV tm o.dst (opV tm s)) bl).holds S L G ρ' -> o.wp P a w K Q := fun h0 hh0 => by
   have hr0 : rows' = [] := List.eq_nil_of_length_eq_zero h0
   subst hr0
   refine hwp _ _ (by rw [hsr]; exact run_append_nothing w t t' o.type e i (slcOf_spec hse) hi base 0 0 (Nat.le_refl _) _ q8) ?_
   refine hk' n' ρ' m _ bl G _ w (Later.refl _ _ _ _) (AgA.refl _ _) ⟨TRel.put hR'.t o.dst (opV_spec hR'.t s).1 ?_,by rw [put_defers]; exact h.d,hR'.b,hR'.mm⟩ hh0
   rw [<- hsr]; exact (opV_spec hR'.t s).2
  have hgrow : 0 < rows'.length -> (growR e o.dst sh p.1 p.2 n' tm bl k).holds S L G ρ' -> o.wp P a w K Q := fun h0 hh0 => by
   have hcapl := grown_le w (0 + rows'.length) 0 e (by omega)
   refine hwp _ _ (by rw [hsr]; exact run_append_grow_src w t t' o.type e i zv (slcOf_spec hse) hi hzz base 0 0 [] (firstCells_zero _ _ _ _) _ _ _ q8 (by omega) (by omega) (growslice_fits (by omega) (by
    have := Nat.mul_le_mul (show 0 + rows'.length <= 1073741824 by omega) d4
    omega))) ?_
   have key := growR_wp (c := grownCap w (0 + rows'.length) 0 e) (cells := ([] ++ flatV sh rows').toArray ++ Builtin.zeroCells zv.cells (grownCap w (0 + rows'.length) 0 e - (0 + rows'.length))) hR' q1 q2 q3 q4 q6 q5 (by omega) hcapl.2 (by
    have := q8.newsLen
    rw [Array.size_append,zeroCells_size,hzl,d3,List.size_toArray,List.nil_append,this,d2,<- Nat.add_mul]
    congr 1; omega) ⟨(Builtin.zeroCells zv.cells (grownCap w (0 + rows'.length) 0 e - (0 + rows'.length))).toList,by simp⟩ hh0 hk'
   simpa using key
  split at hh
  ·rename_i hc0
   have := Lin.den_isC hc0 (ρ := ρ')
   exact hnone (by omega) hh
  ·rename_i cc hc0 hne
   have := Lin.den_isC hne (ρ := ρ')
   exact hgrow (by
    have : cc ≠ 0 := fun e => hc0 e
    omega) hh
  ·simp only [T.holds,BE.den,Lin.den_const,decide_eq_true_eq,decide_eq_false_iff_not] at hh
   by_cases h0 : rows'.length = 0
   ·exact hnone h0 (hh.1 (by omega))
   ·exact hgrow (by omega) (hh.2 (by omega))
 ·split at hT
  rotate_left
  ·cases hT
  rename_i b sz off ro len cap hsv
  split at hT
  rotate_left
  ·cases hT
  rename_i sh off' code capb kind bt hbl
  cases hgd : (goodR sh i z && Nat.beq kind 2 && Lin.beq off (.const 0) && Lin.beq off' (.const 0) && Lin.beq ro (.const 0) && Lin.beq cap capb && Nat.beq bt.1 e) with
  | false => rw [hgd] at hT; cases hT
  | true =>
  rw [hgd] at hT
  simp only [cond_true,Option.some.injEq] at hT
  subst hT
  simp only [Bool.and_eq_true] at hgd
  obtain ⟨⟨⟨⟨⟨⟨hgd,k2⟩,b1⟩,b2⟩,b3⟩,b4⟩,b5⟩ := hgd
  have b5 := Nat.eq_of_beq_eq_true b5
  have k2 := Nat.eq_of_beq_eq_true k2
  have b1 := Lin.beq_eq b1
  have b2 := Lin.beq_eq b2
  have b3 := Lin.beq_eq b3
  have b4 := Lin.beq_eq b4
  subst k2; subst b1; subst b2; subst b3; subst b4
  unfold goodR at hgd
  simp only [Bool.and_eq_true] at hgd
  obtain ⟨⟨⟨d1,d2⟩,d3⟩,d4⟩ := hgd
  have d2 := Nat.eq_of_beq_eq_true d2
  have d3 := Nat.eq_of_beq_eq_true d3
  have d4 := Nat.le_of_ble_eq_true d4
  obtain ⟨hk31,hh⟩ := hh
  simp only [List.map_cons,List.map_nil,chkD] at hk31
  rw [hsv] at hs
  have hsok : (A.sl b sz (.const 0) (.const 0) len cap).ok n bl.length ρ := hs.1
  obtain ⟨ptr,e1,e2,e3⟩ := sl_den (m := m) hsok
  have hsr : a.eval s = (A.sl b sz (.const 0) (.const 0) len cap).den ρ m := hs.2
  rw [e1] at hsr
  obtain ⟨x1,⟨x2,x3,x4,x5⟩,⟨x6,x7,x8,x9⟩,⟨x10,x13⟩,x11,x12⟩ := hsok
  rw [Lin.den_const] at x13
  have hrr := h.mm.rws b sh (.const 0) code cap 2 bt hbl (by decide)
  have hAok : (A.rows sh (.const 0) code cap 2).ok n bl.length ρ := h.b _ (List.mem_of_getElem? hbl) _ (by simp)
  obtain ⟨⟨r1,r2,r3⟩,r4,r5⟩ := hAok
  have hrk : ∀ row ∈ rOf (code.den ρ),RowOk sh row := fun row hr => by
   rcases Int.lt_or_le (cap.den ρ) 0 with h | h
   ·rw [hrr.1 h] at hr; simp at hr
   ·obtain ⟨_,cells,tq,fz,_,⟨_,g3⟩,_⟩ := hrr.2 h
    exact g3.1 row hr
  obtain ⟨ρ',n',p,hn,ha,⟨q1,q2,q3,rows',q4,q5,q6,q7,q8⟩,hh⟩ := (srcM_snd (P := P) d1 h.b h.mm hx.1 hx.2 r2 r4 hrk) G _ hh
  rw [<- d2] at q8
  generalize hrows : rOf (code.den ρ) = rows at *
  have hkl := h.kill hbl
  have hR' := hkl.later hn ha
  have hb1 := setB_length bl b ([.rows sh (.const 0) code cap 0],bt)
  have hk' : SKok S L w0 k n' (setB bl b ([.rows sh (.const 0) code cap 0],bt)).length ρ' m G K := by
   rw [hb1]
   exact hk.later (⟨hn,ha,Nat.le_refl _,fun _ _ => rfl⟩ : Later n bl.length ρ m n' bl.length ρ' m) (AgA.refl _ _)
  have hlenL : (len.add p.2).den ρ' = (rows ++ rows').length := by
   rw [Lin.den_add,Lin.den_agree ha x4,q5,hk31]; simp
  have hall : ∀ row ∈ rows ++ rows',RowOk sh row := fun row hr => (List.mem_append.1 hr).elim (hrk row) (q6 row)
  have hnl := q8.newsLen
  have hln : (len.den ρ).toNat = rows.length := by omega
  have hcd : cap.den ρ' = cap.den ρ := Lin.den_agree ha x5
  have hlsc : (len.add p.2).sc n' := Lin.sc_add (x4.mono hn) q2
  have hlL2 : (rows ++ rows').length = rows.length + rows'.length := List.length_append
  have hfl : (flatV sh rows).length = rows.length * i.size := by rw [flatV_len hrk,d2]
  by_cases hroom : ((rows.length + rows'.length : Nat) : Int) <= cap.den ρ ∨ (cap.den ρ < 0 /\ rows'.length = 0)
  ·by_cases hc0 : cap.den ρ < 0
   ·
    have hr0 : rows'.length = 0 := by rcases hroom with h | h <;> omega
    have hr0 : rows' = [] := List.eq_nil_of_length_eq_zero hr0
    subst hr0
    have hrows0 : rows = [] := hrr.1 hc0
    subst hrows0
    have hl0 := x11 hc0
    refine hwp _ _ (by rw [hsr,e2 hc0,if_pos hc0,hl0]; exact run_append_nothing w t t' o.type e i (slcOf_spec hse) hi none 0 0 (Nat.le_refl _) _ q8) ?_
    have key := pushR_wp (c := -1) (g := w.heap.size) hR' q1 hlsc q3 ⟨by omega,by omega⟩ (by rw [hlenL]; exact ⟨⟨by omega,by omega,by omega,by omega⟩,⟨by omega,by omega⟩,fun h => by simp,fun h => by omega⟩) (fun _ => by rw [q4]; rfl) (fun h => by omega) (fun _ _ _ _ => .inr (by omega)) hh hk'
    rw [if_pos (by omega)] at key
    exact key
   ·
    obtain ⟨_,cells,tq,fz,g1,⟨g2,g3⟩,g4⟩ := hrr.2 (by omega)
    obtain ⟨g0,g5,g6,g7,g8,g9⟩ := g4 (by decide)
    subst g0
    have g6 := g6.two
    subst g6
    rw [Lin.den_const] at g3
    obtain ⟨_,pre,post,g10,g11⟩ := g3
    have hpre : pre = [] := List.eq_nil_of_length_eq_zero (by simpa using g11)
    subst hpre
    simp only [List.nil_append] at g10
    have hsz : cells.size = (flatV sh rows).length + post.length := by rw [<- Array.length_toList,g10,List.length_append]
    have hroom' : rows.length + rows'.length <= (cap.den ρ).toNat := by rcases hroom with h | h <;> omega
    have hfit : rows.length * i.size + (flatV sh rows').length <= cells.size := by
     rw [hnl,g7,<- Nat.add_mul,d2]
     exact Nat.mul_le_mul_right _ hroom'
    have hrun := run_append_room_row w t t' o.type e i (slcOf_spec hse) hi (m b) rows.length (cap.den ρ).toNat cells bt.1 g1 _ _ _ q8 hroom' hfit
    have hsr' : a.eval s = .slice (some ⟨m b,0,none⟩) rows.length (cap.den ρ).toNat := by
     rw [hsr,e3 (by omega),if_neg hc0,hln,Lin.den_const]; simp
    refine hwp _ _ (by rw [hsr']; exact hrun) ?_
    have hnew : (cells.toList.take (rows.length * i.size) ++ flatV sh rows' ++ cells.toList.drop (rows.length * i.size + (flatV sh rows').length)) = flatV sh (rows ++ rows') ++ cells.toList.drop (rows.length * i.size + (flatV sh rows').length) := by
     rw [flatV_append,g10,List.take_append_of_le_length (by omega),<- hfl,List.take_length]
    rw [hnew]
    have hmput := h.mm.put (kd := 2) (cells := cells) (fz := (0,0)) (code' := code) (by decide) hbl (by omega) (row := (flatV sh (rows ++ rows') ++ cells.toList.drop (rows.length * i.size + (flatV sh rows').length)).toArray) (fun _ => ⟨fun h => by omega,fun _ => ⟨g9.elim .inl fun h => .inr (.inr h),_,_,(0,0),setRow_heap w (m b) _ _ _ _ g1,⟨g2,by
     rw [hrows,Lin.den_const]
     exact ⟨hrk,[],flatV sh rows' ++ cells.toList.drop (rows.length * i.size + (flatV sh rows').length),by simp [flatV_append],rfl⟩⟩,fun _ => ⟨rfl,g5,.mk2,by
     rw [<- g7]; simp only [List.size_toArray,List.length_append,List.length_drop,Array.length_toList,flatV_append]; omega,g8,g9⟩⟩⟩)
    have hself : setB bl b ([.rows sh (.const 0) code cap 2],bt) = bl := by
     rw [setB_eq]
     exact List.ext_getElem? fun j => by
      rw [List.getElem?_set]
      split
      ·rename_i hj
       subst hj
       first | exact hbl.symm | (rw [if_pos (List.getElem?_eq_some_iff.1 hbl).1]; exact hbl.symm)
      ·rfl
    rw [hself] at hmput
    have hR2 : R w0 n ρ m tm bl a (w.setRow (m b) (flatV sh (rows ++ rows') ++ cells.toList.drop (rows.length * i.size + (flatV sh rows').length)).toArray) := ⟨h.t,h.d,h.b,hmput⟩
    have hR3 := (hR2.kill hbl).later hn ha
    have key := pushR_wp (e := e) (d := o.dst) (c := cap.den ρ) (g := m b) hR3 q1 hlsc q3 ⟨by omega,by omega⟩ (by rw [hlenL,hlL2]; exact ⟨⟨by omega,by omega,by omega,by omega⟩,⟨by omega,by omega⟩,fun h => by omega,fun h => by omega⟩) (fun h => by omega)
     (fun _ => ⟨_,by rw [<- b5]; exact setRow_heap w (m b) _ _ _ _ g1,by
       rw [q4]
       exact ⟨hall,[],cells.toList.drop (rows.length * i.size + (flatV sh rows').length),by simp,rfl⟩,by
       rw [<- g7]; simp only [List.size_toArray,List.length_append,List.length_drop,Array.length_toList,flatV_append]; omega,g8,g9⟩) (fun j q hj he => by
       by_cases hjb : j = b
       ·subst hjb
        rw [setB_eq,List.getElem?_set_self (List.getElem?_eq_some_iff.1 hbl).1] at hj
        simp only [Option.some.injEq] at hj
        subst hj
        exact .inl (by simp [kindC])
       ·rw [setB_eq,List.getElem?_set_ne (fun e => hjb e.symm)] at hj
        have hkb : kindC ρ [A.rows sh (.const 0) code cap 2] = 2 := kindC_rows (by decide) (by omega)
        have hkq : kindC ρ q.1 = 0 := by
         rcases h.mm.inj j b q _ hj hbl he with h9 | h9 | h9 | h9
         ·exact absurd h9 hjb
         ·have := h9.2; simp only [hkb] at this; omega
         ·exact h9
         ·simp only [hkb] at h9; omega
        exact .inl (by rw [kindC_agree (h.b _ (List.mem_of_getElem? hj)) ha]; exact hkq)) hh hk'
    rw [if_neg hc0,hlenL,hlL2,Int.toNat_natCast] at key
    exact key
  ·
   have hgt : (if cap.den ρ < 0 then 0 else (cap.den ρ).toNat) < rows.length + rows'.length := by
    split
    ·rename_i hc
     have : ¬ rows'.length = 0 := fun e => hroom (.inr ⟨hc,e⟩)
     omega
    ·omega
   have hold : (Builtin.firstCells i.size rows.length (.slice ptr rows.length (if cap.den ρ < 0 then 0 else (cap.den ρ).toNat))).run P w.drew = .ok (flatV sh rows).toArray w.drew := by
    by_cases hc : cap.den ρ < 0
    ·have hrows0 : rows = [] := hrr.1 hc
     subst hrows0
     exact firstCells_zero _ _ _ _
    ·obtain ⟨_,cells,tq,fz,g1,⟨g2,g3⟩,g4⟩ := hrr.2 (by omega)
     rw [e3 (by omega)]
     refine run_firstCells_some w.drew i.size rows.length _ rows.length _ (flatV sh rows) hfl fun j v hv => ?_
     rw [addr_add,Lin.den_const]
     have := g3.flat hv
     rw [Lin.den_const] at this
     have g1' : w.drew.heap[m b]? = some (.cells cells tq fz) := g1
     simp only [World.cell?,g1',Option.isSome_none,Bool.false_eq_true,if_false]
     simpa using this
   have hcapl := grown_le w (rows.length + rows'.length) (if cap.den ρ < 0 then 0 else (cap.den ρ).toNat) e q7
   refine hwp _ _ (by rw [hsr,hln]; exact run_append_grow_src w t t' o.type e i zv (slcOf_spec hse) hi hzz ptr rows.length _ (flatV sh rows) hold _ _ _ q8 hgt (by omega) (growslice_fits hgt (by
    have := Nat.mul_le_mul q7 d4
    omega))) ?_
   have key := growR_wp (e := e) (d := o.dst) (c := grownCap w (rows.length + rows'.length) (if cap.den ρ < 0 then 0 else (cap.den ρ).toNat) e) (cells := (flatV sh rows ++ flatV sh rows').toArray ++ Builtin.zeroCells zv.cells (grownCap w (rows.length + rows'.length) (if cap.den ρ < 0 then 0 else (cap.den ρ).toNat) e - (rows.length + rows'.length))) hR' q1 hlsc q3 q4 hall hlenL (by rw [hlL2]; exact hcapl.1) hcapl.2 (by
    rw [Array.size_append,zeroCells_size,hzl,d3,List.size_toArray,List.length_append,hfl,hnl,<- Nat.add_mul,d2,<- Nat.add_mul]
    congr 1; omega) ⟨(Builtin.zeroCells zv.cells (grownCap w (rows.length + rows'.length) (if cap.den ρ < 0 then 0 else (cap.den ρ).toNat) e - (rows.length + rows'.length))).toList,by rw [flatV_append]; simp⟩ hh hk'
   rw [hlL2] at key
   exact key
theorem stepR_wp {tm : List V} {a : Act} {w : World} {G : Again} {o : Oper} {K : Act -> World -> Prop} {Q : Exit -> Act -> World -> Prop} {k : SK} {T0 : T}
 (h : R w0 n ρ m tm bl a w) (hT : stepR P o n tm bl k = some T0) (hh : T0.holds S L G ρ) (hk : SKok S L w0 k n bl.length ρ m G K) : o.wp P a w K Q := by
 unfold stepR at hT
 split at hT
 ·rename_i c ho
  split at hT
  ·rename_i hc
   split at hT
   ·rename_i s x t t' hxs hts
    exact appR_wp h ho hc hxs hts hT hh hk
   ·cases hT
  ·cases hT
 ·cases hT
end
end Go.Rx
set_option linter.unusedVariables false
set_option linter.unusedSimpArgs false
namespace Go.Rx
open M
theorem rowV_app : ∀ {s1 s2 : List CK} {l1 l2 : List Int},l1.length = s1.length -> rowV (s1 ++ s2) (l1 ++ l2) = rowV s1 l1 ++ rowV s2 l2
 | [],_,[],_,_ => rfl
 | c :: s1,s2,z :: l1,l2,h => by
  simp only [List.cons_append,rowV,rowV_app (s1 := s1) (s2 := s2) (l1 := l1) (l2 := l2) (by simpa using h)]
 | [],_,_ :: _,_,h => by simp at h
 | _ :: _,_,[],_,h => by simp at h
theorem RowOk_app : ∀ {s1 s2 : List CK} {l1 l2 : List Int},l1.length = s1.length -> (RowOk (s1 ++ s2) (l1 ++ l2) ↔ RowOk s1 l1 /\ RowOk s2 l2)
 | [],_,[],_,_ => by simp [RowOk]
 | c :: s1,s2,z :: l1,l2,h => by
  simp only [List.cons_append,RowOk,RowOk_app (s1 := s1) (s2 := s2) (l1 := l1) (l2 := l2) (by simpa using h),and_assoc]
 | [],_,_ :: _,_,h => by simp at h
 | _ :: _,_,[],_,h => by simp at h
theorem row_put {sh : List CK} {row ls : List Int} {j s : Nat} (h : RowOk sh row) (hl : RowOk ((sh.drop j).take s) ls) (hj : j + s <= sh.length) :
 RowOk sh (row.take j ++ ls ++ row.drop (j + ls.length)) /\ rowV sh (row.take j ++ ls ++ row.drop (j + ls.length)) = (rowV sh row).take j ++ rowV ((sh.drop j).take s) ls ++ (rowV sh row).drop (j + s) := by
 have hlen := h.len
 have hll : ls.length = s := by rw [hl.len]; simp; omega
 have e : sh = sh.take j ++ ((sh.drop j).take s ++ sh.drop (j + s)) := by
  rw [<- List.drop_drop,List.take_append_drop,List.take_append_drop]
 have er : row = row.take j ++ ((row.drop j).take s ++ row.drop (j + s)) := by
  rw [<- List.drop_drop,List.take_append_drop,List.take_append_drop]
 have l1 : (row.take j).length = (sh.take j).length := by simp [hlen]
 have l2 : ((row.drop j).take s).length = ((sh.drop j).take s).length := by simp [hlen]
 have l3 : ls.length = ((sh.drop j).take s).length := hl.len
 have h0 : RowOk (sh.take j ++ ((sh.drop j).take s ++ sh.drop (j + s))) (row.take j ++ ((row.drop j).take s ++ row.drop (j + s))) := by rw [<- e,<- er]; exact h
 rw [RowOk_app l1,RowOk_app l2] at h0
 have hv : rowV sh row = rowV (sh.take j) (row.take j) ++ (rowV ((sh.drop j).take s) ((row.drop j).take s) ++ rowV (sh.drop (j + s)) (row.drop (j + s))) := by
  conv => lhs; rw [e,er]
  rw [rowV_app l1,rowV_app l2]
 have k1 : (rowV (sh.take j) (row.take j)).length = j := by rw [rowV_len h0.1]; simp; omega
 have k2 : (rowV ((sh.drop j).take s) ((row.drop j).take s)).length = s := by rw [rowV_len h0.2.1]; simp; omega
 rw [hll]
 refine ⟨?_,?_⟩
 ·rw [List.append_assoc]
  conv => lhs; rw [e]
  rw [RowOk_app l1,RowOk_app l3]
  exact ⟨h0.1,hl,h0.2.2⟩
 ·rw [List.append_assoc]
  conv => lhs; rw [e]
  have ht : (rowV sh row).take j = rowV (sh.take j) (row.take j) := by rw [hv]; exact List.take_left' k1
  have hd : (rowV sh row).drop (j + s) = rowV (sh.drop (j + s)) (row.drop (j + s)) := by
   rw [hv,<- List.append_assoc]; exact List.drop_left' (by rw [List.length_append,k1,k2])
  rw [rowV_app l1,rowV_app l3,ht,hd,List.append_assoc]
theorem flatV_split {sh : List CK} : ∀ {rows : List (List Int)} {i : Nat} {row : List Int},rows[i]? = some row -> flatV sh rows = flatV sh (rows.take i) ++ (rowV sh row ++ flatV sh (rows.drop (i + 1)))
 | r :: rs,0,row,h => by simp at h; subst h; simp [flatV]
 | r :: rs,i + 1,row,h => by
  have ih := flatV_split (sh := sh) (rows := rs) (i := i) (by simpa using h)
  simp only [flatV,List.flatMap_cons,List.take_succ_cons,List.drop_succ_cons] at ih ⊢
  rw [ih,List.append_assoc]
 | [],_,_,h => by simp at h
theorem flatV_set {sh : List CK} {rows : List (List Int)} {i : Nat} {row row' : List Int} (h : rows[i]? = some row) : flatV sh (rows.set i row') = flatV sh (rows.take i) ++ (rowV sh row' ++ flatV sh (rows.drop (i + 1))) := by
 have hlt := (List.getElem?_eq_some_iff.1 h).1
 have := flatV_split (sh := sh) (rows := rows.set i row') (i := i) (row := row') (by simp [hlt])
 rw [this,List.take_set,List.drop_set_of_lt (by omega)]
 congr 1
 congr 1
 rw [List.set_eq_of_length_le (by simp; omega)]
theorem run_storeCells_fz {P : Program} (g o : Nat) (t : TypeId) (fz : Nat × Nat) (kd : Nat) : ∀ (vs : List Value) (i : Nat) (cur : Array Value) (w : World),FzOk kd fz cur.size -> w.heap[g]? = some (.cells cur t fz) -> o + i + vs.length <= cur.size -> (∀ v ∈ vs,v.oneCell' = true) ->
 (storeCells ⟨g,o,none⟩ vs i).run P w = .ok () (w.setRow g (cur.toList.take (o + i) ++ vs ++ cur.toList.drop (o + i + vs.length)).toArray)
 | [],i,cur,w,_,hg,_,_ => by
  simp only [storeCells,List.append_nil,List.length_nil,Nat.add_zero,List.take_append_drop,Array.toArray_toList]
  rw [setRow_self w g cur t fz hg]
  rfl
 | v :: rest,i,cur,w,hfz,hg,hl,h1 => by
  have hi : o + i < cur.size := by simp at hl; omega
  have hcell : w.cell? ⟨g,o + i,none⟩ = some cur[o + i] := by simp [World.cell?,hg,hi]
  have hfro : w.frozen? ⟨g,o + i,none⟩ = false := by
   rcases hfz with ⟨_,rfl⟩ | ⟨_,rfl⟩
   ·simp [World.frozen?,hg]
   ·simp [World.frozen?,hg]; omega
  have hst : (store ((⟨g,o,none⟩ : Addr).add i) v).run P w = .ok () (w.setRow g (cur.setIfInBounds (o + i) v)) := by
   rw [addr_add,run_store P w _ v _ (h1 v (by simp)),hcell]
   simp [hfro,setCell_eq_setRow w g (o + i) cur t fz v hg]
  have ih := run_storeCells_fz (P := P) g o t fz kd rest (i + 1) (cur.setIfInBounds (o + i) v) (w.setRow g (cur.setIfInBounds (o + i) v)) (by simpa using hfz) (setRow_heap w g cur _ t _ hg) (by simp at hl ⊢; omega) (fun x hx => h1 x (by simp [hx]))
  simp only [storeCells,Sem.run_bind,hst,Result.andThen_ok,ih,setRow_setRow]
  congr 3
  have e := list_seg_step cur.toList (o + i) v rest (by simp at hl ⊢; omega)
  simpa [Array.toList_setIfInBounds,Nat.add_assoc] using e
section
variable {S : Nat -> List Int -> List Int -> Prop} {L : V -> Env -> Prop} {n : Nat} {ρ : Env} {m : Nat -> Nat} {bl : List Blk} {gl : Glo} {w0 : Base} {P : Program}
theorem intL_val {tm : List V} {a : Act} (h : TRel n bl.length ρ m tm a.tmps) {x : Operand} {l : Lin} (hl : intL (opV tm x) = some l) : ∃ k,a.eval x = .int k (l.den ρ) /\ l.sc n := by
 have hx := opV_spec h x
 unfold intL at hl
 split at hl
 ·rename_i k iv hv
  simp only [Option.some.injEq] at hl
  subst hl
  rw [hv] at hx
  exact ⟨k,hx.2,hx.1.1⟩
 ·cases hl
theorem stepW_wp {tm : List V} {a : Act} {w : World} {G : Again} {o : Oper} {K : Act -> World -> Prop} {Q : Exit -> Act -> World -> Prop} {k : SK} {T0 : T}
 (h : R w0 n ρ m tm bl a w) (hT : stepW P o n tm bl k = some T0) (hh : T0.holds S L G ρ) (hk : SKok S L w0 k n bl.length ρ m G K) : o.wp P a w K Q := by
 unfold stepW at hT
 split at hT
 ·rename_i t p x ho
  have hp := opV_spec h.t p
  have hx := opV_spec h.t x
  split at hT
  ·rename_i b sz o' i j u hpv hxv
   rw [hpv] at hp
   rw [hxv] at hx
   split at hT
   ·rename_i sh off code cap kind bt s hbl hs
    cases hc : (Nat.ble 2 kind && Nat.beq sz sh.length && Lin.beq o' off && Nat.beq u.cells.length s && Nat.blt 0 s && Nat.ble (j + s) sh.length && shOk sh) with
    | false => rw [hc] at hT; cases hT
    | true =>
     rw [hc] at hT
     simp only [cond_true,Option.some.injEq] at hT
     subst hT
     simp only [Bool.and_eq_true] at hc
     obtain ⟨⟨⟨⟨⟨⟨c1,c2⟩,c3⟩,c4⟩,c5⟩,c6⟩,c7⟩ := hc
     have c1 := Nat.le_of_ble_eq_true c1; have c2 := Nat.eq_of_beq_eq_true c2; have c3 := Lin.beq_eq c3; have c4 := Nat.eq_of_beq_eq_true c4; have c5 := blt_lt c5; have c6 := Nat.le_of_ble_eq_true c6
     subst c2; subst c3; subst c4
     have hpr : a.eval p = .pointer (some ⟨m b,(o'.den ρ).toNat + (i.den ρ).toNat * sh.length + j,none⟩) := hp.2
     have hxr : a.eval x = u.den ρ m := hx.2
     have hpo : (A.ep b sh.length o' i j).ok n bl.length ρ := hp.1
     have hAok : (A.rows sh o' code cap kind).ok n bl.length ρ := h.b _ (List.mem_of_getElem? hbl) _ (by simp)
     have hcs : Snd S L (bind (chkM 21 [code,i]) fun _ => bind (asmM 67 [code,i,.const sh.length]) fun _ => bind (rowLinM ((sh.drop j).take u.cells.length) u.cells) fun ls => bind (fnM 42 (code :: i :: .const j :: ls) 0 RB) fun code' => pure code') n ρ fun ρ' n' code' => code'.sc n' /\ (0 <= code'.den ρ' /\ code'.den ρ' <= RB) /\ (0 <= i.den ρ /\ i.den ρ < (rOf (code.den ρ)).length) /\
      ∃ ls : List Int,RowOk ((sh.drop j).take u.cells.length) ls /\ rowV ((sh.drop j).take u.cells.length) ls = u.cells.map (A.den ρ m) /\
       rOf (code'.den ρ') = (rOf (code.den ρ)).set (i.den ρ).toNat (((rOf (code.den ρ)).getD (i.den ρ).toNat []).take j ++ ls ++ ((rOf (code.den ρ)).getD (i.den ρ).toNat []).drop (j + ls.length)) := by
      refine chkM_snd fun hk1 => ?_
      have hk1 : 0 <= i.den ρ /\ i.den ρ < (rOf (code.den ρ)).length := hk1
      have hlt : (i.den ρ).toNat < (rOf (code.den ρ)).length := by omega
      have hcap : 0 <= cap.den ρ := by
       rcases Int.lt_or_le (cap.den ρ) 0 with hcn | hcn
       ·have := (h.mm.rws b sh o' code cap kind bt hbl (by omega)).1 hcn
        rw [this] at hlt; simp at hlt
       ·exact hcn
      obtain ⟨_,cells,tq,fz,q1,⟨q2,q3⟩,q4⟩ := (h.mm.rws b sh o' code cap kind bt hbl (by omega)).2 hcap
      have hget : (rOf (code.den ρ)).getD (i.den ρ).toNat [] = (rOf (code.den ρ))[(i.den ρ).toNat] := by simp [List.getD,hlt]
      have hrow : RowOk sh ((rOf (code.den ρ)).getD (i.den ρ).toNat []) := by rw [hget]; exact q3.1 _ (List.getElem_mem hlt)
      refine (asmM_snd (op := 67) (ls := [code,i,.const sh.length]) (by simp only [List.map_cons,List.map_nil,chkD,Lin.den_const,Int.toNat_natCast]; exact hrow.len)).bind fun ρ0 n0 _ _ _ ⟨hρ0,hn0⟩ => ?_
      have hρ0 := hρ0.symm; have hn0 := hn0.symm
      subst hρ0; subst hn0
      refine (rowLinM_snd (nb := bl.length) (m := m) (fun y hy => W.cells_ok hx.1 y hy)).bind fun ρ1 n1 ls hn1 ha1 ⟨g1,g2,g3⟩ => ?_
      have hf : fnD 42 ((code :: i :: Lin.const j :: ls).map (·.den ρ1)) = rc ((rOf (code.den ρ)).set (i.den ρ).toNat (((rOf (code.den ρ)).getD (i.den ρ).toNat []).take j ++ ls.map (·.den ρ1) ++ ((rOf (code.den ρ)).getD (i.den ρ).toNat []).drop (j + (ls.map (·.den ρ1)).length))) := by
       simp only [List.map_cons,fnD,Lin.den_const,Int.toNat_natCast,Lin.den_agree ha1 hAok.1.2.1,Lin.den_agree ha1 hpo.2.1.2]
      have hput := row_put hrow g2 c6
      have hrows : ∀ r ∈ (rOf (code.den ρ)).set (i.den ρ).toNat (((rOf (code.den ρ)).getD (i.den ρ).toNat []).take j ++ ls.map (·.den ρ1) ++ ((rOf (code.den ρ)).getD (i.den ρ).toNat []).drop (j + (ls.map (·.den ρ1)).length)),RowOk sh r := fun r hr => by
       rcases List.mem_or_eq_of_mem_set hr with hr | hr
       ·exact q3.1 r hr
       ·subst hr; exact hput.1
      have hpos : 0 < sh.length := by omega
      have hlen : (rOf (code.den ρ)).length <= maxLen := by
       have q3' := q3
       obtain ⟨_,pre,post,p1,p2⟩ := q3'
       have h4 := congrArg List.length p1
       simp only [List.length_append,flatV_len q3.1,Array.length_toList] at h4
       obtain ⟨_,_,_,h5,_⟩ := q4 c1
       rw [h5] at h4
       have h6 : (rOf (code.den ρ)).length * sh.length <= (cap.den ρ).toNat * sh.length := by omega
       have h7 := Nat.le_of_mul_le_mul_right h6 hpos
       have := hAok.2.2.2
       unfold maxLen; omega
      have hbd := RB_c (l := (rOf (code.den ρ)).set (i.den ρ).toNat (((rOf (code.den ρ)).getD (i.den ρ).toNat []).take j ++ ls.map (·.den ρ1) ++ ((rOf (code.den ρ)).getD (i.den ρ).toNat []).drop (j + (ls.map (·.den ρ1)).length))) (by simpa using hlen) fun r hr => (hrows r hr).row c7
      refine (fnM_snd (by rw [hf]; exact rc_nonneg _) (by rw [hf]; exact hbd)).bind fun ρ2 n2 code' hn2 ha2 ⟨k1,k2⟩ => Snd.pure ?_
      rw [hf] at k2
      exact ⟨k1,by rw [k2]; exact ⟨rc_nonneg _,hbd⟩,hk1,ls.map (·.den ρ1),g2,g3,by rw [k2,rOf_rc]⟩
     obtain ⟨ρ',n',code',hn,ha,⟨g1,g2,g3,ls,g4,g5,g6⟩,hh⟩ := hcs G _ hh
     have hR := h.later hn ha
     have hlt : (i.den ρ).toNat < (rOf (code.den ρ)).length := by omega
     have hcap : 0 <= cap.den ρ := by
      rcases Int.lt_or_le (cap.den ρ) 0 with hcn | hcn
      ·have := (h.mm.rws b sh o' code cap kind bt hbl (by omega)).1 hcn
       rw [this] at hlt; simp at hlt
      ·exact hcn
     obtain ⟨q0,cells,tq,fz,q1,⟨q2,q3⟩,q4⟩ := (h.mm.rws b sh o' code cap kind bt hbl (by omega)).2 hcap
     obtain ⟨r0,r1,r2,r3,r4,r5⟩ := q4 c1
     subst r0
     obtain ⟨q3a,pre,post,q3b,q3c⟩ := q3
     have hrow0 : (rOf (code.den ρ))[(i.den ρ).toNat]? = some ((rOf (code.den ρ)).getD (i.den ρ).toNat []) := by simp [List.getD,hlt]
     generalize hrw : (rOf (code.den ρ)).getD (i.den ρ).toNat [] = row at g6 hrow0
     have hrok := q3a row (List.mem_of_getElem? hrow0)
     obtain ⟨p1,p2⟩ := row_put hrok g4 c6
     have hvl : u.cells.length = (u.cells.map (A.den ρ m)).length := by simp
     have hcellsL : cells.toList = (pre ++ flatV sh ((rOf (code.den ρ)).take (i.den ρ).toNat)) ++ (rowV sh row ++ (flatV sh ((rOf (code.den ρ)).drop ((i.den ρ).toNat + 1)) ++ post)) := by
      rw [q3b,flatV_split hrow0]; simp only [List.append_assoc]
     have hA : (pre ++ flatV sh ((rOf (code.den ρ)).take (i.den ρ).toNat)).length = (o'.den ρ).toNat + (i.den ρ).toNat * sh.length := by
      rw [List.length_append,q3c,flatV_len fun r hr => q3a r (List.mem_of_mem_take hr),List.length_take,Nat.min_eq_left (by omega)]
     have hB := rowV_len hrok
     have hfitc : (o'.den ρ).toNat + (i.den ρ).toNat * sh.length + j + 0 + (u.cells.map (A.den ρ m)).length <= cells.size := by
      have := congrArg List.length hcellsL
      simp only [List.length_append,Array.length_toList,hB] at this hA
      simp; omega
     have hst := run_storeCells_fz (P := P) (m b) ((o'.den ρ).toNat + (i.den ρ).toNat * sh.length + j) _ fz kind (u.cells.map (A.den ρ m)) 0 cells w r2 q1 hfitc (fun v hv => by
      obtain ⟨y,hy,rfl⟩ := List.mem_map.1 hv
      exact A.oneCell (W.cells_ok hx.1 y hy))
     simp only [Nat.add_zero] at hst
     have hnew : cells.toList.take ((o'.den ρ).toNat + (i.den ρ).toNat * sh.length + j) ++ u.cells.map (A.den ρ m) ++ cells.toList.drop ((o'.den ρ).toNat + (i.den ρ).toNat * sh.length + j + (u.cells.map (A.den ρ m)).length) = pre ++ flatV sh (rOf (code'.den ρ')) ++ post := by
      rw [g6,flatV_set hrow0,hcellsL,<- hA,p2,g5]
      rw [List.take_append,List.take_of_length_le (by omega),Nat.add_sub_cancel_left,List.take_append_of_le_length (by omega)]
      rw [List.drop_append,List.drop_of_length_le (by omega),List.nil_append]
      rw [show (pre ++ flatV sh ((rOf (code.den ρ)).take (i.den ρ).toNat)).length + j + (u.cells.map (A.den ρ m)).length - (pre ++ flatV sh ((rOf (code.den ρ)).take (i.den ρ).toNat)).length = j + u.cells.length by simp; omega]
      rw [List.drop_append_of_le_length (by omega)]
      simp only [List.append_assoc]
     rw [hnew] at hst
     have hrows' : ∀ r ∈ rOf (code'.den ρ'),RowOk sh r := fun r hr => by
      rw [g6] at hr
      rcases List.mem_or_eq_of_mem_set hr with hr | hr
      ·exact q3a r hr
      ·subst hr; exact p1
     have hl' : (rOf (code'.den ρ')).length = (rOf (code.den ρ)).length := by rw [g6]; simp
     have hsz : (pre ++ flatV sh (rOf (code'.den ρ')) ++ post).length = cells.size := by
      have e1 := congrArg List.length q3b
      simp only [List.length_append,flatV_len hrows',flatV_len q3a,Array.length_toList,hl'] at e1 ⊢
      omega
     have d1 : cap.den ρ' = cap.den ρ := Lin.den_agree ha hAok.1.2.2
     have d2 : o'.den ρ' = o'.den ρ := Lin.den_agree ha hAok.1.1
     have hmput := hR.mm.put (kd := kind) (cells := cells) (fz := fz) (code' := code') c1 hbl (by rw [d1]; exact hcap) (row := (pre ++ flatV sh (rOf (code'.den ρ')) ++ post).toArray) (fun _ => ⟨fun h9 => by rw [d1] at h9; omega,fun _ => ⟨q0,_,_,fz,setRow_heap w (m b) _ _ _ _ q1,⟨by rw [d2]; exact q2,by
      rw [d2]
      exact ⟨hrows',pre,post,rfl,q3c⟩⟩,fun _ => ⟨rfl,by rw [d2]; exact r1,by simp only [List.size_toArray,hsz]; exact r2,by rw [d1]; simp only [List.size_toArray,hsz]; exact r3,r4,r5⟩⟩⟩)
     unfold Oper.wp
     have hrun : (Instr.storeAt t (.pointer (some ⟨m b,(o'.den ρ).toNat + (i.den ρ).toNat * sh.length + j,none⟩)) (u.den ρ m)).run P w = .ok () (w.setRow (m b) (pre ++ flatV sh (rOf (code'.den ρ')) ++ post).toArray) := by
      simp only [Instr.storeAt,Instr.sureAddr,Sem.run_bind,Sem.run_pure,Result.andThen_ok,storeVar,run_szB hs,W.cells_den (m := m) u hx.1]
      simp only [List.size_toArray,List.length_map,ne_eq,not_true_eq_false,if_false,Sem.run_pure,Result.andThen_ok]
      simp only [Sem.run_pure,Result.andThen_ok,hst]
     simp only [execOp,ho,Sem.run_bind,hpr,hxr,hrun,Result.andThen_ok,Sem.run_pure]
     refine hk n' ρ' m _ _ G _ _ ⟨hn,ha,by rw [setB_length]; exact Nat.le_refl _,fun _ _ => rfl⟩ (AgA.refl _ _) ⟨?_,by rw [put_defers]; exact h.d,hR.b.set (fun y hy => by
      simp at hy; subst hy
      exact ⟨⟨hAok.1.1.mono hn,g1,hAok.1.2.2.mono hn⟩,g2,by rw [d1]; exact hAok.2.2⟩),hmput⟩ hh
     rw [setB_length]
     exact TRel.put hR.t o.dst (by intro x hx; simp at hx) rfl
   ·cases hT
  ·cases hT
 ·rename_i s d x ho
  have hx := opV_spec h.t x
  split at hT
  ·rename_i l hxv
   rw [hxv] at hx
   split at hT
   ·rename_i e hs hd
    split at hT
    ·rename_i he
     simp only [Option.some.injEq] at hT
     subst hT
     have hlo : (A.str l).ok n bl.length ρ := hx.1
     have hxr : a.eval x = .string (bA (sOf (l.den ρ))) := hx.2
     have hcs : Snd S L (bind (fnM 27 [l] 0 RB) fun code => bind (fnM 0 [l] 0 9223372036854775807) fun len => pure (code,len)) n ρ fun ρ' n' p => (p.1.sc n' /\ p.2.sc n') /\ (0 <= p.1.den ρ' /\ p.1.den ρ' <= RB) /\ (sOf (l.den ρ)).length <= 9223372036854775807 /\ rOf (p.1.den ρ') = (sOf (l.den ρ)).map (fun b => [(b.toNat : Int)]) /\ p.2.den ρ' = (sOf (l.den ρ)).length := by
      have hk1 : (sOf (l.den ρ)).length <= 9223372036854775807 := by have := HB_s hlo.2.2; unfold mxL at this; omega
      have hbd : rc ((sOf (l.den ρ)).map fun b => [(b.toNat : Int)]) <= RB := RB_c (by simp; unfold maxLen; omega) fun r hr => by
       obtain ⟨b,_,rfl⟩ := List.mem_map.1 hr
       have hp := HB_pos
       have := b.toNat_lt
       exact ⟨by simp,fun z hz => by simp at hz; subst hz; omega⟩
      refine (fnM_snd (op := 27) (args := [l]) (rc_nonneg _) hbd).bind fun ρ1 n1 code hn1 ha1 ⟨g1,g2⟩ => ?_
      have g2 : code.den ρ1 = rc ((sOf (l.den ρ)).map fun b => [(b.toNat : Int)]) := g2
      have hl1 : l.den ρ1 = l.den ρ := Lin.den_agree ha1 hlo.1
      refine (fnM_snd (op := 0) (args := [l]) (lo := 0) (hi := 9223372036854775807) (Int.natCast_nonneg _) (by
       show ((sOf (l.den ρ1)).length : Int) <= _
       rw [hl1]; omega)).bind fun ρ2 n2 len hn2 ha2 ⟨k1,k2⟩ => Snd.pure ?_
      have k2 : len.den ρ2 = ((sOf (l.den ρ1)).length : Nat) := k2
      have e3 : code.den ρ2 = code.den ρ1 := Lin.den_agree ha2 g1
      refine ⟨⟨g1.mono hn2,k1⟩,by rw [e3,g2]; exact ⟨rc_nonneg _,hbd⟩,hk1,by rw [e3,g2,rOf_rc],by rw [k2,hl1]⟩
     obtain ⟨ρ',n',p,hn,ha,⟨⟨g1,g1'⟩,g2,g3,g4,g5⟩,hh⟩ := hcs G (fun p n => growK 3 e o.dst byteShape p.1 p.2 n tm bl k) hh
     have hR := h.later hn ha
     have hrun := Lib.run_convert_string_bytes (P := P) w s d e (bA (sOf (l.den ρ))) hs (slcOf_spec hd) he
     generalize hcap : grownCap w (bA (sOf (l.den ρ))).size 0 e = c at hrun
     have hge : (bA (sOf (l.den ρ))).size <= c := by rw [<- hcap]; exact grownCap_ge w _ 0 e
     have hle : c <= 9223372036854775807 := by rw [<- hcap]; exact grownCap_le_maxLen w _ 0 e (by rw [bA_size]; exact g3)
     have hheap : (Lib.bytesWorld w e (bA (sOf (l.den ρ)))).heap[w.heap.size]? = some (.cells (Lib.bytesCells w e (bA (sOf (l.den ρ)))) e ((Lib.bytesCells w e (bA (sOf (l.den ρ)))).size,(Lib.bytesCells w e (bA (sOf (l.den ρ)))).size + 1)) := Lib.bytesWorld_at_new w e _
     have hcsz : (Lib.bytesCells w e (bA (sOf (l.den ρ)))).size = c := by
      have hge' := hge
      rw [bA_size] at hge'
      simp only [Lib.bytesCells,Array.size_append,Array.size_map,Array.size_replicate,hcap]
      show (bA (sOf (l.den ρ))).size + _ = _
      omega
     have hext : w.Extends (Lib.bytesWorld w e (bA (sOf (l.den ρ)))) := by
      have hb : ∀ i : Nat,i < w.heap.size -> (Lib.bytesWorld w e (bA (sOf (l.den ρ)))).heap[i]? = w.heap[i]? := fun i hi => Lib.bytesWorld_at_old w e _ i hi
      exact ⟨rfl,rfl,rfl,by simp [Lib.bytesWorld,World.freeze,World.alloc,World.drew,-World.alloc_eq,-World.drew_eq],fun y hy => by simp only [World.cell?,hb y.block hy],fun y hy => by simp only [World.frozen?,hb y.block hy],hb⟩
     have hR2 : R w0 n' ρ' m tm bl a (Lib.bytesWorld w e (bA (sOf (l.den ρ)))) := ⟨hR.t,hR.d,hR.b,hR.mm.grow hext⟩
     unfold Oper.wp
     simp only [execOp,ho,Sem.run_bind,hxr,hrun,Result.andThen_ok,Sem.run_pure]
     have hk' : SKok S L w0 k n' bl.length ρ' m G K := hk.later ⟨hn,ha,Nat.le_refl _,fun _ _ => rfl⟩ (AgA.refl _ _)
     have hsize : (bA (sOf (l.den ρ))).size = (sOf (l.den ρ)).length := bA_size _
     have key := pushK_wp (kd := 3) (c := (c : Int)) (g := w.heap.size) (by omega) hR2 g1 g1' g2 ⟨by omega,by omega⟩ (by rw [g5]; exact ⟨⟨by omega,by omega,by omega,by omega⟩,⟨by omega,by omega⟩,fun h => by omega,fun _ => by omega⟩) (fun h => by omega)
      (fun _ => ⟨_,_,⟨hheap,.inr ⟨by decide,rfl⟩⟩,by
        rw [g4]
        refine ⟨fun r hr => ?_,[],List.replicate (c - (sOf (l.den ρ)).length) (.int .u8 0),?_,rfl⟩
        ·obtain ⟨b,_,rfl⟩ := List.mem_map.1 hr
         have := b.toNat_lt
         exact ⟨⟨by simp [CK.bd],by simp only [CK.bd]; omega⟩,trivial⟩
        ·simp only [Lib.bytesCells,hcap,Array.toList_append,Array.toList_map,Array.toList_replicate,List.nil_append]
         congr 1
         ·show (sOf (l.den ρ)).map _ = _
          simp only [flatV,List.flatMap_map]
          induction sOf (l.den ρ) with
          | nil => rfl
          | cons b r ih => simp [rowV,CK.val,byteShape,ih],by
        rw [hcsz]; simp [byteShape],h.mm.ext.size,.inr h.mm.hsize⟩) (fun i p hi he => by
         by_cases hk0 : kindC ρ' p.1 = 0
         ·exact .inl hk0
         ·have := hR.mm.lt hi hk0; omega) hh hk'
     rw [if_neg (by omega),g5] at key
     have key : K (a.put o.dst (.slice (some ⟨w.heap.size,0,none⟩) (sOf (l.den ρ)).length c)) (Lib.bytesWorld w e (bA (sOf (l.den ρ)))) := by simpa using key
     rw [hsize]
     exact key
    ·cases hT
   ·cases hT
  ·cases hT
 ·rename_i t x y ho
  split at hT
  ·rename_i e lx ly hd hlx hly
   cases hi : P.info? e with
   | none => simp [hi] at hT
   | some i =>
    simp only [hi] at hT
    split at hT
    ·rename_i z hz
     cases hc : (Nat.beq i.size 1 && Nat.ble i.bytes 1024 && decide (z = 0)) with
     | false => rw [hc] at hT; cases hT
     | true =>
      rw [hc] at hT
      simp only [cond_true,Option.some.injEq] at hT
      subst hT
      simp only [Bool.and_eq_true,decide_eq_true_eq] at hc
      have c1 := Nat.eq_of_beq_eq_true hc.1.1
      have c2 := Nat.le_of_ble_eq_true hc.1.2
      have c3 := hc.2
      subst c3
      obtain ⟨kx,hx,hxs⟩ := intL_val h.t hlx
      obtain ⟨ky,hy,hys⟩ := intL_val h.t hly
      obtain ⟨hk49,hh⟩ := hh
      have hk49 : 0 <= lx.den ρ /\ lx.den ρ <= ly.den ρ /\ ly.den ρ <= 1073741824 := hk49
      obtain ⟨q1,q2,q3⟩ := hk49
      have q0 : 0 <= ly.den ρ := by omega
      have hrow : ∀ r ∈ List.replicate (lx.den ρ).toNat [(0 : Int)],RowOk byteShape r := fun r hr => by
       rw [List.eq_of_mem_replicate hr]
       exact ⟨⟨by simp [CK.bd],by simp [CK.bd]⟩,trivial⟩
      have hbd : rc (List.replicate (lx.den ρ).toNat [(0 : Int)]) <= RB := RB_rows (sh := byteShape) (by decide) (by simp; omega) hrow
      have hf : fnD 26 ([lx,Lin.const 0].map (·.den ρ)) = rc (List.replicate (lx.den ρ).toNat [(0 : Int)]) := by
       simp only [List.map_cons,List.map_nil,fnD,Lin.den_const]
      obtain ⟨ρ',n',code,hn,ha,⟨g1,g2⟩,hh⟩ := fnM_snd (S := S) (L := L) (n := n) (op := 26) (args := [lx,.const 0]) (lo := 0) (hi := RB) (by rw [hf]; exact rc_nonneg _) (by rw [hf]; exact hbd) G _ hh
      rw [hf] at g2
      have hR := h.later hn ha
      have d1 : lx.den ρ' = lx.den ρ := Lin.den_agree ha hxs
      have hrun := run_make (P := P) w t e i (.int .u8 0) (slcOf_spec hd) hi hz kx ky (lx.den ρ) (ly.den ρ) q1 q2 (by
       have h0 : (i.bytes : Int) <= 1024 := by omega
       have h2 : (i.bytes : Int) * ly.den ρ <= 1024 * 1073741824 := Int.mul_le_mul h0 q3 q0 (by decide)
       omega) (by omega)
      have hmade : (madeCells (Value.int .u8 0).cells ((ly.den ρ).toNat * i.size)).toList = List.replicate (ly.den ρ).toNat (.int .u8 0) := by
       rw [c1,Nat.mul_one]
       refine List.ext_getElem? fun j => ?_
       simp only [madeCells,Value.cells,Array.toList_map,Array.toList_range]
       rw [List.getElem?_map,List.getElem?_replicate]
       by_cases hj : j < (ly.den ρ).toNat
       ·rw [if_pos hj,List.getElem?_range hj]
        simp [Nat.mod_one]
       ·rw [if_neg hj,List.getElem?_eq_none (by simp; omega)]; rfl
      have hsz : (madeCells (Value.int .u8 0).cells ((ly.den ρ).toNat * i.size)).size = (ly.den ρ).toNat := by
       have := congrArg List.length hmade
       simpa using this
      have hheap : (w.alloc (.cells (madeCells (Value.int .u8 0).cells ((ly.den ρ).toNat * i.size)) e)).heap[w.heap.size]? = some (.cells (madeCells (Value.int .u8 0).cells ((ly.den ρ).toNat * i.size)) e (0,0)) := by simp [World.alloc,-World.alloc_eq]
      have hext : w.Extends (w.alloc (.cells (madeCells (Value.int .u8 0).cells ((ly.den ρ).toNat * i.size)) e)) := by
       have hb : ∀ j : Nat,j < w.heap.size -> (w.alloc (.cells (madeCells (Value.int .u8 0).cells ((ly.den ρ).toNat * i.size)) e)).heap[j]? = w.heap[j]? := fun j hj => by
        simp only [World.alloc]
        rw [Array.getElem?_push_lt hj,Array.getElem?_eq_getElem hj]
       exact ⟨rfl,rfl,rfl,by simp [World.alloc,-World.alloc_eq],fun y hy => by simp only [World.cell?,hb y.block hy],fun y hy => by simp only [World.frozen?,hb y.block hy],hb⟩
      generalize hW : w.alloc (.cells (madeCells (Value.int .u8 0).cells ((ly.den ρ).toNat * i.size)) e) = W at *
      have hR2 : R w0 n' ρ' m tm bl a W := ⟨hR.t,hR.d,hR.b,hR.mm.grow hext⟩
      unfold Oper.wp
      simp only [execOp,ho,Sem.run_bind,hx,hy,hrun,Result.andThen_ok,Sem.run_pure]
      have hk' : SKok S L w0 k n' bl.length ρ' m G K := hk.later ⟨hn,ha,Nat.le_refl _,fun _ _ => rfl⟩ (AgA.refl _ _)
      have key := pushK_wp (kd := 2) (c := ly.den ρ) (g := w.heap.size) (Nat.le_refl _) hR2 g1 (hxs.mono hn) (by rw [g2]; exact ⟨rc_nonneg _,hbd⟩) ⟨by omega,by omega⟩ (by rw [d1]; exact ⟨⟨by omega,by omega,by omega,by omega⟩,⟨by omega,by omega⟩,fun h => by omega,fun _ => by omega⟩) (fun h => by omega)
       (fun _ => ⟨_,_,⟨hheap,.inl ⟨rfl,rfl⟩⟩,by
         rw [g2,rOf_rc]
         refine ⟨hrow,[],List.replicate ((ly.den ρ).toNat - (lx.den ρ).toNat) (.int .u8 0),?_,rfl⟩
         rw [hmade,List.nil_append]
         have e1 : flatV byteShape (List.replicate (lx.den ρ).toNat [(0 : Int)]) = List.replicate (lx.den ρ).toNat (.int .u8 0) := by
          generalize (lx.den ρ).toNat = q
          induction q with
          | zero => rfl
          | succ q ih =>
           rw [List.replicate_succ,List.replicate_succ]
           simp only [flatV,List.flatMap_cons] at ih ⊢
           rw [ih]; rfl
         rw [e1,List.replicate_append_replicate]
         congr 1; omega,by rw [hsz]; simp [byteShape],h.mm.ext.size,.inr h.mm.hsize⟩) (fun j p hj he => by
         by_cases hk0 : kindC ρ' p.1 = 0
         ·exact .inl hk0
         ·have := hR.mm.lt hj hk0; omega) hh hk'
      rw [if_neg (by omega),d1] at key
      have key : K (a.put o.dst (.slice (some ⟨w.heap.size,0,none⟩) (lx.den ρ).toNat (ly.den ρ).toNat)) W := key
      exact key
    ·cases hT
  ·cases hT
 ·cases hT
end
end Go.Rx
set_option linter.unusedVariables false
set_option linter.unusedSimpArgs false
namespace Go.Rx
open M
theorem range_mod {α : Type} (f : Nat -> α) (s k : Nat) : (List.range ((k + 1) * s)).map (fun i => f (i % s)) = (List.range s).map (fun i => f (i % s)) ++ (List.range (k * s)).map (fun i => f (i % s)) := by
 rw [Nat.succ_mul,Nat.add_comm (k * s) s,List.range_add,List.map_append,List.map_map]
 congr 1
 refine List.map_congr_left fun i _ => ?_
 simp only [Function.comp,Nat.add_mod_left]
theorem zeroCells_list (Z : Array Value) : ∀ k : Nat,(Builtin.zeroCells Z k).toList = (List.replicate k Z.toList).flatten
 | 0 => by simp [Builtin.zeroCells]
 | k + 1 => by
  have ih := zeroCells_list Z k
  simp only [Builtin.zeroCells,Array.toList_map,Array.toList_range] at ih ⊢
  rw [range_mod (fun i => Z[i]!) Z.size k,ih,List.replicate_succ,List.flatten_cons]
  congr 1
  refine List.ext_getElem (by simp) fun i h1 h2 => ?_
  simp only [List.length_map,List.length_range] at h1
  simp [Nat.mod_eq_of_lt h1,h1]
theorem flatV_rep (sh : List CK) (row : List Int) : ∀ k : Nat,flatV sh (List.replicate k row) = (List.replicate k (rowV sh row)).flatten
 | 0 => rfl
 | k + 1 => by
  have ih := flatV_rep sh row k
  rw [List.replicate_succ,List.replicate_succ,List.flatten_cons,<- ih]; rfl
section
variable {S : Nat -> List Int -> List Int -> Prop} {L : V -> Env -> Prop} {n : Nat} {ρ : Env} {m : Nat -> Nat} {bl : List Blk} {gl : Glo} {w0 : Base} {P : Program}
theorem Mem.rewrite {w : World} {b : Nat} {sh : List CK} {off code cap code' : Lin} {kind : Nat} {bt : TypeId × Bool} (h : Mem w0 ρ m bl w) (hbl : bl[b]? = some ([.rows sh off code cap kind],bt)) (hk : 2 <= kind) (hcap : 0 <= cap.den ρ)
 (hrows : ∀ r ∈ rOf (code'.den ρ),RowOk sh r) (hlen : (rOf (code'.den ρ)).length = (rOf (code.den ρ)).length) :
 ∃ (cells : Array Value) (post : List Value) (fz : Nat × Nat),w.heap[m b]? = some (.cells cells bt.1 fz) /\ FzOk kind fz cells.size /\ off.den ρ = 0 /\ (∀ r ∈ rOf (code.den ρ),RowOk sh r) /\ cells.toList = flatV sh (rOf (code.den ρ)) ++ post /\ cells.size = (cap.den ρ).toNat * sh.length /\
  Mem w0 ρ m (setB bl b ([.rows sh off code' cap kind],bt)) (w.setRow (m b) (flatV sh (rOf (code'.den ρ)) ++ post).toArray) := by
 obtain ⟨q0,cells,tq,fz,q1,⟨q2,q3⟩,q4⟩ := (h.rws b sh off code cap kind bt hbl (by omega)).2 hcap
 obtain ⟨r0,r1,r2,r3,r4,r5⟩ := q4 hk
 subst r0
 obtain ⟨q3a,pre,post,q3b,q3c⟩ := q3
 rw [r1] at q3c
 have hpre : pre = [] := List.eq_nil_of_length_eq_zero (by simpa using q3c)
 subst hpre
 rw [List.nil_append] at q3b
 have hsz : (flatV sh (rOf (code'.den ρ)) ++ post).length = cells.size := by
  have e1 := congrArg List.length q3b
  simp only [List.length_append,flatV_len hrows,flatV_len q3a,Array.length_toList,hlen] at e1 ⊢
  omega
 refine ⟨cells,post,fz,q1,r2,r1,q3a,q3b,r3,?_⟩
 exact h.put (kd := kind) (cells := cells) (fz := fz) (code' := code') hk hbl hcap (row := (flatV sh (rOf (code'.den ρ)) ++ post).toArray) (fun _ => ⟨fun h9 => by omega,fun _ => ⟨q0,_,_,fz,setRow_heap w (m b) _ _ _ _ q1,⟨by rw [r1]; exact Int.le_refl _,by
  rw [r1]
  exact ⟨hrows,[],post,by simp,rfl⟩⟩,fun _ => ⟨rfl,r1,by simp only [List.size_toArray,hsz]; exact r2,by simp only [List.size_toArray,hsz]; exact r3,r4,r5⟩⟩⟩)
theorem mid_rows {sh : List CK} {rows mid : List (List Int)} {post : List Value} {cells : List Value} {a : Nat} (hr : ∀ r ∈ rows,RowOk sh r) (hm : ∀ r ∈ mid,RowOk sh r) (hc : cells = flatV sh rows ++ post) (ha : a + mid.length <= rows.length) :
 cells.take (a * sh.length) ++ flatV sh mid ++ cells.drop (a * sh.length + (flatV sh mid).length) = flatV sh (rows.take a ++ mid ++ rows.drop (a + mid.length)) ++ post := by
 have h1 : flatV sh rows = flatV sh (rows.take a) ++ flatV sh (rows.drop a) := by rw [<- flatV_append,List.take_append_drop]
 have h2 : flatV sh rows = flatV sh (rows.take (a + mid.length)) ++ flatV sh (rows.drop (a + mid.length)) := by rw [<- flatV_append,List.take_append_drop]
 have l1 : (flatV sh (rows.take a)).length = a * sh.length := by rw [flatV_len fun r h => hr r (List.mem_of_mem_take h),List.length_take,Nat.min_eq_left (by omega)]
 have l2 : (flatV sh (rows.take (a + mid.length))).length = a * sh.length + (flatV sh mid).length := by rw [flatV_len fun r h => hr r (List.mem_of_mem_take h),flatV_len hm,List.length_take,Nat.min_eq_left (by omega),Nat.add_mul]
 have e1 : cells.take (a * sh.length) = flatV sh (rows.take a) := by
  rw [hc,h1,List.append_assoc,List.take_append_of_le_length (by omega),List.take_of_length_le (by omega)]
 have e2 : cells.drop (a * sh.length + (flatV sh mid).length) = flatV sh (rows.drop (a + mid.length)) ++ post := by
  rw [hc,h2,List.append_assoc,<- l2,List.drop_left]
 rw [e1,e2,flatV_append,flatV_append]
 simp only [List.append_assoc]
theorem mid_ok {sh : List CK} {rows mid : List (List Int)} {a k : Nat} (hr : ∀ r ∈ rows,RowOk sh r) (hm : ∀ r ∈ mid,RowOk sh r) : ∀ r ∈ rows.take a ++ mid ++ rows.drop k,RowOk sh r := fun r h => by
 rcases List.mem_append.1 h with h | h
 ·rcases List.mem_append.1 h with h | h
  ·exact hr r (List.mem_of_mem_take h)
  ·exact hm r h
 ·exact hr r (List.mem_of_mem_drop h)
theorem mid_len {rows mid : List (List Int)} {a : Nat} (ha : a + mid.length <= rows.length) : (rows.take a ++ mid ++ rows.drop (a + mid.length)).length = rows.length := by
 simp only [List.length_append,List.length_take,List.length_drop]; omega
theorem rows_max {w : World} {b : Nat} {sh : List CK} {off code cap : Lin} {kind : Nat} {bt : TypeId × Bool} (h : Mem w0 ρ m bl w) (hbl : bl[b]? = some ([.rows sh off code cap kind],bt)) (hk : 2 <= kind) (hcap : 0 <= cap.den ρ) (hcm : cap.den ρ <= 9223372036854775807) (hpos : 0 < sh.length) : (rOf (code.den ρ)).length <= maxLen /\ ∀ r ∈ rOf (code.den ρ),RowOk sh r := by
 obtain ⟨q0,cells,tq,fz,q1,⟨q2,q3⟩,q4⟩ := (h.rws b sh off code cap kind bt hbl (by omega)).2 hcap
 obtain ⟨_,_,_,h5,_⟩ := q4 hk
 obtain ⟨q3a,pre,post,p1,p2⟩ := q3
 refine ⟨?_,q3a⟩
 have h4 := congrArg List.length p1
 simp only [List.length_append,flatV_len q3a,Array.length_toList] at h4
 rw [h5] at h4
 have h6 : (rOf (code.den ρ)).length * sh.length <= (cap.den ρ).toNat * sh.length := by omega
 have h7 := Nat.le_of_mul_le_mul_right h6 hpos
 unfold maxLen; omega
theorem shOk_pos {sh : List CK} (h : shOk sh = true) : 0 < sh.length := by
 unfold shOk at h
 simp only [Bool.and_eq_true] at h
 exact blt_lt h.1.2
theorem stepX_wp {tm : List V} {a : Act} {w : World} {G : Again} {o : Oper} {K : Act -> World -> Prop} {Q : Exit -> Act -> World -> Prop} {k : SK} {T0 : T}
 (h : R w0 n ρ m tm bl a w) (hT : stepX P o n tm bl k = some T0) (hh : T0.holds S L G ρ) (hk : SKok S L w0 k n bl.length ρ m G K) : o.wp P a w K Q := by
 unfold stepX at hT
 split at hT
 rotate_left
 ·cases hT
 rename_i c ho
 split at hT
 ·rename_i hcl
  split at hT
  rotate_left
  ·cases hT
  rename_i x t hxs hts
  have hx := opV_spec h.t x
  split at hT
  rotate_left
  ·cases hT
  rename_i b sz o' ro len cap e hv he
  rw [hv] at hx
  split at hT
  rotate_left
  ·cases hT
  rename_i sh off code capb kind bt z hbl hz
  cases hc : (Nat.ble 2 kind && Lin.beq o' off && Nat.beq sz sh.length && shOk sh && Nat.beq z.length sh.length) with
  | false => rw [hc] at hT; cases hT
  | true =>
   rw [hc] at hT
   simp only [cond_true,Option.some.injEq] at hT
   subst hT
   simp only [Bool.and_eq_true] at hc
   obtain ⟨⟨⟨⟨c1,c2⟩,c3⟩,c4⟩,c5⟩ := hc
   have c1 := Nat.le_of_ble_eq_true c1; have c2 := Lin.beq_eq c2; have c3 := Nat.eq_of_beq_eq_true c3; have c5 := Nat.eq_of_beq_eq_true c5
   subst c2; subst c3
   obtain ⟨inf,zv,hi,hzz,hcz⟩ := zeroL_spec hz
   have a1 : c.args = #[x] := by rw [<- Array.toArray_toList (xs := c.args),hxs]
   have a2 : c.argTypes = #[t] := by rw [<- Array.toArray_toList (xs := c.argTypes),hts]
   have hxo : (A.sl b sh.length o' ro len cap).ok n bl.length ρ := hx.1
   obtain ⟨ptr,e1,e2,e3⟩ := sl_den (m := m) hxo
   have hxr : a.eval x = (A.sl b sh.length o' ro len cap).den ρ m := hx.2
   rw [e1] at hxr
   obtain ⟨x1,⟨x2,x3,x4,x5⟩,⟨x6,x7,x8,x9⟩,⟨x10,x13⟩,x11,x12⟩ := hxo
   have hAok : (A.rows sh o' code capb kind).ok n bl.length ρ := h.b _ (List.mem_of_getElem? hbl) _ (by simp)
   have hpos := shOk_pos c4
   have hcs : Snd S L (bind (chkM 65 [code,ro,len]) fun _ => bind (rowLinM sh z) fun ls => bind (fnM 61 (code :: ro :: len :: ls) 0 RB) fun code' => pure code') n ρ fun ρ' n' code' => code'.sc n' /\ (0 <= code'.den ρ' /\ code'.den ρ' <= RB) /\ (0 <= ro.den ρ /\ 0 < len.den ρ /\ ro.den ρ + len.den ρ <= (rOf (code.den ρ)).length) /\ 0 <= capb.den ρ /\
    ∃ row : List Int,RowOk sh row /\ rowV sh row = zv.cells.toList /\ rOf (code'.den ρ') = (rOf (code.den ρ)).take (ro.den ρ).toNat ++ List.replicate (len.den ρ).toNat row ++ (rOf (code.den ρ)).drop ((ro.den ρ).toNat + (len.den ρ).toNat) := by
    refine chkM_snd fun hk1 => ?_
    have hk1 : 0 <= ro.den ρ /\ 0 < len.den ρ /\ ro.den ρ + len.den ρ <= (rOf (code.den ρ)).length := hk1
    have hzs := constL_spec hcz n bl.length ρ m
    refine (rowLinM_snd (nb := bl.length) (m := m) hzs.1).bind fun ρ1 n1 ls hn1 ha1 ⟨g1,g2,g3⟩ => ?_
    rw [hzs.2] at g3
    have hcap : 0 <= capb.den ρ := by
     rcases Int.lt_or_le (capb.den ρ) 0 with hcn | hcn
     ·have := (h.mm.rws b sh o' code capb kind bt hbl (by omega)).1 hcn
      rw [this] at hk1; simp at hk1; omega
     ·exact hcn
    obtain ⟨hmx,hrk⟩ := rows_max h.mm hbl c1 hcap hAok.2.2.2 hpos
    have hf : fnD 61 ((code :: ro :: len :: ls).map (·.den ρ1)) = rc ((rOf (code.den ρ)).take (ro.den ρ).toNat ++ List.replicate (len.den ρ).toNat (ls.map (·.den ρ1)) ++ (rOf (code.den ρ)).drop ((ro.den ρ).toNat + (len.den ρ).toNat)) := by
     simp only [List.map_cons,fnD,Lin.den_agree ha1 hAok.1.2.1,Lin.den_agree ha1 x3,Lin.den_agree ha1 x4]
    have hok : ∀ r ∈ (rOf (code.den ρ)).take (ro.den ρ).toNat ++ List.replicate (len.den ρ).toNat (ls.map (·.den ρ1)) ++ (rOf (code.den ρ)).drop ((ro.den ρ).toNat + (len.den ρ).toNat),RowOk sh r := mid_ok hrk fun r hr => by rw [List.eq_of_mem_replicate hr]; exact g2
    have hbd := RB_c (l := (rOf (code.den ρ)).take (ro.den ρ).toNat ++ List.replicate (len.den ρ).toNat (ls.map (·.den ρ1)) ++ (rOf (code.den ρ)).drop ((ro.den ρ).toNat + (len.den ρ).toNat)) (by simp only [List.length_append,List.length_take,List.length_drop,List.length_replicate]; omega) fun r hr => (hok r hr).row c4
    refine (fnM_snd (by rw [hf]; exact rc_nonneg _) (by rw [hf]; exact hbd)).bind fun ρ2 n2 code' hn2 ha2 ⟨k1,k2⟩ => Snd.pure ?_
    rw [hf] at k2
    exact ⟨k1,by rw [k2]; exact ⟨rc_nonneg _,hbd⟩,hk1,hcap,ls.map (·.den ρ1),g2,g3,by rw [k2,rOf_rc]⟩
   obtain ⟨ρ',n',code',hn,ha,⟨g1,g2,g3,hcap,row,g4,g5,g6⟩,hh⟩ := hcs G _ hh
   have hR := h.later hn ha
   have d1 : code.den ρ' = code.den ρ := Lin.den_agree ha hAok.1.2.1
   have d2 : capb.den ρ' = capb.den ρ := Lin.den_agree ha hAok.1.2.2
   have hrep : (List.replicate (len.den ρ).toNat row).length = (len.den ρ).toNat := List.length_replicate
   have hmid : ∀ r ∈ List.replicate (len.den ρ).toNat row,RowOk sh r := fun r hr => by rw [List.eq_of_mem_replicate hr]; exact g4
   have hle : (ro.den ρ).toNat + (List.replicate (len.den ρ).toNat row).length <= (rOf (code.den ρ)).length := by rw [hrep]; omega
   have hrows : ∀ r ∈ rOf (code.den ρ),RowOk sh r := (rows_max h.mm hbl c1 hcap hAok.2.2.2 hpos).2
   obtain ⟨cells,post,fz,p1,p2,p3,p4,p5,p6,p7⟩ := hR.mm.rewrite (code' := code') hbl c1 (by rw [d2]; exact hcap) (by rw [g6]; exact mid_ok hrows hmid) (by
    rw [g6,d1]
    have := mid_len hle
    rw [hrep] at this; exact this)
   rw [d1] at p4 p5
   have p3 : o'.den ρ = 0 := by rw [<- Lin.den_agree ha x2]; exact p3
   have hcap' : 0 <= cap.den ρ := by
    rcases Int.lt_or_le (cap.den ρ) 0 with hcn | hcn
    ·have := x11 hcn; omega
    ·exact hcn
   have hX : a.eval x = .slice (some ⟨m b,(ro.den ρ).toNat * sh.length,none⟩) (len.den ρ).toNat (cap.den ρ).toNat := by
    rw [hxr,e3 hcap',if_neg (by omega),p3]; simp
   have hzl : (Builtin.zeroCells zv.cells (len.den ρ).toNat).toList = flatV sh (List.replicate (len.den ρ).toNat row) := by rw [zeroCells_list,flatV_rep,g5]
   have hzlen : (Builtin.zeroCells zv.cells (len.den ρ).toNat).toList.length = (len.den ρ).toNat * sh.length := by rw [hzl,flatV_len hmid,hrep]
   have hcl2 := congrArg List.length p5
   simp only [List.length_append,Array.length_toList,flatV_len p4] at hcl2
   have hfit : (ro.den ρ).toNat * sh.length + 0 + (Builtin.zeroCells zv.cells (len.den ρ).toNat).toList.length <= cells.size := by
    rw [hzlen]
    have : ((ro.den ρ).toNat + (len.den ρ).toNat) * sh.length <= (rOf (code.den ρ)).length * sh.length := Nat.mul_le_mul_right _ (by omega)
    rw [Nat.add_mul] at this
    omega
   have hst := run_storeCells_fz (P := P) (m b) ((ro.den ρ).toNat * sh.length) bt.1 fz kind (Builtin.zeroCells zv.cells (len.den ρ).toNat).toList 0 cells w p2 p1 hfit (by rw [hzl]; exact flatV_one)
   rw [Nat.add_zero,hzl,mid_rows p4 hmid p5 hle] at hst
   rw [hrep] at hst
   rw [<- g6] at hst
   obtain ⟨q,hq⟩ : ∃ q,(len.den ρ).toNat = q + 1 := ⟨(len.den ρ).toNat - 1,by omega⟩
   have hzr : ∀ w : World,(zeroValue e).run P w = .ok zv w := fun w => by simp [zeroValue,typeInfo,hi,hzz]
   have hrun : (Builtin.clear_ #[t] o.type #[.slice (some ⟨m b,(ro.den ρ).toNat * sh.length,none⟩) (q + 1) (cap.den ρ).toNat]).run P w = .ok (.tuple #[]) (w.setRow (m b) (flatV sh (rOf (code'.den ρ')) ++ post).toArray) := by
    rw [hq] at hst hzl
    have hst' : (storeCells ⟨m b,(ro.den ρ).toNat * sh.length,none⟩ (Builtin.zeroCells zv.cells (q + 1)).toList 0).run P w = .ok () (w.setRow (m b) (flatV sh (rOf (code'.den ρ')) ++ post).toArray) := by rw [hzl]; exact hst
    simp [Builtin.clear_,run_underlying (slcOf_spec he),hzr,hst']
   rw [hq] at hX
   unfold Oper.wp
   have hex : execOp a.eval o = (do pure (Next.value (<- Builtin.clear_ #[t] o.type #[a.eval x]))) := by
    simp [execOp,ho,resolve,hcl,a1,a2,invoke,builtin]
   simp only [hex,hX,Sem.run_bind,hrun,Result.andThen_ok,Sem.run_pure]
   refine hk n' ρ' m _ _ G _ _ ⟨hn,ha,by rw [setB_length]; exact Nat.le_refl _,fun _ _ => rfl⟩ (AgA.refl _ _) ⟨?_,by rw [put_defers]; exact h.d,hR.b.set (fun y hy => by
    simp at hy; subst hy
    exact ⟨⟨hAok.1.1.mono hn,g1,hAok.1.2.2.mono hn⟩,g2,by rw [d2]; exact hAok.2.2⟩),p7⟩ hh
   rw [setB_length]
   exact TRel.put hR.t o.dst (by intro x hx; simp at hx) rfl
 ·rename_i hcl
  split at hT
  rotate_left
  ·cases hT
  rename_i x y t t' hxs hts
  have hx := opV_spec h.t x
  have hy := opV_spec h.t y
  split at hT
  rotate_left
  ·cases hT
  rename_i b sz o' ro len cap b2 sz2 o2 ro2 len2 cap2 e hv hv2 he
  rw [hv] at hx
  rw [hv2] at hy
  split at hT
  rotate_left
  ·cases hT
  rename_i sh off code capb kind bt sh2 off2 code2 capb2 kind2 bt2 s hbl hbl2 hs
  cases hc : (Nat.ble 2 kind && Nat.blt 0 kind2 && Lin.beq o' off && Lin.beq o2 off2 && shBeq sh sh2 && Nat.beq sz sh.length && Nat.beq sz2 sh.length && Nat.beq s sh.length && shOk sh) with
  | false => rw [hc] at hT; cases hT
  | true =>
   rw [hc] at hT
   simp only [cond_true,Option.some.injEq] at hT
   subst hT
   simp only [Bool.and_eq_true] at hc
   obtain ⟨⟨⟨⟨⟨⟨⟨⟨c1,c2⟩,c3⟩,c4⟩,c5⟩,c6⟩,c7⟩,c8⟩,c9⟩ := hc
   have c1 := Nat.le_of_ble_eq_true c1; have c2 : 0 < kind2 := Nat.le_of_ble_eq_true c2; have c3 := Lin.beq_eq c3; have c4 := Lin.beq_eq c4; have c5 := shBeq_eq c5; have c6 := Nat.eq_of_beq_eq_true c6; have c7 := Nat.eq_of_beq_eq_true c7; have c8 := Nat.eq_of_beq_eq_true c8
   subst c3; subst c4; subst c5; subst c6; subst c7; subst c8
   have a1 : c.args = #[x,y] := by rw [<- Array.toArray_toList (xs := c.args),hxs]
   have a2 : c.argTypes = #[t,t'] := by rw [<- Array.toArray_toList (xs := c.argTypes),hts]
   have hxo : (A.sl b sh.length o' ro len cap).ok n bl.length ρ := hx.1
   have hyo : (A.sl b2 sh.length o2 ro2 len2 cap2).ok n bl.length ρ := hy.1
   obtain ⟨ptr,e1,e2,e3⟩ := sl_den (m := m) hxo
   obtain ⟨ptr2,f1,f2,f3⟩ := sl_den (m := m) hyo
   have hxr : a.eval x = (A.sl b sh.length o' ro len cap).den ρ m := hx.2
   have hyr : a.eval y = (A.sl b2 sh.length o2 ro2 len2 cap2).den ρ m := hy.2
   rw [e1] at hxr
   rw [f1] at hyr
   obtain ⟨x1,⟨x2,x3,x4,x5⟩,⟨x6,x7,x8,x9⟩,⟨x10,x13⟩,x11,x12⟩ := hxo
   obtain ⟨y1,⟨y2,y3,y4,y5⟩,⟨y6,y7,y8,y9⟩,⟨y10,y13⟩,y11,y12⟩ := hyo
   have hAok : (A.rows sh o' code capb kind).ok n bl.length ρ := h.b _ (List.mem_of_getElem? hbl) _ (by simp)
   have hBok : (A.rows sh o2 code2 capb2 kind2).ok n bl.length ρ := h.b _ (List.mem_of_getElem? hbl2) _ (by simp)
   have hpos := shOk_pos c9
   have hcs : Snd S L (bind (chkM 65 [code,ro,len]) fun _ => bind (chkM 22 [code2,ro2,ro2.add len2]) fun _ => bind (fnM 62 [len2,len] 0 9223372036854775807) fun q => bind (fnM 22 [code2,ro2,ro2.add q] 0 RB) fun src => bind (fnM 63 [code,ro,src] 0 RB) fun code' => pure (q,code')) n ρ fun ρ' n' p => (p.1.sc n' /\ p.2.sc n') /\ (0 <= p.2.den ρ' /\ p.2.den ρ' <= RB) /\ (0 <= ro.den ρ /\ 0 < len.den ρ /\ ro.den ρ + len.den ρ <= (rOf (code.den ρ)).length) /\ 0 <= capb.den ρ /\
    p.1.den ρ' = min (len2.den ρ) (len.den ρ) /\ (0 <= ro2.den ρ /\ ro2.den ρ + len2.den ρ <= (rOf (code2.den ρ)).length) /\ rOf (p.2.den ρ') = (rOf (code.den ρ)).take (ro.den ρ).toNat ++ ((rOf (code2.den ρ)).drop (ro2.den ρ).toNat).take (min (len2.den ρ) (len.den ρ)).toNat ++ (rOf (code.den ρ)).drop ((ro.den ρ).toNat + (((rOf (code2.den ρ)).drop (ro2.den ρ).toNat).take (min (len2.den ρ) (len.den ρ)).toNat).length) /\ ∀ r ∈ rOf (code2.den ρ),RowOk sh r := by
    refine chkM_snd fun hk1 => chkM_snd fun hk2 => ?_
    have hk1 : 0 <= ro.den ρ /\ 0 < len.den ρ /\ ro.den ρ + len.den ρ <= (rOf (code.den ρ)).length := hk1
    have hk2 : 0 <= ro2.den ρ /\ ro2.den ρ <= (ro2.add len2).den ρ /\ (ro2.add len2).den ρ <= (rOf (code2.den ρ)).length := hk2
    rw [Lin.den_add] at hk2
    have hcap : 0 <= capb.den ρ := by
     rcases Int.lt_or_le (capb.den ρ) 0 with hcn | hcn
     ·have := (h.mm.rws b sh o' code capb kind bt hbl (by omega)).1 hcn
      rw [this] at hk1; simp at hk1; omega
     ·exact hcn
    obtain ⟨hmx,hrk⟩ := rows_max h.mm hbl c1 hcap hAok.2.2.2 hpos
    have hrk2 : ∀ r ∈ rOf (code2.den ρ),RowOk sh r := by
     rcases Int.lt_or_le (capb2.den ρ) 0 with hcn | hcn
     ·have := (h.mm.rws b2 sh o2 code2 capb2 kind2 bt2 hbl2 (by omega)).1 hcn
      rw [this]; intro _ h; simp at h
     ·obtain ⟨_,_,_,_,_,⟨_,q3⟩,_⟩ := (h.mm.rws b2 sh o2 code2 capb2 kind2 bt2 hbl2 (by omega)).2 hcn
      exact q3.1
    have hmin : fnD 62 ([len2,len].map (·.den ρ)) = min (len2.den ρ) (len.den ρ) := rfl
    refine (fnM_snd (by rw [hmin]; omega) (by rw [hmin]; omega)).bind fun ρ1 n1 q hn1 ha1 ⟨q1,q2⟩ => ?_
    rw [hmin] at q2
    have b1 : code2.den ρ1 = code2.den ρ := Lin.den_agree ha1 hBok.1.2.1
    have b2' : ro2.den ρ1 = ro2.den ρ := Lin.den_agree ha1 y3
    have hf : fnD 22 ([code2,ro2,ro2.add q].map (·.den ρ1)) = rc (((rOf (code2.den ρ)).drop (ro2.den ρ).toNat).take (min (len2.den ρ) (len.den ρ)).toNat) := by
     simp only [List.map_cons,List.map_nil,fnD,Lin.den_add,b1,b2',q2]
     congr 2; omega
    have hbd : rc (((rOf (code2.den ρ)).drop (ro2.den ρ).toNat).take (min (len2.den ρ) (len.den ρ)).toNat) <= RB := RB_c (by
     simp only [List.length_take,List.length_drop]
     have : (rOf (code.den ρ)).length <= maxLen := hmx
     omega) fun r hr => (hrk2 r (List.mem_of_mem_drop (List.mem_of_mem_take hr))).row c9
    refine (fnM_snd (by rw [hf]; exact rc_nonneg _) (by rw [hf]; exact hbd)).bind fun ρ2 n2 src hn2 ha2 ⟨s1,s2⟩ => ?_
    rw [hf] at s2
    have ha12 := ha1.trans ha2 hn1
    have hf3 : fnD 63 ([code,ro,src].map (·.den ρ2)) = rc ((rOf (code.den ρ)).take (ro.den ρ).toNat ++ ((rOf (code2.den ρ)).drop (ro2.den ρ).toNat).take (min (len2.den ρ) (len.den ρ)).toNat ++ (rOf (code.den ρ)).drop ((ro.den ρ).toNat + (((rOf (code2.den ρ)).drop (ro2.den ρ).toNat).take (min (len2.den ρ) (len.den ρ)).toNat).length)) := by
     simp only [List.map_cons,List.map_nil,fnD,Lin.den_agree ha12 hAok.1.2.1,Lin.den_agree ha12 x3,s2,rOf_rc]
    have hmid : ∀ r ∈ ((rOf (code2.den ρ)).drop (ro2.den ρ).toNat).take (min (len2.den ρ) (len.den ρ)).toNat,RowOk sh r := fun r hr => hrk2 r (List.mem_of_mem_drop (List.mem_of_mem_take hr))
    have hbd3 : rc ((rOf (code.den ρ)).take (ro.den ρ).toNat ++ ((rOf (code2.den ρ)).drop (ro2.den ρ).toNat).take (min (len2.den ρ) (len.den ρ)).toNat ++ (rOf (code.den ρ)).drop ((ro.den ρ).toNat + (((rOf (code2.den ρ)).drop (ro2.den ρ).toNat).take (min (len2.den ρ) (len.den ρ)).toNat).length)) <= RB := RB_c (by
     rw [mid_len (by simp only [List.length_take,List.length_drop]; omega)]; exact hmx) fun r hr => (mid_ok hrk hmid r hr).row c9
    refine (fnM_snd (by rw [hf3]; exact rc_nonneg _) (by rw [hf3]; exact hbd3)).bind fun ρ3 n3 code' hn3 ha3 ⟨k1,k2⟩ => Snd.pure ?_
    rw [hf3] at k2
    refine ⟨⟨q1.mono (Nat.le_trans hn2 hn3),k1⟩,by rw [k2]; exact ⟨rc_nonneg _,hbd3⟩,hk1,hcap,?_,⟨hk2.1,hk2.2.2⟩,by rw [k2,rOf_rc],hrk2⟩
    rw [Lin.den_agree (ha2.trans ha3 hn2) q1,q2]
   obtain ⟨ρ',n',p,hn,ha,⟨⟨g1,g1'⟩,g2,g3,hcap,g4,g5,g6,hrk2⟩,hh⟩ := hcs G (fun p n => k n (putV tm o.dst (.w (.one (.int .i64 ⟨p.1,0,9223372036854775807⟩)))) (setB bl b ([.rows sh o' p.2 capb kind],bt))) hh
   have hR := h.later hn ha
   have d1 : code.den ρ' = code.den ρ := Lin.den_agree ha hAok.1.2.1
   have d2 : capb.den ρ' = capb.den ρ := Lin.den_agree ha hAok.1.2.2
   generalize hq : (min (len2.den ρ) (len.den ρ)).toNat = q at *
   have hmid : ∀ r ∈ ((rOf (code2.den ρ)).drop (ro2.den ρ).toNat).take q,RowOk sh r := fun r hr => hrk2 r (List.mem_of_mem_drop (List.mem_of_mem_take hr))
   have hml : (((rOf (code2.den ρ)).drop (ro2.den ρ).toNat).take q).length = q := by simp only [List.length_take,List.length_drop]; omega
   have hle : (ro.den ρ).toNat + (((rOf (code2.den ρ)).drop (ro2.den ρ).toNat).take q).length <= (rOf (code.den ρ)).length := by rw [hml]; omega
   have hrows : ∀ r ∈ rOf (code.den ρ),RowOk sh r := (rows_max h.mm hbl c1 hcap hAok.2.2.2 hpos).2
   obtain ⟨cells,post,fz,p1,p2,p3,p4,p5,p6,p7⟩ := hR.mm.rewrite (code' := p.2) hbl c1 (by rw [d2]; exact hcap) (by rw [g6]; exact mid_ok hrows hmid) (by rw [g6,d1]; exact mid_len hle)
   rw [d1] at p4 p5
   have p3 : o'.den ρ = 0 := by rw [<- Lin.den_agree ha x2]; exact p3
   have hcap' : 0 <= cap.den ρ := by
    rcases Int.lt_or_le (cap.den ρ) 0 with hcn | hcn
    ·have := x11 hcn; omega
    ·exact hcn
   have hX : a.eval x = .slice (some ⟨m b,(ro.den ρ).toNat * sh.length,none⟩) (len.den ρ).toNat (cap.den ρ).toNat := by
    rw [hxr,e3 hcap',if_neg (by omega),p3]; simp
   have hfl : (flatV sh (((rOf (code2.den ρ)).drop (ro2.den ρ).toNat).take q)).length = q * sh.length := by rw [flatV_len hmid,hml]
   have hcl2 := congrArg List.length p5
   simp only [List.length_append,Array.length_toList,flatV_len p4] at hcl2
   have hfit : (ro.den ρ).toNat * sh.length + 0 + (flatV sh (((rOf (code2.den ρ)).drop (ro2.den ρ).toNat).take q)).length <= cells.size := by
    rw [hfl]
    have : ((ro.den ρ).toNat + q) * sh.length <= (rOf (code.den ρ)).length * sh.length := Nat.mul_le_mul_right _ (by omega)
    rw [Nat.add_mul] at this
    omega
   have hst := run_storeCells_fz (P := P) (m b) ((ro.den ρ).toNat * sh.length) bt.1 fz kind (flatV sh (((rOf (code2.den ρ)).drop (ro2.den ρ).toNat).take q)) 0 cells w p2 p1 hfit flatV_one
   rw [Nat.add_zero,mid_rows p4 hmid p5 hle] at hst
   rw [<- g6] at hst
   have hqm : Nat.min (len2.den ρ).toNat (len.den ρ).toNat = q := by show min _ _ = q; omega
   have hfc : (Builtin.firstCells sh.length q (a.eval y)).run P w = .ok (flatV sh (((rOf (code2.den ρ)).drop (ro2.den ρ).toNat).take q)).toArray w := by
    rcases Int.lt_or_le (cap2.den ρ) 0 with hcn | hcn
    ·have h0 := y11 hcn
     have hq0 : q = 0 := by omega
     rw [hyr,f2 hcn,hq0,List.take_zero]
     have := run_firstCells_none (P := P) w sh.length 0 (len2.den ρ).toNat (if cap2.den ρ < 0 then 0 else (cap2.den ρ).toNat)
     simpa [flatV] using this
    ·rw [hyr,f3 hcn]
     have hcb : 0 <= capb2.den ρ ∨ q = 0 := by
      rcases Int.lt_or_le (capb2.den ρ) 0 with hcm | hcm
      ·have := (h.mm.rws b2 sh o2 code2 capb2 kind2 bt2 hbl2 (by omega)).1 hcm
       rw [this] at g5; simp at g5; right; omega
      ·exact .inl hcm
     refine run_firstCells_some w sh.length q _ _ _ _ hfl fun j v hj => ?_
     rcases hcb with hcb | hcb
     ·obtain ⟨_,cells2,tq,fz2,q1,⟨q2,q3⟩,_⟩ := (h.mm.rws b2 sh o2 code2 capb2 kind2 bt2 hbl2 (by omega)).2 hcb
      have := (q3.sub (ro2.den ρ).toNat q (by omega)).flat hj
      rw [addr_add]
      simp only [World.cell?,q1,Option.isSome_none,Bool.false_eq_true,if_false]
      exact this
     ·rw [hcb,List.take_zero] at hj; simp [flatV] at hj
   obtain ⟨len2',cap2',hY⟩ : ∃ B C,a.eval y = .slice ptr2 B C := ⟨_,_,hyr⟩
   have hlen2 : len2' = (len2.den ρ).toNat := by rw [hyr] at hY; injection hY with _ h2 _; exact h2.symm
   subst hlen2
   have hrun : (Builtin.copy_ #[t,t'] o.type #[.slice (some ⟨m b,(ro.den ρ).toNat * sh.length,none⟩) (len.den ρ).toNat (cap.den ρ).toNat,a.eval y]).run P w = .ok (goInt q) (w.setRow (m b) (flatV sh (rOf (p.2.den ρ')) ++ post).toArray) := by
    rw [hY] at hfc ⊢
    simp [Builtin.copy_,run_underlying (slcOf_spec he),Builtin.lenOf,run_szB hs,hqm,hfc,hst]
   unfold Oper.wp
   have hex : execOp a.eval o = (do pure (Next.value (<- Builtin.copy_ #[t,t'] o.type #[a.eval x,a.eval y]))) := by
    simp [execOp,ho,resolve,hcl,a1,a2,invoke,builtin]
   simp only [hex,hX,Sem.run_bind,hrun,Result.andThen_ok,Sem.run_pure]
   refine hk n' ρ' m _ _ G _ _ ⟨hn,ha,by rw [setB_length]; exact Nat.le_refl _,fun _ _ => rfl⟩ (AgA.refl _ _) ⟨?_,by rw [put_defers]; exact h.d,hR.b.set (fun y hy => by
    simp at hy; subst hy
    exact ⟨⟨hAok.1.1.mono hn,g1',hAok.1.2.2.mono hn⟩,g2,by rw [d2]; exact hAok.2.2⟩),p7⟩ hh
   rw [setB_length]
   refine TRel.put hR.t o.dst ⟨g1,by show (0 : Int) <= p.1.den ρ'; rw [g4]; omega,by show p.1.den ρ' <= 9223372036854775807; rw [g4]; omega⟩ ?_
   show goInt q = Value.int .i64 (p.1.den ρ')
   have e9 : ((q : Nat) : Int) = p.1.den ρ' := by rw [g4,<- hq]; omega
   rw [<- e9]; rfl
 ·cases hT
end
end Go.Rx
set_option linter.unusedVariables false
set_option linter.unusedSimpArgs false
namespace Go.Rx
open M
section
variable {S : Nat -> List Int -> List Int -> Prop} {L : V -> Env -> Prop} {w0 : Base} {P : Program} {gl : Glo} {cal : Cal} {inl : Inl}
theorem cond_holds {c : Bool} {t : T} {G : Again} {ρ : Env} (h : (cond c t .stuck).holds S L G ρ) : c = true /\ t.holds S L G ρ := by
 cases c with
 | true => exact ⟨rfl,h⟩
 | false => exact h.elim
theorem stepE0_wp {n : Nat} {ρ : Env} {m : Nat -> Nat} {tm : List V} {bl : List Blk} {a : Act} {w : World} {G : Again} {o : Oper} {K : Act -> World -> Prop} {Q : Exit -> Act -> World -> Prop} {k : SK}
 (hcal : CalOk S P gl w0 cal) (hg : GOk gl w0) (hinl : InlOk S L w0 P inl) (h : R w0 n ρ m tm bl a w) (hh : (stepE0 P gl cal inl o n tm bl k).holds S L G ρ) (hk : SKok S L w0 k n bl.length ρ m G K) : o.wp P a w K Q := by
 unfold stepE0 at hh
 split at hh
 ·rename_i t ho
  cases hz : zeroL P t with
  | none => simp [hz,T.holds] at hh
  | some cs =>
   simp only [hz] at hh
   unfold zeroL at hz
   cases hi : P.info? t with
   | none => simp [hi] at hz
   | some i =>
    cases hzz : i.zero with
    | none => simp [hi,hzz] at hz
    | some z =>
     simp only [hi,hzz] at hz
     have hc := constL_spec hz n bl.length ρ m
     obtain ⟨hord,hh⟩ := cond_holds hh
     have hw := hk n ρ _ _ _ G _ _ (Later.alloc n ρ m bl (cs,(t,false)) w.heap.size) (AgA.refl _ _) (h.alloc (t := t) hc.1 o.dst hord) hh
     unfold Oper.wp
     simp only [execOp,ho,Instr.alloc,Sem.run_bind,zeroValue,typeInfo,run_program,Result.andThen_ok,hi,hzz,Sem.run_pure,newVar,newRow,run_newObj]
     have e : (cs.map (A.den ρ m)).toArray = z.cells := by rw [hc.2]
     rw [e] at hw
     exact hw
 ·rename_i t x ho
  have hx := opV_spec h.t x
  split at hh
  ·rename_i u hu
   rw [hu] at hx
   have hxr : a.eval x = u.den ρ m := hx.2
   obtain ⟨hord,hh⟩ := cond_holds hh
   have hw := hk n ρ _ _ _ G _ _ (Later.alloc n ρ m bl (u.cells,(t,false)) w.heap.size) (AgA.refl _ _) (h.alloc (t := t) (W.cells_ok hx.1) o.dst hord) hh
   unfold Oper.wp
   simp only [execOp,ho,Instr.box,Sem.run_bind,Result.andThen_ok,Sem.run_pure,newVar,newRow,run_newObj,hxr]
   rw [<- W.cells_den u hx.1] at hw
   exact hw
  ·exact hh.elim
 ·rename_i t len parts ho
  split at hh
  ·rename_i cs e hbs
   obtain ⟨g1,g2⟩ := bsL_spec (m := m) (vals := parts.map fun (i,x) => (i,a.eval x)) hbs (by
    rw [Array.toList_map]
    generalize parts.toList = ps
    induction ps with
    | nil => exact trivial
    | cons p r ih => exact ⟨⟨rfl,opV_spec h.t p.2⟩,ih⟩)
   obtain ⟨hord,hh⟩ := cond_holds hh
   have hR := R.row (t := e) (cs := cs) (ex := []) (open_ := false) h g1 (fun _ => rfl) hord o.dst (v := .w (.one (.slc bl.length 0 len len))) (x := .slice (some ⟨w.heap.size,0,none⟩) len len) (by simp [V.ok,W.ok,A.ok]) (by
    show Value.slice (some ⟨w.heap.size,0,none⟩) _ _ = _
    simp [W.den,A.den,updM_same])
   have hw := hk n ρ _ _ _ G _ _ (Later.alloc n ρ m bl (cs,(e,false)) w.heap.size) (AgA.refl _ _) hR hh
   rw [List.append_nil] at hw
   unfold Oper.wp
   simp only [execOp,ho,Sem.run_bind,g2,Result.andThen_ok,Sem.run_pure]
   exact hw
  ·exact hh.elim
 ·rename_i t p x ho
  have hp := opV_spec h.t p
  have hx := opV_spec h.t x
  split at hh
  ·rename_i b off u hpv hxv
   rw [hpv] at hp
   rw [hxv] at hx
   have hpr : a.eval p = .pointer (some ⟨m b,off,none⟩) := hp.2
   have hxr : a.eval x = u.den ρ m := hx.2
   split at hh
   ·rename_i cs bt s hbl hs
    cases hc : (Nat.beq u.cells.length s && Nat.ble (off + s) cs.length && Nat.blt 0 s && isOrd cs && isOrd (cs.take off ++ u.cells ++ cs.drop (off + s))) with
    | false => rw [hc] at hh; exact hh.elim
    | true =>
     simp only [hc,cond_true] at hh
     simp only [Bool.and_eq_true] at hc
     obtain ⟨⟨hc,ho1⟩,ho2⟩ := hc
     have e1 := Nat.eq_of_beq_eq_true hc.1.1
     have e2 := Nat.le_of_ble_eq_true hc.1.2
     have e3 := blt_lt hc.2
     subst e1
     obtain ⟨w',hrun,hm'⟩ := h.mm.store h.b (W.cells_ok hx.1) hbl e2 e3 ho1 ho2 t hs (u.den ρ m) (W.cells_den u hx.1)
     have hok : ∀ a ∈ cs.take off ++ u.cells ++ cs.drop (off + u.cells.length),A.ok n bl.length ρ a := fun a ha => by
      have hcs := h.b _ (List.mem_of_getElem? hbl)
      rcases List.mem_append.1 ha with ha | ha
      ·rcases List.mem_append.1 ha with ha | ha
       ·exact hcs a (List.mem_of_mem_take ha)
       ·exact W.cells_ok hx.1 a ha
      ·exact hcs a (List.mem_of_mem_drop ha)
     unfold Oper.wp
     simp only [execOp,ho,Sem.run_bind,hpr,hxr,hrun,Result.andThen_ok,Sem.run_pure]
     refine hk n ρ m _ _ G _ w' ⟨Nat.le_refl _,agree.refl _ _,by rw [setB_length]; exact Nat.le_refl _,fun _ _ => rfl⟩ (AgA.refl _ _) ⟨?_,by rw [put_defers]; exact h.d,h.b.set hok,hm'⟩ hh
     rw [setB_length]
     exact TRel.put h.t o.dst (by intro x hx; simp at hx) rfl
   ·exact hh.elim
  ·exact hh.elim
 ·rename_i c ho
  split at hh
  ·rename_i f hc
   split at hh
   ·exact quiet_wp hcal hg h hh hk
   ·have hargs : ∀ v ∈ c.args.toList.map (opV tm),V.ok n bl.length ρ v := fun v hv => by
     obtain ⟨x,_,rfl⟩ := List.mem_map.1 hv
     exact (opV_spec h.t x).1
    have hr := hinl f n _ bl _ G ρ m w _ (fun e w'' => match e with
     | .returned v => K (a.put o.dst v) w''
     | .panicked chain => Q (.panic chain) a w''
     | .outgrown => LetsOut Q) h.b h.mm hargs (LRel_map (xs := c.args.toList) h.t) hh (by
     intro n' v bl' G' ρ' m' w' val h1 h2 h3 h4 h5 h6 h7
     exact hk n' ρ' m' _ bl' G' _ w' h1 h2 ⟨TRel.put (h.t.ext h1.ha h1.hn h1.hb h1.hm) o.dst h3 h4,by rw [put_defers]; exact h.d,h5,h6⟩ h7)
    have ha : (c.args.toList.map a.eval).toArray = c.args.map a.eval := by rw [<- Array.toList_map]
    rw [ha] at hr
    unfold Oper.wp
    rw [run_callFunc_eval hc o ho,hr.1]
    refine hr.2.mono fun e w'' he => ?_
    cases e <;> exact he
  ·rename_i x hc
   split at hh
   ·exact quiet_wp hcal hg h hh hk
   split at hh
   ·rename_i f caps hcv
    have hx := opV_spec h.t (.tmp x)
    obtain ⟨hx1,hxr⟩ : (∀ y ∈ caps,A.ok n bl.length ρ y) /\ a.eval (.tmp x) = .func (.func f) #[] (caps.map (A.den ρ m)).toArray := cloOf_spec hcv hx.1 hx.2
    have hargs : ∀ v ∈ c.args.toList.map (opV tm) ++ caps.map (fun y => V.w (.one y)),V.ok n bl.length ρ v := fun v hv => by
     rcases List.mem_append.1 hv with hv | hv
     ·obtain ⟨x,_,rfl⟩ := List.mem_map.1 hv
      exact (opV_spec h.t x).1
     ·obtain ⟨y,hy,rfl⟩ := List.mem_map.1 hv
      exact hx1 y hy
    have hrel : LRel ρ m (c.args.toList.map (opV tm) ++ caps.map fun y => V.w (.one y)) (c.args.toList.map a.eval ++ caps.map (A.den ρ m)) := by
     generalize c.args.toList = l
     induction l with
     | nil =>
      simp only [List.map_nil,List.nil_append]
      generalize caps = q
      induction q with
      | nil => trivial
      | cons y r ih => exact ⟨rfl,ih⟩
     | cons x r ih => exact ⟨(opV_spec h.t x).2,ih⟩
    have hr := hinl f n _ bl _ G ρ m w _ (fun e w'' => match e with
     | .returned v => K (a.put o.dst v) w''
     | .panicked chain => Q (.panic chain) a w''
     | .outgrown => LetsOut Q) h.b h.mm hargs hrel hh (by
     intro n' v bl' G' ρ' m' w' val h1 h2 h3 h4 h5 h6 h7
     exact hk n' ρ' m' _ bl' G' _ w' h1 h2 ⟨TRel.put (h.t.ext h1.ha h1.hn h1.hb h1.hm) o.dst h3 h4,by rw [put_defers]; exact h.d,h5,h6⟩ h7)
    have hex : execOp a.eval o = callFunc f (c.args.toList.map a.eval ++ caps.map (A.den ρ m)).toArray := by
     have e : (c.args.toList.map a.eval ++ caps.map (A.den ρ m)).toArray = #[] ++ c.args.map a.eval ++ (caps.map (A.den ρ m)).toArray := by
      apply Array.ext'
      simp
     rw [e]
     simp only [execOp,ho,resolve,hc,hxr,Deferred.ofValue,pure_bind,invoke]
    unfold Oper.wp
    rw [hex,hr.1]
    refine hr.2.mono fun e w'' he => ?_
    cases e <;> exact he
   ·exact hh.elim
  ·rename_i hc
   split at hh
   ·rename_i s x t t' hxs hts
    exact appE_wp h ho hc hxs hts hh hk
   ·exact hh.elim
  ·exact quiet_wp hcal hg h hh hk
 ·exact quiet_wp hcal hg h hh hk
theorem stepE_wp {n : Nat} {ρ : Env} {m : Nat -> Nat} {tm : List V} {bl : List Blk} {a : Act} {w : World} {G : Again} {o : Oper} {K : Act -> World -> Prop} {Q : Exit -> Act -> World -> Prop} {k : SK}
 (hcal : CalOk S P gl w0 cal) (hg : GOk gl w0) (hinl : InlOk S L w0 P inl) (h : R w0 n ρ m tm bl a w) (hh : (stepE P gl cal inl o n tm bl k).holds S L G ρ) (hk : SKok S L w0 k n bl.length ρ m G K) : o.wp P a w K Q := by
 unfold stepE at hh
 split at hh
 ·rename_i t ht
  exact stepR_wp h ht hh hk
 ·split at hh
  ·rename_i t ht
   exact stepW_wp h ht hh hk
  ·split at hh
   ·rename_i t ht
    exact stepX_wp h ht hh hk
   ·exact stepE0_wp hcal hg hinl h hh hk
theorem bndB_spec {ρ : Env} : ∀ {b : BE} {v : Bool} {r : Lin × Option Int × Option Int},b.den ρ = v -> bndB b v = some r -> (∀ c,r.2.1 = some c -> c <= r.1.den ρ) /\ (∀ c,r.2.2 = some c -> r.1.den ρ <= c)
 | .le p q,true,r,hb,h | .le p q,false,r,hb,h | .lt p q,true,r,hb,h | .lt p q,false,r,hb,h => by
  simp only [BE.den,decide_eq_true_eq,decide_eq_false_iff_not] at hb
  simp only [bndB] at h
  split at h
  ·rename_i c h1 h2
   have e := Lin.den_isC h1 (ρ := ρ)
   simp only [Option.some.injEq] at h
   subst h
   constructor <;> intro c' hc <;> simp only [Option.some.injEq,reduceCtorEq] at hc <;> subst hc <;> simp only <;> omega
  ·rename_i c h1 h2
   have e := Lin.den_isC h2 (ρ := ρ)
   simp only [Option.some.injEq] at h
   subst h
   constructor <;> intro c' hc <;> simp only [Option.some.injEq,reduceCtorEq] at hc <;> subst hc <;> simp only <;> omega
  ·cases h
 | .not b,v,r,hb,h => by
  simp only [bndB] at h
  refine bndB_spec (b := b) (v := !v) ?_ h
  simp only [BE.den] at hb
  rw [<- hb,Bool.not_not]
 | .lit _,_,_,_,h => by simp [bndB] at h
 | .eq _ _,_,_,_,h => by simp [bndB] at h
 | .and _ _,_,_,_,h => by simp [bndB] at h
 | .iff _ _,_,_,_,h => by simp [bndB] at h
theorem cutV_spec {n nb : Nat} {ρ : Env} {m : Nat -> Nat} {b : BE} {v : Bool} (hb : b.den ρ = v) (u : V) (hu : u.ok n nb ρ) : (cutV b v (bndB b v) u).ok n nb ρ /\ ∀ x,u.rel ρ m x -> (cutV b v (bndB b v) u).rel ρ m x := by
 unfold cutV
 split
 ·rename_i e
  cases hc : BE.beq e b with
  | false => simp only [cond_false]; exact ⟨hu,fun _ h => h⟩
  | true =>
   have := BE.beq_eq hc
   subst this
   simp only [cond_true]
   refine ⟨trivial,fun x hx => ?_⟩
   simp only [V.rel,W.den,A.den,BE.den] at hx ⊢
   rw [hx,hb]
 ·rename_i k y
  cases hr : bndB b v with
  | none => exact ⟨hu,fun _ h => h⟩
  | some r =>
   obtain ⟨l,lo,hi⟩ := r
   simp only
   cases hc : Lin.beq y.l l with
   | false => simp only [cond_false]; exact ⟨hu,fun _ h => h⟩
   | true =>
    have := Lin.beq_eq hc
    have hs := bndB_spec hb hr
    have hy : y.ok n ρ := hu
    simp only [cond_true]
    have b1 : maxI y.lo lo <= y.l.den ρ := by
     unfold maxI
     cases lo with
     | none => exact hy.2.1
     | some c =>
      simp only
      have := hs.1 c rfl
      have := hy.2.1
      cases decide (y.lo <= c) with
      | true => simp only [cond_true]; rw [‹y.l = l›]; assumption
      | false => simp only [cond_false]; assumption
    have b2 : y.l.den ρ <= minI y.hi hi := by
     unfold minI
     cases hi with
     | none => exact hy.2.2
     | some c =>
      simp only
      have := hs.2 c rfl
      have := hy.2.2
      cases decide (c <= y.hi) with
      | true => simp only [cond_true]; rw [‹y.l = l›]; assumption
      | false => simp only [cond_false]; assumption
    cases hd : decide (maxI y.lo lo = minI y.hi hi) with
    | true =>
     simp only [cond_true]
     have hd := of_decide_eq_true hd
     refine ⟨IV.const_ok _ _ _,fun x h => ?_⟩
     have h : x = .int k (y.l.den ρ) := h
     rw [h]
     simp only [V.rel,W.den,A.den,IV.const,Lin.den_const]
     congr 1; omega
    | false => simp only [cond_false]; exact ⟨⟨hy.1,b1,b2⟩,fun x h => h⟩
 ·exact ⟨hu,fun _ h => h⟩
theorem subB_spec' {n nb : Nat} {ρ : Env} {m : Nat -> Nat} {b : BE} {v : Bool} (hb : b.den ρ = v) {tm : List V} {xs : Array Value} (h : TRel n nb ρ m tm xs) : TRel n nb ρ m (subB b v tm) xs := by
 refine ⟨by simp [subB,h.1],fun i u hu => ?_⟩
 simp only [subB,List.getElem?_map,Option.map_eq_some_iff] at hu
 obtain ⟨u0,h0,rfl⟩ := hu
 obtain ⟨h1,x,h2,h3⟩ := h.2 i u0 h0
 have := cutV_spec (m := m) hb u0 h1
 exact ⟨this.1,x,h2,this.2 x h3⟩
theorem guard_spec {n nb : Nat} {ρ : Env} {m : Nat -> Nat} {tm : List V} {a : Act} {G : Again} {ops : Array Oper} {o : Oper} {yes no : List V -> T} (ht : TRel n nb ρ m tm a.tmps) (h : (guardE ops tm o yes no).holds S L G ρ) :
 ∃ tm',TRel n nb ρ m tm' a.tmps /\ ((Region.wanted o (yielded ops a.tmps) = true /\ (yes tm').holds S L G ρ) ∨ (Region.wanted o (yielded ops a.tmps) = false /\ (no tm').holds S L G ρ)) := by
 unfold guardE at h
 unfold Region.wanted
 cases hgd : o.guard with
 | none => simp only [hgd] at h; exact ⟨tm,ht,.inl ⟨rfl,h⟩⟩
 | some gw =>
  obtain ⟨g,want⟩ := gw
  simp only [hgd] at h ⊢
  unfold yielded
  cases hd : (ops[g]?).bind (·.dst) with
  | none => simp [hd,T.holds] at h
  | some d =>
   simp only [hd] at h
   simp only [Option.bind_some]
   cases htd : tm[d]? with
   | none => simp [htd,T.holds] at h
   | some v =>
    obtain ⟨_,x,hx,hr⟩ := ht.2 d v htd
    simp only [htd] at h
    revert hr h
    cases v with
    | any => intro hr h; exact h.elim
    | osl _ _ _ => intro hr h; exact h.elim
    | clo _ _ => intro hr h; exact h.elim
    | tup l =>
     cases l with
     | nil =>
      intro hr h
      have hr : x = .tuple #[] := hr
      subst hr
      simp only [hx]
      exact ⟨tm,ht,.inr ⟨by simp,h⟩⟩
     | cons _ _ => intro hr h; exact h.elim
    | w y =>
     cases y with
     | agg l => intro hr h; exact h.elim
     | one c =>
      cases c with
      | bool b =>
       intro hr h
       have hr : x = .bool (b.den ρ) := hr
       subst hr
       simp only [hx]
       have key : ∀ b : BE,(T.br b (cond want (yes (subB b true tm)) (no (subB b true tm))) (cond want (no (subB b false tm)) (yes (subB b false tm)))).holds S L G ρ -> ∃ tm',TRel n nb ρ m tm' a.tmps /\ (((some (b.den ρ) == some want) = true /\ (yes tm').holds S L G ρ) ∨ ((some (b.den ρ) == some want) = false /\ (no tm').holds S L G ρ)) := fun b hb => by
        simp only [T.holds] at hb
        cases hq : b.den ρ with
        | true =>
         have := hb.1 hq
         cases want with
         | true => exact ⟨_,subB_spec' hq ht,.inl ⟨by simp,this⟩⟩
         | false => exact ⟨_,subB_spec' hq ht,.inr ⟨by simp,this⟩⟩
        | false =>
         have := hb.2 hq
         cases want with
         | true => exact ⟨_,subB_spec' hq ht,.inr ⟨by simp,this⟩⟩
         | false => exact ⟨_,subB_spec' hq ht,.inl ⟨by simp,this⟩⟩
       cases b with
       | lit v =>
        simp only [BE.den]
        cases hv : (v == want) with
        | true => simp only [hv,cond_true] at h; exact ⟨tm,ht,.inl ⟨by simpa using hv,h⟩⟩
        | false => simp only [hv,cond_false] at h; exact ⟨tm,ht,.inr ⟨by simpa using hv,h⟩⟩
       | eq _ _ => exact key _ h
       | lt _ _ => exact key _ h
       | le _ _ => exact key _ h
       | not _ => exact key _ h
       | and _ _ => exact key _ h
       | iff _ _ => exact key _ h
      | _ => intro hr h; exact h.elim
theorem R.skip {n : Nat} {ρ : Env} {m : Nat -> Nat} {tm : List V} {bl : List Blk} {a : Act} {w : World} (h : R w0 n ρ m tm bl a w) (d : Option Tmp) : R w0 n ρ m (putV tm d (.tup [])) bl (a.put d undef) w :=
 ⟨TRel.put h.t d (by intro x hx; simp at hx) rfl,by rw [put_defers]; exact h.d,h.b,h.mm⟩
theorem opsE_wp {ops : Array Oper} {Q : Exit -> Act -> World -> Prop} (hcal : CalOk S P gl w0 cal) (hg : GOk gl w0) (hinl : InlOk S L w0 P inl) : ∀ (l : List Oper) {n : Nat} {ρ : Env} {m : Nat -> Nat} {tm : List V} {bl : List Blk} {a : Act} {w : World} {G : Again} {k : SK},
 R w0 n ρ m tm bl a w -> (opsE P gl cal inl ops l n tm bl k).holds S L G ρ -> SKok S L w0 k n bl.length ρ m G (Q .normal) -> wpList P ops Q l a w
 | [],n,ρ,m,tm,bl,a,w,G,k,h,hh,hk => hk n ρ m tm bl G a w (Later.refl _ _ _ _) (AgA.refl _ _) h hh
 | o :: r,n,ρ,m,tm,bl,a,w,G,k,h,hh,hk => by
  unfold opsE at hh
  unfold wpList
  obtain ⟨tm',ht',hgd⟩ := guard_spec h.t hh
  have h : R w0 n ρ m tm' bl a w := ⟨ht',h.d,h.b,h.mm⟩
  rcases hgd with ⟨hw,hh⟩ | ⟨hw,hh⟩
  ·rw [if_pos hw]
   refine .inl (stepE_wp hcal hg hinl h hh fun n' ρ' m' tm' bl' G' a' w' h1 h2 h3 h4 => ?_)
   exact opsE_wp hcal hg hinl r h3 h4 (hk.later h1 h2)
  ·rw [if_neg (by simp [hw])]
   exact opsE_wp hcal hg hinl r (h.skip o.dst) hh hk
theorem allT_holds {g : Nat -> T} {L : V -> Env -> Prop} {G : Again} {ρ : Env} : ∀ {l : List Nat},(allT g l).holds S L G ρ -> ∀ i ∈ l,(g i).holds S L G ρ
 | [],hh,_,hi => by cases hi
 | [j],hh,i,hi => by simp at hi; subst hi; exact hh
 | j :: j' :: r,hh,i,hi => by
  rcases List.mem_cons.1 hi with rfl | hi
  ·exact hh.1
  ·exact allT_holds (l := j' :: r) hh.2 i hi
theorem headE_wp {ops : Array Oper} {bl : List Blk} {m : Nat -> Nat} {n0 : Nat} {ρ0 : Env} (hcal : CalOk S P gl w0 cal) (hg : GOk gl w0) (hb0 : BlOk n0 bl.length ρ0 bl) (hex : ∃ w,Mem w0 ρ0 m bl w) {F : Act -> Prop} {G : Again} : ∀ (l : List Oper) {n : Nat} {ρ : Env} {tm : List V} {a : Act} {k : Nat -> List V -> T},
 n0 <= n -> agree n0 ρ0 ρ -> TRel n bl.length ρ m tm a.tmps -> a.defers = [] -> (headE P gl cal ops l n tm bl k).holds S L G ρ ->
 (∀ n' ρ' tm' a',n <= n' -> agree n ρ ρ' -> TRel n' bl.length ρ' m tm' a'.tmps -> a'.defers = [] -> (k n' tm').holds S L G ρ' -> F a') -> Chain P ops (fun w => Mem w0 ρ0 m bl w) F l a
 | [],n,ρ,tm,a,k,hn,ha,ht,hd,hh,hk => hk n ρ tm a (Nat.le_refl _) (agree.refl _ _) ht hd hh
 | o :: r,n,ρ,tm,a,k,hn,ha,ht,hd,hh,hk => by
  unfold headE at hh
  unfold Chain
  obtain ⟨wx,hwx⟩ := hex
  cases hal : alO o with
  | true =>
   simp only [hal,cond_true] at hh ⊢
   exact headE_wp hcal hg hb0 ⟨wx,hwx⟩ r hn ha ht hd hh hk
  | false =>
   simp only [hal,cond_false] at hh ⊢
   obtain ⟨tm',ht,hgd⟩ := guard_spec ht hh
   rcases hgd with ⟨hw,hh⟩ | ⟨hw,hh⟩
   ·have hb : BlOk n bl.length ρ bl := hb0.ext ha hn (Nat.le_refl _)
    obtain ⟨ρ',n',v,hn',ha',⟨hv,val,hr,hq⟩,hh'⟩ := qop_snd (L := L) hcal hb hg ⟨wx,hwx.rho hb0 ha⟩ ht o G _ hh
    refine ⟨val,.inl ⟨hw,fun w hwm => hq w (hwm.rho hb0 ha)⟩,?_⟩
    exact headE_wp hcal hg hb0 ⟨wx,hwx⟩ r (Nat.le_trans hn hn') (ha.trans ha' hn) (TRel.put (ht.ext ha' hn' (Nat.le_refl _) (fun _ _ => rfl)) o.dst hv hr) (by rw [put_defers]; exact hd) hh'
     fun n'' ρ'' tm'' a'' h1 h2 h3 h4 h5 => hk n'' ρ'' tm'' a'' (Nat.le_trans hn' h1) (ha'.trans h2 hn') h3 h4 h5
   ·exact ⟨undef,.inr ⟨hw,rfl⟩,headE_wp hcal hg hb0 ⟨wx,hwx⟩ r hn ha (TRel.put (v := .tup []) ht o.dst (by intro x hx; simp at hx) rfl) (by rw [put_defers]; exact hd) hh hk⟩
def zeroObj (P : Program) (ops : Array Oper) (j : Nat) : Obj :=
 match ops[j]? with
 | some o => match o.op with
  | .alloc t => match P.info? t with
   | some i => match i.zero with
    | some z => .cells z.cells t
    | none => default
   | none => default
  | _ => default
 | none => default
theorem zeroOk_run {l : List Oper} {h j : Nat} {o : Oper} (hz : zeroOk P (l.take h) = true) (hj : j < h) (ho : l.toArray[j]? = some o) (hal : alO o = true) (b : Act) (w : World) :
 (execOp b.eval o).run P w = .ok (.value (.pointer (some ⟨w.heap.size,0,none⟩))) (w.alloc (zeroObj P l.toArray j)) := by
 have ho' : l[j]? = some o := by simpa using ho
 have hm : o ∈ l.take h := List.mem_of_getElem? (i := j) (by rw [List.getElem?_take,if_pos hj]; exact ho')
 have h1 := List.all_eq_true.1 hz o hm
 simp only [hal,Bool.not_true,Bool.false_or] at h1
 unfold zeroObj
 simp only [ho]
 cases hop : o.op with
 | alloc t =>
  simp only [hop] at h1
  obtain ⟨cs,hcs⟩ := Option.isSome_iff_exists.1 h1
  obtain ⟨i,z,hi,hzz,_⟩ := zeroL_spec hcs
  simp only [execOp,hop,Instr.alloc,Sem.run_bind,zeroValue,typeInfo,run_program,Result.andThen_ok,hi,hzz,Sem.run_pure,newVar,newRow,run_newObj]
  rfl
 | _ => simp [hop] at h1
theorem allocsE_wp {ops : Array Oper} {h : Nat} {an b : Act} {γ : Nat -> Nat} {sz : Nat} {w : World} {n : Nat} {ρ : Env} {G : Again} {k : SK} {K : Act -> World -> Prop} (hfin : Fin ops h an b γ) (hnew : News ops h (fun _ => True) (zeroObj P ops) γ sz w) (hsz : w0.b.heap.size <= sz) (hsz2 : w0.r.heap.size <= sz) :
 ∀ (l : List Oper) (i : Nat) {m : Nat -> Nat} {tm : List V} {bl : List Blk} {c : Act},(∀ j,j < l.length -> ops[i + j]? = l[j]?) -> i + l.length = h -> R w0 n ρ m tm bl c w ->
  (∀ (kk : Nat) (p : Blk),bl[kk]? = some p -> kindC ρ p.1 ≠ 0 -> m kk < sz ∨ ∃ j,j < i /\ alB ops j = true /\ m kk = γ j) -> c.tmps.size = an.tmps.size ->
  (∀ t : Nat,((∃ j o,j < i /\ ops[j]? = some o /\ alO o = true /\ o.dst = some t) -> c.tmps[t]? = b.tmps[t]?) /\ ((∀ j o,j < i -> ops[j]? = some o -> alO o = true -> o.dst ≠ some t) -> c.tmps[t]? = an.tmps[t]?)) ->
  (allocsE P l n tm bl k).holds S L G ρ -> SKok S L w0 k n bl.length ρ m G K -> an.defers = [] -> K b w
 | [],i,m,tm,bl,c,hl,hi,hR,hm,hcs,hc,hh,hk,hd => by
  simp only [List.length_nil,Nat.add_zero] at hi
  subst hi
  have hbc : c = b := act_ext (by rw [hR.d,hfin.d,hd]) fun t => by
   by_cases ht : ∃ j o,j < i /\ ops[j]? = some o /\ alO o = true /\ o.dst = some t
   ·exact (hc t).1 ht
   ·have hno : ∀ j o,j < i -> ops[j]? = some o -> alO o = true -> o.dst ≠ some t := fun j o h1 h2 h3 h4 => ht ⟨j,o,h1,h2,h3,h4⟩
    rw [(hc t).2 hno,hfin.no t hno]
  subst hbc
  exact hk n ρ m tm bl G c w (Later.refl _ _ _ _) (AgA.refl _ _) hR hh
 | o :: r,i,m,tm,bl,c,hl,hi,hR,hm,hcs,hc,hh,hk,hd => by
  have ho : ops[i]? = some o := by have := hl 0 (by simp); simpa using this
  have hr : ∀ j,j < r.length -> ops[i + 1 + j]? = r[j]? := fun j hj => by
   have := hl (j + 1) (by simp; omega)
   rw [show i + 1 + j = i + (j + 1) by omega,this]; simp
  have hi' : i + 1 + r.length = h := by simp at hi; omega
  unfold allocsE at hh
  cases hal : alO o with
  | false =>
   simp only [hal,cond_false] at hh
   refine allocsE_wp hfin hnew hsz hsz2 r (i + 1) hr hi' hR (fun kk p hkk hp => (hm kk p hkk hp).imp id fun ⟨j,h1,h2⟩ => ⟨j,by omega,h2⟩) hcs (fun t => ⟨fun ⟨j,o',h1,h2,h3,h4⟩ => ?_,fun hno => (hc t).2 fun j o' h1 => hno j o' (by omega)⟩) hh hk hd
   by_cases hji : j = i
   ·subst hji
    have : o' = o := Option.some.inj (h2.symm.trans ho)
    subst this
    rw [hal] at h3; cases h3
   ·exact (hc t).1 ⟨j,o',by omega,h2,h3,h4⟩
  | true =>
   simp only [hal,cond_true] at hh
   cases hop : o.op with
   | alloc ty =>
    simp only [hop] at hh
    cases hz : zeroL P ty with
    | none => simp [hz,T.holds] at hh
    | some cs =>
     simp only [hz] at hh
     obtain ⟨hord,hh⟩ := cond_holds hh
     obtain ⟨inf,z,hinf,hzz,hcl⟩ := zeroL_spec hz
     have hcsp := constL_spec hcl n bl.length ρ m
     have hib : alB ops i = true := by simp [alB,ho,hal]
     have hilt : i < h := by simp at hi; omega
     obtain ⟨g1,g2⟩ := hnew.1 i hilt trivial hib
     have hzo : zeroObj P ops i = .cells (cs.map (A.den ρ m)).toArray ty (0,0) := by
      unfold zeroObj
      simp only [ho,hop,hinf,hzz,hcsp.2]
     rw [hzo] at g2
     have hne : ∀ (kk : Nat) (p : Blk),bl[kk]? = some p -> kindC ρ p.1 ≠ 0 -> m kk ≠ γ i := fun kk p hkk hp e => by
      rcases hm kk p hkk hp with h1 | ⟨j,h1,h2,h3⟩
      ·omega
      ·have := hnew.2 j i (by omega) hilt trivial trivial h2 hib (h3.symm.trans e)
       omega
     have hM := hR.mm.push (x := (cs,(ty,false))) hR.b hcsp.1 (fun _ => ⟨by omega,.inr (by omega),[],fun _ => rfl,by rw [List.append_nil]; exact g2⟩) (fun sh off code cap kind e => by simp only at e; subst e; cases hord) fun i p hi he => .inr (.inl (Classical.byContradiction fun hk => hne i p hi hk he))
     have hL := Later.alloc n ρ m bl (cs,(ty,false)) (γ i)
     have hR' : R w0 n ρ (updM m bl.length (γ i)) (putV tm o.dst (.w (.one (.ptr bl.length 0)))) (bl ++ [(cs,(ty,false))]) (c.put o.dst (.pointer (some ⟨γ i,0,none⟩))) w :=
      ⟨TRel.put (hR.t.ext hL.ha hL.hn hL.hb hL.hm) o.dst (by simp [V.ok,W.ok,A.ok]) (by simp [V.rel,W.den,A.den,updM_same]),by rw [put_defers]; exact hR.d,hR.b.alloc hcsp.1,hM⟩
     refine allocsE_wp hfin hnew hsz hsz2 r (i + 1) hr hi' hR' (fun kk p hkk hp => ?_) ((put_size _ _ _).trans hcs) (fun t => ⟨fun ⟨j,o',h1,h2,h3,h4⟩ => ?_,fun hno => ?_⟩) hh (hk.later hL (AgA.refl _ _)) hd
     ·by_cases hkb : kk < bl.length
      ·rw [updM_lt hkb]
       rw [List.getElem?_append_left hkb] at hkk
       exact (hm kk p hkk hp).imp id fun ⟨j,h1,h2⟩ => ⟨j,by omega,h2⟩
      ·have : kk = bl.length := by have := (List.getElem?_eq_some_iff.1 hkk).1; simp at this; omega
       subst this
       rw [updM_same]
       exact .inr ⟨i,by omega,hib,rfl⟩
     ·by_cases ht : o.dst = some t
      ·rw [ht]
       simp only [Act.put]
       rcases Nat.lt_or_ge t c.tmps.size with h5 | h5
       ·have hbs : t < b.tmps.size := by rw [hfin.sz,<- hcs]; exact h5
        rw [hfin.al t i o hilt ho hal ht hbs]
        simp [h5]
       ·rw [Array.getElem?_eq_none (by simpa using h5),Array.getElem?_eq_none (by rw [hfin.sz,<- hcs]; exact h5)]
      ·rw [put_other ht]
       by_cases hji : j = i
       ·subst hji
        have : o' = o := Option.some.inj (h2.symm.trans ho)
        subst this
        exact absurd h4 ht
       ·exact (hc t).1 ⟨j,o',by omega,h2,h3,h4⟩
     ·have ht : o.dst ≠ some t := hno i o (by omega) ho hal
      rw [put_other ht]
      exact (hc t).2 fun j o' h1 => hno j o' (by omega)
   | _ => simp [hop,T.holds] at hh
end
end Go.Rx
