/- Contracts: calls answered by what is known of them; the sums and products of words. -/
import Derived.Test.YtodhngllhbgndaaGreatDoorPae
import Derived.Laws.Externs
import Derived.ChangeMaps5
import Derived.ChangeSame
import Derived.OpenShut
import Derived.Handed
import Derived.ProofKit
import Derived.LaidMore
import Derived.Stop.Joined
set_option linter.unusedVariables false
set_option linter.unusedSimpArgs false
namespace Go.Rx
open M
def CK.sym (s : Nat) : CK -> A
 | int k lo hi => .int k ⟨.var s,lo,hi⟩
 | str => .str (.var s)
 | bool => .bool (.eq (.var s) (.const 1))
inductive D where
 | str
 | int (k : IntKind) (lo hi : Int)
 | bool
 | agg (k : IntKind) (n : Nat) (lo hi : Int)
 | mix (l : List CK)
 | strk (l : List UInt8)
def repB (lo hi : Int) : Nat -> List (Int × Int)
 | 0 => []
 | n + 1 => (lo,hi) :: repB lo hi n
noncomputable def D.bds : D -> List (Int × Int)
 | str => [(0,HB)]
 | int _ lo hi => [(lo,hi)]
 | bool => [(0,1)]
 | agg _ n lo hi => repB lo hi n
 | mix l => l.map CK.bd
 | strk _ => []
def D.num : D -> Nat
 | str => 1
 | int .. => 1
 | bool => 1
 | agg _ n _ _ => n
 | mix l => l.length
 | strk _ => 0
def D.val : D -> List Int -> Value
 | str,zs => .string (bA (sOf (zs.getD 0 0)))
 | int k _ _,zs => .int k (zs.getD 0 0)
 | bool,zs => .bool (decide (zs.getD 0 0 = 1))
 | agg k n _ _,zs => .agg ((zs.take n).map (.int k)).toArray
 | mix l,zs => .agg (List.zipWith CK.val l zs).toArray
 | strk l,_ => .string (bA (kL l))
def repA (k : IntKind) (lo hi : Int) : Nat -> Nat -> List A
 | _,0 => []
 | s,n + 1 => .int k ⟨.var s,lo,hi⟩ :: repA k lo hi (s + 1) n
def mixA : Nat -> List CK -> List A
 | _,[] => []
 | s,c :: r => c.sym s :: mixA (s + 1) r
def D.sym (s : Nat) : D -> W
 | str => .one (.str (.var s))
 | int k lo hi => .one (.int k ⟨.var s,lo,hi⟩)
 | bool => .one (.bool (.eq (.var s) (.const 1)))
 | agg k n lo hi => .agg (repA k lo hi s n)
 | mix l => .agg (mixA s l)
 | strk l => .one (.str (.const (cOf (kL l))))
noncomputable def bdsL : List D -> List (Int × Int)
 | [] => []
 | d :: r => d.bds ++ bdsL r
def valL : List D -> List Int -> List Value
 | [],_ => []
 | d :: r,zs => d.val zs :: valL r (zs.drop d.num)
def symL : Nat -> List D -> List W
 | _,[] => []
 | s,d :: r => d.sym s :: symL (s + d.num) r
theorem inB_len : ∀ {b : List (Int × Int)} {l : List Int},inB b l -> l.length = b.length
 | [],[],_ => rfl
 | _ :: _,_ :: _,h => by simp [inB_len h.2.2]
 | [],_ :: _,h => h.elim
 | _ :: _,[],h => h.elim
theorem repB_len (lo hi : Int) : ∀ n,(repB lo hi n).length = n
 | 0 => rfl
 | n + 1 => by simp [repB,repB_len lo hi n]
theorem D.bds_len (d : D) : d.bds.length = d.num := by cases d <;> simp [D.bds,D.num,repB_len]
theorem inB_split : ∀ {b b' : List (Int × Int)} {l : List Int},inB (b ++ b') l -> inB b (l.take b.length) /\ inB b' (l.drop b.length)
 | [],_,_,h => ⟨trivial,h⟩
 | _ :: _,_,_ :: _,h => by
  have ih := inB_split h.2.2
  exact ⟨⟨h.1,h.2.1,ih.1⟩,ih.2⟩
 | _ :: _,_,[],h => h.elim
def At (ρ : Env) (s : Nat) (zs : List Int) : Prop := ∀ j,j < zs.length -> ρ (s + j) = zs.getD j 0
theorem At.updL (ρ : Env) (s : Nat) (zs : List Int) : At (updL ρ s zs) s zs := fun j hj => updL_ge zs s ρ j hj
theorem At.tail {ρ : Env} {s : Nat} {z : Int} {zs : List Int} (h : At ρ s (z :: zs)) : ρ s = z /\ At ρ (s + 1) zs := by
 refine ⟨by simpa using h 0 (by simp),fun j hj => ?_⟩
 have := h (j + 1) (by simpa using hj)
 rw [show s + 1 + j = s + (j + 1) by omega,this]; simp
theorem At.drop {ρ : Env} {s : Nat} {zs : List Int} (h : At ρ s zs) (k : Nat) : At ρ (s + k) (zs.drop k) := fun j hj => by
 have := h (k + j) (by simp at hj; omega)
 rw [show s + k + j = s + (k + j) by omega,this]
 simp [List.getD]
theorem repA_spec {ρ : Env} {m : Nat -> Nat} {N nb : Nat} {k : IntKind} {lo hi : Int} : ∀ (n s : Nat) (zs : List Int),inB (repB lo hi n) (zs.take n) -> At ρ s zs -> s + n <= N ->
 (∀ a ∈ repA k lo hi s n,A.ok N nb ρ a) /\ (repA k lo hi s n).map (A.den ρ m) = (zs.take n).map (.int k)
 | 0,s,zs,_,_,_ => by simp [repA]
 | n + 1,s,[],h,_,_ => by simp [repB,inB] at h
 | n + 1,s,z :: zs,h,ha,hN => by
  have ht := ha.tail
  simp only [repB,List.take_succ_cons,inB] at h
  obtain ⟨h1,h2⟩ := repA_spec (m := m) (nb := nb) (k := k) (N := N) n (s + 1) zs h.2.2 ht.2 (by omega)
  refine ⟨fun a hm => ?_,by simp only [repA,List.map_cons,A.den,Lin.den_var,ht.1,h2,List.take_succ_cons]⟩
  rcases List.mem_cons.1 hm with rfl | hm
  ·exact ⟨Lin.sc_var (by omega),by simp only [Lin.den_var,ht.1]; exact h.1,by simp only [Lin.den_var,ht.1]; exact h.2.1⟩
  ·exact h1 a hm
theorem CK.sym_spec {ρ : Env} {m : Nat -> Nat} {N nb : Nat} (c : CK) {s : Nat} {z : Int} (h0 : c.bd.1 <= z) (h1 : z <= c.bd.2) (hz : ρ s = z) (hN : s < N) : (c.sym s).ok N nb ρ /\ (c.sym s).den ρ m = c.val z := by
 cases c with
 | int k lo hi => exact ⟨⟨Lin.sc_var hN,by simp only [Lin.den_var,hz]; exact h0,by simp only [Lin.den_var,hz]; exact h1⟩,by simp [CK.sym,CK.val,A.den,Lin.den_var,hz]⟩
 | str => exact ⟨⟨Lin.sc_var hN,by rw [Lin.den_var,hz]; exact h0,by rw [Lin.den_var,hz]; exact h1⟩,by simp [CK.sym,CK.val,A.den,Lin.den_var,hz]⟩
 | bool => exact ⟨⟨Lin.sc_var hN,Lin.sc_const _ _⟩,by simp [CK.sym,CK.val,A.den,BE.den,Lin.den_var,Lin.den_const,hz]⟩
theorem mixA_spec {ρ : Env} {m : Nat -> Nat} {N nb : Nat} : ∀ (l : List CK) (s : Nat) (zs : List Int),inB (l.map CK.bd) (zs.take l.length) -> At ρ s zs -> s + l.length <= N ->
 (∀ a ∈ mixA s l,A.ok N nb ρ a) /\ (mixA s l).map (A.den ρ m) = List.zipWith CK.val l zs
 | [],s,zs,_,_,_ => by simp [mixA]
 | _ :: _,s,[],h,_,_ => by simp [inB] at h
 | c :: r,s,z :: zs,h,ha,hN => by
  have ht := ha.tail
  simp only [List.map_cons,List.length_cons,List.take_succ_cons,inB] at h
  obtain ⟨h1,h2⟩ := mixA_spec (m := m) (nb := nb) (N := N) r (s + 1) zs h.2.2 ht.2 (by simp at hN; omega)
  have hc := c.sym_spec (m := m) (nb := nb) (N := N) h.1 h.2.1 ht.1 (by simp at hN; omega)
  refine ⟨fun a hm => ?_,by simp only [mixA,List.map_cons,hc.2,h2,List.zipWith_cons_cons]⟩
  rcases List.mem_cons.1 hm with rfl | hm
  ·exact hc.1
  ·exact h1 a hm
theorem D.sym_spec {ρ : Env} {m : Nat -> Nat} {N nb : Nat} (d : D) {s : Nat} {zs : List Int} (h : inB d.bds (zs.take d.num)) (ha : At ρ s zs) (hN : s + d.num <= N) : (d.sym s).ok N nb ρ /\ (d.sym s).den ρ m = d.val zs := by
 cases d with
 | str =>
  cases zs with
  | nil => simp [D.bds,inB] at h
  | cons z r =>
   have ht := ha.tail
   simp only [D.bds,D.num,List.take_succ_cons,inB] at h
   simp only [D.num] at hN
   exact ⟨⟨Lin.sc_var (by omega),by rw [Lin.den_var,ht.1]; exact h.1,by rw [Lin.den_var,ht.1]; exact h.2.1⟩,by simp [D.sym,W.den,A.den,D.val,Lin.den_var,ht.1]⟩
 | int k lo hi =>
  cases zs with
  | nil => simp [D.bds,inB] at h
  | cons z r =>
   have ht := ha.tail
   simp only [D.bds,D.num,List.take_succ_cons,inB] at h
   simp only [D.num] at hN
   exact ⟨⟨Lin.sc_var (by omega),by simp only [Lin.den_var,ht.1]; exact h.1,by simp only [Lin.den_var,ht.1]; exact h.2.1⟩,by simp [D.sym,W.den,A.den,D.val,Lin.den_var,ht.1]⟩
 | bool =>
  cases zs with
  | nil => simp [D.bds,inB] at h
  | cons z r =>
   have ht := ha.tail
   simp only [D.num] at hN
   exact ⟨⟨Lin.sc_var (by omega),Lin.sc_const _ _⟩,by simp [D.sym,W.den,A.den,D.val,BE.den,Lin.den_var,Lin.den_const,ht.1]⟩
 | agg k n lo hi =>
  have := repA_spec (m := m) (nb := nb) (k := k) n s zs h ha hN
  exact ⟨this.1,by simp only [D.sym,W.den,D.val,this.2]⟩
 | mix l =>
  have := mixA_spec (m := m) (nb := nb) l s zs h ha hN
  exact ⟨this.1,by simp only [D.sym,W.den,D.val,this.2]⟩
 | strk l => exact ⟨⟨Lin.sc_const _ _,by rw [Lin.den_const]; exact kL_HB l⟩,by simp [D.sym,W.den,A.den,D.val,Lin.den_const,sOf_cOf]⟩
theorem symL_spec {ρ : Env} {m : Nat -> Nat} {N nb : Nat} : ∀ (ds : List D) {s : Nat} {zs : List Int},inB (bdsL ds) zs -> At ρ s zs -> s + (bdsL ds).length <= N -> (∀ u ∈ symL s ds,W.ok N nb ρ u) /\ (symL s ds).map (W.den ρ m) = valL ds zs
 | [],s,zs,_,_,_ => by simp [symL,valL]
 | d :: r,s,zs,h,ha,hN => by
  have hs := inB_split h
  rw [D.bds_len] at hs
  simp only [bdsL,List.length_append,D.bds_len] at hN
  have h1 := d.sym_spec (m := m) (nb := nb) hs.1 ha (N := N) (by omega)
  have h2 := symL_spec (m := m) (nb := nb) (N := N) r hs.2 (ha.drop d.num) (by omega)
  exact ⟨fun u hu => by rcases List.mem_cons.1 hu with rfl | hu; exact h1.1; exact h2.1 u hu,by simp [symL,valL,h1.2,h2.2]⟩
def resV (ds : List D) (s : Nat) : V := match symL s ds with | [u] => .w u | l => .tup l
def resVal (ds : List D) (zs : List Int) : Value := match valL ds zs with | [x] => x | l => .tuple l.toArray
def fitI (lo hi : Int) (x : IV) : Bool := decide (lo <= x.lo) && decide (x.hi <= hi)
def flatA (k : IntKind) (lo hi : Int) : List A -> Option (List Lin)
 | [] => some []
 | .int k' x :: r => cond (decide (k = k') && fitI lo hi x) (match flatA k lo hi r with | some l => some (x.l :: l) | none => none) none
 | _ :: _ => none
def CK.fit : CK -> A -> Option Lin
 | int k lo hi,.int k' x => cond (decide (k = k') && fitI lo hi x) (some x.l) none
 | str,.str l => some l
 | bool,.bool (.lit b) => some (.const (cond b 1 0))
 | _,_ => none
def flatM : List CK -> List A -> Option (List Lin)
 | [],[] => some []
 | c :: r,a :: s => match c.fit a,flatM r s with | some x,some l => some (x :: l) | _,_ => none
 | _,_ => none
def flatD : D -> V -> Option (List Lin)
 | .int k lo hi,.w (.one (.int k' x)) => cond (decide (k = k') && fitI lo hi x) (some [x.l]) none
 | .agg k n lo hi,.w (.agg l) => cond (Nat.beq l.length n) (flatA k lo hi l) none
 | .mix l,.w (.agg s) => flatM l s
 | .str,.w (.one (.str l)) => some [l]
 | .bool,.w (.one (.bool (.lit b))) => some [.const (cond b 1 0)]
 | .strk l,.w (.one (.str x)) => match x.isC with | some c => cond (decide (c = cOf (kL l))) (some []) none | none => none
 | _,_ => none
def flatL : List D -> List V -> Option (List Lin)
 | [],[] => some []
 | d :: r,v :: s => match flatD d v,flatL r s with | some a,some b => some (a ++ b) | _,_ => none
 | _,_ => none
theorem fitI_spec {n : Nat} {ρ : Env} {lo hi : Int} {x : IV} (h : fitI lo hi x = true) (hx : x.ok n ρ) : lo <= x.l.den ρ /\ x.l.den ρ <= hi := by
 simp only [fitI,Bool.and_eq_true,decide_eq_true_eq] at h
 have := hx.2; omega
theorem flatA_spec {n nb : Nat} {ρ : Env} {m : Nat -> Nat} {k : IntKind} {lo hi : Int} : ∀ {l : List A} {r : List Lin},flatA k lo hi l = some r -> (∀ a ∈ l,A.ok n nb ρ a) -> r.length = l.length /\ inB (repB lo hi l.length) (r.map (·.den ρ)) /\ l.map (A.den ρ m) = (r.map (·.den ρ)).map (.int k)
 | [],r,h,_ => by simp [flatA] at h; subst h; exact ⟨rfl,trivial,rfl⟩
 | .int k' x :: s,r,h,hok => by
  simp only [flatA] at h
  cases hc : (decide (k = k') && fitI lo hi x) with
  | false => simp [hc] at h
  | true =>
   simp only [hc,cond_true] at h
   simp only [Bool.and_eq_true,decide_eq_true_eq] at hc
   cases hr : flatA k lo hi s with
   | none => simp [hr] at h
   | some r' =>
    simp only [hr,Option.some.injEq] at h
    subst h
    obtain ⟨h1,h2,h3⟩ := flatA_spec (m := m) hr fun a ha => hok a (List.mem_cons_of_mem _ ha)
    have hx : x.ok n ρ := hok (.int k' x) (by simp)
    have hf := fitI_spec hc.2 hx
    exact ⟨by simp [h1],⟨hf.1,hf.2,h2⟩,by simp only [List.map_cons,h3,A.den,hc.1]⟩
 | .bool _ :: _,_,h,_ => by simp [flatA] at h
 | .ptr .. :: _,_,h,_ => by simp [flatA] at h
 | .pix .. :: _,_,h,_ => by simp [flatA] at h
 | .gptr .. :: _,_,h,_ => by simp [flatA] at h
 | .slc .. :: _,_,h,_ => by simp [flatA] at h
 | .con _ :: _,_,h,_ => by simp [flatA] at h
 | .str _ :: _,_,h,_ => by simp [flatA] at h
theorem CK.fit_spec {n nb : Nat} {ρ : Env} {m : Nat -> Nat} {c : CK} {a : A} {l : Lin} (h : c.fit a = some l) (hok : a.ok n nb ρ) : (c.bd.1 <= l.den ρ /\ l.den ρ <= c.bd.2) /\ a.den ρ m = c.val (l.den ρ) := by
 unfold CK.fit at h
 split at h
 ·rename_i k lo hi k' x
  cases hc : (decide (k = k') && fitI lo hi x) with
  | false => simp [hc] at h
  | true =>
   simp only [hc,cond_true,Option.some.injEq] at h
   subst h
   simp only [Bool.and_eq_true,decide_eq_true_eq] at hc
   exact ⟨fitI_spec hc.2 hok,by simp only [A.den,CK.val,hc.1]⟩
 ·simp only [Option.some.injEq] at h; subst h
  exact ⟨hok.2,rfl⟩
 ·rename_i b
  simp only [Option.some.injEq] at h; subst h
  cases b <;> simp [CK.bd,CK.val,A.den,BE.den,Lin.den_const]
 ·cases h
theorem flatM_spec {n nb : Nat} {ρ : Env} {m : Nat -> Nat} : ∀ {d : List CK} {l : List A} {r : List Lin},flatM d l = some r -> (∀ a ∈ l,A.ok n nb ρ a) -> r.length = d.length /\ inB (d.map CK.bd) (r.map (·.den ρ)) /\ l.map (A.den ρ m) = List.zipWith CK.val d (r.map (·.den ρ))
 | [],[],r,h,_ => by simp [flatM] at h; subst h; exact ⟨rfl,trivial,rfl⟩
 | c :: d,a :: s,r,h,hok => by
  simp only [flatM] at h
  cases hx : c.fit a with
  | none => simp [hx] at h
  | some x =>
   cases hr : flatM d s with
   | none => simp [hx,hr] at h
   | some r' =>
    simp only [hx,hr,Option.some.injEq] at h
    subst h
    obtain ⟨h1,h2,h3⟩ := flatM_spec (m := m) hr fun a ha => hok a (List.mem_cons_of_mem _ ha)
    have hf := CK.fit_spec (m := m) hx (hok a (by simp))
    exact ⟨by simp [h1],⟨hf.1.1,hf.1.2,h2⟩,by simp only [List.map_cons,h3,hf.2,List.zipWith_cons_cons]⟩
 | [],_ :: _,_,h,_ => by simp [flatM] at h
 | _ :: _,[],_,h,_ => by simp [flatM] at h
theorem strk_den {n : Nat} {ρ : Env} {l : List UInt8} {x : Lin} {c : Int} (hc : x.isC = some c) (h : c = cOf (kL l)) : sOf (x.den ρ) = kL l := by rw [Lin.den_isC hc,h,sOf_cOf]
theorem flatD_spec {n nb : Nat} {ρ : Env} {m : Nat -> Nat} {d : D} {v : V} {r : List Lin} {x : Value} (h : flatD d v = some r) (hok : v.ok n nb ρ) (hx : v.rel ρ m x) : r.length = d.num /\ inB d.bds (r.map (·.den ρ)) /\ ∀ zs,d.val ((r.map (·.den ρ)) ++ zs) = x := by
 unfold flatD at h
 split at h
 ·rename_i k lo hi k' y
  cases hc : (decide (k = k') && fitI lo hi y) with
  | false => simp [hc] at h
  | true =>
   simp only [hc,cond_true,Option.some.injEq] at h
   subst h
   simp only [Bool.and_eq_true,decide_eq_true_eq] at hc
   have hf := fitI_spec hc.2 hok
   simp only [V.rel,W.den,A.den] at hx
   exact ⟨rfl,⟨hf.1,hf.2,trivial⟩,fun zs => by simp [D.val,hx,hc.1]⟩
 ·rename_i k n' lo hi l
  cases hc : Nat.beq l.length n' with
  | false => simp [hc] at h
  | true =>
   simp only [hc,cond_true] at h
   have hl := Nat.eq_of_beq_eq_true hc
   subst hl
   obtain ⟨h1,h2,h3⟩ := flatA_spec (m := m) h hok
   simp only [V.rel,W.den] at hx
   exact ⟨h1,h2,fun zs => by rw [hx,h3]; simp only [D.val]; rw [List.take_append_of_le_length (by simp [h1]),List.take_of_length_le (by simp [h1])]⟩
 ·rename_i l s
  obtain ⟨h1,h2,h3⟩ := flatM_spec (m := m) h hok
  simp only [V.rel,W.den] at hx
  refine ⟨h1,h2,fun zs => ?_⟩
  rw [hx,h3]
  simp only [D.val]
  congr 2
  have key : ∀ (a : List CK) (b c : List Int),b.length = a.length -> List.zipWith CK.val a (b ++ c) = List.zipWith CK.val a b := by
   intro a
   induction a with
   | nil => intro b c _; simp
   | cons p a ih =>
    intro b c hb
    cases b with
    | nil => simp at hb
    | cons z b => simp [ih b c (by simpa using hb)]
  exact key _ _ _ (by simp [h1])
 ·rename_i l
  simp only [Option.some.injEq] at h; subst h
  simp only [V.rel,W.den,A.den] at hx
  exact ⟨rfl,⟨hok.2.1,hok.2.2,trivial⟩,fun zs => by rw [hx]; rfl⟩
 ·rename_i b
  simp only [Option.some.injEq] at h; subst h
  simp only [V.rel,W.den,A.den,BE.den] at hx
  cases b <;> exact ⟨rfl,by simp [D.bds,inB,Lin.den_const],fun zs => by rw [hx]; simp [D.val,Lin.den_const]⟩
 ·rename_i l y
  cases hc : y.isC with
  | none => simp [hc] at h
  | some c =>
   simp only [hc] at h
   cases hd : decide (c = cOf (kL l)) with
   | false => simp [hd] at h
   | true =>
    simp only [hd,cond_true,Option.some.injEq] at h
    subst h
    have hd : c = cOf (kL l) := by simpa using hd
    refine ⟨rfl,trivial,fun zs => ?_⟩
    have hx : x = .string (bA (sOf (y.den ρ))) := hx
    rw [hx,strk_den (n := n) hc hd]; rfl
 ·cases h
theorem flatL_spec {n nb : Nat} {ρ : Env} {m : Nat -> Nat} : ∀ {ds : List D} {vs : List V} {r : List Lin} {xs : List Value},flatL ds vs = some r -> (∀ v ∈ vs,V.ok n nb ρ v) -> LRel ρ m vs xs -> inB (bdsL ds) (r.map (·.den ρ)) /\ valL ds (r.map (·.den ρ)) = xs
 | [],[],r,[],h,_,_ => by simp [flatL] at h; subst h; exact ⟨trivial,rfl⟩
 | d :: ds,v :: vs,r,x :: xs,h,hok,hr => by
  simp only [flatL] at h
  cases h1 : flatD d v with
  | none => simp [h1] at h
  | some a =>
   cases h2 : flatL ds vs with
   | none => simp [h1,h2] at h
   | some b =>
    simp only [h1,h2,Option.some.injEq] at h
    subst h
    obtain ⟨p1,p2,p3⟩ := flatD_spec (m := m) h1 (hok v (by simp)) hr.1
    obtain ⟨q1,q2⟩ := flatL_spec h2 (fun u hu => hok u (List.mem_cons_of_mem _ hu)) hr.2
    refine ⟨by rw [List.map_append]; exact inB_append p2 q1,?_⟩
    rw [List.map_append]
    simp only [valL,p3]
    rw [show d.num = (a.map (·.den ρ)).length by simp [p1],List.drop_left,q2]
 | [],_ :: _,_,_,h,_,_ => by simp [flatL] at h
 | _ :: _,[],_,_,h,_,_ => by simp [flatL] at h
 | [],[],_,_ :: _,_,_,hr => hr.elim
 | _ :: _,_ :: _,_,[],_,_,hr => hr.elim
structure Con where
 f : FuncId
 id : Nat
 args : List D
 res : List D
def Con.Ok (P : Program) (wb : World) (c : Con) (spec : List Int -> List Int -> Prop) : Prop :=
 (∀ args w,(callFunc c.f args).run P w = .ok (.enter c.f args) w) /\
 ∀ zs,inB (bdsL c.args) zs -> ∃ rs,inB (bdsL c.res) rs /\ spec zs rs /\ ∀ w,wb.Extends w -> Calls P c.f (valL c.args zs).toArray w fun e w' => e = .returned (resVal c.res rs) /\ w.Extends w'
noncomputable def flatDI (d : D) (v : V) : M (List Lin) :=
 match d,v with
 | .bool,.w (.one (.bool e)) => bind (indM e) fun l => pure [l]
 | .mix l,.w (.agg s) => rowLinM l s
 | d,v => match flatD d v with | some r => pure r | none => fail
noncomputable def flatLI : List D -> List V -> M (List Lin)
 | [],[] => pure []
 | d :: r,v :: s => bind (flatDI d v) fun a => bind (flatLI r s) fun b => pure (a ++ b)
 | _,_ => fail
noncomputable def Con.M (c : Con) : List Blk -> List V -> M V := fun _ vs n k =>
 match flatL c.args vs with
 | some l => .call c.id l n (bdsL c.res) (k (resV c.res n) (n + (bdsL c.res).length))
 | none => flatLI c.args vs n fun l n => .call c.id l n (bdsL c.res) (k (resV c.res n) (n + (bdsL c.res).length))
section
variable {S : Nat -> List Int -> List Int -> Prop} {L : V -> Env -> Prop}
theorem flatA_sc {k : IntKind} {lo hi : Int} {n nb : Nat} {ρ : Env} : ∀ {l : List A} {r : List Lin},flatA k lo hi l = some r -> (∀ a ∈ l,A.ok n nb ρ a) -> ∀ x ∈ r,Lin.sc n x
 | [],r,h,_ => by simp [flatA] at h; subst h; intro x hx; simp at hx
 | a :: s,r,h,hok => by
  cases a with
  | int k' x =>
   simp only [flatA] at h
   cases hc : (decide (k = k') && fitI lo hi x) with
   | false => simp [hc] at h
   | true =>
    cases hr : flatA k lo hi s with
    | none => simp [hc,hr] at h
    | some r' =>
     simp only [hc,hr,cond_true,Option.some.injEq] at h
     subst h
     intro y hy
     rcases List.mem_cons.1 hy with hy | hy
     ·rw [hy]
      have h0 : A.ok n nb ρ (.int k' x) := hok _ (List.mem_cons_self ..)
      have h0 : x.ok n ρ := h0
      exact h0.1
     ·exact flatA_sc hr (fun a ha => hok a (List.mem_cons_of_mem _ ha)) y hy
  | _ => simp [flatA] at h
theorem flatM_sc {n nb : Nat} {ρ : Env} : ∀ {d : List CK} {l : List A} {r : List Lin},flatM d l = some r -> (∀ a ∈ l,A.ok n nb ρ a) -> ∀ x ∈ r,Lin.sc n x
 | [],[],r,h,_ => by simp [flatM] at h; subst h; intro x hx; simp at hx
 | c :: d,a :: s,r,h,hok => by
  simp only [flatM] at h
  cases hx : c.fit a with
  | none => simp [hx] at h
  | some x =>
   cases hr : flatM d s with
   | none => simp [hx,hr] at h
   | some r' =>
    simp only [hx,hr,Option.some.injEq] at h
    subst h
    intro y hy
    rcases List.mem_cons.1 hy with hy | hy
    ·subst hy
     have h0 := hok a (by simp)
     unfold CK.fit at hx
     split at hx
     ·rename_i k lo hi k' z
      cases hc : (decide (k = k') && fitI lo hi z) with
      | false => simp [hc] at hx
      | true =>
       simp only [hc,cond_true,Option.some.injEq] at hx
       subst hx
       have h0 : z.ok n ρ := h0
       exact h0.1
     ·simp only [Option.some.injEq] at hx; subst hx
      exact h0.1
     ·simp only [Option.some.injEq] at hx; subst hx
      exact Lin.sc_const _ _
     ·cases hx
    ·exact flatM_sc hr (fun a ha => hok a (List.mem_cons_of_mem _ ha)) y hy
 | [],_ :: _,_,h,_ => by simp [flatM] at h
 | _ :: _,[],_,h,_ => by simp [flatM] at h
theorem flatD_sc {n nb : Nat} {ρ : Env} {d : D} {v : V} {r : List Lin} (h : flatD d v = some r) (hok : v.ok n nb ρ) : ∀ x ∈ r,Lin.sc n x := by
 unfold flatD at h
 split at h
 ·rename_i k lo hi k' y
  cases hc : (decide (k = k') && fitI lo hi y) with
  | false => simp [hc] at h
  | true =>
   simp only [hc,cond_true,Option.some.injEq] at h
   subst h
   have h0 : y.ok n ρ := hok
   intro x hx
   simp at hx; subst hx
   exact h0.1
 ·rename_i k n' lo hi l
  cases hc : Nat.beq l.length n' with
  | false => simp [hc] at h
  | true =>
   simp only [hc,cond_true] at h
   exact flatA_sc h hok
 ·exact flatM_sc h hok
 ·simp only [Option.some.injEq] at h; subst h
  intro x hx
  simp at hx; subst hx
  exact hok.1
 ·simp only [Option.some.injEq] at h; subst h
  intro x hx
  simp at hx; subst hx
  exact Lin.sc_const _ _
 ·rename_i l y
  cases hc : y.isC with
  | none => simp [hc] at h
  | some c =>
   simp only [hc] at h
   cases hd : decide (c = cOf (kL l)) with
   | false => simp [hd] at h
   | true =>
    simp only [hd,cond_true,Option.some.injEq] at h
    subst h
    intro x hx; simp at hx
 ·cases h
theorem RowOk.inZ : ∀ {sh : List CK} {zs : List Int},RowOk sh zs -> inB (sh.map CK.bd) zs /\ List.zipWith CK.val sh zs = rowV sh zs
 | [],[],_ => ⟨trivial,rfl⟩
 | c :: sh,z :: zs,h => ⟨⟨h.1.1,h.1.2,(RowOk.inZ h.2).1⟩,by simp [rowV,(RowOk.inZ h.2).2]⟩
 | [],_ :: _,h => h.elim
 | _ :: _,[],h => h.elim
theorem zipWith_app {f : CK -> Int -> Value} : ∀ (a : List CK) (b c : List Int),b.length = a.length -> List.zipWith f a (b ++ c) = List.zipWith f a b
 | [],b,c,_ => by simp
 | _ :: a,[],c,h => by simp at h
 | _ :: a,z :: b,c,h => by simp [zipWith_app a b c (by simpa using h)]
theorem flatDI_snd {d : D} {v : V} {X : Value} {n nb : Nat} {ρ : Env} {m : Nat -> Nat} (hv : v.ok n nb ρ) (hX : v.rel ρ m X) : Snd S L (flatDI d v) n ρ fun ρ' n' ls => (∀ x ∈ ls,Lin.sc n' x) /\ ls.length = d.num /\ inB d.bds (ls.map (·.den ρ')) /\ ∀ zs,d.val ((ls.map (·.den ρ')) ++ zs) = X := by
 unfold flatDI
 split
 ·rename_i e
  have hX : X = .bool (e.den ρ) := hX
  exact indM_snd.bind fun ρ1 n1 l hn ha ⟨g1,g2,g3⟩ => Snd.pure ⟨fun x hx => by simp at hx; subst hx; exact g1,rfl,⟨g2.1,g2.2,trivial⟩,fun zs => by rw [hX,g3]; rfl⟩
 ·rename_i l s
  have hX : X = .agg (s.map (A.den ρ m)).toArray := hX
  refine (rowLinM_snd (nb := nb) (m := m) hv).mono fun ρ1 n1 ls hn ha ⟨g1,g2,g3⟩ => ?_
  have h1 := RowOk.inZ g2
  have h2 := g2.len
  refine ⟨g1,by simpa [D.num] using h2,h1.1,fun zs => ?_⟩
  rw [hX,<- g3,<- h1.2]
  simp only [D.val]
  rw [zipWith_app _ _ _ (by simpa using h2)]
 ·split
  ·rename_i hf
   obtain ⟨p1,p2,p3⟩ := flatD_spec (m := m) hf hv hX
   exact Snd.pure ⟨flatD_sc hf hv,p1,p2,p3⟩
  ·exact Snd.fail
theorem LRel.ext {n nb : Nat} {ρ ρ' : Env} {m m' : Nat -> Nat} : ∀ {vs : List V} {xs : List Value},LRel ρ m vs xs -> (∀ v ∈ vs,V.ok n nb ρ v) -> agree n ρ ρ' -> (∀ b,b < nb -> m' b = m b) -> LRel ρ' m' vs xs
 | [],[],_,_,_,_ => trivial
 | v :: vs,x :: xs,h,hok,ha,hm => ⟨V.rel.ext h.1 (hok v (by simp)) ha hm,LRel.ext h.2 (fun u hu => hok u (List.mem_cons_of_mem _ hu)) ha hm⟩
 | [],_ :: _,h,_,_,_ => h.elim
 | _ :: _,[],h,_,_,_ => h.elim
theorem flatLI_snd {nb : Nat} {m : Nat -> Nat} : ∀ {ds : List D} {vs : List V} {xs : List Value} {n : Nat} {ρ : Env},(∀ v ∈ vs,V.ok n nb ρ v) -> LRel ρ m vs xs -> Snd S L (flatLI ds vs) n ρ fun ρ' n' ls => (∀ x ∈ ls,Lin.sc n' x) /\ inB (bdsL ds) (ls.map (·.den ρ')) /\ valL ds (ls.map (·.den ρ')) = xs
 | [],[],[],n,ρ,_,_ => Snd.pure ⟨fun _ h => by simp at h,trivial,rfl⟩
 | d :: ds,v :: vs,x :: xs,n,ρ,hok,hr => by
  unfold flatLI
  refine (flatDI_snd (nb := nb) (hok v (by simp)) hr.1).bind fun ρ1 n1 a hn1 ha1 ⟨p0,p1,p2,p3⟩ => (flatLI_snd (ds := ds) (vs := vs) (fun u hu => (hok u (List.mem_cons_of_mem _ hu)).ext ha1 hn1 (Nat.le_refl _)) (LRel.ext hr.2 (fun u hu => hok u (List.mem_cons_of_mem _ hu)) ha1 (fun _ _ => rfl))).bind fun ρ2 n2 b hn2 ha2 ⟨q0,q1,q2⟩ => Snd.pure ⟨fun y hy => ?_,?_,?_⟩
  ·rcases List.mem_append.1 hy with hy | hy
   ·exact (p0 y hy).mono hn2
   ·exact q0 y hy
  ·have e : a.map (·.den ρ2) = a.map (·.den ρ1) := List.map_congr_left fun y hy => Lin.den_agree ha2 (p0 y hy)
   rw [List.map_append,e]; exact inB_append p2 q1
  ·have e : a.map (·.den ρ2) = a.map (·.den ρ1) := List.map_congr_left fun y hy => Lin.den_agree ha2 (p0 y hy)
   rw [List.map_append,e]
   simp only [valL,p3]
   rw [show d.num = (a.map (·.den ρ1)).length by simp [p1],List.drop_left,q2]
 | [],_ :: _,_,_,_,_,_ => Snd.fail
 | _ :: _,[],_,_,_,_,_ => Snd.fail
 | [],[],_ :: _,_,_,_,hr => hr.elim
 | _ :: _,_ :: _,[],_,_,_,hr => hr.elim
end
section
variable {S : Nat -> List Int -> List Int -> Prop} {P : Program} {gl : Glo} {w0 : Base}
theorem callL {L : V -> Env -> Prop} {id : Nat} {l : List Lin} {n : Nat} {bds : List (Int × Int)} {r : T} {G : Again} {ρ : Env} (h : (T.call id l n bds r).holds S L G ρ) {rs : List Int} (hi : inB bds rs) (hs : S id (l.map (·.den ρ)) rs) : r.holds S L G (updL ρ n rs) :=
 allB_elim h hi hs
theorem resV_spec {ρ : Env} {m : Nat -> Nat} {N nb : Nat} {ds : List D} {s : Nat} {zs : List Int} (h : inB (bdsL ds) zs) (ha : At ρ s zs) (hN : s + (bdsL ds).length <= N) : (resV ds s).ok N nb ρ /\ (resV ds s).rel ρ m (resVal ds zs) := by
 have hs := symL_spec (m := m) (nb := nb) ds h ha hN
 unfold resV resVal
 rw [<- hs.2]
 split
 ·rename_i u heq
  rw [heq] at hs
  rw [heq]
  exact ⟨hs.1 u (by simp),rfl⟩
 ·rename_i l hne
  refine ⟨hs.1,?_⟩
  split
  ·rename_i x heq
   have : ∃ u,symL s ds = [u] := by
    cases hl : symL s ds with
    | nil => rw [hl] at heq; simp at heq
    | cons u r =>
     cases r with
     | nil => exact ⟨u,rfl⟩
     | cons _ _ => rw [hl] at heq; simp at heq
   obtain ⟨u,hu⟩ := this
   exact absurd hu (hne u)
  ·rfl
def Con.OkF (P : Program) (wb : World) (c : Con) (spec : List Int -> List Int -> Prop) : Prop :=
 ∀ zs,inB (bdsL c.args) zs -> ∃ rs,inB (bdsL c.res) rs /\ spec zs rs /\ ∀ w,wb.Extends w -> FRes P c.f (valL c.args zs).toArray w (resVal c.res rs)
theorem Con.Ok.f {wb : World} {c : Con} {spec : List Int -> List Int -> Prop} (h : c.Ok P wb spec) : c.OkF P wb spec := fun zs hz => by
 obtain ⟨rs,h1,h2,h3⟩ := h.2 zs hz
 exact ⟨rs,h1,h2,fun w hw => .inr ⟨h.1 _ _,h3 w hw⟩⟩
theorem Con.snd {c : Con} {spec : List Int -> List Int -> Prop} (hc : c.OkF P w0.b spec) (hS : ∀ zs rs,spec zs rs -> S c.id zs rs) (L : V -> Env -> Prop) (n : Nat) (ρ : Env) (m : Nat -> Nat) (bl : List Blk) (vs : List V) (xs : List Value)
 (hvs : ∀ v ∈ vs,V.ok n bl.length ρ v) (hr : LRel ρ m vs xs) : Snd S L (c.M bl vs) n ρ fun ρ' n' v => v.ok n' bl.length ρ' /\ ∃ val,v.rel ρ' m val /\ ∀ w,Mem w0 ρ m bl w -> FRes P c.f xs.toArray w val := by
 intro G k hk
 unfold Con.M at hk
 cases hl : flatL c.args vs with
 | none =>
  simp only [hl] at hk
  obtain ⟨ρ1,n1,l,hn1,ha1,⟨_,h1,h2⟩,hk⟩ := flatLI_snd (S := S) (L := L) (nb := bl.length) hvs hr G _ hk
  obtain ⟨rs,r1,r2,r3⟩ := hc _ h1
  have hh := callL hk r1 (hS _ _ r2)
  have hlen := inB_len r1
  have hres := resV_spec (m := m) (nb := bl.length) (N := n1 + (bdsL c.res).length) r1 (At.updL ρ1 n1 rs) (Nat.le_refl _)
  refine ⟨_,_,_,Nat.le_trans hn1 (Nat.le_add_right _ _),ha1.trans (agree.updL rs n1 ρ1) hn1,⟨hres.1,_,hres.2,fun w hw => ?_⟩,hh⟩
  rw [h2] at r3
  exact r3 w hw.ext
 | some l =>
  simp only [hl] at hk
  obtain ⟨h1,h2⟩ := flatL_spec hl hvs hr
  obtain ⟨rs,r1,r2,r3⟩ := hc _ h1
  have hh := callL hk r1 (hS _ _ r2)
  have hlen := inB_len r1
  have hres := resV_spec (m := m) (nb := bl.length) (N := n + (bdsL c.res).length) r1 (At.updL ρ n rs) (Nat.le_refl _)
  refine ⟨_,_,_,Nat.le_add_right _ _,agree.updL rs n ρ,⟨hres.1,_,hres.2,fun w hw => ?_⟩,hh⟩
  rw [h2] at r3
  exact r3 w hw.ext
def mul64M : List Blk -> List V -> M V := fun _ vs =>
 match vs with
 | [.w (.one (.int .u64 x)),.w (.one (.int .u64 y))] =>
  cond (decide (0 <= x.lo) && decide (x.hi < 18446744073709551616) && decide (0 <= y.lo) && decide (y.hi < 18446744073709551616)) (bind (mulM x y) fun p => bind (divM p 18446744073709551616) fun q =>
   pure (.tup [.one (.int .u64 q),.one (.int .u64 ⟨p.l.sub (q.l.smul 18446744073709551616),0,18446744073709551615⟩)])) fail
 | _ => fail
def add64M : List Blk -> List V -> M V := fun _ vs =>
 match vs with
 | [.w (.one (.int .u64 x)),.w (.one (.int .u64 y)),.w (.one (.int .u64 c))] =>
  cond (decide (0 <= x.lo) && decide (0 <= y.lo) && decide (0 <= c.lo) && decide (c.hi <= 1)) (bind (divM ⟨(x.l.add y.l).add c.l,x.lo + y.lo + c.lo,x.hi + y.hi + c.hi⟩ 18446744073709551616) fun q =>
   pure (.tup [.one (.int .u64 ⟨((x.l.add y.l).add c.l).sub (q.l.smul 18446744073709551616),0,18446744073709551615⟩),.one (.int .u64 q)])) fail
 | _ => fail
def sub64M : List Blk -> List V -> M V := fun _ vs =>
 match vs with
 | [.w (.one (.int .u64 x)),.w (.one (.int .u64 y)),.w (.one (.int .u64 c))] =>
  cond (decide (0 <= x.lo) && decide (x.hi < 18446744073709551616) && decide (0 <= y.lo) && decide (y.hi < 18446744073709551616) && decide (0 <= c.lo) && decide (c.hi <= 1)) (bind (divM ⟨(x.l.sub y.l).sub c.l,x.lo - y.hi - c.hi,x.hi - y.lo - c.lo⟩ 18446744073709551616) fun q =>
   pure (.tup [.one (.int .u64 ⟨((x.l.sub y.l).sub c.l).sub (q.l.smul 18446744073709551616),0,18446744073709551615⟩),.one (.int .u64 ⟨q.l.smul (-1),0,1⟩)])) fail
 | _ => fail
variable {L : V -> Env -> Prop} {n : Nat} {ρ : Env} {m : Nat -> Nat} {bl : List Blk} {vs : List V} {xs : List Value}
end
end Go.Rx
set_option linter.unusedVariables false
set_option linter.unusedSimpArgs false
namespace Go.Rx
open M
theorem allB_intro : ∀ {b : List (Int × Int)} {P : List Int -> Prop},(∀ rs,inB b rs -> P rs) -> allB b P
 | [],_,h => h [] trivial
 | (l,u) :: b,P,h => fun r h1 h2 => allB_intro (b := b) (P := fun rs => P (r :: rs)) fun rs hi => h (r :: rs) ⟨h1,h2,hi⟩
inductive O where
 | l (x : Lin)
 | b (x : BE)
def O.den (ρ : Env) : O -> Int
 | l x => x.den ρ
 | b x => cond (x.den ρ) 1 0
def outA (k : IntKind) : List A -> Option (List O)
 | [] => some []
 | .int k' x :: r => cond (decide (k = k')) (match outA k r with | some l => some (.l x.l :: l) | none => none) none
 | _ :: _ => none
def CK.out : CK -> A -> Option O
 | .int k _ _,.int k' x => cond (decide (k = k')) (some (.l x.l)) none
 | .str,.str l => some (.l l)
 | .bool,.bool e => some (.b e)
 | _,_ => none
def outM : List CK -> List A -> Option (List O)
 | [],[] => some []
 | c :: d,a :: r => match c.out a,outM d r with | some o,some l => some (o :: l) | _,_ => none
 | _,_ => none
def outD : D -> W -> Option (List O)
 | .int k _ _,.one (.int k' x) => cond (decide (k = k')) (some [.l x.l]) none
 | .bool,.one (.bool x) => some [.b x]
 | .agg k n _ _,.agg l => cond (Nat.beq l.length n) (outA k l) none
 | .str,.one (.str l) => some [.l l]
 | .mix d,.agg l => outM d l
 | _,_ => none
def outL : List D -> List W -> Option (List O)
 | [],[] => some []
 | d :: r,w :: s => match outD d w,outL r s with | some a,some b => some (a ++ b) | _,_ => none
 | _,_ => none
def outs (ds : List D) : V -> Option (List O)
 | .w u => match ds with | [d] => outD d u | _ => none
 | .tup l => match ds with | [_] => none | _ => outL ds l
 | _ => none
def LeafK (ds : List D) (K : List Int -> Prop) (v : V) (ρ : Env) : Prop :=
 match outs ds v with
 | some os => K (os.map (O.den ρ))
 | none => False
theorem outA_spec {ρ : Env} {m : Nat -> Nat} {k : IntKind} : ∀ {l : List A} {os : List O},outA k l = some os -> os.length = l.length /\ l.map (A.den ρ m) = (os.map (O.den ρ)).map (.int k)
 | [],os,h => by simp [outA] at h; subst h; exact ⟨rfl,rfl⟩
 | .int k' x :: r,os,h => by
  simp only [outA] at h
  by_cases hk : k = k'
  ·simp only [hk,decide_true,cond_true] at h
   cases hr : outA k' r with
   | none => simp [hr] at h
   | some o =>
    simp only [hr,Option.some.injEq] at h
    subst h
    subst hk
    obtain ⟨h1,h2⟩ := outA_spec (ρ := ρ) (m := m) hr
    exact ⟨by simp [h1],by simp only [List.map_cons,h2,A.den,O.den]⟩
  ·simp [hk] at h
 | .bool _ :: _,_,h => by simp [outA] at h
 | .ptr .. :: _,_,h => by simp [outA] at h
 | .pix .. :: _,_,h => by simp [outA] at h
 | .gptr .. :: _,_,h => by simp [outA] at h
 | .slc .. :: _,_,h => by simp [outA] at h
 | .con _ :: _,_,h => by simp [outA] at h
 | .str _ :: _,_,h => by simp [outA] at h
theorem CK.out_spec {ρ : Env} {m : Nat -> Nat} {c : CK} {a : A} {o : O} (h : c.out a = some o) : a.den ρ m = c.val (o.den ρ) := by
 unfold CK.out at h
 split at h
 ·rename_i k lo hi k' x
  by_cases hk : k = k'
  ·subst hk
   simp only [decide_true,cond_true,Option.some.injEq] at h
   subst h; rfl
  ·simp [hk] at h
 ·simp only [Option.some.injEq] at h; subst h; rfl
 ·rename_i e
  simp only [Option.some.injEq] at h; subst h
  have hb : ∀ b : Bool,Value.bool b = Value.bool (decide ((cond b 1 0 : Int) = 1)) := by intro b; cases b <;> rfl
  exact hb (e.den ρ)
 ·cases h
theorem outM_spec {ρ : Env} {m : Nat -> Nat} : ∀ {d : List CK} {l : List A} {os : List O},outM d l = some os -> os.length = d.length /\ l.map (A.den ρ m) = List.zipWith CK.val d (os.map (O.den ρ))
 | [],[],os,h => by simp [outM] at h; subst h; exact ⟨rfl,rfl⟩
 | c :: d,a :: r,os,h => by
  simp only [outM] at h
  cases h1 : c.out a with
  | none => simp [h1] at h
  | some o =>
   cases hr : outM d r with
   | none => simp [h1,hr] at h
   | some l =>
    simp only [h1,hr,Option.some.injEq] at h
    subst h
    obtain ⟨p1,p2⟩ := outM_spec (ρ := ρ) (m := m) hr
    exact ⟨by simp [p1],by simp only [List.map_cons,p2,CK.out_spec h1,List.zipWith_cons_cons]⟩
 | [],_ :: _,_,h => by simp [outM] at h
 | _ :: _,[],_,h => by simp [outM] at h
theorem outD_spec {ρ : Env} {m : Nat -> Nat} {d : D} {u : W} {os : List O} (h : outD d u = some os) : os.length = d.num /\ ∀ zs,d.val (os.map (O.den ρ) ++ zs) = u.den ρ m := by
 unfold outD at h
 split at h
 ·rename_i k _ _ k' x
  by_cases hk : k = k'
  ·subst hk
   simp only [decide_true,cond_true,Option.some.injEq] at h
   subst h
   exact ⟨rfl,fun zs => by simp [D.val,W.den,A.den,O.den]⟩
  ·simp [hk] at h
 ·rename_i x
  simp only [Option.some.injEq] at h
  subst h
  exact ⟨rfl,fun zs => by cases hx : x.den ρ <;> simp [D.val,W.den,A.den,O.den,hx]⟩
 ·rename_i k n' _ _ l
  cases hc : Nat.beq l.length n' with
  | false => simp [hc] at h
  | true =>
   simp only [hc,cond_true] at h
   have hl := Nat.eq_of_beq_eq_true hc
   subst hl
   obtain ⟨h1,h2⟩ := outA_spec (ρ := ρ) (m := m) h
   exact ⟨h1,fun zs => by simp only [D.val,W.den,h2]; rw [List.take_append_of_le_length (by simp [h1]),List.take_of_length_le (by simp [h1])]⟩
 ·simp only [Option.some.injEq] at h; subst h
  exact ⟨rfl,fun zs => rfl⟩
 ·rename_i d l
  obtain ⟨h1,h2⟩ := outM_spec (ρ := ρ) (m := m) h
  refine ⟨h1,fun zs => ?_⟩
  simp only [D.val,W.den,h2]
  congr 2
  have key : ∀ (a : List CK) (b c : List Int),b.length = a.length -> List.zipWith CK.val a (b ++ c) = List.zipWith CK.val a b := by
   intro a
   induction a with
   | nil => intro b c _; simp
   | cons p a ih =>
    intro b c hb
    cases b with
    | nil => simp at hb
    | cons z b => simp [ih b c (by simpa using hb)]
  exact key _ _ _ (by simp [h1])
 ·cases h
theorem outL_spec {ρ : Env} {m : Nat -> Nat} : ∀ {ds : List D} {l : List W} {os : List O},outL ds l = some os -> valL ds (os.map (O.den ρ)) = l.map (W.den ρ m)
 | [],[],os,h => by simp [outL] at h; subst h; rfl
 | d :: ds,u :: l,os,h => by
  simp only [outL] at h
  cases h1 : outD d u with
  | none => simp [h1] at h
  | some a =>
   cases h2 : outL ds l with
   | none => simp [h1,h2] at h
   | some b =>
    simp only [h1,h2,Option.some.injEq] at h
    subst h
    obtain ⟨p1,p2⟩ := outD_spec (ρ := ρ) (m := m) h1
    rw [List.map_append]
    simp only [valL,p2,List.map_cons]
    rw [show d.num = (a.map (O.den ρ)).length by simp [p1],List.drop_left,outL_spec h2]
 | [],_ :: _,_,h => by simp [outL] at h
 | _ :: _,[],_,h => by simp [outL] at h
theorem valL_len (ds : List D) : ∀ zs,(valL ds zs).length = ds.length := by
 induction ds with
 | nil => intro zs; rfl
 | cons d r ih => intro zs; simp [valL,ih]
theorem LeafK_spec {ds : List D} {K : List Int -> Prop} {v : V} {ρ : Env} {m : Nat -> Nat} {val : Value} (h : LeafK ds K v ρ) (hr : v.rel ρ m val) : ∃ rs,K rs /\ val = resVal ds rs := by
 unfold LeafK at h
 cases ho : outs ds v with
 | none => simp [ho] at h
 | some os =>
  simp only [ho] at h
  refine ⟨_,h,?_⟩
  unfold outs at ho
  cases v with
  | any => cases ho
  | osl _ _ _ => cases ho
  | clo _ _ => cases ho
  | w u =>
   simp only at ho
   split at ho
   ·rename_i d
    obtain ⟨p1,p2⟩ := outD_spec (ρ := ρ) (m := m) ho
    simp only [V.rel] at hr
    have := p2 []
    rw [List.append_nil] at this
    simp [resVal,valL,this,hr]
   ·cases ho
  | tup l =>
   simp only at ho
   split at ho
   ·cases ho
   ·rename_i hne
    have := outL_spec (ρ := ρ) (m := m) ho
    simp only [V.rel] at hr
    unfold resVal
    split
    ·rename_i x heq
     exfalso
     have hl := valL_len ds (os.map (O.den ρ))
     rw [heq] at hl
     match ds,hl with
     | [d],_ => exact hne d rfl
    ·rw [hr,this]
noncomputable def calOf (cons : List Con) (mulF addF subF : FuncId) : Cal := fun f =>
 cond (Nat.beq f mulF) (some mul64M) <| cond (Nat.beq f addF) (some add64M) <| cond (Nat.beq f subF) (some sub64M) <|
 match cons.find? (fun c => Nat.beq f c.f) with
 | some c => some c.M
 | none => none
section
variable {S : Nat -> List Int -> List Int -> Prop} {P : Program} {gl : Glo} {wb : World}
noncomputable def calC (cons : List Con) : Cal := fun f =>
 match cons.filter (fun c => Nat.beq f c.f) with
 | [] => none
 | l => some fun bl vs n k => match l.find? (fun c => (flatL c.args vs).isSome) with
  | some c => c.M bl vs n k
  | none => match l with
   | c :: _ => c.M bl vs n k
   | [] => .stuck
theorem calC_ok {w0 : Base} {cons : List Con} (hc : ∀ c ∈ cons,c.OkF P w0.b (S c.id)) : CalOk S P gl w0 (calC cons) := by
 intro f g hfg L n ρ m bl vs xs h1 h2 h3 h4
 unfold calC at hfg
 split at hfg
 ·cases hfg
 ·rename_i l hl
  simp only [Option.some.injEq] at hfg
  subst hfg
  intro G k hk
  simp only at hk
  split at hk
  ·rename_i c hcf
   have hin := List.mem_filter.1 (List.mem_of_find?_eq_some hcf)
   have hff := Nat.eq_of_beq_eq_true hin.2
   subst hff
   exact Con.snd (hc c hin.1) (fun _ _ h => h) L n ρ m bl vs xs h3 h4 G k hk
  ·split at hk
   ·rename_i c r hl2
    have hin := List.mem_filter.1 (show c ∈ cons.filter (fun c => Nat.beq f c.f) from by rw [hl2]; exact List.mem_cons_self (a := c) (l := r))
    have hff := Nat.eq_of_beq_eq_true hin.2
    subst hff
    exact Con.snd (hc c hin.1) (fun _ _ h => h) L n ρ m bl vs xs h3 h4 G k hk
   ·exact hk.elim
theorem Calls.some {f : FuncId} {args : Array Value} {w : World} {R : Ending -> World -> Prop} (h : Calls P f args w R) : ∃ e w',R e w' := by
 obtain ⟨e,w',fr,h1,_⟩ := h []
 exact ⟨e,w',h1⟩
noncomputable def Con.tree (P : Program) (gl : Glo) (cal : Cal) (li : FuncId -> Nat -> Option LoopI) (rounds d : Nat) (c : Con) : T :=
 callE P gl cal li rounds d c.f (bdsL c.args).length ((symL 0 c.args).map V.w) [] fun _ v _ => .leaf v
theorem LRel_sym {ρ : Env} {m : Nat -> Nat} : ∀ (l : List W),LRel ρ m (l.map V.w) (l.map (W.den ρ m))
 | [] => trivial
 | _ :: r => ⟨rfl,LRel_sym r⟩
theorem Con.calls {c : Con} {cal : Cal} {li : FuncId -> Nat -> Option LoopI} {rounds d : Nat} {L : V -> Env -> Prop} (hm : P.follows .mixedOrders = true) (hcal : ∀ r ex ro,CalOk S P gl ⟨wb,r,ex,ro⟩ cal) (hg : GOk gl ⟨wb,wb,fun _ => False,fun _ => False⟩) {zs : List Int} (hz : inB (bdsL c.args) zs)
 (ht : (c.tree P gl cal li rounds d).holds S L (fun _ _ => False) (updL (fun _ => 0) 0 zs)) (w : World) (hw : wb.Extends w) :
 Calls P c.f (valL c.args zs).toArray w fun e w' => ∃ v ρ' m val,e = .returned val /\ v.rel ρ' m val /\ L v ρ' /\ w.Extends w' := by
 have hs := symL_spec (m := fun _ => 0) (nb := 0) (N := (bdsL c.args).length) c.args hz (At.updL (fun _ => 0) 0 zs) (by omega)
 have := calls_of_tree (L := L) (b := wb) (w := w) hm (hcal w _ _) hg c.f _ _ _ ((symL 0 c.args).map (W.den (updL (fun _ => 0) 0 zs) fun _ => 0)) hw (fun v hv => by
  obtain ⟨u,hu,rfl⟩ := List.mem_map.1 hv
  exact hs.1 u hu) (LRel_sym _) ht
 rw [hs.2] at this
 refine this.mono fun e w' ⟨v,ρ',m,val,nb,h1,h2,_,h3,h4⟩ => ⟨v,ρ',m,val,h1,h2,h3,h4⟩
end
end Go.Rx
set_option linter.unusedVariables false
set_option linter.unusedSimpArgs false
namespace Go.Rx
open M
structure SCon where
 f : FuncId
 id : Nat
 k : IntKind
 N : Nat
 lo : Int
 hi : Int
 ty : TypeId
 off : Nat
 len : Nat
 cap : Nat
 args : List D
 res : List D
section
variable {S : Nat -> List Int -> List Int -> Prop} {P : Program} {gl : Glo} {w0 : Base}
end
end Go.Rx
set_option linter.unusedVariables false
set_option linter.unusedSimpArgs false
namespace Go.Rx
def goB (P : Program) (f : FuncId) : Bool := match P.funcs[f]? with
 | some fn => !(fn.name == "runtime.NumGoroutine") && fn.body.isSome
 | none => false
theorem enters {P : Program} {f : FuncId} (h : goB P f = true) (args : Array Value) (w : World) : (callFunc f args).run P w = .ok (.enter f args) w := by
 unfold goB at h
 cases hf : P.funcs[f]? with
 | none => simp [hf] at h
 | some fn =>
  simp only [hf,Bool.and_eq_true,Bool.not_eq_true'] at h
  have h1 : fn.name ≠ "runtime.NumGoroutine" := by simpa using h.1
  obtain ⟨c,hc⟩ := Option.isSome_iff_exists.1 h.2
  simp [callFunc,hf,h1,hc,Sem.run]
section
variable {S : Nat -> List Int -> List Int -> Prop} {P : Program} {gl : Glo} {wb : World}
end
end Go.Rx
set_option linter.unusedVariables false
set_option linter.unusedSimpArgs false
namespace Go.Rx
abbrev BSt := List (Nat × Nat)
abbrev BDy := List (List Int)
def lookB : BSt -> BDy -> Nat -> Int
 | (s,k) :: st,l :: dy,i => cond (Nat.ble s i && Nat.blt i (s + k)) (l.getD (i - s) 0) (lookB st dy i)
 | _,_,_ => 0
def lensB : BSt -> BDy -> Prop
 | (_,k) :: st,l :: dy => l.length = k /\ lensB st dy
 | [],[] => True
 | _,_ => False
def Tells (ρ : Env) (st : BSt) (dy : BDy) : Prop := lensB st dy /\ ∀ i,ρ i = lookB st dy i
def denTB (st : BSt) (dy : BDy) : List (Int × Nat) -> Int
 | [] => 0
 | (k,i) :: r => match r with
  | [] => cond (k == 1) (lookB st dy i) (k * lookB st dy i)
  | _ => cond (k == 1) (lookB st dy i) (k * lookB st dy i) + denTB st dy r
def Lin.denB (st : BSt) (dy : BDy) (l : Lin) : Int :=
 match l.ts with
 | [] => l.c
 | ts => cond (l.c == 0) (denTB st dy ts) (denTB st dy ts + l.c)
theorem denTB_eq {ρ : Env} {st : BSt} {dy : BDy} (h : ∀ i,ρ i = lookB st dy i) : ∀ ts,denTB st dy ts = denT ρ ts
 | [] => rfl
 | (k,i) :: [] => by
  simp only [denTB,denT,<- h i]
  cases hk : (k == 1) with
  | true => have : k = 1 := by simpa using hk
            subst this; simp
  | false => simp
 | (k,i) :: t :: r => by
  have ih := denTB_eq h (t :: r)
  rw [denTB,denT,ih,<- h i]
  ·cases hk : (k == 1) with
   | true => have : k = 1 := by simpa using hk
             subst this; simp
   | false => simp
  ·intro hc; cases hc
theorem Lin.denB_eq {ρ : Env} {st : BSt} {dy : BDy} (h : ∀ i,ρ i = lookB st dy i) (l : Lin) : l.denB st dy = l.den ρ := by
 unfold Lin.denB Lin.den
 cases hl : l.ts with
 | nil => simp [denT]
 | cons t r =>
  simp only [denTB_eq h]
  cases hc : (l.c == 0) with
  | true => have : l.c = 0 := by simpa using hc
            rw [this]; simp
  | false => simp
def findBlk : BSt -> BDy -> Nat -> Nat -> Option (List Int)
 | (s,k) :: st,l :: dy,i,len => cond (Nat.beq s i && Nat.beq k len) (some l) (cond (Nat.ble (i + len) s || Nat.ble (s + k) i) (findBlk st dy i len) none)
 | _,_,_,_ => none
theorem findBlk_spec : ∀ {st : BSt} {dy : BDy} {i len : Nat} {l : List Int},findBlk st dy i len = some l -> lensB st dy -> l.length = len /\ ∀ j,j < len -> lookB st dy (i + j) = l.getD j 0
 | [],_,_,_,_,h,_ => by simp [findBlk] at h
 | _ :: _,[],_,_,_,h,_ => by simp [findBlk] at h
 | (s,k) :: st,l' :: dy,i,len,l,h,hl => by
  unfold findBlk at h
  cases h1 : (Nat.beq s i && Nat.beq k len) with
  | true =>
   simp only [h1,cond_true,Option.some.injEq] at h
   subst h
   simp only [Bool.and_eq_true] at h1
   have e1 := Nat.eq_of_beq_eq_true h1.1
   have e2 := Nat.eq_of_beq_eq_true h1.2
   subst e1; subst e2
   refine ⟨hl.1,fun j hj => ?_⟩
   unfold lookB
   have : (Nat.ble s (s + j) && Nat.blt (s + j) (s + k)) = true := by simp [Nat.blt]; omega
   rw [this,cond_true,Nat.add_sub_cancel_left]
  | false =>
   simp only [h1,cond_false] at h
   cases h2 : (Nat.ble (i + len) s || Nat.ble (s + k) i) with
   | false => simp [h2] at h
   | true =>
    simp only [h2,cond_true] at h
    obtain ⟨g1,g2⟩ := findBlk_spec h hl.2
    refine ⟨g1,fun j hj => ?_⟩
    rw [<- g2 j hj]
    conv => lhs; unfold lookB
    have : (Nat.ble s (i + j) && Nat.blt (i + j) (s + k)) = false := by
     simp only [Bool.or_eq_true,Nat.ble_eq] at h2
     cases h3 : (Nat.ble s (i + j) && Nat.blt (i + j) (s + k)) with
     | false => rfl
     | true => simp [Nat.blt] at h3; omega
    rw [this,cond_false]
def isVars : Nat -> List Lin -> Bool
 | _,[] => true
 | i,l :: r => (l.c == 0 && (match l.ts with | [(k,j)] => k == 1 && Nat.beq i j | _ => false)) && isVars (i + 1) r
def firstVar : List Lin -> Nat
 | [] => 0
 | l :: _ => match l.ts with | [(_,j)] => j | _ => 0
theorem isVars_spec {ρ : Env} : ∀ {ls : List Lin} {i : Nat},isVars i ls = true -> ∀ j,j < ls.length -> (ls.map (·.den ρ)).getD j 0 = ρ (i + j)
 | [],_,_,j,hj => by simp at hj
 | l :: r,i,h,j,hj => by
  simp only [isVars,Bool.and_eq_true] at h
  cases j with
  | zero =>
   obtain ⟨⟨h1,h2⟩,_⟩ := h
   have hc : l.c = 0 := by simpa using h1
   cases hl : l.ts with
   | nil => simp [hl] at h2
   | cons t s =>
    cases s with
    | cons t' s' => simp [hl] at h2
    | nil =>
     obtain ⟨k,q⟩ := t
     simp only [hl,Bool.and_eq_true] at h2
     have e1 : k = 1 := by simpa using h2.1
     have e2 := Nat.eq_of_beq_eq_true h2.2
     subst e1; subst e2
     simp [Lin.den,hl,denT,hc]
  | succ j =>
   have := isVars_spec (ρ := ρ) h.2 j (by simpa using hj)
   simp only [List.map_cons,List.getD_cons_succ]
   rw [this]
   congr 1; omega
def segB (st : BSt) (dy : BDy) (ls : List Lin) : List Int :=
 cond (Nat.blt 1 ls.length && isVars (firstVar ls) ls) (match findBlk st dy (firstVar ls) ls.length with | some l => l | none => ls.map (Lin.denB st dy)) (ls.map (Lin.denB st dy))
theorem list_ext_getD {l l' : List Int} (hl : l.length = l'.length) (h : ∀ j,j < l.length -> l.getD j 0 = l'.getD j 0) : l = l' := by
 apply List.ext_getElem hl
 intro j h1 h2
 have := h j h1
 simpa [List.getD_eq_getElem?_getD,List.getElem?_eq_getElem h1,List.getElem?_eq_getElem h2] using this
theorem segB_eq {ρ : Env} {st : BSt} {dy : BDy} (h : Tells ρ st dy) (ls : List Lin) : segB st dy ls = ls.map (·.den ρ) := by
 have e0 : ls.map (Lin.denB st dy) = ls.map (·.den ρ) := List.map_congr_left fun l _ => Lin.denB_eq h.2 l
 unfold segB
 cases h1 : (Nat.blt 1 ls.length && isVars (firstVar ls) ls) with
 | false => simpa using e0
 | true =>
  simp only [cond_true]
  simp only [Bool.and_eq_true] at h1
  cases h2 : findBlk st dy (firstVar ls) ls.length with
  | none => exact e0
  | some l =>
   obtain ⟨g1,g2⟩ := findBlk_spec h2 h.1
   show l = _
   refine list_ext_getD (by simp [g1]) fun j hj => ?_
   rw [isVars_spec h1.2 j (by omega),h.2,g2 j (by omega)]
def eqsB : BE -> Option (List Lin × List Lin)
 | .eq a b => some ([a],[b])
 | .and (.eq a b) r => match eqsB r with | some (x,y) => some (a :: x,b :: y) | none => none
 | _ => none
def BE.denB (st : BSt) (dy : BDy) : BE -> Bool
 | lit b => b
 | eq a b => decide (a.denB st dy = b.denB st dy)
 | lt a b => decide (a.denB st dy < b.denB st dy)
 | le a b => decide (a.denB st dy <= b.denB st dy)
 | not a => !a.denB st dy
 | and a b => match eqsB (.and a b) with
  | some (x,y) => decide (segB st dy x = segB st dy y)
  | none => a.denB st dy && b.denB st dy
 | iff a b => a.denB st dy == b.denB st dy
theorem eqsB_spec {ρ : Env} : ∀ {b : BE} {x y : List Lin},eqsB b = some (x,y) -> b.den ρ = decide (x.map (·.den ρ) = y.map (·.den ρ))
 | .eq a b,x,y,h => by
  simp only [eqsB,Option.some.injEq,Prod.mk.injEq] at h
  obtain ⟨rfl,rfl⟩ := h
  simp [BE.den]
 | .and (.eq a b) r,x,y,h => by
  simp only [eqsB] at h
  cases hr : eqsB r with
  | none => simp [hr] at h
  | some p =>
   obtain ⟨x',y'⟩ := p
   simp only [hr,Option.some.injEq,Prod.mk.injEq] at h
   obtain ⟨rfl,rfl⟩ := h
   have ih := eqsB_spec (ρ := ρ) hr
   simp only [BE.den,ih,List.map_cons,List.cons.injEq]
   simp
 | .lit _,_,_,h => by simp [eqsB] at h
 | .lt _ _,_,_,h => by simp [eqsB] at h
 | .le _ _,_,_,h => by simp [eqsB] at h
 | .not _,_,_,h => by simp [eqsB] at h
 | .iff _ _,_,_,h => by simp [eqsB] at h
 | .and (.lit _) _,_,_,h => by simp [eqsB] at h
 | .and (.lt _ _) _,_,_,h => by simp [eqsB] at h
 | .and (.le _ _) _,_,_,h => by simp [eqsB] at h
 | .and (.not _) _,_,_,h => by simp [eqsB] at h
 | .and (.and _ _) _,_,_,h => by simp [eqsB] at h
 | .and (.iff _ _) _,_,_,h => by simp [eqsB] at h
theorem BE.denB_eq {ρ : Env} {st : BSt} {dy : BDy} (h : Tells ρ st dy) : ∀ b : BE,b.denB st dy = b.den ρ
 | lit _ => rfl
 | eq a b => by simp only [denB,den,Lin.denB_eq h.2]
 | lt a b => by simp only [denB,den,Lin.denB_eq h.2]
 | le a b => by simp only [denB,den,Lin.denB_eq h.2]
 | not a => by simp only [denB,den,BE.denB_eq h a]
 | and a b => by
  have e1 := BE.denB_eq h a
  have e2 := BE.denB_eq h b
  unfold denB
  cases hq : eqsB (.and a b) with
  | none => simp only [den,e1,e2]
  | some p =>
   obtain ⟨x,y⟩ := p
   simp only [eqsB_spec (ρ := ρ) hq,segB_eq h]
 | iff a b => by simp only [denB,den,BE.denB_eq h a,BE.denB_eq h b]
def splitL {α : Type} : List Nat -> List α -> List (List α)
 | [],[] => []
 | [],x :: l => [x :: l]
 | k :: ks,l => l.take k :: splitL ks (l.drop k)
theorem splitL_map {α β : Type} (f : α -> β) : ∀ (ks : List Nat) (l : List α),splitL ks (l.map f) = (splitL ks l).map (List.map f)
 | [],[] => rfl
 | [],_ :: _ => rfl
 | k :: ks,l => by simp only [splitL,List.map_cons,<- List.map_take,<- List.map_drop,splitL_map f ks]
def allBl : List Nat -> Nat -> List (Int × Int) -> (BSt -> BDy -> List (List Int) -> Prop) -> BSt -> BDy -> Prop
 | [],_,[],P,st,dy => P st dy []
 | [],_,_ :: _,_,_,_ => False
 | k :: ks,n,bds,P,st,dy => cond (Nat.beq k 1)
  (match bds with
  | (lo,hi) :: bds' => ∀ z : Int,lo <= z -> z <= hi -> allBl ks (n + 1) bds' (fun st' dy' ls => P st' dy' ([z] :: ls)) ((n,1) :: st) ([z] :: dy)
  | [] => False)
  (cond (Nat.ble k bds.length) (∀ r : List Int,inB (bds.take k) r -> allBl ks (n + k) (bds.drop k) (fun st' dy' ls => P st' dy' (r :: ls)) ((n,k) :: st) (r :: dy)) False)
theorem updL_app : ∀ (a b : List Int) (n : Nat) (ρ : Env),updL ρ n (a ++ b) = updL (updL ρ n a) (n + a.length) b
 | [],b,n,ρ => rfl
 | z :: a,b,n,ρ => by
  simp only [List.cons_append,updL,List.length_cons]
  rw [updL_app a b]
  congr 1; omega
theorem updL_get : ∀ (l : List Int) (n : Nat) (ρ : Env) (i : Nat),updL ρ n l i = cond (Nat.ble n i && Nat.blt i (n + l.length)) (l.getD (i - n) 0) (ρ i)
 | [],n,ρ,i => by
  have : (Nat.ble n i && Nat.blt i (n + 0)) = false := by
   cases h : (Nat.ble n i && Nat.blt i (n + 0)) with
   | false => rfl
   | true => simp [Nat.blt] at h; omega
  simp only [updL,List.length_nil,this,cond_false]
 | z :: l,n,ρ,i => by
  simp only [updL]
  rw [updL_get l (n + 1)]
  by_cases h1 : i = n
  ·subst h1
   have e1 : (Nat.ble (i + 1) i && Nat.blt i (i + 1 + l.length)) = false := by
    have : Nat.ble (i + 1) i = false := by
     cases h : Nat.ble (i + 1) i with
     | false => rfl
     | true => exact absurd (Nat.le_of_ble_eq_true h) (by omega)
    simp [this]
   have e2 : (Nat.ble i i && Nat.blt i (i + (z :: l).length)) = true := by simp [Nat.blt]
   rw [e1,e2]
   simp [upd]
  ·have hu : upd ρ n z i = ρ i := upd_ne ρ z h1
   by_cases h2 : n <= i /\ i < n + 1 + l.length
   ·have e1 : (Nat.ble (n + 1) i && Nat.blt i (n + 1 + l.length)) = true := by simp [Nat.blt]; omega
    have e2 : (Nat.ble n i && Nat.blt i (n + (z :: l).length)) = true := by simp [Nat.blt]; omega
    rw [e1,e2]
    simp only [cond_true]
    rw [show i - n = (i - (n + 1)) + 1 by omega,List.getD_cons_succ]
   ·have e1 : (Nat.ble (n + 1) i && Nat.blt i (n + 1 + l.length)) = false := by
     cases h : (Nat.ble (n + 1) i && Nat.blt i (n + 1 + l.length)) with
     | false => rfl
     | true => simp [Nat.blt] at h; omega
    have e2 : (Nat.ble n i && Nat.blt i (n + (z :: l).length)) = false := by
     cases h : (Nat.ble n i && Nat.blt i (n + (z :: l).length)) with
     | false => rfl
     | true => simp [Nat.blt] at h; omega
    rw [e1,e2]
    simp [hu]
theorem Tells.push {ρ : Env} {st : BSt} {dy : BDy} (h : Tells ρ st dy) (n : Nat) (l : List Int) : Tells (updL ρ n l) ((n,l.length) :: st) (l :: dy) :=
 ⟨⟨rfl,h.1⟩,fun i => by rw [updL_get,lookB,<- h.2 i]⟩
theorem inB_take_drop : ∀ {bds : List (Int × Int)} {zs : List Int} (k : Nat),inB bds zs -> inB (bds.take k) (zs.take k) /\ inB (bds.drop k) (zs.drop k)
 | [],[],k,_ => by simp [inB]
 | [],_ :: _,_,h => h.elim
 | (_,_) :: _,[],_,h => h.elim
 | (l,u) :: b,z :: zs,0,h => by simpa [inB] using h
 | (l,u) :: b,z :: zs,k + 1,h => by
  obtain ⟨h1,h2,h3⟩ := h
  obtain ⟨g1,g2⟩ := inB_take_drop (bds := b) (zs := zs) k h3
  exact ⟨⟨h1,h2,g1⟩,g2⟩
theorem allBl_elim : ∀ {ks : List Nat} {n : Nat} {bds : List (Int × Int)} {P : BSt -> BDy -> List (List Int) -> Prop} {st : BSt} {dy : BDy} {ρ : Env} {zs : List Int},allBl ks n bds P st dy -> Tells ρ st dy -> inB bds zs -> ∃ st' dy',Tells (updL ρ n zs) st' dy' /\ P st' dy' (splitL ks zs)
 | [],n,[],P,st,dy,ρ,[],h,ht,_ => ⟨st,dy,ht,h⟩
 | [],_,[],_,_,_,_,_ :: _,_,_,hi => hi.elim
 | [],_,_ :: _,_,_,_,_,_,h,_,_ => h.elim
 | k :: ks,n,bds,P,st,dy,ρ,zs,h,ht,hi => by
  unfold allBl at h
  cases hk : Nat.beq k 1 with
  | true =>
   have e := Nat.eq_of_beq_eq_true hk
   subst e
   simp only [hk,cond_true] at h
   cases bds with
   | nil => exact h.elim
   | cons b bds' =>
    obtain ⟨lo,hi'⟩ := b
    cases zs with
    | nil => exact hi.elim
    | cons z zs =>
     obtain ⟨h1,h2,h3⟩ := hi
     have := allBl_elim (h z h1 h2) (ht.push n [z]) h3
     obtain ⟨st',dy',g1,g2⟩ := this
     refine ⟨st',dy',g1,?_⟩
     simpa [splitL] using g2
  | false =>
   simp only [hk,cond_false] at h
   cases hb : Nat.ble k bds.length with
   | false => simp only [hb,cond_false] at h
   | true =>
    simp only [hb,cond_true] at h
    have hb' : k <= bds.length := by simpa using hb
    have hlen := inB_len hi
    obtain ⟨i1,i2⟩ := inB_take_drop k hi
    have e : (zs.take k).length = k := by simp; omega
    have ht' := ht.push n (zs.take k)
    rw [e] at ht'
    obtain ⟨st',dy',g1,g2⟩ := allBl_elim (h _ i1) ht' i2
    refine ⟨st',dy',?_,g2⟩
    have e2 := updL_app (zs.take k) (zs.drop k) n ρ
    rw [List.take_append_drop,e] at e2
    rw [e2]; exact g1
abbrev AgainB := Nat -> List (List Int) -> Prop
def AgainB.set (A : AgainB) (lid : Nat) (p : List (List Int) -> Prop) : AgainB := fun i => cond (Nat.beq i lid) p (A i)
def T.holdsB (sh : Nat -> List Nat × List Nat) (lsh : Nat -> List Nat) (S : Nat -> List (List Int) -> List (List Int) -> Prop) (L : V -> BSt -> BDy -> Prop) : T -> AgainB -> BSt -> BDy -> Prop
 | stuck,_,_,_ => False
 | leaf v,_,st,dy => L v st dy
 | div n x d lo hi r,A,st,dy => ∀ q : Int,lo <= q -> q <= hi -> 0 <= x.denB st dy - d * q -> x.denB st dy - d * q < d -> r.holdsB sh lsh S L A ((n,1) :: st) ([q] :: dy)
 | mul n x y lo hi r,A,st,dy => ∀ p : Int,lo <= p -> p <= hi -> p = x.denB st dy * y.denB st dy -> r.holdsB sh lsh S L A ((n,1) :: st) ([p] :: dy)
 | bit n op k x y r,A,st,dy => ∀ z : Int,0 <= z -> z <= k.max -> z = bitI op k (x.denB st dy) (y.denB st dy) -> r.holdsB sh lsh S L A ((n,1) :: st) ([z] :: dy)
 | shr n x y lo hi r,A,st,dy => ∀ z : Int,lo <= z -> z <= hi -> z = x.denB st dy / 2 ^ (y.denB st dy).toNat -> r.holdsB sh lsh S L A ((n,1) :: st) ([z] :: dy)
 | sel n cs ix lo hi r,A,st,dy => ∀ z : Int,lo <= z -> z <= hi -> z = (segB st dy cs).getD (ix.denB st dy).toNat 0 -> r.holdsB sh lsh S L A ((n,1) :: st) ([z] :: dy)
 | br b t e,A,st,dy => (b.denB st dy = true -> t.holdsB sh lsh S L A st dy) /\ (b.denB st dy = false -> e.holdsB sh lsh S L A st dy)
 | call id args n bds r,A,st,dy => allBl (sh id).2 n bds (fun st' dy' rs => S id ((splitL (sh id).1 args).map (segB st dy)) rs -> r.holdsB sh lsh S L A st' dy') st dy
 | loop lid init n bds r,A,st,dy => ∃ (I : List (List Int) -> Prop) (μ : List (List Int) -> Nat),I ((splitL (lsh lid) init).map (segB st dy)) /\
  allBl (lsh lid) n bds (fun st' dy' zs => I zs -> r.holdsB sh lsh S L (A.set lid fun vs => I vs /\ μ vs < μ zs) st' dy') st dy
 | again lid vals,A,st,dy => A lid ((splitL (lsh lid) vals).map (segB st dy))
 | both a b,A,st,dy => a.holdsB sh lsh S L A st dy /\ b.holdsB sh lsh S L A st dy
 | fn n op args lo hi r,A,st,dy => ∀ z : Int,lo <= z -> z <= hi -> z = fnD op (args.map (Lin.denB st dy)) -> r.holdsB sh lsh S L A ((n,1) :: st) ([z] :: dy)
 | ind n b r,A,st,dy => ∀ z : Int,0 <= z -> z <= 1 -> b.denB st dy = decide (z = 1) -> r.holdsB sh lsh S L A ((n,1) :: st) ([z] :: dy)
 | unk n lo hi r,A,st,dy => ∀ z : Int,lo <= z -> z <= hi -> r.holdsB sh lsh S L A ((n,1) :: st) ([z] :: dy)
 | nat n r,A,st,dy => ∀ z : Int,0 <= z -> r.holdsB sh lsh S L A ((n,1) :: st) ([z] :: dy)
 | asm op args r,A,st,dy => chkD op (args.map (Lin.denB st dy)) -> r.holdsB sh lsh S L A st dy
 | chk op args r,A,st,dy => chkD op (args.map (Lin.denB st dy)) /\ r.holdsB sh lsh S L A st dy
theorem seg_split {ρ : Env} {st : BSt} {dy : BDy} (h : Tells ρ st dy) (ks : List Nat) (l : List Lin) : (splitL ks l).map (segB st dy) = splitL ks (l.map (·.den ρ)) := by
 rw [splitL_map]; exact List.map_congr_left fun x _ => segB_eq h x
def flatS (sh : Nat -> List Nat × List Nat) (S : Nat -> List (List Int) -> List (List Int) -> Prop) : Nat -> List Int -> List Int -> Prop := fun id zs rs => S id (splitL (sh id).1 zs) (splitL (sh id).2 rs)
theorem map_denB {ρ : Env} {st : BSt} {dy : BDy} (h : Tells ρ st dy) (l : List Lin) : l.map (Lin.denB st dy) = l.map (·.den ρ) := List.map_congr_left fun x _ => Lin.denB_eq h.2 x
theorem holdsB_sound {sh : Nat -> List Nat × List Nat} {lsh : Nat -> List Nat} {S : Nat -> List (List Int) -> List (List Int) -> Prop} {LB : V -> BSt -> BDy -> Prop} {L : V -> Env -> Prop} (hL : ∀ v ρ st dy,Tells ρ st dy -> LB v st dy -> L v ρ) :
 ∀ (t : T) (AB : AgainB) (A : Again) (ρ : Env) (st : BSt) (dy : BDy),(∀ lid vs,AB lid (splitL (lsh lid) vs) -> A lid vs) -> Tells ρ st dy -> t.holdsB sh lsh S LB AB st dy -> t.holds (flatS sh S) L A ρ
 | .stuck,_,_,_,_,_,_,_,h => h
 | .leaf v,_,_,ρ,st,dy,_,ht,h => hL v ρ st dy ht h
 | .div n x d lo hi r,AB,A,ρ,st,dy,hA,ht,h => fun q h1 h2 h3 h4 => holdsB_sound hL r AB A _ _ _ hA (ht.push n [q]) (h q h1 h2 (by rw [Lin.denB_eq ht.2]; exact h3) (by rw [Lin.denB_eq ht.2]; exact h4))
 | .mul n x y lo hi r,AB,A,ρ,st,dy,hA,ht,h => fun q h1 h2 h3 => holdsB_sound hL r AB A _ _ _ hA (ht.push n [q]) (h q h1 h2 (by rw [Lin.denB_eq ht.2,Lin.denB_eq ht.2]; exact h3))
 | .bit n op k x y r,AB,A,ρ,st,dy,hA,ht,h => fun q h1 h2 h3 => holdsB_sound hL r AB A _ _ _ hA (ht.push n [q]) (h q h1 h2 (by rw [Lin.denB_eq ht.2,Lin.denB_eq ht.2]; exact h3))
 | .shr n x y lo hi r,AB,A,ρ,st,dy,hA,ht,h => fun q h1 h2 h3 => holdsB_sound hL r AB A _ _ _ hA (ht.push n [q]) (h q h1 h2 (by rw [Lin.denB_eq ht.2,Lin.denB_eq ht.2]; exact h3))
 | .sel n cs ix lo hi r,AB,A,ρ,st,dy,hA,ht,h => fun q h1 h2 h3 => holdsB_sound hL r AB A _ _ _ hA (ht.push n [q]) (h q h1 h2 (by rw [segB_eq ht,Lin.denB_eq ht.2]; exact h3))
 | .br b t e,AB,A,ρ,st,dy,hA,ht,h => ⟨fun hb => holdsB_sound hL t AB A _ _ _ hA ht (h.1 (by rw [BE.denB_eq ht]; exact hb)),fun hb => holdsB_sound hL e AB A _ _ _ hA ht (h.2 (by rw [BE.denB_eq ht]; exact hb))⟩
 | .call id args n bds r,AB,A,ρ,st,dy,hA,ht,h => by
  refine allB_intro fun rs hi hs => ?_
  obtain ⟨st',dy',h1,h2⟩ := allBl_elim h ht hi
  exact holdsB_sound hL r AB A _ _ _ hA h1 (h2 (by rw [seg_split ht]; exact hs))
 | .loop lid init n bds r,AB,A,ρ,st,dy,hA,ht,h => by
  obtain ⟨I,μ,h1,h2⟩ := h
  refine ⟨fun zs => I (splitL (lsh lid) zs),fun zs => μ (splitL (lsh lid) zs),?_,?_⟩
  ·rw [seg_split ht] at h1; exact h1
  ·refine allB_intro fun zs hi hI => ?_
   obtain ⟨st',dy',g1,g2⟩ := allBl_elim h2 ht hi
   refine holdsB_sound hL r _ _ _ _ _ (fun lid' vs hv => ?_) g1 (g2 hI)
   unfold AgainB.set at hv
   unfold Again.set
   cases hq : Nat.beq lid' lid with
   | true =>
    rw [hq] at hv
    have e := Nat.eq_of_beq_eq_true hq
    subst e
    exact hv
   | false => rw [hq] at hv; exact hA _ _ hv
 | .again lid vals,AB,A,ρ,st,dy,hA,ht,h => hA lid _ (by rw [<- seg_split ht]; exact h)
 | .both x y,AB,A,ρ,st,dy,hA,ht,h => ⟨holdsB_sound hL x AB A ρ st dy hA ht h.1,holdsB_sound hL y AB A ρ st dy hA ht h.2⟩
 | .fn n op args lo hi r,AB,A,ρ,st,dy,hA,ht,h => fun q h1 h2 h3 => holdsB_sound hL r AB A _ _ _ hA (ht.push n [q]) (h q h1 h2 (by rw [map_denB ht]; exact h3))
 | .ind n b r,AB,A,ρ,st,dy,hA,ht,h => fun q h1 h2 h3 => holdsB_sound hL r AB A _ _ _ hA (ht.push n [q]) (h q h1 h2 (by rw [BE.denB_eq ht]; exact h3))
 | .unk n lo hi r,AB,A,ρ,st,dy,hA,ht,h => fun q h1 h2 => holdsB_sound hL r AB A _ _ _ hA (ht.push n [q]) (h q h1 h2)
 | .nat n r,AB,A,ρ,st,dy,hA,ht,h => fun q h1 => holdsB_sound hL r AB A _ _ _ hA (ht.push n [q]) (h q h1)
 | .asm op args r,AB,A,ρ,st,dy,hA,ht,h => fun h1 => holdsB_sound hL r AB A ρ st dy hA ht (h (by rw [map_denB ht]; exact h1))
 | .chk op args r,AB,A,ρ,st,dy,hA,ht,h => ⟨by rw [<- map_denB ht]; exact h.1,holdsB_sound hL r AB A _ _ _ hA ht h.2⟩
def linsO : List O -> Option (List Lin)
 | [] => some []
 | .l x :: r => match linsO r with | some l => some (x :: l) | none => none
 | .b _ :: _ => none
def O.denB (st : BSt) (dy : BDy) : O -> Int
 | l x => x.denB st dy
 | b x => cond (x.denB st dy) 1 0
def segO (st : BSt) (dy : BDy) (os : List O) : List Int :=
 match linsO os with
 | some ls => segB st dy ls
 | none => os.map (O.denB st dy)
theorem linsO_spec {ρ : Env} : ∀ {os : List O} {ls : List Lin},linsO os = some ls -> ls.map (·.den ρ) = os.map (O.den ρ)
 | [],ls,h => by simp [linsO] at h; subst h; rfl
 | .l x :: r,ls,h => by
  simp only [linsO] at h
  cases hr : linsO r with
  | none => simp [hr] at h
  | some l =>
   simp only [hr,Option.some.injEq] at h
   subst h
   simp only [List.map_cons,linsO_spec hr,O.den]
 | .b _ :: _,_,h => by simp [linsO] at h
theorem O.denB_eq {ρ : Env} {st : BSt} {dy : BDy} (h : Tells ρ st dy) : ∀ o : O,o.denB st dy = o.den ρ
 | .l x => Lin.denB_eq h.2 x
 | .b x => by simp only [denB,den,BE.denB_eq h]
theorem segO_eq {ρ : Env} {st : BSt} {dy : BDy} (h : Tells ρ st dy) (os : List O) : segO st dy os = os.map (O.den ρ) := by
 unfold segO
 cases hl : linsO os with
 | some ls => exact (segB_eq h ls).trans (linsO_spec hl)
 | none => exact List.map_congr_left fun o _ => O.denB_eq h o
def mixNums (k : Nat) : List Nat := match k with
 | 12 => [4,4,4]
 | 15 => [5,5,5]
 | 20 => [5,5,5,5]
 | k => [k]
def D.nums : D -> List Nat
 | .mix l => mixNums l.length
 | .strk _ => []
 | d => [d.num]
def numsD (ds : List D) : List Nat := ds.flatMap D.nums
def LeafB (ds : List D) (K : List (List Int) -> Prop) (v : V) (st : BSt) (dy : BDy) : Prop :=
 match outs ds v with
 | some os => K ((splitL (numsD ds) os).map (segO st dy))
 | none => False
theorem LeafB_sound {ds : List D} {K : List (List Int) -> Prop} (v : V) (ρ : Env) (st : BSt) (dy : BDy) (ht : Tells ρ st dy) (h : LeafB ds K v st dy) : LeafK ds (fun rs => K (splitL (numsD ds) rs)) v ρ := by
 unfold LeafB at h
 unfold LeafK
 cases ho : outs ds v with
 | none => simp [ho] at h
 | some os =>
  simp only [ho] at h ⊢
  rw [splitL_map]
  rwa [show (splitL (numsD ds) os).map (segO st dy) = (splitL (numsD ds) os).map (List.map (O.den ρ)) from List.map_congr_left fun o _ => segO_eq ht o] at h
def VcB (sh : Nat -> List Nat × List Nat) (lsh : Nat -> List Nat) (S : Nat -> List (List Int) -> List (List Int) -> Prop) (K : List (List Int) -> List (List Int) -> Prop) (lens : List Nat) (bds : List (Int × Int)) (ds : List D) (t : T) : Prop :=
 allBl lens 0 bds (fun st dy zs => t.holdsB sh lsh S (LeafB ds (K zs)) (fun _ _ => False) st dy) [] []
theorem VcB_sound {sh : Nat -> List Nat × List Nat} {lsh : Nat -> List Nat} {S : Nat -> List (List Int) -> List (List Int) -> Prop} {K : List (List Int) -> List (List Int) -> Prop} {lens : List Nat} {bds : List (Int × Int)} {ds : List D} {t : T}
 (h : VcB sh lsh S K lens bds ds t) : allB bds fun zs => t.holds (flatS sh S) (LeafK ds fun rs => K (splitL lens zs) (splitL (numsD ds) rs)) (fun _ _ => False) (updL (fun _ => 0) 0 zs) := by
 refine allB_intro fun zs hi => ?_
 obtain ⟨st,dy,h1,h2⟩ := allBl_elim h (show Tells (fun _ => 0) [] [] from ⟨trivial,fun _ => rfl⟩) hi
 exact holdsB_sound (fun v ρ st dy ht hl => LeafB_sound v ρ st dy ht hl) t _ _ _ st dy (fun _ _ hf => hf.elim) h1 h2
end Go.Rx
set_option linter.unusedVariables false
set_option linter.unusedSimpArgs false
namespace Go.Rx
open Go.ChangeShapes Go.WideShapes Go.RowKit
variable {H : Type} {enc : TypeId × Value -> H} {P : Program}
theorem wf_iff {k : IntKind} {z : Int} : (Lit.int k z).wf = true ↔ k.min <= z /\ z <= k.max := by simp [Lit.wf]
theorem inB_app : ∀ {b b' : List (Int × Int)} {l l' : List Int},inB b l -> inB b' l' -> inB (b ++ b') (l ++ l')
 | [],_,[],_,_,h => h
 | _ :: _,_,_ :: _,_,h,h' => ⟨h.1,h.2.1,inB_app h.2.2 h'⟩
 | [],_,_ :: _,_,h,_ => h.elim
 | _ :: _,_,[],_,h,_ => h.elim
theorem D.val_app (d : D) {zs l : List Int} (h : zs.length = d.num) : d.val (zs ++ l) = d.val zs := by
 cases d with
 | str => match zs,h with | [z],_ => rfl
 | int k lo hi => match zs,h with | [z],_ => rfl
 | bool => match zs,h with | [z],_ => rfl
 | agg k n lo hi => simp only [D.num] at h; simp only [D.val,<- h]; simp
 | strk p => rfl
 | mix p =>
  simp only [D.num] at h
  simp only [D.val]
  congr 2
  revert zs
  induction p with
  | nil => intro zs h; simp
  | cons a p ih =>
   intro zs h
   match zs,h with
   | z :: zs,h => simp only [List.cons_append,List.zipWith_cons_cons,ih (zs := zs) (by simpa using h)]
theorem keptBut_extends {w w' : World} (h : w.Extends w') (may : MemPlace -> Prop) : w.keptBut w' may :=
 Below.frame (W := w) ⟨h.os,h.tape,h.output,h.size,fun i hi => h.block i hi⟩ may
end Go.Rx
set_option linter.unusedVariables false
set_option linter.unusedSimpArgs false
namespace Go.Rx
open M
inductive BD where
 | d (x : D)
 | rd (sh : List CK)
 | ow (sh : List CK) (e : TypeId)
def BD.num : BD -> Nat
 | d x => x.num
 | _ => 1
noncomputable def BD.bds : BD -> List (Int × Int)
 | d x => x.bds
 | _ => [(0,RB)]
noncomputable def bbds : List BD -> List (Int × Int)
 | [] => []
 | x :: r => x.bds ++ bbds r
def BD.isD : BD -> Bool
 | d _ => true
 | _ => false
def BD.isOw : BD -> Bool
 | ow _ _ => true
 | _ => false
def BD.isRd : BD -> Bool
 | rd _ => true
 | _ => false
def bdOk : List BD -> Bool
 | [] => true
 | .d _ :: r => bdOk r
 | .rd _ :: r => r.all (fun b => !b.isOw) && bdOk r
 | .ow _ _ :: r => r.all BD.isD && bdOk r
def SlAt (F : Nat -> Prop) (w : World) (sh : List CK) (rows : List (List Int)) (v : Value) : Prop :=
 (v = .slice none 0 0 /\ rows = []) ∨ ∃ (g o cap : Nat) (cells : Array Value) (t : TypeId) (fz : Nat × Nat),v = .slice (some ⟨g,o,none⟩) rows.length cap /\ (rows.length <= cap /\ (cap : Int) <= 9223372036854775807) /\ F g /\ w.heap[g]? = some (.cells cells t fz) /\ RowsAt cells o sh rows
def SlOw (N : Nat -> Prop) (w : World) (sh : List CK) (e : TypeId) (rows : List (List Int)) (v : Value) : Prop :=
 (v = .slice none 0 0 /\ rows = []) ∨ ∃ (g cap : Nat) (cells : Array Value),v = .slice (some ⟨g,0,none⟩) rows.length cap /\ (rows.length <= cap /\ (cap : Int) <= 9223372036854775807) /\ N g /\ w.heap[g]? = some (.cells cells e (0,0)) /\ RowsAt cells 0 sh rows /\ cells.size = cap * sh.length
def BD.at (F N : Nat -> Prop) (w : World) : BD -> List Int -> Value -> Prop
 | d x,zs,v => v = x.val zs
 | rd sh,zs,v => SlAt F w sh (rOf (zs.getD 0 0)) v
 | ow sh e,zs,v => SlOw N w sh e (rOf (zs.getD 0 0)) v
def atL (F N : Nat -> Prop) (w : World) : List BD -> List Int -> List Value -> Prop
 | [],_,[] => True
 | b :: r,zs,v :: vs => b.at F N w zs v /\ atL F N w r (zs.drop b.num) vs
 | _,_,_ => False
def tupV (us : List Value) : Value := match us with | [x] => x | l => .tuple l.toArray
structure BCon where
 f : FuncId
 id : Nat
 args : List BD
 res : List BD
 pre : Nat := 0
def preD : Nat -> List Int -> Prop
 | 0,_ => True
 | p + 1,l => chkD (p + 1) l
def preM : Nat -> List Lin -> T -> T
 | 0,_,r => r
 | p + 1,ls,r => .chk (p + 1) ls r
def preA : Nat -> List Lin -> T -> T
 | 0,_,r => r
 | p + 1,ls,r => .asm (p + 1) ls r
theorem preM_holds {S : Nat -> List Int -> List Int -> Prop} {L : V -> Env -> Prop} {A : Again} {ρ : Env} {p : Nat} {ls : List Lin} {r : T} (h : (preM p ls r).holds S L A ρ) : preD p (ls.map (·.den ρ)) /\ r.holds S L A ρ := by
 cases p with
 | zero => exact ⟨trivial,h⟩
 | succ p => exact h
theorem preA_holds {S : Nat -> List Int -> List Int -> Prop} {L : V -> Env -> Prop} {A : Again} {ρ : Env} {p : Nat} {ls : List Lin} {r : T} (h : (preA p ls r).holds S L A ρ) (hp : preD p (ls.map (·.den ρ))) : r.holds S L A ρ := by
 cases p with
 | zero => exact h
 | succ p => exact h hp
def BCon.Ok (P : Program) (wb : World) (c : BCon) (spec : List Int -> List Int -> Prop) : Prop :=
 (∀ args w,(callFunc c.f args).run P w = .ok (.enter c.f args) w) /\
 ∀ (F : Nat -> Prop) (w : World) (vs : List Value) (zs : List Int),wb.Extends w -> inB (bbds c.args) zs -> preD c.pre zs -> atL F (fun _ => False) w c.args zs vs ->
  Calls P c.f vs.toArray w fun e w' => w.Extends w' /\ ∃ rs us,inB (bbds c.res) rs /\ spec zs rs /\ atL (fun g => F g ∨ w.heap.size <= g) (fun g => w.heap.size <= g) w' c.res rs us /\ e = .returned (tupV us)
noncomputable def argE : List BD -> Nat -> Nat -> List W -> List Blk -> (Nat -> List W -> List Blk -> T) -> T
 | [],_,n,us,bl,k => k n us bl
 | .d x :: r,s,n,us,bl,k => argE r (s + x.num) n (us ++ [x.sym s]) bl k
 | .rd sh :: r,s,n,us,bl,k => .nat n (.unk (n + 1) (-1) 9223372036854775807 (.fn (n + 2) 20 [.var s] 0 9223372036854775807
  (argE r (s + 1) (n + 3) (us ++ [.one (.sl bl.length sh.length (.var n) (.const 0) (.var (n + 2)) (.var (n + 1)))]) (bl ++ [([.rows sh (.var n) (.var s) (.var (n + 1)) 1],(0,false))]) k)))
 | .ow sh e :: r,s,n,us,bl,k => .unk n (-1) 9223372036854775807 (.fn (n + 1) 20 [.var s] 0 9223372036854775807
  (argE r (s + 1) (n + 2) (us ++ [.one (.sl bl.length sh.length (.const 0) (.const 0) (.var (n + 1)) (.var n))]) (bl ++ [([.rows sh (.const 0) (.var s) (.var n) 2],(e,false))]) k))
section
variable {S : Nat -> List Int -> List Int -> Prop} {L : V -> Env -> Prop} {w0 : Base} {P : Program} {gl : Glo} {cal : Cal}
theorem At.agree {ρ ρ' : Env} {s n : Nat} {zs : List Int} (h : At ρ s zs) (ha : agree n ρ ρ') (hn : s + zs.length <= n) : At ρ' s zs := fun j hj => by rw [ha (s + j) (by omega)]; exact h j hj
theorem upd_lt {ρ : Env} {n i : Nat} {z : Int} (h : i < n) : upd ρ n z i = ρ i := upd_ne ρ z (by omega)
theorem argE_ok {F N : Nat -> Prop} (hF : ∀ g,F g -> w0.ex g ∨ w0.ro g ∨ w0.r.heap.size <= g) (hN : ∀ g,N g -> w0.b.heap.size <= g /\ w0.r.heap.size <= g) : ∀ {l : List BD} {s n : Nat} {us : List W} {bl : List Blk} {k : Nat -> List W -> List Blk -> T} {G : Again} {ρ : Env} {m : Nat -> Nat} {w : World} {zs : List Int} {vals : List Value},
 bdOk l = true -> BlOk n bl.length ρ bl -> Mem w0 ρ m bl w -> At ρ s zs -> inB (bbds l) zs -> s + (bbds l).length <= n -> atL F N w l zs vals ->
 ((l.all fun b => !b.isRd) = true ∨ ∀ (i : Nat) (p : Blk),bl[i]? = some p -> F (m i) -> kindC ρ p.1 <= 1) -> ((l.all fun b => !b.isOw) = true ∨ ∀ (i : Nat) (p : Blk),bl[i]? = some p -> N (m i) -> kindC ρ p.1 = 0) ->
 (∀ u ∈ us,W.ok n bl.length ρ u) ->
 (argE l s n us bl k).holds S L G ρ -> ∃ n' ρ' m' us' bl',Later n bl.length ρ m n' (List.length bl') ρ' m' /\ BlOk n' bl'.length ρ' bl' /\ Mem w0 ρ' m' bl' w /\ us'.map (W.den ρ' m') = us.map (W.den ρ m) ++ vals /\ (∀ u ∈ us',W.ok n' bl'.length ρ' u) /\ (k n' us' bl').holds S L G ρ'
 | [],s,n,us,bl,k,G,ρ,m,w,zs,vals,_,hb,hm,_,_,_,hat,_,_,hus,hh => by
  match vals,hat with
  | [],_ => exact ⟨n,ρ,m,us,bl,Later.refl _ _ _ _,hb,hm,by simp,hus,hh⟩
 | .d x :: r,s,n,us,bl,k,G,ρ,m,w,zs,vals,hok,hb,hm,hA,hz,hn,hat,h1,h2,hus,hh => by
  match vals,hat with
  | v :: vs,hat =>
   obtain ⟨hv,hat⟩ := hat
   have hv : v = x.val zs := hv
   simp only [bbds,BD.bds] at hz hn
   simp only [List.length_append] at hn
   obtain ⟨i1,i2⟩ := inB_split hz
   rw [D.bds_len] at i1 i2 hn
   have hs := D.sym_spec (ρ := ρ) (m := m) (N := n) (nb := bl.length) x i1 hA (by omega)
   obtain ⟨n',ρ',m',us',bl',g1,g2,g3,g4,g5,g6⟩ := argE_ok hF hN (l := r) (s := s + x.num) (us := us ++ [x.sym s]) (zs := zs.drop x.num) hok hb hm (hA.drop x.num) i2 (by omega) hat (by
    rcases h1 with h1 | h1
    ·left; simpa [BD.isRd] using h1
    ·exact .inr h1) (by
    rcases h2 with h2 | h2
    ·left; simpa [BD.isOw] using h2
    ·exact .inr h2) (fun u hu => by
    rcases List.mem_append.1 hu with hu | hu
    ·exact hus u hu
    ·simp at hu; subst hu; exact hs.1) hh
   exact ⟨n',ρ',m',us',bl',g1,g2,g3,by rw [g4,List.map_append,hv]; simp [hs.2],g5,g6⟩
 | .rd sh :: r,s,n,us,bl,k,G,ρ,m,w,zs,vals,hok,hb,hm,hA,hz,hn,hat,h1,h2,hus,hh => by
  match vals,hat with
  | v :: vs,hat =>
   obtain ⟨hv,hat⟩ := hat
   match zs,hz with
   | z :: zs,hz =>
    obtain ⟨z1,z2,hz⟩ := hz
    have hv : SlAt F w sh (rOf z) v := hv
    obtain ⟨hA0,hA1⟩ := hA.tail
    have h1 : ∀ (i : Nat) (p : Blk),bl[i]? = some p -> F (m i) -> kindC ρ p.1 <= 1 := by
     rcases h1 with h1 | h1
     ·simp [BD.isRd] at h1
     ·exact h1
    simp only [bbds,BD.bds,List.length_append,List.length_cons,List.length_nil] at hn
    simp only [bdOk,Bool.and_eq_true] at hok
    have hlen : (rOf z).length <= 9223372036854775807 := by
     rcases hv with ⟨_,h⟩ | ⟨_,_,cap,_,_,_,_,⟨h3,h4⟩,_⟩
     ·simp [h]
     ·omega
    have hzl : zs.length = (bbds r).length := inB_len hz
    obtain ⟨g,o,cap,hg1,hg2,hg3,hg4,hg5⟩ : ∃ (g : Nat) (o : Nat) (cap : Int),(-1 <= cap /\ cap <= 9223372036854775807) /\ (cap < 0 -> rOf z = []) /\ (0 <= cap -> ((rOf z).length : Int) <= cap) /\
     (v = if cap < 0 then Value.slice none 0 0 else .slice (some ⟨g,o,none⟩) (rOf z).length cap.toNat) /\
     (0 <= cap -> F g /\ ∃ cells t fz,w.heap[g]? = some (.cells cells t fz) /\ RowsAt cells o sh (rOf z)) := by
     rcases hv with ⟨h3,h4⟩ | ⟨g,o,cap,cells,t,fz,h3,⟨h4,h5⟩,h6,h7,h8⟩
     ·exact ⟨0,0,-1,by omega,fun _ => h4,fun h => by omega,by simp [h3],fun h => by omega⟩
     ·exact ⟨g,o,cap,by omega,fun h => by omega,fun _ => by omega,by rw [if_neg (by omega)]; simpa using h3,fun _ => ⟨h6,cells,t,fz,h7,h8⟩⟩
    have hh3 := hh (o : Int) (by omega) cap hg1.1 hg1.2 (rOf z).length (by omega) (by omega) (by
     simp only [List.map_cons,List.map_nil,fnD,Lin.den_var]
     rw [upd_lt (by omega),upd_lt (by omega),hA0])
    generalize hρ : upd (upd (upd ρ n (o : Int)) (n + 1) cap) (n + 2) ((rOf z).length : Int) = ρ3 at hh3
    have ha : agree n ρ ρ3 := by
     rw [<- hρ]
     intro i hi
     rw [upd_lt (by omega),upd_lt (by omega),upd_lt hi]
    have e0 : ρ3 n = o := by rw [<- hρ,upd_lt (by omega),upd_lt (by omega),upd_same]
    have e1 : ρ3 (n + 1) = cap := by rw [<- hρ,upd_lt (by omega),upd_same]
    have e2 : ρ3 (n + 2) = (rOf z).length := by rw [<- hρ,upd_same]
    have e3 : ρ3 s = z := by rw [ha s (by omega)]; exact hA0
    have hm3 := hm.rho hb ha
    have hb3 := hb.ext ha (show n <= n + 3 by omega) (Nat.le_refl bl.length)
    have hAk : (A.rows sh (.var n) (.var s) (.var (n + 1)) 1).ok (n + 3) bl.length ρ3 := ⟨⟨Lin.sc_var (by omega),Lin.sc_var (by omega),Lin.sc_var (by omega)⟩,by rw [Lin.den_var,e3]; exact ⟨z1,z2⟩,by rw [Lin.den_var,e1]; exact hg1⟩
    have hM := hm3.push (x := ([.rows sh (.var n) (.var s) (.var (n + 1)) 1],(0,false))) (g := g) hb3 (fun y hy => by simp at hy; subst hy; exact hAk) (fun ho => by cases ho) (fun sh' off' code' cap' kind' he => by
     cases he
     intro _
     refine ⟨fun h => by rw [Lin.den_var,e1] at h; rw [Lin.den_var,e3]; exact hg2 h,fun h => ?_⟩
     rw [Lin.den_var,e1] at h
     obtain ⟨hFg,cells,t,fz,k1,k2⟩ := hg5 h
     exact ⟨hF g hFg,cells,t,fz,k1,⟨by rw [Lin.den_var,e0]; omega,by rw [Lin.den_var,Lin.den_var,e0,e3]; exact k2⟩,fun h2 => by omega⟩) (fun i p hi he => by
      by_cases hc : 0 <= cap
      ·refine .inl ⟨?_,?_⟩
       ·rw [kindC_agree (hb _ (List.mem_of_getElem? hi)) ha]
        exact h1 i p hi (by rw [he]; exact (hg5 hc).1)
       ·rw [kindC_rows (by decide) (by rw [Lin.den_var,e1]; exact hc)]; exact Nat.le_refl 1
      ·refine .inr (.inr ?_)
       simp only [kindC,Lin.den_var,e1]
       rw [if_pos (by omega)])
    have hlat : Later n bl.length ρ m (n + 3) (bl ++ [([A.rows sh (.var n) (.var s) (.var (n + 1)) 1],((0 : TypeId),false))]).length ρ3 (updM m bl.length g) := ⟨by omega,ha,by simp,fun b hb => updM_lt hb⟩
    have hbl3 : BlOk (n + 3) (bl ++ [([A.rows sh (.var n) (.var s) (.var (n + 1)) 1],((0 : TypeId),false))]).length ρ3 (bl ++ [([.rows sh (.var n) (.var s) (.var (n + 1)) 1],(0,false))]) := fun p hp a ha' => by
     rcases List.mem_append.1 hp with hp | hp
     ·exact (hb3 p hp a ha').ext (agree.refl _ _) (Nat.le_refl _) (by simp)
     ·simp at hp; subst hp; simp at ha'; subst ha'
      exact hAk.ext (agree.refl _ _) (Nat.le_refl _) (by simp)
    have hu0 : W.ok (n + 3) (bl ++ [([A.rows sh (.var n) (.var s) (.var (n + 1)) 1],((0 : TypeId),false))]).length ρ3 (.one (.sl bl.length sh.length (.var n) (.const 0) (.var (n + 2)) (.var (n + 1)))) := by
     refine ⟨by simp,⟨Lin.sc_var (by omega),Lin.sc_const _ _,Lin.sc_var (by omega),Lin.sc_var (by omega)⟩,?_⟩
     simp only [Lin.den_var,Lin.den_const,e0,e1,e2]
     exact ⟨by omega,by omega,fun h => by rw [hg2 h]; rfl,hg3⟩
    obtain ⟨n',ρ',m',us',bl',g1,g2,g3,g4,g5,g6⟩ := argE_ok hF hN (l := r) (s := s + 1) (us := us ++ [.one (.sl bl.length sh.length (.var n) (.const 0) (.var (n + 2)) (.var (n + 1)))]) (zs := zs) (vals := vs) hok.2 hbl3 hM (hA1.agree ha (by omega)) hz (by omega) hat (.inr fun i p hi hf => by
     rw [List.getElem?_append] at hi
     split at hi
     ·rename_i hil
      rw [updM_lt hil] at hf
      rw [kindC_agree (hb _ (List.mem_of_getElem? hi)) ha]
      exact h1 i p hi hf
     ·have : i = bl.length := by
       have := (List.getElem?_eq_some_iff.1 hi).1
       simp at this; omega
      subst this
      simp at hi
      subst hi
      simp only [kindC]; split <;> omega) (.inl hok.1) (fun u hu => by
     rcases List.mem_append.1 hu with hu | hu
     ·exact (hus u hu).ext ha (by omega) (by simp)
     ·simp at hu; subst hu; exact hu0) hh3
    refine ⟨n',ρ',m',us',bl',hlat.trans g1,g2,g3,?_,g5,g6⟩
    rw [g4,List.map_append,List.append_assoc]
    congr 1
    ·exact List.map_congr_left fun u hu => W.den_ext (hus u hu) ha (fun b hb => updM_lt hb)
    ·simp only [List.map_cons,List.map_nil,List.cons_append,List.nil_append,W.den,A.den,Lin.den_var,Lin.den_const,e0,e1,e2,updM_same]
     rw [hg4]
     simp
 | .ow sh e :: r,s,n,us,bl,k,G,ρ,m,w,zs,vals,hok,hb,hm,hA,hz,hn,hat,h1,h2,hus,hh => by
  match vals,hat with
  | v :: vs,hat =>
   obtain ⟨hv,hat⟩ := hat
   match zs,hz with
   | z :: zs,hz =>
    obtain ⟨z1,z2,hz⟩ := hz
    have hv : SlOw N w sh e (rOf z) v := hv
    obtain ⟨hA0,hA1⟩ := hA.tail
    simp only [bbds,BD.bds,List.length_append,List.length_cons,List.length_nil] at hn
    simp only [bdOk,Bool.and_eq_true] at hok
    have h2 : ∀ (i : Nat) (p : Blk),bl[i]? = some p -> N (m i) -> kindC ρ p.1 = 0 := by
     rcases h2 with h2 | h2
     ·simp [BD.isOw] at h2
     ·exact h2
    have hlen : (rOf z).length <= 9223372036854775807 := by
     rcases hv with ⟨_,h⟩ | ⟨_,cap,_,_,⟨h3,h4⟩,_⟩
     ·simp [h]
     ·omega
    have hzl : zs.length = (bbds r).length := inB_len hz
    obtain ⟨g,cap,hg1,hg2,hg3,hg4,hg5⟩ : ∃ (g : Nat) (cap : Int),(-1 <= cap /\ cap <= 9223372036854775807) /\ (cap < 0 -> rOf z = []) /\ (0 <= cap -> ((rOf z).length : Int) <= cap) /\
     (v = if cap < 0 then Value.slice none 0 0 else .slice (some ⟨g,0,none⟩) (rOf z).length cap.toNat) /\
     (0 <= cap -> N g /\ ∃ cells,w.heap[g]? = some (.cells cells e (0,0)) /\ RowsAt cells 0 sh (rOf z) /\ cells.size = cap.toNat * sh.length) := by
     rcases hv with ⟨h3,h4⟩ | ⟨g,cap,cells,h3,⟨h4,h5⟩,h6,h7,h8,h9⟩
     ·exact ⟨0,-1,by omega,fun _ => h4,fun h => by omega,by simp [h3],fun h => by omega⟩
     ·exact ⟨g,cap,by omega,fun h => by omega,fun _ => by omega,by rw [if_neg (by omega)]; simpa using h3,fun _ => ⟨h6,cells,h7,h8,by simpa using h9⟩⟩
    have hh3 := hh cap hg1.1 hg1.2 (rOf z).length (by omega) (by omega) (by
     simp only [List.map_cons,List.map_nil,fnD,Lin.den_var]
     rw [upd_lt (by omega),hA0])
    generalize hρ : upd (upd ρ n cap) (n + 1) ((rOf z).length : Int) = ρ3 at hh3
    have ha : agree n ρ ρ3 := by
     rw [<- hρ]
     intro i hi
     rw [upd_lt (by omega),upd_lt hi]
    have e1 : ρ3 n = cap := by rw [<- hρ,upd_lt (by omega),upd_same]
    have e2 : ρ3 (n + 1) = (rOf z).length := by rw [<- hρ,upd_same]
    have e3 : ρ3 s = z := by rw [ha s (by omega)]; exact hA0
    have hm3 := hm.rho hb ha
    have hb3 := hb.ext ha (show n <= n + 2 by omega) (Nat.le_refl bl.length)
    have hAk : (A.rows sh (.const 0) (.var s) (.var n) 2).ok (n + 2) bl.length ρ3 := ⟨⟨Lin.sc_const _ _,Lin.sc_var (by omega),Lin.sc_var (by omega)⟩,by rw [Lin.den_var,e3]; exact ⟨z1,z2⟩,by rw [Lin.den_var,e1]; exact hg1⟩
    have hM := hm3.push (x := ([.rows sh (.const 0) (.var s) (.var n) 2],(e,false))) (g := g) hb3 (fun y hy => by simp at hy; subst hy; exact hAk) (fun ho => by cases ho) (fun sh' off' code' cap' kind' he => by
     cases he
     intro _
     refine ⟨fun h => by rw [Lin.den_var,e1] at h; rw [Lin.den_var,e3]; exact hg2 h,fun h => ?_⟩
     rw [Lin.den_var,e1] at h
     obtain ⟨hNg,cells,k1,k2,k3⟩ := hg5 h
     have hn2 := hN g hNg
     exact ⟨.inr (.inr hn2.2),cells,e,(0,0),k1,⟨by rw [Lin.den_const]; exact Int.le_refl _,by rw [Lin.den_const,Lin.den_var,e3]; exact k2⟩,fun _ => ⟨rfl,Lin.den_const _ _,.mk2,by rw [Lin.den_var,e1]; exact k3,hn2.1,.inr hn2.2⟩⟩) (fun i p hi he => by
      by_cases hc : 0 <= cap
      ·refine .inr (.inl ?_)
       rw [kindC_agree (hb _ (List.mem_of_getElem? hi)) ha]
       exact h2 i p hi (by rw [he]; exact (hg5 hc).1)
      ·refine .inr (.inr ?_)
       simp only [kindC,Lin.den_var,e1]
       rw [if_pos (by omega)])
    have hlat : Later n bl.length ρ m (n + 2) (bl ++ [([A.rows sh (.const 0) (.var s) (.var n) 2],(e,false))]).length ρ3 (updM m bl.length g) := ⟨by omega,ha,by simp,fun b hb => updM_lt hb⟩
    have hbl3 : BlOk (n + 2) (bl ++ [([A.rows sh (.const 0) (.var s) (.var n) 2],(e,false))]).length ρ3 (bl ++ [([.rows sh (.const 0) (.var s) (.var n) 2],(e,false))]) := fun p hp a ha' => by
     rcases List.mem_append.1 hp with hp | hp
     ·exact (hb3 p hp a ha').ext (agree.refl _ _) (Nat.le_refl _) (by simp)
     ·simp at hp; subst hp; simp at ha'; subst ha'
      exact hAk.ext (agree.refl _ _) (Nat.le_refl _) (by simp)
    have hu0 : W.ok (n + 2) (bl ++ [([A.rows sh (.const 0) (.var s) (.var n) 2],(e,false))]).length ρ3 (.one (.sl bl.length sh.length (.const 0) (.const 0) (.var (n + 1)) (.var n))) := by
     refine ⟨by simp,⟨Lin.sc_const _ _,Lin.sc_const _ _,Lin.sc_var (by omega),Lin.sc_var (by omega)⟩,?_⟩
     simp only [Lin.den_var,Lin.den_const,e1,e2]
     exact ⟨by omega,by omega,fun h => by rw [hg2 h]; rfl,hg3⟩
    obtain ⟨n',ρ',m',us',bl',g1,g2,g3,g4,g5,g6⟩ := argE_plain (w0 := w0) (l := r) (s := s + 1) (us := us ++ [.one (.sl bl.length sh.length (.const 0) (.const 0) (.var (n + 1)) (.var n))]) (zs := zs) (vals := vs) hok.1 hbl3 hM (hA1.agree ha (by omega)) hz (by omega) hat (fun u hu => by
     rcases List.mem_append.1 hu with hu | hu
     ·exact (hus u hu).ext ha (by omega) (by simp)
     ·simp at hu; subst hu; exact hu0) hh3
    refine ⟨n',ρ',m',us',bl',hlat.trans g1,g2,g3,?_,g5,g6⟩
    rw [g4,List.map_append,List.append_assoc]
    congr 1
    ·exact List.map_congr_left fun u hu => W.den_ext (hus u hu) ha (fun b hb => updM_lt hb)
    ·simp only [List.map_cons,List.map_nil,List.cons_append,List.nil_append,W.den,A.den,Lin.den_var,Lin.den_const,e1,e2,updM_same]
     rw [hg4]
     simp
where
 argE_plain {w0 : Base} {F N : Nat -> Prop} : ∀ {l : List BD} {s n : Nat} {us : List W} {bl : List Blk} {k : Nat -> List W -> List Blk -> T} {G : Again} {ρ : Env} {m : Nat -> Nat} {w : World} {zs : List Int} {vals : List Value},
  (l.all BD.isD) = true -> BlOk n bl.length ρ bl -> Mem w0 ρ m bl w -> At ρ s zs -> inB (bbds l) zs -> s + (bbds l).length <= n -> atL F N w l zs vals ->
  (∀ u ∈ us,W.ok n bl.length ρ u) ->
  (argE l s n us bl k).holds S L G ρ -> ∃ n' ρ' m' us' bl',Later n bl.length ρ m n' (List.length bl') ρ' m' /\ BlOk n' bl'.length ρ' bl' /\ Mem w0 ρ' m' bl' w /\ us'.map (W.den ρ' m') = us.map (W.den ρ m) ++ vals /\ (∀ u ∈ us',W.ok n' bl'.length ρ' u) /\ (k n' us' bl').holds S L G ρ'
 | [],s,n,us,bl,k,G,ρ,m,w,zs,vals,_,hb,hm,_,_,_,hat,hus,hh => by
  match vals,hat with
  | [],_ => exact ⟨n,ρ,m,us,bl,Later.refl _ _ _ _,hb,hm,by simp,hus,hh⟩
 | .d x :: r,s,n,us,bl,k,G,ρ,m,w,zs,vals,hok,hb,hm,hA,hz,hn,hat,hus,hh => by
  match vals,hat with
  | v :: vs,hat =>
   obtain ⟨hv,hat⟩ := hat
   have hv : v = x.val zs := hv
   simp only [bbds,BD.bds] at hz hn
   simp only [List.length_append] at hn
   obtain ⟨i1,i2⟩ := inB_split hz
   rw [D.bds_len] at i1 i2 hn
   have hs := D.sym_spec (ρ := ρ) (m := m) (N := n) (nb := bl.length) x i1 hA (by omega)
   obtain ⟨n',ρ',m',us',bl',g1,g2,g3,g4,g5,g6⟩ := argE_plain (l := r) (s := s + x.num) (us := us ++ [x.sym s]) (zs := zs.drop x.num) (by simpa [BD.isD] using hok) hb hm (hA.drop x.num) i2 (by omega) hat (fun u hu => by
    rcases List.mem_append.1 hu with hu | hu
    ·exact hus u hu
    ·simp at hu; subst hu; exact hs.1) hh
   exact ⟨n',ρ',m',us',bl',g1,g2,g3,by rw [g4,List.map_append,hv]; simp [hs.2],g5,g6⟩
 | .rd _ :: _,_,_,_,_,_,_,_,_,_,_,_,hok,_,_,_,_,_,_,_,_ => by simp [BD.isD] at hok
 | .ow _ _ :: _,_,_,_,_,_,_,_,_,_,_,_,hok,_,_,_,_,_,_,_,_ => by simp [BD.isD] at hok
end
end Go.Rx
