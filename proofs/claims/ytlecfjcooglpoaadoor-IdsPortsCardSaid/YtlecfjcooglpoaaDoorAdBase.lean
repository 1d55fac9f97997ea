/- The address seat: what each function says, on texts. -/
import Derived.Test.YtlecfjcooglpoaaDoorRxK
set_option linter.unusedVariables false
set_option linter.unusedSimpArgs false
namespace Go.Ad
open Go Go.Rx
abbrev Tx := List UInt8
def u8 (z : Int) : UInt8 := UInt8.ofNat z.toNat
def b01 (b : Bool) : Int := cond b 1 0
def ltr (p : UInt8 → Bool) (l : Tx) : Tx := l.dropWhile p
def rtr (p : UInt8 → Bool) (l : Tx) : Tx := (l.reverse.dropWhile p).reverse
def trimS (p : UInt8 → Bool) (l : Tx) : Tx := ltr p (rtr p l)
def dd (l : Tx) : Bool := (List.range l.length).any fun i => l.getD i 0 == 46 && l.getD (i + 1) 0 == 46
def isS (c : UInt8) : Bool := Nat.ble 97 c.toNat && Nat.ble c.toNat 122
def isG (c : UInt8) : Bool := Nat.ble 65 c.toNat && Nat.ble c.toNat 90
def isD (c : UInt8) : Bool := Nat.ble 48 c.toNat && Nat.ble c.toNat 57
def signs : Tx := [33, 35, 36, 37, 38, 39, 42, 43, 47, 61, 63, 94, 95, 96, 123, 124, 125, 126, 45]
def inLocal (c : UInt8) : Bool := isS c || isG c || isD c || signs.contains c || c == 46
def edgeH (c : UInt8) : Bool := c == 46 || c == 45
def inHost (c : UInt8) : Bool := isS c || isG c || isD c || edgeH c
def okP (inn edge : UInt8 → Bool) (s : Tx) : Bool := (List.range s.length).all fun i =>
  inn (s.getD i 0) && (!edge (s.getD i 0) || (Nat.blt 0 i && Nat.blt (i + 1) s.length)) && !(s.getD i 0 == 46 && Nat.blt 0 i && s.getD (i - 1) 0 == 46)
def localb (s : Tx) : Bool := Nat.blt 0 s.length && Nat.ble s.length 64 && okP inLocal (· == 46) s
def hostb (s : Tx) : Bool := Nat.blt 0 s.length && Nat.ble s.length 230 && okP inHost edgeH s
def portb (s : Tx) : Bool := Nat.blt 0 s.length && Nat.ble s.length 5 && s.all isD
def cutF (c : Int) (s : Tx) : Tx × Tx × Int := cond (decide (0 ≤ idx c s)) (s.take (idx c s).toNat, s.drop ((idx c s).toNat + 1), 1) (s, [], 0)
def serverb (s : Tx) : Bool := hostb (cutF 58 s).1 && (decide ((cutF 58 s).2.2 = 0) || portb (cutF 58 s).2.1)
def lo (c : UInt8) : UInt8 := cond (isG c) (UInt8.ofNat (c.toNat + 32)) c
def lower (s : Tx) : Tx := s.map lo
def emailT (t : Tx) : Tx × Int :=
  cond (decide (0 ≤ idx 64 t) && Nat.ble t.length 254 && localb (t.take (idx 64 t).toNat) && hostb (t.drop ((idx 64 t).toNat + 1)) && (t.drop ((idx 64 t).toNat + 1)).contains 46) (lower t, 0) ([], 2)
def emailF (s : Tx) : Tx × Int := emailT (trimS (· == 32) s)
def seps : Tx := [32, 45, 46, 40, 41]
def bareF : Tx → Tx → Bool → Option (Tx × Bool)
  | [], d, p => some (d, p)
  | c :: r, d, p => cond (isD c) (bareF r (d ++ [c]) p) (cond (c == 43 && d.isEmpty && !p) (bareF r d true) (cond (seps.contains c) (bareF r d p) none))
/-- Of two letters: the code, and what stands ahead of a number there. -/
def ctry (w : Tx) : Option (Tx × Tx) :=
  cond (w == []) (some ([], [])) (cond (w == [71, 66]) (some ([52, 52], [48])) (cond (w == [85, 83]) (some ([49], [])) (cond (w == [68, 69]) (some ([52, 57], [48])) (cond (w == [70, 82]) (some ([51, 51], [48])) (cond (w == [67, 72]) (some ([52, 49], [48])) none)))))
def phoneN (w code trunk d : Tx) (p : Bool) : Tx := cond (!p && !(w == [])) (code ++ cond (trunk.isPrefixOf d) (d.drop trunk.length) d) d
def phoneE (n : Tx) : Tx × Int := cond (Nat.blt n.length 6 || Nat.blt 15 n.length || n.getD 0 0 == 48) ([], 2) (n, 0)
def phoneF (w s : Tx) : Tx × Int := match ctry w with
  | none => ([], 7)
  | some (code, trunk) => match bareF s [] false with
    | none => ([], 2)
    | some (d, p) => phoneE (phoneN w code trunk d p)
def lessF (a b c d : Tx) : Bool := cond (a == c) (Op.bytesLess b d) (Op.bytesLess a c)

def emailS : Tx := [101, 109, 97, 105, 108]
def msisdnS : Tx := [109, 115, 105, 115, 100, 110]
def mk1 (m : Tx) (p : Tx × Int) : Tx × Tx × Int := cond (decide (p.2 = 0)) (m, p.1, 0) ([], [], p.2)
def makeF (m w : Tx) : Tx × Tx × Int := cond (m == emailS) (mk1 m (emailF w)) (cond (m == msisdnS) (mk1 m (phoneF [] w)) ([], [], 1))
def rightF (m w : Tx) : Bool := decide ((makeF m w).2.2 = 0) && (m == (makeF m w).1) && (w == (makeF m w).2.1)
/-! ### Names -/
def inUser (c : UInt8) : Bool := isS c || isD c || ([46, 95, 61, 47, 43, 45] : Tx).contains c
def inRoom (c : UInt8) : Bool := isS c || isG c || isD c
def partsF (k : UInt8) (s : Tx) : Tx × Tx × Int :=
  cond (Nat.blt 0 s.length && Nat.ble s.length 255 && s.getD 0 0 == k && decide (0 ≤ idx 58 s) && serverb (s.drop ((idx 58 s).toNat + 1))) ((s.take (idx 58 s).toNat).drop 1, s.drop ((idx 58 s).toNat + 1), 1) ([], [], 0)
def nameb (k : UInt8) (inn : UInt8 → Bool) (most : Nat) (s : Tx) : Bool :=
  decide ((partsF k s).2.2 = 1) && Nat.blt 0 (partsF k s).1.length && Nat.ble (partsF k s).1.length most && (partsF k s).1.all inn
def userb (s : Tx) : Bool := nameb 64 inUser 200 s
def roomb (s : Tx) : Bool := nameb 33 inRoom 64 s
def splitF (s : Tx) : Tx × Tx × Int := cond (userb s || roomb s) ((s.take (idx 58 s).toNat).drop 1, s.drop ((idx 58 s).toNat + 1), 0) ([], [], 2)
/-! ### Bytes as letters -/
def al64 : Tx := [65, 66, 67, 68, 69, 70, 71, 72, 73, 74, 75, 76, 77, 78, 79, 80, 81, 82, 83, 84, 85, 86, 87, 88, 89, 90, 97, 98, 99, 100, 101, 102, 103, 104, 105, 106, 107, 108, 109, 110, 111, 112, 113, 114, 115, 116, 117, 118, 119, 120, 121, 122, 48, 49, 50, 51, 52, 53, 54, 55, 56, 57, 45, 95]
def vb (c : UInt8) : Int := idx (c.toNat : Int) al64
def lt64 (n : Nat) : UInt8 := al64.getD n 0
def penc : Tx → Tx
  | [] => []
  | [a] => [lt64 (a.toNat / 4), lt64 (a.toNat % 4 * 16)]
  | [a, b] => [lt64 (a.toNat / 4), lt64 (a.toNat % 4 * 16 + b.toNat / 16), lt64 (b.toNat % 16 * 4)]
  | a :: b :: c :: r => lt64 (a.toNat / 4) :: lt64 (a.toNat % 4 * 16 + b.toNat / 16) :: lt64 (b.toNat % 16 * 4 + c.toNat / 64) :: lt64 (c.toNat % 64) :: penc r
def dv (a b c d : Int) : Int := 262144 * a + (4096 * b + (64 * c + d))
def pdec : Tx → Tx → Option Tx
  | out, [] => some out
  | _, [_] => none
  | out, [a, b] => cond (decide (0 ≤ vb a) && decide (0 ≤ vb b) && decide (dv (vb a) (vb b) 0 0 % 65536 = 0)) (some (out ++ [u8 (dv (vb a) (vb b) 0 0 / 65536)])) none
  | out, [a, b, c] => cond (decide (0 ≤ vb a) && decide (0 ≤ vb b) && decide (0 ≤ vb c) && decide (dv (vb a) (vb b) (vb c) 0 % 256 = 0)) (some (out ++ [u8 (dv (vb a) (vb b) (vb c) 0 / 65536)] ++ [u8 (dv (vb a) (vb b) (vb c) 0 / 256 % 256)])) none
  | out, a :: b :: c :: d :: r => cond (decide (0 ≤ vb a) && decide (0 ≤ vb b) && decide (0 ≤ vb c) && decide (0 ≤ vb d)) (pdec (out ++ [u8 (dv (vb a) (vb b) (vb c) (vb d) / 65536)] ++ [u8 (dv (vb a) (vb b) (vb c) (vb d) / 256 % 256)] ++ [u8 (dv (vb a) (vb b) (vb c) (vb d) % 256)]) r) none
def bytesR (r : Int) : Tx := (rOf r).map fun row => UInt8.ofNat (row.getD 0 0).toNat
def eventb (s : Tx) : Bool := decide (s.length = 44) && s.getD 0 0 == 36 && (pdec [] (s.drop 1)).isSome
/-- What each function says. -/
def SB : Nat → List (List Int) → List (List Int) → Prop
  | 73, [[z], [b]], [[r]] => r = idx b (sOf z)
  | 36, [[z], [b]], [[r]] => sOf r = ltr (· == u8 b) (sOf z)
  | 37, [[z], [b]], [[r]] => sOf r = rtr (· == u8 b) (sOf z)
  | 120, [[z]], [[r]] => sOf r = trimS (· == 32) (sOf z)
  | 121, [[z]], [[r]] => sOf r = trimS (· == 46) (sOf z)
  | 122, [[z]], [[r]] => sOf r = trimS edgeH (sOf z)
  | 123, [[z]], [[r]] => sOf r = trimS inHost (sOf z)
  | 124, [[z]], [[r]] => sOf r = trimS isD (sOf z)
  | 125, [[z]], [[a], [b], [c]] => (sOf a, sOf b, c) = cutF 64 (sOf z)
  | 126, [[z]], [[a], [b], [c]] => (sOf a, sOf b, c) = cutF 58 (sOf z)
  | 127, [[z]], [[r]] => r = b01 ((sOf z).contains 46)
  | 128, [[z]], [[r]] => r = b01 (dd (sOf z))
  | 44, [[s], [b]], [[r]] => r = b01 ((sOf s).all fun c => (sOf b).contains c)
  | 65, [[s], [b]], [[r]] => r = b01 ((sOf s).all fun c => (sOf b).contains c)
  | 28, [[z]], [[r]] => sOf r = lower (sOf z)
  | 17, [[z]], [[r]] => sOf r = lower (sOf z)
  | 31, [[z], [c]], [[r]] => r = b01 ((sOf z).contains (u8 c))
  | 47, [[z]], [[r]] => r = b01 (hostb (sOf z))
  | 30, [[z]], [[r]] => r = b01 (hostb (sOf z))
  | 27, [[z]], [[r]] => r = b01 (serverb (sOf z))
  | 24, [[z]], [[r]] => r = b01 (localb (sOf z))
  | 29, [[z]], [[r]] => r = b01 (localb (sOf z))
  | 50, [[c]], [[r]] => r = b01 (isS (u8 c))
  | 51, [[c]], [[r]] => r = b01 (isG (u8 c))
  | 52, [[c]], [[r]] => r = b01 (isD (u8 c))
  | 10, [[z]], [[a], [e]] => (sOf a, e) = emailF (sOf z)
  | 11, [[z]], [[a], [e]] => (sOf a, e) = emailF (sOf z)
  | 35, [[w]], [[c], [t], [o]] => match ctry (sOf w) with
    | some (code, trunk) => sOf c = code ∧ t = b01 (!trunk.isEmpty) ∧ o = 1
    | none => sOf c = [] ∧ t = 0 ∧ o = 0
  | 32, [[w]], [[c, t], [o]] => match ctry (sOf w) with
    | some (code, trunk) => sOf c = code ∧ sOf t = trunk ∧ o = 1
    | none => o = 0 ∧ sOf c = [] ∧ sOf t = []
  | 33, [[s]], [[d], [p], [o]] => match bareF (sOf s) [] false with
    | some (d', p') => sOf d = d' ∧ p = b01 p' ∧ o = 1
    | none => sOf d = [] ∧ p = 0 ∧ o = 0
  | 34, [[s], [t]], [[r]] => sOf r = cond ((sOf t).isPrefixOf (sOf s)) ((sOf s).drop (sOf t).length) (sOf s)
  | 12, [[w], [s]], [[a], [e]] => (sOf a, e) = phoneF (sOf w) (sOf s)
  | 13, [[w], [s]], [[a], [e]] => (sOf a, e) = phoneF (sOf w) (sOf s)
  | 14, [[a, b], [c, d]], [[r]] => r = b01 (lessF (sOf a) (sOf b) (sOf c) (sOf d))
  | 21, [[a, b], [c, d]], [[r]] => r = b01 (lessF (sOf a) (sOf b) (sOf c) (sOf d))
  | 15, [[m], [w]], [[a, b], [e]] => (sOf a, sOf b, e) = makeF (sOf m) (sOf w)
  | 18, [[m], [w]], [[a, b], [e]] => (sOf a, sOf b, e) = makeF (sOf m) (sOf w)
  | 16, [[m, w]], [[r]] => r = b01 (rightF (sOf m) (sOf w))
  | 19, [[m, w]], [[r]] => r = b01 (rightF (sOf m) (sOf w))
  | 20, [[m, w]], [[r]] => sOf r = sOf m ++ [32] ++ sOf w
  | 202, [[z]], [[r]] => sOf r = trimS inUser (sOf z)
  | 203, [[z]], [[r]] => sOf r = trimS inRoom (sOf z)
  | 200, [[z]], [[r]] => r = b01 (userb (sOf z))
  | 207, [[z]], [[r]] => r = b01 (userb (sOf z))
  | 201, [[z]], [[r]] => r = b01 (roomb (sOf z))
  | 208, [[z]], [[r]] => r = b01 (roomb (sOf z))
  | 204, [[z]], [[r]] => r = idx 58 (sOf z)
  | 205, [[z]], [[r]] => r = b01 (serverb (sOf z))
  | 206, [[z], [k]], [[a], [b], [c]] => (sOf a, sOf b, c) = partsF (u8 k) (sOf z)
  | 211, [[z], [k]], [[a], [b], [c]] => (sOf a, sOf b, c) = partsF (u8 k) (sOf z)
  | 209, [[z]], [[a], [b], [e]] => (sOf a, sOf b, e) = splitF (sOf z)
  | 210, [[z]], [[a], [b], [e]] => (sOf a, sOf b, e) = splitF (sOf z)
  | 220, [[z]], [[r], [e]] => match pdec [] (sOf z) with
    | some l => bytesR r = l ∧ e = 0
    | none => bytesR r = [] ∧ e = 2
  | 221, [[z]], [[r], [e]] => match pdec [] (sOf z) with
    | some l => bytesR r = l ∧ e = 0
    | none => bytesR r = [] ∧ e = 2
  | 222, [[r]], [[z]] => sOf z = penc (bytesR r)
  | 225, [[r]], [[z]] => sOf z = penc (bytesR r)
  | 223, [[z]], [[r]] => r = b01 (eventb (sOf z))
  | 224, [[z]], [[r]] => r = b01 (eventb (sOf z))
  | 230, [[c]], [[r]] => r = idx c al64
  | 226, [], [[r]] => r = 1
  | 227, [_], [[r]] => r = 1
  | 228, [_], [[r]] => r = 1
  | 229, [_, _], [[r]] => r = 1
  | 9, [], [[r]] => r = 1
  | 3, [_], [[r]] => r = 1
  | 4, [_, _], [[r]] => r = 1
  | 5, [_], [[r]] => r = 1
  | 6, [_, _, _], [[r]] => r = 1
  | 7, [_, _], [[r]] => r = 1
  | 8, [_, _], [[r]] => r = 1
  | _, _, _ => False
/-! ### Texts -/
theorem getD_drop (l : Tx) (a i : Nat) : (l.drop a).getD i 0 = l.getD (a + i) 0 := by simp [List.getD]
theorem ofNat_toNat (b : UInt8) : UInt8.ofNat b.toNat = b := by simp
theorem u8_of (b : UInt8) : u8 (b.toNat : Int) = b := by simp [u8]
theorem u8_eq {b : UInt8} {z : Int} (h0 : 0 ≤ z) (h1 : z ≤ 255) : ((b.toNat : Int) = z) ↔ (b == u8 z) = true := by
  rw [beq_iff_eq, ← UInt8.toNat_inj]
  unfold u8
  simp
  omega
theorem idx_nil (c : Int) : idx c [] = -1 := rfl
theorem idx_cases {c : Int} (h0 : 0 ≤ c) (h1 : c ≤ 255) : ∀ l : Tx, (idx c l = -1 ∧ u8 c ∉ l) ∨ (0 ≤ idx c l ∧ (idx c l).toNat < l.length ∧ l.getD (idx c l).toNat 0 = u8 c ∧ u8 c ∈ l ∧ ∀ j, j < (idx c l).toNat → l.getD j 0 ≠ u8 c)
  | [] => .inl ⟨rfl, by simp⟩
  | b :: r => by
    have hb := u8_eq (b := b) h0 h1
    have ih := idx_cases h0 h1 r
    by_cases he : (b.toNat : Int) = c
    · have hb' : b = u8 c := by simpa using hb.1 he
      right
      have : idx c (b :: r) = 0 := by simp [idx, he]
      rw [this]
      refine ⟨Int.le_refl _, by simp, by simp [hb'], by simp [hb'], fun j hj => by simp at hj⟩
    · have hb' : ¬ b = u8 c := fun e => he (hb.2 (by simpa using e))
      rcases ih with ⟨h2, h3⟩ | ⟨h2, h3, h4, h5, h6⟩
      · left
        exact ⟨by simp [idx, he, h2], by simp [h3]; exact fun e => hb' e.symm⟩
      · right
        have e : idx c (b :: r) = idx c r + 1 := by
          show (if (b.toNat : Int) = c then 0 else if idx c r < 0 then -1 else idx c r + 1) = _
          rw [if_neg he, if_neg (by omega)]
        have et : (idx c (b :: r)).toNat = (idx c r).toNat + 1 := by omega
        rw [et]
        refine ⟨by omega, by simp; omega, by simpa using h4, by simp [h5], fun j hj => ?_⟩
        cases j with
        | zero => simpa using hb'
        | succ j => simpa using h6 j (by omega)
theorem idx_mem {c : Int} (h0 : 0 ≤ c) (h1 : c ≤ 255) (l : Tx) : decide (0 ≤ idx c l) = l.contains (u8 c) := by
  rcases idx_cases h0 h1 l with ⟨h2, h3⟩ | ⟨h2, _, _, h3, _⟩
  · rw [h2]; simp [h3]
  · simp [h2, h3]
theorem b01_bd (b : Bool) : 0 ≤ b01 b ∧ b01 b ≤ 1 := by cases b <;> decide
theorem b01_one (b : Bool) : decide (b01 b = 1) = b := by cases b <;> rfl
theorem cond_b01 (b : Bool) : (cond b 1 0 : Int) = b01 b := rfl
theorem byte_at (l : Tx) (i : Nat) : ((l.getD i 0).toNat : Int) ≤ 255 := by have := (l.getD i 0).toNat_lt; omega
theorem u8_toNat {z : Int} (h0 : 0 ≤ z) (h1 : z ≤ 255) : ((u8 z).toNat : Int) = z := by unfold u8; simp; omega
theorem take_succ_getD (l : Tx) (i : Nat) (h : i < l.length) : l.take (i + 1) = l.take i ++ [l.getD i 0] := by
  rw [List.take_add_one]; simp [List.getD, h]
theorem drop_cons_getD (l : Tx) (i : Nat) (h : i < l.length) : l.drop i = l.getD i 0 :: l.drop (i + 1) := by
  rw [List.drop_eq_getElem_cons h]; simp [List.getD, h]
theorem len_lt {z : Int} (h : z ≤ HB) : ((sOf z).length : Int) ≤ 9223372036854775807 := by
  have := HB_s h; unfold mxL at this; omega
theorem rtr_snoc (p : UInt8 → Bool) (l : Tx) (x : UInt8) : rtr p (l ++ [x]) = cond (p x) (rtr p l) (l ++ [x]) := by
  unfold rtr
  simp only [List.reverse_append, List.reverse_cons, List.reverse_nil, List.nil_append, List.singleton_append, List.dropWhile_cons]
  cases p x <;> simp
end Go.Ad
