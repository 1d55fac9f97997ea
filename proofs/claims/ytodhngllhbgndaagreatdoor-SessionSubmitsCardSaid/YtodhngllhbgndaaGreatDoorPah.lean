/- The address seat: what each function says,on texts. -/
import Derived.Test.YtodhngllhbgndaaGreatDoorPag
set_option linter.unusedVariables false
set_option linter.unusedSimpArgs false
namespace Go.Ad
open Go Go.Rx
abbrev Tx := List UInt8
def u8 (z : Int) : UInt8 := UInt8.ofNat z.toNat
def b01 (b : Bool) : Int := cond b 1 0
def ltr (p : UInt8 -> Bool) (l : Tx) : Tx := l.dropWhile p
def rtr (p : UInt8 -> Bool) (l : Tx) : Tx := (l.reverse.dropWhile p).reverse
def trimS (p : UInt8 -> Bool) (l : Tx) : Tx := ltr p (rtr p l)
def dd (l : Tx) : Bool := (List.range l.length).any fun i => l.getD i 0 == 46 && l.getD (i + 1) 0 == 46
def isS (c : UInt8) : Bool := Nat.ble 97 c.toNat && Nat.ble c.toNat 122
def isG (c : UInt8) : Bool := Nat.ble 65 c.toNat && Nat.ble c.toNat 90
def isD (c : UInt8) : Bool := Nat.ble 48 c.toNat && Nat.ble c.toNat 57
def signs : Tx := [33,35,36,37,38,39,42,43,47,61,63,94,95,96,123,124,125,126,45]
def inLocal (c : UInt8) : Bool := isS c || isG c || isD c || signs.contains c || c == 46
def edgeH (c : UInt8) : Bool := c == 46 || c == 45
def inHost (c : UInt8) : Bool := isS c || isG c || isD c || edgeH c
def okP (inn edge : UInt8 -> Bool) (s : Tx) : Bool := (List.range s.length).all fun i =>
 inn (s.getD i 0) && (!edge (s.getD i 0) || (Nat.blt 0 i && Nat.blt (i + 1) s.length)) && !(s.getD i 0 == 46 && Nat.blt 0 i && s.getD (i - 1) 0 == 46)
def localb (s : Tx) : Bool := Nat.blt 0 s.length && Nat.ble s.length 64 && okP inLocal (· == 46) s
def hostb (s : Tx) : Bool := Nat.blt 0 s.length && Nat.ble s.length 230 && okP inHost edgeH s
def portb (s : Tx) : Bool := Nat.blt 0 s.length && Nat.ble s.length 5 && s.all isD
def cutF (c : Int) (s : Tx) : Tx × Tx × Int := cond (decide (0 <= idx c s)) (s.take (idx c s).toNat,s.drop ((idx c s).toNat + 1),1) (s,[],0)
def serverb (s : Tx) : Bool := hostb (cutF 58 s).1 && (decide ((cutF 58 s).2.2 = 0) || portb (cutF 58 s).2.1)
def lo (c : UInt8) : UInt8 := cond (isG c) (UInt8.ofNat (c.toNat + 32)) c
def lower (s : Tx) : Tx := s.map lo
def emailT (t : Tx) : Tx × Int :=
 cond (decide (0 <= idx 64 t) && Nat.ble t.length 254 && localb (t.take (idx 64 t).toNat) && hostb (t.drop ((idx 64 t).toNat + 1)) && (t.drop ((idx 64 t).toNat + 1)).contains 46) (lower t,0) ([],2)
def emailF (s : Tx) : Tx × Int := emailT (trimS (· == 32) s)
def seps : Tx := [32,45,46,40,41]
def bareF : Tx -> Tx -> Bool -> Option (Tx × Bool)
 | [],d,p => some (d,p)
 | c :: r,d,p => cond (isD c) (bareF r (d ++ [c]) p) (cond (c == 43 && d.isEmpty && !p) (bareF r d true) (cond (seps.contains c) (bareF r d p) none))
def ctry (w : Tx) : Option (Tx × Tx) :=
 cond (w == []) (some ([],[])) (cond (w == [71,66]) (some ([52,52],[48])) (cond (w == [85,83]) (some ([49],[])) (cond (w == [68,69]) (some ([52,57],[48])) (cond (w == [70,82]) (some ([51,51],[48])) (cond (w == [67,72]) (some ([52,49],[48])) none)))))
def phoneN (w code trunk d : Tx) (p : Bool) : Tx := cond (!p && !(w == [])) (code ++ cond (trunk.isPrefixOf d) (d.drop trunk.length) d) d
def phoneE (n : Tx) : Tx × Int := cond (Nat.blt n.length 6 || Nat.blt 15 n.length || n.getD 0 0 == 48) ([],2) (n,0)
def phoneF (w s : Tx) : Tx × Int := match ctry w with
 | none => ([],7)
 | some (code,trunk) => match bareF s [] false with
  | none => ([],2)
  | some (d,p) => phoneE (phoneN w code trunk d p)
def lessF (a b c d : Tx) : Bool := cond (a == c) (Op.bytesLess b d) (Op.bytesLess a c)
def emailS : Tx := [101,109,97,105,108]
def msisdnS : Tx := [109,115,105,115,100,110]
def mk1 (m : Tx) (p : Tx × Int) : Tx × Tx × Int := cond (decide (p.2 = 0)) (m,p.1,0) ([],[],p.2)
def makeF (m w : Tx) : Tx × Tx × Int := cond (m == emailS) (mk1 m (emailF w)) (cond (m == msisdnS) (mk1 m (phoneF [] w)) ([],[],1))
def rightF (m w : Tx) : Bool := decide ((makeF m w).2.2 = 0) && (m == (makeF m w).1) && (w == (makeF m w).2.1)
def inUser (c : UInt8) : Bool := isS c || isD c || ([46,95,61,47,43,45] : Tx).contains c
def inRoom (c : UInt8) : Bool := isS c || isG c || isD c
def partsF (k : UInt8) (s : Tx) : Tx × Tx × Int :=
 cond (Nat.blt 0 s.length && Nat.ble s.length 255 && s.getD 0 0 == k && decide (0 <= idx 58 s) && serverb (s.drop ((idx 58 s).toNat + 1))) ((s.take (idx 58 s).toNat).drop 1,s.drop ((idx 58 s).toNat + 1),1) ([],[],0)
def nameb (k : UInt8) (inn : UInt8 -> Bool) (most : Nat) (s : Tx) : Bool :=
 decide ((partsF k s).2.2 = 1) && Nat.blt 0 (partsF k s).1.length && Nat.ble (partsF k s).1.length most && (partsF k s).1.all inn
def userb (s : Tx) : Bool := nameb 64 inUser 200 s
def roomb (s : Tx) : Bool := nameb 33 inRoom 64 s
def splitF (s : Tx) : Tx × Tx × Int := cond (userb s || roomb s) ((s.take (idx 58 s).toNat).drop 1,s.drop ((idx 58 s).toNat + 1),0) ([],[],2)
def al64 : Tx := [65,66,67,68,69,70,71,72,73,74,75,76,77,78,79,80,81,82,83,84,85,86,87,88,89,90,97,98,99,100,101,102,103,104,105,106,107,108,109,110,111,112,113,114,115,116,117,118,119,120,121,122,48,49,50,51,52,53,54,55,56,57,45,95]
def vb (c : UInt8) : Int := idx (c.toNat : Int) al64
def lt64 (n : Nat) : UInt8 := al64.getD n 0
def penc : Tx -> Tx
 | [] => []
 | [a] => [lt64 (a.toNat / 4),lt64 (a.toNat % 4 * 16)]
 | [a,b] => [lt64 (a.toNat / 4),lt64 (a.toNat % 4 * 16 + b.toNat / 16),lt64 (b.toNat % 16 * 4)]
 | a :: b :: c :: r => lt64 (a.toNat / 4) :: lt64 (a.toNat % 4 * 16 + b.toNat / 16) :: lt64 (b.toNat % 16 * 4 + c.toNat / 64) :: lt64 (c.toNat % 64) :: penc r
def dv (a b c d : Int) : Int := 262144 * a + (4096 * b + (64 * c + d))
def pdec : Tx -> Tx -> Option Tx
 | out,[] => some out
 | _,[_] => none
 | out,[a,b] => cond (decide (0 <= vb a) && decide (0 <= vb b) && decide (dv (vb a) (vb b) 0 0 % 65536 = 0)) (some (out ++ [u8 (dv (vb a) (vb b) 0 0 / 65536)])) none
 | out,[a,b,c] => cond (decide (0 <= vb a) && decide (0 <= vb b) && decide (0 <= vb c) && decide (dv (vb a) (vb b) (vb c) 0 % 256 = 0)) (some (out ++ [u8 (dv (vb a) (vb b) (vb c) 0 / 65536)] ++ [u8 (dv (vb a) (vb b) (vb c) 0 / 256 % 256)])) none
 | out,a :: b :: c :: d :: r => cond (decide (0 <= vb a) && decide (0 <= vb b) && decide (0 <= vb c) && decide (0 <= vb d)) (pdec (out ++ [u8 (dv (vb a) (vb b) (vb c) (vb d) / 65536)] ++ [u8 (dv (vb a) (vb b) (vb c) (vb d) / 256 % 256)] ++ [u8 (dv (vb a) (vb b) (vb c) (vb d) % 256)]) r) none
def bytesR (r : Int) : Tx := (rOf r).map fun row => UInt8.ofNat (row.getD 0 0).toNat
def eventb (s : Tx) : Bool := decide (s.length = 44) && s.getD 0 0 == 36 && (pdec [] (s.drop 1)).isSome
abbrev Bd := (Tx × Tx) × Tx × Int
def bd0 : Bd := (([],[]),[],0)
def whoOf (r : List Int) : Tx × Tx := (sOf (r.getD 0 0),sOf (r.getD 1 0))
def bdOf (r : List Int) : Bd := (whoOf r,sOf (r.getD 2 0),r.getD 3 0)
def bds (z : Int) : List Bd := (rOf z).map bdOf
def whos (z : Int) : List (Tx × Tx) := (rOf z).map whoOf
def bOk (b : Bd) : Bool := decide (0 <= b.2.2) && (decide (b.2.2 <= 1099511627776) && (rightF b.1.1 b.1.2 && userb b.2.1))
def lessA (a b : Tx × Tx) : Bool := lessF a.1 a.2 b.1 b.2
def cmpA (a b : Tx × Tx) : Int := cond (a == b) 0 (cond (lessA a b) (-1) 1)
def sortedB : List Bd -> Bool
 | [] => true
 | [_] => true
 | a :: b :: r => lessA a.1 b.1 && sortedB (b :: r)
def rightL (l : List Bd) : Bool := Nat.ble l.length 64 && l.all bOk && sortedB l
def findL (l : List Bd) (w : Tx × Tx) : Option Bd := cond (rightL l) (l.find? (fun b => b.1 == w)) none
def ofL (l : List Bd) (x : Tx) : List (Tx × Tx) := cond (rightL l) ((l.filter (·.2.1 == x)).map (·.1)) []
def bindF (l : List Bd) (w : Bd) : List Bd × Int := cond (bOk w && rightL l) (cond (l.any (·.1 == w.1)) (l.map (fun b => cond (b.1 == w.1) w b),0) (cond (decide (l.length = 64)) (l,10) (l.filter (fun b => lessA b.1 w.1) ++ w :: l.filter (fun b => lessA w.1 b.1),0))) (l,1)
def unbindF (l : List Bd) (w : Bd) : List Bd × Int := cond (rightL l) (match l.find? (·.1 == w.1) with | none => (l,7) | some b => cond (b.2.1 == w.2.1) (l.filter (fun b => !(b.1 == w.1)),0) (l,14)) (l,1)
def PlaceS (l : List Bd) (w : Tx × Tx) (i f : Int) : Prop := (0 <= i /\ i <= l.length) /\ (f = 1 -> i < l.length) /\ (rightL l = true -> (∀ j : Nat,(j : Int) < i -> cmpA (l.getD j bd0).1 w < 0) /\ (∀ j : Nat,i <= j -> j < l.length -> 0 <= cmpA (l.getD j bd0).1 w) /\ (f = 1 ↔ i < l.length /\ cmpA (l.getD i.toNat bd0).1 w = 0))
structure Se where
 id : Int
 sec : Tx
 who : Tx × Tx
 tok : Tx
 att : Int
 since : Int
 wrong : Int
 shown : Int
 shAt : Int
deriving DecidableEq
def se0 : Se := ⟨0,[],([],[]),[],0,0,0,0,0⟩
def seOf (r : List Int) : Se := ⟨r.getD 0 0,sOf (r.getD 1 0),(sOf (r.getD 2 0),sOf (r.getD 3 0)),sOf (r.getD 4 0),r.getD 5 0,r.getD 6 0,r.getD 7 0,r.getD 8 0,r.getD 9 0⟩
def ses (z : Int) : List Se := (rOf z).map seOf
def printF (t : Tx) : Bool := t.all fun c => Nat.ble 32 c.toNat && Nat.ble c.toNat 126
def secF (t : Tx) : Bool := !t.isEmpty && (Nat.ble t.length 64 && (printF t && !t.contains 32))
def timedF (n : Int) : Bool := decide (0 <= n) && decide (n <= 1099511627776)
def seOk (s : Se) : Bool := (decide (1 <= s.id) && decide (s.id <= 1099511627776)) && (timedF s.since && timedF s.shAt) && (decide (1 <= s.att) && decide (s.att <= 1000) && (decide (0 <= s.wrong) && decide (s.wrong <= 3))) && (decide (s.shown = 1) || decide (s.shAt = 0)) && (secF s.sec && (secF s.tok && rightF s.who.1 s.who.2))
def alikeF (a b : Se) : Bool := decide (a.sec = b.sec) && decide (a.who = b.who)
def clashF (x s : Se) : Bool := alikeF x s || (decide (x.tok = s.tok) || decide (s.id <= x.id))
def rightS (l : List Se) : Bool := Nat.ble l.length 16 && (List.range l.length).all fun i => seOk (l.getD i se0) && (l.take i).all fun x => !clashF x (l.getD i se0)
def w64 (x : Int) : Int := (x + 9223372036854775808) % 18446744073709551616 - 9223372036854775808
def oldF (s : Se) (now : Int) : Bool := decide (86400 < w64 (now - s.since))
def pruneF (l : List Se) (now : Int) : List Se := l.filter fun s => !oldF s now
def findS (l : List Se) (id : Int) : Option Se := cond (rightS l) (l.find? fun s => decide (s.id = id)) none
def openF (l : List Se) (now : Int) (w : Se) : Nat × Int := cond (timedF now && rightS l) (match l.findIdx? (fun s => decide (s.id = w.id)) with
 | some i => cond (decide ((l.getD i se0).sec = w.sec) && !oldF (l.getD i se0) now) (i,0) (0,11)
 | none => (0,11)) (0,1)
def shownF (l : List Se) (now : Int) (w : Se) : (Tx × Tx) × Int := cond (decide ((openF l now w).2 = 0)) (cond (decide ((l.getD (openF l now w).1 se0).shown = 1)) ((l.getD (openF l now w).1 se0).who,0) (([],[]),14)) (([],[]),(openF l now w).2)
def submitS (l : List Se) (now : Int) (w : Se) (i : Nat) (s : Se) : List Se × Int := cond (decide (s.wrong = 3)) (l,16) (cond (decide (s.tok = w.tok)) (cond (decide (s.shown = 1)) (l,0) (l.set i { s with shown := 1,shAt := now },0)) (l.set i { s with wrong := s.wrong + 1 },12))
def submitF (l : List Se) (now : Int) (w : Se) : List Se × Int := cond (decide ((openF l now w).2 = 0)) (submitS l now w (openF l now w).1 (l.getD (openF l now w).1 se0)) (l,(openF l now w).2)
def reqA (live : List Se) (w : Se) (i : Nat) (s : Se) : List Se × Int × Int × Int := (live.set i { s with att := max s.att w.att },s.id,b01 (decide (s.att < w.att)),0)
def reqN (l live : List Se) (w : Se) : List Se × Int × Int × Int := cond (live.any (fun s => decide (s.id = w.id)) || live.any (fun s => decide (s.tok = w.tok))) (l,0,0,6) (cond (decide (live.length = 16)) (l,0,0,10) (live.filter (fun s => decide (s.id < w.id)) ++ w :: live.filter (fun s => decide (w.id < s.id)),w.id,1,0))
def reqF (l : List Se) (w : Se) : List Se × Int × Int × Int := cond (seOk w && (decide (w.wrong <= 0) && (!decide (w.shown = 1) && rightS l))) (match (pruneF l w.since).findIdx? (fun s => alikeF s w) with
 | some i => reqA (pruneF l w.since) w i ((pruneF l w.since).getD i se0)
 | none => reqN l (pruneF l w.since) w) (l,0,0,1)
def PlaceN (l : List Se) (n i f : Int) : Prop := (0 <= i /\ i <= l.length) /\ (f = 1 -> i < l.length) /\ (rightS l = true -> (∀ j : Nat,(j : Int) < i -> (l.getD j se0).id < n) /\ (∀ j : Nat,i <= j -> j < l.length -> n <= (l.getD j se0).id) /\ (f = 1 ↔ i < l.length /\ (l.getD i.toNat se0).id = n))
def ask0 : List Int := [5,116,477315081741,437051401625,117,1,100,0,0,0]
def SBe : Nat -> List (List Int) -> List (List Int) -> Prop
 | 400,[[z]],[[r]] => r = b01 (printF (sOf z))
 | 401,[[z]],[[r]] => r = b01 (secF (sOf z))
 | 402,[r],[[z]] => z = b01 (seOk (seOf r))
 | 403,[[z]],[[r]] => r = b01 (rightS (ses z))
 | 404,[[z],[n]],[[i],[f]] => PlaceN (ses z) n i f
 | 417,[r,[n]],[[z]] => z = b01 (oldF (seOf r) n)
 | 405,[[z],[n]],[r,[f]] => match findS (ses z) n with
  | some b => seOf r = b /\ f = 1
  | none => r = [0,0,0,0,0,0,0,0,0,0] /\ f = 0
 | 406,[[z],[n],r],[[i],[e]] => (i,e) = (((openF (ses z) n (seOf r)).1 : Int),(openF (ses z) n (seOf r)).2)
 | 407,[[z],[n],r],[a,[e]] => (whoOf a,e) = shownF (ses z) n (seOf r)
 | 408,[[z],[n],r],[[y],[e]] => (ses y,e) = submitF (ses z) n (seOf r)
 | 409,[[z],[n]],[[y]] => ses y = pruneF (ses z) n
 | 410,[[z],[n]],[[y]] => ses y = cond (timedF n && rightS (ses z)) (pruneF (ses z) n) []
 | 411,[[c],[i],[r]],[[y]] => rOf y = (rOf c).take i.toNat ++ rOf r ++ (rOf c).drop i.toNat
 | 412,[[z],r],[[y],[i],[s],[e]] => (ses y,i,s,e) = reqF (ses z) (seOf r)
 | 416,[[a],[b]],[[r]] => r = b01 (decide (ses a = ses b))
 | 418,[],[r] => r = ask0
 | 413,[],[[r]] => r = 1
 | 414,[_],[[r]] => r = 1
 | 415,[_,_],[[r]] => r = 1
 | 420,[[z]],[[r]] => r = b01 (secF (sOf z))
 | 422,[r],[[z]] => z = b01 (seOk (seOf r))
 | 423,[[z]],[[r]] => r = b01 (rightS (ses z))
 | 424,[[z],[n]],[[y]] => ses y = cond (timedF n && rightS (ses z)) (pruneF (ses z) n) []
 | 425,[[z],[n]],[r,[f]] => match findS (ses z) n with
  | some b => seOf r = b /\ f = 1
  | none => r = [0,0,0,0,0,0,0,0,0,0] /\ f = 0
 | 426,[[z],[n],r],[[i]] => i = match (ses z).findIdx? (fun s => decide (s.id = (seOf r).id) && (decide (s.sec = (seOf r).sec) && !oldF s n)) with
  | some k => (k : Int)
  | none => -1
 | 427,[[z],[n],r],[[y],[e]] => (ses y,e) = submitF (ses z) n (seOf r)
 | 428,[[z],[n],r],[a,[e]] => (whoOf a,e) = shownF (ses z) n (seOf r)
 | 429,[[z],r],[[y],[i],[s],[e]] => (ses y,i,s,e) = reqF (ses z) (seOf r)
 | 430,[_,_],[[r]] => r = 1
 | 431,[_,_,_],[[r]] => r = 1
 | _,_,_ => False
def SBd : Nat -> List (List Int) -> List (List Int) -> Prop
 | 300,[r],[[z]] => z = b01 (bOk (bdOf r))
 | 301,[r,a],[[z]] => z = cmpA (whoOf r) (whoOf a)
 | 302,[[z],a],[[i],[f]] => PlaceS (bds z) (whoOf a) i f
 | 303,[[z]],[[r]] => r = b01 (rightL (bds z))
 | 304,[[z],a],[r,[f]] => match findL (bds z) (whoOf a) with
  | some b => bdOf r = b /\ f = 1
  | none => bdOf r = bd0 /\ f = 0
 | 305,[[z],[x]],[[y]] => whos y = ofL (bds z) (sOf x)
 | 306,[[c],[i],[r]],[[y]] => rOf y = (rOf c).take i.toNat ++ rOf r ++ (rOf c).drop i.toNat
 | 307,[[c],[i],[j]],[[y]] => rOf y = (rOf c).take i.toNat ++ (rOf c).drop j.toNat
 | 308,[[z],r],[[y],[e]] => (bds y,e) = bindF (bds z) (bdOf r)
 | 309,[[z],r],[[y],[e]] => (bds y,e) = unbindF (bds z) (bdOf r)
 | 310,[],[[r]] => r = 1
 | 311,[_,_],[[r]] => r = 1
 | 312,[_],[[r]] => r = 1
 | 320,[r],[[z]] => z = b01 (bOk (bdOf r))
 | 321,[[z]],[[r]] => r = b01 (rightL (bds z))
 | 322,[[z],a],[r,[f]] => match findL (bds z) (whoOf a) with
  | some b => bdOf r = b /\ f = 1
  | none => bdOf r = bd0 /\ f = 0
 | 323,[[z],a],[[y]] => bds y = (bds z).filter (fun b => !(b.1 == whoOf a))
 | 324,[[z],r],[[y],[e]] => (bds y,e) = bindF (bds z) (bdOf r)
 | 325,[[z],r],[[y],[e]] => (bds y,e) = unbindF (bds z) (bdOf r)
 | 326,[[z],[x]],[[y]] => whos y = ofL (bds z) (sOf x)
 | 327,[[a],[b]],[[r]] => r = b01 (decide (bds a = bds b))
 | 328,[[a],[b]],[[r]] => r = b01 (decide (whos a = whos b))
 | 329,[_,_,_],[[r]] => r = 1
 | n,a,b => SBe n a b
def SB : Nat -> List (List Int) -> List (List Int) -> Prop
 | 73,[[z],[b]],[[r]] => r = idx b (sOf z)
 | 36,[[z],[b]],[[r]] => sOf r = ltr (· == u8 b) (sOf z)
 | 37,[[z],[b]],[[r]] => sOf r = rtr (· == u8 b) (sOf z)
 | 120,[[z]],[[r]] => sOf r = trimS (· == 32) (sOf z)
 | 121,[[z]],[[r]] => sOf r = trimS (· == 46) (sOf z)
 | 122,[[z]],[[r]] => sOf r = trimS edgeH (sOf z)
 | 123,[[z]],[[r]] => sOf r = trimS inHost (sOf z)
 | 124,[[z]],[[r]] => sOf r = trimS isD (sOf z)
 | 125,[[z]],[[a],[b],[c]] => (sOf a,sOf b,c) = cutF 64 (sOf z)
 | 126,[[z]],[[a],[b],[c]] => (sOf a,sOf b,c) = cutF 58 (sOf z)
 | 127,[[z]],[[r]] => r = b01 ((sOf z).contains 46)
 | 128,[[z]],[[r]] => r = b01 (dd (sOf z))
 | 44,[[s],[b]],[[r]] => r = b01 ((sOf s).all fun c => (sOf b).contains c)
 | 65,[[s],[b]],[[r]] => r = b01 ((sOf s).all fun c => (sOf b).contains c)
 | 28,[[z]],[[r]] => sOf r = lower (sOf z)
 | 17,[[z]],[[r]] => sOf r = lower (sOf z)
 | 31,[[z],[c]],[[r]] => r = b01 ((sOf z).contains (u8 c))
 | 47,[[z]],[[r]] => r = b01 (hostb (sOf z))
 | 30,[[z]],[[r]] => r = b01 (hostb (sOf z))
 | 27,[[z]],[[r]] => r = b01 (serverb (sOf z))
 | 24,[[z]],[[r]] => r = b01 (localb (sOf z))
 | 29,[[z]],[[r]] => r = b01 (localb (sOf z))
 | 50,[[c]],[[r]] => r = b01 (isS (u8 c))
 | 51,[[c]],[[r]] => r = b01 (isG (u8 c))
 | 52,[[c]],[[r]] => r = b01 (isD (u8 c))
 | 10,[[z]],[[a],[e]] => (sOf a,e) = emailF (sOf z)
 | 11,[[z]],[[a],[e]] => (sOf a,e) = emailF (sOf z)
 | 35,[[w]],[[c],[t],[o]] => match ctry (sOf w) with
  | some (code,trunk) => sOf c = code /\ t = b01 (!trunk.isEmpty) /\ o = 1
  | none => sOf c = [] /\ t = 0 /\ o = 0
 | 32,[[w]],[[c,t],[o]] => match ctry (sOf w) with
  | some (code,trunk) => sOf c = code /\ sOf t = trunk /\ o = 1
  | none => o = 0 /\ sOf c = [] /\ sOf t = []
 | 33,[[s]],[[d],[p],[o]] => match bareF (sOf s) [] false with
  | some (d',p') => sOf d = d' /\ p = b01 p' /\ o = 1
  | none => sOf d = [] /\ p = 0 /\ o = 0
 | 34,[[s],[t]],[[r]] => sOf r = cond ((sOf t).isPrefixOf (sOf s)) ((sOf s).drop (sOf t).length) (sOf s)
 | 12,[[w],[s]],[[a],[e]] => (sOf a,e) = phoneF (sOf w) (sOf s)
 | 13,[[w],[s]],[[a],[e]] => (sOf a,e) = phoneF (sOf w) (sOf s)
 | 14,[[a,b],[c,d]],[[r]] => r = b01 (lessF (sOf a) (sOf b) (sOf c) (sOf d))
 | 21,[[a,b],[c,d]],[[r]] => r = b01 (lessF (sOf a) (sOf b) (sOf c) (sOf d))
 | 15,[[m],[w]],[[a,b],[e]] => (sOf a,sOf b,e) = makeF (sOf m) (sOf w)
 | 18,[[m],[w]],[[a,b],[e]] => (sOf a,sOf b,e) = makeF (sOf m) (sOf w)
 | 16,[[m,w]],[[r]] => r = b01 (rightF (sOf m) (sOf w))
 | 19,[[m,w]],[[r]] => r = b01 (rightF (sOf m) (sOf w))
 | 20,[[m,w]],[[r]] => sOf r = sOf m ++ [32] ++ sOf w
 | 202,[[z]],[[r]] => sOf r = trimS inUser (sOf z)
 | 203,[[z]],[[r]] => sOf r = trimS inRoom (sOf z)
 | 200,[[z]],[[r]] => r = b01 (userb (sOf z))
 | 207,[[z]],[[r]] => r = b01 (userb (sOf z))
 | 201,[[z]],[[r]] => r = b01 (roomb (sOf z))
 | 208,[[z]],[[r]] => r = b01 (roomb (sOf z))
 | 204,[[z]],[[r]] => r = idx 58 (sOf z)
 | 205,[[z]],[[r]] => r = b01 (serverb (sOf z))
 | 206,[[z],[k]],[[a],[b],[c]] => (sOf a,sOf b,c) = partsF (u8 k) (sOf z)
 | 211,[[z],[k]],[[a],[b],[c]] => (sOf a,sOf b,c) = partsF (u8 k) (sOf z)
 | 209,[[z]],[[a],[b],[e]] => (sOf a,sOf b,e) = splitF (sOf z)
 | 210,[[z]],[[a],[b],[e]] => (sOf a,sOf b,e) = splitF (sOf z)
 | 220,[[z]],[[r],[e]] => match pdec [] (sOf z) with
  | some l => bytesR r = l /\ e = 0
  | none => bytesR r = [] /\ e = 2
 | 221,[[z]],[[r],[e]] => match pdec [] (sOf z) with
  | some l => bytesR r = l /\ e = 0
  | none => bytesR r = [] /\ e = 2
 | 222,[[r]],[[z]] => sOf z = penc (bytesR r)
 | 225,[[r]],[[z]] => sOf z = penc (bytesR r)
 | 223,[[z]],[[r]] => r = b01 (eventb (sOf z))
 | 224,[[z]],[[r]] => r = b01 (eventb (sOf z))
 | 230,[[c]],[[r]] => r = idx c al64
 | 226,[],[[r]] => r = 1
 | 227,[_],[[r]] => r = 1
 | 228,[_],[[r]] => r = 1
 | 229,[_,_],[[r]] => r = 1
 | 9,[],[[r]] => r = 1
 | 3,[_],[[r]] => r = 1
 | 4,[_,_],[[r]] => r = 1
 | 5,[_],[[r]] => r = 1
 | 6,[_,_,_],[[r]] => r = 1
 | 7,[_,_],[[r]] => r = 1
 | 8,[_,_],[[r]] => r = 1
 | n,a,b => SBd n a b
theorem u8_of (b : UInt8) : u8 (b.toNat : Int) = b := by simp [u8]
theorem u8_eq {b : UInt8} {z : Int} (h0 : 0 <= z) (h1 : z <= 255) : ((b.toNat : Int) = z) ↔ (b == u8 z) = true := by
 rw [beq_iff_eq,<- UInt8.toNat_inj]
 unfold u8
 simp
 omega
theorem idx_cases {c : Int} (h0 : 0 <= c) (h1 : c <= 255) : ∀ l : Tx,(idx c l = -1 /\ u8 c ∉ l) ∨ (0 <= idx c l /\ (idx c l).toNat < l.length /\ l.getD (idx c l).toNat 0 = u8 c /\ u8 c ∈ l /\ ∀ j,j < (idx c l).toNat -> l.getD j 0 ≠ u8 c)
 | [] => .inl ⟨rfl,by simp⟩
 | b :: r => by
  have hb := u8_eq (b := b) h0 h1
  have ih := idx_cases h0 h1 r
  by_cases he : (b.toNat : Int) = c
  ·have hb' : b = u8 c := by simpa using hb.1 he
   right
   have : idx c (b :: r) = 0 := by simp [idx,he]
   rw [this]
   refine ⟨Int.le_refl _,by simp,by simp [hb'],by simp [hb'],fun j hj => by simp at hj⟩
  ·have hb' : ¬ b = u8 c := fun e => he (hb.2 (by simpa using e))
   rcases ih with ⟨h2,h3⟩ | ⟨h2,h3,h4,h5,h6⟩
   ·left
    exact ⟨by simp [idx,he,h2],by simp [h3]; exact fun e => hb' e.symm⟩
   ·right
    have e : idx c (b :: r) = idx c r + 1 := by
     show (if (b.toNat : Int) = c then 0 else if idx c r < 0 then -1 else idx c r + 1) = _
     rw [if_neg he,if_neg (by omega)]
    have et : (idx c (b :: r)).toNat = (idx c r).toNat + 1 := by omega
    rw [et]
    refine ⟨by omega,by simp; omega,by simpa using h4,by simp [h5],fun j hj => ?_⟩
    cases j with
    | zero => simpa using hb'
    | succ j => simpa using h6 j (by omega)
theorem idx_mem {c : Int} (h0 : 0 <= c) (h1 : c <= 255) (l : Tx) : decide (0 <= idx c l) = l.contains (u8 c) := by
 rcases idx_cases h0 h1 l with ⟨h2,h3⟩ | ⟨h2,_,_,h3,_⟩
 ·rw [h2]; simp [h3]
 ·simp [h2,h3]
theorem b01_bd (b : Bool) : 0 <= b01 b /\ b01 b <= 1 := by cases b <;> decide
theorem b01_one (b : Bool) : decide (b01 b = 1) = b := by cases b <;> rfl
theorem u8_toNat {z : Int} (h0 : 0 <= z) (h1 : z <= 255) : ((u8 z).toNat : Int) = z := by unfold u8; simp; omega
theorem take_succ_getD (l : Tx) (i : Nat) (h : i < l.length) : l.take (i + 1) = l.take i ++ [l.getD i 0] := by
 rw [List.take_add_one]; simp [List.getD,h]
theorem drop_cons_getD (l : Tx) (i : Nat) (h : i < l.length) : l.drop i = l.getD i 0 :: l.drop (i + 1) := by
 rw [List.drop_eq_getElem_cons h]; simp [List.getD,h]
theorem len_lt {z : Int} (h : z <= HB) : ((sOf z).length : Int) <= 9223372036854775807 := by
 have := HB_s h; unfold mxL at this; omega
theorem rtr_snoc (p : UInt8 -> Bool) (l : Tx) (x : UInt8) : rtr p (l ++ [x]) = cond (p x) (rtr p l) (l ++ [x]) := by
 unfold rtr
 simp only [List.reverse_append,List.reverse_cons,List.reverse_nil,List.nil_append,List.singleton_append,List.dropWhile_cons]
 cases p x <;> simp
end Go.Ad
set_option maxRecDepth 100000
set_option linter.unusedVariables false
set_option linter.unusedSimpArgs false
namespace Go.Ad
open Go Go.Rx
def B_tlb (S : Nat -> List (List Int) -> List (List Int) -> Prop) (K : List (List Int) -> List (List Int) -> Prop) : Prop :=
 ∀ z0 : Int,0 <= z0 -> z0 <= HB -> ∀ z1 : Int,0 <= z1 -> z1 <= 255 ->
 ∃ (I2 : List (List Int) -> Prop) (μ2 : List (List Int) -> Nat),I2 [[z0]] /\ (∀ z3 : Int,0 <= z3 -> z3 <= HB -> I2 [[z3]] ->
  ∀ z4 : Int,0 <= z4 -> z4 <= 9223372036854775807 -> z4 = fnD 0 [z3] ->
  (((decide (0 < z4)) = true ->
   chkD 1 [z3,0] /\
   ∀ z5 : Int,0 <= z5 -> z5 <= 255 -> z5 = fnD 1 [z3,0] ->
   (((decide (z5 = z1)) = true ->
    ∀ z6 : Int,0 <= z6 -> z6 <= 9223372036854775807 -> z6 = fnD 0 [z3] ->
    chkD 2 [z3,1,z6] /\
    ∀ z7 : Int,0 <= z7 -> z7 <= HB -> z7 = fnD 2 [z3,1,z6] ->
    (I2 [[z7]] /\ μ2 [[z7]] < μ2 [[z3]])
   ) /\ ((decide (z5 = z1)) = false ->
    K [[z0],[z1]] [[z3]]
   ))
  ) /\ ((decide (0 < z4)) = false ->
   K [[z0],[z1]] [[z3]]
  ))
 )
def B_trb (S : Nat -> List (List Int) -> List (List Int) -> Prop) (K : List (List Int) -> List (List Int) -> Prop) : Prop :=
 ∀ z0 : Int,0 <= z0 -> z0 <= HB -> ∀ z1 : Int,0 <= z1 -> z1 <= 255 ->
 ∃ (I2 : List (List Int) -> Prop) (μ2 : List (List Int) -> Nat),I2 [[z0]] /\ (∀ z3 : Int,0 <= z3 -> z3 <= HB -> I2 [[z3]] ->
  ∀ z4 : Int,0 <= z4 -> z4 <= 9223372036854775807 -> z4 = fnD 0 [z3] ->
  (((decide (0 < z4)) = true ->
   ∀ z5 : Int,0 <= z5 -> z5 <= 9223372036854775807 -> z5 = fnD 0 [z3] ->
   chkD 1 [z3,(z5 + (-1))] /\
   ∀ z6 : Int,0 <= z6 -> z6 <= 255 -> z6 = fnD 1 [z3,(z5 + (-1))] ->
   (((decide (z6 = z1)) = true ->
    ∀ z7 : Int,0 <= z7 -> z7 <= 9223372036854775807 -> z7 = fnD 0 [z3] ->
    chkD 2 [z3,0,(z7 + (-1))] /\
    ∀ z8 : Int,0 <= z8 -> z8 <= HB -> z8 = fnD 2 [z3,0,(z7 + (-1))] ->
    (I2 [[z8]] /\ μ2 [[z8]] < μ2 [[z3]])
   ) /\ ((decide (z6 = z1)) = false ->
    K [[z0],[z1]] [[z3]]
   ))
  ) /\ ((decide (0 < z4)) = false ->
   K [[z0],[z1]] [[z3]]
  ))
 )
def B_tsp (S : Nat -> List (List Int) -> List (List Int) -> Prop) (K : List (List Int) -> List (List Int) -> Prop) : Prop :=
 ∀ z0 : Int,0 <= z0 -> z0 <= HB ->
 ∀ z1 : Int,0 <= z1 -> z1 <= 1 -> z1 = fnD 4 [z0,0] ->
 (((decide (z1 = 1)) = true ->
  K [[z0]] [[z0]]
 ) /\ ((decide (z1 = 1)) = false ->
  ∀ z2 : Int,0 <= z2 -> z2 <= HB -> S 37 [[z0],[32]] [[z2]] ->
  ∀ z3 : Int,0 <= z3 -> z3 <= HB -> S 36 [[z2],[32]] [[z3]] ->
  K [[z0]] [[z3]]
 ))
def B_tdot (S : Nat -> List (List Int) -> List (List Int) -> Prop) (K : List (List Int) -> List (List Int) -> Prop) : Prop :=
 ∀ z0 : Int,0 <= z0 -> z0 <= HB ->
 ∀ z1 : Int,0 <= z1 -> z1 <= 1 -> z1 = fnD 4 [z0,0] ->
 (((decide (z1 = 1)) = true ->
  K [[z0]] [[z0]]
 ) /\ ((decide (z1 = 1)) = false ->
  ∀ z2 : Int,0 <= z2 -> z2 <= HB -> S 37 [[z0],[46]] [[z2]] ->
  ∀ z3 : Int,0 <= z3 -> z3 <= HB -> S 36 [[z2],[46]] [[z3]] ->
  K [[z0]] [[z3]]
 ))
def B_cdot (S : Nat -> List (List Int) -> List (List Int) -> Prop) (K : List (List Int) -> List (List Int) -> Prop) : Prop :=
 ∀ z0 : Int,0 <= z0 -> z0 <= HB ->
 ∀ z1 : Int,0 <= z1 -> z1 <= 1 -> z1 = fnD 4 [47,z0] ->
 (((decide (z1 = 1)) = true ->
  K [[z0]] [[(cond (true) 1 0)]]
 ) /\ ((decide (z1 = 1)) = false ->
  ∀ z2 : Int,(-1) <= z2 -> z2 <= 9223372036854775807 -> S 73 [[z0],[46]] [[z2]] ->
  K [[z0]] [[(cond (decide (0 <= z2)) 1 0)]]
 ))
theorem p_tlb : B_tlb SB (KBv SB [.str] 36) := by
 intro z0 a0 a1 z1 b0 b1
 refine ⟨fun bl => ∃ z,bl = [[z]] /\ ltr (· == u8 z1) (sOf z) = ltr (· == u8 z1) (sOf z0),fun bl => (sOf ((bl.getD 0 []).getD 0 0)).length,⟨z0,rfl,rfl⟩,?_⟩
 rintro z3 c0 c1 ⟨z,e,hz⟩
 obtain rfl : z3 = z := by simpa using e
 intro z4 d0 d1 hz4
 simp only [fnD] at hz4
 cases hl : sOf z3 with
 | nil =>
  rw [hl] at hz4 hz
  simp only [List.length_nil] at hz4
  subst hz4
  refine ⟨fun hp => by simp at hp,fun _ => ⟨⟨c0,c1,trivial⟩,?_⟩⟩
  show sOf z3 = _
  rw [hl,<- hz]
  rfl
 | cons x r =>
  rw [hl] at hz4 hz
  simp only [List.length_cons] at hz4
  refine ⟨fun _ => ⟨⟨Int.le_refl _,by rw [hl]; simp only [List.length_cons]; omega⟩,?_⟩,fun hp => by simp at hp; omega⟩
  intro z5 e0 e1 hz5
  simp only [fnD,hl,Int.toNat_zero,List.getD_cons_zero] at hz5
  have hx := u8_eq (b := x) b0 b1
  rw [<- hz5] at hx
  refine ⟨fun he => ?_,fun he => ⟨⟨c0,c1,trivial⟩,?_⟩⟩
  ·have he' := hx.1 (by simpa using he)
   intro z6 f0 f1 hz6
   simp only [fnD,hl,List.length_cons] at hz6
   refine ⟨⟨by omega,by omega,by rw [hl]; simp only [List.length_cons]; omega⟩,?_⟩
   intro z7 g0 g1 hz7
   have hr : sOf z7 = r := by
    rw [hz7]; simp only [fnD,sOf_cOf,hl]
    rw [show (1 : Int).toNat = 1 from rfl,List.drop_one,List.tail_cons]
    exact List.take_of_length_le (by omega)
   refine ⟨⟨z7,rfl,?_⟩,?_⟩
   ·rw [hr,<- hz]; simp only [ltr,List.dropWhile_cons,he',if_true]
   ·show (sOf z7).length < (sOf z3).length
    rw [hr,hl]; simp
  ·show sOf z3 = _
   have he' : ¬ (x == u8 z1) = true := fun h => by have := hx.2 h; simp [this] at he
   rw [hl,<- hz]; simp only [ltr,List.dropWhile_cons,he',if_false]; rfl
theorem snoc_of {l : Tx} (h : l ≠ []) : ∃ r x,l = r ++ [x] := ⟨_,_,(List.dropLast_concat_getLast h).symm⟩
theorem p_trb : B_trb SB (KBv SB [.str] 37) := by
 intro z0 a0 a1 z1 b0 b1
 refine ⟨fun bl => ∃ z,bl = [[z]] /\ rtr (· == u8 z1) (sOf z) = rtr (· == u8 z1) (sOf z0),fun bl => (sOf ((bl.getD 0 []).getD 0 0)).length,⟨z0,rfl,rfl⟩,?_⟩
 rintro z3 c0 c1 ⟨z,e,hz⟩
 obtain rfl : z3 = z := by simpa using e
 intro z4 d0 d1 hz4
 simp only [fnD] at hz4
 by_cases hl : sOf z3 = []
 ·rw [hl] at hz4 hz
  simp only [List.length_nil] at hz4
  subst hz4
  refine ⟨fun hp => by simp at hp,fun _ => ⟨⟨c0,c1,trivial⟩,?_⟩⟩
  show sOf z3 = _
  rw [hl,<- hz]
  rfl
 ·obtain ⟨r,x,hl⟩ := snoc_of hl
  rw [hl] at hz4 hz
  simp only [List.length_append,List.length_cons,List.length_nil] at hz4
  refine ⟨fun _ => ?_,fun hp => by simp at hp; omega⟩
  intro z5 e0 e1 hz5
  simp only [fnD,hl,List.length_append,List.length_cons,List.length_nil] at hz5
  refine ⟨⟨by omega,by rw [hl]; simp only [List.length_append,List.length_cons,List.length_nil]; omega⟩,?_⟩
  intro z6 f0 f1 hz6
  have ht : (z5 + -1).toNat = r.length := by omega
  simp only [fnD,hl,ht] at hz6
  have hx := u8_eq (b := x) b0 b1
  rw [show ((r ++ [x]).getD r.length 0) = x by simp [List.getD]] at hz6
  rw [<- hz6] at hx
  refine ⟨fun he => ?_,fun he => ⟨⟨c0,c1,trivial⟩,?_⟩⟩
  ·have he' := hx.1 (by simpa using he)
   intro z7 f0 f1 hz7
   simp only [fnD,hl,List.length_append,List.length_cons,List.length_nil] at hz7
   have ht7 : (z7 + -1).toNat = r.length := by omega
   refine ⟨⟨by omega,by omega,by rw [hl]; simp only [List.length_append,List.length_cons,List.length_nil]; omega⟩,?_⟩
   intro z8 g0 g1 hz8
   have hr : sOf z8 = r := by
    rw [hz8]; simp only [fnD,sOf_cOf,hl,ht7]
    simp
   refine ⟨⟨z8,rfl,?_⟩,?_⟩
   ·rw [hr,<- hz,rtr_snoc,he',cond_true]
   ·show (sOf z8).length < (sOf z3).length
    rw [hr,hl]; simp
  ·show sOf z3 = _
   have he' : (x == u8 z1) = false := by
    cases h : (x == u8 z1) with
    | false => rfl
    | true => have := hx.2 h; simp [this] at he
   rw [hl,<- hz,rtr_snoc,he',cond_false]
theorem sOf_zero : sOf 0 = [] := rfl
theorem eq_nil {z z1 : Int} (h : z1 = fnD 4 [z,0]) : decide (z1 = 1) = (sOf z == []) := by
 rw [h]; simp only [fnD,sOf_zero]
 cases hz : sOf z with
 | nil => rfl
 | cons x r => simp
theorem p_trim1 {c : Int} {p : UInt8 -> Bool} (hc : p = (· == u8 c)) {id : Nat} (hid : ∀ z r,SB id [[z]] [[r]] = (sOf r = trimS p (sOf z))) :
 (∀ z0 : Int,0 <= z0 -> z0 <= HB ->
 ∀ z1 : Int,0 <= z1 -> z1 <= 1 -> z1 = fnD 4 [z0,0] ->
 (((decide (z1 = 1)) = true ->
  KBv SB [.str] id [[z0]] [[z0]]
 ) /\ ((decide (z1 = 1)) = false ->
  ∀ z2 : Int,0 <= z2 -> z2 <= HB -> SB 37 [[z0],[c]] [[z2]] ->
  ∀ z3 : Int,0 <= z3 -> z3 <= HB -> SB 36 [[z2],[c]] [[z3]] ->
  KBv SB [.str] id [[z0]] [[z3]]
 ))) := by
  intro z0 a0 a1 z1 b0 b1 hz1
  rw [eq_nil hz1]
  refine ⟨fun h => ⟨⟨a0,a1,trivial⟩,?_⟩,fun h z2 c0 c1 h2 z3 d0 d1 h3 => ⟨⟨d0,d1,trivial⟩,?_⟩⟩
  ·rw [hid]
   have : sOf z0 = [] := by simpa using h
   rw [this]; rfl
  ·rw [hid]
   have h2 : sOf z2 = rtr (· == u8 c) (sOf z0) := h2
   have h3 : sOf z3 = ltr (· == u8 c) (sOf z2) := h3
   rw [h3,h2,hc]; rfl
theorem p_tsp : B_tsp SB (KBv SB [.str] 120) := p_trim1 (c := 32) (p := (· == 32)) rfl fun _ _ => rfl
theorem p_tdot : B_tdot SB (KBv SB [.str] 121) := p_trim1 (c := 46) (p := (· == 46)) rfl fun _ _ => rfl
theorem p_cdot : B_cdot SB (KBv SB [.bool] 127) := by
 intro z0 a0 a1 z1 b0 b1 hz1
 simp only [fnD] at hz1
 refine ⟨fun h => ⟨⟨by decide,by decide,trivial⟩,?_⟩,fun h z2 c0 c1 h2 => ⟨⟨(b01_bd _).1,(b01_bd _).2,trivial⟩,?_⟩⟩
 ·have : sOf z0 = [46] := by
   have e : sOf 47 = [46] := by decide
   rw [e] at hz1
   by_cases h' : [46] = sOf z0
   ·exact h'.symm
   ·rw [if_neg h'] at hz1; subst hz1; simp at h
  show (1 : Int) = b01 ((sOf z0).contains 46)
  rw [this]; rfl
 ·have h2 : z2 = idx 46 (sOf z0) := h2
  show (cond (decide (0 <= z2)) 1 0 : Int) = b01 ((sOf z0).contains 46)
  rw [h2,idx_mem (by decide) (by decide)]; rfl
def B_cutat (S : Nat -> List (List Int) -> List (List Int) -> Prop) (K : List (List Int) -> List (List Int) -> Prop) : Prop :=
 ∀ z0 : Int,0 <= z0 -> z0 <= HB ->
 ∀ z1 : Int,0 <= z1 -> z1 <= 1 -> z1 = fnD 4 [65,z0] ->
 (((decide (z1 = 1)) = true ->
  chkD 2 [z0,0,0] /\
  ∀ z2 : Int,0 <= z2 -> z2 <= HB -> z2 = fnD 2 [z0,0,0] ->
  ∀ z3 : Int,0 <= z3 -> z3 <= 9223372036854775807 -> z3 = fnD 0 [z0] ->
  chkD 2 [z0,1,z3] /\
  ∀ z4 : Int,0 <= z4 -> z4 <= HB -> z4 = fnD 2 [z0,1,z3] ->
  K [[z0]] [[z2],[z4],[(cond (true) 1 0)]]
 ) /\ ((decide (z1 = 1)) = false ->
  ∀ z2 : Int,(-1) <= z2 -> z2 <= 9223372036854775807 -> S 73 [[z0],[64]] [[z2]] ->
  (((decide (0 <= z2)) = true ->
   chkD 2 [z0,0,z2] /\
   ∀ z3 : Int,0 <= z3 -> z3 <= HB -> z3 = fnD 2 [z0,0,z2] ->
   ∀ z4 : Int,0 <= z4 -> z4 <= 1 -> 0 <= (z2 + 9223372036854775809) - 18446744073709551616 * z4 -> (z2 + 9223372036854775809) - 18446744073709551616 * z4 < 18446744073709551616 ->
   ∀ z5 : Int,0 <= z5 -> z5 <= 9223372036854775807 -> z5 = fnD 0 [z0] ->
   chkD 2 [z0,((z2 + ((-18446744073709551616) * z4)) + 1),z5] /\
   ∀ z6 : Int,0 <= z6 -> z6 <= HB -> z6 = fnD 2 [z0,((z2 + ((-18446744073709551616) * z4)) + 1),z5] ->
   K [[z0]] [[z3],[z6],[(cond (true) 1 0)]]
  ) /\ ((decide (0 <= z2)) = false ->
   K [[z0]] [[z0],[0],[(cond (false) 1 0)]]
  ))
 ))
def B_cutcol (S : Nat -> List (List Int) -> List (List Int) -> Prop) (K : List (List Int) -> List (List Int) -> Prop) : Prop :=
 ∀ z0 : Int,0 <= z0 -> z0 <= HB ->
 ∀ z1 : Int,0 <= z1 -> z1 <= 1 -> z1 = fnD 4 [59,z0] ->
 (((decide (z1 = 1)) = true ->
  chkD 2 [z0,0,0] /\
  ∀ z2 : Int,0 <= z2 -> z2 <= HB -> z2 = fnD 2 [z0,0,0] ->
  ∀ z3 : Int,0 <= z3 -> z3 <= 9223372036854775807 -> z3 = fnD 0 [z0] ->
  chkD 2 [z0,1,z3] /\
  ∀ z4 : Int,0 <= z4 -> z4 <= HB -> z4 = fnD 2 [z0,1,z3] ->
  K [[z0]] [[z2],[z4],[(cond (true) 1 0)]]
 ) /\ ((decide (z1 = 1)) = false ->
  ∀ z2 : Int,(-1) <= z2 -> z2 <= 9223372036854775807 -> S 73 [[z0],[58]] [[z2]] ->
  (((decide (0 <= z2)) = true ->
   chkD 2 [z0,0,z2] /\
   ∀ z3 : Int,0 <= z3 -> z3 <= HB -> z3 = fnD 2 [z0,0,z2] ->
   ∀ z4 : Int,0 <= z4 -> z4 <= 1 -> 0 <= (z2 + 9223372036854775809) - 18446744073709551616 * z4 -> (z2 + 9223372036854775809) - 18446744073709551616 * z4 < 18446744073709551616 ->
   ∀ z5 : Int,0 <= z5 -> z5 <= 9223372036854775807 -> z5 = fnD 0 [z0] ->
   chkD 2 [z0,((z2 + ((-18446744073709551616) * z4)) + 1),z5] /\
   ∀ z6 : Int,0 <= z6 -> z6 <= HB -> z6 = fnD 2 [z0,((z2 + ((-18446744073709551616) * z4)) + 1),z5] ->
   K [[z0]] [[z3],[z6],[(cond (true) 1 0)]]
  ) /\ ((decide (0 <= z2)) = false ->
   K [[z0]] [[z0],[0],[(cond (false) 1 0)]]
  ))
 ))
def B_only (S : Nat -> List (List Int) -> List (List Int) -> Prop) (K : List (List Int) -> List (List Int) -> Prop) : Prop :=
 ∀ z0 : Int,0 <= z0 -> z0 <= HB -> ∀ z1 : Int,0 <= z1 -> z1 <= HB ->
 ∀ z2 : Int,0 <= z2 -> z2 <= 9223372036854775807 -> z2 = fnD 0 [z0] ->
 ∃ (I3 : List (List Int) -> Prop) (μ3 : List (List Int) -> Nat),I3 [[0]] /\ (∀ z4 : Int,0 <= z4 -> z4 <= 9223372036854775807 -> I3 [[z4]] ->
  (((decide (z4 < z2)) = true ->
   chkD 1 [z0,z4] /\
   ∀ z5 : Int,0 <= z5 -> z5 <= 255 -> z5 = fnD 1 [z0,z4] ->
   ∀ z6 : Int,(-1) <= z6 -> z6 <= 9223372036854775807 -> S 73 [[z1],[z5]] [[z6]] ->
   (((decide (z6 < 0)) = true ->
    K [[z0],[z1]] [[(cond (false) 1 0)]]
   ) /\ ((decide (z6 < 0)) = false ->
    ∀ z7 : Int,0 <= z7 -> z7 <= 1 -> 0 <= (z4 + 9223372036854775809) - 18446744073709551616 * z7 -> (z4 + 9223372036854775809) - 18446744073709551616 * z7 < 18446744073709551616 ->
    chkD 39 [((z4 + ((-18446744073709551616) * z7)) + 1),0,9223372036854775807] /\
    (I3 [[((z4 + ((-18446744073709551616) * z7)) + 1)]] /\ μ3 [[((z4 + ((-18446744073709551616) * z7)) + 1)]] < μ3 [[z4]])
   ))
  ) /\ ((decide (z4 < z2)) = false ->
   K [[z0],[z1]] [[(cond (true) 1 0)]]
  ))
 )
def B_ionly (S : Nat -> List (List Int) -> List (List Int) -> Prop) (K : List (List Int) -> List (List Int) -> Prop) : Prop :=
 ∀ z0 : Int,0 <= z0 -> z0 <= HB -> ∀ z1 : Int,0 <= z1 -> z1 <= HB ->
 ∀ z2 : Int,0 <= z2 -> z2 <= 9223372036854775807 -> z2 = fnD 0 [z0] ->
 ∃ (I3 : List (List Int) -> Prop) (μ3 : List (List Int) -> Nat),I3 [[0]] /\ (∀ z4 : Int,0 <= z4 -> z4 <= 9223372036854775807 -> I3 [[z4]] ->
  (((decide (z4 < z2)) = true ->
   chkD 1 [z0,z4] /\
   ∀ z5 : Int,0 <= z5 -> z5 <= 255 -> z5 = fnD 1 [z0,z4] ->
   ∀ z6 : Int,(-1) <= z6 -> z6 <= 9223372036854775807 -> S 73 [[z1],[z5]] [[z6]] ->
   (((decide (z6 < 0)) = true ->
    K [[z0],[z1]] [[(cond (false) 1 0)]]
   ) /\ ((decide (z6 < 0)) = false ->
    ∀ z7 : Int,0 <= z7 -> z7 <= 1 -> 0 <= (z4 + 9223372036854775809) - 18446744073709551616 * z7 -> (z4 + 9223372036854775809) - 18446744073709551616 * z7 < 18446744073709551616 ->
    chkD 39 [((z4 + ((-18446744073709551616) * z7)) + 1),0,9223372036854775807] /\
    (I3 [[((z4 + ((-18446744073709551616) * z7)) + 1)]] /\ μ3 [[((z4 + ((-18446744073709551616) * z7)) + 1)]] < μ3 [[z4]])
   ))
  ) /\ ((decide (z4 < z2)) = false ->
   K [[z0],[z1]] [[(cond (true) 1 0)]]
  ))
 )
def B_rhas (S : Nat -> List (List Int) -> List (List Int) -> Prop) (K : List (List Int) -> List (List Int) -> Prop) : Prop :=
 ∀ z0 : Int,0 <= z0 -> z0 <= HB -> ∀ z1 : Int,0 <= z1 -> z1 <= 255 ->
 ∃ (I2 : List (List Int) -> Prop) (μ2 : List (List Int) -> Nat),I2 [[0]] /\ (∀ z3 : Int,0 <= z3 -> z3 <= 9223372036854775807 -> I2 [[z3]] ->
  ∀ z4 : Int,0 <= z4 -> z4 <= 9223372036854775807 -> z4 = fnD 0 [z0] ->
  (((decide (z3 < z4)) = true ->
   chkD 1 [z0,z3] /\
   ∀ z5 : Int,0 <= z5 -> z5 <= 255 -> z5 = fnD 1 [z0,z3] ->
   (((decide (z5 = z1)) = true ->
    K [[z0],[z1]] [[(cond (true) 1 0)]]
   ) /\ ((decide (z5 = z1)) = false ->
    ∀ z6 : Int,0 <= z6 -> z6 <= 1 -> 0 <= (z3 + 9223372036854775809) - 18446744073709551616 * z6 -> (z3 + 9223372036854775809) - 18446744073709551616 * z6 < 18446744073709551616 ->
    chkD 39 [((z3 + ((-18446744073709551616) * z6)) + 1),0,9223372036854775807] /\
    (I2 [[((z3 + ((-18446744073709551616) * z6)) + 1)]] /\ μ2 [[((z3 + ((-18446744073709551616) * z6)) + 1)]] < μ2 [[z3]])
   ))
  ) /\ ((decide (z3 < z4)) = false ->
   K [[z0],[z1]] [[(cond (false) 1 0)]]
  ))
 )
theorem p_cut {c n : Int} (h0 : 0 <= c) (h1 : c <= 255) (hn : sOf n = [u8 c]) {id : Nat} (hid : ∀ z a b r,SB id [[z]] [[a],[b],[r]] = ((sOf a,sOf b,r) = cutF c (sOf z))) :
 (∀ z0 : Int,0 <= z0 -> z0 <= HB ->
 ∀ z1 : Int,0 <= z1 -> z1 <= 1 -> z1 = fnD 4 [n,z0] ->
 (((decide (z1 = 1)) = true ->
  chkD 2 [z0,0,0] /\
  ∀ z2 : Int,0 <= z2 -> z2 <= HB -> z2 = fnD 2 [z0,0,0] ->
  ∀ z3 : Int,0 <= z3 -> z3 <= 9223372036854775807 -> z3 = fnD 0 [z0] ->
  chkD 2 [z0,1,z3] /\
  ∀ z4 : Int,0 <= z4 -> z4 <= HB -> z4 = fnD 2 [z0,1,z3] ->
  KBv SB [.str,.str,.bool] id [[z0]] [[z2],[z4],[(cond (true) 1 0)]]
 ) /\ ((decide (z1 = 1)) = false ->
  ∀ z2 : Int,(-1) <= z2 -> z2 <= 9223372036854775807 -> SB 73 [[z0],[c]] [[z2]] ->
  (((decide (0 <= z2)) = true ->
   chkD 2 [z0,0,z2] /\
   ∀ z3 : Int,0 <= z3 -> z3 <= HB -> z3 = fnD 2 [z0,0,z2] ->
   ∀ z4 : Int,0 <= z4 -> z4 <= 1 -> 0 <= (z2 + 9223372036854775809) - 18446744073709551616 * z4 -> (z2 + 9223372036854775809) - 18446744073709551616 * z4 < 18446744073709551616 ->
   ∀ z5 : Int,0 <= z5 -> z5 <= 9223372036854775807 -> z5 = fnD 0 [z0] ->
   chkD 2 [z0,((z2 + ((-18446744073709551616) * z4)) + 1),z5] /\
   ∀ z6 : Int,0 <= z6 -> z6 <= HB -> z6 = fnD 2 [z0,((z2 + ((-18446744073709551616) * z4)) + 1),z5] ->
   KBv SB [.str,.str,.bool] id [[z0]] [[z3],[z6],[(cond (true) 1 0)]]
  ) /\ ((decide (0 <= z2)) = false ->
   KBv SB [.str,.str,.bool] id [[z0]] [[z0],[0],[(cond (false) 1 0)]]
  ))
 ))) := by
  intro z0 a0 a1 z1 b0 b1 hz1
  simp only [fnD,hn] at hz1
  refine ⟨fun h => ?_,fun h z2 c0 c1 h2 => ?_⟩
  ·have hs : sOf z0 = [u8 c] := by
    by_cases h' : [u8 c] = sOf z0
    ·exact h'.symm
    ·rw [if_neg h'] at hz1; subst hz1; simp at h
   refine ⟨⟨by omega,by omega,by omega⟩,fun z2 c0 c1 h2 z3 d0 d1 h3 => ?_⟩
   simp only [fnD,hs,List.length_singleton] at h3
   refine ⟨⟨by omega,by omega,by rw [hs]; simp only [List.length_singleton]; omega⟩,fun z4 e0 e1 h4 => ⟨⟨c0,c1,e0,e1,by decide,by decide,trivial⟩,?_⟩⟩
   rw [hid]
   have e2 : sOf z2 = [] := by rw [h2]; simp [fnD,sOf_cOf]
   have e4 : sOf z4 = [] := by rw [h4]; simp [fnD,sOf_cOf,hs]
   have ei : idx c [u8 c] = 0 := by simp [idx,u8_toNat h0 h1]
   rw [e2,e4,hs]
   simp [cutF,ei]
  ·have h2 : z2 = idx c (sOf z0) := h2
   refine ⟨fun hp => ?_,fun hp => ⟨⟨a0,a1,Int.le_refl _,HB_pos,by decide,by decide,trivial⟩,?_⟩⟩
   ·have hp : 0 <= z2 := by simpa using hp
    have hr := idx_range c (sOf z0)
    have hL := len_lt a1
    refine ⟨⟨by omega,by omega,by omega⟩,fun z3 d0 d1 h3 z4 e0 e1 e2 e3 z5 f0 f1 h5 => ?_⟩
    simp only [fnD] at h5
    have ez : z2 + -18446744073709551616 * z4 + 1 = z2 + 1 := by omega
    rw [ez]
    refine ⟨⟨by omega,by omega,by omega⟩,fun z6 g0 g1 h6 => ⟨⟨d0,d1,g0,g1,by decide,by decide,trivial⟩,?_⟩⟩
    rw [hid]
    have e3 : sOf z3 = (sOf z0).take z2.toNat := by rw [h3]; simp [fnD,sOf_cOf]
    have e6 : sOf z6 = (sOf z0).drop (z2.toNat + 1) := by
     rw [h6]; simp only [fnD,sOf_cOf]
     rw [show (z2 + 1).toNat = z2.toNat + 1 by omega]
     exact List.take_of_length_le (by simp; omega)
    rw [e3,e6]
    unfold cutF
    rw [<- h2,show decide (0 <= z2) = true by simpa using hp]
    rfl
   ·rw [hid]
    unfold cutF
    rw [<- h2,hp]
    rfl
theorem p_cutat : B_cutat SB (KBv SB [.str,.str,.bool] 125) := p_cut (c := 64) (n := 65) (by decide) (by decide) (by decide) fun _ _ _ _ => rfl
theorem p_cutcol : B_cutcol SB (KBv SB [.str,.str,.bool] 126) := p_cut (c := 58) (n := 59) (by decide) (by decide) (by decide) fun _ _ _ _ => rfl
theorem all_take (p : UInt8 -> Bool) (l : Tx) (i : Nat) (h : i < l.length) : (l.take (i + 1)).all p = ((l.take i).all p && p (l.getD i 0)) := by
 rw [take_succ_getD l i h]; simp
theorem all_false_of (p : UInt8 -> Bool) (l : Tx) (i : Nat) (h : i < l.length) (hp : p (l.getD i 0) = false) : l.all p = false := by
 rw [List.all_eq_false]
 refine ⟨l.getD i 0,?_,fun e => by rw [hp] at e; cases e⟩
 simp [List.getD,h]
theorem wrap1 {z q L : Int} (h : z < L) (hL : L <= 9223372036854775807) (h0 : 0 <= z) (q0 : 0 <= q) (e2 : 0 <= (z + 9223372036854775809) - 18446744073709551616 * q) : z + -18446744073709551616 * q + 1 = z + 1 := by omega
theorem p_only' {id : Nat} (hid : ∀ s b r,SB id [[s],[b]] [[r]] = (r = b01 ((sOf s).all fun c => (sOf b).contains c))) :
 (∀ z0 : Int,0 <= z0 -> z0 <= HB -> ∀ z1 : Int,0 <= z1 -> z1 <= HB ->
 ∀ z2 : Int,0 <= z2 -> z2 <= 9223372036854775807 -> z2 = fnD 0 [z0] ->
 ∃ (I3 : List (List Int) -> Prop) (μ3 : List (List Int) -> Nat),I3 [[0]] /\ (∀ z4 : Int,0 <= z4 -> z4 <= 9223372036854775807 -> I3 [[z4]] ->
  (((decide (z4 < z2)) = true ->
   chkD 1 [z0,z4] /\
   ∀ z5 : Int,0 <= z5 -> z5 <= 255 -> z5 = fnD 1 [z0,z4] ->
   ∀ z6 : Int,(-1) <= z6 -> z6 <= 9223372036854775807 -> SB 73 [[z1],[z5]] [[z6]] ->
   (((decide (z6 < 0)) = true ->
    KBv SB [.bool] id [[z0],[z1]] [[(cond (false) 1 0)]]
   ) /\ ((decide (z6 < 0)) = false ->
    ∀ z7 : Int,0 <= z7 -> z7 <= 1 -> 0 <= (z4 + 9223372036854775809) - 18446744073709551616 * z7 -> (z4 + 9223372036854775809) - 18446744073709551616 * z7 < 18446744073709551616 ->
    chkD 39 [((z4 + ((-18446744073709551616) * z7)) + 1),0,9223372036854775807] /\
    (I3 [[((z4 + ((-18446744073709551616) * z7)) + 1)]] /\ μ3 [[((z4 + ((-18446744073709551616) * z7)) + 1)]] < μ3 [[z4]])
   ))
  ) /\ ((decide (z4 < z2)) = false ->
   KBv SB [.bool] id [[z0],[z1]] [[(cond (true) 1 0)]]
  ))
 )) := by
  intro z0 a0 a1 z1 b0 b1 z2 c0 c1 h2
  simp only [fnD] at h2
  refine ⟨fun bl => ∃ i : Nat,bl = [[(i : Int)]] /\ i <= (sOf z0).length /\ ((sOf z0).take i).all (fun c => (sOf z1).contains c) = true,fun bl => (sOf z0).length - ((bl.getD 0 []).getD 0 0).toNat,⟨0,rfl,Nat.zero_le _,rfl⟩,?_⟩
  rintro z4 d0 d1 ⟨i,e,hi,hall⟩
  obtain rfl : z4 = i := by simpa using e
  refine ⟨fun hp => ?_,fun hp => ⟨⟨by decide,by decide,trivial⟩,?_⟩⟩
  ·have hp : (i : Int) < z2 := by simpa using hp
   refine ⟨⟨d0,by omega⟩,fun z5 e0 e1 h5 z6 f0 f1 h6 => ?_⟩
   have h6 : z6 = idx z5 (sOf z1) := h6
   simp only [fnD,Int.toNat_natCast] at h5
   have hu : u8 z5 = (sOf z0).getD i 0 := by rw [h5,u8_of]
   have hm := idx_mem e0 e1 (sOf z1)
   rw [hu,<- h6] at hm
   refine ⟨fun hq => ⟨⟨by decide,by decide,trivial⟩,?_⟩,fun hq z7 g0 g1 g2 g3 => ?_⟩
   ·rw [hid,all_false_of _ _ i (by omega) (by rw [<- hm]; simpa using hq)]; rfl
   ·have hq : 0 <= z6 := by simpa using hq
    rw [wrap1 (L := z2) hp c1 d0 g0 g2]
    refine ⟨⟨by omega,by omega⟩,⟨i + 1,by simp,by omega,?_⟩,?_⟩
    ·rw [all_take _ _ _ (by omega),hall,<- hm]; simpa using hq
    ·show (sOf z0).length - ((i : Int) + 1).toNat < (sOf z0).length - (i : Int).toNat
     omega
  ·have hp : ¬ (i : Int) < z2 := by simpa using hp
   rw [List.take_of_length_le (by omega)] at hall
   rw [hid,hall]; rfl
theorem p_only : B_only SB (KBv SB [.bool] 44) := p_only' fun _ _ _ => rfl
theorem p_ionly : B_ionly SB (KBv SB [.bool] 65) := p_only' fun _ _ _ => rfl
theorem contains_take (l : Tx) (c : UInt8) (i : Nat) (h : i < l.length) : (l.take (i + 1)).contains c = ((l.take i).contains c || l.getD i 0 == c) := by
 rw [take_succ_getD l i h,Bool.eq_iff_iff]; simp; exact or_congr Iff.rfl ⟨fun h => h.symm,fun h => h.symm⟩
theorem p_rhas : B_rhas SB (KBv SB [.bool] 31) := by
 intro z0 a0 a1 z1 b0 b1
 refine ⟨fun bl => ∃ i : Nat,bl = [[(i : Int)]] /\ i <= (sOf z0).length /\ ((sOf z0).take i).contains (u8 z1) = false,fun bl => (sOf z0).length - ((bl.getD 0 []).getD 0 0).toNat,⟨0,rfl,Nat.zero_le _,rfl⟩,?_⟩
 rintro z4 d0 d1 ⟨i,e,hi,hall⟩
 obtain rfl : z4 = i := by simpa using e
 intro z2 c0 c1 h2
 simp only [fnD] at h2
 refine ⟨fun hp => ?_,fun hp => ⟨⟨by decide,by decide,trivial⟩,?_⟩⟩
 ·have hp : (i : Int) < z2 := by simpa using hp
  refine ⟨⟨d0,by omega⟩,fun z5 e0 e1 h5 => ?_⟩
  simp only [fnD,Int.toNat_natCast] at h5
  have hu := u8_eq (b := (sOf z0).getD i 0) b0 b1
  rw [<- h5] at hu
  refine ⟨fun hq => ⟨⟨by decide,by decide,trivial⟩,?_⟩,fun hq z7 g0 g1 g2 g3 => ?_⟩
  ·have := hu.1 (by simpa using hq)
   show (1 : Int) = b01 ((sOf z0).contains (u8 z1))
   have hm : (sOf z0).contains (u8 z1) = true := by
    rw [<- beq_iff_eq.1 this]; simp [List.getD,show i < (sOf z0).length by omega]
   rw [hm]; rfl
  ·rw [wrap1 (L := z2) hp c1 d0 g0 g2]
   refine ⟨⟨by omega,by omega⟩,⟨i + 1,by simp,by omega,?_⟩,?_⟩
   ·rw [contains_take _ _ _ (by omega),hall,Bool.false_or]
    cases h : ((sOf z0).getD i 0 == u8 z1) with
    | false => rfl
    | true => have := hu.2 h; simp [this] at hq
   ·show (sOf z0).length - ((i : Int) + 1).toNat < (sOf z0).length - (i : Int).toNat
    omega
 ·have hp : ¬ (i : Int) < z2 := by simpa using hp
  rw [List.take_of_length_le (by omega)] at hall
  show (0 : Int) = b01 ((sOf z0).contains (u8 z1))
  rw [hall]; rfl
def B_tdm (S : Nat -> List (List Int) -> List (List Int) -> Prop) (K : List (List Int) -> List (List Int) -> Prop) : Prop :=
 ∀ z0 : Int,0 <= z0 -> z0 <= HB ->
 ∀ z1 : Int,0 <= z1 -> z1 <= 1 -> z1 = fnD 4 [z0,0] ->
 (((decide (z1 = 1)) = true ->
  K [[z0]] [[z0]]
 ) /\ ((decide (z1 = 1)) = false ->
  ∃ (I2 : List (List Int) -> Prop) (μ2 : List (List Int) -> Nat),I2 [[z0]] /\ (∀ z3 : Int,0 <= z3 -> z3 <= HB -> I2 [[z3]] ->
   ∀ z4 : Int,0 <= z4 -> z4 <= 9223372036854775807 -> z4 = fnD 0 [z3] ->
   (((decide (0 < z4)) = true ->
    ∀ z5 : Int,0 <= z5 -> z5 <= 9223372036854775807 -> z5 = fnD 0 [z3] ->
    chkD 1 [z3,(z5 + (-1))] /\
    ∀ z6 : Int,0 <= z6 -> z6 <= 255 -> z6 = fnD 1 [z3,(z5 + (-1))] ->
    ∀ z7 : Int,0 <= z7 -> z7 <= 1 -> z7 = fnD 43 [12125,z6] ->
    ((((!(decide (z7 = 1)))) = true ->
     ∃ (I8 : List (List Int) -> Prop) (μ8 : List (List Int) -> Nat),I8 [[z3]] /\ (∀ z9 : Int,0 <= z9 -> z9 <= HB -> I8 [[z9]] ->
      ∀ z10 : Int,0 <= z10 -> z10 <= 9223372036854775807 -> z10 = fnD 0 [z9] ->
      (((decide (0 < z10)) = true ->
       chkD 1 [z9,0] /\
       ∀ z11 : Int,0 <= z11 -> z11 <= 255 -> z11 = fnD 1 [z9,0] ->
       ∀ z12 : Int,0 <= z12 -> z12 <= 1 -> z12 = fnD 43 [12125,z11] ->
       ((((!(decide (z12 = 1)))) = true ->
        K [[z0]] [[z9]]
       ) /\ (((!(decide (z12 = 1)))) = false ->
        ∀ z13 : Int,0 <= z13 -> z13 <= 9223372036854775807 -> z13 = fnD 0 [z9] ->
        chkD 2 [z9,1,z13] /\
        ∀ z14 : Int,0 <= z14 -> z14 <= HB -> z14 = fnD 2 [z9,1,z13] ->
        (I8 [[z14]] /\ μ8 [[z14]] < μ8 [[z9]])
       ))
      ) /\ ((decide (0 < z10)) = false ->
       K [[z0]] [[z9]]
      ))
     )
    ) /\ (((!(decide (z7 = 1)))) = false ->
     ∀ z8 : Int,0 <= z8 -> z8 <= 9223372036854775807 -> z8 = fnD 0 [z3] ->
     chkD 2 [z3,0,(z8 + (-1))] /\
     ∀ z9 : Int,0 <= z9 -> z9 <= HB -> z9 = fnD 2 [z3,0,(z8 + (-1))] ->
     (I2 [[z9]] /\ μ2 [[z9]] < μ2 [[z3]])
    ))
   ) /\ ((decide (0 < z4)) = false ->
    ∃ (I5 : List (List Int) -> Prop) (μ5 : List (List Int) -> Nat),I5 [[z3]] /\ (∀ z6 : Int,0 <= z6 -> z6 <= HB -> I5 [[z6]] ->
     ∀ z7 : Int,0 <= z7 -> z7 <= 9223372036854775807 -> z7 = fnD 0 [z6] ->
     (((decide (0 < z7)) = true ->
      chkD 1 [z6,0] /\
      ∀ z8 : Int,0 <= z8 -> z8 <= 255 -> z8 = fnD 1 [z6,0] ->
      ∀ z9 : Int,0 <= z9 -> z9 <= 1 -> z9 = fnD 43 [12125,z8] ->
      ((((!(decide (z9 = 1)))) = true ->
       K [[z0]] [[z6]]
      ) /\ (((!(decide (z9 = 1)))) = false ->
       ∀ z10 : Int,0 <= z10 -> z10 <= 9223372036854775807 -> z10 = fnD 0 [z6] ->
       chkD 2 [z6,1,z10] /\
       ∀ z11 : Int,0 <= z11 -> z11 <= HB -> z11 = fnD 2 [z6,1,z10] ->
       (I5 [[z11]] /\ μ5 [[z11]] < μ5 [[z6]])
      ))
     ) /\ ((decide (0 < z7)) = false ->
      K [[z0]] [[z6]]
     ))
    )
   ))
  )
 ))
def B_thost (S : Nat -> List (List Int) -> List (List Int) -> Prop) (K : List (List Int) -> List (List Int) -> Prop) : Prop :=
 ∀ z0 : Int,0 <= z0 -> z0 <= HB ->
 ∀ z1 : Int,0 <= z1 -> z1 <= 1 -> z1 = fnD 4 [z0,0] ->
 (((decide (z1 = 1)) = true ->
  K [[z0]] [[z0]]
 ) /\ ((decide (z1 = 1)) = false ->
  ∃ (I2 : List (List Int) -> Prop) (μ2 : List (List Int) -> Nat),I2 [[z0]] /\ (∀ z3 : Int,0 <= z3 -> z3 <= HB -> I2 [[z3]] ->
   ∀ z4 : Int,0 <= z4 -> z4 <= 9223372036854775807 -> z4 = fnD 0 [z3] ->
   (((decide (0 < z4)) = true ->
    ∀ z5 : Int,0 <= z5 -> z5 <= 9223372036854775807 -> z5 = fnD 0 [z3] ->
    chkD 1 [z3,(z5 + (-1))] /\
    ∀ z6 : Int,0 <= z6 -> z6 <= 255 -> z6 = fnD 1 [z3,(z5 + (-1))] ->
    ∀ z7 : Int,0 <= z7 -> z7 <= 1 -> z7 = fnD 43 [8267443711659794979134808499087199072256874527605039863196959864303977456569186565734100443375465041388132907546406408792979960403300126342849461211344038,z6] ->
    ((((!(decide (z7 = 1)))) = true ->
     ∃ (I8 : List (List Int) -> Prop) (μ8 : List (List Int) -> Nat),I8 [[z3]] /\ (∀ z9 : Int,0 <= z9 -> z9 <= HB -> I8 [[z9]] ->
      ∀ z10 : Int,0 <= z10 -> z10 <= 9223372036854775807 -> z10 = fnD 0 [z9] ->
      (((decide (0 < z10)) = true ->
       chkD 1 [z9,0] /\
       ∀ z11 : Int,0 <= z11 -> z11 <= 255 -> z11 = fnD 1 [z9,0] ->
       ∀ z12 : Int,0 <= z12 -> z12 <= 1 -> z12 = fnD 43 [8267443711659794979134808499087199072256874527605039863196959864303977456569186565734100443375465041388132907546406408792979960403300126342849461211344038,z11] ->
       ((((!(decide (z12 = 1)))) = true ->
        K [[z0]] [[z9]]
       ) /\ (((!(decide (z12 = 1)))) = false ->
        ∀ z13 : Int,0 <= z13 -> z13 <= 9223372036854775807 -> z13 = fnD 0 [z9] ->
        chkD 2 [z9,1,z13] /\
        ∀ z14 : Int,0 <= z14 -> z14 <= HB -> z14 = fnD 2 [z9,1,z13] ->
        (I8 [[z14]] /\ μ8 [[z14]] < μ8 [[z9]])
       ))
      ) /\ ((decide (0 < z10)) = false ->
       K [[z0]] [[z9]]
      ))
     )
    ) /\ (((!(decide (z7 = 1)))) = false ->
     ∀ z8 : Int,0 <= z8 -> z8 <= 9223372036854775807 -> z8 = fnD 0 [z3] ->
     chkD 2 [z3,0,(z8 + (-1))] /\
     ∀ z9 : Int,0 <= z9 -> z9 <= HB -> z9 = fnD 2 [z3,0,(z8 + (-1))] ->
     (I2 [[z9]] /\ μ2 [[z9]] < μ2 [[z3]])
    ))
   ) /\ ((decide (0 < z4)) = false ->
    ∃ (I5 : List (List Int) -> Prop) (μ5 : List (List Int) -> Nat),I5 [[z3]] /\ (∀ z6 : Int,0 <= z6 -> z6 <= HB -> I5 [[z6]] ->
     ∀ z7 : Int,0 <= z7 -> z7 <= 9223372036854775807 -> z7 = fnD 0 [z6] ->
     (((decide (0 < z7)) = true ->
      chkD 1 [z6,0] /\
      ∀ z8 : Int,0 <= z8 -> z8 <= 255 -> z8 = fnD 1 [z6,0] ->
      ∀ z9 : Int,0 <= z9 -> z9 <= 1 -> z9 = fnD 43 [8267443711659794979134808499087199072256874527605039863196959864303977456569186565734100443375465041388132907546406408792979960403300126342849461211344038,z8] ->
      ((((!(decide (z9 = 1)))) = true ->
       K [[z0]] [[z6]]
      ) /\ (((!(decide (z9 = 1)))) = false ->
       ∀ z10 : Int,0 <= z10 -> z10 <= 9223372036854775807 -> z10 = fnD 0 [z6] ->
       chkD 2 [z6,1,z10] /\
       ∀ z11 : Int,0 <= z11 -> z11 <= HB -> z11 = fnD 2 [z6,1,z10] ->
       (I5 [[z11]] /\ μ5 [[z11]] < μ5 [[z6]])
      ))
     ) /\ ((decide (0 < z7)) = false ->
      K [[z0]] [[z6]]
     ))
    )
   ))
  )
 ))
def B_tdig (S : Nat -> List (List Int) -> List (List Int) -> Prop) (K : List (List Int) -> List (List Int) -> Prop) : Prop :=
 ∀ z0 : Int,0 <= z0 -> z0 <= HB ->
 ∀ z1 : Int,0 <= z1 -> z1 <= 1 -> z1 = fnD 4 [z0,0] ->
 (((decide (z1 = 1)) = true ->
  K [[z0]] [[z0]]
 ) /\ ((decide (z1 = 1)) = false ->
  ∃ (I2 : List (List Int) -> Prop) (μ2 : List (List Int) -> Nat),I2 [[z0]] /\ (∀ z3 : Int,0 <= z3 -> z3 <= HB -> I2 [[z3]] ->
   ∀ z4 : Int,0 <= z4 -> z4 <= 9223372036854775807 -> z4 = fnD 0 [z3] ->
   (((decide (0 < z4)) = true ->
    ∀ z5 : Int,0 <= z5 -> z5 <= 9223372036854775807 -> z5 = fnD 0 [z3] ->
    chkD 1 [z3,(z5 + (-1))] /\
    ∀ z6 : Int,0 <= z6 -> z6 <= 255 -> z6 = fnD 1 [z3,(z5 + (-1))] ->
    ∀ z7 : Int,0 <= z7 -> z7 <= 1 -> z7 = fnD 43 [284767230291263911083031,z6] ->
    ((((!(decide (z7 = 1)))) = true ->
     ∃ (I8 : List (List Int) -> Prop) (μ8 : List (List Int) -> Nat),I8 [[z3]] /\ (∀ z9 : Int,0 <= z9 -> z9 <= HB -> I8 [[z9]] ->
      ∀ z10 : Int,0 <= z10 -> z10 <= 9223372036854775807 -> z10 = fnD 0 [z9] ->
      (((decide (0 < z10)) = true ->
       chkD 1 [z9,0] /\
       ∀ z11 : Int,0 <= z11 -> z11 <= 255 -> z11 = fnD 1 [z9,0] ->
       ∀ z12 : Int,0 <= z12 -> z12 <= 1 -> z12 = fnD 43 [284767230291263911083031,z11] ->
       ((((!(decide (z12 = 1)))) = true ->
        K [[z0]] [[z9]]
       ) /\ (((!(decide (z12 = 1)))) = false ->
        ∀ z13 : Int,0 <= z13 -> z13 <= 9223372036854775807 -> z13 = fnD 0 [z9] ->
        chkD 2 [z9,1,z13] /\
        ∀ z14 : Int,0 <= z14 -> z14 <= HB -> z14 = fnD 2 [z9,1,z13] ->
        (I8 [[z14]] /\ μ8 [[z14]] < μ8 [[z9]])
       ))
      ) /\ ((decide (0 < z10)) = false ->
       K [[z0]] [[z9]]
      ))
     )
    ) /\ (((!(decide (z7 = 1)))) = false ->
     ∀ z8 : Int,0 <= z8 -> z8 <= 9223372036854775807 -> z8 = fnD 0 [z3] ->
     chkD 2 [z3,0,(z8 + (-1))] /\
     ∀ z9 : Int,0 <= z9 -> z9 <= HB -> z9 = fnD 2 [z3,0,(z8 + (-1))] ->
     (I2 [[z9]] /\ μ2 [[z9]] < μ2 [[z3]])
    ))
   ) /\ ((decide (0 < z4)) = false ->
    ∃ (I5 : List (List Int) -> Prop) (μ5 : List (List Int) -> Nat),I5 [[z3]] /\ (∀ z6 : Int,0 <= z6 -> z6 <= HB -> I5 [[z6]] ->
     ∀ z7 : Int,0 <= z7 -> z7 <= 9223372036854775807 -> z7 = fnD 0 [z6] ->
     (((decide (0 < z7)) = true ->
      chkD 1 [z6,0] /\
      ∀ z8 : Int,0 <= z8 -> z8 <= 255 -> z8 = fnD 1 [z6,0] ->
      ∀ z9 : Int,0 <= z9 -> z9 <= 1 -> z9 = fnD 43 [284767230291263911083031,z8] ->
      ((((!(decide (z9 = 1)))) = true ->
       K [[z0]] [[z6]]
      ) /\ (((!(decide (z9 = 1)))) = false ->
       ∀ z10 : Int,0 <= z10 -> z10 <= 9223372036854775807 -> z10 = fnD 0 [z6] ->
       chkD 2 [z6,1,z10] /\
       ∀ z11 : Int,0 <= z11 -> z11 <= HB -> z11 = fnD 2 [z6,1,z10] ->
       (I5 [[z11]] /\ μ5 [[z11]] < μ5 [[z6]])
      ))
     ) /\ ((decide (0 < z7)) = false ->
      K [[z0]] [[z6]]
     ))
    )
   ))
  )
 ))
theorem fn43 {n z q : Int} {p : UInt8 -> Bool} (hn : ∀ c,(sOf n).contains c = p c) (h : q = fnD 43 [n,z]) : decide (q = 1) = p (u8 z) := by
 rw [h]; simp only [fnD]
 have := hn (u8 z)
 unfold u8 at this ⊢
 rw [<- this]
 by_cases hm : UInt8.ofNat z.toNat ∈ sOf n
 ·simp [hm]
 ·simp [hm]
theorem p_trimB {n : Int} {p : UInt8 -> Bool} (hn : ∀ c,(sOf n).contains c = p c) {id : Nat} (hid : ∀ z r,SB id [[z]] [[r]] = (sOf r = trimS p (sOf z))) :
 ( ∀ z0 : Int,0 <= z0 -> z0 <= HB ->
 ∀ z1 : Int,0 <= z1 -> z1 <= 1 -> z1 = fnD 4 [z0,0] ->
 (((decide (z1 = 1)) = true ->
   KBv SB [.str] id [[z0]] [[z0]]
 ) /\ ((decide (z1 = 1)) = false ->
  ∃ (I2 : List (List Int) -> Prop) (μ2 : List (List Int) -> Nat),I2 [[z0]] /\ (∀ z3 : Int,0 <= z3 -> z3 <= HB -> I2 [[z3]] ->
   ∀ z4 : Int,0 <= z4 -> z4 <= 9223372036854775807 -> z4 = fnD 0 [z3] ->
   (((decide (0 < z4)) = true ->
    ∀ z5 : Int,0 <= z5 -> z5 <= 9223372036854775807 -> z5 = fnD 0 [z3] ->
    chkD 1 [z3,(z5 + (-1))] /\
    ∀ z6 : Int,0 <= z6 -> z6 <= 255 -> z6 = fnD 1 [z3,(z5 + (-1))] ->
    ∀ z7 : Int,0 <= z7 -> z7 <= 1 -> z7 = fnD 43 [n,z6] ->
    ((((!(decide (z7 = 1)))) = true ->
     ∃ (I8 : List (List Int) -> Prop) (μ8 : List (List Int) -> Nat),I8 [[z3]] /\ (∀ z9 : Int,0 <= z9 -> z9 <= HB -> I8 [[z9]] ->
      ∀ z10 : Int,0 <= z10 -> z10 <= 9223372036854775807 -> z10 = fnD 0 [z9] ->
      (((decide (0 < z10)) = true ->
       chkD 1 [z9,0] /\
       ∀ z11 : Int,0 <= z11 -> z11 <= 255 -> z11 = fnD 1 [z9,0] ->
       ∀ z12 : Int,0 <= z12 -> z12 <= 1 -> z12 = fnD 43 [n,z11] ->
       ((((!(decide (z12 = 1)))) = true ->
         KBv SB [.str] id [[z0]] [[z9]]
       ) /\ (((!(decide (z12 = 1)))) = false ->
        ∀ z13 : Int,0 <= z13 -> z13 <= 9223372036854775807 -> z13 = fnD 0 [z9] ->
        chkD 2 [z9,1,z13] /\
        ∀ z14 : Int,0 <= z14 -> z14 <= HB -> z14 = fnD 2 [z9,1,z13] ->
        (I8 [[z14]] /\ μ8 [[z14]] < μ8 [[z9]])
       ))
      ) /\ ((decide (0 < z10)) = false ->
       KBv SB [.str] id [[z0]] [[z9]]
      ))
     )
    ) /\ (((!(decide (z7 = 1)))) = false ->
     ∀ z8 : Int,0 <= z8 -> z8 <= 9223372036854775807 -> z8 = fnD 0 [z3] ->
     chkD 2 [z3,0,(z8 + (-1))] /\
     ∀ z9 : Int,0 <= z9 -> z9 <= HB -> z9 = fnD 2 [z3,0,(z8 + (-1))] ->
     (I2 [[z9]] /\ μ2 [[z9]] < μ2 [[z3]])
    ))
   ) /\ ((decide (0 < z4)) = false ->
    ∃ (I5 : List (List Int) -> Prop) (μ5 : List (List Int) -> Nat),I5 [[z3]] /\ (∀ z6 : Int,0 <= z6 -> z6 <= HB -> I5 [[z6]] ->
     ∀ z7 : Int,0 <= z7 -> z7 <= 9223372036854775807 -> z7 = fnD 0 [z6] ->
     (((decide (0 < z7)) = true ->
      chkD 1 [z6,0] /\
      ∀ z8 : Int,0 <= z8 -> z8 <= 255 -> z8 = fnD 1 [z6,0] ->
      ∀ z9 : Int,0 <= z9 -> z9 <= 1 -> z9 = fnD 43 [n,z8] ->
      ((((!(decide (z9 = 1)))) = true ->
        KBv SB [.str] id [[z0]] [[z6]]
      ) /\ (((!(decide (z9 = 1)))) = false ->
       ∀ z10 : Int,0 <= z10 -> z10 <= 9223372036854775807 -> z10 = fnD 0 [z6] ->
       chkD 2 [z6,1,z10] /\
       ∀ z11 : Int,0 <= z11 -> z11 <= HB -> z11 = fnD 2 [z6,1,z10] ->
       (I5 [[z11]] /\ μ5 [[z11]] < μ5 [[z6]])
      ))
     ) /\ ((decide (0 < z7)) = false ->
      KBv SB [.str] id [[z0]] [[z6]]
     ))
    )
   ))
  )
 ))) := by
  intro z0 a0 a1 z1 b0 b1 hz1
  rw [eq_nil hz1]
  have inner : ∀ z3 : Int,0 <= z3 -> z3 <= HB -> sOf z3 = rtr p (sOf z0) -> ∃ (I8 : List (List Int) -> Prop) (μ8 : List (List Int) -> Nat),I8 [[z3]] /\ (∀ z9 : Int,0 <= z9 -> z9 <= HB -> I8 [[z9]] ->
   ∀ z10 : Int,0 <= z10 -> z10 <= 9223372036854775807 -> z10 = fnD 0 [z9] ->
   (((decide (0 < z10)) = true ->
    chkD 1 [z9,0] /\
    ∀ z11 : Int,0 <= z11 -> z11 <= 255 -> z11 = fnD 1 [z9,0] ->
    ∀ z12 : Int,0 <= z12 -> z12 <= 1 -> z12 = fnD 43 [n,z11] ->
    ((((!(decide (z12 = 1)))) = true ->
     KBv SB [.str] id [[z0]] [[z9]]
    ) /\ (((!(decide (z12 = 1)))) = false ->
     ∀ z13 : Int,0 <= z13 -> z13 <= 9223372036854775807 -> z13 = fnD 0 [z9] ->
     chkD 2 [z9,1,z13] /\
     ∀ z14 : Int,0 <= z14 -> z14 <= HB -> z14 = fnD 2 [z9,1,z13] ->
     (I8 [[z14]] /\ μ8 [[z14]] < μ8 [[z9]])
    ))
   ) /\ ((decide (0 < z10)) = false ->
    KBv SB [.str] id [[z0]] [[z9]]
   ))) := by
   intro z3 a0 a1 h3
   refine ⟨fun bl => ∃ z,bl = [[z]] /\ ltr p (sOf z) = ltr p (rtr p (sOf z0)),fun bl => (sOf ((bl.getD 0 []).getD 0 0)).length,⟨z3,rfl,by rw [h3]⟩,?_⟩
   rintro z9 c0 c1 ⟨z,e,hz⟩
   obtain rfl : z9 = z := by simpa using e
   intro z4 d0 d1 hz4
   simp only [fnD] at hz4
   cases hl : sOf z9 with
   | nil =>
    rw [hl] at hz4 hz
    simp only [List.length_nil] at hz4
    subst hz4
    refine ⟨fun hp => by simp at hp,fun _ => ⟨⟨c0,c1,trivial⟩,?_⟩⟩
    rw [hid,hl]; exact hz
   | cons x r =>
    rw [hl] at hz4 hz
    simp only [List.length_cons] at hz4
    refine ⟨fun _ => ⟨⟨Int.le_refl _,by rw [hl]; simp only [List.length_cons]; omega⟩,?_⟩,fun hp => by simp at hp; omega⟩
    intro z5 e0 e1 hz5
    simp only [fnD,hl,Int.toNat_zero,List.getD_cons_zero] at hz5
    intro z6 f0 f1 hz6
    rw [fn43 hn hz6,hz5,u8_of]
    refine ⟨fun he => ⟨⟨c0,c1,trivial⟩,?_⟩,fun he => ?_⟩
    ·rw [hid,hl]
     have he : p x = false := by simpa using he
     show x :: r = ltr p (rtr p (sOf z0))
     rw [<- hz]
     simp [ltr,List.dropWhile_cons,he]
    ·have he : p x = true := by simpa using he
     intro z13 f0 f1 hz6
     simp only [fnD,hl,List.length_cons] at hz6
     refine ⟨⟨by omega,by omega,by rw [hl]; simp only [List.length_cons]; omega⟩,?_⟩
     intro z7 g0 g1 hz7
     have hr : sOf z7 = r := by
      rw [hz7]; simp only [fnD,sOf_cOf,hl]
      rw [show (1 : Int).toNat = 1 from rfl,List.drop_one,List.tail_cons]
      exact List.take_of_length_le (by omega)
     refine ⟨⟨z7,rfl,?_⟩,?_⟩
     ·rw [hr,<- hz]; simp only [ltr,List.dropWhile_cons,he,if_true]
     ·show (sOf z7).length < (sOf z9).length
      rw [hr,hl]; simp
  refine ⟨fun h => ⟨⟨a0,a1,trivial⟩,?_⟩,fun h => ?_⟩
  ·rw [hid]
   have : sOf z0 = [] := by simpa using h
   rw [this]; rfl
  ·refine ⟨fun bl => ∃ z,bl = [[z]] /\ rtr p (sOf z) = rtr p (sOf z0),fun bl => (sOf ((bl.getD 0 []).getD 0 0)).length,⟨z0,rfl,rfl⟩,?_⟩
   rintro z3 c0 c1 ⟨z,e,hz⟩
   obtain rfl : z3 = z := by simpa using e
   intro z4 d0 d1 hz4
   simp only [fnD] at hz4
   by_cases hl : sOf z3 = []
   ·have hz4' := hz4
    rw [hl] at hz4
    simp only [List.length_nil] at hz4
    subst hz4
    refine ⟨fun hp => by simp at hp,fun _ => inner z3 c0 c1 ?_⟩
    rw [hl] at hz ⊢
    exact hz
   ·obtain ⟨r,x,hl⟩ := snoc_of hl
    rw [hl] at hz4 hz
    simp only [List.length_append,List.length_cons,List.length_nil] at hz4
    refine ⟨fun _ => ?_,fun hp => by simp at hp; omega⟩
    intro z5 d0 d1 hz5
    simp only [fnD,hl,List.length_append,List.length_cons,List.length_nil] at hz5
    refine ⟨⟨by omega,by rw [hl]; simp only [List.length_append,List.length_cons,List.length_nil]; omega⟩,?_⟩
    intro z6 f0 f1 hz6
    have ht : (z5 + -1).toNat = r.length := by omega
    simp only [fnD,hl,ht] at hz6
    rw [show ((r ++ [x]).getD r.length 0) = x by simp [List.getD]] at hz6
    intro z7 g0 g1 hz7
    rw [fn43 hn hz7,hz6,u8_of]
    refine ⟨fun he => inner z3 c0 c1 ?_,fun he => ?_⟩
    ·have he : p x = false := by simpa using he
     rw [hl,<- hz,rtr_snoc,he,cond_false]
    ·have he : p x = true := by simpa using he
     intro z7 f0 f1 hz7
     simp only [fnD,hl,List.length_append,List.length_cons,List.length_nil] at hz7
     have ht7 : (z7 + -1).toNat = r.length := by omega
     refine ⟨⟨by omega,by omega,by rw [hl]; simp only [List.length_append,List.length_cons,List.length_nil]; omega⟩,?_⟩
     intro z8 g0 g1 hz8
     have hr : sOf z8 = r := by
      rw [hz8]; simp only [fnD,sOf_cOf,hl,ht7]
      simp
     refine ⟨⟨z8,rfl,?_⟩,?_⟩
     ·rw [hr,<- hz,rtr_snoc,he,cond_true]
     ·show (sOf z8).length < (sOf z3).length
      rw [hr,hl]; simp
theorem allB256 {q p : UInt8 -> Bool} (h : ((List.range 256).all fun i => q (UInt8.ofNat i) == p (UInt8.ofNat i)) = true) (c : UInt8) : q c = p c := by
 have := List.all_eq_true.1 h c.toNat (List.mem_range.2 c.toNat_lt)
 simpa using this
theorem p_tdm : B_tdm SB (KBv SB [.str] 122) := p_trimB (n := 12125) (p := edgeH) (allB256 (by decide +kernel)) fun _ _ => rfl
theorem p_thost : B_thost SB (KBv SB [.str] 123) := p_trimB (n := 8267443711659794979134808499087199072256874527605039863196959864303977456569186565734100443375465041388132907546406408792979960403300126342849461211344038) (p := inHost) (allB256 (by decide +kernel)) fun _ _ => rfl
theorem p_tdig : B_tdig SB (KBv SB [.str] 124) := p_trimB (n := 284767230291263911083031) (p := isD) (allB256 (by decide +kernel)) fun _ _ => rfl
def B_low (S : Nat -> List (List Int) -> List (List Int) -> Prop) (K : List (List Int) -> List (List Int) -> Prop) : Prop :=
 ∀ z0 : Int,0 <= z0 -> z0 <= HB ->
 ∀ z1 : Int,0 <= z1 -> z1 <= RB -> z1 = fnD 27 [z0] ->
 ∀ z2 : Int,0 <= z2 -> z2 <= 9223372036854775807 -> z2 = fnD 0 [z0] ->
 ∀ z3 : Int,(-1) <= z3 -> z3 <= 9223372036854775807 ->
 ∃ (I4 : List (List Int) -> Prop) (μ4 : List (List Int) -> Nat),I4 [[0],[z1]] /\ (∀ z5 : Int,0 <= z5 -> z5 <= 9223372036854775807 -> ∀ z6 : Int,0 <= z6 -> z6 <= RB -> I4 [[z5],[z6]] ->
  (((decide (z5 < z2)) = true ->
   chkD 30 [z5,z2] /\
   chkD 21 [z6,z5] /\
   ∀ z7 : Int,0 <= z7 -> z7 <= 255 -> z7 = fnD 21 [z6,z5,0] ->
   (((decide (65 <= z7)) = true ->
    (((decide (z7 <= 90)) = true ->
     ∀ z8 : Int,0 <= z8 -> z8 <= IntKind.max .u8 -> z8 = bitI .or .u8 z7 32 ->
     chkD 30 [z5,z2] /\
     chkD 21 [z6,z5] /\
     (chkD 67 [z6,z5,1] ->
     ∀ z9 : Int,0 <= z9 -> z9 <= RB -> z9 = fnD 42 [z6,z5,0,z8] ->
     ∀ z10 : Int,0 <= z10 -> z10 <= 1 -> 0 <= (z5 + 9223372036854775809) - 18446744073709551616 * z10 -> (z5 + 9223372036854775809) - 18446744073709551616 * z10 < 18446744073709551616 ->
     chkD 39 [((z5 + ((-18446744073709551616) * z10)) + 1),0,9223372036854775807] /\
     (I4 [[((z5 + ((-18446744073709551616) * z10)) + 1)],[z9]] /\ μ4 [[((z5 + ((-18446744073709551616) * z10)) + 1)],[z9]] < μ4 [[z5],[z6]])
     )
    ) /\ ((decide (z7 <= 90)) = false ->
     ∀ z8 : Int,0 <= z8 -> z8 <= 1 -> 0 <= (z5 + 9223372036854775809) - 18446744073709551616 * z8 -> (z5 + 9223372036854775809) - 18446744073709551616 * z8 < 18446744073709551616 ->
     chkD 39 [((z5 + ((-18446744073709551616) * z8)) + 1),0,9223372036854775807] /\
     (I4 [[((z5 + ((-18446744073709551616) * z8)) + 1)],[z6]] /\ μ4 [[((z5 + ((-18446744073709551616) * z8)) + 1)],[z6]] < μ4 [[z5],[z6]])
    ))
   ) /\ ((decide (65 <= z7)) = false ->
    ∀ z8 : Int,0 <= z8 -> z8 <= 1 -> 0 <= (z5 + 9223372036854775809) - 18446744073709551616 * z8 -> (z5 + 9223372036854775809) - 18446744073709551616 * z8 < 18446744073709551616 ->
    chkD 39 [((z5 + ((-18446744073709551616) * z8)) + 1),0,9223372036854775807] /\
    (I4 [[((z5 + ((-18446744073709551616) * z8)) + 1)],[z6]] /\ μ4 [[((z5 + ((-18446744073709551616) * z8)) + 1)],[z6]] < μ4 [[z5],[z6]])
   ))
  ) /\ ((decide (z5 < z2)) = false ->
   chkD 35 [z6,0,z2] /\
   ∀ z7 : Int,0 <= z7 -> z7 <= HB -> z7 = fnD 34 [z6,0,z2] ->
   K [[z0]] [[z7]]
  ))
 )
def B_rlow (S : Nat -> List (List Int) -> List (List Int) -> Prop) (K : List (List Int) -> List (List Int) -> Prop) : Prop :=
 ∀ z0 : Int,0 <= z0 -> z0 <= HB ->
 ∀ z1 : Int,0 <= z1 -> z1 <= RB -> z1 = fnD 27 [z0] ->
 ∀ z2 : Int,0 <= z2 -> z2 <= 9223372036854775807 -> z2 = fnD 0 [z0] ->
 ∀ z3 : Int,(-1) <= z3 -> z3 <= 9223372036854775807 ->
 ∃ (I4 : List (List Int) -> Prop) (μ4 : List (List Int) -> Nat),I4 [[0],[z1]] /\ (∀ z5 : Int,0 <= z5 -> z5 <= 9223372036854775807 -> ∀ z6 : Int,0 <= z6 -> z6 <= RB -> I4 [[z5],[z6]] ->
  (((decide (z5 < z2)) = true ->
   chkD 30 [z5,z2] /\
   chkD 21 [z6,z5] /\
   ∀ z7 : Int,0 <= z7 -> z7 <= 255 -> z7 = fnD 21 [z6,z5,0] ->
   (((decide (65 <= z7)) = true ->
    chkD 30 [z5,z2] /\
    chkD 21 [z6,z5] /\
    ∀ z8 : Int,0 <= z8 -> z8 <= 255 -> z8 = fnD 21 [z6,z5,0] ->
    (((decide (z8 <= 90)) = true ->
     chkD 30 [z5,z2] /\
     chkD 21 [z6,z5] /\
     ∀ z9 : Int,0 <= z9 -> z9 <= 255 -> z9 = fnD 21 [z6,z5,0] ->
     ∀ z10 : Int,0 <= z10 -> z10 <= 1 -> 0 <= (z9 + 32) - 256 * z10 -> (z9 + 32) - 256 * z10 < 256 ->
     chkD 30 [z5,z2] /\
     chkD 21 [z6,z5] /\
     (chkD 67 [z6,z5,1] ->
     ∀ z11 : Int,0 <= z11 -> z11 <= RB -> z11 = fnD 42 [z6,z5,0,((z9 + ((-256) * z10)) + 32)] ->
     ∀ z12 : Int,0 <= z12 -> z12 <= 1 -> 0 <= (z5 + 9223372036854775809) - 18446744073709551616 * z12 -> (z5 + 9223372036854775809) - 18446744073709551616 * z12 < 18446744073709551616 ->
     chkD 39 [((z5 + ((-18446744073709551616) * z12)) + 1),0,9223372036854775807] /\
     (I4 [[((z5 + ((-18446744073709551616) * z12)) + 1)],[z11]] /\ μ4 [[((z5 + ((-18446744073709551616) * z12)) + 1)],[z11]] < μ4 [[z5],[z6]])
     )
    ) /\ ((decide (z8 <= 90)) = false ->
     ∀ z9 : Int,0 <= z9 -> z9 <= 1 -> 0 <= (z5 + 9223372036854775809) - 18446744073709551616 * z9 -> (z5 + 9223372036854775809) - 18446744073709551616 * z9 < 18446744073709551616 ->
     chkD 39 [((z5 + ((-18446744073709551616) * z9)) + 1),0,9223372036854775807] /\
     (I4 [[((z5 + ((-18446744073709551616) * z9)) + 1)],[z6]] /\ μ4 [[((z5 + ((-18446744073709551616) * z9)) + 1)],[z6]] < μ4 [[z5],[z6]])
    ))
   ) /\ ((decide (65 <= z7)) = false ->
    ∀ z8 : Int,0 <= z8 -> z8 <= 1 -> 0 <= (z5 + 9223372036854775809) - 18446744073709551616 * z8 -> (z5 + 9223372036854775809) - 18446744073709551616 * z8 < 18446744073709551616 ->
    chkD 39 [((z5 + ((-18446744073709551616) * z8)) + 1),0,9223372036854775807] /\
    (I4 [[((z5 + ((-18446744073709551616) * z8)) + 1)],[z6]] /\ μ4 [[((z5 + ((-18446744073709551616) * z8)) + 1)],[z6]] < μ4 [[z5],[z6]])
   ))
  ) /\ ((decide (z5 < z2)) = false ->
   chkD 35 [z6,0,z2] /\
   ∀ z7 : Int,0 <= z7 -> z7 <= HB -> z7 = fnD 34 [z6,0,z2] ->
   K [[z0]] [[z7]]
  ))
 )
def rowsL (l : Tx) : List (List Int) := l.map fun b => [(b.toNat : Int)]
theorem rowsL_len (l : Tx) : (rowsL l).length = l.length := by simp [rowsL]
theorem rowsL_get (l : Tx) (i : Nat) (h : i < l.length) : (rowsL l).getD i [] = [((l.getD i 0).toNat : Int)] := by
 simp [rowsL,List.getD,h]
theorem rowsL_set (l : Tx) (i : Nat) (c : UInt8) : (rowsL l).set i [(c.toNat : Int)] = rowsL (l.set i c) := by
 simp [rowsL,List.map_set]
theorem rowsL_back (l : Tx) : (rowsL l).map (fun row => UInt8.ofNat (row.getD 0 0).toNat) = l := by
 unfold rowsL
 rw [List.map_map]
 conv => rhs; rw [<- List.map_id l]
 exact List.map_congr_left fun b _ => by simp
def mixL (s : Tx) (i : Nat) : Tx := (s.take i).map lo ++ s.drop i
theorem mixL_len (s : Tx) (i : Nat) (h : i <= s.length) : (mixL s i).length = s.length := by
 simp [mixL]; omega
theorem mixL_get (s : Tx) (i : Nat) (h : i < s.length) : (mixL s i).getD i 0 = s.getD i 0 := by
 unfold mixL
 rw [drop_cons_getD s i h]
 simp only [List.getD]
 rw [List.getElem?_append_right (by simp; omega)]
 simp [show min i s.length = i by omega]
theorem mixL_succ (s : Tx) (i : Nat) (h : i < s.length) : mixL s (i + 1) = (mixL s i).set i (lo (s.getD i 0)) := by
 unfold mixL
 rw [take_succ_getD s i h,drop_cons_getD s i h,List.map_append]
 have : ((s.take i).map lo).length = i := by simp; omega
 rw [List.set_append_right _ _ (by omega),this]
 simp
theorem mixL_same (s : Tx) (i : Nat) (h : i < s.length) (hl : isG (s.getD i 0) = false) : mixL s (i + 1) = mixL s i := by
 unfold mixL
 have e : lo (s.getD i 0) = s.getD i 0 := by unfold lo; rw [hl]; rfl
 rw [take_succ_getD s i h,drop_cons_getD s i h,List.map_append,List.map_singleton,e]
 simp
theorem mixL_end (s : Tx) (i : Nat) (h : s.length <= i) : mixL s i = lower s := by
 unfold mixL lower
 rw [List.take_of_length_le h,List.drop_of_length_le h,List.append_nil]
theorem isG_iff {z : Int} {c : UInt8} (h : z = (c.toNat : Int)) : isG c = (decide (65 <= z) && decide (z <= 90)) := by
 rw [h]; unfold isG
 rw [Bool.eq_iff_iff]
 simp [Nat.ble_eq]
 omega
theorem lo_toNat {z : Int} {c : UInt8} (h : z = (c.toNat : Int)) (h1 : 65 <= z) (h2 : z <= 90) : z + 32 = ((lo c).toNat : Int) := by
 have := isG_iff h
 unfold lo
 rw [this,show decide (65 <= z) = true by simpa using h1,show decide (z <= 90) = true by simpa using h2]
 simp
 omega
theorem or32 {z : Int} (h1 : 65 <= z) (h2 : z <= 90) : bitI .or .u8 z 32 = z + 32 := by
 have h : ∀ i : Fin 26,bitI .or .u8 (65 + (i.val : Int)) 32 = 65 + (i.val : Int) + 32 := by decide +kernel
 have := h ⟨(z - 65).toNat,by omega⟩
 simp only at this
 rw [show (65 + ((z - 65).toNat : Int)) = z by omega] at this
 exact this
def LowI (z0 z1 : Int) (bl : List (List Int)) : Prop := ∃ (i : Nat) (r : Int),bl = [[(i : Int)],[r]] /\ i <= (sOf z0).length /\ rOf r = rowsL (mixL (sOf z0) i)
theorem LowI.start {z0 z1 : Int} (h : z1 = fnD 27 [z0]) : LowI z0 z1 [[0],[z1]] := by
 refine ⟨0,z1,rfl,Nat.zero_le _,?_⟩
 rw [h]; simp only [fnD,rOf_rc]
 simp [mixL,rowsL]
theorem LowI.get {z0 z2 r z7 : Int} {i : Nat} (h2 : z2 = fnD 0 [z0]) (hr : rOf r = rowsL (mixL (sOf z0) i)) (hi : i <= (sOf z0).length) (hp : (i : Int) < z2) : chkD 30 [(i : Int),z2] /\ chkD 21 [r,(i : Int)] /\ (z7 = fnD 21 [r,(i : Int),0] -> z7 = (((sOf z0).getD i 0).toNat : Int)) := by
 simp only [fnD] at h2
 refine ⟨⟨Int.natCast_nonneg _,hp⟩,⟨Int.natCast_nonneg _,?_⟩,fun h => ?_⟩
 ·rw [hr,rowsL_len,mixL_len _ _ hi]; omega
 ·rw [h]; simp only [fnD]
  rw [hr,Int.toNat_natCast,rowsL_get _ _ (by rw [mixL_len _ _ hi]; omega),mixL_get _ _ (by omega)]
  rfl
theorem LowI.set {z0 z1 z2 r z9 v : Int} {i : Nat} (h2 : z2 = fnD 0 [z0]) (hr : rOf r = rowsL (mixL (sOf z0) i)) (hi : i <= (sOf z0).length) (hp : (i : Int) < z2) (hv : v = ((lo ((sOf z0).getD i 0)).toNat : Int)) (h : z9 = fnD 42 [r,(i : Int),0,v]) : LowI z0 z1 [[(i : Int) + 1],[z9]] := by
 simp only [fnD] at h2
 refine ⟨i + 1,z9,by simp,by omega,?_⟩
 rw [h]; simp only [fnD,rOf_rc]
 have hl : i < (mixL (sOf z0) i).length := by rw [mixL_len _ _ hi]; omega
 rw [hr,Int.toNat_natCast,rowsL_get _ _ hl,mixL_succ _ _ (by omega),<- rowsL_set,hv]
 rfl
theorem LowI.same {z0 z1 z2 r : Int} {i : Nat} (h2 : z2 = fnD 0 [z0]) (hr : rOf r = rowsL (mixL (sOf z0) i)) (hi : i <= (sOf z0).length) (hp : (i : Int) < z2) (hg : isG ((sOf z0).getD i 0) = false) : LowI z0 z1 [[(i : Int) + 1],[r]] := by
 simp only [fnD] at h2
 refine ⟨i + 1,r,by simp,by omega,?_⟩
 rw [mixL_same _ _ (by omega) hg,hr]
theorem LowI.done {z0 z2 r : Int} {i : Nat} (h2 : z2 = fnD 0 [z0]) (hL : z0 <= HB) (hr : rOf r = rowsL (mixL (sOf z0) i)) (hi : i <= (sOf z0).length) (hp : ¬ (i : Int) < z2) : chkD 35 [r,0,z2] /\ ∀ z7,z7 = fnD 34 [r,0,z2] -> sOf z7 = lower (sOf z0) := by
 have hmx := HB_s hL
 unfold mxL at hmx
 simp only [fnD] at h2
 have hm := mixL_end (sOf z0) i (by omega)
 rw [hm] at hr
 have hlen : (lower (sOf z0)).length = (sOf z0).length := by simp [lower]
 refine ⟨⟨⟨by omega,by omega,by rw [hr,rowsL_len,hlen]; omega⟩,by omega⟩,fun z7 h => ?_⟩
 rw [h]; simp only [fnD,sOf_cOf]
 rw [hr,show ((rowsL (lower (sOf z0))).drop (0 : Int).toNat) = rowsL (lower (sOf z0)) from rfl,List.take_of_length_le (by rw [rowsL_len,hlen]; omega),rowsL_back]
def lowμ (z0 : Int) (bl : List (List Int)) : Nat := (sOf z0).length - ((bl.getD 0 []).getD 0 0).toNat
theorem lowμ_lt {z0 z2 r r' : Int} {i : Nat} (h2 : z2 = fnD 0 [z0]) (hp : (i : Int) < z2) : lowμ z0 [[(i : Int) + 1],[r]] < lowμ z0 [[(i : Int)],[r']] := by
 simp only [fnD] at h2
 show (sOf z0).length - ((i : Int) + 1).toNat < (sOf z0).length - (i : Int).toNat
 omega
theorem p_low : B_low SB (KBv SB [.str] 28) := by
 intro z0 a0 a1 z1 b0 b1 h1 z2 c0 c1 h2 z3 d0 d1
 refine ⟨LowI z0 z1,lowμ z0,LowI.start h1,?_⟩
 rintro z5 e0 e1 z6 f0 f1 ⟨i,r,e,hi,hr⟩
 obtain ⟨rfl,rfl⟩ : z5 = i /\ z6 = r := by simpa using e
 refine ⟨fun hp => ?_,fun hp => ?_⟩
 ·have hp : (i : Int) < z2 := by simpa using hp
  have hg := fun z7 => LowI.get (z7 := z7) h2 hr hi hp
  refine ⟨(hg 0).1,(hg 0).2.1,fun z7 g0 g1 h7 => ?_⟩
  have h7 := (hg z7).2.2 h7
  have hG := isG_iff h7
  refine ⟨fun hA => ⟨fun hB z8 k0 k1 h8 => ?_,fun hB z8 k0 k1 k2 k3 => ?_⟩,fun hA z8 k0 k1 k2 k3 => ?_⟩
  ·have hA' : 65 <= z7 := by simpa using hA
   have hB' : z7 <= 90 := by simpa using hB
   refine ⟨(hg 0).1,(hg 0).2.1,fun _ z9 l0 l1 h9 z10 m0 m1 m2 m3 => ?_⟩
   rw [wrap1 (L := z2) hp c1 e0 m0 m2]
   refine ⟨⟨by omega,by omega⟩,LowI.set h2 hr hi hp ?_ h9,lowμ_lt h2 hp⟩
   rw [h8,or32 hA' hB',lo_toNat h7 hA' hB']
  ·rw [wrap1 (L := z2) hp c1 e0 k0 k2]
   refine ⟨⟨by omega,by omega⟩,LowI.same h2 hr hi hp ?_,lowμ_lt h2 hp⟩
   rw [hG,hB]; simp
  ·rw [wrap1 (L := z2) hp c1 e0 k0 k2]
   refine ⟨⟨by omega,by omega⟩,LowI.same h2 hr hi hp ?_,lowμ_lt h2 hp⟩
   rw [hG,hA]; simp
 ·have hp : ¬ (i : Int) < z2 := by simpa using hp
  have hd := LowI.done h2 a1 hr hi hp
  exact ⟨hd.1,fun z7 g0 g1 h7 => ⟨⟨g0,g1,trivial⟩,hd.2 z7 h7⟩⟩
theorem p_rlow : B_rlow SB (KBv SB [.str] 17) := by
 intro z0 a0 a1 z1 b0 b1 h1 z2 c0 c1 h2 z3 d0 d1
 refine ⟨LowI z0 z1,lowμ z0,LowI.start h1,?_⟩
 rintro z5 e0 e1 z6 f0 f1 ⟨i,r,e,hi,hr⟩
 obtain ⟨rfl,rfl⟩ : z5 = i /\ z6 = r := by simpa using e
 refine ⟨fun hp => ?_,fun hp => ?_⟩
 ·have hp : (i : Int) < z2 := by simpa using hp
  have hg := fun z7 => LowI.get (z7 := z7) h2 hr hi hp
  refine ⟨(hg 0).1,(hg 0).2.1,fun z7 g0 g1 h7 => ?_⟩
  have h7 := (hg z7).2.2 h7
  have hG := isG_iff h7
  refine ⟨fun hA => ⟨(hg 0).1,(hg 0).2.1,fun z8 n0 n1 h8 => ⟨fun hB => ⟨(hg 0).1,(hg 0).2.1,fun z9 o0 o1 h9 z10 k0 k1 k2 k3 => ?_⟩,fun hB z9 k0 k1 k2 k3 => ?_⟩⟩,fun hA z8 k0 k1 k2 k3 => ?_⟩
  ·have h8 := (hg z8).2.2 h8
   have h9 := (hg z9).2.2 h9
   have hA' : 65 <= z7 := by simpa using hA
   have hB' : z8 <= 90 := by simpa using hB
   refine ⟨(hg 0).1,(hg 0).2.1,fun _ z11 l0 l1 h11 z12 m0 m1 m2 m3 => ?_⟩
   rw [wrap1 (L := z2) hp c1 e0 m0 m2]
   refine ⟨⟨by omega,by omega⟩,LowI.set h2 hr hi hp ?_ h11,lowμ_lt h2 hp⟩
   have := lo_toNat h9 (by omega) (by omega)
   omega
  ·have h8 := (hg z8).2.2 h8
   rw [wrap1 (L := z2) hp c1 e0 k0 k2]
   refine ⟨⟨by omega,by omega⟩,LowI.same h2 hr hi hp ?_,lowμ_lt h2 hp⟩
   rw [hG,h7.trans h8.symm,hB]; simp
  ·rw [wrap1 (L := z2) hp c1 e0 k0 k2]
   refine ⟨⟨by omega,by omega⟩,LowI.same h2 hr hi hp ?_,lowμ_lt h2 hp⟩
   rw [hG,hA]; simp
 ·have hp : ¬ (i : Int) < z2 := by simpa using hp
  have hd := LowI.done h2 a1 hr hi hp
  exact ⟨hd.1,fun z7 g0 g1 h7 => ⟨⟨g0,g1,trivial⟩,hd.2 z7 h7⟩⟩
end Go.Ad
set_option maxRecDepth 100000
set_option linter.unusedVariables false
set_option linter.unusedSimpArgs false
namespace Go.Ad
open Go Go.Rx
def B_host (S : Nat -> List (List Int) -> List (List Int) -> Prop) (K : List (List Int) -> List (List Int) -> Prop) : Prop :=
 ∀ z0 : Int,0 <= z0 -> z0 <= HB ->
 ∀ z1 : Int,0 <= z1 -> z1 <= 1 -> z1 = fnD 4 [z0,0] ->
 ((((!(decide (z1 = 1)))) = true ->
  ∀ z2 : Int,0 <= z2 -> z2 <= 9223372036854775807 -> z2 = fnD 0 [z0] ->
  (((decide (z2 <= 230)) = true ->
   ∀ z3 : Int,0 <= z3 -> z3 <= HB -> S 123 [[z0]] [[z3]] ->
   ∀ z4 : Int,0 <= z4 -> z4 <= 1 -> z4 = fnD 4 [z3,0] ->
   (((decide (z4 = 1)) = true ->
    ∀ z5 : Int,0 <= z5 -> z5 <= 1 -> S 65 [[z0],[3092260449727753699381237987134896180985020549865866695797500355328521677512090486983914513878993150076419119825652852662229468458769751959831595687466918]] [[z5]] ->
    (((decide (z5 = 1)) = true ->
     ∀ z6 : Int,0 <= z6 -> z6 <= HB -> S 122 [[z0]] [[z6]] ->
     ∀ z7 : Int,0 <= z7 -> z7 <= 1 -> z7 = fnD 4 [z6,z0] ->
     (((decide (z7 = 1)) = true ->
      chkD 41 [z0] /\
      ∀ z8 : Int,0 <= z8 -> z8 <= 1 -> S 128 [[z0]] [[z8]] ->
      K [[z0]] [[(cond ((!(decide (z8 = 1)))) 1 0)]]
     ) /\ ((decide (z7 = 1)) = false ->
      K [[z0]] [[(cond (false) 1 0)]]
     ))
    ) /\ ((decide (z5 = 1)) = false ->
     K [[z0]] [[(cond (false) 1 0)]]
    ))
   ) /\ ((decide (z4 = 1)) = false ->
    K [[z0]] [[(cond (false) 1 0)]]
   ))
  ) /\ ((decide (z2 <= 230)) = false ->
   K [[z0]] [[(cond (false) 1 0)]]
  ))
 ) /\ (((!(decide (z1 = 1)))) = false ->
  K [[z0]] [[(cond (false) 1 0)]]
 ))
def B_local (S : Nat -> List (List Int) -> List (List Int) -> Prop) (K : List (List Int) -> List (List Int) -> Prop) : Prop :=
 ∀ z0 : Int,0 <= z0 -> z0 <= HB ->
 ∀ z1 : Int,0 <= z1 -> z1 <= 1 -> z1 = fnD 4 [z0,0] ->
 (((decide (z1 = 1)) = true ->
  K [[z0]] [[(cond (false) 1 0)]]
 ) /\ ((decide (z1 = 1)) = false ->
  ∀ z2 : Int,0 <= z2 -> z2 <= 9223372036854775807 -> z2 = fnD 0 [z0] ->
  (((decide (64 < z2)) = true ->
   K [[z0]] [[(cond (false) 1 0)]]
  ) /\ ((decide (64 < z2)) = false ->
   ∀ z3 : Int,0 <= z3 -> z3 <= 1 -> S 44 [[z0],[74473080028620518966381883429228484808440201678127597570840141201138927665149786990616077870556514776478160775702785383470653111892427074463158448094822482491594731032954821022169486867841687777697]] [[z3]] ->
   ((((!(decide (z3 = 1)))) = true ->
    K [[z0]] [[(cond (false) 1 0)]]
   ) /\ (((!(decide (z3 = 1)))) = false ->
    ∀ z4 : Int,0 <= z4 -> z4 <= HB -> S 121 [[z0]] [[z4]] ->
    ∀ z5 : Int,0 <= z5 -> z5 <= 1 -> z5 = fnD 4 [z4,z0] ->
    (((decide (z5 = 1)) = true ->
     chkD 41 [z0] /\
     ∀ z6 : Int,0 <= z6 -> z6 <= 1 -> S 128 [[z0]] [[z6]] ->
     K [[z0]] [[(cond ((!(decide (z6 = 1)))) 1 0)]]
    ) /\ ((decide (z5 = 1)) = false ->
     K [[z0]] [[(cond (false) 1 0)]]
    ))
   ))
  ))
 ))
theorem ltr_len (p : UInt8 -> Bool) (l : Tx) : (ltr p l).length <= l.length := (List.dropWhile_sublist p).length_le
theorem rtr_len (p : UInt8 -> Bool) (l : Tx) : (rtr p l).length <= l.length := by
 unfold rtr; rw [List.length_reverse]
 have := ltr_len p l.reverse
 rwa [List.length_reverse] at this
theorem ltr_full {p : UInt8 -> Bool} {l : Tx} (h : l.length <= (ltr p l).length) : ltr p l = l := (List.dropWhile_suffix p).eq_of_length (Nat.le_antisymm (ltr_len p l) h)
theorem rtr_full {p : UInt8 -> Bool} {l : Tx} (h : l.length <= (rtr p l).length) : rtr p l = l := by
 have : ltr p l.reverse = l.reverse := ltr_full (by unfold rtr at h; rw [List.length_reverse] at h; rw [List.length_reverse]; exact h)
 unfold rtr; unfold ltr at this; rw [this,List.reverse_reverse]
theorem getD_last (r : Tx) (x : UInt8) : (r ++ [x]).getD r.length 0 = x := by simp [List.getD]
theorem trimS_eq (p : UInt8 -> Bool) (s : Tx) : trimS p s = s ↔ ∀ i,i < s.length -> p (s.getD i 0) = true -> 0 < i /\ i + 1 < s.length := by
 by_cases hs : s = []
 ·subst hs; exact ⟨fun _ i h => by simp at h,fun _ => rfl⟩
 ·constructor
  ·intro h i hi hp
   have hl : s.length <= (trimS p s).length := by rw [h]; exact Nat.le_refl _
   have h1 := ltr_len p (rtr p s)
   have hr : rtr p s = s := rtr_full (Nat.le_trans hl h1)
   have ht : ltr p s = s := by unfold trimS at h; rwa [hr] at h
   refine ⟨Nat.pos_of_ne_zero fun h0 => ?_,Nat.lt_of_le_of_ne hi fun h0 => ?_⟩
   ·subst h0
    cases s with
    | nil => exact hs rfl
    | cons x r =>
     have hp : p x = true := hp
     have h2 : ltr p (x :: r) = ltr p r := by simp [ltr,List.dropWhile_cons,hp]
     have := ltr_len p r
     rw [h2] at ht
     rw [ht] at this
     simp at this
     omega
   ·obtain ⟨r,x,rfl⟩ := snoc_of hs
    have : i = r.length := by simp at h0; omega
    subst this
    rw [getD_last] at hp
    rw [rtr_snoc,hp,cond_true] at hr
    have := rtr_len p r
    rw [hr] at this
    simp at this
    omega
  ·intro h
   have hr : rtr p s = s := by
    obtain ⟨r,x,rfl⟩ := snoc_of hs
    rw [rtr_snoc]
    cases hx : p x with
    | false => rfl
    | true => have := (h r.length (by simp) (by rw [getD_last]; exact hx)).2; simp at this
   unfold trimS; rw [hr]
   cases s with
   | nil => rfl
   | cons x r =>
    cases hx : p x with
    | false => simp [ltr,List.dropWhile_cons,hx]
    | true => have := (h 0 (by simp) hx).1; omega
theorem all_iff (p : UInt8 -> Bool) (s : Tx) : s.all p = true ↔ ∀ i,i < s.length -> p (s.getD i 0) = true := by
 rw [List.all_eq_true]
 constructor
 ·intro h i hi
  refine h _ ?_
  simp [List.getD,hi]
 ·intro h x hx
  obtain ⟨i,hi,rfl⟩ := List.getElem_of_mem hx
  have := h i hi
  simpa [List.getD,hi] using this
theorem dd_iff (s : Tx) : dd s = false ↔ ∀ i,i < s.length -> ¬ (s.getD i 0 = 46 /\ s.getD (i + 1) 0 = 46) := by
 unfold dd
 rw [List.any_eq_false]
 constructor
 ·intro h i hi hh
  exact h i (List.mem_range.2 hi) (by rw [hh.1,hh.2]; rfl)
 ·intro h i hi hh
  rw [Bool.and_eq_true,beq_iff_eq,beq_iff_eq] at hh
  exact h i (List.mem_range.1 hi) hh
theorem okP_iff (inn edge : UInt8 -> Bool) (s : Tx) : okP inn edge s = true ↔ ∀ i,i < s.length -> inn (s.getD i 0) = true /\ (edge (s.getD i 0) = true -> 0 < i /\ i + 1 < s.length) /\ ¬ (s.getD i 0 = 46 /\ 0 < i /\ s.getD (i - 1) 0 = 46) := by
 unfold okP
 rw [List.all_eq_true]
 constructor
 ·intro h i hi
  have := h i (List.mem_range.2 hi)
  simp only [Bool.and_eq_true,Bool.or_eq_true,Bool.not_eq_true',Nat.blt_eq,Bool.and_eq_false_iff,beq_eq_false_iff_ne] at this
  refine ⟨this.1.1,fun he => ?_,fun hh => ?_⟩
  ·rcases this.1.2 with h1 | h1
   ·rw [h1] at he; cases he
   ·exact h1
  ·have h3 : Nat.blt 0 i = true := by rw [Nat.blt_eq]; exact hh.2.1
   rcases this.2 with (h1 | h1) | h1
   ·exact h1 hh.1
   ·rw [h3] at h1; cases h1
   ·exact h1 hh.2.2
 ·intro h i hi
  obtain ⟨h1,h2,h3⟩ := h i (List.mem_range.1 hi)
  simp only [Bool.and_eq_true,Bool.or_eq_true,Bool.not_eq_true',Nat.blt_eq,Bool.and_eq_false_iff,beq_eq_false_iff_ne]
  refine ⟨⟨h1,?_⟩,?_⟩
  ·cases he : edge (s.getD i 0) with
   | false => exact .inl rfl
   | true => exact .inr (h2 he)
  ·by_cases e1 : s.getD i 0 = 46
   ·by_cases e2 : s.getD (i - 1) 0 = 46
    ·left; right
     cases hb : Nat.blt 0 i with
     | false => rfl
     | true => rw [Nat.blt_eq] at hb; exact absurd ⟨e1,hb,e2⟩ h3
    ·exact .inr e2
   ·exact .inl (.inl e1)
theorem okP_eq (inn edge : UInt8 -> Bool) (s : Tx) : okP inn edge s = (s.all inn && decide (trimS edge s = s) && !dd s) := by
 rw [Bool.eq_iff_iff,okP_iff,Bool.and_eq_true,Bool.and_eq_true,all_iff,decide_eq_true_eq,trimS_eq,Bool.not_eq_true',dd_iff]
 constructor
 ·intro h
  refine ⟨⟨fun i hi => (h i hi).1,fun i hi => (h i hi).2.1⟩,fun i hi hh => ?_⟩
  by_cases hj : i + 1 < s.length
  ·exact (h (i + 1) hj).2.2 ⟨hh.2,by omega,by simpa using hh.1⟩
  ·have : s.getD (i + 1) 0 = 0 := by simp [List.getD,show s.length <= i + 1 by omega]
   rw [this] at hh; exact absurd hh.2 (by decide)
 ·rintro ⟨⟨h1,h2⟩,h3⟩ i hi
  refine ⟨h1 i hi,h2 i hi,fun hh => ?_⟩
  exact h3 (i - 1) (by omega) ⟨hh.2.2,by rw [show i - 1 + 1 = i by omega]; exact hh.1⟩
theorem dropWhile_all {p : UInt8 -> Bool} : ∀ {l : Tx},l.all p = true -> l.dropWhile p = []
 | [],_ => rfl
 | x :: r,h => by
  simp only [List.all_cons,Bool.and_eq_true] at h
  rw [List.dropWhile_cons,if_pos h.1]
  exact dropWhile_all h.2
theorem trimS_all {p : UInt8 -> Bool} {s : Tx} (h : s.all p = true) : trimS p s = [] := by
 have : rtr p s = [] := by
  unfold rtr
  have : s.reverse.all p = true := by rw [List.all_reverse]; exact h
  rw [dropWhile_all this]; rfl
 unfold trimS; rw [this]; rfl
theorem eq_dec {z a b : Int} (h : z = fnD 4 [a,b]) : decide (z = 1) = decide (sOf a = sOf b) := by
 rw [h]; simp only [fnD]
 by_cases e : sOf a = sOf b <;> simp [e]
theorem nn_dec {z a : Int} (h : z = fnD 4 [a,0]) : (!decide (z = 1)) = Nat.blt 0 (sOf a).length := by
 rw [eq_nil h]
 cases sOf a with
 | nil => rfl
 | cons x r => simp
theorem len_dec {z a n : Int} (m : Nat) (hm : n = (m : Int)) (h : z = fnD 0 [a]) : decide (z <= n) = Nat.ble (sOf a).length m := by
 rw [h,hm]; simp only [fnD]
 rw [Bool.eq_iff_iff,decide_eq_true_eq,Nat.ble_eq]; omega
theorem len_gt {z a n : Int} (m : Nat) (hm : n = (m : Int)) (h : z = fnD 0 [a]) : decide (n < z) = !Nat.ble (sOf a).length m := by
 rw [h,hm]; simp only [fnD]
 rw [Bool.eq_iff_iff,decide_eq_true_eq,Bool.not_eq_true',<- Bool.not_eq_true,Nat.ble_eq]; omega
theorem b01_dec {z : Int} {b : Bool} (h : z = b01 b) : decide (z = 1) = b := by rw [h,b01_one]
theorem kb {id : Nat} {zs : List (List Int)} {b : Bool} (h : SB id zs [[b01 b]]) : KBv SB [.bool] id zs [[b01 b]] := ⟨⟨(b01_bd b).1,(b01_bd b).2,trivial⟩,h⟩
theorem only_host (s : Tx) {n : Int} (hn : ∀ c,(sOf n).contains c = inHost c) : (s.all fun c => (sOf n).contains c) = s.all inHost := by
 congr 1; funext c; exact hn c
theorem p_host : B_host SB (KBv SB [.bool] 47) := by
 intro z0 a0 a1 z1 b0 b1 h1
 have kk : ∀ b : Bool,hostb (sOf z0) = b -> KBv SB [.bool] 47 [[z0]] [[b01 b]] := fun b h => kb (by show b01 b = b01 (hostb (sOf z0)); rw [h])
 refine ⟨fun hp z2 c0 c1 h2 => ⟨fun hq z3 d0 d1 h3 z4 e0 e1 h4 => ⟨fun hr z5 f0 f1 h5 => ?_,fun hr => kk false ?_⟩,fun hq => kk false ?_⟩,fun hp => kk false ?_⟩
 ·rw [nn_dec h1] at hp
  rw [len_dec (n := 230) 230 rfl h2] at hq
  have h5 : z5 = b01 ((sOf z0).all fun c => (sOf _).contains c) := h5
  rw [only_host (sOf z0) (allB256 (by decide +kernel))] at h5
  rw [b01_dec h5]
  refine ⟨fun hs z6 g0 g1 h6 z7 i0 i1 h7 => ?_,fun hs => kk false ?_⟩
  ·have h6 : sOf z6 = trimS edgeH (sOf z0) := h6
   rw [eq_dec h7,h6]
   refine ⟨fun ht => ⟨?_,fun z8 j0 j1 h8 => ?_⟩,fun ht => kk false ?_⟩
   ·show (sOf z0).length <= 4294967280
    rw [Nat.ble_eq] at hq; omega
   ·have h8 : z8 = b01 (dd (sOf z0)) := h8
    rw [b01_dec h8]
    refine kk _ ?_
    unfold hostb; rw [hp,hq,okP_eq,hs,ht]; rfl
   ·unfold hostb; rw [okP_eq,ht]; simp
  ·unfold hostb; rw [okP_eq,hs]; simp
 ·have h3 : sOf z3 = trimS inHost (sOf z0) := h3
  rw [eq_nil h4,h3] at hr
  unfold hostb; rw [okP_eq]
  cases ha : (sOf z0).all inHost with
  | false => simp
  | true => rw [trimS_all ha] at hr; simp at hr
 ·rw [len_dec (n := 230) 230 rfl h2] at hq
  unfold hostb; rw [hq]; simp
 ·rw [nn_dec h1] at hp
  unfold hostb; rw [hp]; rfl
theorem p_local : B_local SB (KBv SB [.bool] 24) := by
 intro z0 a0 a1 z1 b0 b1 h1
 have kk : ∀ b : Bool,localb (sOf z0) = b -> KBv SB [.bool] 24 [[z0]] [[b01 b]] := fun b h => kb (by show b01 b = b01 (localb (sOf z0)); rw [h])
 have hn := nn_dec h1
 refine ⟨fun hp => kk false ?_,fun hp z2 c0 c1 h2 => ⟨fun hq => kk false ?_,fun hq z3 d0 d1 h3 => ?_⟩⟩
 ·rw [hp] at hn; unfold localb; rw [<- hn]; rfl
 ·rw [len_gt (n := 64) 64 rfl h2,Bool.not_eq_true'] at hq
  unfold localb; rw [hq]; simp
 ·rw [len_gt (n := 64) 64 rfl h2,Bool.not_eq_false'] at hq
  rw [hp] at hn
  have h3 : z3 = b01 ((sOf z0).all fun c => (sOf _).contains c) := h3
  have e : ((sOf z0).all fun c => (sOf 74473080028620518966381883429228484808440201678127597570840141201138927665149786990616077870556514776478160775702785383470653111892427074463158448094822482491594731032954821022169486867841687777697).contains c) = (sOf z0).all inLocal := congrArg (List.all (sOf z0)) (funext (allB256 (p := inLocal) (by decide +kernel)))
  rw [e] at h3
  rw [b01_dec h3]
  refine ⟨fun hs => kk false ?_,fun hs z4 e0 e1 h4 z5 f0 f1 h5 => ?_⟩
  ·have hs : (sOf z0).all inLocal = false := by simpa using hs
   unfold localb; rw [okP_eq,hs]; simp
  ·have hs : (sOf z0).all inLocal = true := by simpa using hs
   have h4 : sOf z4 = trimS (· == 46) (sOf z0) := h4
   rw [eq_dec h5,h4]
   refine ⟨fun ht => ⟨?_,fun z8 j0 j1 h8 => ?_⟩,fun ht => kk false ?_⟩
   ·show (sOf z0).length <= 4294967280
    rw [Nat.ble_eq] at hq; omega
   ·have h8 : z8 = b01 (dd (sOf z0)) := h8
    rw [b01_dec h8]
    refine kk _ ?_
    unfold localb; rw [<- hn,hq,okP_eq,hs,ht]; rfl
   ·unfold localb; rw [okP_eq,ht]; simp
def B_server (S : Nat -> List (List Int) -> List (List Int) -> Prop) (K : List (List Int) -> List (List Int) -> Prop) : Prop :=
 ∀ z0 : Int,0 <= z0 -> z0 <= HB ->
 ∀ z1 : Int,0 <= z1 -> z1 <= HB -> ∀ z2 : Int,0 <= z2 -> z2 <= HB -> ∀ z3 : Int,0 <= z3 -> z3 <= 1 -> S 126 [[z0]] [[z1],[z2],[z3]] ->
 ∀ z4 : Int,0 <= z4 -> z4 <= 1 -> S 47 [[z1]] [[z4]] ->
 (((decide (z4 = 1)) = true ->
  ((((!(decide (z3 = 1)))) = true ->
   K [[z0]] [[(cond (true) 1 0)]]
  ) /\ (((!(decide (z3 = 1)))) = false ->
   ∀ z5 : Int,0 <= z5 -> z5 <= 1 -> z5 = fnD 4 [z2,0] ->
   ((((!(decide (z5 = 1)))) = true ->
    ∀ z6 : Int,0 <= z6 -> z6 <= 9223372036854775807 -> z6 = fnD 0 [z2] ->
    (((decide (z6 <= 5)) = true ->
     ∀ z7 : Int,0 <= z7 -> z7 <= HB -> S 124 [[z2]] [[z7]] ->
     ∀ z8 : Int,0 <= z8 -> z8 <= 1 -> z8 = fnD 4 [z7,0] ->
     (((decide (z8 = 1)) = true ->
      ∀ z9 : Int,0 <= z9 -> z9 <= 1 -> S 65 [[z2],[284767230291263911083031]] [[z9]] ->
      K [[z0]] [[(cond (decide (z9 = 1)) 1 0)]]
     ) /\ ((decide (z8 = 1)) = false ->
      K [[z0]] [[(cond (false) 1 0)]]
     ))
    ) /\ ((decide (z6 <= 5)) = false ->
     K [[z0]] [[(cond (false) 1 0)]]
    ))
   ) /\ (((!(decide (z5 = 1)))) = false ->
    K [[z0]] [[(cond (false) 1 0)]]
   ))
  ))
 ) /\ ((decide (z4 = 1)) = false ->
  K [[z0]] [[(cond (false) 1 0)]]
 ))
def B_email (S : Nat -> List (List Int) -> List (List Int) -> Prop) (K : List (List Int) -> List (List Int) -> Prop) : Prop :=
 ∀ z0 : Int,0 <= z0 -> z0 <= HB ->
 ∀ z1 : Int,0 <= z1 -> z1 <= HB -> S 120 [[z0]] [[z1]] ->
 ∀ z2 : Int,0 <= z2 -> z2 <= HB -> ∀ z3 : Int,0 <= z3 -> z3 <= HB -> ∀ z4 : Int,0 <= z4 -> z4 <= 1 -> S 125 [[z1]] [[z2],[z3],[z4]] ->
 ((((!(decide (z4 = 1)))) = true ->
  K [[z0]] [[0],[2]]
 ) /\ (((!(decide (z4 = 1)))) = false ->
  ∀ z5 : Int,0 <= z5 -> z5 <= 9223372036854775807 -> z5 = fnD 0 [z1] ->
  (((decide (254 < z5)) = true ->
   K [[z0]] [[0],[2]]
  ) /\ ((decide (254 < z5)) = false ->
   ∀ z6 : Int,0 <= z6 -> z6 <= 1 -> S 24 [[z2]] [[z6]] ->
   ((((!(decide (z6 = 1)))) = true ->
    K [[z0]] [[0],[2]]
   ) /\ (((!(decide (z6 = 1)))) = false ->
    ∀ z7 : Int,(-1) <= z7 -> z7 <= 9223372036854775807 -> S 73 [[z3],[58]] [[z7]] ->
    (((decide (0 <= z7)) = true ->
     K [[z0]] [[0],[2]]
    ) /\ ((decide (0 <= z7)) = false ->
     ∀ z8 : Int,0 <= z8 -> z8 <= 1 -> S 127 [[z3]] [[z8]] ->
     ((((!(decide (z8 = 1)))) = true ->
      K [[z0]] [[0],[2]]
     ) /\ (((!(decide (z8 = 1)))) = false ->
      ∀ z9 : Int,0 <= z9 -> z9 <= 1 -> S 27 [[z3]] [[z9]] ->
      ((((!(decide (z9 = 1)))) = true ->
       K [[z0]] [[0],[2]]
      ) /\ (((!(decide (z9 = 1)))) = false ->
       ∀ z10 : Int,0 <= z10 -> z10 <= HB -> S 28 [[z1]] [[z10]] ->
       K [[z0]] [[z10],[0]]
      ))
     ))
    ))
   ))
  ))
 ))
def B_small (S : Nat -> List (List Int) -> List (List Int) -> Prop) (K : List (List Int) -> List (List Int) -> Prop) : Prop :=
 ∀ z0 : Int,0 <= z0 -> z0 <= 255 ->
 (((decide (97 <= z0)) = true ->
  K [[z0]] [[(cond (decide (z0 <= 122)) 1 0)]]
 ) /\ ((decide (97 <= z0)) = false ->
  K [[z0]] [[(cond (false) 1 0)]]
 ))
def B_great (S : Nat -> List (List Int) -> List (List Int) -> Prop) (K : List (List Int) -> List (List Int) -> Prop) : Prop :=
 ∀ z0 : Int,0 <= z0 -> z0 <= 255 ->
 (((decide (65 <= z0)) = true ->
  K [[z0]] [[(cond (decide (z0 <= 90)) 1 0)]]
 ) /\ ((decide (65 <= z0)) = false ->
  K [[z0]] [[(cond (false) 1 0)]]
 ))
def B_digit (S : Nat -> List (List Int) -> List (List Int) -> Prop) (K : List (List Int) -> List (List Int) -> Prop) : Prop :=
 ∀ z0 : Int,0 <= z0 -> z0 <= 255 ->
 (((decide (48 <= z0)) = true ->
  K [[z0]] [[(cond (decide (z0 <= 57)) 1 0)]]
 ) /\ ((decide (48 <= z0)) = false ->
  K [[z0]] [[(cond (false) 1 0)]]
 ))
theorem mem58 : inHost 58 = false := by decide
theorem hostb_no58 {s : Tx} (h : hostb s = true) : ¬ (58 : UInt8) ∈ s := fun hm => by
 unfold hostb at h
 rw [okP_eq] at h
 simp only [Bool.and_eq_true] at h
 have := List.all_eq_true.1 h.2.1.1 58 hm
 rw [mem58] at this; cases this
theorem serverb_host {s : Tx} (h : idx 58 s < 0) : serverb s = hostb s := by
 have : decide (0 <= idx 58 s) = false := by simpa using h
 unfold serverb cutF
 rw [this]
 simp
theorem p_server : B_server SB (KBv SB [.bool] 27) := by
 intro z0 a0 a1 z1 b0 b1 z2 c0 c1 z3 d0 d1 hS z4 e0 e1 h4
 have hS : (sOf z1,sOf z2,z3) = cutF 58 (sOf z0) := hS
 have h4 : z4 = b01 (hostb (sOf z1)) := h4
 have hv : serverb (sOf z0) = (hostb (sOf z1) && (decide (z3 = 0) || portb (sOf z2))) := by unfold serverb; rw [<- hS]
 have kk : ∀ b : Bool,serverb (sOf z0) = b -> KBv SB [.bool] 27 [[z0]] [[b01 b]] := fun b h => kb (by show b01 b = b01 (serverb (sOf z0)); rw [h])
 have h3 : (!decide (z3 = 1)) = decide (z3 = 0) := by
  rcases (show z3 = 0 ∨ z3 = 1 by omega) with rfl | rfl <;> rfl
 rw [b01_dec h4,h3]
 refine ⟨fun hp => ⟨fun hq => kk true ?_,fun hq z5 f0 f1 h5 => ?_⟩,fun hp => kk false ?_⟩
 ·rw [hv,hp,hq]; rfl
 ·have hn := nn_dec h5
  refine ⟨fun hr z6 g0 g1 h6 => ⟨fun hs z7 i0 i1 h7 z8 j0 j1 h8 => ?_,fun hs => kk false ?_⟩,fun hr => kk false ?_⟩
  ·rw [hr] at hn
   rw [len_dec (n := 5) 5 rfl h6] at hs
   have h7 : sOf z7 = trimS isD (sOf z2) := h7
   rw [eq_nil h8,h7]
   refine ⟨fun ht z9 k0 k1 h9 => ?_,fun ht => kk false ?_⟩
   ·have h9 : z9 = b01 ((sOf z2).all fun c => (sOf 284767230291263911083031).contains c) := h9
    have e : ((sOf z2).all fun c => (sOf 284767230291263911083031).contains c) = (sOf z2).all isD := congrArg (List.all (sOf z2)) (funext (allB256 (p := isD) (by decide +kernel)))
    rw [e] at h9
    rw [b01_dec h9]
    refine kk _ ?_
    rw [hv,hp,hq]; unfold portb; rw [<- hn,hs]; simp
   ·rw [hv,hp,hq]; unfold portb
    cases ha : (sOf z2).all isD with
    | false => simp
    | true => rw [trimS_all ha] at ht; simp at ht
  ·rw [len_dec (n := 5) 5 rfl h6] at hs
   rw [hv,hp,hq]; unfold portb; rw [hs]; simp
  ·rw [hr] at hn
   rw [hv,hp,hq]; unfold portb; rw [<- hn]; rfl
 ·rw [hv,hp]; rfl
theorem kse {id : Nat} {zs : List (List Int)} {a e : Int} (h0 : 0 <= a) (h1 : a <= HB) (e0 : 0 <= e) (e1 : e <= 21) (h : SB id zs [[a],[e]]) : KBv SB [.str,.int .i64 0 21] id zs [[a],[e]] := ⟨⟨h0,h1,e0,e1,trivial⟩,h⟩
theorem emailT_no {t : Tx} (h : (decide (0 <= idx 64 t) && Nat.ble t.length 254 && localb (t.take (idx 64 t).toNat) && hostb (t.drop ((idx 64 t).toNat + 1)) && (t.drop ((idx 64 t).toNat + 1)).contains 46) = false) : emailT t = ([],2) := by unfold emailT; rw [h]; rfl
theorem p_email : B_email SB (KBv SB [.str,.int .i64 0 21] 10) := by
 intro z0 a0 a1 z1 b0 b1 h1 z2 c0 c1 z3 d0 d1 z4 e0 e1 hS
 have h1 : sOf z1 = trimS (· == 32) (sOf z0) := h1
 have hS : (sOf z2,sOf z3,z4) = cutF 64 (sOf z1) := hS
 have kk : emailT (sOf z1) = ([],2) -> KBv SB [.str,.int .i64 0 21] 10 [[z0]] [[0],[2]] := fun h => kse (Int.le_refl _) HB_pos (by decide) (by decide) (by
  show (sOf 0,(2 : Int)) = emailF (sOf z0)
  unfold emailF; rw [<- h1,h]; rfl)
 unfold cutF at hS
 cases hi : decide (0 <= idx 64 (sOf z1)) with
 | false =>
  rw [hi] at hS
  simp only [cond_false,Prod.mk.injEq] at hS
  obtain ⟨_,_,rfl⟩ := hS
  exact ⟨fun _ => kk (emailT_no (by rw [hi]; rfl)),fun h => by simp at h⟩
 | true =>
  rw [hi] at hS
  simp only [cond_true,Prod.mk.injEq] at hS
  obtain ⟨h2,h3,rfl⟩ := hS
  refine ⟨fun h => by simp at h,fun _ z5 f0 f1 h5 => ⟨fun hq => kk (emailT_no ?_),fun hq z6 g0 g1 h6 => ?_⟩⟩
  ·rw [len_gt (n := 254) 254 rfl h5,Bool.not_eq_true'] at hq
   rw [hq]; simp
  ·rw [len_gt (n := 254) 254 rfl h5,Bool.not_eq_false'] at hq
   have h6 : z6 = b01 (localb (sOf z2)) := h6
   rw [b01_dec h6,h2]
   refine ⟨fun hl => kk (emailT_no ?_),fun hl z7 i0 i1 h7 => ?_⟩
   ·rw [Bool.not_eq_true'] at hl
    rw [hl]; simp
   ·rw [Bool.not_eq_false'] at hl
    have h7 : z7 = idx 58 (sOf z3) := h7
    refine ⟨fun hc => kk (emailT_no ?_),fun hc z8 j0 j1 h8 => ?_⟩
    ·have hc' : u8 58 ∈ sOf z3 := by
      have := idx_mem (c := 58) (by decide) (by decide) (sOf z3)
      rw [<- h7,hc] at this
      simpa using this.symm
     have : hostb (sOf z3) = false := by
      cases hh : hostb (sOf z3) with
      | false => rfl
      | true => exact absurd hc' (hostb_no58 hh)
     rw [<- h3,this]; simp
    ·have hlt : idx 58 (sOf z3) < 0 := by rw [<- h7]; simpa using hc
     have h8 : z8 = b01 ((sOf z3).contains 46) := h8
     rw [b01_dec h8]
     refine ⟨fun hd => kk (emailT_no ?_),fun hd z9 k0 k1 h9 => ?_⟩
     ·rw [Bool.not_eq_true'] at hd
      rw [<- h3,hd]; simp
     ·rw [Bool.not_eq_false'] at hd
      have h9 : z9 = b01 (serverb (sOf z3)) := h9
      rw [b01_dec h9,serverb_host hlt]
      refine ⟨fun hh => kk (emailT_no ?_),fun hh z10 l0 l1 h10 => ?_⟩
      ·rw [Bool.not_eq_true'] at hh
       rw [<- h3,hh]; simp
      ·rw [Bool.not_eq_false'] at hh
       have h10 : sOf z10 = lower (sOf z1) := h10
       refine kse l0 l1 (by decide) (by decide) ?_
       show (sOf z10,(0 : Int)) = emailF (sOf z0)
       unfold emailF emailT
       rw [<- h1,hi,hq,hl,<- h3,hh,hd,h10]
       rfl
theorem isR {lo hi : Nat} {z : Int} (h0 : 0 <= z) (h1 : z <= 255) : (Nat.ble lo (u8 z).toNat && Nat.ble (u8 z).toNat hi) = (decide ((lo : Int) <= z) && decide (z <= (hi : Int))) := by
 have := u8_toNat h0 h1
 rw [Bool.eq_iff_iff]
 simp [Nat.ble_eq]
 omega
theorem p_small : B_small SB (KBv SB [.bool] 50) := by
 intro z0 a0 a1
 have e := isR (lo := 97) (hi := 122) a0 a1
 have kk : ∀ b : Bool,isS (u8 z0) = b -> KBv SB [.bool] 50 [[z0]] [[b01 b]] := fun b h => kb (by show b01 b = b01 (isS (u8 z0)); rw [h])
 refine ⟨fun h => kk _ ?_,fun h => kk false ?_⟩
 ·unfold isS; rw [e]; have h : decide (((97 : Nat) : Int) <= z0) = true := h; rw [h]; rfl
 ·unfold isS; rw [e]; have h : decide (((97 : Nat) : Int) <= z0) = false := h; rw [h]; rfl
theorem p_great : B_great SB (KBv SB [.bool] 51) := by
 intro z0 a0 a1
 have e := isR (lo := 65) (hi := 90) a0 a1
 have kk : ∀ b : Bool,isG (u8 z0) = b -> KBv SB [.bool] 51 [[z0]] [[b01 b]] := fun b h => kb (by show b01 b = b01 (isG (u8 z0)); rw [h])
 refine ⟨fun h => kk _ ?_,fun h => kk false ?_⟩
 ·unfold isG; rw [e]; have h : decide (((65 : Nat) : Int) <= z0) = true := h; rw [h]; rfl
 ·unfold isG; rw [e]; have h : decide (((65 : Nat) : Int) <= z0) = false := h; rw [h]; rfl
theorem p_digit : B_digit SB (KBv SB [.bool] 52) := by
 intro z0 a0 a1
 have e := isR (lo := 48) (hi := 57) a0 a1
 have kk : ∀ b : Bool,isD (u8 z0) = b -> KBv SB [.bool] 52 [[z0]] [[b01 b]] := fun b h => kb (by show b01 b = b01 (isD (u8 z0)); rw [h])
 refine ⟨fun h => kk _ ?_,fun h => kk false ?_⟩
 ·unfold isD; rw [e]; have h : decide (((48 : Nat) : Int) <= z0) = true := h; rw [h]; rfl
 ·unfold isD; rw [e]; have h : decide (((48 : Nat) : Int) <= z0) = false := h; rw [h]; rfl
theorem two_of {r : List Int} (h : inB (repB 0 HB 2) r) : ∃ a b,r = [a,b] /\ 0 <= a /\ a <= HB /\ 0 <= b /\ b <= HB := by
 match r,h with
 | [a,b],h => exact ⟨a,b,rfl,h.1,h.2.1,h.2.2.1,h.2.2.2.1⟩
def B_tpre (S : Nat -> List (List Int) -> List (List Int) -> Prop) (K : List (List Int) -> List (List Int) -> Prop) : Prop :=
 ∀ z0 : Int,0 <= z0 -> z0 <= HB -> ∀ z1 : Int,0 <= z1 -> z1 <= HB ->
 ∀ z2 : Int,0 <= z2 -> z2 <= 9223372036854775807 -> z2 = fnD 0 [z0] ->
 ∀ z3 : Int,0 <= z3 -> z3 <= 9223372036854775807 -> z3 = fnD 0 [z1] ->
 (((decide (z3 <= z2)) = true ->
  ∀ z4 : Int,0 <= z4 -> z4 <= 9223372036854775807 -> z4 = fnD 0 [z1] ->
  chkD 2 [z0,0,z4] /\
  ∀ z5 : Int,0 <= z5 -> z5 <= HB -> z5 = fnD 2 [z0,0,z4] ->
  ∀ z6 : Int,0 <= z6 -> z6 <= 1 -> z6 = fnD 4 [z5,z1] ->
  (((decide (z6 = 1)) = true ->
   ∀ z7 : Int,0 <= z7 -> z7 <= 9223372036854775807 -> z7 = fnD 0 [z1] ->
   ∀ z8 : Int,0 <= z8 -> z8 <= 9223372036854775807 -> z8 = fnD 0 [z0] ->
   chkD 2 [z0,z7,z8] /\
   ∀ z9 : Int,0 <= z9 -> z9 <= HB -> z9 = fnD 2 [z0,z7,z8] ->
   K [[z0],[z1]] [[z9]]
  ) /\ ((decide (z6 = 1)) = false ->
   K [[z0],[z1]] [[z0]]
  ))
 ) /\ ((decide (z3 <= z2)) = false ->
  K [[z0],[z1]] [[z0]]
 ))
def B_rcountry (S : Nat -> List (List Int) -> List (List Int) -> Prop) (K : List (List Int) -> List (List Int) -> Prop) : Prop :=
 ∀ z0 : Int,0 <= z0 -> z0 <= HB ->
 ∀ z1 : Int,0 <= z1 -> z1 <= 1 -> z1 = fnD 4 [z0,17291] ->
 (((decide (z1 = 1)) = true ->
  K [[z0]] [[13674],[(cond (true) 1 0)],[(cond (true) 1 0)]]
 ) /\ ((decide (z1 = 1)) = false ->
  ∀ z2 : Int,0 <= z2 -> z2 <= 1 -> z2 = fnD 4 [z0,21674] ->
  (((decide (z2 = 1)) = true ->
   K [[z0]] [[50],[(cond (false) 1 0)],[(cond (true) 1 0)]]
  ) /\ ((decide (z2 = 1)) = false ->
   ∀ z3 : Int,0 <= z3 -> z3 <= 1 -> z3 = fnD 4 [z0,18059] ->
   (((decide (z3 = 1)) = true ->
    K [[z0]] [[14959],[(cond (true) 1 0)],[(cond (true) 1 0)]]
   ) /\ ((decide (z3 = 1)) = false ->
    ∀ z4 : Int,0 <= z4 -> z4 <= 1 -> z4 = fnD 4 [z0,21402] ->
    (((decide (z4 = 1)) = true ->
     K [[z0]] [[13416],[(cond (true) 1 0)],[(cond (true) 1 0)]]
    ) /\ ((decide (z4 = 1)) = false ->
     ∀ z5 : Int,0 <= z5 -> z5 <= 1 -> z5 = fnD 4 [z0,18829] ->
     (((decide (z5 = 1)) = true ->
      K [[z0]] [[12903],[(cond (true) 1 0)],[(cond (true) 1 0)]]
     ) /\ ((decide (z5 = 1)) = false ->
      ∀ z6 : Int,0 <= z6 -> z6 <= 1 -> z6 = fnD 4 [z0,0] ->
      K [[z0]] [[0],[(cond (false) 1 0)],[(cond (decide (z6 = 1)) 1 0)]]
     ))
    ))
   ))
  ))
 ))
def B_phone (S : Nat -> List (List Int) -> List (List Int) -> Prop) (K : List (List Int) -> List (List Int) -> Prop) : Prop :=
 ∀ z0 : Int,0 <= z0 -> z0 <= HB -> ∀ z1 : Int,0 <= z1 -> z1 <= HB ->
 (chkD 44 [z0,z1] ->
 ∀ r2 : List Int,inB (repB 0 HB 2) r2 -> ∀ z4 : Int,0 <= z4 -> z4 <= 1 -> S 32 [[z0]] [r2,[z4]] ->
 ((((!(decide (z4 = 1)))) = true ->
  K [[z0],[z1]] [[0],[7]]
 ) /\ (((!(decide (z4 = 1)))) = false ->
  ∀ z5 : Int,0 <= z5 -> z5 <= HB -> ∀ z6 : Int,0 <= z6 -> z6 <= 1 -> ∀ z7 : Int,0 <= z7 -> z7 <= 1 -> S 33 [[z1]] [[z5],[z6],[z7]] ->
  ((((!(decide (z7 = 1)))) = true ->
   K [[z0],[z1]] [[0],[2]]
  ) /\ (((!(decide (z7 = 1)))) = false ->
   ((((!(decide (z6 = 1)))) = true ->
    ∀ z8 : Int,0 <= z8 -> z8 <= 1 -> z8 = fnD 4 [z0,0] ->
    ((((!(decide (z8 = 1)))) = true ->
     ∀ z9 : Int,0 <= z9 -> z9 <= HB -> S 34 [[z5],[(List.getD r2 1 0)]] [[z9]] ->
     chkD 3 [(List.getD r2 0 0),z9] /\
     ∀ z10 : Int,0 <= z10 -> z10 <= HB -> z10 = fnD 3 [(List.getD r2 0 0),z9] ->
     ∀ z11 : Int,0 <= z11 -> z11 <= 9223372036854775807 -> z11 = fnD 0 [z10] ->
     (((decide (z11 < 6)) = true ->
      K [[z0],[z1]] [[0],[2]]
     ) /\ ((decide (z11 < 6)) = false ->
      ∀ z12 : Int,0 <= z12 -> z12 <= 9223372036854775807 -> z12 = fnD 0 [z10] ->
      (((decide (15 < z12)) = true ->
       K [[z0],[z1]] [[0],[2]]
      ) /\ ((decide (15 < z12)) = false ->
       chkD 1 [z10,0] /\
       ∀ z13 : Int,0 <= z13 -> z13 <= 255 -> z13 = fnD 1 [z10,0] ->
       (((decide (z13 = 48)) = true ->
        K [[z0],[z1]] [[0],[2]]
       ) /\ ((decide (z13 = 48)) = false ->
        K [[z0],[z1]] [[z10],[0]]
       ))
      ))
     ))
    ) /\ (((!(decide (z8 = 1)))) = false ->
     ∀ z9 : Int,0 <= z9 -> z9 <= 9223372036854775807 -> z9 = fnD 0 [z5] ->
     (((decide (z9 < 6)) = true ->
      K [[z0],[z1]] [[0],[2]]
     ) /\ ((decide (z9 < 6)) = false ->
      ∀ z10 : Int,0 <= z10 -> z10 <= 9223372036854775807 -> z10 = fnD 0 [z5] ->
      (((decide (15 < z10)) = true ->
       K [[z0],[z1]] [[0],[2]]
      ) /\ ((decide (15 < z10)) = false ->
       chkD 1 [z5,0] /\
       ∀ z11 : Int,0 <= z11 -> z11 <= 255 -> z11 = fnD 1 [z5,0] ->
       (((decide (z11 = 48)) = true ->
        K [[z0],[z1]] [[0],[2]]
       ) /\ ((decide (z11 = 48)) = false ->
        K [[z0],[z1]] [[z5],[0]]
       ))
      ))
     ))
    ))
   ) /\ (((!(decide (z6 = 1)))) = false ->
    ∀ z8 : Int,0 <= z8 -> z8 <= 9223372036854775807 -> z8 = fnD 0 [z5] ->
    (((decide (z8 < 6)) = true ->
     K [[z0],[z1]] [[0],[2]]
    ) /\ ((decide (z8 < 6)) = false ->
     ∀ z9 : Int,0 <= z9 -> z9 <= 9223372036854775807 -> z9 = fnD 0 [z5] ->
     (((decide (15 < z9)) = true ->
      K [[z0],[z1]] [[0],[2]]
     ) /\ ((decide (15 < z9)) = false ->
      chkD 1 [z5,0] /\
      ∀ z10 : Int,0 <= z10 -> z10 <= 255 -> z10 = fnD 1 [z5,0] ->
      (((decide (z10 = 48)) = true ->
       K [[z0],[z1]] [[0],[2]]
      ) /\ ((decide (z10 = 48)) = false ->
       K [[z0],[z1]] [[z5],[0]]
      ))
     ))
    ))
   ))
  ))
 ))
 )
theorem p_tpre : B_tpre SB (KBv SB [.str] 34) := by
 intro z0 a0 a1 z1 b0 b1 z2 c0 c1 h2 z3 d0 d1 h3
 have kk : ∀ x : Int,0 <= x -> x <= HB -> sOf x = cond ((sOf z1).isPrefixOf (sOf z0)) ((sOf z0).drop (sOf z1).length) (sOf z0) -> KBv SB [.str] 34 [[z0],[z1]] [[x]] := fun x h0 h1 h => ⟨⟨h0,h1,trivial⟩,h⟩
 simp only [fnD] at h2 h3
 refine ⟨fun hp z4 e0 e1 h4 => ⟨?_,fun z5 f0 f1 h5 z6 g0 g1 h6 => ?_⟩,fun hp => kk _ a0 a1 ?_⟩
 ·simp only [fnD] at h4
  have hp : z3 <= z2 := by simpa using hp
  exact ⟨by omega,by omega,by omega⟩
 ·simp only [fnD] at h4
  have hp : z3 <= z2 := by simpa using hp
  have e5 : sOf z5 = (sOf z0).take (sOf z1).length := by rw [h5]; simp [fnD,sOf_cOf,h4]
  have hpre : (sOf z1).isPrefixOf (sOf z0) = decide (sOf z5 = sOf z1) := by
   rw [Bool.eq_iff_iff,List.isPrefixOf_iff_prefix,List.prefix_iff_eq_take,decide_eq_true_eq,e5]
   exact eq_comm
  rw [eq_dec h6,<- hpre]
  refine ⟨fun hq z7 i0 i1 h7 z8 j0 j1 h8 => ?_,fun hq => kk _ a0 a1 (by rw [hq]; rfl)⟩
  simp only [fnD] at h7 h8
  refine ⟨⟨by omega,by omega,by omega⟩,fun z9 k0 k1 h9 => kk _ k0 k1 ?_⟩
  rw [hq,h9]; simp only [fnD,sOf_cOf,cond_true]
  rw [show z7.toNat = (sOf z1).length by omega]
  exact List.take_of_length_le (by simp; omega)
 ·have hp : ¬ z3 <= z2 := by simpa using hp
  cases hc : (sOf z1).isPrefixOf (sOf z0) with
  | false => rfl
  | true =>
   have := (List.isPrefixOf_iff_prefix.1 hc).length_le
   omega
theorem kGB : sOf 17291 = [71,66] := by decide
theorem kUS : sOf 21674 = [85,83] := by decide
theorem kDE : sOf 18059 = [68,69] := by decide
theorem kFR : sOf 21402 = [70,82] := by decide
theorem kCH : sOf 18829 = [67,72] := by decide
theorem p_rcountry : B_rcountry SB (KBv SB [.str,.bool,.bool] 35) := by
 intro z0 a0 a1 z1 b0 b1 h1
 have kk : ∀ (w c t : Tx) (x y z : Int),sOf z0 = w -> ctry w = some (c,t) -> 0 <= x -> x <= 17291 -> sOf x = c -> y = b01 (!t.isEmpty) -> z = 1 -> KBv SB [.str,.bool,.bool] 35 [[z0]] [[x],[y],[z]] := fun w c t x y z hw hc hx0 hx1 hx hy hz => by
  have hb : (17291 : Int) <= HB := HB_c (l := [71,66]) (by decide)
  subst hy hz
  refine ⟨⟨hx0,Int.le_trans hx1 hb,(b01_bd _).1,(b01_bd _).2,by decide,by decide,trivial⟩,?_⟩
  show (match ctry (sOf z0) with | some (code,trunk) => sOf x = code /\ _ = b01 (!trunk.isEmpty) /\ _ | none => _)
  rw [hw,hc]
  exact ⟨hx,rfl,rfl⟩
 rw [eq_dec h1,kGB]
 refine ⟨fun h => kk [71,66] [52,52] [48] _ _ _ (by simpa using h) rfl (by decide) (by decide) (by decide) rfl rfl,fun h z2 b0 b1 h2 => ?_⟩
 have n1 : ¬ sOf z0 = [71,66] := by simpa using h
 rw [eq_dec h2,kUS]
 refine ⟨fun h => kk [85,83] [49] [] _ _ _ (by simpa using h) rfl (by decide) (by decide) (by decide) rfl rfl,fun h z2 b0 b1 h2 => ?_⟩
 have n2 : ¬ sOf z0 = [85,83] := by simpa using h
 rw [eq_dec h2,kDE]
 refine ⟨fun h => kk [68,69] [52,57] [48] _ _ _ (by simpa using h) rfl (by decide) (by decide) (by decide) rfl rfl,fun h z2 b0 b1 h2 => ?_⟩
 have n3 : ¬ sOf z0 = [68,69] := by simpa using h
 rw [eq_dec h2,kFR]
 refine ⟨fun h => kk [70,82] [51,51] [48] _ _ _ (by simpa using h) rfl (by decide) (by decide) (by decide) rfl rfl,fun h z2 b0 b1 h2 => ?_⟩
 have n4 : ¬ sOf z0 = [70,82] := by simpa using h
 rw [eq_dec h2,kCH]
 refine ⟨fun h => kk [67,72] [52,49] [48] _ _ _ (by simpa using h) rfl (by decide) (by decide) (by decide) rfl rfl,fun h z2 b0 b1 h2 => ?_⟩
 have n5 : ¬ sOf z0 = [67,72] := by simpa using h
 rw [eq_nil h2]
 cases he : (sOf z0 == []) with
 | true => exact kk [] [] [] _ _ _ (by simpa using he) rfl (by decide) (by decide) (by decide) rfl rfl
 | false =>
  refine ⟨⟨Int.le_refl _,HB_pos,by decide,by decide,by decide,by decide,trivial⟩,?_⟩
  have hn : ctry (sOf z0) = none := by
   unfold ctry
   rw [he,show (sOf z0 == [71,66]) = false by simpa using n1,show (sOf z0 == [85,83]) = false by simpa using n2,show (sOf z0 == [68,69]) = false by simpa using n3,show (sOf z0 == [70,82]) = false by simpa using n4,show (sOf z0 == [67,72]) = false by simpa using n5]
   rfl
  show (match ctry (sOf z0) with | some (code,trunk) => _ | none => sOf 0 = [] /\ _ /\ _)
  rw [hn]
  exact ⟨rfl,rfl,rfl⟩
theorem bareF_len : ∀ (s d : Tx) (p : Bool) {d' : Tx} {p' : Bool},bareF s d p = some (d',p') -> d'.length <= d.length + s.length
 | [],d,p,d',p',h => by
  simp only [bareF,Option.some.injEq,Prod.mk.injEq] at h
  rw [h.1]; simp
 | c :: r,d,p,d',p',h => by
  unfold bareF at h
  cases h1 : isD c with
  | true =>
   rw [h1,cond_true] at h
   have := bareF_len r _ _ h
   simp at this ⊢; omega
  | false =>
   rw [h1,cond_false] at h
   cases h2 : (c == 43 && d.isEmpty && !p) with
   | true =>
    rw [h2,cond_true] at h
    have := bareF_len r _ _ h
    simp at this ⊢; omega
   | false =>
    rw [h2,cond_false] at h
    cases h3 : seps.contains c with
    | true =>
     rw [h3,cond_true] at h
     have := bareF_len r _ _ h
     simp at this ⊢; omega
    | false => rw [h3,cond_false] at h; cases h
theorem ctry_len {w c t : Tx} (h : ctry w = some (c,t)) : c.length <= 2 := by
 unfold ctry at h
 cases h0 : (w == []) with
 | true => rw [h0,cond_true] at h; simp only [Option.some.injEq,Prod.mk.injEq] at h; rw [<- h.1]; decide
 | false =>
  rw [h0,cond_false] at h
  cases h1 : (w == [71,66]) with
  | true => rw [h1,cond_true] at h; simp only [Option.some.injEq,Prod.mk.injEq] at h; rw [<- h.1]; decide
  | false =>
   rw [h1,cond_false] at h
   cases h2 : (w == [85,83]) with
   | true => rw [h2,cond_true] at h; simp only [Option.some.injEq,Prod.mk.injEq] at h; rw [<- h.1]; decide
   | false =>
    rw [h2,cond_false] at h
    cases h3 : (w == [68,69]) with
    | true => rw [h3,cond_true] at h; simp only [Option.some.injEq,Prod.mk.injEq] at h; rw [<- h.1]; decide
    | false =>
     rw [h3,cond_false] at h
     cases h4 : (w == [70,82]) with
     | true => rw [h4,cond_true] at h; simp only [Option.some.injEq,Prod.mk.injEq] at h; rw [<- h.1]; decide
     | false =>
      rw [h4,cond_false] at h
      cases h5 : (w == [67,72]) with
      | true => rw [h5,cond_true] at h; simp only [Option.some.injEq,Prod.mk.injEq] at h; rw [<- h.1]; decide
      | false =>
       rw [h5,cond_false] at h
       cases h
theorem phoneEnd {w s : Tx} {z n : Int} (zs : List (List Int)) (id : Nat) (hid : ∀ a e,(sOf a,e) = phoneF w s -> SB id zs [[a],[e]]) (n0 : 0 <= n) (n1 : n <= HB) (hf : phoneF w s = phoneE (sOf n)) :
 ∀ z11 : Int,0 <= z11 -> z11 <= 9223372036854775807 -> z11 = fnD 0 [n] ->
  (((decide (z11 < 6)) = true ->
   KBv SB [.str,.int .i64 0 21] id zs [[0],[2]]
  ) /\ ((decide (z11 < 6)) = false ->
   ∀ z12 : Int,0 <= z12 -> z12 <= 9223372036854775807 -> z12 = fnD 0 [n] ->
   (((decide (15 < z12)) = true ->
    KBv SB [.str,.int .i64 0 21] id zs [[0],[2]]
   ) /\ ((decide (15 < z12)) = false ->
    chkD 1 [n,0] /\
    ∀ z13 : Int,0 <= z13 -> z13 <= 255 -> z13 = fnD 1 [n,0] ->
    (((decide (z13 = 48)) = true ->
     KBv SB [.str,.int .i64 0 21] id zs [[0],[2]]
    ) /\ ((decide (z13 = 48)) = false ->
     KBv SB [.str,.int .i64 0 21] id zs [[n],[0]]
    ))
   ))
  )) := by
 intro z1 a0 a1 h1
 have e1 : decide (z1 < 6) = Nat.blt (sOf n).length 6 := by
  rw [h1]; simp only [fnD]; rw [Bool.eq_iff_iff,decide_eq_true_eq,Nat.blt_eq]; omega
 have kk : phoneE (sOf n) = ([],2) -> KBv SB [.str,.int .i64 0 21] id zs [[0],[2]] := fun h => kse (Int.le_refl _) HB_pos (by decide) (by decide) (hid _ _ (by rw [hf,h]; rfl))
 rw [e1]
 refine ⟨fun h => kk (by unfold phoneE; rw [h]; rfl),fun h z2 b0 b1 h2 => ?_⟩
 have e2 : decide (15 < z2) = Nat.blt 15 (sOf n).length := by
  rw [h2]; simp only [fnD]; rw [Bool.eq_iff_iff,decide_eq_true_eq,Nat.blt_eq]; omega
 rw [e2]
 refine ⟨fun h' => kk (by unfold phoneE; rw [h,h']; rfl),fun h' => ⟨⟨Int.le_refl _,?_⟩,fun z3 c0 c1 h3 => ?_⟩⟩
 ·have : ¬ Nat.blt (sOf n).length 6 = true := by rw [h]; simp
  rw [Nat.blt_eq] at this; omega
 ·have e3 : decide (z3 = 48) = ((sOf n).getD 0 0 == 48) := by
   rw [h3]; simp only [fnD,Int.toNat_zero]
   rw [Bool.eq_iff_iff,decide_eq_true_eq,u8_eq (by decide) (by decide)]; rfl
  rw [e3]
  refine ⟨fun h3 => kk (by unfold phoneE; rw [h,h',h3]; rfl),fun h3 => kse n0 n1 (by decide) (by decide) (hid _ _ ?_)⟩
  rw [hf]; unfold phoneE; rw [h,h',h3]; rfl
theorem p_phone : B_phone SB (KBv SB [.str,.int .i64 0 21] 12) := by
 intro z0 a0 a1 z1 b0 b1 hq r2 h2 z4 c0 c1 hc
 obtain ⟨c,t,rfl,x0,x1,y0,y1⟩ := two_of h2
 have hid : ∀ a e,(sOf a,e) = phoneF (sOf z0) (sOf z1) -> SB 12 [[z0],[z1]] [[a],[e]] := fun _ _ h => h
 have hq : sOf z0 = [] ∨ (sOf z1).length <= 4294967280 := hq
 have hc : (match ctry (sOf z0) with | some (code,trunk) => sOf c = code /\ sOf t = trunk /\ z4 = 1 | none => z4 = 0 /\ sOf c = [] /\ sOf t = []) := hc
 have kk : ∀ e : Int,0 <= e -> e <= 21 -> phoneF (sOf z0) (sOf z1) = ([],e) -> KBv SB [.str,.int .i64 0 21] 12 [[z0],[z1]] [[0],[e]] := fun e e0 e1 h => kse (Int.le_refl _) HB_pos e0 e1 (hid _ _ (by rw [h]; rfl))
 cases hct : ctry (sOf z0) with
 | none =>
  rw [hct] at hc
  obtain ⟨rfl,_⟩ := hc
  exact ⟨fun _ => kk 7 (by decide) (by decide) (by unfold phoneF; rw [hct]),fun h => by simp at h⟩
 | some ct =>
  obtain ⟨code,trunk⟩ := ct
  rw [hct] at hc
  obtain ⟨hcc,htt,rfl⟩ := hc
  refine ⟨fun h => by simp at h,fun _ z5 d0 d1 z6 e0 e1 z7 f0 f1 hb => ?_⟩
  have hb : (match bareF (sOf z1) [] false with | some (d',p') => sOf z5 = d' /\ z6 = b01 p' /\ z7 = 1 | none => sOf z5 = [] /\ z6 = 0 /\ z7 = 0) := hb
  cases hbf : bareF (sOf z1) [] false with
  | none =>
   rw [hbf] at hb
   obtain ⟨_,_,rfl⟩ := hb
   exact ⟨fun _ => kk 2 (by decide) (by decide) (by unfold phoneF; rw [hct]; simp only [hbf]),fun h => by simp at h⟩
  | some dp =>
   obtain ⟨d,p⟩ := dp
   rw [hbf] at hb
   obtain ⟨hd,hp,rfl⟩ := hb
   have hf : phoneF (sOf z0) (sOf z1) = phoneE (phoneN (sOf z0) code trunk d p) := by unfold phoneF; rw [hct]; simp only [hbf]
   have hlen := bareF_len _ _ _ hbf
   refine ⟨fun h => by simp at h,fun _ => ?_⟩
   rw [b01_dec hp]
   refine ⟨fun hp => fun z8 g0 g1 h8 => ?_,fun hp => phoneEnd (z := 0) _ 12 hid d0 d1 ?_⟩
   ·rw [eq_nil h8]
    refine ⟨fun hw z9 i0 i1 h9 => ?_,fun hw => phoneEnd (z := 0) _ 12 hid d0 d1 ?_⟩
    ·have h9 : sOf z9 = cond ((sOf t).isPrefixOf (sOf z5)) ((sOf z5).drop (sOf t).length) (sOf z5) := h9
     have hl9 : (sOf z9).length <= (sOf z5).length := by
      rw [h9]; cases (sOf t).isPrefixOf (sOf z5) <;> simp
     refine ⟨?_,fun z10 j0 j1 h10 => phoneEnd (z := 0) _ 12 hid j0 j1 ?_⟩
     ·show (sOf c).length + (sOf z9).length <= mxL
      have := ctry_len hct
      have hq : (sOf z1).length <= 4294967280 := by
       rcases hq with h | h
       ·have hw : (!(sOf z0 == [])) = true := hw
        rw [h] at hw; cases hw
       ·exact h
      rw [hcc]; rw [hd] at hl9; unfold mxL; simp at hlen; omega
     ·rw [hf]
      have : sOf z10 = sOf c ++ sOf z9 := by rw [h10]; simp only [fnD,sOf_cOf]; rfl
      rw [this,h9,hcc,htt,hd]
      unfold phoneN
      have hw : (!(sOf z0 == [])) = true := hw
      rw [hp,hw]; rfl
    ·rw [hf,hd]; unfold phoneN
     have hw : (!(sOf z0 == [])) = false := hw
     rw [hp,hw]; rfl
   ·rw [hf,hd]; unfold phoneN; rw [hp]; rfl
end Go.Ad
