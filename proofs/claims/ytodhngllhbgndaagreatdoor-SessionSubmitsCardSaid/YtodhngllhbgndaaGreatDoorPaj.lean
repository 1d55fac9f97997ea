/- Paj: a part of the proof of statements of this seat. -/
import Derived.Test.YtodhngllhbgndaaGreatDoorPai
set_option maxRecDepth 100000
set_option linter.unusedVariables false
set_option linter.unusedSimpArgs false
namespace Go.Ad
open Go Go.Rx
def B_print (S : Nat -> List (List Int) -> List (List Int) -> Prop) (K : List (List Int) -> List (List Int) -> Prop) : Prop :=
 ∀ z0 : Int,0 <= z0 -> z0 <= HB ->
 ∀ z1 : Int,0 <= z1 -> z1 <= 9223372036854775807 -> z1 = fnD 0 [z0] ->
 ∃ (I2 : List (List Int) -> Prop) (μ2 : List (List Int) -> Nat),I2 [[0]] /\ (∀ z3 : Int,0 <= z3 -> z3 <= 9223372036854775807 -> I2 [[z3]] ->
  (((decide (z3 < z1)) = true ->
   chkD 1 [z0,z3] /\
   ∀ z4 : Int,0 <= z4 -> z4 <= 255 -> z4 = fnD 1 [z0,z3] ->
   (((decide (z4 < 32)) = true ->
    K [[z0]] [[(cond (false) 1 0)]]
   ) /\ ((decide (z4 < 32)) = false ->
    chkD 1 [z0,z3] /\
    ∀ z5 : Int,0 <= z5 -> z5 <= 255 -> z5 = fnD 1 [z0,z3] ->
    (((decide (126 < z5)) = true ->
     K [[z0]] [[(cond (false) 1 0)]]
    ) /\ ((decide (126 < z5)) = false ->
     ∀ z6 : Int,0 <= z6 -> z6 <= 1 -> 0 <= (z3 + 9223372036854775809) - 18446744073709551616 * z6 -> (z3 + 9223372036854775809) - 18446744073709551616 * z6 < 18446744073709551616 ->
     chkD 39 [((z3 + ((-18446744073709551616) * z6)) + 1),0,9223372036854775807] /\
     (I2 [[((z3 + ((-18446744073709551616) * z6)) + 1)]] /\ μ2 [[((z3 + ((-18446744073709551616) * z6)) + 1)]] < μ2 [[z3]])
    ))
   ))
  ) /\ ((decide (z3 < z1)) = false ->
   K [[z0]] [[(cond (true) 1 0)]]
  ))
 )
def B_secr (S : Nat -> List (List Int) -> List (List Int) -> Prop) (K : List (List Int) -> List (List Int) -> Prop) : Prop :=
 ∀ z0 : Int,0 <= z0 -> z0 <= HB ->
 ∀ z1 : Int,0 <= z1 -> z1 <= 1 -> z1 = fnD 4 [z0,0] ->
 ((((!(decide (z1 = 1)))) = true ->
  ∀ z2 : Int,0 <= z2 -> z2 <= 9223372036854775807 -> z2 = fnD 0 [z0] ->
  (((decide (z2 <= 64)) = true ->
   ∀ z3 : Int,0 <= z3 -> z3 <= 1 -> S 400 [[z0]] [[z3]] ->
   (((decide (z3 = 1)) = true ->
    ∀ z4 : Int,0 <= z4 -> z4 <= RB -> z4 = fnD 27 [z0] ->
    ∀ z5 : Int,0 <= z5 -> z5 <= 9223372036854775807 -> z5 = fnD 0 [z0] ->
    ∀ z6 : Int,(-1) <= z6 -> z6 <= 9223372036854775807 ->
    ∃ (I7 : List (List Int) -> Prop) (μ7 : List (List Int) -> Nat),I7 [[0]] /\ (∀ z8 : Int,0 <= z8 -> z8 <= 9223372036854775807 -> I7 [[z8]] ->
     (((decide (z8 < z5)) = true ->
      chkD 30 [z8,z5] /\
      chkD 21 [z4,z8] /\
      ∀ z9 : Int,0 <= z9 -> z9 <= 255 -> z9 = fnD 21 [z4,z8,0] ->
      (((decide (32 = z9)) = true ->
       K [[z0]] [[(cond (false) 1 0)]]
      ) /\ ((decide (32 = z9)) = false ->
       ∀ z10 : Int,0 <= z10 -> z10 <= 1 -> 0 <= (z8 + 9223372036854775809) - 18446744073709551616 * z10 -> (z8 + 9223372036854775809) - 18446744073709551616 * z10 < 18446744073709551616 ->
       chkD 39 [((z8 + ((-18446744073709551616) * z10)) + 1),0,9223372036854775807] /\
       (I7 [[((z8 + ((-18446744073709551616) * z10)) + 1)]] /\ μ7 [[((z8 + ((-18446744073709551616) * z10)) + 1)]] < μ7 [[z8]])
      ))
     ) /\ ((decide (z8 < z5)) = false ->
      K [[z0]] [[(cond (true) 1 0)]]
     ))
    )
   ) /\ ((decide (z3 = 1)) = false ->
    K [[z0]] [[(cond (false) 1 0)]]
   ))
  ) /\ ((decide (z2 <= 64)) = false ->
   K [[z0]] [[(cond (false) 1 0)]]
  ))
 ) /\ (((!(decide (z1 = 1)))) = false ->
  K [[z0]] [[(cond (false) 1 0)]]
 ))
def B_sright (S : Nat -> List (List Int) -> List (List Int) -> Prop) (K : List (List Int) -> List (List Int) -> Prop) : Prop :=
 ∀ r0 : List Int,inB [((-9223372036854775808),9223372036854775807),(0,HB),(0,HB),(0,HB),(0,HB),((-9223372036854775808),9223372036854775807),((-9223372036854775808),9223372036854775807),((-9223372036854775808),9223372036854775807),(0,1),((-9223372036854775808),9223372036854775807)] r0 ->
 (((decide ((List.getD r0 0 0) < 1)) = true ->
  K [r0] [[(cond (false) 1 0)]]
 ) /\ ((decide ((List.getD r0 0 0) < 1)) = false ->
  (((decide (1099511627776 < (List.getD r0 0 0))) = true ->
   K [r0] [[(cond (false) 1 0)]]
  ) /\ ((decide (1099511627776 < (List.getD r0 0 0))) = false ->
   (((decide (0 <= (List.getD r0 6 0))) = true ->
    ((((!(decide ((List.getD r0 6 0) <= 1099511627776)))) = true ->
     K [r0] [[(cond (false) 1 0)]]
    ) /\ (((!(decide ((List.getD r0 6 0) <= 1099511627776)))) = false ->
     (((decide (0 <= (List.getD r0 9 0))) = true ->
      ((((!(decide ((List.getD r0 9 0) <= 1099511627776)))) = true ->
       K [r0] [[(cond (false) 1 0)]]
      ) /\ (((!(decide ((List.getD r0 9 0) <= 1099511627776)))) = false ->
       (((decide ((List.getD r0 5 0) < 1)) = true ->
        K [r0] [[(cond (false) 1 0)]]
       ) /\ ((decide ((List.getD r0 5 0) < 1)) = false ->
        (((decide (1000 < (List.getD r0 5 0))) = true ->
         K [r0] [[(cond (false) 1 0)]]
        ) /\ ((decide (1000 < (List.getD r0 5 0))) = false ->
         (((decide ((List.getD r0 7 0) < 0)) = true ->
          K [r0] [[(cond (false) 1 0)]]
         ) /\ ((decide ((List.getD r0 7 0) < 0)) = false ->
          (((decide (3 < (List.getD r0 7 0))) = true ->
           K [r0] [[(cond (false) 1 0)]]
          ) /\ ((decide (3 < (List.getD r0 7 0))) = false ->
           ((((!(decide ((List.getD r0 8 0) = 1)))) = true ->
            ((((!(decide ((List.getD r0 9 0) = 0)))) = true ->
             K [r0] [[(cond (false) 1 0)]]
            ) /\ (((!(decide ((List.getD r0 9 0) = 0)))) = false ->
             ∀ z10 : Int,0 <= z10 -> z10 <= 1 -> S 401 [[(List.getD r0 1 0)]] [[z10]] ->
             (((decide (z10 = 1)) = true ->
              ∀ z11 : Int,0 <= z11 -> z11 <= 1 -> S 401 [[(List.getD r0 4 0)]] [[z11]] ->
              (((decide (z11 = 1)) = true ->
               ∀ z12 : Int,0 <= z12 -> z12 <= 1 -> S 16 [[(List.getD r0 2 0),(List.getD r0 3 0)]] [[z12]] ->
               K [r0] [[(cond (decide (z12 = 1)) 1 0)]]
              ) /\ ((decide (z11 = 1)) = false ->
               K [r0] [[(cond (false) 1 0)]]
              ))
             ) /\ ((decide (z10 = 1)) = false ->
              K [r0] [[(cond (false) 1 0)]]
             ))
            ))
           ) /\ (((!(decide ((List.getD r0 8 0) = 1)))) = false ->
            ∀ z10 : Int,0 <= z10 -> z10 <= 1 -> S 401 [[(List.getD r0 1 0)]] [[z10]] ->
            (((decide (z10 = 1)) = true ->
             ∀ z11 : Int,0 <= z11 -> z11 <= 1 -> S 401 [[(List.getD r0 4 0)]] [[z11]] ->
             (((decide (z11 = 1)) = true ->
              ∀ z12 : Int,0 <= z12 -> z12 <= 1 -> S 16 [[(List.getD r0 2 0),(List.getD r0 3 0)]] [[z12]] ->
              K [r0] [[(cond (decide (z12 = 1)) 1 0)]]
             ) /\ ((decide (z11 = 1)) = false ->
              K [r0] [[(cond (false) 1 0)]]
             ))
            ) /\ ((decide (z10 = 1)) = false ->
             K [r0] [[(cond (false) 1 0)]]
            ))
           ))
          ))
         ))
        ))
       ))
      ))
     ) /\ ((decide (0 <= (List.getD r0 9 0))) = false ->
      K [r0] [[(cond (false) 1 0)]]
     ))
    ))
   ) /\ ((decide (0 <= (List.getD r0 6 0))) = false ->
    K [r0] [[(cond (false) 1 0)]]
   ))
  ))
 ))
def B_sover (S : Nat -> List (List Int) -> List (List Int) -> Prop) (K : List (List Int) -> List (List Int) -> Prop) : Prop :=
 ∀ r0 : List Int,inB [((-9223372036854775808),9223372036854775807),(0,HB),(0,HB),(0,HB),(0,HB),((-9223372036854775808),9223372036854775807),((-9223372036854775808),9223372036854775807),((-9223372036854775808),9223372036854775807),(0,1),((-9223372036854775808),9223372036854775807)] r0 -> ∀ z10 : Int,(-9223372036854775808) <= z10 -> z10 <= 9223372036854775807 ->
 ∀ z11 : Int,(-1) <= z11 -> z11 <= 1 -> 0 <= ((((-1) * (List.getD r0 6 0)) + z10) + 9223372036854775808) - 18446744073709551616 * z11 -> ((((-1) * (List.getD r0 6 0)) + z10) + 9223372036854775808) - 18446744073709551616 * z11 < 18446744073709551616 ->
 K [r0,[z10]] [[(cond (decide (86400 < (((-1) * (List.getD r0 6 0)) + (z10 + ((-18446744073709551616) * z11))))) 1 0)]]
theorem bnot_t {b : Bool} (h : (!b) = true) : b = false := by cases b <;> first | rfl | cases h
theorem bnot_f {b : Bool} (h : (!b) = false) : b = true := by cases b <;> first | rfl | cases h
theorem bit_eq {a b : Int} (h0 : 0 <= a) (h1 : a <= 1) (g0 : 0 <= b) (g1 : b <= 1) (h : decide (a = 1) = decide (b = 1)) : b = a := by
 by_cases ha : a = 1
 ·subst ha
  have := of_decide_eq_true (h.symm.trans (decide_eq_true rfl)); omega
 ·have hb := of_decide_eq_false (h.symm.trans (decide_eq_false ha)); omega
def PrI (z0 : Int) (bl : List (List Int)) : Prop := ∃ i : Nat,bl = [[(i : Int)]] /\ i <= (sOf z0).length /\ printF ((sOf z0).take i) = true
def PrM (z0 : Int) (bl : List (List Int)) : Nat := (sOf z0).length - ((bl.getD 0 []).getD 0 0).toNat
theorem print_mem {t : Tx} {i : Nat} (h : i < t.length) : t.getD i 0 ∈ t := by simp [List.getD,h]
theorem p_print : B_print SB (KBv SB [.bool] 400) := by
 intro z0 a0 a1 z1 _ c1 h1
 have h1 : z1 = ((sOf z0).length : Int) := h1
 have kk : ∀ b : Bool,printF (sOf z0) = b -> KBv SB [.bool] 400 [[z0]] [[b01 b]] := fun b h => kb (by show b01 b = b01 (printF (sOf z0)); rw [h])
 have kno : ∀ i,i < (sOf z0).length -> (((sOf z0).getD i 0).toNat < 32 ∨ 126 < ((sOf z0).getD i 0).toNat) -> KBv SB [.bool] 400 [[z0]] [[cond false 1 0]] := fun i hi h => kk false (by
  cases hp : printF (sOf z0) with
  | false => rfl
  | true =>
   have := List.all_eq_true.1 hp _ (print_mem hi)
   simp only [Bool.and_eq_true,Nat.ble_eq] at this
   omega)
 refine ⟨PrI z0,PrM z0,⟨0,rfl,Nat.zero_le _,rfl⟩,?_⟩
 rintro z3 d0 d1 ⟨i,e,hi,hI⟩
 obtain rfl : z3 = i := by simpa using e
 refine ⟨fun hlt => ?_,fun hge => kk true ?_⟩
 ·have hlt := of_decide_eq_true hlt
  have hil : i < (sOf z0).length := by omega
  have hg : ∀ z : Int,z = fnD 1 [z0,(i : Int)] -> z = (((sOf z0).getD i 0).toNat : Int) := fun z h => by
   rw [h]; simp only [fnD,Int.toNat_natCast]
  refine ⟨⟨by omega,by omega⟩,fun z4 _ _ h4 => ⟨fun hc => kno i hil (.inl ?_),fun hc => ⟨⟨by omega,by omega⟩,fun z5 _ _ h5 => ⟨fun hd => kno i hil (.inr ?_),fun hd z6 x0 x1 x2 x3 => ?_⟩⟩⟩⟩
  ·have := hg z4 h4; have := of_decide_eq_true hc; omega
  ·have := hg z5 h5; have := of_decide_eq_true hd; omega
  ·have e4 := hg z4 h4; have e5 := hg z5 h5
   have hc := of_decide_eq_false hc; have hd := of_decide_eq_false hd
   refine ⟨⟨by omega,by omega⟩,⟨i + 1,by rw [show ((i : Int) + (-18446744073709551616) * z6) + 1 = ((i + 1 : Nat) : Int) by omega],by omega,?_⟩,?_⟩
   ·unfold printF at hI ⊢
    rw [take_succ_getD _ _ hil,List.all_append,hI]
    simp only [List.all_cons,List.all_nil,Bool.and_true,Bool.true_and,Bool.and_eq_true,Nat.ble_eq]
    omega
   ·show (sOf z0).length - (((i : Int) + (-18446744073709551616) * z6) + 1).toNat < (sOf z0).length - ((i : Int)).toNat; omega
 ·have := of_decide_eq_false hge
  rwa [List.take_of_length_le (by omega)] at hI
def ScI (z0 : Int) (bl : List (List Int)) : Prop := ∃ i : Nat,bl = [[(i : Int)]] /\ i <= (sOf z0).length /\ ((sOf z0).take i).contains 32 = false
theorem p_secr : B_secr SB (KBv SB [.bool] 401) := by
 intro z0 a0 a1 z1 _ _ h1
 have h1 := eq_dec h1
 have hs0 : sOf (0 : Int) = [] := by decide
 rw [hs0] at h1
 have kk : ∀ b : Bool,secF (sOf z0) = b -> KBv SB [.bool] 401 [[z0]] [[b01 b]] := fun b h => kb (by show b01 b = b01 (secF (sOf z0)); rw [h])
 refine ⟨fun hn z2 _ _ h2 => ?_,fun hn => kk false ?_⟩
 rotate_left
 ·have := bnot_f hn
  rw [h1] at this
  rw [of_decide_eq_true this]; rfl
 have hne : (sOf z0).isEmpty = false := by
  have := bnot_t hn
  rw [h1] at this
  have := of_decide_eq_false this
  cases h : sOf z0 with
  | nil => exact absurd h this
  | cons _ _ => rfl
 have h2 : z2 = ((sOf z0).length : Int) := h2
 have e0 : secF (sOf z0) = (Nat.ble (sOf z0).length 64 && (printF (sOf z0) && !(sOf z0).contains 32)) := by unfold secF; rw [hne]; rfl
 refine ⟨fun h64 z3 _ _ h3 => ?_,fun h64 => kk false ?_⟩
 rotate_left
 ·have := of_decide_eq_false h64
  rw [e0,show Nat.ble (sOf z0).length 64 = false from by
   cases h : Nat.ble (sOf z0).length 64 with
   | false => rfl
   | true => have := Nat.le_of_ble_eq_true h; omega]; rfl
 have hb : Nat.ble (sOf z0).length 64 = true := Nat.ble_eq_true_of_le (by have := of_decide_eq_true h64; omega)
 rw [hb,Bool.true_and] at e0
 have h3 : z3 = b01 (printF (sOf z0)) := h3
 have hd3 := b01_dec h3
 refine ⟨fun hp z4 _ _ h4 z5 _ c1 h5 z6 _ _ => ?_,fun hp => kk false (by rw [e0,<- hd3,hp]; rfl)⟩
 rw [<- hd3,hp,Bool.true_and] at e0
 have h4 : rOf z4 = (sOf z0).map fun b => [(b.toNat : Int)] := by rw [h4]; simp only [fnD,rOf_rc]
 have h5 : z5 = ((sOf z0).length : Int) := h5
 refine ⟨ScI z0,PrM z0,⟨0,rfl,Nat.zero_le _,rfl⟩,?_⟩
 rintro z8 d0 d1 ⟨i,e,hi,hI⟩
 obtain rfl : z8 = i := by simpa using e
 refine ⟨fun hlt => ?_,fun hge => kk true ?_⟩
 ·have hlt := of_decide_eq_true hlt
  have hil : i < (sOf z0).length := by omega
  refine ⟨⟨by omega,by omega⟩,⟨by omega,by rw [h4,List.length_map]; omega⟩,fun z9 _ _ h9 => ?_⟩
  have h9 : z9 = (((sOf z0).getD i 0).toNat : Int) := by
   rw [h9]; simp only [fnD,Int.toNat_natCast,h4]
   simp [List.getD,hil]
  refine ⟨fun hq => kk false ?_,fun hq z10 x0 x1 x2 x3 => ⟨⟨by omega,by omega⟩,⟨i + 1,by rw [show ((i : Int) + (-18446744073709551616) * z10) + 1 = ((i + 1 : Nat) : Int) by omega],by omega,?_⟩,?_⟩⟩
  ·have hq := of_decide_eq_true hq
   have : (sOf z0).getD i 0 = 32 := by
    apply UInt8.toNat_inj.1
    show _ = 32
    omega
   have hm : (sOf z0).contains 32 = true := by
    rw [List.contains_iff_mem,<- this]; exact print_mem hil
   rw [e0,hm]; rfl
  ·have hq := of_decide_eq_false hq
   rw [contains_take _ _ _ hil,hI,Bool.false_or]
   refine beq_false_of_ne fun h => hq ?_
   rw [h9,h]; rfl
  ·show (sOf z0).length - (((i : Int) + (-18446744073709551616) * z10) + 1).toNat < (sOf z0).length - ((i : Int)).toNat; omega
 ·have := of_decide_eq_false hge
  rw [List.take_of_length_le (by omega)] at hI
  rw [e0,hI]; rfl
theorem inB10 {r : List Int} {a b c d e f g h i j : Int × Int} (hr : inB [a,b,c,d,e,f,g,h,i,j] r) : ∃ x0 x1 x2 x3 x4 x5 x6 x7 x8 x9,r = [x0,x1,x2,x3,x4,x5,x6,x7,x8,x9] /\ (i.1 <= x8 /\ x8 <= i.2) := by
 match r,hr with
 | [x0,x1,x2,x3,x4,x5,x6,x7,x8,x9],hr => exact ⟨x0,x1,x2,x3,x4,x5,x6,x7,x8,x9,rfl,hr.2.2.2.2.2.2.2.2.2.2.2.2.2.2.2.2.1,hr.2.2.2.2.2.2.2.2.2.2.2.2.2.2.2.2.2.1⟩
theorem p_sright : B_sright SB (KBv SB [.bool] 402) := by
 intro r0 hr
 have kk : ∀ b : Bool,seOk (seOf r0) = b -> KBv SB [.bool] 402 [r0] [[b01 b]] := fun b h => kb (by show b01 b = b01 (seOk (seOf r0)); rw [h])
 have e0 : seOk (seOf r0) = ((decide (1 <= r0.getD 0 0) && decide (r0.getD 0 0 <= 1099511627776)) && ((decide (0 <= r0.getD 6 0) && decide (r0.getD 6 0 <= 1099511627776)) && (decide (0 <= r0.getD 9 0) && decide (r0.getD 9 0 <= 1099511627776))) && (decide (1 <= r0.getD 5 0) && decide (r0.getD 5 0 <= 1000) && (decide (0 <= r0.getD 7 0) && decide (r0.getD 7 0 <= 3))) && (decide (r0.getD 8 0 = 1) || decide (r0.getD 9 0 = 0)) && (secF (sOf (r0.getD 1 0)) && (secF (sOf (r0.getD 4 0)) && rightF (sOf (r0.getD 2 0)) (sOf (r0.getD 3 0))))) := rfl
 have kno : ¬ ((1 <= r0.getD 0 0 /\ r0.getD 0 0 <= 1099511627776) /\ ((0 <= r0.getD 6 0 /\ r0.getD 6 0 <= 1099511627776) /\ (0 <= r0.getD 9 0 /\ r0.getD 9 0 <= 1099511627776)) /\ ((1 <= r0.getD 5 0 /\ r0.getD 5 0 <= 1000) /\ (0 <= r0.getD 7 0 /\ r0.getD 7 0 <= 3)) /\ (r0.getD 8 0 = 1 ∨ r0.getD 9 0 = 0)) -> KBv SB [.bool] 402 [r0] [[cond false 1 0]] := fun h => kk false (by
  cases hp : seOk (seOf r0) with
  | false => rfl
  | true =>
   rw [e0] at hp
   simp only [Bool.and_eq_true,Bool.or_eq_true,decide_eq_true_eq] at hp
   exact absurd ⟨hp.1.1.1.1,hp.1.1.1.2,hp.1.1.2,hp.1.2⟩ h)
 have kyes : ((1 <= r0.getD 0 0 /\ r0.getD 0 0 <= 1099511627776) /\ ((0 <= r0.getD 6 0 /\ r0.getD 6 0 <= 1099511627776) /\ (0 <= r0.getD 9 0 /\ r0.getD 9 0 <= 1099511627776)) /\ ((1 <= r0.getD 5 0 /\ r0.getD 5 0 <= 1000) /\ (0 <= r0.getD 7 0 /\ r0.getD 7 0 <= 3)) /\ (r0.getD 8 0 = 1 ∨ r0.getD 9 0 = 0)) -> ∀ z10 : Int,0 <= z10 -> z10 <= 1 -> SB 401 [[r0.getD 1 0]] [[z10]] ->
  (((decide (z10 = 1)) = true -> ∀ z11 : Int,0 <= z11 -> z11 <= 1 -> SB 401 [[r0.getD 4 0]] [[z11]] ->
    (((decide (z11 = 1)) = true -> ∀ z12 : Int,0 <= z12 -> z12 <= 1 -> SB 16 [[r0.getD 2 0,r0.getD 3 0]] [[z12]] -> KBv SB [.bool] 402 [r0] [[(cond (decide (z12 = 1)) 1 0)]]) /\ ((decide (z11 = 1)) = false -> KBv SB [.bool] 402 [r0] [[(cond (false) 1 0)]]))) /\
   ((decide (z10 = 1)) = false -> KBv SB [.bool] 402 [r0] [[(cond (false) 1 0)]])) := fun h z10 _ _ hA => by
  have h1 : ((decide (1 <= r0.getD 0 0) && decide (r0.getD 0 0 <= 1099511627776)) && ((decide (0 <= r0.getD 6 0) && decide (r0.getD 6 0 <= 1099511627776)) && (decide (0 <= r0.getD 9 0) && decide (r0.getD 9 0 <= 1099511627776))) && (decide (1 <= r0.getD 5 0) && decide (r0.getD 5 0 <= 1000) && (decide (0 <= r0.getD 7 0) && decide (r0.getD 7 0 <= 3))) && (decide (r0.getD 8 0 = 1) || decide (r0.getD 9 0 = 0))) = true := by
   simp only [Bool.and_eq_true,Bool.or_eq_true,decide_eq_true_eq]
   exact ⟨⟨⟨h.1,h.2.1⟩,h.2.2.1⟩,h.2.2.2⟩
  have hA : z10 = b01 (secF (sOf (r0.getD 1 0))) := hA
  have hA := b01_dec hA
  refine ⟨fun h10 z11 _ _ hB => ?_,fun h10 => kk false (by rw [e0,<- hA,h10]; simp)⟩
  have hB : z11 = b01 (secF (sOf (r0.getD 4 0))) := hB
  have hB := b01_dec hB
  refine ⟨fun h11 z12 _ _ hC => ?_,fun h11 => kk false (by rw [e0,<- hB,h11]; simp)⟩
  have hC : z12 = b01 (rightF (sOf (r0.getD 2 0)) (sOf (r0.getD 3 0))) := hC
  exact kk (decide (z12 = 1)) (by rw [e0,h1,<- hA,<- hB,b01_dec hC,h10,h11]; rfl)
 have T : ∀ {p : Prop} [Decidable p],decide p = true -> p := fun h => of_decide_eq_true h
 have F : ∀ {p : Prop} [Decidable p],decide p = false -> ¬ p := fun h => of_decide_eq_false h
 refine ⟨fun h => kno (fun k => by have := T h; omega),fun h1 => ⟨fun h => kno (fun k => by have := T h; omega),fun h2 => ⟨fun h3 => ⟨fun h => kno (fun k => by have := F (bnot_t h); omega),fun h4 => ⟨fun h5 => ⟨fun h => kno (fun k => by have := F (bnot_t h); omega),fun h6 => ⟨fun h => kno (fun k => by have := T h; omega),fun h7 => ⟨fun h => kno (fun k => by have := T h; omega),fun h8 => ⟨fun h => kno (fun k => by have := T h; omega),fun h9 => ⟨fun h => kno (fun k => by have := T h; omega),fun h10 => ⟨fun h11 => ⟨fun h => kno (fun k => by have := F (bnot_t h); have := F (bnot_t h11); omega),fun h12 => kyes ?_⟩,fun h11 => kyes ?_⟩⟩⟩⟩⟩⟩,fun h5 => kno (fun k => by have := F h5; omega)⟩⟩,fun h3 => kno (fun k => by have := F h3; omega)⟩⟩⟩
 ·have := F h1; have := F h2; have := T h3; have := T (bnot_f h4); have := T h5; have := T (bnot_f h6); have := F h7; have := F h8; have := F h9; have := F h10; have := T (bnot_f h12)
  omega
 ·have := F h1; have := F h2; have := T h3; have := T (bnot_f h4); have := T h5; have := T (bnot_f h6); have := F h7; have := F h8; have := F h9; have := F h10; have := T (bnot_f h11)
  omega
theorem w64_eq {x q : Int} (h0 : 0 <= x + 9223372036854775808 - 18446744073709551616 * q) (h1 : x + 9223372036854775808 - 18446744073709551616 * q < 18446744073709551616) : w64 x = x - 18446744073709551616 * q := by
 unfold w64; omega
theorem p_sover : B_sover SB (KBv SB [.bool] 417) := by
 intro r0 hr z10 a0 a1 z11 b0 b1 b2 b3
 refine kb ?_
 show b01 _ = b01 (oldF (seOf r0) z10)
 unfold oldF
 have e : (seOf r0).since = r0.getD 6 0 := rfl
 rw [e,w64_eq (q := z11) (by omega) (by omega)]
 rw [show (-1) * r0.getD 6 0 + (z10 + (-18446744073709551616) * z11) = z10 - r0.getD 6 0 - 18446744073709551616 * z11 by omega]
end Go.Ad
set_option maxRecDepth 100000
set_option linter.unusedVariables false
set_option linter.unusedSimpArgs false
namespace Go.Ad
open Go Go.Rx
def B_sRight (S : Nat -> List (List Int) -> List (List Int) -> Prop) (K : List (List Int) -> List (List Int) -> Prop) : Prop :=
 ∀ z0 : Int,0 <= z0 -> z0 <= RB ->
 ∀ z1 : Int,0 <= z1 ->
 ∀ z2 : Int,(-1) <= z2 -> z2 <= 9223372036854775807 ->
 ∀ z3 : Int,0 <= z3 -> z3 <= 9223372036854775807 -> z3 = fnD 20 [z0] ->
 (((decide (16 < z3)) = true ->
  K [[z0]] [[(cond (false) 1 0)]]
 ) /\ ((decide (16 < z3)) = false ->
  ∃ (I4 : List (List Int) -> Prop) (μ4 : List (List Int) -> Nat),I4 [[0]] /\ (∀ z5 : Int,0 <= z5 -> z5 <= 9223372036854775807 -> I4 [[z5]] ->
   (((decide (z5 < z3)) = true ->
    chkD 30 [z5,z3] /\
    chkD 21 [z0,z5] /\
    ∀ z6 : Int,(-9223372036854775808) <= z6 -> z6 <= 9223372036854775807 -> z6 = fnD 21 [z0,z5,0] ->
    ∀ z7 : Int,0 <= z7 -> z7 <= HB -> z7 = fnD 21 [z0,z5,1] ->
    ∀ z8 : Int,0 <= z8 -> z8 <= HB -> z8 = fnD 21 [z0,z5,2] ->
    ∀ z9 : Int,0 <= z9 -> z9 <= HB -> z9 = fnD 21 [z0,z5,3] ->
    ∀ z10 : Int,0 <= z10 -> z10 <= HB -> z10 = fnD 21 [z0,z5,4] ->
    ∀ z11 : Int,(-9223372036854775808) <= z11 -> z11 <= 9223372036854775807 -> z11 = fnD 21 [z0,z5,5] ->
    ∀ z12 : Int,(-9223372036854775808) <= z12 -> z12 <= 9223372036854775807 -> z12 = fnD 21 [z0,z5,6] ->
    ∀ z13 : Int,(-9223372036854775808) <= z13 -> z13 <= 9223372036854775807 -> z13 = fnD 21 [z0,z5,7] ->
    ∀ z14 : Int,0 <= z14 -> z14 <= 1 -> z14 = fnD 21 [z0,z5,8] ->
    ∀ z15 : Int,(-9223372036854775808) <= z15 -> z15 <= 9223372036854775807 -> z15 = fnD 21 [z0,z5,9] ->
    ∀ z16 : Int,0 <= z16 -> z16 <= 1 -> decide (z14 = 1) = decide (z16 = 1) ->
    ∀ z17 : Int,0 <= z17 -> z17 <= 1 -> S 402 [[z6,z7,z8,z9,z10,z11,z12,z13,z16,z15]] [[z17]] ->
    ((((!(decide (z17 = 1)))) = true ->
     K [[z0]] [[(cond (false) 1 0)]]
    ) /\ (((!(decide (z17 = 1)))) = false ->
     chkD 32 [0,z5,z3] /\
     ∃ (I18 : List (List Int) -> Prop) (μ18 : List (List Int) -> Nat),I18 [[0]] /\ (∀ z19 : Int,0 <= z19 -> z19 <= 9223372036854775807 -> I18 [[z19]] ->
      (((decide (z19 < z5)) = true ->
       chkD 30 [z19,z5] /\
       chkD 21 [z0,z19] /\
       ∀ z20 : Int,(-9223372036854775808) <= z20 -> z20 <= 9223372036854775807 -> z20 = fnD 21 [z0,z19,0] ->
       ∀ z21 : Int,0 <= z21 -> z21 <= HB -> z21 = fnD 21 [z0,z19,1] ->
       ∀ z22 : Int,0 <= z22 -> z22 <= HB -> z22 = fnD 21 [z0,z19,2] ->
       ∀ z23 : Int,0 <= z23 -> z23 <= HB -> z23 = fnD 21 [z0,z19,3] ->
       ∀ z24 : Int,0 <= z24 -> z24 <= HB -> z24 = fnD 21 [z0,z19,4] ->
       ∀ z25 : Int,(-9223372036854775808) <= z25 -> z25 <= 9223372036854775807 -> z25 = fnD 21 [z0,z19,5] ->
       ∀ z26 : Int,(-9223372036854775808) <= z26 -> z26 <= 9223372036854775807 -> z26 = fnD 21 [z0,z19,6] ->
       ∀ z27 : Int,(-9223372036854775808) <= z27 -> z27 <= 9223372036854775807 -> z27 = fnD 21 [z0,z19,7] ->
       ∀ z28 : Int,0 <= z28 -> z28 <= 1 -> z28 = fnD 21 [z0,z19,8] ->
       ∀ z29 : Int,(-9223372036854775808) <= z29 -> z29 <= 9223372036854775807 -> z29 = fnD 21 [z0,z19,9] ->
       ∀ z30 : Int,0 <= z30 -> z30 <= 1 -> z30 = fnD 4 [z21,z7] ->
       (((decide (z30 = 1)) = true ->
        ∀ z31 : Int,0 <= z31 -> z31 <= 1 -> z31 = fnD 4 [z22,z8] ->
        ∀ z32 : Int,0 <= z32 -> z32 <= 1 -> z32 = fnD 4 [z23,z9] ->
        (((decide ([z31,z32] = [1,1])) = true ->
         K [[z0]] [[(cond (false) 1 0)]]
        ) /\ ((decide ([z31,z32] = [1,1])) = false ->
         ∀ z33 : Int,0 <= z33 -> z33 <= 1 -> z33 = fnD 4 [z24,z10] ->
         (((decide (z33 = 1)) = true ->
          K [[z0]] [[(cond (false) 1 0)]]
         ) /\ ((decide (z33 = 1)) = false ->
          (((decide (z6 <= z20)) = true ->
           K [[z0]] [[(cond (false) 1 0)]]
          ) /\ ((decide (z6 <= z20)) = false ->
           ∀ z34 : Int,0 <= z34 -> z34 <= 1 -> 0 <= (z19 + 9223372036854775809) - 18446744073709551616 * z34 -> (z19 + 9223372036854775809) - 18446744073709551616 * z34 < 18446744073709551616 ->
           chkD 39 [((z19 + ((-18446744073709551616) * z34)) + 1),0,9223372036854775807] /\
           (I18 [[((z19 + ((-18446744073709551616) * z34)) + 1)]] /\ μ18 [[((z19 + ((-18446744073709551616) * z34)) + 1)]] < μ18 [[z19]])
          ))
         ))
        ))
       ) /\ ((decide (z30 = 1)) = false ->
        ∀ z31 : Int,0 <= z31 -> z31 <= 1 -> z31 = fnD 4 [z24,z10] ->
        (((decide (z31 = 1)) = true ->
         K [[z0]] [[(cond (false) 1 0)]]
        ) /\ ((decide (z31 = 1)) = false ->
         (((decide (z6 <= z20)) = true ->
          K [[z0]] [[(cond (false) 1 0)]]
         ) /\ ((decide (z6 <= z20)) = false ->
          ∀ z32 : Int,0 <= z32 -> z32 <= 1 -> 0 <= (z19 + 9223372036854775809) - 18446744073709551616 * z32 -> (z19 + 9223372036854775809) - 18446744073709551616 * z32 < 18446744073709551616 ->
          chkD 39 [((z19 + ((-18446744073709551616) * z32)) + 1),0,9223372036854775807] /\
          (I18 [[((z19 + ((-18446744073709551616) * z32)) + 1)]] /\ μ18 [[((z19 + ((-18446744073709551616) * z32)) + 1)]] < μ18 [[z19]])
         ))
        ))
       ))
      ) /\ ((decide (z19 < z5)) = false ->
       ∀ z20 : Int,0 <= z20 -> z20 <= 1 -> 0 <= (z5 + 9223372036854775809) - 18446744073709551616 * z20 -> (z5 + 9223372036854775809) - 18446744073709551616 * z20 < 18446744073709551616 ->
       chkD 39 [((z5 + ((-18446744073709551616) * z20)) + 1),0,9223372036854775807] /\
       (I4 [[((z5 + ((-18446744073709551616) * z20)) + 1)]] /\ μ4 [[((z5 + ((-18446744073709551616) * z20)) + 1)]] < μ4 [[z5]])
      ))
     )
    ))
   ) /\ ((decide (z5 < z3)) = false ->
    K [[z0]] [[(cond (true) 1 0)]]
   ))
  )
 ))
def B_splace (S : Nat -> List (List Int) -> List (List Int) -> Prop) (K : List (List Int) -> List (List Int) -> Prop) : Prop :=
 ∀ z0 : Int,0 <= z0 -> z0 <= RB -> ∀ z1 : Int,(-9223372036854775808) <= z1 -> z1 <= 9223372036854775807 ->
 ∀ z2 : Int,0 <= z2 ->
 ∀ z3 : Int,(-1) <= z3 -> z3 <= 9223372036854775807 ->
 ∀ z4 : Int,0 <= z4 -> z4 <= 9223372036854775807 -> z4 = fnD 20 [z0] ->
 ∃ (I5 : List (List Int) -> Prop) (μ5 : List (List Int) -> Nat),I5 [[0],[z4]] /\ (∀ z6 : Int,0 <= z6 -> z6 <= 9223372036854775807 -> ∀ z7 : Int,0 <= z7 -> z7 <= 9223372036854775807 -> I5 [[z6],[z7]] ->
  (((decide (z6 < z7)) = true ->
   ∀ z8 : Int,0 <= z8 -> z8 <= 1 -> 0 <= ((z6 + z7) + 9223372036854775808) - 18446744073709551616 * z8 -> ((z6 + z7) + 9223372036854775808) - 18446744073709551616 * z8 < 18446744073709551616 ->
   ∀ z9 : Int,(-1) <= z9 -> z9 <= 0 -> 0 <= (z6 + (z7 + ((-18446744073709551616) * z8))) - 18446744073709551616 * z9 -> (z6 + (z7 + ((-18446744073709551616) * z8))) - 18446744073709551616 * z9 < 18446744073709551616 ->
   ∀ z10 : Int,0 <= z10 -> z10 <= 9223372036854775807 -> 0 <= (z6 + (z7 + (((-18446744073709551616) * z8) + ((-18446744073709551616) * z9)))) - 2 * z10 -> (z6 + (z7 + (((-18446744073709551616) * z8) + ((-18446744073709551616) * z9)))) - 2 * z10 < 2 ->
   chkD 30 [z10,z4] /\
   chkD 21 [z0,z10] /\
   ∀ z11 : Int,(-9223372036854775808) <= z11 -> z11 <= 9223372036854775807 -> z11 = fnD 21 [z0,z10,0] ->
   ∀ z12 : Int,0 <= z12 -> z12 <= HB -> z12 = fnD 21 [z0,z10,1] ->
   ∀ z13 : Int,0 <= z13 -> z13 <= HB -> z13 = fnD 21 [z0,z10,2] ->
   ∀ z14 : Int,0 <= z14 -> z14 <= HB -> z14 = fnD 21 [z0,z10,3] ->
   ∀ z15 : Int,0 <= z15 -> z15 <= HB -> z15 = fnD 21 [z0,z10,4] ->
   ∀ z16 : Int,(-9223372036854775808) <= z16 -> z16 <= 9223372036854775807 -> z16 = fnD 21 [z0,z10,5] ->
   ∀ z17 : Int,(-9223372036854775808) <= z17 -> z17 <= 9223372036854775807 -> z17 = fnD 21 [z0,z10,6] ->
   ∀ z18 : Int,(-9223372036854775808) <= z18 -> z18 <= 9223372036854775807 -> z18 = fnD 21 [z0,z10,7] ->
   ∀ z19 : Int,0 <= z19 -> z19 <= 1 -> z19 = fnD 21 [z0,z10,8] ->
   ∀ z20 : Int,(-9223372036854775808) <= z20 -> z20 <= 9223372036854775807 -> z20 = fnD 21 [z0,z10,9] ->
   (((decide (z11 < z1)) = true ->
    ∀ z21 : Int,0 <= z21 -> z21 <= 1 -> 0 <= (z10 + 9223372036854775809) - 18446744073709551616 * z21 -> (z10 + 9223372036854775809) - 18446744073709551616 * z21 < 18446744073709551616 ->
    chkD 39 [((z10 + ((-18446744073709551616) * z21)) + 1),0,9223372036854775807] /\
    (I5 [[((z10 + ((-18446744073709551616) * z21)) + 1)],[z7]] /\ μ5 [[((z10 + ((-18446744073709551616) * z21)) + 1)],[z7]] < μ5 [[z6],[z7]])
   ) /\ ((decide (z11 < z1)) = false ->
    (((decide (z1 < z11)) = true ->
     (I5 [[z6],[z10]] /\ μ5 [[z6],[z10]] < μ5 [[z6],[z7]])
    ) /\ ((decide (z1 < z11)) = false ->
     (I5 [[z6],[z10]] /\ μ5 [[z6],[z10]] < μ5 [[z6],[z7]])
    ))
   ))
  ) /\ ((decide (z6 < z7)) = false ->
   (((decide (z6 < z4)) = true ->
    chkD 30 [z6,z4] /\
    chkD 21 [z0,z6] /\
    ∀ z8 : Int,(-9223372036854775808) <= z8 -> z8 <= 9223372036854775807 -> z8 = fnD 21 [z0,z6,0] ->
    ∀ z9 : Int,0 <= z9 -> z9 <= HB -> z9 = fnD 21 [z0,z6,1] ->
    ∀ z10 : Int,0 <= z10 -> z10 <= HB -> z10 = fnD 21 [z0,z6,2] ->
    ∀ z11 : Int,0 <= z11 -> z11 <= HB -> z11 = fnD 21 [z0,z6,3] ->
    ∀ z12 : Int,0 <= z12 -> z12 <= HB -> z12 = fnD 21 [z0,z6,4] ->
    ∀ z13 : Int,(-9223372036854775808) <= z13 -> z13 <= 9223372036854775807 -> z13 = fnD 21 [z0,z6,5] ->
    ∀ z14 : Int,(-9223372036854775808) <= z14 -> z14 <= 9223372036854775807 -> z14 = fnD 21 [z0,z6,6] ->
    ∀ z15 : Int,(-9223372036854775808) <= z15 -> z15 <= 9223372036854775807 -> z15 = fnD 21 [z0,z6,7] ->
    ∀ z16 : Int,0 <= z16 -> z16 <= 1 -> z16 = fnD 21 [z0,z6,8] ->
    ∀ z17 : Int,(-9223372036854775808) <= z17 -> z17 <= 9223372036854775807 -> z17 = fnD 21 [z0,z6,9] ->
    (((decide (z8 < z1)) = true ->
     K [[z0],[z1]] [[z6],[(cond (false) 1 0)]]
    ) /\ ((decide (z8 < z1)) = false ->
     (((decide (z1 < z8)) = true ->
      K [[z0],[z1]] [[z6],[(cond (false) 1 0)]]
     ) /\ ((decide (z1 < z8)) = false ->
      K [[z0],[z1]] [[z6],[(cond (true) 1 0)]]
     ))
    ))
   ) /\ ((decide (z6 < z4)) = false ->
    K [[z0],[z1]] [[z6],[(cond (false) 1 0)]]
   ))
  ))
 )
theorem ses_len (z : Int) : (ses z).length = (rOf z).length := by simp [ses]
theorem ses_get {z : Int} {i : Nat} (h : i < (rOf z).length) : (ses z).getD i se0 = seOf ((rOf z).getD i []) := by
 simp [ses,List.getD,h]
theorem ses_same {y z : Int} (h : rOf y = rOf z) : ses y = ses z := by unfold ses; rw [h]
theorem whole_ses {z n y : Int} (hn : n = ((rOf z).length : Int)) : (0 <= (0 : Int) /\ 0 <= n /\ n <= ((rOf z).length : Int)) /\ (y = fnD 22 [z,0,n] -> rOf y = rOf z) := by
 refine ⟨⟨Int.le_refl _,by omega,by omega⟩,fun hy => ?_⟩
 rw [hy]; simp only [fnD,rOf_rc]
 rw [show (0 : Int).toNat = 0 from rfl,List.drop_zero,List.take_of_length_le (by omega)]
theorem row_se {z0 i a0 a1 a2 a3 a4 a5 a6 a7 a8 a9 : Int} {k : Nat} (hi : i = (k : Int)) (hk : k < (rOf z0).length) (h0 : a0 = fnD 21 [z0,i,0]) (h1 : a1 = fnD 21 [z0,i,1]) (h2 : a2 = fnD 21 [z0,i,2]) (h3 : a3 = fnD 21 [z0,i,3]) (h4 : a4 = fnD 21 [z0,i,4]) (h5 : a5 = fnD 21 [z0,i,5]) (h6 : a6 = fnD 21 [z0,i,6]) (h7 : a7 = fnD 21 [z0,i,7]) (h8 : a8 = fnD 21 [z0,i,8]) (h9 : a9 = fnD 21 [z0,i,9]) :
 seOf [a0,a1,a2,a3,a4,a5,a6,a7,a8,a9] = (ses z0).getD k se0 := by
 rw [ses_get hk,h0,h1,h2,h3,h4,h5,h6,h7,h8,h9,hi]; rfl
theorem pair_dec {z w a b c d : Int} (h : z = fnD 4 [a,c]) (h' : w = fnD 4 [b,d]) : decide ((sOf a,sOf b) = (sOf c,sOf d)) = decide ([z,w] = [1,1]) := by
 have h := eq_dec h
 have h' := eq_dec h'
 rw [Bool.eq_iff_iff] at h h' ⊢
 simp only [decide_eq_true_eq] at h h' ⊢
 simp [h,h']
theorem rightS_iff (l : List Se) : rightS l = true ↔ l.length <= 16 /\ ∀ i,i < l.length -> seOk (l.getD i se0) = true /\ ∀ j,j < i -> clashF (l.getD j se0) (l.getD i se0) = false := by
 unfold rightS
 simp only [Bool.and_eq_true,Nat.ble_eq,List.all_eq_true,List.mem_range,Bool.not_eq_true']
 refine and_congr Iff.rfl (forall_congr' fun i => forall_congr' fun hi => and_congr Iff.rfl ⟨fun h j hj => ?_,fun h x hx => ?_⟩)
 ·refine h _ (List.mem_iff_getElem.2 ⟨j,by simp; omega,?_⟩)
  simp [List.getD,show j < l.length by omega]
 ·obtain ⟨j,hj,rfl⟩ := List.mem_iff_getElem.1 hx
  have hj' : j < i /\ j < l.length := by rw [List.length_take] at hj; omega
  have := h j hj'.1
  simpa [List.getD,hj'.2] using this
def RsI (z0 : Int) (bl : List (List Int)) : Prop := ∃ i : Nat,bl = [[(i : Int)]] /\ i <= (ses z0).length /\ ∀ k,k < i -> seOk ((ses z0).getD k se0) = true /\ ∀ j,j < k -> clashF ((ses z0).getD j se0) ((ses z0).getD k se0) = false
def RsM (z0 : Int) (bl : List (List Int)) : Nat := (ses z0).length - ((bl.getD 0 []).getD 0 0).toNat
def RtI (z0 : Int) (i : Nat) (bl : List (List Int)) : Prop := ∃ m : Nat,bl = [[(m : Int)]] /\ m <= i /\ ∀ j,j < m -> clashF ((ses z0).getD j se0) ((ses z0).getD i se0) = false
theorem p_sRight : B_sRight SB (KBb SB [.d .bool] 403) := by
 intro z0 a0 a1 z1 _ z2 _ _ z3 b0 b1 h3
 have h3 : z3 = ((rOf z0).length : Int) := h3
 have hlen := ses_len z0
 have kk : ∀ b : Bool,rightS (ses z0) = b -> KBb SB [.d .bool] 403 [[z0]] [[cond b 1 0]] := fun b h => ⟨by cases b <;> exact ⟨by decide,by decide,trivial⟩,by show cond b (1 : Int) 0 = b01 (rightS (ses z0)); rw [h]; rfl⟩
 have kno : (¬ ((ses z0).length <= 16 /\ ∀ i,i < (ses z0).length -> seOk ((ses z0).getD i se0) = true /\ ∀ j,j < i -> clashF ((ses z0).getD j se0) ((ses z0).getD i se0) = false)) -> KBb SB [.d .bool] 403 [[z0]] [[cond false 1 0]] := fun h => kk false (by
  cases hr : rightS (ses z0) with
  | false => rfl
  | true => exact absurd ((rightS_iff _).1 hr) h)
 refine ⟨fun h => kno (fun h2 => by have := of_decide_eq_true h; have := h2.1; omega),fun h16 => ?_⟩
 have h16 := of_decide_eq_false h16
 refine ⟨RsI z0,RsM z0,⟨0,rfl,Nat.zero_le _,fun j h => absurd h (Nat.not_lt_zero j)⟩,?_⟩
 rintro z5 c0 c1 ⟨i,e,hi,hI⟩
 obtain rfl : z5 = i := by simpa using e
 refine ⟨fun hlt => ?_,fun hge => kk true ((rightS_iff _).2 ⟨by omega,fun j hj => hI j (by have := of_decide_eq_false hge; omega)⟩)⟩
 have hlt := of_decide_eq_true hlt
 have hil : i < (rOf z0).length := by omega
 refine ⟨⟨by omega,by omega⟩,⟨by omega,by omega⟩,fun z6 _ _ h6 z7 _ _ h7 z8 _ _ h8 z9 _ _ h9 z10 _ _ h10 z11 _ _ h11 z12 _ _ h12 z13 _ _ h13 z14 d0 d1 h14 z15 _ _ h15 z16 e0 e1 h16' z17 _ _ h17 => ?_⟩
 have h16'' := bit_eq d0 d1 e0 e1 h16'
 subst h16''
 have hrow := row_se (k := i) rfl hil h6 h7 h8 h9 h10 h11 h12 h13 h14 h15
 have h17 : z17 = b01 (seOk (seOf [z6,z7,z8,z9,z10,z11,z12,z13,z16,z15])) := h17
 rw [hrow] at h17
 have hd := b01_dec h17
 refine ⟨fun hb => kno (fun h2 => ?_),fun hb => ⟨⟨by omega,by omega,by omega⟩,RtI z0 i,fun bl => i - ((bl.getD 0 []).getD 0 0).toNat,⟨0,rfl,Nat.zero_le _,fun j h => absurd h (Nat.not_lt_zero j)⟩,?_⟩⟩
 ·rw [hd,(h2.2 i (by omega)).1] at hb; cases hb
 have hok : seOk ((ses z0).getD i se0) = true := by rw [hd] at hb; exact bnot_f hb
 rintro z19 f0 f1 ⟨m,e,hm,hM⟩
 obtain rfl : z19 = m := by simpa using e
 refine ⟨fun hlt2 => ?_,fun hge2 z20 x0 x1 x2 x3 => ⟨⟨by omega,by omega⟩,⟨i + 1,by rw [show ((i : Int) + (-18446744073709551616) * z20) + 1 = ((i + 1 : Nat) : Int) by omega],by omega,fun k hk => ?_⟩,?_⟩⟩
 rotate_left
 ·have := of_decide_eq_false hge2
  rcases Nat.lt_or_ge k i with h | h
  ·exact hI k h
  ·obtain rfl : k = i := by omega
   exact ⟨hok,fun j hj => hM j (by omega)⟩
 ·show (ses z0).length - (((i : Int) + (-18446744073709551616) * z20) + 1).toNat < (ses z0).length - ((i : Int)).toNat; omega
 have hlt2 := of_decide_eq_true hlt2
 have hml : m < (rOf z0).length := by omega
 refine ⟨⟨by omega,by omega⟩,⟨by omega,by omega⟩,fun z20 _ _ h20 z21 _ _ h21 z22 _ _ h22 z23 _ _ h23 z24 _ _ h24 z25 _ _ h25 z26 _ _ h26 z27 _ _ h27 z28 _ _ h28 z29 _ _ h29 z30 _ _ h30 => ?_⟩
 have hrow2 := row_se (k := m) rfl hml h20 h21 h22 h23 h24 h25 h26 h27 h28 h29
 have hcl : clashF ((ses z0).getD m se0) ((ses z0).getD i se0) = ((decide (sOf z21 = sOf z7) && decide ((sOf z22,sOf z23) = (sOf z8,sOf z9))) || (decide (sOf z24 = sOf z10) || decide (z6 <= z20))) := by
  rw [<- hrow,<- hrow2]; rfl
 have hbad : clashF ((ses z0).getD m se0) ((ses z0).getD i se0) = true -> KBb SB [.d .bool] 403 [[z0]] [[cond false 1 0]] := fun h => kno (fun h2 => by
  have := (h2.2 i (by omega)).2 m (by omega)
  rw [this] at h; cases h)
 rw [<- eq_dec h30] at hcl
 have hstep : ∀ z : Int,0 <= z -> z <= 1 -> 0 <= ((m : Int) + 9223372036854775809) - 18446744073709551616 * z -> ((m : Int) + 9223372036854775809) - 18446744073709551616 * z < 18446744073709551616 -> clashF ((ses z0).getD m se0) ((ses z0).getD i se0) = false ->
  chkD 39 [(((m : Int) + (-18446744073709551616) * z) + 1),0,9223372036854775807] /\ (RtI z0 i [[(((m : Int) + (-18446744073709551616) * z) + 1)]] /\ i - ((([[(((m : Int) + (-18446744073709551616) * z) + 1)]] : List (List Int)).getD 0 []).getD 0 0).toNat < i - ((([[(m : Int)]] : List (List Int)).getD 0 []).getD 0 0).toNat) := fun z x0 x1 x2 x3 hf => by
  rw [show ((m : Int) + (-18446744073709551616) * z) + 1 = ((m + 1 : Nat) : Int) by omega]
  refine ⟨⟨by omega,by omega⟩,⟨m + 1,rfl,by omega,fun j hj => ?_⟩,?_⟩
  ·rcases Nat.lt_or_ge j m with h | h
   ·exact hM j h
   ·obtain rfl : j = m := by omega
    exact hf
  ·show i - (((m + 1 : Nat) : Int)).toNat < i - ((m : Int)).toNat; omega
 refine ⟨fun h => ?_,fun h => ?_⟩
 ·rw [h,Bool.true_and] at hcl
  intro z31 _ _ h31 z32 _ _ h32
  rw [pair_dec h31 h32] at hcl
  refine ⟨fun hp => hbad (by rw [hcl,hp]; rfl),fun hp z33 _ _ h33 => ?_⟩
  rw [hp,Bool.false_or,<- eq_dec h33] at hcl
  refine ⟨fun ht => hbad (by rw [hcl,ht]; rfl),fun ht => ⟨fun hid => hbad (by rw [hcl,hid,Bool.or_true]),fun hid z34 x0 x1 x2 x3 => hstep z34 x0 x1 x2 x3 (by rw [hcl,ht,hid]; rfl)⟩⟩
 ·rw [h,Bool.false_and,Bool.false_or] at hcl
  intro z31 _ _ h31
  rw [<- eq_dec h31] at hcl
  refine ⟨fun ht => hbad (by rw [hcl,ht]; rfl),fun ht => ⟨fun hid => hbad (by rw [hcl,hid,Bool.or_true]),fun hid z32 x0 x1 x2 x3 => hstep z32 x0 x1 x2 x3 (by rw [hcl,ht,hid]; rfl)⟩⟩
theorem rise {l : List Se} (hr : rightS l = true) {j k : Nat} (hjk : j < k) (hk : k < l.length) : (l.getD j se0).id < (l.getD k se0).id := by
 have := (((rightS_iff l).1 hr).2 k hk).2 j hjk
 unfold clashF at this
 simp only [Bool.or_eq_false_iff,decide_eq_false_iff_not] at this
 omega
def PnI (z0 n : Int) (bl : List (List Int)) : Prop := ∃ lo hi : Nat,bl = [[(lo : Int)],[(hi : Int)]] /\ lo <= hi /\ hi <= (ses z0).length /\ (rightS (ses z0) = true -> (∀ j : Nat,j < lo -> ((ses z0).getD j se0).id < n) /\ ∀ j : Nat,hi <= j -> j < (ses z0).length -> n <= ((ses z0).getD j se0).id)
def PnM (bl : List (List Int)) : Nat := ((bl.getD 1 []).getD 0 0).toNat - ((bl.getD 0 []).getD 0 0).toNat
theorem p_splace : B_splace SB (KBb SB [.d (.int .i64 0 9223372036854775807),.d .bool] 404) := by
 intro z0 a0 a1 n n0 n1 z2 _ z3 _ _ z4 b0 b1 h4
 have h4 : z4 = ((rOf z0).length : Int) := h4
 have hlen := ses_len z0
 have row0 : ∀ {z i : Int} {k : Nat},i = (k : Int) -> k < (rOf z0).length -> z = fnD 21 [z0,i,0] -> z = ((ses z0).getD k se0).id := fun hi hk h => by
  rw [ses_get hk,h,hi]; rfl
 refine ⟨PnI z0 n,PnM,⟨0,(rOf z0).length,by rw [h4]; rfl,Nat.zero_le _,by omega,fun _ => ⟨fun j h => absurd h (Nat.not_lt_zero j),fun j h h2 => by omega⟩⟩,?_⟩
 rintro z6 c0 c1 z7 d0 d1 ⟨lo,hi,e,hlh,hhl,hI⟩
 obtain ⟨rfl,rfl⟩ : z6 = lo /\ z7 = hi := by simpa using e
 refine ⟨fun hlt z8 e0 e1 e2 e3 z9 f0 f1 f2 f3 z10 g0 g1 g2 g3 => ?_,fun hge => ?_⟩
 ·have hlt := of_decide_eq_true hlt
  have hz9 : z8 + z9 = 0 := by omega
  have h11 : z10 = (((lo + hi) / 2 : Nat) : Int) := by omega
  generalize hk : (lo + hi) / 2 = k at h11
  have hk1 : lo <= k := by omega
  have hk2 : k < hi := by omega
  subst h11
  have hkl : k < (rOf z0).length := by omega
  have hkb : k < (ses z0).length := by omega
  refine ⟨⟨by omega,by omega⟩,⟨by omega,by omega⟩,fun z11 _ _ h11 z12 _ _ _ z13 _ _ _ z14 _ _ _ z15 _ _ _ z16 _ _ _ z17 _ _ _ z18 _ _ _ z19 _ _ _ z20 _ _ _ => ?_⟩
  have h11 := row0 (k := k) rfl hkl h11
  have hup : ¬ z11 < n -> rightS (ses z0) = true -> ∀ j : Nat,k <= j -> j < (ses z0).length -> n <= ((ses z0).getD j se0).id := fun hn hr j hj hl => by
   rcases Nat.lt_or_ge k j with h | h
   ·have := rise hr h hl; omega
   ·rw [show j = k by omega]; omega
  have hdone : ¬ z11 < n -> PnI z0 n [[(lo : Int)],[(k : Int)]] /\ PnM [[(lo : Int)],[(k : Int)]] < PnM [[(lo : Int)],[(hi : Int)]] := fun hn => by
   refine ⟨⟨lo,k,rfl,hk1,by omega,fun hr => ⟨(hI hr).1,hup hn hr⟩⟩,?_⟩
   show ((k : Int)).toNat - ((lo : Int)).toNat < ((hi : Int)).toNat - ((lo : Int)).toNat; omega
  refine ⟨fun hn z21 i0 i1 i2 i3 => ⟨⟨by omega,by omega⟩,⟨k + 1,hi,by rw [show ((k : Int) + (-18446744073709551616) * z21) + 1 = ((k + 1 : Nat) : Int) by omega],by omega,hhl,fun hr => ⟨fun j hj => ?_,(hI hr).2⟩⟩,?_⟩,fun hn => ⟨fun _ => hdone (of_decide_eq_false hn),fun _ => hdone (of_decide_eq_false hn)⟩⟩
  ·have hn := of_decide_eq_true hn
   rcases Nat.lt_or_ge j k with h | h
   ·have := rise hr h hkb; omega
   ·rw [show j = k by omega]; omega
  ·show ((hi : Int)).toNat - (((k : Int) + (-18446744073709551616) * z21) + 1).toNat < ((hi : Int)).toNat - ((lo : Int)).toNat; omega
 ·have hge := of_decide_eq_false hge
  have hh : hi = lo := by omega
  subst hh
  have kk : ∀ f : Bool,(f = true -> hi < (ses z0).length) -> (rightS (ses z0) = true -> (f = true ↔ hi < (ses z0).length /\ ((ses z0).getD hi se0).id = n)) -> KBb SB [.d (.int .i64 0 9223372036854775807),.d .bool] 404 [[z0],[n]] [[(hi : Int)],[cond f 1 0]] := fun f hf hf2 => by
   refine ⟨⟨by omega,c1,by cases f <;> decide,by cases f <;> decide,trivial⟩,⟨⟨by omega,by omega⟩,?_,fun hr => ⟨fun j hj => (hI hr).1 j (by omega),fun j h1 h2 => (hI hr).2 j (by omega) h2,?_⟩⟩⟩
   ·intro h
    have : f = true := by cases f with | true => rfl | false => cases h
    have := hf this; omega
   ·have h3 := hf2 hr
    rw [Int.toNat_natCast]
    cases f with
    | true => exact ⟨fun _ => ⟨by have := (h3.1 rfl).1; omega,(h3.1 rfl).2⟩,fun _ => rfl⟩
    | false => exact ⟨fun h => (by cases h),fun h => (by have := h3.2 ⟨by omega,h.2⟩; cases this)⟩
  refine ⟨fun hl => ?_,fun hl => ?_⟩
  ·have hl := of_decide_eq_true hl
   have hkl : hi < (rOf z0).length := by omega
   refine ⟨⟨by omega,by omega⟩,⟨by omega,by omega⟩,fun z8 _ _ h8 z9 _ _ _ z10 _ _ _ z11 _ _ _ z12 _ _ _ z13 _ _ _ z14 _ _ _ z15 _ _ _ z16 _ _ _ z17 _ _ _ => ?_⟩
   have h8 := row0 (k := hi) rfl hkl h8
   refine ⟨fun hc => kk false (fun h => by cases h) (fun _ => ⟨fun h => (by cases h),fun h => (by have := of_decide_eq_true hc; omega)⟩),fun hc => ⟨fun hd => kk false (fun h => by cases h) (fun _ => ⟨fun h => (by cases h),fun h => (by have := of_decide_eq_true hd; omega)⟩),fun hd => kk true (fun _ => by omega) (fun _ => ⟨fun _ => ⟨by omega,?_⟩,fun _ => rfl⟩)⟩⟩
   have := of_decide_eq_false hc; have := of_decide_eq_false hd; omega
  ·have hl := of_decide_eq_false hl
   exact kk false (fun h => by cases h) (fun _ => ⟨fun h => (by cases h),fun h => (by omega)⟩)
end Go.Ad
set_option maxRecDepth 100000
set_option linter.unusedVariables false
set_option linter.unusedSimpArgs false
namespace Go.Ad
open Go Go.Rx
def B_sFind (S : Nat -> List (List Int) -> List (List Int) -> Prop) (K : List (List Int) -> List (List Int) -> Prop) : Prop :=
 ∀ z0 : Int,0 <= z0 -> z0 <= RB -> ∀ z1 : Int,(-9223372036854775808) <= z1 -> z1 <= 9223372036854775807 ->
 ∀ z2 : Int,0 <= z2 ->
 ∀ z3 : Int,(-1) <= z3 -> z3 <= 9223372036854775807 ->
 ∀ z4 : Int,0 <= z4 -> z4 <= 9223372036854775807 -> z4 = fnD 20 [z0] ->
 chkD 22 [z0,0,z4] /\
 ∀ z5 : Int,0 <= z5 -> z5 <= RB -> z5 = fnD 22 [z0,0,z4] ->
 ∀ z6 : Int,0 <= z6 -> z6 <= 1 -> S 403 [[z5]] [[z6]] ->
 ((((!(decide (z6 = 1)))) = true ->
  K [[z0],[z1]] [[0,0,0,0,0,0,0,0,(cond (false) 1 0),0],[(cond (false) 1 0)]]
 ) /\ (((!(decide (z6 = 1)))) = false ->
  chkD 22 [z0,0,z4] /\
  ∀ z7 : Int,0 <= z7 -> z7 <= RB -> z7 = fnD 22 [z0,0,z4] ->
  ∀ z8 : Int,0 <= z8 -> z8 <= 9223372036854775807 -> ∀ z9 : Int,0 <= z9 -> z9 <= 1 -> S 404 [[z7],[z1]] [[z8],[z9]] ->
  ((((!(decide (z9 = 1)))) = true ->
   K [[z0],[z1]] [[0,0,0,0,0,0,0,0,(cond (false) 1 0),0],[(cond (false) 1 0)]]
  ) /\ (((!(decide (z9 = 1)))) = false ->
   chkD 30 [z8,z4] /\
   chkD 21 [z0,z8] /\
   ∀ z10 : Int,(-9223372036854775808) <= z10 -> z10 <= 9223372036854775807 -> z10 = fnD 21 [z0,z8,0] ->
   ∀ z11 : Int,0 <= z11 -> z11 <= HB -> z11 = fnD 21 [z0,z8,1] ->
   ∀ z12 : Int,0 <= z12 -> z12 <= HB -> z12 = fnD 21 [z0,z8,2] ->
   ∀ z13 : Int,0 <= z13 -> z13 <= HB -> z13 = fnD 21 [z0,z8,3] ->
   ∀ z14 : Int,0 <= z14 -> z14 <= HB -> z14 = fnD 21 [z0,z8,4] ->
   ∀ z15 : Int,(-9223372036854775808) <= z15 -> z15 <= 9223372036854775807 -> z15 = fnD 21 [z0,z8,5] ->
   ∀ z16 : Int,(-9223372036854775808) <= z16 -> z16 <= 9223372036854775807 -> z16 = fnD 21 [z0,z8,6] ->
   ∀ z17 : Int,(-9223372036854775808) <= z17 -> z17 <= 9223372036854775807 -> z17 = fnD 21 [z0,z8,7] ->
   ∀ z18 : Int,0 <= z18 -> z18 <= 1 -> z18 = fnD 21 [z0,z8,8] ->
   ∀ z19 : Int,(-9223372036854775808) <= z19 -> z19 <= 9223372036854775807 -> z19 = fnD 21 [z0,z8,9] ->
   K [[z0],[z1]] [[z10,z11,z12,z13,z14,z15,z16,z17,(cond (decide (z18 = 1)) 1 0),z19],[(cond (true) 1 0)]]
  ))
 ))
def B_sopen (S : Nat -> List (List Int) -> List (List Int) -> Prop) (K : List (List Int) -> List (List Int) -> Prop) : Prop :=
 ∀ z0 : Int,0 <= z0 -> z0 <= RB -> ∀ z1 : Int,(-9223372036854775808) <= z1 -> z1 <= 9223372036854775807 -> ∀ r2 : List Int,inB [((-9223372036854775808),9223372036854775807),(0,HB),(0,HB),(0,HB),(0,HB),((-9223372036854775808),9223372036854775807),((-9223372036854775808),9223372036854775807),((-9223372036854775808),9223372036854775807),(0,1),((-9223372036854775808),9223372036854775807)] r2 ->
 ∀ z12 : Int,0 <= z12 ->
 ∀ z13 : Int,(-1) <= z13 -> z13 <= 9223372036854775807 ->
 ∀ z14 : Int,0 <= z14 -> z14 <= 9223372036854775807 -> z14 = fnD 20 [z0] ->
 (((decide (0 <= z1)) = true ->
  ((((!(decide (z1 <= 1099511627776)))) = true ->
   K [[z0],[z1],r2] [[0],[1]]
  ) /\ (((!(decide (z1 <= 1099511627776)))) = false ->
   chkD 22 [z0,0,z14] /\
   ∀ z15 : Int,0 <= z15 -> z15 <= RB -> z15 = fnD 22 [z0,0,z14] ->
   ∀ z16 : Int,0 <= z16 -> z16 <= 1 -> S 403 [[z15]] [[z16]] ->
   ((((!(decide (z16 = 1)))) = true ->
    K [[z0],[z1],r2] [[0],[1]]
   ) /\ (((!(decide (z16 = 1)))) = false ->
    chkD 22 [z0,0,z14] /\
    ∀ z17 : Int,0 <= z17 -> z17 <= RB -> z17 = fnD 22 [z0,0,z14] ->
    ∀ z18 : Int,0 <= z18 -> z18 <= 9223372036854775807 -> ∀ z19 : Int,0 <= z19 -> z19 <= 1 -> S 404 [[z17],[(List.getD r2 0 0)]] [[z18],[z19]] ->
    ((((!(decide (z19 = 1)))) = true ->
     K [[z0],[z1],r2] [[0],[11]]
    ) /\ (((!(decide (z19 = 1)))) = false ->
     chkD 30 [z18,z14] /\
     chkD 21 [z0,z18] /\
     ∀ z20 : Int,0 <= z20 -> z20 <= HB -> z20 = fnD 21 [z0,z18,1] ->
     ∀ z21 : Int,0 <= z21 -> z21 <= 1 -> z21 = fnD 4 [z20,(List.getD r2 1 0)] ->
     ((((!(decide (z21 = 1)))) = true ->
      K [[z0],[z1],r2] [[0],[11]]
     ) /\ (((!(decide (z21 = 1)))) = false ->
      chkD 30 [z18,z14] /\
      chkD 21 [z0,z18] /\
      ∀ z22 : Int,(-9223372036854775808) <= z22 -> z22 <= 9223372036854775807 -> z22 = fnD 21 [z0,z18,0] ->
      ∀ z23 : Int,0 <= z23 -> z23 <= HB -> z23 = fnD 21 [z0,z18,1] ->
      ∀ z24 : Int,0 <= z24 -> z24 <= HB -> z24 = fnD 21 [z0,z18,2] ->
      ∀ z25 : Int,0 <= z25 -> z25 <= HB -> z25 = fnD 21 [z0,z18,3] ->
      ∀ z26 : Int,0 <= z26 -> z26 <= HB -> z26 = fnD 21 [z0,z18,4] ->
      ∀ z27 : Int,(-9223372036854775808) <= z27 -> z27 <= 9223372036854775807 -> z27 = fnD 21 [z0,z18,5] ->
      ∀ z28 : Int,(-9223372036854775808) <= z28 -> z28 <= 9223372036854775807 -> z28 = fnD 21 [z0,z18,6] ->
      ∀ z29 : Int,(-9223372036854775808) <= z29 -> z29 <= 9223372036854775807 -> z29 = fnD 21 [z0,z18,7] ->
      ∀ z30 : Int,0 <= z30 -> z30 <= 1 -> z30 = fnD 21 [z0,z18,8] ->
      ∀ z31 : Int,(-9223372036854775808) <= z31 -> z31 <= 9223372036854775807 -> z31 = fnD 21 [z0,z18,9] ->
      ∀ z32 : Int,0 <= z32 -> z32 <= 1 -> decide (z30 = 1) = decide (z32 = 1) ->
      ∀ z33 : Int,0 <= z33 -> z33 <= 1 -> S 417 [[z22,z23,z24,z25,z26,z27,z28,z29,z32,z31],[z1]] [[z33]] ->
      (((decide (z33 = 1)) = true ->
       K [[z0],[z1],r2] [[0],[11]]
      ) /\ ((decide (z33 = 1)) = false ->
       K [[z0],[z1],r2] [[z18],[0]]
      ))
     ))
    ))
   ))
  ))
 ) /\ ((decide (0 <= z1)) = false ->
  K [[z0],[z1],r2] [[0],[1]]
 ))
def B_sShown (S : Nat -> List (List Int) -> List (List Int) -> Prop) (K : List (List Int) -> List (List Int) -> Prop) : Prop :=
 ∀ z0 : Int,0 <= z0 -> z0 <= RB -> ∀ z1 : Int,(-9223372036854775808) <= z1 -> z1 <= 9223372036854775807 -> ∀ r2 : List Int,inB [((-9223372036854775808),9223372036854775807),(0,HB),(0,HB),(0,HB),(0,HB),((-9223372036854775808),9223372036854775807),((-9223372036854775808),9223372036854775807),((-9223372036854775808),9223372036854775807),(0,1),((-9223372036854775808),9223372036854775807)] r2 ->
 ∀ z12 : Int,0 <= z12 ->
 ∀ z13 : Int,(-1) <= z13 -> z13 <= 9223372036854775807 ->
 ∀ z14 : Int,0 <= z14 -> z14 <= 9223372036854775807 -> z14 = fnD 20 [z0] ->
 chkD 22 [z0,0,z14] /\
 ∀ z15 : Int,0 <= z15 -> z15 <= RB -> z15 = fnD 22 [z0,0,z14] ->
 ∀ z16 : Int,0 <= z16 -> z16 <= 1 -> decide ((List.getD r2 8 0) = 1) = decide (z16 = 1) ->
 ∀ z17 : Int,0 <= z17 -> z17 <= 9223372036854775807 -> ∀ z18 : Int,0 <= z18 -> z18 <= 21 -> S 406 [[z15],[z1],[(List.getD r2 0 0),(List.getD r2 1 0),(List.getD r2 2 0),(List.getD r2 3 0),(List.getD r2 4 0),(List.getD r2 5 0),(List.getD r2 6 0),(List.getD r2 7 0),z16,(List.getD r2 9 0)]] [[z17],[z18]] ->
 ((((!(decide (z18 = 0)))) = true ->
  K [[z0],[z1],r2] [[0,0],[z18]]
 ) /\ (((!(decide (z18 = 0)))) = false ->
  chkD 30 [z17,z14] /\
  chkD 21 [z0,z17] /\
  ∀ z19 : Int,0 <= z19 -> z19 <= 1 -> z19 = fnD 21 [z0,z17,8] ->
  ((((!(decide (z19 = 1)))) = true ->
   K [[z0],[z1],r2] [[0,0],[14]]
  ) /\ (((!(decide (z19 = 1)))) = false ->
   chkD 30 [z17,z14] /\
   chkD 21 [z0,z17] /\
   ∀ z20 : Int,0 <= z20 -> z20 <= HB -> z20 = fnD 21 [z0,z17,2] ->
   ∀ z21 : Int,0 <= z21 -> z21 <= HB -> z21 = fnD 21 [z0,z17,3] ->
   K [[z0],[z1],r2] [[z20,z21],[0]]
  ))
 ))
theorem findIdx_at {l : List Se} {p : Se -> Bool} {i : Nat} (hi : i < l.length) (he : p (l.getD i se0) = true) (hb : ∀ j,j < i -> p (l.getD j se0) = false) : l.findIdx? p = some i := by
 rw [List.findIdx?_eq_some_iff_getElem]
 refine ⟨hi,by simpa [List.getD,hi] using he,fun j hj => ?_⟩
 have := hb j hj
 simpa [List.getD,show j < l.length by omega] using this
theorem findIdx_no {l : List Se} {p : Se -> Bool} (h : ∀ j,j < l.length -> p (l.getD j se0) = false) : l.findIdx? p = none := by
 rw [List.findIdx?_eq_none_iff]
 intro x hx
 obtain ⟨j,hj,rfl⟩ := List.mem_iff_getElem.1 hx
 simpa [List.getD,hj] using h j hj
theorem findS_at {l : List Se} {p : Se -> Bool} {i : Nat} (hi : i < l.length) (he : p (l.getD i se0) = true) (hb : ∀ j,j < i -> p (l.getD j se0) = false) : l.find? p = some (l.getD i se0) := by
 rw [List.find?_eq_some_iff_getElem]
 refine ⟨he,i,hi,by simp [List.getD,hi],fun j hj => ?_⟩
 have := hb j hj
 simpa [List.getD,show j < l.length by omega] using this
theorem findS_no {l : List Se} {p : Se -> Bool} (h : ∀ j,j < l.length -> p (l.getD j se0) = false) : l.find? p = none := by
 rw [List.find?_eq_none]
 intro x hx
 obtain ⟨j,hj,rfl⟩ := List.mem_iff_getElem.1 hx
 have := h j hj
 simpa [List.getD,hj] using this
theorem place_at {l : List Se} {n i f : Int} (h : PlaceN l n i f) (hr : rightS l = true) : (f = 1 -> i.toNat < l.length /\ (l.getD i.toNat se0).id = n /\ ∀ j,j < i.toNat -> (l.getD j se0).id ≠ n) /\ (f ≠ 1 -> ∀ j,j < l.length -> (l.getD j se0).id ≠ n) := by
 obtain ⟨⟨h1,h2⟩,h3,h4⟩ := h
 obtain ⟨k1,k2,k3⟩ := h4 hr
 constructor
 ·intro hf
  obtain ⟨m1,m2⟩ := k3.1 hf
  exact ⟨by omega,m2,fun j hj he => by have := k1 j (by omega); omega⟩
 ·intro hf j hj he
  by_cases hji : (j : Int) < i
  ·have := k1 j hji; omega
  ·have h0 := k2 j (by omega) hj
   refine hf (k3.2 ⟨by omega,?_⟩)
   by_cases hje : i.toNat = j
   ·rw [hje]; exact he
   ·have h5 := k2 i.toNat (by omega) (by omega)
    have h6 := rise hr (j := i.toNat) (k := j) (by omega) hj
    omega
theorem place_idx {l : List Se} {n i f : Int} (h : PlaceN l n i f) (hr : rightS l = true) : (f = 1 -> l.findIdx? (fun s => decide (s.id = n)) = some i.toNat /\ l.find? (fun s => decide (s.id = n)) = some (l.getD i.toNat se0)) /\ (f ≠ 1 -> l.findIdx? (fun s => decide (s.id = n)) = none /\ l.find? (fun s => decide (s.id = n)) = none) := by
 obtain ⟨p1,p2⟩ := place_at h hr
 refine ⟨fun hf => ?_,fun hf => ?_⟩
 ·obtain ⟨q1,q2,q3⟩ := p1 hf
  exact ⟨findIdx_at q1 (decide_eq_true q2) (fun j hj => decide_eq_false (q3 j hj)),findS_at q1 (decide_eq_true q2) (fun j hj => decide_eq_false (q3 j hj))⟩
 ·exact ⟨findIdx_no fun j hj => decide_eq_false (p2 hf j hj),findS_no fun j hj => decide_eq_false (p2 hf j hj)⟩
abbrev dSS : BD := .d (.mix [.int .i64 (-9223372036854775808) 9223372036854775807,.str,.str,.str,.str,.int .i64 (-9223372036854775808) 9223372036854775807,.int .i64 (-9223372036854775808) 9223372036854775807,.int .i64 (-9223372036854775808) 9223372036854775807,.bool,.int .i64 (-9223372036854775808) 9223372036854775807])
abbrev rSS : BD := .rd [.int .i64 (-9223372036854775808) 9223372036854775807,.str,.str,.str,.str,.int .i64 (-9223372036854775808) 9223372036854775807,.int .i64 (-9223372036854775808) 9223372036854775807,.int .i64 (-9223372036854775808) 9223372036854775807,.bool,.int .i64 (-9223372036854775808) 9223372036854775807]
abbrev dE : BD := .d (.int .i64 0 21)
theorem cond_bit {z : Int} (h0 : 0 <= z) (h1 : z <= 1) : cond (decide (z = 1)) (1 : Int) 0 = z := by
 by_cases h : z = 1
 ·rw [decide_eq_true h,h]; rfl
 ·rw [decide_eq_false h]; show (0 : Int) = z; omega
theorem nt_of {z : Int} {b : Bool} (h : z = b01 b) (h2 : (!(decide (z = 1))) = true) : b = false := by rw [b01_dec h] at h2; exact bnot_t h2
theorem nf_of {z : Int} {b : Bool} (h : z = b01 b) (h2 : (!(decide (z = 1))) = false) : b = true := by rw [b01_dec h] at h2; exact bnot_f h2
theorem one_of {z : Int} (h : (!(decide (z = 1))) = false) : z = 1 := of_decide_eq_true (bnot_f h)
theorem not_one {z : Int} (h : (!(decide (z = 1))) = true) : z ≠ 1 := of_decide_eq_false (bnot_t h)
theorem p_sFind : B_sFind SB (KBb SB [dSS,.d .bool] 405) := by
 intro z0 a0 a1 z1 n0 n1 z2 _ z3 _ _ z4 b0 b1 h4
 have h4 : z4 = ((rOf z0).length : Int) := h4
 have hlen := ses_len z0
 have kno : findS (ses z0) z1 = none -> KBb SB [dSS,.d .bool] 405 [[z0],[z1]] [[0,0,0,0,0,0,0,0,(cond (false) 1 0),0],[cond false 1 0]] := fun h => by
  refine ⟨⟨by decide,by decide,Int.le_refl _,HB_pos,Int.le_refl _,HB_pos,Int.le_refl _,HB_pos,Int.le_refl _,HB_pos,by decide,by decide,by decide,by decide,by decide,by decide,by decide,by decide,by decide,by decide,by decide,by decide,trivial⟩,?_⟩
  show (match findS (ses z0) z1 with | some b => _ /\ (0 : Int) = 1 | none => ([0,0,0,0,0,0,0,0,0,0] : List Int) = [0,0,0,0,0,0,0,0,0,0] /\ (0 : Int) = 0)
  rw [h]; exact ⟨rfl,rfl⟩
 have W := fun y => whole_ses (z := z0) (y := y) h4
 refine ⟨(W 0).1,fun z5 _ _ h5 z6 _ _ h6 => ?_⟩
 have h6 : z6 = b01 (rightS (ses z5)) := h6
 rw [ses_same ((W z5).2 h5)] at h6
 refine ⟨fun hn => kno (by unfold findS; rw [nt_of h6 hn]; rfl),fun hn => ⟨(W 0).1,fun z7 _ _ h7 z8 c0 c1 z9 d0 d1 hS => ?_⟩⟩
 have hr := nf_of h6 hn
 have hS : PlaceN (ses z7) z1 z8 z9 := hS
 rw [ses_same ((W z7).2 h7)] at hS
 obtain ⟨p1,p2⟩ := place_idx hS hr
 refine ⟨fun hf => kno (by unfold findS; rw [hr,cond_true,(p2 (not_one hf)).2]),fun hf => ?_⟩
 have hil := hS.2.1 (one_of hf)
 refine ⟨⟨c0,by omega⟩,⟨c0,by omega⟩,fun z10 e0 e1 h10 z11 f0 f1 h11 z12 g0 g1 h12 z13 i0 i1 h13 z14 j0 j1 h14 z15 k0 k1 h15 z16 l0 l1 h16 z17 m0 m1 h17 z18 o0 o1 h18 z19 q0 q1 h19 => ?_⟩
 rw [cond_bit o0 o1]
 refine ⟨⟨e0,e1,f0,f1,g0,g1,i0,i1,j0,j1,k0,k1,l0,l1,m0,m1,o0,o1,q0,q1,by decide,by decide,trivial⟩,?_⟩
 show (match findS (ses z0) z1 with | some b => seOf [z10,z11,z12,z13,z14,z15,z16,z17,z18,z19] = b /\ (1 : Int) = 1 | none => _ /\ (1 : Int) = 0)
 unfold findS
 rw [hr,cond_true,(p1 (one_of hf)).2]
 exact ⟨row_se (k := z8.toNat) (by omega) (by omega) h10 h11 h12 h13 h14 h15 h16 h17 h18 h19,rfl⟩
theorem openF_no {l : List Se} {n : Int} {w : Se} (h : timedF n = false ∨ rightS l = false) : openF l n w = (0,1) := by
 unfold openF
 rcases h with h | h <;> rw [h] <;> simp
theorem p_sopen : B_sopen SB (KBb SB [.d (.int .i64 0 9223372036854775807),dE] 406) := by
 intro z0 a0 a1 z1 n0 n1 r2 _ z12 _ z13 _ _ z14 b0 b1 h14
 have h14 : z14 = ((rOf z0).length : Int) := h14
 have hlen := ses_len z0
 have kk : ∀ i e : Int,0 <= i -> i <= 9223372036854775807 -> 0 <= e -> e <= 21 -> (i,e) = (((openF (ses z0) z1 (seOf r2)).1 : Int),(openF (ses z0) z1 (seOf r2)).2) -> KBb SB [.d (.int .i64 0 9223372036854775807),dE] 406 [[z0],[z1],r2] [[i],[e]] := fun i e i0 i1 e0 e1 h => ⟨⟨i0,i1,e0,e1,trivial⟩,h⟩
 have W := fun y => whole_ses (z := z0) (y := y) h14
 have kbad : timedF z1 = false ∨ rightS (ses z0) = false -> KBb SB [.d (.int .i64 0 9223372036854775807),dE] 406 [[z0],[z1],r2] [[0],[1]] := fun h => kk 0 1 (by decide) (by decide) (by decide) (by decide) (by rw [openF_no h]; rfl)
 refine ⟨fun h0 => ⟨fun h1 => kbad (.inl ?_),fun h1 => ⟨(W 0).1,fun z15 _ _ h15 z16 _ _ h16 => ?_⟩⟩,fun h0 => kbad (.inl (by unfold timedF; rw [h0]; rfl))⟩
 ·unfold timedF; rw [bnot_t h1,Bool.and_false]
 have ht : timedF z1 = true := by unfold timedF; rw [h0,bnot_f h1]; rfl
 have h16 : z16 = b01 (rightS (ses z15)) := h16
 rw [ses_same ((W z15).2 h15)] at h16
 refine ⟨fun hn => kbad (.inr (nt_of h16 hn)),fun hn => ⟨(W 0).1,fun z17 _ _ h17 z18 c0 c1 z19 d0 d1 hS => ?_⟩⟩
 have hr := nf_of h16 hn
 have hS : PlaceN (ses z17) (r2.getD 0 0) z18 z19 := hS
 rw [ses_same ((W z17).2 h17)] at hS
 obtain ⟨p1,p2⟩ := place_idx hS hr
 have hO : openF (ses z0) z1 (seOf r2) = (match (ses z0).findIdx? (fun s => decide (s.id = r2.getD 0 0)) with
  | some i => cond (decide (((ses z0).getD i se0).sec = sOf (r2.getD 1 0)) && !oldF ((ses z0).getD i se0) z1) (i,0) (0,11)
  | none => (0,11)) := by unfold openF; rw [ht,hr]; rfl
 refine ⟨fun hf => kk 0 11 (by decide) (by decide) (by decide) (by decide) (by rw [hO,(p2 (not_one hf)).1]; rfl),fun hf => ?_⟩
 have hil := hS.2.1 (one_of hf)
 rw [(p1 (one_of hf)).1] at hO
 simp only at hO
 refine ⟨⟨c0,by omega⟩,⟨c0,by omega⟩,fun z20 _ _ h20 z21 _ _ h21 => ?_⟩
 have hsec : sOf z20 = ((ses z0).getD z18.toNat se0).sec := by rw [ses_get (by omega),h20]; rfl
 have h21 := eq_dec h21
 rw [hsec] at h21
 rw [<- h21] at hO
 have kold : ∀ b : Bool,(decide (z21 = 1) && !oldF ((ses z0).getD z18.toNat se0) z1) = b -> b = false -> KBb SB [.d (.int .i64 0 9223372036854775807),dE] 406 [[z0],[z1],r2] [[0],[11]] := fun b h hb => kk 0 11 (by decide) (by decide) (by decide) (by decide) (by rw [hO,h,hb]; rfl)
 refine ⟨fun hs => kold _ rfl (by rw [bnot_t hs]; rfl),fun hs => ⟨⟨c0,by omega⟩,⟨c0,by omega⟩,fun z22 _ _ h22 z23 _ _ h23 z24 _ _ h24 z25 _ _ h25 z26 _ _ h26 z27 _ _ h27 z28 _ _ h28 z29 _ _ h29 z30 e0 e1 h30 z31 _ _ h31 z32 f0 f1 h32 z33 _ _ h33 => ?_⟩⟩
 have h32' := bit_eq e0 e1 f0 f1 h32
 subst h32'
 have hrow := row_se (k := z18.toNat) (by omega) (by omega) h22 h23 h24 h25 h26 h27 h28 h29 h30 h31
 have h33 : z33 = b01 (oldF (seOf [z22,z23,z24,z25,z26,z27,z28,z29,z32,z31]) z1) := h33
 rw [hrow] at h33
 have h33 := b01_dec h33
 refine ⟨fun ho => kold _ rfl (by rw [<- h33,ho]; simp),fun ho => kk z18 0 c0 c1 (by decide) (by decide) ?_⟩
 rw [hO,bnot_f hs,<- h33,ho]
 show (z18,(0 : Int)) = (((z18.toNat : Nat) : Int),0)
 rw [Int.toNat_of_nonneg c0]
theorem openF_lt {l : List Se} {n : Int} {w : Se} (h : (openF l n w).2 = 0) : (openF l n w).1 < l.length := by
 unfold openF at h ⊢
 cases hc : (timedF n && rightS l) with
 | false => rw [hc] at h; cases h
 | true =>
  rw [hc] at h
  simp only [cond_true] at h ⊢
  cases hf : l.findIdx? (fun s => decide (s.id = w.id)) with
  | none => rw [hf] at h; cases h
  | some i =>
   rw [hf] at h
   simp only at h ⊢
   have hi := (List.findIdx?_eq_some_iff_getElem.1 hf).1
   cases hd : (decide ((l.getD i se0).sec = w.sec) && !oldF (l.getD i se0) n) with
   | true => exact hi
   | false => rw [hd] at h; cases h
theorem openF_ok {l : List Se} {n : Int} {w : Se} (h : (openF l n w).2 = 0) : rightS l = true /\ timedF n = true := by
 unfold openF at h
 cases hc : (timedF n && rightS l) with
 | false => rw [hc] at h; cases h
 | true => simp only [Bool.and_eq_true] at hc; exact ⟨hc.2,hc.1⟩
theorem se_bit {r2 : List Int} {z : Int} (hz : z = r2.getD 8 0) : seOf [r2.getD 0 0,r2.getD 1 0,r2.getD 2 0,r2.getD 3 0,r2.getD 4 0,r2.getD 5 0,r2.getD 6 0,r2.getD 7 0,z,r2.getD 9 0] = seOf r2 := by rw [hz]; rfl
theorem p_sShown : B_sShown SB (KBb SB [.d (.mix [.str,.str]),dE] 407) := by
 intro z0 a0 a1 z1 n0 n1 r2 hr2 z12 _ z13 _ _ z14 b0 b1 h14
 have h14 : z14 = ((rOf z0).length : Int) := h14
 have hlen := ses_len z0
 obtain ⟨x0,x1,x2,x3,x4,x5,x6,x7,x8,x9,rfl,hb8⟩ := inB10 hr2
 generalize hgr : [x0,x1,x2,x3,x4,x5,x6,x7,x8,x9] = r2 at *
 have hb8' : 0 <= r2.getD 8 0 /\ r2.getD 8 0 <= 1 := by rw [<- hgr]; exact hb8
 have kk : ∀ a b e : Int,0 <= a -> a <= HB -> 0 <= b -> b <= HB -> 0 <= e -> e <= 21 -> ((sOf a,sOf b),e) = shownF (ses z0) z1 (seOf r2) -> KBb SB [.d (.mix [.str,.str]),dE] 407 [[z0],[z1],r2] [[a,b],[e]] := fun a b e i0 i1 j0 j1 e0 e1 h => ⟨⟨i0,i1,j0,j1,e0,e1,trivial⟩,h⟩
 have W := fun y => whole_ses (z := z0) (y := y) h14
 have hs0 : sOf (0 : Int) = [] := by decide
 refine ⟨(W 0).1,fun z15 _ _ h15 z16 c0 c1 h16 z17 d0 d1 z18 e0 e1 hO => ?_⟩
 have h16 := bit_eq hb8'.1 hb8'.2 c0 c1 h16
 have hO : (z17,z18) = (((openF (ses z15) z1 (seOf [r2.getD 0 0,r2.getD 1 0,r2.getD 2 0,r2.getD 3 0,r2.getD 4 0,r2.getD 5 0,r2.getD 6 0,r2.getD 7 0,z16,r2.getD 9 0])).1 : Int),(openF (ses z15) z1 (seOf [r2.getD 0 0,r2.getD 1 0,r2.getD 2 0,r2.getD 3 0,r2.getD 4 0,r2.getD 5 0,r2.getD 6 0,r2.getD 7 0,z16,r2.getD 9 0])).2) := hO
 rw [se_bit h16,ses_same ((W z15).2 h15)] at hO
 obtain ⟨hO1,hO2⟩ : z17 = _ /\ z18 = _ := by simpa using hO
 refine ⟨fun hn => kk 0 0 z18 (Int.le_refl _) HB_pos (Int.le_refl _) HB_pos e0 e1 ?_,fun hn => ?_⟩
 ·have hn := bnot_t hn
  rw [hO2] at hn ⊢
  unfold shownF; rw [hn,hs0]; rfl
 have hz := bnot_f hn
 rw [hO2] at hz
 have hlt := openF_lt (of_decide_eq_true hz)
 have hS : shownF (ses z0) z1 (seOf r2) = cond (decide (((ses z0).getD (openF (ses z0) z1 (seOf r2)).1 se0).shown = 1)) (((ses z0).getD (openF (ses z0) z1 (seOf r2)).1 se0).who,0) (([],[]),14) := by unfold shownF; rw [hz]; rfl
 generalize (openF (ses z0) z1 (seOf r2)).1 = k at *
 subst hO1
 refine ⟨⟨by omega,by omega⟩,⟨by omega,by omega⟩,fun z19 _ _ h19 => ?_⟩
 have hsh : ((ses z0).getD k se0).shown = z19 := by rw [ses_get (by omega),h19]; rfl
 rw [hsh] at hS
 refine ⟨fun hq => kk 0 0 14 (Int.le_refl _) HB_pos (Int.le_refl _) HB_pos (by decide) (by decide) (by rw [hS,bnot_t hq,hs0]; rfl),fun hq => ⟨⟨by omega,by omega⟩,⟨by omega,by omega⟩,fun z20 f0 f1 h20 z21 g0 g1 h21 => kk z20 z21 0 f0 f1 g0 g1 (by decide) (by decide) ?_⟩⟩
 rw [hS,bnot_f hq,ses_get (by omega),h20,h21]; rfl
end Go.Ad
set_option maxRecDepth 100000
set_option linter.unusedVariables false
set_option linter.unusedSimpArgs false
namespace Go.Ad
open Go Go.Rx
def B_sSubmit (S : Nat -> List (List Int) -> List (List Int) -> Prop) (K : List (List Int) -> List (List Int) -> Prop) : Prop :=
 ∀ z0 : Int,0 <= z0 -> z0 <= RB -> ∀ z1 : Int,(-9223372036854775808) <= z1 -> z1 <= 9223372036854775807 -> ∀ r2 : List Int,inB [((-9223372036854775808),9223372036854775807),(0,HB),(0,HB),(0,HB),(0,HB),((-9223372036854775808),9223372036854775807),((-9223372036854775808),9223372036854775807),((-9223372036854775808),9223372036854775807),(0,1),((-9223372036854775808),9223372036854775807)] r2 ->
 ∀ z12 : Int,0 <= z12 ->
 ∀ z13 : Int,(-1) <= z13 -> z13 <= 9223372036854775807 ->
 ∀ z14 : Int,0 <= z14 -> z14 <= 9223372036854775807 -> z14 = fnD 20 [z0] ->
 chkD 22 [z0,0,z14] /\
 ∀ z15 : Int,0 <= z15 -> z15 <= RB -> z15 = fnD 22 [z0,0,z14] ->
 ∀ z16 : Int,0 <= z16 -> z16 <= 1 -> decide ((List.getD r2 8 0) = 1) = decide (z16 = 1) ->
 ∀ z17 : Int,0 <= z17 -> z17 <= 9223372036854775807 -> ∀ z18 : Int,0 <= z18 -> z18 <= 21 -> S 406 [[z15],[z1],[(List.getD r2 0 0),(List.getD r2 1 0),(List.getD r2 2 0),(List.getD r2 3 0),(List.getD r2 4 0),(List.getD r2 5 0),(List.getD r2 6 0),(List.getD r2 7 0),z16,(List.getD r2 9 0)]] [[z17],[z18]] ->
 ((((!(decide (z18 = 0)))) = true ->
  chkD 22 [z0,0,z14] /\
  ∀ z19 : Int,0 <= z19 -> z19 <= RB -> z19 = fnD 22 [z0,0,z14] ->
  K [[z0],[z1],r2] [[z19],[z18]]
 ) /\ (((!(decide (z18 = 0)))) = false ->
  chkD 30 [z17,z14] /\
  chkD 21 [z0,z17] /\
  ∀ z19 : Int,(-9223372036854775808) <= z19 -> z19 <= 9223372036854775807 -> z19 = fnD 21 [z0,z17,7] ->
  (((decide (z19 = 3)) = true ->
   chkD 22 [z0,0,z14] /\
   ∀ z20 : Int,0 <= z20 -> z20 <= RB -> z20 = fnD 22 [z0,0,z14] ->
   K [[z0],[z1],r2] [[z20],[16]]
  ) /\ ((decide (z19 = 3)) = false ->
   (chkD 53 [z13,z14] ->
   (((decide (z13 < 0)) = true ->
    False
   ) /\ ((decide (z13 < 0)) = false ->
    chkD 22 [z0,0,z14] /\
    chkD 23 [0,z14] /\
    ∀ z20 : Int,0 <= z20 -> z20 <= RB -> z20 = fnD 22 [z0,0,z14] ->
    ∀ z21 : Int,0 <= z21 -> z21 <= RB -> z21 = fnD 24 [0,z20] ->
    (((decide (z14 <= 0)) = true ->
     False
    ) /\ ((decide (z14 <= 0)) = false ->
     ∀ z22 : Int,(-1) <= z22 -> z22 <= 9223372036854775807 ->
     chkD 30 [z17,z14] /\
     chkD 21 [z21,z17] /\
     ∀ z23 : Int,0 <= z23 -> z23 <= HB -> z23 = fnD 21 [z21,z17,4] ->
     ∀ z24 : Int,0 <= z24 -> z24 <= 1 -> z24 = fnD 4 [z23,(List.getD r2 4 0)] ->
     ((((!(decide (z24 = 1)))) = true ->
      chkD 21 [z21,z17] /\
      ∀ z25 : Int,(-9223372036854775808) <= z25 -> z25 <= 9223372036854775807 -> z25 = fnD 21 [z21,z17,7] ->
      ∀ z26 : Int,0 <= z26 -> z26 <= 1 -> 0 <= (z25 + 9223372036854775809) - 18446744073709551616 * z26 -> (z25 + 9223372036854775809) - 18446744073709551616 * z26 < 18446744073709551616 ->
      chkD 21 [z21,z17] /\
      (chkD 67 [z21,z17,10] ->
      ∀ z27 : Int,0 <= z27 -> z27 <= RB -> z27 = fnD 42 [z21,z17,7,((z25 + ((-18446744073709551616) * z26)) + 1)] ->
      chkD 22 [z27,0,z14] /\
      ∀ z28 : Int,0 <= z28 -> z28 <= RB -> z28 = fnD 22 [z27,0,z14] ->
      K [[z0],[z1],r2] [[z28],[12]]
      )
     ) /\ (((!(decide (z24 = 1)))) = false ->
      chkD 21 [z21,z17] /\
      ∀ z25 : Int,0 <= z25 -> z25 <= 1 -> z25 = fnD 21 [z21,z17,8] ->
      ((((!(decide (z25 = 1)))) = true ->
       chkD 21 [z21,z17] /\
       (chkD 67 [z21,z17,10] ->
       ∀ z26 : Int,0 <= z26 -> z26 <= RB -> z26 = fnD 42 [z21,z17,8,1] ->
       chkD 21 [z26,z17] /\
       (chkD 67 [z26,z17,10] ->
       ∀ z27 : Int,0 <= z27 -> z27 <= RB -> z27 = fnD 42 [z26,z17,9,z1] ->
       chkD 22 [z27,0,z14] /\
       ∀ z28 : Int,0 <= z28 -> z28 <= RB -> z28 = fnD 22 [z27,0,z14] ->
       K [[z0],[z1],r2] [[z28],[0]]
       )
       )
      ) /\ (((!(decide (z25 = 1)))) = false ->
       chkD 22 [z21,0,z14] /\
       ∀ z26 : Int,0 <= z26 -> z26 <= RB -> z26 = fnD 22 [z21,0,z14] ->
       K [[z0],[z1],r2] [[z26],[0]]
      ))
     ))
    ))
   ))
   )
  ))
 ))
def B_sprune (S : Nat -> List (List Int) -> List (List Int) -> Prop) (K : List (List Int) -> List (List Int) -> Prop) : Prop :=
 ∀ z0 : Int,0 <= z0 -> z0 <= RB -> ∀ z1 : Int,(-9223372036854775808) <= z1 -> z1 <= 9223372036854775807 ->
 (chkD 66 [z0,z1] ->
 ∀ z2 : Int,0 <= z2 ->
 ∀ z3 : Int,(-1) <= z3 -> z3 <= 9223372036854775807 ->
 ∀ z4 : Int,0 <= z4 -> z4 <= 9223372036854775807 -> z4 = fnD 20 [z0] ->
 (chkD 53 [z3,z4] ->
 (((decide (z3 < 0)) = true ->
  ∃ (I5 : List (List Int) -> Prop) (μ5 : List (List Int) -> Nat),I5 [[0]] /\ (∀ z6 : Int,0 <= z6 -> z6 <= 9223372036854775807 -> I5 [[z6]] ->
   K [[z0],[z1]] [[0]]
  )
 ) /\ ((decide (z3 < 0)) = false ->
  chkD 22 [z0,0,z4] /\
  chkD 23 [0,z4] /\
  ∀ z5 : Int,0 <= z5 -> z5 <= RB -> z5 = fnD 22 [z0,0,z4] ->
  ∀ z6 : Int,0 <= z6 -> z6 <= RB -> z6 = fnD 24 [0,z5] ->
  (((decide (z4 <= 0)) = true ->
   ∃ (I7 : List (List Int) -> Prop) (μ7 : List (List Int) -> Nat),I7 [[0]] /\ (∀ z8 : Int,0 <= z8 -> z8 <= 9223372036854775807 -> I7 [[z8]] ->
    K [[z0],[z1]] [[0]]
   )
  ) /\ ((decide (z4 <= 0)) = false ->
   ∀ z7 : Int,(-1) <= z7 -> z7 <= 9223372036854775807 ->
   ∃ (I8 : List (List Int) -> Prop) (μ8 : List (List Int) -> Nat),I8 [[0]] /\ (∀ z9 : Int,0 <= z9 -> z9 <= 9223372036854775807 -> I8 [[z9]] ->
    (((decide (z9 < z4)) = true ->
     chkD 30 [z9,z4] /\
     chkD 21 [z6,z9] /\
     ∀ z10 : Int,(-9223372036854775808) <= z10 -> z10 <= 9223372036854775807 -> z10 = fnD 21 [z6,z9,0] ->
     ∀ z11 : Int,0 <= z11 -> z11 <= HB -> z11 = fnD 21 [z6,z9,1] ->
     ∀ z12 : Int,0 <= z12 -> z12 <= HB -> z12 = fnD 21 [z6,z9,2] ->
     ∀ z13 : Int,0 <= z13 -> z13 <= HB -> z13 = fnD 21 [z6,z9,3] ->
     ∀ z14 : Int,0 <= z14 -> z14 <= HB -> z14 = fnD 21 [z6,z9,4] ->
     ∀ z15 : Int,(-9223372036854775808) <= z15 -> z15 <= 9223372036854775807 -> z15 = fnD 21 [z6,z9,5] ->
     ∀ z16 : Int,(-9223372036854775808) <= z16 -> z16 <= 9223372036854775807 -> z16 = fnD 21 [z6,z9,6] ->
     ∀ z17 : Int,(-9223372036854775808) <= z17 -> z17 <= 9223372036854775807 -> z17 = fnD 21 [z6,z9,7] ->
     ∀ z18 : Int,0 <= z18 -> z18 <= 1 -> z18 = fnD 21 [z6,z9,8] ->
     ∀ z19 : Int,(-9223372036854775808) <= z19 -> z19 <= 9223372036854775807 -> z19 = fnD 21 [z6,z9,9] ->
     ∀ z20 : Int,(-1) <= z20 -> z20 <= 1 -> 0 <= ((z1 + ((-1) * z16)) + 9223372036854775808) - 18446744073709551616 * z20 -> ((z1 + ((-1) * z16)) + 9223372036854775808) - 18446744073709551616 * z20 < 18446744073709551616 ->
     (((decide (86400 < (z1 + (((-1) * z16) + ((-18446744073709551616) * z20))))) = true ->
      ∀ z21 : Int,0 <= z21 -> z21 <= 1 -> 0 <= (z9 + 9223372036854775809) - 18446744073709551616 * z21 -> (z9 + 9223372036854775809) - 18446744073709551616 * z21 < 18446744073709551616 ->
      chkD 39 [((z9 + ((-18446744073709551616) * z21)) + 1),0,9223372036854775807] /\
      ∃ (I22 : List (List Int) -> Prop) (μ22 : List (List Int) -> Nat),I22 [[z9],[((z9 + ((-18446744073709551616) * z21)) + 1)],[z6]] /\ (∀ z23 : Int,0 <= z23 -> z23 <= 9223372036854775807 -> ∀ z24 : Int,0 <= z24 -> z24 <= 9223372036854775807 -> ∀ z25 : Int,0 <= z25 -> z25 <= RB -> I22 [[z23],[z24],[z25]] ->
       (((decide (z24 < z4)) = true ->
        chkD 30 [z24,z4] /\
        chkD 21 [z25,z24] /\
        ∀ z26 : Int,(-9223372036854775808) <= z26 -> z26 <= 9223372036854775807 -> z26 = fnD 21 [z25,z24,0] ->
        ∀ z27 : Int,0 <= z27 -> z27 <= HB -> z27 = fnD 21 [z25,z24,1] ->
        ∀ z28 : Int,0 <= z28 -> z28 <= HB -> z28 = fnD 21 [z25,z24,2] ->
        ∀ z29 : Int,0 <= z29 -> z29 <= HB -> z29 = fnD 21 [z25,z24,3] ->
        ∀ z30 : Int,0 <= z30 -> z30 <= HB -> z30 = fnD 21 [z25,z24,4] ->
        ∀ z31 : Int,(-9223372036854775808) <= z31 -> z31 <= 9223372036854775807 -> z31 = fnD 21 [z25,z24,5] ->
        ∀ z32 : Int,(-9223372036854775808) <= z32 -> z32 <= 9223372036854775807 -> z32 = fnD 21 [z25,z24,6] ->
        ∀ z33 : Int,(-9223372036854775808) <= z33 -> z33 <= 9223372036854775807 -> z33 = fnD 21 [z25,z24,7] ->
        ∀ z34 : Int,0 <= z34 -> z34 <= 1 -> z34 = fnD 21 [z25,z24,8] ->
        ∀ z35 : Int,(-9223372036854775808) <= z35 -> z35 <= 9223372036854775807 -> z35 = fnD 21 [z25,z24,9] ->
        ∀ z36 : Int,(-1) <= z36 -> z36 <= 1 -> 0 <= ((z1 + ((-1) * z32)) + 9223372036854775808) - 18446744073709551616 * z36 -> ((z1 + ((-1) * z32)) + 9223372036854775808) - 18446744073709551616 * z36 < 18446744073709551616 ->
        ((((!(decide (86400 < (z1 + (((-1) * z32) + ((-18446744073709551616) * z36))))))) = true ->
         chkD 30 [z23,z4] /\
         chkD 21 [z25,z23] /\
         (chkD 67 [z25,z23,10] ->
         ∀ z37 : Int,0 <= z37 -> z37 <= 1 -> decide (z34 = 1) = decide (z37 = 1) ->
         ∀ z38 : Int,0 <= z38 -> z38 <= RB -> z38 = fnD 42 [z25,z23,0,z26,z27,z28,z29,z30,z31,z32,z33,z37,z35] ->
         ∀ z39 : Int,0 <= z39 -> z39 <= 1 -> 0 <= (z23 + 9223372036854775809) - 18446744073709551616 * z39 -> (z23 + 9223372036854775809) - 18446744073709551616 * z39 < 18446744073709551616 ->
         ∀ z40 : Int,0 <= z40 -> z40 <= 1 -> 0 <= (z24 + 9223372036854775809) - 18446744073709551616 * z40 -> (z24 + 9223372036854775809) - 18446744073709551616 * z40 < 18446744073709551616 ->
         chkD 39 [((z23 + ((-18446744073709551616) * z39)) + 1),0,9223372036854775807] /\
         chkD 39 [((z24 + ((-18446744073709551616) * z40)) + 1),0,9223372036854775807] /\
         (I22 [[((z23 + ((-18446744073709551616) * z39)) + 1)],[((z24 + ((-18446744073709551616) * z40)) + 1)],[z38]] /\ μ22 [[((z23 + ((-18446744073709551616) * z39)) + 1)],[((z24 + ((-18446744073709551616) * z40)) + 1)],[z38]] < μ22 [[z23],[z24],[z25]])
         )
        ) /\ (((!(decide (86400 < (z1 + (((-1) * z32) + ((-18446744073709551616) * z36))))))) = false ->
         ∀ z37 : Int,0 <= z37 -> z37 <= 1 -> 0 <= (z24 + 9223372036854775809) - 18446744073709551616 * z37 -> (z24 + 9223372036854775809) - 18446744073709551616 * z37 < 18446744073709551616 ->
         chkD 39 [((z24 + ((-18446744073709551616) * z37)) + 1),0,9223372036854775807] /\
         (I22 [[z23],[((z24 + ((-18446744073709551616) * z37)) + 1)],[z25]] /\ μ22 [[z23],[((z24 + ((-18446744073709551616) * z37)) + 1)],[z25]] < μ22 [[z23],[z24],[z25]])
        ))
       ) /\ ((decide (z24 < z4)) = false ->
        chkD 32 [z23,z4,z4] /\
        (chkD 68 [z4,z7] ->
        ∀ z26 : Int,0 <= z26 -> z26 <= 9223372036854775808 -> z26 = fnD 33 [0,z23,z7] ->
        chkD 65 [z25,z26,(z4 + ((-1) * z23))] /\
        ∀ z27 : Int,0 <= z27 -> z27 <= RB -> z27 = fnD 61 [z25,z26,(z4 + ((-1) * z23)),0,0,0,0,0,0,0,0,0,0] ->
        chkD 32 [0,z23,z4] /\
        chkD 22 [z27,0,z23] /\
        ∀ z28 : Int,0 <= z28 -> z28 <= RB -> z28 = fnD 22 [z27,0,z23] ->
        K [[z0],[z1]] [[z28]]
        )
       ))
      )
     ) /\ ((decide (86400 < (z1 + (((-1) * z16) + ((-18446744073709551616) * z20))))) = false ->
      ∀ z21 : Int,0 <= z21 -> z21 <= 1 -> 0 <= (z9 + 9223372036854775809) - 18446744073709551616 * z21 -> (z9 + 9223372036854775809) - 18446744073709551616 * z21 < 18446744073709551616 ->
      chkD 39 [((z9 + ((-18446744073709551616) * z21)) + 1),0,9223372036854775807] /\
      (I8 [[((z9 + ((-18446744073709551616) * z21)) + 1)]] /\ μ8 [[((z9 + ((-18446744073709551616) * z21)) + 1)]] < μ8 [[z9]])
     ))
    ) /\ ((decide (z9 < z4)) = false ->
     chkD 22 [z6,0,z4] /\
     ∀ z10 : Int,0 <= z10 -> z10 <= RB -> z10 = fnD 22 [z6,0,z4] ->
     K [[z0],[z1]] [[z10]]
    ))
   )
  ))
 ))
 )
 )
def B_sPrune (S : Nat -> List (List Int) -> List (List Int) -> Prop) (K : List (List Int) -> List (List Int) -> Prop) : Prop :=
 ∀ z0 : Int,0 <= z0 -> z0 <= RB -> ∀ z1 : Int,(-9223372036854775808) <= z1 -> z1 <= 9223372036854775807 ->
 ∀ z2 : Int,0 <= z2 ->
 ∀ z3 : Int,(-1) <= z3 -> z3 <= 9223372036854775807 ->
 ∀ z4 : Int,0 <= z4 -> z4 <= 9223372036854775807 -> z4 = fnD 20 [z0] ->
 (((decide (0 <= z1)) = true ->
  ((((!(decide (z1 <= 1099511627776)))) = true ->
   K [[z0],[z1]] [[0]]
  ) /\ (((!(decide (z1 <= 1099511627776)))) = false ->
   chkD 22 [z0,0,z4] /\
   ∀ z5 : Int,0 <= z5 -> z5 <= RB -> z5 = fnD 22 [z0,0,z4] ->
   ∀ z6 : Int,0 <= z6 -> z6 <= 1 -> S 403 [[z5]] [[z6]] ->
   ((((!(decide (z6 = 1)))) = true ->
    K [[z0],[z1]] [[0]]
   ) /\ (((!(decide (z6 = 1)))) = false ->
    chkD 22 [z0,0,z4] /\
    ∀ z7 : Int,0 <= z7 -> z7 <= RB -> z7 = fnD 22 [z0,0,z4] ->
    chkD 66 [z7,z1] /\
    ∀ z8 : Int,0 <= z8 -> z8 <= RB -> S 409 [[z7],[z1]] [[z8]] ->
    ∀ z9 : Int,(-1) <= z9 -> z9 <= 9223372036854775807 ->
    ∀ z10 : Int,0 <= z10 -> z10 <= 9223372036854775807 -> z10 = fnD 20 [z8] ->
    chkD 22 [z8,0,z10] /\
    ∀ z11 : Int,0 <= z11 -> z11 <= RB -> z11 = fnD 22 [z8,0,z10] ->
    K [[z0],[z1]] [[z11]]
   ))
  ))
 ) /\ ((decide (0 <= z1)) = false ->
  K [[z0],[z1]] [[0]]
 ))
theorem len10 {r : List Int} (h : r.length = 10) : ∃ x0 x1 x2 x3 x4 x5 x6 x7 x8 x9,r = [x0,x1,x2,x3,x4,x5,x6,x7,x8,x9] := by
 match r,h with
 | [x0,x1,x2,x3,x4,x5,x6,x7,x8,x9],_ => exact ⟨x0,x1,x2,x3,x4,x5,x6,x7,x8,x9,rfl⟩
theorem put_rows {c i y : Int} {row : List Int} {k : Nat} (hi : i = (k : Int)) (hk : k < (rOf c).length) (h : rOf y = (rOf c).set k row) : ses y = (ses c).set k (seOf row) /\ (rOf y).length = (rOf c).length := by
 refine ⟨?_,by rw [h,List.length_set]⟩
 unfold ses; rw [h,List.map_set]
theorem put_at {c i : Int} {k : Nat} {j : Nat} {vs : List Int} {y : Int} (hi : i = (k : Int)) (hj : j + vs.length <= 10) (hl : chkD 67 [c,i,10]) (hy : y = fnD 42 (c :: i :: (j : Int) :: vs)) :
 ∃ x0 x1 x2 x3 x4 x5 x6 x7 x8 x9,(rOf c).getD k [] = [x0,x1,x2,x3,x4,x5,x6,x7,x8,x9] /\ rOf y = (rOf c).set k ([x0,x1,x2,x3,x4,x5,x6,x7,x8,x9].take j ++ vs ++ [x0,x1,x2,x3,x4,x5,x6,x7,x8,x9].drop (j + vs.length)) := by
 have hl : ((rOf c).getD i.toNat []).length = 10 := hl
 rw [hi,Int.toNat_natCast] at hl
 obtain ⟨x0,x1,x2,x3,x4,x5,x6,x7,x8,x9,h⟩ := len10 hl
 refine ⟨x0,x1,x2,x3,x4,x5,x6,x7,x8,x9,h,?_⟩
 rw [hy]; simp only [fnD,rOf_rc,hi,Int.toNat_natCast,h]
theorem put_wrong {c i v y : Int} {k : Nat} (hi : i = (k : Int)) (hk : k < (rOf c).length) (hl : chkD 67 [c,i,10]) (hy : y = fnD 42 [c,i,7,v]) : ses y = (ses c).set k { (ses c).getD k se0 with wrong := v } /\ (rOf y).length = (rOf c).length := by
 obtain ⟨x0,x1,x2,x3,x4,x5,x6,x7,x8,x9,h,hy⟩ := put_at (j := 7) hi (by simp) hl hy
 obtain ⟨h1,h2⟩ := put_rows hi hk hy
 exact ⟨by rw [h1,ses_get hk,h]; rfl,h2⟩
theorem put_shown {c i v y : Int} {k : Nat} (hi : i = (k : Int)) (hk : k < (rOf c).length) (hl : chkD 67 [c,i,10]) (hy : y = fnD 42 [c,i,8,v]) : ses y = (ses c).set k { (ses c).getD k se0 with shown := v } /\ (rOf y).length = (rOf c).length := by
 obtain ⟨x0,x1,x2,x3,x4,x5,x6,x7,x8,x9,h,hy⟩ := put_at (j := 8) hi (by simp) hl hy
 obtain ⟨h1,h2⟩ := put_rows hi hk hy
 exact ⟨by rw [h1,ses_get hk,h]; rfl,h2⟩
theorem put_shAt {c i v y : Int} {k : Nat} (hi : i = (k : Int)) (hk : k < (rOf c).length) (hl : chkD 67 [c,i,10]) (hy : y = fnD 42 [c,i,9,v]) : ses y = (ses c).set k { (ses c).getD k se0 with shAt := v } /\ (rOf y).length = (rOf c).length := by
 obtain ⟨x0,x1,x2,x3,x4,x5,x6,x7,x8,x9,h,hy⟩ := put_at (j := 9) hi (by simp) hl hy
 obtain ⟨h1,h2⟩ := put_rows hi hk hy
 exact ⟨by rw [h1,ses_get hk,h]; rfl,h2⟩
theorem put_att {c i v y : Int} {k : Nat} (hi : i = (k : Int)) (hk : k < (rOf c).length) (hl : chkD 67 [c,i,10]) (hy : y = fnD 42 [c,i,5,v]) : ses y = (ses c).set k { (ses c).getD k se0 with att := v } /\ (rOf y).length = (rOf c).length := by
 obtain ⟨x0,x1,x2,x3,x4,x5,x6,x7,x8,x9,h,hy⟩ := put_at (j := 5) hi (by simp) hl hy
 obtain ⟨h1,h2⟩ := put_rows hi hk hy
 exact ⟨by rw [h1,ses_get hk,h]; rfl,h2⟩
theorem put_all {c i y a0 a1 a2 a3 a4 a5 a6 a7 a8 a9 : Int} {k : Nat} (hi : i = (k : Int)) (hk : k < (rOf c).length) (hl : chkD 67 [c,i,10]) (hy : y = fnD 42 [c,i,0,a0,a1,a2,a3,a4,a5,a6,a7,a8,a9]) : rOf y = (rOf c).set k [a0,a1,a2,a3,a4,a5,a6,a7,a8,a9] := by
 obtain ⟨x0,x1,x2,x3,x4,x5,x6,x7,x8,x9,h,hy⟩ := put_at (j := 0) hi (by simp) hl hy
 rw [hy]; rfl
theorem seOk_bd {s : Se} (h : seOk s = true) : (1 <= s.id /\ s.id <= 1099511627776) /\ (0 <= s.since /\ s.since <= 1099511627776) /\ (0 <= s.wrong /\ s.wrong <= 3) /\ (1 <= s.att /\ s.att <= 1000) := by
 unfold seOk timedF at h
 simp only [Bool.and_eq_true,decide_eq_true_eq] at h
 exact ⟨h.1.1.1.1,h.1.1.1.2.1,h.1.1.2.2,h.1.1.2.1⟩
theorem right_at {l : List Se} (hr : rightS l = true) {i : Nat} (hi : i < l.length) : seOk (l.getD i se0) = true := (((rightS_iff l).1 hr).2 i hi).1
theorem copy_rows {z z5 z6 : Int} (h5 : rOf z5 = rOf z) (h6 : z6 = fnD 24 [0,z5]) : rOf z6 = rOf z := by
 rw [h6]; simp only [fnD,rOf_rc,Go.Rx.rOf_zero,List.nil_append,h5]
theorem p_sSubmit : B_sSubmit SB (KBb SB [rSS,dE] 408) := by
 intro z0 a0 a1 z1 n0 n1 r2 hr2 z12 _ z13 _ _ z14 b0 b1 h14
 have h14 : z14 = ((rOf z0).length : Int) := h14
 have hlen := ses_len z0
 have hb8' : 0 <= r2.getD 8 0 /\ r2.getD 8 0 <= 1 := by
  obtain ⟨x0,x1,x2,x3,x4,x5,x6,x7,x8,x9,rfl,hb8⟩ := inB10 hr2
  exact hb8
 have kk : ∀ y e : Int,0 <= y -> y <= RB -> 0 <= e -> e <= 21 -> (ses y,e) = submitF (ses z0) z1 (seOf r2) -> KBb SB [rSS,dE] 408 [[z0],[z1],r2] [[y],[e]] := fun y e i0 i1 e0 e1 h => ⟨⟨i0,i1,e0,e1,trivial⟩,h⟩
 have W := fun y => whole_ses (z := z0) (y := y) h14
 refine ⟨(W 0).1,fun z15 _ _ h15 z16 c0 c1 h16 z17 d0 d1 z18 e0 e1 hO => ?_⟩
 have h16 := bit_eq hb8'.1 hb8'.2 c0 c1 h16
 have hO : (z17,z18) = (((openF (ses z15) z1 (seOf [r2.getD 0 0,r2.getD 1 0,r2.getD 2 0,r2.getD 3 0,r2.getD 4 0,r2.getD 5 0,r2.getD 6 0,r2.getD 7 0,z16,r2.getD 9 0])).1 : Int),(openF (ses z15) z1 (seOf [r2.getD 0 0,r2.getD 1 0,r2.getD 2 0,r2.getD 3 0,r2.getD 4 0,r2.getD 5 0,r2.getD 6 0,r2.getD 7 0,z16,r2.getD 9 0])).2) := hO
 rw [se_bit h16,ses_same ((W z15).2 h15)] at hO
 obtain ⟨hO1,hO2⟩ : z17 = _ /\ z18 = _ := by simpa using hO
 refine ⟨fun hn => ⟨(W 0).1,fun z19 f0 f1 h19 => kk z19 z18 f0 f1 e0 e1 ?_⟩,fun hn => ?_⟩
 ·have hn := bnot_t hn
  rw [hO2] at hn ⊢
  unfold submitF; rw [hn,ses_same ((W z19).2 h19)]; rfl
 have hz := bnot_f hn
 rw [hO2] at hz
 have hlt := openF_lt (of_decide_eq_true hz)
 have hr := (openF_ok (of_decide_eq_true hz)).1
 have h16l := ((rightS_iff _).1 hr).1
 have hS : submitF (ses z0) z1 (seOf r2) = submitS (ses z0) z1 (seOf r2) (openF (ses z0) z1 (seOf r2)).1 ((ses z0).getD (openF (ses z0) z1 (seOf r2)).1 se0) := by unfold submitF; rw [hz]; rfl
 generalize (openF (ses z0) z1 (seOf r2)).1 = k at *
 subst hO1
 have hkl : k < (rOf z0).length := by omega
 have hbd := seOk_bd (right_at hr hlt)
 refine ⟨⟨by omega,by omega⟩,⟨by omega,by omega⟩,fun z19 _ _ h19 => ?_⟩
 have hw : ((ses z0).getD k se0).wrong = z19 := by rw [ses_get hkl,h19]; rfl
 unfold submitS at hS
 rw [hw] at hS
 refine ⟨fun hq => ⟨(W 0).1,fun z20 f0 f1 h20 => kk z20 16 f0 f1 (by decide) (by decide) (by rw [hS,hq,ses_same ((W z20).2 h20)]; rfl)⟩,fun hq has => ?_⟩
 rw [hq,cond_false] at hS
 have has : z13 < 0 -> z14 = 0 := has
 refine ⟨fun hc => (by have := has (of_decide_eq_true hc); omega),fun hc => ⟨(W 0).1,by show (rOf 0).length + z14 <= 1073741824; rw [Go.Rx.rOf_zero]; simp; omega,fun z20 _ _ h20 z21 _ _ h21 => ⟨fun hz0 => (by have := of_decide_eq_true hz0; omega),fun hz0 z22 _ _ => ?_⟩⟩⟩
 have hr21 := copy_rows ((W z20).2 h20) h21
 have hs21 := ses_same hr21
 have ck : ∀ c : Int,(rOf c).length = (rOf z0).length -> chkD 21 [c,(k : Int)] := fun c hc => ⟨by omega,by rw [hc]; omega⟩
 have hl21 : (rOf z21).length = (rOf z0).length := by rw [hr21]
 refine ⟨⟨by omega,by omega⟩,ck _ hl21,fun z23 _ _ h23 z24 _ _ h24 => ?_⟩
 have ht : ((ses z0).getD k se0).tok = sOf z23 := by rw [ses_get hkl,h23,<- hr21]; rfl
 have h24 := eq_dec h24
 have htd : decide (((ses z0).getD k se0).tok = (seOf r2).tok) = decide (z24 = 1) := by rw [ht,h24]; rfl
 rw [htd] at hS
 refine ⟨fun hm => ⟨ck _ hl21,fun z25 _ _ h25 z26 x0 x1 x2 x3 => ⟨ck _ hl21,fun hrw z27 _ _ h27 => ?_⟩⟩,fun hm => ⟨ck _ hl21,fun z25 _ _ h25 => ?_⟩⟩
 ·rw [bnot_t hm,cond_false] at hS
  have h25 : z25 = z19 := by rw [<- hw,ses_get hkl,h25,<- hr21]; rfl
  obtain ⟨p1,p2⟩ := put_wrong (k := k) rfl (by omega) hrw h27
  obtain ⟨q1,q2⟩ := whole_ses (z := z27) (n := z14) (y := 0) (by omega)
  refine ⟨q1,fun z28 f0 f1 h28 => kk z28 12 f0 f1 (by decide) (by decide) ?_⟩
  rw [ses_same ((whole_ses (z := z27) (n := z14) (by omega)).2 h28),p1,hs21,hS,show (z25 + (-18446744073709551616) * z26) + 1 = z19 + 1 by omega]
 ·rw [bnot_f hm,cond_true] at hS
  have hsh : ((ses z0).getD k se0).shown = z25 := by rw [ses_get hkl,h25,<- hr21]; rfl
  rw [hsh] at hS
  refine ⟨fun hq2 => ⟨ck _ hl21,fun hrw z26 _ _ h26 => ?_⟩,fun hq2 => ?_⟩
  ·rw [bnot_t hq2,cond_false] at hS
   obtain ⟨p1,p2⟩ := put_shown (k := k) rfl (by omega) hrw h26
   refine ⟨ck _ (by omega),fun hrw2 z27 _ _ h27 => ?_⟩
   obtain ⟨p3,p4⟩ := put_shAt (k := k) rfl (by omega) hrw2 h27
   refine ⟨(whole_ses (z := z27) (n := z14) (y := 0) (by omega)).1,fun z28 f0 f1 h28 => kk z28 0 f0 f1 (by decide) (by decide) ?_⟩
   rw [ses_same ((whole_ses (z := z27) (n := z14) (by omega)).2 h28),p3,p1,hs21,hS,List.set_set]
   have : ((ses z0).set k { (ses z0).getD k se0 with shown := 1 }).getD k se0 = { (ses z0).getD k se0 with shown := 1 } := by simp [List.getD,hlt]
   rw [this,<- hw]
   try rfl
  ·rw [bnot_f hq2,cond_true] at hS
   refine ⟨(whole_ses (z := z21) (n := z14) (y := 0) (by omega)).1,fun z26 f0 f1 h26 => kk z26 0 f0 f1 (by decide) (by decide) ?_⟩
   rw [ses_same ((whole_ses (z := z21) (n := z14) (by omega)).2 h26),hs21,hS]
theorem take_ses {z : Int} {i : Nat} (h : i < (ses z).length) : (ses z).take (i + 1) = (ses z).take i ++ [(ses z).getD i se0] := by
 rw [List.take_add_one,List.getElem?_eq_getElem h]; simp [List.getD,h]
theorem prune_take {z n : Int} {i : Nat} (h : i < (ses z).length) : pruneF ((ses z).take (i + 1)) n = pruneF ((ses z).take i) n ++ cond (oldF ((ses z).getD i se0) n) [] [(ses z).getD i se0] := by
 unfold pruneF
 rw [take_ses h,List.filter_append]
 cases h : oldF ((ses z).getD i se0) n <;> simp only [List.filter_cons,List.filter_nil,h,Bool.not_true,Bool.not_false,cond_true,cond_false,if_true,if_false,Bool.false_eq_true]
theorem old_row {a n q : Int} {s : Se} (hs : s.since = a) (h0 : 0 <= n + (-1) * a + 9223372036854775808 - 18446744073709551616 * q) (h1 : n + (-1) * a + 9223372036854775808 - 18446744073709551616 * q < 18446744073709551616) : decide (86400 < n + ((-1) * a + (-18446744073709551616) * q)) = oldF s n := by
 unfold oldF
 rw [hs,w64_eq (q := q) (by omega) (by omega),show n + ((-1) * a + (-18446744073709551616) * q) = n - a - 18446744073709551616 * q by omega]
def PuI (z0 n : Int) (bl : List (List Int)) : Prop := ∃ i : Nat,bl = [[(i : Int)]] /\ i <= (ses z0).length /\ pruneF ((ses z0).take i) n = (ses z0).take i
def PuJ (z0 n : Int) (bl : List (List Int)) : Prop := ∃ (i j : Nat) (c : Int),bl = [[(i : Int)],[(j : Int)],[c]] /\ i < j /\ j <= (ses z0).length /\ (rOf c).length = (rOf z0).length /\ (ses c).take i = pruneF ((ses z0).take j) n /\ (rOf c).drop j = (rOf z0).drop j
def PuM (z0 : Int) (bl : List (List Int)) : Nat := (ses z0).length - ((bl.getD 1 []).getD 0 0).toNat
theorem getD_drop_eq {α : Type} {a b : List α} {d : α} {j : Nat} (h : a.drop j = b.drop j) : a.getD j d = b.getD j d := by
 have := congrArg (fun l => l.getD 0 d) h
 simpa [List.getD] using this
abbrev oSS : BD := .ow [.int .i64 (-9223372036854775808) 9223372036854775807,.str,.str,.str,.str,.int .i64 (-9223372036854775808) 9223372036854775807,.int .i64 (-9223372036854775808) 9223372036854775807,.int .i64 (-9223372036854775808) 9223372036854775807,.bool,.int .i64 (-9223372036854775808) 9223372036854775807] 0
theorem set_take {α : Type} {l : List α} {i : Nat} {x : α} (h : i < l.length) : (l.set i x).take (i + 1) = l.take i ++ [x] := by
 rw [List.take_add_one,List.take_set_of_le (Nat.le_refl _)]; simp [h]
theorem p_sprune : B_sprune SB (KBb SB [oSS] 409) := by
 intro z0 a0 a1 z1 n0 n1 hpre z2 _ z3 _ _ z4 b0 b1 h4 has
 have hpre : (rOf z0).length <= 1000000 := hpre
 have h4 : z4 = ((rOf z0).length : Int) := h4
 have hlen := ses_len z0
 have has : z3 < 0 -> z4 = 0 := has
 have kk : ∀ y : Int,0 <= y -> y <= RB -> ses y = pruneF (ses z0) z1 -> KBb SB [oSS] 409 [[z0],[z1]] [[y]] := fun y i0 i1 h => ⟨⟨i0,i1,trivial⟩,h⟩
 have hnil : z4 <= 0 -> KBb SB [oSS] 409 [[z0],[z1]] [[0]] := fun h => kk 0 (Int.le_refl _) RB_nonneg (by
  have : ses z0 = [] := List.eq_nil_of_length_eq_zero (by omega)
  rw [this]; unfold ses; rw [Go.Rx.rOf_zero]; rfl)
 refine ⟨fun hc => ⟨fun _ => True,fun _ => 0,trivial,fun _ _ _ _ => hnil (by have := has (of_decide_eq_true hc); omega)⟩,fun hc => ?_⟩
 have W := fun y => whole_ses (z := z0) (y := y) h4
 refine ⟨(W 0).1,by show (rOf 0).length + z4 <= 1073741824; rw [Go.Rx.rOf_zero]; simp; omega,fun z5 _ _ h5 z6 _ _ h6 => ⟨fun hz => ⟨fun _ => True,fun _ => 0,trivial,fun _ _ _ _ => hnil (of_decide_eq_true hz)⟩,fun hz z7 _ _ => ?_⟩⟩
 have hr6 := copy_rows ((W z5).2 h5) h6
 have hz := of_decide_eq_false hz
 refine ⟨PuI z0 z1,RsM z0,⟨0,rfl,Nat.zero_le _,rfl⟩,?_⟩
 rintro z9 c0 c1 ⟨i,e,hi,hI⟩
 obtain rfl : z9 = i := by simpa using e
 refine ⟨fun hlt => ?_,fun hge => ?_⟩
 rotate_left
 ·have hge := of_decide_eq_false hge
  refine ⟨(whole_ses (z := z6) (n := z4) (y := 0) (by rw [hr6]; exact h4)).1,fun z10 d0 d1 h10 => kk z10 d0 d1 ?_⟩
  rw [ses_same ((whole_ses (z := z6) (n := z4) (by rw [hr6]; exact h4)).2 h10),ses_same hr6]
  rw [List.take_of_length_le (by omega)] at hI
  exact hI.symm
 have hlt := of_decide_eq_true hlt
 have hil : i < (rOf z0).length := by omega
 refine ⟨⟨by omega,by omega⟩,⟨by omega,by rw [hr6]; omega⟩,fun z10 _ _ _ z11 _ _ _ z12 _ _ _ z13 _ _ _ z14 _ _ _ z15 _ _ _ z16 _ _ h16 z17 _ _ _ z18 _ _ _ z19 _ _ _ z20 x0 x1 x2 x3 => ?_⟩
 have hsi : ((ses z0).getD i se0).since = z16 := by rw [ses_get hil,h16,<- hr6]; rfl
 rw [old_row (s := (ses z0).getD i se0) hsi x2 x3]
 have hpt := prune_take (z := z0) (n := z1) (i := i) (by omega)
 refine ⟨fun ho z21 y0 y1 y2 y3 => ⟨⟨by omega,by omega⟩,PuJ z0 z1,PuM z0,⟨i,i + 1,z6,?_,by omega,by omega,by rw [hr6],?_,by rw [hr6]⟩,?_⟩,fun ho z21 y0 y1 y2 y3 => ⟨⟨by omega,by omega⟩,⟨i + 1,by rw [show ((i : Int) + (-18446744073709551616) * z21) + 1 = ((i + 1 : Nat) : Int) by omega],by omega,?_⟩,?_⟩⟩
 ·rw [show ((i : Int) + (-18446744073709551616) * z21) + 1 = ((i + 1 : Nat) : Int) by omega]
 ·rw [ses_same hr6,hpt,ho,hI]; simp
 rotate_left
 ·rw [hpt,ho,hI,cond_false,<- take_ses (by omega)]
 ·show (ses z0).length - (((i : Int) + (-18446744073709551616) * z21) + 1).toNat < (ses z0).length - ((i : Int)).toNat; omega
 rintro z23 d0 d1 z24 e0 e1 z25 f0 f1 ⟨i,j,c,e,hij,hj,hcl,hI,hD⟩
 obtain ⟨rfl,rfl,rfl⟩ : z23 = i /\ z24 = j /\ z25 = c := by simpa using e
 have hcs := ses_len z25
 refine ⟨fun hlt => ?_,fun hge => ?_⟩
 ·have hlt := of_decide_eq_true hlt
  have hjl : j < (rOf z0).length := by omega
  refine ⟨⟨by omega,by omega⟩,⟨by omega,by omega⟩,fun z26 _ _ h26 z27 _ _ h27 z28 _ _ h28 z29 _ _ h29 z30 _ _ h30 z31 _ _ h31 z32 _ _ h32 z33 _ _ h33 z34 g0 g1 h34 z35 _ _ h35 z36 w0 w1 w2 w3 => ?_⟩
  have hrow := row_se (k := j) rfl (by omega) h26 h27 h28 h29 h30 h31 h32 h33 h34 h35
  have hgj : (ses z25).getD j se0 = (ses z0).getD j se0 := by
   rw [ses_get (by omega),ses_get hjl,getD_drop_eq hD]
  rw [hgj] at hrow
  have hsj : ((ses z0).getD j se0).since = z32 := by rw [<- hrow]; rfl
  rw [old_row (s := (ses z0).getD j se0) hsj w2 w3]
  have hpj := prune_take (z := z0) (n := z1) (i := j) (by omega)
  have hDj : (rOf z25).drop (j + 1) = (rOf z0).drop (j + 1) := by
   have := congrArg (List.drop 1) hD
   simpa [List.drop_drop,Nat.add_comm] using this
  refine ⟨fun ho => ⟨⟨by omega,by omega⟩,⟨by omega,by omega⟩,fun hrw z37 k0 k1 h37 z38 _ _ h38 z39 l0 l1 l2 l3 z40 m0 m1 m2 m3 => ⟨⟨by omega,by omega⟩,⟨by omega,by omega⟩,⟨i + 1,j + 1,z38,?_,by omega,by omega,?_,?_,?_⟩,?_⟩⟩,fun ho z37 m0 m1 m2 m3 => ⟨⟨by omega,by omega⟩,⟨i,j + 1,z25,?_,by omega,by omega,hcl,?_,hDj⟩,?_⟩⟩
  ·rw [show ((i : Int) + (-18446744073709551616) * z39) + 1 = ((i + 1 : Nat) : Int) by omega,show ((j : Int) + (-18446744073709551616) * z40) + 1 = ((j + 1 : Nat) : Int) by omega]
  ·rw [put_all (k := i) rfl (by omega) hrw h38,List.length_set]; exact hcl
  ·have h37 := bit_eq g0 g1 k0 k1 h37
   subst h37
   have hp := put_all (k := i) rfl (by omega) hrw h38
   have hs := (put_rows (i := (i : Int)) (k := i) rfl (by omega) hp).1
   rw [hs,hrow,set_take (by omega),hI,hpj,bnot_t ho]; rfl
  ·have hp := put_all (k := i) rfl (by omega) hrw h38
   rw [hp,List.drop_set_of_lt (by omega)]; exact hDj
  ·show (ses z0).length - (((j : Int) + (-18446744073709551616) * z40) + 1).toNat < (ses z0).length - ((j : Int)).toNat; omega
  ·rw [show ((j : Int) + (-18446744073709551616) * z37) + 1 = ((j + 1 : Nat) : Int) by omega]
  ·rw [hpj,bnot_f ho,<- hI]; simp
  ·show (ses z0).length - (((j : Int) + (-18446744073709551616) * z37) + 1).toNat < (ses z0).length - ((j : Int)).toNat; omega
 ·have hge := of_decide_eq_false hge
  refine ⟨⟨by omega,by omega,by omega⟩,fun h68 z26 _ _ h26 => ?_⟩
  have h68 : z4 <= z7 ∨ z4 = 0 := h68
  have h26 : z26 = if (i : Int) = z7 then 0 else 0 + (i : Int) := h26
  rw [if_neg (by omega)] at h26
  refine ⟨⟨by omega,by omega,by omega⟩,fun z27 _ _ h27 => ⟨⟨by omega,by omega,by omega⟩,?_⟩⟩
  have hr27 : rOf z27 = (rOf z25).take i ++ List.replicate (z4 + (-1) * (i : Int)).toNat [0,0,0,0,0,0,0,0,0,0] ++ (rOf z25).drop (i + (z4 + (-1) * (i : Int)).toNat) := by
   rw [h27,h26]; simp only [fnD,rOf_rc]
   rw [show ((0 : Int) + (i : Int)).toNat = i by omega]
  have hl27 : ((rOf z25).take i).length = i := by rw [List.length_take]; omega
  refine ⟨⟨by omega,by omega,by rw [hr27]; simp only [List.length_append,hl27]; omega⟩,fun z28 k0 k1 h28 => kk z28 k0 k1 ?_⟩
  have hr28 : rOf z28 = (rOf z25).take i := by
   rw [h28]; simp only [fnD,rOf_rc]
   rw [show (0 : Int).toNat = 0 from rfl,List.drop_zero,hr27,List.append_assoc,List.take_append_of_le_length (by omega),List.take_of_length_le (by omega)]
  have hs28 : ses z28 = (ses z25).take i := by unfold ses; rw [hr28,List.map_take]
  rw [hs28,hI,List.take_of_length_le (by omega)]
theorem p_sPrune : B_sPrune SB (KBb SB [oSS] 410) := by
 intro z0 a0 a1 z1 n0 n1 z2 _ z3 _ _ z4 b0 b1 h4
 have h4 : z4 = ((rOf z0).length : Int) := h4
 have W := fun y => whole_ses (z := z0) (y := y) h4
 have kk : ∀ y : Int,0 <= y -> y <= RB -> ses y = cond (timedF z1 && rightS (ses z0)) (pruneF (ses z0) z1) [] -> KBb SB [oSS] 410 [[z0],[z1]] [[y]] := fun y i0 i1 h => ⟨⟨i0,i1,trivial⟩,h⟩
 have kno : (timedF z1 && rightS (ses z0)) = false -> KBb SB [oSS] 410 [[z0],[z1]] [[0]] := fun h => kk 0 (Int.le_refl _) RB_nonneg (by rw [h]; unfold ses; rw [Go.Rx.rOf_zero]; rfl)
 refine ⟨fun h0 => ⟨fun h1 => kno ?_,fun h1 => ⟨(W 0).1,fun z5 _ _ h5 z6 _ _ h6 => ?_⟩⟩,fun h0 => kno (by unfold timedF; rw [h0]; rfl)⟩
 ·unfold timedF; rw [bnot_t h1,Bool.and_false]; rfl
 have ht : timedF z1 = true := by unfold timedF; rw [h0,bnot_f h1]; rfl
 have h6 : z6 = b01 (rightS (ses z5)) := h6
 rw [ses_same ((W z5).2 h5)] at h6
 refine ⟨fun hn => kno (by rw [nt_of h6 hn,Bool.and_false]),fun hn => ⟨(W 0).1,fun z7 _ _ h7 => ?_⟩⟩
 have hr := nf_of h6 hn
 have h16 := ((rightS_iff _).1 hr).1
 have hlen := ses_len z0
 have hr7 := (W z7).2 h7
 refine ⟨show (rOf z7).length <= 1000000 by rw [hr7]; omega,fun z8 _ _ h8 z9 _ _ z10 _ _ h10 => ?_⟩
 have h8 : ses z8 = pruneF (ses z7) z1 := h8
 have h10 : z10 = ((rOf z8).length : Int) := h10
 refine ⟨(whole_ses (z := z8) (y := 0) h10).1,fun z11 c0 c1 h11 => kk z11 c0 c1 ?_⟩
 rw [ses_same ((whole_ses (z := z8) h10).2 h11),h8,ses_same hr7,ht,hr]; rfl
end Go.Ad
set_option maxRecDepth 100000
set_option linter.unusedVariables false
set_option linter.unusedSimpArgs false
namespace Go.Ad
open Go Go.Rx
def B_sReq (S : Nat -> List (List Int) -> List (List Int) -> Prop) (K : List (List Int) -> List (List Int) -> Prop) : Prop :=
 ∀ z0 : Int,0 <= z0 -> z0 <= RB -> ∀ r1 : List Int,inB [((-9223372036854775808),9223372036854775807),(0,HB),(0,HB),(0,HB),(0,HB),((-9223372036854775808),9223372036854775807),((-9223372036854775808),9223372036854775807),((-9223372036854775808),9223372036854775807),(0,1),((-9223372036854775808),9223372036854775807)] r1 ->
 ∀ z11 : Int,0 <= z11 ->
 ∀ z12 : Int,(-1) <= z12 -> z12 <= 9223372036854775807 ->
 ∀ z13 : Int,0 <= z13 -> z13 <= 9223372036854775807 -> z13 = fnD 20 [z0] ->
 ∀ z14 : Int,0 <= z14 -> z14 <= 1 -> decide ((List.getD r1 8 0) = 1) = decide (z14 = 1) ->
 ∀ z15 : Int,0 <= z15 -> z15 <= 1 -> S 402 [[(List.getD r1 0 0),(List.getD r1 1 0),(List.getD r1 2 0),(List.getD r1 3 0),(List.getD r1 4 0),(List.getD r1 5 0),(List.getD r1 6 0),(List.getD r1 7 0),z14,(List.getD r1 9 0)]] [[z15]] ->
 ((((!(decide (z15 = 1)))) = true ->
  chkD 22 [z0,0,z13] /\
  ∀ z16 : Int,0 <= z16 -> z16 <= RB -> z16 = fnD 22 [z0,0,z13] ->
  K [[z0],r1] [[z16],[0],[(cond (false) 1 0)],[1]]
 ) /\ (((!(decide (z15 = 1)))) = false ->
  (((decide (0 < (List.getD r1 7 0))) = true ->
   chkD 22 [z0,0,z13] /\
   ∀ z16 : Int,0 <= z16 -> z16 <= RB -> z16 = fnD 22 [z0,0,z13] ->
   K [[z0],r1] [[z16],[0],[(cond (false) 1 0)],[1]]
  ) /\ ((decide (0 < (List.getD r1 7 0))) = false ->
   (((decide ((List.getD r1 8 0) = 1)) = true ->
    chkD 22 [z0,0,z13] /\
    ∀ z16 : Int,0 <= z16 -> z16 <= RB -> z16 = fnD 22 [z0,0,z13] ->
    K [[z0],r1] [[z16],[0],[(cond (false) 1 0)],[1]]
   ) /\ ((decide ((List.getD r1 8 0) = 1)) = false ->
    chkD 22 [z0,0,z13] /\
    ∀ z16 : Int,0 <= z16 -> z16 <= RB -> z16 = fnD 22 [z0,0,z13] ->
    ∀ z17 : Int,0 <= z17 -> z17 <= 1 -> S 403 [[z16]] [[z17]] ->
    ((((!(decide (z17 = 1)))) = true ->
     chkD 22 [z0,0,z13] /\
     ∀ z18 : Int,0 <= z18 -> z18 <= RB -> z18 = fnD 22 [z0,0,z13] ->
     K [[z0],r1] [[z18],[0],[(cond (false) 1 0)],[1]]
    ) /\ (((!(decide (z17 = 1)))) = false ->
     chkD 22 [z0,0,z13] /\
     ∀ z18 : Int,0 <= z18 -> z18 <= RB -> z18 = fnD 22 [z0,0,z13] ->
     chkD 66 [z18,(List.getD r1 6 0)] /\
     ∀ z19 : Int,0 <= z19 -> z19 <= RB -> S 409 [[z18],[(List.getD r1 6 0)]] [[z19]] ->
     ∀ z20 : Int,(-1) <= z20 -> z20 <= 9223372036854775807 ->
     ∀ z21 : Int,0 <= z21 -> z21 <= 9223372036854775807 -> z21 = fnD 20 [z19] ->
     ∃ (I22 : List (List Int) -> Prop) (μ22 : List (List Int) -> Nat),I22 [[0]] /\ (∀ z23 : Int,0 <= z23 -> z23 <= 9223372036854775807 -> I22 [[z23]] ->
      (((decide (z23 < z21)) = true ->
       chkD 30 [z23,z21] /\
       chkD 21 [z19,z23] /\
       ∀ z24 : Int,(-9223372036854775808) <= z24 -> z24 <= 9223372036854775807 -> z24 = fnD 21 [z19,z23,0] ->
       ∀ z25 : Int,0 <= z25 -> z25 <= HB -> z25 = fnD 21 [z19,z23,1] ->
       ∀ z26 : Int,0 <= z26 -> z26 <= HB -> z26 = fnD 21 [z19,z23,2] ->
       ∀ z27 : Int,0 <= z27 -> z27 <= HB -> z27 = fnD 21 [z19,z23,3] ->
       ∀ z28 : Int,0 <= z28 -> z28 <= HB -> z28 = fnD 21 [z19,z23,4] ->
       ∀ z29 : Int,(-9223372036854775808) <= z29 -> z29 <= 9223372036854775807 -> z29 = fnD 21 [z19,z23,5] ->
       ∀ z30 : Int,(-9223372036854775808) <= z30 -> z30 <= 9223372036854775807 -> z30 = fnD 21 [z19,z23,6] ->
       ∀ z31 : Int,(-9223372036854775808) <= z31 -> z31 <= 9223372036854775807 -> z31 = fnD 21 [z19,z23,7] ->
       ∀ z32 : Int,0 <= z32 -> z32 <= 1 -> z32 = fnD 21 [z19,z23,8] ->
       ∀ z33 : Int,(-9223372036854775808) <= z33 -> z33 <= 9223372036854775807 -> z33 = fnD 21 [z19,z23,9] ->
       ∀ z34 : Int,0 <= z34 -> z34 <= 1 -> z34 = fnD 4 [z25,(List.getD r1 1 0)] ->
       (((decide (z34 = 1)) = true ->
        ∀ z35 : Int,0 <= z35 -> z35 <= 1 -> z35 = fnD 4 [z26,(List.getD r1 2 0)] ->
        ∀ z36 : Int,0 <= z36 -> z36 <= 1 -> z36 = fnD 4 [z27,(List.getD r1 3 0)] ->
        (((decide ([z35,z36] = [1,1])) = true ->
         chkD 30 [z23,z21] /\
         chkD 21 [z19,z23] /\
         ∀ z37 : Int,(-9223372036854775808) <= z37 -> z37 <= 9223372036854775807 -> z37 = fnD 21 [z19,z23,5] ->
         chkD 30 [z23,z21] /\
         chkD 21 [z19,z23] /\
         ∀ z38 : Int,(-9223372036854775808) <= z38 -> z38 <= 9223372036854775807 -> z38 = fnD 21 [z19,z23,5] ->
         (((decide (z38 < (List.getD r1 5 0))) = true ->
          chkD 30 [z23,z21] /\
          chkD 21 [z19,z23] /\
          (chkD 67 [z19,z23,10] ->
          ∀ z39 : Int,0 <= z39 -> z39 <= RB -> z39 = fnD 42 [z19,z23,5,(List.getD r1 5 0)] ->
          chkD 30 [z23,z21] /\
          chkD 21 [z39,z23] /\
          ∀ z40 : Int,(-9223372036854775808) <= z40 -> z40 <= 9223372036854775807 -> z40 = fnD 21 [z39,z23,0] ->
          chkD 22 [z39,0,z21] /\
          ∀ z41 : Int,0 <= z41 -> z41 <= RB -> z41 = fnD 22 [z39,0,z21] ->
          K [[z0],r1] [[z41],[z40],[(cond (decide (z37 < (List.getD r1 5 0))) 1 0)],[0]]
          )
         ) /\ ((decide (z38 < (List.getD r1 5 0))) = false ->
          chkD 30 [z23,z21] /\
          chkD 21 [z19,z23] /\
          (chkD 67 [z19,z23,10] ->
          ∀ z39 : Int,0 <= z39 -> z39 <= RB -> z39 = fnD 42 [z19,z23,5,z38] ->
          chkD 30 [z23,z21] /\
          chkD 21 [z39,z23] /\
          ∀ z40 : Int,(-9223372036854775808) <= z40 -> z40 <= 9223372036854775807 -> z40 = fnD 21 [z39,z23,0] ->
          chkD 22 [z39,0,z21] /\
          ∀ z41 : Int,0 <= z41 -> z41 <= RB -> z41 = fnD 22 [z39,0,z21] ->
          K [[z0],r1] [[z41],[z40],[(cond (decide (z37 < (List.getD r1 5 0))) 1 0)],[0]]
          )
         ))
        ) /\ ((decide ([z35,z36] = [1,1])) = false ->
         ∀ z37 : Int,0 <= z37 -> z37 <= 1 -> 0 <= (z23 + 9223372036854775809) - 18446744073709551616 * z37 -> (z23 + 9223372036854775809) - 18446744073709551616 * z37 < 18446744073709551616 ->
         chkD 39 [((z23 + ((-18446744073709551616) * z37)) + 1),0,9223372036854775807] /\
         (I22 [[((z23 + ((-18446744073709551616) * z37)) + 1)]] /\ μ22 [[((z23 + ((-18446744073709551616) * z37)) + 1)]] < μ22 [[z23]])
        ))
       ) /\ ((decide (z34 = 1)) = false ->
        ∀ z35 : Int,0 <= z35 -> z35 <= 1 -> 0 <= (z23 + 9223372036854775809) - 18446744073709551616 * z35 -> (z23 + 9223372036854775809) - 18446744073709551616 * z35 < 18446744073709551616 ->
        chkD 39 [((z23 + ((-18446744073709551616) * z35)) + 1),0,9223372036854775807] /\
        (I22 [[((z23 + ((-18446744073709551616) * z35)) + 1)]] /\ μ22 [[((z23 + ((-18446744073709551616) * z35)) + 1)]] < μ22 [[z23]])
       ))
      ) /\ ((decide (z23 < z21)) = false ->
       chkD 22 [z19,0,z21] /\
       ∀ z24 : Int,0 <= z24 -> z24 <= RB -> z24 = fnD 22 [z19,0,z21] ->
       ∀ z25 : Int,0 <= z25 -> z25 <= 9223372036854775807 -> ∀ z26 : Int,0 <= z26 -> z26 <= 1 -> S 404 [[z24],[(List.getD r1 0 0)]] [[z25],[z26]] ->
       (((decide (z26 = 1)) = true ->
        chkD 22 [z0,0,z13] /\
        ∀ z27 : Int,0 <= z27 -> z27 <= RB -> z27 = fnD 22 [z0,0,z13] ->
        K [[z0],r1] [[z27],[0],[(cond (false) 1 0)],[6]]
       ) /\ ((decide (z26 = 1)) = false ->
        ∃ (I27 : List (List Int) -> Prop) (μ27 : List (List Int) -> Nat),I27 [[0]] /\ (∀ z28 : Int,0 <= z28 -> z28 <= 9223372036854775807 -> I27 [[z28]] ->
         (((decide (z28 < z21)) = true ->
          chkD 30 [z28,z21] /\
          chkD 21 [z19,z28] /\
          ∀ z29 : Int,(-9223372036854775808) <= z29 -> z29 <= 9223372036854775807 -> z29 = fnD 21 [z19,z28,0] ->
          ∀ z30 : Int,0 <= z30 -> z30 <= HB -> z30 = fnD 21 [z19,z28,1] ->
          ∀ z31 : Int,0 <= z31 -> z31 <= HB -> z31 = fnD 21 [z19,z28,2] ->
          ∀ z32 : Int,0 <= z32 -> z32 <= HB -> z32 = fnD 21 [z19,z28,3] ->
          ∀ z33 : Int,0 <= z33 -> z33 <= HB -> z33 = fnD 21 [z19,z28,4] ->
          ∀ z34 : Int,(-9223372036854775808) <= z34 -> z34 <= 9223372036854775807 -> z34 = fnD 21 [z19,z28,5] ->
          ∀ z35 : Int,(-9223372036854775808) <= z35 -> z35 <= 9223372036854775807 -> z35 = fnD 21 [z19,z28,6] ->
          ∀ z36 : Int,(-9223372036854775808) <= z36 -> z36 <= 9223372036854775807 -> z36 = fnD 21 [z19,z28,7] ->
          ∀ z37 : Int,0 <= z37 -> z37 <= 1 -> z37 = fnD 21 [z19,z28,8] ->
          ∀ z38 : Int,(-9223372036854775808) <= z38 -> z38 <= 9223372036854775807 -> z38 = fnD 21 [z19,z28,9] ->
          ∀ z39 : Int,0 <= z39 -> z39 <= 1 -> z39 = fnD 4 [z33,(List.getD r1 4 0)] ->
          (((decide (z39 = 1)) = true ->
           chkD 22 [z0,0,z13] /\
           ∀ z40 : Int,0 <= z40 -> z40 <= RB -> z40 = fnD 22 [z0,0,z13] ->
           K [[z0],r1] [[z40],[0],[(cond (false) 1 0)],[6]]
          ) /\ ((decide (z39 = 1)) = false ->
           ∀ z40 : Int,0 <= z40 -> z40 <= 1 -> 0 <= (z28 + 9223372036854775809) - 18446744073709551616 * z40 -> (z28 + 9223372036854775809) - 18446744073709551616 * z40 < 18446744073709551616 ->
           chkD 39 [((z28 + ((-18446744073709551616) * z40)) + 1),0,9223372036854775807] /\
           (I27 [[((z28 + ((-18446744073709551616) * z40)) + 1)]] /\ μ27 [[((z28 + ((-18446744073709551616) * z40)) + 1)]] < μ27 [[z28]])
          ))
         ) /\ ((decide (z28 < z21)) = false ->
          (((decide (z21 = 16)) = true ->
           chkD 22 [z0,0,z13] /\
           ∀ z29 : Int,0 <= z29 -> z29 <= RB -> z29 = fnD 22 [z0,0,z13] ->
           K [[z0],r1] [[z29],[0],[(cond (false) 1 0)],[10]]
          ) /\ ((decide (z21 = 16)) = false ->
           chkD 31 [z19,z21] /\
           ∀ z29 : Int,0 <= z29 -> z29 <= 1 -> decide ((List.getD r1 8 0) = 1) = decide (z29 = 1) ->
           ∀ z30 : Int,0 <= z30 -> z30 <= RB -> z30 = fnD 23 [0,(List.getD r1 0 0),(List.getD r1 1 0),(List.getD r1 2 0),(List.getD r1 3 0),(List.getD r1 4 0),(List.getD r1 5 0),(List.getD r1 6 0),(List.getD r1 7 0),z29,(List.getD r1 9 0)] ->
           chkD 51 [z19,z25,z30] /\
           ∀ z31 : Int,0 <= z31 -> z31 <= RB -> S 411 [[z19],[z25],[z30]] [[z31]] ->
           ∀ z32 : Int,(-1) <= z32 -> z32 <= 9223372036854775807 ->
           ∀ z33 : Int,0 <= z33 -> z33 <= 9223372036854775807 -> z33 = fnD 20 [z31] ->
           chkD 22 [z31,0,z33] /\
           ∀ z34 : Int,0 <= z34 -> z34 <= RB -> z34 = fnD 22 [z31,0,z33] ->
           K [[z0],r1] [[z34],[(List.getD r1 0 0)],[(cond (true) 1 0)],[0]]
          ))
         ))
        )
       ))
      ))
     )
    ))
   ))
  ))
 ))
theorem rightS_pair (l : List Se) : rightS l = true ↔ l.length <= 16 /\ (∀ s ∈ l,seOk s = true) /\ l.Pairwise (fun x s => clashF x s = false) := by
 rw [rightS_iff,List.pairwise_iff_getElem]
 refine and_congr Iff.rfl ⟨fun h => ⟨fun s hs => ?_,fun i j hi hj hij => ?_⟩,fun ⟨h1,h2⟩ i hi => ⟨h1 _ (by simp [List.getD,hi]),fun j hj => ?_⟩⟩
 ·obtain ⟨i,hi,rfl⟩ := List.mem_iff_getElem.1 hs
  have := (h i hi).1
  simpa [List.getD,hi] using this
 ·have := (h j hj).2 i hij
  simpa [List.getD,hi,hj] using this
 ·have := h2 j i (by omega) hi hj
  simpa [List.getD,hi,show j < l.length by omega] using this
theorem right_sub {l m : List Se} (h : rightS l = true) (hs : m.Sublist l) : rightS m = true := by
 obtain ⟨h1,h2,h3⟩ := (rightS_pair l).1 h
 exact (rightS_pair m).2 ⟨Nat.le_trans hs.length_le h1,fun s hm => h2 s (hs.subset hm),h3.sublist hs⟩
theorem right_prune {l : List Se} (h : rightS l = true) (n : Int) : rightS (pruneF l n) = true := right_sub h List.filter_sublist
theorem fil_take {p : Se -> Bool} : ∀ {l : List Se} {i : Nat},i <= l.length -> (∀ j,j < i -> p (l.getD j se0) = true) -> (∀ j,i <= j -> j < l.length -> p (l.getD j se0) = false) -> l.filter p = l.take i
 | [],i,h,_,_ => by simp
 | a :: l,0,h,_,h2 => by
  rw [List.take_zero,List.filter_eq_nil_iff]
  intro b hb
  obtain ⟨j,hj,rfl⟩ := List.mem_iff_getElem.1 hb
  have := h2 j (Nat.zero_le _) hj
  simp only [List.getD,List.getElem?_eq_getElem hj,Option.getD_some] at this
  rw [this]; decide
 | a :: l,i + 1,h,h1,h2 => by
  have h10 : p a = true := h1 0 (by omega)
  rw [List.filter_cons_of_pos h10,List.take_succ_cons,fil_take (i := i) (by simpa using h) (fun j hj => by have := h1 (j + 1) (by omega); simpa using this) (fun j hj hl => by have := h2 (j + 1) (by omega) (by simpa using hl); simpa using this)]
theorem fil_drop {p : Se -> Bool} : ∀ {l : List Se} {i : Nat},i <= l.length -> (∀ j,j < i -> p (l.getD j se0) = false) -> (∀ j,i <= j -> j < l.length -> p (l.getD j se0) = true) -> l.filter p = l.drop i
 | [],i,h,_,_ => by simp
 | a :: l,0,h,_,h2 => by
  rw [List.drop_zero,List.filter_eq_self]
  intro b hb
  obtain ⟨j,hj,rfl⟩ := List.mem_iff_getElem.1 hb
  have := h2 j (Nat.zero_le _) hj
  simpa only [List.getD,List.getElem?_eq_getElem hj,Option.getD_some] using this
 | a :: l,i + 1,h,h1,h2 => by
  have h0 := h1 0 (by omega)
  rw [List.filter_cons_of_neg (by rw [show p a = false from h0]; decide),List.drop_succ_cons,fil_drop (i := i) (by simpa using h) (fun j hj => by have := h1 (j + 1) (by omega); simpa using this) (fun j hj hl => by have := h2 (j + 1) (by omega) (by simpa using hl); simpa using this)]
theorem any_at {l : List Se} {p : Se -> Bool} : l.any p = true ↔ ∃ j,j < l.length /\ p (l.getD j se0) = true := by
 rw [List.any_eq_true]
 constructor
 ·rintro ⟨s,hs,h⟩
  obtain ⟨i,hi,rfl⟩ := List.mem_iff_getElem.1 hs
  exact ⟨i,hi,by simpa [List.getD,hi] using h⟩
 ·rintro ⟨i,hi,h⟩
  exact ⟨l[i],List.getElem_mem hi,by simpa [List.getD,hi] using h⟩
theorem any_no {l : List Se} {p : Se -> Bool} (h : ∀ j,j < l.length -> p (l.getD j se0) = false) : l.any p = false := by
 cases ha : l.any p with
 | false => rfl
 | true =>
  obtain ⟨j,hj,hp⟩ := any_at.1 ha
  rw [h j hj] at hp; cases hp
def ReI (z : Int) (p : Se -> Bool) (bl : List (List Int)) : Prop := ∃ i : Nat,bl = [[(i : Int)]] /\ i <= (ses z).length /\ ∀ j,j < i -> p ((ses z).getD j se0) = false
theorem p_sReq : B_sReq SB (KBb SB [rSS,.d (.int .i64 (-9223372036854775808) 9223372036854775807),.d .bool,dE] 412) := by
 intro z0 a0 a1 r1 hr1 z11 _ z12 _ _ z13 b0 b1 h13 z14 c0 c1 h14 z15 _ _ h15
 have h13 : z13 = ((rOf z0).length : Int) := h13
 have hlen := ses_len z0
 have hW : (0 <= r1.getD 8 0 /\ r1.getD 8 0 <= 1) /\ ∃ x0 x1 x2 x3 x4 x5 x6 x7 x8 x9,r1 = [x0,x1,x2,x3,x4,x5,x6,x7,x8,x9] /\ (-9223372036854775808 <= x0 /\ x0 <= 9223372036854775807) := by
  match r1,hr1 with
  | [x0,x1,x2,x3,x4,x5,x6,x7,x8,x9],hr => exact ⟨⟨hr.2.2.2.2.2.2.2.2.2.2.2.2.2.2.2.2.1,hr.2.2.2.2.2.2.2.2.2.2.2.2.2.2.2.2.2.1⟩,x0,x1,x2,x3,x4,x5,x6,x7,x8,x9,rfl,hr.1,hr.2.1⟩
 obtain ⟨hb8,y0,y1,y2,y3,y4,y5,y6,y7,y8,y9,hr1e,hid0,hid1⟩ := hW
 have h14 := bit_eq hb8.1 hb8.2 c0 c1 h14
 subst h14
 have h15 : z15 = b01 (seOk (seOf r1)) := h15
 have kk : ∀ y i s e : Int,0 <= y -> y <= RB -> (-9223372036854775808) <= i -> i <= 9223372036854775807 -> 0 <= s -> s <= 1 -> 0 <= e -> e <= 21 -> (ses y,i,s,e) = reqF (ses z0) (seOf r1) -> KBb SB [rSS,.d (.int .i64 (-9223372036854775808) 9223372036854775807),.d .bool,dE] 412 [[z0],r1] [[y],[i],[s],[e]] := fun y i s e y0 y1 i0 i1 s0 s1 e0 e1 h => ⟨⟨y0,y1,i0,i1,s0,s1,e0,e1,trivial⟩,h⟩
 have W := fun y => whole_ses (z := z0) (y := y) h13
 have kno : ∀ e : Int,0 <= e -> e <= 21 -> reqF (ses z0) (seOf r1) = (ses z0,0,0,e) -> ∀ y : Int,0 <= y -> y <= RB -> y = fnD 22 [z0,0,z13] -> KBb SB [rSS,.d (.int .i64 (-9223372036854775808) 9223372036854775807),.d .bool,dE] 412 [[z0],r1] [[y],[0],[cond false 1 0],[e]] := fun e e0 e1 h y y0 y1 hy => kk y 0 0 e y0 y1 (by decide) (by decide) (by decide) (by decide) e0 e1 (by rw [h,ses_same ((W y).2 hy)])
 have kbad : (seOk (seOf r1) && (decide ((seOf r1).wrong <= 0) && (!decide ((seOf r1).shown = 1) && rightS (ses z0)))) = false -> ∀ y : Int,0 <= y -> y <= RB -> y = fnD 22 [z0,0,z13] -> KBb SB [rSS,.d (.int .i64 (-9223372036854775808) 9223372036854775807),.d .bool,dE] 412 [[z0],r1] [[y],[0],[cond false 1 0],[1]] := fun h => kno 1 (by decide) (by decide) (by unfold reqF; rw [h]; rfl)
 refine ⟨fun hn => ⟨(W 0).1,kbad (by rw [nt_of h15 hn]; rfl)⟩,fun hn => ⟨fun hw => ⟨(W 0).1,kbad (by
  have := of_decide_eq_true hw
  have hd : decide ((seOf r1).wrong <= 0) = false := decide_eq_false (by show ¬ r1.getD 7 0 <= 0; omega)
  rw [hd]; simp)⟩,fun hw => ⟨fun hs => ⟨(W 0).1,kbad (by
  have hd : decide ((seOf r1).shown = 1) = true := hs
  rw [hd]; simp)⟩,fun hs => ⟨(W 0).1,fun z16 _ _ h16 z17 _ _ h17 => ?_⟩⟩⟩⟩
 have hok := nf_of h15 hn
 have h17 : z17 = b01 (rightS (ses z16)) := h17
 rw [ses_same ((W z16).2 h16)] at h17
 refine ⟨fun hn2 => ⟨(W 0).1,kbad (by rw [nt_of h17 hn2]; simp)⟩,fun hn2 => ⟨(W 0).1,fun z18 _ _ h18 => ?_⟩⟩
 have hr := nf_of h17 hn2
 have h16l := ((rightS_iff _).1 hr).1
 have hr18 := (W z18).2 h18
 have hR : reqF (ses z0) (seOf r1) = (match (pruneF (ses z0) (seOf r1).since).findIdx? (fun s => alikeF s (seOf r1)) with
  | some i => reqA (pruneF (ses z0) (seOf r1).since) (seOf r1) i ((pruneF (ses z0) (seOf r1).since).getD i se0)
  | none => reqN (ses z0) (pruneF (ses z0) (seOf r1).since) (seOf r1)) := by
  unfold reqF
  have hd : decide ((seOf r1).wrong <= 0) = true := decide_eq_true (by have := of_decide_eq_false hw; show r1.getD 7 0 <= 0; omega)
  have hd2 : decide ((seOf r1).shown = 1) = false := hs
  rw [hok,hd,hd2,hr]; rfl
 refine ⟨show (rOf z18).length <= 1000000 by rw [hr18]; omega,fun z19 _ _ h19 z20 _ _ z21 _ hz21 h21 => ?_⟩
 have h19 : ses z19 = pruneF (ses z18) (seOf r1).since := h19
 rw [ses_same hr18] at h19
 have hrl := right_prune hr (seOf r1).since
 rw [<- h19] at hR hrl
 have h21 : z21 = ((rOf z19).length : Int) := h21
 have hl19 := ses_len z19
 have hl16 := ((rightS_iff _).1 hrl).1
 refine ⟨ReI z19 (fun s => alikeF s (seOf r1)),RsM z19,⟨0,rfl,Nat.zero_le _,fun j h => absurd h (Nat.not_lt_zero j)⟩,?_⟩
 rintro z23 d0 d1 ⟨i,e,hi,hI⟩
 obtain rfl : z23 = i := by simpa using e
 refine ⟨fun hlt => ?_,fun hge => ?_⟩
 ·have hlt := of_decide_eq_true hlt
  have hil : i < (rOf z19).length := by omega
  refine ⟨⟨by omega,by omega⟩,⟨by omega,by omega⟩,fun z24 _ _ h24 z25 _ _ h25 z26 _ _ h26 z27 _ _ h27 z28 _ _ h28 z29 _ _ h29 z30 _ _ h30 z31 _ _ h31 z32 _ _ h32 z33 _ _ h33 z34 _ _ h34 => ?_⟩
  have hrow := row_se (k := i) rfl hil h24 h25 h26 h27 h28 h29 h30 h31 h32 h33
  have hal : alikeF ((ses z19).getD i se0) (seOf r1) = (decide (sOf z25 = sOf (r1.getD 1 0)) && decide ((sOf z26,sOf z27) = (sOf (r1.getD 2 0),sOf (r1.getD 3 0)))) := by rw [<- hrow]; rfl
  rw [<- eq_dec h34] at hal
  have hstep : alikeF ((ses z19).getD i se0) (seOf r1) = false -> ∀ z37 : Int,0 <= z37 -> z37 <= 1 -> 0 <= ((i : Int) + 9223372036854775809) - 18446744073709551616 * z37 -> ((i : Int) + 9223372036854775809) - 18446744073709551616 * z37 < 18446744073709551616 -> chkD 39 [(((i : Int) + (-18446744073709551616) * z37) + 1),0,9223372036854775807] /\ (ReI z19 (fun s => alikeF s (seOf r1)) [[(((i : Int) + (-18446744073709551616) * z37) + 1)]] /\ RsM z19 [[(((i : Int) + (-18446744073709551616) * z37) + 1)]] < RsM z19 [[(i : Int)]]) := fun hf z37 x0 x1 x2 x3 => by
   refine ⟨⟨by omega,by omega⟩,⟨i + 1,by rw [show ((i : Int) + (-18446744073709551616) * z37) + 1 = ((i + 1 : Nat) : Int) by omega],by omega,fun j hj => ?_⟩,?_⟩
   ·rcases Nat.lt_or_ge j i with h | h
    ·exact hI j h
    ·obtain rfl : j = i := by omega
     exact hf
   ·show (ses z19).length - (((i : Int) + (-18446744073709551616) * z37) + 1).toNat < (ses z19).length - ((i : Int)).toNat; omega
  refine ⟨fun hq z35 _ _ h35 z36 _ _ h36 => ?_,fun hq => hstep (by rw [hal,hq]; rfl)⟩
  rw [pair_dec h35 h36,hq,Bool.true_and] at hal
  refine ⟨fun hp => ?_,fun hp => hstep (by rw [hal,hp])⟩
  rw [hp] at hal
  have hfi := findIdx_at (p := fun s => alikeF s (seOf r1)) (i := i) (by omega) hal hI
  rw [hfi] at hR
  simp only [reqA] at hR
  have hat : ∀ z : Int,z = fnD 21 [z19,(i : Int),5] -> ((ses z19).getD i se0).att = z := fun z h => by rw [ses_get hil,h]; rfl
  have wa : (seOf r1).att = r1.getD 5 0 := rfl
  have ck : chkD 30 [(i : Int),z21] := ⟨by omega,by omega⟩
  have ck2 : ∀ c : Int,(rOf c).length = (rOf z19).length -> chkD 21 [c,(i : Int)] := fun c hc => ⟨by omega,by rw [hc]; omega⟩
  refine ⟨ck,ck2 _ rfl,fun z37 _ _ h37 => ⟨ck,ck2 _ rfl,fun z38 _ _ h38 => ?_⟩⟩
  have e37 := hat z37 h37
  have e38 := hat z38 h38
  rw [e37,wa] at hR
  have fin : ∀ v z39 : Int,v = max z37 (r1.getD 5 0) -> chkD 67 [z19,(i : Int),10] -> z39 = fnD 42 [z19,(i : Int),5,v] -> chkD 30 [(i : Int),z21] /\ chkD 21 [z39,(i : Int)] /\ ∀ z40 : Int,(-9223372036854775808) <= z40 -> z40 <= 9223372036854775807 -> z40 = fnD 21 [z39,(i : Int),0] -> chkD 22 [z39,0,z21] /\ ∀ z41 : Int,0 <= z41 -> z41 <= RB -> z41 = fnD 22 [z39,0,z21] -> KBb SB [rSS,.d (.int .i64 (-9223372036854775808) 9223372036854775807),.d .bool,dE] 412 [[z0],r1] [[z41],[z40],[(cond (decide (z37 < (List.getD r1 5 0))) 1 0)],[0]] := fun v z39 hv hrw h39 => by
   obtain ⟨p1,p2⟩ := put_att (k := i) rfl hil hrw h39
   refine ⟨ck,ck2 _ p2,fun z40 f0 f1 h40 => ⟨(whole_ses (z := z39) (n := z21) (y := 0) (by omega)).1,fun z41 g0 g1 h41 => kk z41 z40 _ 0 g0 g1 f0 f1 (by cases decide (z37 < r1.getD 5 0) <;> decide) (by cases decide (z37 < r1.getD 5 0) <;> decide) (by decide) (by decide) ?_⟩⟩
   have e40 : z40 = ((ses z19).getD i se0).id := by
    have : z40 = ((ses z39).getD i se0).id := by rw [ses_get (by omega),h40]; rfl
    rw [this,p1]; simp [List.getD,show i < (ses z19).length by omega]
   rw [hR,ses_same ((whole_ses (z := z39) (n := z21) (by omega)).2 h41),p1,e40,hv]; rfl
  refine ⟨fun hm => ⟨ck,ck2 _ rfl,fun hrw z39 _ _ h39 => fin _ z39 (by have := of_decide_eq_true hm; omega) hrw h39⟩,fun hm => ⟨ck,ck2 _ rfl,fun hrw z39 _ _ h39 => fin _ z39 (by have := of_decide_eq_false hm; omega) hrw h39⟩⟩
 ·have hge := of_decide_eq_false hge
  rw [findIdx_no (fun j hj => hI j (by omega))] at hR
  simp only [reqN] at hR
  have W9 := fun y => whole_ses (z := z19) (y := y) h21
  refine ⟨(W9 0).1,fun z24 _ _ h24 z25 e0 e1 z26 f0 f1 hS => ?_⟩
  have hS : PlaceN (ses z24) (seOf r1).id z25 z26 := hS
  rw [ses_same ((W9 z24).2 h24)] at hS
  obtain ⟨p1,p2⟩ := place_at hS hrl
  refine ⟨fun hf => ⟨(W 0).1,kno 6 (by decide) (by decide) ?_⟩,fun hf => ?_⟩
  ·obtain ⟨q1,q2,_⟩ := p1 (of_decide_eq_true hf)
   rw [hR,any_at.2 ⟨_,q1,decide_eq_true q2⟩]; rfl
  have hno := p2 (of_decide_eq_false hf)
  rw [any_no (p := fun s => decide (s.id = (seOf r1).id)) (fun j hj => decide_eq_false (hno j hj)),Bool.false_or] at hR
  refine ⟨ReI z19 (fun s => decide (s.tok = (seOf r1).tok)),RsM z19,⟨0,rfl,Nat.zero_le _,fun j h => absurd h (Nat.not_lt_zero j)⟩,?_⟩
  rintro z28 g0 g1 ⟨t,e,ht,hT⟩
  obtain rfl : z28 = t := by simpa using e
  refine ⟨fun hlt => ?_,fun hge2 => ?_⟩
  ·have hlt := of_decide_eq_true hlt
   have htl : t < (rOf z19).length := by omega
   refine ⟨⟨by omega,by omega⟩,⟨by omega,by omega⟩,fun z29 _ _ h29 z30 _ _ h30 z31 _ _ h31 z32 _ _ h32 z33 _ _ h33 z34 _ _ h34 z35 _ _ h35 z36 _ _ h36 z37 _ _ h37 z38 _ _ h38 z39 _ _ h39 => ?_⟩
   have hrow := row_se (k := t) rfl htl h29 h30 h31 h32 h33 h34 h35 h36 h37 h38
   have h39 := eq_dec h39
   have htk : decide (((ses z19).getD t se0).tok = (seOf r1).tok) = decide (z39 = 1) := by rw [h39,<- hrow]; rfl
   refine ⟨fun hq => ⟨(W 0).1,kno 6 (by decide) (by decide) (by rw [hR,any_at.2 ⟨t,by omega,htk.trans hq⟩]; rfl)⟩,fun hq z40 x0 x1 x2 x3 => ⟨⟨by omega,by omega⟩,⟨t + 1,by rw [show ((t : Int) + (-18446744073709551616) * z40) + 1 = ((t + 1 : Nat) : Int) by omega],by omega,fun j hj => ?_⟩,?_⟩⟩
   ·rcases Nat.lt_or_ge j t with h | h
    ·exact hT j h
    ·obtain rfl : j = t := by omega
     exact htk.trans hq
   ·show (ses z19).length - (((t : Int) + (-18446744073709551616) * z40) + 1).toNat < (ses z19).length - ((t : Int)).toNat; omega
  have hge2 := of_decide_eq_false hge2
  rw [any_no (p := fun s => decide (s.tok = (seOf r1).tok)) (fun j hj => hT j (by omega)),cond_false] at hR
  refine ⟨fun h16 => ⟨(W 0).1,kno 10 (by decide) (by decide) ?_⟩,fun h16 => ?_⟩
  ·rw [hR,decide_eq_true (by have := of_decide_eq_true h16; omega)]; rfl
  rw [decide_eq_false (by have := of_decide_eq_false h16; omega),cond_false] at hR
  obtain ⟨⟨s1,s2⟩,s3,s4⟩ := hS
  obtain ⟨k1,k2,k3⟩ := s4 hrl
  have INS : chkD 31 [z19,z21] /\ ∀ z29 : Int,0 <= z29 -> z29 <= 1 -> decide ((List.getD r1 8 0) = 1) = decide (z29 = 1) -> ∀ z30 : Int,0 <= z30 -> z30 <= RB -> z30 = fnD 23 [0,(List.getD r1 0 0),(List.getD r1 1 0),(List.getD r1 2 0),(List.getD r1 3 0),(List.getD r1 4 0),(List.getD r1 5 0),(List.getD r1 6 0),(List.getD r1 7 0),z29,(List.getD r1 9 0)] -> chkD 51 [z19,z25,z30] /\ ∀ z31 : Int,0 <= z31 -> z31 <= RB -> SB 411 [[z19],[z25],[z30]] [[z31]] -> ∀ z32 : Int,(-1) <= z32 -> z32 <= 9223372036854775807 -> ∀ z33 : Int,0 <= z33 -> z33 <= 9223372036854775807 -> z33 = fnD 20 [z31] -> chkD 22 [z31,0,z33] /\ ∀ z34 : Int,0 <= z34 -> z34 <= RB -> z34 = fnD 22 [z31,0,z33] -> KBb SB [rSS,.d (.int .i64 (-9223372036854775808) 9223372036854775807),.d .bool,dE] 412 [[z0],r1] [[z34],[(List.getD r1 0 0)],[(cond (true) 1 0)],[0]] := by
   refine ⟨h21,fun z29 l0 l1 h29 z30 _ _ h30 => ?_⟩
   have h29 := bit_eq hb8.1 hb8.2 l0 l1 h29
   subst h29
   have hr30 : rOf z30 = [r1] := by rw [h30,hr1e]; simp only [fnD,rOf_rc,Go.Rx.rOf_zero,List.nil_append]; rfl
   refine ⟨⟨⟨e0,by omega⟩,by rw [hr30]; rfl,by omega⟩,fun z31 _ _ h31 z32 _ _ z33 _ _ h33 => ?_⟩
   have h31 : rOf z31 = (rOf z19).take z25.toNat ++ rOf z30 ++ (rOf z19).drop z25.toNat := h31
   rw [hr30] at h31
   have h33 : z33 = ((rOf z31).length : Int) := h33
   refine ⟨(whole_ses (z := z31) (y := 0) h33).1,fun z34 m0 m1 h34 => kk z34 _ 1 0 m0 m1 (by rw [hr1e]; exact hid0) (by rw [hr1e]; exact hid1) (by decide) (by decide) (by decide) (by decide) ?_⟩
   have hs : ses z31 = (ses z19).take z25.toNat ++ [seOf r1] ++ (ses z19).drop z25.toNat := by unfold ses; rw [h31]; simp [List.map_take,List.map_drop]
   have hgt : ∀ j,z25.toNat <= j -> j < (ses z19).length -> (seOf r1).id < ((ses z19).getD j se0).id := fun j hj hl => by
    have := k2 j (by omega) hl
    have := hno j hl
    omega
   rw [ses_same ((whole_ses (z := z31) h33).2 h34),hs,hR,fil_take (p := fun s => decide (s.id < (seOf r1).id)) (i := z25.toNat) (by omega) (fun j hj => decide_eq_true (k1 j (by omega))) (fun j hj hl => decide_eq_false (by have := hgt j hj hl; omega)),fil_drop (p := fun s => decide ((seOf r1).id < s.id)) (i := z25.toNat) (by omega) (fun j hj => decide_eq_false (by have := k1 j (by omega); omega)) (fun j hj hl => decide_eq_true (hgt j hj hl))]
   simp only [List.append_assoc,List.singleton_append]
   rfl
  repeat' (first | exact INS | refine ⟨?_,?_⟩)
end Go.Ad
set_option maxRecDepth 100000
set_option linter.unusedVariables false
set_option linter.unusedSimpArgs false
namespace Go.Ad
open Go Go.Rx
def B_sask (S : Nat -> List (List Int) -> List (List Int) -> Prop) (K : List (List Int) -> List (List Int) -> Prop) : Prop :=
 K [] [[5,116,477315081741,437051401625,117,1,100,0,(cond (false) 1 0),0]]
def B_salive (S : Nat -> List (List Int) -> List (List Int) -> Prop) (K : List (List Int) -> List (List Int) -> Prop) : Prop :=
 ∀ r0 : List Int,inB [((-9223372036854775808),9223372036854775807),(0,HB),(0,HB),(0,HB),(0,HB),((-9223372036854775808),9223372036854775807),((-9223372036854775808),9223372036854775807),((-9223372036854775808),9223372036854775807),(0,1),((-9223372036854775808),9223372036854775807)] r0 -> S 418 [] [r0] ->
 ∀ z10 : Int,0 <= z10 -> z10 <= 1 -> decide ((List.getD r0 8 0) = 1) = decide (z10 = 1) ->
 ∀ z11 : Int,0 <= z11 -> z11 <= RB -> ∀ z12 : Int,(-9223372036854775808) <= z12 -> z12 <= 9223372036854775807 -> ∀ z13 : Int,0 <= z13 -> z13 <= 1 -> ∀ z14 : Int,0 <= z14 -> z14 <= 21 -> S 412 [[0],[(List.getD r0 0 0),(List.getD r0 1 0),(List.getD r0 2 0),(List.getD r0 3 0),(List.getD r0 4 0),(List.getD r0 5 0),(List.getD r0 6 0),(List.getD r0 7 0),z10,(List.getD r0 9 0)]] [[z11],[z12],[z13],[z14]] ->
 ∀ z15 : Int,0 <= z15 ->
 ∀ z16 : Int,(-1) <= z16 -> z16 <= 9223372036854775807 ->
 ∀ z17 : Int,0 <= z17 -> z17 <= 9223372036854775807 -> z17 = fnD 20 [z11] ->
 ∀ r18 : List Int,inB [((-9223372036854775808),9223372036854775807),(0,HB),(0,HB),(0,HB),(0,HB),((-9223372036854775808),9223372036854775807),((-9223372036854775808),9223372036854775807),((-9223372036854775808),9223372036854775807),(0,1),((-9223372036854775808),9223372036854775807)] r18 -> S 418 [] [r18] ->
 chkD 22 [z11,0,z17] /\
 ∀ z28 : Int,0 <= z28 -> z28 <= RB -> z28 = fnD 22 [z11,0,z17] ->
 ∀ z29 : Int,0 <= z29 -> z29 <= 1 -> decide ((List.getD r18 8 0) = 1) = decide (z29 = 1) ->
 ∀ z30 : Int,0 <= z30 -> z30 <= RB -> ∀ z31 : Int,0 <= z31 -> z31 <= 21 -> S 408 [[z28],[200],[(List.getD r18 0 0),(List.getD r18 1 0),(List.getD r18 2 0),(List.getD r18 3 0),(List.getD r18 4 0),(List.getD r18 5 0),(List.getD r18 6 0),(List.getD r18 7 0),z29,(List.getD r18 9 0)]] [[z30],[z31]] ->
 ∀ z32 : Int,0 <= z32 ->
 ∀ z33 : Int,(-1) <= z33 -> z33 <= 9223372036854775807 ->
 ∀ z34 : Int,0 <= z34 -> z34 <= 9223372036854775807 -> z34 = fnD 20 [z30] ->
 ∀ r35 : List Int,inB [((-9223372036854775808),9223372036854775807),(0,HB),(0,HB),(0,HB),(0,HB),((-9223372036854775808),9223372036854775807),((-9223372036854775808),9223372036854775807),((-9223372036854775808),9223372036854775807),(0,1),((-9223372036854775808),9223372036854775807)] r35 -> S 418 [] [r35] ->
 chkD 22 [z30,0,z34] /\
 ∀ z45 : Int,0 <= z45 -> z45 <= RB -> z45 = fnD 22 [z30,0,z34] ->
 ∀ z46 : Int,0 <= z46 -> z46 <= 1 -> decide ((List.getD r35 8 0) = 1) = decide (z46 = 1) ->
 ∀ r47 : List Int,inB (repB 0 HB 2) r47 -> ∀ z49 : Int,0 <= z49 -> z49 <= 21 -> S 407 [[z45],[300],[(List.getD r35 0 0),(List.getD r35 1 0),(List.getD r35 2 0),(List.getD r35 3 0),(List.getD r35 4 0),(List.getD r35 5 0),(List.getD r35 6 0),(List.getD r35 7 0),z46,(List.getD r35 9 0)]] [r47,[z49]] ->
 ∀ r50 : List Int,inB [((-9223372036854775808),9223372036854775807),(0,HB),(0,HB),(0,HB),(0,HB),((-9223372036854775808),9223372036854775807),((-9223372036854775808),9223372036854775807),((-9223372036854775808),9223372036854775807),(0,1),((-9223372036854775808),9223372036854775807)] r50 -> S 418 [] [r50] ->
 chkD 22 [z11,0,z17] /\
 ∀ z60 : Int,0 <= z60 -> z60 <= RB -> z60 = fnD 22 [z11,0,z17] ->
 ∀ z61 : Int,0 <= z61 -> z61 <= 1 -> decide ((List.getD r50 8 0) = 1) = decide (z61 = 1) ->
 ∀ r62 : List Int,inB (repB 0 HB 2) r62 -> ∀ z64 : Int,0 <= z64 -> z64 <= 21 -> S 407 [[z60],[300],[(List.getD r50 0 0),(List.getD r50 1 0),(List.getD r50 2 0),(List.getD r50 3 0),(List.getD r50 4 0),(List.getD r50 5 0),(List.getD r50 6 0),(List.getD r50 7 0),z61,(List.getD r50 9 0)]] [r62,[z64]] ->
 (((decide (z14 = 0)) = true ->
  (((decide (z31 = 0)) = true ->
   (((decide (z49 = 0)) = true ->
    (((decide (z64 = 14)) = true ->
     (((decide (z12 = 5)) = true ->
      (((decide (z13 = 1)) = true ->
       ∀ r65 : List Int,inB [((-9223372036854775808),9223372036854775807),(0,HB),(0,HB),(0,HB),(0,HB),((-9223372036854775808),9223372036854775807),((-9223372036854775808),9223372036854775807),((-9223372036854775808),9223372036854775807),(0,1),((-9223372036854775808),9223372036854775807)] r65 -> S 418 [] [r65] ->
       ∀ z75 : Int,0 <= z75 -> z75 <= 1 -> z75 = fnD 4 [(List.getD r47 0 0),(List.getD r65 2 0)] ->
       ∀ z76 : Int,0 <= z76 -> z76 <= 1 -> z76 = fnD 4 [(List.getD r47 1 0),(List.getD r65 3 0)] ->
       K [] [[(cond (decide ([z75,z76] = [1,1])) 1 0)]]
      ) /\ ((decide (z13 = 1)) = false ->
       K [] [[(cond (false) 1 0)]]
      ))
     ) /\ ((decide (z12 = 5)) = false ->
      K [] [[(cond (false) 1 0)]]
     ))
    ) /\ ((decide (z64 = 14)) = false ->
     K [] [[(cond (false) 1 0)]]
    ))
   ) /\ ((decide (z49 = 0)) = false ->
    K [] [[(cond (false) 1 0)]]
   ))
  ) /\ ((decide (z31 = 0)) = false ->
   K [] [[(cond (false) 1 0)]]
  ))
 ) /\ ((decide (z14 = 0)) = false ->
  K [] [[(cond (false) 1 0)]]
 ))
def B_ySame (S : Nat -> List (List Int) -> List (List Int) -> Prop) (K : List (List Int) -> List (List Int) -> Prop) : Prop :=
 ∀ z0 : Int,0 <= z0 -> z0 <= RB -> ∀ z1 : Int,0 <= z1 -> z1 <= RB ->
 ∀ z2 : Int,0 <= z2 ->
 ∀ z3 : Int,(-1) <= z3 -> z3 <= 9223372036854775807 ->
 ∀ z4 : Int,0 <= z4 -> z4 <= 9223372036854775807 -> z4 = fnD 20 [z0] ->
 ∀ z5 : Int,0 <= z5 ->
 ∀ z6 : Int,(-1) <= z6 -> z6 <= 9223372036854775807 ->
 ∀ z7 : Int,0 <= z7 -> z7 <= 9223372036854775807 -> z7 = fnD 20 [z1] ->
 ((((!(decide (z4 = z7)))) = true ->
  K [[z0],[z1]] [[(cond (false) 1 0)]]
 ) /\ (((!(decide (z4 = z7)))) = false ->
  ∃ (I8 : List (List Int) -> Prop) (μ8 : List (List Int) -> Nat),I8 [[0]] /\ (∀ z9 : Int,0 <= z9 -> z9 <= 9223372036854775807 -> I8 [[z9]] ->
   (((decide (z9 < z4)) = true ->
    chkD 30 [z9,z4] /\
    chkD 21 [z0,z9] /\
    ∀ z10 : Int,(-9223372036854775808) <= z10 -> z10 <= 9223372036854775807 -> z10 = fnD 21 [z0,z9,0] ->
    ∀ z11 : Int,0 <= z11 -> z11 <= HB -> z11 = fnD 21 [z0,z9,1] ->
    ∀ z12 : Int,0 <= z12 -> z12 <= HB -> z12 = fnD 21 [z0,z9,2] ->
    ∀ z13 : Int,0 <= z13 -> z13 <= HB -> z13 = fnD 21 [z0,z9,3] ->
    ∀ z14 : Int,0 <= z14 -> z14 <= HB -> z14 = fnD 21 [z0,z9,4] ->
    ∀ z15 : Int,(-9223372036854775808) <= z15 -> z15 <= 9223372036854775807 -> z15 = fnD 21 [z0,z9,5] ->
    ∀ z16 : Int,(-9223372036854775808) <= z16 -> z16 <= 9223372036854775807 -> z16 = fnD 21 [z0,z9,6] ->
    ∀ z17 : Int,(-9223372036854775808) <= z17 -> z17 <= 9223372036854775807 -> z17 = fnD 21 [z0,z9,7] ->
    ∀ z18 : Int,0 <= z18 -> z18 <= 1 -> z18 = fnD 21 [z0,z9,8] ->
    ∀ z19 : Int,(-9223372036854775808) <= z19 -> z19 <= 9223372036854775807 -> z19 = fnD 21 [z0,z9,9] ->
    chkD 30 [z9,z7] /\
    chkD 21 [z1,z9] /\
    ∀ z20 : Int,(-9223372036854775808) <= z20 -> z20 <= 9223372036854775807 -> z20 = fnD 21 [z1,z9,0] ->
    ∀ z21 : Int,0 <= z21 -> z21 <= HB -> z21 = fnD 21 [z1,z9,1] ->
    ∀ z22 : Int,0 <= z22 -> z22 <= HB -> z22 = fnD 21 [z1,z9,2] ->
    ∀ z23 : Int,0 <= z23 -> z23 <= HB -> z23 = fnD 21 [z1,z9,3] ->
    ∀ z24 : Int,0 <= z24 -> z24 <= HB -> z24 = fnD 21 [z1,z9,4] ->
    ∀ z25 : Int,(-9223372036854775808) <= z25 -> z25 <= 9223372036854775807 -> z25 = fnD 21 [z1,z9,5] ->
    ∀ z26 : Int,(-9223372036854775808) <= z26 -> z26 <= 9223372036854775807 -> z26 = fnD 21 [z1,z9,6] ->
    ∀ z27 : Int,(-9223372036854775808) <= z27 -> z27 <= 9223372036854775807 -> z27 = fnD 21 [z1,z9,7] ->
    ∀ z28 : Int,0 <= z28 -> z28 <= 1 -> z28 = fnD 21 [z1,z9,8] ->
    ∀ z29 : Int,(-9223372036854775808) <= z29 -> z29 <= 9223372036854775807 -> z29 = fnD 21 [z1,z9,9] ->
    ∀ z30 : Int,0 <= z30 -> z30 <= 1 -> z30 = fnD 4 [z11,z21] ->
    ∀ z31 : Int,0 <= z31 -> z31 <= 1 -> z31 = fnD 4 [z12,z22] ->
    ∀ z32 : Int,0 <= z32 -> z32 <= 1 -> z32 = fnD 4 [z13,z23] ->
    ∀ z33 : Int,0 <= z33 -> z33 <= 1 -> z33 = fnD 4 [z14,z24] ->
    ((((!(((decide (z10 = z20)) && (((decide (z30 = 1)) && (((decide ([z31,z32] = [1,1])) && (((decide (z33 = 1)) && (((decide (z15 = z25)) && (((decide (z16 = z26)) && (((decide (z17 = z27)) && (((((decide (z18 = 1)) == (decide (z28 = 1)))) && (decide (z19 = z29)))))))))))))))))))) = true ->
     K [[z0],[z1]] [[(cond (false) 1 0)]]
    ) /\ (((!(((decide (z10 = z20)) && (((decide (z30 = 1)) && (((decide ([z31,z32] = [1,1])) && (((decide (z33 = 1)) && (((decide (z15 = z25)) && (((decide (z16 = z26)) && (((decide (z17 = z27)) && (((((decide (z18 = 1)) == (decide (z28 = 1)))) && (decide (z19 = z29)))))))))))))))))))) = false ->
     ∀ z34 : Int,0 <= z34 -> z34 <= 1 -> 0 <= (z9 + 9223372036854775809) - 18446744073709551616 * z34 -> (z9 + 9223372036854775809) - 18446744073709551616 * z34 < 18446744073709551616 ->
     chkD 39 [((z9 + ((-18446744073709551616) * z34)) + 1),0,9223372036854775807] /\
     (I8 [[((z9 + ((-18446744073709551616) * z34)) + 1)]] /\ μ8 [[((z9 + ((-18446744073709551616) * z34)) + 1)]] < μ8 [[z9]])
    ))
   ) /\ ((decide (z9 < z4)) = false ->
    K [[z0],[z1]] [[(cond (true) 1 0)]]
   ))
  )
 ))
abbrev mSS : D := .mix [.int .i64 (-9223372036854775808) 9223372036854775807,.str,.str,.str,.str,.int .i64 (-9223372036854775808) 9223372036854775807,.int .i64 (-9223372036854775808) 9223372036854775807,.int .i64 (-9223372036854775808) 9223372036854775807,.bool,.int .i64 (-9223372036854775808) 9223372036854775807]
theorem hb_lit {c : Int} {l : List UInt8} (h : cOf l = c) (hl : l.length <= mxL) : c <= HB := h ▸ HB_c hl
theorem p_sask : B_sask SB (KBv SB [mSS] 418) := ⟨by
 refine ⟨by decide,by decide,by decide,hb_lit (l := [115]) (by decide +kernel) (by decide),by decide,hb_lit (l := [101,109,97,105,108]) (by decide +kernel) (by decide),by decide,hb_lit (l := [97,64,98,46,99]) (by decide +kernel) (by decide),by decide,hb_lit (l := [116]) (by decide +kernel) (by decide),by decide,by decide,by decide,by decide,by decide,by decide,by decide,by decide,by decide,by decide,trivial⟩,rfl⟩
theorem ses_zero : ses 0 = [] := by unfold ses; rw [Go.Rx.rOf_zero]; rfl
def aS : Se := ⟨5,[115],([101,109,97,105,108],[97,64,98,46,99]),[116],1,100,0,0,0⟩
theorem ask_se : seOf ask0 = aS := by decide +kernel
theorem ask_bit {z : Int} (h0 : 0 <= z) (h1 : z <= 1) (h : decide (ask0.getD 8 0 = 1) = decide (z = 1)) : z = 0 := bit_eq (a := 0) (by decide) (by decide) h0 h1 h
theorem p_salive : B_salive SB (KBb SB [.d .bool] 413) := by
 have kk : ∀ b : Bool,b = true -> KBb SB [.d .bool] 413 [] [[cond b 1 0]] := fun b h => by subst h; exact ⟨⟨by decide,by decide,trivial⟩,rfl⟩
 intro r0 _ hr0 z10 c0 c1 h10 z11 _ _ z12 _ _ z13 _ _ z14 _ _ hA z15 _ z16 _ _ z17 _ _ h17
 have hr0 : r0 = ask0 := hr0
 subst hr0
 have h10 := ask_bit c0 c1 h10
 subst h10
 have hA : (ses z11,z12,z13,z14) = reqF (ses 0) (seOf ask0) := hA
 rw [ses_zero,ask_se,show reqF [] aS = ([aS],5,1,0) by decide +kernel] at hA
 simp only [Prod.mk.injEq] at hA
 obtain ⟨a1,a2,a3,a4⟩ := hA
 have W := fun y => whole_ses (z := z11) (y := y) h17
 intro r18 _ hr18
 have hr18 : r18 = ask0 := hr18
 subst hr18
 refine ⟨(W 0).1,fun z28 _ _ h28 z29 d0 d1 h29 z30 _ _ z31 _ _ hB z32 _ z33 _ _ z34 _ _ h34 => ?_⟩
 have h29 := ask_bit d0 d1 h29
 subst h29
 have hB : (ses z30,z31) = submitF (ses z28) 200 (seOf ask0) := hB
 rw [ses_same ((W z28).2 h28),a1,ask_se,show submitF [aS] 200 aS = ([{ aS with shown := 1,shAt := 200 }],0) by decide +kernel] at hB
 simp only [Prod.mk.injEq] at hB
 obtain ⟨b1,b2⟩ := hB
 have V := fun y => whole_ses (z := z30) (y := y) h34
 intro r35 _ hr35
 have hr35 : r35 = ask0 := hr35
 subst hr35
 refine ⟨(V 0).1,fun z45 _ _ h45 z46 e0 e1 h46 r47 _ z49 _ _ hC r50 _ hr50 => ?_⟩
 have h46 := ask_bit e0 e1 h46
 subst h46
 have hr50 : r50 = ask0 := hr50
 subst hr50
 have hC : (whoOf r47,z49) = shownF (ses z45) 300 (seOf ask0) := hC
 rw [ses_same ((V z45).2 h45),b1,ask_se,show shownF [{ aS with shown := 1,shAt := 200 }] 300 aS = (aS.who,0) by decide +kernel] at hC
 simp only [Prod.mk.injEq] at hC
 obtain ⟨c1,c2⟩ := hC
 refine ⟨(W 0).1,fun z60 _ _ h60 z61 f0 f1 h61 r62 _ z64 _ _ hD => ?_⟩
 have h61 := ask_bit f0 f1 h61
 subst h61
 have hD : (whoOf r62,z64) = shownF (ses z60) 300 (seOf ask0) := hD
 rw [ses_same ((W z60).2 h60),a1,ask_se,show shownF [aS] 300 aS = (([],[]),14) by decide +kernel] at hD
 simp only [Prod.mk.injEq] at hD
 obtain ⟨d1',d2'⟩ := hD
 refine ⟨fun _ => ⟨fun _ => ⟨fun _ => ⟨fun _ => ⟨fun _ => ⟨fun _ r65 _ hr65 z75 _ _ h75 z76 _ _ h76 => kk _ ?_,fun h => absurd a3 (of_decide_eq_false h)⟩,fun h => absurd a2 (of_decide_eq_false h)⟩,fun h => absurd d2' (of_decide_eq_false h)⟩,fun h => absurd c2 (of_decide_eq_false h)⟩,fun h => absurd b2 (of_decide_eq_false h)⟩,fun h => absurd a4 (of_decide_eq_false h)⟩
 have hr65 : r65 = ask0 := hr65
 subst hr65
 rw [<- pair_dec h75 h76]
 refine decide_eq_true ?_
 show whoOf r47 = (seOf ask0).who
 rw [c1,ask_se]
theorem se_dec {a0 a1 a2 a3 a4 a5 a6 a7 a8 a9 b0 b1 b2 b3 b4 b5 b6 b7 b8 b9 q1 q2 q3 q4 : Int} (h1 : q1 = fnD 4 [a1,b1]) (h2 : q2 = fnD 4 [a2,b2]) (h3 : q3 = fnD 4 [a3,b3]) (h4 : q4 = fnD 4 [a4,b4]) (ha : 0 <= a8 /\ a8 <= 1) (hb : 0 <= b8 /\ b8 <= 1) :
 (decide (a0 = b0) && (decide (q1 = 1) && (decide ([q2,q3] = [1,1]) && (decide (q4 = 1) && (decide (a5 = b5) && (decide (a6 = b6) && (decide (a7 = b7) && ((decide (a8 = 1) == decide (b8 = 1)) && decide (a9 = b9))))))))) = decide (seOf [a0,a1,a2,a3,a4,a5,a6,a7,a8,a9] = seOf [b0,b1,b2,b3,b4,b5,b6,b7,b8,b9]) := by
 rw [eq_dec h1,eq_dec h4,<- pair_dec h2 h3,Bool.eq_iff_iff]
 have hbit : (decide (a8 = 1) == decide (b8 = 1)) = decide (a8 = b8) := by
  rw [Bool.eq_iff_iff,beq_iff_eq,decide_eq_true_eq]
  constructor
  ·intro h; exact (bit_eq ha.1 ha.2 hb.1 hb.2 h).symm
  ·intro h; rw [h]
 rw [hbit]
 have e : ∀ x0 x1 x2 x3 x4 x5 x6 x7 x8 x9 : Int,seOf [x0,x1,x2,x3,x4,x5,x6,x7,x8,x9] = ⟨x0,sOf x1,(sOf x2,sOf x3),sOf x4,x5,x6,x7,x8,x9⟩ := fun _ _ _ _ _ _ _ _ _ _ => rfl
 rw [e,e]
 simp only [Bool.and_eq_true,decide_eq_true_eq,Se.mk.injEq]
def SaI (z0 z1 : Int) (bl : List (List Int)) : Prop := ∃ i : Nat,bl = [[(i : Int)]] /\ i <= (ses z0).length /\ ∀ j,j < i -> (ses z0).getD j se0 = (ses z1).getD j se0
theorem p_ySame : B_ySame SB (KBb SB [.d .bool] 416) := by
 intro z0 a0 a1 z1 b0 b1 z2 _ z3 _ _ z4 _ c1 h4 z5 _ z6 _ _ z7 _ _ h7
 have h4 : z4 = ((rOf z0).length : Int) := h4
 have h7 : z7 = ((rOf z1).length : Int) := h7
 have hlen := ses_len z0
 have hlen1 := ses_len z1
 have kk : ∀ b : Bool,decide (ses z0 = ses z1) = b -> KBb SB [.d .bool] 416 [[z0],[z1]] [[cond b 1 0]] := fun b h => ⟨by cases b <;> exact ⟨by decide,by decide,trivial⟩,by show cond b (1 : Int) 0 = b01 (decide (ses z0 = ses z1)); rw [h]; rfl⟩
 refine ⟨fun hn => kk false (decide_eq_false fun h => ?_),fun hn => ?_⟩
 ·have := of_decide_eq_false (bnot_t hn)
  have := congrArg List.length h
  omega
 have hnn := of_decide_eq_true (bnot_f hn)
 refine ⟨SaI z0 z1,RsM z0,⟨0,rfl,Nat.zero_le _,fun j h => absurd h (Nat.not_lt_zero j)⟩,?_⟩
 rintro z9 d0 d1 ⟨i,e,hi,hI⟩
 obtain rfl : z9 = i := by simpa using e
 refine ⟨fun hlt => ?_,fun hge => kk true (decide_eq_true ?_)⟩
 rotate_left
 ·have := of_decide_eq_false hge
  refine List.ext_getElem (by omega) fun j h1 h2 => ?_
  have := hI j (by omega)
  simpa [List.getD,h1,h2] using this
 have hlt := of_decide_eq_true hlt
 have hil : i < (rOf z0).length := by omega
 refine ⟨⟨by omega,by omega⟩,⟨by omega,by omega⟩,fun z10 _ _ h10 z11 _ _ h11 z12 _ _ h12 z13 _ _ h13 z14 _ _ h14 z15 _ _ h15 z16 _ _ h16 z17 _ _ h17 z18 e0 e1 h18 z19 _ _ h19 => ⟨⟨by omega,by omega⟩,⟨by omega,by omega⟩,fun z20 _ _ h20 z21 _ _ h21 z22 _ _ h22 z23 _ _ h23 z24 _ _ h24 z25 _ _ h25 z26 _ _ h26 z27 _ _ h27 z28 f0 f1 h28 z29 _ _ h29 z30 _ _ h30 z31 _ _ h31 z32 _ _ h32 z33 _ _ h33 => ?_⟩⟩
 have hd := se_dec (a0 := z10) (b0 := z20) (a5 := z15) (b5 := z25) (a6 := z16) (b6 := z26) (a7 := z17) (b7 := z27) (a8 := z18) (b8 := z28) (a9 := z19) (b9 := z29) h30 h31 h32 h33 ⟨e0,e1⟩ ⟨f0,f1⟩
 rw [row_se (k := i) rfl hil h10 h11 h12 h13 h14 h15 h16 h17 h18 h19,row_se (z0 := z1) (k := i) rfl (by omega) h20 h21 h22 h23 h24 h25 h26 h27 h28 h29] at hd
 refine ⟨fun hq => kk false (decide_eq_false fun h => ?_),fun hq z34 x0 x1 x2 x3 => ⟨⟨by omega,by omega⟩,⟨i + 1,by rw [show ((i : Int) + (-18446744073709551616) * z34) + 1 = ((i + 1 : Nat) : Int) by omega],by omega,fun j hj => ?_⟩,?_⟩⟩
 ·have := bnot_t hq
  rw [hd,h] at this
  exact of_decide_eq_false this rfl
 ·rcases Nat.lt_or_ge j i with h | h
  ·exact hI j h
  ·obtain rfl : j = i := by omega
   exact of_decide_eq_true (hd.symm.trans (bnot_f hq))
 ·show (ses z0).length - (((i : Int) + (-18446744073709551616) * z34) + 1).toNat < (ses z0).length - ((i : Int)).toNat; omega
end Go.Ad
