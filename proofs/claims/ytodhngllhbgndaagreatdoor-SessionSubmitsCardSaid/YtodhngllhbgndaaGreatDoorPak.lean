/- Pak: a part of the proof of statements of this seat. -/
import Derived.Test.YtodhngllhbgndaaGreatDoorPaj
set_option maxRecDepth 100000
set_option linter.unusedVariables false
set_option linter.unusedSimpArgs false
namespace Go.Ad
open Go Go.Rx
def B_xsec (S : Nat -> List (List Int) -> List (List Int) -> Prop) (K : List (List Int) -> List (List Int) -> Prop) : Prop :=
 ∀ z0 : Int,0 <= z0 -> z0 <= HB ->
 ∃ (I1 : List (List Int) -> Prop) (μ1 : List (List Int) -> Nat),I1 [[0]] /\ (∀ z2 : Int,0 <= z2 -> z2 <= 9223372036854775807 -> I1 [[z2]] ->
  ∀ z3 : Int,0 <= z3 -> z3 <= 9223372036854775807 -> z3 = fnD 0 [z0] ->
  (((decide (z2 < z3)) = true ->
   chkD 1 [z0,z2] /\
   ∀ z4 : Int,0 <= z4 -> z4 <= 255 -> z4 = fnD 1 [z0,z2] ->
   (((decide (z4 < 33)) = true ->
    K [[z0]] [[(cond (false) 1 0)]]
   ) /\ ((decide (z4 < 33)) = false ->
    chkD 1 [z0,z2] /\
    ∀ z5 : Int,0 <= z5 -> z5 <= 255 -> z5 = fnD 1 [z0,z2] ->
    (((decide (126 < z5)) = true ->
     K [[z0]] [[(cond (false) 1 0)]]
    ) /\ ((decide (126 < z5)) = false ->
     ∀ z6 : Int,0 <= z6 -> z6 <= 1 -> 0 <= (z2 + 9223372036854775809) - 18446744073709551616 * z6 -> (z2 + 9223372036854775809) - 18446744073709551616 * z6 < 18446744073709551616 ->
     chkD 39 [((z2 + ((-18446744073709551616) * z6)) + 1),0,9223372036854775807] /\
     (I1 [[((z2 + ((-18446744073709551616) * z6)) + 1)]] /\ μ1 [[((z2 + ((-18446744073709551616) * z6)) + 1)]] < μ1 [[z2]])
    ))
   ))
  ) /\ ((decide (z2 < z3)) = false ->
   ∀ z4 : Int,0 <= z4 -> z4 <= 9223372036854775807 -> z4 = fnD 0 [z0] ->
   (((decide (1 <= z4)) = true ->
    ∀ z5 : Int,0 <= z5 -> z5 <= 9223372036854775807 -> z5 = fnD 0 [z0] ->
    K [[z0]] [[(cond (decide (z5 <= 64)) 1 0)]]
   ) /\ ((decide (1 <= z4)) = false ->
    K [[z0]] [[(cond (false) 1 0)]]
   ))
  ))
 )
def B_xsr (S : Nat -> List (List Int) -> List (List Int) -> Prop) (K : List (List Int) -> List (List Int) -> Prop) : Prop :=
 ∀ r0 : List Int,inB [((-9223372036854775808),9223372036854775807),(0,HB),(0,HB),(0,HB),(0,HB),((-9223372036854775808),9223372036854775807),((-9223372036854775808),9223372036854775807),((-9223372036854775808),9223372036854775807),(0,1),((-9223372036854775808),9223372036854775807)] r0 ->
 (((decide (1 <= (List.getD r0 0 0))) = true ->
  (((decide ((List.getD r0 0 0) <= 1099511627776)) = true ->
   ∀ z10 : Int,0 <= z10 -> z10 <= 1 -> S 420 [[(List.getD r0 1 0)]] [[z10]] ->
   (((decide (z10 = 1)) = true ->
    ∀ z11 : Int,0 <= z11 -> z11 <= 1 -> S 420 [[(List.getD r0 4 0)]] [[z11]] ->
    (((decide (z11 = 1)) = true ->
     ∀ z12 : Int,0 <= z12 -> z12 <= 1 -> S 19 [[(List.getD r0 2 0),(List.getD r0 3 0)]] [[z12]] ->
     (((decide (z12 = 1)) = true ->
      (((decide (1 <= (List.getD r0 5 0))) = true ->
       (((decide ((List.getD r0 5 0) <= 1000)) = true ->
        (((decide (0 <= (List.getD r0 6 0))) = true ->
         (((decide ((List.getD r0 6 0) <= 1099511627776)) = true ->
          (((decide (0 <= (List.getD r0 9 0))) = true ->
           (((decide ((List.getD r0 9 0) <= 1099511627776)) = true ->
            (((decide (0 <= (List.getD r0 7 0))) = true ->
             (((decide ((List.getD r0 7 0) <= 3)) = true ->
              (((decide ((List.getD r0 8 0) = 1)) = true ->
               K [r0] [[(cond (true) 1 0)]]
              ) /\ ((decide ((List.getD r0 8 0) = 1)) = false ->
               K [r0] [[(cond (decide ((List.getD r0 9 0) = 0)) 1 0)]]
              ))
             ) /\ ((decide ((List.getD r0 7 0) <= 3)) = false ->
              K [r0] [[(cond (false) 1 0)]]
             ))
            ) /\ ((decide (0 <= (List.getD r0 7 0))) = false ->
             K [r0] [[(cond (false) 1 0)]]
            ))
           ) /\ ((decide ((List.getD r0 9 0) <= 1099511627776)) = false ->
            K [r0] [[(cond (false) 1 0)]]
           ))
          ) /\ ((decide (0 <= (List.getD r0 9 0))) = false ->
           K [r0] [[(cond (false) 1 0)]]
          ))
         ) /\ ((decide ((List.getD r0 6 0) <= 1099511627776)) = false ->
          K [r0] [[(cond (false) 1 0)]]
         ))
        ) /\ ((decide (0 <= (List.getD r0 6 0))) = false ->
         K [r0] [[(cond (false) 1 0)]]
        ))
       ) /\ ((decide ((List.getD r0 5 0) <= 1000)) = false ->
        K [r0] [[(cond (false) 1 0)]]
       ))
      ) /\ ((decide (1 <= (List.getD r0 5 0))) = false ->
       K [r0] [[(cond (false) 1 0)]]
      ))
     ) /\ ((decide (z12 = 1)) = false ->
      K [r0] [[(cond (false) 1 0)]]
     ))
    ) /\ ((decide (z11 = 1)) = false ->
     K [r0] [[(cond (false) 1 0)]]
    ))
   ) /\ ((decide (z10 = 1)) = false ->
    K [r0] [[(cond (false) 1 0)]]
   ))
  ) /\ ((decide ((List.getD r0 0 0) <= 1099511627776)) = false ->
   K [r0] [[(cond (false) 1 0)]]
  ))
 ) /\ ((decide (1 <= (List.getD r0 0 0))) = false ->
  K [r0] [[(cond (false) 1 0)]]
 ))
def B_xsR (S : Nat -> List (List Int) -> List (List Int) -> Prop) (K : List (List Int) -> List (List Int) -> Prop) : Prop :=
 ∀ z0 : Int,0 <= z0 -> z0 <= RB ->
 ∀ z1 : Int,0 <= z1 ->
 ∀ z2 : Int,(-1) <= z2 -> z2 <= 9223372036854775807 ->
 ∀ z3 : Int,0 <= z3 -> z3 <= 9223372036854775807 -> z3 = fnD 20 [z0] ->
 (((decide (16 < z3)) = true ->
  K [[z0]] [[(cond (false) 1 0)]]
 ) /\ ((decide (16 < z3)) = false ->
  ∃ (I4 : List (List Int) -> Prop) (μ4 : List (List Int) -> Nat),I4 [[0]] /\ (∀ z5 : Int,0 <= z5 -> z5 <= 9223372036854775807 -> I4 [[z5]] ->
   (((decide (z5 < z3)) = true ->
    chkD 30 [z5,z3] /\
    chkD 21 [z0,z5] /\
    ∀ z6 : Int,(-9223372036854775808) <= z6 -> z6 <= 9223372036854775807 -> z6 = fnD 21 [z0,z5,0] ->
    ∀ z7 : Int,0 <= z7 -> z7 <= HB -> z7 = fnD 21 [z0,z5,1] ->
    ∀ z8 : Int,0 <= z8 -> z8 <= HB -> z8 = fnD 21 [z0,z5,2] ->
    ∀ z9 : Int,0 <= z9 -> z9 <= HB -> z9 = fnD 21 [z0,z5,3] ->
    ∀ z10 : Int,0 <= z10 -> z10 <= HB -> z10 = fnD 21 [z0,z5,4] ->
    ∀ z11 : Int,(-9223372036854775808) <= z11 -> z11 <= 9223372036854775807 -> z11 = fnD 21 [z0,z5,5] ->
    ∀ z12 : Int,(-9223372036854775808) <= z12 -> z12 <= 9223372036854775807 -> z12 = fnD 21 [z0,z5,6] ->
    ∀ z13 : Int,(-9223372036854775808) <= z13 -> z13 <= 9223372036854775807 -> z13 = fnD 21 [z0,z5,7] ->
    ∀ z14 : Int,0 <= z14 -> z14 <= 1 -> z14 = fnD 21 [z0,z5,8] ->
    ∀ z15 : Int,(-9223372036854775808) <= z15 -> z15 <= 9223372036854775807 -> z15 = fnD 21 [z0,z5,9] ->
    ∀ z16 : Int,0 <= z16 -> z16 <= 1 -> decide (z14 = 1) = decide (z16 = 1) ->
    ∀ z17 : Int,0 <= z17 -> z17 <= 1 -> S 422 [[z6,z7,z8,z9,z10,z11,z12,z13,z16,z15]] [[z17]] ->
    ((((!(decide (z17 = 1)))) = true ->
     K [[z0]] [[(cond (false) 1 0)]]
    ) /\ (((!(decide (z17 = 1)))) = false ->
     (((decide (0 < z5)) = true ->
      chkD 30 [(z5 + (-1)),z3] /\
      chkD 21 [z0,(z5 + (-1))] /\
      ∀ z18 : Int,(-9223372036854775808) <= z18 -> z18 <= 9223372036854775807 -> z18 = fnD 21 [z0,(z5 + (-1)),0] ->
      chkD 30 [z5,z3] /\
      chkD 21 [z0,z5] /\
      ∀ z19 : Int,(-9223372036854775808) <= z19 -> z19 <= 9223372036854775807 -> z19 = fnD 21 [z0,z5,0] ->
      (((decide (z19 <= z18)) = true ->
       K [[z0]] [[(cond (false) 1 0)]]
      ) /\ ((decide (z19 <= z18)) = false ->
       ∃ (I20 : List (List Int) -> Prop) (μ20 : List (List Int) -> Nat),I20 [[0]] /\ (∀ z21 : Int,0 <= z21 -> z21 <= 9223372036854775807 -> I20 [[z21]] ->
        (((decide (z21 < z5)) = true ->
         chkD 30 [z21,z3] /\
         chkD 21 [z0,z21] /\
         ∀ z22 : Int,0 <= z22 -> z22 <= HB -> z22 = fnD 21 [z0,z21,1] ->
         chkD 30 [z5,z3] /\
         chkD 21 [z0,z5] /\
         ∀ z23 : Int,0 <= z23 -> z23 <= HB -> z23 = fnD 21 [z0,z5,1] ->
         ∀ z24 : Int,0 <= z24 -> z24 <= 1 -> z24 = fnD 4 [z22,z23] ->
         (((decide (z24 = 1)) = true ->
          chkD 30 [z21,z3] /\
          chkD 21 [z0,z21] /\
          ∀ z25 : Int,0 <= z25 -> z25 <= HB -> z25 = fnD 21 [z0,z21,2] ->
          ∀ z26 : Int,0 <= z26 -> z26 <= HB -> z26 = fnD 21 [z0,z21,3] ->
          chkD 30 [z5,z3] /\
          chkD 21 [z0,z5] /\
          ∀ z27 : Int,0 <= z27 -> z27 <= HB -> z27 = fnD 21 [z0,z5,2] ->
          ∀ z28 : Int,0 <= z28 -> z28 <= HB -> z28 = fnD 21 [z0,z5,3] ->
          ∀ z29 : Int,0 <= z29 -> z29 <= 1 -> z29 = fnD 4 [z25,z27] ->
          ∀ z30 : Int,0 <= z30 -> z30 <= 1 -> z30 = fnD 4 [z26,z28] ->
          (((decide ([z29,z30] = [1,1])) = true ->
           K [[z0]] [[(cond (false) 1 0)]]
          ) /\ ((decide ([z29,z30] = [1,1])) = false ->
           chkD 30 [z21,z3] /\
           chkD 21 [z0,z21] /\
           ∀ z31 : Int,0 <= z31 -> z31 <= HB -> z31 = fnD 21 [z0,z21,4] ->
           chkD 30 [z5,z3] /\
           chkD 21 [z0,z5] /\
           ∀ z32 : Int,0 <= z32 -> z32 <= HB -> z32 = fnD 21 [z0,z5,4] ->
           ∀ z33 : Int,0 <= z33 -> z33 <= 1 -> z33 = fnD 4 [z31,z32] ->
           (((decide (z33 = 1)) = true ->
            K [[z0]] [[(cond (false) 1 0)]]
           ) /\ ((decide (z33 = 1)) = false ->
            ∀ z34 : Int,0 <= z34 -> z34 <= 1 -> 0 <= (z21 + 9223372036854775809) - 18446744073709551616 * z34 -> (z21 + 9223372036854775809) - 18446744073709551616 * z34 < 18446744073709551616 ->
            chkD 39 [((z21 + ((-18446744073709551616) * z34)) + 1),0,9223372036854775807] /\
            (I20 [[((z21 + ((-18446744073709551616) * z34)) + 1)]] /\ μ20 [[((z21 + ((-18446744073709551616) * z34)) + 1)]] < μ20 [[z21]])
           ))
          ))
         ) /\ ((decide (z24 = 1)) = false ->
          chkD 30 [z21,z3] /\
          chkD 21 [z0,z21] /\
          ∀ z25 : Int,0 <= z25 -> z25 <= HB -> z25 = fnD 21 [z0,z21,4] ->
          chkD 30 [z5,z3] /\
          chkD 21 [z0,z5] /\
          ∀ z26 : Int,0 <= z26 -> z26 <= HB -> z26 = fnD 21 [z0,z5,4] ->
          ∀ z27 : Int,0 <= z27 -> z27 <= 1 -> z27 = fnD 4 [z25,z26] ->
          (((decide (z27 = 1)) = true ->
           K [[z0]] [[(cond (false) 1 0)]]
          ) /\ ((decide (z27 = 1)) = false ->
           ∀ z28 : Int,0 <= z28 -> z28 <= 1 -> 0 <= (z21 + 9223372036854775809) - 18446744073709551616 * z28 -> (z21 + 9223372036854775809) - 18446744073709551616 * z28 < 18446744073709551616 ->
           chkD 39 [((z21 + ((-18446744073709551616) * z28)) + 1),0,9223372036854775807] /\
           (I20 [[((z21 + ((-18446744073709551616) * z28)) + 1)]] /\ μ20 [[((z21 + ((-18446744073709551616) * z28)) + 1)]] < μ20 [[z21]])
          ))
         ))
        ) /\ ((decide (z21 < z5)) = false ->
         ∀ z22 : Int,0 <= z22 -> z22 <= 1 -> 0 <= (z5 + 9223372036854775809) - 18446744073709551616 * z22 -> (z5 + 9223372036854775809) - 18446744073709551616 * z22 < 18446744073709551616 ->
         chkD 39 [((z5 + ((-18446744073709551616) * z22)) + 1),0,9223372036854775807] /\
         (I4 [[((z5 + ((-18446744073709551616) * z22)) + 1)]] /\ μ4 [[((z5 + ((-18446744073709551616) * z22)) + 1)]] < μ4 [[z5]])
        ))
       )
      ))
     ) /\ ((decide (0 < z5)) = false ->
      ∃ (I18 : List (List Int) -> Prop) (μ18 : List (List Int) -> Nat),I18 [[0]] /\ (∀ z19 : Int,0 <= z19 -> z19 <= 9223372036854775807 -> I18 [[z19]] ->
       (I4 [[1]] /\ μ4 [[1]] < μ4 [[z5]])
      )
     ))
    ))
   ) /\ ((decide (z5 < z3)) = false ->
    K [[z0]] [[(cond (true) 1 0)]]
   ))
  )
 ))
theorem secF_all (t : Tx) : secF t = ((decide (1 <= t.length) && decide (t.length <= 64)) && t.all fun c => Nat.ble 33 c.toNat && Nat.ble c.toNat 126) := by
 unfold secF printF
 have h1 : (!t.isEmpty) = decide (1 <= t.length) := by cases t <;> simp
 have h2 : Nat.ble t.length 64 = decide (t.length <= 64) := by rw [Bool.eq_iff_iff,Nat.ble_eq,decide_eq_true_eq]
 have h3 : ((t.all fun c => Nat.ble 32 c.toNat && Nat.ble c.toNat 126) && !t.contains 32) = t.all fun c => Nat.ble 33 c.toNat && Nat.ble c.toNat 126 := by
  rw [Bool.eq_iff_iff]
  simp only [Bool.and_eq_true,List.all_eq_true,Nat.ble_eq,Bool.not_eq_true',List.contains_eq_mem,decide_eq_false_iff_not]
  constructor
  ·rintro ⟨h,hn⟩ c hc
   have h4 := h c hc
   refine ⟨?_,h4.2⟩
   have : c.toNat ≠ 32 := fun e => hn (by rw [show (32 : UInt8) = c from (UInt8.toNat_inj.1 e).symm]; exact hc)
   omega
  ·intro h
   exact ⟨fun c hc => ⟨by have := (h c hc).1; omega,(h c hc).2⟩,fun hm => by have := (h 32 hm).1; revert this; decide⟩
 rw [h1,h2,h3,Bool.and_assoc]
def XsI (z0 : Int) (bl : List (List Int)) : Prop := ∃ i : Nat,bl = [[(i : Int)]] /\ i <= (sOf z0).length /\ ((sOf z0).take i).all (fun c => Nat.ble 33 c.toNat && Nat.ble c.toNat 126) = true
theorem p_xsec : B_xsec SB (KBv SB [.bool] 420) := by
 intro z0 a0 a1
 have kk : ∀ b : Bool,secF (sOf z0) = b -> KBv SB [.bool] 420 [[z0]] [[b01 b]] := fun b h => kb (by show b01 b = b01 (secF (sOf z0)); rw [h])
 have kno : ∀ i,i < (sOf z0).length -> (((sOf z0).getD i 0).toNat < 33 ∨ 126 < ((sOf z0).getD i 0).toNat) -> KBv SB [.bool] 420 [[z0]] [[cond false 1 0]] := fun i hi h => kk false (by
  cases hp : secF (sOf z0) with
  | false => rfl
  | true =>
   rw [secF_all] at hp
   simp only [Bool.and_eq_true,List.all_eq_true,Nat.ble_eq] at hp
   have := hp.2 _ (print_mem hi)
   omega)
 refine ⟨XsI z0,PrM z0,⟨0,rfl,Nat.zero_le _,rfl⟩,?_⟩
 rintro z2 d0 d1 ⟨i,e,hi,hI⟩ z3 _ _ h3
 obtain rfl : z2 = i := by simpa using e
 have h3 : z3 = ((sOf z0).length : Int) := h3
 refine ⟨fun hlt => ?_,fun hge z4 _ _ h4 => ?_⟩
 ·have hlt := of_decide_eq_true hlt
  have hil : i < (sOf z0).length := by omega
  have hg : ∀ z : Int,z = fnD 1 [z0,(i : Int)] -> z = (((sOf z0).getD i 0).toNat : Int) := fun z h => by
   rw [h]; simp only [fnD,Int.toNat_natCast]
  refine ⟨⟨by omega,by omega⟩,fun z4 _ _ h4 => ⟨fun hc => kno i hil (.inl ?_),fun hc => ⟨⟨by omega,by omega⟩,fun z5 _ _ h5 => ⟨fun hd => kno i hil (.inr ?_),fun hd z6 x0 x1 x2 x3 => ?_⟩⟩⟩⟩
  ·have := hg z4 h4; have := of_decide_eq_true hc; omega
  ·have := hg z5 h5; have := of_decide_eq_true hd; omega
  ·have e4 := hg z4 h4; have e5 := hg z5 h5
   have hc := of_decide_eq_false hc; have hd := of_decide_eq_false hd
   refine ⟨⟨by omega,by omega⟩,⟨i + 1,by rw [show ((i : Int) + (-18446744073709551616) * z6) + 1 = ((i + 1 : Nat) : Int) by omega],by omega,?_⟩,?_⟩
   ·rw [take_succ_getD _ _ hil,List.all_append,hI]
    simp only [List.all_cons,List.all_nil,Bool.and_true,Bool.true_and,Bool.and_eq_true,Nat.ble_eq]
    omega
   ·show (sOf z0).length - (((i : Int) + (-18446744073709551616) * z6) + 1).toNat < (sOf z0).length - ((i : Int)).toNat; omega
 ·have := of_decide_eq_false hge
  rw [List.take_of_length_le (by omega)] at hI
  have h4 : z4 = ((sOf z0).length : Int) := h4
  have e0 : secF (sOf z0) = (decide (1 <= (sOf z0).length) && decide ((sOf z0).length <= 64)) := by rw [secF_all,hI,Bool.and_true]
  refine ⟨fun h1 z5 _ _ h5 => kk _ ?_,fun h1 => kk false ?_⟩
  ·have h5 : z5 = ((sOf z0).length : Int) := h5
   rw [e0,decide_eq_true (by have := of_decide_eq_true h1; omega),Bool.true_and,Bool.eq_iff_iff]
   simp only [decide_eq_true_eq]; omega
  ·rw [e0,decide_eq_false (by have := of_decide_eq_false h1; omega)]; rfl
theorem p_xsr : B_xsr SB (KBv SB [.bool] 422) := by
 intro r0 hr
 have kk : ∀ b : Bool,seOk (seOf r0) = b -> KBv SB [.bool] 422 [r0] [[b01 b]] := fun b h => kb (by show b01 b = b01 (seOk (seOf r0)); rw [h])
 have e0 : seOk (seOf r0) = ((decide (1 <= r0.getD 0 0) && decide (r0.getD 0 0 <= 1099511627776)) && ((decide (0 <= r0.getD 6 0) && decide (r0.getD 6 0 <= 1099511627776)) && (decide (0 <= r0.getD 9 0) && decide (r0.getD 9 0 <= 1099511627776))) && (decide (1 <= r0.getD 5 0) && decide (r0.getD 5 0 <= 1000) && (decide (0 <= r0.getD 7 0) && decide (r0.getD 7 0 <= 3))) && (decide (r0.getD 8 0 = 1) || decide (r0.getD 9 0 = 0)) && (secF (sOf (r0.getD 1 0)) && (secF (sOf (r0.getD 4 0)) && rightF (sOf (r0.getD 2 0)) (sOf (r0.getD 3 0))))) := rfl
 refine ⟨fun h1 => ⟨fun h2 z10 _ _ hA => ?_,fun h => kk false (by rw [e0,h]; simp)⟩,fun h => kk false (by rw [e0,h]; simp)⟩
 have hA : z10 = b01 (secF (sOf (r0.getD 1 0))) := hA
 have hA := b01_dec hA
 refine ⟨fun h3 z11 _ _ hB => ?_,fun h => kk false (by rw [e0,<- hA,h]; simp)⟩
 have hB : z11 = b01 (secF (sOf (r0.getD 4 0))) := hB
 have hB := b01_dec hB
 refine ⟨fun h4 z12 _ _ hC => ?_,fun h => kk false (by rw [e0,<- hB,h]; simp)⟩
 have hC : z12 = b01 (rightF (sOf (r0.getD 2 0)) (sOf (r0.getD 3 0))) := hC
 have hC := b01_dec hC
 have no : ∀ {b : Bool},b = false -> (b = false -> seOk (seOf r0) = false) -> KBv SB [.bool] 422 [r0] [[cond false 1 0]] := fun h h2 => kk false (h2 h)
 refine ⟨fun h5 => ⟨fun h6 => ⟨fun h7 => ⟨fun h8 => ⟨fun h9 => ⟨fun h10 => ⟨fun h11 => ⟨fun h12 => ⟨fun h13 => ⟨fun h14 => kk true ?_,fun h14 => kk _ ?_⟩,fun h => kk false (by rw [e0,h]; simp)⟩,fun h => kk false (by rw [e0,h]; simp)⟩,fun h => kk false (by rw [e0,h]; simp)⟩,fun h => kk false (by rw [e0,h]; simp)⟩,fun h => kk false (by rw [e0,h]; simp)⟩,fun h => kk false (by rw [e0,h]; simp)⟩,fun h => kk false (by rw [e0,h]; simp)⟩,fun h => kk false (by rw [e0,h]; simp)⟩,fun h => kk false (by rw [e0,<- hC,h]; simp)⟩
 ·rw [e0,h1,h2,h6,h7,h8,h9,h10,h11,h12,h13,h14,<- hA,<- hB,<- hC,h3,h4,h5]; rfl
 ·rw [e0,h1,h2,h6,h7,h8,h9,h10,h11,h12,h13,h14,<- hA,<- hB,<- hC,h3,h4,h5]; simp
theorem p_xsR : B_xsR SB (KBb SB [.d .bool] 423) := by
 intro z0 a0 a1 z1 _ z2 _ _ z3 b0 b1 h3
 have h3 : z3 = ((rOf z0).length : Int) := h3
 have hlen := ses_len z0
 have kk : ∀ b : Bool,rightS (ses z0) = b -> KBb SB [.d .bool] 423 [[z0]] [[cond b 1 0]] := fun b h => ⟨by cases b <;> exact ⟨by decide,by decide,trivial⟩,by show cond b (1 : Int) 0 = b01 (rightS (ses z0)); rw [h]; rfl⟩
 have kno : (¬ ((ses z0).length <= 16 /\ ∀ i,i < (ses z0).length -> seOk ((ses z0).getD i se0) = true /\ ∀ j,j < i -> clashF ((ses z0).getD j se0) ((ses z0).getD i se0) = false)) -> KBb SB [.d .bool] 423 [[z0]] [[cond false 1 0]] := fun h => kk false (by
  cases hr : rightS (ses z0) with
  | false => rfl
  | true => exact absurd ((rightS_iff _).1 hr) h)
 refine ⟨fun h => kno (fun h2 => by have := of_decide_eq_true h; have := h2.1; omega),fun h16 => ?_⟩
 have h16 := of_decide_eq_false h16
 have gid : ∀ {k : Nat} {i z : Int},i = (k : Int) -> k < (rOf z0).length -> z = fnD 21 [z0,i,0] -> z = ((ses z0).getD k se0).id := fun hi hk h => by rw [ses_get hk,h,hi]; rfl
 have gsec : ∀ {k : Nat} {z : Int},k < (rOf z0).length -> z = fnD 21 [z0,(k : Int),1] -> sOf z = ((ses z0).getD k se0).sec := fun hk h => by rw [ses_get hk,h]; rfl
 have gwho : ∀ {k : Nat} {y z : Int},k < (rOf z0).length -> y = fnD 21 [z0,(k : Int),2] -> z = fnD 21 [z0,(k : Int),3] -> (sOf y,sOf z) = ((ses z0).getD k se0).who := fun hk h h' => by rw [ses_get hk,h,h']; rfl
 have gtok : ∀ {k : Nat} {z : Int},k < (rOf z0).length -> z = fnD 21 [z0,(k : Int),4] -> sOf z = ((ses z0).getD k se0).tok := fun hk h => by rw [ses_get hk,h]; rfl
 refine ⟨RsI z0,RsM z0,⟨0,rfl,Nat.zero_le _,fun j h => absurd h (Nat.not_lt_zero j)⟩,?_⟩
 rintro z5 c0 c1 ⟨i,e,hi,hI⟩
 obtain rfl : z5 = i := by simpa using e
 refine ⟨fun hlt => ?_,fun hge => kk true ((rightS_iff _).2 ⟨by omega,fun j hj => hI j (by have := of_decide_eq_false hge; omega)⟩)⟩
 have hlt := of_decide_eq_true hlt
 have hil : i < (rOf z0).length := by omega
 have ck : chkD 30 [(i : Int),z3] := ⟨by omega,by omega⟩
 have ck2 : chkD 21 [z0,(i : Int)] := ⟨by omega,by omega⟩
 refine ⟨ck,ck2,fun z6 _ _ h6 z7 _ _ h7 z8 _ _ h8 z9 _ _ h9 z10 _ _ h10 z11 _ _ h11 z12 _ _ h12 z13 _ _ h13 z14 d0 d1 h14 z15 _ _ h15 z16 e0 e1 h16' z17 _ _ h17 => ?_⟩
 have h16'' := bit_eq d0 d1 e0 e1 h16'
 subst h16''
 have hrow := row_se (k := i) rfl hil h6 h7 h8 h9 h10 h11 h12 h13 h14 h15
 have h17 : z17 = b01 (seOk (seOf [z6,z7,z8,z9,z10,z11,z12,z13,z16,z15])) := h17
 rw [hrow] at h17
 have hd := b01_dec h17
 refine ⟨fun hb => kno (fun h2 => ?_),fun hb => ?_⟩
 ·rw [hd,(h2.2 i (by omega)).1] at hb; cases hb
 have hok : seOk ((ses z0).getD i se0) = true := by rw [hd] at hb; exact bnot_f hb
 have STEP : (∀ j,j < i -> clashF ((ses z0).getD j se0) ((ses z0).getD i se0) = false) -> RsI z0 [[((i + 1 : Nat) : Int)]] /\ RsM z0 [[((i + 1 : Nat) : Int)]] < RsM z0 [[(i : Int)]] := fun h => by
  refine ⟨⟨i + 1,rfl,by omega,fun k hk => ?_⟩,?_⟩
  ·rcases Nat.lt_or_ge k i with h' | h'
   ·exact hI k h'
   ·obtain rfl : k = i := by omega
    exact ⟨hok,h⟩
  ·show (ses z0).length - (((i + 1 : Nat) : Int)).toNat < (ses z0).length - ((i : Int)).toNat; omega
 refine ⟨fun hpos => ?_,fun hpos => ⟨fun _ => True,fun _ => 0,trivial,fun _ _ _ _ => ?_⟩⟩
 rotate_left
 ·have := of_decide_eq_false hpos
  obtain rfl : i = 0 := by omega
  exact STEP (fun j hj => absurd hj (Nat.not_lt_zero j))
 have hpos := of_decide_eq_true hpos
 have hp1 : (i : Int) + (-1) = ((i - 1 : Nat) : Int) := by omega
 refine ⟨⟨by omega,by omega⟩,⟨by omega,by omega⟩,fun z18 _ _ h18 => ⟨ck,ck2,fun z19 _ _ h19 => ?_⟩⟩
 have e18 := gid hp1 (by omega) h18
 have e19 := gid (k := i) rfl hil h19
 refine ⟨fun hle => kno (fun h2 => ?_),fun hle => ?_⟩
 ·have h3' := (h2.2 i (by omega)).2 (i - 1) (by omega)
  unfold clashF at h3'
  simp only [Bool.or_eq_false_iff,decide_eq_false_iff_not] at h3'
  have := of_decide_eq_true hle
  omega
 have hle := of_decide_eq_false hle
 have hid : ∀ j,j < i -> ((ses z0).getD j se0).id < ((ses z0).getD i se0).id := fun j hj => by
  rcases Nat.lt_or_ge j (i - 1) with h' | h'
  ·have h4 := (hI (i - 1) (by omega)).2 j h'
   unfold clashF at h4
   simp only [Bool.or_eq_false_iff,decide_eq_false_iff_not] at h4
   omega
  ·rw [show j = i - 1 by omega]; omega
 refine ⟨RtI z0 i,fun bl => i - ((bl.getD 0 []).getD 0 0).toNat,⟨0,rfl,Nat.zero_le _,fun j h => absurd h (Nat.not_lt_zero j)⟩,?_⟩
 rintro z21 f0 f1 ⟨m,e,hm,hM⟩
 obtain rfl : z21 = m := by simpa using e
 refine ⟨fun hlt2 => ?_,fun hge2 z22 x0 x1 x2 x3 => ⟨⟨by omega,by omega⟩,?_⟩⟩
 rotate_left
 ·have := of_decide_eq_false hge2
  rw [show ((i : Int) + (-18446744073709551616) * z22) + 1 = ((i + 1 : Nat) : Int) by omega]
  exact STEP (fun j hj => hM j (by omega))
 have hlt2 := of_decide_eq_true hlt2
 have hml : m < (rOf z0).length := by omega
 have cm : chkD 30 [(m : Int),z3] := ⟨by omega,by omega⟩
 have cm2 : chkD 21 [z0,(m : Int)] := ⟨by omega,by omega⟩
 have hcl : clashF ((ses z0).getD m se0) ((ses z0).getD i se0) = ((decide (((ses z0).getD m se0).sec = ((ses z0).getD i se0).sec) && decide (((ses z0).getD m se0).who = ((ses z0).getD i se0).who)) || decide (((ses z0).getD m se0).tok = ((ses z0).getD i se0).tok)) := by
  unfold clashF alikeF
  rw [decide_eq_false (by have := hid m (by omega); omega : ¬ ((ses z0).getD i se0).id <= ((ses z0).getD m se0).id),Bool.or_false]
 have hbad : clashF ((ses z0).getD m se0) ((ses z0).getD i se0) = true -> KBb SB [.d .bool] 423 [[z0]] [[cond false 1 0]] := fun h => kno (fun h2 => by
  have := (h2.2 i (by omega)).2 m (by omega)
  rw [this] at h; cases h)
 have hstep : ∀ z : Int,0 <= z -> z <= 1 -> 0 <= ((m : Int) + 9223372036854775809) - 18446744073709551616 * z -> ((m : Int) + 9223372036854775809) - 18446744073709551616 * z < 18446744073709551616 -> clashF ((ses z0).getD m se0) ((ses z0).getD i se0) = false ->
  chkD 39 [(((m : Int) + (-18446744073709551616) * z) + 1),0,9223372036854775807] /\ (RtI z0 i [[(((m : Int) + (-18446744073709551616) * z) + 1)]] /\ i - ((([[(((m : Int) + (-18446744073709551616) * z) + 1)]] : List (List Int)).getD 0 []).getD 0 0).toNat < i - ((([[(m : Int)]] : List (List Int)).getD 0 []).getD 0 0).toNat) := fun z x0 x1 x2 x3 hf => by
  rw [show ((m : Int) + (-18446744073709551616) * z) + 1 = ((m + 1 : Nat) : Int) by omega]
  refine ⟨⟨by omega,by omega⟩,⟨m + 1,rfl,by omega,fun j hj => ?_⟩,?_⟩
  ·rcases Nat.lt_or_ge j m with h | h
   ·exact hM j h
   ·obtain rfl : j = m := by omega
    exact hf
  ·show i - (((m + 1 : Nat) : Int)).toNat < i - ((m : Int)).toNat; omega
 refine ⟨cm,cm2,fun z22 _ _ h22 => ⟨ck,ck2,fun z23 _ _ h23 z24 _ _ h24 => ?_⟩⟩
 have h24 := eq_dec h24
 rw [gsec hml h22,gsec hil h23] at h24
 rw [<- h24] at hcl
 refine ⟨fun h => ?_,fun h => ?_⟩
 ·rw [h,Bool.true_and] at hcl
  refine ⟨cm,cm2,fun z25 _ _ h25 z26 _ _ h26 => ⟨ck,ck2,fun z27 _ _ h27 z28 _ _ h28 z29 _ _ h29 z30 _ _ h30 => ?_⟩⟩
  have hp := pair_dec h29 h30
  rw [gwho hml h25 h26,gwho hil h27 h28] at hp
  rw [hp] at hcl
  refine ⟨fun hq => hbad (by rw [hcl,hq]; rfl),fun hq => ⟨cm,cm2,fun z31 _ _ h31 => ⟨ck,ck2,fun z32 _ _ h32 z33 _ _ h33 => ?_⟩⟩⟩
  have h33 := eq_dec h33
  rw [gtok hml h31,gtok hil h32] at h33
  rw [hq,Bool.false_or,<- h33] at hcl
  exact ⟨fun ht => hbad (by rw [hcl,ht]),fun ht z34 x0 x1 x2 x3 => hstep z34 x0 x1 x2 x3 (by rw [hcl,ht])⟩
 ·rw [h,Bool.false_and,Bool.false_or] at hcl
  refine ⟨cm,cm2,fun z25 _ _ h25 => ⟨ck,ck2,fun z26 _ _ h26 z27 _ _ h27 => ?_⟩⟩
  have h27 := eq_dec h27
  rw [gtok hml h25,gtok hil h26] at h27
  rw [<- h27] at hcl
  exact ⟨fun ht => hbad (by rw [hcl,ht]),fun ht z28 x0 x1 x2 x3 => hstep z28 x0 x1 x2 x3 (by rw [hcl,ht])⟩
end Go.Ad
set_option maxRecDepth 100000
set_option linter.unusedVariables false
set_option linter.unusedSimpArgs false
namespace Go.Ad
open Go Go.Rx
def B_xsP (S : Nat -> List (List Int) -> List (List Int) -> Prop) (K : List (List Int) -> List (List Int) -> Prop) : Prop :=
 ∀ z0 : Int,0 <= z0 -> z0 <= RB -> ∀ z1 : Int,(-9223372036854775808) <= z1 -> z1 <= 9223372036854775807 ->
 ∀ z2 : Int,0 <= z2 ->
 ∀ z3 : Int,(-1) <= z3 -> z3 <= 9223372036854775807 ->
 ∀ z4 : Int,0 <= z4 -> z4 <= 9223372036854775807 -> z4 = fnD 20 [z0] ->
 chkD 22 [z0,0,z4] /\
 ∀ z5 : Int,0 <= z5 -> z5 <= RB -> z5 = fnD 22 [z0,0,z4] ->
 ∀ z6 : Int,0 <= z6 -> z6 <= 1 -> S 423 [[z5]] [[z6]] ->
 ((((!(decide (z6 = 1)))) = true ->
  K [[z0],[z1]] [[0]]
 ) /\ (((!(decide (z6 = 1)))) = false ->
  (((decide (0 <= z1)) = true ->
   ((((!(decide (z1 <= 1099511627776)))) = true ->
    K [[z0],[z1]] [[0]]
   ) /\ (((!(decide (z1 <= 1099511627776)))) = false ->
    ∃ (I7 : List (List Int) -> Prop) (μ7 : List (List Int) -> Nat),I7 [[0],[0],[0],[(-1)]] /\ (∀ z8 : Int,0 <= z8 -> z8 <= 9223372036854775807 -> ∀ z9 : Int,0 <= z9 -> z9 <= RB -> ∀ z10 : Int,0 <= z10 -> z10 <= 9223372036854775807 -> ∀ z11 : Int,(-1) <= z11 -> z11 <= 9223372036854775807 -> I7 [[z8],[z9],[z10],[z11]] ->
     (((decide (z8 < z4)) = true ->
      chkD 30 [z8,z4] /\
      chkD 21 [z0,z8] /\
      ∀ z12 : Int,(-9223372036854775808) <= z12 -> z12 <= 9223372036854775807 -> z12 = fnD 21 [z0,z8,6] ->
      ∀ z13 : Int,(-1) <= z13 -> z13 <= 1 -> 0 <= ((z1 + ((-1) * z12)) + 9223372036854775808) - 18446744073709551616 * z13 -> ((z1 + ((-1) * z12)) + 9223372036854775808) - 18446744073709551616 * z13 < 18446744073709551616 ->
      (((decide ((z1 + (((-1) * z12) + ((-18446744073709551616) * z13))) <= 86400)) = true ->
       chkD 30 [z8,z4] /\
       chkD 21 [z0,z8] /\
       ∀ z14 : Int,(-9223372036854775808) <= z14 -> z14 <= 9223372036854775807 -> z14 = fnD 21 [z0,z8,0] ->
       ∀ z15 : Int,0 <= z15 -> z15 <= HB -> z15 = fnD 21 [z0,z8,1] ->
       ∀ z16 : Int,0 <= z16 -> z16 <= HB -> z16 = fnD 21 [z0,z8,2] ->
       ∀ z17 : Int,0 <= z17 -> z17 <= HB -> z17 = fnD 21 [z0,z8,3] ->
       ∀ z18 : Int,0 <= z18 -> z18 <= HB -> z18 = fnD 21 [z0,z8,4] ->
       ∀ z19 : Int,(-9223372036854775808) <= z19 -> z19 <= 9223372036854775807 -> z19 = fnD 21 [z0,z8,5] ->
       ∀ z20 : Int,(-9223372036854775808) <= z20 -> z20 <= 9223372036854775807 -> z20 = fnD 21 [z0,z8,6] ->
       ∀ z21 : Int,(-9223372036854775808) <= z21 -> z21 <= 9223372036854775807 -> z21 = fnD 21 [z0,z8,7] ->
       ∀ z22 : Int,0 <= z22 -> z22 <= 1 -> z22 = fnD 21 [z0,z8,8] ->
       ∀ z23 : Int,(-9223372036854775808) <= z23 -> z23 <= 9223372036854775807 -> z23 = fnD 21 [z0,z8,9] ->
       chkD 31 [z9,z10] /\
       chkD 23 [z9,1] /\
       ∀ z24 : Int,0 <= z24 -> z24 <= 1 -> decide (z22 = 1) = decide (z24 = 1) ->
       ∀ z25 : Int,0 <= z25 -> z25 <= RB -> z25 = fnD 23 [z9,z14,z15,z16,z17,z18,z19,z20,z21,z24,z23] ->
       ∀ z26 : Int,(-1) <= z26 -> z26 <= 9223372036854775807 ->
       ∀ z27 : Int,0 <= z27 -> z27 <= 1 -> 0 <= (z8 + 9223372036854775809) - 18446744073709551616 * z27 -> (z8 + 9223372036854775809) - 18446744073709551616 * z27 < 18446744073709551616 ->
       chkD 39 [((z8 + ((-18446744073709551616) * z27)) + 1),0,9223372036854775807] /\
       (I7 [[((z8 + ((-18446744073709551616) * z27)) + 1)],[z25],[(z10 + 1)],[z26]] /\ μ7 [[((z8 + ((-18446744073709551616) * z27)) + 1)],[z25],[(z10 + 1)],[z26]] < μ7 [[z8],[z9],[z10],[z11]])
      ) /\ ((decide ((z1 + (((-1) * z12) + ((-18446744073709551616) * z13))) <= 86400)) = false ->
       ∀ z14 : Int,0 <= z14 -> z14 <= 1 -> 0 <= (z8 + 9223372036854775809) - 18446744073709551616 * z14 -> (z8 + 9223372036854775809) - 18446744073709551616 * z14 < 18446744073709551616 ->
       chkD 39 [((z8 + ((-18446744073709551616) * z14)) + 1),0,9223372036854775807] /\
       (I7 [[((z8 + ((-18446744073709551616) * z14)) + 1)],[z9],[z10],[z11]] /\ μ7 [[((z8 + ((-18446744073709551616) * z14)) + 1)],[z9],[z10],[z11]] < μ7 [[z8],[z9],[z10],[z11]])
      ))
     ) /\ ((decide (z8 < z4)) = false ->
      chkD 22 [z9,0,z10] /\
      ∀ z12 : Int,0 <= z12 -> z12 <= RB -> z12 = fnD 22 [z9,0,z10] ->
      K [[z0],[z1]] [[z12]]
     ))
    )
   ))
  ) /\ ((decide (0 <= z1)) = false ->
   K [[z0],[z1]] [[0]]
  ))
 ))
def B_xsF (S : Nat -> List (List Int) -> List (List Int) -> Prop) (K : List (List Int) -> List (List Int) -> Prop) : Prop :=
 ∀ z0 : Int,0 <= z0 -> z0 <= RB -> ∀ z1 : Int,(-9223372036854775808) <= z1 -> z1 <= 9223372036854775807 ->
 ∀ z2 : Int,0 <= z2 ->
 ∀ z3 : Int,(-1) <= z3 -> z3 <= 9223372036854775807 ->
 ∀ z4 : Int,0 <= z4 -> z4 <= 9223372036854775807 -> z4 = fnD 20 [z0] ->
 ∃ (I5 : List (List Int) -> Prop) (μ5 : List (List Int) -> Nat),I5 [[0]] /\ (∀ z6 : Int,0 <= z6 -> z6 <= 9223372036854775807 -> I5 [[z6]] ->
  (((decide (z6 < z4)) = true ->
   chkD 22 [z0,0,z4] /\
   ∀ z7 : Int,0 <= z7 -> z7 <= RB -> z7 = fnD 22 [z0,0,z4] ->
   ∀ z8 : Int,0 <= z8 -> z8 <= 1 -> S 423 [[z7]] [[z8]] ->
   (((decide (z8 = 1)) = true ->
    chkD 30 [z6,z4] /\
    chkD 21 [z0,z6] /\
    ∀ z9 : Int,(-9223372036854775808) <= z9 -> z9 <= 9223372036854775807 -> z9 = fnD 21 [z0,z6,0] ->
    (((decide (z9 = z1)) = true ->
     chkD 30 [z6,z4] /\
     chkD 21 [z0,z6] /\
     ∀ z10 : Int,(-9223372036854775808) <= z10 -> z10 <= 9223372036854775807 -> z10 = fnD 21 [z0,z6,0] ->
     ∀ z11 : Int,0 <= z11 -> z11 <= HB -> z11 = fnD 21 [z0,z6,1] ->
     ∀ z12 : Int,0 <= z12 -> z12 <= HB -> z12 = fnD 21 [z0,z6,2] ->
     ∀ z13 : Int,0 <= z13 -> z13 <= HB -> z13 = fnD 21 [z0,z6,3] ->
     ∀ z14 : Int,0 <= z14 -> z14 <= HB -> z14 = fnD 21 [z0,z6,4] ->
     ∀ z15 : Int,(-9223372036854775808) <= z15 -> z15 <= 9223372036854775807 -> z15 = fnD 21 [z0,z6,5] ->
     ∀ z16 : Int,(-9223372036854775808) <= z16 -> z16 <= 9223372036854775807 -> z16 = fnD 21 [z0,z6,6] ->
     ∀ z17 : Int,(-9223372036854775808) <= z17 -> z17 <= 9223372036854775807 -> z17 = fnD 21 [z0,z6,7] ->
     ∀ z18 : Int,0 <= z18 -> z18 <= 1 -> z18 = fnD 21 [z0,z6,8] ->
     ∀ z19 : Int,(-9223372036854775808) <= z19 -> z19 <= 9223372036854775807 -> z19 = fnD 21 [z0,z6,9] ->
     K [[z0],[z1]] [[z10,z11,z12,z13,z14,z15,z16,z17,(cond (decide (z18 = 1)) 1 0),z19],[(cond (true) 1 0)]]
    ) /\ ((decide (z9 = z1)) = false ->
     ∀ z10 : Int,0 <= z10 -> z10 <= 1 -> 0 <= (z6 + 9223372036854775809) - 18446744073709551616 * z10 -> (z6 + 9223372036854775809) - 18446744073709551616 * z10 < 18446744073709551616 ->
     chkD 39 [((z6 + ((-18446744073709551616) * z10)) + 1),0,9223372036854775807] /\
     (I5 [[((z6 + ((-18446744073709551616) * z10)) + 1)]] /\ μ5 [[((z6 + ((-18446744073709551616) * z10)) + 1)]] < μ5 [[z6]])
    ))
   ) /\ ((decide (z8 = 1)) = false ->
    K [[z0],[z1]] [[0,0,0,0,0,0,0,0,(cond (false) 1 0),0],[(cond (false) 1 0)]]
   ))
  ) /\ ((decide (z6 < z4)) = false ->
   K [[z0],[z1]] [[0,0,0,0,0,0,0,0,(cond (false) 1 0),0],[(cond (false) 1 0)]]
  ))
 )
def B_xsl (S : Nat -> List (List Int) -> List (List Int) -> Prop) (K : List (List Int) -> List (List Int) -> Prop) : Prop :=
 ∀ z0 : Int,0 <= z0 -> z0 <= RB -> ∀ z1 : Int,(-9223372036854775808) <= z1 -> z1 <= 9223372036854775807 -> ∀ r2 : List Int,inB [((-9223372036854775808),9223372036854775807),(0,HB),(0,HB),(0,HB),(0,HB),((-9223372036854775808),9223372036854775807),((-9223372036854775808),9223372036854775807),((-9223372036854775808),9223372036854775807),(0,1),((-9223372036854775808),9223372036854775807)] r2 ->
 ∀ z12 : Int,0 <= z12 ->
 ∀ z13 : Int,(-1) <= z13 -> z13 <= 9223372036854775807 ->
 ∀ z14 : Int,0 <= z14 -> z14 <= 9223372036854775807 -> z14 = fnD 20 [z0] ->
 ∃ (I15 : List (List Int) -> Prop) (μ15 : List (List Int) -> Nat),I15 [[0]] /\ (∀ z16 : Int,0 <= z16 -> z16 <= 9223372036854775807 -> I15 [[z16]] ->
  (((decide (z16 < z14)) = true ->
   chkD 30 [z16,z14] /\
   chkD 21 [z0,z16] /\
   ∀ z17 : Int,(-9223372036854775808) <= z17 -> z17 <= 9223372036854775807 -> z17 = fnD 21 [z0,z16,0] ->
   (((decide (z17 = (List.getD r2 0 0))) = true ->
    chkD 30 [z16,z14] /\
    chkD 21 [z0,z16] /\
    ∀ z18 : Int,0 <= z18 -> z18 <= HB -> z18 = fnD 21 [z0,z16,1] ->
    ∀ z19 : Int,0 <= z19 -> z19 <= 1 -> z19 = fnD 4 [z18,(List.getD r2 1 0)] ->
    (((decide (z19 = 1)) = true ->
     chkD 30 [z16,z14] /\
     chkD 21 [z0,z16] /\
     ∀ z20 : Int,(-9223372036854775808) <= z20 -> z20 <= 9223372036854775807 -> z20 = fnD 21 [z0,z16,6] ->
     ∀ z21 : Int,(-1) <= z21 -> z21 <= 1 -> 0 <= ((z1 + ((-1) * z20)) + 9223372036854775808) - 18446744073709551616 * z21 -> ((z1 + ((-1) * z20)) + 9223372036854775808) - 18446744073709551616 * z21 < 18446744073709551616 ->
     (((decide ((z1 + (((-1) * z20) + ((-18446744073709551616) * z21))) <= 86400)) = true ->
      K [[z0],[z1],r2] [[z16]]
     ) /\ ((decide ((z1 + (((-1) * z20) + ((-18446744073709551616) * z21))) <= 86400)) = false ->
      ∀ z22 : Int,0 <= z22 -> z22 <= 1 -> 0 <= (z16 + 9223372036854775809) - 18446744073709551616 * z22 -> (z16 + 9223372036854775809) - 18446744073709551616 * z22 < 18446744073709551616 ->
      chkD 39 [((z16 + ((-18446744073709551616) * z22)) + 1),0,9223372036854775807] /\
      (I15 [[((z16 + ((-18446744073709551616) * z22)) + 1)]] /\ μ15 [[((z16 + ((-18446744073709551616) * z22)) + 1)]] < μ15 [[z16]])
     ))
    ) /\ ((decide (z19 = 1)) = false ->
     ∀ z20 : Int,0 <= z20 -> z20 <= 1 -> 0 <= (z16 + 9223372036854775809) - 18446744073709551616 * z20 -> (z16 + 9223372036854775809) - 18446744073709551616 * z20 < 18446744073709551616 ->
     chkD 39 [((z16 + ((-18446744073709551616) * z20)) + 1),0,9223372036854775807] /\
     (I15 [[((z16 + ((-18446744073709551616) * z20)) + 1)]] /\ μ15 [[((z16 + ((-18446744073709551616) * z20)) + 1)]] < μ15 [[z16]])
    ))
   ) /\ ((decide (z17 = (List.getD r2 0 0))) = false ->
    ∀ z18 : Int,0 <= z18 -> z18 <= 1 -> 0 <= (z16 + 9223372036854775809) - 18446744073709551616 * z18 -> (z16 + 9223372036854775809) - 18446744073709551616 * z18 < 18446744073709551616 ->
    chkD 39 [((z16 + ((-18446744073709551616) * z18)) + 1),0,9223372036854775807] /\
    (I15 [[((z16 + ((-18446744073709551616) * z18)) + 1)]] /\ μ15 [[((z16 + ((-18446744073709551616) * z18)) + 1)]] < μ15 [[z16]])
   ))
  ) /\ ((decide (z16 < z14)) = false ->
   K [[z0],[z1],r2] [[(-1)]]
  ))
 )
theorem ses_app {c y : Int} {row : List Int} (h : rOf y = rOf c ++ [row]) : ses y = ses c ++ [seOf row] := by unfold ses; rw [h,List.map_append]; rfl
def XpI (z0 n : Int) (bl : List (List Int)) : Prop := ∃ (i : Nat) (c l q : Int),bl = [[(i : Int)],[c],[l],[q]] /\ i <= (ses z0).length /\ l = ((rOf c).length : Int) /\ (rOf c).length <= i /\ ses c = pruneF ((ses z0).take i) n
theorem le_old {n a q : Int} {s : Se} (hs : s.since = a) (h0 : 0 <= n + (-1) * a + 9223372036854775808 - 18446744073709551616 * q) (h1 : n + (-1) * a + 9223372036854775808 - 18446744073709551616 * q < 18446744073709551616) : decide (n + ((-1) * a + (-18446744073709551616) * q) <= 86400) = !oldF s n := by
 rw [<- old_row (n := n) (q := q) hs h0 h1,Bool.eq_iff_iff]; simp
theorem p_xsP : B_xsP SB (KBb SB [oSS] 424) := by
 intro z0 a0 a1 z1 n0 n1 z2 _ z3 _ _ z4 b0 b1 h4
 have h4 : z4 = ((rOf z0).length : Int) := h4
 have hlen := ses_len z0
 have W := fun y => whole_ses (z := z0) (y := y) h4
 have kk : ∀ y : Int,0 <= y -> y <= RB -> ses y = cond (timedF z1 && rightS (ses z0)) (pruneF (ses z0) z1) [] -> KBb SB [oSS] 424 [[z0],[z1]] [[y]] := fun y i0 i1 h => ⟨⟨i0,i1,trivial⟩,h⟩
 have kno : (timedF z1 && rightS (ses z0)) = false -> KBb SB [oSS] 424 [[z0],[z1]] [[0]] := fun h => kk 0 (Int.le_refl _) RB_nonneg (by rw [h]; exact ses_zero)
 refine ⟨(W 0).1,fun z5 _ _ h5 z6 _ _ h6 => ?_⟩
 have h6 : z6 = b01 (rightS (ses z5)) := h6
 rw [ses_same ((W z5).2 h5)] at h6
 refine ⟨fun hn => kno (by rw [nt_of h6 hn,Bool.and_false]),fun hn => ⟨fun h0 => ⟨fun h1 => kno ?_,fun h1 => ?_⟩,fun h0 => kno (by unfold timedF; rw [h0]; rfl)⟩⟩
 ·unfold timedF; rw [bnot_t h1,Bool.and_false]; rfl
 have hr := nf_of h6 hn
 have h16 := ((rightS_iff _).1 hr).1
 have ht : timedF z1 = true := by unfold timedF; rw [h0,bnot_f h1]; rfl
 refine ⟨XpI z0 z1,RsM z0,⟨0,0,0,-1,rfl,Nat.zero_le _,by rw [Go.Rx.rOf_zero]; rfl,by rw [Go.Rx.rOf_zero]; exact Nat.le_refl _,ses_zero⟩,?_⟩
 rintro z8 _ _ z9 _ _ z10 _ _ z11 _ _ ⟨i,c,l,q,e,hi,hl,hci,hI⟩
 obtain ⟨rfl,rfl,rfl,rfl⟩ : z8 = i /\ z9 = c /\ z10 = l /\ z11 = q := by simpa using e
 refine ⟨fun hlt => ?_,fun hge => ?_⟩
 ·have hlt := of_decide_eq_true hlt
  have hil : i < (rOf z0).length := by omega
  have ck : chkD 30 [(i : Int),z4] := ⟨by omega,by omega⟩
  have ck2 : chkD 21 [z0,(i : Int)] := ⟨by omega,by omega⟩
  refine ⟨ck,ck2,fun z12 _ _ h12 z13 x0 x1 x2 x3 => ?_⟩
  have hsi : ((ses z0).getD i se0).since = z12 := by rw [ses_get hil,h12]; rfl
  rw [le_old (s := (ses z0).getD i se0) hsi x2 x3]
  have hpt := prune_take (z := z0) (n := z1) (i := i) (by omega)
  have hms : ∀ a b c : Int,RsM z0 [[((i + 1 : Nat) : Int)],[a],[b],[c]] < RsM z0 [[(i : Int)],[z9],[z10],[z11]] := fun a b c => by
   show (ses z0).length - (((i + 1 : Nat) : Int)).toNat < (ses z0).length - ((i : Int)).toNat; omega
  refine ⟨fun ho => ⟨ck,ck2,fun z14 _ _ h14 z15 _ _ h15 z16 _ _ h16' z17 _ _ h17 z18 _ _ h18 z19 _ _ h19 z20 _ _ h20 z21 _ _ h21 z22 f0 f1 h22 z23 _ _ h23 => ⟨hl,by show ((rOf z9).length : Int) + 1 <= 1073741824; omega,fun z24 g0 g1 h24 z25 k0 k1 h25 z26 l0 l1 z27 y0 y1 y2 y3 => ?_⟩⟩,fun ho z14 y0 y1 y2 y3 => ?_⟩
  ·have h24 := bit_eq f0 f1 g0 g1 h24
   subst h24
   have hrow := row_se (k := i) rfl hil h14 h15 h16' h17 h18 h19 h20 h21 h22 h23
   have hr25 : rOf z25 = rOf z9 ++ [[z14,z15,z16,z17,z18,z19,z20,z21,z24,z23]] := by rw [h25]; simp only [fnD,rOf_rc]
   rw [show ((i : Int) + (-18446744073709551616) * z27) + 1 = ((i + 1 : Nat) : Int) by omega]
   refine ⟨⟨by omega,by omega⟩,⟨i + 1,z25,z10 + 1,z26,rfl,by omega,by rw [hr25,hl]; simp,by rw [hr25]; simp; omega,?_⟩,hms _ _ _⟩
   rw [ses_app hr25,hrow,hI,hpt,bnot_t ho]; rfl
  ·rw [show ((i : Int) + (-18446744073709551616) * z14) + 1 = ((i + 1 : Nat) : Int) by omega]
   refine ⟨⟨by omega,by omega⟩,⟨i + 1,z9,z10,z11,rfl,by omega,hl,by omega,?_⟩,hms _ _ _⟩
   rw [hI,hpt,bnot_f ho]; simp
 ·have hge := of_decide_eq_false hge
  refine ⟨(whole_ses (z := z9) (y := 0) hl).1,fun z12 c0 c1 h12 => kk z12 c0 c1 ?_⟩
  rw [ses_same ((whole_ses (z := z9) hl).2 h12),hI,ht,hr,List.take_of_length_le (by omega)]; rfl
theorem p_xsF : B_xsF SB (KBb SB [dSS,.d .bool] 425) := by
 intro z0 a0 a1 z1 n0 n1 z2 _ z3 _ _ z4 b0 b1 h4
 have h4 : z4 = ((rOf z0).length : Int) := h4
 have hlen := ses_len z0
 have W := fun y => whole_ses (z := z0) (y := y) h4
 have kno : findS (ses z0) z1 = none -> KBb SB [dSS,.d .bool] 425 [[z0],[z1]] [[0,0,0,0,0,0,0,0,(cond (false) 1 0),0],[cond false 1 0]] := fun h => by
  refine ⟨⟨by decide,by decide,Int.le_refl _,HB_pos,Int.le_refl _,HB_pos,Int.le_refl _,HB_pos,Int.le_refl _,HB_pos,by decide,by decide,by decide,by decide,by decide,by decide,by decide,by decide,by decide,by decide,by decide,by decide,trivial⟩,?_⟩
  show (match findS (ses z0) z1 with | some b => _ /\ (0 : Int) = 1 | none => ([0,0,0,0,0,0,0,0,0,0] : List Int) = [0,0,0,0,0,0,0,0,0,0] /\ (0 : Int) = 0)
  rw [h]; exact ⟨rfl,rfl⟩
 refine ⟨ReI z0 (fun s => decide (s.id = z1)),RsM z0,⟨0,rfl,Nat.zero_le _,fun j h => absurd h (Nat.not_lt_zero j)⟩,?_⟩
 rintro z6 _ _ ⟨i,e,hi,hI⟩
 obtain rfl : z6 = i := by simpa using e
 refine ⟨fun hlt => ?_,fun hge => kno ?_⟩
 rotate_left
 ·have hge := of_decide_eq_false hge
  unfold findS
  cases rightS (ses z0) with
  | false => rfl
  | true => exact findS_no fun j hj => hI j (by omega)
 have hlt := of_decide_eq_true hlt
 have hil : i < (rOf z0).length := by omega
 have ck : chkD 30 [(i : Int),z4] := ⟨by omega,by omega⟩
 have ck2 : chkD 21 [z0,(i : Int)] := ⟨by omega,by omega⟩
 refine ⟨(W 0).1,fun z7 _ _ h7 z8 _ _ h8 => ?_⟩
 have h8 : z8 = b01 (rightS (ses z7)) := h8
 rw [ses_same ((W z7).2 h7)] at h8
 have h8 := b01_dec h8
 refine ⟨fun hr => ⟨ck,ck2,fun z9 _ _ h9 => ?_⟩,fun hr => kno (by unfold findS; rw [<- h8,hr]; rfl)⟩
 have hr : rightS (ses z0) = true := h8.symm.trans hr
 have hid : z9 = ((ses z0).getD i se0).id := by rw [ses_get hil,h9]; rfl
 refine ⟨fun hq => ⟨ck,ck2,fun z10 e0 e1 h10 z11 f0 f1 h11 z12 g0 g1 h12 z13 i0 i1 h13 z14 j0 j1 h14 z15 k0 k1 h15 z16 l0 l1 h16 z17 m0 m1 h17 z18 o0 o1 h18 z19 q0 q1 h19 => ?_⟩,fun hq z10 x0 x1 x2 x3 => ⟨⟨by omega,by omega⟩,⟨i + 1,by rw [show ((i : Int) + (-18446744073709551616) * z10) + 1 = ((i + 1 : Nat) : Int) by omega],by omega,fun j hj => ?_⟩,?_⟩⟩
 ·rw [cond_bit o0 o1]
  refine ⟨⟨e0,e1,f0,f1,g0,g1,i0,i1,j0,j1,k0,k1,l0,l1,m0,m1,o0,o1,q0,q1,by decide,by decide,trivial⟩,?_⟩
  show (match findS (ses z0) z1 with | some b => seOf [z10,z11,z12,z13,z14,z15,z16,z17,z18,z19] = b /\ (1 : Int) = 1 | none => _ /\ (1 : Int) = 0)
  unfold findS
  rw [hr,cond_true,findS_at (p := fun s => decide (s.id = z1)) (i := i) (by omega) (by rw [<- hid]; exact hq) hI]
  exact ⟨row_se (k := i) rfl hil h10 h11 h12 h13 h14 h15 h16 h17 h18 h19,rfl⟩
 ·rcases Nat.lt_or_ge j i with h | h
  ·exact hI j h
  ·obtain rfl : j = i := by omega
   show decide (((ses z0).getD j se0).id = z1) = false
   rw [<- hid]; exact hq
 ·show (ses z0).length - (((i : Int) + (-18446744073709551616) * z10) + 1).toNat < (ses z0).length - ((i : Int)).toNat; omega
def plP (n : Int) (w s : Se) : Bool := decide (s.id = w.id) && (decide (s.sec = w.sec) && !oldF s n)
theorem p_xsl : B_xsl SB (KBb SB [.d (.int .i64 (-1) 9223372036854775807)] 426) := by
 intro z0 a0 a1 z1 n0 n1 r2 hr2 z12 _ z13 _ _ z14 b0 b1 h14
 have h14 : z14 = ((rOf z0).length : Int) := h14
 have hlen := ses_len z0
 have kk : ∀ i : Int,(-1) <= i -> i <= 9223372036854775807 -> (i = match (ses z0).findIdx? (plP z1 (seOf r2)) with | some k => (k : Int) | none => -1) -> KBb SB [.d (.int .i64 (-1) 9223372036854775807)] 426 [[z0],[z1],r2] [[i]] := fun i i0 i1 h => ⟨⟨i0,i1,trivial⟩,h⟩
 refine ⟨ReI z0 (plP z1 (seOf r2)),RsM z0,⟨0,rfl,Nat.zero_le _,fun j h => absurd h (Nat.not_lt_zero j)⟩,?_⟩
 rintro z16 _ c1 ⟨i,e,hi,hI⟩
 obtain rfl : z16 = i := by simpa using e
 refine ⟨fun hlt => ?_,fun hge => kk (-1) (by decide) (by decide) ?_⟩
 rotate_left
 ·have hge := of_decide_eq_false hge
  rw [findIdx_no fun j hj => hI j (by omega)]
 have hlt := of_decide_eq_true hlt
 have hil : i < (rOf z0).length := by omega
 have ck : chkD 30 [(i : Int),z14] := ⟨by omega,by omega⟩
 have ck2 : chkD 21 [z0,(i : Int)] := ⟨by omega,by omega⟩
 have hstep : plP z1 (seOf r2) ((ses z0).getD i se0) = false -> ∀ z : Int,0 <= z -> z <= 1 -> 0 <= ((i : Int) + 9223372036854775809) - 18446744073709551616 * z -> ((i : Int) + 9223372036854775809) - 18446744073709551616 * z < 18446744073709551616 -> chkD 39 [(((i : Int) + (-18446744073709551616) * z) + 1),0,9223372036854775807] /\ (ReI z0 (plP z1 (seOf r2)) [[(((i : Int) + (-18446744073709551616) * z) + 1)]] /\ RsM z0 [[(((i : Int) + (-18446744073709551616) * z) + 1)]] < RsM z0 [[(i : Int)]]) := fun hf z x0 x1 x2 x3 => by
  rw [show ((i : Int) + (-18446744073709551616) * z) + 1 = ((i + 1 : Nat) : Int) by omega]
  refine ⟨⟨by omega,by omega⟩,⟨i + 1,rfl,by omega,fun j hj => ?_⟩,?_⟩
  ·rcases Nat.lt_or_ge j i with h | h
   ·exact hI j h
   ·obtain rfl : j = i := by omega
    exact hf
  ·show (ses z0).length - (((i + 1 : Nat) : Int)).toNat < (ses z0).length - ((i : Int)).toNat; omega
 refine ⟨ck,ck2,fun z17 _ _ h17 => ?_⟩
 have hid : z17 = ((ses z0).getD i se0).id := by rw [ses_get hil,h17]; rfl
 have hpl : plP z1 (seOf r2) ((ses z0).getD i se0) = (decide (z17 = r2.getD 0 0) && (decide (((ses z0).getD i se0).sec = sOf (r2.getD 1 0)) && !oldF ((ses z0).getD i se0) z1)) := by rw [hid]; rfl
 refine ⟨fun h1 => ⟨ck,ck2,fun z18 _ _ h18 z19 _ _ h19 => ?_⟩,fun h1 => hstep (by rw [hpl,h1]; rfl)⟩
 have hsec : sOf z18 = ((ses z0).getD i se0).sec := by rw [ses_get hil,h18]; rfl
 have h19 := eq_dec h19
 rw [hsec] at h19
 rw [h1,Bool.true_and,<- h19] at hpl
 refine ⟨fun h2 => ⟨ck,ck2,fun z20 _ _ h20 z21 y0 y1 y2 y3 => ?_⟩,fun h2 => hstep (by rw [hpl,h2]; rfl)⟩
 have hsi : ((ses z0).getD i se0).since = z20 := by rw [ses_get hil,h20]; rfl
 rw [h2,Bool.true_and] at hpl
 rw [le_old (s := (ses z0).getD i se0) hsi y2 y3]
 refine ⟨fun ho => kk i (by omega) c1 ?_,fun ho => hstep (by rw [hpl,ho])⟩
 rw [findIdx_at (by omega) (hpl.trans ho) hI]
end Go.Ad
set_option maxRecDepth 100000
set_option linter.unusedVariables false
set_option linter.unusedSimpArgs false
namespace Go.Ad
open Go Go.Rx
def B_xsH (S : Nat -> List (List Int) -> List (List Int) -> Prop) (K : List (List Int) -> List (List Int) -> Prop) : Prop :=
 ∀ z0 : Int,0 <= z0 -> z0 <= RB -> ∀ z1 : Int,(-9223372036854775808) <= z1 -> z1 <= 9223372036854775807 -> ∀ r2 : List Int,inB [((-9223372036854775808),9223372036854775807),(0,HB),(0,HB),(0,HB),(0,HB),((-9223372036854775808),9223372036854775807),((-9223372036854775808),9223372036854775807),((-9223372036854775808),9223372036854775807),(0,1),((-9223372036854775808),9223372036854775807)] r2 ->
 ∀ z12 : Int,0 <= z12 ->
 ∀ z13 : Int,(-1) <= z13 -> z13 <= 9223372036854775807 ->
 ∀ z14 : Int,0 <= z14 -> z14 <= 9223372036854775807 -> z14 = fnD 20 [z0] ->
 chkD 22 [z0,0,z14] /\
 ∀ z15 : Int,0 <= z15 -> z15 <= RB -> z15 = fnD 22 [z0,0,z14] ->
 ∀ z16 : Int,0 <= z16 -> z16 <= 1 -> S 423 [[z15]] [[z16]] ->
 ((((!(decide (z16 = 1)))) = true ->
  K [[z0],[z1],r2] [[0,0],[1]]
 ) /\ (((!(decide (z16 = 1)))) = false ->
  (((decide (0 <= z1)) = true ->
   ((((!(decide (z1 <= 1099511627776)))) = true ->
    K [[z0],[z1],r2] [[0,0],[1]]
   ) /\ (((!(decide (z1 <= 1099511627776)))) = false ->
    chkD 22 [z0,0,z14] /\
    ∀ z17 : Int,0 <= z17 -> z17 <= RB -> z17 = fnD 22 [z0,0,z14] ->
    ∀ z18 : Int,0 <= z18 -> z18 <= 1 -> decide ((List.getD r2 8 0) = 1) = decide (z18 = 1) ->
    ∀ z19 : Int,(-1) <= z19 -> z19 <= 9223372036854775807 -> S 426 [[z17],[z1],[(List.getD r2 0 0),(List.getD r2 1 0),(List.getD r2 2 0),(List.getD r2 3 0),(List.getD r2 4 0),(List.getD r2 5 0),(List.getD r2 6 0),(List.getD r2 7 0),z18,(List.getD r2 9 0)]] [[z19]] ->
    (((decide (z19 < 0)) = true ->
     K [[z0],[z1],r2] [[0,0],[11]]
    ) /\ ((decide (z19 < 0)) = false ->
     chkD 30 [z19,z14] /\
     chkD 21 [z0,z19] /\
     ∀ z20 : Int,0 <= z20 -> z20 <= 1 -> z20 = fnD 21 [z0,z19,8] ->
     ((((!(decide (z20 = 1)))) = true ->
      K [[z0],[z1],r2] [[0,0],[14]]
     ) /\ (((!(decide (z20 = 1)))) = false ->
      chkD 30 [z19,z14] /\
      chkD 21 [z0,z19] /\
      ∀ z21 : Int,0 <= z21 -> z21 <= HB -> z21 = fnD 21 [z0,z19,2] ->
      ∀ z22 : Int,0 <= z22 -> z22 <= HB -> z22 = fnD 21 [z0,z19,3] ->
      K [[z0],[z1],r2] [[z21,z22],[0]]
     ))
    ))
   ))
  ) /\ ((decide (0 <= z1)) = false ->
   K [[z0],[z1],r2] [[0,0],[1]]
  ))
 ))
def B_xsS (S : Nat -> List (List Int) -> List (List Int) -> Prop) (K : List (List Int) -> List (List Int) -> Prop) : Prop :=
 ∀ z0 : Int,0 <= z0 -> z0 <= RB -> ∀ z1 : Int,(-9223372036854775808) <= z1 -> z1 <= 9223372036854775807 -> ∀ r2 : List Int,inB [((-9223372036854775808),9223372036854775807),(0,HB),(0,HB),(0,HB),(0,HB),((-9223372036854775808),9223372036854775807),((-9223372036854775808),9223372036854775807),((-9223372036854775808),9223372036854775807),(0,1),((-9223372036854775808),9223372036854775807)] r2 ->
 ∀ z12 : Int,0 <= z12 ->
 ∀ z13 : Int,(-1) <= z13 -> z13 <= 9223372036854775807 ->
 ∀ z14 : Int,0 <= z14 -> z14 <= 9223372036854775807 -> z14 = fnD 20 [z0] ->
 chkD 22 [z0,0,z14] /\
 ∀ z15 : Int,0 <= z15 -> z15 <= RB -> z15 = fnD 22 [z0,0,z14] ->
 ∀ z16 : Int,0 <= z16 -> z16 <= 1 -> S 423 [[z15]] [[z16]] ->
 ((((!(decide (z16 = 1)))) = true ->
  chkD 22 [z0,0,z14] /\
  ∀ z17 : Int,0 <= z17 -> z17 <= RB -> z17 = fnD 22 [z0,0,z14] ->
  K [[z0],[z1],r2] [[z17],[1]]
 ) /\ (((!(decide (z16 = 1)))) = false ->
  (((decide (0 <= z1)) = true ->
   ((((!(decide (z1 <= 1099511627776)))) = true ->
    chkD 22 [z0,0,z14] /\
    ∀ z17 : Int,0 <= z17 -> z17 <= RB -> z17 = fnD 22 [z0,0,z14] ->
    K [[z0],[z1],r2] [[z17],[1]]
   ) /\ (((!(decide (z1 <= 1099511627776)))) = false ->
    chkD 22 [z0,0,z14] /\
    ∀ z17 : Int,0 <= z17 -> z17 <= RB -> z17 = fnD 22 [z0,0,z14] ->
    ∀ z18 : Int,0 <= z18 -> z18 <= 1 -> decide ((List.getD r2 8 0) = 1) = decide (z18 = 1) ->
    ∀ z19 : Int,(-1) <= z19 -> z19 <= 9223372036854775807 -> S 426 [[z17],[z1],[(List.getD r2 0 0),(List.getD r2 1 0),(List.getD r2 2 0),(List.getD r2 3 0),(List.getD r2 4 0),(List.getD r2 5 0),(List.getD r2 6 0),(List.getD r2 7 0),z18,(List.getD r2 9 0)]] [[z19]] ->
    (((decide (z19 < 0)) = true ->
     chkD 22 [z0,0,z14] /\
     ∀ z20 : Int,0 <= z20 -> z20 <= RB -> z20 = fnD 22 [z0,0,z14] ->
     K [[z0],[z1],r2] [[z20],[11]]
    ) /\ ((decide (z19 < 0)) = false ->
     chkD 30 [z19,z14] /\
     chkD 21 [z0,z19] /\
     ∀ z20 : Int,(-9223372036854775808) <= z20 -> z20 <= 9223372036854775807 -> z20 = fnD 21 [z0,z19,7] ->
     (((decide (z20 = 3)) = true ->
      chkD 22 [z0,0,z14] /\
      ∀ z21 : Int,0 <= z21 -> z21 <= RB -> z21 = fnD 22 [z0,0,z14] ->
      K [[z0],[z1],r2] [[z21],[16]]
     ) /\ ((decide (z20 = 3)) = false ->
      chkD 22 [z0,0,z14] /\
      chkD 23 [0,z14] /\
      ∀ z21 : Int,0 <= z21 -> z21 <= RB -> z21 = fnD 22 [z0,0,z14] ->
      ∀ z22 : Int,0 <= z22 -> z22 <= RB -> z22 = fnD 24 [0,z21] ->
      (((decide (z14 <= 0)) = true ->
       chkD 30 [z19,z14] /\
       chkD 21 [z0,z19] /\
       ∀ z23 : Int,0 <= z23 -> z23 <= HB -> z23 = fnD 21 [z0,z19,4] ->
       ∀ z24 : Int,0 <= z24 -> z24 <= 1 -> z24 = fnD 4 [z23,(List.getD r2 4 0)] ->
       ((((!(decide (z24 = 1)))) = true ->
        chkD 30 [z19,z14] /\
        chkD 21 [z0,z19] /\
        ∀ z25 : Int,(-9223372036854775808) <= z25 -> z25 <= 9223372036854775807 -> z25 = fnD 21 [z0,z19,7] ->
        ∀ z26 : Int,0 <= z26 -> z26 <= 1 -> 0 <= (z25 + 9223372036854775809) - 18446744073709551616 * z26 -> (z25 + 9223372036854775809) - 18446744073709551616 * z26 < 18446744073709551616 ->
        False
       ) /\ (((!(decide (z24 = 1)))) = false ->
        chkD 30 [z19,z14] /\
        chkD 21 [z0,z19] /\
        ∀ z25 : Int,0 <= z25 -> z25 <= 1 -> z25 = fnD 21 [z0,z19,8] ->
        ((((!(decide (z25 = 1)))) = true ->
         False
        ) /\ (((!(decide (z25 = 1)))) = false ->
         K [[z0],[z1],r2] [[0],[0]]
        ))
       ))
      ) /\ ((decide (z14 <= 0)) = false ->
       ∀ z23 : Int,(-1) <= z23 -> z23 <= 9223372036854775807 ->
       chkD 30 [z19,z14] /\
       chkD 21 [z0,z19] /\
       ∀ z24 : Int,0 <= z24 -> z24 <= HB -> z24 = fnD 21 [z0,z19,4] ->
       ∀ z25 : Int,0 <= z25 -> z25 <= 1 -> z25 = fnD 4 [z24,(List.getD r2 4 0)] ->
       ((((!(decide (z25 = 1)))) = true ->
        chkD 30 [z19,z14] /\
        chkD 21 [z0,z19] /\
        ∀ z26 : Int,(-9223372036854775808) <= z26 -> z26 <= 9223372036854775807 -> z26 = fnD 21 [z0,z19,7] ->
        ∀ z27 : Int,0 <= z27 -> z27 <= 1 -> 0 <= (z26 + 9223372036854775809) - 18446744073709551616 * z27 -> (z26 + 9223372036854775809) - 18446744073709551616 * z27 < 18446744073709551616 ->
        chkD 30 [z19,z14] /\
        chkD 21 [z22,z19] /\
        (chkD 67 [z22,z19,10] ->
        ∀ z28 : Int,0 <= z28 -> z28 <= RB -> z28 = fnD 42 [z22,z19,7,((z26 + ((-18446744073709551616) * z27)) + 1)] ->
        chkD 22 [z28,0,z14] /\
        ∀ z29 : Int,0 <= z29 -> z29 <= RB -> z29 = fnD 22 [z28,0,z14] ->
        K [[z0],[z1],r2] [[z29],[12]]
        )
       ) /\ (((!(decide (z25 = 1)))) = false ->
        chkD 30 [z19,z14] /\
        chkD 21 [z0,z19] /\
        ∀ z26 : Int,0 <= z26 -> z26 <= 1 -> z26 = fnD 21 [z0,z19,8] ->
        ((((!(decide (z26 = 1)))) = true ->
         chkD 30 [z19,z14] /\
         chkD 21 [z22,z19] /\
         (chkD 67 [z22,z19,10] ->
         ∀ z27 : Int,0 <= z27 -> z27 <= RB -> z27 = fnD 42 [z22,z19,8,1] ->
         chkD 30 [z19,z14] /\
         chkD 21 [z27,z19] /\
         (chkD 67 [z27,z19,10] ->
         ∀ z28 : Int,0 <= z28 -> z28 <= RB -> z28 = fnD 42 [z27,z19,9,z1] ->
         chkD 22 [z28,0,z14] /\
         ∀ z29 : Int,0 <= z29 -> z29 <= RB -> z29 = fnD 22 [z28,0,z14] ->
         K [[z0],[z1],r2] [[z29],[0]]
         )
         )
        ) /\ (((!(decide (z26 = 1)))) = false ->
         chkD 22 [z22,0,z14] /\
         ∀ z27 : Int,0 <= z27 -> z27 <= RB -> z27 = fnD 22 [z22,0,z14] ->
         K [[z0],[z1],r2] [[z27],[0]]
        ))
       ))
      ))
     ))
    ))
   ))
  ) /\ ((decide (0 <= z1)) = false ->
   chkD 22 [z0,0,z14] /\
   ∀ z17 : Int,0 <= z17 -> z17 <= RB -> z17 = fnD 22 [z0,0,z14] ->
   K [[z0],[z1],r2] [[z17],[1]]
  ))
 ))
theorem open_pl {l : List Se} {n : Int} {w : Se} (hr : rightS l = true) (ht : timedF n = true) : openF l n w = match l.findIdx? (plP n w) with
 | some k => (k,0)
 | none => (0,11) := by
 unfold openF
 rw [ht,hr]
 simp only [Bool.and_self,cond_true]
 cases hf : l.findIdx? (fun s => decide (s.id = w.id)) with
 | none =>
  have h := List.findIdx?_eq_none_iff.1 hf
  rw [findIdx_no fun j hj => ?_]
  have := h (l.getD j se0) (by simp [List.getD,hj])
  unfold plP; rw [this]; rfl
 | some i =>
  obtain ⟨hi,h1,h2⟩ := List.findIdx?_eq_some_iff_getElem.1 hf
  have hg : l.getD i se0 = l[i] := by simp [List.getD,hi]
  have h1 : (l.getD i se0).id = w.id := by rw [hg]; exact of_decide_eq_true h1
  have huniq : ∀ j,j < l.length -> j ≠ i -> (l.getD j se0).id ≠ w.id := fun j hj hne => by
   rcases Nat.lt_or_ge j i with h | h
   ·have := rise hr h hi; omega
   ·have := rise hr (show i < j by omega) hj; omega
  have hne : ∀ j,j < l.length -> j ≠ i -> plP n w (l.getD j se0) = false := fun j hj hn => by
   unfold plP; rw [decide_eq_false (huniq j hj hn)]; rfl
  simp only
  cases hc : (decide ((l.getD i se0).sec = w.sec) && !oldF (l.getD i se0) n) with
  | true =>
   rw [findIdx_at hi (by unfold plP; rw [decide_eq_true h1,hc]; rfl) (fun j hj => hne j (by omega) (by omega))]
   rfl
  | false =>
   rw [findIdx_no fun j hj => ?_]
   ·rfl
   ·by_cases hji : j = i
    ·subst hji; unfold plP; rw [hc,Bool.and_false]
    ·exact hne j hj hji
theorem p_xsH : B_xsH SB (KBb SB [.d (.mix [.str,.str]),dE] 428) := by
 intro z0 a0 a1 z1 n0 n1 r2 hr2 z12 _ z13 _ _ z14 b0 b1 h14
 have h14 : z14 = ((rOf z0).length : Int) := h14
 have hlen := ses_len z0
 have hb8' : 0 <= r2.getD 8 0 /\ r2.getD 8 0 <= 1 := by
  obtain ⟨x0,x1,x2,x3,x4,x5,x6,x7,x8,x9,rfl,hb8⟩ := inB10 hr2
  exact hb8
 have kk : ∀ a b e : Int,0 <= a -> a <= HB -> 0 <= b -> b <= HB -> 0 <= e -> e <= 21 -> ((sOf a,sOf b),e) = shownF (ses z0) z1 (seOf r2) -> KBb SB [.d (.mix [.str,.str]),dE] 428 [[z0],[z1],r2] [[a,b],[e]] := fun a b e i0 i1 j0 j1 e0 e1 h => ⟨⟨i0,i1,j0,j1,e0,e1,trivial⟩,h⟩
 have W := fun y => whole_ses (z := z0) (y := y) h14
 have hs0 : sOf (0 : Int) = [] := by decide
 have kbad : timedF z1 = false ∨ rightS (ses z0) = false -> KBb SB [.d (.mix [.str,.str]),dE] 428 [[z0],[z1],r2] [[0,0],[1]] := fun h => kk 0 0 1 (Int.le_refl _) HB_pos (Int.le_refl _) HB_pos (by decide) (by decide) (by unfold shownF; rw [openF_no h,hs0]; rfl)
 refine ⟨(W 0).1,fun z15 _ _ h15 z16 _ _ h16 => ?_⟩
 have h16 : z16 = b01 (rightS (ses z15)) := h16
 rw [ses_same ((W z15).2 h15)] at h16
 refine ⟨fun hn => kbad (.inr (nt_of h16 hn)),fun hn => ⟨fun h0 => ⟨fun h1 => kbad (.inl ?_),fun h1 => ⟨(W 0).1,fun z17 _ _ h17 z18 c0 c1 h18 z19 _ _ hP => ?_⟩⟩,fun h0 => kbad (.inl (by unfold timedF; rw [h0]; rfl))⟩⟩
 ·unfold timedF; rw [bnot_t h1,Bool.and_false]
 have ht : timedF z1 = true := by unfold timedF; rw [h0,bnot_f h1]; rfl
 have hr := nf_of h16 hn
 have h18 := bit_eq hb8'.1 hb8'.2 c0 c1 h18
 have hP : z19 = match (ses z17).findIdx? (plP z1 (seOf [r2.getD 0 0,r2.getD 1 0,r2.getD 2 0,r2.getD 3 0,r2.getD 4 0,r2.getD 5 0,r2.getD 6 0,r2.getD 7 0,z18,r2.getD 9 0])) with | some k => (k : Int) | none => -1 := hP
 rw [se_bit h18,ses_same ((W z17).2 h17)] at hP
 have hO := open_pl (w := seOf r2) hr ht
 cases hf : (ses z0).findIdx? (plP z1 (seOf r2)) with
 | none =>
  rw [hf] at hP hO
  simp only at hP hO
  refine ⟨fun _ => kk 0 0 11 (Int.le_refl _) HB_pos (Int.le_refl _) HB_pos (by decide) (by decide) (by unfold shownF; rw [hO,hs0]; rfl),fun h => absurd hP (fun e => by have := of_decide_eq_false h; omega)⟩
 | some k =>
  rw [hf] at hP hO
  simp only at hP hO
  subst hP
  have hlt := (List.findIdx?_eq_some_iff_getElem.1 hf).1
  have hkl : k < (rOf z0).length := by omega
  have ck : chkD 30 [(k : Int),z14] := ⟨by omega,by omega⟩
  have ck2 : chkD 21 [z0,(k : Int)] := ⟨by omega,by omega⟩
  have hS : shownF (ses z0) z1 (seOf r2) = cond (decide (((ses z0).getD k se0).shown = 1)) (((ses z0).getD k se0).who,0) (([],[]),14) := by unfold shownF; rw [hO]; rfl
  refine ⟨fun h => absurd (of_decide_eq_true h) (by omega),fun _ => ⟨ck,ck2,fun z20 _ _ h20 => ?_⟩⟩
  have hsh : ((ses z0).getD k se0).shown = z20 := by rw [ses_get hkl,h20]; rfl
  rw [hsh] at hS
  refine ⟨fun hq => kk 0 0 14 (Int.le_refl _) HB_pos (Int.le_refl _) HB_pos (by decide) (by decide) (by rw [hS,bnot_t hq,hs0]; rfl),fun hq => ⟨ck,ck2,fun z21 f0 f1 h21 z22 g0 g1 h22 => kk z21 z22 0 f0 f1 g0 g1 (by decide) (by decide) ?_⟩⟩
  rw [hS,bnot_f hq,ses_get hkl,h21,h22]; rfl
theorem p_xsS : B_xsS SB (KBb SB [rSS,dE] 427) := by
 intro z0 a0 a1 z1 n0 n1 r2 hr2 z12 _ z13 _ _ z14 b0 b1 h14
 have h14 : z14 = ((rOf z0).length : Int) := h14
 have hlen := ses_len z0
 have hb8' : 0 <= r2.getD 8 0 /\ r2.getD 8 0 <= 1 := by
  obtain ⟨x0,x1,x2,x3,x4,x5,x6,x7,x8,x9,rfl,hb8⟩ := inB10 hr2
  exact hb8
 have kk : ∀ y e : Int,0 <= y -> y <= RB -> 0 <= e -> e <= 21 -> (ses y,e) = submitF (ses z0) z1 (seOf r2) -> KBb SB [rSS,dE] 427 [[z0],[z1],r2] [[y],[e]] := fun y e i0 i1 e0 e1 h => ⟨⟨i0,i1,e0,e1,trivial⟩,h⟩
 have W := fun y => whole_ses (z := z0) (y := y) h14
 have kno : ∀ e : Int,0 <= e -> e <= 21 -> submitF (ses z0) z1 (seOf r2) = (ses z0,e) -> ∀ y : Int,0 <= y -> y <= RB -> y = fnD 22 [z0,0,z14] -> KBb SB [rSS,dE] 427 [[z0],[z1],r2] [[y],[e]] := fun e e0 e1 h y y0 y1 hy => kk y e y0 y1 e0 e1 (by rw [h,ses_same ((W y).2 hy)])
 have kbad : timedF z1 = false ∨ rightS (ses z0) = false -> ∀ y : Int,0 <= y -> y <= RB -> y = fnD 22 [z0,0,z14] -> KBb SB [rSS,dE] 427 [[z0],[z1],r2] [[y],[1]] := fun h => kno 1 (by decide) (by decide) (by unfold submitF; rw [openF_no h]; rfl)
 refine ⟨(W 0).1,fun z15 _ _ h15 z16 _ _ h16 => ?_⟩
 have h16 : z16 = b01 (rightS (ses z15)) := h16
 rw [ses_same ((W z15).2 h15)] at h16
 refine ⟨fun hn => ⟨(W 0).1,kbad (.inr (nt_of h16 hn))⟩,fun hn => ⟨fun h0 => ⟨fun h1 => ⟨(W 0).1,kbad (.inl ?_)⟩,fun h1 => ⟨(W 0).1,fun z17 _ _ h17 z18 c0 c1 h18 z19 _ _ hP => ?_⟩⟩,fun h0 => ⟨(W 0).1,kbad (.inl (by unfold timedF; rw [h0]; rfl))⟩⟩⟩
 ·unfold timedF; rw [bnot_t h1,Bool.and_false]
 have ht : timedF z1 = true := by unfold timedF; rw [h0,bnot_f h1]; rfl
 have hr := nf_of h16 hn
 have h18 := bit_eq hb8'.1 hb8'.2 c0 c1 h18
 have hP : z19 = match (ses z17).findIdx? (plP z1 (seOf [r2.getD 0 0,r2.getD 1 0,r2.getD 2 0,r2.getD 3 0,r2.getD 4 0,r2.getD 5 0,r2.getD 6 0,r2.getD 7 0,z18,r2.getD 9 0])) with | some k => (k : Int) | none => -1 := hP
 rw [se_bit h18,ses_same ((W z17).2 h17)] at hP
 have hO := open_pl (w := seOf r2) hr ht
 cases hf : (ses z0).findIdx? (plP z1 (seOf r2)) with
 | none =>
  rw [hf] at hP hO
  simp only at hP hO
  refine ⟨fun _ => ⟨(W 0).1,kno 11 (by decide) (by decide) (by unfold submitF; rw [hO]; rfl)⟩,fun h => absurd hP (fun e => by have := of_decide_eq_false h; omega)⟩
 | some k =>
  rw [hf] at hP hO
  simp only at hP hO
  subst hP
  have hlt := (List.findIdx?_eq_some_iff_getElem.1 hf).1
  have hkl : k < (rOf z0).length := by omega
  have h16l := ((rightS_iff _).1 hr).1
  have ck : chkD 30 [(k : Int),z14] := ⟨by omega,by omega⟩
  have ck2 : ∀ c : Int,(rOf c).length = (rOf z0).length -> chkD 21 [c,(k : Int)] := fun c hc => ⟨by omega,by rw [hc]; omega⟩
  have hS : submitF (ses z0) z1 (seOf r2) = submitS (ses z0) z1 (seOf r2) k ((ses z0).getD k se0) := by unfold submitF; rw [hO]; rfl
  have hbd := seOk_bd (right_at hr hlt)
  refine ⟨fun h => absurd (of_decide_eq_true h) (by omega),fun _ => ⟨ck,ck2 _ rfl,fun z20 _ _ h20 => ?_⟩⟩
  have hw : ((ses z0).getD k se0).wrong = z20 := by rw [ses_get hkl,h20]; rfl
  unfold submitS at hS
  rw [hw] at hS
  refine ⟨fun hq => ⟨(W 0).1,kno 16 (by decide) (by decide) (by rw [hS,hq]; rfl)⟩,fun hq => ⟨(W 0).1,by show (rOf 0).length + z14 <= 1073741824; rw [Go.Rx.rOf_zero]; simp; omega,fun z21 _ _ h21 z22 _ _ h22 => ⟨fun hz => absurd (of_decide_eq_true hz) (by omega),fun _ z23 _ _ => ?_⟩⟩⟩
  rw [hq,cond_false] at hS
  have hr22 := copy_rows ((W z21).2 h21) h22
  have hs22 := ses_same hr22
  have hl22 : (rOf z22).length = (rOf z0).length := by rw [hr22]
  refine ⟨ck,ck2 _ rfl,fun z24 _ _ h24 z25 _ _ h25 => ?_⟩
  have htk : ((ses z0).getD k se0).tok = sOf z24 := by rw [ses_get hkl,h24]; rfl
  have h25 := eq_dec h25
  have htd : decide (((ses z0).getD k se0).tok = (seOf r2).tok) = decide (z25 = 1) := by rw [htk,h25]; rfl
  rw [htd] at hS
  refine ⟨fun hm => ⟨ck,ck2 _ rfl,fun z26 _ _ h26 z27 x0 x1 x2 x3 => ⟨ck,ck2 _ hl22,fun hrw z28 _ _ h28 => ?_⟩⟩,fun hm => ⟨ck,ck2 _ rfl,fun z26 _ _ h26 => ?_⟩⟩
  ·rw [bnot_t hm,cond_false] at hS
   have h26 : z26 = z20 := by rw [<- hw,ses_get hkl,h26]; rfl
   obtain ⟨p1,p2⟩ := put_wrong (k := k) rfl (by omega) hrw h28
   refine ⟨(whole_ses (z := z28) (n := z14) (y := 0) (by omega)).1,fun z29 f0 f1 h29 => kk z29 12 f0 f1 (by decide) (by decide) ?_⟩
   rw [ses_same ((whole_ses (z := z28) (n := z14) (by omega)).2 h29),p1,hs22,hS,show (z26 + (-18446744073709551616) * z27) + 1 = z20 + 1 by omega]
  ·rw [bnot_f hm,cond_true] at hS
   have hsh : ((ses z0).getD k se0).shown = z26 := by rw [ses_get hkl,h26]; rfl
   rw [hsh] at hS
   refine ⟨fun hq2 => ⟨ck,ck2 _ hl22,fun hrw z27 _ _ h27 => ?_⟩,fun hq2 => ?_⟩
   ·rw [bnot_t hq2,cond_false] at hS
    obtain ⟨p1,p2⟩ := put_shown (k := k) rfl (by omega) hrw h27
    refine ⟨ck,ck2 _ (by omega),fun hrw2 z28 _ _ h28 => ?_⟩
    obtain ⟨p3,p4⟩ := put_shAt (k := k) rfl (by omega) hrw2 h28
    refine ⟨(whole_ses (z := z28) (n := z14) (y := 0) (by omega)).1,fun z29 f0 f1 h29 => kk z29 0 f0 f1 (by decide) (by decide) ?_⟩
    rw [ses_same ((whole_ses (z := z28) (n := z14) (by omega)).2 h29),p3,p1,hs22,hS,List.set_set]
    have : ((ses z0).set k { (ses z0).getD k se0 with shown := 1 }).getD k se0 = { (ses z0).getD k se0 with shown := 1 } := by simp [List.getD,hlt]
    rw [this,<- hw]
    try rfl
   ·rw [bnot_f hq2,cond_true] at hS
    refine ⟨(whole_ses (z := z22) (n := z14) (y := 0) (by omega)).1,fun z27 f0 f1 h27 => kk z27 0 f0 f1 (by decide) (by decide) ?_⟩
    rw [ses_same ((whole_ses (z := z22) (n := z14) (by omega)).2 h27),hs22,hS]
end Go.Ad
set_option maxRecDepth 100000
set_option linter.unusedVariables false
set_option linter.unusedSimpArgs false
namespace Go.Ad
open Go Go.Rx
def B_xsQ (S : Nat -> List (List Int) -> List (List Int) -> Prop) (K : List (List Int) -> List (List Int) -> Prop) : Prop :=
 ∀ z0 : Int,0 <= z0 -> z0 <= RB -> ∀ r1 : List Int,inB [((-9223372036854775808),9223372036854775807),(0,HB),(0,HB),(0,HB),(0,HB),((-9223372036854775808),9223372036854775807),((-9223372036854775808),9223372036854775807),((-9223372036854775808),9223372036854775807),(0,1),((-9223372036854775808),9223372036854775807)] r1 ->
 ∀ z11 : Int,0 <= z11 ->
 ∀ z12 : Int,(-1) <= z12 -> z12 <= 9223372036854775807 ->
 ∀ z13 : Int,0 <= z13 -> z13 <= 9223372036854775807 -> z13 = fnD 20 [z0] ->
 chkD 22 [z0,0,z13] /\
 ∀ z14 : Int,0 <= z14 -> z14 <= RB -> z14 = fnD 22 [z0,0,z13] ->
 ∀ z15 : Int,0 <= z15 -> z15 <= 1 -> S 423 [[z14]] [[z15]] ->
 ((((!(decide (z15 = 1)))) = true ->
  chkD 22 [z0,0,z13] /\
  ∀ z16 : Int,0 <= z16 -> z16 <= RB -> z16 = fnD 22 [z0,0,z13] ->
  K [[z0],r1] [[z16],[0],[(cond (false) 1 0)],[1]]
 ) /\ (((!(decide (z15 = 1)))) = false ->
  ∀ z16 : Int,0 <= z16 -> z16 <= 1 -> decide ((List.getD r1 8 0) = 1) = decide (z16 = 1) ->
  ∀ z17 : Int,0 <= z17 -> z17 <= 1 -> S 422 [[(List.getD r1 0 0),(List.getD r1 1 0),(List.getD r1 2 0),(List.getD r1 3 0),(List.getD r1 4 0),(List.getD r1 5 0),(List.getD r1 6 0),(List.getD r1 7 0),z16,(List.getD r1 9 0)]] [[z17]] ->
  ((((!(decide (z17 = 1)))) = true ->
   chkD 22 [z0,0,z13] /\
   ∀ z18 : Int,0 <= z18 -> z18 <= RB -> z18 = fnD 22 [z0,0,z13] ->
   K [[z0],r1] [[z18],[0],[(cond (false) 1 0)],[1]]
  ) /\ (((!(decide (z17 = 1)))) = false ->
   ((((!(decide ((List.getD r1 7 0) = 0)))) = true ->
    chkD 22 [z0,0,z13] /\
    ∀ z18 : Int,0 <= z18 -> z18 <= RB -> z18 = fnD 22 [z0,0,z13] ->
    K [[z0],r1] [[z18],[0],[(cond (false) 1 0)],[1]]
   ) /\ (((!(decide ((List.getD r1 7 0) = 0)))) = false ->
    (((decide ((List.getD r1 8 0) = 1)) = true ->
     chkD 22 [z0,0,z13] /\
     ∀ z18 : Int,0 <= z18 -> z18 <= RB -> z18 = fnD 22 [z0,0,z13] ->
     K [[z0],r1] [[z18],[0],[(cond (false) 1 0)],[1]]
    ) /\ ((decide ((List.getD r1 8 0) = 1)) = false ->
     chkD 22 [z0,0,z13] /\
     ∀ z18 : Int,0 <= z18 -> z18 <= RB -> z18 = fnD 22 [z0,0,z13] ->
     ∀ z19 : Int,0 <= z19 -> z19 <= RB -> S 424 [[z18],[(List.getD r1 6 0)]] [[z19]] ->
     ∀ z20 : Int,(-1) <= z20 -> z20 <= 9223372036854775807 ->
     ∀ z21 : Int,0 <= z21 -> z21 <= 9223372036854775807 -> z21 = fnD 20 [z19] ->
     ∃ (I22 : List (List Int) -> Prop) (μ22 : List (List Int) -> Nat),I22 [[0]] /\ (∀ z23 : Int,0 <= z23 -> z23 <= 9223372036854775807 -> I22 [[z23]] ->
      (((decide (z23 < z21)) = true ->
       chkD 30 [z23,z21] /\
       chkD 21 [z19,z23] /\
       ∀ z24 : Int,0 <= z24 -> z24 <= HB -> z24 = fnD 21 [z19,z23,1] ->
       ∀ z25 : Int,0 <= z25 -> z25 <= 1 -> z25 = fnD 4 [z24,(List.getD r1 1 0)] ->
       (((decide (z25 = 1)) = true ->
        chkD 30 [z23,z21] /\
        chkD 21 [z19,z23] /\
        ∀ z26 : Int,0 <= z26 -> z26 <= HB -> z26 = fnD 21 [z19,z23,2] ->
        ∀ z27 : Int,0 <= z27 -> z27 <= HB -> z27 = fnD 21 [z19,z23,3] ->
        ∀ z28 : Int,0 <= z28 -> z28 <= 1 -> z28 = fnD 4 [z26,(List.getD r1 2 0)] ->
        ∀ z29 : Int,0 <= z29 -> z29 <= 1 -> z29 = fnD 4 [z27,(List.getD r1 3 0)] ->
        (((decide ([z28,z29] = [1,1])) = true ->
         chkD 30 [z23,z21] /\
         chkD 21 [z19,z23] /\
         ∀ z30 : Int,(-9223372036854775808) <= z30 -> z30 <= 9223372036854775807 -> z30 = fnD 21 [z19,z23,5] ->
         (((decide (z30 < (List.getD r1 5 0))) = true ->
          chkD 30 [z23,z21] /\
          chkD 21 [z19,z23] /\
          (chkD 67 [z19,z23,10] ->
          ∀ z31 : Int,0 <= z31 -> z31 <= RB -> z31 = fnD 42 [z19,z23,5,(List.getD r1 5 0)] ->
          chkD 30 [z23,z21] /\
          chkD 21 [z31,z23] /\
          ∀ z32 : Int,(-9223372036854775808) <= z32 -> z32 <= 9223372036854775807 -> z32 = fnD 21 [z31,z23,0] ->
          chkD 22 [z31,0,z21] /\
          ∀ z33 : Int,0 <= z33 -> z33 <= RB -> z33 = fnD 22 [z31,0,z21] ->
          K [[z0],r1] [[z33],[z32],[(cond (true) 1 0)],[0]]
          )
         ) /\ ((decide (z30 < (List.getD r1 5 0))) = false ->
          chkD 30 [z23,z21] /\
          chkD 21 [z19,z23] /\
          ∀ z31 : Int,(-9223372036854775808) <= z31 -> z31 <= 9223372036854775807 -> z31 = fnD 21 [z19,z23,0] ->
          chkD 22 [z19,0,z21] /\
          ∀ z32 : Int,0 <= z32 -> z32 <= RB -> z32 = fnD 22 [z19,0,z21] ->
          K [[z0],r1] [[z32],[z31],[(cond (false) 1 0)],[0]]
         ))
        ) /\ ((decide ([z28,z29] = [1,1])) = false ->
         ∀ z30 : Int,0 <= z30 -> z30 <= 1 -> 0 <= (z23 + 9223372036854775809) - 18446744073709551616 * z30 -> (z23 + 9223372036854775809) - 18446744073709551616 * z30 < 18446744073709551616 ->
         chkD 39 [((z23 + ((-18446744073709551616) * z30)) + 1),0,9223372036854775807] /\
         (I22 [[((z23 + ((-18446744073709551616) * z30)) + 1)]] /\ μ22 [[((z23 + ((-18446744073709551616) * z30)) + 1)]] < μ22 [[z23]])
        ))
       ) /\ ((decide (z25 = 1)) = false ->
        ∀ z26 : Int,0 <= z26 -> z26 <= 1 -> 0 <= (z23 + 9223372036854775809) - 18446744073709551616 * z26 -> (z23 + 9223372036854775809) - 18446744073709551616 * z26 < 18446744073709551616 ->
        chkD 39 [((z23 + ((-18446744073709551616) * z26)) + 1),0,9223372036854775807] /\
        (I22 [[((z23 + ((-18446744073709551616) * z26)) + 1)]] /\ μ22 [[((z23 + ((-18446744073709551616) * z26)) + 1)]] < μ22 [[z23]])
       ))
      ) /\ ((decide (z23 < z21)) = false ->
       ∃ (I24 : List (List Int) -> Prop) (μ24 : List (List Int) -> Nat),I24 [[0],[0]] /\ (∀ z25 : Int,0 <= z25 -> z25 <= 9223372036854775807 -> ∀ z26 : Int,0 <= z26 -> z26 <= 9223372036854775807 -> I24 [[z25],[z26]] ->
        (((decide (z26 < z21)) = true ->
         chkD 30 [z26,z21] /\
         chkD 21 [z19,z26] /\
         ∀ z27 : Int,(-9223372036854775808) <= z27 -> z27 <= 9223372036854775807 -> z27 = fnD 21 [z19,z26,0] ->
         (((decide (z27 = (List.getD r1 0 0))) = true ->
          chkD 22 [z0,0,z13] /\
          ∀ z28 : Int,0 <= z28 -> z28 <= RB -> z28 = fnD 22 [z0,0,z13] ->
          K [[z0],r1] [[z28],[0],[(cond (false) 1 0)],[6]]
         ) /\ ((decide (z27 = (List.getD r1 0 0))) = false ->
          chkD 30 [z26,z21] /\
          chkD 21 [z19,z26] /\
          ∀ z28 : Int,0 <= z28 -> z28 <= HB -> z28 = fnD 21 [z19,z26,4] ->
          ∀ z29 : Int,0 <= z29 -> z29 <= 1 -> z29 = fnD 4 [z28,(List.getD r1 4 0)] ->
          (((decide (z29 = 1)) = true ->
           chkD 22 [z0,0,z13] /\
           ∀ z30 : Int,0 <= z30 -> z30 <= RB -> z30 = fnD 22 [z0,0,z13] ->
           K [[z0],r1] [[z30],[0],[(cond (false) 1 0)],[6]]
          ) /\ ((decide (z29 = 1)) = false ->
           chkD 30 [z26,z21] /\
           chkD 21 [z19,z26] /\
           ∀ z30 : Int,(-9223372036854775808) <= z30 -> z30 <= 9223372036854775807 -> z30 = fnD 21 [z19,z26,0] ->
           (((decide (z30 < (List.getD r1 0 0))) = true ->
            ∀ z31 : Int,0 <= z31 -> z31 <= 1 -> 0 <= (z26 + 9223372036854775809) - 18446744073709551616 * z31 -> (z26 + 9223372036854775809) - 18446744073709551616 * z31 < 18446744073709551616 ->
            ∀ z32 : Int,0 <= z32 -> z32 <= 1 -> 0 <= (z26 + 9223372036854775809) - 18446744073709551616 * z32 -> (z26 + 9223372036854775809) - 18446744073709551616 * z32 < 18446744073709551616 ->
            chkD 39 [((z26 + ((-18446744073709551616) * z31)) + 1),0,9223372036854775807] /\
            chkD 39 [((z26 + ((-18446744073709551616) * z32)) + 1),0,9223372036854775807] /\
            (I24 [[((z26 + ((-18446744073709551616) * z31)) + 1)],[((z26 + ((-18446744073709551616) * z32)) + 1)]] /\ μ24 [[((z26 + ((-18446744073709551616) * z31)) + 1)],[((z26 + ((-18446744073709551616) * z32)) + 1)]] < μ24 [[z25],[z26]])
           ) /\ ((decide (z30 < (List.getD r1 0 0))) = false ->
            ∀ z31 : Int,0 <= z31 -> z31 <= 1 -> 0 <= (z26 + 9223372036854775809) - 18446744073709551616 * z31 -> (z26 + 9223372036854775809) - 18446744073709551616 * z31 < 18446744073709551616 ->
            chkD 39 [((z26 + ((-18446744073709551616) * z31)) + 1),0,9223372036854775807] /\
            (I24 [[z25],[((z26 + ((-18446744073709551616) * z31)) + 1)]] /\ μ24 [[z25],[((z26 + ((-18446744073709551616) * z31)) + 1)]] < μ24 [[z25],[z26]])
           ))
          ))
         ))
        ) /\ ((decide (z26 < z21)) = false ->
         (((decide (z21 = 16)) = true ->
          chkD 22 [z0,0,z13] /\
          ∀ z27 : Int,0 <= z27 -> z27 <= RB -> z27 = fnD 22 [z0,0,z13] ->
          K [[z0],r1] [[z27],[0],[(cond (false) 1 0)],[10]]
         ) /\ ((decide (z21 = 16)) = false ->
          chkD 32 [0,z25,z21] /\
          chkD 32 [z25,z21,z21] /\
          (chkD 68 [z21,z20] ->
          ∀ z27 : Int,0 <= z27 -> z27 <= 9223372036854775808 -> z27 = fnD 33 [0,z25,z20] ->
          ((
           ((
            chkD 22 [z19,0,z25] /\
            chkD 23 [0,z25] /\
            ∀ z28 : Int,0 <= z28 -> z28 <= RB -> z28 = fnD 22 [z19,0,z25] ->
            ∀ z29 : Int,0 <= z29 -> z29 <= RB -> z29 = fnD 24 [0,z28] ->
            (((decide (z25 <= 0)) = true ->
             chkD 23 [0,1] /\
             ∀ z30 : Int,0 <= z30 -> z30 <= 1 -> decide ((List.getD r1 8 0) = 1) = decide (z30 = 1) ->
             ∀ z31 : Int,0 <= z31 -> z31 <= RB -> z31 = fnD 23 [0,(List.getD r1 0 0),(List.getD r1 1 0),(List.getD r1 2 0),(List.getD r1 3 0),(List.getD r1 4 0),(List.getD r1 5 0),(List.getD r1 6 0),(List.getD r1 7 0),z30,(List.getD r1 9 0)] ->
             ∀ z32 : Int,(-1) <= z32 -> z32 <= 9223372036854775807 ->
             chkD 31 [z31,1] /\
             chkD 22 [z19,z27,(z21 + (((-1) * z25) + z27))] /\
             chkD 23 [z31,(z21 + ((-1) * z25))] /\
             ∀ z33 : Int,0 <= z33 -> z33 <= RB -> z33 = fnD 22 [z19,z27,(z21 + (((-1) * z25) + z27))] ->
             ∀ z34 : Int,0 <= z34 -> z34 <= RB -> z34 = fnD 24 [z31,z33] ->
             ∀ z35 : Int,(-1) <= z35 -> z35 <= 9223372036854775807 ->
             chkD 22 [z34,0,((z21 + ((-1) * z25)) + 1)] /\
             ∀ z36 : Int,0 <= z36 -> z36 <= RB -> z36 = fnD 22 [z34,0,((z21 + ((-1) * z25)) + 1)] ->
             K [[z0],r1] [[z36],[(List.getD r1 0 0)],[(cond (true) 1 0)],[0]]
            ) /\ ((decide (z25 <= 0)) = false ->
             ∀ z30 : Int,(-1) <= z30 -> z30 <= 9223372036854775807 ->
             chkD 31 [z29,z25] /\
             chkD 23 [z29,1] /\
             ∀ z31 : Int,0 <= z31 -> z31 <= 1 -> decide ((List.getD r1 8 0) = 1) = decide (z31 = 1) ->
             ∀ z32 : Int,0 <= z32 -> z32 <= RB -> z32 = fnD 23 [z29,(List.getD r1 0 0),(List.getD r1 1 0),(List.getD r1 2 0),(List.getD r1 3 0),(List.getD r1 4 0),(List.getD r1 5 0),(List.getD r1 6 0),(List.getD r1 7 0),z31,(List.getD r1 9 0)] ->
             ∀ z33 : Int,(-1) <= z33 -> z33 <= 9223372036854775807 ->
             chkD 31 [z32,(z25 + 1)] /\
             chkD 22 [z19,z27,(z21 + (((-1) * z25) + z27))] /\
             chkD 23 [z32,(z21 + ((-1) * z25))] /\
             ∀ z34 : Int,0 <= z34 -> z34 <= RB -> z34 = fnD 22 [z19,z27,(z21 + (((-1) * z25) + z27))] ->
             ∀ z35 : Int,0 <= z35 -> z35 <= RB -> z35 = fnD 24 [z32,z34] ->
             ∀ z36 : Int,(-1) <= z36 -> z36 <= 9223372036854775807 ->
             chkD 22 [z35,0,(z21 + 1)] /\
             ∀ z37 : Int,0 <= z37 -> z37 <= RB -> z37 = fnD 22 [z35,0,(z21 + 1)] ->
             K [[z0],r1] [[z37],[(List.getD r1 0 0)],[(cond (true) 1 0)],[0]]
            ))
           ) /\ (
            chkD 22 [z19,0,z25] /\
            chkD 23 [0,z25] /\
            ∀ z28 : Int,0 <= z28 -> z28 <= RB -> z28 = fnD 22 [z19,0,z25] ->
            ∀ z29 : Int,0 <= z29 -> z29 <= RB -> z29 = fnD 24 [0,z28] ->
            (((decide (z25 <= 0)) = true ->
             chkD 23 [0,1] /\
             ∀ z30 : Int,0 <= z30 -> z30 <= 1 -> decide ((List.getD r1 8 0) = 1) = decide (z30 = 1) ->
             ∀ z31 : Int,0 <= z31 -> z31 <= RB -> z31 = fnD 23 [0,(List.getD r1 0 0),(List.getD r1 1 0),(List.getD r1 2 0),(List.getD r1 3 0),(List.getD r1 4 0),(List.getD r1 5 0),(List.getD r1 6 0),(List.getD r1 7 0),z30,(List.getD r1 9 0)] ->
             ∀ z32 : Int,(-1) <= z32 -> z32 <= 9223372036854775807 ->
             chkD 31 [z31,1] /\
             chkD 22 [z19,z27,(z21 + (((-1) * z25) + z27))] /\
             chkD 23 [z31,(z21 + ((-1) * z25))] /\
             ∀ z33 : Int,0 <= z33 -> z33 <= RB -> z33 = fnD 22 [z19,z27,(z21 + (((-1) * z25) + z27))] ->
             ∀ z34 : Int,0 <= z34 -> z34 <= RB -> z34 = fnD 24 [z31,z33] ->
             ∀ z35 : Int,(-1) <= z35 -> z35 <= 9223372036854775807 ->
             chkD 22 [z34,0,((z21 + ((-1) * z25)) + 1)] /\
             ∀ z36 : Int,0 <= z36 -> z36 <= RB -> z36 = fnD 22 [z34,0,((z21 + ((-1) * z25)) + 1)] ->
             K [[z0],r1] [[z36],[(List.getD r1 0 0)],[(cond (true) 1 0)],[0]]
            ) /\ ((decide (z25 <= 0)) = false ->
             ∀ z30 : Int,(-1) <= z30 -> z30 <= 9223372036854775807 ->
             chkD 31 [z29,z25] /\
             chkD 23 [z29,1] /\
             ∀ z31 : Int,0 <= z31 -> z31 <= 1 -> decide ((List.getD r1 8 0) = 1) = decide (z31 = 1) ->
             ∀ z32 : Int,0 <= z32 -> z32 <= RB -> z32 = fnD 23 [z29,(List.getD r1 0 0),(List.getD r1 1 0),(List.getD r1 2 0),(List.getD r1 3 0),(List.getD r1 4 0),(List.getD r1 5 0),(List.getD r1 6 0),(List.getD r1 7 0),z31,(List.getD r1 9 0)] ->
             ∀ z33 : Int,(-1) <= z33 -> z33 <= 9223372036854775807 ->
             chkD 31 [z32,(z25 + 1)] /\
             chkD 22 [z19,z27,(z21 + (((-1) * z25) + z27))] /\
             chkD 23 [z32,(z21 + ((-1) * z25))] /\
             ∀ z34 : Int,0 <= z34 -> z34 <= RB -> z34 = fnD 22 [z19,z27,(z21 + (((-1) * z25) + z27))] ->
             ∀ z35 : Int,0 <= z35 -> z35 <= RB -> z35 = fnD 24 [z32,z34] ->
             ∀ z36 : Int,(-1) <= z36 -> z36 <= 9223372036854775807 ->
             chkD 22 [z35,0,(z21 + 1)] /\
             ∀ z37 : Int,0 <= z37 -> z37 <= RB -> z37 = fnD 22 [z35,0,(z21 + 1)] ->
             K [[z0],r1] [[z37],[(List.getD r1 0 0)],[(cond (true) 1 0)],[0]]
            ))
           ))
          ) /\ (
           chkD 22 [z19,0,z25] /\
           chkD 23 [0,z25] /\
           ∀ z28 : Int,0 <= z28 -> z28 <= RB -> z28 = fnD 22 [z19,0,z25] ->
           ∀ z29 : Int,0 <= z29 -> z29 <= RB -> z29 = fnD 24 [0,z28] ->
           (((decide (z25 <= 0)) = true ->
            chkD 23 [0,1] /\
            ∀ z30 : Int,0 <= z30 -> z30 <= 1 -> decide ((List.getD r1 8 0) = 1) = decide (z30 = 1) ->
            ∀ z31 : Int,0 <= z31 -> z31 <= RB -> z31 = fnD 23 [0,(List.getD r1 0 0),(List.getD r1 1 0),(List.getD r1 2 0),(List.getD r1 3 0),(List.getD r1 4 0),(List.getD r1 5 0),(List.getD r1 6 0),(List.getD r1 7 0),z30,(List.getD r1 9 0)] ->
            ∀ z32 : Int,(-1) <= z32 -> z32 <= 9223372036854775807 ->
            chkD 31 [z31,1] /\
            chkD 22 [z19,z27,(z21 + (((-1) * z25) + z27))] /\
            chkD 23 [z31,(z21 + ((-1) * z25))] /\
            ∀ z33 : Int,0 <= z33 -> z33 <= RB -> z33 = fnD 22 [z19,z27,(z21 + (((-1) * z25) + z27))] ->
            ∀ z34 : Int,0 <= z34 -> z34 <= RB -> z34 = fnD 24 [z31,z33] ->
            ∀ z35 : Int,(-1) <= z35 -> z35 <= 9223372036854775807 ->
            chkD 22 [z34,0,((z21 + ((-1) * z25)) + 1)] /\
            ∀ z36 : Int,0 <= z36 -> z36 <= RB -> z36 = fnD 22 [z34,0,((z21 + ((-1) * z25)) + 1)] ->
            K [[z0],r1] [[z36],[(List.getD r1 0 0)],[(cond (true) 1 0)],[0]]
           ) /\ ((decide (z25 <= 0)) = false ->
            ∀ z30 : Int,(-1) <= z30 -> z30 <= 9223372036854775807 ->
            chkD 31 [z29,z25] /\
            chkD 23 [z29,1] /\
            ∀ z31 : Int,0 <= z31 -> z31 <= 1 -> decide ((List.getD r1 8 0) = 1) = decide (z31 = 1) ->
            ∀ z32 : Int,0 <= z32 -> z32 <= RB -> z32 = fnD 23 [z29,(List.getD r1 0 0),(List.getD r1 1 0),(List.getD r1 2 0),(List.getD r1 3 0),(List.getD r1 4 0),(List.getD r1 5 0),(List.getD r1 6 0),(List.getD r1 7 0),z31,(List.getD r1 9 0)] ->
            ∀ z33 : Int,(-1) <= z33 -> z33 <= 9223372036854775807 ->
            chkD 31 [z32,(z25 + 1)] /\
            chkD 22 [z19,z27,(z21 + (((-1) * z25) + z27))] /\
            chkD 23 [z32,(z21 + ((-1) * z25))] /\
            ∀ z34 : Int,0 <= z34 -> z34 <= RB -> z34 = fnD 22 [z19,z27,(z21 + (((-1) * z25) + z27))] ->
            ∀ z35 : Int,0 <= z35 -> z35 <= RB -> z35 = fnD 24 [z32,z34] ->
            ∀ z36 : Int,(-1) <= z36 -> z36 <= 9223372036854775807 ->
            chkD 22 [z35,0,(z21 + 1)] /\
            ∀ z37 : Int,0 <= z37 -> z37 <= RB -> z37 = fnD 22 [z35,0,(z21 + 1)] ->
            K [[z0],r1] [[z37],[(List.getD r1 0 0)],[(cond (true) 1 0)],[0]]
           ))
          ))
          )
         ))
        ))
       )
      ))
     )
    ))
   ))
  ))
 ))
def XqI (z19 : Int) (w : Se) (bl : List (List Int)) : Prop := ∃ m i : Nat,bl = [[(m : Int)],[(i : Int)]] /\ m <= i /\ i <= (ses z19).length /\ (∀ j,j < m -> ((ses z19).getD j se0).id < w.id) /\ (∀ j,m <= j -> j < i -> w.id < ((ses z19).getD j se0).id) /\ ∀ j,j < i -> ((ses z19).getD j se0).tok ≠ w.tok
def XqM (z19 : Int) (bl : List (List Int)) : Nat := (ses z19).length - ((bl.getD 1 []).getD 0 0).toNat
theorem p_xsQ : B_xsQ SB (KBb SB [rSS,.d (.int .i64 (-9223372036854775808) 9223372036854775807),.d .bool,dE] 429) := by
 intro z0 a0 a1 r1 hr1 z11 _ z12 _ _ z13 b0 b1 h13
 have h13 : z13 = ((rOf z0).length : Int) := h13
 have hlen := ses_len z0
 have hW : (0 <= r1.getD 8 0 /\ r1.getD 8 0 <= 1) /\ ∃ x0 x1 x2 x3 x4 x5 x6 x7 x8 x9,r1 = [x0,x1,x2,x3,x4,x5,x6,x7,x8,x9] /\ (-9223372036854775808 <= x0 /\ x0 <= 9223372036854775807) := by
  match r1,hr1 with
  | [x0,x1,x2,x3,x4,x5,x6,x7,x8,x9],hr => exact ⟨⟨hr.2.2.2.2.2.2.2.2.2.2.2.2.2.2.2.2.1,hr.2.2.2.2.2.2.2.2.2.2.2.2.2.2.2.2.2.1⟩,x0,x1,x2,x3,x4,x5,x6,x7,x8,x9,rfl,hr.1,hr.2.1⟩
 obtain ⟨hb8,y0,y1,y2,y3,y4,y5,y6,y7,y8,y9,hr1e,hid0,hid1⟩ := hW
 have kk : ∀ y i s e : Int,0 <= y -> y <= RB -> (-9223372036854775808) <= i -> i <= 9223372036854775807 -> 0 <= s -> s <= 1 -> 0 <= e -> e <= 21 -> (ses y,i,s,e) = reqF (ses z0) (seOf r1) -> KBb SB [rSS,.d (.int .i64 (-9223372036854775808) 9223372036854775807),.d .bool,dE] 429 [[z0],r1] [[y],[i],[s],[e]] := fun y i s e y0 y1 i0 i1 s0 s1 e0 e1 h => ⟨⟨y0,y1,i0,i1,s0,s1,e0,e1,trivial⟩,h⟩
 have W := fun y => whole_ses (z := z0) (y := y) h13
 have kno : ∀ e : Int,0 <= e -> e <= 21 -> reqF (ses z0) (seOf r1) = (ses z0,0,0,e) -> ∀ y : Int,0 <= y -> y <= RB -> y = fnD 22 [z0,0,z13] -> KBb SB [rSS,.d (.int .i64 (-9223372036854775808) 9223372036854775807),.d .bool,dE] 429 [[z0],r1] [[y],[0],[cond false 1 0],[e]] := fun e e0 e1 h y y0 y1 hy => kk y 0 0 e y0 y1 (by decide) (by decide) (by decide) (by decide) e0 e1 (by rw [h,ses_same ((W y).2 hy)])
 have kbad : (seOk (seOf r1) && (decide ((seOf r1).wrong <= 0) && (!decide ((seOf r1).shown = 1) && rightS (ses z0)))) = false -> ∀ y : Int,0 <= y -> y <= RB -> y = fnD 22 [z0,0,z13] -> KBb SB [rSS,.d (.int .i64 (-9223372036854775808) 9223372036854775807),.d .bool,dE] 429 [[z0],r1] [[y],[0],[cond false 1 0],[1]] := fun h => kno 1 (by decide) (by decide) (by unfold reqF; rw [h]; rfl)
 refine ⟨(W 0).1,fun z14 _ _ h14 z15 _ _ h15 => ?_⟩
 have h15 : z15 = b01 (rightS (ses z14)) := h15
 rw [ses_same ((W z14).2 h14)] at h15
 refine ⟨fun hn => ⟨(W 0).1,kbad (by rw [nt_of h15 hn]; simp)⟩,fun hn z16 c0 c1 h16 z17 _ _ h17 => ?_⟩
 have hr := nf_of h15 hn
 have h16l := ((rightS_iff _).1 hr).1
 have h16 := bit_eq hb8.1 hb8.2 c0 c1 h16
 have h17 : z17 = b01 (seOk (seOf [r1.getD 0 0,r1.getD 1 0,r1.getD 2 0,r1.getD 3 0,r1.getD 4 0,r1.getD 5 0,r1.getD 6 0,r1.getD 7 0,z16,r1.getD 9 0])) := h17
 rw [se_bit h16] at h17
 refine ⟨fun hn2 => ⟨(W 0).1,kbad (by rw [nt_of h17 hn2]; rfl)⟩,fun hn2 => ?_⟩
 have hok := nf_of h17 hn2
 have hbd := seOk_bd hok
 have ew : (seOf r1).wrong = r1.getD 7 0 := rfl
 have es : (seOf r1).since = r1.getD 6 0 := rfl
 refine ⟨fun hw => ⟨(W 0).1,kbad (by
  have hd : decide ((seOf r1).wrong <= 0) = false := decide_eq_false (by have := of_decide_eq_false (bnot_t hw); omega)
  rw [hd]; simp)⟩,fun hw => ⟨fun hs => ⟨(W 0).1,kbad (by
  have hd : decide ((seOf r1).shown = 1) = true := hs
  rw [hd]; simp)⟩,fun hs => ⟨(W 0).1,fun z18 _ _ h18 z19 _ _ h19 z20 q0 q1 z21 _ hz21 h21 => ?_⟩⟩⟩
 have hr18 := (W z18).2 h18
 have hR : reqF (ses z0) (seOf r1) = (match (pruneF (ses z0) (seOf r1).since).findIdx? (fun s => alikeF s (seOf r1)) with
  | some i => reqA (pruneF (ses z0) (seOf r1).since) (seOf r1) i ((pruneF (ses z0) (seOf r1).since).getD i se0)
  | none => reqN (ses z0) (pruneF (ses z0) (seOf r1).since) (seOf r1)) := by
  unfold reqF
  have hd : decide ((seOf r1).wrong <= 0) = true := decide_eq_true (by have := of_decide_eq_true (bnot_f hw); omega)
  have hd2 : decide ((seOf r1).shown = 1) = false := hs
  rw [hok,hd,hd2,hr]; rfl
 have h19 : ses z19 = cond (timedF (seOf r1).since && rightS (ses z18)) (pruneF (ses z18) (seOf r1).since) [] := h19
 have htm : timedF (seOf r1).since = true := by unfold timedF; rw [decide_eq_true hbd.2.1.1,decide_eq_true hbd.2.1.2]; rfl
 rw [ses_same hr18,htm,hr] at h19
 have h19 : ses z19 = pruneF (ses z0) (seOf r1).since := h19
 have hrl := right_prune hr (seOf r1).since
 rw [<- h19] at hR hrl
 have h21 : z21 = ((rOf z19).length : Int) := h21
 have hl19 := ses_len z19
 have hl16 := ((rightS_iff _).1 hrl).1
 have W9 := fun y => whole_ses (z := z19) (y := y) h21
 refine ⟨ReI z19 (fun s => alikeF s (seOf r1)),RsM z19,⟨0,rfl,Nat.zero_le _,fun j h => absurd h (Nat.not_lt_zero j)⟩,?_⟩
 rintro z23 d0 d1 ⟨i,e,hi,hI⟩
 obtain rfl : z23 = i := by simpa using e
 refine ⟨fun hlt => ?_,fun hge => ?_⟩
 ·have hlt := of_decide_eq_true hlt
  have hil : i < (rOf z19).length := by omega
  have ck : chkD 30 [(i : Int),z21] := ⟨by omega,by omega⟩
  have ck2 : ∀ c : Int,(rOf c).length = (rOf z19).length -> chkD 21 [c,(i : Int)] := fun c hc => ⟨by omega,by rw [hc]; omega⟩
  have hstep : alikeF ((ses z19).getD i se0) (seOf r1) = false -> ∀ z37 : Int,0 <= z37 -> z37 <= 1 -> 0 <= ((i : Int) + 9223372036854775809) - 18446744073709551616 * z37 -> ((i : Int) + 9223372036854775809) - 18446744073709551616 * z37 < 18446744073709551616 -> chkD 39 [(((i : Int) + (-18446744073709551616) * z37) + 1),0,9223372036854775807] /\ (ReI z19 (fun s => alikeF s (seOf r1)) [[(((i : Int) + (-18446744073709551616) * z37) + 1)]] /\ RsM z19 [[(((i : Int) + (-18446744073709551616) * z37) + 1)]] < RsM z19 [[(i : Int)]]) := fun hf z37 x0 x1 x2 x3 => by
   refine ⟨⟨by omega,by omega⟩,⟨i + 1,by rw [show ((i : Int) + (-18446744073709551616) * z37) + 1 = ((i + 1 : Nat) : Int) by omega],by omega,fun j hj => ?_⟩,?_⟩
   ·rcases Nat.lt_or_ge j i with h | h
    ·exact hI j h
    ·obtain rfl : j = i := by omega
     exact hf
   ·show (ses z19).length - (((i : Int) + (-18446744073709551616) * z37) + 1).toNat < (ses z19).length - ((i : Int)).toNat; omega
  refine ⟨ck,ck2 _ rfl,fun z24 _ _ h24 z25 _ _ h25 => ?_⟩
  have gsec : sOf z24 = ((ses z19).getD i se0).sec := by rw [ses_get hil,h24]; rfl
  have hal : alikeF ((ses z19).getD i se0) (seOf r1) = (decide (((ses z19).getD i se0).sec = sOf (r1.getD 1 0)) && decide (((ses z19).getD i se0).who = (sOf (r1.getD 2 0),sOf (r1.getD 3 0)))) := rfl
  have h25 := eq_dec h25
  rw [gsec] at h25
  rw [<- h25] at hal
  refine ⟨fun hq => ⟨ck,ck2 _ rfl,fun z26 _ _ h26 z27 _ _ h27 z28 _ _ h28 z29 _ _ h29 => ?_⟩,fun hq => hstep (by rw [hal,hq]; rfl)⟩
  have hp := pair_dec h28 h29
  rw [show (sOf z26,sOf z27) = ((ses z19).getD i se0).who by rw [ses_get hil,h26,h27]; rfl] at hp
  rw [hp,hq,Bool.true_and] at hal
  refine ⟨fun hp2 => ?_,fun hp2 => hstep (by rw [hal,hp2])⟩
  rw [hp2] at hal
  rw [findIdx_at (p := fun s => alikeF s (seOf r1)) (i := i) (by omega) hal hI] at hR
  simp only [reqA] at hR
  refine ⟨ck,ck2 _ rfl,fun z30 _ _ h30 => ?_⟩
  have e30 : ((ses z19).getD i se0).att = z30 := by rw [ses_get hil,h30]; rfl
  have wa : (seOf r1).att = r1.getD 5 0 := rfl
  rw [e30,wa] at hR
  refine ⟨fun hm => ⟨ck,ck2 _ rfl,fun hrw z31 _ _ h31 => ?_⟩,fun hm => ⟨ck,ck2 _ rfl,fun z31 f0 f1 h31 => ⟨(W9 0).1,fun z32 g0 g1 h32 => kk z32 z31 0 0 g0 g1 f0 f1 (by decide) (by decide) (by decide) (by decide) ?_⟩⟩⟩
  ·obtain ⟨p1,p2⟩ := put_att (k := i) rfl hil hrw h31
   refine ⟨ck,ck2 _ p2,fun z32 f0 f1 h32 => ⟨(whole_ses (z := z31) (n := z21) (y := 0) (by omega)).1,fun z33 g0 g1 h33 => kk z33 z32 1 0 g0 g1 f0 f1 (by decide) (by decide) (by decide) (by decide) ?_⟩⟩
   have e32 : z32 = ((ses z19).getD i se0).id := by
    have : z32 = ((ses z31).getD i se0).id := by rw [ses_get (by omega),h32]; rfl
    rw [this,p1]; simp [List.getD,show i < (ses z19).length by omega]
   rw [hR,hm,ses_same ((whole_ses (z := z31) (n := z21) (by omega)).2 h33),p1,e32,show max z30 (r1.getD 5 0) = r1.getD 5 0 by have := of_decide_eq_true hm; omega]; rfl
  ·have e31 : z31 = ((ses z19).getD i se0).id := by rw [ses_get hil,h31]; rfl
   have hself : (ses z19).set i { (ses z19).getD i se0 with att := z30 } = ses z19 := by
    rw [<- e30]
    refine List.ext_getElem (by simp) fun j h1 h2 => ?_
    rw [List.getElem_set]
    split
    ·rename_i hj
     subst hj
     simp [List.getD,h2]
    ·rfl
   rw [hR,hm,ses_same ((W9 z32).2 h32),e31,show max z30 (r1.getD 5 0) = z30 by have := of_decide_eq_false hm; omega,hself]; rfl
 ·have hge := of_decide_eq_false hge
  rw [findIdx_no (fun j hj => hI j (by omega))] at hR
  simp only [reqN] at hR
  refine ⟨XqI z19 (seOf r1),XqM z19,⟨0,0,rfl,Nat.le_refl _,Nat.zero_le _,fun j h => absurd h (Nat.not_lt_zero j),fun j _ h => absurd h (Nat.not_lt_zero j),fun j h => absurd h (Nat.not_lt_zero j)⟩,?_⟩
  rintro z25 g0 g1 z26 k0 k1 ⟨m,t,e,hmt,ht,hLt,hGt,hTk⟩
  obtain ⟨rfl,rfl⟩ : z25 = m /\ z26 = t := by simpa using e
  have wid : (seOf r1).id = r1.getD 0 0 := rfl
  refine ⟨fun hlt => ?_,fun hge2 => ?_⟩
  ·have hlt := of_decide_eq_true hlt
   have htl : t < (rOf z19).length := by omega
   have ck : chkD 30 [(t : Int),z21] := ⟨by omega,by omega⟩
   have ck2 : chkD 21 [z19,(t : Int)] := ⟨by omega,by omega⟩
   refine ⟨ck,ck2,fun z27 _ _ h27 => ?_⟩
   have e27 : z27 = ((ses z19).getD t se0).id := by rw [ses_get htl,h27]; rfl
   refine ⟨fun hq => ⟨(W 0).1,kno 6 (by decide) (by decide) ?_⟩,fun hq => ⟨ck,ck2,fun z28 _ _ h28 z29 _ _ h29 => ?_⟩⟩
   ·rw [hR,any_at.2 ⟨t,by omega,decide_eq_true (by rw [<- e27]; exact of_decide_eq_true hq)⟩]; rfl
   have e28 : sOf z28 = ((ses z19).getD t se0).tok := by rw [ses_get htl,h28]; rfl
   have h29 := eq_dec h29
   rw [e28] at h29
   refine ⟨fun hq2 => ⟨(W 0).1,kno 6 (by decide) (by decide) ?_⟩,fun hq2 => ⟨ck,ck2,fun z30 _ _ h30 => ?_⟩⟩
   ·rw [hR,(any_at (p := fun s => decide (s.tok = (seOf r1).tok))).2 ⟨t,by omega,h29.symm.trans hq2⟩,Bool.or_true]; rfl
   have e30 : z30 = ((ses z19).getD t se0).id := by rw [ses_get htl,h30]; rfl
   have hq := of_decide_eq_false hq
   have hnt : ((ses z19).getD t se0).tok ≠ (seOf r1).tok := of_decide_eq_false (h29.symm.trans hq2)
   have hTk' : ∀ j,j < t + 1 -> ((ses z19).getD j se0).tok ≠ (seOf r1).tok := fun j hj => by
    rcases Nat.lt_or_ge j t with h | h
    ·exact hTk j h
    ·obtain rfl : j = t := by omega
     exact hnt
   have hmu : ∀ x : Int,XqM z19 [[x],[((t + 1 : Nat) : Int)]] < XqM z19 [[(m : Int)],[(t : Int)]] := fun x => by
    show (ses z19).length - (((t + 1 : Nat) : Int)).toNat < (ses z19).length - ((t : Int)).toNat; omega
   refine ⟨fun hl z31 u0 u1 u2 u3 z32 v0 v1 v2 v3 => ?_,fun hl z31 v0 v1 v2 v3 => ?_⟩
   ·have hl := of_decide_eq_true hl
    rw [show ((t : Int) + (-18446744073709551616) * z31) + 1 = ((t + 1 : Nat) : Int) by omega,show ((t : Int) + (-18446744073709551616) * z32) + 1 = ((t + 1 : Nat) : Int) by omega]
    refine ⟨⟨by omega,by omega⟩,⟨by omega,by omega⟩,⟨t + 1,t + 1,rfl,Nat.le_refl _,by omega,fun j hj => ?_,fun j h1 h2 => by omega,hTk'⟩,hmu _⟩
    rcases Nat.lt_or_ge j t with h | h
    ·have := rise hrl h (by omega); omega
    ·rw [show j = t by omega]; omega
   ·have hl := of_decide_eq_false hl
    rw [show ((t : Int) + (-18446744073709551616) * z31) + 1 = ((t + 1 : Nat) : Int) by omega]
    refine ⟨⟨by omega,by omega⟩,⟨m,t + 1,rfl,by omega,by omega,hLt,fun j h1 h2 => ?_,hTk'⟩,hmu _⟩
    rcases Nat.lt_or_ge j t with h | h
    ·exact hGt j h1 h
    ·rw [show j = t by omega]; omega
  have hge2 := of_decide_eq_false hge2
  have htn : t = (ses z19).length := by omega
  have hnid : ∀ j,j < (ses z19).length -> ((ses z19).getD j se0).id ≠ (seOf r1).id := fun j hj => by
   rcases Nat.lt_or_ge j m with h | h
   ·have := hLt j h; omega
   ·have := hGt j h (by omega); omega
  rw [any_no (p := fun s => decide (s.id = (seOf r1).id)) (fun j hj => decide_eq_false (hnid j hj)),any_no (p := fun s => decide (s.tok = (seOf r1).tok)) (fun j hj => decide_eq_false (hTk j (by omega))),Bool.or_false,cond_false] at hR
  refine ⟨fun h16 => ⟨(W 0).1,kno 10 (by decide) (by decide) ?_⟩,fun h16 => ?_⟩
  ·rw [hR,decide_eq_true (by have := of_decide_eq_true h16; omega)]; rfl
  rw [decide_eq_false (by have := of_decide_eq_false h16; omega),cond_false,fil_take (p := fun s => decide (s.id < (seOf r1).id)) (i := m) (by omega) (fun j hj => decide_eq_true (hLt j hj)) (fun j hj hl => decide_eq_false (by have := hGt j hj (by omega); omega)),fil_drop (p := fun s => decide ((seOf r1).id < s.id)) (i := m) (by omega) (fun j hj => decide_eq_false (by have := hLt j hj; omega)) (fun j hj hl => decide_eq_true (hGt j hj (by omega)))] at hR
  refine ⟨⟨by omega,by omega,by omega⟩,⟨by omega,by omega,by omega⟩,fun h68 z27 _ _ h27 => ?_⟩
  have h68 : z21 <= z20 ∨ z21 = 0 := h68
  have h27 : z27 = if (m : Int) = z20 then 0 else 0 + (m : Int) := h27
  have hdr : ∀ z : Int,z = fnD 22 [z19,z27,(z21 + (((-1) * (m : Int)) + z27))] -> rOf z = (rOf z19).drop m := fun z h => by
   rw [h]; simp only [fnD,rOf_rc]
   by_cases hc : (m : Int) = z20
   ·rw [if_pos hc] at h27
    have : m = (rOf z19).length := by omega
    rw [List.drop_of_length_le (i := m) (by omega)]
    refine List.take_eq_nil_iff.2 (.inl ?_)
    omega
   ·rw [if_neg hc] at h27
    rw [show z27.toNat = m by omega,List.take_of_length_le (by rw [List.length_drop]; omega)]
  have hdc : chkD 22 [z19,z27,(z21 + (((-1) * (m : Int)) + z27))] := by
   by_cases hc : (m : Int) = z20
   ·rw [if_pos hc] at h27; exact ⟨by omega,by omega,by omega⟩
   ·rw [if_neg hc] at h27; exact ⟨by omega,by omega,by omega⟩
  have fin : ∀ z y : Int,rOf y = (rOf z19).take m ++ [r1] ++ (rOf z19).drop m -> 0 <= z -> z <= RB -> rOf z = rOf y -> KBb SB [rSS,.d (.int .i64 (-9223372036854775808) 9223372036854775807),.d .bool,dE] 429 [[z0],r1] [[z],[(List.getD r1 0 0)],[(cond (true) 1 0)],[0]] := fun z y hy z0' z1' hz => kk z _ 1 0 z0' z1' (by rw [hr1e]; exact hid0) (by rw [hr1e]; exact hid1) (by decide) (by decide) (by decide) (by decide) (by
   have hs : ses z = (ses z19).take m ++ [seOf r1] ++ (ses z19).drop m := by unfold ses; rw [hz,hy]; simp [List.map_take,List.map_drop]
   rw [hs,hR]
   simp only [List.append_assoc,List.singleton_append]
   rfl)
  have hrow : ∀ c z b : Int,b = r1.getD 8 0 -> z = fnD 23 [c,(List.getD r1 0 0),(List.getD r1 1 0),(List.getD r1 2 0),(List.getD r1 3 0),(List.getD r1 4 0),(List.getD r1 5 0),(List.getD r1 6 0),(List.getD r1 7 0),b,(List.getD r1 9 0)] -> rOf z = rOf c ++ [r1] := fun c z b hb h => by
   rw [h,hb,hr1e]; simp only [fnD,rOf_rc]; rfl
  have hml : ((rOf z19).take m).length = m := by rw [List.length_take]; omega
  have hdl : ((rOf z19).drop m).length = (rOf z19).length - m := by rw [List.length_drop]
  have INS :
   chkD 22 [z19,0,(m : Int)] /\
   chkD 23 [0,(m : Int)] /\
   ∀ z28 : Int,0 <= z28 -> z28 <= RB -> z28 = fnD 22 [z19,0,(m : Int)] ->
   ∀ z29 : Int,0 <= z29 -> z29 <= RB -> z29 = fnD 24 [0,z28] ->
   (((decide ((m : Int) <= 0)) = true ->
   chkD 23 [0,1] /\
   ∀ z30 : Int,0 <= z30 -> z30 <= 1 -> decide ((List.getD r1 8 0) = 1) = decide (z30 = 1) ->
   ∀ z31 : Int,0 <= z31 -> z31 <= RB -> z31 = fnD 23 [0,(List.getD r1 0 0),(List.getD r1 1 0),(List.getD r1 2 0),(List.getD r1 3 0),(List.getD r1 4 0),(List.getD r1 5 0),(List.getD r1 6 0),(List.getD r1 7 0),z30,(List.getD r1 9 0)] ->
   ∀ z32 : Int,(-1) <= z32 -> z32 <= 9223372036854775807 ->
   chkD 31 [z31,1] /\
   chkD 22 [z19,z27,(z21 + (((-1) * (m : Int)) + z27))] /\
   chkD 23 [z31,(z21 + ((-1) * (m : Int)))] /\
   ∀ z33 : Int,0 <= z33 -> z33 <= RB -> z33 = fnD 22 [z19,z27,(z21 + (((-1) * (m : Int)) + z27))] ->
   ∀ z34 : Int,0 <= z34 -> z34 <= RB -> z34 = fnD 24 [z31,z33] ->
   ∀ z35 : Int,(-1) <= z35 -> z35 <= 9223372036854775807 ->
   chkD 22 [z34,0,((z21 + ((-1) * (m : Int))) + 1)] /\
   ∀ z36 : Int,0 <= z36 -> z36 <= RB -> z36 = fnD 22 [z34,0,((z21 + ((-1) * (m : Int))) + 1)] ->
   KBb SB [rSS,.d (.int .i64 (-9223372036854775808) 9223372036854775807),.d .bool,dE] 429 [[z0],r1] [[z36],[(List.getD r1 0 0)],[(cond (true) 1 0)],[0]]
   ) /\ ((decide ((m : Int) <= 0)) = false ->
   ∀ z30 : Int,(-1) <= z30 -> z30 <= 9223372036854775807 ->
   chkD 31 [z29,(m : Int)] /\
   chkD 23 [z29,1] /\
   ∀ z31 : Int,0 <= z31 -> z31 <= 1 -> decide ((List.getD r1 8 0) = 1) = decide (z31 = 1) ->
   ∀ z32 : Int,0 <= z32 -> z32 <= RB -> z32 = fnD 23 [z29,(List.getD r1 0 0),(List.getD r1 1 0),(List.getD r1 2 0),(List.getD r1 3 0),(List.getD r1 4 0),(List.getD r1 5 0),(List.getD r1 6 0),(List.getD r1 7 0),z31,(List.getD r1 9 0)] ->
   ∀ z33 : Int,(-1) <= z33 -> z33 <= 9223372036854775807 ->
   chkD 31 [z32,((m : Int) + 1)] /\
   chkD 22 [z19,z27,(z21 + (((-1) * (m : Int)) + z27))] /\
   chkD 23 [z32,(z21 + ((-1) * (m : Int)))] /\
   ∀ z34 : Int,0 <= z34 -> z34 <= RB -> z34 = fnD 22 [z19,z27,(z21 + (((-1) * (m : Int)) + z27))] ->
   ∀ z35 : Int,0 <= z35 -> z35 <= RB -> z35 = fnD 24 [z32,z34] ->
   ∀ z36 : Int,(-1) <= z36 -> z36 <= 9223372036854775807 ->
   chkD 22 [z35,0,(z21 + 1)] /\
   ∀ z37 : Int,0 <= z37 -> z37 <= RB -> z37 = fnD 22 [z35,0,(z21 + 1)] ->
   KBb SB [rSS,.d (.int .i64 (-9223372036854775808) 9223372036854775807),.d .bool,dE] 429 [[z0],r1] [[z37],[(List.getD r1 0 0)],[(cond (true) 1 0)],[0]]
   )) := by
   refine ⟨⟨by omega,by omega,by omega⟩,by show (rOf 0).length + (m : Int) <= 1073741824; rw [Go.Rx.rOf_zero]; simp; omega,fun z28 _ _ h28 z29 _ _ h29 => ?_⟩
   have hr28 : rOf z28 = (rOf z19).take m := by
    rw [h28]; simp only [fnD,rOf_rc]
    rw [show (0 : Int).toNat = 0 from rfl,List.drop_zero,show ((m : Int)).toNat - 0 = m by omega]
   have hr29 : rOf z29 = (rOf z19).take m := by rw [h29]; simp only [fnD,rOf_rc,Go.Rx.rOf_zero,List.nil_append,hr28]
   refine ⟨fun hm0 => ⟨by show (rOf 0).length + (1 : Int) <= 1073741824; rw [Go.Rx.rOf_zero]; decide,fun z30 l0 l1 h30 z31 _ _ h31 z32 _ _ => ?_⟩,fun hm0 z30 _ _ => ⟨by show (m : Int) = _; rw [hr29,hml],by show ((rOf z29).length : Int) + 1 <= 1073741824; rw [hr29,hml]; omega,fun z31 l0 l1 h31 z32 _ _ h32 z33 _ _ => ?_⟩⟩
   ·have hm0 := of_decide_eq_true hm0
    have hm00 : m = 0 := by omega
    have hr31 := hrow 0 z31 z30 (bit_eq hb8.1 hb8.2 l0 l1 h30) h31
    rw [Go.Rx.rOf_zero,List.nil_append] at hr31
    refine ⟨by show (1 : Int) = _; rw [hr31]; rfl,hdc,by show ((rOf z31).length : Int) + _ <= 1073741824; rw [hr31]; simp; omega,fun z33 _ _ h33 z34 _ _ h34 z35 _ _ => ?_⟩
    have hr34 : rOf z34 = (rOf z19).take m ++ [r1] ++ (rOf z19).drop m := by
     rw [h34]; simp only [fnD,rOf_rc,hr31,hdr z33 h33,hm00,List.take_zero,List.nil_append]
    have hn : (z21 + (-1) * (m : Int)) + 1 = ((rOf z34).length : Int) := by rw [hr34]; simp only [List.length_append,hml,hdl,List.length_singleton]; omega
    exact ⟨(whole_ses (z := z34) (y := 0) hn).1,fun z36 p0 p1 h36 => fin z36 z34 hr34 p0 p1 ((whole_ses (z := z34) hn).2 h36)⟩
   ·have hr32 := hrow z29 z32 z31 (bit_eq hb8.1 hb8.2 l0 l1 h31) h32
    rw [hr29] at hr32
    have hl32 : ((rOf z32).length : Int) = (m : Int) + 1 := by rw [hr32]; simp only [List.length_append,hml,List.length_singleton]; omega
    refine ⟨by show (m : Int) + 1 = _; omega,hdc,by show ((rOf z32).length : Int) + _ <= 1073741824; omega,fun z34 _ _ h34 z35 _ _ h35 z36 _ _ => ?_⟩
    have hr35 : rOf z35 = (rOf z19).take m ++ [r1] ++ (rOf z19).drop m := by
     rw [h35]; simp only [fnD,rOf_rc,hr32,hdr z34 h34]
    have hn : z21 + 1 = ((rOf z35).length : Int) := by rw [hr35]; simp only [List.length_append,hml,hdl,List.length_singleton]; omega
    exact ⟨(whole_ses (z := z35) (y := 0) hn).1,fun z37 p0 p1 h37 => fin z37 z35 hr35 p0 p1 ((whole_ses (z := z35) hn).2 h37)⟩
  repeat' (first | exact INS | refine ⟨?_,?_⟩)
end Go.Ad
set_option maxRecDepth 100000
set_option linter.unusedVariables false
set_option linter.unusedSimpArgs false
namespace Go.Ad
open Go Go.Rx
end Go.Ad
set_option maxRecDepth 100000
set_option linter.unusedVariables false
set_option linter.unusedSimpArgs false
namespace Go.Ad
open Go Go.Rx
end Go.Ad
