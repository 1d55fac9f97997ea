/- Pai: a part of the proof of statements of this seat. -/
import Derived.Test.YtodhngllhbgndaaGreatDoorPah
set_option maxRecDepth 100000
set_option linter.unusedVariables false
set_option linter.unusedSimpArgs false
namespace Go.Ad
open Go Go.Rx
def B_rhost (S : Nat -> List (List Int) -> List (List Int) -> Prop) (K : List (List Int) -> List (List Int) -> Prop) : Prop :=
 ∀ z0 : Int,0 <= z0 -> z0 <= HB ->
 ∀ z1 : Int,0 <= z1 -> z1 <= 9223372036854775807 -> z1 = fnD 0 [z0] ->
 (((decide (z1 < 1)) = true ->
  K [[z0]] [[(cond (false) 1 0)]]
 ) /\ ((decide (z1 < 1)) = false ->
  ∀ z2 : Int,0 <= z2 -> z2 <= 9223372036854775807 -> z2 = fnD 0 [z0] ->
  (((decide (230 < z2)) = true ->
   K [[z0]] [[(cond (false) 1 0)]]
  ) /\ ((decide (230 < z2)) = false ->
   ∃ (I3 : List (List Int) -> Prop) (μ3 : List (List Int) -> Nat),I3 [[0]] /\ (∀ z4 : Int,0 <= z4 -> z4 <= 9223372036854775807 -> I3 [[z4]] ->
    ∀ z5 : Int,0 <= z5 -> z5 <= 9223372036854775807 -> z5 = fnD 0 [z0] ->
    (((decide (z4 < z5)) = true ->
     chkD 1 [z0,z4] /\
     ∀ z6 : Int,0 <= z6 -> z6 <= 255 -> z6 = fnD 1 [z0,z4] ->
     (((decide (z6 = 46)) = true ->
      chkD 1 [z0,z4] /\
      ∀ z7 : Int,0 <= z7 -> z7 <= 255 -> z7 = fnD 1 [z0,z4] ->
      ∀ z8 : Int,0 <= z8 -> z8 <= 1 -> S 50 [[z7]] [[z8]] ->
      ((((!(decide (z8 = 1)))) = true ->
       chkD 1 [z0,z4] /\
       ∀ z9 : Int,0 <= z9 -> z9 <= 255 -> z9 = fnD 1 [z0,z4] ->
       ∀ z10 : Int,0 <= z10 -> z10 <= 1 -> S 51 [[z9]] [[z10]] ->
       ((((!(decide (z10 = 1)))) = true ->
        chkD 1 [z0,z4] /\
        ∀ z11 : Int,0 <= z11 -> z11 <= 255 -> z11 = fnD 1 [z0,z4] ->
        ∀ z12 : Int,0 <= z12 -> z12 <= 1 -> S 52 [[z11]] [[z12]] ->
        ((((!(decide (z12 = 1)))) = true ->
         (((decide (z4 = 0)) = true ->
          K [[z0]] [[(cond (false) 1 0)]]
         ) /\ ((decide (z4 = 0)) = false ->
          ∀ z13 : Int,0 <= z13 -> z13 <= 9223372036854775807 -> z13 = fnD 0 [z0] ->
          (((decide (z4 = (z13 + (-1)))) = true ->
           K [[z0]] [[(cond (false) 1 0)]]
          ) /\ ((decide (z4 = (z13 + (-1)))) = false ->
           chkD 1 [z0,z4] /\
           ∀ z14 : Int,0 <= z14 -> z14 <= 255 -> z14 = fnD 1 [z0,z4] ->
           (((decide (z14 = 46)) = true ->
            chkD 1 [z0,(z4 + (-1))] /\
            ∀ z15 : Int,0 <= z15 -> z15 <= 255 -> z15 = fnD 1 [z0,(z4 + (-1))] ->
            (((decide (z15 = 46)) = true ->
             K [[z0]] [[(cond (false) 1 0)]]
            ) /\ ((decide (z15 = 46)) = false ->
             ∀ z16 : Int,0 <= z16 -> z16 <= 1 -> 0 <= (z4 + 9223372036854775809) - 18446744073709551616 * z16 -> (z4 + 9223372036854775809) - 18446744073709551616 * z16 < 18446744073709551616 ->
             chkD 39 [((z4 + ((-18446744073709551616) * z16)) + 1),0,9223372036854775807] /\
             (I3 [[((z4 + ((-18446744073709551616) * z16)) + 1)]] /\ μ3 [[((z4 + ((-18446744073709551616) * z16)) + 1)]] < μ3 [[z4]])
            ))
           ) /\ ((decide (z14 = 46)) = false ->
            ∀ z15 : Int,0 <= z15 -> z15 <= 1 -> 0 <= (z4 + 9223372036854775809) - 18446744073709551616 * z15 -> (z4 + 9223372036854775809) - 18446744073709551616 * z15 < 18446744073709551616 ->
            chkD 39 [((z4 + ((-18446744073709551616) * z15)) + 1),0,9223372036854775807] /\
            (I3 [[((z4 + ((-18446744073709551616) * z15)) + 1)]] /\ μ3 [[((z4 + ((-18446744073709551616) * z15)) + 1)]] < μ3 [[z4]])
           ))
          ))
         ))
        ) /\ (((!(decide (z12 = 1)))) = false ->
         (((decide (z4 = 0)) = true ->
          K [[z0]] [[(cond (false) 1 0)]]
         ) /\ ((decide (z4 = 0)) = false ->
          ∀ z13 : Int,0 <= z13 -> z13 <= 9223372036854775807 -> z13 = fnD 0 [z0] ->
          (((decide (z4 = (z13 + (-1)))) = true ->
           K [[z0]] [[(cond (false) 1 0)]]
          ) /\ ((decide (z4 = (z13 + (-1)))) = false ->
           chkD 1 [z0,z4] /\
           ∀ z14 : Int,0 <= z14 -> z14 <= 255 -> z14 = fnD 1 [z0,z4] ->
           (((decide (z14 = 46)) = true ->
            chkD 1 [z0,(z4 + (-1))] /\
            ∀ z15 : Int,0 <= z15 -> z15 <= 255 -> z15 = fnD 1 [z0,(z4 + (-1))] ->
            (((decide (z15 = 46)) = true ->
             K [[z0]] [[(cond (false) 1 0)]]
            ) /\ ((decide (z15 = 46)) = false ->
             ∀ z16 : Int,0 <= z16 -> z16 <= 1 -> 0 <= (z4 + 9223372036854775809) - 18446744073709551616 * z16 -> (z4 + 9223372036854775809) - 18446744073709551616 * z16 < 18446744073709551616 ->
             chkD 39 [((z4 + ((-18446744073709551616) * z16)) + 1),0,9223372036854775807] /\
             (I3 [[((z4 + ((-18446744073709551616) * z16)) + 1)]] /\ μ3 [[((z4 + ((-18446744073709551616) * z16)) + 1)]] < μ3 [[z4]])
            ))
           ) /\ ((decide (z14 = 46)) = false ->
            ∀ z15 : Int,0 <= z15 -> z15 <= 1 -> 0 <= (z4 + 9223372036854775809) - 18446744073709551616 * z15 -> (z4 + 9223372036854775809) - 18446744073709551616 * z15 < 18446744073709551616 ->
            chkD 39 [((z4 + ((-18446744073709551616) * z15)) + 1),0,9223372036854775807] /\
            (I3 [[((z4 + ((-18446744073709551616) * z15)) + 1)]] /\ μ3 [[((z4 + ((-18446744073709551616) * z15)) + 1)]] < μ3 [[z4]])
           ))
          ))
         ))
        ))
       ) /\ (((!(decide (z10 = 1)))) = false ->
        (((decide (z4 = 0)) = true ->
         K [[z0]] [[(cond (false) 1 0)]]
        ) /\ ((decide (z4 = 0)) = false ->
         ∀ z11 : Int,0 <= z11 -> z11 <= 9223372036854775807 -> z11 = fnD 0 [z0] ->
         (((decide (z4 = (z11 + (-1)))) = true ->
          K [[z0]] [[(cond (false) 1 0)]]
         ) /\ ((decide (z4 = (z11 + (-1)))) = false ->
          chkD 1 [z0,z4] /\
          ∀ z12 : Int,0 <= z12 -> z12 <= 255 -> z12 = fnD 1 [z0,z4] ->
          (((decide (z12 = 46)) = true ->
           chkD 1 [z0,(z4 + (-1))] /\
           ∀ z13 : Int,0 <= z13 -> z13 <= 255 -> z13 = fnD 1 [z0,(z4 + (-1))] ->
           (((decide (z13 = 46)) = true ->
            K [[z0]] [[(cond (false) 1 0)]]
           ) /\ ((decide (z13 = 46)) = false ->
            ∀ z14 : Int,0 <= z14 -> z14 <= 1 -> 0 <= (z4 + 9223372036854775809) - 18446744073709551616 * z14 -> (z4 + 9223372036854775809) - 18446744073709551616 * z14 < 18446744073709551616 ->
            chkD 39 [((z4 + ((-18446744073709551616) * z14)) + 1),0,9223372036854775807] /\
            (I3 [[((z4 + ((-18446744073709551616) * z14)) + 1)]] /\ μ3 [[((z4 + ((-18446744073709551616) * z14)) + 1)]] < μ3 [[z4]])
           ))
          ) /\ ((decide (z12 = 46)) = false ->
           ∀ z13 : Int,0 <= z13 -> z13 <= 1 -> 0 <= (z4 + 9223372036854775809) - 18446744073709551616 * z13 -> (z4 + 9223372036854775809) - 18446744073709551616 * z13 < 18446744073709551616 ->
           chkD 39 [((z4 + ((-18446744073709551616) * z13)) + 1),0,9223372036854775807] /\
           (I3 [[((z4 + ((-18446744073709551616) * z13)) + 1)]] /\ μ3 [[((z4 + ((-18446744073709551616) * z13)) + 1)]] < μ3 [[z4]])
          ))
         ))
        ))
       ))
      ) /\ (((!(decide (z8 = 1)))) = false ->
       (((decide (z4 = 0)) = true ->
        K [[z0]] [[(cond (false) 1 0)]]
       ) /\ ((decide (z4 = 0)) = false ->
        ∀ z9 : Int,0 <= z9 -> z9 <= 9223372036854775807 -> z9 = fnD 0 [z0] ->
        (((decide (z4 = (z9 + (-1)))) = true ->
         K [[z0]] [[(cond (false) 1 0)]]
        ) /\ ((decide (z4 = (z9 + (-1)))) = false ->
         chkD 1 [z0,z4] /\
         ∀ z10 : Int,0 <= z10 -> z10 <= 255 -> z10 = fnD 1 [z0,z4] ->
         (((decide (z10 = 46)) = true ->
          chkD 1 [z0,(z4 + (-1))] /\
          ∀ z11 : Int,0 <= z11 -> z11 <= 255 -> z11 = fnD 1 [z0,(z4 + (-1))] ->
          (((decide (z11 = 46)) = true ->
           K [[z0]] [[(cond (false) 1 0)]]
          ) /\ ((decide (z11 = 46)) = false ->
           ∀ z12 : Int,0 <= z12 -> z12 <= 1 -> 0 <= (z4 + 9223372036854775809) - 18446744073709551616 * z12 -> (z4 + 9223372036854775809) - 18446744073709551616 * z12 < 18446744073709551616 ->
           chkD 39 [((z4 + ((-18446744073709551616) * z12)) + 1),0,9223372036854775807] /\
           (I3 [[((z4 + ((-18446744073709551616) * z12)) + 1)]] /\ μ3 [[((z4 + ((-18446744073709551616) * z12)) + 1)]] < μ3 [[z4]])
          ))
         ) /\ ((decide (z10 = 46)) = false ->
          ∀ z11 : Int,0 <= z11 -> z11 <= 1 -> 0 <= (z4 + 9223372036854775809) - 18446744073709551616 * z11 -> (z4 + 9223372036854775809) - 18446744073709551616 * z11 < 18446744073709551616 ->
          chkD 39 [((z4 + ((-18446744073709551616) * z11)) + 1),0,9223372036854775807] /\
          (I3 [[((z4 + ((-18446744073709551616) * z11)) + 1)]] /\ μ3 [[((z4 + ((-18446744073709551616) * z11)) + 1)]] < μ3 [[z4]])
         ))
        ))
       ))
      ))
     ) /\ ((decide (z6 = 46)) = false ->
      chkD 1 [z0,z4] /\
      ∀ z7 : Int,0 <= z7 -> z7 <= 255 -> z7 = fnD 1 [z0,z4] ->
      chkD 1 [z0,z4] /\
      ∀ z8 : Int,0 <= z8 -> z8 <= 255 -> z8 = fnD 1 [z0,z4] ->
      ∀ z9 : Int,0 <= z9 -> z9 <= 1 -> S 50 [[z8]] [[z9]] ->
      ((((!(decide (z9 = 1)))) = true ->
       chkD 1 [z0,z4] /\
       ∀ z10 : Int,0 <= z10 -> z10 <= 255 -> z10 = fnD 1 [z0,z4] ->
       ∀ z11 : Int,0 <= z11 -> z11 <= 1 -> S 51 [[z10]] [[z11]] ->
       ((((!(decide (z11 = 1)))) = true ->
        chkD 1 [z0,z4] /\
        ∀ z12 : Int,0 <= z12 -> z12 <= 255 -> z12 = fnD 1 [z0,z4] ->
        ∀ z13 : Int,0 <= z13 -> z13 <= 1 -> S 52 [[z12]] [[z13]] ->
        ((((!(decide (z13 = 1)))) = true ->
         ((((!(decide (z7 = 45)))) = true ->
          K [[z0]] [[(cond (false) 1 0)]]
         ) /\ (((!(decide (z7 = 45)))) = false ->
          (((decide (z7 = 45)) = true ->
           (((decide (z4 = 0)) = true ->
            K [[z0]] [[(cond (false) 1 0)]]
           ) /\ ((decide (z4 = 0)) = false ->
            ∀ z14 : Int,0 <= z14 -> z14 <= 9223372036854775807 -> z14 = fnD 0 [z0] ->
            (((decide (z4 = (z14 + (-1)))) = true ->
             K [[z0]] [[(cond (false) 1 0)]]
            ) /\ ((decide (z4 = (z14 + (-1)))) = false ->
             chkD 1 [z0,z4] /\
             ∀ z15 : Int,0 <= z15 -> z15 <= 255 -> z15 = fnD 1 [z0,z4] ->
             (((decide (z15 = 46)) = true ->
              chkD 1 [z0,(z4 + (-1))] /\
              ∀ z16 : Int,0 <= z16 -> z16 <= 255 -> z16 = fnD 1 [z0,(z4 + (-1))] ->
              (((decide (z16 = 46)) = true ->
               K [[z0]] [[(cond (false) 1 0)]]
              ) /\ ((decide (z16 = 46)) = false ->
               ∀ z17 : Int,0 <= z17 -> z17 <= 1 -> 0 <= (z4 + 9223372036854775809) - 18446744073709551616 * z17 -> (z4 + 9223372036854775809) - 18446744073709551616 * z17 < 18446744073709551616 ->
               chkD 39 [((z4 + ((-18446744073709551616) * z17)) + 1),0,9223372036854775807] /\
               (I3 [[((z4 + ((-18446744073709551616) * z17)) + 1)]] /\ μ3 [[((z4 + ((-18446744073709551616) * z17)) + 1)]] < μ3 [[z4]])
              ))
             ) /\ ((decide (z15 = 46)) = false ->
              ∀ z16 : Int,0 <= z16 -> z16 <= 1 -> 0 <= (z4 + 9223372036854775809) - 18446744073709551616 * z16 -> (z4 + 9223372036854775809) - 18446744073709551616 * z16 < 18446744073709551616 ->
              chkD 39 [((z4 + ((-18446744073709551616) * z16)) + 1),0,9223372036854775807] /\
              (I3 [[((z4 + ((-18446744073709551616) * z16)) + 1)]] /\ μ3 [[((z4 + ((-18446744073709551616) * z16)) + 1)]] < μ3 [[z4]])
             ))
            ))
           ))
          ) /\ ((decide (z7 = 45)) = false ->
           ∀ z14 : Int,0 <= z14 -> z14 <= 1 -> 0 <= (z4 + 9223372036854775809) - 18446744073709551616 * z14 -> (z4 + 9223372036854775809) - 18446744073709551616 * z14 < 18446744073709551616 ->
           chkD 39 [((z4 + ((-18446744073709551616) * z14)) + 1),0,9223372036854775807] /\
           (I3 [[((z4 + ((-18446744073709551616) * z14)) + 1)]] /\ μ3 [[((z4 + ((-18446744073709551616) * z14)) + 1)]] < μ3 [[z4]])
          ))
         ))
        ) /\ (((!(decide (z13 = 1)))) = false ->
         (((decide (z7 = 45)) = true ->
          (((decide (z4 = 0)) = true ->
           K [[z0]] [[(cond (false) 1 0)]]
          ) /\ ((decide (z4 = 0)) = false ->
           ∀ z14 : Int,0 <= z14 -> z14 <= 9223372036854775807 -> z14 = fnD 0 [z0] ->
           (((decide (z4 = (z14 + (-1)))) = true ->
            K [[z0]] [[(cond (false) 1 0)]]
           ) /\ ((decide (z4 = (z14 + (-1)))) = false ->
            chkD 1 [z0,z4] /\
            ∀ z15 : Int,0 <= z15 -> z15 <= 255 -> z15 = fnD 1 [z0,z4] ->
            (((decide (z15 = 46)) = true ->
             chkD 1 [z0,(z4 + (-1))] /\
             ∀ z16 : Int,0 <= z16 -> z16 <= 255 -> z16 = fnD 1 [z0,(z4 + (-1))] ->
             (((decide (z16 = 46)) = true ->
              K [[z0]] [[(cond (false) 1 0)]]
             ) /\ ((decide (z16 = 46)) = false ->
              ∀ z17 : Int,0 <= z17 -> z17 <= 1 -> 0 <= (z4 + 9223372036854775809) - 18446744073709551616 * z17 -> (z4 + 9223372036854775809) - 18446744073709551616 * z17 < 18446744073709551616 ->
              chkD 39 [((z4 + ((-18446744073709551616) * z17)) + 1),0,9223372036854775807] /\
              (I3 [[((z4 + ((-18446744073709551616) * z17)) + 1)]] /\ μ3 [[((z4 + ((-18446744073709551616) * z17)) + 1)]] < μ3 [[z4]])
             ))
            ) /\ ((decide (z15 = 46)) = false ->
             ∀ z16 : Int,0 <= z16 -> z16 <= 1 -> 0 <= (z4 + 9223372036854775809) - 18446744073709551616 * z16 -> (z4 + 9223372036854775809) - 18446744073709551616 * z16 < 18446744073709551616 ->
             chkD 39 [((z4 + ((-18446744073709551616) * z16)) + 1),0,9223372036854775807] /\
             (I3 [[((z4 + ((-18446744073709551616) * z16)) + 1)]] /\ μ3 [[((z4 + ((-18446744073709551616) * z16)) + 1)]] < μ3 [[z4]])
            ))
           ))
          ))
         ) /\ ((decide (z7 = 45)) = false ->
          ∀ z14 : Int,0 <= z14 -> z14 <= 1 -> 0 <= (z4 + 9223372036854775809) - 18446744073709551616 * z14 -> (z4 + 9223372036854775809) - 18446744073709551616 * z14 < 18446744073709551616 ->
          chkD 39 [((z4 + ((-18446744073709551616) * z14)) + 1),0,9223372036854775807] /\
          (I3 [[((z4 + ((-18446744073709551616) * z14)) + 1)]] /\ μ3 [[((z4 + ((-18446744073709551616) * z14)) + 1)]] < μ3 [[z4]])
         ))
        ))
       ) /\ (((!(decide (z11 = 1)))) = false ->
        (((decide (z7 = 45)) = true ->
         (((decide (z4 = 0)) = true ->
          K [[z0]] [[(cond (false) 1 0)]]
         ) /\ ((decide (z4 = 0)) = false ->
          ∀ z12 : Int,0 <= z12 -> z12 <= 9223372036854775807 -> z12 = fnD 0 [z0] ->
          (((decide (z4 = (z12 + (-1)))) = true ->
           K [[z0]] [[(cond (false) 1 0)]]
          ) /\ ((decide (z4 = (z12 + (-1)))) = false ->
           chkD 1 [z0,z4] /\
           ∀ z13 : Int,0 <= z13 -> z13 <= 255 -> z13 = fnD 1 [z0,z4] ->
           (((decide (z13 = 46)) = true ->
            chkD 1 [z0,(z4 + (-1))] /\
            ∀ z14 : Int,0 <= z14 -> z14 <= 255 -> z14 = fnD 1 [z0,(z4 + (-1))] ->
            (((decide (z14 = 46)) = true ->
             K [[z0]] [[(cond (false) 1 0)]]
            ) /\ ((decide (z14 = 46)) = false ->
             ∀ z15 : Int,0 <= z15 -> z15 <= 1 -> 0 <= (z4 + 9223372036854775809) - 18446744073709551616 * z15 -> (z4 + 9223372036854775809) - 18446744073709551616 * z15 < 18446744073709551616 ->
             chkD 39 [((z4 + ((-18446744073709551616) * z15)) + 1),0,9223372036854775807] /\
             (I3 [[((z4 + ((-18446744073709551616) * z15)) + 1)]] /\ μ3 [[((z4 + ((-18446744073709551616) * z15)) + 1)]] < μ3 [[z4]])
            ))
           ) /\ ((decide (z13 = 46)) = false ->
            ∀ z14 : Int,0 <= z14 -> z14 <= 1 -> 0 <= (z4 + 9223372036854775809) - 18446744073709551616 * z14 -> (z4 + 9223372036854775809) - 18446744073709551616 * z14 < 18446744073709551616 ->
            chkD 39 [((z4 + ((-18446744073709551616) * z14)) + 1),0,9223372036854775807] /\
            (I3 [[((z4 + ((-18446744073709551616) * z14)) + 1)]] /\ μ3 [[((z4 + ((-18446744073709551616) * z14)) + 1)]] < μ3 [[z4]])
           ))
          ))
         ))
        ) /\ ((decide (z7 = 45)) = false ->
         ∀ z12 : Int,0 <= z12 -> z12 <= 1 -> 0 <= (z4 + 9223372036854775809) - 18446744073709551616 * z12 -> (z4 + 9223372036854775809) - 18446744073709551616 * z12 < 18446744073709551616 ->
         chkD 39 [((z4 + ((-18446744073709551616) * z12)) + 1),0,9223372036854775807] /\
         (I3 [[((z4 + ((-18446744073709551616) * z12)) + 1)]] /\ μ3 [[((z4 + ((-18446744073709551616) * z12)) + 1)]] < μ3 [[z4]])
        ))
       ))
      ) /\ (((!(decide (z9 = 1)))) = false ->
       (((decide (z7 = 45)) = true ->
        (((decide (z4 = 0)) = true ->
         K [[z0]] [[(cond (false) 1 0)]]
        ) /\ ((decide (z4 = 0)) = false ->
         ∀ z10 : Int,0 <= z10 -> z10 <= 9223372036854775807 -> z10 = fnD 0 [z0] ->
         (((decide (z4 = (z10 + (-1)))) = true ->
          K [[z0]] [[(cond (false) 1 0)]]
         ) /\ ((decide (z4 = (z10 + (-1)))) = false ->
          chkD 1 [z0,z4] /\
          ∀ z11 : Int,0 <= z11 -> z11 <= 255 -> z11 = fnD 1 [z0,z4] ->
          (((decide (z11 = 46)) = true ->
           chkD 1 [z0,(z4 + (-1))] /\
           ∀ z12 : Int,0 <= z12 -> z12 <= 255 -> z12 = fnD 1 [z0,(z4 + (-1))] ->
           (((decide (z12 = 46)) = true ->
            K [[z0]] [[(cond (false) 1 0)]]
           ) /\ ((decide (z12 = 46)) = false ->
            ∀ z13 : Int,0 <= z13 -> z13 <= 1 -> 0 <= (z4 + 9223372036854775809) - 18446744073709551616 * z13 -> (z4 + 9223372036854775809) - 18446744073709551616 * z13 < 18446744073709551616 ->
            chkD 39 [((z4 + ((-18446744073709551616) * z13)) + 1),0,9223372036854775807] /\
            (I3 [[((z4 + ((-18446744073709551616) * z13)) + 1)]] /\ μ3 [[((z4 + ((-18446744073709551616) * z13)) + 1)]] < μ3 [[z4]])
           ))
          ) /\ ((decide (z11 = 46)) = false ->
           ∀ z12 : Int,0 <= z12 -> z12 <= 1 -> 0 <= (z4 + 9223372036854775809) - 18446744073709551616 * z12 -> (z4 + 9223372036854775809) - 18446744073709551616 * z12 < 18446744073709551616 ->
           chkD 39 [((z4 + ((-18446744073709551616) * z12)) + 1),0,9223372036854775807] /\
           (I3 [[((z4 + ((-18446744073709551616) * z12)) + 1)]] /\ μ3 [[((z4 + ((-18446744073709551616) * z12)) + 1)]] < μ3 [[z4]])
          ))
         ))
        ))
       ) /\ ((decide (z7 = 45)) = false ->
        ∀ z10 : Int,0 <= z10 -> z10 <= 1 -> 0 <= (z4 + 9223372036854775809) - 18446744073709551616 * z10 -> (z4 + 9223372036854775809) - 18446744073709551616 * z10 < 18446744073709551616 ->
        chkD 39 [((z4 + ((-18446744073709551616) * z10)) + 1),0,9223372036854775807] /\
        (I3 [[((z4 + ((-18446744073709551616) * z10)) + 1)]] /\ μ3 [[((z4 + ((-18446744073709551616) * z10)) + 1)]] < μ3 [[z4]])
       ))
      ))
     ))
    ) /\ ((decide (z4 < z5)) = false ->
     K [[z0]] [[(cond (true) 1 0)]]
    ))
   )
  ))
 ))
def okAt (inn edge : UInt8 -> Bool) (s : Tx) (i : Nat) : Prop := inn (s.getD i 0) = true /\ (edge (s.getD i 0) = true -> 0 < i /\ i + 1 < s.length) /\ ¬ (s.getD i 0 = 46 /\ 0 < i /\ s.getD (i - 1) 0 = 46)
theorem okP_at (inn edge : UInt8 -> Bool) (s : Tx) : okP inn edge s = true ↔ ∀ i,i < s.length -> okAt inn edge s i := okP_iff inn edge s
theorem okP_bad {inn edge : UInt8 -> Bool} {s : Tx} {i : Nat} (hi : i < s.length) (h : ¬ okAt inn edge s i) : okP inn edge s = false := by
 cases ho : okP inn edge s with
 | false => rfl
 | true => exact absurd ((okP_at inn edge s).1 ho i hi) h
def PI (inn edge : UInt8 -> Bool) (z0 : Int) (bl : List (List Int)) : Prop := ∃ i : Nat,bl = [[(i : Int)]] /\ i <= (sOf z0).length /\ ∀ j,j < i -> okAt inn edge (sOf z0) j
def PM (z0 : Int) (bl : List (List Int)) : Nat := (sOf z0).length - ((bl.getD 0 []).getD 0 0).toNat
def AdvT (I : List (List Int) -> Prop) (M : List (List Int) -> Nat) (i : Int) : Prop := ∀ z16 : Int,0 <= z16 -> z16 <= 1 -> 0 <= (i + 9223372036854775809) - 18446744073709551616 * z16 -> (i + 9223372036854775809) - 18446744073709551616 * z16 < 18446744073709551616 ->
 chkD 39 [((i + ((-18446744073709551616) * z16)) + 1),0,9223372036854775807] /\ (I [[((i + ((-18446744073709551616) * z16)) + 1)]] /\ M [[((i + ((-18446744073709551616) * z16)) + 1)]] < M [[i]])
theorem adv {inn edge : UInt8 -> Bool} {z0 : Int} {i : Nat} (h1 : z0 <= HB) (hi : i < (sOf z0).length) (hall : ∀ j,j < i -> okAt inn edge (sOf z0) j) (h : okAt inn edge (sOf z0) i) : AdvT (PI inn edge z0) (PM z0) i := by
 intro q q0 q1 q2 q3
 have hL := len_lt h1
 rw [wrap1 (L := ((sOf z0).length : Int)) (by omega) hL (Int.natCast_nonneg _) q0 q2]
 refine ⟨⟨by omega,by omega⟩,⟨i + 1,by simp,by omega,fun j hj => ?_⟩,?_⟩
 ·by_cases hj' : j = i
  ·subst hj'; exact h
  ·exact hall j (by omega)
 ·show (sOf z0).length - ((i : Int) + 1).toNat < (sOf z0).length - (i : Int).toNat
  omega
theorem byte_eq {z0 z i n : Int} {k : Nat} (hi : i = (k : Int)) (hn : 0 <= n) (hn1 : n <= 255) (h : z = fnD 1 [z0,i]) : decide (z = n) = ((sOf z0).getD k 0 == u8 n) := by
 rw [h,hi]; simp only [fnD,Int.toNat_natCast]
 rw [Bool.eq_iff_iff,decide_eq_true_eq,u8_eq hn hn1]
theorem signT {K : Prop} {A : Prop} {z0 : Int} {i : Nat} (hi : i < (sOf z0).length) (he : edgeH ((sOf z0).getD i 0) = true) (hin : inHost ((sOf z0).getD i 0) = true)
 (hK : ¬ okAt inHost edgeH (sOf z0) i -> K) (hA : okAt inHost edgeH (sOf z0) i -> A) :
   (((decide ((i : Int) = 0)) = true ->
    K
   ) /\ ((decide ((i : Int) = 0)) = false ->
    ∀ z13 : Int,0 <= z13 -> z13 <= 9223372036854775807 -> z13 = fnD 0 [z0] ->
    (((decide ((i : Int) = (z13 + (-1)))) = true ->
     K
    ) /\ ((decide ((i : Int) = (z13 + (-1)))) = false ->
     chkD 1 [z0,(i : Int)] /\
     ∀ z14 : Int,0 <= z14 -> z14 <= 255 -> z14 = fnD 1 [z0,(i : Int)] ->
     (((decide (z14 = 46)) = true ->
      chkD 1 [z0,((i : Int) + (-1))] /\
      ∀ z15 : Int,0 <= z15 -> z15 <= 255 -> z15 = fnD 1 [z0,((i : Int) + (-1))] ->
      (((decide (z15 = 46)) = true ->
       K
      ) /\ ((decide (z15 = 46)) = false ->
       A
      ))
     ) /\ ((decide (z14 = 46)) = false ->
      A
     ))
    ))
   )) := by
 refine ⟨fun h => hK fun ho => ?_,fun h z13 a0 a1 h13 => ?_⟩
 ·have := (ho.2.1 he).1
  have : (i : Int) = 0 := by simpa using h
  omega
 ·have h0 : ¬ (i : Int) = 0 := by simpa using h
  simp only [fnD] at h13
  refine ⟨fun h => hK fun ho => ?_,fun h => ⟨⟨Int.natCast_nonneg _,by omega⟩,fun z14 b0 b1 h14 => ?_⟩⟩
  ·have := (ho.2.1 he).2
   have : (i : Int) = z13 + -1 := by simpa using h
   omega
  ·have h1 : ¬ (i : Int) = z13 + -1 := by simpa using h
   rw [byte_eq (n := 46) (k := i) rfl (by decide) (by decide) h14]
   refine ⟨fun h => ⟨⟨by omega,by omega⟩,fun z15 c0 c1 h15 => ?_⟩,fun h => hA ⟨hin,fun _ => ⟨by omega,by omega⟩,fun hh => ?_⟩⟩
   ·rw [byte_eq (n := 46) (k := i - 1) (by omega) (by decide) (by decide) h15]
    have h : (sOf z0).getD i 0 = 46 := beq_iff_eq.1 h
    refine ⟨fun h' => hK fun ho => ho.2.2 ⟨h,by omega,beq_iff_eq.1 h'⟩,fun h' => hA ⟨hin,fun _ => ⟨by omega,by omega⟩,fun hh => ?_⟩⟩
    have : ((sOf z0).getD (i - 1) 0 == u8 46) = true := beq_iff_eq.2 hh.2.2
    rw [this] at h'; cases h'
   ·have : ((sOf z0).getD i 0 == u8 46) = true := beq_iff_eq.2 hh.1
    rw [this] at h; cases h
theorem at_class {z0 i z q : Int} {k : Nat} {f : UInt8 -> Bool} (hi : i = (k : Int)) (h : z = fnD 1 [z0,i]) (hq : q = b01 (f (u8 z))) : decide (q = 1) = f ((sOf z0).getD k 0) := by
 rw [b01_dec hq,h,hi]; simp only [fnD,Int.toNat_natCast,u8_of]
theorem one_le {z1 z0 : Int} (h : z1 = fnD 0 [z0]) : decide (z1 < 1) = !Nat.blt 0 (sOf z0).length := by
 rw [h]; simp only [fnD]
 rw [Bool.eq_iff_iff,decide_eq_true_eq,Bool.not_eq_true',<- Bool.not_eq_true,Nat.blt_eq]; omega
theorem p_rhost : B_rhost SB (KBv SB [.bool] 30) := by
 intro z0 a0 a1 z1 b0 b1 h1
 have kk : ∀ b : Bool,hostb (sOf z0) = b -> KBv SB [.bool] 30 [[z0]] [[b01 b]] := fun b h => kb (by show b01 b = b01 (hostb (sOf z0)); rw [h])
 rw [one_le h1]
 refine ⟨fun h => kk false ?_,fun h z2 c0 c1 h2 => ?_⟩
 ·rw [Bool.not_eq_true'] at h; unfold hostb; rw [h]; rfl
 rw [Bool.not_eq_false'] at h
 rw [len_gt (n := 230) 230 rfl h2]
 refine ⟨fun h' => kk false ?_,fun h' => ⟨PI inHost edgeH z0,PM z0,⟨0,rfl,Nat.zero_le _,fun j hj => by omega⟩,?_⟩⟩
 ·rw [Bool.not_eq_true'] at h'; unfold hostb; rw [h']; simp
 rw [Bool.not_eq_false'] at h'
 rintro z4 d0 d1 ⟨i,e,hi,hall⟩ z5 e0 e1 h5
 obtain rfl : z4 = i := by simpa using e
 simp only [fnD] at h5
 refine ⟨fun hp => ?_,fun hp => kk true ?_⟩
 ·have hp : (i : Int) < z5 := by simpa using hp
  have hlt : i < (sOf z0).length := by omega
  have hc1 : chkD 1 [z0,(i : Int)] := ⟨d0,by omega⟩
  have hK : ¬ okAt inHost edgeH (sOf z0) i -> KBv SB [.bool] 30 [[z0]] [[b01 false]] := fun hn => kk false (by unfold hostb; rw [okP_bad hlt hn]; simp)
  have hA : okAt inHost edgeH (sOf z0) i -> AdvT (PI inHost edgeH z0) (PM z0) i := adv a1 hlt hall
  have hS : edgeH ((sOf z0).getD i 0) = true -> _ := fun he => signT hlt he (by unfold inHost; rw [he]; simp) hK hA
  refine ⟨hc1,fun z6 f0 f1 h6 => ?_⟩
  rw [byte_eq (n := 46) (k := i) rfl (by decide) (by decide) h6]
  refine ⟨fun h46 => ?_,fun h46 => ?_⟩
  ·have hs := hS (by unfold edgeH; rw [show ((sOf z0).getD i 0 == 46) = true from h46]; rfl)
   refine ⟨hc1,fun z7 g0 g1 h7 z8 i0 i1 h8 => ⟨fun _ => ⟨hc1,fun z9 j0 j1 h9 z10 k0 k1 h10 => ⟨fun _ => ⟨hc1,fun z11 l0 l1 h11 z12 m0 m1 h12 => ⟨fun _ => hs,fun _ => hs⟩⟩,fun _ => hs⟩⟩,fun _ => hs⟩⟩
  ·refine ⟨hc1,fun z7 g0 g1 h7 => ⟨hc1,fun z8 i0 i1 h8 z9 j0 j1 h9 => ?_⟩⟩
   have n46 : ¬ (sOf z0).getD i 0 = 46 := fun e => by
    have : ((sOf z0).getD i 0 == u8 46) = true := beq_iff_eq.2 e
    rw [this] at h46; cases h46
   have e45 := byte_eq (n := 45) (k := i) rfl (by decide) (by decide) h7
   rw [e45]
   have hmid : (isS ((sOf z0).getD i 0) = true ∨ isG ((sOf z0).getD i 0) = true ∨ isD ((sOf z0).getD i 0) = true) -> _ := fun hcl => And.intro (fun h45 : ((sOf z0).getD i 0 == u8 45) = true => hS (by unfold edgeH; rw [show ((sOf z0).getD i 0 == 45) = true from h45]; simp)) (fun h45 : ((sOf z0).getD i 0 == u8 45) = false => hA ⟨(by
    unfold inHost
    rcases hcl with h | h | h <;> rw [h] <;> simp),(fun he => by
    unfold edgeH at he
    rw [show ((sOf z0).getD i 0 == 45) = false from h45,show ((sOf z0).getD i 0 == 46) = false from h46] at he
    cases he),fun hh => n46 hh.1⟩)
   rw [at_class (f := isS) (k := i) rfl h8 h9]
   refine ⟨fun nS => ⟨hc1,fun z10 k0 k1 h10 z11 l0 l1 h11 => ?_⟩,fun hS' => hmid (.inl (by simpa using hS'))⟩
   rw [at_class (f := isG) (k := i) rfl h10 h11]
   refine ⟨fun nG => ⟨hc1,fun z12 m0 m1 h12 z13 n0 n1 h13 => ?_⟩,fun hG' => hmid (.inr (.inl (by simpa using hG')))⟩
   rw [at_class (f := isD) (k := i) rfl h12 h13]
   refine ⟨fun nD => ⟨fun n45 => hK fun ho => ?_,fun h45 => ?_⟩,fun hD' => hmid (.inr (.inr (by simpa using hD')))⟩
   ·have hin := ho.1
    unfold inHost edgeH at hin
    rw [show isS ((sOf z0).getD i 0) = false by simpa using nS,show isG ((sOf z0).getD i 0) = false by simpa using nG,show isD ((sOf z0).getD i 0) = false by simpa using nD,show ((sOf z0).getD i 0 == 45) = false from by rw [Bool.not_eq_true'] at n45; exact n45,show ((sOf z0).getD i 0 == 46) = false from h46] at hin
    cases hin
   ·rw [Bool.not_eq_false'] at h45
    have hs := hS (by unfold edgeH; rw [show ((sOf z0).getD i 0 == 45) = true from h45]; simp)
    exact ⟨fun _ => hs,fun h => by rw [h45] at h; cases h⟩
 ·have hp : ¬ (i : Int) < z5 := by simpa using hp
  unfold hostb
  rw [h,h',(okP_at inHost edgeH (sOf z0)).2 fun j hj => hall j (by omega)]; rfl
def B_rlocal (S : Nat -> List (List Int) -> List (List Int) -> Prop) (K : List (List Int) -> List (List Int) -> Prop) : Prop :=
 ∀ z0 : Int,0 <= z0 -> z0 <= HB ->
 ∀ z1 : Int,0 <= z1 -> z1 <= 9223372036854775807 -> z1 = fnD 0 [z0] ->
 (((decide (z1 < 1)) = true ->
  K [[z0]] [[(cond (false) 1 0)]]
 ) /\ ((decide (z1 < 1)) = false ->
  ∀ z2 : Int,0 <= z2 -> z2 <= 9223372036854775807 -> z2 = fnD 0 [z0] ->
  (((decide (64 < z2)) = true ->
   K [[z0]] [[(cond (false) 1 0)]]
  ) /\ ((decide (64 < z2)) = false ->
   ∃ (I3 : List (List Int) -> Prop) (μ3 : List (List Int) -> Nat),I3 [[0]] /\ (∀ z4 : Int,0 <= z4 -> z4 <= 9223372036854775807 -> I3 [[z4]] ->
    ∀ z5 : Int,0 <= z5 -> z5 <= 9223372036854775807 -> z5 = fnD 0 [z0] ->
    (((decide (z4 < z5)) = true ->
     chkD 1 [z0,z4] /\
     ∀ z6 : Int,0 <= z6 -> z6 <= 255 -> z6 = fnD 1 [z0,z4] ->
     (((decide (97 <= z6)) = true ->
      (((decide (z6 <= 122)) = true ->
       ∃ (I7 : List (List Int) -> Prop) (μ7 : List (List Int) -> Nat),I7 [[0],[1]] /\ (∀ z8 : Int,0 <= z8 -> z8 <= 9223372036854775807 -> ∀ z9 : Int,0 <= z9 -> z9 <= 1 -> I7 [[z8],[z9]] ->
        (((decide (z8 < 19)) = true ->
         (((decide (z9 = 1)) = true ->
          (I7 [[(z8 + 1)],[1]] /\ μ7 [[(z8 + 1)],[1]] < μ7 [[z8],[z9]])
         ) /\ ((decide (z9 = 1)) = false ->
          chkD 1 [1112275947084288557575193961879115365961291049,z8] /\
          ∀ z10 : Int,0 <= z10 -> z10 <= 255 -> z10 = fnD 1 [1112275947084288557575193961879115365961291049,z8] ->
          ∀ z11 : Int,0 <= z11 -> z11 <= 1 -> decide (z10 = z6) = decide (z11 = 1) ->
          (I7 [[(z8 + 1)],[z11]] /\ μ7 [[(z8 + 1)],[z11]] < μ7 [[z8],[z9]])
         ))
        ) /\ ((decide (z8 < 19)) = false ->
         ((((!(decide (z9 = 1)))) = true ->
          K [[z0]] [[(cond (false) 1 0)]]
         ) /\ (((!(decide (z9 = 1)))) = false ->
          ∀ z10 : Int,0 <= z10 -> z10 <= 1 -> 0 <= (z4 + 9223372036854775809) - 18446744073709551616 * z10 -> (z4 + 9223372036854775809) - 18446744073709551616 * z10 < 18446744073709551616 ->
          chkD 39 [((z4 + ((-18446744073709551616) * z10)) + 1),0,9223372036854775807] /\
          (I3 [[((z4 + ((-18446744073709551616) * z10)) + 1)]] /\ μ3 [[((z4 + ((-18446744073709551616) * z10)) + 1)]] < μ3 [[z4]])
         ))
        ))
       )
      ) /\ ((decide (z6 <= 122)) = false ->
       ∃ (I7 : List (List Int) -> Prop) (μ7 : List (List Int) -> Nat),I7 [[0],[0]] /\ (∀ z8 : Int,0 <= z8 -> z8 <= 9223372036854775807 -> ∀ z9 : Int,0 <= z9 -> z9 <= 1 -> I7 [[z8],[z9]] ->
        (((decide (z8 < 19)) = true ->
         (((decide (z9 = 1)) = true ->
          (I7 [[(z8 + 1)],[1]] /\ μ7 [[(z8 + 1)],[1]] < μ7 [[z8],[z9]])
         ) /\ ((decide (z9 = 1)) = false ->
          chkD 1 [1112275947084288557575193961879115365961291049,z8] /\
          ∀ z10 : Int,0 <= z10 -> z10 <= 255 -> z10 = fnD 1 [1112275947084288557575193961879115365961291049,z8] ->
          ∀ z11 : Int,0 <= z11 -> z11 <= 1 -> decide (z10 = z6) = decide (z11 = 1) ->
          (I7 [[(z8 + 1)],[z11]] /\ μ7 [[(z8 + 1)],[z11]] < μ7 [[z8],[z9]])
         ))
        ) /\ ((decide (z8 < 19)) = false ->
         ((((!(decide (z9 = 1)))) = true ->
          K [[z0]] [[(cond (false) 1 0)]]
         ) /\ (((!(decide (z9 = 1)))) = false ->
          ∀ z10 : Int,0 <= z10 -> z10 <= 1 -> 0 <= (z4 + 9223372036854775809) - 18446744073709551616 * z10 -> (z4 + 9223372036854775809) - 18446744073709551616 * z10 < 18446744073709551616 ->
          chkD 39 [((z4 + ((-18446744073709551616) * z10)) + 1),0,9223372036854775807] /\
          (I3 [[((z4 + ((-18446744073709551616) * z10)) + 1)]] /\ μ3 [[((z4 + ((-18446744073709551616) * z10)) + 1)]] < μ3 [[z4]])
         ))
        ))
       )
      ))
     ) /\ ((decide (97 <= z6)) = false ->
      (((decide (65 <= z6)) = true ->
       (((decide (z6 <= 90)) = true ->
        ∃ (I7 : List (List Int) -> Prop) (μ7 : List (List Int) -> Nat),I7 [[0],[1]] /\ (∀ z8 : Int,0 <= z8 -> z8 <= 9223372036854775807 -> ∀ z9 : Int,0 <= z9 -> z9 <= 1 -> I7 [[z8],[z9]] ->
         (((decide (z8 < 19)) = true ->
          (((decide (z9 = 1)) = true ->
           (I7 [[(z8 + 1)],[1]] /\ μ7 [[(z8 + 1)],[1]] < μ7 [[z8],[z9]])
          ) /\ ((decide (z9 = 1)) = false ->
           chkD 1 [1112275947084288557575193961879115365961291049,z8] /\
           ∀ z10 : Int,0 <= z10 -> z10 <= 255 -> z10 = fnD 1 [1112275947084288557575193961879115365961291049,z8] ->
           ∀ z11 : Int,0 <= z11 -> z11 <= 1 -> decide (z10 = z6) = decide (z11 = 1) ->
           (I7 [[(z8 + 1)],[z11]] /\ μ7 [[(z8 + 1)],[z11]] < μ7 [[z8],[z9]])
          ))
         ) /\ ((decide (z8 < 19)) = false ->
          ((((!(decide (z9 = 1)))) = true ->
           K [[z0]] [[(cond (false) 1 0)]]
          ) /\ (((!(decide (z9 = 1)))) = false ->
           ∀ z10 : Int,0 <= z10 -> z10 <= 1 -> 0 <= (z4 + 9223372036854775809) - 18446744073709551616 * z10 -> (z4 + 9223372036854775809) - 18446744073709551616 * z10 < 18446744073709551616 ->
           chkD 39 [((z4 + ((-18446744073709551616) * z10)) + 1),0,9223372036854775807] /\
           (I3 [[((z4 + ((-18446744073709551616) * z10)) + 1)]] /\ μ3 [[((z4 + ((-18446744073709551616) * z10)) + 1)]] < μ3 [[z4]])
          ))
         ))
        )
       ) /\ ((decide (z6 <= 90)) = false ->
        ∃ (I7 : List (List Int) -> Prop) (μ7 : List (List Int) -> Nat),I7 [[0],[0]] /\ (∀ z8 : Int,0 <= z8 -> z8 <= 9223372036854775807 -> ∀ z9 : Int,0 <= z9 -> z9 <= 1 -> I7 [[z8],[z9]] ->
         (((decide (z8 < 19)) = true ->
          (((decide (z9 = 1)) = true ->
           (I7 [[(z8 + 1)],[1]] /\ μ7 [[(z8 + 1)],[1]] < μ7 [[z8],[z9]])
          ) /\ ((decide (z9 = 1)) = false ->
           chkD 1 [1112275947084288557575193961879115365961291049,z8] /\
           ∀ z10 : Int,0 <= z10 -> z10 <= 255 -> z10 = fnD 1 [1112275947084288557575193961879115365961291049,z8] ->
           ∀ z11 : Int,0 <= z11 -> z11 <= 1 -> decide (z10 = z6) = decide (z11 = 1) ->
           (I7 [[(z8 + 1)],[z11]] /\ μ7 [[(z8 + 1)],[z11]] < μ7 [[z8],[z9]])
          ))
         ) /\ ((decide (z8 < 19)) = false ->
          ((((!(decide (z9 = 1)))) = true ->
           K [[z0]] [[(cond (false) 1 0)]]
          ) /\ (((!(decide (z9 = 1)))) = false ->
           ∀ z10 : Int,0 <= z10 -> z10 <= 1 -> 0 <= (z4 + 9223372036854775809) - 18446744073709551616 * z10 -> (z4 + 9223372036854775809) - 18446744073709551616 * z10 < 18446744073709551616 ->
           chkD 39 [((z4 + ((-18446744073709551616) * z10)) + 1),0,9223372036854775807] /\
           (I3 [[((z4 + ((-18446744073709551616) * z10)) + 1)]] /\ μ3 [[((z4 + ((-18446744073709551616) * z10)) + 1)]] < μ3 [[z4]])
          ))
         ))
        )
       ))
      ) /\ ((decide (65 <= z6)) = false ->
       (((decide (48 <= z6)) = true ->
        ∀ z7 : Int,0 <= z7 -> z7 <= 1 -> decide (z6 <= 57) = decide (z7 = 1) ->
        ∃ (I8 : List (List Int) -> Prop) (μ8 : List (List Int) -> Nat),I8 [[0],[z7]] /\ (∀ z9 : Int,0 <= z9 -> z9 <= 9223372036854775807 -> ∀ z10 : Int,0 <= z10 -> z10 <= 1 -> I8 [[z9],[z10]] ->
         (((decide (z9 < 19)) = true ->
          (((decide (z10 = 1)) = true ->
           (I8 [[(z9 + 1)],[1]] /\ μ8 [[(z9 + 1)],[1]] < μ8 [[z9],[z10]])
          ) /\ ((decide (z10 = 1)) = false ->
           chkD 1 [1112275947084288557575193961879115365961291049,z9] /\
           ∀ z11 : Int,0 <= z11 -> z11 <= 255 -> z11 = fnD 1 [1112275947084288557575193961879115365961291049,z9] ->
           ∀ z12 : Int,0 <= z12 -> z12 <= 1 -> decide (z11 = z6) = decide (z12 = 1) ->
           (I8 [[(z9 + 1)],[z12]] /\ μ8 [[(z9 + 1)],[z12]] < μ8 [[z9],[z10]])
          ))
         ) /\ ((decide (z9 < 19)) = false ->
          ((((!(decide (z10 = 1)))) = true ->
           K [[z0]] [[(cond (false) 1 0)]]
          ) /\ (((!(decide (z10 = 1)))) = false ->
           ∀ z11 : Int,0 <= z11 -> z11 <= 1 -> 0 <= (z4 + 9223372036854775809) - 18446744073709551616 * z11 -> (z4 + 9223372036854775809) - 18446744073709551616 * z11 < 18446744073709551616 ->
           chkD 39 [((z4 + ((-18446744073709551616) * z11)) + 1),0,9223372036854775807] /\
           (I3 [[((z4 + ((-18446744073709551616) * z11)) + 1)]] /\ μ3 [[((z4 + ((-18446744073709551616) * z11)) + 1)]] < μ3 [[z4]])
          ))
         ))
        )
       ) /\ ((decide (48 <= z6)) = false ->
        ∃ (I7 : List (List Int) -> Prop) (μ7 : List (List Int) -> Nat),I7 [[0],[0]] /\ (∀ z8 : Int,0 <= z8 -> z8 <= 9223372036854775807 -> ∀ z9 : Int,0 <= z9 -> z9 <= 1 -> I7 [[z8],[z9]] ->
         (((decide (z8 < 19)) = true ->
          (((decide (z9 = 1)) = true ->
           (I7 [[(z8 + 1)],[1]] /\ μ7 [[(z8 + 1)],[1]] < μ7 [[z8],[z9]])
          ) /\ ((decide (z9 = 1)) = false ->
           chkD 1 [1112275947084288557575193961879115365961291049,z8] /\
           ∀ z10 : Int,0 <= z10 -> z10 <= 255 -> z10 = fnD 1 [1112275947084288557575193961879115365961291049,z8] ->
           ∀ z11 : Int,0 <= z11 -> z11 <= 1 -> decide (z10 = z6) = decide (z11 = 1) ->
           (I7 [[(z8 + 1)],[z11]] /\ μ7 [[(z8 + 1)],[z11]] < μ7 [[z8],[z9]])
          ))
         ) /\ ((decide (z8 < 19)) = false ->
          (((decide (z6 = 46)) = true ->
           (((decide (0 < z4)) = true ->
            ∀ z10 : Int,0 <= z10 -> z10 <= 9223372036854775807 -> z10 = fnD 0 [z0] ->
            (((decide (z4 < (z10 + (-1)))) = true ->
             chkD 1 [z0,(z4 + (-1))] /\
             ∀ z11 : Int,0 <= z11 -> z11 <= 255 -> z11 = fnD 1 [z0,(z4 + (-1))] ->
             (((decide (z11 = 46)) = true ->
              K [[z0]] [[(cond (false) 1 0)]]
             ) /\ ((decide (z11 = 46)) = false ->
              ∀ z12 : Int,0 <= z12 -> z12 <= 1 -> 0 <= (z4 + 9223372036854775809) - 18446744073709551616 * z12 -> (z4 + 9223372036854775809) - 18446744073709551616 * z12 < 18446744073709551616 ->
              chkD 39 [((z4 + ((-18446744073709551616) * z12)) + 1),0,9223372036854775807] /\
              (I3 [[((z4 + ((-18446744073709551616) * z12)) + 1)]] /\ μ3 [[((z4 + ((-18446744073709551616) * z12)) + 1)]] < μ3 [[z4]])
             ))
            ) /\ ((decide (z4 < (z10 + (-1)))) = false ->
             K [[z0]] [[(cond (false) 1 0)]]
            ))
           ) /\ ((decide (0 < z4)) = false ->
            K [[z0]] [[(cond (false) 1 0)]]
           ))
          ) /\ ((decide (z6 = 46)) = false ->
           ((((!(decide (z9 = 1)))) = true ->
            K [[z0]] [[(cond (false) 1 0)]]
           ) /\ (((!(decide (z9 = 1)))) = false ->
            ∀ z10 : Int,0 <= z10 -> z10 <= 1 -> 0 <= (z4 + 9223372036854775809) - 18446744073709551616 * z10 -> (z4 + 9223372036854775809) - 18446744073709551616 * z10 < 18446744073709551616 ->
            chkD 39 [((z4 + ((-18446744073709551616) * z10)) + 1),0,9223372036854775807] /\
            (I3 [[((z4 + ((-18446744073709551616) * z10)) + 1)]] /\ μ3 [[((z4 + ((-18446744073709551616) * z10)) + 1)]] < μ3 [[z4]])
           ))
          ))
         ))
        )
       ))
      ))
     ))
    ) /\ ((decide (z4 < z5)) = false ->
     K [[z0]] [[(cond (true) 1 0)]]
    ))
   )
  ))
 ))
def cls (c : UInt8) : Bool := isS c || isG c || isD c
theorem clsZ {z : Int} {c : UInt8} (h : z = (c.toNat : Int)) : cls c = decide ((97 <= z /\ z <= 122) ∨ (65 <= z /\ z <= 90) ∨ (48 <= z /\ z <= 57)) := by
 rw [h]; unfold cls isS isG isD
 rw [Bool.eq_iff_iff]
 simp only [Bool.or_eq_true,Bool.and_eq_true,Nat.ble_eq,decide_eq_true_eq]
 omega
theorem kSigns : sOf 1112275947084288557575193961879115365961291049 = signs := by decide +kernel
theorem signsLoop {c : UInt8} {z6 z7 : Int} (h6 : z6 = (c.toNat : Int)) (z70 : 0 <= z7) (z71 : z7 <= 1) {E : Int -> Prop} (hE : ∀ z9,0 <= z9 -> z9 <= 1 -> z9 = b01 (decide (z7 = 1) || signs.contains c) -> E z9) :
 ∃ (I7 : List (List Int) -> Prop) (μ7 : List (List Int) -> Nat),I7 [[0],[z7]] /\ (∀ z8 : Int,0 <= z8 -> z8 <= 9223372036854775807 -> ∀ z9 : Int,0 <= z9 -> z9 <= 1 -> I7 [[z8],[z9]] ->
  (((decide (z8 < 19)) = true ->
   (((decide (z9 = 1)) = true ->
    (I7 [[(z8 + 1)],[1]] /\ μ7 [[(z8 + 1)],[1]] < μ7 [[z8],[z9]])
   ) /\ ((decide (z9 = 1)) = false ->
    chkD 1 [1112275947084288557575193961879115365961291049,z8] /\
    ∀ z10 : Int,0 <= z10 -> z10 <= 255 -> z10 = fnD 1 [1112275947084288557575193961879115365961291049,z8] ->
    ∀ z11 : Int,0 <= z11 -> z11 <= 1 -> decide (z10 = z6) = decide (z11 = 1) ->
    (I7 [[(z8 + 1)],[z11]] /\ μ7 [[(z8 + 1)],[z11]] < μ7 [[z8],[z9]])
   ))
  ) /\ ((decide (z8 < 19)) = false ->
   E z9
  ))
 ) := by
 have dz : ∀ z : Int,0 <= z -> z <= 1 -> z = b01 (decide (z = 1)) := fun z h0 h1 => by
  rcases (show z = 0 ∨ z = 1 by omega) with rfl | rfl <;> rfl
 refine ⟨fun bl => ∃ (k : Nat) (z : Int),bl = [[(k : Int)],[z]] /\ k <= 19 /\ decide (z = 1) = (decide (z7 = 1) || (signs.take k).contains c),fun bl => 19 - ((bl.getD 0 []).getD 0 0).toNat,⟨0,z7,rfl,by omega,by simp⟩,?_⟩
 rintro z8 a0 a1 z9 b0 b1 ⟨k,z,e,hk,hz⟩
 obtain ⟨rfl,rfl⟩ : z8 = k /\ z9 = z := by simpa using e
 have hsl : signs.length = 19 := by decide
 refine ⟨fun hp => ?_,fun hp => hE z9 b0 b1 ?_⟩
 ·have hp : (k : Int) < 19 := by simpa using hp
  have hlt : k < signs.length := by omega
  refine ⟨fun h1 => ⟨⟨k + 1,1,by simp,by omega,?_⟩,by show 19 - ((k : Int) + 1).toNat < 19 - (k : Int).toNat; omega⟩,fun h1 => ⟨⟨a0,by rw [kSigns]; omega⟩,fun z10 c0 c1 h10 z11 d0 d1 h11 => ⟨⟨k + 1,z11,by simp,by omega,?_⟩,by show 19 - ((k : Int) + 1).toNat < 19 - (k : Int).toNat; omega⟩⟩⟩
  ·rw [contains_take _ _ _ hlt,<- Bool.or_assoc,<- hz,h1]; rfl
  ·rw [contains_take _ _ _ hlt,<- Bool.or_assoc,<- hz,h1,Bool.false_or,<- h11,h10,h6]
   simp only [fnD,kSigns,Int.toNat_natCast]
   rw [Bool.eq_iff_iff,decide_eq_true_eq,beq_iff_eq,<- UInt8.toNat_inj]
   omega
 ·have hp : ¬ (k : Int) < 19 := by simpa using hp
  rw [List.take_of_length_le (by omega)] at hz
  rw [dz z9 b0 b1,hz]
theorem p_rlocal : B_rlocal SB (KBv SB [.bool] 29) := by
 intro z0 a0 a1 z1 b0 b1 h1
 have kk : ∀ b : Bool,localb (sOf z0) = b -> KBv SB [.bool] 29 [[z0]] [[b01 b]] := fun b h => kb (by show b01 b = b01 (localb (sOf z0)); rw [h])
 rw [one_le h1]
 refine ⟨fun h => kk false ?_,fun h z2 c0 c1 h2 => ?_⟩
 ·rw [Bool.not_eq_true'] at h; unfold localb; rw [h]; rfl
 rw [Bool.not_eq_false'] at h
 rw [len_gt (n := 64) 64 rfl h2]
 refine ⟨fun h' => kk false ?_,fun h' => ⟨PI inLocal (· == 46) z0,PM z0,⟨0,rfl,Nat.zero_le _,fun j hj => by omega⟩,?_⟩⟩
 ·rw [Bool.not_eq_true'] at h'; unfold localb; rw [h']; simp
 rw [Bool.not_eq_false'] at h'
 rintro z4 d0 d1 ⟨i,e,hi,hall⟩ z5 e0 e1 h5
 obtain rfl : z4 = i := by simpa using e
 simp only [fnD] at h5
 refine ⟨fun hp => ?_,fun hp => kk true ?_⟩
 ·have hp : (i : Int) < z5 := by simpa using hp
  have hlt : i < (sOf z0).length := by omega
  have hc1 : chkD 1 [z0,(i : Int)] := ⟨d0,by omega⟩
  have hK : ¬ okAt inLocal (· == 46) (sOf z0) i -> KBv SB [.bool] 29 [[z0]] [[b01 false]] := fun hn => kk false (by unfold localb; rw [okP_bad hlt hn]; simp)
  have hA : okAt inLocal (· == 46) (sOf z0) i -> AdvT (PI inLocal (· == 46) z0) (PM z0) i := adv a1 hlt hall
  refine ⟨hc1,fun z6 f0 f1 h6 => ?_⟩
  have h6 : z6 = (((sOf z0).getD i 0).toNat : Int) := by rw [h6]; simp only [fnD,Int.toNat_natCast]
  have e46 := u8_eq (b := (sOf z0).getD i 0) (z := 46) (by decide) (by decide)
  have hE : ¬ z6 = 46 -> ∀ z9 : Int,z9 = b01 (cls ((sOf z0).getD i 0) || signs.contains ((sOf z0).getD i 0)) -> (((!decide (z9 = 1)) = true -> KBv SB [.bool] 29 [[z0]] [[b01 false]]) /\ ((!decide (z9 = 1)) = false -> AdvT (PI inLocal (· == 46) z0) (PM z0) i)) := fun n46 z9 h9 => by
   have n46' : ((sOf z0).getD i 0 == 46) = false := by
    cases hh : ((sOf z0).getD i 0 == 46) with
    | false => rfl
    | true => exact absurd (h6.trans (e46.2 hh)) n46
   rw [b01_dec h9]
   refine ⟨fun hx => hK fun ho => ?_,fun hx => hA ⟨?_,fun he => ?_,fun hh => ?_⟩⟩
   ·have hin := ho.1
    rw [Bool.not_eq_true'] at hx
    unfold inLocal at hin; unfold cls at hx
    rw [hx,n46'] at hin; cases hin
   ·rw [Bool.not_eq_false'] at hx
    unfold inLocal; unfold cls at hx; rw [hx]; rfl
   ·have he : ((sOf z0).getD i 0 == 46) = true := he
    rw [n46'] at he; cases he
   ·rw [hh.1] at n46'; cases n46'
  have hcz := clsZ h6
  refine ⟨fun hA1 => ⟨fun hA2 => ?_,fun hA2 => ?_⟩,fun hA1 => ⟨fun hB1 => ⟨fun hB2 => ?_,fun hB2 => ?_⟩,fun hB1 => ⟨fun hC1 z7 g0 g1 h7 => ?_,fun hC1 => ?_⟩⟩⟩
  ·have hA1 : 97 <= z6 := by simpa using hA1
   have hA2 : z6 <= 122 := by simpa using hA2
   refine signsLoop h6 (by decide) (by decide) fun z9 i0 i1 h9 => hE (by omega) z9 ?_
   rw [h9,hcz]; congr 2; simp; omega
  ·have hA1 : 97 <= z6 := by simpa using hA1
   have hA2 : ¬ z6 <= 122 := by simpa using hA2
   refine signsLoop h6 (by decide) (by decide) fun z9 i0 i1 h9 => hE (by omega) z9 ?_
   rw [h9,hcz]; congr 2; simp; omega
  ·have hA1 : ¬ 97 <= z6 := by simpa using hA1
   have hB1 : 65 <= z6 := by simpa using hB1
   have hB2 : z6 <= 90 := by simpa using hB2
   refine signsLoop h6 (by decide) (by decide) fun z9 i0 i1 h9 => hE (by omega) z9 ?_
   rw [h9,hcz]; congr 2; simp; omega
  ·have hA1 : ¬ 97 <= z6 := by simpa using hA1
   have hB1 : 65 <= z6 := by simpa using hB1
   have hB2 : ¬ z6 <= 90 := by simpa using hB2
   refine signsLoop h6 (by decide) (by decide) fun z9 i0 i1 h9 => hE (by omega) z9 ?_
   rw [h9,hcz]; congr 2; simp; omega
  ·have hA1 : ¬ 97 <= z6 := by simpa using hA1
   have hB1 : ¬ 65 <= z6 := by simpa using hB1
   have hC1 : 48 <= z6 := by simpa using hC1
   refine signsLoop h6 g0 g1 fun z9 i0 i1 h9 => hE (by omega) z9 ?_
   rw [h9,hcz,<- h7]; congr 2; rw [Bool.eq_iff_iff,decide_eq_true_eq,decide_eq_true_eq]; omega
  ·have hA1 : ¬ 97 <= z6 := by simpa using hA1
   have hB1 : ¬ 65 <= z6 := by simpa using hB1
   have hC1 : ¬ 48 <= z6 := by simpa using hC1
   refine signsLoop h6 (by decide) (by decide) fun z9 i0 i1 h9 => ⟨fun h46 => ?_,fun h46 => ?_⟩
   ·have h46 : z6 = 46 := by simpa using h46
    have hc : (sOf z0).getD i 0 = 46 := beq_iff_eq.1 (e46.1 (by omega))
    have hin : inLocal ((sOf z0).getD i 0) = true := by rw [hc]; decide
    refine ⟨fun hi0 z10 j0 j1 h10 => ?_,fun hi0 => hK fun ho => ?_⟩
    ·have hi0 : 0 < (i : Int) := by simpa using hi0
     simp only [fnD] at h10
     refine ⟨fun hl => ⟨⟨by omega,by omega⟩,fun z11 k0 k1 h11 => ?_⟩,fun hl => hK fun ho => ?_⟩
     ·have hl : (i : Int) < z10 + -1 := by simpa using hl
      rw [byte_eq (n := 46) (k := i - 1) (by omega) (by decide) (by decide) h11]
      refine ⟨fun hq => hK fun ho => ho.2.2 ⟨hc,by omega,beq_iff_eq.1 hq⟩,fun hq => hA ⟨hin,fun _ => ⟨by omega,by omega⟩,fun hh => ?_⟩⟩
      have : ((sOf z0).getD (i - 1) 0 == u8 46) = true := beq_iff_eq.2 hh.2.2
      rw [this] at hq; cases hq
     ·have hl : ¬ (i : Int) < z10 + -1 := by simpa using hl
      have := (ho.2.1 (beq_iff_eq.2 hc)).2
      omega
    ·have hi0 : ¬ 0 < (i : Int) := by simpa using hi0
     have := (ho.2.1 (beq_iff_eq.2 hc)).1
     omega
   ·have h46 : ¬ z6 = 46 := by simpa using h46
    refine hE h46 z9 ?_
    rw [h9,hcz]; congr 2; simp; omega
 ·have hp : ¬ (i : Int) < z5 := by simpa using hp
  unfold localb
  rw [h,h',(okP_at inLocal (· == 46) (sOf z0)).2 fun j hj => hall j (by omega)]; rfl
def B_remail (S : Nat -> List (List Int) -> List (List Int) -> Prop) (K : List (List Int) -> List (List Int) -> Prop) : Prop :=
 ∀ z0 : Int,0 <= z0 -> z0 <= HB ->
 ∃ (I1 : List (List Int) -> Prop) (μ1 : List (List Int) -> Nat),I1 [[z0]] /\ (∀ z2 : Int,0 <= z2 -> z2 <= HB -> I1 [[z2]] ->
  ∀ z3 : Int,0 <= z3 -> z3 <= 9223372036854775807 -> z3 = fnD 0 [z2] ->
  (((decide (0 < z3)) = true ->
   chkD 1 [z2,0] /\
   ∀ z4 : Int,0 <= z4 -> z4 <= 255 -> z4 = fnD 1 [z2,0] ->
   (((decide (z4 = 32)) = true ->
    ∀ z5 : Int,0 <= z5 -> z5 <= 9223372036854775807 -> z5 = fnD 0 [z2] ->
    chkD 2 [z2,1,z5] /\
    ∀ z6 : Int,0 <= z6 -> z6 <= HB -> z6 = fnD 2 [z2,1,z5] ->
    (I1 [[z6]] /\ μ1 [[z6]] < μ1 [[z2]])
   ) /\ ((decide (z4 = 32)) = false ->
    ∃ (I5 : List (List Int) -> Prop) (μ5 : List (List Int) -> Nat),I5 [[z2]] /\ (∀ z6 : Int,0 <= z6 -> z6 <= HB -> I5 [[z6]] ->
     ∀ z7 : Int,0 <= z7 -> z7 <= 9223372036854775807 -> z7 = fnD 0 [z6] ->
     (((decide (0 < z7)) = true ->
      ∀ z8 : Int,0 <= z8 -> z8 <= 9223372036854775807 -> z8 = fnD 0 [z6] ->
      chkD 1 [z6,(z8 + (-1))] /\
      ∀ z9 : Int,0 <= z9 -> z9 <= 255 -> z9 = fnD 1 [z6,(z8 + (-1))] ->
      (((decide (z9 = 32)) = true ->
       ∀ z10 : Int,0 <= z10 -> z10 <= 9223372036854775807 -> z10 = fnD 0 [z6] ->
       chkD 2 [z6,0,(z10 + (-1))] /\
       ∀ z11 : Int,0 <= z11 -> z11 <= HB -> z11 = fnD 2 [z6,0,(z10 + (-1))] ->
       (I5 [[z11]] /\ μ5 [[z11]] < μ5 [[z6]])
      ) /\ ((decide (z9 = 32)) = false ->
       ∃ (I10 : List (List Int) -> Prop) (μ10 : List (List Int) -> Nat),I10 [[0]] /\ (∀ z11 : Int,0 <= z11 -> z11 <= 9223372036854775807 -> I10 [[z11]] ->
        ∀ z12 : Int,0 <= z12 -> z12 <= 9223372036854775807 -> z12 = fnD 0 [z6] ->
        (((decide (z11 < z12)) = true ->
         chkD 1 [z6,z11] /\
         ∀ z13 : Int,0 <= z13 -> z13 <= 255 -> z13 = fnD 1 [z6,z11] ->
         (((decide (z13 = 64)) = true ->
          chkD 2 [z6,0,z11] /\
          ∀ z14 : Int,0 <= z14 -> z14 <= HB -> z14 = fnD 2 [z6,0,z11] ->
          ∀ z15 : Int,0 <= z15 -> z15 <= 1 -> S 29 [[z14]] [[z15]] ->
          (((decide (z15 = 1)) = true ->
           ∀ z16 : Int,0 <= z16 -> z16 <= 1 -> 0 <= (z11 + 9223372036854775809) - 18446744073709551616 * z16 -> (z11 + 9223372036854775809) - 18446744073709551616 * z16 < 18446744073709551616 ->
           ∀ z17 : Int,0 <= z17 -> z17 <= 9223372036854775807 -> z17 = fnD 0 [z6] ->
           chkD 2 [z6,((z11 + ((-18446744073709551616) * z16)) + 1),z17] /\
           ∀ z18 : Int,0 <= z18 -> z18 <= HB -> z18 = fnD 2 [z6,((z11 + ((-18446744073709551616) * z16)) + 1),z17] ->
           ∀ z19 : Int,0 <= z19 -> z19 <= 1 -> S 30 [[z18]] [[z19]] ->
           (((decide (z19 = 1)) = true ->
            ∀ z20 : Int,0 <= z20 -> z20 <= 1 -> 0 <= (z11 + 9223372036854775809) - 18446744073709551616 * z20 -> (z11 + 9223372036854775809) - 18446744073709551616 * z20 < 18446744073709551616 ->
            ∀ z21 : Int,0 <= z21 -> z21 <= 9223372036854775807 -> z21 = fnD 0 [z6] ->
            chkD 2 [z6,((z11 + ((-18446744073709551616) * z20)) + 1),z21] /\
            ∀ z22 : Int,0 <= z22 -> z22 <= HB -> z22 = fnD 2 [z6,((z11 + ((-18446744073709551616) * z20)) + 1),z21] ->
            ∀ z23 : Int,0 <= z23 -> z23 <= 1 -> S 31 [[z22],[46]] [[z23]] ->
            (((decide (z23 = 1)) = true ->
             ∀ z24 : Int,0 <= z24 -> z24 <= 9223372036854775807 -> z24 = fnD 0 [z6] ->
             (((decide (z24 <= 254)) = true ->
              ∀ z25 : Int,0 <= z25 -> z25 <= HB -> S 17 [[z6]] [[z25]] ->
              K [[z0]] [[z25],[0]]
             ) /\ ((decide (z24 <= 254)) = false ->
              K [[z0]] [[0],[2]]
             ))
            ) /\ ((decide (z23 = 1)) = false ->
             K [[z0]] [[0],[2]]
            ))
           ) /\ ((decide (z19 = 1)) = false ->
            K [[z0]] [[0],[2]]
           ))
          ) /\ ((decide (z15 = 1)) = false ->
           K [[z0]] [[0],[2]]
          ))
         ) /\ ((decide (z13 = 64)) = false ->
          ∀ z14 : Int,0 <= z14 -> z14 <= 1 -> 0 <= (z11 + 9223372036854775809) - 18446744073709551616 * z14 -> (z11 + 9223372036854775809) - 18446744073709551616 * z14 < 18446744073709551616 ->
          chkD 39 [((z11 + ((-18446744073709551616) * z14)) + 1),0,9223372036854775807] /\
          (I10 [[((z11 + ((-18446744073709551616) * z14)) + 1)]] /\ μ10 [[((z11 + ((-18446744073709551616) * z14)) + 1)]] < μ10 [[z11]])
         ))
        ) /\ ((decide (z11 < z12)) = false ->
         K [[z0]] [[0],[2]]
        ))
       )
      ))
     ) /\ ((decide (0 < z7)) = false ->
      ∃ (I8 : List (List Int) -> Prop) (μ8 : List (List Int) -> Nat),I8 [[0]] /\ (∀ z9 : Int,0 <= z9 -> z9 <= 9223372036854775807 -> I8 [[z9]] ->
       ∀ z10 : Int,0 <= z10 -> z10 <= 9223372036854775807 -> z10 = fnD 0 [z6] ->
       (((decide (z9 < z10)) = true ->
        chkD 1 [z6,z9] /\
        ∀ z11 : Int,0 <= z11 -> z11 <= 255 -> z11 = fnD 1 [z6,z9] ->
        (((decide (z11 = 64)) = true ->
         chkD 2 [z6,0,z9] /\
         ∀ z12 : Int,0 <= z12 -> z12 <= HB -> z12 = fnD 2 [z6,0,z9] ->
         ∀ z13 : Int,0 <= z13 -> z13 <= 1 -> S 29 [[z12]] [[z13]] ->
         (((decide (z13 = 1)) = true ->
          ∀ z14 : Int,0 <= z14 -> z14 <= 1 -> 0 <= (z9 + 9223372036854775809) - 18446744073709551616 * z14 -> (z9 + 9223372036854775809) - 18446744073709551616 * z14 < 18446744073709551616 ->
          ∀ z15 : Int,0 <= z15 -> z15 <= 9223372036854775807 -> z15 = fnD 0 [z6] ->
          chkD 2 [z6,((z9 + ((-18446744073709551616) * z14)) + 1),z15] /\
          ∀ z16 : Int,0 <= z16 -> z16 <= HB -> z16 = fnD 2 [z6,((z9 + ((-18446744073709551616) * z14)) + 1),z15] ->
          ∀ z17 : Int,0 <= z17 -> z17 <= 1 -> S 30 [[z16]] [[z17]] ->
          (((decide (z17 = 1)) = true ->
           ∀ z18 : Int,0 <= z18 -> z18 <= 1 -> 0 <= (z9 + 9223372036854775809) - 18446744073709551616 * z18 -> (z9 + 9223372036854775809) - 18446744073709551616 * z18 < 18446744073709551616 ->
           ∀ z19 : Int,0 <= z19 -> z19 <= 9223372036854775807 -> z19 = fnD 0 [z6] ->
           chkD 2 [z6,((z9 + ((-18446744073709551616) * z18)) + 1),z19] /\
           ∀ z20 : Int,0 <= z20 -> z20 <= HB -> z20 = fnD 2 [z6,((z9 + ((-18446744073709551616) * z18)) + 1),z19] ->
           ∀ z21 : Int,0 <= z21 -> z21 <= 1 -> S 31 [[z20],[46]] [[z21]] ->
           (((decide (z21 = 1)) = true ->
            ∀ z22 : Int,0 <= z22 -> z22 <= 9223372036854775807 -> z22 = fnD 0 [z6] ->
            (((decide (z22 <= 254)) = true ->
             ∀ z23 : Int,0 <= z23 -> z23 <= HB -> S 17 [[z6]] [[z23]] ->
             K [[z0]] [[z23],[0]]
            ) /\ ((decide (z22 <= 254)) = false ->
             K [[z0]] [[0],[2]]
            ))
           ) /\ ((decide (z21 = 1)) = false ->
            K [[z0]] [[0],[2]]
           ))
          ) /\ ((decide (z17 = 1)) = false ->
           K [[z0]] [[0],[2]]
          ))
         ) /\ ((decide (z13 = 1)) = false ->
          K [[z0]] [[0],[2]]
         ))
        ) /\ ((decide (z11 = 64)) = false ->
         ∀ z12 : Int,0 <= z12 -> z12 <= 1 -> 0 <= (z9 + 9223372036854775809) - 18446744073709551616 * z12 -> (z9 + 9223372036854775809) - 18446744073709551616 * z12 < 18446744073709551616 ->
         chkD 39 [((z9 + ((-18446744073709551616) * z12)) + 1),0,9223372036854775807] /\
         (I8 [[((z9 + ((-18446744073709551616) * z12)) + 1)]] /\ μ8 [[((z9 + ((-18446744073709551616) * z12)) + 1)]] < μ8 [[z9]])
        ))
       ) /\ ((decide (z9 < z10)) = false ->
        K [[z0]] [[0],[2]]
       ))
      )
     ))
    )
   ))
  ) /\ ((decide (0 < z3)) = false ->
   ∃ (I4 : List (List Int) -> Prop) (μ4 : List (List Int) -> Nat),I4 [[z2]] /\ (∀ z5 : Int,0 <= z5 -> z5 <= HB -> I4 [[z5]] ->
    ∀ z6 : Int,0 <= z6 -> z6 <= 9223372036854775807 -> z6 = fnD 0 [z5] ->
    (((decide (0 < z6)) = true ->
     ∀ z7 : Int,0 <= z7 -> z7 <= 9223372036854775807 -> z7 = fnD 0 [z5] ->
     chkD 1 [z5,(z7 + (-1))] /\
     ∀ z8 : Int,0 <= z8 -> z8 <= 255 -> z8 = fnD 1 [z5,(z7 + (-1))] ->
     (((decide (z8 = 32)) = true ->
      ∀ z9 : Int,0 <= z9 -> z9 <= 9223372036854775807 -> z9 = fnD 0 [z5] ->
      chkD 2 [z5,0,(z9 + (-1))] /\
      ∀ z10 : Int,0 <= z10 -> z10 <= HB -> z10 = fnD 2 [z5,0,(z9 + (-1))] ->
      (I4 [[z10]] /\ μ4 [[z10]] < μ4 [[z5]])
     ) /\ ((decide (z8 = 32)) = false ->
      ∃ (I9 : List (List Int) -> Prop) (μ9 : List (List Int) -> Nat),I9 [[0]] /\ (∀ z10 : Int,0 <= z10 -> z10 <= 9223372036854775807 -> I9 [[z10]] ->
       ∀ z11 : Int,0 <= z11 -> z11 <= 9223372036854775807 -> z11 = fnD 0 [z5] ->
       (((decide (z10 < z11)) = true ->
        chkD 1 [z5,z10] /\
        ∀ z12 : Int,0 <= z12 -> z12 <= 255 -> z12 = fnD 1 [z5,z10] ->
        (((decide (z12 = 64)) = true ->
         chkD 2 [z5,0,z10] /\
         ∀ z13 : Int,0 <= z13 -> z13 <= HB -> z13 = fnD 2 [z5,0,z10] ->
         ∀ z14 : Int,0 <= z14 -> z14 <= 1 -> S 29 [[z13]] [[z14]] ->
         (((decide (z14 = 1)) = true ->
          ∀ z15 : Int,0 <= z15 -> z15 <= 1 -> 0 <= (z10 + 9223372036854775809) - 18446744073709551616 * z15 -> (z10 + 9223372036854775809) - 18446744073709551616 * z15 < 18446744073709551616 ->
          ∀ z16 : Int,0 <= z16 -> z16 <= 9223372036854775807 -> z16 = fnD 0 [z5] ->
          chkD 2 [z5,((z10 + ((-18446744073709551616) * z15)) + 1),z16] /\
          ∀ z17 : Int,0 <= z17 -> z17 <= HB -> z17 = fnD 2 [z5,((z10 + ((-18446744073709551616) * z15)) + 1),z16] ->
          ∀ z18 : Int,0 <= z18 -> z18 <= 1 -> S 30 [[z17]] [[z18]] ->
          (((decide (z18 = 1)) = true ->
           ∀ z19 : Int,0 <= z19 -> z19 <= 1 -> 0 <= (z10 + 9223372036854775809) - 18446744073709551616 * z19 -> (z10 + 9223372036854775809) - 18446744073709551616 * z19 < 18446744073709551616 ->
           ∀ z20 : Int,0 <= z20 -> z20 <= 9223372036854775807 -> z20 = fnD 0 [z5] ->
           chkD 2 [z5,((z10 + ((-18446744073709551616) * z19)) + 1),z20] /\
           ∀ z21 : Int,0 <= z21 -> z21 <= HB -> z21 = fnD 2 [z5,((z10 + ((-18446744073709551616) * z19)) + 1),z20] ->
           ∀ z22 : Int,0 <= z22 -> z22 <= 1 -> S 31 [[z21],[46]] [[z22]] ->
           (((decide (z22 = 1)) = true ->
            ∀ z23 : Int,0 <= z23 -> z23 <= 9223372036854775807 -> z23 = fnD 0 [z5] ->
            (((decide (z23 <= 254)) = true ->
             ∀ z24 : Int,0 <= z24 -> z24 <= HB -> S 17 [[z5]] [[z24]] ->
             K [[z0]] [[z24],[0]]
            ) /\ ((decide (z23 <= 254)) = false ->
             K [[z0]] [[0],[2]]
            ))
           ) /\ ((decide (z22 = 1)) = false ->
            K [[z0]] [[0],[2]]
           ))
          ) /\ ((decide (z18 = 1)) = false ->
           K [[z0]] [[0],[2]]
          ))
         ) /\ ((decide (z14 = 1)) = false ->
          K [[z0]] [[0],[2]]
         ))
        ) /\ ((decide (z12 = 64)) = false ->
         ∀ z13 : Int,0 <= z13 -> z13 <= 1 -> 0 <= (z10 + 9223372036854775809) - 18446744073709551616 * z13 -> (z10 + 9223372036854775809) - 18446744073709551616 * z13 < 18446744073709551616 ->
         chkD 39 [((z10 + ((-18446744073709551616) * z13)) + 1),0,9223372036854775807] /\
         (I9 [[((z10 + ((-18446744073709551616) * z13)) + 1)]] /\ μ9 [[((z10 + ((-18446744073709551616) * z13)) + 1)]] < μ9 [[z10]])
        ))
       ) /\ ((decide (z10 < z11)) = false ->
        K [[z0]] [[0],[2]]
       ))
      )
     ))
    ) /\ ((decide (0 < z6)) = false ->
     ∃ (I7 : List (List Int) -> Prop) (μ7 : List (List Int) -> Nat),I7 [[0]] /\ (∀ z8 : Int,0 <= z8 -> z8 <= 9223372036854775807 -> I7 [[z8]] ->
      ∀ z9 : Int,0 <= z9 -> z9 <= 9223372036854775807 -> z9 = fnD 0 [z5] ->
      (((decide (z8 < z9)) = true ->
       chkD 1 [z5,z8] /\
       ∀ z10 : Int,0 <= z10 -> z10 <= 255 -> z10 = fnD 1 [z5,z8] ->
       (((decide (z10 = 64)) = true ->
        chkD 2 [z5,0,z8] /\
        ∀ z11 : Int,0 <= z11 -> z11 <= HB -> z11 = fnD 2 [z5,0,z8] ->
        ∀ z12 : Int,0 <= z12 -> z12 <= 1 -> S 29 [[z11]] [[z12]] ->
        (((decide (z12 = 1)) = true ->
         ∀ z13 : Int,0 <= z13 -> z13 <= 1 -> 0 <= (z8 + 9223372036854775809) - 18446744073709551616 * z13 -> (z8 + 9223372036854775809) - 18446744073709551616 * z13 < 18446744073709551616 ->
         ∀ z14 : Int,0 <= z14 -> z14 <= 9223372036854775807 -> z14 = fnD 0 [z5] ->
         chkD 2 [z5,((z8 + ((-18446744073709551616) * z13)) + 1),z14] /\
         ∀ z15 : Int,0 <= z15 -> z15 <= HB -> z15 = fnD 2 [z5,((z8 + ((-18446744073709551616) * z13)) + 1),z14] ->
         ∀ z16 : Int,0 <= z16 -> z16 <= 1 -> S 30 [[z15]] [[z16]] ->
         (((decide (z16 = 1)) = true ->
          ∀ z17 : Int,0 <= z17 -> z17 <= 1 -> 0 <= (z8 + 9223372036854775809) - 18446744073709551616 * z17 -> (z8 + 9223372036854775809) - 18446744073709551616 * z17 < 18446744073709551616 ->
          ∀ z18 : Int,0 <= z18 -> z18 <= 9223372036854775807 -> z18 = fnD 0 [z5] ->
          chkD 2 [z5,((z8 + ((-18446744073709551616) * z17)) + 1),z18] /\
          ∀ z19 : Int,0 <= z19 -> z19 <= HB -> z19 = fnD 2 [z5,((z8 + ((-18446744073709551616) * z17)) + 1),z18] ->
          ∀ z20 : Int,0 <= z20 -> z20 <= 1 -> S 31 [[z19],[46]] [[z20]] ->
          (((decide (z20 = 1)) = true ->
           ∀ z21 : Int,0 <= z21 -> z21 <= 9223372036854775807 -> z21 = fnD 0 [z5] ->
           (((decide (z21 <= 254)) = true ->
            ∀ z22 : Int,0 <= z22 -> z22 <= HB -> S 17 [[z5]] [[z22]] ->
            K [[z0]] [[z22],[0]]
           ) /\ ((decide (z21 <= 254)) = false ->
            K [[z0]] [[0],[2]]
           ))
          ) /\ ((decide (z20 = 1)) = false ->
           K [[z0]] [[0],[2]]
          ))
         ) /\ ((decide (z16 = 1)) = false ->
          K [[z0]] [[0],[2]]
         ))
        ) /\ ((decide (z12 = 1)) = false ->
         K [[z0]] [[0],[2]]
        ))
       ) /\ ((decide (z10 = 64)) = false ->
        ∀ z11 : Int,0 <= z11 -> z11 <= 1 -> 0 <= (z8 + 9223372036854775809) - 18446744073709551616 * z11 -> (z8 + 9223372036854775809) - 18446744073709551616 * z11 < 18446744073709551616 ->
        chkD 39 [((z8 + ((-18446744073709551616) * z11)) + 1),0,9223372036854775807] /\
        (I7 [[((z8 + ((-18446744073709551616) * z11)) + 1)]] /\ μ7 [[((z8 + ((-18446744073709551616) * z11)) + 1)]] < μ7 [[z8]])
       ))
      ) /\ ((decide (z8 < z9)) = false ->
       K [[z0]] [[0],[2]]
      ))
     )
    ))
   )
  ))
 )
theorem rtr_cons (p : UInt8 -> Bool) (x : UInt8) (r : Tx) : rtr p (x :: r) = cond ((rtr p r).isEmpty) (cond (p x) [] [x]) (x :: rtr p r) := by
 unfold rtr
 rw [List.reverse_cons,List.dropWhile_append]
 cases hd : r.reverse.dropWhile p with
 | nil => cases hp : p x <;> simp [List.dropWhile_cons,hp]
 | cons y t =>
  have e : ((y :: t).reverse).isEmpty = false := by
   cases h : (y :: t).reverse with
   | nil => simp at h
   | cons a b => rfl
  rw [e,if_neg (by simp)]
  simp
theorem rtr_ltr (p : UInt8 -> Bool) : ∀ s : Tx,rtr p (ltr p s) = ltr p (rtr p s)
 | [] => rfl
 | x :: r => by
  have ih := rtr_ltr p r
  rw [rtr_cons]
  cases hp : p x with
  | true =>
   have e : ltr p (x :: r) = ltr p r := by simp [ltr,List.dropWhile_cons,hp]
   rw [e,ih]
   cases hr : rtr p r with
   | nil => simp [ltr]
   | cons y t => simp [ltr,List.dropWhile_cons,hp]
  | false =>
   have e : ltr p (x :: r) = x :: r := by simp [ltr,List.dropWhile_cons,hp]
   rw [e,rtr_cons]
   cases hr : rtr p r with
   | nil => simp [ltr,List.dropWhile_cons,hp]
   | cons y t => simp [ltr,List.dropWhile_cons,hp]
theorem idx_at {c : Int} (h0 : 0 <= c) (h1 : c <= 255) {l : Tx} {i : Nat} (hi : i < l.length) (he : l.getD i 0 = u8 c) (hb : ∀ j,j < i -> l.getD j 0 ≠ u8 c) : idx c l = (i : Int) := by
 rcases idx_cases h0 h1 l with ⟨_,h2⟩ | ⟨h2,h3,h4,_,h5⟩
 ·refine absurd ?_ h2
  rw [<- he]
  simp [List.getD,hi]
 ·rcases Nat.lt_trichotomy i (idx c l).toNat with h | h | h
  ·exact absurd he (h5 i h)
  ·omega
  ·exact absurd h4 (hb _ h)
theorem idx_no {c : Int} (h0 : 0 <= c) (h1 : c <= 255) {l : Tx} (hb : ∀ j,j < l.length -> l.getD j 0 ≠ u8 c) : idx c l = -1 := by
 rcases idx_cases h0 h1 l with ⟨h2,_⟩ | ⟨h2,h3,h4,_,h5⟩
 ·exact h2
 ·exact absurd h4 (hb _ h3)
theorem remail_in {z0 z6 : Int} (a1 : z6 <= HB) (hz : emailF (sOf z0) = emailT (sOf z6)) :
 ∃ (I10 : List (List Int) -> Prop) (μ10 : List (List Int) -> Nat),I10 [[0]] /\ (∀ z11 : Int,0 <= z11 -> z11 <= 9223372036854775807 -> I10 [[z11]] ->
  ∀ z12 : Int,0 <= z12 -> z12 <= 9223372036854775807 -> z12 = fnD 0 [z6] ->
  (((decide (z11 < z12)) = true ->
   chkD 1 [z6,z11] /\
   ∀ z13 : Int,0 <= z13 -> z13 <= 255 -> z13 = fnD 1 [z6,z11] ->
   (((decide (z13 = 64)) = true ->
    chkD 2 [z6,0,z11] /\
    ∀ z14 : Int,0 <= z14 -> z14 <= HB -> z14 = fnD 2 [z6,0,z11] ->
    ∀ z15 : Int,0 <= z15 -> z15 <= 1 -> SB 29 [[z14]] [[z15]] ->
    (((decide (z15 = 1)) = true ->
     ∀ z16 : Int,0 <= z16 -> z16 <= 1 -> 0 <= (z11 + 9223372036854775809) - 18446744073709551616 * z16 -> (z11 + 9223372036854775809) - 18446744073709551616 * z16 < 18446744073709551616 ->
     ∀ z17 : Int,0 <= z17 -> z17 <= 9223372036854775807 -> z17 = fnD 0 [z6] ->
     chkD 2 [z6,((z11 + ((-18446744073709551616) * z16)) + 1),z17] /\
     ∀ z18 : Int,0 <= z18 -> z18 <= HB -> z18 = fnD 2 [z6,((z11 + ((-18446744073709551616) * z16)) + 1),z17] ->
     ∀ z19 : Int,0 <= z19 -> z19 <= 1 -> SB 30 [[z18]] [[z19]] ->
     (((decide (z19 = 1)) = true ->
      ∀ z20 : Int,0 <= z20 -> z20 <= 1 -> 0 <= (z11 + 9223372036854775809) - 18446744073709551616 * z20 -> (z11 + 9223372036854775809) - 18446744073709551616 * z20 < 18446744073709551616 ->
      ∀ z21 : Int,0 <= z21 -> z21 <= 9223372036854775807 -> z21 = fnD 0 [z6] ->
      chkD 2 [z6,((z11 + ((-18446744073709551616) * z20)) + 1),z21] /\
      ∀ z22 : Int,0 <= z22 -> z22 <= HB -> z22 = fnD 2 [z6,((z11 + ((-18446744073709551616) * z20)) + 1),z21] ->
      ∀ z23 : Int,0 <= z23 -> z23 <= 1 -> SB 31 [[z22],[46]] [[z23]] ->
      (((decide (z23 = 1)) = true ->
       ∀ z24 : Int,0 <= z24 -> z24 <= 9223372036854775807 -> z24 = fnD 0 [z6] ->
       (((decide (z24 <= 254)) = true ->
        ∀ z25 : Int,0 <= z25 -> z25 <= HB -> SB 17 [[z6]] [[z25]] ->
        KBv SB [.str,.int .i64 0 21] 11 [[z0]] [[z25],[0]]
       ) /\ ((decide (z24 <= 254)) = false ->
        KBv SB [.str,.int .i64 0 21] 11 [[z0]] [[0],[2]]
       ))
      ) /\ ((decide (z23 = 1)) = false ->
       KBv SB [.str,.int .i64 0 21] 11 [[z0]] [[0],[2]]
      ))
     ) /\ ((decide (z19 = 1)) = false ->
      KBv SB [.str,.int .i64 0 21] 11 [[z0]] [[0],[2]]
     ))
    ) /\ ((decide (z15 = 1)) = false ->
     KBv SB [.str,.int .i64 0 21] 11 [[z0]] [[0],[2]]
    ))
   ) /\ ((decide (z13 = 64)) = false ->
    ∀ z14 : Int,0 <= z14 -> z14 <= 1 -> 0 <= (z11 + 9223372036854775809) - 18446744073709551616 * z14 -> (z11 + 9223372036854775809) - 18446744073709551616 * z14 < 18446744073709551616 ->
    chkD 39 [((z11 + ((-18446744073709551616) * z14)) + 1),0,9223372036854775807] /\
    (I10 [[((z11 + ((-18446744073709551616) * z14)) + 1)]] /\ μ10 [[((z11 + ((-18446744073709551616) * z14)) + 1)]] < μ10 [[z11]])
   ))
  ) /\ ((decide (z11 < z12)) = false ->
   KBv SB [.str,.int .i64 0 21] 11 [[z0]] [[0],[2]]
  ))
 ) := by
 have kk : emailT (sOf z6) = ([],2) -> KBv SB [.str,.int .i64 0 21] 11 [[z0]] [[0],[2]] := fun h => kse (Int.le_refl _) HB_pos (by decide) (by decide) (by
  show (sOf 0,(2 : Int)) = emailF (sOf z0)
  rw [hz,h]; rfl)
 refine ⟨fun bl => ∃ i : Nat,bl = [[(i : Int)]] /\ i <= (sOf z6).length /\ ∀ j,j < i -> (sOf z6).getD j 0 ≠ u8 64,fun bl => (sOf z6).length - ((bl.getD 0 []).getD 0 0).toNat,⟨0,rfl,Nat.zero_le _,fun j hj => by omega⟩,?_⟩
 rintro z11 b0 b1 ⟨i,e,hi,hall⟩ z12 c0 c1 h12
 obtain rfl : z11 = i := by simpa using e
 simp only [fnD] at h12
 refine ⟨fun hp => ?_,fun hp => kk ?_⟩
 ·have hp : (i : Int) < z12 := by simpa using hp
  have hlt : i < (sOf z6).length := by omega
  refine ⟨⟨b0,by omega⟩,fun z13 d0 d1 h13 => ?_⟩
  rw [byte_eq (n := 64) (k := i) rfl (by decide) (by decide) h13]
  refine ⟨fun h64 => ⟨⟨by omega,b0,by omega⟩,fun z14 e0 e1 h14 z15 f0 f1 h15 => ?_⟩,fun h64 q q0 q1 q2 q3 => ?_⟩
  ·have hx : idx 64 (sOf z6) = (i : Int) := idx_at (by decide) (by decide) hlt (beq_iff_eq.1 h64) hall
   have e14 : sOf z14 = (sOf z6).take i := by rw [h14]; simp [fnD,sOf_cOf]
   have h15 : z15 = b01 (localb (sOf z14)) := h15
   rw [b01_dec h15,e14]
   have hd : ∀ q x,0 <= q -> 0 <= (i : Int) + 9223372036854775809 - 18446744073709551616 * q -> z12 = fnD 0 [z6] -> x = fnD 2 [z6,((i : Int) + -18446744073709551616 * q) + 1,z12] -> sOf x = (sOf z6).drop (i + 1) := fun q x q0 q2 _ hx => by
    rw [wrap1 (L := z12) hp c1 b0 q0 q2] at hx
    rw [hx]; simp only [fnD,sOf_cOf]
    rw [show ((i : Int) + 1).toNat = i + 1 by omega]
    exact List.take_of_length_le (by simp; omega)
   have hx' : emailT (sOf z6) = cond (Nat.ble (sOf z6).length 254 && localb ((sOf z6).take i) && hostb ((sOf z6).drop (i + 1)) && ((sOf z6).drop (i + 1)).contains 46) (lower (sOf z6),0) ([],2) := by
    unfold emailT
    rw [hx,show decide (0 <= (i : Int)) = true by simp,Int.toNat_natCast,Bool.true_and]
   refine ⟨fun hl q q0 q1 q2 q3 z17 g0 g1 h17 => ?_,fun hl => kk (by rw [hx',hl]; simp)⟩
   have h17' := h17
   simp only [fnD] at h17'
   have ez : z17 = z12 := by omega
   refine ⟨?_,fun z18 i0 i1 h18 z19 j0 j1 h19 => ?_⟩
   ·rw [wrap1 (L := z12) hp c1 b0 q0 q2]; exact ⟨by omega,by omega,by omega⟩
   ·have e18 := hd q z18 q0 q2 (by rw [<- ez]; exact h17) (by rw [<- ez]; exact h18)
    have h19 : z19 = b01 (hostb (sOf z18)) := h19
    rw [b01_dec h19,e18]
    refine ⟨fun hh q' q0' q1' q2' q3' z21 k0 k1 h21 => ?_,fun hh => kk (by rw [hx',hh]; simp)⟩
    have h21' := h21
    simp only [fnD] at h21'
    have ez' : z21 = z12 := by omega
    refine ⟨?_,fun z22 l0 l1 h22 z23 m0 m1 h23 => ?_⟩
    ·rw [wrap1 (L := z12) hp c1 b0 q0' q2']; exact ⟨by omega,by omega,by omega⟩
    ·have e22 := hd q' z22 q0' q2' (by rw [<- ez']; exact h21) (by rw [<- ez']; exact h22)
     have h23 : z23 = b01 ((sOf z22).contains (u8 46)) := h23
     rw [b01_dec h23,e22]
     refine ⟨fun hc z24 n0 n1 h24 => ?_,fun hc => kk (by rw [hx',show ((sOf z6).drop (i + 1)).contains 46 = false from hc]; simp)⟩
     rw [len_dec (n := 254) 254 rfl h24]
     refine ⟨fun hq z25 o0 o1 h25 => kse o0 o1 (by decide) (by decide) ?_,fun hq => kk (by rw [hx',hq]; simp)⟩
     have h25 : sOf z25 = lower (sOf z6) := h25
     show (sOf z25,(0 : Int)) = emailF (sOf z0)
     rw [hz,hx',hq,hl,hh,show ((sOf z6).drop (i + 1)).contains 46 = true from hc,h25]; rfl
  ·rw [wrap1 (L := z12) hp c1 b0 q0 q2]
   refine ⟨⟨by omega,by omega⟩,⟨i + 1,by simp,by omega,fun j hj => ?_⟩,?_⟩
   ·by_cases hj' : j = i
    ·subst hj'; intro he; rw [he] at h64; simp at h64
    ·exact hall j (by omega)
   ·show (sOf z6).length - ((i : Int) + 1).toNat < (sOf z6).length - (i : Int).toNat
    omega
 ·have hp : ¬ (i : Int) < z12 := by simpa using hp
  have := idx_no (c := 64) (by decide) (by decide) (l := sOf z6) fun j hj => hall j (by omega)
  unfold emailT; rw [this]; rfl
theorem p_remail : B_remail SB (KBv SB [.str,.int .i64 0 21] 11) := by
 intro z0 a0 a1
 have two : ∀ z6 : Int,z6 <= HB -> sOf z6 = rtr (· == 32) (ltr (· == 32) (sOf z0)) -> _ := fun z6 h1 he => remail_in (z0 := z0) (z6 := z6) h1 (by unfold emailF trimS; rw [he,rtr_ltr])
 have one : ∀ z2 : Int,0 <= z2 -> z2 <= HB -> sOf z2 = ltr (· == 32) (sOf z0) ->
  ∃ (I5 : List (List Int) -> Prop) (μ5 : List (List Int) -> Nat),I5 [[z2]] /\ (∀ z6 : Int,0 <= z6 -> z6 <= HB -> I5 [[z6]] ->
   ∀ z7 : Int,0 <= z7 -> z7 <= 9223372036854775807 -> z7 = fnD 0 [z6] ->
   (((decide (0 < z7)) = true ->
    ∀ z8 : Int,0 <= z8 -> z8 <= 9223372036854775807 -> z8 = fnD 0 [z6] ->
    chkD 1 [z6,(z8 + (-1))] /\
    ∀ z9 : Int,0 <= z9 -> z9 <= 255 -> z9 = fnD 1 [z6,(z8 + (-1))] ->
    (((decide (z9 = 32)) = true ->
     ∀ z10 : Int,0 <= z10 -> z10 <= 9223372036854775807 -> z10 = fnD 0 [z6] ->
     chkD 2 [z6,0,(z10 + (-1))] /\
     ∀ z11 : Int,0 <= z11 -> z11 <= HB -> z11 = fnD 2 [z6,0,(z10 + (-1))] ->
     (I5 [[z11]] /\ μ5 [[z11]] < μ5 [[z6]])
    ) /\ ((decide (z9 = 32)) = false ->
     ∃ (I10 : List (List Int) -> Prop) (μ10 : List (List Int) -> Nat),I10 [[0]] /\ (∀ z11 : Int,0 <= z11 -> z11 <= 9223372036854775807 -> I10 [[z11]] ->
      ∀ z12 : Int,0 <= z12 -> z12 <= 9223372036854775807 -> z12 = fnD 0 [z6] ->
      (((decide (z11 < z12)) = true ->
       chkD 1 [z6,z11] /\
       ∀ z13 : Int,0 <= z13 -> z13 <= 255 -> z13 = fnD 1 [z6,z11] ->
       (((decide (z13 = 64)) = true ->
        chkD 2 [z6,0,z11] /\
        ∀ z14 : Int,0 <= z14 -> z14 <= HB -> z14 = fnD 2 [z6,0,z11] ->
        ∀ z15 : Int,0 <= z15 -> z15 <= 1 -> SB 29 [[z14]] [[z15]] ->
        (((decide (z15 = 1)) = true ->
         ∀ z16 : Int,0 <= z16 -> z16 <= 1 -> 0 <= (z11 + 9223372036854775809) - 18446744073709551616 * z16 -> (z11 + 9223372036854775809) - 18446744073709551616 * z16 < 18446744073709551616 ->
         ∀ z17 : Int,0 <= z17 -> z17 <= 9223372036854775807 -> z17 = fnD 0 [z6] ->
         chkD 2 [z6,((z11 + ((-18446744073709551616) * z16)) + 1),z17] /\
         ∀ z18 : Int,0 <= z18 -> z18 <= HB -> z18 = fnD 2 [z6,((z11 + ((-18446744073709551616) * z16)) + 1),z17] ->
         ∀ z19 : Int,0 <= z19 -> z19 <= 1 -> SB 30 [[z18]] [[z19]] ->
         (((decide (z19 = 1)) = true ->
          ∀ z20 : Int,0 <= z20 -> z20 <= 1 -> 0 <= (z11 + 9223372036854775809) - 18446744073709551616 * z20 -> (z11 + 9223372036854775809) - 18446744073709551616 * z20 < 18446744073709551616 ->
          ∀ z21 : Int,0 <= z21 -> z21 <= 9223372036854775807 -> z21 = fnD 0 [z6] ->
          chkD 2 [z6,((z11 + ((-18446744073709551616) * z20)) + 1),z21] /\
          ∀ z22 : Int,0 <= z22 -> z22 <= HB -> z22 = fnD 2 [z6,((z11 + ((-18446744073709551616) * z20)) + 1),z21] ->
          ∀ z23 : Int,0 <= z23 -> z23 <= 1 -> SB 31 [[z22],[46]] [[z23]] ->
          (((decide (z23 = 1)) = true ->
           ∀ z24 : Int,0 <= z24 -> z24 <= 9223372036854775807 -> z24 = fnD 0 [z6] ->
           (((decide (z24 <= 254)) = true ->
            ∀ z25 : Int,0 <= z25 -> z25 <= HB -> SB 17 [[z6]] [[z25]] ->
            KBv SB [.str,.int .i64 0 21] 11 [[z0]] [[z25],[0]]
           ) /\ ((decide (z24 <= 254)) = false ->
            KBv SB [.str,.int .i64 0 21] 11 [[z0]] [[0],[2]]
           ))
          ) /\ ((decide (z23 = 1)) = false ->
           KBv SB [.str,.int .i64 0 21] 11 [[z0]] [[0],[2]]
          ))
         ) /\ ((decide (z19 = 1)) = false ->
          KBv SB [.str,.int .i64 0 21] 11 [[z0]] [[0],[2]]
         ))
        ) /\ ((decide (z15 = 1)) = false ->
         KBv SB [.str,.int .i64 0 21] 11 [[z0]] [[0],[2]]
        ))
       ) /\ ((decide (z13 = 64)) = false ->
        ∀ z14 : Int,0 <= z14 -> z14 <= 1 -> 0 <= (z11 + 9223372036854775809) - 18446744073709551616 * z14 -> (z11 + 9223372036854775809) - 18446744073709551616 * z14 < 18446744073709551616 ->
        chkD 39 [((z11 + ((-18446744073709551616) * z14)) + 1),0,9223372036854775807] /\
        (I10 [[((z11 + ((-18446744073709551616) * z14)) + 1)]] /\ μ10 [[((z11 + ((-18446744073709551616) * z14)) + 1)]] < μ10 [[z11]])
       ))
      ) /\ ((decide (z11 < z12)) = false ->
       KBv SB [.str,.int .i64 0 21] 11 [[z0]] [[0],[2]]
      ))
     )
    ))
   ) /\ ((decide (0 < z7)) = false ->
    ∃ (I8 : List (List Int) -> Prop) (μ8 : List (List Int) -> Nat),I8 [[0]] /\ (∀ z9 : Int,0 <= z9 -> z9 <= 9223372036854775807 -> I8 [[z9]] ->
     ∀ z10 : Int,0 <= z10 -> z10 <= 9223372036854775807 -> z10 = fnD 0 [z6] ->
     (((decide (z9 < z10)) = true ->
      chkD 1 [z6,z9] /\
      ∀ z11 : Int,0 <= z11 -> z11 <= 255 -> z11 = fnD 1 [z6,z9] ->
      (((decide (z11 = 64)) = true ->
       chkD 2 [z6,0,z9] /\
       ∀ z12 : Int,0 <= z12 -> z12 <= HB -> z12 = fnD 2 [z6,0,z9] ->
       ∀ z13 : Int,0 <= z13 -> z13 <= 1 -> SB 29 [[z12]] [[z13]] ->
       (((decide (z13 = 1)) = true ->
        ∀ z14 : Int,0 <= z14 -> z14 <= 1 -> 0 <= (z9 + 9223372036854775809) - 18446744073709551616 * z14 -> (z9 + 9223372036854775809) - 18446744073709551616 * z14 < 18446744073709551616 ->
        ∀ z15 : Int,0 <= z15 -> z15 <= 9223372036854775807 -> z15 = fnD 0 [z6] ->
        chkD 2 [z6,((z9 + ((-18446744073709551616) * z14)) + 1),z15] /\
        ∀ z16 : Int,0 <= z16 -> z16 <= HB -> z16 = fnD 2 [z6,((z9 + ((-18446744073709551616) * z14)) + 1),z15] ->
        ∀ z17 : Int,0 <= z17 -> z17 <= 1 -> SB 30 [[z16]] [[z17]] ->
        (((decide (z17 = 1)) = true ->
         ∀ z18 : Int,0 <= z18 -> z18 <= 1 -> 0 <= (z9 + 9223372036854775809) - 18446744073709551616 * z18 -> (z9 + 9223372036854775809) - 18446744073709551616 * z18 < 18446744073709551616 ->
         ∀ z19 : Int,0 <= z19 -> z19 <= 9223372036854775807 -> z19 = fnD 0 [z6] ->
         chkD 2 [z6,((z9 + ((-18446744073709551616) * z18)) + 1),z19] /\
         ∀ z20 : Int,0 <= z20 -> z20 <= HB -> z20 = fnD 2 [z6,((z9 + ((-18446744073709551616) * z18)) + 1),z19] ->
         ∀ z21 : Int,0 <= z21 -> z21 <= 1 -> SB 31 [[z20],[46]] [[z21]] ->
         (((decide (z21 = 1)) = true ->
          ∀ z22 : Int,0 <= z22 -> z22 <= 9223372036854775807 -> z22 = fnD 0 [z6] ->
          (((decide (z22 <= 254)) = true ->
           ∀ z23 : Int,0 <= z23 -> z23 <= HB -> SB 17 [[z6]] [[z23]] ->
           KBv SB [.str,.int .i64 0 21] 11 [[z0]] [[z23],[0]]
          ) /\ ((decide (z22 <= 254)) = false ->
           KBv SB [.str,.int .i64 0 21] 11 [[z0]] [[0],[2]]
          ))
         ) /\ ((decide (z21 = 1)) = false ->
          KBv SB [.str,.int .i64 0 21] 11 [[z0]] [[0],[2]]
         ))
        ) /\ ((decide (z17 = 1)) = false ->
         KBv SB [.str,.int .i64 0 21] 11 [[z0]] [[0],[2]]
        ))
       ) /\ ((decide (z13 = 1)) = false ->
        KBv SB [.str,.int .i64 0 21] 11 [[z0]] [[0],[2]]
       ))
      ) /\ ((decide (z11 = 64)) = false ->
       ∀ z12 : Int,0 <= z12 -> z12 <= 1 -> 0 <= (z9 + 9223372036854775809) - 18446744073709551616 * z12 -> (z9 + 9223372036854775809) - 18446744073709551616 * z12 < 18446744073709551616 ->
       chkD 39 [((z9 + ((-18446744073709551616) * z12)) + 1),0,9223372036854775807] /\
       (I8 [[((z9 + ((-18446744073709551616) * z12)) + 1)]] /\ μ8 [[((z9 + ((-18446744073709551616) * z12)) + 1)]] < μ8 [[z9]])
      ))
     ) /\ ((decide (z9 < z10)) = false ->
      KBv SB [.str,.int .i64 0 21] 11 [[z0]] [[0],[2]]
     ))
    )
   ))
  ) := fun z2 h0 h1 he => (by
  refine ⟨fun bl => ∃ z,bl = [[z]] /\ rtr (· == 32) (sOf z) = rtr (· == 32) (sOf z2),fun bl => (sOf ((bl.getD 0 []).getD 0 0)).length,⟨z2,rfl,rfl⟩,?_⟩
  rintro z3 c0 c1 ⟨z,e,hz⟩
  obtain rfl : z3 = z := by simpa using e
  intro z4 d0 d1 hz4
  simp only [fnD] at hz4
  by_cases hl : sOf z3 = []
  ·rw [hl] at hz4 hz
   simp only [List.length_nil] at hz4
   subst hz4
   refine ⟨fun hp => by simp at hp,fun _ => two z3 c1 ?_⟩
   rw [hl,<- he,<- hz]; rfl
  ·obtain ⟨r,x,hl⟩ := snoc_of hl
   rw [hl] at hz4 hz
   simp only [List.length_append,List.length_cons,List.length_nil] at hz4
   refine ⟨fun _ => ?_,fun hp => by simp at hp; omega⟩
   intro z5 e0 e1 hz5
   simp only [fnD,hl,List.length_append,List.length_cons,List.length_nil] at hz5
   refine ⟨⟨by omega,by rw [hl]; simp only [List.length_append,List.length_cons,List.length_nil]; omega⟩,?_⟩
   intro z6 f0 f1 hz6
   rw [byte_eq (n := 32) (k := r.length) (by omega) (by decide) (by decide) hz6,hl,getD_last]
   refine ⟨fun he' => ?_,fun he' => two z3 c1 ?_⟩
   ·have he' : (x == 32) = true := he'
    intro z7 f0 f1 hz7
    simp only [fnD,hl,List.length_append,List.length_cons,List.length_nil] at hz7
    have ht7 : (z7 + -1).toNat = r.length := by omega
    refine ⟨⟨by omega,by omega,by rw [hl]; simp only [List.length_append,List.length_cons,List.length_nil]; omega⟩,?_⟩
    intro z8 g0 g1 hz8
    have hr : sOf z8 = r := by
     rw [hz8]; simp only [fnD,sOf_cOf,hl,ht7]
     simp
    refine ⟨⟨z8,rfl,?_⟩,?_⟩
    ·rw [hr,<- hz,rtr_snoc,he',cond_true]
    ·show (sOf z8).length < (sOf z3).length
     rw [hr,hl]; simp
   ·have he' : (x == 32) = false := he'
    rw [hl,<- he,<- hz,rtr_snoc,he',cond_false])
 refine ⟨fun bl => ∃ z,bl = [[z]] /\ ltr (· == 32) (sOf z) = ltr (· == 32) (sOf z0),fun bl => (sOf ((bl.getD 0 []).getD 0 0)).length,⟨z0,rfl,rfl⟩,?_⟩
 rintro z3 c0 c1 ⟨z,e,hz⟩
 obtain rfl : z3 = z := by simpa using e
 intro z4 d0 d1 hz4
 simp only [fnD] at hz4
 cases hl : sOf z3 with
 | nil =>
  rw [hl] at hz4 hz
  simp only [List.length_nil] at hz4
  subst hz4
  refine ⟨fun hp => by simp at hp,fun _ => one z3 c0 c1 ?_⟩
  rw [hl,<- hz]; rfl
 | cons x r =>
  rw [hl] at hz4 hz
  simp only [List.length_cons] at hz4
  refine ⟨fun _ => ⟨⟨Int.le_refl _,by rw [hl]; simp only [List.length_cons]; omega⟩,?_⟩,fun hp => by simp at hp; omega⟩
  intro z5 e0 e1 hz5
  rw [byte_eq (n := 32) (k := 0) rfl (by decide) (by decide) hz5,hl]
  refine ⟨fun he => ?_,fun he => one z3 c0 c1 ?_⟩
  ·have he : (x == 32) = true := he
   intro z6 f0 f1 hz6
   simp only [fnD,hl,List.length_cons] at hz6
   refine ⟨⟨by omega,by omega,by rw [hl]; simp only [List.length_cons]; omega⟩,?_⟩
   intro z7 g0 g1 hz7
   have hr : sOf z7 = r := by
    rw [hz7]; simp only [fnD,sOf_cOf,hl]
    rw [show (1 : Int).toNat = 1 from rfl,List.drop_one,List.tail_cons]
    exact List.take_of_length_le (by omega)
   refine ⟨⟨z7,rfl,?_⟩,?_⟩
   ·rw [hr,<- hz]; simp only [ltr,List.dropWhile_cons,he,if_true]
   ·show (sOf z7).length < (sOf z3).length
    rw [hr,hl]; simp
  ·have he : (x == 32) = false := he
   rw [hl,<- hz]; simp [ltr,List.dropWhile_cons,he]
def B_rphone (S : Nat -> List (List Int) -> List (List Int) -> Prop) (K : List (List Int) -> List (List Int) -> Prop) : Prop :=
 ∀ z0 : Int,0 <= z0 -> z0 <= HB -> ∀ z1 : Int,0 <= z1 -> z1 <= HB ->
 (chkD 44 [z0,z1] ->
 ∀ z2 : Int,0 <= z2 -> z2 <= HB -> ∀ z3 : Int,0 <= z3 -> z3 <= 1 -> ∀ z4 : Int,0 <= z4 -> z4 <= 1 -> S 35 [[z0]] [[z2],[z3],[z4]] ->
 ((((!(decide (z4 = 1)))) = true ->
  K [[z0],[z1]] [[0],[7]]
 ) /\ (((!(decide (z4 = 1)))) = false ->
  ∃ (I5 : List (List Int) -> Prop) (μ5 : List (List Int) -> Nat),I5 [[0],[0],[0]] /\ (∀ z6 : Int,0 <= z6 -> z6 <= HB -> ∀ z7 : Int,0 <= z7 -> z7 <= 9223372036854775807 -> ∀ z8 : Int,0 <= z8 -> z8 <= 1 -> I5 [[z6],[z7],[z8]] ->
   ∀ z9 : Int,0 <= z9 -> z9 <= 9223372036854775807 -> z9 = fnD 0 [z1] ->
   (((decide (z7 < z9)) = true ->
    chkD 1 [z1,z7] /\
    ∀ z10 : Int,0 <= z10 -> z10 <= 255 -> z10 = fnD 1 [z1,z7] ->
    (((decide (48 <= z10)) = true ->
     (((decide (z10 <= 57)) = true ->
      ∀ z11 : Int,0 <= z11 -> z11 <= 1 -> 0 <= (z7 + 9223372036854775809) - 18446744073709551616 * z11 -> (z7 + 9223372036854775809) - 18446744073709551616 * z11 < 18446744073709551616 ->
      chkD 2 [z1,z7,((z7 + ((-18446744073709551616) * z11)) + 1)] /\
      ∀ z12 : Int,0 <= z12 -> z12 <= HB -> z12 = fnD 2 [z1,z7,((z7 + ((-18446744073709551616) * z11)) + 1)] ->
      chkD 3 [z6,z12] /\
      ∀ z13 : Int,0 <= z13 -> z13 <= HB -> z13 = fnD 3 [z6,z12] ->
      ∀ z14 : Int,0 <= z14 -> z14 <= 1 -> 0 <= (z7 + 9223372036854775809) - 18446744073709551616 * z14 -> (z7 + 9223372036854775809) - 18446744073709551616 * z14 < 18446744073709551616 ->
      chkD 39 [((z7 + ((-18446744073709551616) * z14)) + 1),0,9223372036854775807] /\
      ∀ z15 : Int,0 <= z15 -> z15 <= 1 -> decide (z8 = 1) = decide (z15 = 1) ->
      (I5 [[z13],[((z7 + ((-18446744073709551616) * z14)) + 1)],[z15]] /\ μ5 [[z13],[((z7 + ((-18446744073709551616) * z14)) + 1)],[z15]] < μ5 [[z6],[z7],[z8]])
     ) /\ ((decide (z10 <= 57)) = false ->
      K [[z0],[z1]] [[0],[2]]
     ))
    ) /\ ((decide (48 <= z10)) = false ->
     (((decide (z10 = 43)) = true ->
      ∀ z11 : Int,0 <= z11 -> z11 <= 1 -> z11 = fnD 4 [z6,0] ->
      (((decide (z11 = 1)) = true ->
       ((((!(decide (z8 = 1)))) = true ->
        ∀ z12 : Int,0 <= z12 -> z12 <= 1 -> 0 <= (z7 + 9223372036854775809) - 18446744073709551616 * z12 -> (z7 + 9223372036854775809) - 18446744073709551616 * z12 < 18446744073709551616 ->
        chkD 39 [((z7 + ((-18446744073709551616) * z12)) + 1),0,9223372036854775807] /\
        (I5 [[z6],[((z7 + ((-18446744073709551616) * z12)) + 1)],[1]] /\ μ5 [[z6],[((z7 + ((-18446744073709551616) * z12)) + 1)],[1]] < μ5 [[z6],[z7],[z8]])
       ) /\ (((!(decide (z8 = 1)))) = false ->
        (((decide (z10 = 32)) = true ->
         ∀ z12 : Int,0 <= z12 -> z12 <= 1 -> 0 <= (z7 + 9223372036854775809) - 18446744073709551616 * z12 -> (z7 + 9223372036854775809) - 18446744073709551616 * z12 < 18446744073709551616 ->
         chkD 39 [((z7 + ((-18446744073709551616) * z12)) + 1),0,9223372036854775807] /\
         ∀ z13 : Int,0 <= z13 -> z13 <= 1 -> decide (z8 = 1) = decide (z13 = 1) ->
         (I5 [[z6],[((z7 + ((-18446744073709551616) * z12)) + 1)],[z13]] /\ μ5 [[z6],[((z7 + ((-18446744073709551616) * z12)) + 1)],[z13]] < μ5 [[z6],[z7],[z8]])
        ) /\ ((decide (z10 = 32)) = false ->
         (((decide (z10 = 45)) = true ->
          ∀ z12 : Int,0 <= z12 -> z12 <= 1 -> 0 <= (z7 + 9223372036854775809) - 18446744073709551616 * z12 -> (z7 + 9223372036854775809) - 18446744073709551616 * z12 < 18446744073709551616 ->
          chkD 39 [((z7 + ((-18446744073709551616) * z12)) + 1),0,9223372036854775807] /\
          ∀ z13 : Int,0 <= z13 -> z13 <= 1 -> decide (z8 = 1) = decide (z13 = 1) ->
          (I5 [[z6],[((z7 + ((-18446744073709551616) * z12)) + 1)],[z13]] /\ μ5 [[z6],[((z7 + ((-18446744073709551616) * z12)) + 1)],[z13]] < μ5 [[z6],[z7],[z8]])
         ) /\ ((decide (z10 = 45)) = false ->
          (((decide (z10 = 46)) = true ->
           ∀ z12 : Int,0 <= z12 -> z12 <= 1 -> 0 <= (z7 + 9223372036854775809) - 18446744073709551616 * z12 -> (z7 + 9223372036854775809) - 18446744073709551616 * z12 < 18446744073709551616 ->
           chkD 39 [((z7 + ((-18446744073709551616) * z12)) + 1),0,9223372036854775807] /\
           ∀ z13 : Int,0 <= z13 -> z13 <= 1 -> decide (z8 = 1) = decide (z13 = 1) ->
           (I5 [[z6],[((z7 + ((-18446744073709551616) * z12)) + 1)],[z13]] /\ μ5 [[z6],[((z7 + ((-18446744073709551616) * z12)) + 1)],[z13]] < μ5 [[z6],[z7],[z8]])
          ) /\ ((decide (z10 = 46)) = false ->
           (((decide (z10 = 40)) = true ->
            ∀ z12 : Int,0 <= z12 -> z12 <= 1 -> 0 <= (z7 + 9223372036854775809) - 18446744073709551616 * z12 -> (z7 + 9223372036854775809) - 18446744073709551616 * z12 < 18446744073709551616 ->
            chkD 39 [((z7 + ((-18446744073709551616) * z12)) + 1),0,9223372036854775807] /\
            ∀ z13 : Int,0 <= z13 -> z13 <= 1 -> decide (z8 = 1) = decide (z13 = 1) ->
            (I5 [[z6],[((z7 + ((-18446744073709551616) * z12)) + 1)],[z13]] /\ μ5 [[z6],[((z7 + ((-18446744073709551616) * z12)) + 1)],[z13]] < μ5 [[z6],[z7],[z8]])
           ) /\ ((decide (z10 = 40)) = false ->
            (((decide (z10 = 41)) = true ->
             ∀ z12 : Int,0 <= z12 -> z12 <= 1 -> 0 <= (z7 + 9223372036854775809) - 18446744073709551616 * z12 -> (z7 + 9223372036854775809) - 18446744073709551616 * z12 < 18446744073709551616 ->
             chkD 39 [((z7 + ((-18446744073709551616) * z12)) + 1),0,9223372036854775807] /\
             ∀ z13 : Int,0 <= z13 -> z13 <= 1 -> decide (z8 = 1) = decide (z13 = 1) ->
             (I5 [[z6],[((z7 + ((-18446744073709551616) * z12)) + 1)],[z13]] /\ μ5 [[z6],[((z7 + ((-18446744073709551616) * z12)) + 1)],[z13]] < μ5 [[z6],[z7],[z8]])
            ) /\ ((decide (z10 = 41)) = false ->
             K [[z0],[z1]] [[0],[2]]
            ))
           ))
          ))
         ))
        ))
       ))
      ) /\ ((decide (z11 = 1)) = false ->
       (((decide (z10 = 32)) = true ->
        ∀ z12 : Int,0 <= z12 -> z12 <= 1 -> 0 <= (z7 + 9223372036854775809) - 18446744073709551616 * z12 -> (z7 + 9223372036854775809) - 18446744073709551616 * z12 < 18446744073709551616 ->
        chkD 39 [((z7 + ((-18446744073709551616) * z12)) + 1),0,9223372036854775807] /\
        ∀ z13 : Int,0 <= z13 -> z13 <= 1 -> decide (z8 = 1) = decide (z13 = 1) ->
        (I5 [[z6],[((z7 + ((-18446744073709551616) * z12)) + 1)],[z13]] /\ μ5 [[z6],[((z7 + ((-18446744073709551616) * z12)) + 1)],[z13]] < μ5 [[z6],[z7],[z8]])
       ) /\ ((decide (z10 = 32)) = false ->
        (((decide (z10 = 45)) = true ->
         ∀ z12 : Int,0 <= z12 -> z12 <= 1 -> 0 <= (z7 + 9223372036854775809) - 18446744073709551616 * z12 -> (z7 + 9223372036854775809) - 18446744073709551616 * z12 < 18446744073709551616 ->
         chkD 39 [((z7 + ((-18446744073709551616) * z12)) + 1),0,9223372036854775807] /\
         ∀ z13 : Int,0 <= z13 -> z13 <= 1 -> decide (z8 = 1) = decide (z13 = 1) ->
         (I5 [[z6],[((z7 + ((-18446744073709551616) * z12)) + 1)],[z13]] /\ μ5 [[z6],[((z7 + ((-18446744073709551616) * z12)) + 1)],[z13]] < μ5 [[z6],[z7],[z8]])
        ) /\ ((decide (z10 = 45)) = false ->
         (((decide (z10 = 46)) = true ->
          ∀ z12 : Int,0 <= z12 -> z12 <= 1 -> 0 <= (z7 + 9223372036854775809) - 18446744073709551616 * z12 -> (z7 + 9223372036854775809) - 18446744073709551616 * z12 < 18446744073709551616 ->
          chkD 39 [((z7 + ((-18446744073709551616) * z12)) + 1),0,9223372036854775807] /\
          ∀ z13 : Int,0 <= z13 -> z13 <= 1 -> decide (z8 = 1) = decide (z13 = 1) ->
          (I5 [[z6],[((z7 + ((-18446744073709551616) * z12)) + 1)],[z13]] /\ μ5 [[z6],[((z7 + ((-18446744073709551616) * z12)) + 1)],[z13]] < μ5 [[z6],[z7],[z8]])
         ) /\ ((decide (z10 = 46)) = false ->
          (((decide (z10 = 40)) = true ->
           ∀ z12 : Int,0 <= z12 -> z12 <= 1 -> 0 <= (z7 + 9223372036854775809) - 18446744073709551616 * z12 -> (z7 + 9223372036854775809) - 18446744073709551616 * z12 < 18446744073709551616 ->
           chkD 39 [((z7 + ((-18446744073709551616) * z12)) + 1),0,9223372036854775807] /\
           ∀ z13 : Int,0 <= z13 -> z13 <= 1 -> decide (z8 = 1) = decide (z13 = 1) ->
           (I5 [[z6],[((z7 + ((-18446744073709551616) * z12)) + 1)],[z13]] /\ μ5 [[z6],[((z7 + ((-18446744073709551616) * z12)) + 1)],[z13]] < μ5 [[z6],[z7],[z8]])
          ) /\ ((decide (z10 = 40)) = false ->
           (((decide (z10 = 41)) = true ->
            ∀ z12 : Int,0 <= z12 -> z12 <= 1 -> 0 <= (z7 + 9223372036854775809) - 18446744073709551616 * z12 -> (z7 + 9223372036854775809) - 18446744073709551616 * z12 < 18446744073709551616 ->
            chkD 39 [((z7 + ((-18446744073709551616) * z12)) + 1),0,9223372036854775807] /\
            ∀ z13 : Int,0 <= z13 -> z13 <= 1 -> decide (z8 = 1) = decide (z13 = 1) ->
            (I5 [[z6],[((z7 + ((-18446744073709551616) * z12)) + 1)],[z13]] /\ μ5 [[z6],[((z7 + ((-18446744073709551616) * z12)) + 1)],[z13]] < μ5 [[z6],[z7],[z8]])
           ) /\ ((decide (z10 = 41)) = false ->
            K [[z0],[z1]] [[0],[2]]
           ))
          ))
         ))
        ))
       ))
      ))
     ) /\ ((decide (z10 = 43)) = false ->
      (((decide (z10 = 32)) = true ->
       ∀ z11 : Int,0 <= z11 -> z11 <= 1 -> 0 <= (z7 + 9223372036854775809) - 18446744073709551616 * z11 -> (z7 + 9223372036854775809) - 18446744073709551616 * z11 < 18446744073709551616 ->
       chkD 39 [((z7 + ((-18446744073709551616) * z11)) + 1),0,9223372036854775807] /\
       ∀ z12 : Int,0 <= z12 -> z12 <= 1 -> decide (z8 = 1) = decide (z12 = 1) ->
       (I5 [[z6],[((z7 + ((-18446744073709551616) * z11)) + 1)],[z12]] /\ μ5 [[z6],[((z7 + ((-18446744073709551616) * z11)) + 1)],[z12]] < μ5 [[z6],[z7],[z8]])
      ) /\ ((decide (z10 = 32)) = false ->
       (((decide (z10 = 45)) = true ->
        ∀ z11 : Int,0 <= z11 -> z11 <= 1 -> 0 <= (z7 + 9223372036854775809) - 18446744073709551616 * z11 -> (z7 + 9223372036854775809) - 18446744073709551616 * z11 < 18446744073709551616 ->
        chkD 39 [((z7 + ((-18446744073709551616) * z11)) + 1),0,9223372036854775807] /\
        ∀ z12 : Int,0 <= z12 -> z12 <= 1 -> decide (z8 = 1) = decide (z12 = 1) ->
        (I5 [[z6],[((z7 + ((-18446744073709551616) * z11)) + 1)],[z12]] /\ μ5 [[z6],[((z7 + ((-18446744073709551616) * z11)) + 1)],[z12]] < μ5 [[z6],[z7],[z8]])
       ) /\ ((decide (z10 = 45)) = false ->
        (((decide (z10 = 46)) = true ->
         ∀ z11 : Int,0 <= z11 -> z11 <= 1 -> 0 <= (z7 + 9223372036854775809) - 18446744073709551616 * z11 -> (z7 + 9223372036854775809) - 18446744073709551616 * z11 < 18446744073709551616 ->
         chkD 39 [((z7 + ((-18446744073709551616) * z11)) + 1),0,9223372036854775807] /\
         ∀ z12 : Int,0 <= z12 -> z12 <= 1 -> decide (z8 = 1) = decide (z12 = 1) ->
         (I5 [[z6],[((z7 + ((-18446744073709551616) * z11)) + 1)],[z12]] /\ μ5 [[z6],[((z7 + ((-18446744073709551616) * z11)) + 1)],[z12]] < μ5 [[z6],[z7],[z8]])
        ) /\ ((decide (z10 = 46)) = false ->
         (((decide (z10 = 40)) = true ->
          ∀ z11 : Int,0 <= z11 -> z11 <= 1 -> 0 <= (z7 + 9223372036854775809) - 18446744073709551616 * z11 -> (z7 + 9223372036854775809) - 18446744073709551616 * z11 < 18446744073709551616 ->
          chkD 39 [((z7 + ((-18446744073709551616) * z11)) + 1),0,9223372036854775807] /\
          ∀ z12 : Int,0 <= z12 -> z12 <= 1 -> decide (z8 = 1) = decide (z12 = 1) ->
          (I5 [[z6],[((z7 + ((-18446744073709551616) * z11)) + 1)],[z12]] /\ μ5 [[z6],[((z7 + ((-18446744073709551616) * z11)) + 1)],[z12]] < μ5 [[z6],[z7],[z8]])
         ) /\ ((decide (z10 = 40)) = false ->
          (((decide (z10 = 41)) = true ->
           ∀ z11 : Int,0 <= z11 -> z11 <= 1 -> 0 <= (z7 + 9223372036854775809) - 18446744073709551616 * z11 -> (z7 + 9223372036854775809) - 18446744073709551616 * z11 < 18446744073709551616 ->
           chkD 39 [((z7 + ((-18446744073709551616) * z11)) + 1),0,9223372036854775807] /\
           ∀ z12 : Int,0 <= z12 -> z12 <= 1 -> decide (z8 = 1) = decide (z12 = 1) ->
           (I5 [[z6],[((z7 + ((-18446744073709551616) * z11)) + 1)],[z12]] /\ μ5 [[z6],[((z7 + ((-18446744073709551616) * z11)) + 1)],[z12]] < μ5 [[z6],[z7],[z8]])
          ) /\ ((decide (z10 = 41)) = false ->
           K [[z0],[z1]] [[0],[2]]
          ))
         ))
        ))
       ))
      ))
     ))
    ))
   ) /\ ((decide (z7 < z9)) = false ->
    ((((!(decide (z8 = 1)))) = true ->
     ∀ z10 : Int,0 <= z10 -> z10 <= 1 -> z10 = fnD 4 [z0,0] ->
     ((((!(decide (z10 = 1)))) = true ->
      (((decide (z3 = 1)) = true ->
       ∀ z11 : Int,0 <= z11 -> z11 <= 9223372036854775807 -> z11 = fnD 0 [z6] ->
       (((decide (0 < z11)) = true ->
        chkD 1 [z6,0] /\
        ∀ z12 : Int,0 <= z12 -> z12 <= 255 -> z12 = fnD 1 [z6,0] ->
        (((decide (z12 = 48)) = true ->
         ∀ z13 : Int,0 <= z13 -> z13 <= 9223372036854775807 -> z13 = fnD 0 [z6] ->
         chkD 2 [z6,1,z13] /\
         ∀ z14 : Int,0 <= z14 -> z14 <= HB -> z14 = fnD 2 [z6,1,z13] ->
         chkD 3 [z2,z14] /\
         ∀ z15 : Int,0 <= z15 -> z15 <= HB -> z15 = fnD 3 [z2,z14] ->
         ∀ z16 : Int,0 <= z16 -> z16 <= 9223372036854775807 -> z16 = fnD 0 [z15] ->
         (((decide (z16 < 6)) = true ->
          K [[z0],[z1]] [[0],[2]]
         ) /\ ((decide (z16 < 6)) = false ->
          ∀ z17 : Int,0 <= z17 -> z17 <= 9223372036854775807 -> z17 = fnD 0 [z15] ->
          (((decide (15 < z17)) = true ->
           K [[z0],[z1]] [[0],[2]]
          ) /\ ((decide (15 < z17)) = false ->
           chkD 1 [z15,0] /\
           ∀ z18 : Int,0 <= z18 -> z18 <= 255 -> z18 = fnD 1 [z15,0] ->
           (((decide (z18 = 48)) = true ->
            K [[z0],[z1]] [[0],[2]]
           ) /\ ((decide (z18 = 48)) = false ->
            K [[z0],[z1]] [[z15],[0]]
           ))
          ))
         ))
        ) /\ ((decide (z12 = 48)) = false ->
         chkD 3 [z2,z6] /\
         ∀ z13 : Int,0 <= z13 -> z13 <= HB -> z13 = fnD 3 [z2,z6] ->
         ∀ z14 : Int,0 <= z14 -> z14 <= 9223372036854775807 -> z14 = fnD 0 [z13] ->
         (((decide (z14 < 6)) = true ->
          K [[z0],[z1]] [[0],[2]]
         ) /\ ((decide (z14 < 6)) = false ->
          ∀ z15 : Int,0 <= z15 -> z15 <= 9223372036854775807 -> z15 = fnD 0 [z13] ->
          (((decide (15 < z15)) = true ->
           K [[z0],[z1]] [[0],[2]]
          ) /\ ((decide (15 < z15)) = false ->
           chkD 1 [z13,0] /\
           ∀ z16 : Int,0 <= z16 -> z16 <= 255 -> z16 = fnD 1 [z13,0] ->
           (((decide (z16 = 48)) = true ->
            K [[z0],[z1]] [[0],[2]]
           ) /\ ((decide (z16 = 48)) = false ->
            K [[z0],[z1]] [[z13],[0]]
           ))
          ))
         ))
        ))
       ) /\ ((decide (0 < z11)) = false ->
        chkD 3 [z2,z6] /\
        ∀ z12 : Int,0 <= z12 -> z12 <= HB -> z12 = fnD 3 [z2,z6] ->
        ∀ z13 : Int,0 <= z13 -> z13 <= 9223372036854775807 -> z13 = fnD 0 [z12] ->
        (((decide (z13 < 6)) = true ->
         K [[z0],[z1]] [[0],[2]]
        ) /\ ((decide (z13 < 6)) = false ->
         ∀ z14 : Int,0 <= z14 -> z14 <= 9223372036854775807 -> z14 = fnD 0 [z12] ->
         (((decide (15 < z14)) = true ->
          K [[z0],[z1]] [[0],[2]]
         ) /\ ((decide (15 < z14)) = false ->
          chkD 1 [z12,0] /\
          ∀ z15 : Int,0 <= z15 -> z15 <= 255 -> z15 = fnD 1 [z12,0] ->
          (((decide (z15 = 48)) = true ->
           K [[z0],[z1]] [[0],[2]]
          ) /\ ((decide (z15 = 48)) = false ->
           K [[z0],[z1]] [[z12],[0]]
          ))
         ))
        ))
       ))
      ) /\ ((decide (z3 = 1)) = false ->
       chkD 3 [z2,z6] /\
       ∀ z11 : Int,0 <= z11 -> z11 <= HB -> z11 = fnD 3 [z2,z6] ->
       ∀ z12 : Int,0 <= z12 -> z12 <= 9223372036854775807 -> z12 = fnD 0 [z11] ->
       (((decide (z12 < 6)) = true ->
        K [[z0],[z1]] [[0],[2]]
       ) /\ ((decide (z12 < 6)) = false ->
        ∀ z13 : Int,0 <= z13 -> z13 <= 9223372036854775807 -> z13 = fnD 0 [z11] ->
        (((decide (15 < z13)) = true ->
         K [[z0],[z1]] [[0],[2]]
        ) /\ ((decide (15 < z13)) = false ->
         chkD 1 [z11,0] /\
         ∀ z14 : Int,0 <= z14 -> z14 <= 255 -> z14 = fnD 1 [z11,0] ->
         (((decide (z14 = 48)) = true ->
          K [[z0],[z1]] [[0],[2]]
         ) /\ ((decide (z14 = 48)) = false ->
          K [[z0],[z1]] [[z11],[0]]
         ))
        ))
       ))
      ))
     ) /\ (((!(decide (z10 = 1)))) = false ->
      ∀ z11 : Int,0 <= z11 -> z11 <= 9223372036854775807 -> z11 = fnD 0 [z6] ->
      (((decide (z11 < 6)) = true ->
       K [[z0],[z1]] [[0],[2]]
      ) /\ ((decide (z11 < 6)) = false ->
       ∀ z12 : Int,0 <= z12 -> z12 <= 9223372036854775807 -> z12 = fnD 0 [z6] ->
       (((decide (15 < z12)) = true ->
        K [[z0],[z1]] [[0],[2]]
       ) /\ ((decide (15 < z12)) = false ->
        chkD 1 [z6,0] /\
        ∀ z13 : Int,0 <= z13 -> z13 <= 255 -> z13 = fnD 1 [z6,0] ->
        (((decide (z13 = 48)) = true ->
         K [[z0],[z1]] [[0],[2]]
        ) /\ ((decide (z13 = 48)) = false ->
         K [[z0],[z1]] [[z6],[0]]
        ))
       ))
      ))
     ))
    ) /\ (((!(decide (z8 = 1)))) = false ->
     ∀ z10 : Int,0 <= z10 -> z10 <= 9223372036854775807 -> z10 = fnD 0 [z6] ->
     (((decide (z10 < 6)) = true ->
      K [[z0],[z1]] [[0],[2]]
     ) /\ ((decide (z10 < 6)) = false ->
      ∀ z11 : Int,0 <= z11 -> z11 <= 9223372036854775807 -> z11 = fnD 0 [z6] ->
      (((decide (15 < z11)) = true ->
       K [[z0],[z1]] [[0],[2]]
      ) /\ ((decide (15 < z11)) = false ->
       chkD 1 [z6,0] /\
       ∀ z12 : Int,0 <= z12 -> z12 <= 255 -> z12 = fnD 1 [z6,0] ->
       (((decide (z12 = 48)) = true ->
        K [[z0],[z1]] [[0],[2]]
       ) /\ ((decide (z12 = 48)) = false ->
        K [[z0],[z1]] [[z6],[0]]
       ))
      ))
     ))
    ))
   ))
  )
 ))
 )
def BarI (z1 : Int) (bl : List (List Int)) : Prop := ∃ (i : Nat) (d p : Int),bl = [[d],[(i : Int)],[p]] /\ i <= (sOf z1).length /\ (sOf d).length <= i /\ bareF ((sOf z1).drop i) (sOf d) (decide (p = 1)) = bareF (sOf z1) [] false
def BarM (z1 : Int) (bl : List (List Int)) : Nat := (sOf z1).length - ((bl.getD 1 []).getD 0 0).toNat
theorem BarI.next {z1 d d' p p' : Int} {i : Nat} (h1 : z1 <= HB) (hi : i < (sOf z1).length) (hd : (sOf d').length <= i + 1) (hb : bareF ((sOf z1).drop (i + 1)) (sOf d') (decide (p' = 1)) = bareF (sOf z1) [] false) : BarI z1 [[d'],[(i : Int) + 1],[p']] /\ BarM z1 [[d'],[(i : Int) + 1],[p']] < BarM z1 [[d],[(i : Int)],[p]] := by
 refine ⟨⟨i + 1,d',p',by simp,by omega,hd,hb⟩,?_⟩
 show (sOf z1).length - ((i : Int) + 1).toNat < (sOf z1).length - (i : Int).toNat
 omega
theorem bare_step {s d : Tx} {p : Bool} {i : Nat} (hi : i < s.length) : bareF (s.drop i) d p = cond (isD (s.getD i 0)) (bareF (s.drop (i + 1)) (d ++ [s.getD i 0]) p) (cond (s.getD i 0 == 43 && d.isEmpty && !p) (bareF (s.drop (i + 1)) d true) (cond (seps.contains (s.getD i 0)) (bareF (s.drop (i + 1)) d p) none)) := by
 rw [drop_cons_getD s i hi,bareF]
theorem sepT {Kf : Prop} {I : List (List Int) -> Prop} {M : List (List Int) -> Nat} {z1 z6 z8 z10 : Int} {i : Nat} {c : UInt8} (h1 : z1 <= HB) (hi : i < (sOf z1).length) (hc : z10 = (c.toNat : Int))
 (hK : seps.contains c = false -> Kf) (hA : seps.contains c = true -> ∀ z13 : Int,decide (z8 = 1) = decide (z13 = 1) -> I [[z6],[(i : Int) + 1],[z13]] /\ M [[z6],[(i : Int) + 1],[z13]] < M [[z6],[(i : Int)],[z8]]) :
   (((decide (z10 = 32)) = true ->
    ∀ z11 : Int,0 <= z11 -> z11 <= 1 -> 0 <= ((i : Int) + 9223372036854775809) - 18446744073709551616 * z11 -> ((i : Int) + 9223372036854775809) - 18446744073709551616 * z11 < 18446744073709551616 ->
    chkD 39 [(((i : Int) + ((-18446744073709551616) * z11)) + 1),0,9223372036854775807] /\
    ∀ z12 : Int,0 <= z12 -> z12 <= 1 -> decide (z8 = 1) = decide (z12 = 1) ->
    (I [[z6],[(((i : Int) + ((-18446744073709551616) * z11)) + 1)],[z12]] /\ M [[z6],[(((i : Int) + ((-18446744073709551616) * z11)) + 1)],[z12]] < M [[z6],[(i : Int)],[z8]])
   ) /\ ((decide (z10 = 32)) = false ->
    (((decide (z10 = 45)) = true ->
     ∀ z11 : Int,0 <= z11 -> z11 <= 1 -> 0 <= ((i : Int) + 9223372036854775809) - 18446744073709551616 * z11 -> ((i : Int) + 9223372036854775809) - 18446744073709551616 * z11 < 18446744073709551616 ->
     chkD 39 [(((i : Int) + ((-18446744073709551616) * z11)) + 1),0,9223372036854775807] /\
     ∀ z12 : Int,0 <= z12 -> z12 <= 1 -> decide (z8 = 1) = decide (z12 = 1) ->
     (I [[z6],[(((i : Int) + ((-18446744073709551616) * z11)) + 1)],[z12]] /\ M [[z6],[(((i : Int) + ((-18446744073709551616) * z11)) + 1)],[z12]] < M [[z6],[(i : Int)],[z8]])
    ) /\ ((decide (z10 = 45)) = false ->
     (((decide (z10 = 46)) = true ->
      ∀ z11 : Int,0 <= z11 -> z11 <= 1 -> 0 <= ((i : Int) + 9223372036854775809) - 18446744073709551616 * z11 -> ((i : Int) + 9223372036854775809) - 18446744073709551616 * z11 < 18446744073709551616 ->
      chkD 39 [(((i : Int) + ((-18446744073709551616) * z11)) + 1),0,9223372036854775807] /\
      ∀ z12 : Int,0 <= z12 -> z12 <= 1 -> decide (z8 = 1) = decide (z12 = 1) ->
      (I [[z6],[(((i : Int) + ((-18446744073709551616) * z11)) + 1)],[z12]] /\ M [[z6],[(((i : Int) + ((-18446744073709551616) * z11)) + 1)],[z12]] < M [[z6],[(i : Int)],[z8]])
     ) /\ ((decide (z10 = 46)) = false ->
      (((decide (z10 = 40)) = true ->
       ∀ z11 : Int,0 <= z11 -> z11 <= 1 -> 0 <= ((i : Int) + 9223372036854775809) - 18446744073709551616 * z11 -> ((i : Int) + 9223372036854775809) - 18446744073709551616 * z11 < 18446744073709551616 ->
       chkD 39 [(((i : Int) + ((-18446744073709551616) * z11)) + 1),0,9223372036854775807] /\
       ∀ z12 : Int,0 <= z12 -> z12 <= 1 -> decide (z8 = 1) = decide (z12 = 1) ->
       (I [[z6],[(((i : Int) + ((-18446744073709551616) * z11)) + 1)],[z12]] /\ M [[z6],[(((i : Int) + ((-18446744073709551616) * z11)) + 1)],[z12]] < M [[z6],[(i : Int)],[z8]])
      ) /\ ((decide (z10 = 40)) = false ->
       (((decide (z10 = 41)) = true ->
        ∀ z11 : Int,0 <= z11 -> z11 <= 1 -> 0 <= ((i : Int) + 9223372036854775809) - 18446744073709551616 * z11 -> ((i : Int) + 9223372036854775809) - 18446744073709551616 * z11 < 18446744073709551616 ->
        chkD 39 [(((i : Int) + ((-18446744073709551616) * z11)) + 1),0,9223372036854775807] /\
        ∀ z12 : Int,0 <= z12 -> z12 <= 1 -> decide (z8 = 1) = decide (z12 = 1) ->
        (I [[z6],[(((i : Int) + ((-18446744073709551616) * z11)) + 1)],[z12]] /\ M [[z6],[(((i : Int) + ((-18446744073709551616) * z11)) + 1)],[z12]] < M [[z6],[(i : Int)],[z8]])
       ) /\ ((decide (z10 = 41)) = false ->
        Kf
       ))
      ))
     ))
    ))
   )) := by
 have hL := len_lt h1
 have hadv : seps.contains c = true -> ∀ q : Int,0 <= q -> q <= 1 -> 0 <= ((i : Int) + 9223372036854775809) - 18446744073709551616 * q -> ((i : Int) + 9223372036854775809) - 18446744073709551616 * q < 18446744073709551616 ->
  chkD 39 [(((i : Int) + ((-18446744073709551616) * q)) + 1),0,9223372036854775807] /\ ∀ z12 : Int,0 <= z12 -> z12 <= 1 -> decide (z8 = 1) = decide (z12 = 1) ->
   (I [[z6],[(((i : Int) + ((-18446744073709551616) * q)) + 1)],[z12]] /\ M [[z6],[(((i : Int) + ((-18446744073709551616) * q)) + 1)],[z12]] < M [[z6],[(i : Int)],[z8]]) := fun hs q q0 q1 q2 q3 => by
  rw [wrap1 (L := ((sOf z1).length : Int)) (by omega) hL (Int.natCast_nonneg _) q0 q2]
  exact ⟨⟨by omega,by omega⟩,fun z12 _ _ h => hA hs z12 h⟩
 have ee : ∀ n : Int,0 <= n -> n <= 255 -> decide (z10 = n) = (c == u8 n) := fun n h0 h1 => by
  rw [Bool.eq_iff_iff,decide_eq_true_eq,hc,u8_eq h0 h1]
 rw [ee 32 (by decide) (by decide),ee 45 (by decide) (by decide),ee 46 (by decide) (by decide),ee 40 (by decide) (by decide),ee 41 (by decide) (by decide)]
 refine ⟨fun h => hadv ?_,fun h1 => ⟨fun h => hadv ?_,fun h2 => ⟨fun h => hadv ?_,fun h3 => ⟨fun h => hadv ?_,fun h4 => ⟨fun h => hadv ?_,fun h5 => hK ?_⟩⟩⟩⟩⟩
 ·rw [beq_iff_eq.1 h]; decide
 ·rw [beq_iff_eq.1 h]; decide
 ·rw [beq_iff_eq.1 h]; decide
 ·rw [beq_iff_eq.1 h]; decide
 ·rw [beq_iff_eq.1 h]; decide
 ·have e : seps = [u8 32,u8 45,u8 46,u8 40,u8 41] := by decide
  rw [e]
  simp only [List.contains_cons,h1,h2,h3,h4,h5]
  rfl
theorem ctry_trunk {w c t : Tx} (h : ctry w = some (c,t)) : t = [] ∨ t = [48] := by
 unfold ctry at h
 cases h0 : (w == []) with
 | true => rw [h0,cond_true] at h; simp only [Option.some.injEq,Prod.mk.injEq] at h; rw [<- h.2]; decide
 | false =>
  rw [h0,cond_false] at h
  cases h1 : (w == [71,66]) with
  | true => rw [h1,cond_true] at h; simp only [Option.some.injEq,Prod.mk.injEq] at h; rw [<- h.2]; decide
  | false =>
   rw [h1,cond_false] at h
   cases h2 : (w == [85,83]) with
   | true => rw [h2,cond_true] at h; simp only [Option.some.injEq,Prod.mk.injEq] at h; rw [<- h.2]; decide
   | false =>
    rw [h2,cond_false] at h
    cases h3 : (w == [68,69]) with
    | true => rw [h3,cond_true] at h; simp only [Option.some.injEq,Prod.mk.injEq] at h; rw [<- h.2]; decide
    | false =>
     rw [h3,cond_false] at h
     cases h4 : (w == [70,82]) with
     | true => rw [h4,cond_true] at h; simp only [Option.some.injEq,Prod.mk.injEq] at h; rw [<- h.2]; decide
     | false =>
      rw [h4,cond_false] at h
      cases h5 : (w == [67,72]) with
      | true => rw [h5,cond_true] at h; simp only [Option.some.injEq,Prod.mk.injEq] at h; rw [<- h.2]; decide
      | false =>
       rw [h5,cond_false] at h
       cases h
theorem p_rphone : B_rphone SB (KBv SB [.str,.int .i64 0 21] 13) := by
 intro z0 a0 a1 z1 b0 b1 hq z2 x0 x1 z3 y0 y1 z4 c0 c1 hc
 have hid : ∀ a e,(sOf a,e) = phoneF (sOf z0) (sOf z1) -> SB 13 [[z0],[z1]] [[a],[e]] := fun _ _ h => h
 have hq : sOf z0 = [] ∨ (sOf z1).length <= 4294967280 := hq
 have hc : (match ctry (sOf z0) with | some (code,trunk) => sOf z2 = code /\ z3 = b01 (!trunk.isEmpty) /\ z4 = 1 | none => sOf z2 = [] /\ z3 = 0 /\ z4 = 0) := hc
 have kk : ∀ e : Int,0 <= e -> e <= 21 -> phoneF (sOf z0) (sOf z1) = ([],e) -> KBv SB [.str,.int .i64 0 21] 13 [[z0],[z1]] [[0],[e]] := fun e e0 e1 h => kse (Int.le_refl _) HB_pos e0 e1 (hid _ _ (by rw [h]; rfl))
 cases hct : ctry (sOf z0) with
 | none =>
  rw [hct] at hc
  obtain ⟨_,_,rfl⟩ := hc
  exact ⟨fun _ => kk 7 (by decide) (by decide) (by unfold phoneF; rw [hct]),fun h => by simp at h⟩
 | some ct =>
  obtain ⟨code,trunk⟩ := ct
  rw [hct] at hc
  obtain ⟨hcc,htt,rfl⟩ := hc
  refine ⟨fun h => by simp at h,fun _ => ⟨BarI z1,BarM z1,⟨0,0,0,rfl,Nat.zero_le _,Nat.zero_le _,rfl⟩,?_⟩⟩
  rintro z6 d0 d1 z7 e0 e1 z8 f0 f1 ⟨i,d,p,e,hi,hdl,hb⟩ z9 g0 g1 h9
  obtain ⟨rfl,rfl,rfl⟩ : z6 = d /\ z7 = i /\ z8 = p := by simpa using e
  simp only [fnD] at h9
  have hL := len_lt b1
  refine ⟨fun hp => ?_,fun hp => ?_⟩
  ·have hp : (i : Int) < z9 := by simpa using hp
   have hlt : i < (sOf z1).length := by omega
   refine ⟨⟨e0,by omega⟩,fun z10 i0 i1 h10 => ?_⟩
   have h10 : z10 = (((sOf z1).getD i 0).toNat : Int) := by rw [h10]; simp only [fnD,Int.toNat_natCast]
   have hst := bare_step (s := sOf z1) (d := sOf z6) (p := decide (z8 = 1)) hlt
   rw [hst] at hb
   have hD : isD ((sOf z1).getD i 0) = (decide (48 <= z10) && decide (z10 <= 57)) := by
    rw [h10]; unfold isD; rw [Bool.eq_iff_iff]; simp [Nat.ble_eq]; omega
   have e43 : decide (z10 = 43) = ((sOf z1).getD i 0 == 43) := by
    rw [Bool.eq_iff_iff,decide_eq_true_eq,h10,u8_eq (z := 43) (by decide) (by decide)]; rfl
   have kno : bareF (sOf z1) [] false = none -> KBv SB [.str,.int .i64 0 21] 13 [[z0],[z1]] [[0],[2]] := fun h => kk 2 (by decide) (by decide) (by unfold phoneF; rw [hct]; simp only [h])
   have hs : isD ((sOf z1).getD i 0) = false -> ((sOf z1).getD i 0 == 43 && (sOf z6).isEmpty && !decide (z8 = 1)) = false -> _ := fun hnd hn43 =>
    sepT (I := BarI z1) (M := BarM z1) (z6 := z6) (z8 := z8) b1 hlt h10 (fun hsep => kno (by rw [<- hb,hnd,hn43,hsep]; rfl)) (fun hsep z13 h13 => BarI.next (d := z6) (p := z8) b1 hlt (by omega) (by rw [<- h13,<- hb,hnd,hn43,hsep]; rfl))
   refine ⟨fun hA => ⟨fun hB q q0 q1 q2 q3 => ?_,fun hB => ?_⟩,fun hA => ?_⟩
   ·rw [hA,hB] at hD
    rw [wrap1 (L := z9) hp g1 e0 q0 q2]
    refine ⟨⟨e0,by omega,by omega⟩,fun z12 j0 j1 h12 => ?_⟩
    have e12 : sOf z12 = [(sOf z1).getD i 0] := by
     rw [h12]; simp only [fnD,sOf_cOf]
     rw [show (i : Int).toNat = i by omega,show ((i : Int) + 1).toNat - i = 1 by omega,drop_cons_getD _ _ hlt]
     rfl
    refine ⟨?_,fun z13 k0 k1 h13 q' q0' q1' q2' q3' => ?_⟩
    ·show (sOf z6).length + (sOf z12).length <= mxL
     have hm := HB_s b1
     rw [e12]; simp; omega
    ·have e13 : sOf z13 = sOf z6 ++ [(sOf z1).getD i 0] := by rw [h13]; simp only [fnD,sOf_cOf,e12]
     rw [wrap1 (L := z9) hp g1 e0 q0' q2']
     refine ⟨⟨by omega,by omega⟩,fun z15 l0 l1 h15 => BarI.next (d := z6) (p := z8) b1 hlt (by rw [e13]; simp; omega) ?_⟩
     rw [<- h15,e13,<- hb,hD]; rfl
   ·refine kno ?_
    have h57 : ¬ z10 <= 57 := by simpa using hB
    rw [hB,Bool.and_false] at hD
    have n43 : ((sOf z1).getD i 0 == 43) = false := by rw [<- e43]; simp; omega
    rw [<- hb,hD,n43]
    have : seps.contains ((sOf z1).getD i 0) = false := by
     cases hh : seps.contains ((sOf z1).getD i 0) with
     | false => rfl
     | true =>
      exfalso
      have hm : (sOf z1).getD i 0 ∈ seps := by simpa using hh
      have : ∀ c ∈ seps,c.toNat <= 57 := by decide
      have := this _ hm
      omega
    rw [this]; rfl
   ·rw [hA,Bool.false_and] at hD
    rw [e43]
    refine ⟨fun h43 z11 j0 j1 h11 => ?_,fun h43 => hs hD (by rw [h43]; rfl)⟩
    rw [eq_nil h11]
    have hem : (sOf z6 == []) = (sOf z6).isEmpty := by cases sOf z6 <;> rfl
    rw [hem]
    refine ⟨fun he => ⟨fun hp8 q q0 q1 q2 q3 => ?_,fun hp8 => hs hD (by rw [hp8]; simp)⟩,fun he => hs hD (by rw [he]; simp)⟩
    rw [wrap1 (L := z9) hp g1 e0 q0 q2]
    refine ⟨⟨by omega,by omega⟩,BarI.next (d := z6) (p := z8) b1 hlt (by omega) ?_⟩
    rw [<- hb,hD,h43,he,hp8]; rfl
  ·have hp : ¬ (i : Int) < z9 := by simpa using hp
   rw [List.drop_of_length_le (by omega)] at hb
   have hbf : bareF (sOf z1) [] false = some (sOf z6,decide (z8 = 1)) := by rw [<- hb,bareF]
   have hf : phoneF (sOf z0) (sOf z1) = phoneE (phoneN (sOf z0) code trunk (sOf z6) (decide (z8 = 1))) := by unfold phoneF; rw [hct]; simp only [hbf]
   have hcl := ctry_len hct
   refine ⟨fun h8 z10 i0 i1 h10 => ?_,fun h8 => phoneEnd (z := 0) _ 13 hid d0 d1 (by rw [hf]; unfold phoneN; rw [h8]; rfl)⟩
   rw [eq_nil h10]
   refine ⟨fun hw => ?_,fun hw => phoneEnd (z := 0) _ 13 hid d0 d1 (by
    rw [hf]; unfold phoneN
    have hw : (!(sOf z0 == [])) = false := hw
    rw [h8,hw]; rfl)⟩
   have hw : (!(sOf z0 == [])) = true := hw
   have hN : phoneN (sOf z0) code trunk (sOf z6) (decide (z8 = 1)) = code ++ cond (trunk.isPrefixOf (sOf z6)) ((sOf z6).drop trunk.length) (sOf z6) := by unfold phoneN; rw [h8,hw]; rfl
   rw [hN] at hf
   have hadd : ∀ x : Int,(sOf x).length <= (sOf z6).length -> chkD 3 [z2,x] := fun x hx => by
    show (sOf z2).length + (sOf x).length <= mxL
    have hq : (sOf z1).length <= 4294967280 := by
     rcases hq with h | h
     ·rw [h] at hw; cases hw
     ·exact h
    rw [hcc]; unfold mxL; omega
   have same : cond (trunk.isPrefixOf (sOf z6)) ((sOf z6).drop trunk.length) (sOf z6) = sOf z6 -> chkD 3 [z2,z6] /\ ∀ z13 : Int,0 <= z13 -> z13 <= HB -> z13 = fnD 3 [z2,z6] -> _ := fun hsame => ⟨hadd z6 (Nat.le_refl _),fun z13 j0 j1 h13 => phoneEnd (z := 0) _ 13 hid j0 j1 (by
    rw [hf,hsame,h13]; simp only [fnD,sOf_cOf,hcc])⟩
   rw [b01_dec htt]
   refine ⟨fun ht z11 j0 j1 h11 => ?_,fun ht => same ?_⟩
   ·have ht48 : trunk = [48] := by
     rcases ctry_trunk hct with h | h
     ·rw [h] at ht; cases ht
     ·exact h
    simp only [fnD] at h11
    refine ⟨fun hpos => ⟨⟨Int.le_refl _,?_⟩,fun z12 k0 k1 h12 => ?_⟩,fun hpos => same ?_⟩
    ·have hpos : 0 < z11 := by simpa using hpos
     omega
    ·have hpos : 0 < z11 := by simpa using hpos
     rw [byte_eq (n := 48) (k := 0) rfl (by decide) (by decide) h12]
     cases h6 : sOf z6 with
     | nil => rw [h6] at h11; simp at h11; omega
     | cons x r =>
      refine ⟨fun h48 z13 l0 l1 h13 => ?_,fun h48 => ?_⟩
      ·have hx : x = 48 := beq_iff_eq.1 h48
       simp only [fnD,h6,List.length_cons] at h13
       refine ⟨⟨by omega,by omega,by rw [h6]; simp; omega⟩,fun z14 m0 m1 h14 => ?_⟩
       have e14 : sOf z14 = r := by
        rw [h14]; simp only [fnD,sOf_cOf,h6]
        rw [show (1 : Int).toNat = 1 from rfl,List.drop_one,List.tail_cons]
        exact List.take_of_length_le (by omega)
       refine ⟨hadd z14 (by rw [e14,h6]; simp),fun z15 n0 n1 h15 => phoneEnd (z := 0) _ 13 hid n0 n1 ?_⟩
       rw [hf,h15]; simp only [fnD,sOf_cOf,hcc,e14,ht48,h6,hx]
       simp
      ·have hx : (x == 48) = false := h48
       have := same (by rw [ht48,h6]; simp [List.isPrefixOf,Bool.beq_comm,hx])
       exact this
    ·have hpos : ¬ 0 < z11 := by simpa using hpos
     cases h6 : sOf z6 with
     | nil => rw [ht48]; rfl
     | cons x r => rw [h6] at h11; simp at h11; omega
   ·have ht0 : trunk = [] := by
     rcases ctry_trunk hct with h | h
     ·exact h
     ·rw [h] at ht; cases ht
    rw [ht0]; simp
end Go.Ad
set_option maxRecDepth 100000
set_option linter.unusedVariables false
set_option linter.unusedSimpArgs false
namespace Go.Ad
open Go Go.Rx
def B_make (S : Nat -> List (List Int) -> List (List Int) -> Prop) (K : List (List Int) -> List (List Int) -> Prop) : Prop :=
 ∀ z0 : Int,0 <= z0 -> z0 <= HB -> ∀ z1 : Int,0 <= z1 -> z1 <= HB ->
 ∀ z2 : Int,0 <= z2 -> z2 <= 1 -> z2 = fnD 4 [z0,477315081741] ->
 (((decide (z2 = 1)) = true ->
  ∀ z3 : Int,0 <= z3 -> z3 <= HB -> ∀ z4 : Int,0 <= z4 -> z4 <= 21 -> S 10 [[z1]] [[z3],[z4]] ->
  ((((!(decide (z4 = 0)))) = true ->
   K [[z0],[z1]] [[0,0],[z4]]
  ) /\ (((!(decide (z4 = 0)))) = false ->
   K [[z0],[z1]] [[z0,z3],[0]]
  ))
 ) /\ ((decide (z2 = 1)) = false ->
  ∀ z3 : Int,0 <= z3 -> z3 <= 1 -> z3 = fnD 4 [z0,124890778723732] ->
  (((decide (z3 = 1)) = true ->
   chkD 44 [0,z1] /\
   ∀ z4 : Int,0 <= z4 -> z4 <= HB -> ∀ z5 : Int,0 <= z5 -> z5 <= 21 -> S 12 [[0],[z1]] [[z4],[z5]] ->
   ((((!(decide (z5 = 0)))) = true ->
    K [[z0],[z1]] [[0,0],[z5]]
   ) /\ (((!(decide (z5 = 0)))) = false ->
    K [[z0],[z1]] [[z0,z4],[0]]
   ))
  ) /\ ((decide (z3 = 1)) = false ->
   K [[z0],[z1]] [[0,0],[1]]
  ))
 ))
def B_rmake (S : Nat -> List (List Int) -> List (List Int) -> Prop) (K : List (List Int) -> List (List Int) -> Prop) : Prop :=
 ∀ z0 : Int,0 <= z0 -> z0 <= HB -> ∀ z1 : Int,0 <= z1 -> z1 <= HB ->
 ∀ z2 : Int,0 <= z2 -> z2 <= 1 -> z2 = fnD 4 [z0,477315081741] ->
 (((decide (z2 = 1)) = true ->
  ∀ z3 : Int,0 <= z3 -> z3 <= HB -> ∀ z4 : Int,0 <= z4 -> z4 <= 21 -> S 11 [[z1]] [[z3],[z4]] ->
  ((((!(decide (z4 = 0)))) = true ->
   K [[z0],[z1]] [[0,0],[z4]]
  ) /\ (((!(decide (z4 = 0)))) = false ->
   K [[z0],[z1]] [[z0,z3],[0]]
  ))
 ) /\ ((decide (z2 = 1)) = false ->
  ∀ z3 : Int,0 <= z3 -> z3 <= 1 -> z3 = fnD 4 [z0,124890778723732] ->
  (((decide (z3 = 1)) = true ->
   chkD 44 [0,z1] /\
   ∀ z4 : Int,0 <= z4 -> z4 <= HB -> ∀ z5 : Int,0 <= z5 -> z5 <= 21 -> S 13 [[0],[z1]] [[z4],[z5]] ->
   ((((!(decide (z5 = 0)))) = true ->
    K [[z0],[z1]] [[0,0],[z5]]
   ) /\ (((!(decide (z5 = 0)))) = false ->
    K [[z0],[z1]] [[z0,z4],[0]]
   ))
  ) /\ ((decide (z3 = 1)) = false ->
   K [[z0],[z1]] [[0,0],[1]]
  ))
 ))
def B_right (S : Nat -> List (List Int) -> List (List Int) -> Prop) (K : List (List Int) -> List (List Int) -> Prop) : Prop :=
 ∀ r0 : List Int,inB (repB 0 HB 2) r0 ->
 ∀ r2 : List Int,inB (repB 0 HB 2) r2 -> ∀ z4 : Int,0 <= z4 -> z4 <= 21 -> S 15 [[(List.getD r0 0 0)],[(List.getD r0 1 0)]] [r2,[z4]] ->
 (((decide (z4 = 0)) = true ->
  ∀ z5 : Int,0 <= z5 -> z5 <= 1 -> z5 = fnD 4 [(List.getD r0 0 0),(List.getD r2 0 0)] ->
  ∀ z6 : Int,0 <= z6 -> z6 <= 1 -> z6 = fnD 4 [(List.getD r0 1 0),(List.getD r2 1 0)] ->
  K [r0] [[(cond (decide ([z5,z6] = [1,1])) 1 0)]]
 ) /\ ((decide (z4 = 0)) = false ->
  K [r0] [[(cond (false) 1 0)]]
 ))
def B_rright (S : Nat -> List (List Int) -> List (List Int) -> Prop) (K : List (List Int) -> List (List Int) -> Prop) : Prop :=
 ∀ r0 : List Int,inB (repB 0 HB 2) r0 ->
 ∀ r2 : List Int,inB (repB 0 HB 2) r2 -> ∀ z4 : Int,0 <= z4 -> z4 <= 21 -> S 18 [[(List.getD r0 0 0)],[(List.getD r0 1 0)]] [r2,[z4]] ->
 (((decide (z4 = 0)) = true ->
  ∀ z5 : Int,0 <= z5 -> z5 <= 1 -> z5 = fnD 4 [(List.getD r0 0 0),(List.getD r2 0 0)] ->
  ∀ z6 : Int,0 <= z6 -> z6 <= 1 -> z6 = fnD 4 [(List.getD r0 1 0),(List.getD r2 1 0)] ->
  K [r0] [[(cond (decide ([z5,z6] = [1,1])) 1 0)]]
 ) /\ ((decide (z4 = 0)) = false ->
  K [r0] [[(cond (false) 1 0)]]
 ))
theorem kEmail : sOf 477315081741 = emailS := by decide +kernel
theorem kMsisdn : sOf 124890778723732 = msisdnS := by decide +kernel
theorem kmk {id : Nat} {zs : List (List Int)} {a b e : Int} (a0 : 0 <= a) (a1 : a <= HB) (b0 : 0 <= b) (b1 : b <= HB) (e0 : 0 <= e) (e1 : e <= 21) (h : SB id zs [[a,b],[e]]) : KBv SB [.mix [.str,.str],.int .i64 0 21] id zs [[a,b],[e]] := ⟨⟨a0,a1,b0,b1,e0,e1,trivial⟩,h⟩
theorem p_make : B_make SB (KBv SB [.mix [.str,.str],.int .i64 0 21] 15) := by
 intro z0 a0 a1 z1 b0 b1 z2 c0 c1 h2
 have kk : ∀ a b e : Int,0 <= a -> a <= HB -> 0 <= b -> b <= HB -> 0 <= e -> e <= 21 -> (sOf a,sOf b,e) = makeF (sOf z0) (sOf z1) -> KBv SB [.mix [.str,.str],.int .i64 0 21] 15 [[z0],[z1]] [[a,b],[e]] := fun a b e h1 h2 h3 h4 h5 h6 h => kmk h1 h2 h3 h4 h5 h6 h
 rw [eq_dec h2,kEmail]
 refine ⟨fun hE z3 d0 d1 z4 e0 e1 h => ?_,fun hE z3 d0 d1 h3 => ?_⟩
 ·have hm : (sOf z0 == emailS) = true := by simpa using hE
  have h : (sOf z3,z4) = emailF (sOf z1) := h
  have hM : makeF (sOf z0) (sOf z1) = mk1 (sOf z0) (sOf z3,z4) := by unfold makeF; rw [hm,<- h]; rfl
  refine ⟨fun hz => kk 0 0 z4 (Int.le_refl _) HB_pos (Int.le_refl _) HB_pos e0 e1 ?_,fun hz => kk z0 z3 0 a0 a1 d0 d1 (by decide) (by decide) ?_⟩
  ·rw [hM]; unfold mk1; rw [show decide (z4 = 0) = false by simpa using hz]; rfl
  ·rw [hM]; unfold mk1; rw [show decide (z4 = 0) = true by simpa using hz]; rfl
 ·have hm : (sOf z0 == emailS) = false := by
   have : ¬ sOf z0 = emailS := by simpa using hE
   simpa using this
  rw [eq_dec h3,kMsisdn]
  refine ⟨fun hS => ⟨.inl (by decide),fun z4 e0 e1 z5 f0 f1 h => ?_⟩,fun hS => kk 0 0 1 (Int.le_refl _) HB_pos (Int.le_refl _) HB_pos (by decide) (by decide) ?_⟩
  ·have hs : (sOf z0 == msisdnS) = true := by simpa using hS
   have h : (sOf z4,z5) = phoneF (sOf 0) (sOf z1) := h
   have hM : makeF (sOf z0) (sOf z1) = mk1 (sOf z0) (sOf z4,z5) := by unfold makeF; rw [hm,hs,h]; rfl
   refine ⟨fun hz => kk 0 0 z5 (Int.le_refl _) HB_pos (Int.le_refl _) HB_pos f0 f1 ?_,fun hz => kk z0 z4 0 a0 a1 e0 e1 (by decide) (by decide) ?_⟩
   ·rw [hM]; unfold mk1; rw [show decide (z5 = 0) = false by simpa using hz]; rfl
   ·rw [hM]; unfold mk1; rw [show decide (z5 = 0) = true by simpa using hz]; rfl
  ·have hs : (sOf z0 == msisdnS) = false := by
    have : ¬ sOf z0 = msisdnS := by simpa using hS
    simpa using this
   unfold makeF; rw [hm,hs]; rfl
theorem p_rmake : B_rmake SB (KBv SB [.mix [.str,.str],.int .i64 0 21] 18) := by
 intro z0 a0 a1 z1 b0 b1 z2 c0 c1 h2
 have kk : ∀ a b e : Int,0 <= a -> a <= HB -> 0 <= b -> b <= HB -> 0 <= e -> e <= 21 -> (sOf a,sOf b,e) = makeF (sOf z0) (sOf z1) -> KBv SB [.mix [.str,.str],.int .i64 0 21] 18 [[z0],[z1]] [[a,b],[e]] := fun a b e h1 h2 h3 h4 h5 h6 h => kmk h1 h2 h3 h4 h5 h6 h
 rw [eq_dec h2,kEmail]
 refine ⟨fun hE z3 d0 d1 z4 e0 e1 h => ?_,fun hE z3 d0 d1 h3 => ?_⟩
 ·have hm : (sOf z0 == emailS) = true := by simpa using hE
  have h : (sOf z3,z4) = emailF (sOf z1) := h
  have hM : makeF (sOf z0) (sOf z1) = mk1 (sOf z0) (sOf z3,z4) := by unfold makeF; rw [hm,<- h]; rfl
  refine ⟨fun hz => kk 0 0 z4 (Int.le_refl _) HB_pos (Int.le_refl _) HB_pos e0 e1 ?_,fun hz => kk z0 z3 0 a0 a1 d0 d1 (by decide) (by decide) ?_⟩
  ·rw [hM]; unfold mk1; rw [show decide (z4 = 0) = false by simpa using hz]; rfl
  ·rw [hM]; unfold mk1; rw [show decide (z4 = 0) = true by simpa using hz]; rfl
 ·have hm : (sOf z0 == emailS) = false := by
   have : ¬ sOf z0 = emailS := by simpa using hE
   simpa using this
  rw [eq_dec h3,kMsisdn]
  refine ⟨fun hS => ⟨.inl (by decide),fun z4 e0 e1 z5 f0 f1 h => ?_⟩,fun hS => kk 0 0 1 (Int.le_refl _) HB_pos (Int.le_refl _) HB_pos (by decide) (by decide) ?_⟩
  ·have hs : (sOf z0 == msisdnS) = true := by simpa using hS
   have h : (sOf z4,z5) = phoneF (sOf 0) (sOf z1) := h
   have hM : makeF (sOf z0) (sOf z1) = mk1 (sOf z0) (sOf z4,z5) := by unfold makeF; rw [hm,hs,h]; rfl
   refine ⟨fun hz => kk 0 0 z5 (Int.le_refl _) HB_pos (Int.le_refl _) HB_pos f0 f1 ?_,fun hz => kk z0 z4 0 a0 a1 e0 e1 (by decide) (by decide) ?_⟩
   ·rw [hM]; unfold mk1; rw [show decide (z5 = 0) = false by simpa using hz]; rfl
   ·rw [hM]; unfold mk1; rw [show decide (z5 = 0) = true by simpa using hz]; rfl
  ·have hs : (sOf z0 == msisdnS) = false := by
    have : ¬ sOf z0 = msisdnS := by simpa using hS
    simpa using this
   unfold makeF; rw [hm,hs]; rfl
theorem p_right : B_right SB (KBv SB [.bool] 16) := by
 intro r0 h0
 obtain ⟨a,b,rfl,_⟩ := two_of h0
 have kk : ∀ x : Bool,rightF (sOf a) (sOf b) = x -> KBv SB [.bool] 16 [[a,b]] [[b01 x]] := fun x h => kb (by show b01 x = b01 (rightF (sOf a) (sOf b)); rw [h])
 refine fun r2 h2 z4 c0 c1 hM => ?_
 obtain ⟨c,d,rfl,_⟩ := two_of h2
 have hM : (sOf c,sOf d,z4) = makeF (sOf a) (sOf b) := hM
 have hR : rightF (sOf a) (sOf b) = (decide (z4 = 0) && (sOf a == sOf c) && (sOf b == sOf d)) := by unfold rightF; rw [<- hM]
 refine ⟨fun hz z5 d0 d1 h5 z6 e0 e1 h6 => ?_,fun hz => kk false (by rw [hR,hz]; rfl)⟩
 have h5 : z5 = fnD 4 [a,c] := h5
 have h6 : z6 = fnD 4 [b,d] := h6
 have e5 := eq_dec h5
 have e6 := eq_dec h6
 refine kk _ ?_
 rw [hR,hz,Bool.true_and,Bool.eq_iff_iff]
 have e5' : z5 = 1 ↔ sOf a = sOf c := by rw [<- decide_eq_true_eq (p := z5 = 1),e5,decide_eq_true_eq]
 have e6' : z6 = 1 ↔ sOf b = sOf d := by rw [<- decide_eq_true_eq (p := z6 = 1),e6,decide_eq_true_eq]
 simp only [Bool.and_eq_true,beq_iff_eq,decide_eq_true_eq,List.cons.injEq,and_true,e5',e6']
theorem p_rright : B_rright SB (KBv SB [.bool] 19) := by
 intro r0 h0
 obtain ⟨a,b,rfl,_⟩ := two_of h0
 have kk : ∀ x : Bool,rightF (sOf a) (sOf b) = x -> KBv SB [.bool] 19 [[a,b]] [[b01 x]] := fun x h => kb (by show b01 x = b01 (rightF (sOf a) (sOf b)); rw [h])
 refine fun r2 h2 z4 c0 c1 hM => ?_
 obtain ⟨c,d,rfl,_⟩ := two_of h2
 have hM : (sOf c,sOf d,z4) = makeF (sOf a) (sOf b) := hM
 have hR : rightF (sOf a) (sOf b) = (decide (z4 = 0) && (sOf a == sOf c) && (sOf b == sOf d)) := by unfold rightF; rw [<- hM]
 refine ⟨fun hz z5 d0 d1 h5 z6 e0 e1 h6 => ?_,fun hz => kk false (by rw [hR,hz]; rfl)⟩
 have h5 : z5 = fnD 4 [a,c] := h5
 have h6 : z6 = fnD 4 [b,d] := h6
 have e5 := eq_dec h5
 have e6 := eq_dec h6
 refine kk _ ?_
 rw [hR,hz,Bool.true_and,Bool.eq_iff_iff]
 have e5' : z5 = 1 ↔ sOf a = sOf c := by rw [<- decide_eq_true_eq (p := z5 = 1),e5,decide_eq_true_eq]
 have e6' : z6 = 1 ↔ sOf b = sOf d := by rw [<- decide_eq_true_eq (p := z6 = 1),e6,decide_eq_true_eq]
 simp only [Bool.and_eq_true,beq_iff_eq,decide_eq_true_eq,List.cons.injEq,and_true,e5',e6']
end Go.Ad
