/- Pal: a part of the proof of statements of this seat. -/
import Derived.Test.YtodhngllhbgndaaGreatDoorPak
import Derived.Test.YtodhngllhbgndaaGreatDoorPag
import Derived.Test.YtodhngllhbgndaaGreatDoorProg
import Derived.KernelRfl
import Derived.Shelf.Lay
import Derived.Shelf.LaySoft
import Derived.Shelf.Strings.Search1
import Derived.Shelf.Strings.Search3
import Derived.Shelf.Small.Strs
import Derived.BigCall
import Derived.Shelf.Strings.Builder1
import Derived.Lib.IndexMore
import Derived.Test.YtodhngllhbgndaaGreatDoorPai
import Derived.WalkKit
import Derived.WideMake
import Derived.Laws.ResultCell
import Derived.Laws.Rows
import Derived.Lib.IndexAny
import Derived.OwnWalk
set_option maxRecDepth 100000
set_option linter.unusedVariables false
set_option linter.unusedSimpArgs false
namespace Go.Ad
open Go Go.Rx
def B_lssub (S : Nat -> List (List Int) -> List (List Int) -> Prop) (K : List (List Int) -> List (List Int) -> Prop) : Prop :=
 ∀ z0 : Int,0 <= z0 -> z0 <= RB -> ∀ z1 : Int,(-9223372036854775808) <= z1 -> z1 <= 9223372036854775807 -> ∀ r2 : List Int,inB [((-9223372036854775808),9223372036854775807),(0,HB),(0,HB),(0,HB),(0,HB),((-9223372036854775808),9223372036854775807),((-9223372036854775808),9223372036854775807),((-9223372036854775808),9223372036854775807),(0,1),((-9223372036854775808),9223372036854775807)] r2 ->
 ∀ z12 : Int,0 <= z12 ->
 ∀ z13 : Int,(-1) <= z13 -> z13 <= 9223372036854775807 ->
 ∀ z14 : Int,0 <= z14 -> z14 <= 9223372036854775807 -> z14 = fnD 20 [z0] ->
 ∀ z15 : Int,0 <= z15 -> z15 <= 1 -> S 413 [] [[z15]] ->
 ((((!(decide (z15 = 1)))) = true ->
  K [[z0],[z1],r2] [[(cond (false) 1 0)]]
 ) /\ (((!(decide (z15 = 1)))) = false ->
  (((decide (40 < z14)) = true ->
   K [[z0],[z1],r2] [[(cond (true) 1 0)]]
  ) /\ ((decide (40 < z14)) = false ->
   chkD 22 [z0,0,z14] /\
   chkD 23 [0,z14] /\
   ∀ z16 : Int,0 <= z16 -> z16 <= RB -> z16 = fnD 22 [z0,0,z14] ->
   ∀ z17 : Int,0 <= z17 -> z17 <= RB -> z17 = fnD 24 [0,z16] ->
   (((decide (z14 <= 0)) = true ->
    chkD 22 [0,0,0] /\
    ∀ z18 : Int,0 <= z18 -> z18 <= RB -> z18 = fnD 22 [0,0,0] ->
    ∀ z19 : Int,0 <= z19 -> z19 <= 1 -> decide ((List.getD r2 8 0) = 1) = decide (z19 = 1) ->
    ∀ z20 : Int,0 <= z20 -> z20 <= RB -> ∀ z21 : Int,0 <= z21 -> z21 <= 21 -> S 408 [[z18],[z1],[(List.getD r2 0 0),(List.getD r2 1 0),(List.getD r2 2 0),(List.getD r2 3 0),(List.getD r2 4 0),(List.getD r2 5 0),(List.getD r2 6 0),(List.getD r2 7 0),z19,(List.getD r2 9 0)]] [[z20],[z21]] ->
    ∀ z22 : Int,0 <= z22 ->
    ∀ z23 : Int,(-1) <= z23 -> z23 <= 9223372036854775807 ->
    ∀ z24 : Int,0 <= z24 -> z24 <= 9223372036854775807 -> z24 = fnD 20 [z20] ->
    chkD 22 [z0,0,z14] /\
    ∀ z25 : Int,0 <= z25 -> z25 <= RB -> z25 = fnD 22 [z0,0,z14] ->
    ∀ z26 : Int,0 <= z26 -> z26 <= 1 -> decide ((List.getD r2 8 0) = 1) = decide (z26 = 1) ->
    ∀ z27 : Int,0 <= z27 -> z27 <= RB -> ∀ z28 : Int,0 <= z28 -> z28 <= 21 -> S 427 [[z25],[z1],[(List.getD r2 0 0),(List.getD r2 1 0),(List.getD r2 2 0),(List.getD r2 3 0),(List.getD r2 4 0),(List.getD r2 5 0),(List.getD r2 6 0),(List.getD r2 7 0),z26,(List.getD r2 9 0)]] [[z27],[z28]] ->
    ∀ z29 : Int,0 <= z29 ->
    ∀ z30 : Int,(-1) <= z30 -> z30 <= 9223372036854775807 ->
    ∀ z31 : Int,0 <= z31 -> z31 <= 9223372036854775807 -> z31 = fnD 20 [z27] ->
    chkD 22 [0,0,0] /\
    ∀ z32 : Int,0 <= z32 -> z32 <= RB -> z32 = fnD 22 [0,0,0] ->
    ∀ z33 : Int,0 <= z33 -> z33 <= 1 -> decide ((List.getD r2 8 0) = 1) = decide (z33 = 1) ->
    ∀ r34 : List Int,inB (repB 0 HB 2) r34 -> ∀ z36 : Int,0 <= z36 -> z36 <= 21 -> S 407 [[z32],[z1],[(List.getD r2 0 0),(List.getD r2 1 0),(List.getD r2 2 0),(List.getD r2 3 0),(List.getD r2 4 0),(List.getD r2 5 0),(List.getD r2 6 0),(List.getD r2 7 0),z33,(List.getD r2 9 0)]] [r34,[z36]] ->
    chkD 22 [z0,0,z14] /\
    ∀ z37 : Int,0 <= z37 -> z37 <= RB -> z37 = fnD 22 [z0,0,z14] ->
    ∀ z38 : Int,0 <= z38 -> z38 <= 1 -> decide ((List.getD r2 8 0) = 1) = decide (z38 = 1) ->
    ∀ r39 : List Int,inB (repB 0 HB 2) r39 -> ∀ z41 : Int,0 <= z41 -> z41 <= 21 -> S 428 [[z37],[z1],[(List.getD r2 0 0),(List.getD r2 1 0),(List.getD r2 2 0),(List.getD r2 3 0),(List.getD r2 4 0),(List.getD r2 5 0),(List.getD r2 6 0),(List.getD r2 7 0),z38,(List.getD r2 9 0)]] [r39,[z41]] ->
    chkD 22 [0,0,0] /\
    ∀ z42 : Int,0 <= z42 -> z42 <= RB -> z42 = fnD 22 [0,0,0] ->
    ∀ r43 : List Int,inB [((-9223372036854775808),9223372036854775807),(0,HB),(0,HB),(0,HB),(0,HB),((-9223372036854775808),9223372036854775807),((-9223372036854775808),9223372036854775807),((-9223372036854775808),9223372036854775807),(0,1),((-9223372036854775808),9223372036854775807)] r43 -> ∀ z53 : Int,0 <= z53 -> z53 <= 1 -> S 405 [[z42],[(List.getD r2 0 0)]] [r43,[z53]] ->
    chkD 22 [z0,0,z14] /\
    ∀ z54 : Int,0 <= z54 -> z54 <= RB -> z54 = fnD 22 [z0,0,z14] ->
    ∀ r55 : List Int,inB [((-9223372036854775808),9223372036854775807),(0,HB),(0,HB),(0,HB),(0,HB),((-9223372036854775808),9223372036854775807),((-9223372036854775808),9223372036854775807),((-9223372036854775808),9223372036854775807),(0,1),((-9223372036854775808),9223372036854775807)] r55 -> ∀ z65 : Int,0 <= z65 -> z65 <= 1 -> S 425 [[z54],[(List.getD r2 0 0)]] [r55,[z65]] ->
    chkD 22 [z20,0,z24] /\
    ∀ z66 : Int,0 <= z66 -> z66 <= RB -> z66 = fnD 22 [z20,0,z24] ->
    chkD 22 [z27,0,z31] /\
    ∀ z67 : Int,0 <= z67 -> z67 <= RB -> z67 = fnD 22 [z27,0,z31] ->
    ∀ z68 : Int,0 <= z68 -> z68 <= 1 -> S 416 [[z66],[z67]] [[z68]] ->
    (((decide (z68 = 1)) = true ->
     (((decide (z21 = z28)) = true ->
      ∀ z69 : Int,0 <= z69 -> z69 <= 1 -> z69 = fnD 4 [(List.getD r34 0 0),(List.getD r39 0 0)] ->
      ∀ z70 : Int,0 <= z70 -> z70 <= 1 -> z70 = fnD 4 [(List.getD r34 1 0),(List.getD r39 1 0)] ->
      (((decide ([z69,z70] = [1,1])) = true ->
       (((decide (z36 = z41)) = true ->
        ∀ z71 : Int,0 <= z71 -> z71 <= 1 -> z71 = fnD 4 [(List.getD r43 1 0),(List.getD r55 1 0)] ->
        ∀ z72 : Int,0 <= z72 -> z72 <= 1 -> z72 = fnD 4 [(List.getD r43 2 0),(List.getD r55 2 0)] ->
        ∀ z73 : Int,0 <= z73 -> z73 <= 1 -> z73 = fnD 4 [(List.getD r43 3 0),(List.getD r55 3 0)] ->
        ∀ z74 : Int,0 <= z74 -> z74 <= 1 -> z74 = fnD 4 [(List.getD r43 4 0),(List.getD r55 4 0)] ->
        (((((decide ((List.getD r43 0 0) = (List.getD r55 0 0))) && (((decide (z71 = 1)) && (((decide ([z72,z73] = [1,1])) && (((decide (z74 = 1)) && (((decide ((List.getD r43 5 0) = (List.getD r55 5 0))) && (((decide ((List.getD r43 6 0) = (List.getD r55 6 0))) && (((decide ((List.getD r43 7 0) = (List.getD r55 7 0))) && (((((decide ((List.getD r43 8 0) = 1)) == (decide ((List.getD r55 8 0) = 1)))) && (decide ((List.getD r43 9 0) = (List.getD r55 9 0))))))))))))))))))) = true ->
         (((((decide (z53 = 1)) == (decide (z65 = 1)))) = true ->
          chkD 22 [0,0,0] /\
          ∀ z75 : Int,0 <= z75 -> z75 <= RB -> z75 = fnD 22 [0,0,0] ->
          ∀ z76 : Int,0 <= z76 -> z76 <= RB -> S 410 [[z75],[z1]] [[z76]] ->
          ∀ z77 : Int,(-1) <= z77 -> z77 <= 9223372036854775807 ->
          ∀ z78 : Int,0 <= z78 -> z78 <= 9223372036854775807 -> z78 = fnD 20 [z76] ->
          chkD 22 [z0,0,z14] /\
          ∀ z79 : Int,0 <= z79 -> z79 <= RB -> z79 = fnD 22 [z0,0,z14] ->
          ∀ z80 : Int,0 <= z80 -> z80 <= RB -> S 424 [[z79],[z1]] [[z80]] ->
          ∀ z81 : Int,(-1) <= z81 -> z81 <= 9223372036854775807 ->
          ∀ z82 : Int,0 <= z82 -> z82 <= 9223372036854775807 -> z82 = fnD 20 [z80] ->
          chkD 22 [z76,0,z78] /\
          ∀ z83 : Int,0 <= z83 -> z83 <= RB -> z83 = fnD 22 [z76,0,z78] ->
          chkD 22 [z80,0,z82] /\
          ∀ z84 : Int,0 <= z84 -> z84 <= RB -> z84 = fnD 22 [z80,0,z82] ->
          ∀ z85 : Int,0 <= z85 -> z85 <= 1 -> S 416 [[z83],[z84]] [[z85]] ->
          (((decide (z85 = 1)) = true ->
           chkD 22 [0,0,0] /\
           ∀ z86 : Int,0 <= z86 -> z86 <= RB -> z86 = fnD 22 [0,0,0] ->
           chkD 22 [z0,0,z14] /\
           ∀ z87 : Int,0 <= z87 -> z87 <= RB -> z87 = fnD 22 [z0,0,z14] ->
           ∀ z88 : Int,0 <= z88 -> z88 <= 1 -> S 416 [[z86],[z87]] [[z88]] ->
           K [[z0],[z1],r2] [[(cond (decide (z88 = 1)) 1 0)]]
          ) /\ ((decide (z85 = 1)) = false ->
           K [[z0],[z1],r2] [[(cond (false) 1 0)]]
          ))
         ) /\ ((((decide (z53 = 1)) == (decide (z65 = 1)))) = false ->
          K [[z0],[z1],r2] [[(cond (false) 1 0)]]
         ))
        ) /\ ((((decide ((List.getD r43 0 0) = (List.getD r55 0 0))) && (((decide (z71 = 1)) && (((decide ([z72,z73] = [1,1])) && (((decide (z74 = 1)) && (((decide ((List.getD r43 5 0) = (List.getD r55 5 0))) && (((decide ((List.getD r43 6 0) = (List.getD r55 6 0))) && (((decide ((List.getD r43 7 0) = (List.getD r55 7 0))) && (((((decide ((List.getD r43 8 0) = 1)) == (decide ((List.getD r55 8 0) = 1)))) && (decide ((List.getD r43 9 0) = (List.getD r55 9 0))))))))))))))))))) = false ->
         K [[z0],[z1],r2] [[(cond (false) 1 0)]]
        ))
       ) /\ ((decide (z36 = z41)) = false ->
        K [[z0],[z1],r2] [[(cond (false) 1 0)]]
       ))
      ) /\ ((decide ([z69,z70] = [1,1])) = false ->
       K [[z0],[z1],r2] [[(cond (false) 1 0)]]
      ))
     ) /\ ((decide (z21 = z28)) = false ->
      K [[z0],[z1],r2] [[(cond (false) 1 0)]]
     ))
    ) /\ ((decide (z68 = 1)) = false ->
     K [[z0],[z1],r2] [[(cond (false) 1 0)]]
    ))
   ) /\ ((decide (z14 <= 0)) = false ->
    ∀ z18 : Int,(-1) <= z18 -> z18 <= 9223372036854775807 ->
    chkD 22 [z17,0,z14] /\
    ∀ z19 : Int,0 <= z19 -> z19 <= RB -> z19 = fnD 22 [z17,0,z14] ->
    ∀ z20 : Int,0 <= z20 -> z20 <= 1 -> decide ((List.getD r2 8 0) = 1) = decide (z20 = 1) ->
    ∀ z21 : Int,0 <= z21 -> z21 <= RB -> ∀ z22 : Int,0 <= z22 -> z22 <= 21 -> S 408 [[z19],[z1],[(List.getD r2 0 0),(List.getD r2 1 0),(List.getD r2 2 0),(List.getD r2 3 0),(List.getD r2 4 0),(List.getD r2 5 0),(List.getD r2 6 0),(List.getD r2 7 0),z20,(List.getD r2 9 0)]] [[z21],[z22]] ->
    ∀ z23 : Int,0 <= z23 ->
    ∀ z24 : Int,(-1) <= z24 -> z24 <= 9223372036854775807 ->
    ∀ z25 : Int,0 <= z25 -> z25 <= 9223372036854775807 -> z25 = fnD 20 [z21] ->
    chkD 22 [z0,0,z14] /\
    ∀ z26 : Int,0 <= z26 -> z26 <= RB -> z26 = fnD 22 [z0,0,z14] ->
    ∀ z27 : Int,0 <= z27 -> z27 <= 1 -> decide ((List.getD r2 8 0) = 1) = decide (z27 = 1) ->
    ∀ z28 : Int,0 <= z28 -> z28 <= RB -> ∀ z29 : Int,0 <= z29 -> z29 <= 21 -> S 427 [[z26],[z1],[(List.getD r2 0 0),(List.getD r2 1 0),(List.getD r2 2 0),(List.getD r2 3 0),(List.getD r2 4 0),(List.getD r2 5 0),(List.getD r2 6 0),(List.getD r2 7 0),z27,(List.getD r2 9 0)]] [[z28],[z29]] ->
    ∀ z30 : Int,0 <= z30 ->
    ∀ z31 : Int,(-1) <= z31 -> z31 <= 9223372036854775807 ->
    ∀ z32 : Int,0 <= z32 -> z32 <= 9223372036854775807 -> z32 = fnD 20 [z28] ->
    chkD 22 [z17,0,z14] /\
    ∀ z33 : Int,0 <= z33 -> z33 <= RB -> z33 = fnD 22 [z17,0,z14] ->
    ∀ z34 : Int,0 <= z34 -> z34 <= 1 -> decide ((List.getD r2 8 0) = 1) = decide (z34 = 1) ->
    ∀ r35 : List Int,inB (repB 0 HB 2) r35 -> ∀ z37 : Int,0 <= z37 -> z37 <= 21 -> S 407 [[z33],[z1],[(List.getD r2 0 0),(List.getD r2 1 0),(List.getD r2 2 0),(List.getD r2 3 0),(List.getD r2 4 0),(List.getD r2 5 0),(List.getD r2 6 0),(List.getD r2 7 0),z34,(List.getD r2 9 0)]] [r35,[z37]] ->
    chkD 22 [z0,0,z14] /\
    ∀ z38 : Int,0 <= z38 -> z38 <= RB -> z38 = fnD 22 [z0,0,z14] ->
    ∀ z39 : Int,0 <= z39 -> z39 <= 1 -> decide ((List.getD r2 8 0) = 1) = decide (z39 = 1) ->
    ∀ r40 : List Int,inB (repB 0 HB 2) r40 -> ∀ z42 : Int,0 <= z42 -> z42 <= 21 -> S 428 [[z38],[z1],[(List.getD r2 0 0),(List.getD r2 1 0),(List.getD r2 2 0),(List.getD r2 3 0),(List.getD r2 4 0),(List.getD r2 5 0),(List.getD r2 6 0),(List.getD r2 7 0),z39,(List.getD r2 9 0)]] [r40,[z42]] ->
    chkD 22 [z17,0,z14] /\
    ∀ z43 : Int,0 <= z43 -> z43 <= RB -> z43 = fnD 22 [z17,0,z14] ->
    ∀ r44 : List Int,inB [((-9223372036854775808),9223372036854775807),(0,HB),(0,HB),(0,HB),(0,HB),((-9223372036854775808),9223372036854775807),((-9223372036854775808),9223372036854775807),((-9223372036854775808),9223372036854775807),(0,1),((-9223372036854775808),9223372036854775807)] r44 -> ∀ z54 : Int,0 <= z54 -> z54 <= 1 -> S 405 [[z43],[(List.getD r2 0 0)]] [r44,[z54]] ->
    chkD 22 [z0,0,z14] /\
    ∀ z55 : Int,0 <= z55 -> z55 <= RB -> z55 = fnD 22 [z0,0,z14] ->
    ∀ r56 : List Int,inB [((-9223372036854775808),9223372036854775807),(0,HB),(0,HB),(0,HB),(0,HB),((-9223372036854775808),9223372036854775807),((-9223372036854775808),9223372036854775807),((-9223372036854775808),9223372036854775807),(0,1),((-9223372036854775808),9223372036854775807)] r56 -> ∀ z66 : Int,0 <= z66 -> z66 <= 1 -> S 425 [[z55],[(List.getD r2 0 0)]] [r56,[z66]] ->
    chkD 22 [z21,0,z25] /\
    ∀ z67 : Int,0 <= z67 -> z67 <= RB -> z67 = fnD 22 [z21,0,z25] ->
    chkD 22 [z28,0,z32] /\
    ∀ z68 : Int,0 <= z68 -> z68 <= RB -> z68 = fnD 22 [z28,0,z32] ->
    ∀ z69 : Int,0 <= z69 -> z69 <= 1 -> S 416 [[z67],[z68]] [[z69]] ->
    (((decide (z69 = 1)) = true ->
     (((decide (z22 = z29)) = true ->
      ∀ z70 : Int,0 <= z70 -> z70 <= 1 -> z70 = fnD 4 [(List.getD r35 0 0),(List.getD r40 0 0)] ->
      ∀ z71 : Int,0 <= z71 -> z71 <= 1 -> z71 = fnD 4 [(List.getD r35 1 0),(List.getD r40 1 0)] ->
      (((decide ([z70,z71] = [1,1])) = true ->
       (((decide (z37 = z42)) = true ->
        ∀ z72 : Int,0 <= z72 -> z72 <= 1 -> z72 = fnD 4 [(List.getD r44 1 0),(List.getD r56 1 0)] ->
        ∀ z73 : Int,0 <= z73 -> z73 <= 1 -> z73 = fnD 4 [(List.getD r44 2 0),(List.getD r56 2 0)] ->
        ∀ z74 : Int,0 <= z74 -> z74 <= 1 -> z74 = fnD 4 [(List.getD r44 3 0),(List.getD r56 3 0)] ->
        ∀ z75 : Int,0 <= z75 -> z75 <= 1 -> z75 = fnD 4 [(List.getD r44 4 0),(List.getD r56 4 0)] ->
        (((((decide ((List.getD r44 0 0) = (List.getD r56 0 0))) && (((decide (z72 = 1)) && (((decide ([z73,z74] = [1,1])) && (((decide (z75 = 1)) && (((decide ((List.getD r44 5 0) = (List.getD r56 5 0))) && (((decide ((List.getD r44 6 0) = (List.getD r56 6 0))) && (((decide ((List.getD r44 7 0) = (List.getD r56 7 0))) && (((((decide ((List.getD r44 8 0) = 1)) == (decide ((List.getD r56 8 0) = 1)))) && (decide ((List.getD r44 9 0) = (List.getD r56 9 0))))))))))))))))))) = true ->
         (((((decide (z54 = 1)) == (decide (z66 = 1)))) = true ->
          chkD 22 [z17,0,z14] /\
          ∀ z76 : Int,0 <= z76 -> z76 <= RB -> z76 = fnD 22 [z17,0,z14] ->
          ∀ z77 : Int,0 <= z77 -> z77 <= RB -> S 410 [[z76],[z1]] [[z77]] ->
          ∀ z78 : Int,(-1) <= z78 -> z78 <= 9223372036854775807 ->
          ∀ z79 : Int,0 <= z79 -> z79 <= 9223372036854775807 -> z79 = fnD 20 [z77] ->
          chkD 22 [z0,0,z14] /\
          ∀ z80 : Int,0 <= z80 -> z80 <= RB -> z80 = fnD 22 [z0,0,z14] ->
          ∀ z81 : Int,0 <= z81 -> z81 <= RB -> S 424 [[z80],[z1]] [[z81]] ->
          ∀ z82 : Int,(-1) <= z82 -> z82 <= 9223372036854775807 ->
          ∀ z83 : Int,0 <= z83 -> z83 <= 9223372036854775807 -> z83 = fnD 20 [z81] ->
          chkD 22 [z77,0,z79] /\
          ∀ z84 : Int,0 <= z84 -> z84 <= RB -> z84 = fnD 22 [z77,0,z79] ->
          chkD 22 [z81,0,z83] /\
          ∀ z85 : Int,0 <= z85 -> z85 <= RB -> z85 = fnD 22 [z81,0,z83] ->
          ∀ z86 : Int,0 <= z86 -> z86 <= 1 -> S 416 [[z84],[z85]] [[z86]] ->
          (((decide (z86 = 1)) = true ->
           chkD 22 [z17,0,z14] /\
           ∀ z87 : Int,0 <= z87 -> z87 <= RB -> z87 = fnD 22 [z17,0,z14] ->
           chkD 22 [z0,0,z14] /\
           ∀ z88 : Int,0 <= z88 -> z88 <= RB -> z88 = fnD 22 [z0,0,z14] ->
           ∀ z89 : Int,0 <= z89 -> z89 <= 1 -> S 416 [[z87],[z88]] [[z89]] ->
           K [[z0],[z1],r2] [[(cond (decide (z89 = 1)) 1 0)]]
          ) /\ ((decide (z86 = 1)) = false ->
           K [[z0],[z1],r2] [[(cond (false) 1 0)]]
          ))
         ) /\ ((((decide (z54 = 1)) == (decide (z66 = 1)))) = false ->
          K [[z0],[z1],r2] [[(cond (false) 1 0)]]
         ))
        ) /\ ((((decide ((List.getD r44 0 0) = (List.getD r56 0 0))) && (((decide (z72 = 1)) && (((decide ([z73,z74] = [1,1])) && (((decide (z75 = 1)) && (((decide ((List.getD r44 5 0) = (List.getD r56 5 0))) && (((decide ((List.getD r44 6 0) = (List.getD r56 6 0))) && (((decide ((List.getD r44 7 0) = (List.getD r56 7 0))) && (((((decide ((List.getD r44 8 0) = 1)) == (decide ((List.getD r56 8 0) = 1)))) && (decide ((List.getD r44 9 0) = (List.getD r56 9 0))))))))))))))))))) = false ->
         K [[z0],[z1],r2] [[(cond (false) 1 0)]]
        ))
       ) /\ ((decide (z37 = z42)) = false ->
        K [[z0],[z1],r2] [[(cond (false) 1 0)]]
       ))
      ) /\ ((decide ([z70,z71] = [1,1])) = false ->
       K [[z0],[z1],r2] [[(cond (false) 1 0)]]
      ))
     ) /\ ((decide (z22 = z29)) = false ->
      K [[z0],[z1],r2] [[(cond (false) 1 0)]]
     ))
    ) /\ ((decide (z69 = 1)) = false ->
     K [[z0],[z1],r2] [[(cond (false) 1 0)]]
    ))
   ))
  ))
 ))
theorem p_lssub : B_lssub SB (KBb SB [.d .bool] 431) := by
 intro z0 a0 a1 z1 n0 n1 r2 hr2 z12 _ z13 _ _ z14 b0 b1 h14 z15 _ _ h15
 have h14 : z14 = ((rOf z0).length : Int) := h14
 have h15 : z15 = 1 := h15
 have hb8 : 0 <= r2.getD 8 0 /\ r2.getD 8 0 <= 1 := by
  obtain ⟨x0,x1,x2,x3,x4,x5,x6,x7,x8,x9,rfl,hb8⟩ := inB10 hr2
  exact hb8
 have kk : ∀ b : Bool,b = true -> KBb SB [.d .bool] 431 [[z0],[z1],r2] [[cond b 1 0]] := fun b h => by subst h; exact ⟨⟨by decide,by decide,trivial⟩,rfl⟩
 have W := fun y => whole_ses (z := z0) (y := y) h14
 have REST : ∀ c n : Int,rOf c = rOf z0 -> n = ((rOf z0).length : Int) ->
  chkD 22 [c,0,n] /\
  ∀ z18 : Int,0 <= z18 -> z18 <= RB -> z18 = fnD 22 [c,0,n] ->
  ∀ z19 : Int,0 <= z19 -> z19 <= 1 -> decide ((List.getD r2 8 0) = 1) = decide (z19 = 1) ->
  ∀ z20 : Int,0 <= z20 -> z20 <= RB -> ∀ z21 : Int,0 <= z21 -> z21 <= 21 -> SB 408 [[z18],[z1],[(List.getD r2 0 0),(List.getD r2 1 0),(List.getD r2 2 0),(List.getD r2 3 0),(List.getD r2 4 0),(List.getD r2 5 0),(List.getD r2 6 0),(List.getD r2 7 0),z19,(List.getD r2 9 0)]] [[z20],[z21]] ->
  ∀ z22 : Int,0 <= z22 ->
  ∀ z23 : Int,(-1) <= z23 -> z23 <= 9223372036854775807 ->
  ∀ z24 : Int,0 <= z24 -> z24 <= 9223372036854775807 -> z24 = fnD 20 [z20] ->
  chkD 22 [z0,0,z14] /\
  ∀ z25 : Int,0 <= z25 -> z25 <= RB -> z25 = fnD 22 [z0,0,z14] ->
  ∀ z26 : Int,0 <= z26 -> z26 <= 1 -> decide ((List.getD r2 8 0) = 1) = decide (z26 = 1) ->
  ∀ z27 : Int,0 <= z27 -> z27 <= RB -> ∀ z28 : Int,0 <= z28 -> z28 <= 21 -> SB 427 [[z25],[z1],[(List.getD r2 0 0),(List.getD r2 1 0),(List.getD r2 2 0),(List.getD r2 3 0),(List.getD r2 4 0),(List.getD r2 5 0),(List.getD r2 6 0),(List.getD r2 7 0),z26,(List.getD r2 9 0)]] [[z27],[z28]] ->
  ∀ z29 : Int,0 <= z29 ->
  ∀ z30 : Int,(-1) <= z30 -> z30 <= 9223372036854775807 ->
  ∀ z31 : Int,0 <= z31 -> z31 <= 9223372036854775807 -> z31 = fnD 20 [z27] ->
  chkD 22 [c,0,n] /\
  ∀ z32 : Int,0 <= z32 -> z32 <= RB -> z32 = fnD 22 [c,0,n] ->
  ∀ z33 : Int,0 <= z33 -> z33 <= 1 -> decide ((List.getD r2 8 0) = 1) = decide (z33 = 1) ->
  ∀ r34 : List Int,inB (repB 0 HB 2) r34 -> ∀ z36 : Int,0 <= z36 -> z36 <= 21 -> SB 407 [[z32],[z1],[(List.getD r2 0 0),(List.getD r2 1 0),(List.getD r2 2 0),(List.getD r2 3 0),(List.getD r2 4 0),(List.getD r2 5 0),(List.getD r2 6 0),(List.getD r2 7 0),z33,(List.getD r2 9 0)]] [r34,[z36]] ->
  chkD 22 [z0,0,z14] /\
  ∀ z37 : Int,0 <= z37 -> z37 <= RB -> z37 = fnD 22 [z0,0,z14] ->
  ∀ z38 : Int,0 <= z38 -> z38 <= 1 -> decide ((List.getD r2 8 0) = 1) = decide (z38 = 1) ->
  ∀ r39 : List Int,inB (repB 0 HB 2) r39 -> ∀ z41 : Int,0 <= z41 -> z41 <= 21 -> SB 428 [[z37],[z1],[(List.getD r2 0 0),(List.getD r2 1 0),(List.getD r2 2 0),(List.getD r2 3 0),(List.getD r2 4 0),(List.getD r2 5 0),(List.getD r2 6 0),(List.getD r2 7 0),z38,(List.getD r2 9 0)]] [r39,[z41]] ->
  chkD 22 [c,0,n] /\
  ∀ z42 : Int,0 <= z42 -> z42 <= RB -> z42 = fnD 22 [c,0,n] ->
  ∀ r43 : List Int,inB [((-9223372036854775808),9223372036854775807),(0,HB),(0,HB),(0,HB),(0,HB),((-9223372036854775808),9223372036854775807),((-9223372036854775808),9223372036854775807),((-9223372036854775808),9223372036854775807),(0,1),((-9223372036854775808),9223372036854775807)] r43 -> ∀ z53 : Int,0 <= z53 -> z53 <= 1 -> SB 405 [[z42],[(List.getD r2 0 0)]] [r43,[z53]] ->
  chkD 22 [z0,0,z14] /\
  ∀ z54 : Int,0 <= z54 -> z54 <= RB -> z54 = fnD 22 [z0,0,z14] ->
  ∀ r55 : List Int,inB [((-9223372036854775808),9223372036854775807),(0,HB),(0,HB),(0,HB),(0,HB),((-9223372036854775808),9223372036854775807),((-9223372036854775808),9223372036854775807),((-9223372036854775808),9223372036854775807),(0,1),((-9223372036854775808),9223372036854775807)] r55 -> ∀ z65 : Int,0 <= z65 -> z65 <= 1 -> SB 425 [[z54],[(List.getD r2 0 0)]] [r55,[z65]] ->
  chkD 22 [z20,0,z24] /\
  ∀ z66 : Int,0 <= z66 -> z66 <= RB -> z66 = fnD 22 [z20,0,z24] ->
  chkD 22 [z27,0,z31] /\
  ∀ z67 : Int,0 <= z67 -> z67 <= RB -> z67 = fnD 22 [z27,0,z31] ->
  ∀ z68 : Int,0 <= z68 -> z68 <= 1 -> SB 416 [[z66],[z67]] [[z68]] ->
  (((decide (z68 = 1)) = true ->
  (((decide (z21 = z28)) = true ->
  ∀ z69 : Int,0 <= z69 -> z69 <= 1 -> z69 = fnD 4 [(List.getD r34 0 0),(List.getD r39 0 0)] ->
  ∀ z70 : Int,0 <= z70 -> z70 <= 1 -> z70 = fnD 4 [(List.getD r34 1 0),(List.getD r39 1 0)] ->
  (((decide ([z69,z70] = [1,1])) = true ->
  (((decide (z36 = z41)) = true ->
  ∀ z71 : Int,0 <= z71 -> z71 <= 1 -> z71 = fnD 4 [(List.getD r43 1 0),(List.getD r55 1 0)] ->
  ∀ z72 : Int,0 <= z72 -> z72 <= 1 -> z72 = fnD 4 [(List.getD r43 2 0),(List.getD r55 2 0)] ->
  ∀ z73 : Int,0 <= z73 -> z73 <= 1 -> z73 = fnD 4 [(List.getD r43 3 0),(List.getD r55 3 0)] ->
  ∀ z74 : Int,0 <= z74 -> z74 <= 1 -> z74 = fnD 4 [(List.getD r43 4 0),(List.getD r55 4 0)] ->
  (((((decide ((List.getD r43 0 0) = (List.getD r55 0 0))) && (((decide (z71 = 1)) && (((decide ([z72,z73] = [1,1])) && (((decide (z74 = 1)) && (((decide ((List.getD r43 5 0) = (List.getD r55 5 0))) && (((decide ((List.getD r43 6 0) = (List.getD r55 6 0))) && (((decide ((List.getD r43 7 0) = (List.getD r55 7 0))) && (((((decide ((List.getD r43 8 0) = 1)) == (decide ((List.getD r55 8 0) = 1)))) && (decide ((List.getD r43 9 0) = (List.getD r55 9 0))))))))))))))))))) = true ->
  (((((decide (z53 = 1)) == (decide (z65 = 1)))) = true ->
  chkD 22 [c,0,n] /\
  ∀ z75 : Int,0 <= z75 -> z75 <= RB -> z75 = fnD 22 [c,0,n] ->
  ∀ z76 : Int,0 <= z76 -> z76 <= RB -> SB 410 [[z75],[z1]] [[z76]] ->
  ∀ z77 : Int,(-1) <= z77 -> z77 <= 9223372036854775807 ->
  ∀ z78 : Int,0 <= z78 -> z78 <= 9223372036854775807 -> z78 = fnD 20 [z76] ->
  chkD 22 [z0,0,z14] /\
  ∀ z79 : Int,0 <= z79 -> z79 <= RB -> z79 = fnD 22 [z0,0,z14] ->
  ∀ z80 : Int,0 <= z80 -> z80 <= RB -> SB 424 [[z79],[z1]] [[z80]] ->
  ∀ z81 : Int,(-1) <= z81 -> z81 <= 9223372036854775807 ->
  ∀ z82 : Int,0 <= z82 -> z82 <= 9223372036854775807 -> z82 = fnD 20 [z80] ->
  chkD 22 [z76,0,z78] /\
  ∀ z83 : Int,0 <= z83 -> z83 <= RB -> z83 = fnD 22 [z76,0,z78] ->
  chkD 22 [z80,0,z82] /\
  ∀ z84 : Int,0 <= z84 -> z84 <= RB -> z84 = fnD 22 [z80,0,z82] ->
  ∀ z85 : Int,0 <= z85 -> z85 <= 1 -> SB 416 [[z83],[z84]] [[z85]] ->
  (((decide (z85 = 1)) = true ->
  chkD 22 [c,0,n] /\
  ∀ z86 : Int,0 <= z86 -> z86 <= RB -> z86 = fnD 22 [c,0,n] ->
  chkD 22 [z0,0,z14] /\
  ∀ z87 : Int,0 <= z87 -> z87 <= RB -> z87 = fnD 22 [z0,0,z14] ->
  ∀ z88 : Int,0 <= z88 -> z88 <= 1 -> SB 416 [[z86],[z87]] [[z88]] ->
  KBb SB [.d .bool] 431 [[z0],[z1],r2] [[(cond (decide (z88 = 1)) 1 0)]]
  ) /\ ((decide (z85 = 1)) = false ->
  KBb SB [.d .bool] 431 [[z0],[z1],r2] [[(cond (false) 1 0)]]
  ))
  ) /\ ((((decide (z53 = 1)) == (decide (z65 = 1)))) = false ->
  KBb SB [.d .bool] 431 [[z0],[z1],r2] [[(cond (false) 1 0)]]
  ))
  ) /\ ((((decide ((List.getD r43 0 0) = (List.getD r55 0 0))) && (((decide (z71 = 1)) && (((decide ([z72,z73] = [1,1])) && (((decide (z74 = 1)) && (((decide ((List.getD r43 5 0) = (List.getD r55 5 0))) && (((decide ((List.getD r43 6 0) = (List.getD r55 6 0))) && (((decide ((List.getD r43 7 0) = (List.getD r55 7 0))) && (((((decide ((List.getD r43 8 0) = 1)) == (decide ((List.getD r55 8 0) = 1)))) && (decide ((List.getD r43 9 0) = (List.getD r55 9 0))))))))))))))))))) = false ->
  KBb SB [.d .bool] 431 [[z0],[z1],r2] [[(cond (false) 1 0)]]
  ))
  ) /\ ((decide (z36 = z41)) = false ->
  KBb SB [.d .bool] 431 [[z0],[z1],r2] [[(cond (false) 1 0)]]
  ))
  ) /\ ((decide ([z69,z70] = [1,1])) = false ->
  KBb SB [.d .bool] 431 [[z0],[z1],r2] [[(cond (false) 1 0)]]
  ))
  ) /\ ((decide (z21 = z28)) = false ->
  KBb SB [.d .bool] 431 [[z0],[z1],r2] [[(cond (false) 1 0)]]
  ))
  ) /\ ((decide (z68 = 1)) = false ->
  KBb SB [.d .bool] 431 [[z0],[z1],r2] [[(cond (false) 1 0)]]
  )) := by
  intro c n hc hn
  have V := fun y => whole_ses (z := c) (n := n) (y := y) (by rw [hc]; exact hn)
  have hcs := ses_same hc
  refine ⟨(V 0).1,fun z18 _ _ h18 z19 u0 u1 h19 z20 _ _ z21 _ _ hA z22 _ z23 _ _ z24 _ _ h24 => ⟨(W 0).1,fun z25 _ _ h25 z26 v0 v1 h26 z27 _ _ z28 _ _ hB z29 _ z30 _ _ z31 _ _ h31 => ?_⟩⟩
  have h19 := bit_eq hb8.1 hb8.2 u0 u1 h19
  have h26 := bit_eq hb8.1 hb8.2 v0 v1 h26
  have hA : (ses z20,z21) = submitF (ses z18) z1 (seOf [r2.getD 0 0,r2.getD 1 0,r2.getD 2 0,r2.getD 3 0,r2.getD 4 0,r2.getD 5 0,r2.getD 6 0,r2.getD 7 0,z19,r2.getD 9 0]) := hA
  have hB : (ses z27,z28) = submitF (ses z25) z1 (seOf [r2.getD 0 0,r2.getD 1 0,r2.getD 2 0,r2.getD 3 0,r2.getD 4 0,r2.getD 5 0,r2.getD 6 0,r2.getD 7 0,z26,r2.getD 9 0]) := hB
  rw [se_bit h19,ses_same ((V z18).2 h18),hcs] at hA
  rw [se_bit h26,ses_same ((W z25).2 h25)] at hB
  have hAB := hA.trans hB.symm
  simp only [Prod.mk.injEq] at hAB
  obtain ⟨e1,e2⟩ := hAB
  have A := fun y => whole_ses (z := z20) (y := y) h24
  have B := fun y => whole_ses (z := z27) (y := y) h31
  refine ⟨(V 0).1,fun z32 _ _ h32 z33 u0 u1 h33 r34 hr34 z36 _ _ hC => ⟨(W 0).1,fun z37 _ _ h37 z38 v0 v1 h38 r39 hr39 z41 _ _ hD => ?_⟩⟩
  have h33 := bit_eq hb8.1 hb8.2 u0 u1 h33
  have h38 := bit_eq hb8.1 hb8.2 v0 v1 h38
  have hC : (whoOf r34,z36) = shownF (ses z32) z1 (seOf [r2.getD 0 0,r2.getD 1 0,r2.getD 2 0,r2.getD 3 0,r2.getD 4 0,r2.getD 5 0,r2.getD 6 0,r2.getD 7 0,z33,r2.getD 9 0]) := hC
  have hD : (whoOf r39,z41) = shownF (ses z37) z1 (seOf [r2.getD 0 0,r2.getD 1 0,r2.getD 2 0,r2.getD 3 0,r2.getD 4 0,r2.getD 5 0,r2.getD 6 0,r2.getD 7 0,z38,r2.getD 9 0]) := hD
  rw [se_bit h33,ses_same ((V z32).2 h32),hcs] at hC
  rw [se_bit h38,ses_same ((W z37).2 h37)] at hD
  have hCD := hC.trans hD.symm
  simp only [Prod.mk.injEq] at hCD
  obtain ⟨f1,f2⟩ := hCD
  refine ⟨(V 0).1,fun z42 _ _ h42 r43 hr43 z53 _ _ hE => ⟨(W 0).1,fun z54 _ _ h54 r55 hr55 z65 _ _ hF => ?_⟩⟩
  have hE : (match findS (ses z42) (r2.getD 0 0) with | some b => seOf r43 = b /\ z53 = 1 | none => r43 = [0,0,0,0,0,0,0,0,0,0] /\ z53 = 0) := hE
  have hF : (match findS (ses z54) (r2.getD 0 0) with | some b => seOf r55 = b /\ z65 = 1 | none => r55 = [0,0,0,0,0,0,0,0,0,0] /\ z65 = 0) := hF
  rw [ses_same ((V z42).2 h42),hcs] at hE
  rw [ses_same ((W z54).2 h54)] at hF
  have hEF : seOf r43 = seOf r55 /\ z53 = z65 := by
   cases hf : findS (ses z0) (r2.getD 0 0) with
   | none => rw [hf] at hE hF; exact ⟨by rw [hE.1,hF.1],by rw [hE.2,hF.2]⟩
   | some b => rw [hf] at hE hF; exact ⟨by rw [hE.1,hF.1],by rw [hE.2,hF.2]⟩
  refine ⟨(A 0).1,fun z66 _ _ h66 => ⟨(B 0).1,fun z67 _ _ h67 z68 _ _ h68 => ?_⟩⟩
  have h68 : z68 = b01 (decide (ses z66 = ses z67)) := h68
  rw [ses_same ((A z66).2 h66),ses_same ((B z67).2 h67),e1,decide_eq_true rfl] at h68
  refine ⟨fun _ => ⟨fun _ z69 _ _ h69 z70 _ _ h70 => ?_,fun h => absurd e2 (of_decide_eq_false h)⟩,fun h => absurd h68 (of_decide_eq_false h)⟩
  have hp := pair_dec h69 h70
  rw [show (sOf (r34.getD 0 0),sOf (r34.getD 1 0)) = (sOf (r39.getD 0 0),sOf (r39.getD 1 0)) from f1,decide_eq_true rfl] at hp
  refine ⟨fun _ => ⟨fun _ z71 _ _ h71 z72 _ _ h72 z73 _ _ h73 z74 _ _ h74 => ?_,fun h => absurd f2 (of_decide_eq_false h)⟩,fun h => (by rw [<- hp] at h; cases h)⟩
  obtain ⟨x0,x1,x2,x3,x4,x5,x6,x7,x8,x9,rfl,hx8⟩ := inB10 hr43
  obtain ⟨y0,y1,y2,y3,y4,y5,y6,y7,y8,y9,rfl,hy8⟩ := inB10 hr55
  have hd := se_dec (a0 := x0) (b0 := y0) (a1 := x1) (b1 := y1) (a2 := x2) (b2 := y2) (a3 := x3) (b3 := y3) (a4 := x4) (b4 := y4) (a5 := x5) (b5 := y5) (a6 := x6) (b6 := y6) (a7 := x7) (b7 := y7) (a8 := x8) (b8 := y8) (a9 := x9) (b9 := y9) h71 h72 h73 h74 hx8 hy8
  rw [hEF.1,decide_eq_true rfl] at hd
  refine ⟨fun _ => ⟨fun _ => ⟨(V 0).1,fun z75 _ _ h75 z76 _ _ hG z77 _ _ z78 _ _ h78 => ⟨(W 0).1,fun z79 _ _ h79 z80 _ _ hH z81 _ _ z82 _ _ h82 => ?_⟩⟩,fun h => (by rw [hEF.2] at h; simp at h)⟩,fun h => ?_⟩
  rotate_left
  ·have h2 : true = false := hd.symm.trans h
   cases h2
  have hG : ses z76 = cond (timedF z1 && rightS (ses z75)) (pruneF (ses z75) z1) [] := hG
  have hH : ses z80 = cond (timedF z1 && rightS (ses z79)) (pruneF (ses z79) z1) [] := hH
  rw [ses_same ((V z75).2 h75),hcs] at hG
  rw [ses_same ((W z79).2 h79),<- hG] at hH
  have X := fun y => whole_ses (z := z76) (y := y) h78
  have Y := fun y => whole_ses (z := z80) (y := y) h82
  refine ⟨(X 0).1,fun z83 _ _ h83 => ⟨(Y 0).1,fun z84 _ _ h84 z85 _ _ h85 => ?_⟩⟩
  have h85 : z85 = b01 (decide (ses z83 = ses z84)) := h85
  rw [ses_same ((X z83).2 h83),ses_same ((Y z84).2 h84),hH,decide_eq_true rfl] at h85
  refine ⟨fun _ => ⟨(V 0).1,fun z86 _ _ h86 => ⟨(W 0).1,fun z87 _ _ h87 z88 _ _ h88 => kk _ ?_⟩⟩,fun h => absurd h85 (of_decide_eq_false h)⟩
  have h88 : z88 = b01 (decide (ses z86 = ses z87)) := h88
  rw [ses_same ((V z86).2 h86),ses_same ((W z87).2 h87),hcs,decide_eq_true rfl] at h88
  exact decide_eq_true h88
 refine ⟨fun hn => absurd h15 (not_one hn),fun _ => ⟨fun _ => kk _ rfl,fun h40 => ⟨(W 0).1,?_,fun z16 _ _ h16 z17 _ _ h17 => ⟨fun hz => REST 0 0 ?_ ?_,fun _ z18 _ _ => REST z17 z14 (copy_rows ((W z16).2 h16) h17) h14⟩⟩⟩⟩
 ·have := of_decide_eq_false h40
  show (rOf 0).length + z14 <= 1073741824; rw [Go.Rx.rOf_zero]; simp; omega
 ·have := of_decide_eq_true hz
  rw [Go.Rx.rOf_zero]; exact (List.eq_nil_of_length_eq_zero (by omega)).symm
 ·have := of_decide_eq_true hz
  omega
end Go.Ad
set_option maxRecDepth 100000
set_option linter.unusedVariables false
namespace Go.Ad
open Go Go.Rx
def li_none : FuncId -> Nat -> Option LoopI := fun _ _ => none
def lsh_none : Nat -> List Nat := fun _ => []
def aa : D := .mix [.str,.str]
def du8 : D := .int .u8 0 255
def didx : D := .int .i64 (-1) 9223372036854775807
def derr : D := .int .i64 0 21
def ksp : D := .strk [32]
def kdot : D := .strk [46]
def kdd : D := .strk [46,46]
def kdm : D := .strk [46,45]
def kat : D := .strk [64]
def kcol : D := .strk [58]
def khost : D := .strk [97,98,99,100,101,102,103,104,105,106,107,108,109,110,111,112,113,114,115,116,117,118,119,120,121,122,65,66,67,68,69,70,71,72,73,74,75,76,77,78,79,80,81,82,83,84,85,86,87,88,89,90,48,49,50,51,52,53,54,55,56,57,46,45]
def kdig : D := .strk [48,49,50,51,52,53,54,55,56,57]
def dpos : D := .int .i64 0 9223372036854775807
def dint : D := .int .i64 (-9223372036854775808) 9223372036854775807
def ss : D := .mix [.int .i64 (-9223372036854775808) 9223372036854775807,.str,.str,.str,.str,.int .i64 (-9223372036854775808) 9223372036854775807,.int .i64 (-9223372036854775808) 9223372036854775807,.int .i64 (-9223372036854775808) 9223372036854775807,.bool,.int .i64 (-9223372036854775808) 9223372036854775807]
def lss : BD := .rd [.int .i64 (-9223372036854775808) 9223372036854775807,.str,.str,.str,.str,.int .i64 (-9223372036854775808) 9223372036854775807,.int .i64 (-9223372036854775808) 9223372036854775807,.int .i64 (-9223372036854775808) 9223372036854775807,.bool,.int .i64 (-9223372036854775808) 9223372036854775807]
def oss : BD := .ow [.int .i64 (-9223372036854775808) 9223372036854775807,.str,.str,.str,.str,.int .i64 (-9223372036854775808) 9223372036854775807,.int .i64 (-9223372036854775808) 9223372036854775807,.int .i64 (-9223372036854775808) 9223372036854775807,.bool,.int .i64 (-9223372036854775808) 9223372036854775807] 26
def k_ibs : Con := ⟨113,73,[.str,du8],[didx]⟩
def k_tlb : Con := ⟨76,36,[.str,du8],[.str]⟩
def li_tlb : FuncId -> Nat -> Option LoopI := fun f r => match f,r with
 | 76,1 => some ⟨[1],[(0,0,0)],[],[],[],[],[]⟩
 | _,_ => none
def lsh_tlb : Nat -> List Nat := fun n => [1]
def k_trb : Con := ⟨77,37,[.str,du8],[.str]⟩
def li_trb : FuncId -> Nat -> Option LoopI := fun f r => match f,r with
 | 77,1 => some ⟨[1],[(0,0,0)],[],[],[],[],[]⟩
 | _,_ => none
def lsh_trb : Nat -> List Nat := fun n => [1]
def k_tsp : Con := ⟨61,120,[.str,ksp],[.str]⟩
def k_tdot : Con := ⟨61,121,[.str,kdot],[.str]⟩
def k_cdot : Con := ⟨65,127,[.str,kdot],[.bool]⟩
def k_tdm : Con := ⟨61,122,[.str,kdm],[.str]⟩
def li_tdm : FuncId -> Nat -> Option LoopI := fun f r => match f,r with
 | 79,1 => some ⟨[1],[(0,0,0)],[],[],[],[],[]⟩
 | 80,1 => some ⟨[1],[(0,0,0)],[],[],[],[],[]⟩
 | _,_ => none
def lsh_tdm : Nat -> List Nat := fun n => [1]
def k_cutat : Con := ⟨62,125,[.str,kat],[.str,.str,.bool]⟩
def k_cutcol : Con := ⟨62,126,[.str,kcol],[.str,.str,.bool]⟩
def k_only : Con := ⟨84,44,[.str,.str],[.bool]⟩
def li_only : FuncId -> Nat -> Option LoopI := fun f r => match f,r with
 | 84,2 => some ⟨[0,1,7],[(8,0,9223372036854775807)],[],[],[],[],[]⟩
 | _,_ => none
def lsh_only : Nat -> List Nat := fun n => [1]
def k_ionly : Con := ⟨105,65,[.str,.str],[.bool]⟩
def li_ionly : FuncId -> Nat -> Option LoopI := fun f r => match f,r with
 | 105,2 => some ⟨[0,1,7],[(8,0,9223372036854775807)],[],[],[],[],[]⟩
 | _,_ => none
def lsh_ionly : Nat -> List Nat := fun n => [1]
def k_low : Con := ⟨67,28,[.str],[.str]⟩
def li_low : FuncId -> Nat -> Option LoopI := fun f r => match f,r with
 | 67,3 => some ⟨[3,8,9],[(10,0,9223372036854775807)],[(0,0,0,0)],[],[],[],[]⟩
 | _,_ => none
def lsh_low : Nat -> List Nat := fun n => [1,1]
def k_rlow : Con := ⟨74,17,[.str],[.str]⟩
def li_rlow : FuncId -> Nat -> Option LoopI := fun f r => match f,r with
 | 74,3 => some ⟨[3],[(4,0,9223372036854775807)],[(0,0,0,0)],[],[],[],[]⟩
 | _,_ => none
def lsh_rlow : Nat -> List Nat := fun n => [1,1]
def k_rhas : Con := ⟨73,31,[.str,du8],[.bool]⟩
def li_rhas : FuncId -> Nat -> Option LoopI := fun f r => match f,r with
 | 73,2 => some ⟨[0,1],[(5,0,9223372036854775807)],[],[],[],[],[]⟩
 | _,_ => none
def lsh_rhas : Nat -> List Nat := fun n => [1]
def k_cdd : Con := ⟨65,128,[.str,kdd],[.bool]⟩
def q_cdd : QCon := ⟨k_cdd,41⟩
def k_thost : Con := ⟨61,123,[.str,khost],[.str]⟩
def li_thost : FuncId -> Nat -> Option LoopI := fun f r => match f,r with
 | 79,1 => some ⟨[1],[(0,0,0)],[],[],[],[],[]⟩
 | 80,1 => some ⟨[1],[(0,0,0)],[],[],[],[],[]⟩
 | _,_ => none
def lsh_thost : Nat -> List Nat := fun n => [1]
def k_tdig : Con := ⟨61,124,[.str,kdig],[.str]⟩
def li_tdig : FuncId -> Nat -> Option LoopI := fun f r => match f,r with
 | 79,1 => some ⟨[1],[(0,0,0)],[],[],[],[],[]⟩
 | 80,1 => some ⟨[1],[(0,0,0)],[],[],[],[],[]⟩
 | _,_ => none
def lsh_tdig : Nat -> List Nat := fun n => [1]
def k_host : Con := ⟨87,47,[.str],[.bool]⟩
def k_server : Con := ⟨66,27,[.str],[.bool]⟩
def k_local : Con := ⟨63,24,[.str],[.bool]⟩
def k_rlocal : Con := ⟨71,29,[.str],[.bool]⟩
def li_rlocal : FuncId -> Nat -> Option LoopI := fun f r => match f,r with
 | 71,5 => some ⟨[0,3],[(4,0,9223372036854775807)],[],[],[],[],[]⟩
 | 71,10 => some ⟨[0,3,4,5],[(7,0,9223372036854775807)],[],[6],[],[],[]⟩
 | _,_ => none
def lsh_rlocal : Nat -> List Nat := fun n => cond (Nat.beq n 3) [1] [1,1]
def k_small : Con := ⟨95,50,[du8],[.bool]⟩
def k_great : Con := ⟨96,51,[du8],[.bool]⟩
def k_digit : Con := ⟨97,52,[du8],[.bool]⟩
def k_rhost : Con := ⟨72,30,[.str],[.bool]⟩
def li_rhost : FuncId -> Nat -> Option LoopI := fun f r => match f,r with
 | 72,4 => some ⟨[0],[(3,0,9223372036854775807)],[],[],[],[],[]⟩
 | _,_ => none
def lsh_rhost : Nat -> List Nat := fun n => [1]
def k_rcountry : Con := ⟨75,35,[.str],[.str,.bool,.bool]⟩
def k_rphone : Con := ⟨60,13,[.str,.str],[.str,derr]⟩
def q_rphone : QCon := ⟨k_rphone,44⟩
def li_rphone : FuncId -> Nat -> Option LoopI := fun f r => match f,r with
 | 60,7 => some ⟨[0,1,6,7,8],[(9,0,0),(11,0,9223372036854775807)],[],[10],[],[],[]⟩
 | _,_ => none
def lsh_rphone : Nat -> List Nat := fun n => [1,1,1]
def k_remail : Con := ⟨59,11,[.str],[.str,derr]⟩
def li_remail : FuncId -> Nat -> Option LoopI := fun f r => match f,r with
 | 59,1 => some ⟨[],[(0,0,0)],[],[],[],[],[]⟩
 | 59,3 => some ⟨[],[(0,0,0)],[],[],[],[],[]⟩
 | 59,6 => some ⟨[0],[(4,0,9223372036854775807)],[],[],[],[],[]⟩
 | _,_ => none
def lsh_remail : Nat -> List Nat := fun n => [1]
def k_email : Con := ⟨56,10,[.str],[.str,derr]⟩
def k_country : Con := ⟨68,32,[.str],[aa,.bool]⟩
def k_bare : Con := ⟨69,33,[.str],[.str,.bool,.bool]⟩
def k_tpre : Con := ⟨70,34,[.str,.str],[.str]⟩
def k_phone : Con := ⟨57,12,[.str,.str],[.str,derr]⟩
def q_phone : QCon := ⟨k_phone,44⟩
def k_make : Con := ⟨51,15,[.str,.str],[aa,derr]⟩
def k_rmake : Con := ⟨54,18,[.str,.str],[aa,derr]⟩
def k_right : Con := ⟨38,16,[aa],[.bool]⟩
def k_rright : Con := ⟨48,19,[aa],[.bool]⟩
def k_print : Con := ⟨49,400,[.str],[.bool]⟩
def li_print : FuncId -> Nat -> Option LoopI := fun f r => match f,r with
 | 49,2 => some ⟨[0,5],[(6,0,9223372036854775807)],[],[],[],[],[]⟩
 | _,_ => none
def lsh_print : Nat -> List Nat := fun n => [1]
def k_secr : Con := ⟨37,401,[.str],[.bool]⟩
def li_secr : FuncId -> Nat -> Option LoopI := fun f r => match f,r with
 | 55,2 => some ⟨[0,1,7],[(8,0,9223372036854775807)],[],[],[],[],[]⟩
 | _,_ => none
def lsh_secr : Nat -> List Nat := fun n => [1]
def k_sright : Con := ⟨21,402,[ss],[.bool]⟩
def k_sRight : BCon := ⟨10,403,[lss],[.d .bool],0⟩
def li_sRight : FuncId -> Nat -> Option LoopI := fun f r => match f,r with
 | 10,4 => some ⟨[0,9,10],[(11,0,9223372036854775807)],[],[],[],[],[]⟩
 | 23,2 => some ⟨[0,1,7],[(8,0,9223372036854775807)],[],[],[],[],[]⟩
 | _,_ => none
def lsh_sRight : Nat -> List Nat := fun n => [1]
def k_splace : BCon := ⟨26,404,[lss,.d dint],[.d dpos,.d .bool],0⟩
def li_splace : FuncId -> Nat -> Option LoopI := fun f r => match f,r with
 | 42,3 => some ⟨[0,1,2,8],[(9,0,9223372036854775807),(10,0,9223372036854775807)],[],[],[],[],[]⟩
 | _,_ => none
def lsh_splace : Nat -> List Nat := fun n => [1,1]
def k_sover : Con := ⟨41,417,[ss,dint],[.bool]⟩
def k_sFind : BCon := ⟨16,405,[lss,.d dint],[.d ss,.d .bool],0⟩
def k_sopen : BCon := ⟨32,406,[lss,.d dint,.d ss],[.d dpos,.d derr],0⟩
def k_sShown : BCon := ⟨14,407,[lss,.d dint,.d ss],[.d aa,.d derr],0⟩
def k_sSubmit : BCon := ⟨12,408,[lss,.d dint,.d ss],[lss,.d derr],0⟩
def k_sprune : BCon := ⟨22,409,[lss,.d dint],[oss],66⟩
def li_sprune : FuncId -> Nat -> Option LoopI := fun f r => match f,r with
 | 23,2 => some ⟨[0,1,7],[(8,0,9223372036854775807)],[],[],[],[],[]⟩
 | 39,5 => some ⟨[0,1],[(5,0,9223372036854775807),(6,0,9223372036854775807)],[(3,0,0,0)],[],[],[],[]⟩
 | _,_ => none
def lsh_sprune : Nat -> List Nat := fun n => cond (Nat.beq n 22) [1,1,1] [1]
def k_sPrune : BCon := ⟨18,410,[lss,.d dint],[oss],0⟩
def k_sins : ICon := ⟨29,411,[.int .i64 (-9223372036854775808) 9223372036854775807,.str,.str,.str,.str,.int .i64 (-9223372036854775808) 9223372036854775807,.int .i64 (-9223372036854775808) 9223372036854775807,.int .i64 (-9223372036854775808) 9223372036854775807,.bool,.int .i64 (-9223372036854775808) 9223372036854775807],26,[.d dpos,lss],51⟩
def k_sReq : BCon := ⟨7,412,[lss,.d ss],[lss,.d dint,.d .bool,.d derr],0⟩
def li_sReq : FuncId -> Nat -> Option LoopI := fun f r => match f,r with
 | 23,2 => some ⟨[0,1,7],[(8,0,9223372036854775807)],[],[],[],[],[]⟩
 | _,_ => none
def lsh_sReq : Nat -> List Nat := fun n => [1]
def k_sask : Con := ⟨20,418,[],[ss]⟩
def k_salive : BCon := ⟨5,413,[],[.d .bool],0⟩
def k_ySame : BCon := ⟨9,416,[lss,lss],[.d .bool],0⟩
def li_ySame : FuncId -> Nat -> Option LoopI := fun f r => match f,r with
 | 9,4 => some ⟨[0,1],[(5,0,9223372036854775807)],[],[],[],[],[]⟩
 | _,_ => none
def lsh_ySame : Nat -> List Nat := fun n => [1]
def k_xsec : Con := ⟨47,420,[.str],[.bool]⟩
def li_xsec : FuncId -> Nat -> Option LoopI := fun f r => match f,r with
 | 47,2 => some ⟨[0],[(3,0,9223372036854775807)],[],[],[],[],[]⟩
 | _,_ => none
def lsh_xsec : Nat -> List Nat := fun n => [1]
def k_xsr : Con := ⟨30,422,[ss],[.bool]⟩
def k_xsR : BCon := ⟨11,423,[lss],[.d .bool],0⟩
def li_xsR : FuncId -> Nat -> Option LoopI := fun f r => match f,r with
 | 11,4 => some ⟨[0],[(3,0,9223372036854775807)],[],[],[],[],[]⟩
 | 11,9 => some ⟨[0,3],[(4,0,9223372036854775807)],[],[],[],[],[]⟩
 | _,_ => none
def lsh_xsR : Nat -> List Nat := fun n => [1]
def k_xsP : BCon := ⟨19,424,[lss,.d dint],[oss],0⟩
def li_xsP : FuncId -> Nat -> Option LoopI := fun f r => match f,r with
 | 19,5 => some ⟨[0,1],[(6,0,9223372036854775807)],[],[],[(5,[.int .i64 (-9223372036854775808) 9223372036854775807,.str,.str,.str,.str,.int .i64 (-9223372036854775808) 9223372036854775807,.int .i64 (-9223372036854775808) 9223372036854775807,.int .i64 (-9223372036854775808) 9223372036854775807,.bool,.int .i64 (-9223372036854775808) 9223372036854775807],26)],[],[]⟩
 | _,_ => none
def lsh_xsP : Nat -> List Nat := fun n => [1,1,1,1]
def k_xsF : BCon := ⟨17,425,[lss,.d dint],[.d ss,.d .bool],0⟩
def li_xsF : FuncId -> Nat -> Option LoopI := fun f r => match f,r with
 | 17,2 => some ⟨[0,1,4],[(6,0,9223372036854775807)],[],[],[],[],[]⟩
 | _,_ => none
def lsh_xsF : Nat -> List Nat := fun n => [1]
def k_xsl : BCon := ⟨35,426,[lss,.d dint,.d ss],[.d didx],0⟩
def li_xsl : FuncId -> Nat -> Option LoopI := fun f r => match f,r with
 | 35,2 => some ⟨[0,1,5],[(7,0,9223372036854775807)],[],[],[],[],[]⟩
 | _,_ => none
def lsh_xsl : Nat -> List Nat := fun n => [1]
def k_xsS : BCon := ⟨13,427,[lss,.d dint,.d ss],[lss,.d derr],0⟩
def k_xsH : BCon := ⟨15,428,[lss,.d dint,.d ss],[.d aa,.d derr],0⟩
def k_xsQ : BCon := ⟨8,429,[lss,.d ss],[lss,.d dint,.d .bool,.d derr],0⟩
def li_xsQ : FuncId -> Nat -> Option LoopI := fun f r => match f,r with
 | 8,5 => some ⟨[0,3,8],[(9,0,9223372036854775807)],[],[],[],[],[]⟩
 | 8,14 => some ⟨[0,3,8],[(10,0,9223372036854775807),(11,0,9223372036854775807)],[],[],[],[],[]⟩
 | _,_ => none
def lsh_xsQ : Nat -> List Nat := fun n => cond (Nat.beq n 24) [1,1] [1]
def k_lssub : BCon := ⟨4,431,[lss,.d dint,.d ss],[.d .bool],0⟩
def sh : Nat -> List Nat × List Nat
 | 73 => ([1,1],[1])
 | 36 => ([1,1],[1])
 | 37 => ([1,1],[1])
 | 120 => ([1],[1])
 | 121 => ([1],[1])
 | 127 => ([1],[1])
 | 122 => ([1],[1])
 | 125 => ([1],[1,1,1])
 | 126 => ([1],[1,1,1])
 | 44 => ([1,1],[1])
 | 65 => ([1,1],[1])
 | 28 => ([1],[1])
 | 17 => ([1],[1])
 | 31 => ([1,1],[1])
 | 128 => ([1],[1])
 | 123 => ([1],[1])
 | 124 => ([1],[1])
 | 47 => ([1],[1])
 | 27 => ([1],[1])
 | 24 => ([1],[1])
 | 29 => ([1],[1])
 | 50 => ([1],[1])
 | 51 => ([1],[1])
 | 52 => ([1],[1])
 | 30 => ([1],[1])
 | 35 => ([1],[1,1,1])
 | 13 => ([1,1],[1,1])
 | 11 => ([1],[1,1])
 | 10 => ([1],[1,1])
 | 32 => ([1],[2,1])
 | 33 => ([1],[1,1,1])
 | 34 => ([1,1],[1])
 | 12 => ([1,1],[1,1])
 | 15 => ([1,1],[2,1])
 | 18 => ([1,1],[2,1])
 | 16 => ([2],[1])
 | 19 => ([2],[1])
 | 400 => ([1],[1])
 | 401 => ([1],[1])
 | 402 => ([10],[1])
 | 403 => ([1],[1])
 | 404 => ([1,1],[1,1])
 | 417 => ([10,1],[1])
 | 405 => ([1,1],[10,1])
 | 406 => ([1,1,10],[1,1])
 | 407 => ([1,1,10],[2,1])
 | 408 => ([1,1,10],[1,1])
 | 409 => ([1,1],[1])
 | 410 => ([1,1],[1])
 | 411 => ([1,1,1],[1])
 | 412 => ([1,10],[1,1,1,1])
 | 418 => ([],[10])
 | 413 => ([],[1])
 | 416 => ([1,1],[1])
 | 420 => ([1],[1])
 | 422 => ([10],[1])
 | 423 => ([1],[1])
 | 424 => ([1,1],[1])
 | 425 => ([1,1],[10,1])
 | 426 => ([1,1,10],[1])
 | 427 => ([1,1,10],[1,1])
 | 428 => ([1,1,10],[2,1])
 | 429 => ([1,10],[1,1,1,1])
 | 430 => ([1,10],[1])
 | 431 => ([1,1,10],[1])
 | _ => ([],[])
end Go.Ad
set_option maxRecDepth 100000
namespace Go.Ad
open Go Go.Rx Go.Proofs
theorem u_tlb (S K) : VcB sh lsh_tlb S K [1,1] (bdsL k_tlb.args) k_tlb.res (k_tlb.tree Tryz.prog [] (calQ [] []) li_tlb 600 6) = B_tlb S K := by kernel_rfl
theorem u_trb (S K) : VcB sh lsh_trb S K [1,1] (bdsL k_trb.args) k_trb.res (k_trb.tree Tryz.prog [] (calQ [] []) li_trb 600 6) = B_trb S K := by kernel_rfl
theorem u_tsp (S K) : VcB sh lsh_none S K [1] (bdsL k_tsp.args) k_tsp.res (k_tsp.tree Tryz.prog [] (calQ [] [k_tlb,k_trb]) li_none 600 6) = B_tsp S K := by kernel_rfl
theorem u_tdot (S K) : VcB sh lsh_none S K [1] (bdsL k_tdot.args) k_tdot.res (k_tdot.tree Tryz.prog [] (calQ [] [k_tlb,k_trb]) li_none 600 6) = B_tdot S K := by kernel_rfl
theorem u_cdot (S K) : VcB sh lsh_none S K [1] (bdsL k_cdot.args) k_cdot.res (k_cdot.tree Tryz.prog [] (calQ [] [k_ibs]) li_none 600 6) = B_cdot S K := by kernel_rfl
theorem u_tdm (S K) : VcB sh lsh_tdm S K [1] (bdsL k_tdm.args) k_tdm.res (k_tdm.tree Tryz.prog [] (calQ [] []) li_tdm 600 6) = B_tdm S K := by kernel_rfl
theorem u_cutat (S K) : VcB sh lsh_none S K [1] (bdsL k_cutat.args) k_cutat.res (k_cutat.tree Tryz.prog [] (calQ [] [k_ibs]) li_none 600 6) = B_cutat S K := by kernel_rfl
theorem u_cutcol (S K) : VcB sh lsh_none S K [1] (bdsL k_cutcol.args) k_cutcol.res (k_cutcol.tree Tryz.prog [] (calQ [] [k_ibs]) li_none 600 6) = B_cutcol S K := by kernel_rfl
theorem u_only (S K) : VcB sh lsh_only S K [1,1] (bdsL k_only.args) k_only.res (k_only.tree Tryz.prog [] (calQ [] [k_ibs]) li_only 600 6) = B_only S K := by kernel_rfl
theorem u_ionly (S K) : VcB sh lsh_ionly S K [1,1] (bdsL k_ionly.args) k_ionly.res (k_ionly.tree Tryz.prog [] (calQ [] [k_ibs]) li_ionly 600 6) = B_ionly S K := by kernel_rfl
theorem u_low (S K) : VcB sh lsh_low S K [1] (bdsL k_low.args) k_low.res (k_low.tree Tryz.prog [] (calQ [] []) li_low 600 6) = B_low S K := by kernel_rfl
theorem u_rlow (S K) : VcB sh lsh_rlow S K [1] (bdsL k_rlow.args) k_rlow.res (k_rlow.tree Tryz.prog [] (calQ [] []) li_rlow 600 6) = B_rlow S K := by kernel_rfl
theorem u_rhas (S K) : VcB sh lsh_rhas S K [1,1] (bdsL k_rhas.args) k_rhas.res (k_rhas.tree Tryz.prog [] (calQ [] []) li_rhas 600 6) = B_rhas S K := by kernel_rfl
theorem u_thost (S K) : VcB sh lsh_thost S K [1] (bdsL k_thost.args) k_thost.res (k_thost.tree Tryz.prog [] (calQ [] []) li_thost 600 6) = B_thost S K := by kernel_rfl
theorem u_tdig (S K) : VcB sh lsh_tdig S K [1] (bdsL k_tdig.args) k_tdig.res (k_tdig.tree Tryz.prog [] (calQ [] []) li_tdig 600 6) = B_tdig S K := by kernel_rfl
theorem u_host (S K) : VcB sh lsh_none S K [1] (bdsL k_host.args) k_host.res (k_host.tree Tryz.prog [] (calQ [q_cdd] [k_thost,k_tdm,k_ionly]) li_none 600 6) = B_host S K := by kernel_rfl
theorem u_server (S K) : VcB sh lsh_none S K [1] (bdsL k_server.args) k_server.res (k_server.tree Tryz.prog [] (calQ [] [k_cutcol,k_host,k_tdig,k_ionly]) li_none 600 6) = B_server S K := by kernel_rfl
theorem u_local (S K) : VcB sh lsh_none S K [1] (bdsL k_local.args) k_local.res (k_local.tree Tryz.prog [] (calQ [q_cdd] [k_only,k_tdot]) li_none 600 6) = B_local S K := by kernel_rfl
theorem u_rlocal (S K) : VcB sh lsh_rlocal S K [1] (bdsL k_rlocal.args) k_rlocal.res (k_rlocal.tree Tryz.prog [] (calQ [] []) li_rlocal 600 6) = B_rlocal S K := by kernel_rfl
theorem u_small (S K) : VcB sh lsh_none S K [1] (bdsL k_small.args) k_small.res (k_small.tree Tryz.prog [] (calQ [] []) li_none 600 6) = B_small S K := by kernel_rfl
theorem u_great (S K) : VcB sh lsh_none S K [1] (bdsL k_great.args) k_great.res (k_great.tree Tryz.prog [] (calQ [] []) li_none 600 6) = B_great S K := by kernel_rfl
theorem u_digit (S K) : VcB sh lsh_none S K [1] (bdsL k_digit.args) k_digit.res (k_digit.tree Tryz.prog [] (calQ [] []) li_none 600 6) = B_digit S K := by kernel_rfl
theorem u_rhost (S K) : VcB sh lsh_rhost S K [1] (bdsL k_rhost.args) k_rhost.res (k_rhost.tree Tryz.prog [] (calQ [] [k_small,k_great,k_digit]) li_rhost 600 6) = B_rhost S K := by kernel_rfl
end Go.Ad
set_option maxRecDepth 100000
namespace Go.Ad
open Go Go.Rx Go.Proofs
theorem u_rcountry (S K) : VcB sh lsh_none S K [1] (bdsL k_rcountry.args) k_rcountry.res (k_rcountry.tree Tryz.prog [] (calQ [] []) li_none 600 6) = B_rcountry S K := by kernel_rfl
theorem u_rphone (S K) : VcB sh lsh_rphone S K [1,1] (bdsL k_rphone.args) k_rphone.res (q_rphone.tree Tryz.prog [] (calQ [] [k_rcountry]) li_rphone 600 6) = B_rphone S K := by kernel_rfl
theorem u_remail (S K) : VcB sh lsh_remail S K [1] (bdsL k_remail.args) k_remail.res (k_remail.tree Tryz.prog [] (calQ [] [k_rlocal,k_rhost,k_rhas,k_rlow]) li_remail 600 6) = B_remail S K := by kernel_rfl
theorem u_email (S K) : VcB sh lsh_none S K [1] (bdsL k_email.args) k_email.res (k_email.tree Tryz.prog [] (calQ [] [k_tsp,k_cutat,k_local,k_cdot,k_server,k_low,k_ibs]) li_none 600 6) = B_email S K := by kernel_rfl
theorem u_tpre (S K) : VcB sh lsh_none S K [1,1] (bdsL k_tpre.args) k_tpre.res (k_tpre.tree Tryz.prog [] (calQ [] []) li_none 600 6) = B_tpre S K := by kernel_rfl
theorem u_phone (S K) : VcB sh lsh_none S K [1,1] (bdsL k_phone.args) k_phone.res (q_phone.tree Tryz.prog [] (calQ [] [k_country,k_bare,k_tpre]) li_none 600 6) = B_phone S K := by kernel_rfl
theorem u_make (S K) : VcB sh lsh_none S K [1,1] (bdsL k_make.args) k_make.res (k_make.tree Tryz.prog [] (calQ [q_phone] [k_email]) li_none 600 6) = B_make S K := by kernel_rfl
theorem u_rmake (S K) : VcB sh lsh_none S K [1,1] (bdsL k_rmake.args) k_rmake.res (k_rmake.tree Tryz.prog [] (calQ [q_rphone] [k_remail]) li_none 600 6) = B_rmake S K := by kernel_rfl
theorem u_right (S K) : VcB sh lsh_none S K [2] (bdsL k_right.args) k_right.res (k_right.tree Tryz.prog [] (calQ [] [k_make]) li_none 600 6) = B_right S K := by kernel_rfl
theorem u_rright (S K) : VcB sh lsh_none S K [2] (bdsL k_rright.args) k_rright.res (k_rright.tree Tryz.prog [] (calQ [] [k_rmake]) li_none 600 6) = B_rright S K := by kernel_rfl
theorem u_print (S K) : VcB sh lsh_print S K [1] (bdsL k_print.args) k_print.res (k_print.tree Tryz.prog [] (calQ [] []) li_print 600 6) = B_print S K := by kernel_rfl
theorem u_secr (S K) : VcB sh lsh_secr S K [1] (bdsL k_secr.args) k_secr.res (k_secr.tree Tryz.prog [] (calQ [] [k_print]) li_secr 600 6) = B_secr S K := by kernel_rfl
theorem u_sright (S K) : VcB sh lsh_none S K [10] (bdsL k_sright.args) k_sright.res (k_sright.tree Tryz.prog [] (calQ [] [k_secr,k_right]) li_none 600 6) = B_sright S K := by kernel_rfl
theorem u_sRight (S K) : VcF sh lsh_sRight S K [1] (bbds k_sRight.args) k_sRight.res (k_sRight.tree (bcOf []) Tryz.prog [] (calQ [] [k_sright]) li_sRight 600 6) = B_sRight S K := by kernel_rfl
theorem u_splace (S K) : VcF sh lsh_splace S K [1,1] (bbds k_splace.args) k_splace.res (k_splace.tree (bcOf []) Tryz.prog [] (calQ [] []) li_splace 600 6) = B_splace S K := by kernel_rfl
theorem u_sover (S K) : VcB sh lsh_none S K [10,1] (bdsL k_sover.args) k_sover.res (k_sover.tree Tryz.prog [] (calQ [] []) li_none 600 6) = B_sover S K := by kernel_rfl
theorem u_sFind (S K) : VcF sh lsh_none S K [1,1] (bbds k_sFind.args) k_sFind.res (k_sFind.tree (bcOf [k_sRight,k_splace]) Tryz.prog [] (calQ [] []) li_none 600 6) = B_sFind S K := by kernel_rfl
theorem u_sopen (S K) : VcF sh lsh_none S K [1,1,10] (bbds k_sopen.args) k_sopen.res (k_sopen.tree (bcOf [k_sRight,k_splace]) Tryz.prog [] (calQ [] [k_sover]) li_none 600 6) = B_sopen S K := by kernel_rfl
theorem u_sShown (S K) : VcF sh lsh_none S K [1,1,10] (bbds k_sShown.args) k_sShown.res (k_sShown.tree (bcOf [k_sopen]) Tryz.prog [] (calQ [] []) li_none 600 6) = B_sShown S K := by kernel_rfl
theorem u_sSubmit (S K) : VcF sh lsh_none S K [1,1,10] (bbds k_sSubmit.args) k_sSubmit.res (k_sSubmit.tree (bcOf [k_sopen]) Tryz.prog [] (calQ [] []) li_none 600 6) = B_sSubmit S K := by kernel_rfl
theorem u_sprune (S K) : VcF sh lsh_sprune S K [1,1] (bbds k_sprune.args) k_sprune.res (k_sprune.tree (bcOf []) Tryz.prog [] (calQ [] []) li_sprune 600 6) = B_sprune S K := by kernel_rfl
theorem u_sPrune (S K) : VcF sh lsh_none S K [1,1] (bbds k_sPrune.args) k_sPrune.res (k_sPrune.tree (bcOf [k_sRight,k_sprune]) Tryz.prog [] (calQ [] []) li_none 600 6) = B_sPrune S K := by kernel_rfl
end Go.Ad
set_option maxRecDepth 100000
namespace Go.Ad
open Go Go.Rx Go.Proofs
theorem u_sReq (S K) : VcF sh lsh_sReq S K [1,10] (bbds k_sReq.args) k_sReq.res (k_sReq.tree (icOf [k_sins] (bcOf [k_sRight,k_sprune,k_splace])) Tryz.prog [] (calQ [] [k_sright]) li_sReq 600 6) = B_sReq S K := by kernel_rfl
theorem u_sask (S K) : VcB sh lsh_none S K [] (bdsL k_sask.args) k_sask.res (k_sask.tree Tryz.prog [] (calQ [] []) li_none 600 6) = B_sask S K := by kernel_rfl
theorem u_salive (S K) : VcF sh lsh_none S K [] (bbds k_salive.args) k_salive.res (k_salive.tree (bcOf [k_sReq,k_sSubmit,k_sShown]) Tryz.prog [] (calQ [] [k_sask]) li_none 600 6) = B_salive S K := by kernel_rfl
theorem u_ySame (S K) : VcF sh lsh_ySame S K [1,1] (bbds k_ySame.args) k_ySame.res (k_ySame.tree (bcOf []) Tryz.prog [] (calQ [] []) li_ySame 600 6) = B_ySame S K := by kernel_rfl
theorem u_xsec (S K) : VcB sh lsh_xsec S K [1] (bdsL k_xsec.args) k_xsec.res (k_xsec.tree Tryz.prog [] (calQ [] []) li_xsec 600 6) = B_xsec S K := by kernel_rfl
theorem u_xsr (S K) : VcB sh lsh_none S K [10] (bdsL k_xsr.args) k_xsr.res (k_xsr.tree Tryz.prog [] (calQ [] [k_xsec,k_rright]) li_none 600 6) = B_xsr S K := by kernel_rfl
theorem u_xsR (S K) : VcF sh lsh_xsR S K [1] (bbds k_xsR.args) k_xsR.res (k_xsR.tree (bcOf []) Tryz.prog [] (calQ [] [k_xsr]) li_xsR 600 6) = B_xsR S K := by kernel_rfl
theorem u_xsP (S K) : VcF sh lsh_xsP S K [1,1] (bbds k_xsP.args) k_xsP.res (k_xsP.tree (bcOf [k_xsR]) Tryz.prog [] (calQ [] []) li_xsP 600 6) = B_xsP S K := by kernel_rfl
theorem u_xsF (S K) : VcF sh lsh_xsF S K [1,1] (bbds k_xsF.args) k_xsF.res (k_xsF.tree (bcOf [k_xsR]) Tryz.prog [] (calQ [] []) li_xsF 600 6) = B_xsF S K := by kernel_rfl
theorem u_xsl (S K) : VcF sh lsh_xsl S K [1,1,10] (bbds k_xsl.args) k_xsl.res (k_xsl.tree (bcOf []) Tryz.prog [] (calQ [] []) li_xsl 600 6) = B_xsl S K := by kernel_rfl
theorem u_xsS (S K) : VcF sh lsh_none S K [1,1,10] (bbds k_xsS.args) k_xsS.res (k_xsS.tree (bcOf [k_xsR,k_xsl]) Tryz.prog [] (calQ [] []) li_none 600 6) = B_xsS S K := by kernel_rfl
theorem u_xsH (S K) : VcF sh lsh_none S K [1,1,10] (bbds k_xsH.args) k_xsH.res (k_xsH.tree (bcOf [k_xsR,k_xsl]) Tryz.prog [] (calQ [] []) li_none 600 6) = B_xsH S K := by kernel_rfl
theorem u_xsQ (S K) : VcF sh lsh_xsQ S K [1,10] (bbds k_xsQ.args) k_xsQ.res (k_xsQ.tree (bcOf [k_xsR,k_xsP]) Tryz.prog [] (calQ [] [k_xsr]) li_xsQ 600 6) = B_xsQ S K := by kernel_rfl
end Go.Ad
set_option maxRecDepth 100000
namespace Go.Ad
open Go Go.Rx Go.Proofs
theorem u_lssub (S K) : VcF sh lsh_none S K [1,1,10] (bbds k_lssub.args) k_lssub.res (k_lssub.tree (bcOf [k_salive,k_sSubmit,k_xsS,k_sShown,k_xsH,k_sFind,k_xsF,k_ySame,k_sPrune,k_xsP]) Tryz.prog [] (calQ [] []) li_none 600 6) = B_lssub S K := by kernel_rfl
end Go.Ad
set_option linter.unusedVariables false
set_option maxRecDepth 100000
namespace Go.Ad
open Go Go.Rx Go.Proofs
abbrev OC (wb : World) (k : Con) : Prop := k.OkF Tryz.prog wb (flatS sh SB k.id)
abbrev OQ (wb : World) (q : QCon) : Prop := q.Ok Tryz.prog wb (flatS sh SB q.c.id)
abbrev OB (wb : World) (k : BCon) : Prop := k.Ok Tryz.prog wb (flatS sh SB k.id)
abbrev OI (wb : World) (k : ICon) : Prop := k.Ok Tryz.prog wb (flatS sh SB k.id)
theorem mx : Tryz.prog.follows .mixedOrders = true := by kernel_rfl
theorem nil0 {α : Type} {p : α -> Prop} : ∀ x ∈ ([] : List α),p x := fun _ h => by cases h
theorem cons0 {α : Type} {p : α -> Prop} {a : α} {l : List α} (h : p a) (hl : ∀ x ∈ l,p x) : ∀ x ∈ a :: l,p x := fun x hx => by
 rcases List.mem_cons.1 hx with rfl | hx
 ·exact h
 ·exact hl x hx
theorem rv1 {a0 b0 : Int} (h0 : sOf a0 = sOf b0) : resVal [.str] [a0] = resVal [.str] [b0] := by
 show (.string (bA (sOf a0)) : Value) = (.string (bA (sOf b0)) : Value)
 rw [h0]
theorem rv2 {a0 b0 : Int} (h0 : a0 = b0) : resVal [.bool] [a0] = resVal [.bool] [b0] := by
 show (.bool (decide (a0 = 1)) : Value) = (.bool (decide (b0 = 1)) : Value)
 rw [h0]
theorem rv3 {a0 a1 a2 b0 b1 b2 : Int} (h0 : sOf a0 = sOf b0) (h1 : sOf a1 = sOf b1) (h2 : a2 = b2) : resVal [.str,.str,.bool] [a0,a1,a2] = resVal [.str,.str,.bool] [b0,b1,b2] := by
 show (.tuple #[.string (bA (sOf a0)),.string (bA (sOf a1)),.bool (decide (a2 = 1))] : Value) = (.tuple #[.string (bA (sOf b0)),.string (bA (sOf b1)),.bool (decide (b2 = 1))] : Value)
 rw [h0,h1,h2]
theorem rv4 {a0 a1 a2 b0 b1 b2 : Int} (h0 : sOf a0 = sOf b0) (h1 : a1 = b1) (h2 : a2 = b2) : resVal [.str,.bool,.bool] [a0,a1,a2] = resVal [.str,.bool,.bool] [b0,b1,b2] := by
 show (.tuple #[.string (bA (sOf a0)),.bool (decide (a1 = 1)),.bool (decide (a2 = 1))] : Value) = (.tuple #[.string (bA (sOf b0)),.bool (decide (b1 = 1)),.bool (decide (b2 = 1))] : Value)
 rw [h0,h1,h2]
theorem rv5 {a0 a1 b0 b1 : Int} (h0 : sOf a0 = sOf b0) (h1 : a1 = b1) : resVal [.str,.int .i64 0 21] [a0,a1] = resVal [.str,.int .i64 0 21] [b0,b1] := by
 show (.tuple #[.string (bA (sOf a0)),.int .i64 a1] : Value) = (.tuple #[.string (bA (sOf b0)),.int .i64 b1] : Value)
 rw [h0,h1]
theorem rv7 {a0 a1 a2 b0 b1 b2 : Int} (h0 : sOf a0 = sOf b0) (h1 : sOf a1 = sOf b1) (h2 : a2 = b2) : resVal [.mix [.str,.str],.int .i64 0 21] [a0,a1,a2] = resVal [.mix [.str,.str],.int .i64 0 21] [b0,b1,b2] := by
 show (.tuple #[.agg #[.string (bA (sOf a0)),.string (bA (sOf a1))],.int .i64 a2] : Value) = (.tuple #[.agg #[.string (bA (sOf b0)),.string (bA (sOf b1))],.int .i64 b2] : Value)
 rw [h0,h1,h2]
theorem rv8 {a0 a1 a2 a3 a4 a5 a6 a7 a8 a9 b0 b1 b2 b3 b4 b5 b6 b7 b8 b9 : Int} (h0 : a0 = b0) (h1 : sOf a1 = sOf b1) (h2 : sOf a2 = sOf b2) (h3 : sOf a3 = sOf b3) (h4 : sOf a4 = sOf b4) (h5 : a5 = b5) (h6 : a6 = b6) (h7 : a7 = b7) (h8 : a8 = b8) (h9 : a9 = b9) : resVal [.mix [.int .i64 (-9223372036854775808) 9223372036854775807,.str,.str,.str,.str,.int .i64 (-9223372036854775808) 9223372036854775807,.int .i64 (-9223372036854775808) 9223372036854775807,.int .i64 (-9223372036854775808) 9223372036854775807,.bool,.int .i64 (-9223372036854775808) 9223372036854775807]] [a0,a1,a2,a3,a4,a5,a6,a7,a8,a9] = resVal [.mix [.int .i64 (-9223372036854775808) 9223372036854775807,.str,.str,.str,.str,.int .i64 (-9223372036854775808) 9223372036854775807,.int .i64 (-9223372036854775808) 9223372036854775807,.int .i64 (-9223372036854775808) 9223372036854775807,.bool,.int .i64 (-9223372036854775808) 9223372036854775807]] [b0,b1,b2,b3,b4,b5,b6,b7,b8,b9] := by
 show (.agg #[.int .i64 a0,.string (bA (sOf a1)),.string (bA (sOf a2)),.string (bA (sOf a3)),.string (bA (sOf a4)),.int .i64 a5,.int .i64 a6,.int .i64 a7,.bool (decide (a8 = 1)),.int .i64 a9] : Value) = (.agg #[.int .i64 b0,.string (bA (sOf b1)),.string (bA (sOf b2)),.string (bA (sOf b3)),.string (bA (sOf b4)),.int .i64 b5,.int .i64 b6,.int .i64 b7,.bool (decide (b8 = 1)),.int .i64 b9] : Value)
 rw [h0,h1,h2,h3,h4,h5,h6,h7,h8,h9]
theorem uv_tlb : OneV k_tlb.args k_tlb.res (flatS sh SB 36) := by
 intro zs rs rs' hz hr hr' h h'
 match zs,rs,rs',hz,hr,hr',h,h' with
 | [z0,z1],[a0],[b0],_,_,_,h,h' =>
  exact rv1 (Eq.trans h (Eq.symm h'))
theorem ok_tlb {wb : World} (hg : GOk [] ⟨wb,wb,fun _ => False,fun _ => False⟩)  : OC wb k_tlb := by
 refine Con.Ok.f (ok_vcb (SB := SB) (sh := sh) (c := k_tlb) (cal := (calQ [] [])) (li := li_tlb) (rounds := 600) (d := 6) (lsh := lsh_tlb) (lens := [1,1]) mx (fun _ _ _ => calQ_ok nil0 nil0) hg (by kernel_rfl) uv_tlb rfl rfl ?_)
 rw [u_tlb]
 exact p_tlb
theorem uv_trb : OneV k_trb.args k_trb.res (flatS sh SB 37) := by
 intro zs rs rs' hz hr hr' h h'
 match zs,rs,rs',hz,hr,hr',h,h' with
 | [z0,z1],[a0],[b0],_,_,_,h,h' =>
  exact rv1 (Eq.trans h (Eq.symm h'))
theorem ok_trb {wb : World} (hg : GOk [] ⟨wb,wb,fun _ => False,fun _ => False⟩)  : OC wb k_trb := by
 refine Con.Ok.f (ok_vcb (SB := SB) (sh := sh) (c := k_trb) (cal := (calQ [] [])) (li := li_trb) (rounds := 600) (d := 6) (lsh := lsh_trb) (lens := [1,1]) mx (fun _ _ _ => calQ_ok nil0 nil0) hg (by kernel_rfl) uv_trb rfl rfl ?_)
 rw [u_trb]
 exact p_trb
theorem uv_tsp : OneV k_tsp.args k_tsp.res (flatS sh SB 120) := by
 intro zs rs rs' hz hr hr' h h'
 match zs,rs,rs',hz,hr,hr',h,h' with
 | [z0],[a0],[b0],_,_,_,h,h' =>
  exact rv1 (Eq.trans h (Eq.symm h'))
theorem ok_tsp {wb : World} (hg : GOk [] ⟨wb,wb,fun _ => False,fun _ => False⟩) (h_tlb : OC wb k_tlb) (h_trb : OC wb k_trb) : OC wb k_tsp := by
 refine Con.Ok.f (ok_vcb (SB := SB) (sh := sh) (c := k_tsp) (cal := (calQ [] [k_tlb,k_trb])) (li := li_none) (rounds := 600) (d := 6) (lsh := lsh_none) (lens := [1]) mx (fun _ _ _ => calQ_ok nil0 (cons0 h_tlb (cons0 h_trb nil0))) hg (by kernel_rfl) uv_tsp rfl rfl ?_)
 rw [u_tsp]
 exact p_tsp
theorem uv_tdot : OneV k_tdot.args k_tdot.res (flatS sh SB 121) := by
 intro zs rs rs' hz hr hr' h h'
 match zs,rs,rs',hz,hr,hr',h,h' with
 | [z0],[a0],[b0],_,_,_,h,h' =>
  exact rv1 (Eq.trans h (Eq.symm h'))
theorem ok_tdot {wb : World} (hg : GOk [] ⟨wb,wb,fun _ => False,fun _ => False⟩) (h_tlb : OC wb k_tlb) (h_trb : OC wb k_trb) : OC wb k_tdot := by
 refine Con.Ok.f (ok_vcb (SB := SB) (sh := sh) (c := k_tdot) (cal := (calQ [] [k_tlb,k_trb])) (li := li_none) (rounds := 600) (d := 6) (lsh := lsh_none) (lens := [1]) mx (fun _ _ _ => calQ_ok nil0 (cons0 h_tlb (cons0 h_trb nil0))) hg (by kernel_rfl) uv_tdot rfl rfl ?_)
 rw [u_tdot]
 exact p_tdot
theorem uv_cdot : OneV k_cdot.args k_cdot.res (flatS sh SB 127) := by
 intro zs rs rs' hz hr hr' h h'
 match zs,rs,rs',hz,hr,hr',h,h' with
 | [z0],[a0],[b0],_,_,_,h,h' =>
  exact rv2 (Eq.trans h (Eq.symm h'))
theorem ok_cdot {wb : World} (hg : GOk [] ⟨wb,wb,fun _ => False,fun _ => False⟩) (h_ibs : OC wb k_ibs) : OC wb k_cdot := by
 refine Con.Ok.f (ok_vcb (SB := SB) (sh := sh) (c := k_cdot) (cal := (calQ [] [k_ibs])) (li := li_none) (rounds := 600) (d := 6) (lsh := lsh_none) (lens := [1]) mx (fun _ _ _ => calQ_ok nil0 (cons0 h_ibs nil0)) hg (by kernel_rfl) uv_cdot rfl rfl ?_)
 rw [u_cdot]
 exact p_cdot
theorem uv_tdm : OneV k_tdm.args k_tdm.res (flatS sh SB 122) := by
 intro zs rs rs' hz hr hr' h h'
 match zs,rs,rs',hz,hr,hr',h,h' with
 | [z0],[a0],[b0],_,_,_,h,h' =>
  exact rv1 (Eq.trans h (Eq.symm h'))
theorem ok_tdm {wb : World} (hg : GOk [] ⟨wb,wb,fun _ => False,fun _ => False⟩)  : OC wb k_tdm := by
 refine Con.Ok.f (ok_vcb (SB := SB) (sh := sh) (c := k_tdm) (cal := (calQ [] [])) (li := li_tdm) (rounds := 600) (d := 6) (lsh := lsh_tdm) (lens := [1]) mx (fun _ _ _ => calQ_ok nil0 nil0) hg (by kernel_rfl) uv_tdm rfl rfl ?_)
 rw [u_tdm]
 exact p_tdm
theorem uv_cutat : OneV k_cutat.args k_cutat.res (flatS sh SB 125) := by
 intro zs rs rs' hz hr hr' h h'
 match zs,rs,rs',hz,hr,hr',h,h' with
 | [z0],[a0,a1,a2],[b0,b1,b2],_,_,_,h,h' =>
  have e : (sOf a0,sOf a1,a2) = (sOf b0,sOf b1,b2) := Eq.trans h (Eq.symm h')
  simp only [Prod.mk.injEq] at e
  exact rv3 e.1 e.2.1 e.2.2
theorem ok_cutat {wb : World} (hg : GOk [] ⟨wb,wb,fun _ => False,fun _ => False⟩) (h_ibs : OC wb k_ibs) : OC wb k_cutat := by
 refine Con.Ok.f (ok_vcb (SB := SB) (sh := sh) (c := k_cutat) (cal := (calQ [] [k_ibs])) (li := li_none) (rounds := 600) (d := 6) (lsh := lsh_none) (lens := [1]) mx (fun _ _ _ => calQ_ok nil0 (cons0 h_ibs nil0)) hg (by kernel_rfl) uv_cutat rfl rfl ?_)
 rw [u_cutat]
 exact p_cutat
theorem uv_cutcol : OneV k_cutcol.args k_cutcol.res (flatS sh SB 126) := by
 intro zs rs rs' hz hr hr' h h'
 match zs,rs,rs',hz,hr,hr',h,h' with
 | [z0],[a0,a1,a2],[b0,b1,b2],_,_,_,h,h' =>
  have e : (sOf a0,sOf a1,a2) = (sOf b0,sOf b1,b2) := Eq.trans h (Eq.symm h')
  simp only [Prod.mk.injEq] at e
  exact rv3 e.1 e.2.1 e.2.2
theorem ok_cutcol {wb : World} (hg : GOk [] ⟨wb,wb,fun _ => False,fun _ => False⟩) (h_ibs : OC wb k_ibs) : OC wb k_cutcol := by
 refine Con.Ok.f (ok_vcb (SB := SB) (sh := sh) (c := k_cutcol) (cal := (calQ [] [k_ibs])) (li := li_none) (rounds := 600) (d := 6) (lsh := lsh_none) (lens := [1]) mx (fun _ _ _ => calQ_ok nil0 (cons0 h_ibs nil0)) hg (by kernel_rfl) uv_cutcol rfl rfl ?_)
 rw [u_cutcol]
 exact p_cutcol
theorem uv_only : OneV k_only.args k_only.res (flatS sh SB 44) := by
 intro zs rs rs' hz hr hr' h h'
 match zs,rs,rs',hz,hr,hr',h,h' with
 | [z0,z1],[a0],[b0],_,_,_,h,h' =>
  exact rv2 (Eq.trans h (Eq.symm h'))
theorem ok_only {wb : World} (hg : GOk [] ⟨wb,wb,fun _ => False,fun _ => False⟩) (h_ibs : OC wb k_ibs) : OC wb k_only := by
 refine Con.Ok.f (ok_vcb (SB := SB) (sh := sh) (c := k_only) (cal := (calQ [] [k_ibs])) (li := li_only) (rounds := 600) (d := 6) (lsh := lsh_only) (lens := [1,1]) mx (fun _ _ _ => calQ_ok nil0 (cons0 h_ibs nil0)) hg (by kernel_rfl) uv_only rfl rfl ?_)
 rw [u_only]
 exact p_only
theorem uv_ionly : OneV k_ionly.args k_ionly.res (flatS sh SB 65) := by
 intro zs rs rs' hz hr hr' h h'
 match zs,rs,rs',hz,hr,hr',h,h' with
 | [z0,z1],[a0],[b0],_,_,_,h,h' =>
  exact rv2 (Eq.trans h (Eq.symm h'))
theorem ok_ionly {wb : World} (hg : GOk [] ⟨wb,wb,fun _ => False,fun _ => False⟩) (h_ibs : OC wb k_ibs) : OC wb k_ionly := by
 refine Con.Ok.f (ok_vcb (SB := SB) (sh := sh) (c := k_ionly) (cal := (calQ [] [k_ibs])) (li := li_ionly) (rounds := 600) (d := 6) (lsh := lsh_ionly) (lens := [1,1]) mx (fun _ _ _ => calQ_ok nil0 (cons0 h_ibs nil0)) hg (by kernel_rfl) uv_ionly rfl rfl ?_)
 rw [u_ionly]
 exact p_ionly
theorem uv_low : OneV k_low.args k_low.res (flatS sh SB 28) := by
 intro zs rs rs' hz hr hr' h h'
 match zs,rs,rs',hz,hr,hr',h,h' with
 | [z0],[a0],[b0],_,_,_,h,h' =>
  exact rv1 (Eq.trans h (Eq.symm h'))
theorem ok_low {wb : World} (hg : GOk [] ⟨wb,wb,fun _ => False,fun _ => False⟩)  : OC wb k_low := by
 refine Con.Ok.f (ok_vcb (SB := SB) (sh := sh) (c := k_low) (cal := (calQ [] [])) (li := li_low) (rounds := 600) (d := 6) (lsh := lsh_low) (lens := [1]) mx (fun _ _ _ => calQ_ok nil0 nil0) hg (by kernel_rfl) uv_low rfl rfl ?_)
 rw [u_low]
 exact p_low
theorem uv_rlow : OneV k_rlow.args k_rlow.res (flatS sh SB 17) := by
 intro zs rs rs' hz hr hr' h h'
 match zs,rs,rs',hz,hr,hr',h,h' with
 | [z0],[a0],[b0],_,_,_,h,h' =>
  exact rv1 (Eq.trans h (Eq.symm h'))
theorem ok_rlow {wb : World} (hg : GOk [] ⟨wb,wb,fun _ => False,fun _ => False⟩)  : OC wb k_rlow := by
 refine Con.Ok.f (ok_vcb (SB := SB) (sh := sh) (c := k_rlow) (cal := (calQ [] [])) (li := li_rlow) (rounds := 600) (d := 6) (lsh := lsh_rlow) (lens := [1]) mx (fun _ _ _ => calQ_ok nil0 nil0) hg (by kernel_rfl) uv_rlow rfl rfl ?_)
 rw [u_rlow]
 exact p_rlow
theorem uv_rhas : OneV k_rhas.args k_rhas.res (flatS sh SB 31) := by
 intro zs rs rs' hz hr hr' h h'
 match zs,rs,rs',hz,hr,hr',h,h' with
 | [z0,z1],[a0],[b0],_,_,_,h,h' =>
  exact rv2 (Eq.trans h (Eq.symm h'))
theorem ok_rhas {wb : World} (hg : GOk [] ⟨wb,wb,fun _ => False,fun _ => False⟩)  : OC wb k_rhas := by
 refine Con.Ok.f (ok_vcb (SB := SB) (sh := sh) (c := k_rhas) (cal := (calQ [] [])) (li := li_rhas) (rounds := 600) (d := 6) (lsh := lsh_rhas) (lens := [1,1]) mx (fun _ _ _ => calQ_ok nil0 nil0) hg (by kernel_rfl) uv_rhas rfl rfl ?_)
 rw [u_rhas]
 exact p_rhas
theorem uv_thost : OneV k_thost.args k_thost.res (flatS sh SB 123) := by
 intro zs rs rs' hz hr hr' h h'
 match zs,rs,rs',hz,hr,hr',h,h' with
 | [z0],[a0],[b0],_,_,_,h,h' =>
  exact rv1 (Eq.trans h (Eq.symm h'))
theorem ok_thost {wb : World} (hg : GOk [] ⟨wb,wb,fun _ => False,fun _ => False⟩)  : OC wb k_thost := by
 refine Con.Ok.f (ok_vcb (SB := SB) (sh := sh) (c := k_thost) (cal := (calQ [] [])) (li := li_thost) (rounds := 600) (d := 6) (lsh := lsh_thost) (lens := [1]) mx (fun _ _ _ => calQ_ok nil0 nil0) hg (by kernel_rfl) uv_thost rfl rfl ?_)
 rw [u_thost]
 exact p_thost
theorem uv_tdig : OneV k_tdig.args k_tdig.res (flatS sh SB 124) := by
 intro zs rs rs' hz hr hr' h h'
 match zs,rs,rs',hz,hr,hr',h,h' with
 | [z0],[a0],[b0],_,_,_,h,h' =>
  exact rv1 (Eq.trans h (Eq.symm h'))
theorem ok_tdig {wb : World} (hg : GOk [] ⟨wb,wb,fun _ => False,fun _ => False⟩)  : OC wb k_tdig := by
 refine Con.Ok.f (ok_vcb (SB := SB) (sh := sh) (c := k_tdig) (cal := (calQ [] [])) (li := li_tdig) (rounds := 600) (d := 6) (lsh := lsh_tdig) (lens := [1]) mx (fun _ _ _ => calQ_ok nil0 nil0) hg (by kernel_rfl) uv_tdig rfl rfl ?_)
 rw [u_tdig]
 exact p_tdig
theorem uv_host : OneV k_host.args k_host.res (flatS sh SB 47) := by
 intro zs rs rs' hz hr hr' h h'
 match zs,rs,rs',hz,hr,hr',h,h' with
 | [z0],[a0],[b0],_,_,_,h,h' =>
  exact rv2 (Eq.trans h (Eq.symm h'))
theorem ok_host {wb : World} (hg : GOk [] ⟨wb,wb,fun _ => False,fun _ => False⟩) (h_cdd : OQ wb q_cdd) (h_thost : OC wb k_thost) (h_tdm : OC wb k_tdm) (h_ionly : OC wb k_ionly) : OC wb k_host := by
 refine Con.Ok.f (ok_vcb (SB := SB) (sh := sh) (c := k_host) (cal := (calQ [q_cdd] [k_thost,k_tdm,k_ionly])) (li := li_none) (rounds := 600) (d := 6) (lsh := lsh_none) (lens := [1]) mx (fun _ _ _ => calQ_ok (cons0 h_cdd nil0) (cons0 h_thost (cons0 h_tdm (cons0 h_ionly nil0)))) hg (by kernel_rfl) uv_host rfl rfl ?_)
 rw [u_host]
 exact p_host
theorem uv_server : OneV k_server.args k_server.res (flatS sh SB 27) := by
 intro zs rs rs' hz hr hr' h h'
 match zs,rs,rs',hz,hr,hr',h,h' with
 | [z0],[a0],[b0],_,_,_,h,h' =>
  exact rv2 (Eq.trans h (Eq.symm h'))
theorem ok_server {wb : World} (hg : GOk [] ⟨wb,wb,fun _ => False,fun _ => False⟩) (h_cutcol : OC wb k_cutcol) (h_host : OC wb k_host) (h_tdig : OC wb k_tdig) (h_ionly : OC wb k_ionly) : OC wb k_server := by
 refine Con.Ok.f (ok_vcb (SB := SB) (sh := sh) (c := k_server) (cal := (calQ [] [k_cutcol,k_host,k_tdig,k_ionly])) (li := li_none) (rounds := 600) (d := 6) (lsh := lsh_none) (lens := [1]) mx (fun _ _ _ => calQ_ok nil0 (cons0 h_cutcol (cons0 h_host (cons0 h_tdig (cons0 h_ionly nil0))))) hg (by kernel_rfl) uv_server rfl rfl ?_)
 rw [u_server]
 exact p_server
theorem uv_local : OneV k_local.args k_local.res (flatS sh SB 24) := by
 intro zs rs rs' hz hr hr' h h'
 match zs,rs,rs',hz,hr,hr',h,h' with
 | [z0],[a0],[b0],_,_,_,h,h' =>
  exact rv2 (Eq.trans h (Eq.symm h'))
theorem ok_local {wb : World} (hg : GOk [] ⟨wb,wb,fun _ => False,fun _ => False⟩) (h_cdd : OQ wb q_cdd) (h_only : OC wb k_only) (h_tdot : OC wb k_tdot) : OC wb k_local := by
 refine Con.Ok.f (ok_vcb (SB := SB) (sh := sh) (c := k_local) (cal := (calQ [q_cdd] [k_only,k_tdot])) (li := li_none) (rounds := 600) (d := 6) (lsh := lsh_none) (lens := [1]) mx (fun _ _ _ => calQ_ok (cons0 h_cdd nil0) (cons0 h_only (cons0 h_tdot nil0))) hg (by kernel_rfl) uv_local rfl rfl ?_)
 rw [u_local]
 exact p_local
theorem uv_rlocal : OneV k_rlocal.args k_rlocal.res (flatS sh SB 29) := by
 intro zs rs rs' hz hr hr' h h'
 match zs,rs,rs',hz,hr,hr',h,h' with
 | [z0],[a0],[b0],_,_,_,h,h' =>
  exact rv2 (Eq.trans h (Eq.symm h'))
theorem ok_rlocal {wb : World} (hg : GOk [] ⟨wb,wb,fun _ => False,fun _ => False⟩)  : OC wb k_rlocal := by
 refine Con.Ok.f (ok_vcb (SB := SB) (sh := sh) (c := k_rlocal) (cal := (calQ [] [])) (li := li_rlocal) (rounds := 600) (d := 6) (lsh := lsh_rlocal) (lens := [1]) mx (fun _ _ _ => calQ_ok nil0 nil0) hg (by kernel_rfl) uv_rlocal rfl rfl ?_)
 rw [u_rlocal]
 exact p_rlocal
theorem uv_small : OneV k_small.args k_small.res (flatS sh SB 50) := by
 intro zs rs rs' hz hr hr' h h'
 match zs,rs,rs',hz,hr,hr',h,h' with
 | [z0],[a0],[b0],_,_,_,h,h' =>
  exact rv2 (Eq.trans h (Eq.symm h'))
theorem ok_small {wb : World} (hg : GOk [] ⟨wb,wb,fun _ => False,fun _ => False⟩)  : OC wb k_small := by
 refine Con.Ok.f (ok_vcb (SB := SB) (sh := sh) (c := k_small) (cal := (calQ [] [])) (li := li_none) (rounds := 600) (d := 6) (lsh := lsh_none) (lens := [1]) mx (fun _ _ _ => calQ_ok nil0 nil0) hg (by kernel_rfl) uv_small rfl rfl ?_)
 rw [u_small]
 exact p_small
theorem uv_great : OneV k_great.args k_great.res (flatS sh SB 51) := by
 intro zs rs rs' hz hr hr' h h'
 match zs,rs,rs',hz,hr,hr',h,h' with
 | [z0],[a0],[b0],_,_,_,h,h' =>
  exact rv2 (Eq.trans h (Eq.symm h'))
theorem ok_great {wb : World} (hg : GOk [] ⟨wb,wb,fun _ => False,fun _ => False⟩)  : OC wb k_great := by
 refine Con.Ok.f (ok_vcb (SB := SB) (sh := sh) (c := k_great) (cal := (calQ [] [])) (li := li_none) (rounds := 600) (d := 6) (lsh := lsh_none) (lens := [1]) mx (fun _ _ _ => calQ_ok nil0 nil0) hg (by kernel_rfl) uv_great rfl rfl ?_)
 rw [u_great]
 exact p_great
theorem uv_digit : OneV k_digit.args k_digit.res (flatS sh SB 52) := by
 intro zs rs rs' hz hr hr' h h'
 match zs,rs,rs',hz,hr,hr',h,h' with
 | [z0],[a0],[b0],_,_,_,h,h' =>
  exact rv2 (Eq.trans h (Eq.symm h'))
theorem ok_digit {wb : World} (hg : GOk [] ⟨wb,wb,fun _ => False,fun _ => False⟩)  : OC wb k_digit := by
 refine Con.Ok.f (ok_vcb (SB := SB) (sh := sh) (c := k_digit) (cal := (calQ [] [])) (li := li_none) (rounds := 600) (d := 6) (lsh := lsh_none) (lens := [1]) mx (fun _ _ _ => calQ_ok nil0 nil0) hg (by kernel_rfl) uv_digit rfl rfl ?_)
 rw [u_digit]
 exact p_digit
theorem uv_rhost : OneV k_rhost.args k_rhost.res (flatS sh SB 30) := by
 intro zs rs rs' hz hr hr' h h'
 match zs,rs,rs',hz,hr,hr',h,h' with
 | [z0],[a0],[b0],_,_,_,h,h' =>
  exact rv2 (Eq.trans h (Eq.symm h'))
theorem ok_rhost {wb : World} (hg : GOk [] ⟨wb,wb,fun _ => False,fun _ => False⟩) (h_small : OC wb k_small) (h_great : OC wb k_great) (h_digit : OC wb k_digit) : OC wb k_rhost := by
 refine Con.Ok.f (ok_vcb (SB := SB) (sh := sh) (c := k_rhost) (cal := (calQ [] [k_small,k_great,k_digit])) (li := li_rhost) (rounds := 600) (d := 6) (lsh := lsh_rhost) (lens := [1]) mx (fun _ _ _ => calQ_ok nil0 (cons0 h_small (cons0 h_great (cons0 h_digit nil0)))) hg (by kernel_rfl) uv_rhost rfl rfl ?_)
 rw [u_rhost]
 exact p_rhost
theorem uv_rcountry : OneV k_rcountry.args k_rcountry.res (flatS sh SB 35) := by
 intro zs rs rs' hz hr hr' h h'
 match zs,rs,rs',hz,hr,hr',h,h' with
 | [z0],[a0,a1,a2],[b0,b1,b2],_,_,_,h,h' =>
  have h : (match ctry (sOf z0) with | some (code,trunk) => sOf a0 = code /\ a1 = b01 (!trunk.isEmpty) /\ a2 = 1 | none => sOf a0 = [] /\ a1 = 0 /\ a2 = 0) := h
  have h' : (match ctry (sOf z0) with | some (code,trunk) => sOf b0 = code /\ b1 = b01 (!trunk.isEmpty) /\ b2 = 1 | none => sOf b0 = [] /\ b1 = 0 /\ b2 = 0) := h'
  cases hc : ctry (sOf z0) with
  | none => rw [hc] at h h'; exact rv4 (h.1.trans h'.1.symm) (h.2.1.trans h'.2.1.symm) (h.2.2.trans h'.2.2.symm)
  | some ct =>
   obtain ⟨c,t⟩ := ct
   rw [hc] at h h'; exact rv4 (h.1.trans h'.1.symm) (h.2.1.trans h'.2.1.symm) (h.2.2.trans h'.2.2.symm)
theorem ok_rcountry {wb : World} (hg : GOk [] ⟨wb,wb,fun _ => False,fun _ => False⟩)  : OC wb k_rcountry := by
 refine Con.Ok.f (ok_vcb (SB := SB) (sh := sh) (c := k_rcountry) (cal := (calQ [] [])) (li := li_none) (rounds := 600) (d := 6) (lsh := lsh_none) (lens := [1]) mx (fun _ _ _ => calQ_ok nil0 nil0) hg (by kernel_rfl) uv_rcountry rfl rfl ?_)
 rw [u_rcountry]
 exact p_rcountry
theorem uv_rphone : OneV k_rphone.args k_rphone.res (flatS sh SB 13) := by
 intro zs rs rs' hz hr hr' h h'
 match zs,rs,rs',hz,hr,hr',h,h' with
 | [z0,z1],[a0,a1],[b0,b1],_,_,_,h,h' =>
  have e : (sOf a0,a1) = (sOf b0,b1) := Eq.trans h (Eq.symm h')
  simp only [Prod.mk.injEq] at e
  exact rv5 e.1 e.2
theorem ok_rphone {wb : World} (hg : GOk [] ⟨wb,wb,fun _ => False,fun _ => False⟩) (h_rcountry : OC wb k_rcountry) : OQ wb q_rphone := by
 refine qok_vcb (SB := SB) (sh := sh) (q := q_rphone) (cal := (calQ [] [k_rcountry])) (li := li_rphone) (rounds := 600) (d := 6) (lsh := lsh_rphone) (lens := [1,1]) mx (fun _ _ _ => calQ_ok nil0 (cons0 h_rcountry nil0)) hg (by kernel_rfl) uv_rphone rfl rfl ?_
 rw [show q_rphone.c = k_rphone from rfl,u_rphone]
 exact p_rphone
theorem uv_remail : OneV k_remail.args k_remail.res (flatS sh SB 11) := by
 intro zs rs rs' hz hr hr' h h'
 match zs,rs,rs',hz,hr,hr',h,h' with
 | [z0],[a0,a1],[b0,b1],_,_,_,h,h' =>
  have e : (sOf a0,a1) = (sOf b0,b1) := Eq.trans h (Eq.symm h')
  simp only [Prod.mk.injEq] at e
  exact rv5 e.1 e.2
theorem ok_remail {wb : World} (hg : GOk [] ⟨wb,wb,fun _ => False,fun _ => False⟩) (h_rlocal : OC wb k_rlocal) (h_rhost : OC wb k_rhost) (h_rhas : OC wb k_rhas) (h_rlow : OC wb k_rlow) : OC wb k_remail := by
 refine Con.Ok.f (ok_vcb (SB := SB) (sh := sh) (c := k_remail) (cal := (calQ [] [k_rlocal,k_rhost,k_rhas,k_rlow])) (li := li_remail) (rounds := 600) (d := 6) (lsh := lsh_remail) (lens := [1]) mx (fun _ _ _ => calQ_ok nil0 (cons0 h_rlocal (cons0 h_rhost (cons0 h_rhas (cons0 h_rlow nil0))))) hg (by kernel_rfl) uv_remail rfl rfl ?_)
 rw [u_remail]
 exact p_remail
theorem uv_email : OneV k_email.args k_email.res (flatS sh SB 10) := by
 intro zs rs rs' hz hr hr' h h'
 match zs,rs,rs',hz,hr,hr',h,h' with
 | [z0],[a0,a1],[b0,b1],_,_,_,h,h' =>
  have e : (sOf a0,a1) = (sOf b0,b1) := Eq.trans h (Eq.symm h')
  simp only [Prod.mk.injEq] at e
  exact rv5 e.1 e.2
theorem ok_email {wb : World} (hg : GOk [] ⟨wb,wb,fun _ => False,fun _ => False⟩) (h_tsp : OC wb k_tsp) (h_cutat : OC wb k_cutat) (h_local : OC wb k_local) (h_cdot : OC wb k_cdot) (h_server : OC wb k_server) (h_low : OC wb k_low) (h_ibs : OC wb k_ibs) : OC wb k_email := by
 refine Con.Ok.f (ok_vcb (SB := SB) (sh := sh) (c := k_email) (cal := (calQ [] [k_tsp,k_cutat,k_local,k_cdot,k_server,k_low,k_ibs])) (li := li_none) (rounds := 600) (d := 6) (lsh := lsh_none) (lens := [1]) mx (fun _ _ _ => calQ_ok nil0 (cons0 h_tsp (cons0 h_cutat (cons0 h_local (cons0 h_cdot (cons0 h_server (cons0 h_low (cons0 h_ibs nil0)))))))) hg (by kernel_rfl) uv_email rfl rfl ?_)
 rw [u_email]
 exact p_email
theorem uv_tpre : OneV k_tpre.args k_tpre.res (flatS sh SB 34) := by
 intro zs rs rs' hz hr hr' h h'
 match zs,rs,rs',hz,hr,hr',h,h' with
 | [z0,z1],[a0],[b0],_,_,_,h,h' =>
  exact rv1 (Eq.trans h (Eq.symm h'))
theorem ok_tpre {wb : World} (hg : GOk [] ⟨wb,wb,fun _ => False,fun _ => False⟩)  : OC wb k_tpre := by
 refine Con.Ok.f (ok_vcb (SB := SB) (sh := sh) (c := k_tpre) (cal := (calQ [] [])) (li := li_none) (rounds := 600) (d := 6) (lsh := lsh_none) (lens := [1,1]) mx (fun _ _ _ => calQ_ok nil0 nil0) hg (by kernel_rfl) uv_tpre rfl rfl ?_)
 rw [u_tpre]
 exact p_tpre
theorem uv_phone : OneV k_phone.args k_phone.res (flatS sh SB 12) := by
 intro zs rs rs' hz hr hr' h h'
 match zs,rs,rs',hz,hr,hr',h,h' with
 | [z0,z1],[a0,a1],[b0,b1],_,_,_,h,h' =>
  have e : (sOf a0,a1) = (sOf b0,b1) := Eq.trans h (Eq.symm h')
  simp only [Prod.mk.injEq] at e
  exact rv5 e.1 e.2
theorem ok_phone {wb : World} (hg : GOk [] ⟨wb,wb,fun _ => False,fun _ => False⟩) (h_country : OC wb k_country) (h_bare : OC wb k_bare) (h_tpre : OC wb k_tpre) : OQ wb q_phone := by
 refine qok_vcb (SB := SB) (sh := sh) (q := q_phone) (cal := (calQ [] [k_country,k_bare,k_tpre])) (li := li_none) (rounds := 600) (d := 6) (lsh := lsh_none) (lens := [1,1]) mx (fun _ _ _ => calQ_ok nil0 (cons0 h_country (cons0 h_bare (cons0 h_tpre nil0)))) hg (by kernel_rfl) uv_phone rfl rfl ?_
 rw [show q_phone.c = k_phone from rfl,u_phone]
 exact p_phone
theorem uv_make : OneV k_make.args k_make.res (flatS sh SB 15) := by
 intro zs rs rs' hz hr hr' h h'
 match zs,rs,rs',hz,hr,hr',h,h' with
 | [z0,z1],[a0,a1,a2],[b0,b1,b2],_,_,_,h,h' =>
  have e : (sOf a0,sOf a1,a2) = (sOf b0,sOf b1,b2) := Eq.trans h (Eq.symm h')
  simp only [Prod.mk.injEq] at e
  exact rv7 e.1 e.2.1 e.2.2
theorem ok_make {wb : World} (hg : GOk [] ⟨wb,wb,fun _ => False,fun _ => False⟩) (h_phone : OQ wb q_phone) (h_email : OC wb k_email) : OC wb k_make := by
 refine Con.Ok.f (ok_vcb (SB := SB) (sh := sh) (c := k_make) (cal := (calQ [q_phone] [k_email])) (li := li_none) (rounds := 600) (d := 6) (lsh := lsh_none) (lens := [1,1]) mx (fun _ _ _ => calQ_ok (cons0 h_phone nil0) (cons0 h_email nil0)) hg (by kernel_rfl) uv_make rfl rfl ?_)
 rw [u_make]
 exact p_make
theorem uv_rmake : OneV k_rmake.args k_rmake.res (flatS sh SB 18) := by
 intro zs rs rs' hz hr hr' h h'
 match zs,rs,rs',hz,hr,hr',h,h' with
 | [z0,z1],[a0,a1,a2],[b0,b1,b2],_,_,_,h,h' =>
  have e : (sOf a0,sOf a1,a2) = (sOf b0,sOf b1,b2) := Eq.trans h (Eq.symm h')
  simp only [Prod.mk.injEq] at e
  exact rv7 e.1 e.2.1 e.2.2
theorem ok_rmake {wb : World} (hg : GOk [] ⟨wb,wb,fun _ => False,fun _ => False⟩) (h_rphone : OQ wb q_rphone) (h_remail : OC wb k_remail) : OC wb k_rmake := by
 refine Con.Ok.f (ok_vcb (SB := SB) (sh := sh) (c := k_rmake) (cal := (calQ [q_rphone] [k_remail])) (li := li_none) (rounds := 600) (d := 6) (lsh := lsh_none) (lens := [1,1]) mx (fun _ _ _ => calQ_ok (cons0 h_rphone nil0) (cons0 h_remail nil0)) hg (by kernel_rfl) uv_rmake rfl rfl ?_)
 rw [u_rmake]
 exact p_rmake
theorem uv_right : OneV k_right.args k_right.res (flatS sh SB 16) := by
 intro zs rs rs' hz hr hr' h h'
 match zs,rs,rs',hz,hr,hr',h,h' with
 | [z0,z1],[a0],[b0],_,_,_,h,h' =>
  exact rv2 (Eq.trans h (Eq.symm h'))
theorem ok_right {wb : World} (hg : GOk [] ⟨wb,wb,fun _ => False,fun _ => False⟩) (h_make : OC wb k_make) : OC wb k_right := by
 refine Con.Ok.f (ok_vcb (SB := SB) (sh := sh) (c := k_right) (cal := (calQ [] [k_make])) (li := li_none) (rounds := 600) (d := 6) (lsh := lsh_none) (lens := [2]) mx (fun _ _ _ => calQ_ok nil0 (cons0 h_make nil0)) hg (by kernel_rfl) uv_right rfl rfl ?_)
 rw [u_right]
 exact p_right
theorem uv_rright : OneV k_rright.args k_rright.res (flatS sh SB 19) := by
 intro zs rs rs' hz hr hr' h h'
 match zs,rs,rs',hz,hr,hr',h,h' with
 | [z0,z1],[a0],[b0],_,_,_,h,h' =>
  exact rv2 (Eq.trans h (Eq.symm h'))
theorem ok_rright {wb : World} (hg : GOk [] ⟨wb,wb,fun _ => False,fun _ => False⟩) (h_rmake : OC wb k_rmake) : OC wb k_rright := by
 refine Con.Ok.f (ok_vcb (SB := SB) (sh := sh) (c := k_rright) (cal := (calQ [] [k_rmake])) (li := li_none) (rounds := 600) (d := 6) (lsh := lsh_none) (lens := [2]) mx (fun _ _ _ => calQ_ok nil0 (cons0 h_rmake nil0)) hg (by kernel_rfl) uv_rright rfl rfl ?_)
 rw [u_rright]
 exact p_rright
theorem uv_print : OneV k_print.args k_print.res (flatS sh SB 400) := by
 intro zs rs rs' hz hr hr' h h'
 match zs,rs,rs',hz,hr,hr',h,h' with
 | [z0],[a0],[b0],_,_,_,h,h' =>
  exact rv2 (Eq.trans h (Eq.symm h'))
theorem ok_print {wb : World} (hg : GOk [] ⟨wb,wb,fun _ => False,fun _ => False⟩)  : OC wb k_print := by
 refine Con.Ok.f (ok_vcb (SB := SB) (sh := sh) (c := k_print) (cal := (calQ [] [])) (li := li_print) (rounds := 600) (d := 6) (lsh := lsh_print) (lens := [1]) mx (fun _ _ _ => calQ_ok nil0 nil0) hg (by kernel_rfl) uv_print rfl rfl ?_)
 rw [u_print]
 exact p_print
theorem uv_secr : OneV k_secr.args k_secr.res (flatS sh SB 401) := by
 intro zs rs rs' hz hr hr' h h'
 match zs,rs,rs',hz,hr,hr',h,h' with
 | [z0],[a0],[b0],_,_,_,h,h' =>
  exact rv2 (Eq.trans h (Eq.symm h'))
theorem ok_secr {wb : World} (hg : GOk [] ⟨wb,wb,fun _ => False,fun _ => False⟩) (h_print : OC wb k_print) : OC wb k_secr := by
 refine Con.Ok.f (ok_vcb (SB := SB) (sh := sh) (c := k_secr) (cal := (calQ [] [k_print])) (li := li_secr) (rounds := 600) (d := 6) (lsh := lsh_secr) (lens := [1]) mx (fun _ _ _ => calQ_ok nil0 (cons0 h_print nil0)) hg (by kernel_rfl) uv_secr rfl rfl ?_)
 rw [u_secr]
 exact p_secr
theorem uv_sright : OneV k_sright.args k_sright.res (flatS sh SB 402) := by
 intro zs rs rs' hz hr hr' h h'
 match zs,rs,rs',hz,hr,hr',h,h' with
 | [z0,z1,z2,z3,z4,z5,z6,z7,z8,z9],[a0],[b0],_,_,_,h,h' =>
  exact rv2 (Eq.trans h (Eq.symm h'))
theorem ok_sright {wb : World} (hg : GOk [] ⟨wb,wb,fun _ => False,fun _ => False⟩) (h_secr : OC wb k_secr) (h_right : OC wb k_right) : OC wb k_sright := by
 refine Con.Ok.f (ok_vcb (SB := SB) (sh := sh) (c := k_sright) (cal := (calQ [] [k_secr,k_right])) (li := li_none) (rounds := 600) (d := 6) (lsh := lsh_none) (lens := [10]) mx (fun _ _ _ => calQ_ok nil0 (cons0 h_secr (cons0 h_right nil0))) hg (by kernel_rfl) uv_sright rfl rfl ?_)
 rw [u_sright]
 exact p_sright
theorem ok_sRight {wb : World} (hg : GOk [] ⟨wb,wb,fun _ => False,fun _ => False⟩) (h_sright : OC wb k_sright) : OB wb k_sRight := by
 refine bok_vcf (SB := SB) (sh := sh) (c := k_sRight) (bcs := []) (cal := (calQ [] [k_sright])) (li := li_sRight) (rounds := 600) (d := 6) (lsh := lsh_sRight) (lens := [1]) mx (fun _ _ _ => calQ_ok nil0 (cons0 h_sright nil0)) hg nil0 (by kernel_rfl) rfl rfl ?_
 rw [u_sRight]
 exact p_sRight
theorem ok_splace {wb : World} (hg : GOk [] ⟨wb,wb,fun _ => False,fun _ => False⟩)  : OB wb k_splace := by
 refine bok_vcf (SB := SB) (sh := sh) (c := k_splace) (bcs := []) (cal := (calQ [] [])) (li := li_splace) (rounds := 600) (d := 6) (lsh := lsh_splace) (lens := [1,1]) mx (fun _ _ _ => calQ_ok nil0 nil0) hg nil0 (by kernel_rfl) rfl rfl ?_
 rw [u_splace]
 exact p_splace
theorem uv_sover : OneV k_sover.args k_sover.res (flatS sh SB 417) := by
 intro zs rs rs' hz hr hr' h h'
 match zs,rs,rs',hz,hr,hr',h,h' with
 | [z0,z1,z2,z3,z4,z5,z6,z7,z8,z9,z10],[a0],[b0],_,_,_,h,h' =>
  exact rv2 (Eq.trans h (Eq.symm h'))
theorem ok_sover {wb : World} (hg : GOk [] ⟨wb,wb,fun _ => False,fun _ => False⟩)  : OC wb k_sover := by
 refine Con.Ok.f (ok_vcb (SB := SB) (sh := sh) (c := k_sover) (cal := (calQ [] [])) (li := li_none) (rounds := 600) (d := 6) (lsh := lsh_none) (lens := [10,1]) mx (fun _ _ _ => calQ_ok nil0 nil0) hg (by kernel_rfl) uv_sover rfl rfl ?_)
 rw [u_sover]
 exact p_sover
theorem ok_sFind {wb : World} (hg : GOk [] ⟨wb,wb,fun _ => False,fun _ => False⟩) (h_sRight : OB wb k_sRight) (h_splace : OB wb k_splace) : OB wb k_sFind := by
 refine bok_vcf (SB := SB) (sh := sh) (c := k_sFind) (bcs := [k_sRight,k_splace]) (cal := (calQ [] [])) (li := li_none) (rounds := 600) (d := 6) (lsh := lsh_none) (lens := [1,1]) mx (fun _ _ _ => calQ_ok nil0 nil0) hg (cons0 h_sRight (cons0 h_splace nil0)) (by kernel_rfl) rfl rfl ?_
 rw [u_sFind]
 exact p_sFind
theorem ok_sopen {wb : World} (hg : GOk [] ⟨wb,wb,fun _ => False,fun _ => False⟩) (h_sover : OC wb k_sover) (h_sRight : OB wb k_sRight) (h_splace : OB wb k_splace) : OB wb k_sopen := by
 refine bok_vcf (SB := SB) (sh := sh) (c := k_sopen) (bcs := [k_sRight,k_splace]) (cal := (calQ [] [k_sover])) (li := li_none) (rounds := 600) (d := 6) (lsh := lsh_none) (lens := [1,1,10]) mx (fun _ _ _ => calQ_ok nil0 (cons0 h_sover nil0)) hg (cons0 h_sRight (cons0 h_splace nil0)) (by kernel_rfl) rfl rfl ?_
 rw [u_sopen]
 exact p_sopen
theorem ok_sShown {wb : World} (hg : GOk [] ⟨wb,wb,fun _ => False,fun _ => False⟩) (h_sopen : OB wb k_sopen) : OB wb k_sShown := by
 refine bok_vcf (SB := SB) (sh := sh) (c := k_sShown) (bcs := [k_sopen]) (cal := (calQ [] [])) (li := li_none) (rounds := 600) (d := 6) (lsh := lsh_none) (lens := [1,1,10]) mx (fun _ _ _ => calQ_ok nil0 nil0) hg (cons0 h_sopen nil0) (by kernel_rfl) rfl rfl ?_
 rw [u_sShown]
 exact p_sShown
theorem ok_sSubmit {wb : World} (hg : GOk [] ⟨wb,wb,fun _ => False,fun _ => False⟩) (h_sopen : OB wb k_sopen) : OB wb k_sSubmit := by
 refine bok_vcf (SB := SB) (sh := sh) (c := k_sSubmit) (bcs := [k_sopen]) (cal := (calQ [] [])) (li := li_none) (rounds := 600) (d := 6) (lsh := lsh_none) (lens := [1,1,10]) mx (fun _ _ _ => calQ_ok nil0 nil0) hg (cons0 h_sopen nil0) (by kernel_rfl) rfl rfl ?_
 rw [u_sSubmit]
 exact p_sSubmit
theorem ok_sprune {wb : World} (hg : GOk [] ⟨wb,wb,fun _ => False,fun _ => False⟩)  : OB wb k_sprune := by
 refine bok_vcf (SB := SB) (sh := sh) (c := k_sprune) (bcs := []) (cal := (calQ [] [])) (li := li_sprune) (rounds := 600) (d := 6) (lsh := lsh_sprune) (lens := [1,1]) mx (fun _ _ _ => calQ_ok nil0 nil0) hg nil0 (by kernel_rfl) rfl rfl ?_
 rw [u_sprune]
 exact p_sprune
theorem ok_sPrune {wb : World} (hg : GOk [] ⟨wb,wb,fun _ => False,fun _ => False⟩) (h_sRight : OB wb k_sRight) (h_sprune : OB wb k_sprune) : OB wb k_sPrune := by
 refine bok_vcf (SB := SB) (sh := sh) (c := k_sPrune) (bcs := [k_sRight,k_sprune]) (cal := (calQ [] [])) (li := li_none) (rounds := 600) (d := 6) (lsh := lsh_none) (lens := [1,1]) mx (fun _ _ _ => calQ_ok nil0 nil0) hg (cons0 h_sRight (cons0 h_sprune nil0)) (by kernel_rfl) rfl rfl ?_
 rw [u_sPrune]
 exact p_sPrune
theorem ok_sReq {wb : World} (hg : GOk [] ⟨wb,wb,fun _ => False,fun _ => False⟩) (h_sright : OC wb k_sright) (h_sRight : OB wb k_sRight) (h_sprune : OB wb k_sprune) (h_splace : OB wb k_splace) (h_sins : OI wb k_sins) : OB wb k_sReq := by
 refine bok_bc (SB := SB) (sh := sh) (c := k_sReq) (bc := (icOf [k_sins] (bcOf [k_sRight,k_sprune,k_splace]))) (cal := (calQ [] [k_sright])) (li := li_sReq) (rounds := 600) (d := 6) (lsh := lsh_sReq) (lens := [1,10]) mx (fun _ _ _ => calQ_ok nil0 (cons0 h_sright nil0)) hg (fun _ _ _ => icOf_ok (bcOf_ok (cons0 h_sRight (cons0 h_sprune (cons0 h_splace nil0)))) (cons0 h_sins nil0)) (by kernel_rfl) rfl rfl ?_
 rw [u_sReq]
 exact p_sReq
theorem uv_sask : OneV k_sask.args k_sask.res (flatS sh SB 418) := by
 intro zs rs rs' hz hr hr' h h'
 match zs,rs,rs',hz,hr,hr',h,h' with
 | [],[a0,a1,a2,a3,a4,a5,a6,a7,a8,a9],[b0,b1,b2,b3,b4,b5,b6,b7,b8,b9],_,_,_,h,h' =>
  have h : [a0,a1,a2,a3,a4,a5,a6,a7,a8,a9] = ask0 := h
  have h' : [b0,b1,b2,b3,b4,b5,b6,b7,b8,b9] = ask0 := h'
  have e := h.trans h'.symm
  simp only [List.cons.injEq,and_true] at e
  exact rv8 e.1 (congrArg sOf e.2.1) (congrArg sOf e.2.2.1) (congrArg sOf e.2.2.2.1) (congrArg sOf e.2.2.2.2.1) e.2.2.2.2.2.1 e.2.2.2.2.2.2.1 e.2.2.2.2.2.2.2.1 e.2.2.2.2.2.2.2.2.1 e.2.2.2.2.2.2.2.2.2
theorem ok_sask {wb : World} (hg : GOk [] ⟨wb,wb,fun _ => False,fun _ => False⟩)  : OC wb k_sask := by
 refine Con.Ok.f (ok_vcb (SB := SB) (sh := sh) (c := k_sask) (cal := (calQ [] [])) (li := li_none) (rounds := 600) (d := 6) (lsh := lsh_none) (lens := []) mx (fun _ _ _ => calQ_ok nil0 nil0) hg (by kernel_rfl) uv_sask rfl rfl ?_)
 rw [u_sask]
 exact p_sask
theorem ok_salive {wb : World} (hg : GOk [] ⟨wb,wb,fun _ => False,fun _ => False⟩) (h_sask : OC wb k_sask) (h_sReq : OB wb k_sReq) (h_sSubmit : OB wb k_sSubmit) (h_sShown : OB wb k_sShown) : OB wb k_salive := by
 refine bok_vcf (SB := SB) (sh := sh) (c := k_salive) (bcs := [k_sReq,k_sSubmit,k_sShown]) (cal := (calQ [] [k_sask])) (li := li_none) (rounds := 600) (d := 6) (lsh := lsh_none) (lens := []) mx (fun _ _ _ => calQ_ok nil0 (cons0 h_sask nil0)) hg (cons0 h_sReq (cons0 h_sSubmit (cons0 h_sShown nil0))) (by kernel_rfl) rfl rfl ?_
 rw [u_salive]
 exact p_salive
theorem ok_ySame {wb : World} (hg : GOk [] ⟨wb,wb,fun _ => False,fun _ => False⟩)  : OB wb k_ySame := by
 refine bok_vcf (SB := SB) (sh := sh) (c := k_ySame) (bcs := []) (cal := (calQ [] [])) (li := li_ySame) (rounds := 600) (d := 6) (lsh := lsh_ySame) (lens := [1,1]) mx (fun _ _ _ => calQ_ok nil0 nil0) hg nil0 (by kernel_rfl) rfl rfl ?_
 rw [u_ySame]
 exact p_ySame
theorem uv_xsec : OneV k_xsec.args k_xsec.res (flatS sh SB 420) := by
 intro zs rs rs' hz hr hr' h h'
 match zs,rs,rs',hz,hr,hr',h,h' with
 | [z0],[a0],[b0],_,_,_,h,h' =>
  exact rv2 (Eq.trans h (Eq.symm h'))
theorem ok_xsec {wb : World} (hg : GOk [] ⟨wb,wb,fun _ => False,fun _ => False⟩)  : OC wb k_xsec := by
 refine Con.Ok.f (ok_vcb (SB := SB) (sh := sh) (c := k_xsec) (cal := (calQ [] [])) (li := li_xsec) (rounds := 600) (d := 6) (lsh := lsh_xsec) (lens := [1]) mx (fun _ _ _ => calQ_ok nil0 nil0) hg (by kernel_rfl) uv_xsec rfl rfl ?_)
 rw [u_xsec]
 exact p_xsec
theorem uv_xsr : OneV k_xsr.args k_xsr.res (flatS sh SB 422) := by
 intro zs rs rs' hz hr hr' h h'
 match zs,rs,rs',hz,hr,hr',h,h' with
 | [z0,z1,z2,z3,z4,z5,z6,z7,z8,z9],[a0],[b0],_,_,_,h,h' =>
  exact rv2 (Eq.trans h (Eq.symm h'))
theorem ok_xsr {wb : World} (hg : GOk [] ⟨wb,wb,fun _ => False,fun _ => False⟩) (h_xsec : OC wb k_xsec) (h_rright : OC wb k_rright) : OC wb k_xsr := by
 refine Con.Ok.f (ok_vcb (SB := SB) (sh := sh) (c := k_xsr) (cal := (calQ [] [k_xsec,k_rright])) (li := li_none) (rounds := 600) (d := 6) (lsh := lsh_none) (lens := [10]) mx (fun _ _ _ => calQ_ok nil0 (cons0 h_xsec (cons0 h_rright nil0))) hg (by kernel_rfl) uv_xsr rfl rfl ?_)
 rw [u_xsr]
 exact p_xsr
theorem ok_xsR {wb : World} (hg : GOk [] ⟨wb,wb,fun _ => False,fun _ => False⟩) (h_xsr : OC wb k_xsr) : OB wb k_xsR := by
 refine bok_vcf (SB := SB) (sh := sh) (c := k_xsR) (bcs := []) (cal := (calQ [] [k_xsr])) (li := li_xsR) (rounds := 600) (d := 6) (lsh := lsh_xsR) (lens := [1]) mx (fun _ _ _ => calQ_ok nil0 (cons0 h_xsr nil0)) hg nil0 (by kernel_rfl) rfl rfl ?_
 rw [u_xsR]
 exact p_xsR
theorem ok_xsP {wb : World} (hg : GOk [] ⟨wb,wb,fun _ => False,fun _ => False⟩) (h_xsR : OB wb k_xsR) : OB wb k_xsP := by
 refine bok_vcf (SB := SB) (sh := sh) (c := k_xsP) (bcs := [k_xsR]) (cal := (calQ [] [])) (li := li_xsP) (rounds := 600) (d := 6) (lsh := lsh_xsP) (lens := [1,1]) mx (fun _ _ _ => calQ_ok nil0 nil0) hg (cons0 h_xsR nil0) (by kernel_rfl) rfl rfl ?_
 rw [u_xsP]
 exact p_xsP
theorem ok_xsF {wb : World} (hg : GOk [] ⟨wb,wb,fun _ => False,fun _ => False⟩) (h_xsR : OB wb k_xsR) : OB wb k_xsF := by
 refine bok_vcf (SB := SB) (sh := sh) (c := k_xsF) (bcs := [k_xsR]) (cal := (calQ [] [])) (li := li_xsF) (rounds := 600) (d := 6) (lsh := lsh_xsF) (lens := [1,1]) mx (fun _ _ _ => calQ_ok nil0 nil0) hg (cons0 h_xsR nil0) (by kernel_rfl) rfl rfl ?_
 rw [u_xsF]
 exact p_xsF
theorem ok_xsl {wb : World} (hg : GOk [] ⟨wb,wb,fun _ => False,fun _ => False⟩)  : OB wb k_xsl := by
 refine bok_vcf (SB := SB) (sh := sh) (c := k_xsl) (bcs := []) (cal := (calQ [] [])) (li := li_xsl) (rounds := 600) (d := 6) (lsh := lsh_xsl) (lens := [1,1,10]) mx (fun _ _ _ => calQ_ok nil0 nil0) hg nil0 (by kernel_rfl) rfl rfl ?_
 rw [u_xsl]
 exact p_xsl
theorem ok_xsS {wb : World} (hg : GOk [] ⟨wb,wb,fun _ => False,fun _ => False⟩) (h_xsR : OB wb k_xsR) (h_xsl : OB wb k_xsl) : OB wb k_xsS := by
 refine bok_vcf (SB := SB) (sh := sh) (c := k_xsS) (bcs := [k_xsR,k_xsl]) (cal := (calQ [] [])) (li := li_none) (rounds := 600) (d := 6) (lsh := lsh_none) (lens := [1,1,10]) mx (fun _ _ _ => calQ_ok nil0 nil0) hg (cons0 h_xsR (cons0 h_xsl nil0)) (by kernel_rfl) rfl rfl ?_
 rw [u_xsS]
 exact p_xsS
theorem ok_xsH {wb : World} (hg : GOk [] ⟨wb,wb,fun _ => False,fun _ => False⟩) (h_xsR : OB wb k_xsR) (h_xsl : OB wb k_xsl) : OB wb k_xsH := by
 refine bok_vcf (SB := SB) (sh := sh) (c := k_xsH) (bcs := [k_xsR,k_xsl]) (cal := (calQ [] [])) (li := li_none) (rounds := 600) (d := 6) (lsh := lsh_none) (lens := [1,1,10]) mx (fun _ _ _ => calQ_ok nil0 nil0) hg (cons0 h_xsR (cons0 h_xsl nil0)) (by kernel_rfl) rfl rfl ?_
 rw [u_xsH]
 exact p_xsH
theorem ok_xsQ {wb : World} (hg : GOk [] ⟨wb,wb,fun _ => False,fun _ => False⟩) (h_xsr : OC wb k_xsr) (h_xsR : OB wb k_xsR) (h_xsP : OB wb k_xsP) : OB wb k_xsQ := by
 refine bok_vcf (SB := SB) (sh := sh) (c := k_xsQ) (bcs := [k_xsR,k_xsP]) (cal := (calQ [] [k_xsr])) (li := li_xsQ) (rounds := 600) (d := 6) (lsh := lsh_xsQ) (lens := [1,10]) mx (fun _ _ _ => calQ_ok nil0 (cons0 h_xsr nil0)) hg (cons0 h_xsR (cons0 h_xsP nil0)) (by kernel_rfl) rfl rfl ?_
 rw [u_xsQ]
 exact p_xsQ
theorem ok_lssub {wb : World} (hg : GOk [] ⟨wb,wb,fun _ => False,fun _ => False⟩) (h_salive : OB wb k_salive) (h_sSubmit : OB wb k_sSubmit) (h_xsS : OB wb k_xsS) (h_sShown : OB wb k_sShown) (h_xsH : OB wb k_xsH) (h_sFind : OB wb k_sFind) (h_xsF : OB wb k_xsF) (h_ySame : OB wb k_ySame) (h_sPrune : OB wb k_sPrune) (h_xsP : OB wb k_xsP) : OB wb k_lssub := by
 refine bok_vcf (SB := SB) (sh := sh) (c := k_lssub) (bcs := [k_salive,k_sSubmit,k_xsS,k_sShown,k_xsH,k_sFind,k_xsF,k_ySame,k_sPrune,k_xsP]) (cal := (calQ [] [])) (li := li_none) (rounds := 600) (d := 6) (lsh := lsh_none) (lens := [1,1,10]) mx (fun _ _ _ => calQ_ok nil0 nil0) hg (cons0 h_salive (cons0 h_sSubmit (cons0 h_xsS (cons0 h_sShown (cons0 h_xsH (cons0 h_sFind (cons0 h_xsF (cons0 h_ySame (cons0 h_sPrune (cons0 h_xsP nil0)))))))))) (by kernel_rfl) rfl rfl ?_
 rw [u_lssub]
 exact p_lssub
end Go.Ad
set_option linter.unusedVariables false
namespace Go.Proofs
open Go.Shelf Go.RowKit
shelf_lay Lays.n137 Nm 137 at Tryz as Tryz.lays137
theorem Tryz.strings_IndexByte (s : ByteArray) (c : Int) (w : World) :
 Calls Tryz.prog 92 #[.string s,.int .u8 c] w fun e w' => e = .returned (.int .i64 (Lib.indexByte s.data.toList c.toNat.toUInt8)) /\ w' = w := Any.strings_IndexByte Tryz.lays137 s c w
shelf_lay Lays.n144 Nm 144 at Tryz as Tryz.lays144
theorem Tryz.strings_Contains (s sub : ByteArray) (m : Int) (w : World) (hs : s.size < 4294967281) (hm : w.cell? ⟨0,0,none⟩ = some (.int .i64 m)) :
 Calls Tryz.prog 65 #[.string s,.string sub] w fun e w' => e = .returned (.bool (Lib.contains s.data.toList sub.data.toList)) /\ w' = w := Any.strings_Contains Tryz.lays144 s sub m w hs hm
end Go.Proofs
set_option linter.unusedVariables false
namespace Go.Proofs
open Go.Shelf Go.RowKit
shelf_lay Lays.n169 Nm 169 at Tryz as Tryz.lays169
theorem Tryz.Builder_Extra_169 : Builder.Extra Tryz.prog Tryz.lays169_ren where
 sizeBuilder := by kernel_rfl
 liesBuilder := by kernel_rfl
 t5 := Tryz.underlying5
 a5 := Tryz.isAgg5
 z5 := Tryz.sizeOf5
 v5 := Tryz.zeroValue5
 infoByte := by kernel_rfl
 cellsByte := by kernel_rfl
 sizeByte := by kernel_rfl
 neB5 := by decide
theorem Tryz.Builder_String_any (B b : Nat) (l : List UInt8) (w : World) (h : Lib.IsBuilder 101 5 B b (Lib.byteCells l) w) (hBw : B <= w.heap.size) :
 Calls Tryz.prog 93 #[.pointer (some ⟨b,0,none⟩)] w fun e w' => e = .returned (.string ⟨l.toArray⟩) /\ Below B w w' := Any.Builder_String_any Tryz.lays169 Tryz.Builder_Extra_169 B b l w h hBw
shelf_lay Lays.n170 Nm 170 at Tryz as Tryz.lays170
theorem Tryz.Builder_Len (B b : Nat) (bs : List Value) (w : World) (h : Lib.IsBuilder 101 5 B b bs w) :
 Calls Tryz.prog 91 #[.pointer (some ⟨b,0,none⟩)] w fun e w' => e = .returned (.int .i64 bs.length) /\ w' = w := Any.Builder_Len Tryz.lays170 B b bs w h
set_option maxHeartbeats 1000000 in
set_option maxRecDepth 100000 in
theorem Tryz.Builder_copyCheck_used (b : Nat) (w : World) (h0 : w.cell? ⟨b,0,none⟩ = some (.pointer (some ⟨b,0,none⟩))) :
 Calls Tryz.prog 106 #[.pointer (some ⟨b,0,none⟩)] w fun e w' => e = .returned (.tuple #[]) /\ w' = w := by
 obtain ⟨j,hj,_⟩ := Option.map_eq_some_iff.1 Tryz.Builder_Extra_169.toX72.sizeBuilder
 go_enter Tryz.func106,Tryz.ntmps106
 go_wp2
 rw [Lib.run_neq_ptr_same w _ Tryz.underlying99 hj]
 go_wp2
 go_end0
 exact ⟨rfl,rfl⟩
set_option maxHeartbeats 1000000 in
set_option maxRecDepth 100000 in
theorem Tryz.Builder_copyCheck_fresh (b : Nat) (w : World) (h0 : w.cell? ⟨b,0,none⟩ = some (.pointer none)) (hsh : w.shape? b = some (101,2)) (hfz : w.frozen? ⟨b,0,none⟩ = false) :
 Calls Tryz.prog 106 #[.pointer (some ⟨b,0,none⟩)] w fun e w' => e = .returned (.tuple #[]) /\ w' = w.setCell ⟨b,0,none⟩ (.pointer (some ⟨b,0,none⟩)) := by
 have X := Tryz.Builder_Extra_169.toX72
 obtain ⟨j,hj,hjs⟩ := Option.map_eq_some_iff.1 X.sizeBuilder
 go_enter Tryz.func106,Tryz.ntmps106
 go_wp2
 rw [Lib.run_to_unsafe w ⟨b,0,none⟩ Tryz.underlying99 Tryz.underlying114 hj (by rw [hjs]; decide) hsh (Nat.zero_lt_succ 1)]
 simp only [Result.andThen]
 rw [Oper.upon_value]
 go_wp2
 rw [run_callFunc_extern Tryz.func112 (by kernel_rfl) (by kernel_rfl) (by kernel_rfl) (e := Extern.AbiNoEscape.same) (by kernel_rfl)]
 rw [Lib.run_noEscape]
 simp only [Result.andThen]
 rw [Oper.upon_value]
 go_wp2
 rw [Lib.run_from_unsafe w ⟨b,0,none⟩ Tryz.underlying114 Tryz.underlying99 hj hsh X.liesBuilder]
 simp only [Result.andThen]
 rw [Oper.upon_value]
 go_wp2
 go_end0
 exact ⟨rfl,rfl⟩
theorem Tryz.Builder_copyCheck (B b : Nat) (bs : List Value) (w : World) (h : Lib.IsBuilder 101 5 B b bs w) :
 Calls Tryz.prog 106 #[.pointer (some ⟨b,0,none⟩)] w fun e w' => e = .returned (.tuple #[]) /\ (Lib.BuilderAt 101 5 B b (.pointer (some ⟨b,0,none⟩)) bs w' /\ Below B w w') := by
 rcases h with h | h
 ·refine (Tryz.Builder_copyCheck_fresh b w h.cell0 h.shape h.frozen0).mono ?_
  rintro e w' ⟨rfl,rfl⟩
  exact ⟨rfl,h.used _,(Below.refl B w).setCell (p := ⟨b,0,none⟩) h.1 _⟩
 ·refine (Tryz.Builder_copyCheck_used b w h.cell0).mono ?_
  rintro e w' ⟨rfl,rfl⟩
  exact ⟨rfl,h,Below.refl B _⟩
set_option maxHeartbeats 2000000 in
set_option maxRecDepth 100000 in
theorem Tryz.Builder_WriteByte (B b : Nat) (bs : List Value) (c : Int) (w : World) (h : Lib.IsBuilder 101 5 B b bs w) (hlen : bs.length + 1 <= 140737488355328) (hBw : B <= w.heap.size) :
 Calls Tryz.prog 90 #[.pointer (some ⟨b,0,none⟩),.int .u8 c] w fun e w' => e = .returned .nilIface /\ (Lib.BuilderAt 101 5 B b (.pointer (some ⟨b,0,none⟩)) (bs ++ [.int .u8 c]) w' /\ Below B w w') := by
 have X := Tryz.Builder_Extra_169
 obtain ⟨i0,hi,hz0,hz1,hz2⟩ := info_parts X.infoByte
 go_enter Tryz.func90,Tryz.ntmps90
 go_wp2_with (go_at_call 106; refine (Tryz.Builder_copyCheck B b bs _ h).mono ?_)
 rintro e w1 ⟨rfl,h1,hb1⟩
 obtain ⟨hB,v,hbk,hown,hne⟩ := h1
 have c0 : w1.cell? ⟨b,0,none⟩ = some (.pointer (some ⟨b,0,none⟩)) := by rw [Lib.cell_of_heap hbk]; rfl
 have c1 : w1.cell? ⟨b,1,none⟩ = some v := by rw [Lib.cell_of_heap hbk]; rfl
 go_wp2_with (at_builtin; refine wpList_append_own _ rfl _ _ 65 rfl B 5 i0 (.int .u8 0) 1 1 Tryz.underlying65 hi hz0 hz1 hz2 rfl (by decide) _ _ _ rfl (hown.alloc _) ⟨w1.heap.size,0,none⟩ 1 1 [.int .u8 c] rfl rfl ?c1 ?c2 ?c3 ?c4 ?c5 ?_)
 case c1 =>
  intro j u hj
  match j,hj with
  | 0,hj => simp at hj; subst hj; simp [Addr.add]
 case c2 => intro u hu; simp at hu; subst hu; rfl
 case c3 => unfold maxLen; omega
 case c4 => omega
 case c5 => have := hb1.size; simp; omega
 intro v' w2 hown' hgrow _
 have hlt : b < w1.heap.size := by
  rcases Nat.lt_or_ge b w1.heap.size with h' | h'
  ·exact h'
  ·simp [Array.getElem?_eq_none h'] at hbk
 have hb2 : w2.heap[b]? = some (.cells #[.pointer (some ⟨b,0,none⟩),v] 101 (0,0)) := by
  rw [hgrow.block b (by simp; omega) (fun e => hne e.symm),Lib.alloc_old w1 _ b hlt]
  exact hbk
 have d0 : w2.cell? ⟨b,0,none⟩ = some (.pointer (some ⟨b,0,none⟩)) := by rw [Lib.cell_of_heap hb2]; rfl
 have d1 : w2.cell? ⟨b,1,none⟩ = some v := by rw [Lib.cell_of_heap hb2]; rfl
 have f1 : w2.frozen? ⟨b,1,none⟩ = false := Lib.frozen_of_heap hb2 1
 obtain ⟨g,cap,rfl⟩ : ∃ g cap,v' = .slice (some ⟨g,0,none⟩) (bs.length + 1) cap := by
  rcases hown'.2 with ⟨_,h0⟩ | ⟨g,cap,cur,hv,_⟩
  ·omega
  ·exact ⟨g,cap,hv⟩
 go_wp2
 go_ret
 refine ⟨rfl,?_,?_⟩
 ·exact Lib.BuilderAt.put (T := 101) (e := 5) hB hb2 (bs' := bs ++ [.int .u8 c]) (by simpa using hown') X.neB5
 ·exact ((hb1.alloc (by have := hb1.size; omega) _).grown hgrow (by have := hb1.size; simp; omega) (fun k hk => (hown.lt k hk).1)).setCell (p := ⟨b,1,none⟩) hB _
end Go.Proofs
set_option linter.unusedVariables false
set_option maxRecDepth 100000
namespace Go.Ad
open Go Go.Rx Go.Proofs Go.RowKit
theorem ext_of {w w' : World} (h : Below w.heap.size w w') : w.Extends w' :=
 ⟨h.os,h.tape,h.output,h.size,fun a ha => by unfold World.cell?; rw [h.block a.block ha],fun a ha => by unfold World.frozen?; rw [h.block a.block ha],h.block⟩
theorem ok_ibs {wb : World} : OC wb k_ibs := by
 intro zs hz
 obtain ⟨rs,h1,h2,h3⟩ := ibs_ok (wb := wb) (f := 113) (id := 73) Tryz.func113 (by kernel_rfl) (by kernel_rfl) (by kernel_rfl) (by kernel_rfl) zs hz
 match zs,hz with
 | [s,c],hz =>
  refine ⟨rs,h1,?_,h3⟩
  subst h2
  rfl
theorem dd_cons (b : UInt8) (l : Tx) : dd (b :: l) = ((b == 46 && l.getD 0 0 == 46) || dd l) := by
 unfold dd
 rw [List.length_cons,List.range_succ_eq_map,List.any_cons,List.any_map]
 rfl
theorem dd_index : ∀ l : Tx,Lib.contains l [46,46] = dd l
 | [] => rfl
 | b :: l => by
  have ih := dd_index l
  unfold Lib.contains at ih ⊢
  rw [dd_cons,<- ih]
  have sym : ∀ x : UInt8,((46 : UInt8) == x) = (x == 46) := fun x => by rw [Bool.eq_iff_iff,beq_iff_eq,beq_iff_eq]; exact eq_comm
  have hp : ([46,46] : Tx).isPrefixOf (b :: l) = (b == 46 && l.getD 0 0 == 46) := by
   cases l with
   | nil =>
    show ((46 : UInt8) == b && false) = (b == 46 && ((0 : UInt8) == 46))
    rw [sym]; rfl
   | cons c r =>
    show ((46 : UInt8) == b && ((46 : UInt8) == c && true)) = (b == 46 && c == 46)
    rw [sym,sym,Bool.and_true]
  have he : Lib.index (b :: l) [46,46] = if ([46,46] : Tx).isPrefixOf (b :: l) = true then 0 else if (Lib.index l [46,46] == -1) = true then -1 else Lib.index l [46,46] + 1 := rfl
  rw [he,hp]
  cases (b == 46 && l.getD 0 0 == 46) with
  | true => rfl
  | false =>
   rw [if_neg (by decide),Bool.false_or]
   by_cases he : (Lib.index l [46,46] == -1) = true
   ·rw [if_pos he]
    have := beq_iff_eq.1 he
    rw [this]
   ·rw [if_neg he]
    have he : ¬ Lib.index l [46,46] = -1 := fun e => he (beq_iff_eq.2 e)
    have := Lib.index_ge [46,46] l
    rw [Bool.eq_iff_iff,decide_eq_true_eq,decide_eq_true_eq]
    omega
theorem ok_cdd {wb : World} (hc : ∃ m,wb.cell? ⟨0,0,none⟩ = some (.int .i64 m)) (h0 : 0 < wb.heap.size) : OQ wb q_cdd := by
 intro zs hz hp
 match zs,hz with
 | [z],hz =>
  refine ⟨[b01 (dd (sOf z))],⟨(b01_bd _).1,(b01_bd _).2,trivial⟩,rfl,fun w hw => .inr ⟨enters (by kernel_rfl) _ _,?_⟩⟩
  obtain ⟨m,hm⟩ := hc
  have hm' : w.cell? ⟨0,0,none⟩ = some (.int .i64 m) := by rw [hw.cell ⟨0,0,none⟩ h0]; exact hm
  have hl : (sOf z).length <= 4294967280 := hp
  refine (Tryz.strings_Contains (bA (sOf z)) (bA [46,46]) m w (by show (sOf z).toArray.size < _; simp; omega) hm').mono ?_
  rintro e w' ⟨rfl,rfl⟩
  refine ⟨?_,World.Extends.refl _⟩
  have e1 : (bA (sOf z)).data.toList = sOf z := by simp [bA]
  have e2 : (bA [46,46]).data.toList = [46,46] := rfl
  rw [e1,e2,dd_index]
  show _ = Ending.returned (Value.bool (decide (b01 (dd (sOf z)) = 1)))
  rw [b01_one]
theorem c_bd {l : Tx} {n : Nat} (h : l.length <= n) (hn : n <= 140737488351232) : 0 <= cOf l /\ cOf l <= HB := ⟨cOf_nonneg _,HB_c (by unfold mxL; omega)⟩
end Go.Ad
set_option linter.unusedSimpArgs false
namespace Go.Proofs
open Go.RowKit Go.Ad
def ctryR (s : Tx) : Value := match ctry s with | some (c,t) => .tuple #[.agg #[.string ⟨c.toArray⟩,.string ⟨t.toArray⟩],.bool true] | none => .tuple #[.agg #[.string ⟨#[]⟩,.string ⟨#[]⟩],.bool false]
theorem push_set {α : Type} (a : Array α) (x y : α) : (a.push x).setIfInBounds a.size y = a.push y := by
 apply Array.ext'
 simp
theorem ba_ne {s t : ByteArray} (h : ¬ s = t) : (s == t) = false := by
 cases h' : (s == t) with
 | false => rfl
 | true =>
  have h' : (s.data == t.data) = true := h'
  exact absurd (ByteArray.ext (eq_of_beq h')) h
def lookV (z : Value) : Option (Nat × Value) -> Value
 | some (_,v) => .tuple #[v,.bool true]
 | none => .tuple #[z,.bool false]
theorem map_put {P : Program} {mty kt et : TypeId} (hm : P.underlying mty = some (.map kt et)) (hk : P.underlying kt = some .string) (W : World) (es : Array MapEntry) (clock : Nat) (s : ByteArray) (v : Value) (hf : Instr.findNow .string (.string s) es.toList 0 = some none) :
 (Instr.mapUpdate mty (.map (some W.heap.size)) (.string s) v).run P (W.alloc (.map es clock)) = .ok () (W.alloc (.map (es.push { key := .string s,val := v,born := clock }) (clock + 1))) := by
 have hb : (W.alloc (.map es clock)).heap[W.heap.size]? = some (.map es clock) := heap_alloc_new W _
 have hc : (Instr.checkKey false 10000 kt (.string s)).run P (W.alloc (.map es clock)) = .ok () (W.alloc (.map es clock)) := MapKept.run_checkKey (k := .string s) hk (by simp [MapKept.IsKey]) false 9999
 simp only [Instr.mapUpdate,Sem.run_bind,run_underlying hm,Result.andThen,MapKept.run_getObj_map hb,Sem.run_pure,hc,MapKept.run_findKey hk hf,MapKept.run_setObj_map _ hb]
 simp only [World.alloc,push_set]
theorem map_look {P : Program} {mty kt et : TypeId} {z : Value} (hm : P.underlying mty = some (.map kt et)) (hk : P.underlying kt = some .string) (hz : ∀ w,(zeroValue et).run P w = .ok z w) (W : World) (es : Array MapEntry) (clock : Nat) (s : ByteArray) (a : Option (Nat × Value)) (hf : Instr.findNow .string (.string s) es.toList 0 = some a) :
 (Instr.lookup mty (.map (some W.heap.size)) (.string s) true).run P (W.alloc (.map es clock)) = .ok (lookV z a) (W.alloc (.map es clock)) := by
 have hb : (W.alloc (.map es clock)).heap[W.heap.size]? = some (.map es clock) := heap_alloc_new W _
 have hc : (Instr.checkKey es.isEmpty 10000 kt (.string s)).run P (W.alloc (.map es clock)) = .ok () (W.alloc (.map es clock)) := MapKept.run_checkKey (k := .string s) hk (by simp [MapKept.IsKey]) _ 9999
 simp only [Instr.lookup,Sem.run_bind,run_underlying hm,Result.andThen,MapKept.run_getObj_map hb,Sem.run_pure,hc,MapKept.run_findKey hk hf]
 cases a with
 | none => simp [hz,lookV]
 | some p => simp [lookV]
theorem ba_eq {s t : ByteArray} : s = t ↔ s.data.toList = t.data.toList := ⟨fun h => by rw [h],fun h => ByteArray.ext (Array.toList_inj.1 h)⟩
def lands : Array MapEntry := #[{ key := Value.string { data := #[] },val := Value.agg #[Value.string { data := #[] },Value.string { data := #[] }],born := 0 },{ key := Value.string { data := #[71,66] },val := Value.agg #[Value.string { data := #[52,52] },Value.string { data := #[48] }],born := 1 },{ key := Value.string { data := #[85,83] },val := Value.agg #[Value.string { data := #[49] },Value.string { data := #[] }],born := 2 },{ key := Value.string { data := #[68,69] },val := Value.agg #[Value.string { data := #[52,57] },Value.string { data := #[48] }],born := 3 },{ key := Value.string { data := #[70,82] },val := Value.agg #[Value.string { data := #[51,51] },Value.string { data := #[48] }],born := 4 },{ key := Value.string { data := #[67,72] },val := Value.agg #[Value.string { data := #[52,49] },Value.string { data := #[48] }],born := 5 }]
theorem lands_find (s : ByteArray) : ∃ a,Instr.findNow .string (.string s) lands.toList 0 = some a /\ lookV (.agg #[.string ⟨#[]⟩,.string ⟨#[]⟩]) a = ctryR s.data.toList := by
 by_cases h0 : s = { data := #[] }
 ·subst h0; exact ⟨_,rfl,rfl⟩
 by_cases h1 : s = { data := #[71,66] }
 ·subst h1; exact ⟨_,rfl,rfl⟩
 by_cases h2 : s = { data := #[85,83] }
 ·subst h2; exact ⟨_,rfl,rfl⟩
 by_cases h3 : s = { data := #[68,69] }
 ·subst h3; exact ⟨_,rfl,rfl⟩
 by_cases h4 : s = { data := #[70,82] }
 ·subst h4; exact ⟨_,rfl,rfl⟩
 by_cases h5 : s = { data := #[67,72] }
 ·subst h5; exact ⟨_,rfl,rfl⟩
 have n : ∀ t : ByteArray,¬ s = t -> (s == t) = false := fun t h => ba_ne h
 refine ⟨none,?_,?_⟩
 ·simp only [lands,Instr.findNow,Instr.sameNow,n _ h0,n _ h1,n _ h2,n _ h3,n _ h4,n _ h5]
 ·have m : ∀ t : Tx,¬ s = ⟨t.toArray⟩ -> (s.data.toList == t) = false := fun t h => by
   cases hh : (s.data.toList == t) with
   | false => rfl
   | true => exact absurd (ba_eq.2 (by rw [beq_iff_eq.1 hh])) h
  unfold ctryR ctry
  rw [m [] h0,m [71,66] h1,m [85,83] h2,m [68,69] h3,m [70,82] h4,m [67,72] h5]
  rfl
set_option maxHeartbeats 4000000 in
set_option maxRecDepth 1000000 in
theorem Tryz.country_walk (s : ByteArray) (w : World) :
 Calls Tryz.prog 68 #[.string s] w fun e w' => e = .returned (ctryR s.data.toList) /\ Below w.heap.size w w' := by
 go_enter Tryz.func68,Tryz.ntmps68
 have hmk : ∀ W : World,(Instr.makeMap 98 none).run Tryz.prog W = .ok (.map (some W.heap.size)) (W.alloc (.map #[] 0)) := fun W => run_makeMap 98 W
 have hp0 : (Instr.mapUpdate 98 (.map (some (w.heap.size + 1))) (.string { data := #[] }) (Value.agg #[Value.string { data := #[] },Value.string { data := #[] }])).run Tryz.prog ((w.alloc (Obj.cells #[Value.string { data := #[] },Value.string { data := #[] }] 80)).alloc (.map #[] 0)) = .ok () ((w.alloc (Obj.cells #[Value.string { data := #[] },Value.string { data := #[] }] 80)).alloc (.map #[{ key := Value.string { data := #[] },val := Value.agg #[Value.string { data := #[] },Value.string { data := #[] }],born := 0 }] 1)) := by
  have := map_put Tryz.underlying98 Tryz.underlying9 (w.alloc (Obj.cells #[Value.string { data := #[] },Value.string { data := #[] }] 80)) #[] 0 { data := #[] } (Value.agg #[Value.string { data := #[] },Value.string { data := #[] }]) rfl
  simpa using this
 have hp1 : (Instr.mapUpdate 98 (.map (some (w.heap.size + 1))) (.string { data := #[71,66] }) (Value.agg #[Value.string { data := #[52,52] },Value.string { data := #[48] }])).run Tryz.prog ((w.alloc (Obj.cells #[Value.string { data := #[] },Value.string { data := #[] }] 80)).alloc (.map #[{ key := Value.string { data := #[] },val := Value.agg #[Value.string { data := #[] },Value.string { data := #[] }],born := 0 }] 1)) = .ok () ((w.alloc (Obj.cells #[Value.string { data := #[] },Value.string { data := #[] }] 80)).alloc (.map #[{ key := Value.string { data := #[] },val := Value.agg #[Value.string { data := #[] },Value.string { data := #[] }],born := 0 },{ key := Value.string { data := #[71,66] },val := Value.agg #[Value.string { data := #[52,52] },Value.string { data := #[48] }],born := 1 }] 2)) := by
  have := map_put Tryz.underlying98 Tryz.underlying9 (w.alloc (Obj.cells #[Value.string { data := #[] },Value.string { data := #[] }] 80)) #[{ key := Value.string { data := #[] },val := Value.agg #[Value.string { data := #[] },Value.string { data := #[] }],born := 0 }] 1 { data := #[71,66] } (Value.agg #[Value.string { data := #[52,52] },Value.string { data := #[48] }]) rfl
  simpa using this
 have hp2 : (Instr.mapUpdate 98 (.map (some (w.heap.size + 1))) (.string { data := #[85,83] }) (Value.agg #[Value.string { data := #[49] },Value.string { data := #[] }])).run Tryz.prog ((w.alloc (Obj.cells #[Value.string { data := #[] },Value.string { data := #[] }] 80)).alloc (.map #[{ key := Value.string { data := #[] },val := Value.agg #[Value.string { data := #[] },Value.string { data := #[] }],born := 0 },{ key := Value.string { data := #[71,66] },val := Value.agg #[Value.string { data := #[52,52] },Value.string { data := #[48] }],born := 1 }] 2)) = .ok () ((w.alloc (Obj.cells #[Value.string { data := #[] },Value.string { data := #[] }] 80)).alloc (.map #[{ key := Value.string { data := #[] },val := Value.agg #[Value.string { data := #[] },Value.string { data := #[] }],born := 0 },{ key := Value.string { data := #[71,66] },val := Value.agg #[Value.string { data := #[52,52] },Value.string { data := #[48] }],born := 1 },{ key := Value.string { data := #[85,83] },val := Value.agg #[Value.string { data := #[49] },Value.string { data := #[] }],born := 2 }] 3)) := by
  have := map_put Tryz.underlying98 Tryz.underlying9 (w.alloc (Obj.cells #[Value.string { data := #[] },Value.string { data := #[] }] 80)) #[{ key := Value.string { data := #[] },val := Value.agg #[Value.string { data := #[] },Value.string { data := #[] }],born := 0 },{ key := Value.string { data := #[71,66] },val := Value.agg #[Value.string { data := #[52,52] },Value.string { data := #[48] }],born := 1 }] 2 { data := #[85,83] } (Value.agg #[Value.string { data := #[49] },Value.string { data := #[] }]) rfl
  simpa using this
 have hp3 : (Instr.mapUpdate 98 (.map (some (w.heap.size + 1))) (.string { data := #[68,69] }) (Value.agg #[Value.string { data := #[52,57] },Value.string { data := #[48] }])).run Tryz.prog ((w.alloc (Obj.cells #[Value.string { data := #[] },Value.string { data := #[] }] 80)).alloc (.map #[{ key := Value.string { data := #[] },val := Value.agg #[Value.string { data := #[] },Value.string { data := #[] }],born := 0 },{ key := Value.string { data := #[71,66] },val := Value.agg #[Value.string { data := #[52,52] },Value.string { data := #[48] }],born := 1 },{ key := Value.string { data := #[85,83] },val := Value.agg #[Value.string { data := #[49] },Value.string { data := #[] }],born := 2 }] 3)) = .ok () ((w.alloc (Obj.cells #[Value.string { data := #[] },Value.string { data := #[] }] 80)).alloc (.map #[{ key := Value.string { data := #[] },val := Value.agg #[Value.string { data := #[] },Value.string { data := #[] }],born := 0 },{ key := Value.string { data := #[71,66] },val := Value.agg #[Value.string { data := #[52,52] },Value.string { data := #[48] }],born := 1 },{ key := Value.string { data := #[85,83] },val := Value.agg #[Value.string { data := #[49] },Value.string { data := #[] }],born := 2 },{ key := Value.string { data := #[68,69] },val := Value.agg #[Value.string { data := #[52,57] },Value.string { data := #[48] }],born := 3 }] 4)) := by
  have := map_put Tryz.underlying98 Tryz.underlying9 (w.alloc (Obj.cells #[Value.string { data := #[] },Value.string { data := #[] }] 80)) #[{ key := Value.string { data := #[] },val := Value.agg #[Value.string { data := #[] },Value.string { data := #[] }],born := 0 },{ key := Value.string { data := #[71,66] },val := Value.agg #[Value.string { data := #[52,52] },Value.string { data := #[48] }],born := 1 },{ key := Value.string { data := #[85,83] },val := Value.agg #[Value.string { data := #[49] },Value.string { data := #[] }],born := 2 }] 3 { data := #[68,69] } (Value.agg #[Value.string { data := #[52,57] },Value.string { data := #[48] }]) rfl
  simpa using this
 have hp4 : (Instr.mapUpdate 98 (.map (some (w.heap.size + 1))) (.string { data := #[70,82] }) (Value.agg #[Value.string { data := #[51,51] },Value.string { data := #[48] }])).run Tryz.prog ((w.alloc (Obj.cells #[Value.string { data := #[] },Value.string { data := #[] }] 80)).alloc (.map #[{ key := Value.string { data := #[] },val := Value.agg #[Value.string { data := #[] },Value.string { data := #[] }],born := 0 },{ key := Value.string { data := #[71,66] },val := Value.agg #[Value.string { data := #[52,52] },Value.string { data := #[48] }],born := 1 },{ key := Value.string { data := #[85,83] },val := Value.agg #[Value.string { data := #[49] },Value.string { data := #[] }],born := 2 },{ key := Value.string { data := #[68,69] },val := Value.agg #[Value.string { data := #[52,57] },Value.string { data := #[48] }],born := 3 }] 4)) = .ok () ((w.alloc (Obj.cells #[Value.string { data := #[] },Value.string { data := #[] }] 80)).alloc (.map #[{ key := Value.string { data := #[] },val := Value.agg #[Value.string { data := #[] },Value.string { data := #[] }],born := 0 },{ key := Value.string { data := #[71,66] },val := Value.agg #[Value.string { data := #[52,52] },Value.string { data := #[48] }],born := 1 },{ key := Value.string { data := #[85,83] },val := Value.agg #[Value.string { data := #[49] },Value.string { data := #[] }],born := 2 },{ key := Value.string { data := #[68,69] },val := Value.agg #[Value.string { data := #[52,57] },Value.string { data := #[48] }],born := 3 },{ key := Value.string { data := #[70,82] },val := Value.agg #[Value.string { data := #[51,51] },Value.string { data := #[48] }],born := 4 }] 5)) := by
  have := map_put Tryz.underlying98 Tryz.underlying9 (w.alloc (Obj.cells #[Value.string { data := #[] },Value.string { data := #[] }] 80)) #[{ key := Value.string { data := #[] },val := Value.agg #[Value.string { data := #[] },Value.string { data := #[] }],born := 0 },{ key := Value.string { data := #[71,66] },val := Value.agg #[Value.string { data := #[52,52] },Value.string { data := #[48] }],born := 1 },{ key := Value.string { data := #[85,83] },val := Value.agg #[Value.string { data := #[49] },Value.string { data := #[] }],born := 2 },{ key := Value.string { data := #[68,69] },val := Value.agg #[Value.string { data := #[52,57] },Value.string { data := #[48] }],born := 3 }] 4 { data := #[70,82] } (Value.agg #[Value.string { data := #[51,51] },Value.string { data := #[48] }]) rfl
  simpa using this
 have hp5 : (Instr.mapUpdate 98 (.map (some (w.heap.size + 1))) (.string { data := #[67,72] }) (Value.agg #[Value.string { data := #[52,49] },Value.string { data := #[48] }])).run Tryz.prog ((w.alloc (Obj.cells #[Value.string { data := #[] },Value.string { data := #[] }] 80)).alloc (.map #[{ key := Value.string { data := #[] },val := Value.agg #[Value.string { data := #[] },Value.string { data := #[] }],born := 0 },{ key := Value.string { data := #[71,66] },val := Value.agg #[Value.string { data := #[52,52] },Value.string { data := #[48] }],born := 1 },{ key := Value.string { data := #[85,83] },val := Value.agg #[Value.string { data := #[49] },Value.string { data := #[] }],born := 2 },{ key := Value.string { data := #[68,69] },val := Value.agg #[Value.string { data := #[52,57] },Value.string { data := #[48] }],born := 3 },{ key := Value.string { data := #[70,82] },val := Value.agg #[Value.string { data := #[51,51] },Value.string { data := #[48] }],born := 4 }] 5)) = .ok () ((w.alloc (Obj.cells #[Value.string { data := #[] },Value.string { data := #[] }] 80)).alloc (.map #[{ key := Value.string { data := #[] },val := Value.agg #[Value.string { data := #[] },Value.string { data := #[] }],born := 0 },{ key := Value.string { data := #[71,66] },val := Value.agg #[Value.string { data := #[52,52] },Value.string { data := #[48] }],born := 1 },{ key := Value.string { data := #[85,83] },val := Value.agg #[Value.string { data := #[49] },Value.string { data := #[] }],born := 2 },{ key := Value.string { data := #[68,69] },val := Value.agg #[Value.string { data := #[52,57] },Value.string { data := #[48] }],born := 3 },{ key := Value.string { data := #[70,82] },val := Value.agg #[Value.string { data := #[51,51] },Value.string { data := #[48] }],born := 4 },{ key := Value.string { data := #[67,72] },val := Value.agg #[Value.string { data := #[52,49] },Value.string { data := #[48] }],born := 5 }] 6)) := by
  have := map_put Tryz.underlying98 Tryz.underlying9 (w.alloc (Obj.cells #[Value.string { data := #[] },Value.string { data := #[] }] 80)) #[{ key := Value.string { data := #[] },val := Value.agg #[Value.string { data := #[] },Value.string { data := #[] }],born := 0 },{ key := Value.string { data := #[71,66] },val := Value.agg #[Value.string { data := #[52,52] },Value.string { data := #[48] }],born := 1 },{ key := Value.string { data := #[85,83] },val := Value.agg #[Value.string { data := #[49] },Value.string { data := #[] }],born := 2 },{ key := Value.string { data := #[68,69] },val := Value.agg #[Value.string { data := #[52,57] },Value.string { data := #[48] }],born := 3 },{ key := Value.string { data := #[70,82] },val := Value.agg #[Value.string { data := #[51,51] },Value.string { data := #[48] }],born := 4 }] 5 { data := #[67,72] } (Value.agg #[Value.string { data := #[52,49] },Value.string { data := #[48] }]) rfl
  simpa using this
 obtain ⟨c,t,ok,hl,hv⟩ : ∃ (c t : ByteArray) (ok : Bool),(Instr.lookup 98 (.map (some (w.heap.size + 1))) (.string s) true).run Tryz.prog ((w.alloc (Obj.cells #[Value.string { data := #[] },Value.string { data := #[] }] 80)).alloc (.map #[{ key := Value.string { data := #[] },val := Value.agg #[Value.string { data := #[] },Value.string { data := #[] }],born := 0 },{ key := Value.string { data := #[71,66] },val := Value.agg #[Value.string { data := #[52,52] },Value.string { data := #[48] }],born := 1 },{ key := Value.string { data := #[85,83] },val := Value.agg #[Value.string { data := #[49] },Value.string { data := #[] }],born := 2 },{ key := Value.string { data := #[68,69] },val := Value.agg #[Value.string { data := #[52,57] },Value.string { data := #[48] }],born := 3 },{ key := Value.string { data := #[70,82] },val := Value.agg #[Value.string { data := #[51,51] },Value.string { data := #[48] }],born := 4 },{ key := Value.string { data := #[67,72] },val := Value.agg #[Value.string { data := #[52,49] },Value.string { data := #[48] }],born := 5 }] 6)) = .ok (.tuple #[.agg #[.string c,.string t],.bool ok]) ((w.alloc (Obj.cells #[Value.string { data := #[] },Value.string { data := #[] }] 80)).alloc (.map #[{ key := Value.string { data := #[] },val := Value.agg #[Value.string { data := #[] },Value.string { data := #[] }],born := 0 },{ key := Value.string { data := #[71,66] },val := Value.agg #[Value.string { data := #[52,52] },Value.string { data := #[48] }],born := 1 },{ key := Value.string { data := #[85,83] },val := Value.agg #[Value.string { data := #[49] },Value.string { data := #[] }],born := 2 },{ key := Value.string { data := #[68,69] },val := Value.agg #[Value.string { data := #[52,57] },Value.string { data := #[48] }],born := 3 },{ key := Value.string { data := #[70,82] },val := Value.agg #[Value.string { data := #[51,51] },Value.string { data := #[48] }],born := 4 },{ key := Value.string { data := #[67,72] },val := Value.agg #[Value.string { data := #[52,49] },Value.string { data := #[48] }],born := 5 }] 6)) /\ Hid (Value.tuple #[.agg #[.string c,.string t],.bool ok] = ctryR s.data.toList) := by
  obtain ⟨a,hf,ha⟩ := lands_find s
  have := map_look (z := .agg #[.string ⟨#[]⟩,.string ⟨#[]⟩]) Tryz.underlying98 Tryz.underlying9 (fun w => Tryz.zeroValue80 w) (w.alloc (Obj.cells #[Value.string { data := #[] },Value.string { data := #[] }] 80)) lands 6 s a hf
  have hsz : (w.alloc (Obj.cells #[Value.string { data := #[] },Value.string { data := #[] }] 80)).heap.size = w.heap.size + 1 := by simp
  rw [hsz,ha] at this
  have hr : ∃ (c t : ByteArray) (ok : Bool),ctryR s.data.toList = Value.tuple #[.agg #[.string c,.string t],.bool ok] := by
   unfold ctryR
   cases ctry s.data.toList with
   | none => exact ⟨_,_,_,rfl⟩
   | some p => exact ⟨_,_,_,rfl⟩
  obtain ⟨c,t,ok,hr⟩ := hr
  rw [hr] at this
  exact ⟨c,t,ok,this,hr.symm⟩
 go_wp2
 refine bodyPost_ret (v := .tuple #[.agg #[.string c,.string t],.bool ok]) ?_ rfl ⟨congrArg _ hv,(((Below.refl _ w).alloc (Nat.le_refl _) _).alloc (by simp) _).alloc (by simp; omega) _⟩
 have hg : ∀ o1 o2 : Obj,(((w.alloc (Obj.cells #[Value.string c,Value.string t] 80)).alloc o1).alloc o2).heap[w.heap.size]? = some (.cells #[.string c,.string t] 80 (0,0)) := fun o1 o2 => by
  rw [Lib.alloc_old _ _ _ (by simp; omega),Lib.alloc_old _ _ _ (by simp),heap_alloc_new]
 have h46 := run_loadVar_row (P := Tryz.prog) (((w.alloc (Obj.cells #[Value.string c,Value.string t] 80)).alloc (.map lands 6)).alloc (Obj.cells #[Value.string c,Value.string t] 80)) w.heap.size 80 80 #[.string c,.string t] (0,0) _ (hg _ _) Tryz.underlying80 rfl (by kernel_rfl)
 rw [results_cell_tmp rfl]
 show ((loadVar 80 ⟨w.heap.size,0,none⟩).run Tryz.prog (((w.alloc (Obj.cells #[Value.string c,Value.string t] 80)).alloc (.map lands 6)).alloc (Obj.cells #[Value.string c,Value.string t] 80))).andThen _ = _
 rw [h46]
 rfl
end Go.Proofs
set_option linter.unusedVariables false
set_option maxRecDepth 100000
namespace Go.Ad
open Go Go.Rx Go.Proofs Go.RowKit
theorem ok_country {wb : World} : OC wb k_country := by
 intro zs hz
 match zs,hz with
 | [z],hz =>
  have hw := fun w => Tryz.country_walk (bA (sOf z)) w
  have e1 : (bA (sOf z)).data.toList = sOf z := by simp [bA]
  cases hct : ctry (sOf z) with
  | none =>
   refine ⟨[0,0,0],⟨Int.le_refl _,HB_pos,Int.le_refl _,HB_pos,by decide,by decide,trivial⟩,?_,fun w _ => .inr ⟨enters (by kernel_rfl) _ _,?_⟩⟩
   ·show (match ctry (sOf z) with | some (code,trunk) => sOf 0 = code /\ sOf 0 = trunk /\ (0 : Int) = 1 | none => (0 : Int) = 0 /\ sOf 0 = [] /\ sOf 0 = [])
    rw [hct]; exact ⟨rfl,rfl,rfl⟩
   ·refine (hw w).mono ?_
    rintro e w' ⟨rfl,hb⟩
    refine ⟨?_,ext_of hb⟩
    rw [e1]; unfold ctryR; rw [hct]; rfl
  | some ct =>
   obtain ⟨c,t⟩ := ct
   have h1 := c_bd (ctry_len hct) (by decide)
   have h2 : 0 <= cOf t /\ cOf t <= HB := c_bd (n := 1) (by rcases ctry_trunk hct with h | h <;> rw [h] <;> decide) (by decide)
   refine ⟨[cOf c,cOf t,1],⟨h1.1,h1.2,h2.1,h2.2,by decide,by decide,trivial⟩,?_,fun w _ => .inr ⟨enters (by kernel_rfl) _ _,?_⟩⟩
   ·show (match ctry (sOf z) with | some (code,trunk) => sOf (cOf c) = code /\ sOf (cOf t) = trunk /\ (1 : Int) = 1 | none => (1 : Int) = 0 /\ sOf (cOf c) = [] /\ sOf (cOf t) = [])
    rw [hct]; exact ⟨sOf_cOf _,sOf_cOf _,rfl⟩
   ·refine (hw w).mono ?_
    rintro e w' ⟨rfl,hb⟩
    refine ⟨?_,ext_of hb⟩
    rw [e1]; unfold ctryR; rw [hct]
    show _ = Ending.returned (.tuple #[.agg #[.string (bA (sOf (cOf c))),.string (bA (sOf (cOf t)))],.bool true])
    rw [sOf_cOf,sOf_cOf]; rfl
end Go.Ad
namespace Go.Proofs
open Go.RowKit Go.Ad
theorem bsz (s : ByteArray) : s.data.toList.length = s.size := by rw [Array.length_toList]; rfl
def barR (s : Tx) : Value := match bareF s [] false with | some (d,p) => .tuple #[.string ⟨d.toArray⟩,.bool p,.bool true] | none => .tuple #[.string ⟨#[]⟩,.bool false,.bool false]
theorem isD_iff (c : UInt8) : isD c = true ↔ (48 : Int) <= c.toNat /\ (c.toNat : Int) <= 57 := by
 unfold isD; rw [Bool.and_eq_true,Nat.ble_eq,Nat.ble_eq]; omega
theorem sep_call (c : UInt8) : ∃ R : Int,(R < 0 ↔ seps.contains c = false) /\ ∀ w,Calls Tryz.prog 92 #[.string { data := #[32,45,46,40,41] },.int .u8 c.toNat] w fun e w' => e = .returned (.int .i64 R) /\ w' = w := by
 refine ⟨Lib.indexByte seps c,?_,fun w => ?_⟩
 ·rw [Lib.contains_iff_indexByte]; simp
 ·have := Tryz.strings_IndexByte ⟨#[32,45,46,40,41]⟩ (c.toNat : Int) w
  have e : (c.toNat : Int).toNat.toUInt8 = c := by simp
  rw [e] at this
  exact this
theorem len_call (d : Tx) (b : Nat) (w : World) (h : Lib.IsBuilder 101 5 b b (Lib.byteCells d) w) : Calls Tryz.prog 91 #[.pointer (some ⟨b,0,none⟩)] w fun e w' => e = .returned (.int .i64 d.length) /\ w' = w := by
 have := Tryz.Builder_Len b b _ w h
 rwa [Lib.byteCells_length] at this
set_option maxHeartbeats 4000000 in
set_option maxRecDepth 1000000 in
theorem Tryz.bare_walk (s : ByteArray) (w : World) (hs : s.size <= 140737488351232) :
 Calls Tryz.prog 69 #[.string s] w fun e w' => e = .returned (barR s.data.toList) /\ Below w.heap.size w w' := by
 go_enter Tryz.func69,Tryz.ntmps69
 go_wp2
 go_loopw [10,3] (fun vi vp wr => ∃ (i : Nat) (d : List UInt8) (p : Bool),vi = .int .i64 i /\ vp = .bool p /\ i <= s.size /\ d.length <= i /\ Hid (bareF (s.data.toList.drop i) d p = bareF s.data.toList [] false) /\ Lib.IsBuilder 101 5 w.heap.size w.heap.size (Lib.byteCells d) wr /\ Below w.heap.size w wr) (fun vi _ _ => s.size - (RowKit.intOf vi).toNat)
 case atStart =>
  exact ⟨0,[],false,rfl,rfl,Nat.zero_le _,Nat.le_refl _,rfl,Lib.fresh_isBuilder 101 5 w,(Below.refl _ w).alloc (Nat.le_refl _) _⟩
 case round =>
  obtain ⟨i,d,p,rfl,rfl,hi,hd,hb,hI,hbw⟩ := hrel
  have hsz : s.data.toList.length = s.size := bsz s
  by_cases hlt : i < s.size
  ·have hlt' : (i : Int) < (s.size : Int) := by omega
   have hnn : ¬ ((i : Int) < 0) := by omega
   have hc : s.data.toList.getD i 0 = s[i] := by
    simp only [List.getD,List.getElem?_eq_getElem (show i < s.data.toList.length by omega),Option.getD_some]
    rfl
   have hst := bare_step (s := s.data.toList) (d := d) (p := p) (i := i) (by omega)
   rw [hc] at hst
   have hD := isD_iff s[i]
   have fin : ∀ {d' : Tx} {p' : Bool},bareF (List.drop i s.data.toList) d p = bareF (List.drop (i + 1) s.data.toList) d' p' -> Hid (bareF (List.drop (i + 1) s.data.toList) d' p' = bareF s.data.toList [] false) := fun h => by
    have hb : bareF (List.drop i s.data.toList) d p = bareF s.data.toList [] false := hb
    show _ = _
    rw [<- hb,h]
   have bad : bareF (List.drop i s.data.toList) d p = none -> Value.tuple #[.string ⟨#[]⟩,.bool false,.bool false] = barR s.data.toList := fun h => by
    have hb : bareF (List.drop i s.data.toList) d p = bareF s.data.toList [] false := hb
    unfold barR
    rw [<- hb,h]
   obtain ⟨R,hR,hcall⟩ := sep_call s[i]
   have hLen := fun W => len_call d w.heap.size W
   by_cases h48 : (48 : Int) <= s[i].toNat /\ (s[i].toNat : Int) <= 57
   ·have hdig := hD.2 h48
    obtain ⟨h48,h57⟩ := h48
    rw [hdig,cond_true] at hst
    clear hR hcall hLen bad
    go_wp2_with (go_at_call 90; refine (Tryz.Builder_WriteByte w.heap.size w.heap.size _ _ _ hI (by rw [Lib.byteCells_length]; omega) hbw.size).mono ?_)
    rintro e W1 rfl h1 b1
    go_wp2
    go_roundw
    case rel =>
     refine ⟨i + 1,d ++ [s[i]],p,by simp,rfl,by omega,by simp; omega,fin hst,?_,hbw.trans b1⟩
     rw [Lib.byteCells_append]; exact Or.inr h1
    case measure => simp [intOf]; omega
   ·have hnd : isD s[i] = false := by
     cases hh : isD s[i] with
     | false => rfl
     | true => exact absurd (hD.1 hh) h48
    rw [hnd,cond_false] at hst
    by_cases h43 : s[i] = 43
    ·have e43 : (s[i].toNat : Int) = 43 := by rw [h43]; rfl
     have n48 : ¬ (48 : Int) <= s[i].toNat := by omega
     have hns : seps.contains s[i] = false := by rw [h43]; rfl
     have hRn := hR.2 hns
     rw [hns,cond_false] at hst
     by_cases hgo : d.length = 0 /\ p = false
     ·obtain ⟨hd0,rfl⟩ := hgo
      have hd0' : d = [] := List.length_eq_zero_iff.1 hd0
      have hst' : bareF (List.drop i s.data.toList) d false = bareF (List.drop (i + 1) s.data.toList) d true := by
       rw [hst,h43,hd0']; rfl
      have hd0i : (d.length : Int) = 0 := by omega
      rw [hd0i] at hLen
      go_wp2_with (go_at_call 91; refine (hLen _ hI).mono ?_)
      go_roundw
      case rel =>
       exact ⟨i + 1,d,true,by simp,rfl,by omega,by omega,fin hst',hI,hbw⟩
      case measure => simp [intOf]; omega
     ·have hno : bareF (List.drop i s.data.toList) d p = none := by
       rw [hst]
       have : (d.isEmpty && !p) = false := by
        cases d with
        | nil =>
         cases p with
         | true => rfl
         | false => exact absurd ⟨rfl,rfl⟩ hgo
        | cons x r => rfl
       rw [Bool.and_assoc,this,Bool.and_false]; rfl
      have hbad := bad hno
      clear hR
      rw [e43] at hcall
      by_cases hd0 : d.length = 0
      ·have hp : p = true := by
        cases p with
        | true => rfl
        | false => exact absurd ⟨hd0,rfl⟩ hgo
       subst hp
       have hd0i : (d.length : Int) = 0 := by omega
       rw [hd0i] at hLen
       go_wp2_with (go_at_call 91; refine (hLen _ hI).mono ?_)
       go_wp2_with (go_at_call 92; refine (hcall _).mono ?_)
       rintro e W1 ⟨rfl,rfl⟩
       go_wp2
       go_ret3
       refine ⟨?_,hbw⟩
       rw [<- hbad]
       rfl
      ·have hd0i : ¬ (d.length : Int) = 0 := by omega
       go_wp2_with (go_at_call 91; refine (hLen _ hI).mono ?_)
       go_wp2_with (go_at_call 92; refine (hcall _).mono ?_)
       rintro e W1 ⟨rfl,rfl⟩
       go_wp2
       go_ret3
       refine ⟨?_,hbw⟩
       rw [<- hbad]
       rfl
    ·have n43 : ¬ (s[i].toNat : Int) = 43 := fun e => h43 (by rw [<- UInt8.toNat_inj]; show s[i].toNat = 43; omega)
     have e43 : (s[i] == 43) = false := by simpa using h43
     rw [e43,Bool.false_and,Bool.false_and,cond_false] at hst
     have h48' : ¬ (48 : Int) <= s[i].toNat ∨ ((48 : Int) <= s[i].toNat /\ ¬ (s[i].toNat : Int) <= 57) := by omega
     cases hsp : seps.contains s[i] with
     | false =>
      have hRn := hR.2 hsp
      rw [hsp,cond_false] at hst
      have hbad := bad hst
      clear hR
      rcases h48' with n48 | ⟨y48,n57⟩
      ·go_wp2_with (go_at_call 92; refine (hcall _).mono ?_)
       go_ret3
       refine ⟨?_,hbw⟩
       rw [<- hbad]
       rfl
      ·go_wp2_with (go_at_call 92; refine (hcall _).mono ?_)
       go_ret3
       refine ⟨?_,hbw⟩
       rw [<- hbad]
       rfl
     | true =>
      have hRn : ¬ R < 0 := fun h => by have := hR.1 h; rw [hsp] at this; cases this
      rw [hsp,cond_true] at hst
      clear hR
      rcases h48' with n48 | ⟨y48,n57⟩
      ·go_wp2_with (go_at_call 92; refine (hcall _).mono ?_)
       go_roundw
       case rel => exact ⟨i + 1,d,p,by simp,rfl,by omega,by omega,fin hst,hI,hbw⟩
       case measure => simp [intOf]; omega
      ·go_wp2_with (go_at_call 92; refine (hcall _).mono ?_)
       go_roundw
       case rel => exact ⟨i + 1,d,p,by simp,rfl,by omega,by omega,fin hst,hI,hbw⟩
       case measure => simp [intOf]; omega
  ·have hge : ¬ (i : Int) < (s.size : Int) := by omega
   go_wp2_with (go_at_call 93; refine (Tryz.Builder_String_any w.heap.size w.heap.size d _ hI hbw.size).mono ?_)
   rintro e W1 rfl b1
   go_wp2
   go_ret3
   have hb : bareF (List.drop i s.data.toList) d p = bareF s.data.toList [] false := hb
   rw [List.drop_of_length_le (by omega),bareF] at hb
   refine ⟨?_,hbw.trans b1⟩
   unfold barR
   rw [<- hb]
   rfl
end Go.Proofs
set_option linter.unusedVariables false
set_option maxRecDepth 100000
namespace Go.Ad
open Go Go.Rx Go.Proofs Go.RowKit
theorem ok_bare {wb : World} : OC wb k_bare := by
 intro zs hz
 match zs,hz with
 | [z],hz =>
  have hl : (sOf z).length <= 140737488351232 := HB_s hz.2.1
  have hw := fun w => Tryz.bare_walk (bA (sOf z)) w (by show (sOf z).toArray.size <= _; simpa using hl)
  have e1 : (bA (sOf z)).data.toList = sOf z := by simp [bA]
  cases hct : bareF (sOf z) [] false with
  | none =>
   refine ⟨[0,0,0],⟨Int.le_refl _,HB_pos,by decide,by decide,by decide,by decide,trivial⟩,?_,fun w _ => .inr ⟨enters (by kernel_rfl) _ _,?_⟩⟩
   ·show (match bareF (sOf z) [] false with | some (d',p') => sOf 0 = d' /\ (0 : Int) = b01 p' /\ (0 : Int) = 1 | none => sOf 0 = [] /\ (0 : Int) = 0 /\ (0 : Int) = 0)
    rw [hct]; exact ⟨rfl,rfl,rfl⟩
   ·refine (hw w).mono ?_
    rintro e w' ⟨rfl,hb⟩
    refine ⟨?_,ext_of hb⟩
    rw [e1]; unfold barR; rw [hct]; rfl
  | some ct =>
   obtain ⟨c,t⟩ := ct
   have h1 := c_bd (bareF_len _ _ _ hct) (by simp; omega)
   refine ⟨[cOf c,b01 t,1],⟨h1.1,h1.2,(b01_bd t).1,(b01_bd t).2,by decide,by decide,trivial⟩,?_,fun w _ => .inr ⟨enters (by kernel_rfl) _ _,?_⟩⟩
   ·show (match bareF (sOf z) [] false with | some (d',p') => sOf (cOf c) = d' /\ b01 t = b01 p' /\ (1 : Int) = 1 | none => sOf (cOf c) = [] /\ b01 t = 0 /\ (1 : Int) = 0)
    rw [hct]; exact ⟨sOf_cOf _,rfl,rfl⟩
   ·refine (hw w).mono ?_
    rintro e w' ⟨rfl,hb⟩
    refine ⟨?_,ext_of hb⟩
    rw [e1]; unfold barR; rw [hct]
    show _ = Ending.returned (.tuple #[.string (bA (sOf (cOf c))),.bool (decide (b01 t = 1)),.bool true])
    rw [sOf_cOf,b01_one]; rfl
end Go.Ad
