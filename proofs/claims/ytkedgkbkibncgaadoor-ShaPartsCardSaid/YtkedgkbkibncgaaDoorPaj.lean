/- Paj: a part of the proof of statements of this seat. -/
import Derived.Test.YtkedgkbkibncgaaDoorPai
set_option maxRecDepth 100000
set_option linter.unusedVariables false
set_option linter.unusedSimpArgs false
namespace Go.Ad
open Go Go.Rx
def B_all32 (S : Nat → List (List Int) → List (List Int) → Prop) (K : List (List Int) → List (List Int) → Prop) : Prop :=
 qR fun z0 => (chkD 72 [z0] -> qG fun z1 => qM fun z2 => qNf 20 [z0] fun z3 => chkD 70 [z3,64] /\ ∃ (I4 : List (List Int) -> Prop) (μ4 : List (List Int) ->
 Nat),I4 [[1779033703,3144134277,1013904242,2773480762,1359893119,2600822924,528734635,1541459225],[0]] /\ (∀ r5 : List Int,inB (repB 0 4294967295 8) r5 -> qN fun
 z13 => I4 [r5,[z13]] -> (qD (decide ((64 * z13) < z3)) (chkD 21 [z0,(64 * z13)] /\ qBf 21 [z0,(64 * z13),0] fun z14 => chkD 21 [z0,((64 * z13) + 1)] /\ qBf 21
 [z0,((64 * z13) + 1),0] fun z15 => chkD 21 [z0,((64 * z13) + 2)] /\ qBf 21 [z0,((64 * z13) + 2),0] fun z16 => chkD 21 [z0,((64 * z13) + 3)] /\ qBf 21 [z0,((64 *
 z13) + 3),0] fun z17 => chkD 21 [z0,((64 * z13) + 4)] /\ qBf 21 [z0,((64 * z13) + 4),0] fun z18 => chkD 21 [z0,((64 * z13) + 5)] /\ qBf 21 [z0,((64 * z13) +
 5),0] fun z19 => chkD 21 [z0,((64 * z13) + 6)] /\ qBf 21 [z0,((64 * z13) + 6),0] fun z20 => chkD 21 [z0,((64 * z13) + 7)] /\ qBf 21 [z0,((64 * z13) + 7),0] fun
 z21 => chkD 21 [z0,((64 * z13) + 8)] /\ qBf 21 [z0,((64 * z13) + 8),0] fun z22 => chkD 21 [z0,((64 * z13) + 9)] /\ qBf 21 [z0,((64 * z13) + 9),0] fun z23 => chkD
 21 [z0,((64 * z13) + 10)] /\ qBf 21 [z0,((64 * z13) + 10),0] fun z24 => chkD 21 [z0,((64 * z13) + 11)] /\ qBf 21 [z0,((64 * z13) + 11),0] fun z25 => chkD 21
 [z0,((64 * z13) + 12)] /\ qBf 21 [z0,((64 * z13) + 12),0] fun z26 => chkD 21 [z0,((64 * z13) + 13)] /\ qBf 21 [z0,((64 * z13) + 13),0] fun z27 => chkD 21
 [z0,((64 * z13) + 14)] /\ qBf 21 [z0,((64 * z13) + 14),0] fun z28 => chkD 21 [z0,((64 * z13) + 15)] /\ qBf 21 [z0,((64 * z13) + 15),0] fun z29 => chkD 21
 [z0,((64 * z13) + 16)] /\ qBf 21 [z0,((64 * z13) + 16),0] fun z30 => chkD 21 [z0,((64 * z13) + 17)] /\ qBf 21 [z0,((64 * z13) + 17),0] fun z31 => chkD 21
 [z0,((64 * z13) + 18)] /\ qBf 21 [z0,((64 * z13) + 18),0] fun z32 => chkD 21 [z0,((64 * z13) + 19)] /\ qBf 21 [z0,((64 * z13) + 19),0] fun z33 => chkD 21
 [z0,((64 * z13) + 20)] /\ qBf 21 [z0,((64 * z13) + 20),0] fun z34 => chkD 21 [z0,((64 * z13) + 21)] /\ qBf 21 [z0,((64 * z13) + 21),0] fun z35 => chkD 21
 [z0,((64 * z13) + 22)] /\ qBf 21 [z0,((64 * z13) + 22),0] fun z36 => chkD 21 [z0,((64 * z13) + 23)] /\ qBf 21 [z0,((64 * z13) + 23),0] fun z37 => chkD 21
 [z0,((64 * z13) + 24)] /\ qBf 21 [z0,((64 * z13) + 24),0] fun z38 => chkD 21 [z0,((64 * z13) + 25)] /\ qBf 21 [z0,((64 * z13) + 25),0] fun z39 => chkD 21
 [z0,((64 * z13) + 26)] /\ qBf 21 [z0,((64 * z13) + 26),0] fun z40 => chkD 21 [z0,((64 * z13) + 27)] /\ qBf 21 [z0,((64 * z13) + 27),0] fun z41 => chkD 21
 [z0,((64 * z13) + 28)] /\ qBf 21 [z0,((64 * z13) + 28),0] fun z42 => chkD 21 [z0,((64 * z13) + 29)] /\ qBf 21 [z0,((64 * z13) + 29),0] fun z43 => chkD 21
 [z0,((64 * z13) + 30)] /\ qBf 21 [z0,((64 * z13) + 30),0] fun z44 => chkD 21 [z0,((64 * z13) + 31)] /\ qBf 21 [z0,((64 * z13) + 31),0] fun z45 => chkD 21
 [z0,((64 * z13) + 32)] /\ qBf 21 [z0,((64 * z13) + 32),0] fun z46 => chkD 21 [z0,((64 * z13) + 33)] /\ qBf 21 [z0,((64 * z13) + 33),0] fun z47 => chkD 21
 [z0,((64 * z13) + 34)] /\ qBf 21 [z0,((64 * z13) + 34),0] fun z48 => chkD 21 [z0,((64 * z13) + 35)] /\ qBf 21 [z0,((64 * z13) + 35),0] fun z49 => chkD 21
 [z0,((64 * z13) + 36)] /\ qBf 21 [z0,((64 * z13) + 36),0] fun z50 => chkD 21 [z0,((64 * z13) + 37)] /\ qBf 21 [z0,((64 * z13) + 37),0] fun z51 => chkD 21
 [z0,((64 * z13) + 38)] /\ qBf 21 [z0,((64 * z13) + 38),0] fun z52 => chkD 21 [z0,((64 * z13) + 39)] /\ qBf 21 [z0,((64 * z13) + 39),0] fun z53 => chkD 21
 [z0,((64 * z13) + 40)] /\ qBf 21 [z0,((64 * z13) + 40),0] fun z54 => chkD 21 [z0,((64 * z13) + 41)] /\ qBf 21 [z0,((64 * z13) + 41),0] fun z55 => chkD 21
 [z0,((64 * z13) + 42)] /\ qBf 21 [z0,((64 * z13) + 42),0] fun z56 => chkD 21 [z0,((64 * z13) + 43)] /\ qBf 21 [z0,((64 * z13) + 43),0] fun z57 => chkD 21
 [z0,((64 * z13) + 44)] /\ qBf 21 [z0,((64 * z13) + 44),0] fun z58 => chkD 21 [z0,((64 * z13) + 45)] /\ qBf 21 [z0,((64 * z13) + 45),0] fun z59 => chkD 21
 [z0,((64 * z13) + 46)] /\ qBf 21 [z0,((64 * z13) + 46),0] fun z60 => chkD 21 [z0,((64 * z13) + 47)] /\ qBf 21 [z0,((64 * z13) + 47),0] fun z61 => chkD 21
 [z0,((64 * z13) + 48)] /\ qBf 21 [z0,((64 * z13) + 48),0] fun z62 => chkD 21 [z0,((64 * z13) + 49)] /\ qBf 21 [z0,((64 * z13) + 49),0] fun z63 => chkD 21
 [z0,((64 * z13) + 50)] /\ qBf 21 [z0,((64 * z13) + 50),0] fun z64 => chkD 21 [z0,((64 * z13) + 51)] /\ qBf 21 [z0,((64 * z13) + 51),0] fun z65 => chkD 21
 [z0,((64 * z13) + 52)] /\ qBf 21 [z0,((64 * z13) + 52),0] fun z66 => chkD 21 [z0,((64 * z13) + 53)] /\ qBf 21 [z0,((64 * z13) + 53),0] fun z67 => chkD 21
 [z0,((64 * z13) + 54)] /\ qBf 21 [z0,((64 * z13) + 54),0] fun z68 => chkD 21 [z0,((64 * z13) + 55)] /\ qBf 21 [z0,((64 * z13) + 55),0] fun z69 => chkD 21
 [z0,((64 * z13) + 56)] /\ qBf 21 [z0,((64 * z13) + 56),0] fun z70 => chkD 21 [z0,((64 * z13) + 57)] /\ qBf 21 [z0,((64 * z13) + 57),0] fun z71 => chkD 21
 [z0,((64 * z13) + 58)] /\ qBf 21 [z0,((64 * z13) + 58),0] fun z72 => chkD 21 [z0,((64 * z13) + 59)] /\ qBf 21 [z0,((64 * z13) + 59),0] fun z73 => chkD 21
 [z0,((64 * z13) + 60)] /\ qBf 21 [z0,((64 * z13) + 60),0] fun z74 => chkD 21 [z0,((64 * z13) + 61)] /\ qBf 21 [z0,((64 * z13) + 61),0] fun z75 => chkD 21
 [z0,((64 * z13) + 62)] /\ qBf 21 [z0,((64 * z13) + 62),0] fun z76 => chkD 21 [z0,((64 * z13) + 63)] /\ qBf 21 [z0,((64 * z13) + 63),0] fun z77 => qRf 23
 [0,((16777216 * z14) + ((65536 * z15) + ((256 * z16) + z17)))] fun z78 => qRf 23 [z78,((16777216 * z18) + ((65536 * z19) + ((256 * z20) + z21)))] fun z79 => qRf
 23 [z79,((16777216 * z22) + ((65536 * z23) + ((256 * z24) + z25)))] fun z80 => qRf 23 [z80,((16777216 * z26) + ((65536 * z27) + ((256 * z28) + z29)))] fun z81 =>
 qRf 23 [z81,((16777216 * z30) + ((65536 * z31) + ((256 * z32) + z33)))] fun z82 => qRf 23 [z82,((16777216 * z34) + ((65536 * z35) + ((256 * z36) + z37)))] fun
 z83 => qRf 23 [z83,((16777216 * z38) + ((65536 * z39) + ((256 * z40) + z41)))] fun z84 => qRf 23 [z84,((16777216 * z42) + ((65536 * z43) + ((256 * z44) + z45)))]
 fun z85 => qRf 23 [z85,((16777216 * z46) + ((65536 * z47) + ((256 * z48) + z49)))] fun z86 => qRf 23 [z86,((16777216 * z50) + ((65536 * z51) + ((256 * z52) +
 z53)))] fun z87 => qRf 23 [z87,((16777216 * z54) + ((65536 * z55) + ((256 * z56) + z57)))] fun z88 => qRf 23 [z88,((16777216 * z58) + ((65536 * z59) + ((256 *
 z60) + z61)))] fun z89 => qRf 23 [z89,((16777216 * z62) + ((65536 * z63) + ((256 * z64) + z65)))] fun z90 => qRf 23 [z90,((16777216 * z66) + ((65536 * z67) +
 ((256 * z68) + z69)))] fun z91 => qRf 23 [z91,((16777216 * z70) + ((65536 * z71) + ((256 * z72) + z73)))] fun z92 => qRf 23 [z92,((16777216 * z74) + ((65536 *
 z75) + ((256 * z76) + z77)))] fun z93 => chkD 66 [z93] /\ qR fun z94 => S 462 [[z93]] [[z94]] -> qM fun z95 => qNf 20 [z94] fun z96 => ∃ (I97 : List (List Int)
 -> Prop) (μ97 : List (List Int) -> Nat),I97 [[16],[z94],[z96],[z95]] /\ (qI 16 9223372036854775807 fun z98 => qR fun z99 => qN fun z100 => qM fun z101 => I97
 [[z98],[z99],[z100],[z101]] -> (qD (decide (z98 < 64)) (chkD 30 [(z98 + (-16)),z100] /\ chkD 21 [z99,(z98 + (-16))] /\ qSf 21 [z99,(z98 + (-16)),0] fun z102 =>
 chkD 30 [(z98 + (-15)),z100] /\ chkD 21 [z99,(z98 + (-15))] /\ qSf 21 [z99,(z98 + (-15)),0] fun z103 => qS fun z104 => S 446 [[z103]] [[z104]] -> qW (z102 +
 z104) 4294967296 fun z105 => chkD 30 [(z98 + (-7)),z100] /\ chkD 21 [z99,(z98 + (-7))] /\ qSf 21 [z99,(z98 + (-7)),0] fun z106 => qW (z102 + (z104 +
 (((-4294967296) * z105) + z106))) 4294967296 fun z107 => chkD 30 [(z98 + (-2)),z100] /\ chkD 21 [z99,(z98 + (-2))] /\ qSf 21 [z99,(z98 + (-2)),0] fun z108 => qS
 fun z109 => S 447 [[z108]] [[z109]] -> qW (z102 + (z104 + (((-4294967296) * z105) + (z106 + (((-4294967296) * z107) + z109))))) 4294967296 fun z110 => chkD 31
 [z99,z100] /\ chkD 23 [z99,1] /\ qRf 23 [z99,(z102 + (z104 + (((-4294967296) * z105) + (z106 + (((-4294967296) * z107) + (z109 + ((-4294967296) * z110)))))))]
 fun z111 => qM fun z112 => (I97 [[(z98 + 1)],[z111],[(z100 + 1)],[z112]] /\ μ97 [[(z98 + 1)],[z111],[(z100 + 1)],[z112]] < μ97 [[z98],[z99],[z100],[z101]])) (∃
 (I102 : List (List Int) -> Prop) (μ102 : List (List Int) -> Nat),I102 [r5,[0]] /\ (∀ r103 : List Int,inB (repB 0 4294967295 8) r103 -> qN fun z111 => I102
 [r103,[z111]] -> (qD (decide (z111 < z100)) (chkD 30 [z111,z100] /\ chkD 21 [z99,z111] /\ qSf 21 [z99,z111,0] fun z112 => qS fun z113 => S 445 [[(List.getD r103
 4 0)]] [[z113]] -> qW ((List.getD r103 7 0) + z113) 4294967296 fun z114 => qG fun z115 => z115 ≤ IntKind.max .u32 -> z115 = bitI .and .u32 (List.getD r103 4 0)
 (List.getD r103 5 0) -> qG fun z116 => z116 ≤ IntKind.max .u32 -> z116 = bitI .and .u32 (((-1) * (List.getD r103 4 0)) + 4294967295) (List.getD r103 6 0) -> qG
 fun z117 => z117 ≤ IntKind.max .u32 -> z117 = bitI .xor .u32 z115 z116 -> qW ((List.getD r103 7 0) + (z113 + (((-4294967296) * z114) + z117))) 4294967296 fun
 z118 => chkD 39 [z111,0,79] /\ qS fun z119 => S 466 [[z111]] [[z119]] -> qW ((List.getD r103 7 0) + (z113 + (((-4294967296) * z114) + (z117 + (((-4294967296) *
 z118) + z119))))) 4294967296 fun z120 => qW ((List.getD r103 7 0) + (z112 + (z113 + (((-4294967296) * z114) + (z117 + (((-4294967296) * z118) + (z119 +
 ((-4294967296) * z120)))))))) 4294967296 fun z121 => qS fun z122 => S 444 [[(List.getD r103 0 0)]] [[z122]] -> qG fun z123 => z123 ≤ IntKind.max .u32 -> z123 =
 bitI .and .u32 (List.getD r103 0 0) (List.getD r103 1 0) -> qG fun z124 => z124 ≤ IntKind.max .u32 -> z124 = bitI .and .u32 (List.getD r103 0 0) (List.getD r103
 2 0) -> qG fun z125 => z125 ≤ IntKind.max .u32 -> z125 = bitI .xor .u32 z123 z124 -> qG fun z126 => z126 ≤ IntKind.max .u32 -> z126 = bitI .and .u32 (List.getD
 r103 1 0) (List.getD r103 2 0) -> qG fun z127 => z127 ≤ IntKind.max .u32 -> z127 = bitI .xor .u32 z125 z126 -> qW (z122 + z127) 4294967296 fun z128 => qO fun
 z129 => 0 ≤ ((List.getD r103 3 0) + ((List.getD r103 7 0) + (z112 + (z113 + (((-4294967296) * z114) + (z117 + (((-4294967296) * z118) + (z119 + (((-4294967296) *
 z120) + ((-4294967296) * z121)))))))))) - 4294967296 * z129 -> ((List.getD r103 3 0) + ((List.getD r103 7 0) + (z112 + (z113 + (((-4294967296) * z114) + (z117 +
 (((-4294967296) * z118) + (z119 + (((-4294967296) * z120) + ((-4294967296) * z121)))))))))) - 4294967296 * z129 < 4294967296 -> qO fun z130 => 0 ≤ ((List.getD
 r103 7 0) + (z112 + (z113 + (((-4294967296) * z114) + (z117 + (((-4294967296) * z118) + (z119 + (((-4294967296) * z120) + (((-4294967296) * z121) + (z122 + (z127
 + ((-4294967296) * z128)))))))))))) - 4294967296 * z130 -> ((List.getD r103 7 0) + (z112 + (z113 + (((-4294967296) * z114) + (z117 + (((-4294967296) * z118) +
 (z119 + (((-4294967296) * z120) + (((-4294967296) * z121) + (z122 + (z127 + ((-4294967296) * z128)))))))))))) - 4294967296 * z130 < 4294967296 -> qW (z111 +
 9223372036854775809) 18446744073709551616 fun z131 => chkD 39 [((z111 + ((-18446744073709551616) * z131)) + 1),0,9223372036854775807] /\ (I102 [[((List.getD r103
 7 0) + (z112 + (z113 + (((-4294967296) * z114) + (z117 + (((-4294967296) * z118) + (z119 + (((-4294967296) * z120) + (((-4294967296) * z121) + (z122 + (z127 +
 (((-4294967296) * z128) + ((-4294967296) * z130))))))))))))),(List.getD r103 0 0),(List.getD r103 1 0),(List.getD r103 2 0),((List.getD r103 3 0) + ((List.getD
 r103 7 0) + (z112 + (z113 + (((-4294967296) * z114) + (z117 + (((-4294967296) * z118) + (z119 + (((-4294967296) * z120) + (((-4294967296) * z121) +
 ((-4294967296) * z129))))))))))),(List.getD r103 4 0),(List.getD r103 5 0),(List.getD r103 6 0)],[((z111 + ((-18446744073709551616) * z131)) + 1)]] /\ μ102
 [[((List.getD r103 7 0) + (z112 + (z113 + (((-4294967296) * z114) + (z117 + (((-4294967296) * z118) + (z119 + (((-4294967296) * z120) + (((-4294967296) * z121) +
 (z122 + (z127 + (((-4294967296) * z128) + ((-4294967296) * z130))))))))))))),(List.getD r103 0 0),(List.getD r103 1 0),(List.getD r103 2 0),((List.getD r103 3 0)
 + ((List.getD r103 7 0) + (z112 + (z113 + (((-4294967296) * z114) + (z117 + (((-4294967296) * z118) + (z119 + (((-4294967296) * z120) + (((-4294967296) * z121) +
 ((-4294967296) * z129))))))))))),(List.getD r103 4 0),(List.getD r103 5 0),(List.getD r103 6 0)],[((z111 + ((-18446744073709551616) * z131)) + 1)]] < μ102
 [r103,[z111]])) (qW ((List.getD r5 0 0) + (List.getD r103 0 0)) 4294967296 fun z112 => qW ((List.getD r5 1 0) + (List.getD r103 1 0)) 4294967296 fun z113 => qW
 ((List.getD r5 2 0) + (List.getD r103 2 0)) 4294967296 fun z114 => qW ((List.getD r5 3 0) + (List.getD r103 3 0)) 4294967296 fun z115 => qW ((List.getD r5 4 0) +
 (List.getD r103 4 0)) 4294967296 fun z116 => qW ((List.getD r5 5 0) + (List.getD r103 5 0)) 4294967296 fun z117 => qW ((List.getD r5 6 0) + (List.getD r103 6 0))
 4294967296 fun z118 => qW ((List.getD r5 7 0) + (List.getD r103 7 0)) 4294967296 fun z119 => (I4 [[((List.getD r5 0 0) + ((List.getD r103 0 0) + ((-4294967296) *
 z112))),((List.getD r5 1 0) + ((List.getD r103 1 0) + ((-4294967296) * z113))),((List.getD r5 2 0) + ((List.getD r103 2 0) + ((-4294967296) * z114))),((List.getD
 r5 3 0) + ((List.getD r103 3 0) + ((-4294967296) * z115))),((List.getD r5 4 0) + ((List.getD r103 4 0) + ((-4294967296) * z116))),((List.getD r5 5 0) +
 ((List.getD r103 5 0) + ((-4294967296) * z117))),((List.getD r5 6 0) + ((List.getD r103 6 0) + ((-4294967296) * z118))),((List.getD r5 7 0) + ((List.getD r103 7
 0) + ((-4294967296) * z119)))],[(z13 + 1)]] /\ μ4 [[((List.getD r5 0 0) + ((List.getD r103 0 0) + ((-4294967296) * z112))),((List.getD r5 1 0) + ((List.getD r103
 1 0) + ((-4294967296) * z113))),((List.getD r5 2 0) + ((List.getD r103 2 0) + ((-4294967296) * z114))),((List.getD r5 3 0) + ((List.getD r103 3 0) +
 ((-4294967296) * z115))),((List.getD r5 4 0) + ((List.getD r103 4 0) + ((-4294967296) * z116))),((List.getD r5 5 0) + ((List.getD r103 5 0) + ((-4294967296) *
 z117))),((List.getD r5 6 0) + ((List.getD r103 6 0) + ((-4294967296) * z118))),((List.getD r5 7 0) + ((List.getD r103 7 0) + ((-4294967296) * z119)))],[(z13 +
 1)]] < μ4 [r5,[z13]])))))))) (∃ (I14 : List (List Int) -> Prop) (μ14 : List (List Int) -> Nat),I14 [[3],[0],[0],[(-1)]] /\ (qI (-1) 3 fun z15 => qR fun z16 => qN
 fun z17 => qM fun z18 => I14 [[z15],[z16],[z17],[z18]] -> (qD (decide (0 ≤ z15)) (qS fun z19 => z19 = (List.getD r5 0 0) / 2 ^ ((8 * z15)).toNat -> qV 0 16777215
 z19 256 fun z20 => chkD 31 [z16,z17] /\ chkD 23 [z16,1] /\ qRf 23 [z16,(z19 + ((-256) * z20))] fun z21 => qM fun z22 => (I14 [[(z15 + (-1))],[z21],[(z17 +
 1)],[z22]] /\ μ14 [[(z15 + (-1))],[z21],[(z17 + 1)],[z22]] < μ14 [[z15],[z16],[z17],[z18]])) (∃ (I19 : List (List Int) -> Prop) (μ19 : List (List Int) ->
 Nat),I19 [[3],[z16],[z17],[z18]] /\ (qI (-1) 3 fun z20 => qR fun z21 => qN fun z22 => qM fun z23 => I19 [[z20],[z21],[z22],[z23]] -> (qD (decide (0 ≤ z20)) (qS
 fun z24 => z24 = (List.getD r5 1 0) / 2 ^ ((8 * z20)).toNat -> qV 0 16777215 z24 256 fun z25 => chkD 31 [z21,z22] /\ chkD 23 [z21,1] /\ qRf 23 [z21,(z24 +
 ((-256) * z25))] fun z26 => qM fun z27 => (I19 [[(z20 + (-1))],[z26],[(z22 + 1)],[z27]] /\ μ19 [[(z20 + (-1))],[z26],[(z22 + 1)],[z27]] < μ19
 [[z20],[z21],[z22],[z23]])) (∃ (I24 : List (List Int) -> Prop) (μ24 : List (List Int) -> Nat),I24 [[3],[z21],[z22],[z23]] /\ (qI (-1) 3 fun z25 => qR fun z26 =>
 qN fun z27 => qM fun z28 => I24 [[z25],[z26],[z27],[z28]] -> (qD (decide (0 ≤ z25)) (qS fun z29 => z29 = (List.getD r5 2 0) / 2 ^ ((8 * z25)).toNat -> qV 0
 16777215 z29 256 fun z30 => chkD 31 [z26,z27] /\ chkD 23 [z26,1] /\ qRf 23 [z26,(z29 + ((-256) * z30))] fun z31 => qM fun z32 => (I24 [[(z25 + (-1))],[z31],[(z27
 + 1)],[z32]] /\ μ24 [[(z25 + (-1))],[z31],[(z27 + 1)],[z32]] < μ24 [[z25],[z26],[z27],[z28]])) (∃ (I29 : List (List Int) -> Prop) (μ29 : List (List Int) ->
 Nat),I29 [[3],[z26],[z27],[z28]] /\ (qI (-1) 3 fun z30 => qR fun z31 => qN fun z32 => qM fun z33 => I29 [[z30],[z31],[z32],[z33]] -> (qD (decide (0 ≤ z30)) (qS
 fun z34 => z34 = (List.getD r5 3 0) / 2 ^ ((8 * z30)).toNat -> qV 0 16777215 z34 256 fun z35 => chkD 31 [z31,z32] /\ chkD 23 [z31,1] /\ qRf 23 [z31,(z34 +
 ((-256) * z35))] fun z36 => qM fun z37 => (I29 [[(z30 + (-1))],[z36],[(z32 + 1)],[z37]] /\ μ29 [[(z30 + (-1))],[z36],[(z32 + 1)],[z37]] < μ29
 [[z30],[z31],[z32],[z33]])) (∃ (I34 : List (List Int) -> Prop) (μ34 : List (List Int) -> Nat),I34 [[3],[z31],[z32],[z33]] /\ (qI (-1) 3 fun z35 => qR fun z36 =>
 qN fun z37 => qM fun z38 => I34 [[z35],[z36],[z37],[z38]] -> (qD (decide (0 ≤ z35)) (qS fun z39 => z39 = (List.getD r5 4 0) / 2 ^ ((8 * z35)).toNat -> qV 0
 16777215 z39 256 fun z40 => chkD 31 [z36,z37] /\ chkD 23 [z36,1] /\ qRf 23 [z36,(z39 + ((-256) * z40))] fun z41 => qM fun z42 => (I34 [[(z35 + (-1))],[z41],[(z37
 + 1)],[z42]] /\ μ34 [[(z35 + (-1))],[z41],[(z37 + 1)],[z42]] < μ34 [[z35],[z36],[z37],[z38]])) (∃ (I39 : List (List Int) -> Prop) (μ39 : List (List Int) ->
 Nat),I39 [[3],[z36],[z37],[z38]] /\ (qI (-1) 3 fun z40 => qR fun z41 => qN fun z42 => qM fun z43 => I39 [[z40],[z41],[z42],[z43]] -> (qD (decide (0 ≤ z40)) (qS
 fun z44 => z44 = (List.getD r5 5 0) / 2 ^ ((8 * z40)).toNat -> qV 0 16777215 z44 256 fun z45 => chkD 31 [z41,z42] /\ chkD 23 [z41,1] /\ qRf 23 [z41,(z44 +
 ((-256) * z45))] fun z46 => qM fun z47 => (I39 [[(z40 + (-1))],[z46],[(z42 + 1)],[z47]] /\ μ39 [[(z40 + (-1))],[z46],[(z42 + 1)],[z47]] < μ39
 [[z40],[z41],[z42],[z43]])) (∃ (I44 : List (List Int) -> Prop) (μ44 : List (List Int) -> Nat),I44 [[3],[z41],[z42],[z43]] /\ (qI (-1) 3 fun z45 => qR fun z46 =>
 qN fun z47 => qM fun z48 => I44 [[z45],[z46],[z47],[z48]] -> (qD (decide (0 ≤ z45)) (qS fun z49 => z49 = (List.getD r5 6 0) / 2 ^ ((8 * z45)).toNat -> qV 0
 16777215 z49 256 fun z50 => chkD 31 [z46,z47] /\ chkD 23 [z46,1] /\ qRf 23 [z46,(z49 + ((-256) * z50))] fun z51 => qM fun z52 => (I44 [[(z45 + (-1))],[z51],[(z47
 + 1)],[z52]] /\ μ44 [[(z45 + (-1))],[z51],[(z47 + 1)],[z52]] < μ44 [[z45],[z46],[z47],[z48]])) (∃ (I49 : List (List Int) -> Prop) (μ49 : List (List Int) ->
 Nat),I49 [[3],[z46],[z47],[z48]] /\ (qI (-1) 3 fun z50 => qR fun z51 => qN fun z52 => qM fun z53 => I49 [[z50],[z51],[z52],[z53]] -> (qD (decide (0 ≤ z50)) (qS
 fun z54 => z54 = (List.getD r5 7 0) / 2 ^ ((8 * z50)).toNat -> qV 0 16777215 z54 256 fun z55 => chkD 31 [z51,z52] /\ chkD 23 [z51,1] /\ qRf 23 [z51,(z54 +
 ((-256) * z55))] fun z56 => qM fun z57 => (I49 [[(z50 + (-1))],[z56],[(z52 + 1)],[z57]] /\ μ49 [[(z50 + (-1))],[z56],[(z52 + 1)],[z57]] < μ49
 [[z50],[z51],[z52],[z53]])) (chkD 22 [z51,0,z52] /\ qRf 22 [z51,0,z52] fun z54 => K [[z0]] [[z54]]))))))))))))))))))))))))))))
theorem modq {L S M k : Int} (h : L = S - M * k) (h1 : 0 ≤ L) (h2 : L < M) : L = S % M := by
  have e : S = L + M * k := by omega
  rw [e, Int.add_mul_emod_self_left, Int.emod_eq_of_lt h1 h2]
theorem zip8_32 (f : Int → Int → Int) {r t : List Int} (h : r.length = 8) (h' : t.length = 8) : List.zipWith f r t = [f (r.getD 0 0) (t.getD 0 0), f (r.getD 1 0) (t.getD 1 0), f (r.getD 2 0) (t.getD 2 0), f (r.getD 3 0) (t.getD 3 0), f (r.getD 4 0) (t.getD 4 0), f (r.getD 5 0) (t.getD 5 0), f (r.getD 6 0) (t.getD 6 0), f (r.getD 7 0) (t.getD 7 0)] := by
  match r, t, h, h' with
  | [_, _, _, _, _, _, _, _], [_, _, _, _, _, _, _, _], _, _ => rfl
theorem step8_32 (i : Nat) (x : Int) {r : List Int} (hr : r.length = 8) : stepW W32 i x r = (let t := md W32 (r.getD 7 0 + bs1 W32 (r.getD 4 0) + chF W32 (r.getD 4 0) (r.getD 5 0) (r.getD 6 0) + rk W32 i + x); let u := md W32 (bs0 W32 (r.getD 0 0) + mjF W32 (r.getD 0 0) (r.getD 1 0) (r.getD 2 0)); [md W32 (t + u), r.getD 0 0, r.getD 1 0, r.getD 2 0, md W32 (r.getD 3 0 + t), r.getD 4 0, r.getD 5 0, r.getD 6 0]) := by
  match r, hr with
  | [_, _, _, _, _, _, _, _], _ => rfl
theorem md_32 (x : Int) : md W32 x = x % 4294967296 := by
  show x % (2 : Int) ^ 32 = _
  rw [show (2 : Int) ^ 32 = 4294967296 by decide]
theorem beg_32 : begW W32 = [1779033703, 3144134277, 1013904242, 2773480762, 1359893119, 2600822924, 528734635, 1541459225] := by decide +kernel
set_option maxHeartbeats 4000000 in
theorem p_all32 : B_all32 SB (KBb SB [ou8] 464) := by
  intro z0 a0 a1 hp z1 b0 z2 c0 c1 z3 d0 d1 h3
  have hp : 64 ∣ (rOf z0).length ∧ (rOf z0).length ≤ 1000001000 := hp
  have h3 : z3 = ((rOf z0).length : Int) := h3
  obtain ⟨⟨q, hq⟩, hp2⟩ := hp
  have hbl : (bys z0).length = 64 * q := by rw [bys_len, hq]
  have h3q : z3 = 64 * (q : Int) := by rw [h3, hq]; simp
  refine ⟨⟨(q : Int), h3q⟩, fun l => ∃ (i : Nat), i ≤ q ∧ l = [blocksW W32 (bys z0) i (begW W32), [(i : Int)]], fun l => ((q : Int) - (l.getD 1 []).getD 0 0).toNat, ⟨0, Nat.zero_le _, by
    show _ = [begW W32, [(0 : Int)]]
    rw [beg_32]⟩, ?_⟩
  intro r5 hr5 z13 e0 e1 ⟨i, hi, hI⟩
  simp only [List.cons.injEq, and_true] at hI
  obtain ⟨hI5, hI13⟩ := hI
  obtain ⟨l5, b5⟩ := inB_rep 8 r5 hr5
  have hlen0 : ((rOf z0).length : Int) = 64 * (q : Int) := by rw [← h3, h3q]
  refine ⟨fun h => ?_, fun h => ?_⟩
  · have h := of_decide_eq_true h
    have hiq : i < q := by omega
    have c21 : ∀ k : Int, 0 ≤ k → k < 64 → chkD 21 [z0, 64 * z13 + k] := fun k h1 h2 => ⟨by omega, by rw [hlen0]; omega⟩
    have c21' : chkD 21 [z0, 64 * z13] := ⟨by omega, by rw [hlen0]; omega⟩
    refine ⟨c21', ?_⟩
    intro z14 f0 g0 t0
    refine ⟨c21 1 (by decide) (by decide), ?_⟩
    intro z15 f1 g1 t1
    refine ⟨c21 2 (by decide) (by decide), ?_⟩
    intro z16 f2 g2 t2
    refine ⟨c21 3 (by decide) (by decide), ?_⟩
    intro z17 f3 g3 t3
    refine ⟨c21 4 (by decide) (by decide), ?_⟩
    intro z18 f4 g4 t4
    refine ⟨c21 5 (by decide) (by decide), ?_⟩
    intro z19 f5 g5 t5
    refine ⟨c21 6 (by decide) (by decide), ?_⟩
    intro z20 f6 g6 t6
    refine ⟨c21 7 (by decide) (by decide), ?_⟩
    intro z21 f7 g7 t7
    refine ⟨c21 8 (by decide) (by decide), ?_⟩
    intro z22 f8 g8 t8
    refine ⟨c21 9 (by decide) (by decide), ?_⟩
    intro z23 f9 g9 t9
    refine ⟨c21 10 (by decide) (by decide), ?_⟩
    intro z24 f10 g10 t10
    refine ⟨c21 11 (by decide) (by decide), ?_⟩
    intro z25 f11 g11 t11
    refine ⟨c21 12 (by decide) (by decide), ?_⟩
    intro z26 f12 g12 t12
    refine ⟨c21 13 (by decide) (by decide), ?_⟩
    intro z27 f13 g13 t13
    refine ⟨c21 14 (by decide) (by decide), ?_⟩
    intro z28 f14 g14 t14
    refine ⟨c21 15 (by decide) (by decide), ?_⟩
    intro z29 f15 g15 t15
    refine ⟨c21 16 (by decide) (by decide), ?_⟩
    intro z30 f16 g16 t16
    refine ⟨c21 17 (by decide) (by decide), ?_⟩
    intro z31 f17 g17 t17
    refine ⟨c21 18 (by decide) (by decide), ?_⟩
    intro z32 f18 g18 t18
    refine ⟨c21 19 (by decide) (by decide), ?_⟩
    intro z33 f19 g19 t19
    refine ⟨c21 20 (by decide) (by decide), ?_⟩
    intro z34 f20 g20 t20
    refine ⟨c21 21 (by decide) (by decide), ?_⟩
    intro z35 f21 g21 t21
    refine ⟨c21 22 (by decide) (by decide), ?_⟩
    intro z36 f22 g22 t22
    refine ⟨c21 23 (by decide) (by decide), ?_⟩
    intro z37 f23 g23 t23
    refine ⟨c21 24 (by decide) (by decide), ?_⟩
    intro z38 f24 g24 t24
    refine ⟨c21 25 (by decide) (by decide), ?_⟩
    intro z39 f25 g25 t25
    refine ⟨c21 26 (by decide) (by decide), ?_⟩
    intro z40 f26 g26 t26
    refine ⟨c21 27 (by decide) (by decide), ?_⟩
    intro z41 f27 g27 t27
    refine ⟨c21 28 (by decide) (by decide), ?_⟩
    intro z42 f28 g28 t28
    refine ⟨c21 29 (by decide) (by decide), ?_⟩
    intro z43 f29 g29 t29
    refine ⟨c21 30 (by decide) (by decide), ?_⟩
    intro z44 f30 g30 t30
    refine ⟨c21 31 (by decide) (by decide), ?_⟩
    intro z45 f31 g31 t31
    refine ⟨c21 32 (by decide) (by decide), ?_⟩
    intro z46 f32 g32 t32
    refine ⟨c21 33 (by decide) (by decide), ?_⟩
    intro z47 f33 g33 t33
    refine ⟨c21 34 (by decide) (by decide), ?_⟩
    intro z48 f34 g34 t34
    refine ⟨c21 35 (by decide) (by decide), ?_⟩
    intro z49 f35 g35 t35
    refine ⟨c21 36 (by decide) (by decide), ?_⟩
    intro z50 f36 g36 t36
    refine ⟨c21 37 (by decide) (by decide), ?_⟩
    intro z51 f37 g37 t37
    refine ⟨c21 38 (by decide) (by decide), ?_⟩
    intro z52 f38 g38 t38
    refine ⟨c21 39 (by decide) (by decide), ?_⟩
    intro z53 f39 g39 t39
    refine ⟨c21 40 (by decide) (by decide), ?_⟩
    intro z54 f40 g40 t40
    refine ⟨c21 41 (by decide) (by decide), ?_⟩
    intro z55 f41 g41 t41
    refine ⟨c21 42 (by decide) (by decide), ?_⟩
    intro z56 f42 g42 t42
    refine ⟨c21 43 (by decide) (by decide), ?_⟩
    intro z57 f43 g43 t43
    refine ⟨c21 44 (by decide) (by decide), ?_⟩
    intro z58 f44 g44 t44
    refine ⟨c21 45 (by decide) (by decide), ?_⟩
    intro z59 f45 g45 t45
    refine ⟨c21 46 (by decide) (by decide), ?_⟩
    intro z60 f46 g46 t46
    refine ⟨c21 47 (by decide) (by decide), ?_⟩
    intro z61 f47 g47 t47
    refine ⟨c21 48 (by decide) (by decide), ?_⟩
    intro z62 f48 g48 t48
    refine ⟨c21 49 (by decide) (by decide), ?_⟩
    intro z63 f49 g49 t49
    refine ⟨c21 50 (by decide) (by decide), ?_⟩
    intro z64 f50 g50 t50
    refine ⟨c21 51 (by decide) (by decide), ?_⟩
    intro z65 f51 g51 t51
    refine ⟨c21 52 (by decide) (by decide), ?_⟩
    intro z66 f52 g52 t52
    refine ⟨c21 53 (by decide) (by decide), ?_⟩
    intro z67 f53 g53 t53
    refine ⟨c21 54 (by decide) (by decide), ?_⟩
    intro z68 f54 g54 t54
    refine ⟨c21 55 (by decide) (by decide), ?_⟩
    intro z69 f55 g55 t55
    refine ⟨c21 56 (by decide) (by decide), ?_⟩
    intro z70 f56 g56 t56
    refine ⟨c21 57 (by decide) (by decide), ?_⟩
    intro z71 f57 g57 t57
    refine ⟨c21 58 (by decide) (by decide), ?_⟩
    intro z72 f58 g58 t58
    refine ⟨c21 59 (by decide) (by decide), ?_⟩
    intro z73 f59 g59 t59
    refine ⟨c21 60 (by decide) (by decide), ?_⟩
    intro z74 f60 g60 t60
    refine ⟨c21 61 (by decide) (by decide), ?_⟩
    intro z75 f61 g61 t61
    refine ⟨c21 62 (by decide) (by decide), ?_⟩
    intro z76 f62 g62 t62
    refine ⟨c21 63 (by decide) (by decide), ?_⟩
    intro z77 f63 g63 t63
    obtain ⟨bl, hbl2⟩ : ∃ l, ((bys z0).drop (64 * i)).take 64 = l := ⟨_, rfl⟩
    have bll : bl.length = 64 := by rw [← hbl2, List.length_take, List.length_drop, hbl]; omega
    have ld : ∀ (k : Nat) (y z : Int), k < 64 → y = (k : Int) → z = fnD 21 [z0, 64 * z13 + y, 0] → z = bl.getD k 0 := fun k y z hk hy hz => by
      rw [fn21 hz, ← hbl2, drop_getD _ _ _ _ hk]
      congr 1; omega
    have hB : [z14, z15, z16, z17, z18, z19, z20, z21, z22, z23, z24, z25, z26, z27, z28, z29, z30, z31, z32, z33, z34, z35, z36, z37, z38, z39, z40, z41, z42, z43, z44, z45, z46, z47, z48, z49, z50, z51, z52, z53, z54, z55, z56, z57, z58, z59, z60, z61, z62, z63, z64, z65, z66, z67, z68, z69, z70, z71, z72, z73, z74, z75, z76, z77] = bl := by
      rw [ld 0 0 z14 (by decide) rfl (by rw [Int.add_zero]; exact t0), ld 1 1 z15 (by decide) rfl t1, ld 2 2 z16 (by decide) rfl t2, ld 3 3 z17 (by decide) rfl t3, ld 4 4 z18 (by decide) rfl t4, ld 5 5 z19 (by decide) rfl t5, ld 6 6 z20 (by decide) rfl t6, ld 7 7 z21 (by decide) rfl t7, ld 8 8 z22 (by decide) rfl t8, ld 9 9 z23 (by decide) rfl t9, ld 10 10 z24 (by decide) rfl t10, ld 11 11 z25 (by decide) rfl t11, ld 12 12 z26 (by decide) rfl t12, ld 13 13 z27 (by decide) rfl t13, ld 14 14 z28 (by decide) rfl t14, ld 15 15 z29 (by decide) rfl t15, ld 16 16 z30 (by decide) rfl t16, ld 17 17 z31 (by decide) rfl t17, ld 18 18 z32 (by decide) rfl t18, ld 19 19 z33 (by decide) rfl t19, ld 20 20 z34 (by decide) rfl t20, ld 21 21 z35 (by decide) rfl t21, ld 22 22 z36 (by decide) rfl t22, ld 23 23 z37 (by decide) rfl t23, ld 24 24 z38 (by decide) rfl t24, ld 25 25 z39 (by decide) rfl t25, ld 26 26 z40 (by decide) rfl t26, ld 27 27 z41 (by decide) rfl t27, ld 28 28 z42 (by decide) rfl t28, ld 29 29 z43 (by decide) rfl t29, ld 30 30 z44 (by decide) rfl t30, ld 31 31 z45 (by decide) rfl t31, ld 32 32 z46 (by decide) rfl t32, ld 33 33 z47 (by decide) rfl t33, ld 34 34 z48 (by decide) rfl t34, ld 35 35 z49 (by decide) rfl t35, ld 36 36 z50 (by decide) rfl t36, ld 37 37 z51 (by decide) rfl t37, ld 38 38 z52 (by decide) rfl t38, ld 39 39 z53 (by decide) rfl t39, ld 40 40 z54 (by decide) rfl t40, ld 41 41 z55 (by decide) rfl t41, ld 42 42 z56 (by decide) rfl t42, ld 43 43 z57 (by decide) rfl t43, ld 44 44 z58 (by decide) rfl t44, ld 45 45 z59 (by decide) rfl t45, ld 46 46 z60 (by decide) rfl t46, ld 47 47 z61 (by decide) rfl t47, ld 48 48 z62 (by decide) rfl t48, ld 49 49 z63 (by decide) rfl t49, ld 50 50 z64 (by decide) rfl t50, ld 51 51 z65 (by decide) rfl t51, ld 52 52 z66 (by decide) rfl t52, ld 53 53 z67 (by decide) rfl t53, ld 54 54 z68 (by decide) rfl t54, ld 55 55 z69 (by decide) rfl t55, ld 56 56 z70 (by decide) rfl t56, ld 57 57 z71 (by decide) rfl t57, ld 58 58 z72 (by decide) rfl t58, ld 59 59 z73 (by decide) rfl t59, ld 60 60 z74 (by decide) rfl t60, ld 61 61 z75 (by decide) rfl t61, ld 62 62 z76 (by decide) rfl t62, ld 63 63 z77 (by decide) rfl t63]
      exact (getD_range bl 64 bll).symm
    have hW : wordsW W32 bl = [((16777216 * z14) + ((65536 * z15) + ((256 * z16) + z17))), ((16777216 * z18) + ((65536 * z19) + ((256 * z20) + z21))), ((16777216 * z22) + ((65536 * z23) + ((256 * z24) + z25))), ((16777216 * z26) + ((65536 * z27) + ((256 * z28) + z29))), ((16777216 * z30) + ((65536 * z31) + ((256 * z32) + z33))), ((16777216 * z34) + ((65536 * z35) + ((256 * z36) + z37))), ((16777216 * z38) + ((65536 * z39) + ((256 * z40) + z41))), ((16777216 * z42) + ((65536 * z43) + ((256 * z44) + z45))), ((16777216 * z46) + ((65536 * z47) + ((256 * z48) + z49))), ((16777216 * z50) + ((65536 * z51) + ((256 * z52) + z53))), ((16777216 * z54) + ((65536 * z55) + ((256 * z56) + z57))), ((16777216 * z58) + ((65536 * z59) + ((256 * z60) + z61))), ((16777216 * z62) + ((65536 * z63) + ((256 * z64) + z65))), ((16777216 * z66) + ((65536 * z67) + ((256 * z68) + z69))), ((16777216 * z70) + ((65536 * z71) + ((256 * z72) + z73))), ((16777216 * z74) + ((65536 * z75) + ((256 * z76) + z77)))] := by
      rw [← hB]
      show [((((0 * 256 + z14) * 256 + z15) * 256 + z16) * 256 + z17), ((((0 * 256 + z18) * 256 + z19) * 256 + z20) * 256 + z21), ((((0 * 256 + z22) * 256 + z23) * 256 + z24) * 256 + z25), ((((0 * 256 + z26) * 256 + z27) * 256 + z28) * 256 + z29), ((((0 * 256 + z30) * 256 + z31) * 256 + z32) * 256 + z33), ((((0 * 256 + z34) * 256 + z35) * 256 + z36) * 256 + z37), ((((0 * 256 + z38) * 256 + z39) * 256 + z40) * 256 + z41), ((((0 * 256 + z42) * 256 + z43) * 256 + z44) * 256 + z45), ((((0 * 256 + z46) * 256 + z47) * 256 + z48) * 256 + z49), ((((0 * 256 + z50) * 256 + z51) * 256 + z52) * 256 + z53), ((((0 * 256 + z54) * 256 + z55) * 256 + z56) * 256 + z57), ((((0 * 256 + z58) * 256 + z59) * 256 + z60) * 256 + z61), ((((0 * 256 + z62) * 256 + z63) * 256 + z64) * 256 + z65), ((((0 * 256 + z66) * 256 + z67) * 256 + z68) * 256 + z69), ((((0 * 256 + z70) * 256 + z71) * 256 + z72) * 256 + z73), ((((0 * 256 + z74) * 256 + z75) * 256 + z76) * 256 + z77)] = _
      simp only [List.cons.injEq, and_true]
      refine ⟨by omega, by omega, by omega, by omega, by omega, by omega, by omega, by omega, by omega, by omega, by omega, by omega, by omega, by omega, by omega, by omega⟩
    obtain ⟨ws, hws⟩ : ∃ l, wordsW W32 bl = l := ⟨_, rfl⟩
    intro z78 x0 y0 u0 z79 x1 y1 u1 z80 x2 y2 u2 z81 x3 y3 u3 z82 x4 y4 u4 z83 x5 y5 u5 z84 x6 y6 u6 z85 x7 y7 u7 z86 x8 y8 u8 z87 x9 y9 u9 z88 x10 y10 u10 z89 x11 y11 u11 z90 x12 y12 u12 z91 x13 y13 u13 z92 x14 y14 u14 z93 x15 y15 u15
    have v0 := fn23 (l := []) u0 rOf_zero
    have v1 := fn23 u1 v0
    have v2 := fn23 u2 v1
    have v3 := fn23 u3 v2
    have v4 := fn23 u4 v3
    have v5 := fn23 u5 v4
    have v6 := fn23 u6 v5
    have v7 := fn23 u7 v6
    have v8 := fn23 u8 v7
    have v9 := fn23 u9 v8
    have v10 := fn23 u10 v9
    have v11 := fn23 u11 v10
    have v12 := fn23 u12 v11
    have v13 := fn23 u13 v12
    have v14 := fn23 u14 v13
    have v15 := fn23 u15 v14
    have hr : rOf z93 = rws ws := by
      rw [← hws, hW]; exact v15
    have wl : ws.length = 16 := by rw [← hws]; simp [wordsW]
    refine ⟨by show (rOf z93).length ≤ 1000000; rw [hr, rws_len, wl]; decide, ?_⟩
    intro z94 i0 i1 j0 z95 k0 k1 z96 m0 m1 n0
    have j0 : rOf z94 = rOf z93 := j0
    rw [hr] at j0
    have n0 : z96 = ((rOf z94).length : Int) := n0
    rw [j0, rws_len, wl] at n0
    refine ⟨fun l => ∃ (j : Nat) (c k : Int), j ≤ 48 ∧ l = [[((16 + j : Nat) : Int)], [c], [((16 + j : Nat) : Int)], [k]] ∧ rOf c = rws (extW W32 j ws), fun l => (64 - (l.getD 0 []).getD 0 0).toNat, ⟨0, z94, z95, Nat.zero_le _, by rw [n0]; rfl, j0⟩, ?_⟩
    intro z98 o0 o1 z99 p0 p1 z100 q0 q1 z101 r0 r1 ⟨j, c, kk, hj, hl, hc⟩
    simp only [List.cons.injEq, and_true] at hl
    obtain ⟨hl1, hl2, hl3, hl4⟩ := hl
    subst hl2
    obtain ⟨mm, hmm⟩ : ∃ l, extW W32 j ws = l := ⟨_, rfl⟩
    rw [hmm] at hc
    have ml : mm.length = 16 + j := by rw [← hmm, extW_len, wl]
    have cl : ((rOf z99).length : Int) = 16 + (j : Int) := by rw [hc, rws_len, ml]; omega
    refine ⟨fun hlt => ?_, fun hge => ?_⟩
    · have hlt := of_decide_eq_true hlt
      refine ⟨⟨by omega, by omega⟩, ⟨by omega, by rw [cl]; omega⟩, fun z102 s0 s1 s2 => ⟨⟨by omega, by omega⟩, ⟨by omega, by rw [cl]; omega⟩, fun z103 tt0 tt1 t2' z104 u0' u1' u2' z105 v0' v1' v2' v3' => ⟨⟨by omega, by omega⟩, ⟨by omega, by rw [cl]; omega⟩, fun z106 w0 w1 w2 z107 xx0 xx1 x2' x3' => ⟨⟨by omega, by omega⟩, ⟨by omega, by rw [cl]; omega⟩, fun z108 yy0 yy1 y2' z109 aa0 aa1 aa2 z110 bb0 bb1 bb2 bb3 => ⟨by show z100 = ((rOf z99).length : Int); omega, by show ((rOf z99).length : Int) + 1 ≤ 1073741824; omega, fun z111 cc0 cc1 cc2 z112 dd0 dd1 => ?_⟩⟩⟩⟩⟩
      have u2' : [[z104]] = [[ss0 W32 z103]] := u2'
      have aa2 : [[z109]] = [[ss1 W32 z108]] := aa2
      simp only [List.cons.injEq, and_true] at u2' aa2
      have e1 := fn21r s2 hc
      have e2 := fn21r t2' hc
      have e3 := fn21r w2 hc
      have e4 := fn21r y2' hc
      have hnx : z102 + (z104 + ((-4294967296) * z105 + (z106 + ((-4294967296) * z107 + (z109 + (-4294967296) * z110))))) = nxt W32 mm := by
        unfold nxt
        rw [md_32, ml, show 16 + j - 16 = (z98 + -16).toNat by omega, show 16 + j - 15 = (z98 + -15).toNat by omega, show 16 + j - 7 = (z98 + -7).toNat by omega, show 16 + j - 2 = (z98 + -2).toNat by omega, ← e1, ← e2, ← e3, ← e4, ← u2', ← aa2]
        omega
      have hcd := fn23 cc2 hc
      rw [hnx] at hcd
      refine ⟨⟨j + 1, z111, z112, by omega, by rw [show z98 + 1 = ((16 + (j + 1) : Nat) : Int) by omega, show z100 + 1 = ((16 + (j + 1) : Nat) : Int) by omega], by rw [extW_succ, hmm]; exact hcd⟩, ?_⟩
      show (64 - (z98 + 1)).toNat < (64 - z98).toNat
      omega
    · have hge := of_decide_eq_false hge
      have hj48 : j = 48 := by omega
      have hsch : sched W32 ws = mm := by rw [← hmm, hj48]; rfl
      refine ⟨fun l => ∃ (t : Nat), t ≤ 64 ∧ l = [runW W32 0 (mm.take t) r5, [(t : Int)]], fun l => (64 - (l.getD 1 []).getD 0 0).toNat, ⟨0, Nat.zero_le _, rfl⟩, ?_⟩
      intro r9 hr9 z111 s0 s1 ⟨t, ht, hl⟩
      simp only [List.cons.injEq, and_true] at hl
      obtain ⟨hv, hzt⟩ := hl
      obtain ⟨l9, b9⟩ := inB_rep 8 r9 hr9
      refine ⟨fun hlt => ?_, fun hge2 => ?_⟩
      · have hlt := of_decide_eq_true hlt
        refine ⟨⟨by omega, by omega⟩, ⟨by omega, by rw [cl]; omega⟩, ?_⟩
        intro z112 aa0 aa1 aa2 z113 bb0 bb1 bb2 z114 cc0 cc1 cc2 cc3 z115 dd0 dd1 dd2 z116 ee0 ee1 ee2 z117 ff0 ff1 ff2 z118 gg0 gg1 gg2 gg3
        refine ⟨⟨by omega, by omega⟩, ?_⟩
        intro z119 hh0 hh1 hh2 z120 ii0 ii1 ii2 ii3 z121 jj0 jj1 jj2 jj3 z122 kk0 kk1 kk2 z123 ll0 ll1 ll2 z124 mm0 mm1 mm2 z125 nn0 nn1 nn2 z126 oo0 oo1 oo2 z127 pp0 pp1 pp2 z128 qq0 qq1 qq2 qq3 z129 rr0 rr1 rr2 rr3 z130 ss0' ss1' ss2' ss3' z131 tt0' tt1' tt2' tt3'
        have ht2 : t < 64 := by omega
        have e131 : z131 = 0 := by omega
        have ex := fn21r aa2 hc
        rw [show z111.toNat = t by omega] at ex
        have bb2 : [[z113]] = [[bs1 W32 (r9.getD 4 0)]] := bb2
        have hh2 : [[z119]] = [[rk W32 z111.toNat]] := hh2
        have kk2 : [[z122]] = [[bs0 W32 (r9.getD 0 0)]] := kk2
        simp only [List.cons.injEq, and_true] at bb2 hh2 kk2
        rw [show z111.toNat = t by omega] at hh2
        have hch : z117 = chF W32 (r9.getD 4 0) (r9.getD 5 0) (r9.getD 6 0) := by
          rw [ff2, dd2, ee2]
          unfold chF
          rw [show (2 : Int) ^ W32.w - 1 - r9.getD 4 0 = -1 * r9.getD 4 0 + 4294967295 by rw [show (2 : Int) ^ W32.w = 4294967296 by decide]; omega]
          rfl
        have hmj : z127 = mjF W32 (r9.getD 0 0) (r9.getD 1 0) (r9.getD 2 0) := by
          rw [pp2, nn2, mm2, ll2, oo2]; rfl
        obtain ⟨A, hA⟩ : ∃ A, r9.getD 0 0 = A := ⟨_, rfl⟩
        obtain ⟨D, hD⟩ : ∃ A, r9.getD 3 0 = A := ⟨_, rfl⟩
        obtain ⟨H, hH⟩ : ∃ A, r9.getD 7 0 = A := ⟨_, rfl⟩
        rw [hH] at cc2 cc3 gg2 gg3 ii2 ii3 jj2 jj3 rr2 rr3 ss2' ss3' ⊢
        rw [hD] at rr2 rr3 ⊢
        have hstep := step8_32 t z112 l9
        rw [hH, hD, ← bb2, ← hch, ← hh2, ← kk2, ← hmj] at hstep
        have hT : md W32 (H + z113 + z117 + z119 + z112) = H + (z112 + (z113 + ((-4294967296) * z114 + (z117 + ((-4294967296) * z118 + (z119 + ((-4294967296) * z120 + (-4294967296) * z121))))))) := by
          rw [md_32]; omega
        have hU : md W32 (z122 + z127) = z122 + (z127 + (-4294967296) * z128) := by
          rw [md_32]; omega
        simp only [hT, hU] at hstep
        refine ⟨⟨by omega, by omega⟩, ⟨t + 1, by omega, ?_⟩, ?_⟩
        · rw [take_snoc mm t (by omega), runW_snoc, ← hv, show 0 + (mm.take t).length = t by rw [List.length_take]; omega, ← ex, hstep, e131]
          simp only [List.cons.injEq, and_true]
          refine ⟨⟨?_, trivial, trivial, trivial, ?_⟩, ?_⟩
          · rw [md_32]; exact modq (k := z130) (by omega) (by omega) (by omega)
          · rw [md_32]; exact modq (k := z129) (by omega) (by omega) (by omega)
          · omega
        · show (64 - (z111 + -18446744073709551616 * z131 + 1)).toNat < (64 - z111).toNat
          omega
      · have hge2 := of_decide_eq_false hge2
        intro z112 aa0 ab0 ac0 ad0 z113 aa1 ab1 ac1 ad1 z114 aa2 ab2 ac2 ad2 z115 aa3 ab3 ac3 ad3 z116 aa4 ab4 ac4 ad4 z117 aa5 ab5 ac5 ad5 z118 aa6 ab6 ac6 ad6 z119 aa7 ab7 ac7 ad7
        have ht2 : t = 64 := by omega
        have hfull : mm.take t = mm := List.take_of_length_le (by omega)
        rw [hfull] at hv
        have hnew : takeW W32 r5 ws = [r5.getD 0 0 + (r9.getD 0 0 + (-4294967296) * z112), r5.getD 1 0 + (r9.getD 1 0 + (-4294967296) * z113), r5.getD 2 0 + (r9.getD 2 0 + (-4294967296) * z114), r5.getD 3 0 + (r9.getD 3 0 + (-4294967296) * z115), r5.getD 4 0 + (r9.getD 4 0 + (-4294967296) * z116), r5.getD 5 0 + (r9.getD 5 0 + (-4294967296) * z117), r5.getD 6 0 + (r9.getD 6 0 + (-4294967296) * z118), r5.getD 7 0 + (r9.getD 7 0 + (-4294967296) * z119)] := by
          unfold takeW
          rw [hsch, ← hv, zip8_32 _ l5 l9]
          simp only [md_32, List.cons.injEq, and_true]
          refine ⟨by omega, by omega, by omega, by omega, by omega, by omega, by omega, by omega⟩
        refine ⟨⟨i + 1, by omega, ?_⟩, ?_⟩
        · rw [← hnew, hI5]
          show _ = [takeW W32 (blocksW W32 (bys z0) i (begW W32)) (wordsW W32 (((bys z0).drop (64 * i)).take 64)), _]
          rw [hbl2, hws, show z13 + 1 = ((i + 1 : Nat) : Int) by omega]
        · show ((q : Int) - (z13 + 1)).toNat < ((q : Int) - z13).toNat
          omega
  · have h := of_decide_eq_false h
    have hiq : i = q := by omega
    have hall : allW W32 (bys z0) = outW W32 r5 := by
      unfold allW
      rw [hbl, show 2 * W32.w = 64 from rfl, Nat.mul_div_cancel_left q (by decide), ← hiq, ← hI5]
    have hout : outW W32 r5 = ((((((([] ++ (List.range 4).map (byteW W32 (r5.getD 0 0))) ++ (List.range 4).map (byteW W32 (r5.getD 1 0))) ++ (List.range 4).map (byteW W32 (r5.getD 2 0))) ++ (List.range 4).map (byteW W32 (r5.getD 3 0))) ++ (List.range 4).map (byteW W32 (r5.getD 4 0))) ++ (List.range 4).map (byteW W32 (r5.getD 5 0))) ++ (List.range 4).map (byteW W32 (r5.getD 6 0))) ++ (List.range 4).map (byteW W32 (r5.getD 7 0)) := by
      conv => lhs; rw [list8 l5]
      rfl
    refine tail32 (pre := []) rOf_zero rfl (by simp) fun c0' l0' k0' p0 p1 h0 e0' => ?_
    refine tail32 h0 (by rw [e0']; simp) (by simp) fun c1' l1' k1' p2 p3 h1 e1' => ?_
    refine tail32 h1 (by rw [e1']; simp) (by simp) fun c2' l2' k2' p4 p5 h2 e2' => ?_
    refine tail32 h2 (by rw [e2']; simp) (by simp) fun c3' l3' k3' p6 p7 h3 e3' => ?_
    refine tail32 h3 (by rw [e3']; simp) (by simp) fun c4' l4' k4' p8 p9 h4 e4' => ?_
    refine tail32 h4 (by rw [e4']; simp) (by simp) fun c5' l5' k5' p10 p11 h5 e5' => ?_
    refine tail32 h5 (by rw [e5']; simp) (by simp) fun c6' l6' k6' p12 p13 h6 e6' => ?_
    refine tail32 h6 (by rw [e6']; simp) (by simp) fun c7' l7' k7' p14 p15 h7 e7' => ?_
    have hlast : rOf c7' = rws (outW W32 r5) := by rw [h7, hout]
    have ll : l7' = ((rOf c7').length : Int) := by rw [h7, rws_len, e7']; simp
    refine ⟨⟨Int.le_refl _, by omega, by omega⟩, fun zf x0 x1 x2 => ⟨⟨x0, x1, trivial⟩, ?_⟩⟩
    have hf := sub_all x2 ll
    show bys zf = allW W32 (bys z0)
    rw [hall]
    exact bys_rws (by rw [hf, hlast])

end Go.Ad

set_option maxRecDepth 100000
set_option linter.unusedVariables false
set_option linter.unusedSimpArgs false
namespace Go.Ad
open Go Go.Rx
def B_all64 (S : Nat → List (List Int) → List (List Int) → Prop) (K : List (List Int) → List (List Int) → Prop) : Prop :=
 qR fun z0 => (chkD 73 [z0] -> qG fun z1 => qM fun z2 => qNf 20 [z0] fun z3 => chkD 70 [z3,128] /\ ∃ (I4 : List (List Int) -> Prop) (μ4 : List (List Int) ->
 Nat),I4
 [[7640891576956012808,13503953896175478587,4354685564936845355,11912009170470909681,5840696475078001361,11170449401992604703,2270897969802886507,6620516959819538809],[0]]
 /\ (∀ r5 : List Int,inB (repB 0 18446744073709551615 8) r5 -> qN fun z13 => I4 [r5,[z13]] -> (qD (decide ((128 * z13) < z3)) (chkD 21 [z0,(128 * z13)] /\ qBf 21
 [z0,(128 * z13),0] fun z14 => chkD 21 [z0,((128 * z13) + 1)] /\ qBf 21 [z0,((128 * z13) + 1),0] fun z15 => chkD 21 [z0,((128 * z13) + 2)] /\ qBf 21 [z0,((128 *
 z13) + 2),0] fun z16 => chkD 21 [z0,((128 * z13) + 3)] /\ qBf 21 [z0,((128 * z13) + 3),0] fun z17 => chkD 21 [z0,((128 * z13) + 4)] /\ qBf 21 [z0,((128 * z13) +
 4),0] fun z18 => chkD 21 [z0,((128 * z13) + 5)] /\ qBf 21 [z0,((128 * z13) + 5),0] fun z19 => chkD 21 [z0,((128 * z13) + 6)] /\ qBf 21 [z0,((128 * z13) + 6),0]
 fun z20 => chkD 21 [z0,((128 * z13) + 7)] /\ qBf 21 [z0,((128 * z13) + 7),0] fun z21 => chkD 21 [z0,((128 * z13) + 8)] /\ qBf 21 [z0,((128 * z13) + 8),0] fun z22
 => chkD 21 [z0,((128 * z13) + 9)] /\ qBf 21 [z0,((128 * z13) + 9),0] fun z23 => chkD 21 [z0,((128 * z13) + 10)] /\ qBf 21 [z0,((128 * z13) + 10),0] fun z24 =>
 chkD 21 [z0,((128 * z13) + 11)] /\ qBf 21 [z0,((128 * z13) + 11),0] fun z25 => chkD 21 [z0,((128 * z13) + 12)] /\ qBf 21 [z0,((128 * z13) + 12),0] fun z26 =>
 chkD 21 [z0,((128 * z13) + 13)] /\ qBf 21 [z0,((128 * z13) + 13),0] fun z27 => chkD 21 [z0,((128 * z13) + 14)] /\ qBf 21 [z0,((128 * z13) + 14),0] fun z28 =>
 chkD 21 [z0,((128 * z13) + 15)] /\ qBf 21 [z0,((128 * z13) + 15),0] fun z29 => chkD 21 [z0,((128 * z13) + 16)] /\ qBf 21 [z0,((128 * z13) + 16),0] fun z30 =>
 chkD 21 [z0,((128 * z13) + 17)] /\ qBf 21 [z0,((128 * z13) + 17),0] fun z31 => chkD 21 [z0,((128 * z13) + 18)] /\ qBf 21 [z0,((128 * z13) + 18),0] fun z32 =>
 chkD 21 [z0,((128 * z13) + 19)] /\ qBf 21 [z0,((128 * z13) + 19),0] fun z33 => chkD 21 [z0,((128 * z13) + 20)] /\ qBf 21 [z0,((128 * z13) + 20),0] fun z34 =>
 chkD 21 [z0,((128 * z13) + 21)] /\ qBf 21 [z0,((128 * z13) + 21),0] fun z35 => chkD 21 [z0,((128 * z13) + 22)] /\ qBf 21 [z0,((128 * z13) + 22),0] fun z36 =>
 chkD 21 [z0,((128 * z13) + 23)] /\ qBf 21 [z0,((128 * z13) + 23),0] fun z37 => chkD 21 [z0,((128 * z13) + 24)] /\ qBf 21 [z0,((128 * z13) + 24),0] fun z38 =>
 chkD 21 [z0,((128 * z13) + 25)] /\ qBf 21 [z0,((128 * z13) + 25),0] fun z39 => chkD 21 [z0,((128 * z13) + 26)] /\ qBf 21 [z0,((128 * z13) + 26),0] fun z40 =>
 chkD 21 [z0,((128 * z13) + 27)] /\ qBf 21 [z0,((128 * z13) + 27),0] fun z41 => chkD 21 [z0,((128 * z13) + 28)] /\ qBf 21 [z0,((128 * z13) + 28),0] fun z42 =>
 chkD 21 [z0,((128 * z13) + 29)] /\ qBf 21 [z0,((128 * z13) + 29),0] fun z43 => chkD 21 [z0,((128 * z13) + 30)] /\ qBf 21 [z0,((128 * z13) + 30),0] fun z44 =>
 chkD 21 [z0,((128 * z13) + 31)] /\ qBf 21 [z0,((128 * z13) + 31),0] fun z45 => chkD 21 [z0,((128 * z13) + 32)] /\ qBf 21 [z0,((128 * z13) + 32),0] fun z46 =>
 chkD 21 [z0,((128 * z13) + 33)] /\ qBf 21 [z0,((128 * z13) + 33),0] fun z47 => chkD 21 [z0,((128 * z13) + 34)] /\ qBf 21 [z0,((128 * z13) + 34),0] fun z48 =>
 chkD 21 [z0,((128 * z13) + 35)] /\ qBf 21 [z0,((128 * z13) + 35),0] fun z49 => chkD 21 [z0,((128 * z13) + 36)] /\ qBf 21 [z0,((128 * z13) + 36),0] fun z50 =>
 chkD 21 [z0,((128 * z13) + 37)] /\ qBf 21 [z0,((128 * z13) + 37),0] fun z51 => chkD 21 [z0,((128 * z13) + 38)] /\ qBf 21 [z0,((128 * z13) + 38),0] fun z52 =>
 chkD 21 [z0,((128 * z13) + 39)] /\ qBf 21 [z0,((128 * z13) + 39),0] fun z53 => chkD 21 [z0,((128 * z13) + 40)] /\ qBf 21 [z0,((128 * z13) + 40),0] fun z54 =>
 chkD 21 [z0,((128 * z13) + 41)] /\ qBf 21 [z0,((128 * z13) + 41),0] fun z55 => chkD 21 [z0,((128 * z13) + 42)] /\ qBf 21 [z0,((128 * z13) + 42),0] fun z56 =>
 chkD 21 [z0,((128 * z13) + 43)] /\ qBf 21 [z0,((128 * z13) + 43),0] fun z57 => chkD 21 [z0,((128 * z13) + 44)] /\ qBf 21 [z0,((128 * z13) + 44),0] fun z58 =>
 chkD 21 [z0,((128 * z13) + 45)] /\ qBf 21 [z0,((128 * z13) + 45),0] fun z59 => chkD 21 [z0,((128 * z13) + 46)] /\ qBf 21 [z0,((128 * z13) + 46),0] fun z60 =>
 chkD 21 [z0,((128 * z13) + 47)] /\ qBf 21 [z0,((128 * z13) + 47),0] fun z61 => chkD 21 [z0,((128 * z13) + 48)] /\ qBf 21 [z0,((128 * z13) + 48),0] fun z62 =>
 chkD 21 [z0,((128 * z13) + 49)] /\ qBf 21 [z0,((128 * z13) + 49),0] fun z63 => chkD 21 [z0,((128 * z13) + 50)] /\ qBf 21 [z0,((128 * z13) + 50),0] fun z64 =>
 chkD 21 [z0,((128 * z13) + 51)] /\ qBf 21 [z0,((128 * z13) + 51),0] fun z65 => chkD 21 [z0,((128 * z13) + 52)] /\ qBf 21 [z0,((128 * z13) + 52),0] fun z66 =>
 chkD 21 [z0,((128 * z13) + 53)] /\ qBf 21 [z0,((128 * z13) + 53),0] fun z67 => chkD 21 [z0,((128 * z13) + 54)] /\ qBf 21 [z0,((128 * z13) + 54),0] fun z68 =>
 chkD 21 [z0,((128 * z13) + 55)] /\ qBf 21 [z0,((128 * z13) + 55),0] fun z69 => chkD 21 [z0,((128 * z13) + 56)] /\ qBf 21 [z0,((128 * z13) + 56),0] fun z70 =>
 chkD 21 [z0,((128 * z13) + 57)] /\ qBf 21 [z0,((128 * z13) + 57),0] fun z71 => chkD 21 [z0,((128 * z13) + 58)] /\ qBf 21 [z0,((128 * z13) + 58),0] fun z72 =>
 chkD 21 [z0,((128 * z13) + 59)] /\ qBf 21 [z0,((128 * z13) + 59),0] fun z73 => chkD 21 [z0,((128 * z13) + 60)] /\ qBf 21 [z0,((128 * z13) + 60),0] fun z74 =>
 chkD 21 [z0,((128 * z13) + 61)] /\ qBf 21 [z0,((128 * z13) + 61),0] fun z75 => chkD 21 [z0,((128 * z13) + 62)] /\ qBf 21 [z0,((128 * z13) + 62),0] fun z76 =>
 chkD 21 [z0,((128 * z13) + 63)] /\ qBf 21 [z0,((128 * z13) + 63),0] fun z77 => chkD 21 [z0,((128 * z13) + 64)] /\ qBf 21 [z0,((128 * z13) + 64),0] fun z78 =>
 chkD 21 [z0,((128 * z13) + 65)] /\ qBf 21 [z0,((128 * z13) + 65),0] fun z79 => chkD 21 [z0,((128 * z13) + 66)] /\ qBf 21 [z0,((128 * z13) + 66),0] fun z80 =>
 chkD 21 [z0,((128 * z13) + 67)] /\ qBf 21 [z0,((128 * z13) + 67),0] fun z81 => chkD 21 [z0,((128 * z13) + 68)] /\ qBf 21 [z0,((128 * z13) + 68),0] fun z82 =>
 chkD 21 [z0,((128 * z13) + 69)] /\ qBf 21 [z0,((128 * z13) + 69),0] fun z83 => chkD 21 [z0,((128 * z13) + 70)] /\ qBf 21 [z0,((128 * z13) + 70),0] fun z84 =>
 chkD 21 [z0,((128 * z13) + 71)] /\ qBf 21 [z0,((128 * z13) + 71),0] fun z85 => chkD 21 [z0,((128 * z13) + 72)] /\ qBf 21 [z0,((128 * z13) + 72),0] fun z86 =>
 chkD 21 [z0,((128 * z13) + 73)] /\ qBf 21 [z0,((128 * z13) + 73),0] fun z87 => chkD 21 [z0,((128 * z13) + 74)] /\ qBf 21 [z0,((128 * z13) + 74),0] fun z88 =>
 chkD 21 [z0,((128 * z13) + 75)] /\ qBf 21 [z0,((128 * z13) + 75),0] fun z89 => chkD 21 [z0,((128 * z13) + 76)] /\ qBf 21 [z0,((128 * z13) + 76),0] fun z90 =>
 chkD 21 [z0,((128 * z13) + 77)] /\ qBf 21 [z0,((128 * z13) + 77),0] fun z91 => chkD 21 [z0,((128 * z13) + 78)] /\ qBf 21 [z0,((128 * z13) + 78),0] fun z92 =>
 chkD 21 [z0,((128 * z13) + 79)] /\ qBf 21 [z0,((128 * z13) + 79),0] fun z93 => chkD 21 [z0,((128 * z13) + 80)] /\ qBf 21 [z0,((128 * z13) + 80),0] fun z94 =>
 chkD 21 [z0,((128 * z13) + 81)] /\ qBf 21 [z0,((128 * z13) + 81),0] fun z95 => chkD 21 [z0,((128 * z13) + 82)] /\ qBf 21 [z0,((128 * z13) + 82),0] fun z96 =>
 chkD 21 [z0,((128 * z13) + 83)] /\ qBf 21 [z0,((128 * z13) + 83),0] fun z97 => chkD 21 [z0,((128 * z13) + 84)] /\ qBf 21 [z0,((128 * z13) + 84),0] fun z98 =>
 chkD 21 [z0,((128 * z13) + 85)] /\ qBf 21 [z0,((128 * z13) + 85),0] fun z99 => chkD 21 [z0,((128 * z13) + 86)] /\ qBf 21 [z0,((128 * z13) + 86),0] fun z100 =>
 chkD 21 [z0,((128 * z13) + 87)] /\ qBf 21 [z0,((128 * z13) + 87),0] fun z101 => chkD 21 [z0,((128 * z13) + 88)] /\ qBf 21 [z0,((128 * z13) + 88),0] fun z102 =>
 chkD 21 [z0,((128 * z13) + 89)] /\ qBf 21 [z0,((128 * z13) + 89),0] fun z103 => chkD 21 [z0,((128 * z13) + 90)] /\ qBf 21 [z0,((128 * z13) + 90),0] fun z104 =>
 chkD 21 [z0,((128 * z13) + 91)] /\ qBf 21 [z0,((128 * z13) + 91),0] fun z105 => chkD 21 [z0,((128 * z13) + 92)] /\ qBf 21 [z0,((128 * z13) + 92),0] fun z106 =>
 chkD 21 [z0,((128 * z13) + 93)] /\ qBf 21 [z0,((128 * z13) + 93),0] fun z107 => chkD 21 [z0,((128 * z13) + 94)] /\ qBf 21 [z0,((128 * z13) + 94),0] fun z108 =>
 chkD 21 [z0,((128 * z13) + 95)] /\ qBf 21 [z0,((128 * z13) + 95),0] fun z109 => chkD 21 [z0,((128 * z13) + 96)] /\ qBf 21 [z0,((128 * z13) + 96),0] fun z110 =>
 chkD 21 [z0,((128 * z13) + 97)] /\ qBf 21 [z0,((128 * z13) + 97),0] fun z111 => chkD 21 [z0,((128 * z13) + 98)] /\ qBf 21 [z0,((128 * z13) + 98),0] fun z112 =>
 chkD 21 [z0,((128 * z13) + 99)] /\ qBf 21 [z0,((128 * z13) + 99),0] fun z113 => chkD 21 [z0,((128 * z13) + 100)] /\ qBf 21 [z0,((128 * z13) + 100),0] fun z114 =>
 chkD 21 [z0,((128 * z13) + 101)] /\ qBf 21 [z0,((128 * z13) + 101),0] fun z115 => chkD 21 [z0,((128 * z13) + 102)] /\ qBf 21 [z0,((128 * z13) + 102),0] fun z116
 => chkD 21 [z0,((128 * z13) + 103)] /\ qBf 21 [z0,((128 * z13) + 103),0] fun z117 => chkD 21 [z0,((128 * z13) + 104)] /\ qBf 21 [z0,((128 * z13) + 104),0] fun
 z118 => chkD 21 [z0,((128 * z13) + 105)] /\ qBf 21 [z0,((128 * z13) + 105),0] fun z119 => chkD 21 [z0,((128 * z13) + 106)] /\ qBf 21 [z0,((128 * z13) + 106),0]
 fun z120 => chkD 21 [z0,((128 * z13) + 107)] /\ qBf 21 [z0,((128 * z13) + 107),0] fun z121 => chkD 21 [z0,((128 * z13) + 108)] /\ qBf 21 [z0,((128 * z13) +
 108),0] fun z122 => chkD 21 [z0,((128 * z13) + 109)] /\ qBf 21 [z0,((128 * z13) + 109),0] fun z123 => chkD 21 [z0,((128 * z13) + 110)] /\ qBf 21 [z0,((128 * z13)
 + 110),0] fun z124 => chkD 21 [z0,((128 * z13) + 111)] /\ qBf 21 [z0,((128 * z13) + 111),0] fun z125 => chkD 21 [z0,((128 * z13) + 112)] /\ qBf 21 [z0,((128 *
 z13) + 112),0] fun z126 => chkD 21 [z0,((128 * z13) + 113)] /\ qBf 21 [z0,((128 * z13) + 113),0] fun z127 => chkD 21 [z0,((128 * z13) + 114)] /\ qBf 21 [z0,((128
 * z13) + 114),0] fun z128 => chkD 21 [z0,((128 * z13) + 115)] /\ qBf 21 [z0,((128 * z13) + 115),0] fun z129 => chkD 21 [z0,((128 * z13) + 116)] /\ qBf 21
 [z0,((128 * z13) + 116),0] fun z130 => chkD 21 [z0,((128 * z13) + 117)] /\ qBf 21 [z0,((128 * z13) + 117),0] fun z131 => chkD 21 [z0,((128 * z13) + 118)] /\ qBf
 21 [z0,((128 * z13) + 118),0] fun z132 => chkD 21 [z0,((128 * z13) + 119)] /\ qBf 21 [z0,((128 * z13) + 119),0] fun z133 => chkD 21 [z0,((128 * z13) + 120)] /\
 qBf 21 [z0,((128 * z13) + 120),0] fun z134 => chkD 21 [z0,((128 * z13) + 121)] /\ qBf 21 [z0,((128 * z13) + 121),0] fun z135 => chkD 21 [z0,((128 * z13) + 122)]
 /\ qBf 21 [z0,((128 * z13) + 122),0] fun z136 => chkD 21 [z0,((128 * z13) + 123)] /\ qBf 21 [z0,((128 * z13) + 123),0] fun z137 => chkD 21 [z0,((128 * z13) +
 124)] /\ qBf 21 [z0,((128 * z13) + 124),0] fun z138 => chkD 21 [z0,((128 * z13) + 125)] /\ qBf 21 [z0,((128 * z13) + 125),0] fun z139 => chkD 21 [z0,((128 * z13)
 + 126)] /\ qBf 21 [z0,((128 * z13) + 126),0] fun z140 => chkD 21 [z0,((128 * z13) + 127)] /\ qBf 21 [z0,((128 * z13) + 127),0] fun z141 => qRf 23
 [0,((72057594037927936 * z14) + ((281474976710656 * z15) + ((1099511627776 * z16) + ((4294967296 * z17) + ((16777216 * z18) + ((65536 * z19) + ((256 * z20) +
 z21)))))))] fun z142 => qRf 23 [z142,((72057594037927936 * z22) + ((281474976710656 * z23) + ((1099511627776 * z24) + ((4294967296 * z25) + ((16777216 * z26) +
 ((65536 * z27) + ((256 * z28) + z29)))))))] fun z143 => qRf 23 [z143,((72057594037927936 * z30) + ((281474976710656 * z31) + ((1099511627776 * z32) +
 ((4294967296 * z33) + ((16777216 * z34) + ((65536 * z35) + ((256 * z36) + z37)))))))] fun z144 => qRf 23 [z144,((72057594037927936 * z38) + ((281474976710656 *
 z39) + ((1099511627776 * z40) + ((4294967296 * z41) + ((16777216 * z42) + ((65536 * z43) + ((256 * z44) + z45)))))))] fun z145 => qRf 23
 [z145,((72057594037927936 * z46) + ((281474976710656 * z47) + ((1099511627776 * z48) + ((4294967296 * z49) + ((16777216 * z50) + ((65536 * z51) + ((256 * z52) +
 z53)))))))] fun z146 => qRf 23 [z146,((72057594037927936 * z54) + ((281474976710656 * z55) + ((1099511627776 * z56) + ((4294967296 * z57) + ((16777216 * z58) +
 ((65536 * z59) + ((256 * z60) + z61)))))))] fun z147 => qRf 23 [z147,((72057594037927936 * z62) + ((281474976710656 * z63) + ((1099511627776 * z64) +
 ((4294967296 * z65) + ((16777216 * z66) + ((65536 * z67) + ((256 * z68) + z69)))))))] fun z148 => qRf 23 [z148,((72057594037927936 * z70) + ((281474976710656 *
 z71) + ((1099511627776 * z72) + ((4294967296 * z73) + ((16777216 * z74) + ((65536 * z75) + ((256 * z76) + z77)))))))] fun z149 => qRf 23
 [z149,((72057594037927936 * z78) + ((281474976710656 * z79) + ((1099511627776 * z80) + ((4294967296 * z81) + ((16777216 * z82) + ((65536 * z83) + ((256 * z84) +
 z85)))))))] fun z150 => qRf 23 [z150,((72057594037927936 * z86) + ((281474976710656 * z87) + ((1099511627776 * z88) + ((4294967296 * z89) + ((16777216 * z90) +
 ((65536 * z91) + ((256 * z92) + z93)))))))] fun z151 => qRf 23 [z151,((72057594037927936 * z94) + ((281474976710656 * z95) + ((1099511627776 * z96) +
 ((4294967296 * z97) + ((16777216 * z98) + ((65536 * z99) + ((256 * z100) + z101)))))))] fun z152 => qRf 23 [z152,((72057594037927936 * z102) + ((281474976710656
 * z103) + ((1099511627776 * z104) + ((4294967296 * z105) + ((16777216 * z106) + ((65536 * z107) + ((256 * z108) + z109)))))))] fun z153 => qRf 23
 [z153,((72057594037927936 * z110) + ((281474976710656 * z111) + ((1099511627776 * z112) + ((4294967296 * z113) + ((16777216 * z114) + ((65536 * z115) + ((256 *
 z116) + z117)))))))] fun z154 => qRf 23 [z154,((72057594037927936 * z118) + ((281474976710656 * z119) + ((1099511627776 * z120) + ((4294967296 * z121) +
 ((16777216 * z122) + ((65536 * z123) + ((256 * z124) + z125)))))))] fun z155 => qRf 23 [z155,((72057594037927936 * z126) + ((281474976710656 * z127) +
 ((1099511627776 * z128) + ((4294967296 * z129) + ((16777216 * z130) + ((65536 * z131) + ((256 * z132) + z133)))))))] fun z156 => qRf 23 [z156,((72057594037927936
 * z134) + ((281474976710656 * z135) + ((1099511627776 * z136) + ((4294967296 * z137) + ((16777216 * z138) + ((65536 * z139) + ((256 * z140) + z141)))))))] fun
 z157 => chkD 66 [z157] /\ qR fun z158 => S 463 [[z157]] [[z158]] -> qM fun z159 => qNf 20 [z158] fun z160 => ∃ (I161 : List (List Int) -> Prop) (μ161 : List
 (List Int) -> Nat),I161 [[16],[z158],[z160],[z159]] /\ (qI 16 9223372036854775807 fun z162 => qR fun z163 => qN fun z164 => qM fun z165 => I161
 [[z162],[z163],[z164],[z165]] -> (qD (decide (z162 < 80)) (chkD 30 [(z162 + (-16)),z164] /\ chkD 21 [z163,(z162 + (-16))] /\ qLf 21 [z163,(z162 + (-16)),0] fun
 z166 => chkD 30 [(z162 + (-15)),z164] /\ chkD 21 [z163,(z162 + (-15))] /\ qLf 21 [z163,(z162 + (-15)),0] fun z167 => qL fun z168 => S 450 [[z167]] [[z168]] -> qW
 (z166 + z168) 18446744073709551616 fun z169 => chkD 30 [(z162 + (-7)),z164] /\ chkD 21 [z163,(z162 + (-7))] /\ qLf 21 [z163,(z162 + (-7)),0] fun z170 => qW (z166
 + (z168 + (((-18446744073709551616) * z169) + z170))) 18446744073709551616 fun z171 => chkD 30 [(z162 + (-2)),z164] /\ chkD 21 [z163,(z162 + (-2))] /\ qLf 21
 [z163,(z162 + (-2)),0] fun z172 => qL fun z173 => S 451 [[z172]] [[z173]] -> qW (z166 + (z168 + (((-18446744073709551616) * z169) + (z170 +
 (((-18446744073709551616) * z171) + z173))))) 18446744073709551616 fun z174 => chkD 31 [z163,z164] /\ chkD 23 [z163,1] /\ qRf 23 [z163,(z166 + (z168 +
 (((-18446744073709551616) * z169) + (z170 + (((-18446744073709551616) * z171) + (z173 + ((-18446744073709551616) * z174)))))))] fun z175 => qM fun z176 => (I161
 [[(z162 + 1)],[z175],[(z164 + 1)],[z176]] /\ μ161 [[(z162 + 1)],[z175],[(z164 + 1)],[z176]] < μ161 [[z162],[z163],[z164],[z165]])) (∃ (I166 : List (List Int) ->
 Prop) (μ166 : List (List Int) -> Nat),I166 [r5,[0]] /\ (∀ r167 : List Int,inB (repB 0 18446744073709551615 8) r167 -> qN fun z175 => I166 [r167,[z175]] -> (qD
 (decide (z175 < z164)) (chkD 30 [z175,z164] /\ chkD 21 [z163,z175] /\ qLf 21 [z163,z175,0] fun z176 => qL fun z177 => S 449 [[(List.getD r167 4 0)]] [[z177]] ->
 qW ((List.getD r167 7 0) + z177) 18446744073709551616 fun z178 => qG fun z179 => z179 ≤ IntKind.max .u64 -> z179 = bitI .and .u64 (List.getD r167 4 0) (List.getD
 r167 5 0) -> qG fun z180 => z180 ≤ IntKind.max .u64 -> z180 = bitI .and .u64 (((-1) * (List.getD r167 4 0)) + 18446744073709551615) (List.getD r167 6 0) -> qG
 fun z181 => z181 ≤ IntKind.max .u64 -> z181 = bitI .xor .u64 z179 z180 -> qW ((List.getD r167 7 0) + (z177 + (((-18446744073709551616) * z178) + z181)))
 18446744073709551616 fun z182 => chkD 39 [z175,0,79] /\ qL fun z183 => S 467 [[z175]] [[z183]] -> qW ((List.getD r167 7 0) + (z177 + (((-18446744073709551616) *
 z178) + (z181 + (((-18446744073709551616) * z182) + z183))))) 18446744073709551616 fun z184 => qW ((List.getD r167 7 0) + (z176 + (z177 +
 (((-18446744073709551616) * z178) + (z181 + (((-18446744073709551616) * z182) + (z183 + ((-18446744073709551616) * z184)))))))) 18446744073709551616 fun z185 =>
 qL fun z186 => S 448 [[(List.getD r167 0 0)]] [[z186]] -> qG fun z187 => z187 ≤ IntKind.max .u64 -> z187 = bitI .and .u64 (List.getD r167 0 0) (List.getD r167 1
 0) -> qG fun z188 => z188 ≤ IntKind.max .u64 -> z188 = bitI .and .u64 (List.getD r167 0 0) (List.getD r167 2 0) -> qG fun z189 => z189 ≤ IntKind.max .u64 -> z189
 = bitI .xor .u64 z187 z188 -> qG fun z190 => z190 ≤ IntKind.max .u64 -> z190 = bitI .and .u64 (List.getD r167 1 0) (List.getD r167 2 0) -> qG fun z191 => z191 ≤
 IntKind.max .u64 -> z191 = bitI .xor .u64 z189 z190 -> qW (z186 + z191) 18446744073709551616 fun z192 => qO fun z193 => 0 ≤ ((List.getD r167 3 0) + ((List.getD
 r167 7 0) + (z176 + (z177 + (((-18446744073709551616) * z178) + (z181 + (((-18446744073709551616) * z182) + (z183 + (((-18446744073709551616) * z184) +
 ((-18446744073709551616) * z185)))))))))) - 18446744073709551616 * z193 -> ((List.getD r167 3 0) + ((List.getD r167 7 0) + (z176 + (z177 +
 (((-18446744073709551616) * z178) + (z181 + (((-18446744073709551616) * z182) + (z183 + (((-18446744073709551616) * z184) + ((-18446744073709551616) *
 z185)))))))))) - 18446744073709551616 * z193 < 18446744073709551616 -> qO fun z194 => 0 ≤ ((List.getD r167 7 0) + (z176 + (z177 + (((-18446744073709551616) *
 z178) + (z181 + (((-18446744073709551616) * z182) + (z183 + (((-18446744073709551616) * z184) + (((-18446744073709551616) * z185) + (z186 + (z191 +
 ((-18446744073709551616) * z192)))))))))))) - 18446744073709551616 * z194 -> ((List.getD r167 7 0) + (z176 + (z177 + (((-18446744073709551616) * z178) + (z181 +
 (((-18446744073709551616) * z182) + (z183 + (((-18446744073709551616) * z184) + (((-18446744073709551616) * z185) + (z186 + (z191 + ((-18446744073709551616) *
 z192)))))))))))) - 18446744073709551616 * z194 < 18446744073709551616 -> qW (z175 + 9223372036854775809) 18446744073709551616 fun z195 => chkD 39 [((z175 +
 ((-18446744073709551616) * z195)) + 1),0,9223372036854775807] /\ (I166 [[((List.getD r167 7 0) + (z176 + (z177 + (((-18446744073709551616) * z178) + (z181 +
 (((-18446744073709551616) * z182) + (z183 + (((-18446744073709551616) * z184) + (((-18446744073709551616) * z185) + (z186 + (z191 + (((-18446744073709551616) *
 z192) + ((-18446744073709551616) * z194))))))))))))),(List.getD r167 0 0),(List.getD r167 1 0),(List.getD r167 2 0),((List.getD r167 3 0) + ((List.getD r167 7 0)
 + (z176 + (z177 + (((-18446744073709551616) * z178) + (z181 + (((-18446744073709551616) * z182) + (z183 + (((-18446744073709551616) * z184) +
 (((-18446744073709551616) * z185) + ((-18446744073709551616) * z193))))))))))),(List.getD r167 4 0),(List.getD r167 5 0),(List.getD r167 6 0)],[((z175 +
 ((-18446744073709551616) * z195)) + 1)]] /\ μ166 [[((List.getD r167 7 0) + (z176 + (z177 + (((-18446744073709551616) * z178) + (z181 + (((-18446744073709551616)
 * z182) + (z183 + (((-18446744073709551616) * z184) + (((-18446744073709551616) * z185) + (z186 + (z191 + (((-18446744073709551616) * z192) +
 ((-18446744073709551616) * z194))))))))))))),(List.getD r167 0 0),(List.getD r167 1 0),(List.getD r167 2 0),((List.getD r167 3 0) + ((List.getD r167 7 0) + (z176
 + (z177 + (((-18446744073709551616) * z178) + (z181 + (((-18446744073709551616) * z182) + (z183 + (((-18446744073709551616) * z184) + (((-18446744073709551616) *
 z185) + ((-18446744073709551616) * z193))))))))))),(List.getD r167 4 0),(List.getD r167 5 0),(List.getD r167 6 0)],[((z175 + ((-18446744073709551616) * z195)) +
 1)]] < μ166 [r167,[z175]])) (qW ((List.getD r5 0 0) + (List.getD r167 0 0)) 18446744073709551616 fun z176 => qW ((List.getD r5 1 0) + (List.getD r167 1 0))
 18446744073709551616 fun z177 => qW ((List.getD r5 2 0) + (List.getD r167 2 0)) 18446744073709551616 fun z178 => qW ((List.getD r5 3 0) + (List.getD r167 3 0))
 18446744073709551616 fun z179 => qW ((List.getD r5 4 0) + (List.getD r167 4 0)) 18446744073709551616 fun z180 => qW ((List.getD r5 5 0) + (List.getD r167 5 0))
 18446744073709551616 fun z181 => qW ((List.getD r5 6 0) + (List.getD r167 6 0)) 18446744073709551616 fun z182 => qW ((List.getD r5 7 0) + (List.getD r167 7 0))
 18446744073709551616 fun z183 => (I4 [[((List.getD r5 0 0) + ((List.getD r167 0 0) + ((-18446744073709551616) * z176))),((List.getD r5 1 0) + ((List.getD r167 1
 0) + ((-18446744073709551616) * z177))),((List.getD r5 2 0) + ((List.getD r167 2 0) + ((-18446744073709551616) * z178))),((List.getD r5 3 0) + ((List.getD r167 3
 0) + ((-18446744073709551616) * z179))),((List.getD r5 4 0) + ((List.getD r167 4 0) + ((-18446744073709551616) * z180))),((List.getD r5 5 0) + ((List.getD r167 5
 0) + ((-18446744073709551616) * z181))),((List.getD r5 6 0) + ((List.getD r167 6 0) + ((-18446744073709551616) * z182))),((List.getD r5 7 0) + ((List.getD r167 7
 0) + ((-18446744073709551616) * z183)))],[(z13 + 1)]] /\ μ4 [[((List.getD r5 0 0) + ((List.getD r167 0 0) + ((-18446744073709551616) * z176))),((List.getD r5 1
 0) + ((List.getD r167 1 0) + ((-18446744073709551616) * z177))),((List.getD r5 2 0) + ((List.getD r167 2 0) + ((-18446744073709551616) * z178))),((List.getD r5 3
 0) + ((List.getD r167 3 0) + ((-18446744073709551616) * z179))),((List.getD r5 4 0) + ((List.getD r167 4 0) + ((-18446744073709551616) * z180))),((List.getD r5 5
 0) + ((List.getD r167 5 0) + ((-18446744073709551616) * z181))),((List.getD r5 6 0) + ((List.getD r167 6 0) + ((-18446744073709551616) * z182))),((List.getD r5 7
 0) + ((List.getD r167 7 0) + ((-18446744073709551616) * z183)))],[(z13 + 1)]] < μ4 [r5,[z13]])))))))) (∃ (I14 : List (List Int) -> Prop) (μ14 : List (List Int)
 -> Nat),I14 [[7],[0],[0],[(-1)]] /\ (qI (-1) 7 fun z15 => qR fun z16 => qN fun z17 => qM fun z18 => I14 [[z15],[z16],[z17],[z18]] -> (qD (decide (0 ≤ z15)) (qL
 fun z19 => z19 = (List.getD r5 0 0) / 2 ^ ((8 * z15)).toNat -> qV 0 72057594037927935 z19 256 fun z20 => chkD 31 [z16,z17] /\ chkD 23 [z16,1] /\ qRf 23 [z16,(z19
 + ((-256) * z20))] fun z21 => qM fun z22 => (I14 [[(z15 + (-1))],[z21],[(z17 + 1)],[z22]] /\ μ14 [[(z15 + (-1))],[z21],[(z17 + 1)],[z22]] < μ14
 [[z15],[z16],[z17],[z18]])) (∃ (I19 : List (List Int) -> Prop) (μ19 : List (List Int) -> Nat),I19 [[7],[z16],[z17],[z18]] /\ (qI (-1) 7 fun z20 => qR fun z21 =>
 qN fun z22 => qM fun z23 => I19 [[z20],[z21],[z22],[z23]] -> (qD (decide (0 ≤ z20)) (qL fun z24 => z24 = (List.getD r5 1 0) / 2 ^ ((8 * z20)).toNat -> qV 0
 72057594037927935 z24 256 fun z25 => chkD 31 [z21,z22] /\ chkD 23 [z21,1] /\ qRf 23 [z21,(z24 + ((-256) * z25))] fun z26 => qM fun z27 => (I19 [[(z20 +
 (-1))],[z26],[(z22 + 1)],[z27]] /\ μ19 [[(z20 + (-1))],[z26],[(z22 + 1)],[z27]] < μ19 [[z20],[z21],[z22],[z23]])) (∃ (I24 : List (List Int) -> Prop) (μ24 : List
 (List Int) -> Nat),I24 [[7],[z21],[z22],[z23]] /\ (qI (-1) 7 fun z25 => qR fun z26 => qN fun z27 => qM fun z28 => I24 [[z25],[z26],[z27],[z28]] -> (qD (decide (0
 ≤ z25)) (qL fun z29 => z29 = (List.getD r5 2 0) / 2 ^ ((8 * z25)).toNat -> qV 0 72057594037927935 z29 256 fun z30 => chkD 31 [z26,z27] /\ chkD 23 [z26,1] /\ qRf
 23 [z26,(z29 + ((-256) * z30))] fun z31 => qM fun z32 => (I24 [[(z25 + (-1))],[z31],[(z27 + 1)],[z32]] /\ μ24 [[(z25 + (-1))],[z31],[(z27 + 1)],[z32]] < μ24
 [[z25],[z26],[z27],[z28]])) (∃ (I29 : List (List Int) -> Prop) (μ29 : List (List Int) -> Nat),I29 [[7],[z26],[z27],[z28]] /\ (qI (-1) 7 fun z30 => qR fun z31 =>
 qN fun z32 => qM fun z33 => I29 [[z30],[z31],[z32],[z33]] -> (qD (decide (0 ≤ z30)) (qL fun z34 => z34 = (List.getD r5 3 0) / 2 ^ ((8 * z30)).toNat -> qV 0
 72057594037927935 z34 256 fun z35 => chkD 31 [z31,z32] /\ chkD 23 [z31,1] /\ qRf 23 [z31,(z34 + ((-256) * z35))] fun z36 => qM fun z37 => (I29 [[(z30 +
 (-1))],[z36],[(z32 + 1)],[z37]] /\ μ29 [[(z30 + (-1))],[z36],[(z32 + 1)],[z37]] < μ29 [[z30],[z31],[z32],[z33]])) (∃ (I34 : List (List Int) -> Prop) (μ34 : List
 (List Int) -> Nat),I34 [[7],[z31],[z32],[z33]] /\ (qI (-1) 7 fun z35 => qR fun z36 => qN fun z37 => qM fun z38 => I34 [[z35],[z36],[z37],[z38]] -> (qD (decide (0
 ≤ z35)) (qL fun z39 => z39 = (List.getD r5 4 0) / 2 ^ ((8 * z35)).toNat -> qV 0 72057594037927935 z39 256 fun z40 => chkD 31 [z36,z37] /\ chkD 23 [z36,1] /\ qRf
 23 [z36,(z39 + ((-256) * z40))] fun z41 => qM fun z42 => (I34 [[(z35 + (-1))],[z41],[(z37 + 1)],[z42]] /\ μ34 [[(z35 + (-1))],[z41],[(z37 + 1)],[z42]] < μ34
 [[z35],[z36],[z37],[z38]])) (∃ (I39 : List (List Int) -> Prop) (μ39 : List (List Int) -> Nat),I39 [[7],[z36],[z37],[z38]] /\ (qI (-1) 7 fun z40 => qR fun z41 =>
 qN fun z42 => qM fun z43 => I39 [[z40],[z41],[z42],[z43]] -> (qD (decide (0 ≤ z40)) (qL fun z44 => z44 = (List.getD r5 5 0) / 2 ^ ((8 * z40)).toNat -> qV 0
 72057594037927935 z44 256 fun z45 => chkD 31 [z41,z42] /\ chkD 23 [z41,1] /\ qRf 23 [z41,(z44 + ((-256) * z45))] fun z46 => qM fun z47 => (I39 [[(z40 +
 (-1))],[z46],[(z42 + 1)],[z47]] /\ μ39 [[(z40 + (-1))],[z46],[(z42 + 1)],[z47]] < μ39 [[z40],[z41],[z42],[z43]])) (∃ (I44 : List (List Int) -> Prop) (μ44 : List
 (List Int) -> Nat),I44 [[7],[z41],[z42],[z43]] /\ (qI (-1) 7 fun z45 => qR fun z46 => qN fun z47 => qM fun z48 => I44 [[z45],[z46],[z47],[z48]] -> (qD (decide (0
 ≤ z45)) (qL fun z49 => z49 = (List.getD r5 6 0) / 2 ^ ((8 * z45)).toNat -> qV 0 72057594037927935 z49 256 fun z50 => chkD 31 [z46,z47] /\ chkD 23 [z46,1] /\ qRf
 23 [z46,(z49 + ((-256) * z50))] fun z51 => qM fun z52 => (I44 [[(z45 + (-1))],[z51],[(z47 + 1)],[z52]] /\ μ44 [[(z45 + (-1))],[z51],[(z47 + 1)],[z52]] < μ44
 [[z45],[z46],[z47],[z48]])) (∃ (I49 : List (List Int) -> Prop) (μ49 : List (List Int) -> Nat),I49 [[7],[z46],[z47],[z48]] /\ (qI (-1) 7 fun z50 => qR fun z51 =>
 qN fun z52 => qM fun z53 => I49 [[z50],[z51],[z52],[z53]] -> (qD (decide (0 ≤ z50)) (qL fun z54 => z54 = (List.getD r5 7 0) / 2 ^ ((8 * z50)).toNat -> qV 0
 72057594037927935 z54 256 fun z55 => chkD 31 [z51,z52] /\ chkD 23 [z51,1] /\ qRf 23 [z51,(z54 + ((-256) * z55))] fun z56 => qM fun z57 => (I49 [[(z50 +
 (-1))],[z56],[(z52 + 1)],[z57]] /\ μ49 [[(z50 + (-1))],[z56],[(z52 + 1)],[z57]] < μ49 [[z50],[z51],[z52],[z53]])) (chkD 22 [z51,0,z52] /\ qRf 22 [z51,0,z52] fun
 z54 => K [[z0]] [[z54]]))))))))))))))))))))))))))))
theorem zip8_64 (f : Int → Int → Int) {r t : List Int} (h : r.length = 8) (h' : t.length = 8) : List.zipWith f r t = [f (r.getD 0 0) (t.getD 0 0), f (r.getD 1 0) (t.getD 1 0), f (r.getD 2 0) (t.getD 2 0), f (r.getD 3 0) (t.getD 3 0), f (r.getD 4 0) (t.getD 4 0), f (r.getD 5 0) (t.getD 5 0), f (r.getD 6 0) (t.getD 6 0), f (r.getD 7 0) (t.getD 7 0)] := by
  match r, t, h, h' with
  | [_, _, _, _, _, _, _, _], [_, _, _, _, _, _, _, _], _, _ => rfl
theorem step8_64 (i : Nat) (x : Int) {r : List Int} (hr : r.length = 8) : stepW W64 i x r = (let t := md W64 (r.getD 7 0 + bs1 W64 (r.getD 4 0) + chF W64 (r.getD 4 0) (r.getD 5 0) (r.getD 6 0) + rk W64 i + x); let u := md W64 (bs0 W64 (r.getD 0 0) + mjF W64 (r.getD 0 0) (r.getD 1 0) (r.getD 2 0)); [md W64 (t + u), r.getD 0 0, r.getD 1 0, r.getD 2 0, md W64 (r.getD 3 0 + t), r.getD 4 0, r.getD 5 0, r.getD 6 0]) := by
  match r, hr with
  | [_, _, _, _, _, _, _, _], _ => rfl
theorem md_64 (x : Int) : md W64 x = x % 18446744073709551616 := by
  show x % (2 : Int) ^ 64 = _
  rw [show (2 : Int) ^ 64 = 18446744073709551616 by decide]
theorem beg_64 : begW W64 = [7640891576956012808, 13503953896175478587, 4354685564936845355, 11912009170470909681, 5840696475078001361, 11170449401992604703, 2270897969802886507, 6620516959819538809] := by decide +kernel
set_option maxHeartbeats 4000000 in
theorem p_all64 : B_all64 SB (KBb SB [ou8] 465) := by
  intro z0 a0 a1 hp z1 b0 z2 c0 c1 z3 d0 d1 h3
  have hp : 128 ∣ (rOf z0).length ∧ (rOf z0).length ≤ 1000001000 := hp
  have h3 : z3 = ((rOf z0).length : Int) := h3
  obtain ⟨⟨q, hq⟩, hp2⟩ := hp
  have hbl : (bys z0).length = 128 * q := by rw [bys_len, hq]
  have h3q : z3 = 128 * (q : Int) := by rw [h3, hq]; simp
  refine ⟨⟨(q : Int), h3q⟩, fun l => ∃ (i : Nat), i ≤ q ∧ l = [blocksW W64 (bys z0) i (begW W64), [(i : Int)]], fun l => ((q : Int) - (l.getD 1 []).getD 0 0).toNat, ⟨0, Nat.zero_le _, by
    show _ = [begW W64, [(0 : Int)]]
    rw [beg_64]⟩, ?_⟩
  intro r5 hr5 z13 e0 e1 ⟨i, hi, hI⟩
  simp only [List.cons.injEq, and_true] at hI
  obtain ⟨hI5, hI13⟩ := hI
  obtain ⟨l5, b5⟩ := inB_rep 8 r5 hr5
  have hlen0 : ((rOf z0).length : Int) = 128 * (q : Int) := by rw [← h3, h3q]
  refine ⟨fun h => ?_, fun h => ?_⟩
  · have h := of_decide_eq_true h
    have hiq : i < q := by omega
    have c21 : ∀ k : Int, 0 ≤ k → k < 128 → chkD 21 [z0, 128 * z13 + k] := fun k h1 h2 => ⟨by omega, by rw [hlen0]; omega⟩
    have c21' : chkD 21 [z0, 128 * z13] := ⟨by omega, by rw [hlen0]; omega⟩
    refine ⟨c21', ?_⟩
    intro z14 f0 g0 t0
    refine ⟨c21 1 (by decide) (by decide), ?_⟩
    intro z15 f1 g1 t1
    refine ⟨c21 2 (by decide) (by decide), ?_⟩
    intro z16 f2 g2 t2
    refine ⟨c21 3 (by decide) (by decide), ?_⟩
    intro z17 f3 g3 t3
    refine ⟨c21 4 (by decide) (by decide), ?_⟩
    intro z18 f4 g4 t4
    refine ⟨c21 5 (by decide) (by decide), ?_⟩
    intro z19 f5 g5 t5
    refine ⟨c21 6 (by decide) (by decide), ?_⟩
    intro z20 f6 g6 t6
    refine ⟨c21 7 (by decide) (by decide), ?_⟩
    intro z21 f7 g7 t7
    refine ⟨c21 8 (by decide) (by decide), ?_⟩
    intro z22 f8 g8 t8
    refine ⟨c21 9 (by decide) (by decide), ?_⟩
    intro z23 f9 g9 t9
    refine ⟨c21 10 (by decide) (by decide), ?_⟩
    intro z24 f10 g10 t10
    refine ⟨c21 11 (by decide) (by decide), ?_⟩
    intro z25 f11 g11 t11
    refine ⟨c21 12 (by decide) (by decide), ?_⟩
    intro z26 f12 g12 t12
    refine ⟨c21 13 (by decide) (by decide), ?_⟩
    intro z27 f13 g13 t13
    refine ⟨c21 14 (by decide) (by decide), ?_⟩
    intro z28 f14 g14 t14
    refine ⟨c21 15 (by decide) (by decide), ?_⟩
    intro z29 f15 g15 t15
    refine ⟨c21 16 (by decide) (by decide), ?_⟩
    intro z30 f16 g16 t16
    refine ⟨c21 17 (by decide) (by decide), ?_⟩
    intro z31 f17 g17 t17
    refine ⟨c21 18 (by decide) (by decide), ?_⟩
    intro z32 f18 g18 t18
    refine ⟨c21 19 (by decide) (by decide), ?_⟩
    intro z33 f19 g19 t19
    refine ⟨c21 20 (by decide) (by decide), ?_⟩
    intro z34 f20 g20 t20
    refine ⟨c21 21 (by decide) (by decide), ?_⟩
    intro z35 f21 g21 t21
    refine ⟨c21 22 (by decide) (by decide), ?_⟩
    intro z36 f22 g22 t22
    refine ⟨c21 23 (by decide) (by decide), ?_⟩
    intro z37 f23 g23 t23
    refine ⟨c21 24 (by decide) (by decide), ?_⟩
    intro z38 f24 g24 t24
    refine ⟨c21 25 (by decide) (by decide), ?_⟩
    intro z39 f25 g25 t25
    refine ⟨c21 26 (by decide) (by decide), ?_⟩
    intro z40 f26 g26 t26
    refine ⟨c21 27 (by decide) (by decide), ?_⟩
    intro z41 f27 g27 t27
    refine ⟨c21 28 (by decide) (by decide), ?_⟩
    intro z42 f28 g28 t28
    refine ⟨c21 29 (by decide) (by decide), ?_⟩
    intro z43 f29 g29 t29
    refine ⟨c21 30 (by decide) (by decide), ?_⟩
    intro z44 f30 g30 t30
    refine ⟨c21 31 (by decide) (by decide), ?_⟩
    intro z45 f31 g31 t31
    refine ⟨c21 32 (by decide) (by decide), ?_⟩
    intro z46 f32 g32 t32
    refine ⟨c21 33 (by decide) (by decide), ?_⟩
    intro z47 f33 g33 t33
    refine ⟨c21 34 (by decide) (by decide), ?_⟩
    intro z48 f34 g34 t34
    refine ⟨c21 35 (by decide) (by decide), ?_⟩
    intro z49 f35 g35 t35
    refine ⟨c21 36 (by decide) (by decide), ?_⟩
    intro z50 f36 g36 t36
    refine ⟨c21 37 (by decide) (by decide), ?_⟩
    intro z51 f37 g37 t37
    refine ⟨c21 38 (by decide) (by decide), ?_⟩
    intro z52 f38 g38 t38
    refine ⟨c21 39 (by decide) (by decide), ?_⟩
    intro z53 f39 g39 t39
    refine ⟨c21 40 (by decide) (by decide), ?_⟩
    intro z54 f40 g40 t40
    refine ⟨c21 41 (by decide) (by decide), ?_⟩
    intro z55 f41 g41 t41
    refine ⟨c21 42 (by decide) (by decide), ?_⟩
    intro z56 f42 g42 t42
    refine ⟨c21 43 (by decide) (by decide), ?_⟩
    intro z57 f43 g43 t43
    refine ⟨c21 44 (by decide) (by decide), ?_⟩
    intro z58 f44 g44 t44
    refine ⟨c21 45 (by decide) (by decide), ?_⟩
    intro z59 f45 g45 t45
    refine ⟨c21 46 (by decide) (by decide), ?_⟩
    intro z60 f46 g46 t46
    refine ⟨c21 47 (by decide) (by decide), ?_⟩
    intro z61 f47 g47 t47
    refine ⟨c21 48 (by decide) (by decide), ?_⟩
    intro z62 f48 g48 t48
    refine ⟨c21 49 (by decide) (by decide), ?_⟩
    intro z63 f49 g49 t49
    refine ⟨c21 50 (by decide) (by decide), ?_⟩
    intro z64 f50 g50 t50
    refine ⟨c21 51 (by decide) (by decide), ?_⟩
    intro z65 f51 g51 t51
    refine ⟨c21 52 (by decide) (by decide), ?_⟩
    intro z66 f52 g52 t52
    refine ⟨c21 53 (by decide) (by decide), ?_⟩
    intro z67 f53 g53 t53
    refine ⟨c21 54 (by decide) (by decide), ?_⟩
    intro z68 f54 g54 t54
    refine ⟨c21 55 (by decide) (by decide), ?_⟩
    intro z69 f55 g55 t55
    refine ⟨c21 56 (by decide) (by decide), ?_⟩
    intro z70 f56 g56 t56
    refine ⟨c21 57 (by decide) (by decide), ?_⟩
    intro z71 f57 g57 t57
    refine ⟨c21 58 (by decide) (by decide), ?_⟩
    intro z72 f58 g58 t58
    refine ⟨c21 59 (by decide) (by decide), ?_⟩
    intro z73 f59 g59 t59
    refine ⟨c21 60 (by decide) (by decide), ?_⟩
    intro z74 f60 g60 t60
    refine ⟨c21 61 (by decide) (by decide), ?_⟩
    intro z75 f61 g61 t61
    refine ⟨c21 62 (by decide) (by decide), ?_⟩
    intro z76 f62 g62 t62
    refine ⟨c21 63 (by decide) (by decide), ?_⟩
    intro z77 f63 g63 t63
    refine ⟨c21 64 (by decide) (by decide), ?_⟩
    intro z78 f64 g64 t64
    refine ⟨c21 65 (by decide) (by decide), ?_⟩
    intro z79 f65 g65 t65
    refine ⟨c21 66 (by decide) (by decide), ?_⟩
    intro z80 f66 g66 t66
    refine ⟨c21 67 (by decide) (by decide), ?_⟩
    intro z81 f67 g67 t67
    refine ⟨c21 68 (by decide) (by decide), ?_⟩
    intro z82 f68 g68 t68
    refine ⟨c21 69 (by decide) (by decide), ?_⟩
    intro z83 f69 g69 t69
    refine ⟨c21 70 (by decide) (by decide), ?_⟩
    intro z84 f70 g70 t70
    refine ⟨c21 71 (by decide) (by decide), ?_⟩
    intro z85 f71 g71 t71
    refine ⟨c21 72 (by decide) (by decide), ?_⟩
    intro z86 f72 g72 t72
    refine ⟨c21 73 (by decide) (by decide), ?_⟩
    intro z87 f73 g73 t73
    refine ⟨c21 74 (by decide) (by decide), ?_⟩
    intro z88 f74 g74 t74
    refine ⟨c21 75 (by decide) (by decide), ?_⟩
    intro z89 f75 g75 t75
    refine ⟨c21 76 (by decide) (by decide), ?_⟩
    intro z90 f76 g76 t76
    refine ⟨c21 77 (by decide) (by decide), ?_⟩
    intro z91 f77 g77 t77
    refine ⟨c21 78 (by decide) (by decide), ?_⟩
    intro z92 f78 g78 t78
    refine ⟨c21 79 (by decide) (by decide), ?_⟩
    intro z93 f79 g79 t79
    refine ⟨c21 80 (by decide) (by decide), ?_⟩
    intro z94 f80 g80 t80
    refine ⟨c21 81 (by decide) (by decide), ?_⟩
    intro z95 f81 g81 t81
    refine ⟨c21 82 (by decide) (by decide), ?_⟩
    intro z96 f82 g82 t82
    refine ⟨c21 83 (by decide) (by decide), ?_⟩
    intro z97 f83 g83 t83
    refine ⟨c21 84 (by decide) (by decide), ?_⟩
    intro z98 f84 g84 t84
    refine ⟨c21 85 (by decide) (by decide), ?_⟩
    intro z99 f85 g85 t85
    refine ⟨c21 86 (by decide) (by decide), ?_⟩
    intro z100 f86 g86 t86
    refine ⟨c21 87 (by decide) (by decide), ?_⟩
    intro z101 f87 g87 t87
    refine ⟨c21 88 (by decide) (by decide), ?_⟩
    intro z102 f88 g88 t88
    refine ⟨c21 89 (by decide) (by decide), ?_⟩
    intro z103 f89 g89 t89
    refine ⟨c21 90 (by decide) (by decide), ?_⟩
    intro z104 f90 g90 t90
    refine ⟨c21 91 (by decide) (by decide), ?_⟩
    intro z105 f91 g91 t91
    refine ⟨c21 92 (by decide) (by decide), ?_⟩
    intro z106 f92 g92 t92
    refine ⟨c21 93 (by decide) (by decide), ?_⟩
    intro z107 f93 g93 t93
    refine ⟨c21 94 (by decide) (by decide), ?_⟩
    intro z108 f94 g94 t94
    refine ⟨c21 95 (by decide) (by decide), ?_⟩
    intro z109 f95 g95 t95
    refine ⟨c21 96 (by decide) (by decide), ?_⟩
    intro z110 f96 g96 t96
    refine ⟨c21 97 (by decide) (by decide), ?_⟩
    intro z111 f97 g97 t97
    refine ⟨c21 98 (by decide) (by decide), ?_⟩
    intro z112 f98 g98 t98
    refine ⟨c21 99 (by decide) (by decide), ?_⟩
    intro z113 f99 g99 t99
    refine ⟨c21 100 (by decide) (by decide), ?_⟩
    intro z114 f100 g100 t100
    refine ⟨c21 101 (by decide) (by decide), ?_⟩
    intro z115 f101 g101 t101
    refine ⟨c21 102 (by decide) (by decide), ?_⟩
    intro z116 f102 g102 t102
    refine ⟨c21 103 (by decide) (by decide), ?_⟩
    intro z117 f103 g103 t103
    refine ⟨c21 104 (by decide) (by decide), ?_⟩
    intro z118 f104 g104 t104
    refine ⟨c21 105 (by decide) (by decide), ?_⟩
    intro z119 f105 g105 t105
    refine ⟨c21 106 (by decide) (by decide), ?_⟩
    intro z120 f106 g106 t106
    refine ⟨c21 107 (by decide) (by decide), ?_⟩
    intro z121 f107 g107 t107
    refine ⟨c21 108 (by decide) (by decide), ?_⟩
    intro z122 f108 g108 t108
    refine ⟨c21 109 (by decide) (by decide), ?_⟩
    intro z123 f109 g109 t109
    refine ⟨c21 110 (by decide) (by decide), ?_⟩
    intro z124 f110 g110 t110
    refine ⟨c21 111 (by decide) (by decide), ?_⟩
    intro z125 f111 g111 t111
    refine ⟨c21 112 (by decide) (by decide), ?_⟩
    intro z126 f112 g112 t112
    refine ⟨c21 113 (by decide) (by decide), ?_⟩
    intro z127 f113 g113 t113
    refine ⟨c21 114 (by decide) (by decide), ?_⟩
    intro z128 f114 g114 t114
    refine ⟨c21 115 (by decide) (by decide), ?_⟩
    intro z129 f115 g115 t115
    refine ⟨c21 116 (by decide) (by decide), ?_⟩
    intro z130 f116 g116 t116
    refine ⟨c21 117 (by decide) (by decide), ?_⟩
    intro z131 f117 g117 t117
    refine ⟨c21 118 (by decide) (by decide), ?_⟩
    intro z132 f118 g118 t118
    refine ⟨c21 119 (by decide) (by decide), ?_⟩
    intro z133 f119 g119 t119
    refine ⟨c21 120 (by decide) (by decide), ?_⟩
    intro z134 f120 g120 t120
    refine ⟨c21 121 (by decide) (by decide), ?_⟩
    intro z135 f121 g121 t121
    refine ⟨c21 122 (by decide) (by decide), ?_⟩
    intro z136 f122 g122 t122
    refine ⟨c21 123 (by decide) (by decide), ?_⟩
    intro z137 f123 g123 t123
    refine ⟨c21 124 (by decide) (by decide), ?_⟩
    intro z138 f124 g124 t124
    refine ⟨c21 125 (by decide) (by decide), ?_⟩
    intro z139 f125 g125 t125
    refine ⟨c21 126 (by decide) (by decide), ?_⟩
    intro z140 f126 g126 t126
    refine ⟨c21 127 (by decide) (by decide), ?_⟩
    intro z141 f127 g127 t127
    obtain ⟨bl, hbl2⟩ : ∃ l, ((bys z0).drop (128 * i)).take 128 = l := ⟨_, rfl⟩
    have bll : bl.length = 128 := by rw [← hbl2, List.length_take, List.length_drop, hbl]; omega
    have ld : ∀ (k : Nat) (y z : Int), k < 128 → y = (k : Int) → z = fnD 21 [z0, 128 * z13 + y, 0] → z = bl.getD k 0 := fun k y z hk hy hz => by
      rw [fn21 hz, ← hbl2, drop_getD _ _ _ _ hk]
      congr 1; omega
    have hB : [z14, z15, z16, z17, z18, z19, z20, z21, z22, z23, z24, z25, z26, z27, z28, z29, z30, z31, z32, z33, z34, z35, z36, z37, z38, z39, z40, z41, z42, z43, z44, z45, z46, z47, z48, z49, z50, z51, z52, z53, z54, z55, z56, z57, z58, z59, z60, z61, z62, z63, z64, z65, z66, z67, z68, z69, z70, z71, z72, z73, z74, z75, z76, z77, z78, z79, z80, z81, z82, z83, z84, z85, z86, z87, z88, z89, z90, z91, z92, z93, z94, z95, z96, z97, z98, z99, z100, z101, z102, z103, z104, z105, z106, z107, z108, z109, z110, z111, z112, z113, z114, z115, z116, z117, z118, z119, z120, z121, z122, z123, z124, z125, z126, z127, z128, z129, z130, z131, z132, z133, z134, z135, z136, z137, z138, z139, z140, z141] = bl := by
      rw [ld 0 0 z14 (by decide) rfl (by rw [Int.add_zero]; exact t0), ld 1 1 z15 (by decide) rfl t1, ld 2 2 z16 (by decide) rfl t2, ld 3 3 z17 (by decide) rfl t3, ld 4 4 z18 (by decide) rfl t4, ld 5 5 z19 (by decide) rfl t5, ld 6 6 z20 (by decide) rfl t6, ld 7 7 z21 (by decide) rfl t7, ld 8 8 z22 (by decide) rfl t8, ld 9 9 z23 (by decide) rfl t9, ld 10 10 z24 (by decide) rfl t10, ld 11 11 z25 (by decide) rfl t11, ld 12 12 z26 (by decide) rfl t12, ld 13 13 z27 (by decide) rfl t13, ld 14 14 z28 (by decide) rfl t14, ld 15 15 z29 (by decide) rfl t15, ld 16 16 z30 (by decide) rfl t16, ld 17 17 z31 (by decide) rfl t17, ld 18 18 z32 (by decide) rfl t18, ld 19 19 z33 (by decide) rfl t19, ld 20 20 z34 (by decide) rfl t20, ld 21 21 z35 (by decide) rfl t21, ld 22 22 z36 (by decide) rfl t22, ld 23 23 z37 (by decide) rfl t23, ld 24 24 z38 (by decide) rfl t24, ld 25 25 z39 (by decide) rfl t25, ld 26 26 z40 (by decide) rfl t26, ld 27 27 z41 (by decide) rfl t27, ld 28 28 z42 (by decide) rfl t28, ld 29 29 z43 (by decide) rfl t29, ld 30 30 z44 (by decide) rfl t30, ld 31 31 z45 (by decide) rfl t31, ld 32 32 z46 (by decide) rfl t32, ld 33 33 z47 (by decide) rfl t33, ld 34 34 z48 (by decide) rfl t34, ld 35 35 z49 (by decide) rfl t35, ld 36 36 z50 (by decide) rfl t36, ld 37 37 z51 (by decide) rfl t37, ld 38 38 z52 (by decide) rfl t38, ld 39 39 z53 (by decide) rfl t39, ld 40 40 z54 (by decide) rfl t40, ld 41 41 z55 (by decide) rfl t41, ld 42 42 z56 (by decide) rfl t42, ld 43 43 z57 (by decide) rfl t43, ld 44 44 z58 (by decide) rfl t44, ld 45 45 z59 (by decide) rfl t45, ld 46 46 z60 (by decide) rfl t46, ld 47 47 z61 (by decide) rfl t47, ld 48 48 z62 (by decide) rfl t48, ld 49 49 z63 (by decide) rfl t49, ld 50 50 z64 (by decide) rfl t50, ld 51 51 z65 (by decide) rfl t51, ld 52 52 z66 (by decide) rfl t52, ld 53 53 z67 (by decide) rfl t53, ld 54 54 z68 (by decide) rfl t54, ld 55 55 z69 (by decide) rfl t55, ld 56 56 z70 (by decide) rfl t56, ld 57 57 z71 (by decide) rfl t57, ld 58 58 z72 (by decide) rfl t58, ld 59 59 z73 (by decide) rfl t59, ld 60 60 z74 (by decide) rfl t60, ld 61 61 z75 (by decide) rfl t61, ld 62 62 z76 (by decide) rfl t62, ld 63 63 z77 (by decide) rfl t63, ld 64 64 z78 (by decide) rfl t64, ld 65 65 z79 (by decide) rfl t65, ld 66 66 z80 (by decide) rfl t66, ld 67 67 z81 (by decide) rfl t67, ld 68 68 z82 (by decide) rfl t68, ld 69 69 z83 (by decide) rfl t69, ld 70 70 z84 (by decide) rfl t70, ld 71 71 z85 (by decide) rfl t71, ld 72 72 z86 (by decide) rfl t72, ld 73 73 z87 (by decide) rfl t73, ld 74 74 z88 (by decide) rfl t74, ld 75 75 z89 (by decide) rfl t75, ld 76 76 z90 (by decide) rfl t76, ld 77 77 z91 (by decide) rfl t77, ld 78 78 z92 (by decide) rfl t78, ld 79 79 z93 (by decide) rfl t79, ld 80 80 z94 (by decide) rfl t80, ld 81 81 z95 (by decide) rfl t81, ld 82 82 z96 (by decide) rfl t82, ld 83 83 z97 (by decide) rfl t83, ld 84 84 z98 (by decide) rfl t84, ld 85 85 z99 (by decide) rfl t85, ld 86 86 z100 (by decide) rfl t86, ld 87 87 z101 (by decide) rfl t87, ld 88 88 z102 (by decide) rfl t88, ld 89 89 z103 (by decide) rfl t89, ld 90 90 z104 (by decide) rfl t90, ld 91 91 z105 (by decide) rfl t91, ld 92 92 z106 (by decide) rfl t92, ld 93 93 z107 (by decide) rfl t93, ld 94 94 z108 (by decide) rfl t94, ld 95 95 z109 (by decide) rfl t95, ld 96 96 z110 (by decide) rfl t96, ld 97 97 z111 (by decide) rfl t97, ld 98 98 z112 (by decide) rfl t98, ld 99 99 z113 (by decide) rfl t99, ld 100 100 z114 (by decide) rfl t100, ld 101 101 z115 (by decide) rfl t101, ld 102 102 z116 (by decide) rfl t102, ld 103 103 z117 (by decide) rfl t103, ld 104 104 z118 (by decide) rfl t104, ld 105 105 z119 (by decide) rfl t105, ld 106 106 z120 (by decide) rfl t106, ld 107 107 z121 (by decide) rfl t107, ld 108 108 z122 (by decide) rfl t108, ld 109 109 z123 (by decide) rfl t109, ld 110 110 z124 (by decide) rfl t110, ld 111 111 z125 (by decide) rfl t111, ld 112 112 z126 (by decide) rfl t112, ld 113 113 z127 (by decide) rfl t113, ld 114 114 z128 (by decide) rfl t114, ld 115 115 z129 (by decide) rfl t115, ld 116 116 z130 (by decide) rfl t116, ld 117 117 z131 (by decide) rfl t117, ld 118 118 z132 (by decide) rfl t118, ld 119 119 z133 (by decide) rfl t119, ld 120 120 z134 (by decide) rfl t120, ld 121 121 z135 (by decide) rfl t121, ld 122 122 z136 (by decide) rfl t122, ld 123 123 z137 (by decide) rfl t123, ld 124 124 z138 (by decide) rfl t124, ld 125 125 z139 (by decide) rfl t125, ld 126 126 z140 (by decide) rfl t126, ld 127 127 z141 (by decide) rfl t127]
      exact (getD_range bl 128 bll).symm
    have hW : wordsW W64 bl = [((72057594037927936 * z14) + ((281474976710656 * z15) + ((1099511627776 * z16) + ((4294967296 * z17) + ((16777216 * z18) + ((65536 * z19) + ((256 * z20) + z21))))))), ((72057594037927936 * z22) + ((281474976710656 * z23) + ((1099511627776 * z24) + ((4294967296 * z25) + ((16777216 * z26) + ((65536 * z27) + ((256 * z28) + z29))))))), ((72057594037927936 * z30) + ((281474976710656 * z31) + ((1099511627776 * z32) + ((4294967296 * z33) + ((16777216 * z34) + ((65536 * z35) + ((256 * z36) + z37))))))), ((72057594037927936 * z38) + ((281474976710656 * z39) + ((1099511627776 * z40) + ((4294967296 * z41) + ((16777216 * z42) + ((65536 * z43) + ((256 * z44) + z45))))))), ((72057594037927936 * z46) + ((281474976710656 * z47) + ((1099511627776 * z48) + ((4294967296 * z49) + ((16777216 * z50) + ((65536 * z51) + ((256 * z52) + z53))))))), ((72057594037927936 * z54) + ((281474976710656 * z55) + ((1099511627776 * z56) + ((4294967296 * z57) + ((16777216 * z58) + ((65536 * z59) + ((256 * z60) + z61))))))), ((72057594037927936 * z62) + ((281474976710656 * z63) + ((1099511627776 * z64) + ((4294967296 * z65) + ((16777216 * z66) + ((65536 * z67) + ((256 * z68) + z69))))))), ((72057594037927936 * z70) + ((281474976710656 * z71) + ((1099511627776 * z72) + ((4294967296 * z73) + ((16777216 * z74) + ((65536 * z75) + ((256 * z76) + z77))))))), ((72057594037927936 * z78) + ((281474976710656 * z79) + ((1099511627776 * z80) + ((4294967296 * z81) + ((16777216 * z82) + ((65536 * z83) + ((256 * z84) + z85))))))), ((72057594037927936 * z86) + ((281474976710656 * z87) + ((1099511627776 * z88) + ((4294967296 * z89) + ((16777216 * z90) + ((65536 * z91) + ((256 * z92) + z93))))))), ((72057594037927936 * z94) + ((281474976710656 * z95) + ((1099511627776 * z96) + ((4294967296 * z97) + ((16777216 * z98) + ((65536 * z99) + ((256 * z100) + z101))))))), ((72057594037927936 * z102) + ((281474976710656 * z103) + ((1099511627776 * z104) + ((4294967296 * z105) + ((16777216 * z106) + ((65536 * z107) + ((256 * z108) + z109))))))), ((72057594037927936 * z110) + ((281474976710656 * z111) + ((1099511627776 * z112) + ((4294967296 * z113) + ((16777216 * z114) + ((65536 * z115) + ((256 * z116) + z117))))))), ((72057594037927936 * z118) + ((281474976710656 * z119) + ((1099511627776 * z120) + ((4294967296 * z121) + ((16777216 * z122) + ((65536 * z123) + ((256 * z124) + z125))))))), ((72057594037927936 * z126) + ((281474976710656 * z127) + ((1099511627776 * z128) + ((4294967296 * z129) + ((16777216 * z130) + ((65536 * z131) + ((256 * z132) + z133))))))), ((72057594037927936 * z134) + ((281474976710656 * z135) + ((1099511627776 * z136) + ((4294967296 * z137) + ((16777216 * z138) + ((65536 * z139) + ((256 * z140) + z141)))))))] := by
      rw [← hB]
      show [((((((((0 * 256 + z14) * 256 + z15) * 256 + z16) * 256 + z17) * 256 + z18) * 256 + z19) * 256 + z20) * 256 + z21), ((((((((0 * 256 + z22) * 256 + z23) * 256 + z24) * 256 + z25) * 256 + z26) * 256 + z27) * 256 + z28) * 256 + z29), ((((((((0 * 256 + z30) * 256 + z31) * 256 + z32) * 256 + z33) * 256 + z34) * 256 + z35) * 256 + z36) * 256 + z37), ((((((((0 * 256 + z38) * 256 + z39) * 256 + z40) * 256 + z41) * 256 + z42) * 256 + z43) * 256 + z44) * 256 + z45), ((((((((0 * 256 + z46) * 256 + z47) * 256 + z48) * 256 + z49) * 256 + z50) * 256 + z51) * 256 + z52) * 256 + z53), ((((((((0 * 256 + z54) * 256 + z55) * 256 + z56) * 256 + z57) * 256 + z58) * 256 + z59) * 256 + z60) * 256 + z61), ((((((((0 * 256 + z62) * 256 + z63) * 256 + z64) * 256 + z65) * 256 + z66) * 256 + z67) * 256 + z68) * 256 + z69), ((((((((0 * 256 + z70) * 256 + z71) * 256 + z72) * 256 + z73) * 256 + z74) * 256 + z75) * 256 + z76) * 256 + z77), ((((((((0 * 256 + z78) * 256 + z79) * 256 + z80) * 256 + z81) * 256 + z82) * 256 + z83) * 256 + z84) * 256 + z85), ((((((((0 * 256 + z86) * 256 + z87) * 256 + z88) * 256 + z89) * 256 + z90) * 256 + z91) * 256 + z92) * 256 + z93), ((((((((0 * 256 + z94) * 256 + z95) * 256 + z96) * 256 + z97) * 256 + z98) * 256 + z99) * 256 + z100) * 256 + z101), ((((((((0 * 256 + z102) * 256 + z103) * 256 + z104) * 256 + z105) * 256 + z106) * 256 + z107) * 256 + z108) * 256 + z109), ((((((((0 * 256 + z110) * 256 + z111) * 256 + z112) * 256 + z113) * 256 + z114) * 256 + z115) * 256 + z116) * 256 + z117), ((((((((0 * 256 + z118) * 256 + z119) * 256 + z120) * 256 + z121) * 256 + z122) * 256 + z123) * 256 + z124) * 256 + z125), ((((((((0 * 256 + z126) * 256 + z127) * 256 + z128) * 256 + z129) * 256 + z130) * 256 + z131) * 256 + z132) * 256 + z133), ((((((((0 * 256 + z134) * 256 + z135) * 256 + z136) * 256 + z137) * 256 + z138) * 256 + z139) * 256 + z140) * 256 + z141)] = _
      simp only [List.cons.injEq, and_true]
      refine ⟨by omega, by omega, by omega, by omega, by omega, by omega, by omega, by omega, by omega, by omega, by omega, by omega, by omega, by omega, by omega, by omega⟩
    obtain ⟨ws, hws⟩ : ∃ l, wordsW W64 bl = l := ⟨_, rfl⟩
    intro z142 x0 y0 u0 z143 x1 y1 u1 z144 x2 y2 u2 z145 x3 y3 u3 z146 x4 y4 u4 z147 x5 y5 u5 z148 x6 y6 u6 z149 x7 y7 u7 z150 x8 y8 u8 z151 x9 y9 u9 z152 x10 y10 u10 z153 x11 y11 u11 z154 x12 y12 u12 z155 x13 y13 u13 z156 x14 y14 u14 z157 x15 y15 u15
    have v0 := fn23 (l := []) u0 rOf_zero
    have v1 := fn23 u1 v0
    have v2 := fn23 u2 v1
    have v3 := fn23 u3 v2
    have v4 := fn23 u4 v3
    have v5 := fn23 u5 v4
    have v6 := fn23 u6 v5
    have v7 := fn23 u7 v6
    have v8 := fn23 u8 v7
    have v9 := fn23 u9 v8
    have v10 := fn23 u10 v9
    have v11 := fn23 u11 v10
    have v12 := fn23 u12 v11
    have v13 := fn23 u13 v12
    have v14 := fn23 u14 v13
    have v15 := fn23 u15 v14
    have hr : rOf z157 = rws ws := by
      rw [← hws, hW]; exact v15
    have wl : ws.length = 16 := by rw [← hws]; simp [wordsW]
    refine ⟨by show (rOf z157).length ≤ 1000000; rw [hr, rws_len, wl]; decide, ?_⟩
    intro z158 i0 i1 j0 z159 k0 k1 z160 m0 m1 n0
    have j0 : rOf z158 = rOf z157 := j0
    rw [hr] at j0
    have n0 : z160 = ((rOf z158).length : Int) := n0
    rw [j0, rws_len, wl] at n0
    refine ⟨fun l => ∃ (j : Nat) (c k : Int), j ≤ 64 ∧ l = [[((16 + j : Nat) : Int)], [c], [((16 + j : Nat) : Int)], [k]] ∧ rOf c = rws (extW W64 j ws), fun l => (80 - (l.getD 0 []).getD 0 0).toNat, ⟨0, z158, z159, Nat.zero_le _, by rw [n0]; rfl, j0⟩, ?_⟩
    intro z162 o0 o1 z163 p0 p1 z164 q0 q1 z165 r0 r1 ⟨j, c, kk, hj, hl, hc⟩
    simp only [List.cons.injEq, and_true] at hl
    obtain ⟨hl1, hl2, hl3, hl4⟩ := hl
    subst hl2
    obtain ⟨mm, hmm⟩ : ∃ l, extW W64 j ws = l := ⟨_, rfl⟩
    rw [hmm] at hc
    have ml : mm.length = 16 + j := by rw [← hmm, extW_len, wl]
    have cl : ((rOf z163).length : Int) = 16 + (j : Int) := by rw [hc, rws_len, ml]; omega
    refine ⟨fun hlt => ?_, fun hge => ?_⟩
    · have hlt := of_decide_eq_true hlt
      refine ⟨⟨by omega, by omega⟩, ⟨by omega, by rw [cl]; omega⟩, fun z166 s0 s1 s2 => ⟨⟨by omega, by omega⟩, ⟨by omega, by rw [cl]; omega⟩, fun z167 tt0 tt1 t2' z168 u0' u1' u2' z169 v0' v1' v2' v3' => ⟨⟨by omega, by omega⟩, ⟨by omega, by rw [cl]; omega⟩, fun z170 w0 w1 w2 z171 xx0 xx1 x2' x3' => ⟨⟨by omega, by omega⟩, ⟨by omega, by rw [cl]; omega⟩, fun z172 yy0 yy1 y2' z173 aa0 aa1 aa2 z174 bb0 bb1 bb2 bb3 => ⟨by show z164 = ((rOf z163).length : Int); omega, by show ((rOf z163).length : Int) + 1 ≤ 1073741824; omega, fun z175 cc0 cc1 cc2 z176 dd0 dd1 => ?_⟩⟩⟩⟩⟩
      have u2' : [[z168]] = [[ss0 W64 z167]] := u2'
      have aa2 : [[z173]] = [[ss1 W64 z172]] := aa2
      simp only [List.cons.injEq, and_true] at u2' aa2
      have e1 := fn21r s2 hc
      have e2 := fn21r t2' hc
      have e3 := fn21r w2 hc
      have e4 := fn21r y2' hc
      have hnx : z166 + (z168 + ((-18446744073709551616) * z169 + (z170 + ((-18446744073709551616) * z171 + (z173 + (-18446744073709551616) * z174))))) = nxt W64 mm := by
        unfold nxt
        rw [md_64, ml, show 16 + j - 16 = (z162 + -16).toNat by omega, show 16 + j - 15 = (z162 + -15).toNat by omega, show 16 + j - 7 = (z162 + -7).toNat by omega, show 16 + j - 2 = (z162 + -2).toNat by omega, ← e1, ← e2, ← e3, ← e4, ← u2', ← aa2]
        omega
      have hcd := fn23 cc2 hc
      rw [hnx] at hcd
      refine ⟨⟨j + 1, z175, z176, by omega, by rw [show z162 + 1 = ((16 + (j + 1) : Nat) : Int) by omega, show z164 + 1 = ((16 + (j + 1) : Nat) : Int) by omega], by rw [extW_succ, hmm]; exact hcd⟩, ?_⟩
      show (80 - (z162 + 1)).toNat < (80 - z162).toNat
      omega
    · have hge := of_decide_eq_false hge
      have hj48 : j = 64 := by omega
      have hsch : sched W64 ws = mm := by rw [← hmm, hj48]; rfl
      refine ⟨fun l => ∃ (t : Nat), t ≤ 80 ∧ l = [runW W64 0 (mm.take t) r5, [(t : Int)]], fun l => (80 - (l.getD 1 []).getD 0 0).toNat, ⟨0, Nat.zero_le _, rfl⟩, ?_⟩
      intro r9 hr9 z175 s0 s1 ⟨t, ht, hl⟩
      simp only [List.cons.injEq, and_true] at hl
      obtain ⟨hv, hzt⟩ := hl
      obtain ⟨l9, b9⟩ := inB_rep 8 r9 hr9
      refine ⟨fun hlt => ?_, fun hge2 => ?_⟩
      · have hlt := of_decide_eq_true hlt
        refine ⟨⟨by omega, by omega⟩, ⟨by omega, by rw [cl]; omega⟩, ?_⟩
        intro z176 aa0 aa1 aa2 z177 bb0 bb1 bb2 z178 cc0 cc1 cc2 cc3 z179 dd0 dd1 dd2 z180 ee0 ee1 ee2 z181 ff0 ff1 ff2 z182 gg0 gg1 gg2 gg3
        refine ⟨⟨by omega, by omega⟩, ?_⟩
        intro z183 hh0 hh1 hh2 z184 ii0 ii1 ii2 ii3 z185 jj0 jj1 jj2 jj3 z186 kk0 kk1 kk2 z187 ll0 ll1 ll2 z188 mm0 mm1 mm2 z189 nn0 nn1 nn2 z190 oo0 oo1 oo2 z191 pp0 pp1 pp2 z192 qq0 qq1 qq2 qq3 z193 rr0 rr1 rr2 rr3 z194 ss0' ss1' ss2' ss3' z195 tt0' tt1' tt2' tt3'
        have ht2 : t < 80 := by omega
        have e131 : z195 = 0 := by omega
        have ex := fn21r aa2 hc
        rw [show z175.toNat = t by omega] at ex
        have bb2 : [[z177]] = [[bs1 W64 (r9.getD 4 0)]] := bb2
        have hh2 : [[z183]] = [[rk W64 z175.toNat]] := hh2
        have kk2 : [[z186]] = [[bs0 W64 (r9.getD 0 0)]] := kk2
        simp only [List.cons.injEq, and_true] at bb2 hh2 kk2
        rw [show z175.toNat = t by omega] at hh2
        have hch : z181 = chF W64 (r9.getD 4 0) (r9.getD 5 0) (r9.getD 6 0) := by
          rw [ff2, dd2, ee2]
          unfold chF
          rw [show (2 : Int) ^ W64.w - 1 - r9.getD 4 0 = -1 * r9.getD 4 0 + 18446744073709551615 by rw [show (2 : Int) ^ W64.w = 18446744073709551616 by decide]; omega]
          rfl
        have hmj : z191 = mjF W64 (r9.getD 0 0) (r9.getD 1 0) (r9.getD 2 0) := by
          rw [pp2, nn2, mm2, ll2, oo2]; rfl
        obtain ⟨A, hA⟩ : ∃ A, r9.getD 0 0 = A := ⟨_, rfl⟩
        obtain ⟨D, hD⟩ : ∃ A, r9.getD 3 0 = A := ⟨_, rfl⟩
        obtain ⟨H, hH⟩ : ∃ A, r9.getD 7 0 = A := ⟨_, rfl⟩
        rw [hH] at cc2 cc3 gg2 gg3 ii2 ii3 jj2 jj3 rr2 rr3 ss2' ss3' ⊢
        rw [hD] at rr2 rr3 ⊢
        have hstep := step8_64 t z176 l9
        rw [hH, hD, ← bb2, ← hch, ← hh2, ← kk2, ← hmj] at hstep
        have hT : md W64 (H + z177 + z181 + z183 + z176) = H + (z176 + (z177 + ((-18446744073709551616) * z178 + (z181 + ((-18446744073709551616) * z182 + (z183 + ((-18446744073709551616) * z184 + (-18446744073709551616) * z185))))))) := by
          rw [md_64]; omega
        have hU : md W64 (z186 + z191) = z186 + (z191 + (-18446744073709551616) * z192) := by
          rw [md_64]; omega
        simp only [hT, hU] at hstep
        refine ⟨⟨by omega, by omega⟩, ⟨t + 1, by omega, ?_⟩, ?_⟩
        · rw [take_snoc mm t (by omega), runW_snoc, ← hv, show 0 + (mm.take t).length = t by rw [List.length_take]; omega, ← ex, hstep, e131]
          simp only [List.cons.injEq, and_true]
          refine ⟨⟨?_, trivial, trivial, trivial, ?_⟩, ?_⟩
          · rw [md_64]; exact modq (k := z194) (by omega) (by omega) (by omega)
          · rw [md_64]; exact modq (k := z193) (by omega) (by omega) (by omega)
          · omega
        · show (80 - (z175 + -18446744073709551616 * z195 + 1)).toNat < (80 - z175).toNat
          omega
      · have hge2 := of_decide_eq_false hge2
        intro z176 aa0 ab0 ac0 ad0 z177 aa1 ab1 ac1 ad1 z178 aa2 ab2 ac2 ad2 z179 aa3 ab3 ac3 ad3 z180 aa4 ab4 ac4 ad4 z181 aa5 ab5 ac5 ad5 z182 aa6 ab6 ac6 ad6 z183 aa7 ab7 ac7 ad7
        have ht2 : t = 80 := by omega
        have hfull : mm.take t = mm := List.take_of_length_le (by omega)
        rw [hfull] at hv
        have hnew : takeW W64 r5 ws = [r5.getD 0 0 + (r9.getD 0 0 + (-18446744073709551616) * z176), r5.getD 1 0 + (r9.getD 1 0 + (-18446744073709551616) * z177), r5.getD 2 0 + (r9.getD 2 0 + (-18446744073709551616) * z178), r5.getD 3 0 + (r9.getD 3 0 + (-18446744073709551616) * z179), r5.getD 4 0 + (r9.getD 4 0 + (-18446744073709551616) * z180), r5.getD 5 0 + (r9.getD 5 0 + (-18446744073709551616) * z181), r5.getD 6 0 + (r9.getD 6 0 + (-18446744073709551616) * z182), r5.getD 7 0 + (r9.getD 7 0 + (-18446744073709551616) * z183)] := by
          unfold takeW
          rw [hsch, ← hv, zip8_64 _ l5 l9]
          simp only [md_64, List.cons.injEq, and_true]
          refine ⟨by omega, by omega, by omega, by omega, by omega, by omega, by omega, by omega⟩
        refine ⟨⟨i + 1, by omega, ?_⟩, ?_⟩
        · rw [← hnew, hI5]
          show _ = [takeW W64 (blocksW W64 (bys z0) i (begW W64)) (wordsW W64 (((bys z0).drop (128 * i)).take 128)), _]
          rw [hbl2, hws, show z13 + 1 = ((i + 1 : Nat) : Int) by omega]
        · show ((q : Int) - (z13 + 1)).toNat < ((q : Int) - z13).toNat
          omega
  · have h := of_decide_eq_false h
    have hiq : i = q := by omega
    have hall : allW W64 (bys z0) = outW W64 r5 := by
      unfold allW
      rw [hbl, show 2 * W64.w = 128 from rfl, Nat.mul_div_cancel_left q (by decide), ← hiq, ← hI5]
    have hout : outW W64 r5 = ((((((([] ++ (List.range 8).map (byteW W64 (r5.getD 0 0))) ++ (List.range 8).map (byteW W64 (r5.getD 1 0))) ++ (List.range 8).map (byteW W64 (r5.getD 2 0))) ++ (List.range 8).map (byteW W64 (r5.getD 3 0))) ++ (List.range 8).map (byteW W64 (r5.getD 4 0))) ++ (List.range 8).map (byteW W64 (r5.getD 5 0))) ++ (List.range 8).map (byteW W64 (r5.getD 6 0))) ++ (List.range 8).map (byteW W64 (r5.getD 7 0)) := by
      conv => lhs; rw [list8 l5]
      rfl
    refine tail64 (pre := []) rOf_zero rfl (by simp) fun c0' l0' k0' p0 p1 h0 e0' => ?_
    refine tail64 h0 (by rw [e0']; simp) (by simp) fun c1' l1' k1' p2 p3 h1 e1' => ?_
    refine tail64 h1 (by rw [e1']; simp) (by simp) fun c2' l2' k2' p4 p5 h2 e2' => ?_
    refine tail64 h2 (by rw [e2']; simp) (by simp) fun c3' l3' k3' p6 p7 h3 e3' => ?_
    refine tail64 h3 (by rw [e3']; simp) (by simp) fun c4' l4' k4' p8 p9 h4 e4' => ?_
    refine tail64 h4 (by rw [e4']; simp) (by simp) fun c5' l5' k5' p10 p11 h5 e5' => ?_
    refine tail64 h5 (by rw [e5']; simp) (by simp) fun c6' l6' k6' p12 p13 h6 e6' => ?_
    refine tail64 h6 (by rw [e6']; simp) (by simp) fun c7' l7' k7' p14 p15 h7 e7' => ?_
    have hlast : rOf c7' = rws (outW W64 r5) := by rw [h7, hout]
    have ll : l7' = ((rOf c7').length : Int) := by rw [h7, rws_len, e7']; simp
    refine ⟨⟨Int.le_refl _, by omega, by omega⟩, fun zf x0 x1 x2 => ⟨⟨x0, x1, trivial⟩, ?_⟩⟩
    have hf := sub_all x2 ll
    show bys zf = allW W64 (bys z0)
    rw [hall]
    exact bys_rws (by rw [hf, hlast])

end Go.Ad

set_option maxRecDepth 100000
set_option linter.unusedVariables false
set_option linter.unusedSimpArgs false
namespace Go.Ad
open Go Go.Rx
def B_shex (S : Nat → List (List Int) → List (List Int) → Prop) (K : List (List Int) → List (List Int) → Prop) : Prop :=
 qR fun z0 => (chkD 66 [z0] -> qG fun z1 => qM fun z2 => qNf 20 [z0] fun z3 => qW ((2 * z3) + 9223372036854775808) 18446744073709551616 fun z4 => chkD 49 [0,((2 *
 z3) + ((-18446744073709551616) * z4))] /\ qRf 26 [0,0] fun z5 => qM fun z6 => ∃ (I7 : List (List Int) -> Prop) (μ7 : List (List Int) -> Nat),I7
 [[0],[z5],[0],[z6]] /\ (qN fun z8 => qR fun z9 => qN fun z10 => qM fun z11 => I7 [[z8],[z9],[z10],[z11]] -> (qD (decide (z8 < z3)) (chkD 30 [z8,z3] /\ chkD 21
 [z0,z8] /\ qBf 21 [z0,z8,0] fun z12 => qV 0 15 z12 16 fun z13 => chkD 1 [145717181317379631745440622671599714674,z13] /\ qBf 1
 [145717181317379631745440622671599714674,z13] fun z14 => qV 0 15 z12 16 fun z15 => chkD 1 [145717181317379631745440622671599714674,(z12 + ((-16) * z15))] /\ qBf
 1 [145717181317379631745440622671599714674,(z12 + ((-16) * z15))] fun z16 => chkD 31 [z9,z10] /\ chkD 23 [z9,2] /\ qRf 23 [z9,z14] fun z17 => qRf 23 [z17,z16]
 fun z18 => qM fun z19 => qW (z8 + 9223372036854775809) 18446744073709551616 fun z20 => chkD 39 [((z8 + ((-18446744073709551616) * z20)) +
 1),0,9223372036854775807] /\ (I7 [[((z8 + ((-18446744073709551616) * z20)) + 1)],[z18],[(z10 + 2)],[z19]] /\ μ7 [[((z8 + ((-18446744073709551616) * z20)) +
 1)],[z18],[(z10 + 2)],[z19]] < μ7 [[z8],[z9],[z10],[z11]])) (chkD 35 [z9,0,z10] /\ qHf 34 [z9,0,z10] fun z12 => K [[z0]] [[z12]]))))
theorem f23 {z c x : Int} (h : z = fnD 23 [c, x]) : rOf z = rOf c ++ [[x]] := by
  rw [h]; show rOf (rc (rOf c ++ [[x]])) = _; rw [rOf_rc]
theorem cDig : sOf 145717181317379631745440622671599714674 = [48, 49, 50, 51, 52, 53, 54, 55, 56, 57, 97, 98, 99, 100, 101, 102] := by decide +kernel
theorem dig_at {i z : Int} (h : z = fnD 1 [145717181317379631745440622671599714674, i]) : z = ((digit i).toNat : Int) := by
  rw [h]; show (((sOf 145717181317379631745440622671599714674).getD i.toNat 0).toNat : Int) = _
  rw [cDig]; rfl
theorem dig_cut {a b z : Int} (h : z = fnD 2 [145717181317379631745440622671599714674, a, b]) (h0 : 0 ≤ a) (h1 : a < 16) (hb : b = a + 1) : sOf z = [digit a] := by
  rw [h]; show sOf (cOf (((sOf 145717181317379631745440622671599714674).drop a.toNat).take (b.toNat - a.toNat))) = _
  rw [sOf_cOf, cDig, hb]
  obtain ⟨n, rfl⟩ : ∃ n : Nat, (n : Int) = a := ⟨a.toNat, by omega⟩
  have hn : n < 16 := by omega
  have e : ((n : Int) + 1).toNat - (n : Int).toNat = 1 := by omega
  rw [e]
  have : ∀ n : Nat, n < 16 → ((([48, 49, 50, 51, 52, 53, 54, 55, 56, 57, 97, 98, 99, 100, 101, 102] : List UInt8).drop (n : Int).toNat).take 1) = [digit (n : Int)] := by decide +kernel
  exact this n hn
/-- The digits as numbers. -/
def hexI (b : List Int) : List Int := b.flatMap fun x => [((digit (x / 16)).toNat : Int), ((digit (x % 16)).toNat : Int)]
theorem hexI_len (b : List Int) : (hexI b).length = 2 * b.length := by
  induction b with
  | nil => rfl
  | cons x b ih => simp only [hexI, List.flatMap_cons, List.length_append, List.length_cons, List.length_nil] at ih ⊢; omega
theorem hexL_len (b : List Int) : (hexL b).length = 2 * b.length := by
  induction b with
  | nil => rfl
  | cons x b ih => simp only [hexL, List.flatMap_cons, List.length_append, List.length_cons, List.length_nil] at ih ⊢; omega
theorem hexI_snoc (b : List Int) (x : Int) : hexI (b ++ [x]) = hexI b ++ [((digit (x / 16)).toNat : Int)] ++ [((digit (x % 16)).toNat : Int)] := by simp [hexI]
theorem hexL_snoc (b : List Int) (x : Int) : hexL (b ++ [x]) = hexL b ++ [digit (x / 16)] ++ [digit (x % 16)] := by simp [hexL]
theorem hexL_append (a b : List Int) : hexL (a ++ b) = hexL a ++ hexL b := by simp [hexL]
theorem hexI_L (b : List Int) : (rws (hexI b)).map (fun row => UInt8.ofNat (row.getD 0 0).toNat) = hexL b := by
  induction b with
  | nil => rfl
  | cons x b ih =>
    have e1 : hexI (x :: b) = ((digit (x / 16)).toNat : Int) :: ((digit (x % 16)).toNat : Int) :: hexI b := rfl
    have e2 : hexL (x :: b) = digit (x / 16) :: digit (x % 16) :: hexL b := rfl
    rw [e1, e2, ← ih]
    have e3 : ∀ (u v : Int) (l : List Int), rws (u :: v :: l) = [u] :: [v] :: rws l := fun _ _ _ => rfl
    try dsimp only
    rw [e3]
    simp
theorem p_shex : B_shex SB (KBb SB [.d .str] 454) := by
  intro z0 a0 a1 hp z1 b0 z2 c0 c1 z3 d0 d1 h3 z4 e0 e1 e2 e3
  have h3 : z3 = ((rOf z0).length : Int) := h3
  have hp : (rOf z0).length ≤ 1000000 := hp
  obtain ⟨n, hn⟩ : ∃ n, (rOf z0).length = n := ⟨_, rfl⟩
  rw [hn] at h3 hp
  have hbn : (bys z0).length = n := by rw [bys_len, hn]
  have : z4 = 0 := by omega
  subst this
  refine ⟨⟨Int.le_refl _, by omega, by omega⟩, fun z5 f0 f1 h5 z6 g0 g1 => ?_⟩
  have h5 : rOf z5 = [] := by
    rw [h5]; show rOf (rc (List.replicate (0 : Int).toNat [0])) = _
    rw [rOf_rc]; rfl
  refine ⟨fun l => ∃ (i : Nat) (c cap : Int), i ≤ n ∧ l = [[(i : Int)], [c], [((2 * i : Nat) : Int)], [cap]] ∧ rOf c = rws (hexI ((bys z0).take i)), fun l => n - ((l.getD 0 []).getD 0 0).toNat, ⟨0, z5, z6, Nat.zero_le _, rfl, by rw [h5]; rfl⟩, ?_⟩
  intro z8 j0 j1 z9 k0 k1 z10 l0 l1 z11 m0 m1 hI
  obtain ⟨i, c, cap, hi, hl, hc⟩ := hI
  simp only [List.cons.injEq, and_true] at hl
  obtain ⟨e8, e9, e10, e11⟩ := hl
  subst e9; subst e11
  have l9 : (rOf z9).length = 2 * i := by rw [hc, rws_len, hexI_len, List.length_take, hbn]; omega
  refine ⟨fun h => ?_, fun h => ?_⟩
  · have h := of_decide_eq_true h
    have hin : i < n := by omega
    refine ⟨⟨by omega, by omega⟩, ⟨by omega, by rw [hn]; omega⟩, fun z12 o0 o1 h12 z13 q0 q1 q2 q3 => ?_⟩
    have h12 := fn21 h12
    rw [show z8.toNat = i by omega] at h12
    have e13 : z13 = z12 / 16 := by omega
    refine ⟨⟨by omega, by rw [cDig]; show z13 < 16; omega⟩, fun z14 r0 r1 h14 z15 s0 s1 s2 s3 => ?_⟩
    have e15 : z12 + -16 * z15 = z12 % 16 := by omega
    try dsimp only
    rw [e15]
    refine ⟨⟨by omega, by rw [cDig]; show z12 % 16 < 16; omega⟩, fun z16 t0 t1 h16 => ⟨?_, ?_, fun z17 u0 u1 h17 z18 v0 v1 h18 z19 w0 w1 z20 x0 x1 x2 x3 => ?_⟩⟩
    · show z10 = ((rOf z9).length : Int); rw [l9]; exact e10
    · show ((rOf z9).length : Int) + 2 ≤ 1073741824; rw [l9]; omega
    have h14 := dig_at h14
    have h16 := dig_at h16
    have : z20 = 0 := by omega
    subst this
    have h18 := f23 h18
    rw [f23 h17, hc, h14, h16, e13, h12] at h18
    refine ⟨⟨by omega, by omega⟩, ⟨i + 1, z18, z19, by omega, ?_, ?_⟩, ?_⟩
    · rw [show (z8 + -18446744073709551616 * 0 + 1 : Int) = ((i + 1 : Nat) : Int) by omega, show (z10 + 2 : Int) = ((2 * (i + 1) : Nat) : Int) by omega]
    · rw [h18, take_snoc _ _ (by omega), hexI_snoc, rws_append, rws_append]; rfl
    · show n - (z8 + -18446744073709551616 * 0 + 1).toNat < n - z8.toNat
      omega
  · have h := of_decide_eq_false h
    have hin : i = n := by omega
    subst hin
    refine ⟨⟨⟨Int.le_refl _, by omega, by rw [l9]; omega⟩, by omega⟩, fun z12 o0 o1 h12 => ⟨⟨o0, o1, trivial⟩, ?_⟩⟩
    show sOf z12 = hexL (bys z0)
    rw [h12]
    show sOf (cOf ((((rOf z9).drop (0 : Int).toNat).take (z10.toNat - (0 : Int).toNat)).map fun row => UInt8.ofNat (row.getD 0 0).toNat)) = _
    rw [sOf_cOf]
    have : z10.toNat - (0 : Int).toNat = (rOf z9).length := by rw [l9]; omega
    rw [this]
    simp only [Int.toNat_zero, List.drop_zero, List.take_length]
    rw [hc, List.take_of_length_le (by omega), hexI_L]
end Go.Ad

set_option maxRecDepth 100000
set_option linter.unusedVariables false
set_option linter.unusedSimpArgs false
namespace Go.Ad
open Go Go.Rx
def B_aalive (S : Nat → List (List Int) → List (List Int) → Prop) (K : List (List Int) → List (List Int) → Prop) : Prop :=
 qRf 23 [0,97] fun z0 => qRf 23 [z0,98] fun z1 => qRf 23 [z1,99] fun z2 => chkD 22 [z2,0,3] /\ qRf 22 [z2,0,3] fun z3 => chkD 71 [z3] /\ ∀ r4 : List Int,inB (repB
 0 255 32) r4 -> S 452 [[z3]] [r4] -> qRf 23 [0,97] fun z36 => qRf 23 [z36,98] fun z37 => qRf 23 [z37,99] fun z38 => chkD 22 [z38,0,3] /\ qRf 22 [z38,0,3] fun z39
 => chkD 71 [z39] /\ ∀ r40 : List Int,inB (repB 0 255 64) r40 -> S 453 [[z39]] [r40] -> qRf 23 [0,(List.getD r4 0 0)] fun z104 => qRf 23 [z104,(List.getD r4 1 0)]
 fun z105 => qRf 23 [z105,(List.getD r4 2 0)] fun z106 => qRf 23 [z106,(List.getD r4 3 0)] fun z107 => qRf 23 [z107,(List.getD r4 4 0)] fun z108 => qRf 23
 [z108,(List.getD r4 5 0)] fun z109 => qRf 23 [z109,(List.getD r4 6 0)] fun z110 => qRf 23 [z110,(List.getD r4 7 0)] fun z111 => chkD 66 [z111] /\ qH fun z112 =>
 S 454 [[z111]] [[z112]] -> qOf 4 [z112,138670831092286091520051815809421227007] fun z113 => (qD (decide (z113 = 1)) (qRf 23 [0,(List.getD r40 56 0)] fun z114 =>
 qRf 23 [z114,(List.getD r40 57 0)] fun z115 => qRf 23 [z115,(List.getD r40 58 0)] fun z116 => qRf 23 [z116,(List.getD r40 59 0)] fun z117 => qRf 23
 [z117,(List.getD r40 60 0)] fun z118 => qRf 23 [z118,(List.getD r40 61 0)] fun z119 => qRf 23 [z119,(List.getD r40 62 0)] fun z120 => qRf 23 [z120,(List.getD r40
 63 0)] fun z121 => chkD 66 [z121] /\ qH fun z122 => S 454 [[z121]] [[z122]] -> qOf 4 [z122,145474879716064475847467238534568645588] fun z123 => K [] [[(cond
 (decide (z123 = 1)) 1 0)]]) (K [] [[(cond (false) 1 0)]]))
theorem sha_abc32 : (shaW W32 [97, 98, 99]).take 8 = [186, 120, 22, 191, 143, 1, 207, 234] := by decide +kernel
theorem sha_abc64 : (shaW W64 [97, 98, 99]).drop 56 = [42, 154, 201, 79, 165, 76, 164, 159] := by decide +kernel
theorem getD_take {l : List Int} (n i : Nat) (h : i < n) : l.getD i 0 = (l.take n).getD i 0 := by
  rw [List.getD_eq_getElem?_getD, List.getD_eq_getElem?_getD, List.getElem?_take, if_pos h]
theorem getD_drop' {l : List Int} (n i : Nat) : l.getD (n + i) 0 = (l.drop n).getD i 0 := by
  rw [List.getD_eq_getElem?_getD, List.getD_eq_getElem?_getD, List.getElem?_drop]
theorem cA32 : sOf 138670831092286091520051815809421227007 = hexL [186, 120, 22, 191, 143, 1, 207, 234] := by decide +kernel
theorem cA64 : sOf 145474879716064475847467238534568645588 = hexL [42, 154, 201, 79, 165, 76, 164, 159] := by decide +kernel
theorem eq1 {s t e : Int} (h : e = fnD 4 [s, t]) (hs : sOf s = sOf t) : e = 1 := by
  rw [h]; show (if sOf s = sOf t then (1 : Int) else 0) = 1
  rw [if_pos hs]
theorem p_aalive : B_aalive SB (KBb SB [.d .bool] 456) := by
  intro z0 a0 a1 h0 z1 b0 b1 h1 z2 c0 c1 h2
  have h2 : rOf z2 = [[97], [98], [99]] := by rw [f23 h2, f23 h1, f23 h0, rOf_zero]; rfl
  refine ⟨⟨Int.le_refl _, by decide, by rw [h2]; decide⟩, fun z3 d0 d1 h3 => ?_⟩
  have h3 := sub_all h3 (by rw [h2]; rfl)
  have b3 : bys z3 = [97, 98, 99] := by unfold bys; rw [h3, h2]; rfl
  refine ⟨by show (rOf z3).length ≤ 1000000000; rw [h3, h2]; decide, fun r4 _ hr4 => ?_⟩
  have hr4 : [r4] = [shaW W32 (bys z3)] := hr4
  have hr4 : r4 = shaW W32 [97, 98, 99] := by rw [b3] at hr4; simpa using hr4
  intro z36 e0 e1 h36 z37 f0 f1 h37 z38 g0 g1 h38
  have h38 : rOf z38 = [[97], [98], [99]] := by rw [f23 h38, f23 h37, f23 h36, rOf_zero]; rfl
  refine ⟨⟨Int.le_refl _, by decide, by rw [h38]; decide⟩, fun z39 i0 i1 h39 => ?_⟩
  have h39 := sub_all h39 (by rw [h38]; rfl)
  have b39 : bys z39 = [97, 98, 99] := by unfold bys; rw [h39, h38]; rfl
  refine ⟨by show (rOf z39).length ≤ 1000000000; rw [h39, h38]; decide, fun r40 _ hr40 => ?_⟩
  have hr40 : [r40] = [shaW W64 (bys z39)] := hr40
  have hr40 : r40 = shaW W64 [97, 98, 99] := by rw [b39] at hr40; simpa using hr40
  intro z104 _ _ h104 z105 _ _ h105 z106 _ _ h106 z107 _ _ h107 z108 _ _ h108 z109 _ _ h109 z110 _ _ h110 z111 _ _ h111
  have h111 : rOf z111 = rws [186, 120, 22, 191, 143, 1, 207, 234] := by
    rw [f23 h111, f23 h110, f23 h109, f23 h108, f23 h107, f23 h106, f23 h105, f23 h104, rOf_zero, hr4,
      getD_take 8 0 (by decide), getD_take 8 1 (by decide), getD_take 8 2 (by decide), getD_take 8 3 (by decide), getD_take 8 4 (by decide), getD_take 8 5 (by decide), getD_take 8 6 (by decide), getD_take 8 7 (by decide), sha_abc32]
    rfl
  refine ⟨by show (rOf z111).length ≤ 1000000; rw [h111]; decide, fun z112 _ _ h112 z113 _ _ h113 => ?_⟩
  have h112 : sOf z112 = hexL (bys z111) := h112
  rw [bys_rws h111] at h112
  have h113 := eq1 h113 (by rw [h112, cA32])
  subst h113
  refine ⟨fun _ => ?_, fun h => by exact absurd h (by decide)⟩
  intro z114 _ _ h114 z115 _ _ h115 z116 _ _ h116 z117 _ _ h117 z118 _ _ h118 z119 _ _ h119 z120 _ _ h120 z121 _ _ h121
  have h121 : rOf z121 = rws [42, 154, 201, 79, 165, 76, 164, 159] := by
    rw [f23 h121, f23 h120, f23 h119, f23 h118, f23 h117, f23 h116, f23 h115, f23 h114, rOf_zero, hr40,
      show (56 : Nat) = 56 + 0 from rfl, show (57 : Nat) = 56 + 1 from rfl, show (58 : Nat) = 56 + 2 from rfl, show (59 : Nat) = 56 + 3 from rfl, show (60 : Nat) = 56 + 4 from rfl, show (61 : Nat) = 56 + 5 from rfl, show (62 : Nat) = 56 + 6 from rfl, show (63 : Nat) = 56 + 7 from rfl,
      getD_drop' 56 0, getD_drop' 56 1, getD_drop' 56 2, getD_drop' 56 3, getD_drop' 56 4, getD_drop' 56 5, getD_drop' 56 6, getD_drop' 56 7, sha_abc64]
    rfl
  refine ⟨by show (rOf z121).length ≤ 1000000; rw [h121]; decide, fun z122 _ _ h122 z123 _ _ h123 => ?_⟩
  have h122 : sOf z122 = hexL (bys z121) := h122
  rw [bys_rws h121] at h122
  have h123 := eq1 h123 (by rw [h122, cA64])
  subst h123
  exact ⟨⟨by decide, by decide, trivial⟩, rfl⟩
theorem alive1 {z : Int} (h : SB 456 [] [[z]]) : z = 1 := by
  have h : [[z]] = [[1]] := h
  simpa using h
theorem bys_append {z a b : Int} (h : rOf z = rOf a ++ rOf b) : bys z = bys a ++ bys b := by unfold bys; rw [h, List.map_append]
/-- The digits of both together. -/
theorem dig_fin {z0 z1 all s a b t e : Int} (hall : rOf all = rOf z0 ++ rOf z1) (hs : sOf s = hexL (bys all)) (ha : sOf a = hexL (bys z0)) (hb : sOf b = hexL (bys z1)) (ht : t = fnD 3 [a, b]) (he : e = fnD 4 [s, t]) : e = 1 := by
  refine eq1 he ?_
  rw [ht]
  show sOf s = sOf (cOf (sOf a ++ sOf b))
  rw [sOf_cOf, hs, ha, hb, bys_append hall, hexL_append]
theorem dig_len {z0 z s l k : Int} {n : Nat} (hn : (rOf z0).length = n) (hz : rOf z = rOf z0) (hs : sOf s = hexL (bys z)) (hl : l = fnD 0 [s]) (h2 : n ≤ 2000) (h0 : 0 ≤ k) (k0 : 0 ≤ (2 * (n : Int) + 9223372036854775808) - 18446744073709551616 * k) (k1 : (2 * (n : Int) + 9223372036854775808) - 18446744073709551616 * k < 18446744073709551616) : l = 2 * (n : Int) + -18446744073709551616 * k := by
  have : l = ((sOf s).length : Int) := hl
  rw [this, hs, hexL_len, bys_of hz, bys_len, hn]
  omega
end Go.Ad
