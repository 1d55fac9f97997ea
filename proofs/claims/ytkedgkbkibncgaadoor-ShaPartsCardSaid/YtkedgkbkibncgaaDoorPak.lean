/- Pak: a part of the proof of statements of this seat. -/
import Derived.Test.YtkedgkbkibncgaaDoorPaj
import Derived.Test.YtkedgkbkibncgaaDoorPai
import Derived.Test.YtkedgkbkibncgaaDoorProg
import Derived.KernelRfl
set_option maxRecDepth 100000
set_option linter.unusedVariables false
set_option linter.unusedSimpArgs false
namespace Go.Ad
open Go Go.Rx
def B_sj32d (S : Nat → List (List Int) → List (List Int) → Prop) (K : List (List Int) → List (List Int) → Prop) : Prop :=
 qR fun z0 => qR fun z1 => qR fun z2 => qR fun z3 => (chkD 75 [z0,z1,z2,z3] -> qG fun z4 => qM fun z5 => qNf 20 [z0] fun z6 => qG fun z7 => qM fun z8 => qNf 20
 [z1] fun z9 => qG fun z10 => qM fun z11 => qNf 20 [z2] fun z12 => qG fun z13 => qM fun z14 => qNf 20 [z3] fun z15 => (qD (decide ((((-1) * z6) +
 9223372036854775807) < z9)) (False) (qW ((z6 + z9) + 9223372036854775808) 18446744073709551616 fun z16 => qW ((((-1) * z6) + (((-1) * z9) + (18446744073709551616
 * z16))) + 18446744073709551615) 18446744073709551616 fun z17 => (qD (decide (((((-1) * z6) + (((-1) * z9) + ((18446744073709551616 * z16) +
 ((-18446744073709551616) * z17)))) + 9223372036854775807) < z12)) (False) (qW ((z6 + (z9 + (z12 + ((-18446744073709551616) * z16)))) + 9223372036854775808)
 18446744073709551616 fun z18 => qW ((((-1) * z6) + (((-1) * z9) + (((-1) * z12) + ((18446744073709551616 * z16) + (18446744073709551616 * z18))))) +
 18446744073709551615) 18446744073709551616 fun z19 => (qD (decide (((((-1) * z6) + (((-1) * z9) + (((-1) * z12) + ((18446744073709551616 * z16) +
 ((18446744073709551616 * z18) + ((-18446744073709551616) * z19)))))) + 9223372036854775807) < z15)) (False) (qW ((z6 + (z9 + (z12 + (z15 +
 (((-18446744073709551616) * z16) + ((-18446744073709551616) * z18)))))) + 9223372036854775808) 18446744073709551616 fun z20 => chkD 26 [(z6 + (z9 + (z12 + (z15 +
 (((-18446744073709551616) * z16) + (((-18446744073709551616) * z18) + ((-18446744073709551616) * z20)))))))] /\ qR fun z21 => (chkD 31 [z21,(z6 + (z9 + (z12 +
 (z15 + (((-18446744073709551616) * z16) + (((-18446744073709551616) * z18) + ((-18446744073709551616) * z20)))))))] -> qN fun z22 => (chkD 79 [(z6 + (z9 + (z12 +
 (z15 + (((-18446744073709551616) * z16) + (((-18446744073709551616) * z18) + ((-18446744073709551616) * z20))))))),z22] -> chkD 78 [0,(z6 + (z9 + (z12 + (z15 +
 (((-18446744073709551616) * z16) + (((-18446744073709551616) * z18) + ((-18446744073709551616) * z20))))))),(z6 + (z9 + (z12 + (z15 + (((-18446744073709551616) *
 z16) + (((-18446744073709551616) * z18) + ((-18446744073709551616) * z20))))))),z22] /\ qPf 33 [0,0,(z6 + (z9 + (z12 + (z15 + (((-18446744073709551616) * z16) +
 (((-18446744073709551616) * z18) + ((-18446744073709551616) * z20)))))))] fun z23 => chkD 80 [z21,z23,(z6 + (z9 + (z12 + (z15 + (((-18446744073709551616) * z16)
 + (((-18446744073709551616) * z18) + ((-18446744073709551616) * z20)))))))] /\ chkD 22 [z0,0,z6] /\ qNf 62 [z6,(z6 + (z9 + (z12 + (z15 +
 (((-18446744073709551616) * z16) + (((-18446744073709551616) * z18) + ((-18446744073709551616) * z20)))))))] fun z24 => qRf 22 [z0,0,z24] fun z25 => qRf 63
 [z21,z23,z25] fun z26 => chkD 32 [z24,(z6 + (z9 + (z12 + (z15 + (((-18446744073709551616) * z16) + (((-18446744073709551616) * z18) + ((-18446744073709551616) *
 z20))))))),(z6 + (z9 + (z12 + (z15 + (((-18446744073709551616) * z16) + (((-18446744073709551616) * z18) + ((-18446744073709551616) * z20)))))))] /\ (chkD 68
 [(z6 + (z9 + (z12 + (z15 + (((-18446744073709551616) * z16) + (((-18446744073709551616) * z18) + ((-18446744073709551616) * z20))))))),(z6 + (z9 + (z12 + (z15 +
 (((-18446744073709551616) * z16) + (((-18446744073709551616) * z18) + ((-18446744073709551616) * z20)))))))] -> qPf 33 [z23,z24,(z6 + (z9 + (z12 + (z15 +
 (((-18446744073709551616) * z16) + (((-18446744073709551616) * z18) + ((-18446744073709551616) * z20)))))))] fun z27 => chkD 32 [z24,(z6 + (z9 + (z12 + (z15 +
 (((-18446744073709551616) * z16) + (((-18446744073709551616) * z18) + ((-18446744073709551616) * z20))))))),(z6 + (z9 + (z12 + (z15 + (((-18446744073709551616) *
 z16) + (((-18446744073709551616) * z18) + ((-18446744073709551616) * z20)))))))] /\ (chkD 68 [(z6 + (z9 + (z12 + (z15 + (((-18446744073709551616) * z16) +
 (((-18446744073709551616) * z18) + ((-18446744073709551616) * z20))))))),(z6 + (z9 + (z12 + (z15 + (((-18446744073709551616) * z16) + (((-18446744073709551616) *
 z18) + ((-18446744073709551616) * z20)))))))] -> qPf 33 [z23,z24,(z6 + (z9 + (z12 + (z15 + (((-18446744073709551616) * z16) + (((-18446744073709551616) * z18) +
 ((-18446744073709551616) * z20)))))))] fun z28 => chkD 80 [z26,z28,(z6 + (z9 + (z12 + (z15 + (((-18446744073709551616) * z16) + (((-18446744073709551616) * z18)
 + (((-18446744073709551616) * z20) + ((-1) * z24))))))))] /\ chkD 22 [z1,0,z9] /\ qNf 62 [z9,(z6 + (z9 + (z12 + (z15 + (((-18446744073709551616) * z16) +
 (((-18446744073709551616) * z18) + (((-18446744073709551616) * z20) + ((-1) * z24))))))))] fun z29 => qRf 22 [z1,0,z29] fun z30 => qRf 63 [z26,z28,z30] fun z31
 => qW ((z24 + z29) + 9223372036854775808) 18446744073709551616 fun z32 => chkD 32 [(z24 + (z29 + ((-18446744073709551616) * z32))),(z6 + (z9 + (z12 + (z15 +
 (((-18446744073709551616) * z16) + (((-18446744073709551616) * z18) + ((-18446744073709551616) * z20))))))),(z6 + (z9 + (z12 + (z15 + (((-18446744073709551616) *
 z16) + (((-18446744073709551616) * z18) + ((-18446744073709551616) * z20)))))))] /\ (chkD 68 [(z6 + (z9 + (z12 + (z15 + (((-18446744073709551616) * z16) +
 (((-18446744073709551616) * z18) + ((-18446744073709551616) * z20))))))),(z6 + (z9 + (z12 + (z15 + (((-18446744073709551616) * z16) + (((-18446744073709551616) *
 z18) + ((-18446744073709551616) * z20)))))))] -> qPf 33 [z23,(z24 + (z29 + ((-18446744073709551616) * z32))),(z6 + (z9 + (z12 + (z15 + (((-18446744073709551616)
 * z16) + (((-18446744073709551616) * z18) + ((-18446744073709551616) * z20)))))))] fun z33 => chkD 32 [(z24 + (z29 + ((-18446744073709551616) * z32))),(z6 + (z9
 + (z12 + (z15 + (((-18446744073709551616) * z16) + (((-18446744073709551616) * z18) + ((-18446744073709551616) * z20))))))),(z6 + (z9 + (z12 + (z15 +
 (((-18446744073709551616) * z16) + (((-18446744073709551616) * z18) + ((-18446744073709551616) * z20)))))))] /\ (chkD 68 [(z6 + (z9 + (z12 + (z15 +
 (((-18446744073709551616) * z16) + (((-18446744073709551616) * z18) + ((-18446744073709551616) * z20))))))),(z6 + (z9 + (z12 + (z15 + (((-18446744073709551616) *
 z16) + (((-18446744073709551616) * z18) + ((-18446744073709551616) * z20)))))))] -> qPf 33 [z23,(z24 + (z29 + ((-18446744073709551616) * z32))),(z6 + (z9 + (z12
 + (z15 + (((-18446744073709551616) * z16) + (((-18446744073709551616) * z18) + ((-18446744073709551616) * z20)))))))] fun z34 => chkD 80 [z31,z34,(z6 + (z9 +
 (z12 + (z15 + (((-18446744073709551616) * z16) + (((-18446744073709551616) * z18) + (((-18446744073709551616) * z20) + (((-1) * z24) + (((-1) * z29) +
 (18446744073709551616 * z32))))))))))] /\ chkD 22 [z2,0,z12] /\ qNf 62 [z12,(z6 + (z9 + (z12 + (z15 + (((-18446744073709551616) * z16) +
 (((-18446744073709551616) * z18) + (((-18446744073709551616) * z20) + (((-1) * z24) + (((-1) * z29) + (18446744073709551616 * z32))))))))))] fun z35 => qRf 22
 [z2,0,z35] fun z36 => qRf 63 [z31,z34,z36] fun z37 => qW ((z24 + (z29 + (((-18446744073709551616) * z32) + z35))) + 9223372036854775808) 18446744073709551616 fun
 z38 => chkD 32 [(z24 + (z29 + (((-18446744073709551616) * z32) + (z35 + ((-18446744073709551616) * z38))))),(z6 + (z9 + (z12 + (z15 + (((-18446744073709551616) *
 z16) + (((-18446744073709551616) * z18) + ((-18446744073709551616) * z20))))))),(z6 + (z9 + (z12 + (z15 + (((-18446744073709551616) * z16) +
 (((-18446744073709551616) * z18) + ((-18446744073709551616) * z20)))))))] /\ (chkD 68 [(z6 + (z9 + (z12 + (z15 + (((-18446744073709551616) * z16) +
 (((-18446744073709551616) * z18) + ((-18446744073709551616) * z20))))))),(z6 + (z9 + (z12 + (z15 + (((-18446744073709551616) * z16) + (((-18446744073709551616) *
 z18) + ((-18446744073709551616) * z20)))))))] -> qPf 33 [z23,(z24 + (z29 + (((-18446744073709551616) * z32) + (z35 + ((-18446744073709551616) * z38))))),(z6 +
 (z9 + (z12 + (z15 + (((-18446744073709551616) * z16) + (((-18446744073709551616) * z18) + ((-18446744073709551616) * z20)))))))] fun z39 => chkD 32 [(z24 + (z29
 + (((-18446744073709551616) * z32) + (z35 + ((-18446744073709551616) * z38))))),(z6 + (z9 + (z12 + (z15 + (((-18446744073709551616) * z16) +
 (((-18446744073709551616) * z18) + ((-18446744073709551616) * z20))))))),(z6 + (z9 + (z12 + (z15 + (((-18446744073709551616) * z16) + (((-18446744073709551616) *
 z18) + ((-18446744073709551616) * z20)))))))] /\ (chkD 68 [(z6 + (z9 + (z12 + (z15 + (((-18446744073709551616) * z16) + (((-18446744073709551616) * z18) +
 ((-18446744073709551616) * z20))))))),(z6 + (z9 + (z12 + (z15 + (((-18446744073709551616) * z16) + (((-18446744073709551616) * z18) + ((-18446744073709551616) *
 z20)))))))] -> qPf 33 [z23,(z24 + (z29 + (((-18446744073709551616) * z32) + (z35 + ((-18446744073709551616) * z38))))),(z6 + (z9 + (z12 + (z15 +
 (((-18446744073709551616) * z16) + (((-18446744073709551616) * z18) + ((-18446744073709551616) * z20)))))))] fun z40 => chkD 80 [z37,z40,(z6 + (z9 + (z12 + (z15
 + (((-18446744073709551616) * z16) + (((-18446744073709551616) * z18) + (((-18446744073709551616) * z20) + (((-1) * z24) + (((-1) * z29) + ((18446744073709551616
 * z32) + (((-1) * z35) + (18446744073709551616 * z38))))))))))))] /\ chkD 22 [z3,0,z15] /\ qNf 62 [z15,(z6 + (z9 + (z12 + (z15 + (((-18446744073709551616) * z16)
 + (((-18446744073709551616) * z18) + (((-18446744073709551616) * z20) + (((-1) * z24) + (((-1) * z29) + ((18446744073709551616 * z32) + (((-1) * z35) +
 (18446744073709551616 * z38))))))))))))] fun z41 => qRf 22 [z3,0,z41] fun z42 => qRf 63 [z37,z40,z42] fun z43 => qW ((z24 + (z29 + (((-18446744073709551616) *
 z32) + (z35 + (((-18446744073709551616) * z38) + z41))))) + 9223372036854775808) 18446744073709551616 fun z44 => chkD 22 [z43,z23,(z6 + (z9 + (z12 + (z15 +
 (((-18446744073709551616) * z16) + (((-18446744073709551616) * z18) + (((-18446744073709551616) * z20) + z23)))))))] /\ chkD 40 [(z6 + (z9 + (z12 + (z15 +
 (((-18446744073709551616) * z16) + (((-18446744073709551616) * z18) + ((-18446744073709551616) * z20))))))),z22] /\ qRf 22 [z43,z23,(z6 + (z9 + (z12 + (z15 +
 (((-18446744073709551616) * z16) + (((-18446744073709551616) * z18) + (((-18446744073709551616) * z20) + z23)))))))] fun z45 => K [[z0],[z1],[z2],[z3]]
 [[z45]])))))))))))))))
def B_sj64c (S : Nat → List (List Int) → List (List Int) → Prop) (K : List (List Int) → List (List Int) → Prop) : Prop :=
 qR fun z0 => qR fun z1 => qR fun z2 => (chkD 75 [z0,z1,z2] -> qG fun z3 => qM fun z4 => qNf 20 [z0] fun z5 => qG fun z6 => qM fun z7 => qNf 20 [z1] fun z8 => qG
 fun z9 => qM fun z10 => qNf 20 [z2] fun z11 => (qD (decide ((((-1) * z5) + 9223372036854775807) < z8)) (False) (qW ((z5 + z8) + 9223372036854775808)
 18446744073709551616 fun z12 => qW ((((-1) * z5) + (((-1) * z8) + (18446744073709551616 * z12))) + 18446744073709551615) 18446744073709551616 fun z13 => (qD
 (decide (((((-1) * z5) + (((-1) * z8) + ((18446744073709551616 * z12) + ((-18446744073709551616) * z13)))) + 9223372036854775807) < z11)) (False) (qW ((z5 + (z8
 + (z11 + ((-18446744073709551616) * z12)))) + 9223372036854775808) 18446744073709551616 fun z14 => chkD 26 [(z5 + (z8 + (z11 + (((-18446744073709551616) * z12) +
 ((-18446744073709551616) * z14)))))] /\ qR fun z15 => (chkD 31 [z15,(z5 + (z8 + (z11 + (((-18446744073709551616) * z12) + ((-18446744073709551616) * z14)))))] ->
 qN fun z16 => (chkD 79 [(z5 + (z8 + (z11 + (((-18446744073709551616) * z12) + ((-18446744073709551616) * z14))))),z16] -> chkD 78 [0,(z5 + (z8 + (z11 +
 (((-18446744073709551616) * z12) + ((-18446744073709551616) * z14))))),(z5 + (z8 + (z11 + (((-18446744073709551616) * z12) + ((-18446744073709551616) *
 z14))))),z16] /\ qPf 33 [0,0,(z5 + (z8 + (z11 + (((-18446744073709551616) * z12) + ((-18446744073709551616) * z14)))))] fun z17 => chkD 80 [z15,z17,(z5 + (z8 +
 (z11 + (((-18446744073709551616) * z12) + ((-18446744073709551616) * z14)))))] /\ chkD 22 [z0,0,z5] /\ qNf 62 [z5,(z5 + (z8 + (z11 + (((-18446744073709551616) *
 z12) + ((-18446744073709551616) * z14)))))] fun z18 => qRf 22 [z0,0,z18] fun z19 => qRf 63 [z15,z17,z19] fun z20 => chkD 32 [z18,(z5 + (z8 + (z11 +
 (((-18446744073709551616) * z12) + ((-18446744073709551616) * z14))))),(z5 + (z8 + (z11 + (((-18446744073709551616) * z12) + ((-18446744073709551616) * z14)))))]
 /\ (chkD 68 [(z5 + (z8 + (z11 + (((-18446744073709551616) * z12) + ((-18446744073709551616) * z14))))),(z5 + (z8 + (z11 + (((-18446744073709551616) * z12) +
 ((-18446744073709551616) * z14)))))] -> qPf 33 [z17,z18,(z5 + (z8 + (z11 + (((-18446744073709551616) * z12) + ((-18446744073709551616) * z14)))))] fun z21 =>
 chkD 32 [z18,(z5 + (z8 + (z11 + (((-18446744073709551616) * z12) + ((-18446744073709551616) * z14))))),(z5 + (z8 + (z11 + (((-18446744073709551616) * z12) +
 ((-18446744073709551616) * z14)))))] /\ (chkD 68 [(z5 + (z8 + (z11 + (((-18446744073709551616) * z12) + ((-18446744073709551616) * z14))))),(z5 + (z8 + (z11 +
 (((-18446744073709551616) * z12) + ((-18446744073709551616) * z14)))))] -> qPf 33 [z17,z18,(z5 + (z8 + (z11 + (((-18446744073709551616) * z12) +
 ((-18446744073709551616) * z14)))))] fun z22 => chkD 80 [z20,z22,(z5 + (z8 + (z11 + (((-18446744073709551616) * z12) + (((-18446744073709551616) * z14) + ((-1) *
 z18))))))] /\ chkD 22 [z1,0,z8] /\ qNf 62 [z8,(z5 + (z8 + (z11 + (((-18446744073709551616) * z12) + (((-18446744073709551616) * z14) + ((-1) * z18))))))] fun z23
 => qRf 22 [z1,0,z23] fun z24 => qRf 63 [z20,z22,z24] fun z25 => qW ((z18 + z23) + 9223372036854775808) 18446744073709551616 fun z26 => chkD 32 [(z18 + (z23 +
 ((-18446744073709551616) * z26))),(z5 + (z8 + (z11 + (((-18446744073709551616) * z12) + ((-18446744073709551616) * z14))))),(z5 + (z8 + (z11 +
 (((-18446744073709551616) * z12) + ((-18446744073709551616) * z14)))))] /\ (chkD 68 [(z5 + (z8 + (z11 + (((-18446744073709551616) * z12) +
 ((-18446744073709551616) * z14))))),(z5 + (z8 + (z11 + (((-18446744073709551616) * z12) + ((-18446744073709551616) * z14)))))] -> qPf 33 [z17,(z18 + (z23 +
 ((-18446744073709551616) * z26))),(z5 + (z8 + (z11 + (((-18446744073709551616) * z12) + ((-18446744073709551616) * z14)))))] fun z27 => chkD 32 [(z18 + (z23 +
 ((-18446744073709551616) * z26))),(z5 + (z8 + (z11 + (((-18446744073709551616) * z12) + ((-18446744073709551616) * z14))))),(z5 + (z8 + (z11 +
 (((-18446744073709551616) * z12) + ((-18446744073709551616) * z14)))))] /\ (chkD 68 [(z5 + (z8 + (z11 + (((-18446744073709551616) * z12) +
 ((-18446744073709551616) * z14))))),(z5 + (z8 + (z11 + (((-18446744073709551616) * z12) + ((-18446744073709551616) * z14)))))] -> qPf 33 [z17,(z18 + (z23 +
 ((-18446744073709551616) * z26))),(z5 + (z8 + (z11 + (((-18446744073709551616) * z12) + ((-18446744073709551616) * z14)))))] fun z28 => chkD 80 [z25,z28,(z5 +
 (z8 + (z11 + (((-18446744073709551616) * z12) + (((-18446744073709551616) * z14) + (((-1) * z18) + (((-1) * z23) + (18446744073709551616 * z26))))))))] /\ chkD
 22 [z2,0,z11] /\ qNf 62 [z11,(z5 + (z8 + (z11 + (((-18446744073709551616) * z12) + (((-18446744073709551616) * z14) + (((-1) * z18) + (((-1) * z23) +
 (18446744073709551616 * z26))))))))] fun z29 => qRf 22 [z2,0,z29] fun z30 => qRf 63 [z25,z28,z30] fun z31 => qW ((z18 + (z23 + (((-18446744073709551616) * z26) +
 z29))) + 9223372036854775808) 18446744073709551616 fun z32 => chkD 22 [z31,z17,(z5 + (z8 + (z11 + (((-18446744073709551616) * z12) + (((-18446744073709551616) *
 z14) + z17)))))] /\ chkD 40 [(z5 + (z8 + (z11 + (((-18446744073709551616) * z12) + ((-18446744073709551616) * z14))))),z16] /\ qRf 22 [z31,z17,(z5 + (z8 + (z11 +
 (((-18446744073709551616) * z12) + (((-18446744073709551616) * z14) + z17)))))] fun z33 => K [[z0],[z1],[z2]] [[z33]])))))))))))
def B_sum32d (S : Nat → List (List Int) → List (List Int) → Prop) (K : List (List Int) → List (List Int) → Prop) : Prop :=
 qR fun z0 => qR fun z1 => qR fun z2 => qR fun z3 => (chkD 75 [z0,z1,z2,z3] -> qG fun z4 => qM fun z5 => qNf 20 [z0] fun z6 => qG fun z7 => qM fun z8 => qNf 20
 [z1] fun z9 => qG fun z10 => qM fun z11 => qNf 20 [z2] fun z12 => qG fun z13 => qM fun z14 => qNf 20 [z3] fun z15 => chkD 22 [z0,0,z6] /\ qRf 22 [z0,0,z6] fun
 z16 => chkD 22 [z1,0,z9] /\ qRf 22 [z1,0,z9] fun z17 => chkD 22 [z2,0,z12] /\ qRf 22 [z2,0,z12] fun z18 => chkD 22 [z3,0,z15] /\ qRf 22 [z3,0,z15] fun z19 =>
 chkD 75 [z16,z17,z18,z19] /\ qR fun z20 => S 468 [[z16],[z17],[z18],[z19]] [[z20]] -> qG fun z21 => qM fun z22 => qNf 20 [z20] fun z23 => chkD 22 [z20,0,z23] /\
 qRf 22 [z20,0,z23] fun z24 => chkD 71 [z24] /\ qR fun z25 => S 442 [[z24]] [[z25]] -> qM fun z26 => qNf 20 [z25] fun z27 => chkD 22 [z25,0,z27] /\ qRf 22
 [z25,0,z27] fun z28 => chkD 72 [z28] /\ qR fun z29 => S 464 [[z28]] [[z29]] -> qM fun z30 => qNf 20 [z29] fun z31 => chkD 30 [31,z31] /\ chkD 21 [z29,0] /\ chkD
 21 [z29,0] /\ qBf 21 [z29,0,0] fun z32 => chkD 21 [z29,1] /\ qBf 21 [z29,1,0] fun z33 => chkD 21 [z29,2] /\ qBf 21 [z29,2,0] fun z34 => chkD 21 [z29,3] /\ qBf 21
 [z29,3,0] fun z35 => chkD 21 [z29,4] /\ qBf 21 [z29,4,0] fun z36 => chkD 21 [z29,5] /\ qBf 21 [z29,5,0] fun z37 => chkD 21 [z29,6] /\ qBf 21 [z29,6,0] fun z38 =>
 chkD 21 [z29,7] /\ qBf 21 [z29,7,0] fun z39 => chkD 21 [z29,8] /\ qBf 21 [z29,8,0] fun z40 => chkD 21 [z29,9] /\ qBf 21 [z29,9,0] fun z41 => chkD 21 [z29,10] /\
 qBf 21 [z29,10,0] fun z42 => chkD 21 [z29,11] /\ qBf 21 [z29,11,0] fun z43 => chkD 21 [z29,12] /\ qBf 21 [z29,12,0] fun z44 => chkD 21 [z29,13] /\ qBf 21
 [z29,13,0] fun z45 => chkD 21 [z29,14] /\ qBf 21 [z29,14,0] fun z46 => chkD 21 [z29,15] /\ qBf 21 [z29,15,0] fun z47 => chkD 21 [z29,16] /\ qBf 21 [z29,16,0] fun
 z48 => chkD 21 [z29,17] /\ qBf 21 [z29,17,0] fun z49 => chkD 21 [z29,18] /\ qBf 21 [z29,18,0] fun z50 => chkD 21 [z29,19] /\ qBf 21 [z29,19,0] fun z51 => chkD 21
 [z29,20] /\ qBf 21 [z29,20,0] fun z52 => chkD 21 [z29,21] /\ qBf 21 [z29,21,0] fun z53 => chkD 21 [z29,22] /\ qBf 21 [z29,22,0] fun z54 => chkD 21 [z29,23] /\
 qBf 21 [z29,23,0] fun z55 => chkD 21 [z29,24] /\ qBf 21 [z29,24,0] fun z56 => chkD 21 [z29,25] /\ qBf 21 [z29,25,0] fun z57 => chkD 21 [z29,26] /\ qBf 21
 [z29,26,0] fun z58 => chkD 21 [z29,27] /\ qBf 21 [z29,27,0] fun z59 => chkD 21 [z29,28] /\ qBf 21 [z29,28,0] fun z60 => chkD 21 [z29,29] /\ qBf 21 [z29,29,0] fun
 z61 => chkD 21 [z29,30] /\ qBf 21 [z29,30,0] fun z62 => chkD 21 [z29,31] /\ qBf 21 [z29,31,0] fun z63 => K [[z0],[z1],[z2],[z3]]
 [[z32,z33,z34,z35,z36,z37,z38,z39,z40,z41,z42,z43,z44,z45,z46,z47,z48,z49,z50,z51,z52,z53,z54,z55,z56,z57,z58,z59,z60,z61,z62,z63]])
def B_sum64c (S : Nat → List (List Int) → List (List Int) → Prop) (K : List (List Int) → List (List Int) → Prop) : Prop :=
 qR fun z0 => qR fun z1 => qR fun z2 => (chkD 75 [z0,z1,z2] -> qG fun z3 => qM fun z4 => qNf 20 [z0] fun z5 => qG fun z6 => qM fun z7 => qNf 20 [z1] fun z8 => qG
 fun z9 => qM fun z10 => qNf 20 [z2] fun z11 => chkD 22 [z0,0,z5] /\ qRf 22 [z0,0,z5] fun z12 => chkD 22 [z1,0,z8] /\ qRf 22 [z1,0,z8] fun z13 => chkD 22
 [z2,0,z11] /\ qRf 22 [z2,0,z11] fun z14 => chkD 75 [z12,z13,z14] /\ qR fun z15 => S 469 [[z12],[z13],[z14]] [[z15]] -> qG fun z16 => qM fun z17 => qNf 20 [z15]
 fun z18 => chkD 22 [z15,0,z18] /\ qRf 22 [z15,0,z18] fun z19 => chkD 71 [z19] /\ qR fun z20 => S 443 [[z19]] [[z20]] -> qM fun z21 => qNf 20 [z20] fun z22 =>
 chkD 22 [z20,0,z22] /\ qRf 22 [z20,0,z22] fun z23 => chkD 73 [z23] /\ qR fun z24 => S 465 [[z23]] [[z24]] -> qM fun z25 => qNf 20 [z24] fun z26 => chkD 30
 [63,z26] /\ chkD 21 [z24,0] /\ chkD 21 [z24,0] /\ qBf 21 [z24,0,0] fun z27 => chkD 21 [z24,1] /\ qBf 21 [z24,1,0] fun z28 => chkD 21 [z24,2] /\ qBf 21 [z24,2,0]
 fun z29 => chkD 21 [z24,3] /\ qBf 21 [z24,3,0] fun z30 => chkD 21 [z24,4] /\ qBf 21 [z24,4,0] fun z31 => chkD 21 [z24,5] /\ qBf 21 [z24,5,0] fun z32 => chkD 21
 [z24,6] /\ qBf 21 [z24,6,0] fun z33 => chkD 21 [z24,7] /\ qBf 21 [z24,7,0] fun z34 => chkD 21 [z24,8] /\ qBf 21 [z24,8,0] fun z35 => chkD 21 [z24,9] /\ qBf 21
 [z24,9,0] fun z36 => chkD 21 [z24,10] /\ qBf 21 [z24,10,0] fun z37 => chkD 21 [z24,11] /\ qBf 21 [z24,11,0] fun z38 => chkD 21 [z24,12] /\ qBf 21 [z24,12,0] fun
 z39 => chkD 21 [z24,13] /\ qBf 21 [z24,13,0] fun z40 => chkD 21 [z24,14] /\ qBf 21 [z24,14,0] fun z41 => chkD 21 [z24,15] /\ qBf 21 [z24,15,0] fun z42 => chkD 21
 [z24,16] /\ qBf 21 [z24,16,0] fun z43 => chkD 21 [z24,17] /\ qBf 21 [z24,17,0] fun z44 => chkD 21 [z24,18] /\ qBf 21 [z24,18,0] fun z45 => chkD 21 [z24,19] /\
 qBf 21 [z24,19,0] fun z46 => chkD 21 [z24,20] /\ qBf 21 [z24,20,0] fun z47 => chkD 21 [z24,21] /\ qBf 21 [z24,21,0] fun z48 => chkD 21 [z24,22] /\ qBf 21
 [z24,22,0] fun z49 => chkD 21 [z24,23] /\ qBf 21 [z24,23,0] fun z50 => chkD 21 [z24,24] /\ qBf 21 [z24,24,0] fun z51 => chkD 21 [z24,25] /\ qBf 21 [z24,25,0] fun
 z52 => chkD 21 [z24,26] /\ qBf 21 [z24,26,0] fun z53 => chkD 21 [z24,27] /\ qBf 21 [z24,27,0] fun z54 => chkD 21 [z24,28] /\ qBf 21 [z24,28,0] fun z55 => chkD 21
 [z24,29] /\ qBf 21 [z24,29,0] fun z56 => chkD 21 [z24,30] /\ qBf 21 [z24,30,0] fun z57 => chkD 21 [z24,31] /\ qBf 21 [z24,31,0] fun z58 => chkD 21 [z24,32] /\
 qBf 21 [z24,32,0] fun z59 => chkD 21 [z24,33] /\ qBf 21 [z24,33,0] fun z60 => chkD 21 [z24,34] /\ qBf 21 [z24,34,0] fun z61 => chkD 21 [z24,35] /\ qBf 21
 [z24,35,0] fun z62 => chkD 21 [z24,36] /\ qBf 21 [z24,36,0] fun z63 => chkD 21 [z24,37] /\ qBf 21 [z24,37,0] fun z64 => chkD 21 [z24,38] /\ qBf 21 [z24,38,0] fun
 z65 => chkD 21 [z24,39] /\ qBf 21 [z24,39,0] fun z66 => chkD 21 [z24,40] /\ qBf 21 [z24,40,0] fun z67 => chkD 21 [z24,41] /\ qBf 21 [z24,41,0] fun z68 => chkD 21
 [z24,42] /\ qBf 21 [z24,42,0] fun z69 => chkD 21 [z24,43] /\ qBf 21 [z24,43,0] fun z70 => chkD 21 [z24,44] /\ qBf 21 [z24,44,0] fun z71 => chkD 21 [z24,45] /\
 qBf 21 [z24,45,0] fun z72 => chkD 21 [z24,46] /\ qBf 21 [z24,46,0] fun z73 => chkD 21 [z24,47] /\ qBf 21 [z24,47,0] fun z74 => chkD 21 [z24,48] /\ qBf 21
 [z24,48,0] fun z75 => chkD 21 [z24,49] /\ qBf 21 [z24,49,0] fun z76 => chkD 21 [z24,50] /\ qBf 21 [z24,50,0] fun z77 => chkD 21 [z24,51] /\ qBf 21 [z24,51,0] fun
 z78 => chkD 21 [z24,52] /\ qBf 21 [z24,52,0] fun z79 => chkD 21 [z24,53] /\ qBf 21 [z24,53,0] fun z80 => chkD 21 [z24,54] /\ qBf 21 [z24,54,0] fun z81 => chkD 21
 [z24,55] /\ qBf 21 [z24,55,0] fun z82 => chkD 21 [z24,56] /\ qBf 21 [z24,56,0] fun z83 => chkD 21 [z24,57] /\ qBf 21 [z24,57,0] fun z84 => chkD 21 [z24,58] /\
 qBf 21 [z24,58,0] fun z85 => chkD 21 [z24,59] /\ qBf 21 [z24,59,0] fun z86 => chkD 21 [z24,60] /\ qBf 21 [z24,60,0] fun z87 => chkD 21 [z24,61] /\ qBf 21
 [z24,61,0] fun z88 => chkD 21 [z24,62] /\ qBf 21 [z24,62,0] fun z89 => chkD 21 [z24,63] /\ qBf 21 [z24,63,0] fun z90 => K [[z0],[z1],[z2]]
 [[z27,z28,z29,z30,z31,z32,z33,z34,z35,z36,z37,z38,z39,z40,z41,z42,z43,z44,z45,z46,z47,z48,z49,z50,z51,z52,z53,z54,z55,z56,z57,z58,z59,z60,z61,z62,z63,z64,z65,z66,z67,z68,z69,z70,z71,z72,z73,z74,z75,z76,z77,z78,z79,z80,z81,z82,z83,z84,z85,z86,z87,z88,z89,z90]])
def B_lsparts (S : Nat → List (List Int) → List (List Int) → Prop) (K : List (List Int) → List (List Int) → Prop) : Prop :=
 qR fun z0 => qI 0 65535 fun z1 => qI 0 65535 fun z2 => qG fun z3 => qM fun z4 => qNf 20 [z0] fun z5 => qO fun z6 => S 456 [] [[z6]] -> (qD ((!(decide (z6 = 1))))
 (K [[z0],[z1],[z2]] [[(cond (false) 1 0)]]) ((qD (decide (5000 < z5)) (K [[z0],[z1],[z2]] [[(cond (true) 1 0)]]) (qW (z5 + 9223372036854775809)
 18446744073709551616 fun z7 => chkD 36 [((z5 + ((-18446744073709551616) * z7)) + 1)] /\ qIf 0 65535 38 [z1,((z5 + ((-18446744073709551616) * z7)) + 1)] fun z8 =>
 qW ((z5 + ((-1) * z8)) + 9223372036854775809) 18446744073709551616 fun z9 => chkD 36 [((z5 + (((-1) * z8) + ((-18446744073709551616) * z9))) + 1)] /\ qIf 0 65535
 38 [z2,((z5 + (((-1) * z8) + ((-18446744073709551616) * z9))) + 1)] fun z10 => chkD 32 [0,z8,z5] /\ chkD 32 [z8,(z8 + z10),z5] /\ (chkD 68 [z5,z4] -> qPf 33
 [0,z8,z4] fun z11 => chkD 32 [(z8 + z10),z5,z5] /\ (chkD 68 [z5,z4] -> qPf 33 [0,(z8 + z10),z4] fun z12 => ((((chkD 22 [z0,0,z5] /\ qRf 22 [z0,0,z5] fun z13 =>
 chkD 71 [z13] /\ ∀ r14 : List Int,inB (repB 0 255 32) r14 -> S 452 [[z13]] [r14] -> chkD 22 [z0,0,z8] /\ qRf 22 [z0,0,z8] fun z46 => chkD 22 [z0,z11,(z10 + z11)]
 /\ chkD 40 [(z4 + ((-1) * z8)),z4] /\ qRf 22 [z0,z11,(z10 + z11)] fun z47 => chkD 22 [z0,z12,(z5 + (((-1) * z8) + (((-1) * z10) + z12)))] /\ chkD 40 [(z4 +
 (((-1) * z8) + ((-1) * z10))),z4] /\ qRf 22 [z0,z12,(z5 + (((-1) * z8) + (((-1) * z10) + z12)))] fun z48 => chkD 75 [z46,z47,0,z48] /\ ∀ r49 : List Int,inB (repB
 0 255 32) r49 -> S 470 [[z46],[z47],[0],[z48]] [r49] -> (qD (decide (r14 = r49)) (chkD 32 [0,z8,z5] /\ chkD 32 [z8,(z8 + z10),z5] /\ (chkD 68 [z5,z4] -> qPf 33
 [0,z8,z4] fun z81 => chkD 32 [(z8 + z10),z5,z5] /\ (chkD 68 [z5,z4] -> qPf 33 [0,(z8 + z10),z4] fun z82 => ((((chkD 22 [z0,0,z8] /\ qRf 22 [z0,0,z8] fun z83 =>
 chkD 22 [z0,z81,(z10 + z81)] /\ chkD 40 [(z4 + ((-1) * z8)),z4] /\ qRf 22 [z0,z81,(z10 + z81)] fun z84 => chkD 22 [z0,z82,(z5 + (((-1) * z8) + (((-1) * z10) +
 z82)))] /\ chkD 40 [(z4 + (((-1) * z8) + ((-1) * z10))),z4] /\ qRf 22 [z0,z82,(z5 + (((-1) * z8) + (((-1) * z10) + z82)))] fun z85 => chkD 75 [z83,z84,z85] /\ ∀
 r86 : List Int,inB (repB 0 255 64) r86 -> S 471 [[z83],[z84],[z85]] [r86] -> chkD 22 [z0,0,z5] /\ qRf 22 [z0,0,z5] fun z150 => chkD 71 [z150] /\ ∀ r151 : List
 Int,inB (repB 0 255 64) r151 -> S 453 [[z150]] [r151] -> K [[z0],[z1],[z2]] [[(cond (decide (r86 = r151)) 1 0)]]) /\ (chkD 22 [z0,0,z8] /\ qRf 22 [z0,0,z8] fun
 z83 => chkD 22 [z0,z81,(z10 + z81)] /\ chkD 40 [(z4 + ((-1) * z8)),z4] /\ qRf 22 [z0,z81,(z10 + z81)] fun z84 => chkD 22 [z0,z82,(z5 + (((-1) * z8) + (((-1) *
 z10) + z82)))] /\ chkD 40 [(z4 + (((-1) * z8) + ((-1) * z10))),z4] /\ qRf 22 [z0,z82,(z5 + (((-1) * z8) + (((-1) * z10) + z82)))] fun z85 => chkD 75
 [z83,z84,z85] /\ ∀ r86 : List Int,inB (repB 0 255 64) r86 -> S 471 [[z83],[z84],[z85]] [r86] -> chkD 22 [z0,0,z5] /\ qRf 22 [z0,0,z5] fun z150 => chkD 71 [z150]
 /\ ∀ r151 : List Int,inB (repB 0 255 64) r151 -> S 453 [[z150]] [r151] -> K [[z0],[z1],[z2]] [[(cond (decide (r86 = r151)) 1 0)]]))) /\ (chkD 22 [z0,0,z8] /\ qRf
 22 [z0,0,z8] fun z83 => chkD 22 [z0,z81,(z10 + z81)] /\ chkD 40 [(z4 + ((-1) * z8)),z4] /\ qRf 22 [z0,z81,(z10 + z81)] fun z84 => chkD 22 [z0,z82,(z5 + (((-1) *
 z8) + (((-1) * z10) + z82)))] /\ chkD 40 [(z4 + (((-1) * z8) + ((-1) * z10))),z4] /\ qRf 22 [z0,z82,(z5 + (((-1) * z8) + (((-1) * z10) + z82)))] fun z85 => chkD
 75 [z83,z84,z85] /\ ∀ r86 : List Int,inB (repB 0 255 64) r86 -> S 471 [[z83],[z84],[z85]] [r86] -> chkD 22 [z0,0,z5] /\ qRf 22 [z0,0,z5] fun z150 => chkD 71
 [z150] /\ ∀ r151 : List Int,inB (repB 0 255 64) r151 -> S 453 [[z150]] [r151] -> K [[z0],[z1],[z2]] [[(cond (decide (r86 = r151)) 1 0)]]))))) (K [[z0],[z1],[z2]]
 [[(cond (false) 1 0)]]))) /\ (chkD 22 [z0,0,z5] /\ qRf 22 [z0,0,z5] fun z13 => chkD 71 [z13] /\ ∀ r14 : List Int,inB (repB 0 255 32) r14 -> S 452 [[z13]] [r14]
 -> chkD 22 [z0,0,z8] /\ qRf 22 [z0,0,z8] fun z46 => chkD 22 [z0,z11,(z10 + z11)] /\ chkD 40 [(z4 + ((-1) * z8)),z4] /\ qRf 22 [z0,z11,(z10 + z11)] fun z47 =>
 chkD 22 [z0,z12,(z5 + (((-1) * z8) + (((-1) * z10) + z12)))] /\ chkD 40 [(z4 + (((-1) * z8) + ((-1) * z10))),z4] /\ qRf 22 [z0,z12,(z5 + (((-1) * z8) + (((-1) *
 z10) + z12)))] fun z48 => chkD 75 [z46,z47,0,z48] /\ ∀ r49 : List Int,inB (repB 0 255 32) r49 -> S 470 [[z46],[z47],[0],[z48]] [r49] -> (qD (decide (r14 = r49))
 (chkD 32 [0,z8,z5] /\ chkD 32 [z8,(z8 + z10),z5] /\ (chkD 68 [z5,z4] -> qPf 33 [0,z8,z4] fun z81 => chkD 32 [(z8 + z10),z5,z5] /\ (chkD 68 [z5,z4] -> qPf 33
 [0,(z8 + z10),z4] fun z82 => ((((chkD 22 [z0,0,z8] /\ qRf 22 [z0,0,z8] fun z83 => chkD 22 [z0,z81,(z10 + z81)] /\ chkD 40 [(z4 + ((-1) * z8)),z4] /\ qRf 22
 [z0,z81,(z10 + z81)] fun z84 => chkD 22 [z0,z82,(z5 + (((-1) * z8) + (((-1) * z10) + z82)))] /\ chkD 40 [(z4 + (((-1) * z8) + ((-1) * z10))),z4] /\ qRf 22
 [z0,z82,(z5 + (((-1) * z8) + (((-1) * z10) + z82)))] fun z85 => chkD 75 [z83,z84,z85] /\ ∀ r86 : List Int,inB (repB 0 255 64) r86 -> S 471 [[z83],[z84],[z85]]
 [r86] -> chkD 22 [z0,0,z5] /\ qRf 22 [z0,0,z5] fun z150 => chkD 71 [z150] /\ ∀ r151 : List Int,inB (repB 0 255 64) r151 -> S 453 [[z150]] [r151] -> K
 [[z0],[z1],[z2]] [[(cond (decide (r86 = r151)) 1 0)]]) /\ (chkD 22 [z0,0,z8] /\ qRf 22 [z0,0,z8] fun z83 => chkD 22 [z0,z81,(z10 + z81)] /\ chkD 40 [(z4 + ((-1)
 * z8)),z4] /\ qRf 22 [z0,z81,(z10 + z81)] fun z84 => chkD 22 [z0,z82,(z5 + (((-1) * z8) + (((-1) * z10) + z82)))] /\ chkD 40 [(z4 + (((-1) * z8) + ((-1) *
 z10))),z4] /\ qRf 22 [z0,z82,(z5 + (((-1) * z8) + (((-1) * z10) + z82)))] fun z85 => chkD 75 [z83,z84,z85] /\ ∀ r86 : List Int,inB (repB 0 255 64) r86 -> S 471
 [[z83],[z84],[z85]] [r86] -> chkD 22 [z0,0,z5] /\ qRf 22 [z0,0,z5] fun z150 => chkD 71 [z150] /\ ∀ r151 : List Int,inB (repB 0 255 64) r151 -> S 453 [[z150]]
 [r151] -> K [[z0],[z1],[z2]] [[(cond (decide (r86 = r151)) 1 0)]]))) /\ (chkD 22 [z0,0,z8] /\ qRf 22 [z0,0,z8] fun z83 => chkD 22 [z0,z81,(z10 + z81)] /\ chkD 40
 [(z4 + ((-1) * z8)),z4] /\ qRf 22 [z0,z81,(z10 + z81)] fun z84 => chkD 22 [z0,z82,(z5 + (((-1) * z8) + (((-1) * z10) + z82)))] /\ chkD 40 [(z4 + (((-1) * z8) +
 ((-1) * z10))),z4] /\ qRf 22 [z0,z82,(z5 + (((-1) * z8) + (((-1) * z10) + z82)))] fun z85 => chkD 75 [z83,z84,z85] /\ ∀ r86 : List Int,inB (repB 0 255 64) r86 ->
 S 471 [[z83],[z84],[z85]] [r86] -> chkD 22 [z0,0,z5] /\ qRf 22 [z0,0,z5] fun z150 => chkD 71 [z150] /\ ∀ r151 : List Int,inB (repB 0 255 64) r151 -> S 453
 [[z150]] [r151] -> K [[z0],[z1],[z2]] [[(cond (decide (r86 = r151)) 1 0)]]))))) (K [[z0],[z1],[z2]] [[(cond (false) 1 0)]]))))) /\ (chkD 22 [z0,0,z5] /\ qRf 22
 [z0,0,z5] fun z13 => chkD 71 [z13] /\ ∀ r14 : List Int,inB (repB 0 255 32) r14 -> S 452 [[z13]] [r14] -> chkD 22 [z0,0,z8] /\ qRf 22 [z0,0,z8] fun z46 => chkD 22
 [z0,z11,(z10 + z11)] /\ chkD 40 [(z4 + ((-1) * z8)),z4] /\ qRf 22 [z0,z11,(z10 + z11)] fun z47 => chkD 22 [z0,z12,(z5 + (((-1) * z8) + (((-1) * z10) + z12)))] /\
 chkD 40 [(z4 + (((-1) * z8) + ((-1) * z10))),z4] /\ qRf 22 [z0,z12,(z5 + (((-1) * z8) + (((-1) * z10) + z12)))] fun z48 => chkD 75 [z46,z47,0,z48] /\ ∀ r49 :
 List Int,inB (repB 0 255 32) r49 -> S 470 [[z46],[z47],[0],[z48]] [r49] -> (qD (decide (r14 = r49)) (chkD 32 [0,z8,z5] /\ chkD 32 [z8,(z8 + z10),z5] /\ (chkD 68
 [z5,z4] -> qPf 33 [0,z8,z4] fun z81 => chkD 32 [(z8 + z10),z5,z5] /\ (chkD 68 [z5,z4] -> qPf 33 [0,(z8 + z10),z4] fun z82 => ((((chkD 22 [z0,0,z8] /\ qRf 22
 [z0,0,z8] fun z83 => chkD 22 [z0,z81,(z10 + z81)] /\ chkD 40 [(z4 + ((-1) * z8)),z4] /\ qRf 22 [z0,z81,(z10 + z81)] fun z84 => chkD 22 [z0,z82,(z5 + (((-1) * z8)
 + (((-1) * z10) + z82)))] /\ chkD 40 [(z4 + (((-1) * z8) + ((-1) * z10))),z4] /\ qRf 22 [z0,z82,(z5 + (((-1) * z8) + (((-1) * z10) + z82)))] fun z85 => chkD 75
 [z83,z84,z85] /\ ∀ r86 : List Int,inB (repB 0 255 64) r86 -> S 471 [[z83],[z84],[z85]] [r86] -> chkD 22 [z0,0,z5] /\ qRf 22 [z0,0,z5] fun z150 => chkD 71 [z150]
 /\ ∀ r151 : List Int,inB (repB 0 255 64) r151 -> S 453 [[z150]] [r151] -> K [[z0],[z1],[z2]] [[(cond (decide (r86 = r151)) 1 0)]]) /\ (chkD 22 [z0,0,z8] /\ qRf
 22 [z0,0,z8] fun z83 => chkD 22 [z0,z81,(z10 + z81)] /\ chkD 40 [(z4 + ((-1) * z8)),z4] /\ qRf 22 [z0,z81,(z10 + z81)] fun z84 => chkD 22 [z0,z82,(z5 + (((-1) *
 z8) + (((-1) * z10) + z82)))] /\ chkD 40 [(z4 + (((-1) * z8) + ((-1) * z10))),z4] /\ qRf 22 [z0,z82,(z5 + (((-1) * z8) + (((-1) * z10) + z82)))] fun z85 => chkD
 75 [z83,z84,z85] /\ ∀ r86 : List Int,inB (repB 0 255 64) r86 -> S 471 [[z83],[z84],[z85]] [r86] -> chkD 22 [z0,0,z5] /\ qRf 22 [z0,0,z5] fun z150 => chkD 71
 [z150] /\ ∀ r151 : List Int,inB (repB 0 255 64) r151 -> S 453 [[z150]] [r151] -> K [[z0],[z1],[z2]] [[(cond (decide (r86 = r151)) 1 0)]]))) /\ (chkD 22 [z0,0,z8]
 /\ qRf 22 [z0,0,z8] fun z83 => chkD 22 [z0,z81,(z10 + z81)] /\ chkD 40 [(z4 + ((-1) * z8)),z4] /\ qRf 22 [z0,z81,(z10 + z81)] fun z84 => chkD 22 [z0,z82,(z5 +
 (((-1) * z8) + (((-1) * z10) + z82)))] /\ chkD 40 [(z4 + (((-1) * z8) + ((-1) * z10))),z4] /\ qRf 22 [z0,z82,(z5 + (((-1) * z8) + (((-1) * z10) + z82)))] fun z85
 => chkD 75 [z83,z84,z85] /\ ∀ r86 : List Int,inB (repB 0 255 64) r86 -> S 471 [[z83],[z84],[z85]] [r86] -> chkD 22 [z0,0,z5] /\ qRf 22 [z0,0,z5] fun z150 => chkD
 71 [z150] /\ ∀ r151 : List Int,inB (repB 0 255 64) r151 -> S 453 [[z150]] [r151] -> K [[z0],[z1],[z2]] [[(cond (decide (r86 = r151)) 1 0)]]))))) (K
 [[z0],[z1],[z2]] [[(cond (false) 1 0)]]))))))))))
theorem bys_take {z a : Int} {k : Nat} (h : rOf z = (rOf a).take k) : bys z = (bys a).take k := by unfold bys; rw [h, List.map_take]
theorem bys_mid {z a : Int} {j k : Nat} (h : rOf z = ((rOf a).drop j).take k) : bys z = ((bys a).drop j).take k := by unfold bys; rw [h, List.map_take, List.map_drop]
theorem bys_zero : bys 0 = [] := by unfold bys; rw [rOf_zero]; rfl
/-- A part of a slice, told by where it lies. -/
theorem part_ok {c a b cp n r : Int} (hn : n = ((rOf c).length : Int)) (h0 : 0 ≤ a) (hab : a ≤ b) (hb : b ≤ n) (hcp : n ≤ cp ∨ n = 0) (hr : r = fnD 33 [0, a, cp]) : chkD 22 [c, r, b - a + r] ∧ ∀ z, z = fnD 22 [c, r, b - a + r] → rOf z = ((rOf c).drop a.toNat).take (b - a).toNat := by
  have hr : r = if a = cp then 0 else 0 + a := hr
  by_cases he : a = cp
  · rw [if_pos he] at hr
    subst hr
    have hba : b - a = 0 := by omega
    refine ⟨⟨Int.le_refl _, by omega, by omega⟩, fun z hz => ?_⟩
    rw [hz]
    show rOf (rc (((rOf c).drop (0 : Int).toNat).take ((b - a + 0).toNat - (0 : Int).toNat))) = _
    rw [rOf_rc, hba]; rfl
  · rw [if_neg he, Int.zero_add] at hr
    subst hr
    refine ⟨⟨h0, by omega, by omega⟩, fun z hz => ?_⟩
    rw [hz]
    show rOf (rc (((rOf c).drop r.toNat).take ((b - r + r).toNat - r.toNat))) = _
    rw [rOf_rc]
    congr 1; omega
theorem head_ok {c a n : Int} (hn : n = ((rOf c).length : Int)) (h0 : 0 ≤ a) (ha : a ≤ n) : chkD 22 [c, 0, a] ∧ ∀ z, z = fnD 22 [c, 0, a] → rOf z = (rOf c).take a.toNat := by
  refine ⟨⟨Int.le_refl _, h0, by omega⟩, fun z hz => ?_⟩
  rw [hz]
  show rOf (rc (((rOf c).drop (0 : Int).toNat).take (a.toNat - (0 : Int).toNat))) = _
  rw [rOf_rc]; simp
theorem cut3 (l : List Int) {a b : Nat} (hb : a + b ≤ l.length) {k : Nat} (hk : k = l.length - a - b) : l.take a ++ ((l.drop a).take b ++ ((l.drop (a + b)).take k)) = l := by
  rw [List.take_of_length_le (l := l.drop (a + b)) (by rw [List.length_drop]; omega)]
  rw [← List.drop_drop, List.take_append_drop, List.take_append_drop]
/-- One part more is written behind what stands there. -/
theorem put_step {c x s t n a b m r0 r : Int} {A B : List (List Int)} (hc : rOf c = A ++ B) (hA : (A.length : Int) = s) (hB : (B.length : Int) = t - s) (h0 : r0 = 0) (hr : r = fnD 33 [r0, a, b]) (ha : a = s) (hb : b = t) (hn : n = ((rOf x).length : Int)) (hle : n ≤ t - s) (hm : m = t - s) :
    chkD 80 [c, r, m] ∧ chkD 22 [x, 0, n] ∧ ∀ q, q = fnD 62 [n, m] → q = n ∧ ∀ src, src = fnD 22 [x, 0, q] → ∀ c', c' = fnD 63 [c, r, src] → ∃ B', rOf c' = (A ++ rOf x) ++ B' ∧ (B'.length : Int) = t - s - n := by
  subst h0; subst ha; subst hb; subst hm
  have hr : r = if a = b then 0 else 0 + a := hr
  have hlc : ((rOf c).length : Int) = b := by rw [hc, List.length_append]; omega
  have hr' : 0 ≤ r ∧ r ≤ a ∧ (a ≠ b → r = a) := by
    by_cases h : a = b
    · rw [if_pos h] at hr; exact ⟨by omega, by omega, fun h2 => absurd h h2⟩
    · rw [if_neg h] at hr; exact ⟨by omega, by omega, fun _ => by omega⟩
  refine ⟨⟨hr'.1, by omega, by rw [hlc]; omega⟩, ⟨Int.le_refl _, by omega, by rw [hn]; exact Int.le_refl _⟩, fun q hq => ?_⟩
  have hq : q = min n (b - a) := hq
  have hqn : q = n := by omega
  refine ⟨hqn, fun src hs c' hc' => ?_⟩
  have hs : rOf src = rOf x := sub_all hs (by rw [hqn, hn])
  have hc' : c' = rc ((rOf c).take r.toNat ++ rOf src ++ (rOf c).drop (r.toNat + (rOf src).length)) := hc'
  by_cases h : a = b
  · have hx0 : rOf x = [] := List.eq_nil_of_length_eq_zero (by omega)
    refine ⟨B, ?_, by omega⟩
    rw [hc', rOf_rc, hs, hx0, hc]
    simp
  · have hra := hr'.2.2 h
    refine ⟨B.drop (rOf x).length, ?_, by rw [List.length_drop]; omega⟩
    have e : r.toNat = A.length := by omega
    rw [hc', rOf_rc, hs, hc, e, List.take_left, ← List.drop_drop, List.drop_left]
theorem p_sj32d : B_sj32d SB (KBb SB [lu8] 468) := by
  intro z0 _ _ z1 _ _ z2 _ _ z3 _ _ hp
  have hp : ∀ z ∈ ([z0, z1, z2, z3] : List Int), (rOf z).length ≤ 100000000 := hp
  have pz0 := hp z0 (by simp)
  have pz1 := hp z1 (by simp)
  have pz2 := hp z2 (by simp)
  have pz3 := hp z3 (by simp)
  intro z4 _ z5 _ _ z6 l6 _ h6 z7 _ z8 _ _ z9 l9 _ h9 z10 _ z11 _ _ z12 l12 _ h12 z13 _ z14 _ _ z15 l15 _ h15
  have h6 : z6 = ((rOf z0).length : Int) := h6
  have h9 : z9 = ((rOf z1).length : Int) := h9
  have h12 : z12 = ((rOf z2).length : Int) := h12
  have h15 : z15 = ((rOf z3).length : Int) := h15
  refine ⟨fun h => ?_, fun _ => ?_⟩
  · have h := of_decide_eq_true h
    omega
  intro w _ _ w2 w3
  have ew : w = 0 := by omega
  subst ew
  clear w2 w3
  intro w _ _ w2 w3
  have ew : w = 0 := by omega
  subst ew
  clear w2 w3
  refine ⟨fun h => ?_, fun _ => ?_⟩
  · have h := of_decide_eq_true h
    omega
  intro w _ _ w2 w3
  have ew : w = 0 := by omega
  subst ew
  clear w2 w3
  intro w _ _ w2 w3
  have ew : w = 0 := by omega
  subst ew
  clear w2 w3
  refine ⟨fun h => ?_, fun _ => ?_⟩
  · have h := of_decide_eq_true h
    omega
  intro w _ _ w2 w3
  have ew : w = 0 := by omega
  subst ew
  clear w2 w3
  obtain ⟨t, ht⟩ : ∃ t : Int, z6 + z9 + z12 + z15 = t := ⟨_, rfl⟩
  refine ⟨⟨by omega, by omega⟩, ?_⟩
  intro c0 _ _ hc0
  have hc0 : _ = ((rOf c0).length : Int) := hc0
  intro cp cpa _ hcp
  have hcp : _ ≤ cp := hcp
  refine ⟨⟨by decide, by omega, by omega, by omega⟩, ?_⟩
  intro r0 _ _ hr0
  have hr0 : r0 = if (0 : Int) = _ then 0 else 0 + 0 := hr0
  have hr0 : r0 = 0 := by rw [hr0]; split <;> rfl
  have i0 : rOf c0 = ([] : List (List Int)) ++ rOf c0 := rfl
  obtain ⟨s1, s2, s3⟩ := put_step (c := c0) (x := z0) (s := 0) (t := t) (n := z6) (a := 0) (b := t) (m := t) (r0 := 0) (r := 0) i0 rfl (by omega) rfl (by show (0 : Int) = if (0 : Int) = t then 0 else 0 + 0; split <;> rfl) rfl rfl h6 (by omega) (by omega)
  have et : ∀ x : Int, x = t → x = t := fun _ h => h
  refine ⟨?_, s2, ?_⟩
  · rw [hr0]
    have e := s1
    have hm : ∀ m : Int, m = t → chkD 80 [c0, 0, m] := fun m h => by rw [h]; exact s1
    exact hm _ (by omega)
  intro q0 _ _ hq0
  have hm : ∀ m : Int, m = t → q0 = fnD 62 [z6, m] → q0 = fnD 62 [z6, t] := fun m h h2 => by rw [h2, h]
  obtain ⟨e0, s3⟩ := s3 q0 (hm _ (by omega) hq0)
  clear hm hq0 s1 s2
  intro src0 _ _ hs0 c1 _ _ hc1
  rw [hr0] at hc1
  obtain ⟨Q1, i1, j1⟩ := s3 src0 hs0 c1 hc1
  clear s3
  refine ⟨⟨by omega, by omega, by omega⟩, fun _ => ?_⟩
  intro rs _ _ _
  refine ⟨⟨by omega, by omega, by omega⟩, fun _ => ?_⟩
  intro r1 _ _ hr1
  obtain ⟨s1, s2, s3⟩ := put_step (x := z1) (t := t) (n := z9) (s := z6) i1 (by simp only [List.length_append, List.length_nil]; omega) (by omega) hr0 hr1 (by omega) (by omega) h9 (by omega) rfl
  refine ⟨?_, s2, ?_⟩
  · have hm : ∀ m : Int, m = t - (z6) → chkD 80 [c1, r1, m] := fun m h => by rw [h]; exact s1
    exact hm _ (by omega)
  intro q1 _ _ hq1
  have hm : ∀ m : Int, m = t - (z6) → q1 = fnD 62 [z9, m] → q1 = fnD 62 [z9, t - (z6)] := fun m h h2 => by rw [h2, h]
  obtain ⟨e1, s3⟩ := s3 q1 (hm _ (by omega) hq1)
  clear hm hq1 s1 s2
  intro src1 _ _ hs1 c2 _ _ hc2
  obtain ⟨Q2, i2, j2⟩ := s3 src1 hs1 c2 hc2
  clear s3
  intro w _ _ w2 w3
  have ew : w = 0 := by omega
  subst ew
  clear w2 w3
  refine ⟨⟨by omega, by omega, by omega⟩, fun _ => ?_⟩
  intro rs _ _ _
  refine ⟨⟨by omega, by omega, by omega⟩, fun _ => ?_⟩
  intro r2 _ _ hr2
  obtain ⟨s1, s2, s3⟩ := put_step (x := z2) (t := t) (n := z12) (s := z6 + z9) i2 (by simp only [List.length_append, List.length_nil]; omega) (by omega) hr0 hr2 (by omega) (by omega) h12 (by omega) rfl
  refine ⟨?_, s2, ?_⟩
  · have hm : ∀ m : Int, m = t - (z6 + z9) → chkD 80 [c2, r2, m] := fun m h => by rw [h]; exact s1
    exact hm _ (by omega)
  intro q2 _ _ hq2
  have hm : ∀ m : Int, m = t - (z6 + z9) → q2 = fnD 62 [z12, m] → q2 = fnD 62 [z12, t - (z6 + z9)] := fun m h h2 => by rw [h2, h]
  obtain ⟨e2, s3⟩ := s3 q2 (hm _ (by omega) hq2)
  clear hm hq2 s1 s2
  intro src2 _ _ hs2 c3 _ _ hc3
  obtain ⟨Q3, i3, j3⟩ := s3 src2 hs2 c3 hc3
  clear s3
  intro w _ _ w2 w3
  have ew : w = 0 := by omega
  subst ew
  clear w2 w3
  refine ⟨⟨by omega, by omega, by omega⟩, fun _ => ?_⟩
  intro rs _ _ _
  refine ⟨⟨by omega, by omega, by omega⟩, fun _ => ?_⟩
  intro r3 _ _ hr3
  obtain ⟨s1, s2, s3⟩ := put_step (x := z3) (t := t) (n := z15) (s := z6 + z9 + z12) i3 (by simp only [List.length_append, List.length_nil]; omega) (by omega) hr0 hr3 (by omega) (by omega) h15 (by omega) rfl
  refine ⟨?_, s2, ?_⟩
  · have hm : ∀ m : Int, m = t - (z6 + z9 + z12) → chkD 80 [c3, r3, m] := fun m h => by rw [h]; exact s1
    exact hm _ (by omega)
  intro q3 _ _ hq3
  have hm : ∀ m : Int, m = t - (z6 + z9 + z12) → q3 = fnD 62 [z15, m] → q3 = fnD 62 [z15, t - (z6 + z9 + z12)] := fun m h h2 => by rw [h2, h]
  obtain ⟨e3, s3⟩ := s3 q3 (hm _ (by omega) hq3)
  clear hm hq3 s1 s2
  intro src3 _ _ hs3 c4 _ _ hc4
  obtain ⟨Q4, i4, j4⟩ := s3 src3 hs3 c4 hc4
  clear s3
  intro w _ _ w2 w3
  have ew : w = 0 := by omega
  subst ew
  clear w2 w3
  have hQ : Q4 = [] := List.eq_nil_of_length_eq_zero (by omega)
  have hl : ((rOf c4).length : Int) = t := by rw [i4, hQ]; simp only [List.length_append, List.length_nil]; omega
  subst hr0
  refine ⟨⟨Int.le_refl _, by omega, by omega⟩, fun _ => by omega, ?_⟩
  intro z _ zb hz
  have hz := sub_all hz (by omega)
  refine ⟨⟨by assumption, zb, trivial⟩, ?_⟩
  show rOf z = rOf z0 ++ (rOf z1 ++ (rOf z2 ++ (rOf z3)))
  rw [hz, i4, hQ]
  simp only [List.nil_append, List.append_nil, List.append_assoc]
theorem p_sj64c : B_sj64c SB (KBb SB [lu8] 469) := by
  intro z0 _ _ z1 _ _ z2 _ _ hp
  have hp : ∀ z ∈ ([z0, z1, z2] : List Int), (rOf z).length ≤ 100000000 := hp
  have pz0 := hp z0 (by simp)
  have pz1 := hp z1 (by simp)
  have pz2 := hp z2 (by simp)
  intro z3 _ z4 _ _ z5 l5 _ h5 z6 _ z7 _ _ z8 l8 _ h8 z9 _ z10 _ _ z11 l11 _ h11
  have h5 : z5 = ((rOf z0).length : Int) := h5
  have h8 : z8 = ((rOf z1).length : Int) := h8
  have h11 : z11 = ((rOf z2).length : Int) := h11
  refine ⟨fun h => ?_, fun _ => ?_⟩
  · have h := of_decide_eq_true h
    omega
  intro w _ _ w2 w3
  have ew : w = 0 := by omega
  subst ew
  clear w2 w3
  intro w _ _ w2 w3
  have ew : w = 0 := by omega
  subst ew
  clear w2 w3
  refine ⟨fun h => ?_, fun _ => ?_⟩
  · have h := of_decide_eq_true h
    omega
  intro w _ _ w2 w3
  have ew : w = 0 := by omega
  subst ew
  clear w2 w3
  obtain ⟨t, ht⟩ : ∃ t : Int, z5 + z8 + z11 = t := ⟨_, rfl⟩
  refine ⟨⟨by omega, by omega⟩, ?_⟩
  intro c0 _ _ hc0
  have hc0 : _ = ((rOf c0).length : Int) := hc0
  intro cp cpa _ hcp
  have hcp : _ ≤ cp := hcp
  refine ⟨⟨by decide, by omega, by omega, by omega⟩, ?_⟩
  intro r0 _ _ hr0
  have hr0 : r0 = if (0 : Int) = _ then 0 else 0 + 0 := hr0
  have hr0 : r0 = 0 := by rw [hr0]; split <;> rfl
  have i0 : rOf c0 = ([] : List (List Int)) ++ rOf c0 := rfl
  obtain ⟨s1, s2, s3⟩ := put_step (c := c0) (x := z0) (s := 0) (t := t) (n := z5) (a := 0) (b := t) (m := t) (r0 := 0) (r := 0) i0 rfl (by omega) rfl (by show (0 : Int) = if (0 : Int) = t then 0 else 0 + 0; split <;> rfl) rfl rfl h5 (by omega) (by omega)
  have et : ∀ x : Int, x = t → x = t := fun _ h => h
  refine ⟨?_, s2, ?_⟩
  · rw [hr0]
    have e := s1
    have hm : ∀ m : Int, m = t → chkD 80 [c0, 0, m] := fun m h => by rw [h]; exact s1
    exact hm _ (by omega)
  intro q0 _ _ hq0
  have hm : ∀ m : Int, m = t → q0 = fnD 62 [z5, m] → q0 = fnD 62 [z5, t] := fun m h h2 => by rw [h2, h]
  obtain ⟨e0, s3⟩ := s3 q0 (hm _ (by omega) hq0)
  clear hm hq0 s1 s2
  intro src0 _ _ hs0 c1 _ _ hc1
  rw [hr0] at hc1
  obtain ⟨Q1, i1, j1⟩ := s3 src0 hs0 c1 hc1
  clear s3
  refine ⟨⟨by omega, by omega, by omega⟩, fun _ => ?_⟩
  intro rs _ _ _
  refine ⟨⟨by omega, by omega, by omega⟩, fun _ => ?_⟩
  intro r1 _ _ hr1
  obtain ⟨s1, s2, s3⟩ := put_step (x := z1) (t := t) (n := z8) (s := z5) i1 (by simp only [List.length_append, List.length_nil]; omega) (by omega) hr0 hr1 (by omega) (by omega) h8 (by omega) rfl
  refine ⟨?_, s2, ?_⟩
  · have hm : ∀ m : Int, m = t - (z5) → chkD 80 [c1, r1, m] := fun m h => by rw [h]; exact s1
    exact hm _ (by omega)
  intro q1 _ _ hq1
  have hm : ∀ m : Int, m = t - (z5) → q1 = fnD 62 [z8, m] → q1 = fnD 62 [z8, t - (z5)] := fun m h h2 => by rw [h2, h]
  obtain ⟨e1, s3⟩ := s3 q1 (hm _ (by omega) hq1)
  clear hm hq1 s1 s2
  intro src1 _ _ hs1 c2 _ _ hc2
  obtain ⟨Q2, i2, j2⟩ := s3 src1 hs1 c2 hc2
  clear s3
  intro w _ _ w2 w3
  have ew : w = 0 := by omega
  subst ew
  clear w2 w3
  refine ⟨⟨by omega, by omega, by omega⟩, fun _ => ?_⟩
  intro rs _ _ _
  refine ⟨⟨by omega, by omega, by omega⟩, fun _ => ?_⟩
  intro r2 _ _ hr2
  obtain ⟨s1, s2, s3⟩ := put_step (x := z2) (t := t) (n := z11) (s := z5 + z8) i2 (by simp only [List.length_append, List.length_nil]; omega) (by omega) hr0 hr2 (by omega) (by omega) h11 (by omega) rfl
  refine ⟨?_, s2, ?_⟩
  · have hm : ∀ m : Int, m = t - (z5 + z8) → chkD 80 [c2, r2, m] := fun m h => by rw [h]; exact s1
    exact hm _ (by omega)
  intro q2 _ _ hq2
  have hm : ∀ m : Int, m = t - (z5 + z8) → q2 = fnD 62 [z11, m] → q2 = fnD 62 [z11, t - (z5 + z8)] := fun m h h2 => by rw [h2, h]
  obtain ⟨e2, s3⟩ := s3 q2 (hm _ (by omega) hq2)
  clear hm hq2 s1 s2
  intro src2 _ _ hs2 c3 _ _ hc3
  obtain ⟨Q3, i3, j3⟩ := s3 src2 hs2 c3 hc3
  clear s3
  intro w _ _ w2 w3
  have ew : w = 0 := by omega
  subst ew
  clear w2 w3
  have hQ : Q3 = [] := List.eq_nil_of_length_eq_zero (by omega)
  have hl : ((rOf c3).length : Int) = t := by rw [i3, hQ]; simp only [List.length_append, List.length_nil]; omega
  subst hr0
  refine ⟨⟨Int.le_refl _, by omega, by omega⟩, fun _ => by omega, ?_⟩
  intro z _ zb hz
  have hz := sub_all hz (by omega)
  refine ⟨⟨by assumption, zb, trivial⟩, ?_⟩
  show rOf z = rOf z0 ++ (rOf z1 ++ (rOf z2))
  rw [hz, i3, hQ]
  simp only [List.nil_append, List.append_nil, List.append_assoc]
theorem p_sum32d : B_sum32d SB (KBb SB [.d a32] 470) := by
  intro z0 _ _ z1 _ _ z2 _ _ z3 _ _ hp
  have hp : ∀ z ∈ ([z0, z1, z2, z3] : List Int), (rOf z).length ≤ 100000000 := hp
  intro z4 _ z5 _ _ z6 l6 _ h6 z7 _ z8 _ _ z9 l9 _ h9 z10 _ z11 _ _ z12 l12 _ h12 z13 _ z14 _ _ z15 l15 _ h15
  have h6 : z6 = ((rOf z0).length : Int) := h6
  have h9 : z9 = ((rOf z1).length : Int) := h9
  have h12 : z12 = ((rOf z2).length : Int) := h12
  have h15 : z15 = ((rOf z3).length : Int) := h15
  refine ⟨⟨Int.le_refl _, l6, by rw [h6]; exact Int.le_refl _⟩, ?_⟩
  intro z16 _ _ h16
  have h16 := sub_all h16 h6
  refine ⟨⟨Int.le_refl _, l9, by rw [h9]; exact Int.le_refl _⟩, ?_⟩
  intro z17 _ _ h17
  have h17 := sub_all h17 h9
  refine ⟨⟨Int.le_refl _, l12, by rw [h12]; exact Int.le_refl _⟩, ?_⟩
  intro z18 _ _ h18
  have h18 := sub_all h18 h12
  refine ⟨⟨Int.le_refl _, l15, by rw [h15]; exact Int.le_refl _⟩, ?_⟩
  intro z19 _ _ h19
  have h19 := sub_all h19 h15
  refine ⟨fun z hz => ?_, ?_⟩
  · simp only [List.mem_cons, List.not_mem_nil, or_false] at hz
    rcases hz with rfl | rfl | rfl | rfl
    · rw [h16]; exact hp z0 (by simp)
    · rw [h17]; exact hp z1 (by simp)
    · rw [h18]; exact hp z2 (by simp)
    · rw [h19]; exact hp z3 (by simp)
  intro z20 _ _ hj
  have hj : rOf z20 = rOf z16 ++ (rOf z17 ++ (rOf z18 ++ (rOf z19))) := hj
  rw [h16, h17, h18, h19] at hj
  have hlj : (rOf z20).length ≤ 1000000000 := by
    rw [hj]
    simp only [List.length_append]
    have := hp z0 (by simp)
    have := hp z1 (by simp)
    have := hp z2 (by simp)
    have := hp z3 (by simp)
    omega
  have hbj : bys z20 = bys z0 ++ (bys z1 ++ (bys z2 ++ (bys z3))) := by
    unfold bys; rw [hj]; simp only [List.map_append]
  intro zA _ zB _ _ zC lC _ hC
  have hC : zC = ((rOf z20).length : Int) := hC
  refine ⟨⟨Int.le_refl _, lC, by rw [hC]; exact Int.le_refl _⟩, fun z9 k0 k1 h9 => ?_⟩
  have e9 := sub_all h9 hC
  refine ⟨by show (rOf z9).length ≤ 1000000000; rw [e9]; exact hlj, fun z10 l0 l1 h10 z11 m0 m1 z12 n0 n1 h12 => ?_⟩
  have h10 : bys z10 = padW W32 (bys z9) := h10
  have h12 : z12 = ((rOf z10).length : Int) := h12
  rw [bys_of e9] at h10
  obtain ⟨q1, q2, q3⟩ := padW_len32 (bys z20)
  have hl0 : (bys z20).length = (rOf z20).length := bys_len z20
  refine ⟨⟨Int.le_refl _, by omega, by rw [h12]; exact Int.le_refl _⟩, fun z13 o0 o1 h13 => ?_⟩
  have h13 := sub_all h13 h12
  have hl13 : (rOf z13).length = padN 32 (bys z20).length := by rw [h13, ← bys_len, h10, q1]
  refine ⟨by show 64 ∣ (rOf z13).length ∧ (rOf z13).length ≤ 1000001000; rw [hl13]; exact ⟨q2, by omega⟩, fun z14 p0 p1 h14 z15 r0 r1 z16 s0 s1 h16 => ?_⟩
  have h14 : bys z14 = allW W32 (bys z13) := h14
  rw [bys_of h13, h10] at h14
  have h16 : z16 = ((rOf z14).length : Int) := h16
  have hl14 : (bys z14).length = 32 := by rw [h14, allW_len]; rfl
  have hr14 : (rOf z14).length = 32 := by rw [← bys_len, hl14]
  have c21 : ∀ i : Int, 0 ≤ i → i < 32 → chkD 21 [z14, i] := fun i h1 h2 => ⟨h1, by rw [hr14]; exact h2⟩
  refine ⟨⟨by decide, by omega⟩, c21 0 (by decide) (by decide), ?_⟩
  refine ⟨c21 0 (by decide) (by decide), ?_⟩
  intro y0 u0 v0 t0
  refine ⟨c21 1 (by decide) (by decide), ?_⟩
  intro y1 u1 v1 t1
  refine ⟨c21 2 (by decide) (by decide), ?_⟩
  intro y2 u2 v2 t2
  refine ⟨c21 3 (by decide) (by decide), ?_⟩
  intro y3 u3 v3 t3
  refine ⟨c21 4 (by decide) (by decide), ?_⟩
  intro y4 u4 v4 t4
  refine ⟨c21 5 (by decide) (by decide), ?_⟩
  intro y5 u5 v5 t5
  refine ⟨c21 6 (by decide) (by decide), ?_⟩
  intro y6 u6 v6 t6
  refine ⟨c21 7 (by decide) (by decide), ?_⟩
  intro y7 u7 v7 t7
  refine ⟨c21 8 (by decide) (by decide), ?_⟩
  intro y8 u8 v8 t8
  refine ⟨c21 9 (by decide) (by decide), ?_⟩
  intro y9 u9 v9 t9
  refine ⟨c21 10 (by decide) (by decide), ?_⟩
  intro y10 u10 v10 t10
  refine ⟨c21 11 (by decide) (by decide), ?_⟩
  intro y11 u11 v11 t11
  refine ⟨c21 12 (by decide) (by decide), ?_⟩
  intro y12 u12 v12 t12
  refine ⟨c21 13 (by decide) (by decide), ?_⟩
  intro y13 u13 v13 t13
  refine ⟨c21 14 (by decide) (by decide), ?_⟩
  intro y14 u14 v14 t14
  refine ⟨c21 15 (by decide) (by decide), ?_⟩
  intro y15 u15 v15 t15
  refine ⟨c21 16 (by decide) (by decide), ?_⟩
  intro y16 u16 v16 t16
  refine ⟨c21 17 (by decide) (by decide), ?_⟩
  intro y17 u17 v17 t17
  refine ⟨c21 18 (by decide) (by decide), ?_⟩
  intro y18 u18 v18 t18
  refine ⟨c21 19 (by decide) (by decide), ?_⟩
  intro y19 u19 v19 t19
  refine ⟨c21 20 (by decide) (by decide), ?_⟩
  intro y20 u20 v20 t20
  refine ⟨c21 21 (by decide) (by decide), ?_⟩
  intro y21 u21 v21 t21
  refine ⟨c21 22 (by decide) (by decide), ?_⟩
  intro y22 u22 v22 t22
  refine ⟨c21 23 (by decide) (by decide), ?_⟩
  intro y23 u23 v23 t23
  refine ⟨c21 24 (by decide) (by decide), ?_⟩
  intro y24 u24 v24 t24
  refine ⟨c21 25 (by decide) (by decide), ?_⟩
  intro y25 u25 v25 t25
  refine ⟨c21 26 (by decide) (by decide), ?_⟩
  intro y26 u26 v26 t26
  refine ⟨c21 27 (by decide) (by decide), ?_⟩
  intro y27 u27 v27 t27
  refine ⟨c21 28 (by decide) (by decide), ?_⟩
  intro y28 u28 v28 t28
  refine ⟨c21 29 (by decide) (by decide), ?_⟩
  intro y29 u29 v29 t29
  refine ⟨c21 30 (by decide) (by decide), ?_⟩
  intro y30 u30 v30 t30
  refine ⟨c21 31 (by decide) (by decide), ?_⟩
  intro y31 u31 v31 t31
  have hL : [y0, y1, y2, y3, y4, y5, y6, y7, y8, y9, y10, y11, y12, y13, y14, y15, y16, y17, y18, y19, y20, y21, y22, y23, y24, y25, y26, y27, y28, y29, y30, y31] = bys z14 := by
    rw [fn21 t0, fn21 t1, fn21 t2, fn21 t3, fn21 t4, fn21 t5, fn21 t6, fn21 t7, fn21 t8, fn21 t9, fn21 t10, fn21 t11, fn21 t12, fn21 t13, fn21 t14, fn21 t15, fn21 t16, fn21 t17, fn21 t18, fn21 t19, fn21 t20, fn21 t21, fn21 t22, fn21 t23, fn21 t24, fn21 t25, fn21 t26, fn21 t27, fn21 t28, fn21 t29, fn21 t30, fn21 t31]
    exact (getD_range (bys z14) 32 hl14).symm
  refine ⟨?_, ?_⟩
  · show inB (repB 0 255 32 ++ []) _
    rw [List.append_nil]
    exact inB_bytes 32 _ rfl fun x hx => by
      simp only [List.flatten_cons, List.flatten_nil, List.append_nil, List.mem_cons, List.not_mem_nil, or_false] at hx
      rcases hx with rfl | rfl | rfl | rfl | rfl | rfl | rfl | rfl | rfl | rfl | rfl | rfl | rfl | rfl | rfl | rfl | rfl | rfl | rfl | rfl | rfl | rfl | rfl | rfl | rfl | rfl | rfl | rfl | rfl | rfl | rfl | rfl
      · exact ⟨u0, v0⟩
      · exact ⟨u1, v1⟩
      · exact ⟨u2, v2⟩
      · exact ⟨u3, v3⟩
      · exact ⟨u4, v4⟩
      · exact ⟨u5, v5⟩
      · exact ⟨u6, v6⟩
      · exact ⟨u7, v7⟩
      · exact ⟨u8, v8⟩
      · exact ⟨u9, v9⟩
      · exact ⟨u10, v10⟩
      · exact ⟨u11, v11⟩
      · exact ⟨u12, v12⟩
      · exact ⟨u13, v13⟩
      · exact ⟨u14, v14⟩
      · exact ⟨u15, v15⟩
      · exact ⟨u16, v16⟩
      · exact ⟨u17, v17⟩
      · exact ⟨u18, v18⟩
      · exact ⟨u19, v19⟩
      · exact ⟨u20, v20⟩
      · exact ⟨u21, v21⟩
      · exact ⟨u22, v22⟩
      · exact ⟨u23, v23⟩
      · exact ⟨u24, v24⟩
      · exact ⟨u25, v25⟩
      · exact ⟨u26, v26⟩
      · exact ⟨u27, v27⟩
      · exact ⟨u28, v28⟩
      · exact ⟨u29, v29⟩
      · exact ⟨u30, v30⟩
      · exact ⟨u31, v31⟩
  · show [[y0, y1, y2, y3, y4, y5, y6, y7, y8, y9, y10, y11, y12, y13, y14, y15, y16, y17, y18, y19, y20, y21, y22, y23, y24, y25, y26, y27, y28, y29, y30, y31]] = [shaW W32 (bys z0 ++ (bys z1 ++ (bys z2 ++ (bys z3))))]
    rw [hL, h14, hbj]; rfl
theorem p_sum64c : B_sum64c SB (KBb SB [.d a64] 471) := by
  intro z0 _ _ z1 _ _ z2 _ _ hp
  have hp : ∀ z ∈ ([z0, z1, z2] : List Int), (rOf z).length ≤ 100000000 := hp
  intro z3 _ z4 _ _ z5 l5 _ h5 z6 _ z7 _ _ z8 l8 _ h8 z9 _ z10 _ _ z11 l11 _ h11
  have h5 : z5 = ((rOf z0).length : Int) := h5
  have h8 : z8 = ((rOf z1).length : Int) := h8
  have h11 : z11 = ((rOf z2).length : Int) := h11
  refine ⟨⟨Int.le_refl _, l5, by rw [h5]; exact Int.le_refl _⟩, ?_⟩
  intro z12 _ _ h12
  have h12 := sub_all h12 h5
  refine ⟨⟨Int.le_refl _, l8, by rw [h8]; exact Int.le_refl _⟩, ?_⟩
  intro z13 _ _ h13
  have h13 := sub_all h13 h8
  refine ⟨⟨Int.le_refl _, l11, by rw [h11]; exact Int.le_refl _⟩, ?_⟩
  intro z14 _ _ h14
  have h14 := sub_all h14 h11
  refine ⟨fun z hz => ?_, ?_⟩
  · simp only [List.mem_cons, List.not_mem_nil, or_false] at hz
    rcases hz with rfl | rfl | rfl
    · rw [h12]; exact hp z0 (by simp)
    · rw [h13]; exact hp z1 (by simp)
    · rw [h14]; exact hp z2 (by simp)
  intro z15 _ _ hj
  have hj : rOf z15 = rOf z12 ++ (rOf z13 ++ (rOf z14)) := hj
  rw [h12, h13, h14] at hj
  have hlj : (rOf z15).length ≤ 1000000000 := by
    rw [hj]
    simp only [List.length_append]
    have := hp z0 (by simp)
    have := hp z1 (by simp)
    have := hp z2 (by simp)
    omega
  have hbj : bys z15 = bys z0 ++ (bys z1 ++ (bys z2)) := by
    unfold bys; rw [hj]; simp only [List.map_append]
  intro zA _ zB _ _ zC lC _ hC
  have hC : zC = ((rOf z15).length : Int) := hC
  refine ⟨⟨Int.le_refl _, lC, by rw [hC]; exact Int.le_refl _⟩, fun z9 k0 k1 h9 => ?_⟩
  have e9 := sub_all h9 hC
  refine ⟨by show (rOf z9).length ≤ 1000000000; rw [e9]; exact hlj, fun z10 l0 l1 h10 z11 m0 m1 z12 n0 n1 h12 => ?_⟩
  have h10 : bys z10 = padW W64 (bys z9) := h10
  have h12 : z12 = ((rOf z10).length : Int) := h12
  rw [bys_of e9] at h10
  obtain ⟨q1, q2, q3⟩ := padW_len64 (bys z15)
  have hl0 : (bys z15).length = (rOf z15).length := bys_len z15
  refine ⟨⟨Int.le_refl _, by omega, by rw [h12]; exact Int.le_refl _⟩, fun z13 o0 o1 h13 => ?_⟩
  have h13 := sub_all h13 h12
  have hl13 : (rOf z13).length = padN 64 (bys z15).length := by rw [h13, ← bys_len, h10, q1]
  refine ⟨by show 128 ∣ (rOf z13).length ∧ (rOf z13).length ≤ 1000001000; rw [hl13]; exact ⟨q2, by omega⟩, fun z14 p0 p1 h14 z15 r0 r1 z16 s0 s1 h16 => ?_⟩
  have h14 : bys z14 = allW W64 (bys z13) := h14
  rw [bys_of h13, h10] at h14
  have h16 : z16 = ((rOf z14).length : Int) := h16
  have hl14 : (bys z14).length = 64 := by rw [h14, allW_len]; rfl
  have hr14 : (rOf z14).length = 64 := by rw [← bys_len, hl14]
  have c21 : ∀ i : Int, 0 ≤ i → i < 64 → chkD 21 [z14, i] := fun i h1 h2 => ⟨h1, by rw [hr14]; exact h2⟩
  refine ⟨⟨by decide, by omega⟩, c21 0 (by decide) (by decide), ?_⟩
  refine ⟨c21 0 (by decide) (by decide), ?_⟩
  intro y0 u0 v0 t0
  refine ⟨c21 1 (by decide) (by decide), ?_⟩
  intro y1 u1 v1 t1
  refine ⟨c21 2 (by decide) (by decide), ?_⟩
  intro y2 u2 v2 t2
  refine ⟨c21 3 (by decide) (by decide), ?_⟩
  intro y3 u3 v3 t3
  refine ⟨c21 4 (by decide) (by decide), ?_⟩
  intro y4 u4 v4 t4
  refine ⟨c21 5 (by decide) (by decide), ?_⟩
  intro y5 u5 v5 t5
  refine ⟨c21 6 (by decide) (by decide), ?_⟩
  intro y6 u6 v6 t6
  refine ⟨c21 7 (by decide) (by decide), ?_⟩
  intro y7 u7 v7 t7
  refine ⟨c21 8 (by decide) (by decide), ?_⟩
  intro y8 u8 v8 t8
  refine ⟨c21 9 (by decide) (by decide), ?_⟩
  intro y9 u9 v9 t9
  refine ⟨c21 10 (by decide) (by decide), ?_⟩
  intro y10 u10 v10 t10
  refine ⟨c21 11 (by decide) (by decide), ?_⟩
  intro y11 u11 v11 t11
  refine ⟨c21 12 (by decide) (by decide), ?_⟩
  intro y12 u12 v12 t12
  refine ⟨c21 13 (by decide) (by decide), ?_⟩
  intro y13 u13 v13 t13
  refine ⟨c21 14 (by decide) (by decide), ?_⟩
  intro y14 u14 v14 t14
  refine ⟨c21 15 (by decide) (by decide), ?_⟩
  intro y15 u15 v15 t15
  refine ⟨c21 16 (by decide) (by decide), ?_⟩
  intro y16 u16 v16 t16
  refine ⟨c21 17 (by decide) (by decide), ?_⟩
  intro y17 u17 v17 t17
  refine ⟨c21 18 (by decide) (by decide), ?_⟩
  intro y18 u18 v18 t18
  refine ⟨c21 19 (by decide) (by decide), ?_⟩
  intro y19 u19 v19 t19
  refine ⟨c21 20 (by decide) (by decide), ?_⟩
  intro y20 u20 v20 t20
  refine ⟨c21 21 (by decide) (by decide), ?_⟩
  intro y21 u21 v21 t21
  refine ⟨c21 22 (by decide) (by decide), ?_⟩
  intro y22 u22 v22 t22
  refine ⟨c21 23 (by decide) (by decide), ?_⟩
  intro y23 u23 v23 t23
  refine ⟨c21 24 (by decide) (by decide), ?_⟩
  intro y24 u24 v24 t24
  refine ⟨c21 25 (by decide) (by decide), ?_⟩
  intro y25 u25 v25 t25
  refine ⟨c21 26 (by decide) (by decide), ?_⟩
  intro y26 u26 v26 t26
  refine ⟨c21 27 (by decide) (by decide), ?_⟩
  intro y27 u27 v27 t27
  refine ⟨c21 28 (by decide) (by decide), ?_⟩
  intro y28 u28 v28 t28
  refine ⟨c21 29 (by decide) (by decide), ?_⟩
  intro y29 u29 v29 t29
  refine ⟨c21 30 (by decide) (by decide), ?_⟩
  intro y30 u30 v30 t30
  refine ⟨c21 31 (by decide) (by decide), ?_⟩
  intro y31 u31 v31 t31
  refine ⟨c21 32 (by decide) (by decide), ?_⟩
  intro y32 u32 v32 t32
  refine ⟨c21 33 (by decide) (by decide), ?_⟩
  intro y33 u33 v33 t33
  refine ⟨c21 34 (by decide) (by decide), ?_⟩
  intro y34 u34 v34 t34
  refine ⟨c21 35 (by decide) (by decide), ?_⟩
  intro y35 u35 v35 t35
  refine ⟨c21 36 (by decide) (by decide), ?_⟩
  intro y36 u36 v36 t36
  refine ⟨c21 37 (by decide) (by decide), ?_⟩
  intro y37 u37 v37 t37
  refine ⟨c21 38 (by decide) (by decide), ?_⟩
  intro y38 u38 v38 t38
  refine ⟨c21 39 (by decide) (by decide), ?_⟩
  intro y39 u39 v39 t39
  refine ⟨c21 40 (by decide) (by decide), ?_⟩
  intro y40 u40 v40 t40
  refine ⟨c21 41 (by decide) (by decide), ?_⟩
  intro y41 u41 v41 t41
  refine ⟨c21 42 (by decide) (by decide), ?_⟩
  intro y42 u42 v42 t42
  refine ⟨c21 43 (by decide) (by decide), ?_⟩
  intro y43 u43 v43 t43
  refine ⟨c21 44 (by decide) (by decide), ?_⟩
  intro y44 u44 v44 t44
  refine ⟨c21 45 (by decide) (by decide), ?_⟩
  intro y45 u45 v45 t45
  refine ⟨c21 46 (by decide) (by decide), ?_⟩
  intro y46 u46 v46 t46
  refine ⟨c21 47 (by decide) (by decide), ?_⟩
  intro y47 u47 v47 t47
  refine ⟨c21 48 (by decide) (by decide), ?_⟩
  intro y48 u48 v48 t48
  refine ⟨c21 49 (by decide) (by decide), ?_⟩
  intro y49 u49 v49 t49
  refine ⟨c21 50 (by decide) (by decide), ?_⟩
  intro y50 u50 v50 t50
  refine ⟨c21 51 (by decide) (by decide), ?_⟩
  intro y51 u51 v51 t51
  refine ⟨c21 52 (by decide) (by decide), ?_⟩
  intro y52 u52 v52 t52
  refine ⟨c21 53 (by decide) (by decide), ?_⟩
  intro y53 u53 v53 t53
  refine ⟨c21 54 (by decide) (by decide), ?_⟩
  intro y54 u54 v54 t54
  refine ⟨c21 55 (by decide) (by decide), ?_⟩
  intro y55 u55 v55 t55
  refine ⟨c21 56 (by decide) (by decide), ?_⟩
  intro y56 u56 v56 t56
  refine ⟨c21 57 (by decide) (by decide), ?_⟩
  intro y57 u57 v57 t57
  refine ⟨c21 58 (by decide) (by decide), ?_⟩
  intro y58 u58 v58 t58
  refine ⟨c21 59 (by decide) (by decide), ?_⟩
  intro y59 u59 v59 t59
  refine ⟨c21 60 (by decide) (by decide), ?_⟩
  intro y60 u60 v60 t60
  refine ⟨c21 61 (by decide) (by decide), ?_⟩
  intro y61 u61 v61 t61
  refine ⟨c21 62 (by decide) (by decide), ?_⟩
  intro y62 u62 v62 t62
  refine ⟨c21 63 (by decide) (by decide), ?_⟩
  intro y63 u63 v63 t63
  have hL : [y0, y1, y2, y3, y4, y5, y6, y7, y8, y9, y10, y11, y12, y13, y14, y15, y16, y17, y18, y19, y20, y21, y22, y23, y24, y25, y26, y27, y28, y29, y30, y31, y32, y33, y34, y35, y36, y37, y38, y39, y40, y41, y42, y43, y44, y45, y46, y47, y48, y49, y50, y51, y52, y53, y54, y55, y56, y57, y58, y59, y60, y61, y62, y63] = bys z14 := by
    rw [fn21 t0, fn21 t1, fn21 t2, fn21 t3, fn21 t4, fn21 t5, fn21 t6, fn21 t7, fn21 t8, fn21 t9, fn21 t10, fn21 t11, fn21 t12, fn21 t13, fn21 t14, fn21 t15, fn21 t16, fn21 t17, fn21 t18, fn21 t19, fn21 t20, fn21 t21, fn21 t22, fn21 t23, fn21 t24, fn21 t25, fn21 t26, fn21 t27, fn21 t28, fn21 t29, fn21 t30, fn21 t31, fn21 t32, fn21 t33, fn21 t34, fn21 t35, fn21 t36, fn21 t37, fn21 t38, fn21 t39, fn21 t40, fn21 t41, fn21 t42, fn21 t43, fn21 t44, fn21 t45, fn21 t46, fn21 t47, fn21 t48, fn21 t49, fn21 t50, fn21 t51, fn21 t52, fn21 t53, fn21 t54, fn21 t55, fn21 t56, fn21 t57, fn21 t58, fn21 t59, fn21 t60, fn21 t61, fn21 t62, fn21 t63]
    exact (getD_range (bys z14) 64 hl14).symm
  refine ⟨?_, ?_⟩
  · show inB (repB 0 255 64 ++ []) _
    rw [List.append_nil]
    exact inB_bytes 64 _ rfl fun x hx => by
      simp only [List.flatten_cons, List.flatten_nil, List.append_nil, List.mem_cons, List.not_mem_nil, or_false] at hx
      rcases hx with rfl | rfl | rfl | rfl | rfl | rfl | rfl | rfl | rfl | rfl | rfl | rfl | rfl | rfl | rfl | rfl | rfl | rfl | rfl | rfl | rfl | rfl | rfl | rfl | rfl | rfl | rfl | rfl | rfl | rfl | rfl | rfl | rfl | rfl | rfl | rfl | rfl | rfl | rfl | rfl | rfl | rfl | rfl | rfl | rfl | rfl | rfl | rfl | rfl | rfl | rfl | rfl | rfl | rfl | rfl | rfl | rfl | rfl | rfl | rfl | rfl | rfl | rfl | rfl
      · exact ⟨u0, v0⟩
      · exact ⟨u1, v1⟩
      · exact ⟨u2, v2⟩
      · exact ⟨u3, v3⟩
      · exact ⟨u4, v4⟩
      · exact ⟨u5, v5⟩
      · exact ⟨u6, v6⟩
      · exact ⟨u7, v7⟩
      · exact ⟨u8, v8⟩
      · exact ⟨u9, v9⟩
      · exact ⟨u10, v10⟩
      · exact ⟨u11, v11⟩
      · exact ⟨u12, v12⟩
      · exact ⟨u13, v13⟩
      · exact ⟨u14, v14⟩
      · exact ⟨u15, v15⟩
      · exact ⟨u16, v16⟩
      · exact ⟨u17, v17⟩
      · exact ⟨u18, v18⟩
      · exact ⟨u19, v19⟩
      · exact ⟨u20, v20⟩
      · exact ⟨u21, v21⟩
      · exact ⟨u22, v22⟩
      · exact ⟨u23, v23⟩
      · exact ⟨u24, v24⟩
      · exact ⟨u25, v25⟩
      · exact ⟨u26, v26⟩
      · exact ⟨u27, v27⟩
      · exact ⟨u28, v28⟩
      · exact ⟨u29, v29⟩
      · exact ⟨u30, v30⟩
      · exact ⟨u31, v31⟩
      · exact ⟨u32, v32⟩
      · exact ⟨u33, v33⟩
      · exact ⟨u34, v34⟩
      · exact ⟨u35, v35⟩
      · exact ⟨u36, v36⟩
      · exact ⟨u37, v37⟩
      · exact ⟨u38, v38⟩
      · exact ⟨u39, v39⟩
      · exact ⟨u40, v40⟩
      · exact ⟨u41, v41⟩
      · exact ⟨u42, v42⟩
      · exact ⟨u43, v43⟩
      · exact ⟨u44, v44⟩
      · exact ⟨u45, v45⟩
      · exact ⟨u46, v46⟩
      · exact ⟨u47, v47⟩
      · exact ⟨u48, v48⟩
      · exact ⟨u49, v49⟩
      · exact ⟨u50, v50⟩
      · exact ⟨u51, v51⟩
      · exact ⟨u52, v52⟩
      · exact ⟨u53, v53⟩
      · exact ⟨u54, v54⟩
      · exact ⟨u55, v55⟩
      · exact ⟨u56, v56⟩
      · exact ⟨u57, v57⟩
      · exact ⟨u58, v58⟩
      · exact ⟨u59, v59⟩
      · exact ⟨u60, v60⟩
      · exact ⟨u61, v61⟩
      · exact ⟨u62, v62⟩
      · exact ⟨u63, v63⟩
  · show [[y0, y1, y2, y3, y4, y5, y6, y7, y8, y9, y10, y11, y12, y13, y14, y15, y16, y17, y18, y19, y20, y21, y22, y23, y24, y25, y26, y27, y28, y29, y30, y31, y32, y33, y34, y35, y36, y37, y38, y39, y40, y41, y42, y43, y44, y45, y46, y47, y48, y49, y50, y51, y52, y53, y54, y55, y56, y57, y58, y59, y60, y61, y62, y63]] = [shaW W64 (bys z0 ++ (bys z1 ++ (bys z2)))]
    rw [hL, h14, hbj]; rfl
theorem p_lsparts : B_lsparts SB (KBb SB [.d .bool] 459) := by
  intro z0 a0 a1 z1 b0 b1 z2 c0 c1 z3 d0 z4 e0 e1 z5 f0 f1 h5 z6 g0 g1 h6
  have h6 := alive1 h6
  subst h6
  have fin : KBb SB [.d .bool] 459 [[z0], [z1], [z2]] [[1]] := ⟨⟨by decide, by decide, trivial⟩, rfl⟩
  refine ⟨fun h => by exact absurd h (by decide), fun _ => ⟨fun _ => fin, fun hA => ?_⟩⟩
  have hA := of_decide_eq_false hA
  have h5 : z5 = ((rOf z0).length : Int) := h5
  intro z7 i0 i1 i2 i3
  have e7 : z7 = 0 := by omega
  subst e7
  refine ⟨by show 0 < z5 + -18446744073709551616 * 0 + 1; omega, ?_⟩
  intro z8 j0 j1 h8
  have h8 : z8 = z1 % (z5 + -18446744073709551616 * 0 + 1) := h8
  have m8 : z8 ≤ z5 := by
    have := Int.emod_lt_of_pos z1 (b := z5 + -18446744073709551616 * 0 + 1) (by omega)
    omega
  clear h8
  intro z9 k0 k1 k2 k3
  have e9 : z9 = 0 := by omega
  subst e9
  refine ⟨by show 0 < z5 + (-1 * z8 + -18446744073709551616 * 0) + 1; omega, ?_⟩
  intro z10 l0 l1 h10
  have h10 : z10 = z2 % (z5 + (-1 * z8 + -18446744073709551616 * 0) + 1) := h10
  have m10 : z8 + z10 ≤ z5 := by
    have := Int.emod_lt_of_pos z2 (b := z5 + (-1 * z8 + -18446744073709551616 * 0) + 1) (by omega)
    omega
  clear h10
  have q1 : chkD 32 [0, z8, z5] := ⟨Int.le_refl _, j0, m8⟩
  have q2 : chkD 32 [z8, z8 + z10, z5] := ⟨j0, by omega, m10⟩
  have q3 : chkD 32 [z8 + z10, z5, z5] := ⟨by omega, m10, Int.le_refl _⟩
  refine ⟨q1, q2, fun hcp => ?_⟩
  have hcp' : z5 ≤ z4 ∨ z5 = 0 := hcp
  have pm : ∀ r, r = fnD 33 [0, z8, z4] → chkD 22 [z0, r, z10 + r] ∧ ∀ z, z = fnD 22 [z0, r, z10 + r] → rOf z = ((rOf z0).drop z8.toNat).take z10.toNat := fun r hr => by
    have := part_ok (b := z8 + z10) h5 j0 (by omega) m10 hcp' hr
    rw [show z8 + z10 - z8 = z10 by omega] at this
    exact this
  have pe : ∀ r, r = fnD 33 [0, z8 + z10, z4] → chkD 22 [z0, r, z5 + (-1 * z8 + (-1 * z10 + r))] ∧ ∀ z, z = fnD 22 [z0, r, z5 + (-1 * z8 + (-1 * z10 + r))] → rOf z = ((rOf z0).drop (z8 + z10).toNat).take (z5 - (z8 + z10)).toNat := fun r hr => by
    have := part_ok (b := z5) h5 (by omega : 0 ≤ z8 + z10) m10 (Int.le_refl _) hcp' hr
    rw [show z5 - (z8 + z10) + r = z5 + (-1 * z8 + (-1 * z10 + r)) by omega] at this
    exact this
  have ph := head_ok h5 j0 m8
  have c0' : chkD 22 [z0, 0, z5] := ⟨Int.le_refl _, f0, by rw [h5]; exact Int.le_refl _⟩
  have s0 : ∀ z, z = fnD 22 [z0, 0, z5] → rOf z = rOf z0 := fun z h => sub_all h h5
  have r1 : chkD 40 [z4 + -1 * z8, z4] := fun h => by omega
  have r2 : chkD 40 [z4 + (-1 * z8 + -1 * z10), z4] := fun h => by omega
  have w0 : ∀ z, rOf z = rOf z0 → chkD 71 [z] := fun z h => by show (rOf z).length ≤ 1000000000; rw [h]; omega
  have lt : ∀ z k, rOf z = (rOf z0).take k → (rOf z).length ≤ 100000000 := fun z k h => by rw [h, List.length_take]; omega
  have lm : ∀ z j k, rOf z = ((rOf z0).drop j).take k → (rOf z).length ≤ 100000000 := fun z j k h => by rw [h, List.length_take, List.length_drop]; omega
  have key : ∀ a b c, rOf a = (rOf z0).take z8.toNat → rOf b = ((rOf z0).drop z8.toNat).take z10.toNat → rOf c = ((rOf z0).drop (z8 + z10).toNat).take (z5 - (z8 + z10)).toNat → bys a ++ (bys b ++ bys c) = bys z0 := fun a b c ha hb hc => by
    rw [bys_take ha, bys_mid hb, bys_mid hc, show (z8 + z10).toNat = z8.toNat + z10.toNat by omega]
    have hl : (bys z0).length = (rOf z0).length := bys_len z0
    exact cut3 _ (by omega) (by omega)
  intro z11 _ _ h11
  have pm1 := pm z11 h11
  refine ⟨q3, fun _ => ?_⟩
  intro z12 _ _ h12
  have pe1 := pe z12 h12
  refine ⟨⟨?_, ?_⟩, ?_⟩
  all_goals
    refine ⟨c0', fun z13 _ _ h13 => ?_⟩
    have h13 := s0 z13 h13
    refine ⟨w0 _ h13, fun r14 _ hr14 => ?_⟩
    have hr14 : [r14] = [shaW W32 (bys z13)] := hr14
    refine ⟨ph.1, fun z46 _ _ h46 => ?_⟩
    have h46 := ph.2 z46 h46
    refine ⟨pm1.1, r1, fun z47 _ _ h47 => ?_⟩
    have h47 := pm1.2 z47 h47
    refine ⟨pe1.1, r2, fun z48 _ _ h48 => ?_⟩
    have h48 := pe1.2 z48 h48
    refine ⟨fun z hz => ?_, fun r49 _ hr49 => ?_⟩
    · simp only [List.mem_cons, List.not_mem_nil, or_false] at hz
      rcases hz with rfl | rfl | rfl | rfl
      · exact lt _ _ h46
      · exact lm _ _ _ h47
      · rw [rOf_zero]; decide
      · exact lm _ _ _ h48
    have hr49 : [r49] = [shaW W32 (bys z46 ++ (bys z47 ++ (bys 0 ++ bys z48)))] := hr49
    rw [bys_zero, List.nil_append, key _ _ _ h46 h47 h48] at hr49
    rw [bys_of h13] at hr14
    have er := hr14.trans hr49.symm
    simp only [List.cons.injEq, and_true] at er
    subst er
    refine ⟨fun _ => ?_, fun h => by exact absurd rfl (of_decide_eq_false h)⟩
    refine ⟨q1, q2, fun _ z81 _ _ h81 => ⟨q3, fun _ z82 _ _ h82 => ?_⟩⟩
    have pm2 := pm z81 h81
    have pe2 := pe z82 h82
    refine ⟨⟨?_, ?_⟩, ?_⟩
    all_goals
      refine ⟨ph.1, fun z83 _ _ h83 => ?_⟩
      have h83 := ph.2 z83 h83
      refine ⟨pm2.1, r1, fun z84 _ _ h84 => ?_⟩
      have h84 := pm2.2 z84 h84
      refine ⟨pe2.1, r2, fun z85 _ _ h85 => ?_⟩
      have h85 := pe2.2 z85 h85
      refine ⟨fun z hz => ?_, fun r86 _ hr86 => ?_⟩
      · simp only [List.mem_cons, List.not_mem_nil, or_false] at hz
        rcases hz with rfl | rfl | rfl
        · exact lt _ _ h83
        · exact lm _ _ _ h84
        · exact lm _ _ _ h85
      have hr86 : [r86] = [shaW W64 (bys z83 ++ (bys z84 ++ bys z85))] := hr86
      rw [key _ _ _ h83 h84 h85] at hr86
      refine ⟨c0', fun z150 _ _ h150 => ?_⟩
      have h150 := s0 z150 h150
      refine ⟨w0 _ h150, fun r151 _ hr151 => ?_⟩
      have hr151 : [r151] = [shaW W64 (bys z150)] := hr151
      rw [bys_of h150] at hr151
      have es := hr86.trans hr151.symm
      simp only [List.cons.injEq, and_true] at es
      subst es
      rw [decide_eq_true (rfl : r86 = r86)]
      exact fin

end Go.Ad

set_option maxRecDepth 100000
namespace Go.Ad
open Go Go.Rx Go.Proofs
theorem u_spad (S K) : VcB sh lsh_none S K [1, 1] (bdsL k_spad.args) k_spad.res (k_spad.tree Tryd.prog gl07 (calQ [] []) li_none 600 6) = B_spad S K := by kernel_rfl
theorem u_g2_32 (S K) : VcB sh lsh_none S K [1] (bdsL k_g2_32.args) k_g2_32.res (k_g2_32.tree Tryd.prog gl07 (calQ [] []) li_none 600 6) = B_g2_32 S K := by kernel_rfl
theorem u_g3_32 (S K) : VcB sh lsh_none S K [1] (bdsL k_g3_32.args) k_g3_32.res (k_g3_32.tree Tryd.prog gl07 (calQ [] []) li_none 600 6) = B_g3_32 S K := by kernel_rfl
theorem u_g4_32 (S K) : VcB sh lsh_none S K [1] (bdsL k_g4_32.args) k_g4_32.res (k_g4_32.tree Tryd.prog gl07 (calQ [] []) li_none 600 6) = B_g4_32 S K := by kernel_rfl
theorem u_g5_32 (S K) : VcB sh lsh_none S K [1] (bdsL k_g5_32.args) k_g5_32.res (k_g5_32.tree Tryd.prog gl07 (calQ [] []) li_none 600 6) = B_g5_32 S K := by kernel_rfl
theorem u_g2_64 (S K) : VcB sh lsh_none S K [1] (bdsL k_g2_64.args) k_g2_64.res (k_g2_64.tree Tryd.prog gl07 (calQ [] []) li_none 600 6) = B_g2_64 S K := by kernel_rfl
theorem u_g3_64 (S K) : VcB sh lsh_none S K [1] (bdsL k_g3_64.args) k_g3_64.res (k_g3_64.tree Tryd.prog gl07 (calQ [] []) li_none 600 6) = B_g3_64 S K := by kernel_rfl
theorem u_g4_64 (S K) : VcB sh lsh_none S K [1] (bdsL k_g4_64.args) k_g4_64.res (k_g4_64.tree Tryd.prog gl07 (calQ [] []) li_none 600 6) = B_g4_64 S K := by kernel_rfl
theorem u_g5_64 (S K) : VcB sh lsh_none S K [1] (bdsL k_g5_64.args) k_g5_64.res (k_g5_64.tree Tryd.prog gl07 (calQ [] []) li_none 600 6) = B_g5_64 S K := by kernel_rfl
theorem u_spd32 (S K) : VcF sh lsh_spd32 S K [1] (bbds k_spd32.args) k_spd32.res (k_spd32.tree (bcOf []) Tryd.prog gl07 (calQ [] [k_spad]) li_spd32 600 6) = B_spd32 S K := by kernel_rfl
theorem u_spd64 (S K) : VcF sh lsh_spd64 S K [1] (bbds k_spd64.args) k_spd64.res (k_spd64.tree (bcOf []) Tryd.prog gl07 (calQ [] [k_spad]) li_spd64 600 6) = B_spd64 S K := by kernel_rfl
theorem u_gk_32 (S K) : VcB sh lsh_none S K [1] (bdsL k_gk_32.args) k_gk_32.res (k_gk_32.tree Tryd.prog gl07 (calQ [] []) li_none 600 6) = B_gk_32 S K := by kernel_rfl
theorem u_gk_64 (S K) : VcB sh lsh_none S K [1] (bdsL k_gk_64.args) k_gk_64.res (k_gk_64.tree Tryd.prog gl07 (calQ [] []) li_none 600 6) = B_gk_64 S K := by kernel_rfl
theorem u_cl32 (S K) : VcF sh lsh_none S K [1] (bbds k_cl32.args) k_cl32.res (k_cl32.tree (bcOf []) Tryd.prog gl07 (calQ [] []) li_none 600 6) = B_cl32 S K := by kernel_rfl
theorem u_cl64 (S K) : VcF sh lsh_none S K [1] (bbds k_cl64.args) k_cl64.res (k_cl64.tree (bcOf []) Tryd.prog gl07 (calQ [] []) li_none 600 6) = B_cl64 S K := by kernel_rfl
theorem u_sum32 (S K) : VcF sh lsh_none S K [1] (bbds k_sum32.args) k_sum32.res (pc_sum32.tree (rcOf [r_all32] (pcOf [pc_sj32] (bcOf [k_spd32]))) Tryd.prog gl07 (calQ [] []) li_none 600 6) = B_sum32 S K := by kernel_rfl
theorem u_sum64 (S K) : VcF sh lsh_none S K [1] (bbds k_sum64.args) k_sum64.res (pc_sum64.tree (rcOf [r_all64] (pcOf [pc_sj64] (bcOf [k_spd64]))) Tryd.prog gl07 (calQ [] []) li_none 600 6) = B_sum64 S K := by kernel_rfl
theorem u_shex (S K) : VcF sh lsh_shex S K [1] (bbds k_shex.args) k_shex.res (k_shex.tree (bcOf []) Tryd.prog gl07 (calQ [] []) li_shex 600 6) = B_shex S K := by kernel_rfl
theorem u_aalive (S K) : VcF sh lsh_none S K [] (bbds k_aalive.args) k_aalive.res (k_aalive.tree (pcOf [pc_sum32, pc_sum64] (bcOf [k_shex])) Tryd.prog gl07 (calQ [] []) li_none 600 6) = B_aalive S K := by kernel_rfl
theorem u_sj32d (S K) : VcF sh lsh_none S K [1, 1, 1, 1] (bbds k_sj32d.args) k_sj32d.res (pc_sj32d.tree (bcOf []) Tryd.prog gl07 (calQ [] []) li_none 600 6) = B_sj32d S K := by kernel_rfl
theorem u_sj64c (S K) : VcF sh lsh_none S K [1, 1, 1] (bbds k_sj64c.args) k_sj64c.res (pc_sj64c.tree (bcOf []) Tryd.prog gl07 (calQ [] []) li_none 600 6) = B_sj64c S K := by kernel_rfl
theorem u_sum32d (S K) : VcF sh lsh_none S K [1, 1, 1, 1] (bbds k_sum32d.args) k_sum32d.res (pc_sum32d.tree (rcOf [r_all32] (pcOf [pc_sj32d] (bcOf [k_spd32]))) Tryd.prog gl07 (calQ [] []) li_none 600 6) = B_sum32d S K := by kernel_rfl
theorem u_sum64c (S K) : VcF sh lsh_none S K [1, 1, 1] (bbds k_sum64c.args) k_sum64c.res (pc_sum64c.tree (rcOf [r_all64] (pcOf [pc_sj64c] (bcOf [k_spd64]))) Tryd.prog gl07 (calQ [] []) li_none 600 6) = B_sum64c S K := by kernel_rfl
end Go.Ad
