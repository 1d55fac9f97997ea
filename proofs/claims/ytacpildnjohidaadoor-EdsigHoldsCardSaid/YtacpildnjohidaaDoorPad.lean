/- The scalar seat: shapes,contracts,what each says. -/
import Derived.Test.YtacpildnjohidaaDoorPac
open Function renaming comp->Nh
open Go.IntKind renaming max->pF
open Int renaming le_refl->cW,mul_comm->kR,emod_eq_of_lt->p9,eq_ofNat_of_zero_le->sn,le_of_lt->so,toNat_natCast->sq,mul_emod->sS,emod_nonneg->ud,add_zero->wH,one_mul->wI,emod_lt_of_pos->zw,add_mul_emod_self_left->zx,emod_emod->CE,mul_assoc->CF,dvd_of_emod_eq_zero->G5,dvd_add->JG,toNat_of_nonneg->M9,mul_one->Rz,natCast_emod->RA,pow_add->RD,ediv_eq_iff_of_pos->RN,emod_add_mul_ediv->Zj,toNat_zero->ZE,emod_eq_zero_of_dvd->aA0
open List renaming getD->U,replicate->e9,length_append->fQ,range->fY,nil_append->gp,append_nil->gZ,map_append->jf,getD_cons_zero->jH,length_cons->jS,map_congr_left->kD,getD_cons_succ->kS,append_assoc->nI,take_succ_cons->o4,mem_cons->pD,map_map->p8,drop_zero->qe,getElem?_eq_getElem->qJ,length_nil->qL,length_map->qM,take_zero->qN,length_drop->rA,length_take->su,drop_succ_cons->tz,flatten_cons->uT,take_of_length_le->uU,not_mem_nil->yp,getD_eq_getElem?_getD->yr,eq_nil_of_length_eq_zero->zI,flatten_nil->G4,map_id->Ng,ext_getElem->Nn,length_replicate->R2,take_left'->Zi,length_range->aje,drop_eq_getElem_cons->aB3,replicate_succ'->aB4,length_singleton->aB5
open List.cons renaming injEq->qK
open Nat renaming pow_succ->yq,zero_add->yk,div_div_eq_div_mul->Nb,zero_le->Nf,div_eq_of_lt->Zh
open Option.some renaming inj->jd
open Prod renaming ext->Na
set_option linter.unusedVariables false
namespace Go.oF
open Go.ch
def gl:fa:=Go.fZ.gT
def hU:D:= .agg .u8 32 0 255
def ala:D:= .agg .u8 64 0 255
def b4:D:= .agg .u64 4 0 18446744073709551615
def xV:D:= .agg .u64 8 0 18446744073709551615
def c1:D:= .int .u64 0 1
def lx:FuncId->Nat->Option gB:=λf r=>match f,r with
 |40,12=>some ⟨[2,3],[],[(2,0,0,18446744073709551615),(2,1,0,18446744073709551615),(2,2,0,18446744073709551615),(2,3,0,18446744073709551615)],[],[],[],[]⟩
 |_,_=>none
abbrev bf:List Int->Int:=num 18446744073709551616
abbrev nb:List Int->Int:=num 256
def tY (zs rs:List Int):Prop:=bf rs=nb zs
def xK (zs rs:List Int):Prop:=bf rs=nb (zs.take 32)
def xL (zs rs:List Int):Prop:=bf rs=nb (zs.drop 32)
def sa (zs rs:List Int):Prop:=bf (rs.take 4)=bf (zs.take 4)-bf (zs.drop 4)+115792089237316195423570985008687907853269984665640564039457584007913129639936*rs.getD 4 0
def sb (zs rs:List Int):Prop:=bf (rs.take 4)=bf (zs.take 4)+bf (zs.drop 4)-115792089237316195423570985008687907853269984665640564039457584007913129639936*rs.getD 4 0
def tX (zs rs:List Int):Prop:=nb rs=bf zs
def xO (zs rs:List Int):Prop:=bf rs=bf (zs.take 4)*bf (zs.drop 4)
def uK (zs rs:List Int):Prop:=bf (rs.take 4)=bf zs% 7237005577332262213973186563042994240829374041602535252466099000494570602496/\bf (rs.drop 4)=27742317777372353535851937790883648493*(bf zs/7237005577332262213973186563042994240829374041602535252466099000494570602496)
def xJ (zs rs:List Int):Prop:=bf rs=bf zs% 7237005577332262213973186563042994240857116359379907606001950938285454250989
def zd (zs rs:List Int):Prop:=nb rs=nb zs
def ua (zs rs:List Int):Prop:=rs=[if nb zs<7237005577332262213973186563042994240857116359379907606001950938285454250989 then 1 else 0]
def xN (zs rs:List Int):Prop:=nb rs=(-nb zs)% 7237005577332262213973186563042994240857116359379907606001950938285454250989
def tZ (zs rs:List Int):Prop:=nb rs=nb zs% 7237005577332262213973186563042994240857116359379907606001950938285454250989
def xM (zs rs:List Int):Prop:=nb rs=(nb (zs.take 32)*nb ((zs.drop 32).take 32)+nb (zs.drop 64))% 7237005577332262213973186563042994240857116359379907606001950938285454250989
def v8 (zs rs:List Int):Prop:=rs=(zs.getD 0 0/8*8)::((zs.drop 1).take 30++[zs.getD 31 0% 64+64])
def zc (zs rs:List Int):Prop:=bf rs=7237005577332262213973186563042994240857116359379907606001950938285454250989
def wa (zs rs:List Int):Prop:=rs=[if bf (zs.take 4)<bf (zs.drop 4)then 1 else 0]
def wc (zs rs:List Int):Prop:=bf rs=if(bf (zs.take 4)+bf (zs.drop 4))% 115792089237316195423570985008687907853269984665640564039457584007913129639936<7237005577332262213973186563042994240857116359379907606001950938285454250989 then(bf (zs.take 4)+bf (zs.drop 4))% 115792089237316195423570985008687907853269984665640564039457584007913129639936 else(bf (zs.take 4)+bf (zs.drop 4))% 115792089237316195423570985008687907853269984665640564039457584007913129639936-7237005577332262213973186563042994240857116359379907606001950938285454250989
def xP (zs rs:List Int):Prop:=bf rs=nb zs% 7237005577332262213973186563042994240857116359379907606001950938285454250989
def we (zs rs:List Int):Prop:=rs=[1]
def cB:Nat->List Int->List Int->Prop
 |22=>tY
 |122=>xK
 |222=>xL
 |29=>sa
 |24=>sb
 |26=>tX
 |21=>xO
 |35=>uK
 |23=>xJ
 |25=>xJ
 |12=>zd
 |13=>ua
 |10=>xN
 |11=>tZ
 |8=>xM
 |14=>v8
 |19=>tX
 |20=>zc
 |30=>wa
 |31=>tY
 |32=>sa
 |36=>sb
 |28=>wc
 |27=>xP
 |127=>xP
 |16=>ua
 |17=>xN
 |18=>v8
 |15=>tZ
 |9=>xM
 |_=>we
theorem G2 {x d q e3:Int} (hd:0<d) (h1:0<=x-d*q) (h2:x-d*q<d) (h3:0<=x-d*e3) (h4:x-d*e3<d):q=e3:=Mz h1 h2 h3 h4
theorem My {x d q:Int} (hd:0<d) (h1:0<=x-d*q) (h2:x-d*q<d):x/d=q:=by
 have e:=Zj x d
 have aw:=ud x (show d≠0 by omega)
 have aD:=zw x hd
 exact Mz (x:=x) (d:=d) (by omega) (by omega) h1 h2
theorem og {x d c q e3 p:Int} (hd:0<d/\0<c) (b2:0<=x-d*q) (a2:x-d*q<d) (b8:0<=q-c*e3) (b9:q-c*e3<c) {e:Int} (c1:0<=x-e*p) (bK:x-e*p<e) (he:e=d*c:=by decide):e3=p:=by
 subst he
 rw[<-My hd.2 b8 b9,<-My hd.1 b2 a2,Int.ediv_ediv_of_nonneg (so hd.1)]
 exact My (Int.mul_pos hd.1 hd.2) c1 bK
theorem Re {x q e3:Int} (a:0<=16*x-18446744073709551616*q) (b:16*x-18446744073709551616*q<18446744073709551616) (c:0<=x-1152921504606846976*e3) (d:x-1152921504606846976*e3<1152921504606846976):q=e3:=by omega
theorem avd (a0 b2 a2 a3 fK b8 b9 de:Int):(a0+18446744073709551616*(b2+18446744073709551616*(a2+18446744073709551616*(a3+18446744073709551616*0))))*(fK+18446744073709551616*(b8+18446744073709551616*(b9+18446744073709551616*(de+18446744073709551616*0))))=1*(a0*fK)+18446744073709551616*(a0*b8)+340282366920938463463374607431768211456*(a0*b9)+6277101735386680763835789423207666416102355444464034512896*(a0*de)+18446744073709551616*(b2*fK)+340282366920938463463374607431768211456*(b2*b8)+6277101735386680763835789423207666416102355444464034512896*(b2*b9)+115792089237316195423570985008687907853269984665640564039457584007913129639936*(b2*de)+340282366920938463463374607431768211456*(a2*fK)+6277101735386680763835789423207666416102355444464034512896*(a2*b8)+115792089237316195423570985008687907853269984665640564039457584007913129639936*(a2*b9)+2135987035920910082395021706169552114602704522356652769947041607822219725780640550022962086936576*(a2*de)+6277101735386680763835789423207666416102355444464034512896*(a3*fK)+115792089237316195423570985008687907853269984665640564039457584007913129639936*(a3*b8)+2135987035920910082395021706169552114602704522356652769947041607822219725780640550022962086936576*(a3*b9)+39402006196394479212279040100143613805079739270465446667948293404245721771497210611414266254884915640806627990306816*(a3*de):=by grind
theorem r3 {a b c d:Int} (a0:0<=a) (b2:a<=18446744073709551615) (fK:0<=b) (b8:b<=18446744073709551615) (eS:0<=c) (c1:c<=18446744073709551615) (d0:0<=d) (d1:d<=18446744073709551615):0<=bf [a,b,c,d]/\bf [a,b,c,d]<115792089237316195423570985008687907853269984665640564039457584007913129639936:=by
 simp only[num];omega
theorem asx {a b c d e f g h:Int} (a0:0<=a) (b2:a<=18446744073709551615) (fK:0<=b) (b8:b<=18446744073709551615) (eS:0<=c) (c1:c<=18446744073709551615) (d0:0<=d) (d1:d<=18446744073709551615) (fF:0<=e) (aw:e<=18446744073709551615) (f0:0<=f) (f1:f<=18446744073709551615) (g0:0<=g) (g1:g<=18446744073709551615) (h0:0<=h) (h1:h<=18446744073709551615):0<=bf [a,b,c,d,e,f,g,h]/\bf [a,b,c,d,e,f,g,h]<13407807929942597099574024998205846127479365820592393377723561443721764030073546976801874298166903427690031858186486050853753882811946569946433649006084096:=by
 simp only[num];omega
theorem agp {l:List Int} {n:Nat} (h:af (au 0 255 n) l):0<=nb l/\nb l<256^n:=⟨num_nonneg (by decide) (cW _) h,Qz (b:=256) (by decide) h⟩
theorem Xo:bf [6346243789798364141,1503914060200516822,0,1152921504606846976]=7237005577332262213973186563042994240857116359379907606001950938285454250989:=by decide
theorem asz (a b c d:Int):bf [a,b,c,d,0,0,0,0]=bf [a,b,c,d]:=by simp only[num];omega
theorem asy:bf [0,0,0,0]=0:=by decide
theorem av3 {zP tk E1 NM c1 l1 E2 NO bK NP cy l2 Ho NQ c3 qx akf NR fh EZ hH:Int}
 (jt:0<=zP/\zP<13407807929942597099574024998205846127479365820592393377723561443721764030073546976801874298166903427690031858186486050853753882811946569946433649006084096)
 (f0:tk=zP% 7237005577332262213973186563042994240829374041602535252466099000494570602496) (g0:E1=27742317777372353535851937790883648493*(zP/7237005577332262213973186563042994240829374041602535252466099000494570602496))
 (f2:l1=E1% 7237005577332262213973186563042994240829374041602535252466099000494570602496) (g2:E2=27742317777372353535851937790883648493*(E1/7237005577332262213973186563042994240829374041602535252466099000494570602496))
 (f5:l2=E2% 7237005577332262213973186563042994240829374041602535252466099000494570602496) (g5:Ho=27742317777372353535851937790883648493*(E2/7237005577332262213973186563042994240829374041602535252466099000494570602496))
 (f7:qx=Ho% 7237005577332262213973186563042994240829374041602535252466099000494570602496) (g7:akf=27742317777372353535851937790883648493*(Ho/7237005577332262213973186563042994240829374041602535252466099000494570602496))
 (s1:NM=tk-115792089237316195423570985008687907853269984665640564039457584007913129639936*c1)
 (bS:NO=NM+7237005577332262213973186563042994240857116359379907606001950938285454250989-115792089237316195423570985008687907853269984665640564039457584007913129639936*bK)
 (dg:NP=NO-l1+115792089237316195423570985008687907853269984665640564039457584007913129639936*cy)
 (hM:NQ=NP+l2-115792089237316195423570985008687907853269984665640564039457584007913129639936*c3)
 (ks:NR=NQ+7237005577332262213973186563042994240857116359379907606001950938285454250989-115792089237316195423570985008687907853269984665640564039457584007913129639936*fh)
 (oy:EZ=NR-qx+115792089237316195423570985008687907853269984665640564039457584007913129639936*hH)
 (b2:0<=c1) (b8:c1<=1) (a2:0<=bK) (b9:bK<=1) (a3:0<=cy) (de:cy<=1) (a4:0<=c3) (oH:c3<=1) (a5:0<=fh) (oI:fh<=1) (sA:0<=hH) (sB:hH<=1)
 (gW:0<=NM/\NM<115792089237316195423570985008687907853269984665640564039457584007913129639936) (fj:0<=NO/\NO<115792089237316195423570985008687907853269984665640564039457584007913129639936)
 (Gt:0<=NP/\NP<115792089237316195423570985008687907853269984665640564039457584007913129639936) (AE:0<=NQ/\NQ<115792089237316195423570985008687907853269984665640564039457584007913129639936)
 (ar3:0<=NR/\NR<115792089237316195423570985008687907853269984665640564039457584007913129639936) (ar4:0<=EZ/\EZ<115792089237316195423570985008687907853269984665640564039457584007913129639936):(EZ-zP)% 7237005577332262213973186563042994240857116359379907606001950938285454250989=0:=by
 have k1:c1=0:=by omega
 have k2:bK=0:=by omega
 have k3:cy=0:=by omega
 have k4:c3=0:=by omega
 have ux:fh=0:=by omega
 have y2:hH=0:=by omega
 have v1:zP=7237005577332262213973186563042994240829374041602535252466099000494570602496*(zP/7237005577332262213973186563042994240829374041602535252466099000494570602496)+tk:=by omega
 have v2:E1=7237005577332262213973186563042994240829374041602535252466099000494570602496*(E1/7237005577332262213973186563042994240829374041602535252466099000494570602496)+l1:=by omega
 have v3:E2=7237005577332262213973186563042994240829374041602535252466099000494570602496*(E2/7237005577332262213973186563042994240829374041602535252466099000494570602496)+l2:=by omega
 have fK:zP/7237005577332262213973186563042994240829374041602535252466099000494570602496<1852673427797059126777135760139006525652319754650249024631321344126610074238976:=by omega
 have b8:E1/7237005577332262213973186563042994240829374041602535252466099000494570602496<10889035741470030830827987437816582766592:=by omega
 have b9:E2/7237005577332262213973186563042994240829374041602535252466099000494570602496<64:=by omega
 have de:Ho<7237005577332262213973186563042994240829374041602535252466099000494570602496:=by omega
 have ey:0<=Ho:=by omega
 have v4:qx=Ho:=by omega
 have e:EZ-zP=7237005577332262213973186563042994240857116359379907606001950938285454250989*(2-zP/7237005577332262213973186563042994240829374041602535252466099000494570602496+E1/7237005577332262213973186563042994240829374041602535252466099000494570602496-E2/7237005577332262213973186563042994240829374041602535252466099000494570602496):=by
  clear f0 f2 f5 f7 fK b8 b9 de gW fj Gt AE ar3 ar4
  omega
 rw[e];exact Int.mul_emod_right _ _
def vy:kE:=⟨26,22,.u8,32,0,255,22,0,32,32,[],[b4]⟩
def AB:kE:=⟨26,122,.u8,64,0,255,27,0,32,64,[],[b4]⟩
def B4:kE:=⟨26,222,.u8,64,0,255,27,32,32,32,[],[b4]⟩
def iB:bZ:=⟨27,29,[b4,b4],[b4,.bool]⟩
def iC:bZ:=⟨41,24,[b4,b4],[b4,c1]⟩
def hX:bZ:=⟨43,26,[b4],[hU]⟩
def B5:bZ:=⟨39,21,[b4,b4],[xV]⟩
def BX:bZ:=⟨77,35,[xV],[b4,xV]⟩
def vz:bZ:=⟨40,23,[xV],[b4]⟩
def B3:bZ:=⟨42,25,[b4],[b4]⟩
def oo:bZ:=⟨14,13,[hU],[.bool]⟩
def oQ:bZ:=⟨35,11,[ala],[hU]⟩
def D6:bZ:=⟨20,8,[hU,hU,hU],[hU]⟩
def D5:bZ:=⟨38,14,[hU],[hU]⟩
end Go.oF
set_option maxRecDepth 100000
namespace Go.fZ
open Go Go.ch
def dq (r:List Int) (o n:Nat):List Int:=(fY n).map λj=>U r (o+j) 0
def sF (r:List Int):Nat->Nat->Int->(Int->Prop)->Prop
 |_,0,c,k=>k c
 |o,n+1,c,k=>∀z:Int,0<=z->z<=bU->z=bE 23 [c,U r o 0]->sF r (o+1) n z k
def OW (c:Int):Nat->Nat->List Int->(List Int->Prop)->Prop
 |0,_,acc,k=>k acc
 |n+1,i,acc,k=>ar 21 [c,(i:Int)]/\∀y:Int,0<=y->y<=255->y=bE 21 [c,(i:Int),0]->OW c n (i+1) (acc++[y]) k
def iH:List Int:=[157,97,177,157,239,253,90,96,186,132,74,244,146,236,44,196,68,73,197,105,123,50,105,25,112,59,172,3,28,174,127,96]
abbrev c4 (l:List Int):Int:=Go.Fd.nb l
def qQ (l:List Int):List Int:=sc cL l
def uC (l:List Int):Int:=c4 (qQ l)% (Go.Fd.kO:Int)
def Ku (zs:List Int):List Int:=(zs.getD 0 0/8*8)::((zs.drop 1).take 30++[zs.getD 31 0% 64+64])
def GY (s:List Int):List Int:=Ku ((qQ s).take 32)
def MJ (s m:List Int):Int:=uC ((qQ s).drop 32++m)
def Gr (s:List Int):Int:=Go.Fd.enc (Go.Fd.eO (c4 (GY s)).toNat Go.Fd.kG)
def GZ (s m g:List Int):Prop:=c4 (g.take 32)=Go.Fd.enc (Go.Fd.eO (MJ s m).toNat Go.Fd.kG)/\∃A,af (au 0 255 32) A/\c4 A=Gr s/\c4 (g.drop 32)=(uC (g.take 32++(A++m))*c4 (GY s)+MJ s m)% (Go.Fd.kO:Int)
def F8 (k m g:List Int):Prop:=c4 (g.drop 32)<(Go.Fd.kO:Int)/\∃A,Go.Fd.dec (c4 k)=some A/\c4 (g.take 32)=Go.Fd.enc (Go.Fd.fc (Go.Fd.eO (uC (g.take 32++(k++m))).toNat (Go.Fd.rZ A)) (Go.Fd.eO (c4 (g.drop 32)).toNat Go.Fd.kG))
def SB:Nat->List (List Int)->List (List Int)->Prop
 |112,[a],[r,[e]]=>Go.Fd.Yq [a] [r,[e]]
 |114,[k],[r]=>Go.Fd.Yo [k] [r]
 |115,[k,a,l],[r,[e]]=>Go.Fd.Yp [k,a,l] [r,[e]]
 |151,[a],[[z]]=>z=if c4 a<(Go.Fd.kO:Int)then 1 else 0
 |152,[a],[r]=>c4 r=c4 a% (Go.Fd.kO:Int)
 |153,[a,b,c],[r]=>c4 r=(c4 a*c4 b+c4 c)% (Go.Fd.kO:Int)
 |154,[a],[r]=>r=Ku a
 |472,[[a],[b]],[[r]]=>ak r=ak a++(ak b)
 |473,[[a],[b]],rs=>rs=[sc cL (bJ a++(bJ b))]
 |674,[[a],[b]],[r]=>c4 r=uC (bJ a++(bJ b))
 |675,[[a],[b],[c]],[r]=>c4 r=uC (bJ a++(bJ b++bJ c))
 |680,[s],[r]=>c4 r=Gr s
 |681,[s,[z]],[g]=>GZ s (bJ z) g
 |682,[k,[z],g],[[b]]=>b=1↔F8 k (bJ z) g
 |683,[],[[r]]=>r=1
 |684,[_,_],[[r]]=>r=1
 |685,[_,_,_],[[r]]=>r=1
 |n,a,b=>akd n a b
end Go.fZ
namespace Go.fZ
open Go Go.ch
def QK:cN:= .sO [.int .u8 0 255] 5
def HR:D:= .int .i64 (-9223372036854775808) 9223372036854775807
def al4:D:= .int .i64 0 79
def ar2:cN:= .rd [.int .u64 0 18446744073709551615]
def QJ:cN:= .sO [.int .u64 0 18446744073709551615] 32
def arl:D:= .ph .i64 64
def uu:D:= .int .u64 0 18446744073709551615
def dD:D:= .agg .u8 32 0 255
def fp:D:= .agg .u8 64 0 255
def adg:D:= .int .i64 0 1
def mf:cN:= .rd [.int .u8 0 255]
end Go.fZ
set_option linter.unusedSimpArgs false
namespace Go.fZ
open Go Go.ch
def ZX (S:Nat->List (List Int)->List (List Int)->Prop) (K:List (List Int)->List (List Int)->Prop):Prop:=
 r5 λz0=>hZ 0 68719476735 (68719476736*z0) 18446744073709551616 λaB=>hZ 0 68719476735 z0 268435456 λz2=>n0 λz3=>z3<=pF .u64->z3
 =eL .xor .u64 0 ((68719476736*z0)+(((-18446744073709551616)*aB)+z2))->hZ 0 1073741823 (1073741824*z0) 18446744073709551616 λz4=>hZ 0
 1073741823 z0 17179869184 λz5=>n0 λa7=>a7<=pF .u64->a7=eL .xor .u64 z3 ((1073741824*z0)+(((-18446744073709551616)*z4)+z5))->
 hZ 0 33554431 (33554432*z0) 18446744073709551616 λaJ=>hZ 0 33554431 z0 549755813888 λaI=>n0 λz9=>z9<=pF .u64->z9=eL .xor .u64 a7
 ((33554432*z0)+(((-18446744073709551616)*aJ)+aI))->K [[z0]] [[z9]]
def ZY (S:Nat->List (List Int)->List (List Int)->Prop) (K:List (List Int)->List (List Int)->Prop):Prop:=
 r5 λz0=>hZ 0 1125899906842623 (1125899906842624*z0) 18446744073709551616 λaB=>hZ 0 1125899906842623 z0 16384 λz2=>n0 λz3=>z3<=pF
 .u64->z3=eL .xor .u64 0 ((1125899906842624*z0)+(((-18446744073709551616)*aB)+z2))->hZ 0 70368744177663 (70368744177664*z0) 18446744073709551616
 λz4=>hZ 0 70368744177663 z0 262144 λz5=>n0 λa7=>a7<=pF .u64->a7=eL .xor .u64 z3 ((70368744177664*z0)+(((-18446744073709551616)
 *z4)+z5))->hZ 0 8388607 (8388608*z0) 18446744073709551616 λaJ=>hZ 0 8388607 z0 2199023255552 λaI=>n0 λz9=>z9<=pF .u64->z9=
 eL .xor .u64 a7 ((8388608*z0)+(((-18446744073709551616)*aJ)+aI))->K [[z0]] [[z9]]
def ZZ (S:Nat->List (List Int)->List (List Int)->Prop) (K:List (List Int)->List (List Int)->Prop):Prop:=
 r5 λz0=>hZ 0 9223372036854775807 (9223372036854775808*z0) 18446744073709551616 λaB=>hZ 0 9223372036854775807 z0 2 λz2=>n0 λz3=>z3<=
 pF .u64->z3=eL .xor .u64 0 ((9223372036854775808*z0)+(((-18446744073709551616)*aB)+z2))->hZ 0 72057594037927935 (72057594037927936*z0)
 18446744073709551616 λz4=>hZ 0 72057594037927935 z0 256 λz5=>n0 λa7=>a7<=pF .u64->a7=eL .xor .u64 z3 ((72057594037927936*z0)+
 (((-18446744073709551616)*z4)+z5))->hZ 0 144115188075855871 z0 128 λaJ=>n0 λaI=>aI<=pF .u64->aI=eL .xor .u64 a7 aJ->K [[z0]]
 [[aI]]
def Z0 (S:Nat->List (List Int)->List (List Int)->Prop) (K:List (List Int)->List (List Int)->Prop):Prop:=
 r5 λz0=>hZ 0 35184372088831 (35184372088832*z0) 18446744073709551616 λaB=>hZ 0 35184372088831 z0 524288 λz2=>n0 λz3=>z3<=pF .u64
 ->z3=eL .xor .u64 0 ((35184372088832*z0)+(((-18446744073709551616)*aB)+z2))->hZ 0 7 (8*z0) 18446744073709551616 λz4=>hZ 0 7 z0
 2305843009213693952 λz5=>n0 λa7=>a7<=pF .u64->a7=eL .xor .u64 z3 ((8*z0)+(((-18446744073709551616)*z4)+z5))->hZ 0
 288230376151711743 z0 64 λaJ=>n0 λaI=>aI<=pF .u64->aI=eL .xor .u64 a7 aJ->K [[z0]] [[aI]]
theorem awd (w n:Nat) (hn:n<=w) (z q r:Int) (h1:0<=2^(w-n)*z-2^w*q) (h2:2^(w-n)*z-2^w*q<2^w) (h3:0<=z-2^n*r) (h4:z-2^n*r<2^n):(2^(w-n)*z-2^w*q)+r=Q2 w n z:=by
 have e:(2:Int)^w=2^(w-n)*2^n:=by rw[<-RD];congr 1;omega
 have cz:(0:Int)<2^(w-n):=Int.pow_pos (by decide)
 have cw:(0:Int)<2^n:=Int.pow_pos (by decide)
 have qX:z/2^n=r:=by
  rw[RN cw]
  constructor
  ·rw[kR];omega
  ·rw[kR r];omega
 have eq:q=r:=by
  rw[e]at h1 h2
  have f1:2^(w-n)*z-2^(w-n)*2^n*q=2^(w-n)*(z-2^n*q):=by rw[Int.mul_sub,CF]
  rw[f1]at h1 h2
  have g1:0<=z-2^n*q:=by
   rcases Int.lt_or_le (z-2^n*q) 0 with h|h
   ·have:=Int.mul_neg_of_pos_of_neg cz h;omega
   ·exact h
  have g2:z-2^n*q<2^n:=Int.lt_of_mul_lt_mul_left h2 (so cz)
  have:=qX
  rw[RN cw]at this
  have h5:z/2^n=q:=by
   rw[RN cw]
   constructor
   ·rw[kR];omega
   ·rw[kR q];omega
  rw[<-h5,qX]
 subst eq
 unfold Q2
 rw[qX,Int.emod_def,qX,e,CF,<-Int.mul_sub,kR (z-2^n*q) _]
 omega
theorem AS (w n:Nat) (hn:n<=w) (A B D:Int) (aU:A=2^(w-n)) (ea:B=2^w) (q0:D=2^n) {z q r:Int} (h1:0<=A*z-B*q) (h2:A*z-B*q<B) (h3:0<=z-D*r) (h4:z-D*r<D):A*z+(-B*q+r)=Q2 w n z:=by
 subst aU;subst ea;subst q0
 rw[<-awd w n hn z q r h1 h2 h3 h4,Int.neg_mul];omega
theorem auc:ZX SB (wQ SB [uu] 448):=by
 intro z0 a0 b2 aB bm XQ cz Gy z2 cb XU cw Gz z3 cJ Mp cj z4 et XV fC GA z5 kg XX fN GB a7 oS XY vj aJ qz XZ pW Mf aI po Ms I1 XF z9 X1 X2 rJ
 have r1:=AS 64 28 (by decide) 68719476736 18446744073709551616 268435456 (by decide) (by decide) (by decide) cz Gy cw Gz
 have n2:=AS 64 34 (by decide) 1073741824 18446744073709551616 17179869184 (by decide) (by decide) (by decide) fC GA fN GB
 have GM:=AS 64 39 (by decide) 33554432 18446744073709551616 549755813888 (by decide) (by decide) (by decide) pW Mf I1 XF
 refine⟨⟨X1,X2,trivial⟩,?_⟩
 show [[z9]]=[[HA cL z0]]
 rw[rJ,vj,cj,r1,n2,GM]
 rfl
theorem aud:ZY SB (wQ SB [uu] 449):=by
 intro z0 a0 b2 aB bm XQ cz Gy z2 cb XU cw Gz z3 cJ Mp cj z4 et XV fC GA z5 kg XX fN GB a7 oS XY vj aJ qz XZ pW Mf aI po Ms I1 XF z9 X1 X2 rJ
 have r1:=AS 64 14 (by decide) 1125899906842624 18446744073709551616 16384 (by decide) (by decide) (by decide) cz Gy cw Gz
 have n2:=AS 64 18 (by decide) 70368744177664 18446744073709551616 262144 (by decide) (by decide) (by decide) fC GA fN GB
 have GM:=AS 64 41 (by decide) 8388608 18446744073709551616 2199023255552 (by decide) (by decide) (by decide) pW Mf I1 XF
 refine⟨⟨X1,X2,trivial⟩,?_⟩
 show [[z9]]=[[HB cL z0]]
 rw[rJ,vj,cj,r1,n2,GM]
 rfl
theorem aue:ZZ SB (wQ SB [uu] 450):=by
 intro z0 a0 b2 aB bm XQ cz Gy z2 cb XU cw Gz z3 cJ Mp cj z4 et XV fC GA z5 kg XX fN GB a7 oS XY vj aJ qz XZ pW Mf aI po Ms Fx
 have r1:=AS 64 1 (by decide) 9223372036854775808 18446744073709551616 2 (by decide) (by decide) (by decide) cz Gy cw Gz
 have n2:=AS 64 8 (by decide) 72057594037927936 18446744073709551616 256 (by decide) (by decide) (by decide) fC GA fN GB
 have GM:aJ=z0/2^7:=by rw[show(2:Int)^7=128 by decide];omega
 refine⟨⟨po,Ms,trivial⟩,?_⟩
 show [[aI]]=[[MX cL z0]]
 rw[Fx,vj,cj,r1,n2,GM]
 rfl
theorem auf:Z0 SB (wQ SB [uu] 451):=by
 intro z0 a0 b2 aB bm XQ cz Gy z2 cb XU cw Gz z3 cJ Mp cj z4 et XV fC GA z5 kg XX fN GB a7 oS XY vj aJ qz XZ pW Mf aI po Ms Fx
 have r1:=AS 64 19 (by decide) 35184372088832 18446744073709551616 524288 (by decide) (by decide) (by decide) cz Gy cw Gz
 have n2:=AS 64 61 (by decide) 8 18446744073709551616 2305843009213693952 (by decide) (by decide) (by decide) fC GA fN GB
 have GM:aJ=z0/2^6:=by rw[show(2:Int)^6=64 by decide];omega
 refine⟨⟨po,Ms,trivial⟩,?_⟩
 show [[aI]]=[[MY cL z0]]
 rw[Fx,vj,cj,r1,n2,GM]
 rfl
end Go.fZ
namespace Go.fZ
open Go Go.ch
def ZR (S:Nat->List (List Int)->List (List Int)->Prop) (K:List (List Int)->List (List Int)->Prop):Prop:=
 r6 λz0=>(ar 66 [z0]->n0 λaB=>kP λz2=>Ci 20 [z0] λz3=>(ar 53 [z2,z3]->(r4 (decide (z2<0)) (K [[z0]] [[0]]) (ar 22 [z0,0,z3]/\
 ar 23 [0,z3]/\iE 22 [z0,0,z3] λz4=>iE 24 [0,z4] λz5=>(r4 (decide (z3<=0)) (K [[z0]] [[0]]) (kP λa7=>ar 22 [z5,0,z3]/\iE 22 [z5,0,z3]
 λaJ=>K [[z0]] [[aJ]]))))))
def Z6 (S:Nat->List (List Int)->List (List Int)->Prop) (K:List (List Int)->List (List Int)->Prop):Prop:=
 uF (-9223372036854775808) 9223372036854775807 λz0=>uF (-9223372036854775808) 9223372036854775807 λaB=>(r4 (decide (z0<0)) (K [[z0],[aB]] [[0]]) ((r4
 (decide (1099511627776<z0)) (K [[z0],[aB]] [[0]]) ((r4 ((!(decide (aB=32)))) ((r4 ((!(decide (aB=64)))) (K [[z0],[aB]] [[0]]) (hZ (-1) 1 ((2*aB)+
 9223372036854775808) 18446744073709551616 λz2=>ar 77 [aB]/\hZ 0 2305843009213693951 aB 4 λz3=>ar 36 [((2*aB)+((-18446744073709551616)*z2))]
 /\QT 0 2305844108725321728 38 [((z0+z3)+1),((2*aB)+((-18446744073709551616)*z2))] λz4=>hZ (-1) 0 (((2*aB)+(((-18446744073709551616)*z2)+
 ((-1)*z4)))+9223372036854775808) 18446744073709551616 λz5=>ar 77 [((2*aB)+(((-18446744073709551616)*z2)+(((-1)*z4)+
 ((-18446744073709551616)*z5))))]/\ar 36 [((2*aB)+((-18446744073709551616)*z2))]/\QT 0 9223372036854775806 38 [((2*aB)+
 (((-18446744073709551616)*z2)+(((-1)*z4)+((-18446744073709551616)*z5)))),((2*aB)+((-18446744073709551616)*z2))] λa7=>rl ((z0+(z3+a7))+
 9223372036854775809) 18446744073709551616 λaJ=>K [[z0],[aB]] [[((z0+(z3+(a7+((-18446744073709551616)*aJ))))+1)]]))) (hZ (-1) 1 ((2*aB)+
 9223372036854775808) 18446744073709551616 λz2=>ar 77 [aB]/\hZ 0 2305843009213693951 aB 4 λz3=>ar 36 [((2*aB)+((-18446744073709551616)*z2))]
 /\QT 0 2305844108725321728 38 [((z0+z3)+1),((2*aB)+((-18446744073709551616)*z2))] λz4=>hZ (-1) 0 (((2*aB)+(((-18446744073709551616)*z2)+
 ((-1)*z4)))+9223372036854775808) 18446744073709551616 λz5=>ar 77 [((2*aB)+(((-18446744073709551616)*z2)+(((-1)*z4)+
 ((-18446744073709551616)*z5))))]/\ar 36 [((2*aB)+((-18446744073709551616)*z2))]/\QT 0 9223372036854775806 38 [((2*aB)+
 (((-18446744073709551616)*z2)+(((-1)*z4)+((-18446744073709551616)*z5)))),((2*aB)+((-18446744073709551616)*z2))] λa7=>rl ((z0+(z3+a7))+
 9223372036854775809) 18446744073709551616 λaJ=>K [[z0],[aB]] [[((z0+(z3+(a7+((-18446744073709551616)*aJ))))+1)]]))))))
theorem kt {c l z:Int} (h:z=bE 22 [c,0,l]) (hl:l=((ak c).length:Int)):ak z=ak c:=by
 rw[h];show ak (rc (((ak c).drop (0:Int).toNat).take (l.toNat-(0:Int).toNat)))=_
 rw[kh,hl];simp
theorem ast {c:Int} (h:((ak c).length:Int)=0):ak c=[]:=zI (by omega)
theorem atU:ZR SB (j4 SB [QJ] 463):=by
 intro z0 a0 b2 hp aB b8 z2 eS c1 z3 d0 d1 h3 hn
 have h3:z3=((ak z0).length:Int):=h3
 have hl:(ak z0).length<=1000000:=hp
 have hn:z2<0->z3=0:=hn
 have fin:∀z,0<=z->z<=bU->ak z=ak z0->j4 SB [QJ] 463 [[z0]] [[z]]:=λz h1 h2 h=>⟨⟨h1,h2,trivial⟩,h⟩
 have fF:z3<=0->j4 SB [QJ] 463 [[z0]] [[0]]:=λh=>fin 0 (cW _) zN (by rw[oW,ast (c:=z0) (by omega)])
 refine⟨λh=>fF (by have:=hn (of_decide_eq_true h);omega),λh=>⟨⟨cW _,by omega,by rw[h3];exact cW _⟩,by show(ak 0).length+z3<=1073741824;rw[oW];simp only[qL];omega,λz4 f0 f1 h4 z5 g0 g1 h5=>?_⟩⟩
 have h4:=kt h4 h3
 have h5:ak z5=ak z0:=by
  rw[h5];show ak (rc (ak 0++ak z4))=_
  rw[kh,oW,h4];rfl
 refine⟨λh=>fF (of_decide_eq_true h),λh a7 i0 i1=>⟨⟨cW _,by omega,by rw[h3,h5];exact cW _⟩,λaJ AA iS h7=>fin aJ AA iS ?_⟩⟩
 rw[kt h7 (by rw[h3,h5]),h5]
theorem auB:Z6 SB (wQ SB [HR] 440):=by
 intro z0 a0 b2 aB fK b8
 have fin:∀z:Int,-9223372036854775808<=z->z<=9223372036854775807->z=AK z0 aB->wQ SB [HR] 440 [[z0],[aB]] [[z]]:=λz h1 h2 h=>⟨⟨h1,h2,trivial⟩,by show [[z]]=[[AK z0 aB]];rw[h]⟩
 have bad:(z0<0∨1099511627776<z0∨(aB≠32/\aB≠64))->wQ SB [HR] 440 [[z0],[aB]] [[0]]:=λh=>fin 0 (by omega) (by omega) (by unfold AK;rw[if_pos h])
 refine⟨λh=>bad (.inl (of_decide_eq_true h)),λh=>⟨λbd=>bad (.inr (.inl (of_decide_eq_true bd))),λbd=>?_⟩⟩
 have jt:0<=z0:=by have:=of_decide_eq_false h;omega
 have a1:z0<=1099511627776:=by have:=of_decide_eq_false bd;omega
 obtain⟨N,rfl⟩:∃N:Nat,(N:Int)=z0:=⟨z0.toNat,by omega⟩
 refine⟨λg=>⟨λoh=>bad (.inr (.inr ⟨by simpa using g,by simpa using oh⟩)),λoh=>?_⟩,λg=>?_⟩
 ·have hz:aB=64:=by simpa using oh
  subst hz
  intro z2 eS c1 bK cy
  have:z2=0:=by omega
  subst this
  refine⟨by show(0:Int)<=64;decide,λz3 d0 d1 d2 d3=>?_⟩
  have:z3=16:=by omega
  subst this
  refine⟨by show(0:Int)<2*64+-18446744073709551616*0;decide,λz4 fF aw h4 z5 f0 f1 f2 f3=>?_⟩
  have h4:z4=((N:Int)+16+1)% (2*64+-18446744073709551616*0):=h4
  rw[show(2*64+-18446744073709551616*0:Int)=128 by decide]at h4
  have:z5=0:=by omega
  subst this
  refine⟨by show(0:Int)<=_;omega,by show(0:Int)<2*64+-18446744073709551616*0;decide,λa7 g0 g1 h6 aJ i0 i1 i2 i3=>?_⟩
  have h6:a7=(2*64+(-18446744073709551616*0+(-1*z4+-18446744073709551616*0)))% (2*64+-18446744073709551616*0):=h6
  rw[show(2*64+-18446744073709551616*0:Int)=128 by decide]at h6
  have:aJ=0:=by omega
  subst this
  refine fin _ (by omega) (by omega) ?_
  unfold AK uE
  rw[if_neg (by omega)]
  simp only[sq]
  rw[show(64:Int).toNat=64 from rfl]
  omega
 ·have hz:aB=32:=by simpa using g
  subst hz
  intro z2 eS c1 bK cy
  have:z2=0:=by omega
  subst this
  refine⟨by show(0:Int)<=32;decide,λz3 d0 d1 d2 d3=>?_⟩
  have:z3=8:=by omega
  subst this
  refine⟨by show(0:Int)<2*32+-18446744073709551616*0;decide,λz4 fF aw h4 z5 f0 f1 f2 f3=>?_⟩
  have h4:z4=((N:Int)+8+1)% (2*32+-18446744073709551616*0):=h4
  rw[show(2*32+-18446744073709551616*0:Int)=64 by decide]at h4
  have:z5=0:=by omega
  subst this
  refine⟨by show(0:Int)<=_;omega,by show(0:Int)<2*32+-18446744073709551616*0;decide,λa7 g0 g1 h6 aJ i0 i1 i2 i3=>?_⟩
  have h6:a7=(2*32+(-18446744073709551616*0+(-1*z4+-18446744073709551616*0)))% (2*32+-18446744073709551616*0):=h6
  rw[show(2*32+-18446744073709551616*0:Int)=64 by decide]at h6
  have:aJ=0:=by omega
  subst this
  refine fin _ (by omega) (by omega) ?_
  unfold AK uE
  rw[if_neg (by omega)]
  simp only[sq]
  rw[show(32:Int).toNat=32 from rfl]
  omega
end Go.fZ
namespace Go.fZ
open Go Go.ch
def Z1 (S:Nat->List (List Int)->List (List Int)->Prop) (K:List (List Int)->List (List Int)->Prop):Prop:=
 uF 0 79 λz0=>ar 74 [z0,80]/\uF 489312712824947311 17689382322260857208 λaB=>aB=U
 [4794697086780616226,8158064640168781261,13096744586834688815,16840607885511220156,4131703408338449720,6480981068601479193,10538285296894168987,12329834152419229976,15566598209576043074,1334009975649890238,2608012711638119052,6128411473006802146,8268148722764581231,9286055187155687089,11230858885718282805,13951009754708518548,16472876342353939154,17275323862435702243,1135362057144423861,2597628984639134821,3308224258029322869,5365058923640841347,6679025012923562964,8573033837759648693,10970295158949994411,12119686244451234320,12683024718118986047,13788192230050041572,14330467153632333762,15395433587784984357,489312712824947311,1452737877330783856,2861767655752347644,3322285676063803686,5560940570517711597,5996557281743188959,7280758554555802590,8532644243296465576,9350256976987008742,10552545826968843579,11727347734174303076,12113106623233404929,14000437183269869457,14369950271660146224,15101387698204529176,15463397548674623760,17586052441742319658,1182934255886127544,1847814050463011016,2177327727835720531,2830643537854262169,3796741975233480872,4115178125766777443,5681478168544905931,6601373596472566643,7507060721942968483,8399075790359081724,8693463985226723168,9568029438360202098,10144078919501101548,10430055236837252648,11840083180663258601,13761210420658862357,14299343276471374635,14566680578165727644,15097957966210449927,16922976911328602910,17689382322260857208,500013540394364858,748580250866718886,1242879168328830382,1977374033974150939,2944078676154940804,3659926193048069267,4368137639120453308,4836135668995329356,5532061633213252278,6448918945643986474,6902733635092675308,7801388544844847127]
 (z0).toNat 0->K [[z0]] [[aB]]
def Z8 (S:Nat->List (List Int)->List (List Int)->Prop) (K:List (List Int)->List (List Int)->Prop):Prop:=
 r6 λz0=>(ar 71 [z0]->n0 λaB=>kP λz2=>Ci 20 [z0] λz3=>ar 22 [z0,0,z3]/\iE 22 [z0,0,z3] λz4=>ar 71 [z4]/\r6 λz5=>S 461
 [[z4]] [[z5]]->n0 λa7=>kP λaJ=>Ci 20 [z5] λaI=>ar 22 [z5,0,aI]/\iE 22 [z5,0,aI] λz9=>ar 71 [z9]/\r6 λaP=>S 443 [[z9]]
 [[aP]]->kP λaG=>Ci 20 [aP] λz12=>ar 22 [aP,0,z12]/\iE 22 [aP,0,z12] λai=>ar 73 [ai]/\r6 λaq=>S 465 [[ai]] [[aq]]->kP
 λaF=>Ci 20 [aq] λaO=>ar 30 [63,aO]/\ar 21 [aq,0]/\ar 21 [aq,0]/\ba 21 [aq,0,0] λaH=>ar 21 [aq,1]/\ba 21 [aq,1,0] λ
 aR=>ar 21 [aq,2]/\ba 21 [aq,2,0] λaS=>ar 21 [aq,3]/\ba 21 [aq,3,0] λz20=>ar 21 [aq,4]/\ba 21 [aq,4,0] λz21=>ar 21
 [aq,5]/\ba 21 [aq,5,0] λz22=>ar 21 [aq,6]/\ba 21 [aq,6,0] λaY=>ar 21 [aq,7]/\ba 21 [aq,7,0] λz24=>ar 21 [aq,8]/\ba 21
 [aq,8,0] λbh=>ar 21 [aq,9]/\ba 21 [aq,9,0] λz26=>ar 21 [aq,10]/\ba 21 [aq,10,0] λbo=>ar 21 [aq,11]/\ba 21 [aq,11,0] λ
 z28=>ar 21 [aq,12]/\ba 21 [aq,12,0] λbu=>ar 21 [aq,13]/\ba 21 [aq,13,0] λbt=>ar 21 [aq,14]/\ba 21 [aq,14,0] λz31=>ar 21
 [aq,15]/\ba 21 [aq,15,0] λaL=>ar 21 [aq,16]/\ba 21 [aq,16,0] λa8=>ar 21 [aq,17]/\ba 21 [aq,17,0] λbn=>ar 21 [aq,18]/\
 ba 21 [aq,18,0] λbg=>ar 21 [aq,19]/\ba 21 [aq,19,0] λbB=>ar 21 [aq,20]/\ba 21 [aq,20,0] λz37=>ar 21 [aq,21]/\ba 21
 [aq,21,0] λbP=>ar 21 [aq,22]/\ba 21 [aq,22,0] λbI=>ar 21 [aq,23]/\ba 21 [aq,23,0] λz40=>ar 21 [aq,24]/\ba 21 [aq,24,0] λ
 bY=>ar 21 [aq,25]/\ba 21 [aq,25,0] λbT=>ar 21 [aq,26]/\ba 21 [aq,26,0] λcf=>ar 21 [aq,27]/\ba 21 [aq,27,0] λct=>ar 21
 [aq,28]/\ba 21 [aq,28,0] λb7=>ar 21 [aq,29]/\ba 21 [aq,29,0] λz46=>ar 21 [aq,30]/\ba 21 [aq,30,0] λb6=>ar 21 [aq,31]/\
 ba 21 [aq,31,0] λcd=>ar 21 [aq,32]/\ba 21 [aq,32,0] λz49=>ar 21 [aq,33]/\ba 21 [aq,33,0] λcm=>ar 21 [aq,34]/\ba 21
 [aq,34,0] λz51=>ar 21 [aq,35]/\ba 21 [aq,35,0] λbX=>ar 21 [aq,36]/\ba 21 [aq,36,0] λz53=>ar 21 [aq,37]/\ba 21 [aq,37,0] λ
 cn=>ar 21 [aq,38]/\ba 21 [aq,38,0] λcv=>ar 21 [aq,39]/\ba 21 [aq,39,0] λcA=>ar 21 [aq,40]/\ba 21 [aq,40,0] λcp=>ar 21
 [aq,41]/\ba 21 [aq,41,0] λcx=>ar 21 [aq,42]/\ba 21 [aq,42,0] λz59=>ar 21 [aq,43]/\ba 21 [aq,43,0] λcE=>ar 21 [aq,44]/\
 ba 21 [aq,44,0] λcG=>ar 21 [aq,45]/\ba 21 [aq,45,0] λcH=>ar 21 [aq,46]/\ba 21 [aq,46,0] λcq=>ar 21 [aq,47]/\ba 21
 [aq,47,0] λcU=>ar 21 [aq,48]/\ba 21 [aq,48,0] λc9=>ar 21 [aq,49]/\ba 21 [aq,49,0] λc2=>ar 21 [aq,50]/\ba 21 [aq,50,0] λ
 cX=>ar 21 [aq,51]/\ba 21 [aq,51,0] λdh=>ar 21 [aq,52]/\ba 21 [aq,52,0] λcI=>ar 21 [aq,53]/\ba 21 [aq,53,0] λz70=>ar 21
 [aq,54]/\ba 21 [aq,54,0] λdn=>ar 21 [aq,55]/\ba 21 [aq,55,0] λz72=>ar 21 [aq,56]/\ba 21 [aq,56,0] λcQ=>ar 21 [aq,57]/\
 ba 21 [aq,57,0] λe1=>ar 21 [aq,58]/\ba 21 [aq,58,0] λz75=>ar 21 [aq,59]/\ba 21 [aq,59,0] λz76=>ar 21 [aq,60]/\ba 21
 [aq,60,0] λeK=>ar 21 [aq,61]/\ba 21 [aq,61,0] λdA=>ar 21 [aq,62]/\ba 21 [aq,62,0] λee=>ar 21 [aq,63]/\ba 21 [aq,63,0] λ
 eF=>K [[z0]]
 [[aH,aR,aS,z20,z21,z22,aY,z24,bh,z26,bo,z28,bu,bt,z31,aL,a8,bn,bg,bB,z37,bP,bI,z40,bY,bT,cf,ct,b7,z46,b6,cd,z49,cm,z51,bX,z53,cn,cv,cA,cp,cx,z59,cE,cG,cH,cq,cU,c9,c2,cX,dh,cI,z70,dn,z72,cQ,e1,z75,z76,eK,dA,ee,eF]])
theorem aug:Z1 SB (wQ SB [uu] 467):=by
 intro z0 a0 b2
 refine⟨⟨a0,by omega⟩,λaB fK b8 h1=>⟨⟨by omega,by omega,trivial⟩,?_⟩⟩
 have h1:aB=Jm.getD z0.toNat 0:=h1
 show [[aB]]=[[Jm.getD z0.toNat 0/2^(64-64)]]
 rw[<-h1];simp
theorem xb (z:Int):(bJ z).length=(ak z).length:=by simp[bJ]
theorem s0 {z r:Int} (h:ak r=ak z):bJ r=bJ z:=by unfold bJ;rw[h]
theorem dK {c i z:Int} (h:z=bE 21 [c,i,0]):z=(bJ c).getD i.toNat 0:=by
 rw[h]
 show((ak c).getD i.toNat []).getD (0:Int).toNat 0=_
 unfold bJ
 rw[yr (l:=(ak c).map _),List.getElem?_map,yr (l:=ak c)]
 cases(ak c)[i.toNat]?<;>rfl
theorem U9 (l:List Int) (n:Nat) (h:l.length=n):l=(fY n).map λi=>l.getD i 0:=by
 apply Nn
 ·simp[h]
 ·intro i h1 h2
  simp[U,h1]
theorem axo (p:iJ) (i:Nat) (x:Int) (v:List Int) (h:v.length=8):(Cx p i x v).length=8:=by
 match v,h with
 |[a,b,c,d,e,f,g,k],_=>rfl
theorem ahx (p:iJ):∀(m:List Int) (i:Nat) (v:List Int),v.length=8->(Ev p i m v).length=8
 |[],_,_,h=>h
 |x::m,i,v,h=>ahx p m (i+1) _ (axo p i x v h)
theorem axV (p:iJ) (h m:List Int) (hl:h.length=8):(Jz p h m).length=8:=by
 unfold Jz;rw[List.length_zipWith,ahx p _ _ _ hl,hl];rfl
theorem akY (p:iJ):(C7 p).length=8:=by simp[C7];rfl
theorem ab6 (p:iJ) (b:List Int):∀i,(Ki p b i (C7 p)).length=8
 |0=>akY p
 |i+1=>axV p _ _ (ab6 p b i)
theorem agV (p:iJ):∀(h:List Int),(Ee p h).length=h.length*(p.w/8)
 |[]=>by simp[Ee]
 |x::h=>by
  have:=agV p h
  unfold Ee at*
  simp only[List.flatMap_cons,fQ,qM,aje,this,jS]
  rw[Nat.succ_mul];omega
theorem N1 (p:iJ) (b:List Int):(u7 p b).length=8*(p.w/8):=by unfold u7;rw[agV,ab6]
theorem XL (b:List Int):(AL cL b).length=uE 64 b.length/\128∣uE 64 b.length/\uE 64 b.length<=b.length+200:=by
 have e:uE 64 b.length=(b.length+1+16+127)/128*128:=rfl
 refine⟨?_,⟨(b.length+1+16+127)/128,by rw[e,Nat.mul_comm]⟩,by rw[e];omega⟩
 unfold AL Fh
 simp only[fQ,jS,qL,R2,qM,aje]
 show _+(uE 64 _-_-9)+8=uE 64 _
 rw[e];omega
theorem Aw:∀(n:Nat) (l:List Int),l.length=n->(∀x∈l,0<=x/\x<=255)->af (au 0 255 n) l
 |0,[],_,_=>trivial
 |n+1,x::l,hl,h=>⟨(h x (by simp)).1,(h x (by simp)).2,Aw n l (by simpa using hl) λy hy=>h y (List.mem_cons_of_mem _ hy)⟩
theorem auE:Z8 SB (j4 SB [.d fp] 453):=by
 intro z0 a0 b2 hp aB fK z2 eS c1 z3 d0 d1 h3
 have hp:(ak z0).length<=1000000000:=hp
 have h3:z3=((ak z0).length:Int):=h3
 refine⟨⟨cW _,by omega,by rw[h3];exact cW _⟩,λz4 fF aw h4=>?_⟩
 have h4:=kt h4 h3
 refine⟨by show(ak z4).length<=1000000000;rw[h4];exact hp,λz5 f0 f1 h5 a7 g0 aJ i0 i1 aI AA iS e6=>?_⟩
 have h5:ak z5=ak z4:=h5
 have e6:aI=((ak z5).length:Int):=e6
 refine⟨⟨cW _,by omega,by rw[e6];exact cW _⟩,λz9 D4 k1 dZ=>?_⟩
 have dZ:=kt dZ e6
 have rJ:ak z9=ak z0:=by rw[dZ,h5,h4]
 refine⟨by show(ak z9).length<=1000000000;rw[rJ];exact hp,λaP tk l1 nP aG m0 gW z12 jt a1 iQ=>?_⟩
 have nP:bJ aP=AL cL (bJ z9):=nP
 have iQ:z12=((ak aP).length:Int):=iQ
 rw[s0 rJ]at nP
 obtain⟨bm,cb,cJ⟩:=XL (bJ z0)
 have pQ:(bJ z0).length=(ak z0).length:=xb z0
 refine⟨⟨cW _,by omega,by rw[iQ];exact cW _⟩,λai QA o1 kJ=>?_⟩
 have kJ:=kt kJ iQ
 have Lv:(ak ai).length=uE 64 (bJ z0).length:=by rw[kJ,<-xb,nP,bm]
 refine⟨by show 128∣(ak ai).length/\(ak ai).length<=1000001000;rw[Lv];exact⟨cb,by omega⟩,λaq p0 cz j9 aF r0 r1 aO aT s1 s9=>?_⟩
 have j9:bJ aq=u7 cL (bJ ai):=j9
 rw[s0 kJ,nP]at j9
 have s9:aO=((ak aq).length:Int):=s9
 have Iy:(bJ aq).length=64:=by rw[j9,N1];rfl
 have LD:(ak aq).length=64:=by rw[<-xb,Iy]
 have aW:∀i:Int,0<=i->i<64->ar 21 [aq,i]:=λi h1 h2=>⟨h1,by rw[LD];exact h2⟩
 refine⟨⟨by decide,by omega⟩,aW 0 (by decide) (by decide),?_⟩
 refine⟨aW 0 (by decide) (by decide),?_⟩
 intro aH eU tu t0
 refine⟨aW 1 (by decide) (by decide),?_⟩
 intro aR ag an t1
 refine⟨aW 2 (by decide) (by decide),?_⟩
 intro aS ad aj t2
 refine⟨aW 3 (by decide) (by decide),?_⟩
 intro z20 ao ay t3
 refine⟨aW 4 (by decide) (by decide),?_⟩
 intro z21 cZ pz t4
 refine⟨aW 5 (by decide) (by decide),?_⟩
 intro z22 iV Y3 t5
 refine⟨aW 6 (by decide) (by decide),?_⟩
 intro aY jG Y4 t6
 refine⟨aW 7 (by decide) (by decide),?_⟩
 intro z24 n7 Y5 t7
 refine⟨aW 8 (by decide) (by decide),?_⟩
 intro bh n8 Y6 t8
 refine⟨aW 9 (by decide) (by decide),?_⟩
 intro z26 n9 Y7 t9
 refine⟨aW 10 (by decide) (by decide),?_⟩
 intro bo oA Y0 t10
 refine⟨aW 11 (by decide) (by decide),?_⟩
 intro z28 gX Rt t11
 refine⟨aW 12 (by decide) (by decide),?_⟩
 intro bu jF Y1 t12
 refine⟨aW 13 (by decide) (by decide),?_⟩
 intro bt n6 Y2 t13
 refine⟨aW 14 (by decide) (by decide),?_⟩
 intro z31 wu aix t14
 refine⟨aW 15 (by decide) (by decide),?_⟩
 intro aL wv aiy t15
 refine⟨aW 16 (by decide) (by decide),?_⟩
 intro a8 xW az2 t16
 refine⟨aW 17 (by decide) (by decide),?_⟩
 intro bn xX az3 t17
 refine⟨aW 18 (by decide) (by decide),?_⟩
 intro bg xY az4 t18
 refine⟨aW 19 (by decide) (by decide),?_⟩
 intro bB xZ az5 t19
 refine⟨aW 20 (by decide) (by decide),?_⟩
 intro z37 x0 az7 t20
 refine⟨aW 21 (by decide) (by decide),?_⟩
 intro bP x1 az8 t21
 refine⟨aW 22 (by decide) (by decide),?_⟩
 intro bI x2 az9 t22
 refine⟨aW 23 (by decide) (by decide),?_⟩
 intro z40 x3 aAa t23
 refine⟨aW 24 (by decide) (by decide),?_⟩
 intro bY x4 aAb t24
 refine⟨aW 25 (by decide) (by decide),?_⟩
 intro bT x5 aAc t25
 refine⟨aW 26 (by decide) (by decide),?_⟩
 intro cf x6 aAd t26
 refine⟨aW 27 (by decide) (by decide),?_⟩
 intro ct x7 aAe t27
 refine⟨aW 28 (by decide) (by decide),?_⟩
 intro b7 x8 aAf t28
 refine⟨aW 29 (by decide) (by decide),?_⟩
 intro z46 x9 aAg t29
 refine⟨aW 30 (by decide) (by decide),?_⟩
 intro b6 ya aAh t30
 refine⟨aW 31 (by decide) (by decide),?_⟩
 intro cd yb aAi t31
 refine⟨aW 32 (by decide) (by decide),?_⟩
 intro z49 azw aAj t32
 refine⟨aW 33 (by decide) (by decide),?_⟩
 intro cm azx aAk t33
 refine⟨aW 34 (by decide) (by decide),?_⟩
 intro z51 azy aAl t34
 refine⟨aW 35 (by decide) (by decide),?_⟩
 intro bX azz aAm t35
 refine⟨aW 36 (by decide) (by decide),?_⟩
 intro z53 azA aAn t36
 refine⟨aW 37 (by decide) (by decide),?_⟩
 intro cn azB aAo t37
 refine⟨aW 38 (by decide) (by decide),?_⟩
 intro cv azC aAp t38
 refine⟨aW 39 (by decide) (by decide),?_⟩
 intro cA azD aAq t39
 refine⟨aW 40 (by decide) (by decide),?_⟩
 intro cp azE aAr t40
 refine⟨aW 41 (by decide) (by decide),?_⟩
 intro cx azF aAs t41
 refine⟨aW 42 (by decide) (by decide),?_⟩
 intro z59 azG aAt t42
 refine⟨aW 43 (by decide) (by decide),?_⟩
 intro cE azH aAu t43
 refine⟨aW 44 (by decide) (by decide),?_⟩
 intro cG azI aAv t44
 refine⟨aW 45 (by decide) (by decide),?_⟩
 intro cH azJ aAw t45
 refine⟨aW 46 (by decide) (by decide),?_⟩
 intro cq azK aAx t46
 refine⟨aW 47 (by decide) (by decide),?_⟩
 intro cU azL aAy t47
 refine⟨aW 48 (by decide) (by decide),?_⟩
 intro c9 azM aAz t48
 refine⟨aW 49 (by decide) (by decide),?_⟩
 intro c2 azN aAA t49
 refine⟨aW 50 (by decide) (by decide),?_⟩
 intro cX azO aAB t50
 refine⟨aW 51 (by decide) (by decide),?_⟩
 intro dh azP aAC t51
 refine⟨aW 52 (by decide) (by decide),?_⟩
 intro cI azQ aAD t52
 refine⟨aW 53 (by decide) (by decide),?_⟩
 intro z70 azR aAE t53
 refine⟨aW 54 (by decide) (by decide),?_⟩
 intro dn azS aAF t54
 refine⟨aW 55 (by decide) (by decide),?_⟩
 intro z72 azT aAG t55
 refine⟨aW 56 (by decide) (by decide),?_⟩
 intro cQ azU aAH t56
 refine⟨aW 57 (by decide) (by decide),?_⟩
 intro e1 azV aAI t57
 refine⟨aW 58 (by decide) (by decide),?_⟩
 intro z75 azW aAJ t58
 refine⟨aW 59 (by decide) (by decide),?_⟩
 intro z76 azX aAK t59
 refine⟨aW 60 (by decide) (by decide),?_⟩
 intro eK azY aAL t60
 refine⟨aW 61 (by decide) (by decide),?_⟩
 intro dA azZ aAM t61
 refine⟨aW 62 (by decide) (by decide),?_⟩
 intro ee az0 aAN t62
 refine⟨aW 63 (by decide) (by decide),?_⟩
 intro eF az1 aAO t63
 have dL:[aH,aR,aS,z20,z21,z22,aY,z24,bh,z26,bo,z28,bu,bt,z31,aL,a8,bn,bg,bB,z37,bP,bI,z40,bY,bT,cf,ct,b7,z46,b6,cd,z49,cm,z51,bX,z53,cn,cv,cA,cp,cx,z59,cE,cG,cH,cq,cU,c9,c2,cX,dh,cI,z70,dn,z72,cQ,e1,z75,z76,eK,dA,ee,eF]=bJ aq:=by
  rw[dK t0,dK t1,dK t2,dK t3,dK t4,dK t5,dK t6,dK t7,dK t8,dK t9,dK t10,dK t11,dK t12,dK t13,dK t14,dK t15,dK t16,dK t17,dK t18,dK t19,dK t20,dK t21,dK t22,dK t23,dK t24,dK t25,dK t26,dK t27,dK t28,dK t29,dK t30,dK t31,dK t32,dK t33,dK t34,dK t35,dK t36,dK t37,dK t38,dK t39,dK t40,dK t41,dK t42,dK t43,dK t44,dK t45,dK t46,dK t47,dK t48,dK t49,dK t50,dK t51,dK t52,dK t53,dK t54,dK t55,dK t56,dK t57,dK t58,dK t59,dK t60,dK t61,dK t62,dK t63]
  exact(U9 (bJ aq) 64 Iy).symm
 refine⟨?_,?_⟩
 ·show af (au 0 255 64++[]) _
  rw[gZ]
  exact Aw 64 _ rfl λx hx=>by
   simp only[uT,G4,gZ,pD,yp,or_false]at hx
   rcases hx with rfl|rfl|rfl|rfl|rfl|rfl|rfl|rfl|rfl|rfl|rfl|rfl|rfl|rfl|rfl|rfl|rfl|rfl|rfl|rfl|rfl|rfl|rfl|rfl|rfl|rfl|rfl|rfl|rfl|rfl|rfl|rfl|rfl|rfl|rfl|rfl|rfl|rfl|rfl|rfl|rfl|rfl|rfl|rfl|rfl|rfl|rfl|rfl|rfl|rfl|rfl|rfl|rfl|rfl|rfl|rfl|rfl|rfl|rfl|rfl|rfl|rfl|rfl|rfl
   ·exact⟨eU,tu⟩
   ·exact⟨ag,an⟩
   ·exact⟨ad,aj⟩
   ·exact⟨ao,ay⟩
   ·exact⟨cZ,pz⟩
   ·exact⟨iV,Y3⟩
   ·exact⟨jG,Y4⟩
   ·exact⟨n7,Y5⟩
   ·exact⟨n8,Y6⟩
   ·exact⟨n9,Y7⟩
   ·exact⟨oA,Y0⟩
   ·exact⟨gX,Rt⟩
   ·exact⟨jF,Y1⟩
   ·exact⟨n6,Y2⟩
   ·exact⟨wu,aix⟩
   ·exact⟨wv,aiy⟩
   ·exact⟨xW,az2⟩
   ·exact⟨xX,az3⟩
   ·exact⟨xY,az4⟩
   ·exact⟨xZ,az5⟩
   ·exact⟨x0,az7⟩
   ·exact⟨x1,az8⟩
   ·exact⟨x2,az9⟩
   ·exact⟨x3,aAa⟩
   ·exact⟨x4,aAb⟩
   ·exact⟨x5,aAc⟩
   ·exact⟨x6,aAd⟩
   ·exact⟨x7,aAe⟩
   ·exact⟨x8,aAf⟩
   ·exact⟨x9,aAg⟩
   ·exact⟨ya,aAh⟩
   ·exact⟨yb,aAi⟩
   ·exact⟨azw,aAj⟩
   ·exact⟨azx,aAk⟩
   ·exact⟨azy,aAl⟩
   ·exact⟨azz,aAm⟩
   ·exact⟨azA,aAn⟩
   ·exact⟨azB,aAo⟩
   ·exact⟨azC,aAp⟩
   ·exact⟨azD,aAq⟩
   ·exact⟨azE,aAr⟩
   ·exact⟨azF,aAs⟩
   ·exact⟨azG,aAt⟩
   ·exact⟨azH,aAu⟩
   ·exact⟨azI,aAv⟩
   ·exact⟨azJ,aAw⟩
   ·exact⟨azK,aAx⟩
   ·exact⟨azL,aAy⟩
   ·exact⟨azM,aAz⟩
   ·exact⟨azN,aAA⟩
   ·exact⟨azO,aAB⟩
   ·exact⟨azP,aAC⟩
   ·exact⟨azQ,aAD⟩
   ·exact⟨azR,aAE⟩
   ·exact⟨azS,aAF⟩
   ·exact⟨azT,aAG⟩
   ·exact⟨azU,aAH⟩
   ·exact⟨azV,aAI⟩
   ·exact⟨azW,aAJ⟩
   ·exact⟨azX,aAK⟩
   ·exact⟨azY,aAL⟩
   ·exact⟨azZ,aAM⟩
   ·exact⟨az0,aAN⟩
   ·exact⟨az1,aAO⟩
 ·show [[aH,aR,aS,z20,z21,z22,aY,z24,bh,z26,bo,z28,bu,bt,z31,aL,a8,bn,bg,bB,z37,bP,bI,z40,bY,bT,cf,ct,b7,z46,b6,cd,z49,cm,z51,bX,z53,cn,cv,cA,cp,cx,z59,cE,cG,cH,cq,cU,c9,c2,cX,dh,cI,z70,dn,z72,cQ,e1,z75,z76,eK,dA,ee,eF]]=[sc cL (bJ z0)]
  rw[dL,j9];rfl
end Go.fZ
namespace Go.fZ
open Go Go.ch
def Z7 (S:Nat->List (List Int)->List (List Int)->Prop) (K:List (List Int)->List (List Int)->Prop):Prop:=
 r6 λz0=>(ar 71 [z0]->n0 λaB=>kP λz2=>Ci 20 [z0] λz3=>uF (-9223372036854775808) 9223372036854775807 λz4=>S 440 [[z3],[64]] [[z4]]->
 ar 49 [z4,z4]/\iE 26 [z4,0] λz5=>kP λa7=>ar 80 [z5,0,z4]/\ar 22 [z0,0,z3]/\Ci 62 [z3,z4] λaJ=>iE 22 [z0,0,aJ] λaI=>iE 63
 [z5,0,aI] λz9=>ar 30 [z3,z4]/\ar 21 [z9,z3]/\(ar 67 [z9,z3,1]->iE 42 [z9,z3,0,128] λaP=>hZ 0 3 (8*z3) 18446744073709551616 λaG=>∃
 (SK:List (List Int)->Prop) (ajh:List (List Int)->Nat),SK [[((8*z3)+((-18446744073709551616)*aG))],[(z4+(-1))],[aP]]/\(r5 λai=>kP λ
 aq=>r6 λaF=>SK [[ai],[aq],[aF]]->(r4 (decide (0<ai)) (hZ 0 72057594037927935 ai 256 λaO=>ar 30 [aq,z4]/\ar 21 [aF,aq]/\(ar
 67 [aF,aq,1]->iE 42 [aF,aq,0,(ai+((-256)*aO))] λaH=>hZ 0 72057594037927935 ai 256 λaR=>ar 39 [(aq+(-1)),(-1),9223372036854775807]
 /\(SK [[aR],[(aq+(-1))],[aH]]/\ajh [[aR],[(aq+(-1))],[aH]]<ajh [[ai],[aq],[aF]]))) (ar 22 [aF,0,z4]/\iE 22 [aF,0,z4] λaO=>K
 [[z0]] [[aO]])))))
def rws (l:List Int):List (List Int):=l.map λx=>[x]
theorem Ub {z:Int} {l:List Int} (h:ak z=rws l):bJ z=l:=by
 unfold bJ rws at*
 rw[h,p8]
 exact(kD λx _=>rfl).trans (Ng l)
theorem Cv (l:List Int):(rws l).length=l.length:=by simp[rws]
theorem ahz (a b:List Int):rws (a++b)=rws a++rws b:=by simp[rws]
theorem Yk (n:Nat) (x:Int):rws (e9 n x)=e9 n [x]:=by simp[rws]
def uN (v:Nat) (j:Nat):List Int:=(fY j).map λq=>((v/256^(j-1-q)% 256:Nat):Int)
theorem ax0 (v j:Nat):(uN v j).length=j:=by simp[uN]
theorem aid (v j:Nat):uN v (j+1)=((v/256^j% 256:Nat):Int)::uN v j:=by
 unfold uN
 rw[List.range_succ_eq_map,List.map_cons,p8]
 refine congr (congrArg _ (by simp)) (kD λq ah=>?_)
 have:q<j:=List.mem_range.1 ah
 simp only[Nh]
 rw[show j+1-1-(q+1)=j-1-q by omega]
theorem axZ (v:Nat):∀(d j:Nat),j+d=8->v/256^j=0->Fh v=e9 (8-j) 0++uN v j:=by
 have base:Fh v=uN v 8:=by
  unfold Fh uN
  refine kD λq ah=>?_
  have:q<8:=List.mem_range.1 ah
  have e:(256:Nat)^(8-1-q)=2^(56-8*q):=by
   rw[show(256:Nat)=2^8 by rfl,<-Nat.pow_mul];congr 1;omega
  rw[e]
 intro d
 induction d with
 |zero=>
  intro j aK _
  have:j=8:=by omega
  subst this
  simpa using base
 |succ d ih=>
  intro j aK h0
  have h1:v/256^(j+1)=0:=by rw[yq,<-Nb,h0]
  rw[ih (j+1) (by omega) h1,aid,h0,show 8-j=(8-(j+1))+1 by omega,aB4]
  simp
theorem ahT {α:Type} (a b:List α) (x y:α) (n:Nat) (h:a.length=n):(a++x::b).set n y=a++y::b:=by
 subst h
 induction a with
 |nil=>rfl
 |cons z a ih=>simp[ih]
theorem adS {α:Type} (a b:List α) (x d:α) (n:Nat) (h:a.length=n):(a++x::b).getD n d=x:=by
 subst h
 simp[U]
theorem auC:Z7 SB (j4 SB [QK] 443):=by
 intro z0 a0 b2 hp aB fK z2 eS c1 z3 d0 d1 h3 z4 fF aw h4
 have hp:(ak z0).length<=1000000000:=hp
 have h3:z3=((ak z0).length:Int):=h3
 have h4:[[z4]]=[[AK z3 64]]:=h4
 obtain⟨n,hn⟩:∃n,(ak z0).length=n:=⟨_,rfl⟩
 rw[hn]at h3 hp
 have Lc:(bJ z0).length=n:=by rw[xb,hn]
 obtain⟨P,Vp⟩:∃P,uE 64 n=P:=⟨_,rfl⟩
 have aFo:P=(n+1+16+127)/128*128:=Vp.symm
 have h4:z4=(P:Int):=by
  have:z4=AK z3 64:=by simpa using h4
  rw[this];unfold AK
  rw[if_neg (by omega),h3]
  simp only[sq]
  rw[show(64:Int).toNat=64 from rfl,Vp]
 have g1:n+9<=P:=by omega
 have g2:P<=1000001000:=by omega
 refine⟨⟨by omega,by omega,by omega⟩,λz5 f0 f1 h5 a7 i0 i1=>?_⟩
 have h5:ak z5=rws (e9 P 0):=by
  rw[h5]
  show ak (rc (e9 z4.toNat [0]))=_
  rw[kh,Yk,h4];simp
 have xx:(ak z5).length=P:=by rw[h5,Cv];simp
 refine⟨⟨cW _,by omega,by rw[xx];omega⟩,⟨cW _,by omega,by rw[hn];omega⟩,λaJ AA iS h7 aI D4 k1 e6 z9 m0 gW dZ=>?_⟩
 have h7:aJ=(n:Int):=by
  have:aJ=min z3 z4:=h7
  rw[this,h3,h4];omega
 have e6:ak aI=ak z0:=kt e6 (by rw[h7,hn])
 obtain⟨aJ5,LS⟩:∃l:List (List Int),ak z0=l:=⟨_,rfl⟩
 have dZ:ak z9=ak z0++rws (0::e9 (P-n-1) 0):=by
  rw[dZ]
  show ak (rc ((ak z5).take (0:Int).toNat++ak aI++(ak z5).drop ((0:Int).toNat+(ak aI).length)))=_
  rw[kh,e6,h5,hn]
  simp only[ZE,qN,gp,yk]
  congr 1
  rw[Yk,List.drop_replicate,<-List.replicate_succ,Yk]
  rw[show P-n-1+1=P-n by omega]
 have jQ:(ak z9).length=P:=by rw[dZ,fQ,hn,Cv];simp;omega
 refine⟨⟨by omega,by omega⟩,⟨by omega,by rw[jQ];omega⟩,λ_ aP jt a1 nP aG QA o1 vE agE=>?_⟩
 have:aG=0:=by omega
 subst this
 have nP:ak aP=ak z0++rws (128::e9 (P-n-1) 0):=by
  rw[nP]
  show ak (rc ((ak z9).set z3.toNat (((ak z9).getD z3.toNat []).take (0:Int).toNat++[128]++((ak z9).getD z3.toNat []).drop ((0:Int).toNat+[(128:Int)].length))))=_
  have aw:rws (0::e9 (P-n-1) 0)=[0]::rws (e9 (P-n-1) 0):=rfl
  have aD:rws (128::e9 (P-n-1) 0)=[128]::rws (e9 (P-n-1) 0):=rfl
  have hl:(ak z0).length=z3.toNat:=by rw[hn,h3];simp
  rw[kh,dZ,aw,aD,adS _ _ _ _ _ hl]
  simp only[ZE,qN,gp,aB5,tz,qe,yk,gZ]
  exact ahT _ _ _ _ _ hl
 refine⟨λl=>∃(j:Nat) (c:Int),j<=8/\l=[[((8*n/256^j:Nat):Int)],[(P:Int)-1-j],[c]]/\ak c=ak z0++rws (128::e9 (P-n-1-j) 0++uN (8*n) j),λl=>((l.getD 0 []).getD 0 0).toNat,⟨0,aP,by decide,by
  rw[Nat.pow_zero,Nat.div_one,show(8*z3+-18446744073709551616*0:Int)=((8*n:Nat):Int) by omega,show(z4+-1:Int)=(P:Int)-1-((0:Nat):Int) by omega],by rw[nP];simp[uN]⟩,?_⟩
 intro ai p0 cz aq e4 bm aF r0 r1 gU
 obtain⟨j,c,aK,hl,hc⟩:=gU
 simp only[qK,and_true]at hl
 obtain⟨O5,yF,HS⟩:=hl
 subst HS
 have j0:(ak aF).length=P:=by
  rw[hc,fQ,hn,Cv]
  simp only[fQ,jS,R2,ax0]
  omega
 refine⟨λrR=>?_,λPU=>⟨⟨cW _,by omega,by rw[j0];omega⟩,λaO aT s1 s9=>⟨⟨aT,s1,trivial⟩,?_⟩⟩⟩
 ·have rR:=of_decide_eq_true rR
  intro aO aT s1 s2 bS
  have aFw:j<8:=by
   rcases Nat.lt_or_ge j 8 with h|h
   ·exact h
   ·have:j=8:=by omega
    subst this
    have:8*n/256^8=0:=Zh (by omega)
    omega
  refine⟨⟨by omega,by omega⟩,⟨by omega,by rw[j0];omega⟩,λ_ aH t0 t1 K0 aR uO qD sQ A0=>?_⟩
  have P0:ak aF=ak z0++rws ((128::e9 (P-n-1-j-1) 0)++0::uN (8*n) j):=by
   rw[hc];congr 2
   rw[show P-n-1-j=(P-n-1-j-1)+1 by omega,aB4]
   simp
  have aqm:ak aH=ak z0++rws ((128::e9 (P-n-1-j-1) 0)++(ai+-256*aO)::uN (8*n) j):=by
   rw[K0]
   show ak (rc ((ak aF).set aq.toNat (((ak aF).getD aq.toNat []).take (0:Int).toNat++[ai+-256*aO]++((ak aF).getD aq.toNat []).drop ((0:Int).toNat+[ai+-256*aO].length))))=_
   have aw:∀x:Int,ak z0++rws ((128::e9 (P-n-1-j-1) 0)++x::uN (8*n) j)=(ak z0++rws (128::e9 (P-n-1-j-1) 0))++[x]::rws (uN (8*n) j):=λx=>by
    rw[ahz,nI];rfl
   have hl:(ak z0++rws (128::e9 (P-n-1-j-1) 0)).length=aq.toNat:=by
    rw[fQ,hn,Cv]
    simp only[jS,R2]
    omega
   rw[kh,P0,aw,aw,adS _ _ _ _ _ hl]
   simp only[ZE,qN,gp,aB5,tz,qe,yk,gZ]
   exact ahT _ _ _ _ _ hl
  have xf:aO=ai/256:=by omega
  have Dq:aR=ai/256:=by omega
  refine⟨⟨by omega,by omega⟩,⟨j+1,aH,by omega,?_,?_⟩,?_⟩
  ·rw[show aR=((8*n/256^(j+1):Nat):Int) by rw[yq,<-Nb,Dq,O5];simp,show(aq+-1:Int)=(P:Int)-1-((j+1:Nat):Int) by omega]
  ·rw[aqm,aid]
   congr 2
   rw[show P-n-1-(j+1)=P-n-1-j-1 by omega]
   congr 2
   rw[xf,O5];omega
  ·show aR.toNat<ai.toNat
   omega
 ·have PU:=of_decide_eq_false PU
  have h0:8*n/256^j=0:=by omega
  show bJ aO=AL cL (bJ z0)
  have s9:=kt s9 (by rw[j0,h4])
  have fF:ak aF=ak z0++rws (128::e9 (P-n-9) 0++Fh (8*n)):=by
   rw[hc,axZ (8*n) (8-j) j (by omega) h0]
   congr 2
   rw[show P-n-1-j=(P-n-9)+(8-j) by omega,<-List.replicate_append_replicate]
   simp only[List.cons_append,nI]
  unfold AL
  rw[Lc,show cL.w=64 from rfl,Vp]
  unfold bJ
  rw[s9,fF,jf]
  have:=Ub (z:=rc (rws (128::e9 (P-n-9) 0++Fh (8*n)))) (kh _)
  unfold bJ at this
  rw[kh]at this
  rw[this]
  simp
end Go.fZ
namespace Go.fZ
open Go Go.ch
theorem adj (p:iJ):∀(j:Nat) (m:List Int),Ak p (j+1) m=Ak p j m++[IY p (Ak p j m)]
 |0,m=>rfl
 |j+1,m=>by
  show Ak p (j+1) (m++[IY p m])=_
  rw[adj p j];rfl
theorem adi (p:iJ):∀(j:Nat) (m:List Int),(Ak p j m).length=m.length+j
 |0,_=>rfl
 |j+1,m=>by
  show(Ak p j (m++[IY p m])).length=_
  rw[adi p j];simp;omega
theorem ahy (p:iJ):∀(m:List Int) (i:Nat) (x:Int) (v:List Int),Ev p i (m++[x]) v=Cx p (i+m.length) x (Ev p i m v)
 |[],i,x,v=>rfl
 |y::m,i,x,v=>by
  show Ev p (i+1) (m++[x]) _=Cx p _ x (Ev p (i+1) m _)
  rw[ahy p m]
  congr 1
  simp only[jS];omega
theorem axW (m:List Int) (i:Nat) (h:i<m.length):m.take (i+1)=m.take i++[m.getD i 0]:=by
 rw[List.take_add_one,qJ h];simp[U,h]
theorem arQ {r:List Int} (h:r.length=8):r=[r.getD 0 0,r.getD 1 0,r.getD 2 0,r.getD 3 0,r.getD 4 0,r.getD 5 0,r.getD 6 0,r.getD 7 0]:=U9 r 8 h
theorem rL {c z x:Int} {l:List Int} (h:z=bE 23 [c,x]) (hc:ak c=rws l):ak z=rws (l++[x]):=by
 rw[h]
 show ak (rc (ak c++[[x]]))=_
 rw[kh,hc,ahz];rfl
theorem KU {c i z:Int} {l:List Int} (h:z=bE 21 [c,i,0]) (hc:ak c=rws l):z=l.getD i.toNat 0:=by
 rw[dK h,Ub hc]
theorem WI {lo hi:Int}:∀(n:Nat) (l:List Int),af (au lo hi n) l->l.length=n/\∀x∈l,lo<=x/\x<=hi
 |0,[],_=>⟨rfl,λ_ h=>by cases h⟩
 |n+1,x::l,h=>by
  obtain⟨h1,h2⟩:=WI n l h.2.2
  refine⟨by simp[h1],λy hy=>?_⟩
  rcases List.mem_cons.1 hy with rfl|hy
  ·exact⟨h.1,h.2.1⟩
  ·exact h2 y hy
 |0,_::_,h=>h.elim
 |_+1,[],h=>h.elim
theorem al7 (b:List Int) (o n k:Nat) (ab:k<n):((b.drop o).take n).getD k 0=b.getD (o+k) 0:=by
 simp only[U,List.getElem?_take,List.getElem?_drop,ab,if_true]
theorem Ez {x c l k:Int} {pre:List Int} {Next:Int->Int->Int->Prop} (hc:ak c=rws pre) (hl:l=(pre.length:Int)) (hb:pre.length<=1000)
 (hn:∀eR l' bD:Int,0<=eR->eR<=bU->ak eR=rws (pre++(fY 8).map (xc cL x))->l'=((pre.length+8:Nat):Int)->Next eR l' bD):
 ∃(mZ:List (List Int)->Prop) (pH:List (List Int)->Nat),mZ [[7],[c],[l],[k]]/\(∀aF:Int,(-1)<=aF->aF<=7->∀aO:Int,0<=aO->aO<=bU->∀aH:Int,0<=aH->aH<=9223372036854775807->∀aR:Int,(-1)<=aR->aR<=9223372036854775807->mZ [[aF],[aO],[aH],[aR]]->
 (((decide (0<=aF))=true->
  ∀aS:Int,0<=aS->aS<=18446744073709551615->aS=x/2^((8*aF)).toNat->
  ∀z20:Int,0<=z20->z20<=72057594037927935->0<=aS-256*z20->aS-256*z20<256->
  ar 31 [aO,aH]/\
  ar 23 [aO,1]/\
  ∀z21:Int,0<=z21->z21<=bU->z21=bE 23 [aO,(aS+((-256)*z20))]->
  ∀z22:Int,(-1)<=z22->z22<=9223372036854775807->
  (mZ [[(aF+(-1))],[z21],[(aH+1)],[z22]]/\pH [[(aF+(-1))],[z21],[(aH+1)],[z22]]<pH [[aF],[aO],[aH],[aR]])
 )/\((decide (0<=aF))=false->Next aO aH aR))):=by
 refine⟨λl=>∃(j:Nat) (eR bD:Int),j<=8/\l=[[7-(j:Int)],[eR],[((pre.length+j:Nat):Int)],[bD]]/\ak eR=rws (pre++(fY j).map (xc cL x)),λl=>((l.getD 0 []).getD 0 0+1).toNat,⟨0,c,k,by decide,by rw[hl];rfl,by rw[hc];simp⟩,?_⟩
 intro aF a0 b2 aO fK b8 aH eS c1 aR d0 d1 ⟨j,eR,bD,aK,e,hr⟩
 simp only[qK,and_true]at e
 obtain⟨aw,aD,cj,hV⟩:=e
 subst aD
 have hlen:(ak aO).length=pre.length+j:=by rw[hr,Cv];simp
 refine⟨λh aS f0 f1 f2 z20 g0 g1 g2 g3=>?_,λh=>?_⟩
 ·have h:=of_decide_eq_true h
  refine⟨by show aH=((ak aO).length:Int);rw[hlen,cj],by show(ak aO).length+(1:Int)<=1073741824;rw[hlen];omega,λz21 i0 i1 i2 z22 AA iS=>⟨⟨j+1,z21,z22,by omega,?_,?_⟩,?_⟩⟩
  ·rw[show aF+-1=7-((j+1:Nat):Int) by omega,show aH+1=((pre.length+(j+1):Nat):Int) by omega]
  ·rw[rL i2 hr,nI,List.range_succ,jf]
   congr 3
   show [aS+-256*z20]=[x/2^(64-8-8*j)% 256]
   have:(8*aF).toNat=64-8-8*j:=by omega
   rw[<-this,<-f2]
   congr 1;omega
  ·show(aF+-1+1).toNat<(aF+1).toNat
   omega
 ·have h:=of_decide_eq_false h
  have:j=8:=by omega
  subst this
  exact hn aO aH aR fK b8 hr cj
end Go.fZ
namespace Go.fZ
open Go Go.ch
theorem agd {L S M k:Int} (h:L=S-M*k) (h1:0<=L) (h2:L<M):L=S% M:=by
 have e:S=L+M*k:=by omega
 rw[e,zx,p9 h1 h2]
end Go.fZ
namespace Go.fZ
open Go Go.ch
def ZQ (S:Nat->List (List Int)->List (List Int)->Prop) (K:List (List Int)->List (List Int)->Prop):Prop:=
 r6 λz0=>(ar 73 [z0]->n0 λaB=>kP λz2=>Ci 20 [z0] λz3=>ar 70 [z3,128]/\∃(SU:List (List Int)->Prop) (ajq:List (List Int)->
 Nat),SU
 [[7640891576956012808,13503953896175478587,4354685564936845355,11912009170470909681,5840696475078001361,11170449401992604703,2270897969802886507,6620516959819538809],[0]]
 /\(∀av:List Int,af (au 0 18446744073709551615 8) av->y8 λai=>SU [av,[ai]]->(r4 (decide ((128*ai)<z3)) (ar 21 [z0,(128*ai)]/\ba 21
 [z0,(128*ai),0] λaq=>ar 21 [z0,((128*ai)+1)]/\ba 21 [z0,((128*ai)+1),0] λaF=>ar 21 [z0,((128*ai)+2)]/\ba 21 [z0,((128*
 ai)+2),0] λaO=>ar 21 [z0,((128*ai)+3)]/\ba 21 [z0,((128*ai)+3),0] λaH=>ar 21 [z0,((128*ai)+4)]/\ba 21 [z0,((128*ai)+
 4),0] λaR=>ar 21 [z0,((128*ai)+5)]/\ba 21 [z0,((128*ai)+5),0] λaS=>ar 21 [z0,((128*ai)+6)]/\ba 21 [z0,((128*ai)+6),0]
 λz20=>ar 21 [z0,((128*ai)+7)]/\ba 21 [z0,((128*ai)+7),0] λz21=>ar 21 [z0,((128*ai)+8)]/\ba 21 [z0,((128*ai)+8),0] λz22
 =>ar 21 [z0,((128*ai)+9)]/\ba 21 [z0,((128*ai)+9),0] λaY=>ar 21 [z0,((128*ai)+10)]/\ba 21 [z0,((128*ai)+10),0] λz24=>
 ar 21 [z0,((128*ai)+11)]/\ba 21 [z0,((128*ai)+11),0] λbh=>ar 21 [z0,((128*ai)+12)]/\ba 21 [z0,((128*ai)+12),0] λz26=>
 ar 21 [z0,((128*ai)+13)]/\ba 21 [z0,((128*ai)+13),0] λbo=>ar 21 [z0,((128*ai)+14)]/\ba 21 [z0,((128*ai)+14),0] λz28=>
 ar 21 [z0,((128*ai)+15)]/\ba 21 [z0,((128*ai)+15),0] λbu=>ar 21 [z0,((128*ai)+16)]/\ba 21 [z0,((128*ai)+16),0] λbt=>
 ar 21 [z0,((128*ai)+17)]/\ba 21 [z0,((128*ai)+17),0] λz31=>ar 21 [z0,((128*ai)+18)]/\ba 21 [z0,((128*ai)+18),0] λaL=>
 ar 21 [z0,((128*ai)+19)]/\ba 21 [z0,((128*ai)+19),0] λa8=>ar 21 [z0,((128*ai)+20)]/\ba 21 [z0,((128*ai)+20),0] λbn=>
 ar 21 [z0,((128*ai)+21)]/\ba 21 [z0,((128*ai)+21),0] λbg=>ar 21 [z0,((128*ai)+22)]/\ba 21 [z0,((128*ai)+22),0] λbB=>
 ar 21 [z0,((128*ai)+23)]/\ba 21 [z0,((128*ai)+23),0] λz37=>ar 21 [z0,((128*ai)+24)]/\ba 21 [z0,((128*ai)+24),0] λbP=>
 ar 21 [z0,((128*ai)+25)]/\ba 21 [z0,((128*ai)+25),0] λbI=>ar 21 [z0,((128*ai)+26)]/\ba 21 [z0,((128*ai)+26),0] λz40=>
 ar 21 [z0,((128*ai)+27)]/\ba 21 [z0,((128*ai)+27),0] λbY=>ar 21 [z0,((128*ai)+28)]/\ba 21 [z0,((128*ai)+28),0] λbT=>
 ar 21 [z0,((128*ai)+29)]/\ba 21 [z0,((128*ai)+29),0] λcf=>ar 21 [z0,((128*ai)+30)]/\ba 21 [z0,((128*ai)+30),0] λct=>
 ar 21 [z0,((128*ai)+31)]/\ba 21 [z0,((128*ai)+31),0] λb7=>ar 21 [z0,((128*ai)+32)]/\ba 21 [z0,((128*ai)+32),0] λz46=>
 ar 21 [z0,((128*ai)+33)]/\ba 21 [z0,((128*ai)+33),0] λb6=>ar 21 [z0,((128*ai)+34)]/\ba 21 [z0,((128*ai)+34),0] λcd=>
 ar 21 [z0,((128*ai)+35)]/\ba 21 [z0,((128*ai)+35),0] λz49=>ar 21 [z0,((128*ai)+36)]/\ba 21 [z0,((128*ai)+36),0] λcm=>
 ar 21 [z0,((128*ai)+37)]/\ba 21 [z0,((128*ai)+37),0] λz51=>ar 21 [z0,((128*ai)+38)]/\ba 21 [z0,((128*ai)+38),0] λbX=>
 ar 21 [z0,((128*ai)+39)]/\ba 21 [z0,((128*ai)+39),0] λz53=>ar 21 [z0,((128*ai)+40)]/\ba 21 [z0,((128*ai)+40),0] λcn=>
 ar 21 [z0,((128*ai)+41)]/\ba 21 [z0,((128*ai)+41),0] λcv=>ar 21 [z0,((128*ai)+42)]/\ba 21 [z0,((128*ai)+42),0] λcA=>
 ar 21 [z0,((128*ai)+43)]/\ba 21 [z0,((128*ai)+43),0] λcp=>ar 21 [z0,((128*ai)+44)]/\ba 21 [z0,((128*ai)+44),0] λcx=>
 ar 21 [z0,((128*ai)+45)]/\ba 21 [z0,((128*ai)+45),0] λz59=>ar 21 [z0,((128*ai)+46)]/\ba 21 [z0,((128*ai)+46),0] λcE=>
 ar 21 [z0,((128*ai)+47)]/\ba 21 [z0,((128*ai)+47),0] λcG=>ar 21 [z0,((128*ai)+48)]/\ba 21 [z0,((128*ai)+48),0] λcH=>
 ar 21 [z0,((128*ai)+49)]/\ba 21 [z0,((128*ai)+49),0] λcq=>ar 21 [z0,((128*ai)+50)]/\ba 21 [z0,((128*ai)+50),0] λcU=>
 ar 21 [z0,((128*ai)+51)]/\ba 21 [z0,((128*ai)+51),0] λc9=>ar 21 [z0,((128*ai)+52)]/\ba 21 [z0,((128*ai)+52),0] λc2=>
 ar 21 [z0,((128*ai)+53)]/\ba 21 [z0,((128*ai)+53),0] λcX=>ar 21 [z0,((128*ai)+54)]/\ba 21 [z0,((128*ai)+54),0] λdh=>
 ar 21 [z0,((128*ai)+55)]/\ba 21 [z0,((128*ai)+55),0] λcI=>ar 21 [z0,((128*ai)+56)]/\ba 21 [z0,((128*ai)+56),0] λz70=>
 ar 21 [z0,((128*ai)+57)]/\ba 21 [z0,((128*ai)+57),0] λdn=>ar 21 [z0,((128*ai)+58)]/\ba 21 [z0,((128*ai)+58),0] λz72=>
 ar 21 [z0,((128*ai)+59)]/\ba 21 [z0,((128*ai)+59),0] λcQ=>ar 21 [z0,((128*ai)+60)]/\ba 21 [z0,((128*ai)+60),0] λe1=>
 ar 21 [z0,((128*ai)+61)]/\ba 21 [z0,((128*ai)+61),0] λz75=>ar 21 [z0,((128*ai)+62)]/\ba 21 [z0,((128*ai)+62),0] λz76=>
 ar 21 [z0,((128*ai)+63)]/\ba 21 [z0,((128*ai)+63),0] λeK=>ar 21 [z0,((128*ai)+64)]/\ba 21 [z0,((128*ai)+64),0] λdA=>
 ar 21 [z0,((128*ai)+65)]/\ba 21 [z0,((128*ai)+65),0] λee=>ar 21 [z0,((128*ai)+66)]/\ba 21 [z0,((128*ai)+66),0] λeF=>
 ar 21 [z0,((128*ai)+67)]/\ba 21 [z0,((128*ai)+67),0] λfH=>ar 21 [z0,((128*ai)+68)]/\ba 21 [z0,((128*ai)+68),0] λfk=>
 ar 21 [z0,((128*ai)+69)]/\ba 21 [z0,((128*ai)+69),0] λeV=>ar 21 [z0,((128*ai)+70)]/\ba 21 [z0,((128*ai)+70),0] λfI=>
 ar 21 [z0,((128*ai)+71)]/\ba 21 [z0,((128*ai)+71),0] λz85=>ar 21 [z0,((128*ai)+72)]/\ba 21 [z0,((128*ai)+72),0] λfv=>
 ar 21 [z0,((128*ai)+73)]/\ba 21 [z0,((128*ai)+73),0] λz87=>ar 21 [z0,((128*ai)+74)]/\ba 21 [z0,((128*ai)+74),0] λgh=>
 ar 21 [z0,((128*ai)+75)]/\ba 21 [z0,((128*ai)+75),0] λfl=>ar 21 [z0,((128*ai)+76)]/\ba 21 [z0,((128*ai)+76),0] λgY=>
 ar 21 [z0,((128*ai)+77)]/\ba 21 [z0,((128*ai)+77),0] λz91=>ar 21 [z0,((128*ai)+78)]/\ba 21 [z0,((128*ai)+78),0] λfw=>
 ar 21 [z0,((128*ai)+79)]/\ba 21 [z0,((128*ai)+79),0] λz93=>ar 21 [z0,((128*ai)+80)]/\ba 21 [z0,((128*ai)+80),0] λgK=>
 ar 21 [z0,((128*ai)+81)]/\ba 21 [z0,((128*ai)+81),0] λiW=>ar 21 [z0,((128*ai)+82)]/\ba 21 [z0,((128*ai)+82),0] λcR=>
 ar 21 [z0,((128*ai)+83)]/\ba 21 [z0,((128*ai)+83),0] λp7=>ar 21 [z0,((128*ai)+84)]/\ba 21 [z0,((128*ai)+84),0] λpC=>
 ar 21 [z0,((128*ai)+85)]/\ba 21 [z0,((128*ai)+85),0] λkC=>ar 21 [z0,((128*ai)+86)]/\ba 21 [z0,((128*ai)+86),0] λnH=>
 ar 21 [z0,((128*ai)+87)]/\ba 21 [z0,((128*ai)+87),0] λsf=>ar 21 [z0,((128*ai)+88)]/\ba 21 [z0,((128*ai)+88),0] λsg=>
 ar 21 [z0,((128*ai)+89)]/\ba 21 [z0,((128*ai)+89),0] λsi=>ar 21 [z0,((128*ai)+90)]/\ba 21 [z0,((128*ai)+90),0] λsj=>
 ar 21 [z0,((128*ai)+91)]/\ba 21 [z0,((128*ai)+91),0] λz105=>ar 21 [z0,((128*ai)+92)]/\ba 21 [z0,((128*ai)+92),0] λsk=>
 ar 21 [z0,((128*ai)+93)]/\ba 21 [z0,((128*ai)+93),0] λz107=>ar 21 [z0,((128*ai)+94)]/\ba 21 [z0,((128*ai)+94),0] λyc=>
 ar 21 [z0,((128*ai)+95)]/\ba 21 [z0,((128*ai)+95),0] λz109=>ar 21 [z0,((128*ai)+96)]/\ba 21 [z0,((128*ai)+96),0] λyd=>
 ar 21 [z0,((128*ai)+97)]/\ba 21 [z0,((128*ai)+97),0] λye=>ar 21 [z0,((128*ai)+98)]/\ba 21 [z0,((128*ai)+98),0] λwx=>
 ar 21 [z0,((128*ai)+99)]/\ba 21 [z0,((128*ai)+99),0] λwy=>ar 21 [z0,((128*ai)+100)]/\ba 21 [z0,((128*ai)+100),0] λqG=>
 ar 21 [z0,((128*ai)+101)]/\ba 21 [z0,((128*ai)+101),0] λrr=>ar 21 [z0,((128*ai)+102)]/\ba 21 [z0,((128*ai)+102),0] λz116
 =>ar 21 [z0,((128*ai)+103)]/\ba 21 [z0,((128*ai)+103),0] λz117=>ar 21 [z0,((128*ai)+104)]/\ba 21 [z0,((128*ai)+104),0] λ
 qH=>ar 21 [z0,((128*ai)+105)]/\ba 21 [z0,((128*ai)+105),0] λz119=>ar 21 [z0,((128*ai)+106)]/\ba 21 [z0,((128*ai)+106),0]
 λwz=>ar 21 [z0,((128*ai)+107)]/\ba 21 [z0,((128*ai)+107),0] λwA=>ar 21 [z0,((128*ai)+108)]/\ba 21 [z0,((128*ai)+
 108),0] λwB=>ar 21 [z0,((128*ai)+109)]/\ba 21 [z0,((128*ai)+109),0] λwC=>ar 21 [z0,((128*ai)+110)]/\ba 21 [z0,((128*ai)
 +110),0] λz124=>ar 21 [z0,((128*ai)+111)]/\ba 21 [z0,((128*ai)+111),0] λwD=>ar 21 [z0,((128*ai)+112)]/\ba 21 [z0,((128*
 ai)+112),0] λwE=>ar 21 [z0,((128*ai)+113)]/\ba 21 [z0,((128*ai)+113),0] λz127=>ar 21 [z0,((128*ai)+114)]/\ba 21 [z0,((128
 *ai)+114),0] λzq=>ar 21 [z0,((128*ai)+115)]/\ba 21 [z0,((128*ai)+115),0] λyf=>ar 21 [z0,((128*ai)+116)]/\ba 21
 [z0,((128*ai)+116),0] λz130=>ar 21 [z0,((128*ai)+117)]/\ba 21 [z0,((128*ai)+117),0] λz131=>ar 21 [z0,((128*ai)+118)]/\ba
 21 [z0,((128*ai)+118),0] λyg=>ar 21 [z0,((128*ai)+119)]/\ba 21 [z0,((128*ai)+119),0] λoX=>ar 21 [z0,((128*ai)+120)]/\
 ba 21 [z0,((128*ai)+120),0] λp6=>ar 21 [z0,((128*ai)+121)]/\ba 21 [z0,((128*ai)+121),0] λru=>ar 21 [z0,((128*ai)+122)]
 /\ba 21 [z0,((128*ai)+122),0] λyh=>ar 21 [z0,((128*ai)+123)]/\ba 21 [z0,((128*ai)+123),0] λyi=>ar 21 [z0,((128*ai)+
 124)]/\ba 21 [z0,((128*ai)+124),0] λz138=>ar 21 [z0,((128*ai)+125)]/\ba 21 [z0,((128*ai)+125),0] λz139=>ar 21 [z0,((128*ai)
 +126)]/\ba 21 [z0,((128*ai)+126),0] λyj=>ar 21 [z0,((128*ai)+127)]/\ba 21 [z0,((128*ai)+127),0] λz141=>iE 23
 [0,((72057594037927936*aq)+((281474976710656*aF)+((1099511627776*aO)+((4294967296*aH)+((16777216*aR)+((65536*aS)+((256*z20)+
 z21)))))))] λED=>iE 23 [ED,((72057594037927936*z22)+((281474976710656*aY)+((1099511627776*z24)+((4294967296*bh)+((16777216*z26)+
 ((65536*bo)+((256*z28)+bu)))))))] λz143=>iE 23 [z143,((72057594037927936*bt)+((281474976710656*z31)+((1099511627776*aL)+
 ((4294967296*a8)+((16777216*bn)+((65536*bg)+((256*bB)+z37)))))))] λEE=>iE 23 [EE,((72057594037927936*bP)+((281474976710656*
 bI)+((1099511627776*z40)+((4294967296*bY)+((16777216*bT)+((65536*cf)+((256*ct)+b7)))))))] λz145=>iE 23
 [z145,((72057594037927936*z46)+((281474976710656*b6)+((1099511627776*cd)+((4294967296*z49)+((16777216*cm)+((65536*z51)+((256*bX)+
 z53)))))))] λz146=>iE 23 [z146,((72057594037927936*cn)+((281474976710656*cv)+((1099511627776*cA)+((4294967296*cp)+((16777216*cx)+
 ((65536*z59)+((256*cE)+cG)))))))] λEF=>iE 23 [EF,((72057594037927936*cH)+((281474976710656*cq)+((1099511627776*cU)+
 ((4294967296*c9)+((16777216*c2)+((65536*cX)+((256*dh)+cI)))))))] λz148=>iE 23 [z148,((72057594037927936*z70)+((281474976710656*
 dn)+((1099511627776*z72)+((4294967296*cQ)+((16777216*e1)+((65536*z75)+((256*z76)+eK)))))))] λEG=>iE 23
 [EG,((72057594037927936*dA)+((281474976710656*ee)+((1099511627776*eF)+((4294967296*fH)+((16777216*fk)+((65536*eV)+((256*fI)+
 z85)))))))] λEH=>iE 23 [EH,((72057594037927936*fv)+((281474976710656*z87)+((1099511627776*gh)+((4294967296*fl)+((16777216*gY)+
 ((65536*z91)+((256*fw)+z93)))))))] λEI=>iE 23 [EI,((72057594037927936*gK)+((281474976710656*iW)+((1099511627776*cR)+
 ((4294967296*p7)+((16777216*pC)+((65536*kC)+((256*nH)+sf)))))))] λz152=>iE 23 [z152,((72057594037927936*sg)+((281474976710656
 *si)+((1099511627776*sj)+((4294967296*z105)+((16777216*sk)+((65536*z107)+((256*yc)+z109)))))))] λEJ=>iE 23
 [EJ,((72057594037927936*yd)+((281474976710656*ye)+((1099511627776*wx)+((4294967296*wy)+((16777216*qG)+((65536*rr)+((256*
 z116)+z117)))))))] λz154=>iE 23 [z154,((72057594037927936*qH)+((281474976710656*z119)+((1099511627776*wz)+((4294967296*wA)+
 ((16777216*wB)+((65536*wC)+((256*z124)+wD)))))))] λEK=>iE 23 [EK,((72057594037927936*wE)+((281474976710656*z127)+
 ((1099511627776*zq)+((4294967296*yf)+((16777216*z130)+((65536*z131)+((256*yg)+oX)))))))] λz156=>iE 23 [z156,((72057594037927936
 *p6)+((281474976710656*ru)+((1099511627776*yh)+((4294967296*yi)+((16777216*z138)+((65536*z139)+((256*yj)+z141)))))))] λ
 z157=>ar 66 [z157]/\r6 λwF=>S 463 [[z157]] [[wF]]->kP λz159=>Ci 20 [wF] λz160=>∃(SM:List (List Int)->Prop) (ajj:List
 (List Int)->Nat),SM [[16],[wF],[z160],[z159]]/\(uF 16 9223372036854775807 λz162=>r6 λoa=>y8 λz164=>kP λuS=>SM
 [[z162],[oa],[z164],[uS]]->(r4 (decide (z162<80)) (ar 30 [(z162+(-16)),z164]/\ar 21 [oa,(z162+(-16))]/\Mt 21 [oa,(z162+(-16)),0] λ
 JC=>ar 30 [(z162+(-15)),z164]/\ar 21 [oa,(z162+(-15))]/\Mt 21 [oa,(z162+(-15)),0] λz167=>r5 λz168=>S 450 [[z167]] [[z168]]->rl
 (JC+z168) 18446744073709551616 λM6=>ar 30 [(z162+(-7)),z164]/\ar 21 [oa,(z162+(-7))]/\Mt 21 [oa,(z162+(-7)),0] λM7=>rl (JC
 +(z168+(((-18446744073709551616)*M6)+M7))) 18446744073709551616 λz171=>ar 30 [(z162+(-2)),z164]/\ar 21 [oa,(z162+(-2))]/\Mt 21
 [oa,(z162+(-2)),0] λZa=>r5 λz173=>S 451 [[Za]] [[z173]]->rl (JC+(z168+(((-18446744073709551616)*M6)+(M7+
 (((-18446744073709551616)*z171)+z173))))) 18446744073709551616 λZb=>ar 31 [oa,z164]/\ar 23 [oa,1]/\iE 23 [oa,(JC+(z168+
 (((-18446744073709551616)*M6)+(M7+(((-18446744073709551616)*z171)+(z173+((-18446744073709551616)*Zb)))))))] λz175=>kP λoY=>(SM
 [[(z162+1)],[z175],[(z164+1)],[oY]]/\ajj [[(z162+1)],[z175],[(z164+1)],[oY]]<ajj [[z162],[oa],[z164],[uS]])) (∃(SN:List (List Int)->
 Prop) (ajk:List (List Int)->Nat),SN [av,[0]]/\(∀c0:List Int,af (au 0 18446744073709551615 8) c0->y8 λz175=>SN [c0,[z175]]->(r4
 (decide (z175<z164)) (ar 30 [z175,z164]/\ar 21 [oa,z175]/\Mt 21 [oa,z175,0] λoY=>r5 λpA=>S 449 [[(U c0 4 0)]] [[pA]]->
 rl ((U c0 7 0)+pA) 18446744073709551616 λsm=>n0 λCC=>CC<=pF .u64->CC=eL .and .u64 (U c0 4 0) (U
 c0 5 0)->n0 λCD=>CD<=pF .u64->CD=eL .and .u64 (((-1)*(U c0 4 0))+18446744073709551615) (U c0 6 0)->n0
 λpB=>pB<=pF .u64->pB=eL .xor .u64 CC CD->rl ((U c0 7 0)+(pA+(((-18446744073709551616)*sm)+pB)))
 18446744073709551616 λz182=>ar 39 [z175,0,79]/\r5 λz183=>S 467 [[z175]] [[z183]]->rl ((U c0 7 0)+(pA+(((-18446744073709551616)*
 sm)+(pB+(((-18446744073709551616)*z182)+z183))))) 18446744073709551616 λzr=>rl ((U c0 7 0)+(oY+(pA+
 (((-18446744073709551616)*sm)+(pB+(((-18446744073709551616)*z182)+(z183+((-18446744073709551616)*zr)))))))) 18446744073709551616 λA3=>
 r5 λA4=>S 448 [[(U c0 0 0)]] [[A4]]->n0 λRu=>Ru<=pF .u64->Ru=eL .and .u64 (U c0 0 0) (U c0 1
 0)->n0 λRv=>Rv<=pF .u64->Rv=eL .and .u64 (U c0 0 0) (U c0 2 0)->n0 λRw=>Rw<=pF .u64->Rw
 =eL .xor .u64 Ru Rv->n0 λRx=>Rx<=pF .u64->Rx=eL .and .u64 (U c0 1 0) (U c0 2 0)->n0 λzt=>zt<=
 pF .u64->zt=eL .xor .u64 Rw Rx->rl (A4+zt) 18446744073709551616 λJD=>ag6 λz193=>0<=((U c0 3 0)+((U
 c0 7 0)+(oY+(pA+(((-18446744073709551616)*sm)+(pB+(((-18446744073709551616)*z182)+(z183+(((-18446744073709551616)*zr)+
 ((-18446744073709551616)*A3))))))))))-18446744073709551616*z193->((U c0 3 0)+((U c0 7 0)+(oY+(pA+
 (((-18446744073709551616)*sm)+(pB+(((-18446744073709551616)*z182)+(z183+(((-18446744073709551616)*zr)+((-18446744073709551616)*
 A3))))))))))-18446744073709551616*z193<18446744073709551616->ag6 λz194=>0<=((U c0 7 0)+(oY+(pA+(((-18446744073709551616)*
 sm)+(pB+(((-18446744073709551616)*z182)+(z183+(((-18446744073709551616)*zr)+(((-18446744073709551616)*A3)+(A4+(zt+
 ((-18446744073709551616)*JD))))))))))))-18446744073709551616*z194->((U c0 7 0)+(oY+(pA+(((-18446744073709551616)*sm)+(pB+
 (((-18446744073709551616)*z182)+(z183+(((-18446744073709551616)*zr)+(((-18446744073709551616)*A3)+(A4+(zt+((-18446744073709551616)*
 JD))))))))))))-18446744073709551616*z194<18446744073709551616->rl (z175+9223372036854775809) 18446744073709551616 λzu=>ar 39 [((z175+
 ((-18446744073709551616)*zu))+1),0,9223372036854775807]/\(SN [[((U c0 7 0)+(oY+(pA+(((-18446744073709551616)*sm)+(pB+
 (((-18446744073709551616)*z182)+(z183+(((-18446744073709551616)*zr)+(((-18446744073709551616)*A3)+(A4+(zt+(((-18446744073709551616)*
 JD)+((-18446744073709551616)*z194))))))))))))),(U c0 0 0),(U c0 1 0),(U c0 2 0),((U c0 3 0)+((U c0 7 0)
 +(oY+(pA+(((-18446744073709551616)*sm)+(pB+(((-18446744073709551616)*z182)+(z183+(((-18446744073709551616)*zr)+
 (((-18446744073709551616)*A3)+((-18446744073709551616)*z193))))))))))),(U c0 4 0),(U c0 5 0),(U c0 6 0)],[((z175+
 ((-18446744073709551616)*zu))+1)]]/\ajk [[((U c0 7 0)+(oY+(pA+(((-18446744073709551616)*sm)+(pB+(((-18446744073709551616)
 *z182)+(z183+(((-18446744073709551616)*zr)+(((-18446744073709551616)*A3)+(A4+(zt+(((-18446744073709551616)*JD)+
 ((-18446744073709551616)*z194))))))))))))),(U c0 0 0),(U c0 1 0),(U c0 2 0),((U c0 3 0)+((U c0 7 0)+(oY
 +(pA+(((-18446744073709551616)*sm)+(pB+(((-18446744073709551616)*z182)+(z183+(((-18446744073709551616)*zr)+(((-18446744073709551616)*
 A3)+((-18446744073709551616)*z193))))))))))),(U c0 4 0),(U c0 5 0),(U c0 6 0)],[((z175+((-18446744073709551616)*zu))+
 1)]]<ajk [c0,[z175]])) (rl ((U av 0 0)+(U c0 0 0)) 18446744073709551616 λoY=>rl ((U av 1 0)+(U c0 1 0))
 18446744073709551616 λpA=>rl ((U av 2 0)+(U c0 2 0)) 18446744073709551616 λsm=>rl ((U av 3 0)+(U c0 3 0))
 18446744073709551616 λCC=>rl ((U av 4 0)+(U c0 4 0)) 18446744073709551616 λCD=>rl ((U av 5 0)+(U c0 5 0))
 18446744073709551616 λpB=>rl ((U av 6 0)+(U c0 6 0)) 18446744073709551616 λz182=>rl ((U av 7 0)+(U c0 7 0))
 18446744073709551616 λz183=>(SU [[((U av 0 0)+((U c0 0 0)+((-18446744073709551616)*oY))),((U av 1 0)+((U c0 1
 0)+((-18446744073709551616)*pA))),((U av 2 0)+((U c0 2 0)+((-18446744073709551616)*sm))),((U av 3 0)+((U c0 3
 0)+((-18446744073709551616)*CC))),((U av 4 0)+((U c0 4 0)+((-18446744073709551616)*CD))),((U av 5 0)+((U c0 5
 0)+((-18446744073709551616)*pB))),((U av 6 0)+((U c0 6 0)+((-18446744073709551616)*z182))),((U av 7 0)+((U c0 7
 0)+((-18446744073709551616)*z183)))],[(ai+1)]]/\ajq [[((U av 0 0)+((U c0 0 0)+((-18446744073709551616)*oY))),((U av 1
 0)+((U c0 1 0)+((-18446744073709551616)*pA))),((U av 2 0)+((U c0 2 0)+((-18446744073709551616)*sm))),((U av 3
 0)+((U c0 3 0)+((-18446744073709551616)*CC))),((U av 4 0)+((U c0 4 0)+((-18446744073709551616)*CD))),((U av 5
 0)+((U c0 5 0)+((-18446744073709551616)*pB))),((U av 6 0)+((U c0 6 0)+((-18446744073709551616)*z182))),((U av 7
 0)+((U c0 7 0)+((-18446744073709551616)*z183)))],[(ai+1)]]<ajq [av,[ai]])))))))) (∃(SL:List (List Int)->Prop) (aji:List (List Int)
 ->Nat),SL [[7],[0],[0],[(-1)]]/\(uF (-1) 7 λaF=>r6 λaO=>y8 λaH=>kP λaR=>SL [[aF],[aO],[aH],[aR]]->(r4 (decide (0<=aF)) (r5
 λaS=>aS=(U av 0 0)/2^((8*aF)).toNat->hZ 0 72057594037927935 aS 256 λz20=>ar 31 [aO,aH]/\ar 23 [aO,1]/\iE 23 [aO,(aS
 +((-256)*z20))] λz21=>kP λz22=>(SL [[(aF+(-1))],[z21],[(aH+1)],[z22]]/\aji [[(aF+(-1))],[z21],[(aH+1)],[z22]]<aji
 [[aF],[aO],[aH],[aR]])) (∃(SO:List (List Int)->Prop) (ajl:List (List Int)->Nat),SO [[7],[aO],[aH],[aR]]/\(uF (-1) 7 λz20=>r6 λz21=>
 y8 λz22=>kP λaY=>SO [[z20],[z21],[z22],[aY]]->(r4 (decide (0<=z20)) (r5 λz24=>z24=(U av 1 0)/2^((8*z20)).toNat->hZ 0
 72057594037927935 z24 256 λbh=>ar 31 [z21,z22]/\ar 23 [z21,1]/\iE 23 [z21,(z24+((-256)*bh))] λz26=>kP λbo=>(SO [[(z20+
 (-1))],[z26],[(z22+1)],[bo]]/\ajl [[(z20+(-1))],[z26],[(z22+1)],[bo]]<ajl [[z20],[z21],[z22],[aY]])) (∃(SP:List (List Int)->Prop) (ajm:List
 (List Int)->Nat),SP [[7],[z21],[z22],[aY]]/\(uF (-1) 7 λbh=>r6 λz26=>y8 λbo=>kP λz28=>SP [[bh],[z26],[bo],[z28]]->(r4 (decide (0
 <=bh)) (r5 λbu=>bu=(U av 2 0)/2^((8*bh)).toNat->hZ 0 72057594037927935 bu 256 λbt=>ar 31 [z26,bo]/\ar 23 [z26,1]/\iE
 23 [z26,(bu+((-256)*bt))] λz31=>kP λaL=>(SP [[(bh+(-1))],[z31],[(bo+1)],[aL]]/\ajm [[(bh+(-1))],[z31],[(bo+1)],[aL]]<ajm
 [[bh],[z26],[bo],[z28]])) (∃(SQ:List (List Int)->Prop) (ajn:List (List Int)->Nat),SQ [[7],[z26],[bo],[z28]]/\(uF (-1) 7 λbt=>r6 λz31=>
 y8 λaL=>kP λa8=>SQ [[bt],[z31],[aL],[a8]]->(r4 (decide (0<=bt)) (r5 λbn=>bn=(U av 3 0)/2^((8*bt)).toNat->hZ 0
 72057594037927935 bn 256 λbg=>ar 31 [z31,aL]/\ar 23 [z31,1]/\iE 23 [z31,(bn+((-256)*bg))] λbB=>kP λz37=>(SQ [[(bt+
 (-1))],[bB],[(aL+1)],[z37]]/\ajn [[(bt+(-1))],[bB],[(aL+1)],[z37]]<ajn [[bt],[z31],[aL],[a8]])) (∃(SR:List (List Int)->Prop) (ajo:List
 (List Int)->Nat),SR [[7],[z31],[aL],[a8]]/\(uF (-1) 7 λbg=>r6 λbB=>y8 λz37=>kP λbP=>SR [[bg],[bB],[z37],[bP]]->(r4 (decide (0
 <=bg)) (r5 λbI=>bI=(U av 4 0)/2^((8*bg)).toNat->hZ 0 72057594037927935 bI 256 λz40=>ar 31 [bB,z37]/\ar 23 [bB,1]/\iE
 23 [bB,(bI+((-256)*z40))] λbY=>kP λbT=>(SR [[(bg+(-1))],[bY],[(z37+1)],[bT]]/\ajo [[(bg+(-1))],[bY],[(z37+1)],[bT]]<ajo
 [[bg],[bB],[z37],[bP]])) (∃(SS:List (List Int)->Prop) (ajp:List (List Int)->Nat),SS [[7],[bB],[z37],[bP]]/\(uF (-1) 7 λz40=>r6 λbY=>
 y8 λbT=>kP λcf=>SS [[z40],[bY],[bT],[cf]]->(r4 (decide (0<=z40)) (r5 λct=>ct=(U av 5 0)/2^((8*z40)).toNat->hZ 0
 72057594037927935 ct 256 λb7=>ar 31 [bY,bT]/\ar 23 [bY,1]/\iE 23 [bY,(ct+((-256)*b7))] λz46=>kP λb6=>(SS [[(z40+
 (-1))],[z46],[(bT+1)],[b6]]/\ajp [[(z40+(-1))],[z46],[(bT+1)],[b6]]<ajp [[z40],[bY],[bT],[cf]])) (∃(SV:List (List Int)->Prop) (ajr:List
 (List Int)->Nat),SV [[7],[bY],[bT],[cf]]/\(uF (-1) 7 λb7=>r6 λz46=>y8 λb6=>kP λcd=>SV [[b7],[z46],[b6],[cd]]->(r4 (decide (0
 <=b7)) (r5 λz49=>z49=(U av 6 0)/2^((8*b7)).toNat->hZ 0 72057594037927935 z49 256 λcm=>ar 31 [z46,b6]/\ar 23 [z46,1]/\iE
 23 [z46,(z49+((-256)*cm))] λz51=>kP λbX=>(SV [[(b7+(-1))],[z51],[(b6+1)],[bX]]/\ajr [[(b7+(-1))],[z51],[(b6+1)],[bX]]<ajr
 [[b7],[z46],[b6],[cd]])) (∃(SW:List (List Int)->Prop) (ajs:List (List Int)->Nat),SW [[7],[z46],[b6],[cd]]/\(uF (-1) 7 λcm=>r6 λz51=>
 y8 λbX=>kP λz53=>SW [[cm],[z51],[bX],[z53]]->(r4 (decide (0<=cm)) (r5 λcn=>cn=(U av 7 0)/2^((8*cm)).toNat->hZ 0
 72057594037927935 cn 256 λcv=>ar 31 [z51,bX]/\ar 23 [z51,1]/\iE 23 [z51,(cn+((-256)*cv))] λcA=>kP λcp=>(SW [[(cm+
 (-1))],[cA],[(bX+1)],[cp]]/\ajs [[(cm+(-1))],[cA],[(bX+1)],[cp]]<ajs [[cm],[z51],[bX],[z53]])) (ar 22 [z51,0,bX]/\iE 22 [z51,0,bX] λ
 cn=>K [[z0]] [[cn]]))))))))))))))))))))))))))))
theorem aAY (f:Int->Int->Int) {r t:List Int} (h:r.length=8) (bd:t.length=8):List.zipWith f r t=[f (r.getD 0 0) (t.getD 0 0),f (r.getD 1 0) (t.getD 1 0),f (r.getD 2 0) (t.getD 2 0),f (r.getD 3 0) (t.getD 3 0),f (r.getD 4 0) (t.getD 4 0),f (r.getD 5 0) (t.getD 5 0),f (r.getD 6 0) (t.getD 6 0),f (r.getD 7 0) (t.getD 7 0)]:=by
 match r,t,h,bd with
 |[_,_,_,_,_,_,_,_],[_,_,_,_,_,_,_,_],_,_=>rfl
theorem axl (i:Nat) (x:Int) {r:List Int} (hr:r.length=8):Cx cL i x r=(let t:=md cL (r.getD 7 0+HB cL (r.getD 4 0)+OV cL (r.getD 4 0) (r.getD 5 0) (r.getD 6 0)+MQ cL i+x);let u:=md cL (HA cL (r.getD 0 0)+Xc cL (r.getD 0 0) (r.getD 1 0) (r.getD 2 0));[md cL (t+u),r.getD 0 0,r.getD 1 0,r.getD 2 0,md cL (r.getD 3 0+t),r.getD 4 0,r.getD 5 0,r.getD 6 0]):=by
 match r,hr with
 |[_,_,_,_,_,_,_,_],_=>rfl
theorem IP (x:Int):md cL x=x% 18446744073709551616:=by
 show x% (2:Int)^64=_
 rw[show(2:Int)^64=18446744073709551616 by decide]
theorem akZ:C7 cL=[7640891576956012808,13503953896175478587,4354685564936845355,11912009170470909681,5840696475078001361,11170449401992604703,2270897969802886507,6620516959819538809]:=by decide+kernel
set_option maxHeartbeats 4000000 in
theorem atO:ZQ SB (j4 SB [QK] 465):=by
 intro z0 a0 b2 hp aB fK z2 eS c1 z3 d0 d1 h3
 have hp:128∣(ak z0).length/\(ak z0).length<=1000001000:=hp
 have h3:z3=((ak z0).length:Int):=h3
 obtain⟨⟨q,ah⟩,IC⟩:=hp
 have aX:(bJ z0).length=128*q:=by rw[xb,ah]
 have adZ:z3=128*(q:Int):=by rw[h3,ah];simp
 refine⟨⟨(q:Int),adZ⟩,λl=>∃(i:Nat),i<=q/\l=[Ki cL (bJ z0) i (C7 cL),[(i:Int)]],λl=>((q:Int)-(l.getD 1 []).getD 0 0).toNat,⟨0,Nf _,by
  show _=[C7 cL,[(0:Int)]]
  rw[akZ]⟩,?_⟩
 intro av apG ai fF aw ⟨i,hi,gU⟩
 simp only[qK,and_true]at gU
 obtain⟨ad2,aFn⟩:=gU
 obtain⟨xx,oI⟩:=WI 8 av apG
 have PO:((ak z0).length:Int)=128*(q:Int):=by rw[<-h3,adZ]
 refine⟨λh=>?_,λh=>?_⟩
 ·have h:=of_decide_eq_true h
  have aeL:i<q:=by omega
  have aW:∀k:Int,0<=k->k<128->ar 21 [z0,128*ai+k]:=λk h1 h2=>⟨by omega,by rw[PO];omega⟩
  have alb:ar 21 [z0,128*ai]:=⟨by omega,by rw[PO];omega⟩
  refine⟨alb,?_⟩
  intro aq f0 g0 t0
  refine⟨aW 1 (by decide) (by decide),?_⟩
  intro aF f1 g1 t1
  refine⟨aW 2 (by decide) (by decide),?_⟩
  intro aO f2 g2 t2
  refine⟨aW 3 (by decide) (by decide),?_⟩
  intro aH f3 g3 t3
  refine⟨aW 4 (by decide) (by decide),?_⟩
  intro aR f4 g4 t4
  refine⟨aW 5 (by decide) (by decide),?_⟩
  intro aS f5 g5 t5
  refine⟨aW 6 (by decide) (by decide),?_⟩
  intro z20 f6 g6 t6
  refine⟨aW 7 (by decide) (by decide),?_⟩
  intro z21 f7 g7 t7
  refine⟨aW 8 (by decide) (by decide),?_⟩
  intro z22 f8 g8 t8
  refine⟨aW 9 (by decide) (by decide),?_⟩
  intro aY f9 g9 t9
  refine⟨aW 10 (by decide) (by decide),?_⟩
  intro z24 f10 g10 t10
  refine⟨aW 11 (by decide) (by decide),?_⟩
  intro bh f11 g11 t11
  refine⟨aW 12 (by decide) (by decide),?_⟩
  intro z26 f12 g12 t12
  refine⟨aW 13 (by decide) (by decide),?_⟩
  intro bo f13 g13 t13
  refine⟨aW 14 (by decide) (by decide),?_⟩
  intro z28 f14 g14 t14
  refine⟨aW 15 (by decide) (by decide),?_⟩
  intro bu f15 g15 t15
  refine⟨aW 16 (by decide) (by decide),?_⟩
  intro bt f16 g16 t16
  refine⟨aW 17 (by decide) (by decide),?_⟩
  intro z31 f17 g17 t17
  refine⟨aW 18 (by decide) (by decide),?_⟩
  intro aL f18 g18 t18
  refine⟨aW 19 (by decide) (by decide),?_⟩
  intro a8 f19 g19 t19
  refine⟨aW 20 (by decide) (by decide),?_⟩
  intro bn f20 g20 t20
  refine⟨aW 21 (by decide) (by decide),?_⟩
  intro bg f21 g21 t21
  refine⟨aW 22 (by decide) (by decide),?_⟩
  intro bB f22 g22 t22
  refine⟨aW 23 (by decide) (by decide),?_⟩
  intro z37 f23 g23 t23
  refine⟨aW 24 (by decide) (by decide),?_⟩
  intro bP f24 g24 t24
  refine⟨aW 25 (by decide) (by decide),?_⟩
  intro bI f25 aDI t25
  refine⟨aW 26 (by decide) (by decide),?_⟩
  intro z40 f26 aDJ t26
  refine⟨aW 27 (by decide) (by decide),?_⟩
  intro bY f27 aDK t27
  refine⟨aW 28 (by decide) (by decide),?_⟩
  intro bT f28 aDL t28
  refine⟨aW 29 (by decide) (by decide),?_⟩
  intro cf f29 aDM t29
  refine⟨aW 30 (by decide) (by decide),?_⟩
  intro ct f30 aDN t30
  refine⟨aW 31 (by decide) (by decide),?_⟩
  intro b7 f31 aDO t31
  refine⟨aW 32 (by decide) (by decide),?_⟩
  intro z46 f32 aDP t32
  refine⟨aW 33 (by decide) (by decide),?_⟩
  intro b6 f33 aDQ t33
  refine⟨aW 34 (by decide) (by decide),?_⟩
  intro cd f34 aDR t34
  refine⟨aW 35 (by decide) (by decide),?_⟩
  intro z49 f35 aDS t35
  refine⟨aW 36 (by decide) (by decide),?_⟩
  intro cm f36 aDT t36
  refine⟨aW 37 (by decide) (by decide),?_⟩
  intro z51 f37 aDU t37
  refine⟨aW 38 (by decide) (by decide),?_⟩
  intro bX f38 aDV t38
  refine⟨aW 39 (by decide) (by decide),?_⟩
  intro z53 f39 aDW t39
  refine⟨aW 40 (by decide) (by decide),?_⟩
  intro cn f40 aDX t40
  refine⟨aW 41 (by decide) (by decide),?_⟩
  intro cv f41 aDY t41
  refine⟨aW 42 (by decide) (by decide),?_⟩
  intro cA f42 aDZ t42
  refine⟨aW 43 (by decide) (by decide),?_⟩
  intro cp f43 aD0 t43
  refine⟨aW 44 (by decide) (by decide),?_⟩
  intro cx f44 aD1 t44
  refine⟨aW 45 (by decide) (by decide),?_⟩
  intro z59 f45 aD2 t45
  refine⟨aW 46 (by decide) (by decide),?_⟩
  intro cE f46 aD3 t46
  refine⟨aW 47 (by decide) (by decide),?_⟩
  intro cG f47 aD4 t47
  refine⟨aW 48 (by decide) (by decide),?_⟩
  intro cH f48 aD5 t48
  refine⟨aW 49 (by decide) (by decide),?_⟩
  intro cq f49 aD6 t49
  refine⟨aW 50 (by decide) (by decide),?_⟩
  intro cU f50 aD7 t50
  refine⟨aW 51 (by decide) (by decide),?_⟩
  intro c9 f51 aD8 t51
  refine⟨aW 52 (by decide) (by decide),?_⟩
  intro c2 f52 aD9 t52
  refine⟨aW 53 (by decide) (by decide),?_⟩
  intro cX f53 aEa t53
  refine⟨aW 54 (by decide) (by decide),?_⟩
  intro dh f54 aEb t54
  refine⟨aW 55 (by decide) (by decide),?_⟩
  intro cI f55 aEc t55
  refine⟨aW 56 (by decide) (by decide),?_⟩
  intro z70 f56 aEd t56
  refine⟨aW 57 (by decide) (by decide),?_⟩
  intro dn f57 aEe t57
  refine⟨aW 58 (by decide) (by decide),?_⟩
  intro z72 f58 aEf t58
  refine⟨aW 59 (by decide) (by decide),?_⟩
  intro cQ f59 aEg t59
  refine⟨aW 60 (by decide) (by decide),?_⟩
  intro e1 f60 aEh t60
  refine⟨aW 61 (by decide) (by decide),?_⟩
  intro z75 f61 aEi t61
  refine⟨aW 62 (by decide) (by decide),?_⟩
  intro z76 f62 aEj t62
  refine⟨aW 63 (by decide) (by decide),?_⟩
  intro eK f63 aEk t63
  refine⟨aW 64 (by decide) (by decide),?_⟩
  intro dA f64 aEl t64
  refine⟨aW 65 (by decide) (by decide),?_⟩
  intro ee f65 aEm t65
  refine⟨aW 66 (by decide) (by decide),?_⟩
  intro eF f66 aEn t66
  refine⟨aW 67 (by decide) (by decide),?_⟩
  intro fH f67 aEo t67
  refine⟨aW 68 (by decide) (by decide),?_⟩
  intro fk f68 aEp t68
  refine⟨aW 69 (by decide) (by decide),?_⟩
  intro eV f69 aEq t69
  refine⟨aW 70 (by decide) (by decide),?_⟩
  intro fI f70 aEr t70
  refine⟨aW 71 (by decide) (by decide),?_⟩
  intro z85 f71 aEs t71
  refine⟨aW 72 (by decide) (by decide),?_⟩
  intro fv f72 aEt t72
  refine⟨aW 73 (by decide) (by decide),?_⟩
  intro z87 f73 aEu t73
  refine⟨aW 74 (by decide) (by decide),?_⟩
  intro gh f74 aEv t74
  refine⟨aW 75 (by decide) (by decide),?_⟩
  intro fl f75 aEw t75
  refine⟨aW 76 (by decide) (by decide),?_⟩
  intro gY f76 aEx t76
  refine⟨aW 77 (by decide) (by decide),?_⟩
  intro z91 f77 aEy t77
  refine⟨aW 78 (by decide) (by decide),?_⟩
  intro fw f78 aEz t78
  refine⟨aW 79 (by decide) (by decide),?_⟩
  intro z93 f79 aEA t79
  refine⟨aW 80 (by decide) (by decide),?_⟩
  intro gK f80 aEB t80
  refine⟨aW 81 (by decide) (by decide),?_⟩
  intro iW f81 aEC t81
  refine⟨aW 82 (by decide) (by decide),?_⟩
  intro cR f82 aED t82
  refine⟨aW 83 (by decide) (by decide),?_⟩
  intro p7 f83 aEE t83
  refine⟨aW 84 (by decide) (by decide),?_⟩
  intro pC f84 aEF t84
  refine⟨aW 85 (by decide) (by decide),?_⟩
  intro kC f85 aEG t85
  refine⟨aW 86 (by decide) (by decide),?_⟩
  intro nH f86 aEH t86
  refine⟨aW 87 (by decide) (by decide),?_⟩
  intro sf f87 aEI t87
  refine⟨aW 88 (by decide) (by decide),?_⟩
  intro sg f88 aEJ t88
  refine⟨aW 89 (by decide) (by decide),?_⟩
  intro si f89 aEK t89
  refine⟨aW 90 (by decide) (by decide),?_⟩
  intro sj f90 aEL t90
  refine⟨aW 91 (by decide) (by decide),?_⟩
  intro z105 f91 aEM t91
  refine⟨aW 92 (by decide) (by decide),?_⟩
  intro sk f92 aEN t92
  refine⟨aW 93 (by decide) (by decide),?_⟩
  intro z107 f93 aEO t93
  refine⟨aW 94 (by decide) (by decide),?_⟩
  intro yc f94 aEP t94
  refine⟨aW 95 (by decide) (by decide),?_⟩
  intro z109 f95 aEQ t95
  refine⟨aW 96 (by decide) (by decide),?_⟩
  intro yd f96 aER t96
  refine⟨aW 97 (by decide) (by decide),?_⟩
  intro ye f97 aES t97
  refine⟨aW 98 (by decide) (by decide),?_⟩
  intro wx f98 aET t98
  refine⟨aW 99 (by decide) (by decide),?_⟩
  intro wy f99 aEU t99
  refine⟨aW 100 (by decide) (by decide),?_⟩
  intro qG f100 aDg t100
  refine⟨aW 101 (by decide) (by decide),?_⟩
  intro rr f101 aDh t101
  refine⟨aW 102 (by decide) (by decide),?_⟩
  intro z116 f102 aDi t102
  refine⟨aW 103 (by decide) (by decide),?_⟩
  intro z117 f103 aDj t103
  refine⟨aW 104 (by decide) (by decide),?_⟩
  intro qH f104 aDk t104
  refine⟨aW 105 (by decide) (by decide),?_⟩
  intro z119 f105 aDl t105
  refine⟨aW 106 (by decide) (by decide),?_⟩
  intro wz f106 aDm t106
  refine⟨aW 107 (by decide) (by decide),?_⟩
  intro wA f107 aDn t107
  refine⟨aW 108 (by decide) (by decide),?_⟩
  intro wB f108 aDo t108
  refine⟨aW 109 (by decide) (by decide),?_⟩
  intro wC f109 aDp t109
  refine⟨aW 110 (by decide) (by decide),?_⟩
  intro z124 f110 aDq t110
  refine⟨aW 111 (by decide) (by decide),?_⟩
  intro wD f111 aDr t111
  refine⟨aW 112 (by decide) (by decide),?_⟩
  intro wE f112 aDs t112
  refine⟨aW 113 (by decide) (by decide),?_⟩
  intro z127 f113 aDt t113
  refine⟨aW 114 (by decide) (by decide),?_⟩
  intro zq f114 aDu t114
  refine⟨aW 115 (by decide) (by decide),?_⟩
  intro yf f115 aDv t115
  refine⟨aW 116 (by decide) (by decide),?_⟩
  intro z130 f116 aDw t116
  refine⟨aW 117 (by decide) (by decide),?_⟩
  intro z131 f117 aDx t117
  refine⟨aW 118 (by decide) (by decide),?_⟩
  intro yg f118 aDy t118
  refine⟨aW 119 (by decide) (by decide),?_⟩
  intro oX f119 aDz t119
  refine⟨aW 120 (by decide) (by decide),?_⟩
  intro p6 f120 aDA t120
  refine⟨aW 121 (by decide) (by decide),?_⟩
  intro ru f121 aDB t121
  refine⟨aW 122 (by decide) (by decide),?_⟩
  intro yh f122 aDC t122
  refine⟨aW 123 (by decide) (by decide),?_⟩
  intro yi f123 aDD t123
  refine⟨aW 124 (by decide) (by decide),?_⟩
  intro z138 f124 aDE t124
  refine⟨aW 125 (by decide) (by decide),?_⟩
  intro z139 f125 aDF t125
  refine⟨aW 126 (by decide) (by decide),?_⟩
  intro yj f126 aDG t126
  refine⟨aW 127 (by decide) (by decide),?_⟩
  intro z141 f127 aDH t127
  obtain⟨bl,BD⟩:∃l,((bJ z0).drop (128*i)).take 128=l:=⟨_,rfl⟩
  have ak4:bl.length=128:=by rw[<-BD,su,rA,aX];omega
  have bN:∀(k:Nat) (y z:Int),k<128->y=(k:Int)->z=bE 21 [z0,128*ai+y,0]->z=bl.getD k 0:=λk y z ab hy hz=>by
   rw[dK hz,<-BD,al7 _ _ _ _ ab]
   congr 1;omega
  have ea:[aq,aF,aO,aH,aR,aS,z20,z21,z22,aY,z24,bh,z26,bo,z28,bu,bt,z31,aL,a8,bn,bg,bB,z37,bP,bI,z40,bY,bT,cf,ct,b7,z46,b6,cd,z49,cm,z51,bX,z53,cn,cv,cA,cp,cx,z59,cE,cG,cH,cq,cU,c9,c2,cX,dh,cI,z70,dn,z72,cQ,e1,z75,z76,eK,dA,ee,eF,fH,fk,eV,fI,z85,fv,z87,gh,fl,gY,z91,fw,z93,gK,iW,cR,p7,pC,kC,nH,sf,sg,si,sj,z105,sk,z107,yc,z109,yd,ye,wx,wy,qG,rr,z116,z117,qH,z119,wz,wA,wB,wC,z124,wD,wE,z127,zq,yf,z130,z131,yg,oX,p6,ru,yh,yi,z138,z139,yj,z141]=bl:=by
   rw[bN 0 0 aq (by decide) rfl (by rw[wH];exact t0),bN 1 1 aF (by decide) rfl t1,bN 2 2 aO (by decide) rfl t2,bN 3 3 aH (by decide) rfl t3,bN 4 4 aR (by decide) rfl t4,bN 5 5 aS (by decide) rfl t5,bN 6 6 z20 (by decide) rfl t6,bN 7 7 z21 (by decide) rfl t7,bN 8 8 z22 (by decide) rfl t8,bN 9 9 aY (by decide) rfl t9,bN 10 10 z24 (by decide) rfl t10,bN 11 11 bh (by decide) rfl t11,bN 12 12 z26 (by decide) rfl t12,bN 13 13 bo (by decide) rfl t13,bN 14 14 z28 (by decide) rfl t14,bN 15 15 bu (by decide) rfl t15,bN 16 16 bt (by decide) rfl t16,bN 17 17 z31 (by decide) rfl t17,bN 18 18 aL (by decide) rfl t18,bN 19 19 a8 (by decide) rfl t19,bN 20 20 bn (by decide) rfl t20,bN 21 21 bg (by decide) rfl t21,bN 22 22 bB (by decide) rfl t22,bN 23 23 z37 (by decide) rfl t23,bN 24 24 bP (by decide) rfl t24,bN 25 25 bI (by decide) rfl t25,bN 26 26 z40 (by decide) rfl t26,bN 27 27 bY (by decide) rfl t27,bN 28 28 bT (by decide) rfl t28,bN 29 29 cf (by decide) rfl t29,bN 30 30 ct (by decide) rfl t30,bN 31 31 b7 (by decide) rfl t31,bN 32 32 z46 (by decide) rfl t32,bN 33 33 b6 (by decide) rfl t33,bN 34 34 cd (by decide) rfl t34,bN 35 35 z49 (by decide) rfl t35,bN 36 36 cm (by decide) rfl t36,bN 37 37 z51 (by decide) rfl t37,bN 38 38 bX (by decide) rfl t38,bN 39 39 z53 (by decide) rfl t39,bN 40 40 cn (by decide) rfl t40,bN 41 41 cv (by decide) rfl t41,bN 42 42 cA (by decide) rfl t42,bN 43 43 cp (by decide) rfl t43,bN 44 44 cx (by decide) rfl t44,bN 45 45 z59 (by decide) rfl t45,bN 46 46 cE (by decide) rfl t46,bN 47 47 cG (by decide) rfl t47,bN 48 48 cH (by decide) rfl t48,bN 49 49 cq (by decide) rfl t49,bN 50 50 cU (by decide) rfl t50,bN 51 51 c9 (by decide) rfl t51,bN 52 52 c2 (by decide) rfl t52,bN 53 53 cX (by decide) rfl t53,bN 54 54 dh (by decide) rfl t54,bN 55 55 cI (by decide) rfl t55,bN 56 56 z70 (by decide) rfl t56,bN 57 57 dn (by decide) rfl t57,bN 58 58 z72 (by decide) rfl t58,bN 59 59 cQ (by decide) rfl t59,bN 60 60 e1 (by decide) rfl t60,bN 61 61 z75 (by decide) rfl t61,bN 62 62 z76 (by decide) rfl t62,bN 63 63 eK (by decide) rfl t63,bN 64 64 dA (by decide) rfl t64,bN 65 65 ee (by decide) rfl t65,bN 66 66 eF (by decide) rfl t66,bN 67 67 fH (by decide) rfl t67,bN 68 68 fk (by decide) rfl t68,bN 69 69 eV (by decide) rfl t69,bN 70 70 fI (by decide) rfl t70,bN 71 71 z85 (by decide) rfl t71,bN 72 72 fv (by decide) rfl t72,bN 73 73 z87 (by decide) rfl t73,bN 74 74 gh (by decide) rfl t74,bN 75 75 fl (by decide) rfl t75,bN 76 76 gY (by decide) rfl t76,bN 77 77 z91 (by decide) rfl t77,bN 78 78 fw (by decide) rfl t78,bN 79 79 z93 (by decide) rfl t79,bN 80 80 gK (by decide) rfl t80,bN 81 81 iW (by decide) rfl t81,bN 82 82 cR (by decide) rfl t82,bN 83 83 p7 (by decide) rfl t83,bN 84 84 pC (by decide) rfl t84,bN 85 85 kC (by decide) rfl t85,bN 86 86 nH (by decide) rfl t86,bN 87 87 sf (by decide) rfl t87,bN 88 88 sg (by decide) rfl t88,bN 89 89 si (by decide) rfl t89,bN 90 90 sj (by decide) rfl t90,bN 91 91 z105 (by decide) rfl t91,bN 92 92 sk (by decide) rfl t92,bN 93 93 z107 (by decide) rfl t93,bN 94 94 yc (by decide) rfl t94,bN 95 95 z109 (by decide) rfl t95,bN 96 96 yd (by decide) rfl t96,bN 97 97 ye (by decide) rfl t97,bN 98 98 wx (by decide) rfl t98,bN 99 99 wy (by decide) rfl t99,bN 100 100 qG (by decide) rfl t100,bN 101 101 rr (by decide) rfl t101,bN 102 102 z116 (by decide) rfl t102,bN 103 103 z117 (by decide) rfl t103,bN 104 104 qH (by decide) rfl t104,bN 105 105 z119 (by decide) rfl t105,bN 106 106 wz (by decide) rfl t106,bN 107 107 wA (by decide) rfl t107,bN 108 108 wB (by decide) rfl t108,bN 109 109 wC (by decide) rfl t109,bN 110 110 z124 (by decide) rfl t110,bN 111 111 wD (by decide) rfl t111,bN 112 112 wE (by decide) rfl t112,bN 113 113 z127 (by decide) rfl t113,bN 114 114 zq (by decide) rfl t114,bN 115 115 yf (by decide) rfl t115,bN 116 116 z130 (by decide) rfl t116,bN 117 117 z131 (by decide) rfl t117,bN 118 118 yg (by decide) rfl t118,bN 119 119 oX (by decide) rfl t119,bN 120 120 p6 (by decide) rfl t120,bN 121 121 ru (by decide) rfl t121,bN 122 122 yh (by decide) rfl t122,bN 123 123 yi (by decide) rfl t123,bN 124 124 z138 (by decide) rfl t124,bN 125 125 z139 (by decide) rfl t125,bN 126 126 yj (by decide) rfl t126,bN 127 127 z141 (by decide) rfl t127]
   exact(U9 bl 128 ak4).symm
  have BB:M3 cL bl=[((72057594037927936*aq)+((281474976710656*aF)+((1099511627776*aO)+((4294967296*aH)+((16777216*aR)+((65536*aS)+((256*z20)+z21))))))),((72057594037927936*z22)+((281474976710656*aY)+((1099511627776*z24)+((4294967296*bh)+((16777216*z26)+((65536*bo)+((256*z28)+bu))))))),((72057594037927936*bt)+((281474976710656*z31)+((1099511627776*aL)+((4294967296*a8)+((16777216*bn)+((65536*bg)+((256*bB)+z37))))))),((72057594037927936*bP)+((281474976710656*bI)+((1099511627776*z40)+((4294967296*bY)+((16777216*bT)+((65536*cf)+((256*ct)+b7))))))),((72057594037927936*z46)+((281474976710656*b6)+((1099511627776*cd)+((4294967296*z49)+((16777216*cm)+((65536*z51)+((256*bX)+z53))))))),((72057594037927936*cn)+((281474976710656*cv)+((1099511627776*cA)+((4294967296*cp)+((16777216*cx)+((65536*z59)+((256*cE)+cG))))))),((72057594037927936*cH)+((281474976710656*cq)+((1099511627776*cU)+((4294967296*c9)+((16777216*c2)+((65536*cX)+((256*dh)+cI))))))),((72057594037927936*z70)+((281474976710656*dn)+((1099511627776*z72)+((4294967296*cQ)+((16777216*e1)+((65536*z75)+((256*z76)+eK))))))),((72057594037927936*dA)+((281474976710656*ee)+((1099511627776*eF)+((4294967296*fH)+((16777216*fk)+((65536*eV)+((256*fI)+z85))))))),((72057594037927936*fv)+((281474976710656*z87)+((1099511627776*gh)+((4294967296*fl)+((16777216*gY)+((65536*z91)+((256*fw)+z93))))))),((72057594037927936*gK)+((281474976710656*iW)+((1099511627776*cR)+((4294967296*p7)+((16777216*pC)+((65536*kC)+((256*nH)+sf))))))),((72057594037927936*sg)+((281474976710656*si)+((1099511627776*sj)+((4294967296*z105)+((16777216*sk)+((65536*z107)+((256*yc)+z109))))))),((72057594037927936*yd)+((281474976710656*ye)+((1099511627776*wx)+((4294967296*wy)+((16777216*qG)+((65536*rr)+((256*z116)+z117))))))),((72057594037927936*qH)+((281474976710656*z119)+((1099511627776*wz)+((4294967296*wA)+((16777216*wB)+((65536*wC)+((256*z124)+wD))))))),((72057594037927936*wE)+((281474976710656*z127)+((1099511627776*zq)+((4294967296*yf)+((16777216*z130)+((65536*z131)+((256*yg)+oX))))))),((72057594037927936*p6)+((281474976710656*ru)+((1099511627776*yh)+((4294967296*yi)+((16777216*z138)+((65536*z139)+((256*yj)+z141)))))))]:=by
   rw[<-ea]
   show [((((((((0*256+aq)*256+aF)*256+aO)*256+aH)*256+aR)*256+aS)*256+z20)*256+z21),((((((((0*256+z22)*256+aY)*256+z24)*256+bh)*256+z26)*256+bo)*256+z28)*256+bu),((((((((0*256+bt)*256+z31)*256+aL)*256+a8)*256+bn)*256+bg)*256+bB)*256+z37),((((((((0*256+bP)*256+bI)*256+z40)*256+bY)*256+bT)*256+cf)*256+ct)*256+b7),((((((((0*256+z46)*256+b6)*256+cd)*256+z49)*256+cm)*256+z51)*256+bX)*256+z53),((((((((0*256+cn)*256+cv)*256+cA)*256+cp)*256+cx)*256+z59)*256+cE)*256+cG),((((((((0*256+cH)*256+cq)*256+cU)*256+c9)*256+c2)*256+cX)*256+dh)*256+cI),((((((((0*256+z70)*256+dn)*256+z72)*256+cQ)*256+e1)*256+z75)*256+z76)*256+eK),((((((((0*256+dA)*256+ee)*256+eF)*256+fH)*256+fk)*256+eV)*256+fI)*256+z85),((((((((0*256+fv)*256+z87)*256+gh)*256+fl)*256+gY)*256+z91)*256+fw)*256+z93),((((((((0*256+gK)*256+iW)*256+cR)*256+p7)*256+pC)*256+kC)*256+nH)*256+sf),((((((((0*256+sg)*256+si)*256+sj)*256+z105)*256+sk)*256+z107)*256+yc)*256+z109),((((((((0*256+yd)*256+ye)*256+wx)*256+wy)*256+qG)*256+rr)*256+z116)*256+z117),((((((((0*256+qH)*256+z119)*256+wz)*256+wA)*256+wB)*256+wC)*256+z124)*256+wD),((((((((0*256+wE)*256+z127)*256+zq)*256+yf)*256+z130)*256+z131)*256+yg)*256+oX),((((((((0*256+p6)*256+ru)*256+yh)*256+yi)*256+z138)*256+z139)*256+yj)*256+z141)]=_
   simp only[qK,and_true]
   refine⟨by omega,by omega,by omega,by omega,by omega,by omega,by omega,by omega,by omega,by omega,by omega,by omega,by omega,by omega,by omega,by omega⟩
  obtain⟨ws,Wv⟩:∃l,M3 cL bl=l:=⟨_,rfl⟩
  intro ED eU tu uO z143 ag an qD EE ad aj sQ z145 ao ay A0 z146 cZ pz JA EF iV Y3 Rn z148 jG Y4 Ro EG n7 Y5 Rp EH n8 Y6 u8 EI n9 Y7 kB z152 oA Y0 ku EJ gX Rt kv z154 jF Y1 kx EK n6 Y2 ky z156 wu aix kz z157 wv aiy kA
  have v0:=rL (l:=[]) uO oW
  have v1:=rL qD v0
  have v2:=rL sQ v1
  have v3:=rL A0 v2
  have v4:=rL JA v3
  have v5:=rL Rn v4
  have v6:=rL Ro v5
  have azk:=rL Rp v6
  have azl:=rL u8 azk
  have v9:=rL kB azl
  have v10:=rL ku v9
  have v11:=rL kv v10
  have v12:=rL kx v11
  have azf:=rL ky v12
  have azg:=rL kz azf
  have azh:=rL kA azg
  have hr:ak z157=rws ws:=by
   rw[<-Wv,BB];exact azh
  have wl:ws.length=16:=by rw[<-Wv];simp[M3]
  refine⟨by show(ak z157).length<=1000000;rw[hr,Cv,wl];decide,?_⟩
  intro wF i0 i1 AA z159 D4 k1 z160 m0 gW jt
  have AA:ak wF=ak z157:=AA
  rw[hr]at AA
  have jt:z160=((ak wF).length:Int):=jt
  rw[AA,Cv,wl]at jt
  refine⟨λl=>∃(j:Nat) (c k:Int),j<=64/\l=[[((16+j:Nat):Int)],[c],[((16+j:Nat):Int)],[k]]/\ak c=rws (Ak cL j ws),λl=>(80-(l.getD 0 []).getD 0 0).toNat,⟨0,wF,z159,Nf _,by rw[jt];rfl,AA⟩,?_⟩
  intro z162 QA o1 oa p0 cz z164 e4 bm uS r0 r1 ⟨j,c,ot,aK,hl,hc⟩
  simp only[qK,and_true]at hl
  obtain⟨VY,F2,PL,aFA⟩:=hl
  subst F2
  obtain⟨bF,qq⟩:∃l,Ak cL j ws=l:=⟨_,rfl⟩
  rw[qq]at hc
  have agb:bF.length=16+j:=by rw[<-qq,adi,wl]
  have Kt:((ak oa).length:Int)=16+(j:Int):=by rw[hc,Cv,agb];omega
  refine⟨λhlt=>?_,λtc=>?_⟩
  ·have hlt:=of_decide_eq_true hlt
   refine⟨⟨by omega,by omega⟩,⟨by omega,by rw[Kt];omega⟩,λJC aT s1 s2=>⟨⟨by omega,by omega⟩,⟨by omega,by rw[Kt];omega⟩,λz167 aGD aGF axA z168 aGK aGL Rm M6 aGM aGN aGO aGP=>⟨⟨by omega,by omega⟩,⟨by omega,by rw[Kt];omega⟩,λM7 w0 eJ qE z171 aHM aHN aHc aHx=>⟨⟨by omega,by omega⟩,⟨by omega,by rw[Kt];omega⟩,λZa aHO aHP az6 z173 aaS aaT E5 Zb akT akU Ke aCU=>⟨by show z164=((ak oa).length:Int);omega,by show((ak oa).length:Int)+1<=1073741824;omega,λz175 alr als Uh oY alU alV=>?_⟩⟩⟩⟩⟩
   have Rm:[[z168]]=[[MX cL z167]]:=Rm
   have E5:[[z173]]=[[MY cL Za]]:=E5
   simp only[qK,and_true]at Rm E5
   have aw:=KU s2 hc
   have aD:=KU axA hc
   have cj:=KU qE hc
   have hV:=KU az6 hc
   have apo:JC+(z168+((-18446744073709551616)*M6+(M7+((-18446744073709551616)*z171+(z173+(-18446744073709551616)*Zb)))))=IY cL bF:=by
    unfold IY
    rw[IP,agb,show 16+j-16=(z162+-16).toNat by omega,show 16+j-15=(z162+-15).toNat by omega,show 16+j-7=(z162+-7).toNat by omega,show 16+j-2=(z162+-2).toNat by omega,<-aw,<-aD,<-cj,<-hV,<-Rm,<-E5]
    omega
   have kn:=rL Uh hc
   rw[apo]at kn
   refine⟨⟨j+1,z175,oY,by omega,by rw[show z162+1=((16+(j+1):Nat):Int) by omega,show z164+1=((16+(j+1):Nat):Int) by omega],by rw[adj,qq];exact kn⟩,?_⟩
   show(80-(z162+1)).toNat<(80-z162).toNat
   omega
  ·have tc:=of_decide_eq_false tc
   have ao4:j=64:=by omega
   have apN:sched cL ws=bF:=by rw[<-qq,ao4];rfl
   refine⟨λl=>∃(t:Nat),t<=80/\l=[Ev cL 0 (bF.take t) av,[(t:Int)]],λl=>(80-(l.getD 1 []).getD 0 0).toNat,⟨0,Nf _,rfl⟩,?_⟩
   intro pv apH z175 aT s1 ⟨t,aA,hl⟩
   simp only[qK,and_true]at hl
   obtain⟨hv,aFJ⟩:=hl
   obtain⟨jQ,eZ⟩:=WI 8 pv apH
   refine⟨λhlt=>?_,λaeH=>?_⟩
   ·have hlt:=of_decide_eq_true hlt
    refine⟨⟨by omega,by omega⟩,⟨by omega,by rw[Kt];omega⟩,?_⟩
    intro oY aaS aaT E5 pA akT akU Ke sm alr als Uh alu CC alU alV alW CD aDa aDb amw pB aDc aDd amE z182 aEV aEW anI anJ
    refine⟨⟨by omega,by omega⟩,?_⟩
    intro z183 PH aFs Lq zr aFN aFO aqV aqW A3 aFP aFQ aq6 aq7 A4 aFZ aF0 Qm Ru aF8 aF9 arS Rv aGb aGc asc Rw aGg aGh asu Rx aGi aGj atE zt aGp aGq avb JD aGs aGt aGu aGv z193 aGw aGx ahu ahv z194 aGz aGA axj axk zu aGE aGG aGH aGI
    have Wm:t<80:=by omega
    have ama:zu=0:=by omega
    have ex:=KU E5 hc
    rw[show z175.toNat=t by omega]at ex
    have Ke:[[pA]]=[[HB cL (pv.getD 4 0)]]:=Ke
    have Lq:[[z183]]=[[MQ cL z175.toNat]]:=Lq
    have Qm:[[A4]]=[[HA cL (pv.getD 0 0)]]:=Qm
    simp only[qK,and_true]at Ke Lq Qm
    rw[show z175.toNat=t by omega]at Lq
    have pd:pB=OV cL (pv.getD 4 0) (pv.getD 5 0) (pv.getD 6 0):=by
     rw[amE,alW,amw]
     unfold OV
     rw[show(2:Int)^cL.w-1-pv.getD 4 0=-1*pv.getD 4 0+18446744073709551615 by rw[show(2:Int)^cL.w=18446744073709551616 by decide];omega]
     rfl
    have api:zt=Xc cL (pv.getD 0 0) (pv.getD 1 0) (pv.getD 2 0):=by
     rw[avb,asu,asc,arS,atE];rfl
    obtain⟨A,aU⟩:∃A,pv.getD 0 0=A:=⟨_,rfl⟩
    obtain⟨D,q0⟩:∃A,pv.getD 3 0=A:=⟨_,rfl⟩
    obtain⟨H,ad1⟩:∃A,pv.getD 7 0=A:=⟨_,rfl⟩
    rw[ad1]at Uh alu anI anJ aqV aqW aq6 aq7 ahu ahv axj axk⊢
    rw[q0]at ahu ahv⊢
    have Wk:=axl t oY jQ
    rw[ad1,q0,<-Ke,<-pd,<-Lq,<-Qm,<-api]at Wk
    have bH:md cL (H+pA+pB+z183+oY)=H+(oY+(pA+((-18446744073709551616)*sm+(pB+((-18446744073709551616)*z182+(z183+((-18446744073709551616)*zr+(-18446744073709551616)*A3))))))):=by
     rw[IP];omega
    have an6:md cL (A4+zt)=A4+(zt+(-18446744073709551616)*JD):=by
     rw[IP];omega
    simp only[bH,an6]at Wk
    refine⟨⟨by omega,by omega⟩,⟨t+1,by omega,?_⟩,?_⟩
    ·rw[axW bF t (by omega),ahy,<-hv,show 0+(bF.take t).length=t by rw[su];omega,<-ex,Wk,ama]
     simp only[qK,and_true]
     refine⟨⟨?_,trivial,trivial,trivial,?_⟩,?_⟩
     ·rw[IP];exact agd (k:=z194) (by omega) (by omega) (by omega)
     ·rw[IP];exact agd (k:=z193) (by omega) (by omega) (by omega)
     ·omega
    ·show(80-(z175+-18446744073709551616*zu+1)).toNat<(80-z175).toNat
     omega
   ·have aeH:=of_decide_eq_false aeH
    intro oY aaS aCv aCD aCL pA aaT aCw aCE aCM sm E5 aCx aCF aCN CC aCq aCy aCG aCO CD aCr aCz aCH aCP pB aCs aCA aCI aCQ z182 aCt aCB aCJ aCR z183 aCu aCC aCK aCS
    have Wm:t=80:=by omega
    have aoV:bF.take t=bF:=uU (by omega)
    rw[aoV]at hv
    have xl:Jz cL av ws=[av.getD 0 0+(pv.getD 0 0+(-18446744073709551616)*oY),av.getD 1 0+(pv.getD 1 0+(-18446744073709551616)*pA),av.getD 2 0+(pv.getD 2 0+(-18446744073709551616)*sm),av.getD 3 0+(pv.getD 3 0+(-18446744073709551616)*CC),av.getD 4 0+(pv.getD 4 0+(-18446744073709551616)*CD),av.getD 5 0+(pv.getD 5 0+(-18446744073709551616)*pB),av.getD 6 0+(pv.getD 6 0+(-18446744073709551616)*z182),av.getD 7 0+(pv.getD 7 0+(-18446744073709551616)*z183)]:=by
     unfold Jz
     rw[apN,<-hv,aAY _ xx jQ]
     simp only[IP,qK,and_true]
     refine⟨by omega,by omega,by omega,by omega,by omega,by omega,by omega,by omega⟩
    refine⟨⟨i+1,by omega,?_⟩,?_⟩
    ·rw[<-xl,ad2]
     show _=[Jz cL (Ki cL (bJ z0) i (C7 cL)) (M3 cL (((bJ z0).drop (128*i)).take 128)),_]
     rw[BD,Wv,show ai+1=((i+1:Nat):Int) by omega]
    ·show((q:Int)-(ai+1)).toNat<((q:Int)-ai).toNat
     omega
 ·have h:=of_decide_eq_false h
  have aeL:i=q:=by omega
  have jr:u7 cL (bJ z0)=Ee cL av:=by
   unfold u7
   rw[aX,show 2*cL.w=128 from rfl,Nat.mul_div_cancel_left q (by decide),<-aeL,<-ad2]
  have kV:Ee cL av=((((((([]++(fY 8).map (xc cL (av.getD 0 0)))++(fY 8).map (xc cL (av.getD 1 0)))++(fY 8).map (xc cL (av.getD 2 0)))++(fY 8).map (xc cL (av.getD 3 0)))++(fY 8).map (xc cL (av.getD 4 0)))++(fY 8).map (xc cL (av.getD 5 0)))++(fY 8).map (xc cL (av.getD 6 0)))++(fY 8).map (xc cL (av.getD 7 0)):=by
   conv=>lhs;rw[arQ xx]
   rfl
  refine Ez (pre:=[]) oW rfl (by simp) λaCW aF2 aFR p0 cz h0 al8=>?_
  refine Ez h0 (by rw[al8];simp) (by simp) λaCX afK aFS cw dc h1 O4=>?_
  refine Ez h1 (by rw[O4];simp) (by simp) λaCY afL aFT fC fN h2 Ux=>?_
  refine Ez h2 (by rw[Ux];simp) (by simp) λOg aF3 aFU gH pW h3 Uy=>?_
  refine Ez h3 (by rw[Uy];simp) (by simp) λaCZ aF5 aFV I1 agX h4 amb=>?_
  refine Ez h4 (by rw[amb];simp) (by simp) λaC0 aF6 aFW agW aGk h5 amc=>?_
  refine Ez h5 (by rw[amc];simp) (by simp) λaC1 aF7 aFX aGl aGm h6 ame=>?_
  refine Ez h6 (by rw[ame];simp) (by simp) λacw arz aFY aGn aGo h7 amf=>?_
  have VZ:ak acw=rws (Ee cL av):=by rw[h7,kV]
  have arR:arz=((ak acw).length:Int):=by rw[h7,Cv,amf];simp
  refine⟨⟨cW _,by omega,by omega⟩,λaAX eU ag ad=>⟨⟨eU,ag,trivial⟩,?_⟩⟩
  have hf:=kt ad arR
  show bJ aAX=u7 cL (bJ z0)
  rw[jr]
  exact Ub (by rw[hf,VZ])
end Go.fZ
namespace Go.fZ
open Go Go.ch
def Z4 (S:Nat->List (List Int)->List (List Int)->Prop) (K:List (List Int)->List (List Int)->Prop):Prop:=
 ∀z0:Int,0<=z0->z0<=bU->∀aB:Int,0<=aB->aB<=bU->
 (ar 75 [z0,aB]->
 ∀z2:Int,0<=z2->
 ∀z3:Int,(-1)<=z3->z3<=9223372036854775807->
 ∀z4:Int,0<=z4->z4<=9223372036854775807->z4=bE 20 [z0]->
 ∀z5:Int,0<=z5->
 ∀a7:Int,(-1)<=a7->a7<=9223372036854775807->
 ∀aJ:Int,0<=aJ->aJ<=9223372036854775807->aJ=bE 20 [aB]->
 (((decide ((((-1)*z4)+9223372036854775807)<aJ))=true->
  False
 )/\((decide ((((-1)*z4)+9223372036854775807)<aJ))=false->
  ∀aI:Int,0<=aI->aI<=1->0<=((z4+aJ)+9223372036854775808)-18446744073709551616*aI->((z4+aJ)+9223372036854775808)-18446744073709551616*aI<18446744073709551616->
  ar 26 [(z4+(aJ+((-18446744073709551616)*aI)))]/\
  ∀z9:Int,0<=z9->z9<=bU->
  (ar 31 [z9,(z4+(aJ+((-18446744073709551616)*aI)))]->
  ∀aP:Int,0<=aP->aP<=9223372036854775807->
  (ar 79 [(z4+(aJ+((-18446744073709551616)*aI))),aP]->
  ar 78 [0,(z4+(aJ+((-18446744073709551616)*aI))),(z4+(aJ+((-18446744073709551616)*aI))),aP]/\
  ∀aG:Int,0<=aG->aG<=9223372036854775808->aG=bE 33 [0,0,(z4+(aJ+((-18446744073709551616)*aI)))]->
  ar 80 [z9,aG,(z4+(aJ+((-18446744073709551616)*aI)))]/\
  ar 22 [z0,0,z4]/\
  ∀z12:Int,0<=z12->z12<=9223372036854775807->z12=bE 62 [z4,(z4+(aJ+((-18446744073709551616)*aI)))]->
  ∀ai:Int,0<=ai->ai<=bU->ai=bE 22 [z0,0,z12]->
  ∀aq:Int,0<=aq->aq<=bU->aq=bE 63 [z9,aG,ai]->
  ar 32 [z12,(z4+(aJ+((-18446744073709551616)*aI))),(z4+(aJ+((-18446744073709551616)*aI)))]/\
  (ar 68 [(z4+(aJ+((-18446744073709551616)*aI))),(z4+(aJ+((-18446744073709551616)*aI)))]->
  ∀aF:Int,0<=aF->aF<=9223372036854775808->aF=bE 33 [aG,z12,(z4+(aJ+((-18446744073709551616)*aI)))]->
  ar 32 [z12,(z4+(aJ+((-18446744073709551616)*aI))),(z4+(aJ+((-18446744073709551616)*aI)))]/\
  (ar 68 [(z4+(aJ+((-18446744073709551616)*aI))),(z4+(aJ+((-18446744073709551616)*aI)))]->
  ∀aO:Int,0<=aO->aO<=9223372036854775808->aO=bE 33 [aG,z12,(z4+(aJ+((-18446744073709551616)*aI)))]->
  ar 80 [aq,aO,(z4+(aJ+(((-18446744073709551616)*aI)+((-1)*z12))))]/\
  ar 22 [aB,0,aJ]/\
  ∀aH:Int,0<=aH->aH<=9223372036854775807->aH=bE 62 [aJ,(z4+(aJ+(((-18446744073709551616)*aI)+((-1)*z12))))]->
  ∀aR:Int,0<=aR->aR<=bU->aR=bE 22 [aB,0,aH]->
  ∀aS:Int,0<=aS->aS<=bU->aS=bE 63 [aq,aO,aR]->
  ∀z20:Int,0<=z20->z20<=1->0<=((z12+aH)+9223372036854775808)-18446744073709551616*z20->((z12+aH)+9223372036854775808)-18446744073709551616*z20<18446744073709551616->
  ar 22 [aS,aG,(z4+(aJ+(((-18446744073709551616)*aI)+aG)))]/\
  ar 40 [(z4+(aJ+((-18446744073709551616)*aI))),aP]/\
  ∀z21:Int,0<=z21->z21<=bU->z21=bE 22 [aS,aG,(z4+(aJ+(((-18446744073709551616)*aI)+aG)))]->
  K [[z0],[aB]] [[z21]]
  )
  )
  )
  )
 ))
 )
def Z5 (S:Nat->List (List Int)->List (List Int)->Prop) (K:List (List Int)->List (List Int)->Prop):Prop:=
 ∀z0:Int,0<=z0->z0<=bU->∀aB:Int,0<=aB->aB<=bU->∀z2:Int,0<=z2->z2<=bU->
 (ar 75 [z0,aB,z2]->
 ∀z3:Int,0<=z3->
 ∀z4:Int,(-1)<=z4->z4<=9223372036854775807->
 ∀z5:Int,0<=z5->z5<=9223372036854775807->z5=bE 20 [z0]->
 ∀a7:Int,0<=a7->
 ∀aJ:Int,(-1)<=aJ->aJ<=9223372036854775807->
 ∀aI:Int,0<=aI->aI<=9223372036854775807->aI=bE 20 [aB]->
 ∀z9:Int,0<=z9->
 ∀aP:Int,(-1)<=aP->aP<=9223372036854775807->
 ∀aG:Int,0<=aG->aG<=9223372036854775807->aG=bE 20 [z2]->
 (((decide ((((-1)*z5)+9223372036854775807)<aI))=true->
  False
 )/\((decide ((((-1)*z5)+9223372036854775807)<aI))=false->
  ∀z12:Int,0<=z12->z12<=1->0<=((z5+aI)+9223372036854775808)-18446744073709551616*z12->((z5+aI)+9223372036854775808)-18446744073709551616*z12<18446744073709551616->
  ∀ai:Int,0<=ai->ai<=1->0<=((((-1)*z5)+(((-1)*aI)+(18446744073709551616*z12)))+18446744073709551615)-18446744073709551616*ai->((((-1)*z5)+(((-1)*aI)+(18446744073709551616*z12)))+18446744073709551615)-18446744073709551616*ai<18446744073709551616->
  (((decide (((((-1)*z5)+(((-1)*aI)+((18446744073709551616*z12)+((-18446744073709551616)*ai))))+9223372036854775807)<aG))=true->
   False
  )/\((decide (((((-1)*z5)+(((-1)*aI)+((18446744073709551616*z12)+((-18446744073709551616)*ai))))+9223372036854775807)<aG))=false->
   ∀aq:Int,0<=aq->aq<=1->0<=((z5+(aI+(aG+((-18446744073709551616)*z12))))+9223372036854775808)-18446744073709551616*aq->((z5+(aI+(aG+((-18446744073709551616)*z12))))+9223372036854775808)-18446744073709551616*aq<18446744073709551616->
   ar 26 [(z5+(aI+(aG+(((-18446744073709551616)*z12)+((-18446744073709551616)*aq)))))]/\
   ∀aF:Int,0<=aF->aF<=bU->
   (ar 31 [aF,(z5+(aI+(aG+(((-18446744073709551616)*z12)+((-18446744073709551616)*aq)))))]->
   ∀aO:Int,0<=aO->aO<=9223372036854775807->
   (ar 79 [(z5+(aI+(aG+(((-18446744073709551616)*z12)+((-18446744073709551616)*aq))))),aO]->
   ar 78 [0,(z5+(aI+(aG+(((-18446744073709551616)*z12)+((-18446744073709551616)*aq))))),(z5+(aI+(aG+(((-18446744073709551616)*z12)+((-18446744073709551616)*aq))))),aO]/\
   ∀aH:Int,0<=aH->aH<=9223372036854775808->aH=bE 33 [0,0,(z5+(aI+(aG+(((-18446744073709551616)*z12)+((-18446744073709551616)*aq)))))]->
   ar 80 [aF,aH,(z5+(aI+(aG+(((-18446744073709551616)*z12)+((-18446744073709551616)*aq)))))]/\
   ar 22 [z0,0,z5]/\
   ∀aR:Int,0<=aR->aR<=9223372036854775807->aR=bE 62 [z5,(z5+(aI+(aG+(((-18446744073709551616)*z12)+((-18446744073709551616)*aq)))))]->
   ∀aS:Int,0<=aS->aS<=bU->aS=bE 22 [z0,0,aR]->
   ∀z20:Int,0<=z20->z20<=bU->z20=bE 63 [aF,aH,aS]->
   ar 32 [aR,(z5+(aI+(aG+(((-18446744073709551616)*z12)+((-18446744073709551616)*aq))))),(z5+(aI+(aG+(((-18446744073709551616)*z12)+((-18446744073709551616)*aq)))))]/\
   (ar 68 [(z5+(aI+(aG+(((-18446744073709551616)*z12)+((-18446744073709551616)*aq))))),(z5+(aI+(aG+(((-18446744073709551616)*z12)+((-18446744073709551616)*aq)))))]->
   ∀z21:Int,0<=z21->z21<=9223372036854775808->z21=bE 33 [aH,aR,(z5+(aI+(aG+(((-18446744073709551616)*z12)+((-18446744073709551616)*aq)))))]->
   ar 32 [aR,(z5+(aI+(aG+(((-18446744073709551616)*z12)+((-18446744073709551616)*aq))))),(z5+(aI+(aG+(((-18446744073709551616)*z12)+((-18446744073709551616)*aq)))))]/\
   (ar 68 [(z5+(aI+(aG+(((-18446744073709551616)*z12)+((-18446744073709551616)*aq))))),(z5+(aI+(aG+(((-18446744073709551616)*z12)+((-18446744073709551616)*aq)))))]->
   ∀z22:Int,0<=z22->z22<=9223372036854775808->z22=bE 33 [aH,aR,(z5+(aI+(aG+(((-18446744073709551616)*z12)+((-18446744073709551616)*aq)))))]->
   ar 80 [z20,z22,(z5+(aI+(aG+(((-18446744073709551616)*z12)+(((-18446744073709551616)*aq)+((-1)*aR))))))]/\
   ar 22 [aB,0,aI]/\
   ∀aY:Int,0<=aY->aY<=9223372036854775807->aY=bE 62 [aI,(z5+(aI+(aG+(((-18446744073709551616)*z12)+(((-18446744073709551616)*aq)+((-1)*aR))))))]->
   ∀z24:Int,0<=z24->z24<=bU->z24=bE 22 [aB,0,aY]->
   ∀bh:Int,0<=bh->bh<=bU->bh=bE 63 [z20,z22,z24]->
   ∀z26:Int,0<=z26->z26<=1->0<=((aR+aY)+9223372036854775808)-18446744073709551616*z26->((aR+aY)+9223372036854775808)-18446744073709551616*z26<18446744073709551616->
   ar 32 [(aR+(aY+((-18446744073709551616)*z26))),(z5+(aI+(aG+(((-18446744073709551616)*z12)+((-18446744073709551616)*aq))))),(z5+(aI+(aG+(((-18446744073709551616)*z12)+((-18446744073709551616)*aq)))))]/\
   (ar 68 [(z5+(aI+(aG+(((-18446744073709551616)*z12)+((-18446744073709551616)*aq))))),(z5+(aI+(aG+(((-18446744073709551616)*z12)+((-18446744073709551616)*aq)))))]->
   ∀bo:Int,0<=bo->bo<=9223372036854775808->bo=bE 33 [aH,(aR+(aY+((-18446744073709551616)*z26))),(z5+(aI+(aG+(((-18446744073709551616)*z12)+((-18446744073709551616)*aq)))))]->
   ar 32 [(aR+(aY+((-18446744073709551616)*z26))),(z5+(aI+(aG+(((-18446744073709551616)*z12)+((-18446744073709551616)*aq))))),(z5+(aI+(aG+(((-18446744073709551616)*z12)+((-18446744073709551616)*aq)))))]/\
   (ar 68 [(z5+(aI+(aG+(((-18446744073709551616)*z12)+((-18446744073709551616)*aq))))),(z5+(aI+(aG+(((-18446744073709551616)*z12)+((-18446744073709551616)*aq)))))]->
   ∀z28:Int,0<=z28->z28<=9223372036854775808->z28=bE 33 [aH,(aR+(aY+((-18446744073709551616)*z26))),(z5+(aI+(aG+(((-18446744073709551616)*z12)+((-18446744073709551616)*aq)))))]->
   ar 80 [bh,z28,(z5+(aI+(aG+(((-18446744073709551616)*z12)+(((-18446744073709551616)*aq)+(((-1)*aR)+(((-1)*aY)+(18446744073709551616*z26))))))))]/\
   ar 22 [z2,0,aG]/\
   ∀bu:Int,0<=bu->bu<=9223372036854775807->bu=bE 62 [aG,(z5+(aI+(aG+(((-18446744073709551616)*z12)+(((-18446744073709551616)*aq)+(((-1)*aR)+(((-1)*aY)+(18446744073709551616*z26))))))))]->
   ∀bt:Int,0<=bt->bt<=bU->bt=bE 22 [z2,0,bu]->
   ∀z31:Int,0<=z31->z31<=bU->z31=bE 63 [bh,z28,bt]->
   ∀aL:Int,0<=aL->aL<=1->0<=((aR+(aY+(((-18446744073709551616)*z26)+bu)))+9223372036854775808)-18446744073709551616*aL->((aR+(aY+(((-18446744073709551616)*z26)+bu)))+9223372036854775808)-18446744073709551616*aL<18446744073709551616->
   ar 22 [z31,aH,(z5+(aI+(aG+(((-18446744073709551616)*z12)+(((-18446744073709551616)*aq)+aH)))))]/\
   ar 40 [(z5+(aI+(aG+(((-18446744073709551616)*z12)+((-18446744073709551616)*aq))))),aO]/\
   ∀a8:Int,0<=a8->a8<=bU->a8=bE 22 [z31,aH,(z5+(aI+(aG+(((-18446744073709551616)*z12)+(((-18446744073709551616)*aq)+aH)))))]->
   K [[z0],[aB],[z2]] [[a8]]
   )
   )
   )
   )
   )
   )
  ))
 ))
 )
def Z9 (S:Nat->List (List Int)->List (List Int)->Prop) (K:List (List Int)->List (List Int)->Prop):Prop:=
 ∀z0:Int,0<=z0->z0<=bU->∀aB:Int,0<=aB->aB<=bU->
 (ar 75 [z0,aB]->
 ∀z2:Int,0<=z2->
 ∀z3:Int,(-1)<=z3->z3<=9223372036854775807->
 ∀z4:Int,0<=z4->z4<=9223372036854775807->z4=bE 20 [z0]->
 ∀z5:Int,0<=z5->
 ∀a7:Int,(-1)<=a7->a7<=9223372036854775807->
 ∀aJ:Int,0<=aJ->aJ<=9223372036854775807->aJ=bE 20 [aB]->
 ar 22 [z0,0,z4]/\
 ∀aI:Int,0<=aI->aI<=bU->aI=bE 22 [z0,0,z4]->
 ar 22 [aB,0,aJ]/\
 ∀z9:Int,0<=z9->z9<=bU->z9=bE 22 [aB,0,aJ]->
 ar 75 [aI,z9]/\
 ∀aP:Int,0<=aP->aP<=bU->S 472 [[aI],[z9]] [[aP]]->
 ∀aG:Int,0<=aG->
 ∀z12:Int,(-1)<=z12->z12<=9223372036854775807->
 ∀ai:Int,0<=ai->ai<=9223372036854775807->ai=bE 20 [aP]->
 ar 22 [aP,0,ai]/\
 ∀aq:Int,0<=aq->aq<=bU->aq=bE 22 [aP,0,ai]->
 ar 71 [aq]/\
 ∀aF:Int,0<=aF->aF<=bU->S 443 [[aq]] [[aF]]->
 ∀aO:Int,(-1)<=aO->aO<=9223372036854775807->
 ∀aH:Int,0<=aH->aH<=9223372036854775807->aH=bE 20 [aF]->
 ar 22 [aF,0,aH]/\
 ∀aR:Int,0<=aR->aR<=bU->aR=bE 22 [aF,0,aH]->
 ar 73 [aR]/\
 ∀aS:Int,0<=aS->aS<=bU->S 465 [[aR]] [[aS]]->
 ∀z20:Int,(-1)<=z20->z20<=9223372036854775807->
 ∀z21:Int,0<=z21->z21<=9223372036854775807->z21=bE 20 [aS]->
 ar 30 [63,z21]/\
 ar 21 [aS,0]/\
 OW aS 64 0 [] λEC=>
 K [[z0],[aB]] [EC]
 )
def aaa (S:Nat->List (List Int)->List (List Int)->Prop) (K:List (List Int)->List (List Int)->Prop):Prop:=
 ∀z0:Int,0<=z0->z0<=bU->∀aB:Int,0<=aB->aB<=bU->∀z2:Int,0<=z2->z2<=bU->
 (ar 75 [z0,aB,z2]->
 ∀z3:Int,0<=z3->
 ∀z4:Int,(-1)<=z4->z4<=9223372036854775807->
 ∀z5:Int,0<=z5->z5<=9223372036854775807->z5=bE 20 [z0]->
 ∀a7:Int,0<=a7->
 ∀aJ:Int,(-1)<=aJ->aJ<=9223372036854775807->
 ∀aI:Int,0<=aI->aI<=9223372036854775807->aI=bE 20 [aB]->
 ∀z9:Int,0<=z9->
 ∀aP:Int,(-1)<=aP->aP<=9223372036854775807->
 ∀aG:Int,0<=aG->aG<=9223372036854775807->aG=bE 20 [z2]->
 ar 22 [z0,0,z5]/\
 ∀z12:Int,0<=z12->z12<=bU->z12=bE 22 [z0,0,z5]->
 ar 22 [aB,0,aI]/\
 ∀ai:Int,0<=ai->ai<=bU->ai=bE 22 [aB,0,aI]->
 ar 22 [z2,0,aG]/\
 ∀aq:Int,0<=aq->aq<=bU->aq=bE 22 [z2,0,aG]->
 ar 75 [z12,ai,aq]/\
 ∀aF:Int,0<=aF->aF<=bU->S 469 [[z12],[ai],[aq]] [[aF]]->
 ∀aO:Int,0<=aO->
 ∀aH:Int,(-1)<=aH->aH<=9223372036854775807->
 ∀aR:Int,0<=aR->aR<=9223372036854775807->aR=bE 20 [aF]->
 ar 22 [aF,0,aR]/\
 ∀aS:Int,0<=aS->aS<=bU->aS=bE 22 [aF,0,aR]->
 ar 71 [aS]/\
 ∀z20:Int,0<=z20->z20<=bU->S 443 [[aS]] [[z20]]->
 ∀z21:Int,(-1)<=z21->z21<=9223372036854775807->
 ∀z22:Int,0<=z22->z22<=9223372036854775807->z22=bE 20 [z20]->
 ar 22 [z20,0,z22]/\
 ∀aY:Int,0<=aY->aY<=bU->aY=bE 22 [z20,0,z22]->
 ar 73 [aY]/\
 ∀z24:Int,0<=z24->z24<=bU->S 465 [[aY]] [[z24]]->
 ∀bh:Int,(-1)<=bh->bh<=9223372036854775807->
 ∀z26:Int,0<=z26->z26<=9223372036854775807->z26=bE 20 [z24]->
 ar 30 [63,z26]/\
 ar 21 [z24,0]/\
 OW z24 64 0 [] λEC=>
 K [[z0],[aB],[z2]] [EC]
 )
theorem Un {c:Int} {k:List Int->Prop}:∀(n i:Nat) (acc:List Int),i+n<=(ak c).length->(∀l:List Int,l.length=n->(∀x∈l,0<=x/\x<=255)->l=((bJ c).drop i).take n->k (acc++l))->OW c n i acc k
 |0,i,acc,_,h=>by
  have:=h [] rfl (by simp) (by simp)
  show k acc
  simpa using this
 |n+1,i,acc,hl,h=>⟨⟨by omega,by omega⟩,λy tu an hy=>Un n (i+1) (acc++[y]) (by omega) λl h1 h2 h3=>by
  have hb:i<(bJ c).length:=by rw[xb];omega
  have e:y=(bJ c)[i]:=by rw[dK hy,sq,yr,qJ hb];rfl
  have:=h (y::l) (by simp[h1]) (λx hx=>by
   rcases List.mem_cons.1 hx with rfl|hx
   ·exact⟨tu,an⟩
   ·exact h2 x hx) (by rw[aB3 hb,o4,<-e,<-h3])
  simpa using this⟩
theorem Mi {c x s t n a b m r0 r:Int} {A B:List (List Int)} (hc:ak c=A++B) (aU:(A.length:Int)=s) (ea:(B.length:Int)=t-s) (h0:r0=0) (hr:r=bE 33 [r0,a,b]) (ha:a=s) (hb:b=t) (hn:n=((ak x).length:Int)) (hle:n<=t-s) (hm:m=t-s):
 ar 80 [c,r,m]/\ar 22 [x,0,n]/\∀q,q=bE 62 [n,m]->q=n/\∀src,src=bE 22 [x,0,q]->∀eR,eR=bE 63 [c,r,src]->∃ZN,ak eR=(A++ak x)++ZN/\(ZN.length:Int)=t-s-n:=by
 subst h0;subst ha;subst hb;subst hm
 have hr:r=if a=b then 0 else 0+a:=hr
 have Lw:((ak c).length:Int)=b:=by rw[hc,fQ];omega
 have DZ:0<=r/\r<=a/\(a≠b->r=a):=by
  by_cases h:a=b
  ·rw[if_pos h]at hr;exact⟨by omega,by omega,λh2=>absurd h h2⟩
  ·rw[if_neg h]at hr;exact⟨by omega,by omega,λ_=>by omega⟩
 refine⟨⟨DZ.1,by omega,by rw[Lw];omega⟩,⟨cW _,by omega,by rw[hn];exact cW _⟩,λq ah=>?_⟩
 have ah:q=min n (b-a):=ah
 have ae3:q=n:=by omega
 refine⟨ae3,λsrc hs eR DP=>?_⟩
 have hs:ak src=ak x:=kt hs (by rw[ae3,hn])
 have DP:eR=rc ((ak c).take r.toNat++ak src++(ak c).drop (r.toNat+(ak src).length)):=DP
 by_cases h:a=b
 ·have BR:ak x=[]:=zI (by omega)
  refine⟨B,?_,by omega⟩
  rw[DP,kh,hs,BR,hc]
  simp
 ·have aFG:=DZ.2.2 h
  refine⟨B.drop (ak x).length,?_,by rw[rA];omega⟩
  have e:r.toNat=A.length:=by omega
  rw[DP,kh,hs,hc,e,List.take_left,<-List.drop_drop,List.drop_left]
theorem auz:Z4 SB (j4 SB [mf] 472):=by
 intro z0 _ _ aB _ _ hp
 have hp:∀z∈([z0,aB]:List Int),(ak z).length<=100000000:=hp
 have avm:=hp z0 (by simp)
 have avn:=hp aB (by simp)
 intro z2 _ z3 _ _ z4 B8 _ h4 z5 _ a7 _ _ aJ Gs _ h7
 have h4:z4=((ak z0).length:Int):=h4
 have h7:aJ=((ak aB).length:Int):=h7
 refine⟨λh=>?_,λ_=>?_⟩
 ·have h:=of_decide_eq_true h
  omega
 intro w _ _ qE uc
 have vm:w=0:=by omega
 subst vm
 clear qE uc
 obtain⟨t,aA⟩:∃t:Int,z4+aJ=t:=⟨_,rfl⟩
 refine⟨⟨by omega,by omega⟩,?_⟩
 intro eS _ _ hc0
 have hc0:_=((ak eS).length:Int):=hc0
 intro oK alQ _ DS
 have DS:_<=oK:=DS
 refine⟨⟨by decide,by omega,by omega,by omega⟩,?_⟩
 intro r0 _ _ jc
 have jc:r0=if(0:Int)=_ then 0 else 0+0:=jc
 have jc:r0=0:=by rw[jc];split<;>rfl
 have i0:ak eS=([]:List (List Int))++ak eS:=rfl
 obtain⟨s1,s2,bS⟩:=Mi (c:=eS) (x:=z0) (s:=0) (t:=t) (n:=z4) (a:=0) (b:=t) (m:=t) (r0:=0) (r:=0) i0 rfl (by omega) rfl (by show(0:Int)=if(0:Int)=t then 0 else 0+0;split<;>rfl) rfl rfl h4 (by omega) (by omega)
 have H3:∀x:Int,x=t->x=t:=λ_ h=>h
 refine⟨?_,s2,?_⟩
 ·rw[jc]
  have e:=s1
  have hm:∀m:Int,m=t->ar 80 [eS,0,m]:=λm h=>by rw[h];exact s1
  exact hm _ (by omega)
 intro e4 _ _ yW
 have hm:∀m:Int,m=t->e4=bE 62 [z4,m]->e4=bE 62 [z4,t]:=λm h h2=>by rw[h2,h]
 obtain⟨fF,bS⟩:=bS e4 (hm _ (by omega) yW)
 clear hm yW s1 s2
 intro YI _ _ Wi c1 _ _ hL
 rw[jc]at hL
 obtain⟨aj7,i1,iS⟩:=bS YI Wi c1 hL
 clear bS
 refine⟨⟨by omega,by omega,by omega⟩,λ_=>?_⟩
 intro rs _ _ _
 refine⟨⟨by omega,by omega,by omega⟩,λ_=>?_⟩
 intro r1 _ _ gm
 obtain⟨s1,s2,bS⟩:=Mi (x:=aB) (t:=t) (n:=aJ) (s:=z4) i1 (by simp only[fQ,qL];omega) (by omega) jc gm (by omega) (by omega) h7 (by omega) rfl
 refine⟨?_,s2,?_⟩
 ·have hm:∀m:Int,m=t-(z4)->ar 80 [c1,r1,m]:=λm h=>by rw[h];exact s1
  exact hm _ (by omega)
 intro bm _ _ yX
 have hm:∀m:Int,m=t-(z4)->bm=bE 62 [aJ,m]->bm=bE 62 [aJ,t-(z4)]:=λm h h2=>by rw[h2,h]
 obtain⟨aw,bS⟩:=bS bm (hm _ (by omega) yX)
 clear hm yX s1 s2
 intro YJ _ _ BO bK _ _ hc2
 obtain⟨aao,i2,qu⟩:=bS YJ BO bK hc2
 clear bS
 intro w _ _ qE uc
 have vm:w=0:=by omega
 subst vm
 clear qE uc
 have vp:aao=[]:=zI (by omega)
 have hl:((ak bK).length:Int)=t:=by rw[i2,vp];simp only[fQ,qL];omega
 subst jc
 refine⟨⟨cW _,by omega,by omega⟩,λ_=>by omega,?_⟩
 intro z _ Zd hz
 have hz:=kt hz (by omega)
 refine⟨⟨by assumption,Zd,trivial⟩,?_⟩
 show ak z=ak z0++(ak aB)
 rw[hz,i2,vp]
 simp only[gp,gZ,nI]
theorem auA:Z5 SB (j4 SB [mf] 469):=by
 intro z0 _ _ aB _ _ z2 _ _ hp
 have hp:∀z∈([z0,aB,z2]:List Int),(ak z).length<=100000000:=hp
 have avm:=hp z0 (by simp)
 have avn:=hp aB (by simp)
 have aGr:=hp z2 (by simp)
 intro z3 _ z4 _ _ z5 xx _ h5 a7 _ aJ _ _ aI jP _ e6 z9 _ aP _ _ aG jO _ qZ
 have h5:z5=((ak z0).length:Int):=h5
 have e6:aI=((ak aB).length:Int):=e6
 have qZ:aG=((ak z2).length:Int):=qZ
 refine⟨λh=>?_,λ_=>?_⟩
 ·have h:=of_decide_eq_true h
  omega
 intro w _ _ qE uc
 have vm:w=0:=by omega
 subst vm
 clear qE uc
 intro w _ _ qE uc
 have vm:w=0:=by omega
 subst vm
 clear qE uc
 refine⟨λh=>?_,λ_=>?_⟩
 ·have h:=of_decide_eq_true h
  omega
 intro w _ _ qE uc
 have vm:w=0:=by omega
 subst vm
 clear qE uc
 obtain⟨t,aA⟩:∃t:Int,z5+aI+aG=t:=⟨_,rfl⟩
 refine⟨⟨by omega,by omega⟩,?_⟩
 intro eS _ _ hc0
 have hc0:_=((ak eS).length:Int):=hc0
 intro oK alQ _ DS
 have DS:_<=oK:=DS
 refine⟨⟨by decide,by omega,by omega,by omega⟩,?_⟩
 intro r0 _ _ jc
 have jc:r0=if(0:Int)=_ then 0 else 0+0:=jc
 have jc:r0=0:=by rw[jc];split<;>rfl
 have i0:ak eS=([]:List (List Int))++ak eS:=rfl
 obtain⟨s1,s2,bS⟩:=Mi (c:=eS) (x:=z0) (s:=0) (t:=t) (n:=z5) (a:=0) (b:=t) (m:=t) (r0:=0) (r:=0) i0 rfl (by omega) rfl (by show(0:Int)=if(0:Int)=t then 0 else 0+0;split<;>rfl) rfl rfl h5 (by omega) (by omega)
 have H3:∀x:Int,x=t->x=t:=λ_ h=>h
 refine⟨?_,s2,?_⟩
 ·rw[jc]
  have e:=s1
  have hm:∀m:Int,m=t->ar 80 [eS,0,m]:=λm h=>by rw[h];exact s1
  exact hm _ (by omega)
 intro e4 _ _ yW
 have hm:∀m:Int,m=t->e4=bE 62 [z5,m]->e4=bE 62 [z5,t]:=λm h h2=>by rw[h2,h]
 obtain⟨fF,bS⟩:=bS e4 (hm _ (by omega) yW)
 clear hm yW s1 s2
 intro YI _ _ Wi c1 _ _ hL
 rw[jc]at hL
 obtain⟨aj7,i1,iS⟩:=bS YI Wi c1 hL
 clear bS
 refine⟨⟨by omega,by omega,by omega⟩,λ_=>?_⟩
 intro rs _ _ _
 refine⟨⟨by omega,by omega,by omega⟩,λ_=>?_⟩
 intro r1 _ _ gm
 obtain⟨s1,s2,bS⟩:=Mi (x:=aB) (t:=t) (n:=aI) (s:=z5) i1 (by simp only[fQ,qL];omega) (by omega) jc gm (by omega) (by omega) e6 (by omega) rfl
 refine⟨?_,s2,?_⟩
 ·have hm:∀m:Int,m=t-(z5)->ar 80 [c1,r1,m]:=λm h=>by rw[h];exact s1
  exact hm _ (by omega)
 intro bm _ _ yX
 have hm:∀m:Int,m=t-(z5)->bm=bE 62 [aI,m]->bm=bE 62 [aI,t-(z5)]:=λm h h2=>by rw[h2,h]
 obtain⟨aw,bS⟩:=bS bm (hm _ (by omega) yX)
 clear hm yX s1 s2
 intro YJ _ _ BO bK _ _ hc2
 obtain⟨aao,i2,qu⟩:=bS YJ BO bK hc2
 clear bS
 intro w _ _ qE uc
 have vm:w=0:=by omega
 subst vm
 clear qE uc
 refine⟨⟨by omega,by omega,by omega⟩,λ_=>?_⟩
 intro rs _ _ _
 refine⟨⟨by omega,by omega,by omega⟩,λ_=>?_⟩
 intro r2 _ _ js
 obtain⟨s1,s2,bS⟩:=Mi (x:=z2) (t:=t) (n:=aG) (s:=z5+aI) i2 (by simp only[fQ,qL];omega) (by omega) jc js (by omega) (by omega) qZ (by omega) rfl
 refine⟨?_,s2,?_⟩
 ·have hm:∀m:Int,m=t-(z5+aI)->ar 80 [bK,r2,m]:=λm h=>by rw[h];exact s1
  exact hm _ (by omega)
 intro cb _ _ vu
 have hm:∀m:Int,m=t-(z5+aI)->cb=bE 62 [aG,m]->cb=bE 62 [aG,t-(z5+aI)]:=λm h h2=>by rw[h2,h]
 obtain⟨aD,bS⟩:=bS cb (hm _ (by omega) vu)
 clear hm vu s1 s2
 intro axh _ _ yZ cy _ _ aeq
 obtain⟨aj8,i3,rV⟩:=bS axh yZ cy aeq
 clear bS
 intro w _ _ qE uc
 have vm:w=0:=by omega
 subst vm
 clear qE uc
 have vp:aj8=[]:=zI (by omega)
 have hl:((ak cy).length:Int)=t:=by rw[i3,vp];simp only[fQ,qL];omega
 subst jc
 refine⟨⟨cW _,by omega,by omega⟩,λ_=>by omega,?_⟩
 intro z _ Zd hz
 have hz:=kt hz (by omega)
 refine⟨⟨by assumption,Zd,trivial⟩,?_⟩
 show ak z=ak z0++(ak aB++(ak z2))
 rw[hz,i3,vp]
 simp only[gp,gZ,nI]
theorem auF:Z9 SB (j4 SB [.d fp] 473):=by
 intro z0 _ _ aB _ _ hp
 have hp:∀z∈([z0,aB]:List Int),(ak z).length<=100000000:=hp
 intro z2 _ z3 _ _ z4 B8 _ h4 z5 _ a7 _ _ aJ Gs _ h7
 have h4:z4=((ak z0).length:Int):=h4
 have h7:aJ=((ak aB).length:Int):=h7
 refine⟨⟨cW _,B8,by rw[h4];exact cW _⟩,?_⟩
 intro aI _ _ e6
 have e6:=kt e6 h4
 refine⟨⟨cW _,Gs,by rw[h7];exact cW _⟩,?_⟩
 intro z9 _ _ dZ
 have dZ:=kt dZ h7
 refine⟨λz hz=>?_,?_⟩
 ·simp only[pD,yp,or_false]at hz
  rcases hz with rfl|rfl
  ·rw[e6];exact hp z0 (by simp)
  ·rw[dZ];exact hp aB (by simp)
 intro ry _ _ aK
 have aK:ak ry=ak aI++(ak z9):=aK
 rw[e6,dZ]at aK
 have V1:(ak ry).length<=1000000000:=by
  rw[aK]
  simp only[fQ]
  have:=hp z0 (by simp)
  have:=hp aB (by simp)
  omega
 have VC:bJ ry=bJ z0++(bJ aB):=by
  unfold bJ;rw[aK];simp only[jf]
 intro aAP _ aAQ _ _ Zc WU _ jq
 have jq:Zc=((ak ry).length:Int):=jq
 refine⟨⟨cW _,WU,by rw[jq];exact cW _⟩,λz9 D4 k1 dZ=>?_⟩
 have rJ:=kt dZ jq
 refine⟨by show(ak z9).length<=1000000000;rw[rJ];exact V1,λaP tk l1 nP aG m0 gW z12 jt a1 iQ=>?_⟩
 have nP:bJ aP=AL cL (bJ z9):=nP
 have iQ:z12=((ak aP).length:Int):=iQ
 rw[s0 rJ]at nP
 obtain⟨bm,cb,cJ⟩:=XL (bJ ry)
 have pQ:(bJ ry).length=(ak ry).length:=xb ry
 refine⟨⟨cW _,by omega,by rw[iQ];exact cW _⟩,λai QA o1 kJ=>?_⟩
 have kJ:=kt kJ iQ
 have Lv:(ak ai).length=uE 64 (bJ ry).length:=by rw[kJ,<-xb,nP,bm]
 refine⟨by show 128∣(ak ai).length/\(ak ai).length<=1000001000;rw[Lv];exact⟨cb,by omega⟩,λaq p0 cz j9 aF r0 r1 aO aT s1 s9=>?_⟩
 have j9:bJ aq=u7 cL (bJ ai):=j9
 rw[s0 kJ,nP]at j9
 have s9:aO=((ak aq).length:Int):=s9
 have Iy:(bJ aq).length=64:=by rw[j9,N1];rfl
 have LD:(ak aq).length=64:=by rw[<-xb,Iy]
 have aW:∀i:Int,0<=i->i<64->ar 21 [aq,i]:=λi h1 h2=>⟨h1,by rw[LD];exact h2⟩
 refine⟨⟨by decide,by omega⟩,aW 0 (by decide) (by decide),Un 64 0 [] (by omega) λl h1 h2 h3=>?_⟩
 have dL:l=bJ aq:=by rw[h3,qe,uU (by omega)]
 rw[gp]
 refine⟨?_,?_⟩
 ·show af (au 0 255 64++[]) [l].flatten
  have:=Aw 64 l h1 h2
  simpa using this
 ·show [l]=[sc cL (bJ z0++(bJ aB))]
  rw[dL,j9,VC];rfl
theorem auG:aaa SB (j4 SB [.d fp] 471):=by
 intro z0 _ _ aB _ _ z2 _ _ hp
 have hp:∀z∈([z0,aB,z2]:List Int),(ak z).length<=100000000:=hp
 intro z3 _ z4 _ _ z5 xx _ h5 a7 _ aJ _ _ aI jP _ e6 z9 _ aP _ _ aG jO _ qZ
 have h5:z5=((ak z0).length:Int):=h5
 have e6:aI=((ak aB).length:Int):=e6
 have qZ:aG=((ak z2).length:Int):=qZ
 refine⟨⟨cW _,xx,by rw[h5];exact cW _⟩,?_⟩
 intro z12 _ _ iQ
 have iQ:=kt iQ h5
 refine⟨⟨cW _,jP,by rw[e6];exact cW _⟩,?_⟩
 intro ai _ _ kJ
 have kJ:=kt kJ e6
 refine⟨⟨cW _,jO,by rw[qZ];exact cW _⟩,?_⟩
 intro aq _ _ j9
 have j9:=kt j9 qZ
 refine⟨λz hz=>?_,?_⟩
 ·simp only[pD,yp,or_false]at hz
  rcases hz with rfl|rfl|rfl
  ·rw[iQ];exact hp z0 (by simp)
  ·rw[kJ];exact hp aB (by simp)
  ·rw[j9];exact hp z2 (by simp)
 intro ry _ _ aK
 have aK:ak ry=ak z12++(ak ai++(ak aq)):=aK
 rw[iQ,kJ,j9]at aK
 have V1:(ak ry).length<=1000000000:=by
  rw[aK]
  simp only[fQ]
  have:=hp z0 (by simp)
  have:=hp aB (by simp)
  have:=hp z2 (by simp)
  omega
 have VC:bJ ry=bJ z0++(bJ aB++(bJ z2)):=by
  unfold bJ;rw[aK];simp only[jf]
 intro aAP _ aAQ _ _ Zc WU _ jq
 have jq:Zc=((ak ry).length:Int):=jq
 refine⟨⟨cW _,WU,by rw[jq];exact cW _⟩,λz9 D4 k1 dZ=>?_⟩
 have rJ:=kt dZ jq
 refine⟨by show(ak z9).length<=1000000000;rw[rJ];exact V1,λaP tk l1 nP aG m0 gW z12 jt a1 iQ=>?_⟩
 have nP:bJ aP=AL cL (bJ z9):=nP
 have iQ:z12=((ak aP).length:Int):=iQ
 rw[s0 rJ]at nP
 obtain⟨bm,cb,cJ⟩:=XL (bJ ry)
 have pQ:(bJ ry).length=(ak ry).length:=xb ry
 refine⟨⟨cW _,by omega,by rw[iQ];exact cW _⟩,λai QA o1 kJ=>?_⟩
 have kJ:=kt kJ iQ
 have Lv:(ak ai).length=uE 64 (bJ ry).length:=by rw[kJ,<-xb,nP,bm]
 refine⟨by show 128∣(ak ai).length/\(ak ai).length<=1000001000;rw[Lv];exact⟨cb,by omega⟩,λaq p0 cz j9 aF r0 r1 aO aT s1 s9=>?_⟩
 have j9:bJ aq=u7 cL (bJ ai):=j9
 rw[s0 kJ,nP]at j9
 have s9:aO=((ak aq).length:Int):=s9
 have Iy:(bJ aq).length=64:=by rw[j9,N1];rfl
 have LD:(ak aq).length=64:=by rw[<-xb,Iy]
 have aW:∀i:Int,0<=i->i<64->ar 21 [aq,i]:=λi h1 h2=>⟨h1,by rw[LD];exact h2⟩
 refine⟨⟨by decide,by omega⟩,aW 0 (by decide) (by decide),Un 64 0 [] (by omega) λl h1 h2 h3=>?_⟩
 have dL:l=bJ aq:=by rw[h3,qe,uU (by omega)]
 rw[gp]
 refine⟨?_,?_⟩
 ·show af (au 0 255 64++[]) [l].flatten
  have:=Aw 64 l h1 h2
  simpa using this
 ·show [l]=[sc cL (bJ z0++(bJ aB++(bJ z2)))]
  rw[dL,j9,VC];rfl
end Go.fZ
namespace Go.Fd
open Go.ch
def BA:Nat:=57896044618658097711785492504343953926634992332820282019728792003956564819948
def vk:Nat:=28948022309329048855892746252171976963317496166410141009864396001978282409974
def KM:Nat:=14474011154664524427946373126085988481658748083205070504932198000989141204987
theorem avk (a e:Nat):cO (a:Int) e=((a^e% 57896044618658097711785492504343953926634992332820282019728792003956564819949:Nat):Int):=by
 unfold cO;rw[RA];congr 1
theorem anF {n g a e:Nat} (h:J5.Bi n g) (he:e=n-1) (ha:a% n≠0):a^e% n=1:=by subst he;exact h.DH ha
theorem ag4 {a b:Int} (h:a% 57896044618658097711785492504343953926634992332820282019728792003956564819949=b% 57896044618658097711785492504343953926634992332820282019728792003956564819949) (k:Nat):cO a k=cO b k:=by rw[<-AP a,h,AP]
theorem avg (a:Int) (m n:Nat):cO a (m+n)=cO a m*cO a n% 57896044618658097711785492504343953926634992332820282019728792003956564819949:=by
 unfold cO;rw[sM,vD,<-RD]
theorem ag3 (a:Int) (m:Nat):∀n:Nat,cO (cO a m) n=cO a (m*n)
 |0=>by rw[Nat.mul_zero,Cf,Cf]
 |n+1=>by rw[xD,ag3 a m n,Nat.mul_add,Nat.mul_one,avg]
theorem L9 (a b:Int):∀n:Nat,cO (a*b) n=cO a n*cO b n% 57896044618658097711785492504343953926634992332820282019728792003956564819949
 |0=>by rw[Cf,Cf,Cf];decide
 |n+1=>by
  rw[xD,L9 a b n,xD,xD,sM,sM,vD]
  congr 1
  ac_rfl
theorem avl (a:Int):cO a 1=a% 57896044618658097711785492504343953926634992332820282019728792003956564819949:=by rw[show(1:Nat)=0+1 by rfl,xD,Cf,wI]
theorem Mj (a:Int) (k:Nat):cO a k% 57896044618658097711785492504343953926634992332820282019728792003956564819949=cO a k:=CE _ _
theorem aiL (a:Int) (h:a% 57896044618658097711785492504343953926634992332820282019728792003956564819949=0) (k:Nat) (ab:0<k):cO a k=0:=by
 obtain⟨j,rfl⟩:∃j,k=j+1:=⟨k-1,by omega⟩
 rw[xD,<-vD,h,Int.mul_zero];rfl
theorem DH {x:Int} (h:x% 57896044618658097711785492504343953926634992332820282019728792003956564819949≠0):cO x BA=1:=by
 have h0:0<=x% 57896044618658097711785492504343953926634992332820282019728792003956564819949:=ud _ (by decide)
 have h1:x% 57896044618658097711785492504343953926634992332820282019728792003956564819949<57896044618658097711785492504343953926634992332820282019728792003956564819949:=zw _ (by decide)
 obtain⟨X,b3⟩:=sn h0
 have an8:X% 57896044618658097711785492504343953926634992332820282019728792003956564819949≠0:=by omega
 rw[<-AP,b3,avk X BA,anF J5.anC (by decide:BA=57896044618658097711785492504343953926634992332820282019728792003956564819949-1) an8]
 rfl
theorem Mb {x y:Int} (h:x*y% 57896044618658097711785492504343953926634992332820282019728792003956564819949=0):x% 57896044618658097711785492504343953926634992332820282019728792003956564819949=0∨y% 57896044618658097711785492504343953926634992332820282019728792003956564819949=0:=by
 by_cases hx:x% 57896044618658097711785492504343953926634992332820282019728792003956564819949=0
 ·exact .inl hx
 ·right
  have h1:=DH hx
  have h2:cO x (BA-1)*x% 57896044618658097711785492504343953926634992332820282019728792003956564819949=1:=by rw[<-xD,show BA-1+1=BA by decide];exact h1
  have h3:y% 57896044618658097711785492504343953926634992332820282019728792003956564819949=cO x (BA-1)*(x*y)% 57896044618658097711785492504343953926634992332820282019728792003956564819949:=by
   rw[<-CF,sS,h2,wI,CE]
  rw[h3,sS,h,Int.mul_zero];rfl
theorem ah1 (r s:Int):(r-s)*(r+s)=r*r-s*s:=by grind
theorem agu (c:Int):(0-c)*(0-c)=c*c:=by grind
theorem axg {t:Int} (h0:0<=t) (h1:t<57896044618658097711785492504343953926634992332820282019728792003956564819949) (h:t*t% 57896044618658097711785492504343953926634992332820282019728792003956564819949=1):t=1∨t=57896044618658097711785492504343953926634992332820282019728792003956564819948:=by
 have e:(t-1)*(t+1)% 57896044618658097711785492504343953926634992332820282019728792003956564819949=0:=by
  rw[ah1,Int.sub_emod,h];decide
 rcases Mb e with h|h
 ·left;omega
 ·right;omega
def YH (T a:Int):Int×Int:=
 let eS:=cO a qk
 if eS*eS% 57896044618658097711785492504343953926634992332820282019728792003956564819949=a then(if eS% 2=1 then(0-eS)% 57896044618658097711785492504343953926634992332820282019728792003956564819949 else eS,1)else
 let c:=eS*T% 57896044618658097711785492504343953926634992332820282019728792003956564819949
 if c*c% 57896044618658097711785492504343953926634992332820282019728792003956564819949=a then(if c% 2=1 then(0-c)% 57896044618658097711785492504343953926634992332820282019728792003956564819949 else c,1)else(0,0)
def isRoot (a r:Int):Prop:=0<=r/\r<57896044618658097711785492504343953926634992332820282019728792003956564819949/\r% 2=0/\r*r% 57896044618658097711785492504343953926634992332820282019728792003956564819949=a
theorem adh {a c:Int} (h0:0<=c) (h1:c<57896044618658097711785492504343953926634992332820282019728792003956564819949) (h:c*c% 57896044618658097711785492504343953926634992332820282019728792003956564819949=a):isRoot a (if c% 2=1 then(0-c)% 57896044618658097711785492504343953926634992332820282019728792003956564819949 else c):=by
 split
 ·rename_i hc
  have e:=ags (c:=c) (by omega) h1
  refine⟨by omega,by omega,by omega,?_⟩
  rw[sM,vD,agu]
  exact h
 ·exact⟨h0,h1,by omega,h⟩
theorem ahk {a r s:Int} (hr:isRoot a r) (hs:isRoot a s):r=s:=by
 obtain⟨r0,r1,r2,gI⟩:=hr
 obtain⟨aT,s1,s2,bS⟩:=hs
 have e:(r-s)*(r+s)% 57896044618658097711785492504343953926634992332820282019728792003956564819949=0:=by
  rw[ah1,Int.sub_emod,gI,bS,Int.sub_self];rfl
 clear gI bS
 rcases Mb e with h|h
 ·clear e r2 s2
  obtain⟨k,ab⟩:=G5 h
  have h1:k<1:=by omega
  have h2:-1<k:=by omega
  have h3:k=0:=by omega
  subst h3
  omega
 ·clear e
  obtain⟨k,ab⟩:=G5 h
  have h1:k<2:=by clear r2 s2;omega
  have h2:-1<k:=by clear r2 s2;omega
  have h3:k=0∨k=1:=by clear r2 s2 ab;omega
  rcases h3 with rfl|rfl
  ·clear r2 s2;omega
  ·exfalso;clear r0 r1 aT s1 h h1 h2;omega
theorem alT:2*qk=KM+1:=by decide
theorem alS:2*KM=vk:=by decide
theorem Us:2*vk=BA:=by decide
theorem acf (a:Int):cO a qk*cO a qk% 57896044618658097711785492504343953926634992332820282019728792003956564819949=cO a KM*a% 57896044618658097711785492504343953926634992332820282019728792003956564819949:=by rw[<-GK,alT,xD]
theorem amj {x:Int} (h:x% 57896044618658097711785492504343953926634992332820282019728792003956564819949≠0):cO x vk=1∨cO x vk=57896044618658097711785492504343953926634992332820282019728792003956564819948:=
 axg (QS x vk).1 (QS x vk).2 (by rw[<-GK,Us];exact DH h)
theorem asq {T:Int} (bH:T*T% 57896044618658097711785492504343953926634992332820282019728792003956564819949=57896044618658097711785492504343953926634992332820282019728792003956564819948) (a:Int):(cO a qk*T% 57896044618658097711785492504343953926634992332820282019728792003956564819949)*(cO a qk*T% 57896044618658097711785492504343953926634992332820282019728792003956564819949)% 57896044618658097711785492504343953926634992332820282019728792003956564819949=cO a KM*a*57896044618658097711785492504343953926634992332820282019728792003956564819948% 57896044618658097711785492504343953926634992332820282019728792003956564819949:=by
 rw[sM,vD,show cO a qk*T*(cO a qk*T)=(cO a qk*cO a qk)*(T*T) by ac_rfl,sS,bH,acf,sM]
theorem axd {T a:Int} (bH:T*T% 57896044618658097711785492504343953926634992332820282019728792003956564819949=57896044618658097711785492504343953926634992332820282019728792003956564819948) (h0:0<=a) (h1:a<57896044618658097711785492504343953926634992332820282019728792003956564819949):(∃r,YH T a=(r,1)/\isRoot a r)∨(YH T a=(0,0)/\∀x:Int,x*x% 57896044618658097711785492504343953926634992332820282019728792003956564819949≠a):=by
 unfold YH
 simp only
 by_cases e4:cO a qk*cO a qk% 57896044618658097711785492504343953926634992332820282019728792003956564819949=a
 ·rw[if_pos e4]
  exact .inl ⟨_,rfl,adh (QS a qk).1 (QS a qk).2 e4⟩
 ·rw[if_neg e4]
  by_cases bm:cO a qk*T% 57896044618658097711785492504343953926634992332820282019728792003956564819949*(cO a qk*T% 57896044618658097711785492504343953926634992332820282019728792003956564819949)% 57896044618658097711785492504343953926634992332820282019728792003956564819949=a
  ·rw[if_pos bm]
   exact .inl ⟨_,rfl,adh (ud _ (by decide)) (zw _ (by decide)) bm⟩
  ·rw[if_neg bm]
   refine .inr ⟨rfl,λx hx=>?_⟩
   by_cases hz:x% 57896044618658097711785492504343953926634992332820282019728792003956564819949=0
   ·have ha:a=0:=by rw[<-hx,sS,hz];rfl
    apply e4
    rw[ha,aiL 0 (by decide) qk (by decide)];decide
   ·have aA:cO a KM=cO x vk:=by
     rw[<-hx,<-alS,<-ag3,AP]
     have aD:cO x 2=x*x% 57896044618658097711785492504343953926634992332820282019728792003956564819949:=by rw[show(2:Nat)=2*1 by rfl,GK,avl,sM,vD]
     rw[aD,AP]
    rcases amj hz with h|h
    ·apply e4
     rw[acf,aA,h,wI];exact p9 h0 h1
    ·apply bm
     rw[asq bH,aA,h,show(57896044618658097711785492504343953926634992332820282019728792003956564819948:Int)*a*57896044618658097711785492504343953926634992332820282019728792003956564819948=a+57896044618658097711785492504343953926634992332820282019728792003956564819949*(57896044618658097711785492504343953926634992332820282019728792003956564819947*a) by omega,zx]
     exact p9 h0 h1
theorem ax6:xT*xT% 57896044618658097711785492504343953926634992332820282019728792003956564819949=57896044618658097711785492504343953926634992332820282019728792003956564819948:=by decide+kernel
theorem axe:AX*AX% 57896044618658097711785492504343953926634992332820282019728792003956564819949=57896044618658097711785492504343953926634992332820282019728792003956564819948:=by decide+kernel
theorem ah0 {a:Int} (h0:0<=a) (h1:a<57896044618658097711785492504343953926634992332820282019728792003956564819949):(∃r,n3 a=(r,1)/\isRoot a r)∨(n3 a=(0,0)/\∀x:Int,x*x% 57896044618658097711785492504343953926634992332820282019728792003956564819949≠a):=axd ax6 h0 h1
theorem AH (a:Int):0<=a% 57896044618658097711785492504343953926634992332820282019728792003956564819949/\a% 57896044618658097711785492504343953926634992332820282019728792003956564819949<57896044618658097711785492504343953926634992332820282019728792003956564819949:=⟨ud _ (by decide),zw _ (by decide)⟩
theorem axf {a x:Int} (h:x*x% 57896044618658097711785492504343953926634992332820282019728792003956564819949=a% 57896044618658097711785492504343953926634992332820282019728792003956564819949):∃r,n3 (a% 57896044618658097711785492504343953926634992332820282019728792003956564819949)=(r,1)/\isRoot (a% 57896044618658097711785492504343953926634992332820282019728792003956564819949) r:=by
 rcases ah0 (AH a).1 (AH a).2 with bd|⟨_,hn⟩
 ·exact bd
 ·exact absurd h (hn x)
theorem inv_mul {a:Int} (h:a% 57896044618658097711785492504343953926634992332820282019728792003956564819949≠0):a*cO a xg% 57896044618658097711785492504343953926634992332820282019728792003956564819949=1:=by
 rw[kR,<-xD,show xg+1=BA by decide];exact DH h
end Go.Fd
namespace Go.qf
theorem akF (ag an ad aj ao ay d:Int):((ag*aj+an*ad)*(1-d*(ag*ad*(an*aj)))*ay+(an*aj+ag*ad)*(1+d*(ag*ad*(an*aj)))*ao)*((1+d*(ad*ao*(aj*ay)))*(1-d*(ad*ao*(aj*ay)))+d*((ad*ay+aj*ao)*(aj*ay+ad*ao)*(ag*an)))-(ag*((aj*ay+ad*ao)*(1+d*(ad*ao*(aj*ay))))+an*((ad*ay+aj*ao)*(1-d*(ad*ao*(aj*ay)))))*((1+d*(ag*ad*(an*aj)))*(1-d*(ag*ad*(an*aj)))+d*((ag*aj+an*ad)*(an*aj+ag*ad)*(ao*ay)))=
 (-1*(ag*ad*ad*ad*ad*aj*aj*aj*ao*ao*ay*d*d)-ag*ad*ad*ad*ad*aj*ao*ao*ay*d-ag*ad*ad*ad*aj*aj*aj*aj*ao*ay*ay*d*d-ag*ad*ad*ad*aj*aj*ao*ao*ao*d-ag*ad*ad*ad*aj*aj*ao*d+ag*ad*ad*aj*aj*aj*ay*ay*ay*d-ag*ad*ad*aj*aj*aj*ay*d+ag*ad*aj*aj*aj*aj*ao*ay*ay*d+an*ad*ad*ad*ad*aj*aj*aj*ao*ay*ay*d*d+an*ad*ad*ad*ad*aj*ao*ay*ay*d+an*ad*ad*ad*aj*aj*aj*aj*ao*ao*ay*d*d+an*ad*ad*ad*aj*aj*ay*ay*ay*d-an*ad*ad*ad*aj*aj*ay*d-an*ad*ad*aj*aj*aj*ao*ao*ao*d-an*ad*ad*aj*aj*aj*ao*d-an*ad*aj*aj*aj*aj*ao*ao*ay*d)*(an*an-ag*ag-1-d*(ag*ag*(an*an)))+
 (ag*ag*ag*ad*ad*aj*ao*ao*ay*d+ag*ag*ag*ad*aj*aj*ao*ay*ay*d+ag*ag*ag*ad*ao*ao*ao*ay*ay*d+ag*ag*ag*ad*ao*ao*ao-ag*ag*ag*ad*ao*ay*ay+ag*ag*ag*ad*ao+ag*ag*ag*aj*ao*ao*ay*ay*ay*d+ag*ag*ag*aj*ao*ao*ay-ag*ag*ag*aj*ay*ay*ay+ag*ag*ag*aj*ay+ag*ag*an*ad*ad*aj*ao*ao*ao*ay*ay*d*d-ag*ag*an*ad*ad*aj*ao*ay*ay*d-ag*ag*an*ad*aj*aj*ao*ao*ay*ay*ay*d*d-ag*ag*an*ad*aj*aj*ao*ao*ay*d+ag*ag*an*ad*ao*ao*ay*ay*ay*d+ag*ag*an*ad*ao*ao*ay-ag*ag*an*ad*ay*ay*ay+ag*ag*an*ad*ay+ag*ag*an*aj*ao*ao*ao*ay*ay*d+ag*ag*an*aj*ao*ao*ao-ag*ag*an*aj*ao*ay*ay+ag*ag*an*aj*ao-ag*an*an*ad*ad*aj*ao*ao*ay*ay*ay*d*d-ag*an*an*ad*ad*aj*ao*ao*ay*d+ag*an*an*ad*aj*aj*ao*ao*ao*ay*ay*d*d-ag*an*an*ad*aj*aj*ao*ay*ay*d-ag*an*an*ad*ao*ao*ao*ay*ay*d-ag*an*an*ad*ao*ao*ao+ag*an*an*ad*ao*ay*ay-ag*an*an*ad*ao-ag*an*an*aj*ao*ao*ay*ay*ay*d-ag*an*an*aj*ao*ao*ay+ag*an*an*aj*ay*ay*ay-ag*an*an*aj*ay+ag*ad*ad*aj*ao*ao*ay*d+ag*ad*aj*aj*ao*ay*ay*d+ag*ad*ao*ao*ao*ay*ay*d+ag*ad*ao*ao*ao-ag*ad*ao*ay*ay+ag*ad*ao+ag*aj*ao*ao*ay*ay*ay*d+ag*aj*ao*ao*ay-ag*aj*ay*ay*ay+ag*aj*ay+an*an*an*ad*ad*aj*ao*ay*ay*d+an*an*an*ad*aj*aj*ao*ao*ay*d-an*an*an*ad*ao*ao*ay*ay*ay*d-an*an*an*ad*ao*ao*ay+an*an*an*ad*ay*ay*ay-an*an*an*ad*ay-an*an*an*aj*ao*ao*ao*ay*ay*d-an*an*an*aj*ao*ao*ao+an*an*an*aj*ao*ay*ay-an*an*an*aj*ao-an*ad*ad*aj*ao*ay*ay*d-an*ad*aj*aj*ao*ao*ay*d+an*ad*ao*ao*ay*ay*ay*d+an*ad*ao*ao*ay-an*ad*ay*ay*ay+an*ad*ay+an*aj*ao*ao*ao*ay*ay*d+an*aj*ao*ao*ao-an*aj*ao*ay*ay+an*aj*ao)*(aj*aj-ad*ad-1-d*(ad*ad*(aj*aj)))+
 (-1*(ag*ag*ag*ad*ad*ad*ao)-ag*ag*ag*ad*ad*aj*ay+ag*ag*ag*ad*aj*aj*ao-ag*ag*ag*ad*ao+ag*ag*ag*aj*aj*aj*ay-ag*ag*ag*aj*ay-ag*ag*an*ad*ad*ad*ay-ag*ag*an*ad*ad*aj*ao*d-ag*ag*an*ad*ad*aj*ao+ag*ag*an*ad*aj*aj*ay*d+ag*ag*an*ad*aj*aj*ay-ag*ag*an*ad*ay+ag*ag*an*aj*aj*aj*ao-ag*ag*an*aj*ao+ag*an*an*ad*ad*ad*ao+ag*an*an*ad*ad*aj*ay*d+ag*an*an*ad*ad*aj*ay-ag*an*an*ad*aj*aj*ao*d-ag*an*an*ad*aj*aj*ao+ag*an*an*ad*ao-ag*an*an*aj*aj*aj*ay+ag*an*an*aj*ay-ag*ad*ad*ad*ao-ag*ad*ad*aj*ay+ag*ad*aj*aj*ao-ag*ad*ao+ag*aj*aj*aj*ay-ag*aj*ay+an*an*an*ad*ad*ad*ay+an*an*an*ad*ad*aj*ao-an*an*an*ad*aj*aj*ay+an*an*an*ad*ay-an*an*an*aj*aj*aj*ao+an*an*an*aj*ao-an*ad*ad*ad*ay-an*ad*ad*aj*ao+an*ad*aj*aj*ay-an*ad*ay+an*aj*aj*aj*ao-an*aj*ao)*(ay*ay-ao*ao-1-d*(ao*ao*(ay*ay))):=by grind
theorem akG (ag an ad aj ao ay d:Int):((an*aj+ag*ad)*(1+d*(ag*ad*(an*aj)))*ay+(ag*aj+an*ad)*(1-d*(ag*ad*(an*aj)))*ao)*((1+d*(ad*ao*(aj*ay)))*(1-d*(ad*ao*(aj*ay)))-d*((ad*ay+aj*ao)*(aj*ay+ad*ao)*(ag*an)))-(an*((aj*ay+ad*ao)*(1+d*(ad*ao*(aj*ay))))+ag*((ad*ay+aj*ao)*(1-d*(ad*ao*(aj*ay)))))*((1+d*(ag*ad*(an*aj)))*(1-d*(ag*ad*(an*aj)))-d*((ag*aj+an*ad)*(an*aj+ag*ad)*(ao*ay)))=
 (ag*ad*ad*ad*ad*aj*aj*aj*ao*ay*ay*d*d+ag*ad*ad*ad*ad*aj*ao*ay*ay*d+ag*ad*ad*ad*aj*aj*aj*aj*ao*ao*ay*d*d+ag*ad*ad*ad*aj*aj*ay*ay*ay*d-ag*ad*ad*ad*aj*aj*ay*d-ag*ad*ad*aj*aj*aj*ao*ao*ao*d-ag*ad*ad*aj*aj*aj*ao*d-ag*ad*aj*aj*aj*aj*ao*ao*ay*d-an*ad*ad*ad*ad*aj*aj*aj*ao*ao*ay*d*d-an*ad*ad*ad*ad*aj*ao*ao*ay*d-an*ad*ad*ad*aj*aj*aj*aj*ao*ay*ay*d*d-an*ad*ad*ad*aj*aj*ao*ao*ao*d-an*ad*ad*ad*aj*aj*ao*d+an*ad*ad*aj*aj*aj*ay*ay*ay*d-an*ad*ad*aj*aj*aj*ay*d+an*ad*aj*aj*aj*aj*ao*ay*ay*d)*(an*an-ag*ag-1-d*(ag*ag*(an*an)))+
 (-1*(ag*ag*ag*ad*ad*aj*ao*ay*ay*d)-ag*ag*ag*ad*aj*aj*ao*ao*ay*d+ag*ag*ag*ad*ao*ao*ay*ay*ay*d+ag*ag*ag*ad*ao*ao*ay-ag*ag*ag*ad*ay*ay*ay+ag*ag*ag*ad*ay+ag*ag*ag*aj*ao*ao*ao*ay*ay*d+ag*ag*ag*aj*ao*ao*ao-ag*ag*ag*aj*ao*ay*ay+ag*ag*ag*aj*ao+ag*ag*an*ad*ad*aj*ao*ao*ay*ay*ay*d*d+ag*ag*an*ad*ad*aj*ao*ao*ay*d-ag*ag*an*ad*aj*aj*ao*ao*ao*ay*ay*d*d+ag*ag*an*ad*aj*aj*ao*ay*ay*d+ag*ag*an*ad*ao*ao*ao*ay*ay*d+ag*ag*an*ad*ao*ao*ao-ag*ag*an*ad*ao*ay*ay+ag*ag*an*ad*ao+ag*ag*an*aj*ao*ao*ay*ay*ay*d+ag*ag*an*aj*ao*ao*ay-ag*ag*an*aj*ay*ay*ay+ag*ag*an*aj*ay-ag*an*an*ad*ad*aj*ao*ao*ao*ay*ay*d*d+ag*an*an*ad*ad*aj*ao*ay*ay*d+ag*an*an*ad*aj*aj*ao*ao*ay*ay*ay*d*d+ag*an*an*ad*aj*aj*ao*ao*ay*d-ag*an*an*ad*ao*ao*ay*ay*ay*d-ag*an*an*ad*ao*ao*ay+ag*an*an*ad*ay*ay*ay-ag*an*an*ad*ay-ag*an*an*aj*ao*ao*ao*ay*ay*d-ag*an*an*aj*ao*ao*ao+ag*an*an*aj*ao*ay*ay-ag*an*an*aj*ao-ag*ad*ad*aj*ao*ay*ay*d-ag*ad*aj*aj*ao*ao*ay*d+ag*ad*ao*ao*ay*ay*ay*d+ag*ad*ao*ao*ay-ag*ad*ay*ay*ay+ag*ad*ay+ag*aj*ao*ao*ao*ay*ay*d+ag*aj*ao*ao*ao-ag*aj*ao*ay*ay+ag*aj*ao-an*an*an*ad*ad*aj*ao*ao*ay*d-an*an*an*ad*aj*aj*ao*ay*ay*d-an*an*an*ad*ao*ao*ao*ay*ay*d-an*an*an*ad*ao*ao*ao+an*an*an*ad*ao*ay*ay-an*an*an*ad*ao-an*an*an*aj*ao*ao*ay*ay*ay*d-an*an*an*aj*ao*ao*ay+an*an*an*aj*ay*ay*ay-an*an*an*aj*ay+an*ad*ad*aj*ao*ao*ay*d+an*ad*aj*aj*ao*ay*ay*d+an*ad*ao*ao*ao*ay*ay*d+an*ad*ao*ao*ao-an*ad*ao*ay*ay+an*ad*ao+an*aj*ao*ao*ay*ay*ay*d+an*aj*ao*ao*ay-an*aj*ay*ay*ay+an*aj*ay)*(aj*aj-ad*ad-1-d*(ad*ad*(aj*aj)))+
 (-1*(ag*ag*ag*ad*ad*ad*ay)-ag*ag*ag*ad*ad*aj*ao+ag*ag*ag*ad*aj*aj*ay-ag*ag*ag*ad*ay+ag*ag*ag*aj*aj*aj*ao-ag*ag*ag*aj*ao-ag*ag*an*ad*ad*ad*ao-ag*ag*an*ad*ad*aj*ay*d-ag*ag*an*ad*ad*aj*ay+ag*ag*an*ad*aj*aj*ao*d+ag*ag*an*ad*aj*aj*ao-ag*ag*an*ad*ao+ag*ag*an*aj*aj*aj*ay-ag*ag*an*aj*ay+ag*an*an*ad*ad*ad*ay+ag*an*an*ad*ad*aj*ao*d+ag*an*an*ad*ad*aj*ao-ag*an*an*ad*aj*aj*ay*d-ag*an*an*ad*aj*aj*ay+ag*an*an*ad*ay-ag*an*an*aj*aj*aj*ao+ag*an*an*aj*ao-ag*ad*ad*ad*ay-ag*ad*ad*aj*ao+ag*ad*aj*aj*ay-ag*ad*ay+ag*aj*aj*aj*ao-ag*aj*ao+an*an*an*ad*ad*ad*ao+an*an*an*ad*ad*aj*ay-an*an*an*ad*aj*aj*ao+an*an*an*ad*ao-an*an*an*aj*aj*aj*ay+an*an*an*aj*ay-an*ad*ad*ad*ao-an*ad*ad*aj*ay+an*ad*aj*aj*ao-an*ad*ao+an*aj*aj*aj*ay-an*aj*ay)*(ay*ay-ao*ao-1-d*(ao*ao*(ay*ay))):=by grind
end Go.qf
namespace Go.qf
theorem xe {p a:Int} (r:Int) (h:p∣a):p∣r*a:=Int.dvd_trans h ⟨r,by rw[kR]⟩
theorem L3 {p X yt r1:Int} (h1:p∣yt) (e:X=r1*yt):p∣X:=by rw[e];exact xe r1 h1
theorem y6 {p X yt CR r1 r2:Int} (h1:p∣yt) (h2:p∣CR) (e:X=r1*yt+r2*CR):p∣X:=by rw[e];exact JG (xe r1 h1) (xe r2 h2)
theorem AD {p X yt CR J0 r1 r2 gI:Int} (h1:p∣yt) (h2:p∣CR) (h3:p∣J0) (e:X=r1*yt+r2*CR+gI*J0):p∣X:=by rw[e];exact JG (JG (xe r1 h1) (xe r2 h2)) (xe gI h3)
theorem afP {p X yt CR J0 aad r1 r2 gI n2:Int} (h1:p∣yt) (h2:p∣CR) (h3:p∣J0) (h4:p∣aad) (e:X=r1*yt+r2*CR+gI*J0+n2*aad):p∣X:=by rw[e];exact JG (JG (JG (xe r1 h1) (xe r2 h2)) (xe gI h3)) (xe n2 h4)
def qS (p d x y:Int):Prop:=p∣y*y-x*x-1-d*(x*x*(y*y))
def Bl (p d ag an ad aj ao ay:Int):Prop:=p∣ao*(1+d*(ag*ad*(an*aj)))-(ag*aj+an*ad)/\p∣ay*(1-d*(ag*ad*(an*aj)))-(an*aj+ag*ad)
structure qP (p d i:Int):Prop where
 hz:∀x y,p∣x*y->p∣x∨p∣y
 h1:¬p∣1
 h2:¬p∣2
 hi:p∣i*i+1
 hd:∀a b,p∣a*a-d*(b*b)->p∣b
section
variable {p d i:Int}
theorem aqJ (ag an ad aj d i e:Int):(an+i*e*ag)*(an+i*e*ag)-d*((ag*an*(aj+i*ad))*(ag*an*(aj+i*ad)))=
 1*(an*an-ag*ag-1-d*(ag*ag*(an*an)))+(-(d*(ag*ag*(an*an))))*(aj*aj-ad*ad-1-d*(ad*ad*(aj*aj)))+(-(2*i*ag*an)-(d*(ag*ad*(an*aj))+e))*(d*(ag*ad*(an*aj))-e)+(e*e*ag*ag-d*(ag*ag*(an*an)*(ad*ad)))*(i*i+1)+(1-e*e)*(1+ag*ag):=by grind
theorem qP.complete (F:qP p d i) {ag an ad aj e:Int} (h1:qS p d ag an) (h2:qS p d ad aj) (he:e*e=1):¬p∣d*(ag*ad*(an*aj))-e:=by
 intro ab
 have key:∀j:Int,p∣j*j+1->p∣ag*an*(aj+j*ad):=λj aK=>by
  have hc:=aqJ ag an ad aj d j e
  rw[he,Int.sub_self,Int.zero_mul,wH]at hc
  exact F.hd (an+j*e*ag) _ (afP h1 h2 ab aK hc)
 have nQ:¬p∣d*(ag*ad*(an*aj)):=λh=>by
  have h3:p∣e:=by have:=Int.dvd_sub h ab;rwa [show d*(ag*ad*(an*aj))-(d*(ag*ad*(an*aj))-e)=e by omega]at this
  exact F.h1 (by rw[<-he];exact xe e h3)
 have tf:¬p∣ag*an:=λh=>nQ (L3 h (r1:=d*(ad*aj)) (by grind))
 have c1:=(F.hz _ _ (key i F.hi)).resolve_left tf
 have bK:=(F.hz _ _ (key (-i) (by rw[show-i*-i=i*i by grind];exact F.hi))).resolve_left tf
 have cy:p∣2*aj:=by have:=JG c1 bK;rwa [show aj+i*ad+(aj+-i*ad)=2*aj by grind]at this
 have c3:=(F.hz _ _ cy).resolve_left F.h2
 exact nQ (L3 c3 (r1:=d*(ag*ad*an)) (by grind))
theorem qP.plus (F:qP p d i) {ag an ad aj:Int} (h1:qS p d ag an) (h2:qS p d ad aj):¬p∣1+d*(ag*ad*(an*aj)):=λh=>
 F.complete h1 h2 (e:=-1) rfl (by rw[show d*(ag*ad*(an*aj))- -1=1+d*(ag*ad*(an*aj)) by omega];exact h)
theorem qP.minus (F:qP p d i) {ag an ad aj:Int} (h1:qS p d ag an) (h2:qS p d ad aj):¬p∣1-d*(ag*ad*(an*aj)):=λh=>
 F.complete h1 h2 (e:=1) rfl (by
  have:=xe (-1) h
  rwa [show-1*(1-d*(ag*ad*(an*aj)))=d*(ag*ad*(an*aj))-1 by omega]at this)
theorem qP.cancel (F:qP p d i) {a x y:Int} (ha:¬p∣a) (h:p∣a*x-a*y):p∣x-y:=by
 rw[<-Int.mul_sub]at h
 exact(F.hz _ _ h).resolve_left ha
theorem aqH (ag an ad aj d:Int):(an*aj+ag*ad)*(an*aj+ag*ad)*((1+d*(ag*ad*(an*aj)))*(1+d*(ag*ad*(an*aj))))-(ag*aj+an*ad)*(ag*aj+an*ad)*((1-d*(ag*ad*(an*aj)))*(1-d*(ag*ad*(an*aj))))-(1+d*(ag*ad*(an*aj)))*(1+d*(ag*ad*(an*aj)))*((1-d*(ag*ad*(an*aj)))*(1-d*(ag*ad*(an*aj))))-d*((ag*aj+an*ad)*(ag*aj+an*ad)*((an*aj+ag*ad)*(an*aj+ag*ad)))=
 (ag*ag*an*an*ad*ad*ad*ad*aj*aj*aj*aj*d*d*d-ag*ag*ad*ad*ad*ad*aj*aj*aj*aj*d*d-ag*ag*ad*ad*ad*ad*aj*aj*d+ag*ag*ad*ad*aj*aj*aj*aj*d+an*an*ad*ad*ad*ad*aj*aj*aj*aj*d*d+an*an*ad*ad*ad*ad*aj*aj*d-an*an*ad*ad*aj*aj*aj*aj*d-ad*ad*ad*ad*aj*aj*aj*aj*d*d-2*ad*ad*ad*ad*aj*aj*aj*aj*d-2*ad*ad*ad*ad*aj*aj+ad*ad*ad*ad+2*ad*ad*aj*aj*aj*aj-2*ad*ad*aj*aj*d-4*ad*ad*aj*aj+aj*aj*aj*aj)*(an*an-ag*ag-1-d*(ag*ag*(an*an)))+(ag*ag*ag*ag*ad*ad*aj*aj*d+2*ag*ag*ad*ad*aj*aj*d+2*ag*ag*ad*ad*aj*aj-ag*ag*ad*ad+ag*ag*aj*aj+an*an*an*an*ad*ad*aj*aj*d-2*an*an*ad*ad*aj*aj*d-2*an*an*ad*ad*aj*aj+an*an*ad*ad-an*an*aj*aj+ad*ad*aj*aj*d+2*ad*ad*aj*aj-ad*ad+aj*aj+1)*(aj*aj-ad*ad-1-d*(ad*ad*(aj*aj))):=by grind
theorem aqI (a b ow pn ao ay d:Int):(a*a*(b*b))*(ay*ay-ao*ao-1-d*(ao*ao*(ay*ay)))=
 1*(pn*pn*(a*a)-ow*ow*(b*b)-a*a*(b*b)-d*(ow*ow*(pn*pn)))+(-((ao*a+ow)*(b*b+d*(pn*pn))))*(ao*a-ow)+((ay*b+pn)*(a*a-d*((ao*a)*(ao*a))))*(ay*b-pn):=by grind
theorem qP.closed (F:qP p d i) {ag an ad aj ao ay:Int} (h1:qS p d ag an) (h2:qS p d ad aj) (hs:Bl p d ag an ad aj ao ay):qS p d ao ay:=by
 have ha:=F.plus h1 h2
 have hb:=F.minus h1 h2
 have k1:=y6 h1 h2 (aqH ag an ad aj d)
 have k2:=AD k1 hs.1 hs.2 (aqI _ _ _ _ ao ay d)
 rcases F.hz _ _ k2 with h|h
 ·exfalso
  rcases F.hz _ _ h with h|h<;>rcases F.hz _ _ h with h|h
  ·exact ha h
  ·exact ha h
  ·exact hb h
  ·exact hb h
 ·exact h
theorem afs (a b ow pn qF oC ao ay uR d:Int):uR*(a*b+d*(ow*pn*(ao*ay)))-(ow*b*ay+pn*a*ao)=
 (a*b)*(uR*(1+d*(qF*ao*(oC*ay)))-(qF*ay+oC*ao))+(b*ay-uR*d*(ao*ay)*(oC*b))*(qF*a-ow)+(a*ao-uR*d*(ao*ay)*ow)*(oC*b-pn):=by grind
theorem aft (a b ow pn qF oC ao ay zp d:Int):zp*(a*b-d*(ow*pn*(ao*ay)))-(pn*a*ay+ow*b*ao)=
 (a*b)*(zp*(1-d*(qF*ao*(oC*ay)))-(oC*ay+qF*ao))+(b*ao+zp*d*(ao*ay)*(oC*b))*(qF*a-ow)+(a*ay+zp*d*(ao*ay)*ow)*(oC*b-pn):=by grind
theorem afp (a b ow pn qF oC ao ay d:Int):(a*b+d*(ow*pn*(ao*ay)))-(a*b)*(1+d*(qF*ao*(oC*ay)))=(-(d*(ao*ay))*(oC*b))*(qF*a-ow)+(-(d*(ao*ay))*ow)*(oC*b-pn):=by grind
theorem afq (a b ow pn qF oC ao ay d:Int):(a*b-d*(ow*pn*(ao*ay)))-(a*b)*(1-d*(qF*ao*(oC*ay)))=((d*(ao*ay))*(oC*b))*(qF*a-ow)+((d*(ao*ay))*ow)*(oC*b-pn):=by grind
theorem afr (uR rq dl Kx nl agz:Int):(dl*Kx)*uR-(dl*Kx)*rq=Kx*(uR*dl-nl)+(-dl)*(rq*Kx-agz)+1*(nl*Kx-agz*dl):=by grind
theorem aqR (ag an rq tv uR d:Int):uR*(1+d*(ag*rq*(an*tv)))-(ag*tv+an*rq)=uR*(1+d*(rq*ag*(tv*an)))-(rq*an+tv*ag):=by grind
theorem aqS (ag an rq tv zp d:Int):zp*(1-d*(ag*rq*(an*tv)))-(an*tv+ag*rq)=zp*(1-d*(rq*ag*(tv*an)))-(tv*an+rq*ag):=by grind
theorem qP.Gw (F:qP p d i) {a b c X:Int} (ha:¬p∣a) (hb:¬p∣b) (hc:¬p∣c) (h:p∣X-(a*b)*c):¬p∣X:=λb3=>by
 have h3:p∣a*b*c:=by have:=Int.dvd_sub b3 h;rwa [show X-(X-a*b*c)=a*b*c by omega]at this
 rcases F.hz _ _ h3 with h|h
 ·rcases F.hz _ _ h with h|h
  ·exact ha h
  ·exact hb h
 ·exact hc h
theorem qP.agD (F:qP p d i) {a b:Int} (ha:¬p∣a) (hb:¬p∣b):¬p∣a*b:=λh=>(F.hz _ _ h).elim ha hb
theorem aqN (ag an n m p q:Int):ag*(n*p)+an*(m*q)=m*q*an+n*p*ag:=by grind
theorem aqO (ag an n m p q:Int):an*(n*p)+ag*(m*q)=n*p*an+m*q*ag:=by grind
theorem qP.assoc (F:qP p d i) {ag an ad aj ao ay qF oC uR zp rq tv YZ Y8:Int} (h1:qS p d ag an) (h2:qS p d ad aj) (h3:qS p d ao ay)
 (hd:Bl p d ag an ad aj qF oC) (he:Bl p d qF oC ao ay uR zp) (hf:Bl p d ad aj ao ay rq tv) (hg:Bl p d ag an rq tv YZ Y8):p∣uR-YZ/\p∣zp-Y8:=by
 have agF:=F.closed h1 h2 hd
 have of:=F.closed h2 h3 hf
 have aw:=he.1
 have aD:=he.2
 have g1:=hg.1
 have g2:=hg.2
 rw[aqR]at g1
 rw[aqS]at g2
 have ajY:=AD aw hd.1 hd.2 (afs _ _ _ _ qF oC ao ay uR d)
 have ajZ:=AD aD hd.1 hd.2 (aft _ _ _ _ qF oC ao ay zp d)
 have aj3:=AD g1 hf.1 hf.2 (afs _ _ _ _ rq tv ag an YZ d)
 have M2:=AD g2 hf.1 hf.2 (aft _ _ _ _ rq tv ag an Y8 d)
 have Ef:=F.plus h1 h2
 have Eh:=F.minus h1 h2
 have xE:=F.plus h2 h3
 have Cj:=F.minus h2 h3
 have a1:=F.Gw Ef Eh (F.plus agF h3) (y6 hd.1 hd.2 (afp _ _ _ _ qF oC ao ay d))
 have ff:=F.Gw Ef Eh (F.minus agF h3) (y6 hd.1 hd.2 (afq _ _ _ _ qF oC ao ay d))
 have gW:=F.Gw xE Cj (F.plus of h1) (y6 hf.1 hf.2 (afp _ _ _ _ rq tv ag an d))
 have fj:=F.Gw xE Cj (F.minus of h1) (y6 hf.1 hf.2 (afq _ _ _ _ rq tv ag an d))
 have abb:=AD h1 h2 h3 (akF ag an ad aj ao ay d)
 have abc:=AD h1 h2 h3 (akG ag an ad aj ao ay d)
 rw[aqN]at abb
 rw[aqO]at abc
 exact⟨F.cancel (F.agD a1 gW) (AD ajY aj3 abb (afr _ _ _ _ _ _)),F.cancel (F.agD ff fj) (AD ajZ M2 abc (afr _ _ _ _ _ _))⟩
theorem qP.uniq (F:qP p d i) {ag an ad aj ao ay cZ pz:Int} (h1:qS p d ag an) (h2:qS p d ad aj) (hs:Bl p d ag an ad aj ao ay) (aA:Bl p d ag an ad aj cZ pz):p∣ao-cZ/\p∣ay-pz:=by
 refine⟨F.cancel (F.plus h1 h2) ?_,F.cancel (F.minus h1 h2) ?_⟩
 ·exact y6 hs.1 aA.1 (r1:=1) (r2:=-1) (by grind)
 ·exact y6 hs.2 aA.2 (r1:=1) (r2:=-1) (by grind)
end
end Go.qf
namespace Go.Fd
open Go.ch
abbrev ug (a:Int):Prop:=(57896044618658097711785492504343953926634992332820282019728792003956564819949:Int)∣a
theorem sE {a b:Int}:a% 57896044618658097711785492504343953926634992332820282019728792003956564819949=b% 57896044618658097711785492504343953926634992332820282019728792003956564819949↔ug (a-b):=by
 rw[Int.emod_eq_emod_iff_emod_sub_eq_zero]
 exact⟨G5,aA0⟩
theorem sG {a:Int}:a% 57896044618658097711785492504343953926634992332820282019728792003956564819949=0↔ug a:=⟨G5,aA0⟩
theorem vi {a b du b':Int} (h:a% 57896044618658097711785492504343953926634992332820282019728792003956564819949=du% 57896044618658097711785492504343953926634992332820282019728792003956564819949) (bd:b% 57896044618658097711785492504343953926634992332820282019728792003956564819949=b'% 57896044618658097711785492504343953926634992332820282019728792003956564819949):(a+b)% 57896044618658097711785492504343953926634992332820282019728792003956564819949=(du+b')% 57896044618658097711785492504343953926634992332820282019728792003956564819949:=by rw[Int.add_emod,h,bd,<-Int.add_emod]
theorem Ab {a b du b':Int} (h:a% 57896044618658097711785492504343953926634992332820282019728792003956564819949=du% 57896044618658097711785492504343953926634992332820282019728792003956564819949) (bd:b% 57896044618658097711785492504343953926634992332820282019728792003956564819949=b'% 57896044618658097711785492504343953926634992332820282019728792003956564819949):(a-b)% 57896044618658097711785492504343953926634992332820282019728792003956564819949=(du-b')% 57896044618658097711785492504343953926634992332820282019728792003956564819949:=by rw[Int.sub_emod,h,bd,<-Int.sub_emod]
theorem fi {a b du b':Int} (h:a% 57896044618658097711785492504343953926634992332820282019728792003956564819949=du% 57896044618658097711785492504343953926634992332820282019728792003956564819949) (bd:b% 57896044618658097711785492504343953926634992332820282019728792003956564819949=b'% 57896044618658097711785492504343953926634992332820282019728792003956564819949):a*b% 57896044618658097711785492504343953926634992332820282019728792003956564819949=du*b'% 57896044618658097711785492504343953926634992332820282019728792003956564819949:=by rw[sS,h,bd,<-sS]
theorem m3 {a b:Int} (h:a=b):a% 57896044618658097711785492504343953926634992332820282019728792003956564819949=b% 57896044618658097711785492504343953926634992332820282019728792003956564819949:=by rw[h]
theorem acM {x y:Int} (h0:0<=x) (h1:x<57896044618658097711785492504343953926634992332820282019728792003956564819949) (g0:0<=y) (g1:y<57896044618658097711785492504343953926634992332820282019728792003956564819949) (h:ug (x-y)):x=y:=by
 have:=sE.2 h
 rwa [p9 h0 h1,p9 g0 g1]at this
theorem alv:cO di vk=57896044618658097711785492504343953926634992332820282019728792003956564819948:=by
 rw[show di=((37095705934669439343138083508754565189542113879843219016388785533085940283555:Nat):Int) by decide,avj _ _ (by decide)]
 decide+kernel
theorem sw:qf.qP 57896044618658097711785492504343953926634992332820282019728792003956564819949 di AX where
 hz x y h:=by
  rcases Mb (sG.2 h)with h|h
  ·exact .inl (sG.1 h)
  ·exact .inr (sG.1 h)
 h1:=by decide
 h2:=by decide
 hi:=by
  apply sG.1
  have h:=axe
  rw[Int.add_emod,h];decide
 hd a b h:=by
  have FM:=sE.2 h
  by_cases hb:b% 57896044618658097711785492504343953926634992332820282019728792003956564819949=0
  ·exact sG.1 hb
  ·exfalso
   have h1:cO (b*b) vk=1:=by rw[L9,<-GK,Us];exact DH hb
   have h2:cO (di*(b*b)) vk=57896044618658097711785492504343953926634992332820282019728792003956564819948:=by rw[L9,h1,alv];decide
   have h3:=ag4 FM vk
   rw[h2]at h3
   by_cases ha:a% 57896044618658097711785492504343953926634992332820282019728792003956564819949=0
   ·rw[L9,aiL a ha vk (by decide)]at h3
    revert h3;decide
   ·have h4:cO (a*a) vk=1:=by rw[L9,<-GK,Us];exact DH ha
    rw[h4]at h3
    revert h3;decide
theorem Me {A:Int×Int}:on A↔((0<=A.1/\A.1<57896044618658097711785492504343953926634992332820282019728792003956564819949)/\(0<=A.2/\A.2<57896044618658097711785492504343953926634992332820282019728792003956564819949))/\qf.qS 57896044618658097711785492504343953926634992332820282019728792003956564819949 di A.1 A.2:=by
 unfold on qf.qS
 rw[sE,show A.2*A.2-A.1*A.1-(1+di*(A.1*A.1*(A.2*A.2)))=A.2*A.2-A.1*A.1-1-di*(A.1*A.1*(A.2*A.2)) by omega]
 exact⟨λh=>⟨⟨h.1,h.2.1⟩,h.2.2⟩,λh=>⟨h.1.1,h.1.2,h.2⟩⟩
theorem on.c {A:Int×Int} (h:on A):qf.qS 57896044618658097711785492504343953926634992332820282019728792003956564819949 di A.1 A.2:=(Me.1 h).2
theorem WK {a:Int} (h:¬ug a):a*m7 a% 57896044618658097711785492504343953926634992332820282019728792003956564819949=1:=inv_mul λh0=>h (sG.1 h0)
theorem ag7 {a n:Int} (h:¬ug a):ug (n*m7 a% 57896044618658097711785492504343953926634992332820282019728792003956564819949*a-n):=by
 apply sE.1
 rw[sM,show n*m7 a*a=n*(a*m7 a) by rw[CF,kR (m7 a)],<-vD,WK h,Rz]
theorem zX {A B:Int×Int} (aU:on A) (ea:on B):qf.Bl 57896044618658097711785492504343953926634992332820282019728792003956564819949 di A.1 A.2 B.1 B.2 (fc A B).1 (fc A B).2:=
 ⟨ag7 (sw.plus aU.c ea.c),ag7 (sw.minus aU.c ea.c)⟩
theorem akr (A B:Int×Int):(0<=(fc A B).1/\(fc A B).1<57896044618658097711785492504343953926634992332820282019728792003956564819949)/\(0<=(fc A B).2/\(fc A B).2<57896044618658097711785492504343953926634992332820282019728792003956564819949):=⟨AH _,AH _⟩
theorem wY {A B:Int×Int} (aU:on A) (ea:on B):on (fc A B):=Me.2 ⟨akr A B,sw.closed aU.c ea.c (zX aU ea)⟩
theorem QR {A B:Int×Int} (aU:on A) (ea:on B) (h1:ug (A.1-B.1)) (h2:ug (A.2-B.2)):A=B:=
 Na (acM aU.1.1 aU.1.2 ea.1.1 ea.1.2 h1) (acM aU.2.1.1 aU.2.1.2 ea.2.1.1 ea.2.1.2 h2)
theorem TD {A B C:Int×Int} (aU:on A) (ea:on B) (jq:on C) (h:qf.Bl 57896044618658097711785492504343953926634992332820282019728792003956564819949 di A.1 A.2 B.1 B.2 C.1 C.2):fc A B=C:=
 have:=sw.uniq aU.c ea.c (zX aU ea) h
 QR (wY aU ea) jq this.1 this.2
theorem aaX {A B C:Int×Int} (aU:on A) (ea:on B) (jq:on C):fc (fc A B) C=fc A (fc B C):=by
 have h:=sw.assoc aU.c ea.c jq.c (zX aU ea) (zX (wY aU ea) jq) (zX ea jq) (zX aU (wY ea jq))
 exact QR (wY (wY aU ea) jq) (wY aU (wY ea jq)) h.1 h.2
theorem aaY (A B:Int×Int):fc A B=fc B A:=by
 unfold fc
 rw[show A.1*B.2+A.2*B.1=B.1*A.2+B.2*A.1 by rw[kR A.1,kR A.2,Int.add_comm],show A.1*B.1*(A.2*B.2)=B.1*A.1*(B.2*A.2) by rw[kR A.1,kR A.2],show A.2*B.2+A.1*B.1=B.2*A.2+B.1*A.1 by rw[kR A.1,kR A.2]]
theorem M8:on o0:=by unfold on o0;decide
theorem oJ:on kG:=by unfold on kG;decide+kernel
theorem TE {A:Int×Int} (aU:on A):fc A o0=A:=by
 refine TD aU M8 aU ⟨?_,?_⟩
 ·exact⟨0,by simp[o0]⟩
 ·exact⟨0,by simp[o0]⟩
theorem aiK {A:Int×Int} (aU:on A):fc o0 A=A:=by rw[aaY];exact TE aU
theorem Eb (x:Int):ug ((0-x)% 57896044618658097711785492504343953926634992332820282019728792003956564819949+x):=by
 have:=sE.1 (show(0-x)% 57896044618658097711785492504343953926634992332820282019728792003956564819949% 57896044618658097711785492504343953926634992332820282019728792003956564819949=(0-x)% 57896044618658097711785492504343953926634992332820282019728792003956564819949 from CE _ _)
 rwa [show(0-x)% 57896044618658097711785492504343953926634992332820282019728792003956564819949-(0-x)=(0-x)% 57896044618658097711785492504343953926634992332820282019728792003956564819949+x by omega]at this
theorem aqM (d u x y:Int):y*y-u*u-1-d*(u*u*(y*y))=1*(y*y-x*x-1-d*(x*x*(y*y)))+(-((u-x)*(1+d*(y*y))))*(u+x):=by grind
theorem Ea {A:Int×Int} (aU:on A):on (rZ A):=
 Me.2 ⟨⟨AH _,aU.2.1⟩,qf.y6 aU.c (Eb A.1) (aqM di _ A.1 A.2)⟩
theorem aqK (d u x y:Int):0*(1+d*(x*u*(y*y)))-(x*y+y*u)=(-y)*(u+x):=by grind
theorem aqL (d u x y:Int):1*(1-d*(x*u*(y*y)))-(y*y+x*u)=(-(d*(x*(y*y))+x))*(u+x)+(-1)*(y*y-x*x-1-d*(x*x*(y*y))):=by grind
theorem akq {A:Int×Int} (aU:on A):fc A (rZ A)=o0:=
 TD aU (Ea aU) M8 ⟨qf.L3 (Eb A.1) (aqK di _ A.1 A.2),qf.y6 (Eb A.1) aU.c (aqL di _ A.1 A.2)⟩
theorem aqP (d ag an ad aj ao u v w:Int):w*(1+d*(u*v*(an*aj)))-(u*aj+an*v)=(-1)*(ao*(1+d*(ag*ad*(an*aj)))-(ag*aj+an*ad))+(-(ao*d*(an*aj)*v)-aj)*(u+ag)+(ao*d*(an*aj)*ag-an)*(v+ad)+(1+d*(u*v*(an*aj)))*(w+ao):=by grind
theorem aqQ (d ag an ad aj ay u v:Int):ay*(1-d*(u*v*(an*aj)))-(an*aj+u*v)=1*(ay*(1-d*(ag*ad*(an*aj)))-(an*aj+ag*ad))+(-(ay*d*(an*aj)+1)*v)*(u+ag)+((ay*d*(an*aj)+1)*ag)*(v+ad):=by grind
theorem neg_add {A B:Int×Int} (aU:on A) (ea:on B):fc (rZ A) (rZ B)=rZ (fc A B):=by
 have h:=zX aU ea
 refine TD (Ea aU) (Ea ea) (Ea (wY aU ea)) ⟨?_,?_⟩
 ·exact qf.afP h.1 (Eb A.1) (Eb B.1) (Eb (fc A B).1) (aqP di A.1 A.2 B.1 B.2 (fc A B).1 _ _ _)
 ·exact qf.AD h.2 (Eb A.1) (Eb B.1) (aqQ di A.1 A.2 B.1 B.2 (fc A B).2 _ _)
theorem neg_zero:rZ o0=o0:=by decide
theorem kN {A:Int×Int} (aU:on A):∀n,on (eO n A)
 |0=>M8
 |n+1=>wY (kN aU n) aU
theorem D8 (n:Nat) (A:Int×Int):eO (n+1) A=fc (eO n A) A:=rfl
theorem L8 {A:Int×Int} (aU:on A) (m:Nat):∀n,eO (m+n) A=fc (eO m A) (eO n A)
 |0=>(TE (kN aU m)).symm
 |n+1=>by rw[<-Nat.add_assoc,D8,L8 aU m n,D8,aaX (kN aU m) (kN aU n) aU]
theorem Xh {A:Int×Int} (aU:on A) (n:Nat):eO (2*n) A=fc (eO n A) (eO n A):=by rw[Nat.two_mul,L8 aU]
theorem agh:∀n,eO n o0=o0
 |0=>rfl
 |n+1=>by rw[D8,agh n,TE M8]
theorem Xi {A:Int×Int} (aU:on A) (m:Nat):∀n,eO n (eO m A)=eO (m*n) A
 |0=>by rw[Nat.mul_zero];rfl
 |n+1=>by rw[D8,Xi aU m n,Nat.mul_succ,L8 aU]
theorem agf {A:Int×Int} (aU:on A):∀n,eO n (rZ A)=rZ (eO n A)
 |0=>neg_zero.symm
 |n+1=>by rw[D8,agf aU n,D8,neg_add (kN aU n) aU]
theorem i1 (a b c d z w:Int):(b*z+a*z)*(d*w+c*w)-(b*z-a*z)*(d*w-c*w)=2*(z*w)*(a*d+b*c):=by grind
theorem i2 (a b c d z w:Int):(b*z+a*z)*(d*w+c*w)+(b*z-a*z)*(d*w-c*w)=2*(z*w)*(b*d+a*c):=by grind
theorem i3 (a b c d z w k:Int):(z*w+z*w)-(a*b*z)*(c*d*w)*(2*k)=2*(z*w)*(1-k*(a*c*(b*d))):=by grind
theorem i4 (a b c d z w k:Int):(z*w+z*w)+(a*b*z)*(c*d*w)*(2*k)=2*(z*w)*(1+k*(a*c*(b*d))):=by grind
theorem iS (a b z:Int):(a*z)*(a*z)+(b*z)*(b*z)=z*z*(b*b+a*a):=by grind
theorem qu (a b z:Int):z*z*(b*b+a*a)-(a*z+b*z)*(a*z+b*z)=(-1)*(z*z)*(a*b+b*a):=by grind
theorem rV (a b z:Int):(a*z)*(a*z)-(b*z)*(b*z)=(-1)*(z*z)*(b*b-a*a):=by grind
theorem ti (a b z k:Int):(z*z+z*z)+(-1)*(z*z)*(1+k*(a*a*(b*b)))=z*z*(1-k*(a*a*(b*b))):=by grind
theorem l1 (a b c d z k:Int):z*z-k*(a*c*z*(b*d*z))=z*z*(1-k*(a*c*(b*d))):=by grind
theorem l2 (a b c d z k:Int):z*z+k*(a*c*z*(b*d*z))=z*z*(1+k*(a*c*(b*d))):=by grind
theorem qx (a b c d z:Int):a*d*z+b*c*z=z*(a*d+b*c):=by grind
theorem B8 (a b c d z:Int):b*d*z+a*c*z=z*(b*d+a*c):=by grind
theorem gW (x y d w:Int):x*x-(y*y-1)*w=(-w)*(y*y-x*x-1-d*(x*x*(y*y)))+(-(x*x))*((d*(y*y)+1)*w-1):=by grind
theorem fj (x y d w:Int):y*y-x*x-1-d*(x*x*(y*y))=(-(d*(y*y)+1))*(x*x-(y*y-1)*w)+(1-y*y)*((d*(y*y)+1)*w-1):=by grind
theorem Gt (x p:Int):(p-x)*(p-x)-x*x=p*(p-2*x):=by grind
theorem AE (x y:Int):y*x-y*1=(-1)*(y-x*y):=by grind
theorem B9 {a b:Int} (h:a% 57896044618658097711785492504343953926634992332820282019728792003956564819949=b% 57896044618658097711785492504343953926634992332820282019728792003956564819949) (hb:b% 57896044618658097711785492504343953926634992332820282019728792003956564819949≠0):a% 57896044618658097711785492504343953926634992332820282019728792003956564819949≠0:=by rw[h];exact hb
theorem tU {a b:Int} (ha:a% 57896044618658097711785492504343953926634992332820282019728792003956564819949≠0) (hb:b% 57896044618658097711785492504343953926634992332820282019728792003956564819949≠0):a*b% 57896044618658097711785492504343953926634992332820282019728792003956564819949≠0:=λh=>(Mb h).elim ha hb
theorem ahe {e f g h x y z t:Int} {A:Int×Int} (hf:f% 57896044618658097711785492504343953926634992332820282019728792003956564819949≠0) (hg:g% 57896044618658097711785492504343953926634992332820282019728792003956564819949≠0) (he:e% 57896044618658097711785492504343953926634992332820282019728792003956564819949=A.1*g% 57896044618658097711785492504343953926634992332820282019728792003956564819949) (ae:h% 57896044618658097711785492504343953926634992332820282019728792003956564819949=A.2*f% 57896044618658097711785492504343953926634992332820282019728792003956564819949)
 (hx:x% 57896044618658097711785492504343953926634992332820282019728792003956564819949=e*f% 57896044618658097711785492504343953926634992332820282019728792003956564819949) (hy:y% 57896044618658097711785492504343953926634992332820282019728792003956564819949=g*h% 57896044618658097711785492504343953926634992332820282019728792003956564819949) (hz:z% 57896044618658097711785492504343953926634992332820282019728792003956564819949=f*g% 57896044618658097711785492504343953926634992332820282019728792003956564819949) (aA:t% 57896044618658097711785492504343953926634992332820282019728792003956564819949=e*h% 57896044618658097711785492504343953926634992332820282019728792003956564819949):nK x y z t A:=by
 refine⟨B9 hz (tU hf hg),?_,?_,?_⟩
 ·refine hx.trans ((fi he rfl).trans ((m3 ?_).trans (fi rfl hz).symm));ac_rfl
 ·refine hy.trans ((fi rfl ae).trans ((m3 ?_).trans (fi rfl hz).symm));ac_rfl
 ·refine aA.trans ((fi he ae).trans ((m3 ?_).trans (fi rfl hz).symm));ac_rfl
theorem av9 {A B:Int×Int} (aU:on A) (ea:on B) {ag an aB t1 ad aj z2 t2 a b c d e f g h x y z t qD sQ v1 v2 G3 aii Uw:Int}
 (r1:nK ag an aB t1 A) (r2:nK ad aj z2 t2 B)
 (bm:qD% 57896044618658097711785492504343953926634992332820282019728792003956564819949=(an-ag)% 57896044618658097711785492504343953926634992332820282019728792003956564819949) (cb:sQ% 57896044618658097711785492504343953926634992332820282019728792003956564819949=(aj-ad)% 57896044618658097711785492504343953926634992332820282019728792003956564819949) (xE:a% 57896044618658097711785492504343953926634992332820282019728792003956564819949=qD*sQ% 57896044618658097711785492504343953926634992332820282019728792003956564819949) (cJ:v1% 57896044618658097711785492504343953926634992332820282019728792003956564819949=(an+ag)% 57896044618658097711785492504343953926634992332820282019728792003956564819949) (et:v2% 57896044618658097711785492504343953926634992332820282019728792003956564819949=(aj+ad)% 57896044618658097711785492504343953926634992332820282019728792003956564819949) (Cj:b% 57896044618658097711785492504343953926634992332820282019728792003956564819949=v1*v2% 57896044618658097711785492504343953926634992332820282019728792003956564819949)
 (kg:G3% 57896044618658097711785492504343953926634992332820282019728792003956564819949=t1*t2% 57896044618658097711785492504343953926634992332820282019728792003956564819949) (oS:aii% 57896044618658097711785492504343953926634992332820282019728792003956564819949=2*di% 57896044618658097711785492504343953926634992332820282019728792003956564819949) (Mu:c% 57896044618658097711785492504343953926634992332820282019728792003956564819949=G3*aii% 57896044618658097711785492504343953926634992332820282019728792003956564819949) (qz:Uw% 57896044618658097711785492504343953926634992332820282019728792003956564819949=aB*z2% 57896044618658097711785492504343953926634992332820282019728792003956564819949) (X3:d% 57896044618658097711785492504343953926634992332820282019728792003956564819949=(Uw+Uw)% 57896044618658097711785492504343953926634992332820282019728792003956564819949)
 (Mv:e% 57896044618658097711785492504343953926634992332820282019728792003956564819949=(b-a)% 57896044618658097711785492504343953926634992332820282019728792003956564819949) (Mw:f% 57896044618658097711785492504343953926634992332820282019728792003956564819949=(d-c)% 57896044618658097711785492504343953926634992332820282019728792003956564819949) (Mx:g% 57896044618658097711785492504343953926634992332820282019728792003956564819949=(d+c)% 57896044618658097711785492504343953926634992332820282019728792003956564819949) (X4:h% 57896044618658097711785492504343953926634992332820282019728792003956564819949=(b+a)% 57896044618658097711785492504343953926634992332820282019728792003956564819949)
 (hx:x% 57896044618658097711785492504343953926634992332820282019728792003956564819949=e*f% 57896044618658097711785492504343953926634992332820282019728792003956564819949) (hy:y% 57896044618658097711785492504343953926634992332820282019728792003956564819949=g*h% 57896044618658097711785492504343953926634992332820282019728792003956564819949) (hz:z% 57896044618658097711785492504343953926634992332820282019728792003956564819949=f*g% 57896044618658097711785492504343953926634992332820282019728792003956564819949) (aA:t% 57896044618658097711785492504343953926634992332820282019728792003956564819949=e*h% 57896044618658097711785492504343953926634992332820282019728792003956564819949):nK x y z t (fc A B):=by
 obtain⟨a1,b2,a2,a3⟩:=r1
 obtain⟨ff,b8,b9,de⟩:=r2
 have hs:=zX aU ea
 have k1:=mt sG.1 (sw.plus aU.c ea.c)
 have k2:=mt sG.1 (sw.minus aU.c ea.c)
 generalize b3:(fc A B).1=X at hs
 generalize hY:(fc A B).2=Y at hs
 have jZ:2*(aB*z2)% 57896044618658097711785492504343953926634992332820282019728792003956564819949≠0:=tU (by decide) (tU a1 ff)
 have Ef:a% 57896044618658097711785492504343953926634992332820282019728792003956564819949=((A.2*aB-A.1*aB)*(B.2*z2-B.1*z2))% 57896044618658097711785492504343953926634992332820282019728792003956564819949:=xE.trans (fi (bm.trans (Ab a2 b2)) (cb.trans (Ab b9 b8)))
 have Eh:b% 57896044618658097711785492504343953926634992332820282019728792003956564819949=((A.2*aB+A.1*aB)*(B.2*z2+B.1*z2))% 57896044618658097711785492504343953926634992332820282019728792003956564819949:=Cj.trans (fi (cJ.trans (vi a2 b2)) (et.trans (vi b9 b8)))
 have GC:c% 57896044618658097711785492504343953926634992332820282019728792003956564819949=((A.1*A.2*aB)*(B.1*B.2*z2)*(2*di))% 57896044618658097711785492504343953926634992332820282019728792003956564819949:=Mu.trans (fi (kg.trans (fi a3 de)) oS)
 have Mh:d% 57896044618658097711785492504343953926634992332820282019728792003956564819949=(aB*z2+aB*z2)% 57896044618658097711785492504343953926634992332820282019728792003956564819949:=X3.trans (vi qz qz)
 have Ek:e% 57896044618658097711785492504343953926634992332820282019728792003956564819949=(2*(aB*z2)*(A.1*B.2+A.2*B.1))% 57896044618658097711785492504343953926634992332820282019728792003956564819949:=(Mv.trans (Ab Eh Ef)).trans (m3 (i1 A.1 A.2 B.1 B.2 aB z2))
 have QN:h% 57896044618658097711785492504343953926634992332820282019728792003956564819949=(2*(aB*z2)*(A.2*B.2+A.1*B.1))% 57896044618658097711785492504343953926634992332820282019728792003956564819949:=(X4.trans (vi Eh Ef)).trans (m3 (i2 A.1 A.2 B.1 B.2 aB z2))
 have El:f% 57896044618658097711785492504343953926634992332820282019728792003956564819949=(2*(aB*z2)*(1-di*(A.1*B.1*(A.2*B.2))))% 57896044618658097711785492504343953926634992332820282019728792003956564819949:=(Mw.trans (Ab Mh GC)).trans (m3 (i3 A.1 A.2 B.1 B.2 aB z2 di))
 have Ce:g% 57896044618658097711785492504343953926634992332820282019728792003956564819949=(2*(aB*z2)*(1+di*(A.1*B.1*(A.2*B.2))))% 57896044618658097711785492504343953926634992332820282019728792003956564819949:=(Mx.trans (vi Mh GC)).trans (m3 (i4 A.1 A.2 B.1 B.2 aB z2 di))
 have s1:X*(1+di*(A.1*B.1*(A.2*B.2)))% 57896044618658097711785492504343953926634992332820282019728792003956564819949=(A.1*B.2+A.2*B.1)% 57896044618658097711785492504343953926634992332820282019728792003956564819949:=sE.2 hs.1
 have s2:Y*(1-di*(A.1*B.1*(A.2*B.2)))% 57896044618658097711785492504343953926634992332820282019728792003956564819949=(A.2*B.2+A.1*B.1)% 57896044618658097711785492504343953926634992332820282019728792003956564819949:=sE.2 hs.2
 refine ahe (A:=fc A B) (B9 El (tU jZ k2)) (B9 Ce (tU jZ k1)) ?_ ?_ hx hy hz aA
 ·rw[b3]
  refine Ek.trans ((fi rfl s1).symm.trans ((m3 ?_).trans (fi rfl Ce).symm));ac_rfl
 ·rw[hY]
  refine QN.trans ((fi rfl s2).symm.trans ((m3 ?_).trans (fi rfl El).symm));ac_rfl
theorem av6 {A:Int×Int} (aU:on A) {ag an aB a b eS c h aT s e g f x y z t:Int} (r1:sy ag an aB A)
 (xE:a% 57896044618658097711785492504343953926634992332820282019728792003956564819949=ag*ag% 57896044618658097711785492504343953926634992332820282019728792003956564819949) (Cj:b% 57896044618658097711785492504343953926634992332820282019728792003956564819949=an*an% 57896044618658097711785492504343953926634992332820282019728792003956564819949) (e4:eS% 57896044618658097711785492504343953926634992332820282019728792003956564819949=aB*aB% 57896044618658097711785492504343953926634992332820282019728792003956564819949) (Mu:c% 57896044618658097711785492504343953926634992332820282019728792003956564819949=(eS+eS)% 57896044618658097711785492504343953926634992332820282019728792003956564819949) (X4:h% 57896044618658097711785492504343953926634992332820282019728792003956564819949=(a+b)% 57896044618658097711785492504343953926634992332820282019728792003956564819949) (bm:aT% 57896044618658097711785492504343953926634992332820282019728792003956564819949=(ag+an)% 57896044618658097711785492504343953926634992332820282019728792003956564819949) (I7:s% 57896044618658097711785492504343953926634992332820282019728792003956564819949=aT*aT% 57896044618658097711785492504343953926634992332820282019728792003956564819949) (Mv:e% 57896044618658097711785492504343953926634992332820282019728792003956564819949=(h-s)% 57896044618658097711785492504343953926634992332820282019728792003956564819949) (Mx:g% 57896044618658097711785492504343953926634992332820282019728792003956564819949=(a-b)% 57896044618658097711785492504343953926634992332820282019728792003956564819949) (Mw:f% 57896044618658097711785492504343953926634992332820282019728792003956564819949=(c+g)% 57896044618658097711785492504343953926634992332820282019728792003956564819949)
 (hx:x% 57896044618658097711785492504343953926634992332820282019728792003956564819949=e*f% 57896044618658097711785492504343953926634992332820282019728792003956564819949) (hy:y% 57896044618658097711785492504343953926634992332820282019728792003956564819949=g*h% 57896044618658097711785492504343953926634992332820282019728792003956564819949) (hz:z% 57896044618658097711785492504343953926634992332820282019728792003956564819949=f*g% 57896044618658097711785492504343953926634992332820282019728792003956564819949) (aA:t% 57896044618658097711785492504343953926634992332820282019728792003956564819949=e*h% 57896044618658097711785492504343953926634992332820282019728792003956564819949):nK x y z t (fc A A):=by
 obtain⟨a1,b2,a2⟩:=r1
 have hs:=zX aU aU
 have k1:=mt sG.1 (sw.plus aU.c aU.c)
 have k2:=mt sG.1 (sw.minus aU.c aU.c)
 have hc:=aU.2.2
 generalize b3:(fc A A).1=X at hs
 generalize hY:(fc A A).2=Y at hs
 have jZ:aB*aB% 57896044618658097711785492504343953926634992332820282019728792003956564819949≠0:=tU a1 a1
 have aqs:(-1)*(aB*aB)% 57896044618658097711785492504343953926634992332820282019728792003956564819949≠0:=tU (by decide) jZ
 have Ef:a% 57896044618658097711785492504343953926634992332820282019728792003956564819949=((A.1*aB)*(A.1*aB))% 57896044618658097711785492504343953926634992332820282019728792003956564819949:=xE.trans (fi b2 b2)
 have Eh:b% 57896044618658097711785492504343953926634992332820282019728792003956564819949=((A.2*aB)*(A.2*aB))% 57896044618658097711785492504343953926634992332820282019728792003956564819949:=Cj.trans (fi a2 a2)
 have GC:c% 57896044618658097711785492504343953926634992332820282019728792003956564819949=(aB*aB+aB*aB)% 57896044618658097711785492504343953926634992332820282019728792003956564819949:=Mu.trans (vi e4 e4)
 have QN:h% 57896044618658097711785492504343953926634992332820282019728792003956564819949=(aB*aB*(A.2*A.2+A.1*A.1))% 57896044618658097711785492504343953926634992332820282019728792003956564819949:=(X4.trans (vi Ef Eh)).trans (m3 (iS A.1 A.2 aB))
 have p0:aT% 57896044618658097711785492504343953926634992332820282019728792003956564819949=(A.1*aB+A.2*aB)% 57896044618658097711785492504343953926634992332820282019728792003956564819949:=bm.trans (vi b2 a2)
 have kq:=I7.trans (fi p0 p0)
 have Ek:e% 57896044618658097711785492504343953926634992332820282019728792003956564819949=((-1)*(aB*aB)*(A.1*A.2+A.2*A.1))% 57896044618658097711785492504343953926634992332820282019728792003956564819949:=(Mv.trans (Ab QN kq)).trans (m3 (qu A.1 A.2 aB))
 have auK:g% 57896044618658097711785492504343953926634992332820282019728792003956564819949=((-1)*(aB*aB)*(A.2*A.2-A.1*A.1))% 57896044618658097711785492504343953926634992332820282019728792003956564819949:=(Mx.trans (Ab Ef Eh)).trans (m3 (rV A.1 A.2 aB))
 have Ce:g% 57896044618658097711785492504343953926634992332820282019728792003956564819949=((-1)*(aB*aB)*(1+di*(A.1*A.1*(A.2*A.2))))% 57896044618658097711785492504343953926634992332820282019728792003956564819949:=auK.trans (fi rfl hc)
 have El:f% 57896044618658097711785492504343953926634992332820282019728792003956564819949=(aB*aB*(1-di*(A.1*A.1*(A.2*A.2))))% 57896044618658097711785492504343953926634992332820282019728792003956564819949:=(Mw.trans (vi GC Ce)).trans (m3 (ti A.1 A.2 aB di))
 have s1:X*(1+di*(A.1*A.1*(A.2*A.2)))% 57896044618658097711785492504343953926634992332820282019728792003956564819949=(A.1*A.2+A.2*A.1)% 57896044618658097711785492504343953926634992332820282019728792003956564819949:=sE.2 hs.1
 have s2:Y*(1-di*(A.1*A.1*(A.2*A.2)))% 57896044618658097711785492504343953926634992332820282019728792003956564819949=(A.2*A.2+A.1*A.1)% 57896044618658097711785492504343953926634992332820282019728792003956564819949:=sE.2 hs.2
 refine ahe (A:=fc A A) (B9 El (tU jZ k2)) (B9 Ce (tU aqs k1)) ?_ ?_ hx hy hz aA
 ·rw[b3]
  refine Ek.trans ((fi rfl s1).symm.trans ((m3 ?_).trans (fi rfl Ce).symm));ac_rfl
 ·rw[hY]
  refine QN.trans ((fi rfl s2).symm.trans ((m3 ?_).trans (fi rfl El).symm));ac_rfl
theorem awa {A B:Int×Int} (aU:on A) (ea:on B) {ag an aB ad aj z2 a b c d fF e f g gW fj Ur both u v x y z:Int} (r1:sy ag an aB A) (r2:sy ad aj z2 B)
 (xE:a% 57896044618658097711785492504343953926634992332820282019728792003956564819949=aB*z2% 57896044618658097711785492504343953926634992332820282019728792003956564819949) (Cj:b% 57896044618658097711785492504343953926634992332820282019728792003956564819949=a*a% 57896044618658097711785492504343953926634992332820282019728792003956564819949) (Mu:c% 57896044618658097711785492504343953926634992332820282019728792003956564819949=ag*ad% 57896044618658097711785492504343953926634992332820282019728792003956564819949) (X3:d% 57896044618658097711785492504343953926634992332820282019728792003956564819949=an*aj% 57896044618658097711785492504343953926634992332820282019728792003956564819949) (e4:fF% 57896044618658097711785492504343953926634992332820282019728792003956564819949=c*d% 57896044618658097711785492504343953926634992332820282019728792003956564819949) (Mv:e% 57896044618658097711785492504343953926634992332820282019728792003956564819949=di*fF% 57896044618658097711785492504343953926634992332820282019728792003956564819949) (Mw:f% 57896044618658097711785492504343953926634992332820282019728792003956564819949=(b-e)% 57896044618658097711785492504343953926634992332820282019728792003956564819949) (Mx:g% 57896044618658097711785492504343953926634992332820282019728792003956564819949=(b+e)% 57896044618658097711785492504343953926634992332820282019728792003956564819949)
 (bm:gW% 57896044618658097711785492504343953926634992332820282019728792003956564819949=ag*aj% 57896044618658097711785492504343953926634992332820282019728792003956564819949) (cb:fj% 57896044618658097711785492504343953926634992332820282019728792003956564819949=an*ad% 57896044618658097711785492504343953926634992332820282019728792003956564819949) (avY:Ur% 57896044618658097711785492504343953926634992332820282019728792003956564819949=(gW+fj)% 57896044618658097711785492504343953926634992332820282019728792003956564819949) (avZ:both% 57896044618658097711785492504343953926634992332820282019728792003956564819949=(d+c)% 57896044618658097711785492504343953926634992332820282019728792003956564819949) (cJ:u% 57896044618658097711785492504343953926634992332820282019728792003956564819949=a*f% 57896044618658097711785492504343953926634992332820282019728792003956564819949) (hx:x% 57896044618658097711785492504343953926634992332820282019728792003956564819949=u*Ur% 57896044618658097711785492504343953926634992332820282019728792003956564819949) (et:v% 57896044618658097711785492504343953926634992332820282019728792003956564819949=a*g% 57896044618658097711785492504343953926634992332820282019728792003956564819949) (hy:y% 57896044618658097711785492504343953926634992332820282019728792003956564819949=v*both% 57896044618658097711785492504343953926634992332820282019728792003956564819949) (hz:z% 57896044618658097711785492504343953926634992332820282019728792003956564819949=f*g% 57896044618658097711785492504343953926634992332820282019728792003956564819949):sy x y z (fc A B):=by
 obtain⟨a1,b2,a2⟩:=r1
 obtain⟨ff,b8,b9⟩:=r2
 have hs:=zX aU ea
 have k1:=mt sG.1 (sw.plus aU.c ea.c)
 have k2:=mt sG.1 (sw.minus aU.c ea.c)
 have Qu:a% 57896044618658097711785492504343953926634992332820282019728792003956564819949≠0:=B9 xE (tU a1 ff)
 generalize b3:(fc A B).1=X at hs
 generalize hY:(fc A B).2=Y at hs
 have GC:c% 57896044618658097711785492504343953926634992332820282019728792003956564819949=(A.1*B.1*a)% 57896044618658097711785492504343953926634992332820282019728792003956564819949:=(Mu.trans (fi b2 b8)).trans ((m3 (by ac_rfl)).trans (fi rfl xE.symm))
 have Mh:d% 57896044618658097711785492504343953926634992332820282019728792003956564819949=(A.2*B.2*a)% 57896044618658097711785492504343953926634992332820282019728792003956564819949:=(X3.trans (fi a2 b9)).trans ((m3 (by ac_rfl)).trans (fi rfl xE.symm))
 have au9:gW% 57896044618658097711785492504343953926634992332820282019728792003956564819949=(A.1*B.2*a)% 57896044618658097711785492504343953926634992332820282019728792003956564819949:=(bm.trans (fi b2 b9)).trans ((m3 (by ac_rfl)).trans (fi rfl xE.symm))
 have ava:fj% 57896044618658097711785492504343953926634992332820282019728792003956564819949=(A.2*B.1*a)% 57896044618658097711785492504343953926634992332820282019728792003956564819949:=(cb.trans (fi a2 b8)).trans ((m3 (by ac_rfl)).trans (fi rfl xE.symm))
 have Ek:e% 57896044618658097711785492504343953926634992332820282019728792003956564819949=(di*(A.1*B.1*a*(A.2*B.2*a)))% 57896044618658097711785492504343953926634992332820282019728792003956564819949:=Mv.trans (fi rfl (e4.trans (fi GC Mh)))
 have El:f% 57896044618658097711785492504343953926634992332820282019728792003956564819949=(a*a*(1-di*(A.1*B.1*(A.2*B.2))))% 57896044618658097711785492504343953926634992332820282019728792003956564819949:=(Mw.trans (Ab Cj Ek)).trans (m3 (l1 A.1 A.2 B.1 B.2 a di))
 have Ce:g% 57896044618658097711785492504343953926634992332820282019728792003956564819949=(a*a*(1+di*(A.1*B.1*(A.2*B.2))))% 57896044618658097711785492504343953926634992332820282019728792003956564819949:=(Mx.trans (vi Cj Ek)).trans (m3 (l2 A.1 A.2 B.1 B.2 a di))
 have Cg:Ur% 57896044618658097711785492504343953926634992332820282019728792003956564819949=(a*(A.1*B.2+A.2*B.1))% 57896044618658097711785492504343953926634992332820282019728792003956564819949:=(avY.trans (vi au9 ava)).trans (m3 (qx A.1 A.2 B.1 B.2 a))
 have Ch:both% 57896044618658097711785492504343953926634992332820282019728792003956564819949=(a*(A.2*B.2+A.1*B.1))% 57896044618658097711785492504343953926634992332820282019728792003956564819949:=(avZ.trans (vi Mh GC)).trans (m3 (B8 A.1 A.2 B.1 B.2 a))
 have s1:X*(1+di*(A.1*B.1*(A.2*B.2)))% 57896044618658097711785492504343953926634992332820282019728792003956564819949=(A.1*B.2+A.2*B.1)% 57896044618658097711785492504343953926634992332820282019728792003956564819949:=sE.2 hs.1
 have s2:Y*(1-di*(A.1*B.1*(A.2*B.2)))% 57896044618658097711785492504343953926634992332820282019728792003956564819949=(A.2*B.2+A.1*B.1)% 57896044618658097711785492504343953926634992332820282019728792003956564819949:=sE.2 hs.2
 refine⟨B9 hz (tU (B9 El (tU (tU Qu Qu) k2)) (B9 Ce (tU (tU Qu Qu) k1))),?_,?_⟩
 ·rw[b3]
  refine hx.trans ((fi cJ (Cg.trans (fi rfl s1.symm))).trans (((m3 ?_).trans (fi rfl (fi rfl Ce.symm))).trans (fi rfl hz).symm));ac_rfl
 ·rw[hY]
  refine hy.trans ((fi et (Ch.trans (fi rfl s2.symm))).trans (((m3 ?_).trans (fi rfl (fi El.symm rfl))).trans (fi rfl hz).symm));ac_rfl
theorem nK.j {x y z t:Int} {A:Int×Int} (h:nK x y z t A):sy x y z A:=⟨h.1,h.2.1,h.2.2.1⟩
theorem MM {x y z:Int} {A:Int×Int} (aU:on A) (h:sy x y z A):DF x y z=enc A:=by
 obtain⟨n,h1,h2⟩:=h
 have hi:=WK (mt sG.2 n)
 have key:∀u v:Int,u% 57896044618658097711785492504343953926634992332820282019728792003956564819949=v*z% 57896044618658097711785492504343953926634992332820282019728792003956564819949->0<=v->v<57896044618658097711785492504343953926634992332820282019728792003956564819949->u*m7 z% 57896044618658097711785492504343953926634992332820282019728792003956564819949=v:=λu v hu h0 h1=>by
  have:u*m7 z% 57896044618658097711785492504343953926634992332820282019728792003956564819949=v*z*m7 z% 57896044618658097711785492504343953926634992332820282019728792003956564819949:=fi hu rfl
  rw[this,CF,<-vD,hi,Rz,p9 h0 h1]
 unfold DF enc
 rw[key x A.1 h1 aU.1.1 aU.1.2,key y A.2 h2 aU.2.1.1 aU.2.1.2]
theorem al3 (y:Int):¬ug (di*(y*y)+1):=λh=>by
 have h1:ug (AX*AX-di*(y*y)):=by
  have h2:=Int.dvd_sub sw.hi h
  rwa [show AX*AX+1-(di*(y*y)+1)=AX*AX-di*(y*y) by omega]at h2
 have h3:=sw.hd _ _ h1
 have h4:ug (di*(y*y)):=qf.L3 h3 (r1:=di*y) (by rw[CF])
 have h5:=Int.dvd_sub h h4
 rw[show di*(y*y)+1-di*(y*y)=1 by omega]at h5
 exact sw.h1 h5
theorem Xu {x y:Int}:qf.qS 57896044618658097711785492504343953926634992332820282019728792003956564819949 di x y↔x*x% 57896044618658097711785492504343953926634992332820282019728792003956564819949=(y*y-1)*m7 (di*(y*y)+1)% 57896044618658097711785492504343953926634992332820282019728792003956564819949:=by
 have hi:=WK (al3 y)
 generalize m7 (di*(y*y)+1)=w at hi⊢
 have hw:=sE.1 (hi.trans (show(1:Int)=1% 57896044618658097711785492504343953926634992332820282019728792003956564819949 by decide))
 rw[sE]
 unfold qf.qS
 constructor
 ·intro h
  exact qf.y6 h hw (gW x y di w)
 ·intro h
  exact qf.y6 h hw (fj x y di w)
theorem amy {A:Int×Int} (aU:on A):0<=enc A/\enc A<2*e0/\enc A% e0=A.2/\enc A/e0=A.1% 2:=by
 have h1:=aU.2.1
 unfold enc e0
 have h2:=ud A.1 (show(2:Int)≠0 by decide)
 have h3:=zw A.1 (show(0:Int)<2 by decide)
 generalize A.1% 2=o at h2 h3
 generalize A.2=y at h1
 clear aU
 refine⟨by omega,by omega,?_,?_⟩
 ·rw[zx,p9 h1.1 (by omega)]
 ·rw[Int.add_mul_ediv_left _ _ (by decide),Int.ediv_eq_zero_of_lt h1.1 (by omega),Int.zero_add]
theorem alY {A:Int×Int} (aU:on A):dec (enc A)=some A:=by
 obtain⟨_,_,aw,aD⟩:=amy aU
 unfold dec
 simp only[aw,aD]
 rw[if_pos aU.2.1.2]
 have hr:=Xu.1 aU.c
 generalize (A.2*A.2-1)*m7 (di*(A.2*A.2)+1)=q at hr
 obtain⟨r,hs,q3⟩:=axf hr
 rw[hs]
 simp only
 rw[if_neg (by decide)]
 have hx:=aU.1
 by_cases ax:A.1% 2=1
 ·rw[if_pos ax]
  have hz:0<A.1:=by clear hr hs q3 aw aD;omega
  have hn:r=57896044618658097711785492504343953926634992332820282019728792003956564819949-A.1:=by
   refine ahk q3 ⟨by clear hr hs q3 aw aD;omega,by clear hr hs q3 aw aD;omega,by clear hr hs q3 aw aD;omega,?_⟩
   rw[<-hr,sE]
   exact⟨57896044618658097711785492504343953926634992332820282019728792003956564819949-2*A.1,Gt A.1 57896044618658097711785492504343953926634992332820282019728792003956564819949⟩
  rw[if_neg (by rw[hn];clear hr hs q3 aw aD;omega),ags (by rw[hn];clear hr hs q3 aw aD;omega) q3.2.1,hn]
  congr 1
  exact Na (by simp only;omega) rfl
 ·rw[if_neg ax]
  have hn:r=A.1:=ahk q3 ⟨hx.1,hx.2,by clear hr hs q3 aw aD;omega,hr⟩
  rw[hn]
theorem Kw {b:Int} {A:Int×Int} (h:dec b=some A):on A:=by
 unfold dec at h
 simp only at h
 have LQ:0<=b% e0:=ud _ (by decide)
 generalize b% e0=y at h LQ
 by_cases h1:y<57896044618658097711785492504343953926634992332820282019728792003956564819949
 ·rw[if_pos h1]at h
  rcases ah0 (AH ((y*y-1)*m7 (di*(y*y)+1))).1 (AH ((y*y-1)*m7 (di*(y*y)+1))).2 with⟨r,hs,q3⟩|⟨hs,_⟩
  ·rw[hs]at h
   simp only at h
   rw[if_neg (by decide)]at h
   by_cases h2:b/e0=1
   ·rw[if_pos h2]at h
    by_cases h3:r=0
    ·rw[if_pos h3]at h;cases h
    ·rw[if_neg h3]at h
     cases h
     refine Me.2 ⟨⟨AH _,LQ,h1⟩,Xu.2 ?_⟩
     rw[sM,vD,agu]
     exact q3.2.2.2
   ·rw[if_neg h2]at h
    cases h
    exact Me.2 ⟨⟨⟨q3.1,q3.2.1⟩,LQ,h1⟩,Xu.2 q3.2.2.2⟩
  ·rw[hs]at h
   simp at h
 ·rw[if_neg h1]at h;cases h
def YR (p q:Int×Int×Int):Int×Int×Int:=
 let a:=p.2.2*q.2.2% 57896044618658097711785492504343953926634992332820282019728792003956564819949
 let b:=a*a% 57896044618658097711785492504343953926634992332820282019728792003956564819949
 let c:=p.1*q.1% 57896044618658097711785492504343953926634992332820282019728792003956564819949
 let d:=p.2.1*q.2.1% 57896044618658097711785492504343953926634992332820282019728792003956564819949
 let e:=di*(c*d% 57896044618658097711785492504343953926634992332820282019728792003956564819949)% 57896044618658097711785492504343953926634992332820282019728792003956564819949
 let f:=(b-e)% 57896044618658097711785492504343953926634992332820282019728792003956564819949
 let g:=(b+e)% 57896044618658097711785492504343953926634992332820282019728792003956564819949
 (a*f% 57896044618658097711785492504343953926634992332820282019728792003956564819949*((p.1*q.2.1% 57896044618658097711785492504343953926634992332820282019728792003956564819949+p.2.1*q.1% 57896044618658097711785492504343953926634992332820282019728792003956564819949)% 57896044618658097711785492504343953926634992332820282019728792003956564819949)% 57896044618658097711785492504343953926634992332820282019728792003956564819949,a*g% 57896044618658097711785492504343953926634992332820282019728792003956564819949*((d+c)% 57896044618658097711785492504343953926634992332820282019728792003956564819949)% 57896044618658097711785492504343953926634992332820282019728792003956564819949,f*g% 57896044618658097711785492504343953926634992332820282019728792003956564819949)
def Xf:Nat->Nat->Int×Int×Int->Int×Int×Int
 |0,_,_=>(0,1,1)
 |f+1,n,p=>let h:=Xf f (n/2) p
           let d:=YR h h
           cond (n% 2==1) (YR d p) d
abbrev Bj (p:Int×Int×Int) (A:Int×Int):Prop:=sy p.1 p.2.1 p.2.2 A
theorem bF (a:Int):a% 57896044618658097711785492504343953926634992332820282019728792003956564819949% 57896044618658097711785492504343953926634992332820282019728792003956564819949=a% 57896044618658097711785492504343953926634992332820282019728792003956564819949:=CE _ _
theorem aib {p q:Int×Int×Int} {A B:Int×Int} (aU:on A) (ea:on B) (hp:Bj p A) (ah:Bj q B):Bj (YR p q) (fc A B):=
 awa aU ea hp ah (bF _) (bF _) (bF _) (bF _) (bF _) (bF _) (bF _) (bF _) (bF _) (bF _) (bF _) (bF _) (bF _) (bF _) (bF _) (bF _) (bF _)
theorem aAW:Bj (0,1,1) o0:=by
 show sy 0 1 1 o0
 unfold sy o0;decide
theorem Qt {p:Int×Int×Int} {A:Int×Int} (aU:on A) (hp:Bj p A):∀(f n:Nat),n<2^f->Bj (Xf f n p) (eO n A)
 |0,n,h=>by
  have:n=0:=by simp at h;exact h
  subst this;exact aAW
 |f+1,n,h=>by
  have ih:=Qt aU hp f (n/2) (by rw[yq]at h;omega)
  have h2:=aib (kN aU _) (kN aU _) ih ih
  rw[<-Xh aU]at h2
  unfold Xf
  simp only
  cases hc:(n% 2==1)with
  |true=>
   have:n% 2=1:=by simpa using hc
   have e:n=2*(n/2)+1:=by omega
   simp only[cond_true]
   conv=>rhs;rw[e,D8]
   exact aib (kN aU _) aU h2 hp
  |false=>
   have:¬n% 2=1:=by simpa using hc
   have e:n=2*(n/2):=by omega
   simp only[cond_false]
   conv=>rhs;rw[e]
   exact h2
theorem Xy {A:Int×Int}:Bj (A.1,A.2,1) A:=⟨(show(1:Int)% 57896044618658097711785492504343953926634992332820282019728792003956564819949≠0 by decide),by simp,by simp⟩
theorem av7 {p:Int×Int×Int} {A:Int×Int} (aU:on A) (h:Bj p A) (hx:p.1% 57896044618658097711785492504343953926634992332820282019728792003956564819949=0) (hy:p.2.1% 57896044618658097711785492504343953926634992332820282019728792003956564819949=p.2.2% 57896044618658097711785492504343953926634992332820282019728792003956564819949):A=o0:=by
 obtain⟨n,h1,h2⟩:=h
 rw[hx]at h1
 have k1:A.1% 57896044618658097711785492504343953926634992332820282019728792003956564819949=0:=(Mb h1.symm).resolve_right n
 have k2:ug (A.2-1):=by
  have:=sE.1 (hy.symm.trans h2)
  have h3:ug (p.2.2*A.2-p.2.2*1):=qf.L3 this (AE A.2 p.2.2)
  exact sw.cancel (mt sG.2 n) h3
 exact QR aU M8 (by have:=sG.1 k1;rwa [show o0.1=0 by rfl,Int.sub_zero]) k2
theorem akS:eO kO kG=o0:=by
 have h:=Qt oJ Xy 253 kO (by decide)
 exact av7 (kN oJ _) h (by decide+kernel) (by decide+kernel)
theorem akR (n:Nat):eO (n% kO) kG=eO n kG:=by
 have e:eO n kG=fc (eO (kO*(n/kO)) kG) (eO (n% kO) kG):=by rw[<-L8 oJ,Nat.div_add_mod]
 rw[<-Xi oJ,akS,agh,aiK (kN oJ _)]at e
 exact e.symm
end Go.Fd
set_option maxRecDepth 20000
namespace Go.Fd
open Go.ch
theorem ax5 {l:List Int} (hl:af (au 0 255 32) l):(nb l).toNat/2^(255+1:Int).toNat=0:=by
 have h:=Xl hl
 have e:(255+1:Int).toNat=256:=by decide
 rw[e]
 apply Zh
 have:((nb l).toNat:Int)<2^256:=by rw[M9 h.1];exact h.2
 exact_mod_cast this
theorem aAV {x y z t:List Int} (h:Ys [] [x,y,z,t]):nK (v5 x) (v5 y) (v5 z) (v5 t) o0:=by
 obtain⟨h1,h2,h3,h4⟩:=h
 refine⟨by rw[h3];decide,?_,?_,?_⟩
 ·rw[h1,show o0.1=0 by rfl,Int.zero_mul];rfl
 ·rw[h2,show o0.2=1 by rfl,wI,h3]
 ·rw[h4,show o0.1*o0.2=0 by rfl,Int.zero_mul];rfl
theorem T3 {x y z t:List Int} (h:MU [] [x,y,z,t]):nK (v5 x) (v5 y) (v5 z) (v5 t) kG:=by
 obtain⟨h1,h2,h3,h4⟩:=h
 have k:∀a:Int,a*v5 z% 57896044618658097711785492504343953926634992332820282019728792003956564819949=a% 57896044618658097711785492504343953926634992332820282019728792003956564819949:=λa=>by rw[<-vD,h3,Rz]
 refine⟨by rw[h3];decide,?_,?_,?_⟩
 ·rw[k,h1];decide
 ·rw[k,h2];decide
 ·rw[k,h4]
theorem ab1 {l:List Int} {i:Nat} {q x e3 y h:Int} (hl:af (au 0 255 32) l) (hi:(i:Int)<=255) (c:0<=(i:Int)-8*q) (d:(i:Int)-8*q<8) (e:x=l.getD q.toNat 0)
 (eR:0<=(i:Int)-8*e3) (Fk:(i:Int)-8*e3<8) (da:y=x/2^((i:Int)+(-8)*e3).toNat) (bK:0<=y-2*h) (d2:y-2*h<2):y+(-2)*h=(((nb l).toNat/2^i% 2:Nat):Int):=by
 have hb:=Xn 8 (n:=32) (l:=l) i hl (by omega)
 have h0:=(Xl hl).1
 have bm:q.toNat=i/8:=by omega
 have cb:((i:Int)+(-8)*e3).toNat=i% 8:=by omega
 rw[bm]at e
 rw[cb]at da
 have cj:(((nb l).toNat/2^i% 2:Nat):Int)=nb l/2^i% 2:=by
  have:((nb l).toNat:Int)=nb l:=M9 h0
  rw[RA,Int.natCast_ediv,this]
  simp
 rw[cj]
 have hb:nb l/2^i% 2=l.getD (i/8) 0/2^(i% 8)% 2:=hb
 rw[hb,<-e,<-da]
 omega
theorem asf {A:Int×Int} (aU:on A) {N i:Nat} (h:N/2^i% 2=1):eO (N/2^i) A=fc (fc (eO (N/2^(i+1)) A) (eO (N/2^(i+1)) A)) A:=by
 rw[Qv N i,h,D8,Xh aU]
theorem ase {A:Int×Int} (aU:on A) {N i:Nat} (h:N/2^i% 2≠1):eO (N/2^i) A=fc (eO (N/2^(i+1)) A) (eO (N/2^(i+1)) A):=by
 have h0:N/2^i% 2=0:=by omega
 rw[Qv N i,h0,Nat.add_zero,Xh aU]
theorem aic {a b c d:List Int} {lo hi Qq q2 arT aoZ arU Ls:Int} (ha:af (au lo hi 5) a) (hb:af (au Qq q2 5) b) (hc:af (au arT aoZ 5) c) (hd:af (au arU Ls 5) d):[a,b,c,d].flatten.take 15=[a,b,c].flatten:=by
 have l1:=W0 ha
 have l2:=W0 hb
 have qx:=W0 hc
 rw[show [a,b,c,d].flatten=[a,b,c].flatten++d by simp]
 exact Zi (by simp[l1,l2,qx])
theorem amH {a b c d e f g h:List Int}:[a,b,c,d,e,f,g,h].flatten=[a,b,c,d].flatten++[e,f,g,h].flatten:=by simp
theorem atJ:∀x:Nat,x<128->eL .or .u8 (x:Int) 128=(x:Int)+128:=by decide
theorem atI {x:Int} (h0:0<=x) (h1:x<128):eL .or .u8 x 128=x+128:=by
 obtain⟨n,rfl⟩:=sn h0
 exact atJ n (by omega)
theorem aqZ {l:List Int} {w:Int} (h:af (au 0 255 32) l) (h0:0<=w) (h1:w<=255):af (bk [hU]) [[l.getD 0 0,l.getD 1 0,l.getD 2 0,l.getD 3 0,l.getD 4 0,l.getD 5 0,l.getD 6 0,l.getD 7 0,l.getD 8 0,l.getD 9 0,l.getD 10 0,l.getD 11 0,l.getD 12 0,l.getD 13 0,l.getD 14 0,l.getD 15 0,l.getD 16 0,l.getD 17 0,l.getD 18 0,l.getD 19 0,l.getD 20 0,l.getD 21 0,l.getD 22 0,l.getD 23 0,l.getD 24 0,l.getD 25 0,l.getD 26 0,l.getD 27 0,l.getD 28 0,l.getD 29 0,l.getD 30 0,w]].flatten:=by
 obtain⟨eU,ag,ad,ao,cZ,iV,jG,n7,n8,n9,oA,gX,jF,n6,wu,wv,xW,xX,xY,xZ,x0,x1,x2,x3,x4,x5,x6,x7,x8,x9,ya,yb,rfl,hx⟩:=LV h
 show af (au 0 255 32) _
 simp only[uT,G4,gZ,jH,kS,au,af,and_true]
 simp only[hx,h0,h1,and_self]
theorem agq {l:List Int} (h:af (au 0 255 32) l) (w:Int):nb [l.getD 0 0,l.getD 1 0,l.getD 2 0,l.getD 3 0,l.getD 4 0,l.getD 5 0,l.getD 6 0,l.getD 7 0,l.getD 8 0,l.getD 9 0,l.getD 10 0,l.getD 11 0,l.getD 12 0,l.getD 13 0,l.getD 14 0,l.getD 15 0,l.getD 16 0,l.getD 17 0,l.getD 18 0,l.getD 19 0,l.getD 20 0,l.getD 21 0,l.getD 22 0,l.getD 23 0,l.getD 24 0,l.getD 25 0,l.getD 26 0,l.getD 27 0,l.getD 28 0,l.getD 29 0,l.getD 30 0,w]=nb l+(w-l.getD 31 0)*452312848583266388373324160190187140051835877600158453279131187530910662656:=by
 obtain⟨eU,ag,ad,ao,cZ,iV,jG,n7,n8,n9,oA,gX,jF,n6,wu,wv,xW,xX,xY,xZ,x0,x1,x2,x3,x4,x5,x6,x7,x8,x9,ya,yb,rfl,hx⟩:=LV h
 clear hx
 simp only[num,jH,kS]
 omega
theorem agr {l:List Int} (h:af (au 0 255 32) l):0<=nb l-l.getD 31 0*452312848583266388373324160190187140051835877600158453279131187530910662656/\nb l-l.getD 31 0*452312848583266388373324160190187140051835877600158453279131187530910662656<452312848583266388373324160190187140051835877600158453279131187530910662656:=by
 obtain⟨eU,ag,ad,ao,cZ,iV,jG,n7,n8,n9,oA,gX,jF,n6,wu,wv,xW,xX,xY,xZ,x0,x1,x2,x3,x4,x5,x6,x7,x8,x9,ya,yb,rfl,hx⟩:=LV h
 simp only[num,jH,kS]
 omega
theorem anG {l:List Int} (h:af (au 0 255 32) l):0<=l.getD 31 0/\l.getD 31 0<=255:=by
 obtain⟨eU,ag,ad,ao,cZ,iV,jG,n7,n8,n9,oA,gX,jF,n6,wu,wv,xW,xX,xY,xZ,x0,x1,x2,x3,x4,x5,x6,x7,x8,x9,ya,yb,rfl,hx⟩:=LV h
 simp only[jH,kS]
 omega
theorem ax3 {l:List Int} (h:af (au 0 255 32) l) (hlt:nb l<e0):l.getD 31 0<128:=by
 have h1:=agr h
 unfold e0 at hlt
 generalize nb l=n at*
 generalize l.getD 31 0=t at*
 omega
theorem L5 {l:List Int} {z:Int} (h:af (au 0 255 32) l) (c:0<=l.getD 31 0-128*z) (d:l.getD 31 0-128*z<128):nb [l.getD 0 0,l.getD 1 0,l.getD 2 0,l.getD 3 0,l.getD 4 0,l.getD 5 0,l.getD 6 0,l.getD 7 0,l.getD 8 0,l.getD 9 0,l.getD 10 0,l.getD 11 0,l.getD 12 0,l.getD 13 0,l.getD 14 0,l.getD 15 0,l.getD 16 0,l.getD 17 0,l.getD 18 0,l.getD 19 0,l.getD 20 0,l.getD 21 0,l.getD 22 0,l.getD 23 0,l.getD 24 0,l.getD 25 0,l.getD 26 0,l.getD 27 0,l.getD 28 0,l.getD 29 0,l.getD 30 0,l.getD 31 0+(-128)*z]=nb l% e0/\z=nb l/e0:=by
 have h1:=agr h
 rw[agq h]
 have e:nb l+(l.getD 31 0+(-128)*z-l.getD 31 0)*452312848583266388373324160190187140051835877600158453279131187530910662656=nb l-e0*z:=by unfold e0;generalize nb l=n at*;generalize l.getD 31 0=t at*;omega
 have r1:0<=nb l-e0*z:=by unfold e0;generalize nb l=n at*;generalize l.getD 31 0=t at*;omega
 have r2:nb l-e0*z<e0:=by unfold e0;generalize nb l=n at*;generalize l.getD 31 0=t at*;omega
 have gI:=My (show(0:Int)<e0 by decide) r1 r2
 rw[e]
 refine⟨?_,gI.symm⟩
 have h4:=Zj (nb l) e0
 rw[gI]at h4
 omega
abbrev CB (y:Int):Int:=(y*y-1)*m7 (di*(y*y)+1)% 57896044618658097711785492504343953926634992332820282019728792003956564819949
theorem Kv (b:Int):dec b=(if b% e0<57896044618658097711785492504343953926634992332820282019728792003956564819949 then
 (if(n3 (CB (b% e0))).2=0 then none else if b/e0=1 then(if(n3 (CB (b% e0))).1=0 then none else some ((0-(n3 (CB (b% e0))).1)% 57896044618658097711785492504343953926634992332820282019728792003956564819949,b% e0))else some ((n3 (CB (b% e0))).1,b% e0))else none):=rfl
theorem alX {b:Int} (h:¬b% e0<57896044618658097711785492504343953926634992332820282019728792003956564819949):dec b=none:=by rw[Kv,if_neg h]
theorem al0 {b a k:Int} (hy:b% e0<57896044618658097711785492504343953926634992332820282019728792003956564819949) (hs:(a,k)=n3 (CB (b% e0))) (ab:k=0):dec b=none:=by rw[Kv,if_pos hy,<-hs,if_pos ab]
theorem al2 {b a k:Int} (hy:b% e0<57896044618658097711785492504343953926634992332820282019728792003956564819949) (hs:(a,k)=n3 (CB (b% e0))) (ab:k≠0) (ax:b/e0=1) (h0:a=0):dec b=none:=by rw[Kv,if_pos hy,<-hs,if_neg ab,if_pos ax,if_pos h0]
theorem al1 {b a k:Int} (hy:b% e0<57896044618658097711785492504343953926634992332820282019728792003956564819949) (hs:(a,k)=n3 (CB (b% e0))) (ab:k≠0) (ax:b/e0=1) (h0:a≠0):dec b=some ((0-a)% 57896044618658097711785492504343953926634992332820282019728792003956564819949,b% e0):=by rw[Kv,if_pos hy,<-hs,if_neg ab,if_pos ax,if_neg h0]
theorem alZ {b a k:Int} (hy:b% e0<57896044618658097711785492504343953926634992332820282019728792003956564819949) (hs:(a,k)=n3 (CB (b% e0))) (ab:k≠0) (ax:¬b/e0=1):dec b=some (a,b% e0):=by rw[Kv,if_pos hy,<-hs,if_neg ab,if_neg ax]
theorem aq5 {a b:Int} (h:a% 57896044618658097711785492504343953926634992332820282019728792003956564819949=b% 57896044618658097711785492504343953926634992332820282019728792003956564819949):cO a xg% 57896044618658097711785492504343953926634992332820282019728792003956564819949=m7 b% 57896044618658097711785492504343953926634992332820282019728792003956564819949:=by unfold m7;rw[ag4 h]
theorem QZ {y f EC m t p v q:Int} (s1:f% 57896044618658097711785492504343953926634992332820282019728792003956564819949=y% 57896044618658097711785492504343953926634992332820282019728792003956564819949) (s2:EC% 57896044618658097711785492504343953926634992332820282019728792003956564819949=f*f% 57896044618658097711785492504343953926634992332820282019728792003956564819949) (bS:m% 57896044618658097711785492504343953926634992332820282019728792003956564819949=(EC-v5 [1,0,0,0,0])% 57896044618658097711785492504343953926634992332820282019728792003956564819949) (dg:t% 57896044618658097711785492504343953926634992332820282019728792003956564819949=EC*v5 [929955233495203,466365720129213,1662059464998953,2033849074728123,1442794654840575]% 57896044618658097711785492504343953926634992332820282019728792003956564819949) (gz:p% 57896044618658097711785492504343953926634992332820282019728792003956564819949=(t+v5 [1,0,0,0,0])% 57896044618658097711785492504343953926634992332820282019728792003956564819949) (hM:v% 57896044618658097711785492504343953926634992332820282019728792003956564819949=cO p xg) (ju:q% 57896044618658097711785492504343953926634992332820282019728792003956564819949=m*v% 57896044618658097711785492504343953926634992332820282019728792003956564819949):q% 57896044618658097711785492504343953926634992332820282019728792003956564819949=CB y:=by
 rw[azi]at bS gz
 rw[agI]at dg
 have bm:EC% 57896044618658097711785492504343953926634992332820282019728792003956564819949=y*y% 57896044618658097711785492504343953926634992332820282019728792003956564819949:=s2.trans (fi s1 s1)
 have cb:m% 57896044618658097711785492504343953926634992332820282019728792003956564819949=(y*y-1)% 57896044618658097711785492504343953926634992332820282019728792003956564819949:=bS.trans (Ab bm rfl)
 have cJ:p% 57896044618658097711785492504343953926634992332820282019728792003956564819949=(di*(y*y)+1)% 57896044618658097711785492504343953926634992332820282019728792003956564819949:=gz.trans (vi (dg.trans ((fi bm rfl).trans (m3 (kR _ _)))) rfl)
 exact ju.trans (fi cb ((hM.trans (Mj _ _).symm).trans (aq5 cJ)))
theorem av8 {x y z t:Int} {A:Int×Int} (h1:x% 57896044618658097711785492504343953926634992332820282019728792003956564819949=A.1) (h2:y% 57896044618658097711785492504343953926634992332820282019728792003956564819949=A.2) (h3:z% 57896044618658097711785492504343953926634992332820282019728792003956564819949=1) (h4:t% 57896044618658097711785492504343953926634992332820282019728792003956564819949=A.1*A.2% 57896044618658097711785492504343953926634992332820282019728792003956564819949):nK x y z t A:=by
 have k:∀a:Int,a*z% 57896044618658097711785492504343953926634992332820282019728792003956564819949=a% 57896044618658097711785492504343953926634992332820282019728792003956564819949:=λa=>by rw[<-vD,h3,Rz]
 exact⟨by rw[h3];decide,by rw[k,<-h1,CE],by rw[k,<-h2,CE],by rw[k,h4]⟩
def EX (o:Option (Int×Int)) (x y z t k:Int):Prop:=match o with|none=>k=0|some A=>k=1/\x% 57896044618658097711785492504343953926634992332820282019728792003956564819949=A.1/\y% 57896044618658097711785492504343953926634992332820282019728792003956564819949=A.2/\z% 57896044618658097711785492504343953926634992332820282019728792003956564819949=1/\t% 57896044618658097711785492504343953926634992332820282019728792003956564819949=A.1*A.2% 57896044618658097711785492504343953926634992332820282019728792003956564819949
theorem ahb {b x y z t:List Int} {k:Int} (h:MW [b] [x,y,z,t,[k]]) (ab:¬k=1):dec (nb b)=none:=by
 have h:EX (dec (nb b)) (v5 x) (v5 y) (v5 z) (v5 t) k:=h
 cases hd:dec (nb b)with
 |none=>rfl
 |some A=>rw[hd]at h;exact absurd h.1 ab
theorem rd_some {b x y z t:List Int} {k:Int} (h:MW [b] [x,y,z,t,[k]]) (ab:k=1):∃A,dec (nb b)=some A/\nK (v5 x) (v5 y) (v5 z) (v5 t) A:=by
 have h:EX (dec (nb b)) (v5 x) (v5 y) (v5 z) (v5 t) k:=h
 cases hd:dec (nb b)with
 |none=>rw[hd]at h;have h:k=0:=h;omega
 |some A=>rw[hd]at h;exact⟨A,rfl,av8 h.2.1 h.2.2.1 h.2.2.2.1 h.2.2.2.2⟩
theorem agt {x gg y z:Int} {A:Int×Int} (h:gg% 57896044618658097711785492504343953926634992332820282019728792003956564819949=(0-x)% 57896044618658097711785492504343953926634992332820282019728792003956564819949) (q:sy x y z A):sy gg y z (rZ A):=by
 obtain⟨n,h1,h2⟩:=q
 refine⟨n,?_,h2⟩
 have e:(0-A.1)*z=0-A.1*z:=by rw[Int.sub_mul,Int.zero_mul]
 show gg% 57896044618658097711785492504343953926634992332820282019728792003956564819949=(0-A.1)% 57896044618658097711785492504343953926634992332820282019728792003956564819949*z% 57896044618658097711785492504343953926634992332820282019728792003956564819949
 rw[sM,e]
 exact h.trans (Ab rfl h1)
end Go.Fd
namespace Go.Fd
open Go.ch
theorem akc {r r':List Int} {e da:Int} {o:Option (Int×Int)} (h:tA r e o) (bd:tA r' da o) (i:af (au 0 255 32) r) (D2:af (au 0 255 32) r'):r=r'/\e=da:=by
 cases o with
 |none=>exact⟨xA i D2 (h.2.trans bd.2.symm),h.1.trans bd.1.symm⟩
 |some A=>exact⟨xA i D2 (h.2.trans bd.2.symm),h.1.trans bd.1.symm⟩
theorem acU {r:List Int} {A:Int×Int} (aU:on A) (h:nb r=enc A):dec (nb r)=some A:=by rw[h];exact alY aU
end Go.Fd
set_option maxRecDepth 100000
namespace Go.fZ
open Go Go.ch
def Z2 (S:Nat->List (List Int)->List (List Int)->Prop) (K:List (List Int)->List (List Int)->Prop):Prop:=
 ∀z0:Int,0<=z0->z0<=bU->∀aB:Int,0<=aB->aB<=bU->
 (ar 75 [z0,aB]->
 ∀z2:Int,0<=z2->
 ∀z3:Int,(-1)<=z3->z3<=9223372036854775807->
 ∀z4:Int,0<=z4->z4<=9223372036854775807->z4=bE 20 [z0]->
 ∀z5:Int,0<=z5->
 ∀a7:Int,(-1)<=a7->a7<=9223372036854775807->
 ∀aJ:Int,0<=aJ->aJ<=9223372036854775807->aJ=bE 20 [aB]->
 ar 22 [z0,0,z4]/\
 ∀aI:Int,0<=aI->aI<=bU->aI=bE 22 [z0,0,z4]->
 ar 22 [aB,0,aJ]/\
 ∀z9:Int,0<=z9->z9<=bU->z9=bE 22 [aB,0,aJ]->
 ar 75 [aI,z9]/\
 ∀ck:List Int,af (au 0 255 64) ck->S 473 [[aI],[z9]] [ck]->
 ∀rn:List Int,af (au 0 255 32) rn->S 152 [ck] [rn]->
 K [[z0],[aB]] [rn]
 )
def Z3 (S:Nat->List (List Int)->List (List Int)->Prop) (K:List (List Int)->List (List Int)->Prop):Prop:=
 ∀z0:Int,0<=z0->z0<=bU->∀aB:Int,0<=aB->aB<=bU->∀z2:Int,0<=z2->z2<=bU->
 (ar 75 [z0,aB,z2]->
 ∀z3:Int,0<=z3->
 ∀z4:Int,(-1)<=z4->z4<=9223372036854775807->
 ∀z5:Int,0<=z5->z5<=9223372036854775807->z5=bE 20 [z0]->
 ∀a7:Int,0<=a7->
 ∀aJ:Int,(-1)<=aJ->aJ<=9223372036854775807->
 ∀aI:Int,0<=aI->aI<=9223372036854775807->aI=bE 20 [aB]->
 ∀z9:Int,0<=z9->
 ∀aP:Int,(-1)<=aP->aP<=9223372036854775807->
 ∀aG:Int,0<=aG->aG<=9223372036854775807->aG=bE 20 [z2]->
 ar 22 [z0,0,z5]/\
 ∀z12:Int,0<=z12->z12<=bU->z12=bE 22 [z0,0,z5]->
 ar 22 [aB,0,aI]/\
 ∀ai:Int,0<=ai->ai<=bU->ai=bE 22 [aB,0,aI]->
 ar 22 [z2,0,aG]/\
 ∀aq:Int,0<=aq->aq<=bU->aq=bE 22 [z2,0,aG]->
 ar 75 [z12,ai,aq]/\
 ∀ed:List Int,af (au 0 255 64) ed->S 471 [[z12],[ai],[aq]] [ed]->
 ∀rp:List Int,af (au 0 255 32) rp->S 152 [ed] [rp]->
 K [[z0],[aB],[z2]] [rp]
 )
def ZU (S:Nat->List (List Int)->List (List Int)->Prop) (K:List (List Int)->List (List Int)->Prop):Prop:=
 ∀r0:List Int,af (au 0 255 32) r0->
 sF r0 0 32 0 λcq=>
 ar 71 [cq]/\
 ∀r9:List Int,af (au 0 255 64) r9->S 453 [[cq]] [r9]->
 ∀Jb:List Int,af (au 0 255 32) Jb->S 154 [(dq r9 0 32)] [Jb]->
 ∀Jc:List Int,af (au 0 255 32) Jc->S 114 [Jb] [Jc]->
 K [r0] [Jc]
def ZV (S:Nat->List (List Int)->List (List Int)->Prop) (K:List (List Int)->List (List Int)->Prop):Prop:=
 ∀r0:List Int,af (au 0 255 32) r0->∀aL:Int,0<=aL->aL<=bU->
 (ar 75 (dq r0 0 32++[aL])->
 ∀a8:Int,0<=a8->
 ∀bn:Int,(-1)<=bn->bn<=9223372036854775807->
 ∀bg:Int,0<=bg->bg<=9223372036854775807->bg=bE 20 [aL]->
 sF r0 0 32 0 λcX=>
 ar 71 [cX]/\
 ∀Cs:List Int,af (au 0 255 64) Cs->S 453 [[cX]] [Cs]->
 ∀mA:List Int,af (au 0 255 32) mA->S 154 [(dq Cs 0 32)] [mA]->
 sF Cs 32 32 0 λzu=>
 ar 22 [aL,0,bg]/\
 ∀z196:Int,0<=z196->z196<=bU->z196=bE 22 [aL,0,bg]->
 ar 75 [zu,z196]/\
 ∀n1:List Int,af (au 0 255 32) n1->S 674 [[zu],[z196]] [n1]->
 ∀r7:List Int,af (au 0 255 32) r7->S 114 [n1] [r7]->
 ∀AR:List Int,af (au 0 255 32) AR->S 114 [mA] [AR]->
 ((
  ((
   sF r7 0 32 0 λA6=>
   sF AR 0 32 0 λA7=>
   ar 22 [aL,0,bg]/\
   ∀rv:Int,0<=rv->rv<=bU->rv=bE 22 [aL,0,bg]->
   ar 75 [A6,A7,rv]/\
   ∀pY:List Int,af (au 0 255 32) pY->S 675 [[A6],[A7],[rv]] [pY]->
   ((
    ∀nn:List Int,af (au 0 255 32) nn->S 153 [pY,mA,n1] [nn]->
    K [r0,[aL]] [(dq r7 0 32++dq nn 0 32)]
   )/\(
    ∀nn:List Int,af (au 0 255 32) nn->S 153 [pY,mA,n1] [nn]->
    K [r0,[aL]] [(dq r7 0 32++dq nn 0 32)]
   ))
  )/\(
   sF r7 0 32 0 λA6=>
   sF AR 0 32 0 λA7=>
   ar 22 [aL,0,bg]/\
   ∀rv:Int,0<=rv->rv<=bU->rv=bE 22 [aL,0,bg]->
   ar 75 [A6,A7,rv]/\
   ∀pY:List Int,af (au 0 255 32) pY->S 675 [[A6],[A7],[rv]] [pY]->
   ∀nn:List Int,af (au 0 255 32) nn->S 153 [pY,mA,n1] [nn]->
   K [r0,[aL]] [(dq r7 0 32++dq nn 0 32)]
  ))
 )/\(
  sF r7 0 32 0 λA6=>
  sF AR 0 32 0 λA7=>
  ar 22 [aL,0,bg]/\
  ∀rv:Int,0<=rv->rv<=bU->rv=bE 22 [aL,0,bg]->
  ar 75 [A6,A7,rv]/\
  ∀pY:List Int,af (au 0 255 32) pY->S 675 [[A6],[A7],[rv]] [pY]->
  ∀nn:List Int,af (au 0 255 32) nn->S 153 [pY,mA,n1] [nn]->
  K [r0,[aL]] [(dq r7 0 32++dq nn 0 32)]
 ))
 )
def ZW (S:Nat->List (List Int)->List (List Int)->Prop) (K:List (List Int)->List (List Int)->Prop):Prop:=
 ∀r0:List Int,af (au 0 255 32) r0->∀aL:Int,0<=aL->aL<=bU->∀gy:List Int,af (au 0 255 64) gy->
 (ar 75 (dq r0 0 32++[aL]++dq gy 0 64)->
 ∀p7:Int,0<=p7->
 ∀pC:Int,(-1)<=pC->pC<=9223372036854775807->
 ∀kC:Int,0<=kC->kC<=9223372036854775807->kC=bE 20 [aL]->
 ∀nH:Int,0<=nH->nH<=1->S 151 [(dq gy 32 32)] [[nH]]->
 ((((!(decide (nH=1))))=true->
  K [r0,[aL],gy] [[(cond (false) 1 0)]]
 )/\(((!(decide (nH=1))))=false->
  ∀pX:List Int,af (au 0 255 32) pX->∀oX:Int,0<=oX->oX<=1->S 112 [r0] [pX,[oX]]->
  ((((!(decide (oX=0))))=true->
   K [r0,[aL],gy] [[(cond (false) 1 0)]]
  )/\(((!(decide (oX=0))))=false->
   ((
    ((
     sF gy 0 32 0 λuS=>
     sF r0 0 32 0 λA5=>
     ar 22 [aL,0,kC]/\
     ∀z198:Int,0<=z198->z198<=bU->z198=bE 22 [aL,0,kC]->
     ar 75 [uS,A5,z198]/\
     ∀pq:List Int,af (au 0 255 32) pq->S 675 [[uS],[A5],[z198]] [pq]->
     ((
      ∀oT:List Int,af (au 0 255 32) oT->∀j3:Int,0<=j3->j3<=1->S 115 [pq,pX,(dq gy 32 32)] [oT,[j3]]->
      (((decide (j3=0))=true->
       K [r0,[aL],gy] [[(cond (decide (oT=(dq gy 0 32))) 1 0)]]
      )/\((decide (j3=0))=false->
       K [r0,[aL],gy] [[(cond (false) 1 0)]]
      ))
     )/\(
      ∀oT:List Int,af (au 0 255 32) oT->∀j3:Int,0<=j3->j3<=1->S 115 [pq,pX,(dq gy 32 32)] [oT,[j3]]->
      (((decide (j3=0))=true->
       K [r0,[aL],gy] [[(cond (decide (oT=(dq gy 0 32))) 1 0)]]
      )/\((decide (j3=0))=false->
       K [r0,[aL],gy] [[(cond (false) 1 0)]]
      ))
     ))
    )/\(
     sF gy 0 32 0 λuS=>
     sF r0 0 32 0 λA5=>
     ar 22 [aL,0,kC]/\
     ∀z198:Int,0<=z198->z198<=bU->z198=bE 22 [aL,0,kC]->
     ar 75 [uS,A5,z198]/\
     ∀pq:List Int,af (au 0 255 32) pq->S 675 [[uS],[A5],[z198]] [pq]->
     ∀oT:List Int,af (au 0 255 32) oT->∀j3:Int,0<=j3->j3<=1->S 115 [pq,pX,(dq gy 32 32)] [oT,[j3]]->
     (((decide (j3=0))=true->
      K [r0,[aL],gy] [[(cond (decide (oT=(dq gy 0 32))) 1 0)]]
     )/\((decide (j3=0))=false->
      K [r0,[aL],gy] [[(cond (false) 1 0)]]
     ))
    ))
   )/\(
    sF gy 0 32 0 λuS=>
    sF r0 0 32 0 λA5=>
    ar 22 [aL,0,kC]/\
    ∀z198:Int,0<=z198->z198<=bU->z198=bE 22 [aL,0,kC]->
    ar 75 [uS,A5,z198]/\
    ∀pq:List Int,af (au 0 255 32) pq->S 675 [[uS],[A5],[z198]] [pq]->
    ∀oT:List Int,af (au 0 255 32) oT->∀j3:Int,0<=j3->j3<=1->S 115 [pq,pX,(dq gy 32 32)] [oT,[j3]]->
    (((decide (j3=0))=true->
     K [r0,[aL],gy] [[(cond (decide (oT=(dq gy 0 32))) 1 0)]]
    )/\((decide (j3=0))=false->
     K [r0,[aL],gy] [[(cond (false) 1 0)]]
    ))
   ))
  ))
 ))
 )
theorem IJ:∀{n:Nat} {l:List Int},af (au 0 255 n) l->∀x∈l,0<=x/\x<=255
 |0,[],_,x,hx=>by cases hx
 |0,_::_,h,_,_=>by simp[au,af]at h
 |n+1,[],h,_,_=>by simp[au,af]at h
 |n+1,y::r,h,x,hx=>by
  have h:0<=y/\y<=255/\af (au 0 255 n) r:=by simpa [au,af]using h
  rcases List.mem_cons.1 hx with rfl|hx
  ·exact⟨h.1,h.2.1⟩
  ·exact IJ h.2.2 x hx
theorem WO {r:List Int} (h:af (au 0 255 32) r):af (au 0 255 32++[]) [r].flatten:=by simpa using h
theorem ars {r:List Int} (h:af (au 0 255 64) r):af (au 0 255 64++[]) [r].flatten:=by simpa using h
theorem pu {c y x:Int} (h:y=bE 23 [c,x]):ak y=ak c++[[x]]:=by rw[h];simp only[bE,kh]
theorem Dl {r:List Int} {k:Int->Prop}:∀(n o:Nat) (c:Int),o+n<=r.length->(∀z,ak z=ak c++((r.drop o).take n).map (λx=>[x])->k z)->sF r o n c k
 |0,o,c,_,h=>h c (by simp)
 |n+1,o,c,hl,h=>λz _ _ hz=>Dl n (o+1) z (by omega) λy hy=>h y (by
  have ax:o<r.length:=by omega
  rw[hy,pu hz,nI,aB3 ax,o4]
  simp[U,ax])
theorem ace {r:List Int} {z:Int} (h:ak z=r.map λx=>[x]):bJ z=r:=by unfold bJ;rw[h,p8];exact Ng r
theorem I5 {r:List Int} {z:Int} {o:Nat} (hl:r.length=o+32) (h:ak z=ak 0++((r.drop o).take 32).map λx=>[x]):bJ z=r.drop o/\(ak z).length=32:=by
 have e:(r.drop o).take 32=r.drop o:=uU (by rw[rA];omega)
 rw[e,oW,gp]at h
 exact⟨ace h,by rw[h,qM,rA];omega⟩
theorem ave {r:List Int} {z:Int} (hl:32<=r.length) (h:ak z=ak 0++((r.drop 0).take 32).map λx=>[x]):bJ z=r.take 32/\(ak z).length=32:=by
 rw[qe,oW,gp]at h
 exact⟨ace h,by rw[h,qM,su];omega⟩
theorem FF {r:List Int} (hl:32<=r.length):dq r 0 32=r.take 32:=by
 unfold dq
 apply Nn
 ·simp;omega
 ·intro i h1 h2
  simp at h1
  simp[U,show i<r.length by omega]
theorem anB {r:List Int} (hl:r.length=64):dq r 0 64=r:=by
 unfold dq
 apply Nn
 ·simp;omega
 ·intro i h1 h2
  simp at h1
  simp[U,show i<r.length by omega]
theorem adN {r:List Int} (hl:r.length=64):dq r 32 32=r.drop 32:=by
 unfold dq
 apply Nn
 ·simp;omega
 ·intro i h1 h2
  simp at h1
  simp[U,show 32+i<r.length by omega]
theorem N2 {l:List Int} {n:Nat} (h:af (au 0 255 n) l):∀z∈l,(ak z).length<=100000000:=λz hz=>by
 have G2:∀n:Nat,n<256->(ak (n:Int)).length<=100:=by decide+kernel
 have hb:=IJ h z hz
 obtain⟨k,rfl⟩:∃k:Nat,z=(k:Int):=⟨z.toNat,by omega⟩
 have:=G2 k (by omega)
 omega
theorem avc {l g:List Int} {z:Int} (h:∀x∈l++[z]++g,(ak x).length<=100000000):(ak z).length<=100000000:=h z (by simp)
theorem dup {p:Prop} (h:p):p/\p:=⟨h,h⟩
theorem P9 {g:List Int} (h:af (au 0 255 64) g):af (au 0 255 32) (g.take 32)/\af (au 0 255 32) (g.drop 32):=by
 have bd:af (au 0 255 32++au 0 255 32) g:=h
 exact Ax bd
theorem aqX {a b:List Int} (ha:af (au 0 255 32) a) (hb:af (au 0 255 32) b):af (au 0 255 64) (a++b):=by
 have:=Aw 64 (a++b) (by rw[fQ,e7 ha,e7 hb];rfl) λx hx=>?_
 ·exact this
 ·rcases List.mem_append.1 hx with h|h
  ·exact IJ ha x h
  ·exact IJ hb x h
theorem aup:Z2 SB (j4 SB [.d dD] 674):=by
 intro z0 _ _ aB _ _ hp z2 _ z3 _ _ z4 B8 _ h4 z5 _ a7 _ _ aJ Gs _ h7
 have hp:∀z∈([z0,aB]:List Int),(ak z).length<=100000000:=hp
 have h4:z4=((ak z0).length:Int):=h4
 have h7:aJ=((ak aB).length:Int):=h7
 refine⟨⟨cW _,B8,by rw[h4];exact cW _⟩,λaI _ _ e6=>?_⟩
 have e6:=kt e6 h4
 refine⟨⟨cW _,Gs,by rw[h7];exact cW _⟩,λz9 _ _ dZ=>?_⟩
 have dZ:=kt dZ h7
 refine⟨λz hz=>?_,λck i10 s1 rn i74 s2=>⟨WO i74,?_⟩⟩
 ·simp only[pD,yp,or_false]at hz
  rcases hz with rfl|rfl
  ·rw[e6];exact hp z0 (by simp)
  ·rw[dZ];exact hp aB (by simp)
 have s1:[ck]=[sc cL (bJ aI++(bJ z9))]:=s1
 have s1:ck=sc cL (bJ aI++(bJ z9)):=by simpa using s1
 have s2:c4 rn=c4 ck% (Go.Fd.kO:Int):=s2
 show c4 rn=uC (bJ z0++(bJ aB))
 rw[s2,s1,s0 e6,s0 dZ];rfl
theorem auq:Z3 SB (j4 SB [.d dD] 675):=by
 intro z0 _ _ aB _ _ z2 _ _ hp z3 _ z4 _ _ z5 xx _ h5 a7 _ aJ _ _ aI jP _ e6 z9 _ aP _ _ aG jO _ qZ
 have hp:∀z∈([z0,aB,z2]:List Int),(ak z).length<=100000000:=hp
 have h5:z5=((ak z0).length:Int):=h5
 have e6:aI=((ak aB).length:Int):=e6
 have qZ:aG=((ak z2).length:Int):=qZ
 refine⟨⟨cW _,xx,by rw[h5];exact cW _⟩,λz12 _ _ iQ=>?_⟩
 have iQ:=kt iQ h5
 refine⟨⟨cW _,jP,by rw[e6];exact cW _⟩,λai _ _ kJ=>?_⟩
 have kJ:=kt kJ e6
 refine⟨⟨cW _,jO,by rw[qZ];exact cW _⟩,λaq _ _ j9=>?_⟩
 have j9:=kt j9 qZ
 refine⟨λz hz=>?_,λed i15 s1 rp i79 s2=>⟨WO i79,?_⟩⟩
 ·simp only[pD,yp,or_false]at hz
  rcases hz with rfl|rfl|rfl
  ·rw[iQ];exact hp z0 (by simp)
  ·rw[kJ];exact hp aB (by simp)
  ·rw[j9];exact hp z2 (by simp)
 have s1:[ed]=[sc cL (bJ z12++(bJ ai++(bJ aq)))]:=s1
 have s1:ed=sc cL (bJ z12++(bJ ai++(bJ aq))):=by simpa using s1
 have s2:c4 rp=c4 ed% (Go.Fd.kO:Int):=s2
 show c4 rp=uC (bJ z0++(bJ aB++(bJ z2)))
 rw[s2,s1,s0 iQ,s0 kJ,s0 j9];rfl
theorem at4:ZU SB (j4 SB [.d dD] 680):=by
 intro r0 i0
 have tk:r0.length=32:=e7 i0
 refine Dl 32 0 0 (by omega) λcq anT=>?_
 obtain⟨bm,cb⟩:=I5 (o:=0) tk anT
 refine⟨by show(ak cq).length<=1000000000;omega,λr9 i64 s1 Jb i128 s2 Jc aqx bS=>⟨WO aqx,?_⟩⟩
 have me:r9.length=64:=e7 i64
 have s1:[r9]=[sc cL (bJ cq)]:=s1
 have s1:r9=qQ r0:=by rw[bm,qe]at s1;simpa [qQ]using s1
 have s2:Jb=Ku (dq r9 0 32):=s2
 rw[FF (by omega),s1]at s2
 have bS:c4 Jc=Go.Fd.enc (Go.Fd.eO (c4 Jb).toNat Go.Fd.kG):=bS
 show c4 Jc=Gr r0
 rw[bS,s2];rfl
theorem at5:ZV SB (j4 SB [.d fp] 681):=by
 intro r0 i0 aL _ _ hp a8 _ bn _ _ bg jD _ rM
 have hp:∀x∈dq r0 0 32++[aL],(ak x).length<=100000000:=hp
 have hz:=hp aL (by simp)
 have rM:bg=((ak aL).length:Int):=rM
 have tk:r0.length=32:=e7 i0
 refine Dl 32 0 0 (by omega) λcX anU=>?_
 obtain⟨bm,cb⟩:=I5 (o:=0) tk anU
 refine⟨by show(ak cX).length<=1000000000;omega,λCs i68 s1 mA i132 s2=>?_⟩
 have lv:Cs.length=64:=e7 i68
 have s1:[Cs]=[sc cL (bJ cX)]:=s1
 have s1:Cs=qQ r0:=by rw[bm,qe]at s1;simpa [qQ]using s1
 have s2:mA=Ku (dq Cs 0 32):=s2
 rw[FF (by omega),s1]at s2
 have s2:mA=GY r0:=s2
 refine Dl 32 32 0 (by omega) λzu anN=>?_
 obtain⟨cJ,et⟩:=I5 (o:=32) lv anN
 refine⟨⟨cW _,jD,by rw[rM];exact cW _⟩,λz196 _ _ Pt=>?_⟩
 have Pt:=kt Pt rM
 refine⟨λz jZ=>?_,λn1 P6 bS r7 afm dg AR afn gz=>?_⟩
 ·simp only[pD,yp,or_false]at jZ
  rcases jZ with rfl|rfl
  ·omega
  ·rw[Pt];exact hz
 have bS:c4 n1=uC (bJ zu++(bJ z196)):=bS
 rw[cJ,s0 Pt,s1]at bS
 have bS:c4 n1=MJ r0 (bJ aL):=bS
 have dg:c4 r7=Go.Fd.enc (Go.Fd.eO (c4 n1).toNat Go.Fd.kG):=dg
 have gz:c4 AR=Go.Fd.enc (Go.Fd.eO (c4 mA).toNat Go.Fd.kG):=gz
 rw[bS]at dg
 rw[s2]at gz
 have WT:r7.length=32:=e7 afm
 have ary:AR.length=32:=e7 afn
 have fin:∀pY:List Int,c4 pY=uC (r7++(AR++bJ aL))->∀nn:List Int,af (au 0 255 32) nn->SB 153 [pY,mA,n1] [nn]->j4 SB [.d fp] 681 [r0,[aL]] [dq r7 0 32++dq nn 0 32]:=λpY hM nn afo ju=>by
  have aF4:nn.length=32:=e7 afo
  rw[FF (by omega),FF (by omega),uU (by omega),uU (by omega)]
  have ju:c4 nn=(c4 pY*c4 mA+c4 n1)% (Go.Fd.kO:Int):=ju
  refine⟨ars (aqX afm afo),?_⟩
  show GZ r0 (bJ aL) (r7++nn)
  have aw:(r7++nn).take 32=r7:=Zi WT
  have aD:(r7++nn).drop 32=nn:=List.drop_left' WT
  unfold GZ
  rw[aw,aD]
  refine⟨dg,AR,afn,gz,?_⟩
  rw[ju,hM,s2,bS]
 refine⟨⟨?_,?_⟩,?_⟩
 all_goals
  refine Dl 32 0 0 (by omega) λA6 anP=>Dl 32 0 0 (by omega) λA7 anQ=>?_
  obtain⟨kg,oS⟩:=I5 (o:=0) WT anP
  obtain⟨qz,po⟩:=I5 (o:=0) ary anQ
  rw[qe]at kg qz
  refine⟨⟨cW _,jD,by rw[rM];exact cW _⟩,λrv _ _ Pv=>?_⟩
  have Pv:=kt Pv rM
  refine⟨λz jZ=>?_,λpY aFL hM=>?_⟩
  ·simp only[pD,yp,or_false]at jZ
   rcases jZ with rfl|rfl|rfl
   ·omega
   ·omega
   ·rw[Pv];exact hz
  have hM:c4 pY=uC (bJ A6++(bJ A7++bJ rv)):=hM
  rw[kg,qz,s0 Pv]at hM
  first
   |exact dup (fin pY hM)
   |exact fin pY hM
theorem at6:ZW SB (j4 SB [.d .bool] 682):=by
 intro r0 i0 aL _ _ gy i33 hp p7 _ pC _ _ kC arA _ Px nH _ _ s1
 have hp:∀x∈dq r0 0 32++[aL]++dq gy 0 64,(ak x).length<=100000000:=hp
 have hz:=avc hp
 have Px:kC=((ak aL).length:Int):=Px
 have tk:r0.length=32:=e7 i0
 have ke:gy.length=64:=e7 i33
 have s1:nH=if c4 (dq gy 32 32)<(Go.Fd.kO:Int)then 1 else 0:=s1
 rw[adN ke]at s1
 have afH:∀b:Bool,(b=true↔F8 r0 (bJ aL) gy)->j4 SB [.d .bool] 682 [r0,[aL],gy] [[cond b 1 0]]:=λb hb=>by
  refine⟨by cases b<;>exact⟨by decide,by decide,trivial⟩,?_⟩
  show cond b (1:Int) 0=1↔F8 r0 (bJ aL) gy
  rw[<-hb];cases b<;>simp
 have no:¬F8 r0 (bJ aL) gy->j4 SB [.d .bool] 682 [r0,[aL],gy] [[cond false 1 0]]:=λh=>afH false ⟨λh=>(by cases h),λh2=>absurd h2 h⟩
 refine⟨λh=>no λae=>?_,λh=>?_⟩
 ·rw[if_pos ae.1]at s1
  rw[s1]at h;cases h
 have hlt:c4 (gy.drop 32)<(Go.Fd.kO:Int):=by
  by_cases hc:c4 (gy.drop 32)<(Go.Fd.kO:Int)
  ·exact hc
  ·rw[if_neg hc]at s1
   rw[s1]at h;cases h
 intro pX i101 oX _ _ s2
 have s2:Go.Fd.tA pX oX ((Go.Fd.dec (c4 r0)).map Go.Fd.rZ):=s2
 refine⟨λh=>no λae=>?_,λh=>?_⟩
 ·obtain⟨_,A,aU,_⟩:=ae
  rw[aU]at s2
  have:oX=0:=s2.1
  rw[this]at h;cases h
 cases hd:Go.Fd.dec (c4 r0)with
 |none=>
  rw[hd]at s2
  have:oX=1:=s2.1
  rw[this]at h;cases h
 |some A=>
 rw[hd]at s2
 have s2:oX=0/\c4 pX=Go.Fd.enc (Go.Fd.rZ A):=s2
 have aU:Go.Fd.on A:=Go.Fd.Kw hd
 have fin:∀pq:List Int,c4 pq=uC (gy.take 32++(r0++bJ aL))->∀oT:List Int,af (au 0 255 32) oT->∀j3:Int,0<=j3->j3<=1->SB 115 [pq,pX,dq gy 32 32] [oT,[j3]]->
  ((decide (j3=0))=true->j4 SB [.d .bool] 682 [r0,[aL],gy] [[cond (decide (oT=dq gy 0 32)) 1 0]])/\((decide (j3=0))=false->j4 SB [.d .bool] 682 [r0,[aL],gy] [[cond false 1 0]]):=λpq bS oT aqG j3 _ _ dg=>by
  rw[adN ke]at dg
  rw[FF (by omega)]
  have dg:Go.Fd.tA oT j3 ((Go.Fd.dec (c4 pX)).map λA=>Go.Fd.fc (Go.Fd.eO (c4 pq).toNat A) (Go.Fd.eO (c4 (gy.drop 32)).toNat Go.Fd.kG)):=dg
  have yP:Go.Fd.dec (c4 pX)=some (Go.Fd.rZ A):=Go.Fd.acU (Go.Fd.Ea aU) s2.2
  rw[yP]at dg
  have dg:j3=0/\c4 oT=Go.Fd.enc (Go.Fd.fc (Go.Fd.eO (c4 pq).toNat (Go.Fd.rZ A)) (Go.Fd.eO (c4 (gy.drop 32)).toNat Go.Fd.kG)):=dg
  refine⟨λ_=>afH _ ?_,λh=>absurd dg.1 (of_decide_eq_false h)⟩
  rw[decide_eq_true_eq]
  constructor
  ·intro e
   refine⟨hlt,A,hd,?_⟩
   rw[<-e,dg.2,bS]
   rw[e]
  ·rintro⟨_,B,ea,e⟩
   rw[hd]at ea
   have ea:A=B:=jd ea
   subst ea
   refine Go.Fd.xA aqG (P9 i33).1 ?_
   show c4 oT=c4 (gy.take 32)
   rw[dg.2,bS,e]
 refine⟨⟨?_,?_⟩,?_⟩
 all_goals
  refine Dl 32 0 0 (by omega) λuS anM=>Dl 32 0 0 (by omega) λA5 anO=>?_
  obtain⟨kg,oS⟩:=ave (by omega) anM
  obtain⟨qz,po⟩:=I5 (o:=0) tk anO
  rw[qe]at qz
  refine⟨⟨cW _,arA,by rw[Px];exact cW _⟩,λz198 _ _ Pu=>?_⟩
  have Pu:=kt Pu Px
  refine⟨λz jZ=>?_,λpq aFK bS=>?_⟩
  ·simp only[pD,yp,or_false]at jZ
   rcases jZ with rfl|rfl|rfl
   ·omega
   ·omega
   ·rw[Pu];exact hz
  have bS:c4 pq=uC (bJ uS++(bJ A5++bJ z198)):=bS
  rw[kg,qz,s0 Pu]at bS
  first
   |exact dup (fin pq bS)
   |exact fin pq bS
end Go.fZ
namespace Go.fZ
open Go Go.ch
def ZS (S:Nat->List (List Int)->List (List Int)->Prop) (K:List (List Int)->List (List Int)->Prop):Prop:=
 ((
  ∀r0:List Int,af (au 0 255 32) r0->S 680 [iH] [r0]->
  ((
   ar 75 (iH++[0])/\
   ∀a6:List Int,af (au 0 255 64) a6->S 681 [iH,[0]] [a6]->
   ((
    (((decide ((U r0 0 0)=215))=true->
     (((decide ((U r0 1 0)=90))=true->
      (((decide ((U r0 31 0)=26))=true->
       (((decide ((U a6 0 0)=229))=true->
        (((decide ((U a6 1 0)=86))=true->
         (((decide ((U a6 32 0)=95))=true->
          (((decide ((U a6 63 0)=11))=true->
           ar 75 (dq r0 0 32++[0]++dq a6 0 64)/\
           ∀cR:Int,0<=cR->cR<=1->S 682 [r0,[0],a6] [[cR]]->
           K [] [[(cond (decide (cR=1)) 1 0)]]
          )/\((decide ((U a6 63 0)=11))=false->
           K [] [[(cond (false) 1 0)]]
          ))
         )/\((decide ((U a6 32 0)=95))=false->
          K [] [[(cond (false) 1 0)]]
         ))
        )/\((decide ((U a6 1 0)=86))=false->
         K [] [[(cond (false) 1 0)]]
        ))
       )/\((decide ((U a6 0 0)=229))=false->
        K [] [[(cond (false) 1 0)]]
       ))
      )/\((decide ((U r0 31 0)=26))=false->
       K [] [[(cond (false) 1 0)]]
      ))
     )/\((decide ((U r0 1 0)=90))=false->
      K [] [[(cond (false) 1 0)]]
     ))
    )/\((decide ((U r0 0 0)=215))=false->
     K [] [[(cond (false) 1 0)]]
    ))
   )/\(
    (((decide ((U r0 0 0)=215))=true->
     (((decide ((U r0 1 0)=90))=true->
      (((decide ((U r0 31 0)=26))=true->
       (((decide ((U a6 0 0)=229))=true->
        (((decide ((U a6 1 0)=86))=true->
         (((decide ((U a6 32 0)=95))=true->
          (((decide ((U a6 63 0)=11))=true->
           ar 75 (dq r0 0 32++[0]++dq a6 0 64)/\
           ∀cR:Int,0<=cR->cR<=1->S 682 [r0,[0],a6] [[cR]]->
           K [] [[(cond (decide (cR=1)) 1 0)]]
          )/\((decide ((U a6 63 0)=11))=false->
           K [] [[(cond (false) 1 0)]]
          ))
         )/\((decide ((U a6 32 0)=95))=false->
          K [] [[(cond (false) 1 0)]]
         ))
        )/\((decide ((U a6 1 0)=86))=false->
         K [] [[(cond (false) 1 0)]]
        ))
       )/\((decide ((U a6 0 0)=229))=false->
        K [] [[(cond (false) 1 0)]]
       ))
      )/\((decide ((U r0 31 0)=26))=false->
       K [] [[(cond (false) 1 0)]]
      ))
     )/\((decide ((U r0 1 0)=90))=false->
      K [] [[(cond (false) 1 0)]]
     ))
    )/\((decide ((U r0 0 0)=215))=false->
     K [] [[(cond (false) 1 0)]]
    ))
   ))
  )/\(
   ((
    ((
     ar 75 (iH++[0])/\
     ∀a6:List Int,af (au 0 255 64) a6->S 681 [iH,[0]] [a6]->
     (((decide ((U r0 0 0)=215))=true->
      (((decide ((U r0 1 0)=90))=true->
       (((decide ((U r0 31 0)=26))=true->
        (((decide ((U a6 0 0)=229))=true->
         (((decide ((U a6 1 0)=86))=true->
          (((decide ((U a6 32 0)=95))=true->
           (((decide ((U a6 63 0)=11))=true->
            ar 75 (dq r0 0 32++[0]++dq a6 0 64)/\
            ∀cR:Int,0<=cR->cR<=1->S 682 [r0,[0],a6] [[cR]]->
            K [] [[(cond (decide (cR=1)) 1 0)]]
           )/\((decide ((U a6 63 0)=11))=false->
            K [] [[(cond (false) 1 0)]]
           ))
          )/\((decide ((U a6 32 0)=95))=false->
           K [] [[(cond (false) 1 0)]]
          ))
         )/\((decide ((U a6 1 0)=86))=false->
          K [] [[(cond (false) 1 0)]]
         ))
        )/\((decide ((U a6 0 0)=229))=false->
         K [] [[(cond (false) 1 0)]]
        ))
       )/\((decide ((U r0 31 0)=26))=false->
        K [] [[(cond (false) 1 0)]]
       ))
      )/\((decide ((U r0 1 0)=90))=false->
       K [] [[(cond (false) 1 0)]]
      ))
     )/\((decide ((U r0 0 0)=215))=false->
      K [] [[(cond (false) 1 0)]]
     ))
    )/\(
     ar 75 (iH++[0])/\
     ∀a6:List Int,af (au 0 255 64) a6->S 681 [iH,[0]] [a6]->
     (((decide ((U r0 0 0)=215))=true->
      (((decide ((U r0 1 0)=90))=true->
       (((decide ((U r0 31 0)=26))=true->
        (((decide ((U a6 0 0)=229))=true->
         (((decide ((U a6 1 0)=86))=true->
          (((decide ((U a6 32 0)=95))=true->
           (((decide ((U a6 63 0)=11))=true->
            ar 75 (dq r0 0 32++[0]++dq a6 0 64)/\
            ∀cR:Int,0<=cR->cR<=1->S 682 [r0,[0],a6] [[cR]]->
            K [] [[(cond (decide (cR=1)) 1 0)]]
           )/\((decide ((U a6 63 0)=11))=false->
            K [] [[(cond (false) 1 0)]]
           ))
          )/\((decide ((U a6 32 0)=95))=false->
           K [] [[(cond (false) 1 0)]]
          ))
         )/\((decide ((U a6 1 0)=86))=false->
          K [] [[(cond (false) 1 0)]]
         ))
        )/\((decide ((U a6 0 0)=229))=false->
         K [] [[(cond (false) 1 0)]]
        ))
       )/\((decide ((U r0 31 0)=26))=false->
        K [] [[(cond (false) 1 0)]]
       ))
      )/\((decide ((U r0 1 0)=90))=false->
       K [] [[(cond (false) 1 0)]]
      ))
     )/\((decide ((U r0 0 0)=215))=false->
      K [] [[(cond (false) 1 0)]]
     ))
    ))
   )/\(
    ((
     ar 75 (iH++[0])/\
     ∀a6:List Int,af (au 0 255 64) a6->S 681 [iH,[0]] [a6]->
     (((decide ((U r0 0 0)=215))=true->
      (((decide ((U r0 1 0)=90))=true->
       (((decide ((U r0 31 0)=26))=true->
        (((decide ((U a6 0 0)=229))=true->
         (((decide ((U a6 1 0)=86))=true->
          (((decide ((U a6 32 0)=95))=true->
           (((decide ((U a6 63 0)=11))=true->
            ar 75 (dq r0 0 32++[0]++dq a6 0 64)/\
            ∀cR:Int,0<=cR->cR<=1->S 682 [r0,[0],a6] [[cR]]->
            K [] [[(cond (decide (cR=1)) 1 0)]]
           )/\((decide ((U a6 63 0)=11))=false->
            K [] [[(cond (false) 1 0)]]
           ))
          )/\((decide ((U a6 32 0)=95))=false->
           K [] [[(cond (false) 1 0)]]
          ))
         )/\((decide ((U a6 1 0)=86))=false->
          K [] [[(cond (false) 1 0)]]
         ))
        )/\((decide ((U a6 0 0)=229))=false->
         K [] [[(cond (false) 1 0)]]
        ))
       )/\((decide ((U r0 31 0)=26))=false->
        K [] [[(cond (false) 1 0)]]
       ))
      )/\((decide ((U r0 1 0)=90))=false->
       K [] [[(cond (false) 1 0)]]
      ))
     )/\((decide ((U r0 0 0)=215))=false->
      K [] [[(cond (false) 1 0)]]
     ))
    )/\(
     ar 75 (iH++[0])/\
     ∀a6:List Int,af (au 0 255 64) a6->S 681 [iH,[0]] [a6]->
     (((decide ((U r0 0 0)=215))=true->
      (((decide ((U r0 1 0)=90))=true->
       (((decide ((U r0 31 0)=26))=true->
        (((decide ((U a6 0 0)=229))=true->
         (((decide ((U a6 1 0)=86))=true->
          (((decide ((U a6 32 0)=95))=true->
           (((decide ((U a6 63 0)=11))=true->
            ar 75 (dq r0 0 32++[0]++dq a6 0 64)/\
            ∀cR:Int,0<=cR->cR<=1->S 682 [r0,[0],a6] [[cR]]->
            K [] [[(cond (decide (cR=1)) 1 0)]]
           )/\((decide ((U a6 63 0)=11))=false->
            K [] [[(cond (false) 1 0)]]
           ))
          )/\((decide ((U a6 32 0)=95))=false->
           K [] [[(cond (false) 1 0)]]
          ))
         )/\((decide ((U a6 1 0)=86))=false->
          K [] [[(cond (false) 1 0)]]
         ))
        )/\((decide ((U a6 0 0)=229))=false->
         K [] [[(cond (false) 1 0)]]
        ))
       )/\((decide ((U r0 31 0)=26))=false->
        K [] [[(cond (false) 1 0)]]
       ))
      )/\((decide ((U r0 1 0)=90))=false->
       K [] [[(cond (false) 1 0)]]
      ))
     )/\((decide ((U r0 0 0)=215))=false->
      K [] [[(cond (false) 1 0)]]
     ))
    ))
   ))
  ))
 )/\(
  ((
   ((
    ∀r0:List Int,af (au 0 255 32) r0->S 680 [iH] [r0]->
    ((
     ar 75 (iH++[0])/\
     ∀a6:List Int,af (au 0 255 64) a6->S 681 [iH,[0]] [a6]->
     (((decide ((U r0 0 0)=215))=true->
      (((decide ((U r0 1 0)=90))=true->
       (((decide ((U r0 31 0)=26))=true->
        (((decide ((U a6 0 0)=229))=true->
         (((decide ((U a6 1 0)=86))=true->
          (((decide ((U a6 32 0)=95))=true->
           (((decide ((U a6 63 0)=11))=true->
            ar 75 (dq r0 0 32++[0]++dq a6 0 64)/\
            ∀cR:Int,0<=cR->cR<=1->S 682 [r0,[0],a6] [[cR]]->
            K [] [[(cond (decide (cR=1)) 1 0)]]
           )/\((decide ((U a6 63 0)=11))=false->
            K [] [[(cond (false) 1 0)]]
           ))
          )/\((decide ((U a6 32 0)=95))=false->
           K [] [[(cond (false) 1 0)]]
          ))
         )/\((decide ((U a6 1 0)=86))=false->
          K [] [[(cond (false) 1 0)]]
         ))
        )/\((decide ((U a6 0 0)=229))=false->
         K [] [[(cond (false) 1 0)]]
        ))
       )/\((decide ((U r0 31 0)=26))=false->
        K [] [[(cond (false) 1 0)]]
       ))
      )/\((decide ((U r0 1 0)=90))=false->
       K [] [[(cond (false) 1 0)]]
      ))
     )/\((decide ((U r0 0 0)=215))=false->
      K [] [[(cond (false) 1 0)]]
     ))
    )/\(
     ar 75 (iH++[0])/\
     ∀a6:List Int,af (au 0 255 64) a6->S 681 [iH,[0]] [a6]->
     (((decide ((U r0 0 0)=215))=true->
      (((decide ((U r0 1 0)=90))=true->
       (((decide ((U r0 31 0)=26))=true->
        (((decide ((U a6 0 0)=229))=true->
         (((decide ((U a6 1 0)=86))=true->
          (((decide ((U a6 32 0)=95))=true->
           (((decide ((U a6 63 0)=11))=true->
            ar 75 (dq r0 0 32++[0]++dq a6 0 64)/\
            ∀cR:Int,0<=cR->cR<=1->S 682 [r0,[0],a6] [[cR]]->
            K [] [[(cond (decide (cR=1)) 1 0)]]
           )/\((decide ((U a6 63 0)=11))=false->
            K [] [[(cond (false) 1 0)]]
           ))
          )/\((decide ((U a6 32 0)=95))=false->
           K [] [[(cond (false) 1 0)]]
          ))
         )/\((decide ((U a6 1 0)=86))=false->
          K [] [[(cond (false) 1 0)]]
         ))
        )/\((decide ((U a6 0 0)=229))=false->
         K [] [[(cond (false) 1 0)]]
        ))
       )/\((decide ((U r0 31 0)=26))=false->
        K [] [[(cond (false) 1 0)]]
       ))
      )/\((decide ((U r0 1 0)=90))=false->
       K [] [[(cond (false) 1 0)]]
      ))
     )/\((decide ((U r0 0 0)=215))=false->
      K [] [[(cond (false) 1 0)]]
     ))
    ))
   )/\(
    ∀r0:List Int,af (au 0 255 32) r0->S 680 [iH] [r0]->
    ar 75 (iH++[0])/\
    ∀a6:List Int,af (au 0 255 64) a6->S 681 [iH,[0]] [a6]->
    (((decide ((U r0 0 0)=215))=true->
     (((decide ((U r0 1 0)=90))=true->
      (((decide ((U r0 31 0)=26))=true->
       (((decide ((U a6 0 0)=229))=true->
        (((decide ((U a6 1 0)=86))=true->
         (((decide ((U a6 32 0)=95))=true->
          (((decide ((U a6 63 0)=11))=true->
           ar 75 (dq r0 0 32++[0]++dq a6 0 64)/\
           ∀cR:Int,0<=cR->cR<=1->S 682 [r0,[0],a6] [[cR]]->
           K [] [[(cond (decide (cR=1)) 1 0)]]
          )/\((decide ((U a6 63 0)=11))=false->
           K [] [[(cond (false) 1 0)]]
          ))
         )/\((decide ((U a6 32 0)=95))=false->
          K [] [[(cond (false) 1 0)]]
         ))
        )/\((decide ((U a6 1 0)=86))=false->
         K [] [[(cond (false) 1 0)]]
        ))
       )/\((decide ((U a6 0 0)=229))=false->
        K [] [[(cond (false) 1 0)]]
       ))
      )/\((decide ((U r0 31 0)=26))=false->
       K [] [[(cond (false) 1 0)]]
      ))
     )/\((decide ((U r0 1 0)=90))=false->
      K [] [[(cond (false) 1 0)]]
     ))
    )/\((decide ((U r0 0 0)=215))=false->
     K [] [[(cond (false) 1 0)]]
    ))
   ))
  )/\(
   ((
    ∀r0:List Int,af (au 0 255 32) r0->S 680 [iH] [r0]->
    ((
     ar 75 (iH++[0])/\
     ∀a6:List Int,af (au 0 255 64) a6->S 681 [iH,[0]] [a6]->
     (((decide ((U r0 0 0)=215))=true->
      (((decide ((U r0 1 0)=90))=true->
       (((decide ((U r0 31 0)=26))=true->
        (((decide ((U a6 0 0)=229))=true->
         (((decide ((U a6 1 0)=86))=true->
          (((decide ((U a6 32 0)=95))=true->
           (((decide ((U a6 63 0)=11))=true->
            ar 75 (dq r0 0 32++[0]++dq a6 0 64)/\
            ∀cR:Int,0<=cR->cR<=1->S 682 [r0,[0],a6] [[cR]]->
            K [] [[(cond (decide (cR=1)) 1 0)]]
           )/\((decide ((U a6 63 0)=11))=false->
            K [] [[(cond (false) 1 0)]]
           ))
          )/\((decide ((U a6 32 0)=95))=false->
           K [] [[(cond (false) 1 0)]]
          ))
         )/\((decide ((U a6 1 0)=86))=false->
          K [] [[(cond (false) 1 0)]]
         ))
        )/\((decide ((U a6 0 0)=229))=false->
         K [] [[(cond (false) 1 0)]]
        ))
       )/\((decide ((U r0 31 0)=26))=false->
        K [] [[(cond (false) 1 0)]]
       ))
      )/\((decide ((U r0 1 0)=90))=false->
       K [] [[(cond (false) 1 0)]]
      ))
     )/\((decide ((U r0 0 0)=215))=false->
      K [] [[(cond (false) 1 0)]]
     ))
    )/\(
     ar 75 (iH++[0])/\
     ∀a6:List Int,af (au 0 255 64) a6->S 681 [iH,[0]] [a6]->
     (((decide ((U r0 0 0)=215))=true->
      (((decide ((U r0 1 0)=90))=true->
       (((decide ((U r0 31 0)=26))=true->
        (((decide ((U a6 0 0)=229))=true->
         (((decide ((U a6 1 0)=86))=true->
          (((decide ((U a6 32 0)=95))=true->
           (((decide ((U a6 63 0)=11))=true->
            ar 75 (dq r0 0 32++[0]++dq a6 0 64)/\
            ∀cR:Int,0<=cR->cR<=1->S 682 [r0,[0],a6] [[cR]]->
            K [] [[(cond (decide (cR=1)) 1 0)]]
           )/\((decide ((U a6 63 0)=11))=false->
            K [] [[(cond (false) 1 0)]]
           ))
          )/\((decide ((U a6 32 0)=95))=false->
           K [] [[(cond (false) 1 0)]]
          ))
         )/\((decide ((U a6 1 0)=86))=false->
          K [] [[(cond (false) 1 0)]]
         ))
        )/\((decide ((U a6 0 0)=229))=false->
         K [] [[(cond (false) 1 0)]]
        ))
       )/\((decide ((U r0 31 0)=26))=false->
        K [] [[(cond (false) 1 0)]]
       ))
      )/\((decide ((U r0 1 0)=90))=false->
       K [] [[(cond (false) 1 0)]]
      ))
     )/\((decide ((U r0 0 0)=215))=false->
      K [] [[(cond (false) 1 0)]]
     ))
    ))
   )/\(
    ∀r0:List Int,af (au 0 255 32) r0->S 680 [iH] [r0]->
    ar 75 (iH++[0])/\
    ∀a6:List Int,af (au 0 255 64) a6->S 681 [iH,[0]] [a6]->
    (((decide ((U r0 0 0)=215))=true->
     (((decide ((U r0 1 0)=90))=true->
      (((decide ((U r0 31 0)=26))=true->
       (((decide ((U a6 0 0)=229))=true->
        (((decide ((U a6 1 0)=86))=true->
         (((decide ((U a6 32 0)=95))=true->
          (((decide ((U a6 63 0)=11))=true->
           ar 75 (dq r0 0 32++[0]++dq a6 0 64)/\
           ∀cR:Int,0<=cR->cR<=1->S 682 [r0,[0],a6] [[cR]]->
           K [] [[(cond (decide (cR=1)) 1 0)]]
          )/\((decide ((U a6 63 0)=11))=false->
           K [] [[(cond (false) 1 0)]]
          ))
         )/\((decide ((U a6 32 0)=95))=false->
          K [] [[(cond (false) 1 0)]]
         ))
        )/\((decide ((U a6 1 0)=86))=false->
         K [] [[(cond (false) 1 0)]]
        ))
       )/\((decide ((U a6 0 0)=229))=false->
        K [] [[(cond (false) 1 0)]]
       ))
      )/\((decide ((U r0 31 0)=26))=false->
       K [] [[(cond (false) 1 0)]]
      ))
     )/\((decide ((U r0 1 0)=90))=false->
      K [] [[(cond (false) 1 0)]]
     ))
    )/\((decide ((U r0 0 0)=215))=false->
     K [] [[(cond (false) 1 0)]]
    ))
   ))
  ))
 ))
def ZT (S:Nat->List (List Int)->List (List Int)->Prop) (K:List (List Int)->List (List Int)->Prop):Prop:=
 ∀r0:List Int,af (au 0 255 32) r0->∀aL:Int,0<=aL->aL<=bU->
 ∀a8:Int,0<=a8->
 ∀bn:Int,(-1)<=bn->bn<=9223372036854775807->
 ∀bg:Int,0<=bg->bg<=9223372036854775807->bg=bE 20 [aL]->
 ∀bB:Int,0<=bB->bB<=1->S 683 [] [[bB]]->
 ((((!(decide (bB=1))))=true->
  K [r0,[aL]] [[(cond (false) 1 0)]]
 )/\(((!(decide (bB=1))))=false->
  (((decide (5000<bg))=true->
   K [r0,[aL]] [[(cond (true) 1 0)]]
  )/\((decide (5000<bg))=false->
   ∀kr:List Int,af (au 0 255 32) kr->S 680 [r0] [kr]->
   ar 22 [aL,0,bg]/\
   ∀cI:Int,0<=cI->cI<=bU->cI=bE 22 [aL,0,bg]->
   ar 75 (dq r0 0 32++[cI])/\
   ∀jE:List Int,af (au 0 255 64) jE->S 681 [r0,[cI]] [jE]->
   ar 22 [aL,0,bg]/\
   ∀p6:Int,0<=p6->p6<=bU->p6=bE 22 [aL,0,bg]->
   ar 75 (dq kr 0 32++[p6]++dq jE 0 64)/\
   ∀ru:Int,0<=ru->ru<=1->S 682 [kr,[p6],jE] [[ru]]->
   K [r0,[aL]] [[(cond (decide (ru=1)) 1 0)]]
  ))
 ))
theorem aky (p:iJ) (b:List Int):∀x∈u7 p b,0<=x/\x<=255:=λx hx=>by
 unfold u7 Ee at hx
 obtain⟨y,_,hx⟩:=List.mem_flatMap.1 hx
 obtain⟨q,_,rfl⟩:=List.mem_map.1 hx
 unfold xc;omega
theorem aso {l:List Int} {n:Nat} (h:af (au 0 255 n) l):0<=c4 l:=num_nonneg (by decide) (cW _) h
theorem aw1 (b:List Int):af (au 0 255 64) (sc cL b):=Aw 64 _ (by unfold sc;rw[N1];rfl) (aky cL _)
theorem awV (s:List Int):af (au 0 255 32) (GY s):=by
 have h:=(P9 (aw1 s)).1
 have hl:=e7 h
 rw[GP]at hl
 refine Aw 32 _ ?_ λx hx=>?_
 ·show(((qQ s).take 32).getD 0 0/8*8::((((qQ s).take 32).drop 1).take 30++[((qQ s).take 32).getD 31 0% 64+64])).length=32
  have hl:((qQ s).take 32).length=32:=hl
  simp only[jS,fQ,su,rA,qL]at hl⊢
  omega
 ·have hx:x∈((qQ s).take 32).getD 0 0/8*8::((((qQ s).take 32).drop 1).take 30++[((qQ s).take 32).getD 31 0% 64+64]):=hx
  have g:∀j,j<32->0<=((qQ s).take 32).getD j 0/\((qQ s).take 32).getD j 0<=255:=λj aK=>by
   have aK:j<((qQ s).take 32).length:=by show j<((sc cL s).take 32).length;omega
   have e:((qQ s).take 32).getD j 0=((qQ s).take 32)[j]:=by rw[yr,qJ aK];rfl
   rw[e]
   exact IJ h _ (List.getElem_mem aK)
  rcases List.mem_cons.1 hx with rfl|hx
  ·have:=g 0 (by decide);omega
  ·rcases List.mem_append.1 hx with hx|hx
   ·exact IJ h x (List.mem_of_mem_drop (List.mem_of_mem_take hx))
   ·rw[List.mem_singleton.1 hx];omega
theorem akp {X Y:Int×Int} (b3:Go.Fd.on X) (hY:Go.Fd.on Y):Go.Fd.fc (Go.Fd.rZ X) (Go.Fd.fc X Y)=Y:=by
 rw[<-Go.Fd.aaX (Go.Fd.Ea b3) b3 hY,Go.Fd.aaY (Go.Fd.rZ X) X,Go.Fd.akq b3]
 exact Go.Fd.aiK hY
theorem sign_holds {s m g k:List Int} (ph:af (au 0 255 32) k) (ab:c4 k=Gr s) (h:GZ s m g):F8 k m g:=by
 obtain⟨h1,A,WE,aU,h2⟩:=h
 have e:A=k:=Go.Fd.xA WE ph (aU.trans ab.symm)
 subst e
 have dL:(0:Int)<(Go.Fd.kO:Int):=by decide
 refine⟨by rw[h2];exact zw _ dL,_,Go.Fd.acU (Go.Fd.kN Go.Fd.oJ _) ab,?_⟩
 have a1:0<=uC (g.take 32++(A++m)):=ud _ (by decide)
 have ff:0<=MJ s m:=ud _ (by decide)
 have uB:0<=c4 (GY s):=aso (awV s)
 obtain⟨ot,amx⟩:=sn a1
 obtain⟨r,qX⟩:=sn ff
 obtain⟨a,KO⟩:=sn uB
 rw[h1,h2,amx,qX,KO,sq,sq,sq]
 have cj:(((ot:Int)*(a:Int)+(r:Int))% (Go.Fd.kO:Int)).toNat=(a*ot+r)% Go.Fd.kO:=by
  have:((ot:Int)*(a:Int)+(r:Int))% (Go.Fd.kO:Int)=(((a*ot+r)% Go.Fd.kO:Nat):Int):=by
   rw[RA,Int.natCast_add,Int.natCast_mul,kR]
  rw[this,sq]
 rw[cj,Go.Fd.akR,Go.Fd.agf (Go.Fd.kN Go.Fd.oJ _),Go.Fd.Xi Go.Fd.oJ,Go.Fd.L8 Go.Fd.oJ]
 rw[akp (Go.Fd.kN Go.Fd.oJ _) (Go.Fd.kN Go.Fd.oJ _)]
def yx:List Int:=[215,90,152,1,130,177,10,183,213,75,254,211,201,100,7,58,14,225,114,243,218,166,35,37,175,2,26,104,247,7,81,26]
def J9:List Int:=[229,86,67,0,195,96,172,114,144,134,226,204,128,110,130,138,132,135,127,30,184,229,217,116,216,115,224,101,34,73,1,85]
def TF:List Int:=[95,184,130,21,144,163,59,172,198,30,57,112,28,249,180,107,210,91,245,240,89,91,190,36,101,81,65,67,142,122,16,11]
def E7:List Int:=[229,86,67,0,195,96,172,114,144,134,226,204,128,110,130,138,132,135,127,30,184,229,217,116,216,115,224,101,34,73,1,85,95,184,130,21,144,163,59,172,198,30,57,112,28,249,180,107,210,91,245,240,89,91,190,36,101,81,65,67,142,122,16,11]
theorem TG:c4 (GY iH)=36144925721603087658594284515452164870581325872720374094707712194495455132720:=by decide+kernel
theorem NW:MJ iH []=2015312323900227545039973048451112962192803170366412514267238242679089760755:=by decide+kernel
theorem aa3:uC (J9++(yx++[]))=1958233733501237659471134851339390337284068724042047466985993338226439154310:=by decide+kernel
theorem ahf {p:Int×Int×Int} {A B:Int×Int} (aU:Go.Fd.on A) (ea:Go.Fd.on B) (h:Go.Fd.Bj p A) (hx:p.1% 57896044618658097711785492504343953926634992332820282019728792003956564819949=B.1*p.2.2% 57896044618658097711785492504343953926634992332820282019728792003956564819949) (hy:p.2.1% 57896044618658097711785492504343953926634992332820282019728792003956564819949=B.2*p.2.2% 57896044618658097711785492504343953926634992332820282019728792003956564819949):A=B:=by
 obtain⟨n,h1,h2⟩:=h
 refine Go.Fd.QR aU ea ?_ ?_
 ·have:=Go.Fd.sE.1 (h1.symm.trans hx)
  rw[kR A.1,kR B.1]at this
  exact Go.Fd.sw.cancel (mt Go.Fd.sG.2 n) this
 ·have:=Go.Fd.sE.1 (h2.symm.trans hy)
  rw[kR A.2,kR B.2]at this
  exact Go.Fd.sw.cancel (mt Go.Fd.sG.2 n) this
def aa0:Int×Int:=(38815646466658113194383306759739515082307681141926459231621296960732224964046,11903303657706407974989296177215005343713679411332034699907763981919547054807)
def aa1:Int×Int:=(44370630452101398467924320556439323233869374150616132215183787387252341590058,38448863731492799660668882834560725606410712239157980760146247592118262650597)
theorem aku:Go.Fd.on aa0:=by unfold Go.Fd.on aa0;decide+kernel
theorem akv:Go.Fd.on aa1:=by unfold Go.Fd.on aa1;decide+kernel
theorem akw:Go.Fd.enc (Go.Fd.eO 36144925721603087658594284515452164870581325872720374094707712194495455132720 Go.Fd.kG)=c4 yx:=by
 rw[ahf (Go.Fd.kN Go.Fd.oJ _) aku (Go.Fd.Qt Go.Fd.oJ Go.Fd.Xy 256 36144925721603087658594284515452164870581325872720374094707712194495455132720 (by decide)) (by decide+kernel) (by decide+kernel)];decide+kernel
theorem aa2:Go.Fd.enc (Go.Fd.eO 2015312323900227545039973048451112962192803170366412514267238242679089760755 Go.Fd.kG)=c4 J9:=by
 rw[ahf (Go.Fd.kN Go.Fd.oJ _) akv (Go.Fd.Qt Go.Fd.oJ Go.Fd.Xy 256 2015312323900227545039973048451112962192803170366412514267238242679089760755 (by decide)) (by decide+kernel) (by decide+kernel)];decide+kernel
theorem E8:af (au 0 255 32) yx/\af (au 0 255 32) J9/\af (au 0 255 32) TF:=by
 refine⟨?_,?_,?_⟩<;>exact Aw 32 _ rfl (by decide)
theorem NV:Gr iH=c4 yx:=by
 show Go.Fd.enc (Go.Fd.eO (c4 (GY iH)).toNat Go.Fd.kG)=_
 rw[TG];exact akw
theorem yy {r g:List Int} (aq2:af (au 0 255 32) r) (aT:SB 680 [iH] [r]) (LU:af (au 0 255 64) g) (s1:SB 681 [iH,[0]] [g]):r=yx/\g=E7:=by
 have aT:c4 r=Gr iH:=aT
 have s1:GZ iH (bJ 0) g:=s1
 have hr:r=yx:=Go.Fd.xA aq2 E8.1 (aT.trans NV)
 refine⟨hr,?_⟩
 rw[show bJ 0=[] by unfold bJ;rw[oW];rfl]at s1
 obtain⟨h1,A,WE,aU,h2⟩:=s1
 have Pa:A=yx:=Go.Fd.xA WE E8.1 (aU.trans NV)
 subst Pa
 have ac7:g.take 32=J9:=Go.Fd.xA (P9 LU).1 E8.2.1 (h1.trans (by rw[NW];exact aa2))
 rw[ac7,aa3,TG,NW]at h2
 have aml:g.drop 32=TF:=Go.Fd.xA (P9 LU).2 E8.2.2 (h2.trans (by decide+kernel))
 rw[<-List.take_append_drop 32 g,ac7,aml];rfl
theorem akx:GZ iH [] E7:=by
 refine⟨?_,yx,E8.1,NV.symm,?_⟩
 ·rw[NW];exact aa2.symm
 ·rw[show E7.take 32=J9 by rfl,show E7.drop 32=TF by rfl,aa3,TG,NW];decide+kernel
theorem acP {k g:List Int} {z:Int} (ph:af (au 0 255 32) k) (LU:af (au 0 255 64) g) (hz:(ak z).length<=100000000):∀x∈dq k 0 32++[z]++dq g 0 64,(ak x).length<=100000000:=λx hx=>by
 rw[FF (by rw[e7 ph];decide),uU (by rw[e7 ph];decide),anB (e7 LU)]at hx
 rcases List.mem_append.1 hx with hx|hx
 ·rcases List.mem_append.1 hx with hx|hx
  ·exact N2 ph x hx
  ·rw[List.mem_singleton.1 hx];exact hz
 ·exact N2 LU x hx
theorem alJ {k:List Int} {z:Int} (ph:af (au 0 255 32) k) (hz:(ak z).length<=100000000):∀x∈dq k 0 32++[z],(ak x).length<=100000000:=λx hx=>by
 rw[FF (by rw[e7 ph];decide),uU (by rw[e7 ph];decide)]at hx
 rcases List.mem_append.1 hx with hx|hx
 ·exact N2 ph x hx
 ·rw[List.mem_singleton.1 hx];exact hz
theorem aiH:(ak 0).length<=100000000:=by rw[oW];decide
theorem yz:ar 75 (iH++[0]):=λx hx=>by
 rcases List.mem_append.1 hx with hx|hx
 ·exact N2 (Aw 32 iH rfl (by decide)) x hx
 ·rw[List.mem_singleton.1 hx];exact aiH
theorem wZ:ar 75 (dq yx 0 32++[0]++dq E7 0 64):=acP E8.1 (Aw 64 _ rfl (by decide)) aiH
theorem w1 {z:Int} (s:SB 682 [yx,[0],E7] [[z]]):j4 SB [.d .bool] 683 [] [[cond (decide (z=1)) 1 0]]:=by
 have s:z=1↔F8 yx (bJ 0) E7:=s
 have h:z=1:=s.2 (by
  rw[show bJ 0=[] by unfold bJ;rw[oW];rfl]
  exact sign_holds E8.1 NV.symm akx)
 rw[decide_eq_true h]
 exact⟨⟨by decide,by decide,trivial⟩,(rfl:(1:Int)=1)⟩
theorem at2:ZS SB (j4 SB [.d .bool] 683):=
 ⟨λr0 i0 aT=>⟨⟨yz,λa6 i32 p2=>(by obtain⟨rfl,rfl⟩:=yy i0 aT i32 p2;exact⟨⟨λ_=>⟨λ_=>⟨λ_=>⟨λ_=>⟨λ_=>⟨λ_=>⟨λ_=>⟨wZ,λz a b s=>w1 s⟩,λh=>absurd h (by decide+kernel)⟩,λh=>absurd h (by decide+kernel)⟩,λh=>absurd h (by decide+kernel)⟩,λh=>absurd h (by decide+kernel)⟩,λh=>absurd h (by decide+kernel)⟩,λh=>absurd h (by decide+kernel)⟩,λh=>absurd h (by decide+kernel)⟩,⟨λ_=>⟨λ_=>⟨λ_=>⟨λ_=>⟨λ_=>⟨λ_=>⟨λ_=>⟨wZ,λz a b s=>w1 s⟩,λh=>absurd h (by decide+kernel)⟩,λh=>absurd h (by decide+kernel)⟩,λh=>absurd h (by decide+kernel)⟩,λh=>absurd h (by decide+kernel)⟩,λh=>absurd h (by decide+kernel)⟩,λh=>absurd h (by decide+kernel)⟩,λh=>absurd h (by decide+kernel)⟩⟩)⟩,⟨⟨⟨yz,λa6 i32 p2=>(by obtain⟨rfl,rfl⟩:=yy i0 aT i32 p2;exact⟨λ_=>⟨λ_=>⟨λ_=>⟨λ_=>⟨λ_=>⟨λ_=>⟨λ_=>⟨wZ,λz a b s=>w1 s⟩,λh=>absurd h (by decide+kernel)⟩,λh=>absurd h (by decide+kernel)⟩,λh=>absurd h (by decide+kernel)⟩,λh=>absurd h (by decide+kernel)⟩,λh=>absurd h (by decide+kernel)⟩,λh=>absurd h (by decide+kernel)⟩,λh=>absurd h (by decide+kernel)⟩)⟩,⟨yz,λa6 i32 p2=>(by obtain⟨rfl,rfl⟩:=yy i0 aT i32 p2;exact⟨λ_=>⟨λ_=>⟨λ_=>⟨λ_=>⟨λ_=>⟨λ_=>⟨λ_=>⟨wZ,λz a b s=>w1 s⟩,λh=>absurd h (by decide+kernel)⟩,λh=>absurd h (by decide+kernel)⟩,λh=>absurd h (by decide+kernel)⟩,λh=>absurd h (by decide+kernel)⟩,λh=>absurd h (by decide+kernel)⟩,λh=>absurd h (by decide+kernel)⟩,λh=>absurd h (by decide+kernel)⟩)⟩⟩,⟨⟨yz,λa6 i32 p2=>(by obtain⟨rfl,rfl⟩:=yy i0 aT i32 p2;exact⟨λ_=>⟨λ_=>⟨λ_=>⟨λ_=>⟨λ_=>⟨λ_=>⟨λ_=>⟨wZ,λz a b s=>w1 s⟩,λh=>absurd h (by decide+kernel)⟩,λh=>absurd h (by decide+kernel)⟩,λh=>absurd h (by decide+kernel)⟩,λh=>absurd h (by decide+kernel)⟩,λh=>absurd h (by decide+kernel)⟩,λh=>absurd h (by decide+kernel)⟩,λh=>absurd h (by decide+kernel)⟩)⟩,⟨yz,λa6 i32 p2=>(by obtain⟨rfl,rfl⟩:=yy i0 aT i32 p2;exact⟨λ_=>⟨λ_=>⟨λ_=>⟨λ_=>⟨λ_=>⟨λ_=>⟨λ_=>⟨wZ,λz a b s=>w1 s⟩,λh=>absurd h (by decide+kernel)⟩,λh=>absurd h (by decide+kernel)⟩,λh=>absurd h (by decide+kernel)⟩,λh=>absurd h (by decide+kernel)⟩,λh=>absurd h (by decide+kernel)⟩,λh=>absurd h (by decide+kernel)⟩,λh=>absurd h (by decide+kernel)⟩)⟩⟩⟩⟩,⟨⟨λr0 i0 aT=>⟨⟨yz,λa6 i32 p2=>(by obtain⟨rfl,rfl⟩:=yy i0 aT i32 p2;exact⟨λ_=>⟨λ_=>⟨λ_=>⟨λ_=>⟨λ_=>⟨λ_=>⟨λ_=>⟨wZ,λz a b s=>w1 s⟩,λh=>absurd h (by decide+kernel)⟩,λh=>absurd h (by decide+kernel)⟩,λh=>absurd h (by decide+kernel)⟩,λh=>absurd h (by decide+kernel)⟩,λh=>absurd h (by decide+kernel)⟩,λh=>absurd h (by decide+kernel)⟩,λh=>absurd h (by decide+kernel)⟩)⟩,⟨yz,λa6 i32 p2=>(by obtain⟨rfl,rfl⟩:=yy i0 aT i32 p2;exact⟨λ_=>⟨λ_=>⟨λ_=>⟨λ_=>⟨λ_=>⟨λ_=>⟨λ_=>⟨wZ,λz a b s=>w1 s⟩,λh=>absurd h (by decide+kernel)⟩,λh=>absurd h (by decide+kernel)⟩,λh=>absurd h (by decide+kernel)⟩,λh=>absurd h (by decide+kernel)⟩,λh=>absurd h (by decide+kernel)⟩,λh=>absurd h (by decide+kernel)⟩,λh=>absurd h (by decide+kernel)⟩)⟩⟩,λr0 i0 aT=>⟨yz,λa6 i32 p2=>(by obtain⟨rfl,rfl⟩:=yy i0 aT i32 p2;exact⟨λ_=>⟨λ_=>⟨λ_=>⟨λ_=>⟨λ_=>⟨λ_=>⟨λ_=>⟨wZ,λz a b s=>w1 s⟩,λh=>absurd h (by decide+kernel)⟩,λh=>absurd h (by decide+kernel)⟩,λh=>absurd h (by decide+kernel)⟩,λh=>absurd h (by decide+kernel)⟩,λh=>absurd h (by decide+kernel)⟩,λh=>absurd h (by decide+kernel)⟩,λh=>absurd h (by decide+kernel)⟩)⟩⟩,⟨λr0 i0 aT=>⟨⟨yz,λa6 i32 p2=>(by obtain⟨rfl,rfl⟩:=yy i0 aT i32 p2;exact⟨λ_=>⟨λ_=>⟨λ_=>⟨λ_=>⟨λ_=>⟨λ_=>⟨λ_=>⟨wZ,λz a b s=>w1 s⟩,λh=>absurd h (by decide+kernel)⟩,λh=>absurd h (by decide+kernel)⟩,λh=>absurd h (by decide+kernel)⟩,λh=>absurd h (by decide+kernel)⟩,λh=>absurd h (by decide+kernel)⟩,λh=>absurd h (by decide+kernel)⟩,λh=>absurd h (by decide+kernel)⟩)⟩,⟨yz,λa6 i32 p2=>(by obtain⟨rfl,rfl⟩:=yy i0 aT i32 p2;exact⟨λ_=>⟨λ_=>⟨λ_=>⟨λ_=>⟨λ_=>⟨λ_=>⟨λ_=>⟨wZ,λz a b s=>w1 s⟩,λh=>absurd h (by decide+kernel)⟩,λh=>absurd h (by decide+kernel)⟩,λh=>absurd h (by decide+kernel)⟩,λh=>absurd h (by decide+kernel)⟩,λh=>absurd h (by decide+kernel)⟩,λh=>absurd h (by decide+kernel)⟩,λh=>absurd h (by decide+kernel)⟩)⟩⟩,λr0 i0 aT=>⟨yz,λa6 i32 p2=>(by obtain⟨rfl,rfl⟩:=yy i0 aT i32 p2;exact⟨λ_=>⟨λ_=>⟨λ_=>⟨λ_=>⟨λ_=>⟨λ_=>⟨λ_=>⟨wZ,λz a b s=>w1 s⟩,λh=>absurd h (by decide+kernel)⟩,λh=>absurd h (by decide+kernel)⟩,λh=>absurd h (by decide+kernel)⟩,λh=>absurd h (by decide+kernel)⟩,λh=>absurd h (by decide+kernel)⟩,λh=>absurd h (by decide+kernel)⟩,λh=>absurd h (by decide+kernel)⟩)⟩⟩⟩⟩
theorem at3:ZT SB (j4 SB [.d .bool] 684):=by
 intro r0 i0 aL _ _ a8 _ bn _ _ bg jD _ rM bB _ _ aT
 have rM:bg=((ak aL).length:Int):=rM
 have aT:bB=1:=aT
 have ot:∀b:Bool,b=true->j4 SB [.d .bool] 684 [r0,[aL]] [[cond b 1 0]]:=λb h=>by subst h;exact⟨⟨by decide,by decide,trivial⟩,(rfl:(1:Int)=1)⟩
 refine⟨λh=>(by rw[aT]at h;cases h),λ_=>⟨λ_=>ot true rfl,λh=>?_⟩⟩
 have h:=of_decide_eq_false h
 intro kr i37 s1
 have s1:c4 kr=Gr r0:=s1
 have hb:∀z:Int,ak z=ak aL->(ak z).length<=100000000:=λz e=>by rw[e];omega
 refine⟨⟨cW _,jD,by rw[rM];exact cW _⟩,λcI _ _ Pw=>?_⟩
 have Pw:=kt Pw rM
 refine⟨alJ i0 (hb cI Pw),λjE i70 s2=>⟨⟨cW _,jD,by rw[rM];exact cW _⟩,λp6 _ _ Ps=>?_⟩⟩
 have Ps:=kt Ps rM
 refine⟨acP i37 i70 (hb p6 Ps),λru _ _ bS=>ot _ (decide_eq_true ?_)⟩
 have s2:GZ r0 (bJ cI) jE:=s2
 have bS:ru=1↔F8 kr (bJ p6) jE:=bS
 rw[s0 Ps,<-s0 Pw]at bS
 exact bS.2 (sign_holds i37 s1 s2)
end Go.fZ
