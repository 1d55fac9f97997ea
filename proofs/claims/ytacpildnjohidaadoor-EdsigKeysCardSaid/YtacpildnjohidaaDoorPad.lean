/- The scalar seat: shapes,contracts,what each says. -/
import Derived.Test.YtacpildnjohidaaDoorPac
open Bool renaming not_eq_true'->cI,not_true->cU,not_eq_false'->dd,not_false->dh
open Function renaming comp->Pm
open Go.IntKind renaming max->o0
open Int renaming le_refl->di,mul_comm->lB,emod_eq_of_lt->mD,eq_ofNat_of_zero_le->oY,toNat_natCast->qm,le_of_lt->sd,mul_emod->sU,emod_nonneg->sV,emod_lt_of_pos->wg,add_zero->xU,one_mul->xV,add_mul_emod_self_left->xW,emod_emod->xX,mul_assoc->DY,dvd_of_emod_eq_zero->Iy,dvd_add->Ly,toNat_of_nonneg->Pf,mul_one->Un,natCast_emod->Uo,pow_add->Ur,ediv_eq_iff_of_pos->Uz,emod_add_mul_ediv->ad0,toNat_zero->ael,emod_eq_zero_of_dvd->aIU
open List renaming getD->U,replicate->fD,nil_append->gq,getD_cons_zero->gD,length_append->gY,range->ht,append_nil->hK,getD_cons_succ->hL,map_append->jE,length_cons->ke,map_congr_left->kU,append_assoc->mF,take_succ_cons->nL,flatten_cons->oh,mem_cons->oW,length_drop->oZ,map_map->pD,getElem?_eq_getElem->pF,length_map->pG,drop_zero->pJ,length_nil->qo,take_zero->qp,length_take->sf,flatten_nil->tH,drop_succ_cons->tK,take_of_length_le->uK,getD_eq_getElem?_getD->xP,not_mem_nil->y9,eq_nil_of_length_eq_zero->zb,getElem?_drop->Cj,map_id->Pl,ext_getElem->Ps,length_replicate->UO,take_left'->adZ,length_range->apB,drop_eq_getElem_cons->apD,replicate_succ'->aJX,length_singleton->aJY
open List.cons renaming injEq->qn
open Nat renaming pow_succ->za,mul_comm->zc,zero_add->zd,zero_le->LC,div_div_eq_div_mul->Ph,div_eq_of_lt->adY
open Option.some renaming inj->jC
open Prod renaming ext->Pg
set_option linter.unusedVariables false
namespace Go.nN
open Go.b9
def gl:fP:=Go.gg.h9
def gN:D:= .agg .u8 32 0 255
def ar6:D:= .agg .u8 64 0 255
def ch:D:= .agg .u64 4 0 18446744073709551615
def y1:D:= .agg .u64 8 0 18446744073709551615
def c1:D:= .int .u64 0 1
def lL:FuncId->Nat->Option hN:=λf r=>match f,r with
 |40,12=>some ⟨[2,3],[],[(2,0,0,18446744073709551615),(2,1,0,18446744073709551615),(2,2,0,18446744073709551615),(2,3,0,18446744073709551615)],[],[],[],[]⟩
 |_,_=>none
abbrev ad:List Int->Int:=num 18446744073709551616
abbrev nb:List Int->Int:=num 256
def uA (zs rs:List Int):Prop:=ad rs=nb zs
def yQ (zs rs:List Int):Prop:=ad rs=nb (zs.take 32)
def yR (zs rs:List Int):Prop:=ad rs=nb (zs.drop 32)
def r5 (zs rs:List Int):Prop:=ad (rs.take 4)=ad (zs.take 4)-ad (zs.drop 4)+115792089237316195423570985008687907853269984665640564039457584007913129639936*rs.getD 4 0
def r6 (zs rs:List Int):Prop:=ad (rs.take 4)=ad (zs.take 4)+ad (zs.drop 4)-115792089237316195423570985008687907853269984665640564039457584007913129639936*rs.getD 4 0
def uz (zs rs:List Int):Prop:=nb rs=ad zs
def yU (zs rs:List Int):Prop:=ad rs=ad (zs.take 4)*ad (zs.drop 4)
def vm (zs rs:List Int):Prop:=ad (rs.take 4)=ad zs% 7237005577332262213973186563042994240829374041602535252466099000494570602496/\ad (rs.drop 4)=27742317777372353535851937790883648493*(ad zs/7237005577332262213973186563042994240829374041602535252466099000494570602496)
def yP (zs rs:List Int):Prop:=ad rs=ad zs% 7237005577332262213973186563042994240857116359379907606001950938285454250989
def Ag (zs rs:List Int):Prop:=nb rs=nb zs
def uC (zs rs:List Int):Prop:=rs=[if nb zs<7237005577332262213973186563042994240857116359379907606001950938285454250989 then 1 else 0]
def yT (zs rs:List Int):Prop:=nb rs=(-nb zs)% 7237005577332262213973186563042994240857116359379907606001950938285454250989
def uB (zs rs:List Int):Prop:=nb rs=nb zs% 7237005577332262213973186563042994240857116359379907606001950938285454250989
def yS (zs rs:List Int):Prop:=nb rs=(nb (zs.take 32)*nb ((zs.drop 32).take 32)+nb (zs.drop 64))% 7237005577332262213973186563042994240857116359379907606001950938285454250989
def xz (zs rs:List Int):Prop:=rs=(zs.getD 0 0/8*8)::((zs.drop 1).take 30++[zs.getD 31 0% 64+64])
def Af (zs rs:List Int):Prop:=ad rs=7237005577332262213973186563042994240857116359379907606001950938285454250989
def xA (zs rs:List Int):Prop:=rs=[if ad (zs.take 4)<ad (zs.drop 4)then 1 else 0]
def xB (zs rs:List Int):Prop:=ad rs=if(ad (zs.take 4)+ad (zs.drop 4))% 115792089237316195423570985008687907853269984665640564039457584007913129639936<7237005577332262213973186563042994240857116359379907606001950938285454250989 then(ad (zs.take 4)+ad (zs.drop 4))% 115792089237316195423570985008687907853269984665640564039457584007913129639936 else(ad (zs.take 4)+ad (zs.drop 4))% 115792089237316195423570985008687907853269984665640564039457584007913129639936-7237005577332262213973186563042994240857116359379907606001950938285454250989
def yV (zs rs:List Int):Prop:=ad rs=nb zs% 7237005577332262213973186563042994240857116359379907606001950938285454250989
def xC (zs rs:List Int):Prop:=rs=[1]
def cJ:Nat->List Int->List Int->Prop
 |22=>uA
 |122=>yQ
 |222=>yR
 |29=>r5
 |24=>r6
 |26=>uz
 |21=>yU
 |35=>vm
 |23=>yP
 |25=>yP
 |12=>Ag
 |13=>uC
 |10=>yT
 |11=>uB
 |8=>yS
 |14=>xz
 |19=>uz
 |20=>Af
 |30=>xA
 |31=>uA
 |32=>r5
 |36=>r6
 |28=>xB
 |27=>yV
 |127=>yV
 |16=>uC
 |17=>yT
 |18=>xz
 |15=>uB
 |9=>yS
 |_=>xC
theorem Ij {x d q fA:Int} (hd:0<d) (h1:0<=x-d*q) (h2:x-d*q<d) (h3:0<=x-d*fA) (h4:x-d*fA<d):q=fA:=OJ h1 h2 h3 h4
theorem OI {x d q:Int} (hd:0<d) (h1:0<=x-d*q) (h2:x-d*q<d):x/d=q:=by
 have e:=ad0 x d;have az:=sV x (show d≠0 by omega);have aI:=wg x hd;exact OJ (x:=x) (d:=d) (by omega) (by omega) h1 h2
theorem nq {x d c q fA p:Int} (hd:0<d/\0<c) (b7:0<=x-d*q) (a2:x-d*q<d) (ca:0<=q-c*fA) (cc:q-c*fA<c) {e:Int} (c1:0<=x-e*p) (bQ:x-e*p<e) (he:e=d*c:=by decide):fA=p:=by
 subst he;rw[<-OI hd.2 ca cc,<-OI hd.1 b7 a2,Int.ediv_ediv_of_nonneg (sd hd.1)];exact OI (Int.mul_pos hd.1 hd.2) c1 bQ
theorem TA {x q fA:Int} (a:0<=16*x-18446744073709551616*q) (b:16*x-18446744073709551616*q<18446744073709551616) (c:0<=x-1152921504606846976*fA) (d:x-1152921504606846976*fA<1152921504606846976):q=fA:=by omega
theorem ab7 (a0 b7 a2 a3 fV ca cc dm:Int):(a0+18446744073709551616*(b7+18446744073709551616*(a2+18446744073709551616*(a3+18446744073709551616*0))))*(fV+18446744073709551616*(ca+18446744073709551616*(cc+18446744073709551616*(dm+18446744073709551616*0))))=1*(a0*fV)+18446744073709551616*(a0*ca)+340282366920938463463374607431768211456*(a0*cc)+6277101735386680763835789423207666416102355444464034512896*(a0*dm)+18446744073709551616*(b7*fV)+340282366920938463463374607431768211456*(b7*ca)+6277101735386680763835789423207666416102355444464034512896*(b7*cc)+115792089237316195423570985008687907853269984665640564039457584007913129639936*(b7*dm)+340282366920938463463374607431768211456*(a2*fV)+6277101735386680763835789423207666416102355444464034512896*(a2*ca)+115792089237316195423570985008687907853269984665640564039457584007913129639936*(a2*cc)+2135987035920910082395021706169552114602704522356652769947041607822219725780640550022962086936576*(a2*dm)+6277101735386680763835789423207666416102355444464034512896*(a3*fV)+115792089237316195423570985008687907853269984665640564039457584007913129639936*(a3*ca)+2135987035920910082395021706169552114602704522356652769947041607822219725780640550022962086936576*(a3*cc)+39402006196394479212279040100143613805079739270465446667948293404245721771497210611414266254884915640806627990306816*(a3*dm):=by grind
theorem m5 {a b c d:Int} (a0:0<=a) (b7:a<=18446744073709551615) (fV:0<=b) (ca:b<=18446744073709551615) (e4:0<=c) (c1:c<=18446744073709551615) (d0:0<=d) (d1:d<=18446744073709551615):0<=ad [a,b,c,d]/\ad [a,b,c,d]<115792089237316195423570985008687907853269984665640564039457584007913129639936:=by
 simp only[num];omega
theorem azs {a b c d e f g h:Int} (a0:0<=a) (b7:a<=18446744073709551615) (fV:0<=b) (ca:b<=18446744073709551615) (e4:0<=c) (c1:c<=18446744073709551615) (d0:0<=d) (d1:d<=18446744073709551615) (gE:0<=e) (az:e<=18446744073709551615) (f0:0<=f) (f1:f<=18446744073709551615) (g0:0<=g) (g1:g<=18446744073709551615) (h0:0<=h) (h1:h<=18446744073709551615):0<=ad [a,b,c,d,e,f,g,h]/\ad [a,b,c,d,e,f,g,h]<13407807929942597099574024998205846127479365820592393377723561443721764030073546976801874298166903427690031858186486050853753882811946569946433649006084096:=by
 simp only[num];omega
theorem alJ {l:List Int} {n:Nat} (h:ab (ai 0 255 n) l):0<=nb l/\nb l<256^n:=⟨num_nonneg (by decide) (di _) h,SU (b:=256) (by decide) h⟩
theorem abF:ad [6346243789798364141,1503914060200516822,0,1152921504606846976]=7237005577332262213973186563042994240857116359379907606001950938285454250989:=by decide
theorem azu (a b c d:Int):ad [a,b,c,d,0,0,0,0]=ad [a,b,c,d]:=by simp only[num];omega
theorem azt:ad [0,0,0,0]=0:=by decide
theorem aEi {AQ tt Gh PQ c1 l1 Gi PR bQ PS cF l2 IW PT dk oG aq3 PU fN Gf hQ:Int}
 (gS:0<=AQ/\AQ<13407807929942597099574024998205846127479365820592393377723561443721764030073546976801874298166903427690031858186486050853753882811946569946433649006084096)
 (f0:tt=AQ% 7237005577332262213973186563042994240829374041602535252466099000494570602496) (g0:Gh=27742317777372353535851937790883648493*(AQ/7237005577332262213973186563042994240829374041602535252466099000494570602496))
 (f2:l1=Gh% 7237005577332262213973186563042994240829374041602535252466099000494570602496) (g2:Gi=27742317777372353535851937790883648493*(Gh/7237005577332262213973186563042994240829374041602535252466099000494570602496))
 (f5:l2=Gi% 7237005577332262213973186563042994240829374041602535252466099000494570602496) (g5:IW=27742317777372353535851937790883648493*(Gi/7237005577332262213973186563042994240829374041602535252466099000494570602496))
 (f7:oG=IW% 7237005577332262213973186563042994240829374041602535252466099000494570602496) (g7:aq3=27742317777372353535851937790883648493*(IW/7237005577332262213973186563042994240829374041602535252466099000494570602496))
 (s1:PQ=tt-115792089237316195423570985008687907853269984665640564039457584007913129639936*c1)
 (bn:PR=PQ+7237005577332262213973186563042994240857116359379907606001950938285454250989-115792089237316195423570985008687907853269984665640564039457584007913129639936*bQ)
 (cz:PS=PR-l1+115792089237316195423570985008687907853269984665640564039457584007913129639936*cF)
 (ec:PT=PS+l2-115792089237316195423570985008687907853269984665640564039457584007913129639936*dk)
 (gy:PU=PT+7237005577332262213973186563042994240857116359379907606001950938285454250989-115792089237316195423570985008687907853269984665640564039457584007913129639936*fN)
 (gX:Gf=PU-oG+115792089237316195423570985008687907853269984665640564039457584007913129639936*hQ)
 (b7:0<=c1) (ca:c1<=1) (a2:0<=bQ) (cc:bQ<=1) (a3:0<=cF) (dm:cF<=1) (a4:0<=dk) (mm:dk<=1) (a5:0<=fN) (mn:fN<=1) (pL:0<=hQ) (pM:hQ<=1)
 (ir:0<=PQ/\PQ<115792089237316195423570985008687907853269984665640564039457584007913129639936) (gw:0<=PR/\PR<115792089237316195423570985008687907853269984665640564039457584007913129639936)
 (HG:0<=PS/\PS<115792089237316195423570985008687907853269984665640564039457584007913129639936) (Bt:0<=PT/\PT<115792089237316195423570985008687907853269984665640564039457584007913129639936)
 (ay2:0<=PU/\PU<115792089237316195423570985008687907853269984665640564039457584007913129639936) (ay3:0<=Gf/\Gf<115792089237316195423570985008687907853269984665640564039457584007913129639936):(Gf-AQ)% 7237005577332262213973186563042994240857116359379907606001950938285454250989=0:=by
 have k1:c1=0:=by omega
 have k2:bQ=0:=by omega
 have k3:cF=0:=by omega
 have k4:dk=0:=by omega
 have tl:fN=0:=by omega
 have zX:hQ=0:=by omega
 have v1:AQ=7237005577332262213973186563042994240829374041602535252466099000494570602496*(AQ/7237005577332262213973186563042994240829374041602535252466099000494570602496)+tt:=by omega
 have v2:Gh=7237005577332262213973186563042994240829374041602535252466099000494570602496*(Gh/7237005577332262213973186563042994240829374041602535252466099000494570602496)+l1:=by omega
 have v3:Gi=7237005577332262213973186563042994240829374041602535252466099000494570602496*(Gi/7237005577332262213973186563042994240829374041602535252466099000494570602496)+l2:=by omega
 have fV:AQ/7237005577332262213973186563042994240829374041602535252466099000494570602496<1852673427797059126777135760139006525652319754650249024631321344126610074238976:=by omega
 have ca:Gh/7237005577332262213973186563042994240829374041602535252466099000494570602496<10889035741470030830827987437816582766592:=by omega
 have cc:Gi/7237005577332262213973186563042994240829374041602535252466099000494570602496<64:=by omega
 have dm:IW<7237005577332262213973186563042994240829374041602535252466099000494570602496:=by omega
 have fZ:0<=IW:=by omega
 have v4:oG=IW:=by omega
 have e:Gf-AQ=7237005577332262213973186563042994240857116359379907606001950938285454250989*(2-AQ/7237005577332262213973186563042994240829374041602535252466099000494570602496+Gh/7237005577332262213973186563042994240829374041602535252466099000494570602496-Gi/7237005577332262213973186563042994240829374041602535252466099000494570602496):=by
  clear f0 f2 f5 f7 fV ca cc dm ir gw HG Bt ay2 ay3;omega
 rw[e];exact Int.mul_emod_right _ _
def lg:lk:=⟨26,22,.u8,32,0,255,22,0,32,32,[],[ch]⟩
def Bq:lk:=⟨26,122,.u8,64,0,255,27,0,32,64,[],[ch]⟩
def Db:lk:=⟨26,222,.u8,64,0,255,27,32,32,32,[],[ch]⟩
def iU:bJ:=⟨27,29,[ch,ch],[ch,.bool]⟩
def iV:bJ:=⟨41,24,[ch,ch],[ch,c1]⟩
def iJ:bJ:=⟨43,26,[ch],[gN]⟩
def Dc:bJ:=⟨39,21,[ch,ch],[y1]⟩
def C4:bJ:=⟨77,35,[y1],[ch,y1]⟩
def wZ:bJ:=⟨40,23,[y1],[ch]⟩
def Da:bJ:=⟨42,25,[ch],[ch]⟩
def nz:bJ:=⟨14,13,[gN],[.bool]⟩
def n3:bJ:=⟨35,11,[ar6],[gN]⟩
def Fe:bJ:=⟨20,8,[gN,gN,gN],[gN]⟩
def Fb:bJ:=⟨38,14,[gN],[gN]⟩
end Go.nN
set_option maxRecDepth 100000
namespace Go.gg
open Go Go.b9
def gj (r:List Int) (o n:Nat):List Int:=(ht n).map λj=>U r (o+j) 0
def sA (r:List Int):Nat->Nat->Int->(Int->Prop)->Prop
 |_,0,c,k=>k c
 |o,n+1,c,k=>∀z:Int,0<=z->z<=b6->z=bM 23 [c,U r o 0]->sA r (o+1) n z k
def Qz (c:Int):Nat->Nat->List Int->(List Int->Prop)->Prop
 |0,_,acc,k=>k acc
 |n+1,i,acc,k=>ay 21 [c,(i:Int)]/\∀y:Int,0<=y->y<=255->y=bM 21 [c,(i:Int),0]->Qz c n (i+1) (acc++[y]) k
def oc:List Int:=[157,97,177,157,239,253,90,96,186,132,74,244,146,236,44,196,68,73,197,105,123,50,105,25,112,59,172,3,28,174,127,96]
abbrev cR (l:List Int):Int:=Go.Fd.nb l
def qt (l:List Int):List Int:=r7 cT l
def vg (l:List Int):Int:=cR (qt l)% (Go.Fd.jx:Int)
def Mp (zs:List Int):List Int:=(zs.getD 0 0/8*8)::((zs.drop 1).take 30++[zs.getD 31 0% 64+64])
def Ih (s:List Int):List Int:=Mp ((qt s).take 32)
def OQ (s m:List Int):Int:=vg ((qt s).drop 32++m)
def Br (s:List Int):Int:=Go.Fd.enc (Go.Fd.er (cR (Ih s)).toNat Go.Fd.ln)
def DJ (s m g:List Int):Prop:=cR (g.take 32)=Go.Fd.enc (Go.Fd.er (OQ s m).toNat Go.Fd.ln)/\∃A,ab (ai 0 255 32) A/\cR A=Br s/\cR (g.drop 32)=(vg (g.take 32++(A++m))*cR (Ih s)+OQ s m)% (Go.Fd.jx:Int)
def JX (k m g:List Int):Prop:=cR (g.drop 32)<(Go.Fd.jx:Int)/\∃A,Go.Fd.dec (cR k)=some A/\cR (g.take 32)=Go.Fd.enc (Go.Fd.fU (Go.Fd.er (vg (g.take 32++(k++m))).toNat (Go.Fd.rY A)) (Go.Fd.er (cR (g.drop 32)).toNat Go.Fd.ln))
def SB:Nat->List (List Int)->List (List Int)->Prop
 |112,[a],[r,[e]]=>Go.Fd.acO [a] [r,[e]]
 |114,[k],[r]=>Go.Fd.acM [k] [r]
 |115,[k,a,l],[r,[e]]=>Go.Fd.acN [k,a,l] [r,[e]]
 |151,[a],[[z]]=>z=if cR a<(Go.Fd.jx:Int)then 1 else 0
 |152,[a],[r]=>cR r=cR a% (Go.Fd.jx:Int)
 |153,[a,b,c],[r]=>cR r=(cR a*cR b+cR c)% (Go.Fd.jx:Int)
 |154,[a],[r]=>r=Mp a
 |472,[[a],[b]],[[r]]=>ao r=ao a++(ao b)
 |473,[[a],[b]],rs=>rs=[r7 cT (bT a++(bT b))]
 |674,[[a],[b]],[r]=>cR r=vg (bT a++(bT b))
 |675,[[a],[b],[c]],[r]=>cR r=vg (bT a++(bT b++bT c))
 |680,[s],[r]=>cR r=Br s
 |681,[s,[z]],[g]=>DJ s (bT z) g
 |682,[k,[z],g],[[b]]=>b=1↔JX k (bT z) g
 |683,[],[[r]]=>r=1
 |684,[_,_],[[r]]=>r=1
 |685,[_,_,_],[[r]]=>r=1
 |690,[n],[r]=>cR r=Go.Fd.ad n
 |691,[],[r]=>Go.Fd.ad r=(Go.Fd.jx:Int)
 |692,[k,a],[r,[e]]=>Go.Fd.acQ [k,a] [r,[e]]
 |693,[a],[r]=>Go.Fd.ad r=cR a
 |694,[a,b],[[z]]=>z=if Go.Fd.ad a<Go.Fd.ad b then 1 else 0
 |695,[a],[[z]]=>z=if cR a<(Go.Fd.jx:Int)then 1 else 0
 |696,[_,_],[[r]]=>r=1
 |n,a,b=>aq1 n a b
end Go.gg
namespace Go.gg
open Go Go.b9
def Kx:List Int:=[1,0,0,0,0,0,0,0,0,0,0,0,0,0,0,0,0,0,0,0,0,0,0,0,0,0,0,0,0,0,0,0]
def aFO (S:Nat->List (List Int)->List (List Int)->Prop) (K:List (List Int)->List (List Int)->Prop) (a:List (List Int)) (l k g:List Int):Prop:=
 ∀r:List Int,ab (ai 0 255 32) r->∀z:Int,0<=z->z<=1->S 692 [l,k] [r,[z]]->
 ((decide (z=0))=true->((decide (r=Kx))=true->∀y:Int,0<=y->y<=1->S 695 [(gj g 32 32)] [[y]]->K a [[(cond (decide (y=1)) 1 0)]])/\((decide (r=Kx))=false->K a [[(cond (false) 1 0)]]))/\
 ((decide (z=0))=false->K a [[(cond (false) 1 0)]])
def sQ (S:Nat->List (List Int)->List (List Int)->Prop) (K:List (List Int)->List (List Int)->Prop) (a:List (List Int)) (k g:List Int):Prop:=
 ∀n:List Int,ab (ai 0 18446744073709551615 4) n->S 691 [] [n]->∀l:List Int,ab (ai 0 255 32) l->S 690 [n] [l]->aFO S K a l k g
def tD (S:Nat->List (List Int)->List (List Int)->Prop) (s:List Int) (z n:Int) (p:List Int->Prop):Prop:=
 ay 22 [z,0,n]/\∀y:Int,0<=y->y<=b6->y=bM 22 [z,0,n]->ay 75 (gj s 0 32++[y])/\∀g:List Int,ab (ai 0 255 64) g->S 681 [s,[y]] [g]->p g
def uE (S:Nat->List (List Int)->List (List Int)->Prop) (s:List Int) (p:List Int->Prop):Prop:=
 ∀k:List Int,ab (ai 0 255 32) k->S 680 [s] [k]->p k
def uF (S:Nat->List (List Int)->List (List Int)->Prop) (p:List Int->Prop):Prop:=
 ay 75 (oc++[0])/\∀g:List Int,ab (ai 0 255 64) g->S 681 [oc,[0]] [g]->p g
def FL (x c:Int) (T F:Prop):Prop:=((decide (x=c))=true->T)/\((decide (x=c))=false->F)
theorem Ik {x c:Int} {T F:Prop} (h:x=c) (t:T):FL x c T F:=⟨λ_=>t,λe=>absurd h (of_decide_eq_false e)⟩
def r8 (S:Nat->List (List Int)->List (List Int)->Prop) (K:List (List Int)->List (List Int)->Prop) (k g:List Int):Prop:=
 FL (U k 0 0) 215 (FL (U k 1 0) 90 (FL (U k 31 0) 26 (FL (U g 0 0) 229 (FL (U g 1 0) 86 (FL (U g 32 0) 95 (FL (U g 63 0) 11
  (ay 75 (gj k 0 32++[0]++gj g 0 64)/\∀z:Int,0<=z->z<=1->S 682 [k,[0],g] [[z]]->K [] [[(cond (decide (z=1)) 1 0)]])
  (K [] [[(cond (false) 1 0)]])) (K [] [[(cond (false) 1 0)]])) (K [] [[(cond (false) 1 0)]])) (K [] [[(cond (false) 1 0)]])) (K [] [[(cond (false) 1 0)]])) (K [] [[(cond (false) 1 0)]])) (K [] [[(cond (false) 1 0)]])
end Go.gg
namespace Go.gg
open Go Go.b9
def S7:cV:= .sM [.int .u8 0 255] 5
def Jh:D:= .int .i64 (-9223372036854775808) 9223372036854775807
def asV:D:= .int .i64 0 79
def ay1:cV:= .rd [.int .u64 0 18446744073709551615]
def S6:cV:= .sM [.int .u64 0 18446744073709551615] 32
def ayj:D:= .gn .i64 64
def u3:D:= .int .u64 0 18446744073709551615
def c7:D:= .agg .u8 32 0 255
def jb:D:= .agg .u8 64 0 255
def Ya:D:= .int .i64 0 1
def l5:cV:= .rd [.int .u8 0 255]
def ez:D:= .agg .u64 4 0 18446744073709551615
end Go.gg
set_option linter.unusedSimpArgs false
namespace Go.gg
open Go Go.b9
def aeF (S:Nat->List (List Int)->List (List Int)->Prop) (K:List (List Int)->List (List Int)->Prop):Prop:=
 a7 λz0=>aB 0 68719476735 (68719476736*z0) 18446744073709551616 λaF=>aB 0 68719476735 z0 268435456 λz2=>m8 λz3=>z3<=o0 .u64->z3
 =eR .xor .u64 0 ((68719476736*z0)+(((-18446744073709551616)*aF)+z2))->aB 0 1073741823 (1073741824*z0) 18446744073709551616 λz4=>aB 0
 1073741823 z0 17179869184 λz5=>m8 λbC=>bC<=o0 .u64->bC=eR .xor .u64 z3 ((1073741824*z0)+(((-18446744073709551616)*z4)+z5))->
 aB 0 33554431 (33554432*z0) 18446744073709551616 λaX=>aB 0 33554431 z0 549755813888 λaK=>m8 λz9=>z9<=o0 .u64->z9=eR .xor .u64 bC
 ((33554432*z0)+(((-18446744073709551616)*aX)+aK))->K [[z0]] [[z9]]
def aeG (S:Nat->List (List Int)->List (List Int)->Prop) (K:List (List Int)->List (List Int)->Prop):Prop:=
 a7 λz0=>aB 0 1125899906842623 (1125899906842624*z0) 18446744073709551616 λaF=>aB 0 1125899906842623 z0 16384 λz2=>m8 λz3=>z3<=o0
 .u64->z3=eR .xor .u64 0 ((1125899906842624*z0)+(((-18446744073709551616)*aF)+z2))->aB 0 70368744177663 (70368744177664*z0) 18446744073709551616
 λz4=>aB 0 70368744177663 z0 262144 λz5=>m8 λbC=>bC<=o0 .u64->bC=eR .xor .u64 z3 ((70368744177664*z0)+(((-18446744073709551616)
 *z4)+z5))->aB 0 8388607 (8388608*z0) 18446744073709551616 λaX=>aB 0 8388607 z0 2199023255552 λaK=>m8 λz9=>z9<=o0 .u64->z9=
 eR .xor .u64 bC ((8388608*z0)+(((-18446744073709551616)*aX)+aK))->K [[z0]] [[z9]]
def aeH (S:Nat->List (List Int)->List (List Int)->Prop) (K:List (List Int)->List (List Int)->Prop):Prop:=
 a7 λz0=>aB 0 9223372036854775807 (9223372036854775808*z0) 18446744073709551616 λaF=>aB 0 9223372036854775807 z0 2 λz2=>m8 λz3=>z3<=
 o0 .u64->z3=eR .xor .u64 0 ((9223372036854775808*z0)+(((-18446744073709551616)*aF)+z2))->aB 0 72057594037927935 (72057594037927936*z0)
 18446744073709551616 λz4=>aB 0 72057594037927935 z0 256 λz5=>m8 λbC=>bC<=o0 .u64->bC=eR .xor .u64 z3 ((72057594037927936*z0)+
 (((-18446744073709551616)*z4)+z5))->aB 0 144115188075855871 z0 128 λaX=>m8 λaK=>aK<=o0 .u64->aK=eR .xor .u64 bC aX->K [[z0]]
 [[aK]]
def aeI (S:Nat->List (List Int)->List (List Int)->Prop) (K:List (List Int)->List (List Int)->Prop):Prop:=
 a7 λz0=>aB 0 35184372088831 (35184372088832*z0) 18446744073709551616 λaF=>aB 0 35184372088831 z0 524288 λz2=>m8 λz3=>z3<=o0 .u64
 ->z3=eR .xor .u64 0 ((35184372088832*z0)+(((-18446744073709551616)*aF)+z2))->aB 0 7 (8*z0) 18446744073709551616 λz4=>aB 0 7 z0
 2305843009213693952 λz5=>m8 λbC=>bC<=o0 .u64->bC=eR .xor .u64 z3 ((8*z0)+(((-18446744073709551616)*z4)+z5))->aB 0
 288230376151711743 z0 64 λaX=>m8 λaK=>aK<=o0 .u64->aK=eR .xor .u64 bC aX->K [[z0]] [[aK]]
theorem aEs (w n:Nat) (hn:n<=w) (z q r:Int) (h1:0<=2^(w-n)*z-2^w*q) (h2:2^(w-n)*z-2^w*q<2^w) (h3:0<=z-2^n*r) (h4:z-2^n*r<2^n):(2^(w-n)*z-2^w*q)+r=Tp w n z:=by
 have e:(2:Int)^w=2^(w-n)*2^n:=by rw[<-Ur];congr 1;omega
 have cG:(0:Int)<2^(w-n):=Int.pow_pos (by decide);have cC:(0:Int)<2^n:=Int.pow_pos (by decide);have pZ:z/2^n=r:=by
  rw[Uz cC];constructor
  ·rw[lB];omega
  ·rw[lB r];omega
 have eq:q=r:=by
  rw[e]at h1 h2;have f1:2^(w-n)*z-2^(w-n)*2^n*q=2^(w-n)*(z-2^n*q):=by rw[Int.mul_sub,DY]
  rw[f1]at h1 h2;have g1:0<=z-2^n*q:=by
   rcases Int.lt_or_le (z-2^n*q) 0 with h|h
   ·have:=Int.mul_neg_of_pos_of_neg cG h;omega
   ·exact h
  have g2:z-2^n*q<2^n:=Int.lt_of_mul_lt_mul_left h2 (sd cG);have:=pZ;rw[Uz cC]at this;have h5:z/2^n=q:=by
   rw[Uz cC];constructor
   ·rw[lB];omega
   ·rw[lB q];omega
  rw[<-h5,pZ]
 subst eq;unfold Tp;rw[pZ,Int.emod_def,pZ,e,DY,<-Int.mul_sub,lB (z-2^n*q) _];omega
theorem BI (w n:Nat) (hn:n<=w) (A B D:Int) (aO:A=2^(w-n)) (ea:B=2^w) (qJ:D=2^n) {z q r:Int} (h1:0<=A*z-B*q) (h2:A*z-B*q<B) (h3:0<=z-D*r) (h4:z-D*r<D):A*z+(-B*q+r)=Tp w n z:=by
 subst aO;subst ea;subst qJ;rw[<-aEs w n hn z q r h1 h2 h3 h4,Int.neg_mul];omega
theorem aBw:aeF SB (x3 SB [u3] 448):=by
 intro z0 a0 b7 aF bg aca cG HJ z2 b3 acf cC HK z3 cy Oy cn z4 et ach gP HL z5 j8 acj gW HM bC n6 ack wJ aX oJ acm pt Ol aK oK OB Kz abX z9 OC aco rB;have r1:=BI 64 28 (by decide) 68719476736 18446744073709551616 268435456 (by decide) (by decide) (by decide) cG HJ cC HK;have aR:=BI 64 34 (by decide) 1073741824 18446744073709551616 17179869184 (by decide) (by decide) (by decide) gP HL gW HM;have HY:=BI 64 39 (by decide) 33554432 18446744073709551616 549755813888 (by decide) (by decide) (by decide) pt Ol Kz abX;refine⟨⟨OC,aco,trivial⟩,?_⟩;show [[z9]]=[[I7 cT z0]];rw[rB,wJ,cn,r1,aR,HY];rfl
theorem aBx:aeG SB (x3 SB [u3] 449):=by
 intro z0 a0 b7 aF bg aca cG HJ z2 b3 acf cC HK z3 cy Oy cn z4 et ach gP HL z5 j8 acj gW HM bC n6 ack wJ aX oJ acm pt Ol aK oK OB Kz abX z9 OC aco rB;have r1:=BI 64 14 (by decide) 1125899906842624 18446744073709551616 16384 (by decide) (by decide) (by decide) cG HJ cC HK;have aR:=BI 64 18 (by decide) 70368744177664 18446744073709551616 262144 (by decide) (by decide) (by decide) gP HL gW HM;have HY:=BI 64 41 (by decide) 8388608 18446744073709551616 2199023255552 (by decide) (by decide) (by decide) pt Ol Kz abX;refine⟨⟨OC,aco,trivial⟩,?_⟩;show [[z9]]=[[I8 cT z0]];rw[rB,wJ,cn,r1,aR,HY];rfl
theorem aBy:aeH SB (x3 SB [u3] 450):=by
 intro z0 a0 b7 aF bg aca cG HJ z2 b3 acf cC HK z3 cy Oy cn z4 et ach gP HL z5 j8 acj gW HM bC n6 ack wJ aX oJ acm pt Ol aK oK OB qF;have r1:=BI 64 1 (by decide) 9223372036854775808 18446744073709551616 2 (by decide) (by decide) (by decide) cG HJ cC HK;have aR:=BI 64 8 (by decide) 72057594037927936 18446744073709551616 256 (by decide) (by decide) (by decide) gP HL gW HM;have HY:aX=z0/2^7:=by rw[show(2:Int)^7=128 by decide];omega
 refine⟨⟨oK,OB,trivial⟩,?_⟩;show [[aK]]=[[O4 cT z0]];rw[qF,wJ,cn,r1,aR,HY];rfl
theorem aBz:aeI SB (x3 SB [u3] 451):=by
 intro z0 a0 b7 aF bg aca cG HJ z2 b3 acf cC HK z3 cy Oy cn z4 et ach gP HL z5 j8 acj gW HM bC n6 ack wJ aX oJ acm pt Ol aK oK OB qF;have r1:=BI 64 19 (by decide) 35184372088832 18446744073709551616 524288 (by decide) (by decide) (by decide) cG HJ cC HK;have aR:=BI 64 61 (by decide) 8 18446744073709551616 2305843009213693952 (by decide) (by decide) (by decide) gP HL gW HM;have HY:aX=z0/2^6:=by rw[show(2:Int)^6=64 by decide];omega
 refine⟨⟨oK,OB,trivial⟩,?_⟩;show [[aK]]=[[O5 cT z0]];rw[qF,wJ,cn,r1,aR,HY];rfl
end Go.gg
namespace Go.gg
open Go Go.b9
def aey (S:Nat->List (List Int)->List (List Int)->Prop) (K:List (List Int)->List (List Int)->Prop):Prop:=
 r3 λz0=>(ay 66 [z0]->m8 λaF=>lx λz2=>Dt 20 [z0] λz3=>(ay 53 [z2,z3]->(rZ (decide (z2<0)) (K [[z0]] [[0]]) (ay 22 [z0,0,z3]/\
 ay 23 [0,z3]/\iX 22 [z0,0,z3] λz4=>iX 24 [0,z4] λz5=>(rZ (decide (z3<=0)) (K [[z0]] [[0]]) (lx λbC=>ay 22 [z5,0,z3]/\iX 22 [z5,0,z3]
 λaX=>K [[z0]] [[aX]]))))))
def aeO (S:Nat->List (List Int)->List (List Int)->Prop) (K:List (List Int)->List (List Int)->Prop):Prop:=
 oL (-9223372036854775808) 9223372036854775807 λz0=>oL (-9223372036854775808) 9223372036854775807 λaF=>(rZ (decide (z0<0)) (K [[z0],[aF]] [[0]]) ((rZ
 (decide (1099511627776<z0)) (K [[z0],[aF]] [[0]]) ((rZ ((!(decide (aF=32)))) ((rZ ((!(decide (aF=64)))) (K [[z0],[aF]] [[0]]) (aB (-1) 1 ((2*aF)+
 9223372036854775808) 18446744073709551616 λz2=>ay 77 [aF]/\aB 0 2305843009213693951 aF 4 λz3=>ay 36 [((2*aF)+((-18446744073709551616)*z2))]
 /\Tg 0 2305844108725321728 38 [((z0+z3)+1),((2*aF)+((-18446744073709551616)*z2))] λz4=>aB (-1) 0 (((2*aF)+(((-18446744073709551616)*z2)+
 ((-1)*z4)))+9223372036854775808) 18446744073709551616 λz5=>ay 77 [((2*aF)+(((-18446744073709551616)*z2)+(((-1)*z4)+
 ((-18446744073709551616)*z5))))]/\ay 36 [((2*aF)+((-18446744073709551616)*z2))]/\Tg 0 9223372036854775806 38 [((2*aF)+
 (((-18446744073709551616)*z2)+(((-1)*z4)+((-18446744073709551616)*z5)))),((2*aF)+((-18446744073709551616)*z2))] λbC=>bz ((z0+(z3+bC))+
 9223372036854775809) 18446744073709551616 λaX=>K [[z0],[aF]] [[((z0+(z3+(bC+((-18446744073709551616)*aX))))+1)]]))) (aB (-1) 1 ((2*aF)+
 9223372036854775808) 18446744073709551616 λz2=>ay 77 [aF]/\aB 0 2305843009213693951 aF 4 λz3=>ay 36 [((2*aF)+((-18446744073709551616)*z2))]
 /\Tg 0 2305844108725321728 38 [((z0+z3)+1),((2*aF)+((-18446744073709551616)*z2))] λz4=>aB (-1) 0 (((2*aF)+(((-18446744073709551616)*z2)+
 ((-1)*z4)))+9223372036854775808) 18446744073709551616 λz5=>ay 77 [((2*aF)+(((-18446744073709551616)*z2)+(((-1)*z4)+
 ((-18446744073709551616)*z5))))]/\ay 36 [((2*aF)+((-18446744073709551616)*z2))]/\Tg 0 9223372036854775806 38 [((2*aF)+
 (((-18446744073709551616)*z2)+(((-1)*z4)+((-18446744073709551616)*z5)))),((2*aF)+((-18446744073709551616)*z2))] λbC=>bz ((z0+(z3+bC))+
 9223372036854775809) 18446744073709551616 λaX=>K [[z0],[aF]] [[((z0+(z3+(bC+((-18446744073709551616)*aX))))+1)]]))))))
theorem lA {c l z:Int} (h:z=bM 22 [c,0,l]) (hl:l=((ao c).length:Int)):ao z=ao c:=by
 rw[h];show ao (rc (((ao c).drop (0:Int).toNat).take (l.toNat-(0:Int).toNat)))=_
 rw[kS,hl];simp
theorem azo {c:Int} (h:((ao c).length:Int)=0):ao c=[]:=zb (by omega)
theorem aBf:aey SB (hM SB [S6] 463):=by
 intro z0 a0 b7 hp aF ca z2 e4 c1 z3 d0 d1 h3 hn;have h3:z3=((ao z0).length:Int):=h3;have hl:(ao z0).length<=1000000:=hp;have hn:z2<0->z3=0:=hn;have fin:∀z,0<=z->z<=b6->ao z=ao z0->hM SB [S6] 463 [[z0]] [[z]]:=λz h1 h2 h=>⟨⟨h1,h2,trivial⟩,h⟩;have gE:z3<=0->hM SB [S6] 463 [[z0]] [[0]]:=λh=>fin 0 (di _) AO (by rw[oa,azo (c:=z0) (by omega)]);refine⟨λh=>gE (by have:=hn (of_decide_eq_true h);omega),λh=>⟨⟨di _,by omega,by rw[h3];exact di _⟩,by show(ao 0).length+z3<=1073741824;rw[oa];simp only[qo];omega,λz4 f0 f1 h4 z5 g0 g1 h5=>?_⟩⟩;have h4:=lA h4 h3;have h5:ao z5=ao z0:=by
  rw[h5];show ao (rc (ao 0++ao z4))=_
  rw[kS,oa,h4];rfl
 refine⟨λh=>gE (of_decide_eq_true h),λh bC i0 i1=>⟨⟨di _,by omega,by rw[h3,h5];exact di _⟩,λaX Bp jc h7=>fin aX Bp jc ?_⟩⟩;rw[lA h7 (by rw[h3,h5]),h5]
theorem aCe:aeO SB (x3 SB [Jh] 440):=by
 intro z0 a0 b7 aF fV ca;have fin:∀z:Int,-9223372036854775808<=z->z<=9223372036854775807->z=Bz z0 aF->x3 SB [Jh] 440 [[z0],[aF]] [[z]]:=λz h1 h2 h=>⟨⟨h1,h2,trivial⟩,by show [[z]]=[[Bz z0 aF]];rw[h]⟩;have bad:(z0<0∨1099511627776<z0∨(aF≠32/\aF≠64))->x3 SB [Jh] 440 [[z0],[aF]] [[0]]:=λh=>fin 0 (by omega) (by omega) (by unfold Bz;rw[if_pos h]);refine⟨λh=>bad (.inl (of_decide_eq_true h)),λh=>⟨λbm=>bad (.inr (.inl (of_decide_eq_true bm))),λbm=>?_⟩⟩;have gS:0<=z0:=by have:=of_decide_eq_false h;omega
 have a6:z0<=1099511627776:=by have:=of_decide_eq_false bm;omega
 obtain⟨N,rfl⟩:∃N:Nat,(N:Int)=z0:=⟨z0.toNat,by omega⟩;refine⟨λg=>⟨λns=>bad (.inr (.inr ⟨by simpa using g,by simpa using ns⟩)),λns=>?_⟩,λg=>?_⟩
 ·have hz:aF=64:=by simpa using ns
  subst hz;intro z2 e4 c1 bQ cF;have:z2=0:=by omega
  subst this;refine⟨by show(0:Int)<=64;decide,λz3 d0 d1 d2 d3=>?_⟩;have:z3=16:=by omega
  subst this;refine⟨by show(0:Int)<2*64+-18446744073709551616*0;decide,λz4 gE az h4 z5 f0 f1 f2 f3=>?_⟩;have h4:z4=((N:Int)+16+1)% (2*64+-18446744073709551616*0):=h4;rw[show(2*64+-18446744073709551616*0:Int)=128 by decide]at h4;have:z5=0:=by omega
  subst this;refine⟨by show(0:Int)<=_;omega,by show(0:Int)<2*64+-18446744073709551616*0;decide,λbC g0 g1 h6 aX i0 i1 i2 i3=>?_⟩;have h6:bC=(2*64+(-18446744073709551616*0+(-1*z4+-18446744073709551616*0)))% (2*64+-18446744073709551616*0):=h6;rw[show(2*64+-18446744073709551616*0:Int)=128 by decide]at h6;have:aX=0:=by omega
  subst this;refine fin _ (by omega) (by omega) ?_;unfold Bz vk;rw[if_neg (by omega)];simp only[qm];rw[show(64:Int).toNat=64 from rfl];omega
 ·have hz:aF=32:=by simpa using g
  subst hz;intro z2 e4 c1 bQ cF;have:z2=0:=by omega
  subst this;refine⟨by show(0:Int)<=32;decide,λz3 d0 d1 d2 d3=>?_⟩;have:z3=8:=by omega
  subst this;refine⟨by show(0:Int)<2*32+-18446744073709551616*0;decide,λz4 gE az h4 z5 f0 f1 f2 f3=>?_⟩;have h4:z4=((N:Int)+8+1)% (2*32+-18446744073709551616*0):=h4;rw[show(2*32+-18446744073709551616*0:Int)=64 by decide]at h4;have:z5=0:=by omega
  subst this;refine⟨by show(0:Int)<=_;omega,by show(0:Int)<2*32+-18446744073709551616*0;decide,λbC g0 g1 h6 aX i0 i1 i2 i3=>?_⟩;have h6:bC=(2*32+(-18446744073709551616*0+(-1*z4+-18446744073709551616*0)))% (2*32+-18446744073709551616*0):=h6;rw[show(2*32+-18446744073709551616*0:Int)=64 by decide]at h6;have:aX=0:=by omega
  subst this;refine fin _ (by omega) (by omega) ?_;unfold Bz vk;rw[if_neg (by omega)];simp only[qm];rw[show(32:Int).toNat=32 from rfl];omega
end Go.gg
namespace Go.gg
open Go Go.b9
def aeJ (S:Nat->List (List Int)->List (List Int)->Prop) (K:List (List Int)->List (List Int)->Prop):Prop:=
 oL 0 79 λz0=>ay 74 [z0,80]/\oL 489312712824947311 17689382322260857208 λaF=>aF=U
 [4794697086780616226,8158064640168781261,13096744586834688815,16840607885511220156,4131703408338449720,6480981068601479193,10538285296894168987,12329834152419229976,15566598209576043074,1334009975649890238,2608012711638119052,6128411473006802146,8268148722764581231,9286055187155687089,11230858885718282805,13951009754708518548,16472876342353939154,17275323862435702243,1135362057144423861,2597628984639134821,3308224258029322869,5365058923640841347,6679025012923562964,8573033837759648693,10970295158949994411,12119686244451234320,12683024718118986047,13788192230050041572,14330467153632333762,15395433587784984357,489312712824947311,1452737877330783856,2861767655752347644,3322285676063803686,5560940570517711597,5996557281743188959,7280758554555802590,8532644243296465576,9350256976987008742,10552545826968843579,11727347734174303076,12113106623233404929,14000437183269869457,14369950271660146224,15101387698204529176,15463397548674623760,17586052441742319658,1182934255886127544,1847814050463011016,2177327727835720531,2830643537854262169,3796741975233480872,4115178125766777443,5681478168544905931,6601373596472566643,7507060721942968483,8399075790359081724,8693463985226723168,9568029438360202098,10144078919501101548,10430055236837252648,11840083180663258601,13761210420658862357,14299343276471374635,14566680578165727644,15097957966210449927,16922976911328602910,17689382322260857208,500013540394364858,748580250866718886,1242879168328830382,1977374033974150939,2944078676154940804,3659926193048069267,4368137639120453308,4836135668995329356,5532061633213252278,6448918945643986474,6902733635092675308,7801388544844847127]
 (z0).toNat 0->K [[z0]] [[aF]]
def aeQ (S:Nat->List (List Int)->List (List Int)->Prop) (K:List (List Int)->List (List Int)->Prop):Prop:=
 r3 λz0=>(ay 71 [z0]->m8 λaF=>lx λz2=>Dt 20 [z0] λz3=>ay 22 [z0,0,z3]/\iX 22 [z0,0,z3] λz4=>ay 71 [z4]/\r3 λz5=>S 461
 [[z4]] [[z5]]->m8 λbC=>lx λaX=>Dt 20 [z5] λaK=>ay 22 [z5,0,aK]/\iX 22 [z5,0,aK] λz9=>ay 71 [z9]/\r3 λa8=>S 443 [[z9]]
 [[a8]]->lx λaL=>Dt 20 [a8] λz12=>ay 22 [a8,0,z12]/\iX 22 [a8,0,z12] λaq=>ay 73 [aq]/\r3 λax=>S 465 [[aq]] [[ax]]->lx
 λaT=>Dt 20 [ax] λbh=>ay 30 [63,bh]/\ay 21 [ax,0]/\ay 21 [ax,0]/\bf 21 [ax,0,0] λaU=>ay 21 [ax,1]/\bf 21 [ax,1,0] λ
 bd=>ay 21 [ax,2]/\bf 21 [ax,2,0] λbk=>ay 21 [ax,3]/\bf 21 [ax,3,0] λz20=>ay 21 [ax,4]/\bf 21 [ax,4,0] λz21=>ay 21
 [ax,5]/\bf 21 [ax,5,0] λz22=>ay 21 [ax,6]/\bf 21 [ax,6,0] λbA=>ay 21 [ax,7]/\bf 21 [ax,7,0] λz24=>ay 21 [ax,8]/\bf 21
 [ax,8,0] λbS=>ay 21 [ax,9]/\bf 21 [ax,9,0] λz26=>ay 21 [ax,10]/\bf 21 [ax,10,0] λbO=>ay 21 [ax,11]/\bf 21 [ax,11,0] λ
 z28=>ay 21 [ax,12]/\bf 21 [ax,12,0] λbX=>ay 21 [ax,13]/\bf 21 [ax,13,0] λb2=>ay 21 [ax,14]/\bf 21 [ax,14,0] λz31=>ay 21
 [ax,15]/\bf 21 [ax,15,0] λaS=>ay 21 [ax,16]/\bf 21 [ax,16,0] λbL=>ay 21 [ax,17]/\bf 21 [ax,17,0] λbY=>ay 21 [ax,18]/\
 bf 21 [ax,18,0] λbB=>ay 21 [ax,19]/\bf 21 [ax,19,0] λbZ=>ay 21 [ax,20]/\bf 21 [ax,20,0] λz37=>ay 21 [ax,21]/\bf 21
 [ax,21,0] λcA=>ay 21 [ax,22]/\bf 21 [ax,22,0] λct=>ay 21 [ax,23]/\bf 21 [ax,23,0] λz40=>ay 21 [ax,24]/\bf 21 [ax,24,0] λ
 cq=>ay 21 [ax,25]/\bf 21 [ax,25,0] λcw=>ay 21 [ax,26]/\bf 21 [ax,26,0] λcN=>ay 21 [ax,27]/\bf 21 [ax,27,0] λdp=>ay 21
 [ax,28]/\bf 21 [ax,28,0] λcH=>ay 21 [ax,29]/\bf 21 [ax,29,0] λz46=>ay 21 [ax,30]/\bf 21 [ax,30,0] λcE=>ay 21 [ax,31]/\
 bf 21 [ax,31,0] λcQ=>ay 21 [ax,32]/\bf 21 [ax,32,0] λz49=>ay 21 [ax,33]/\bf 21 [ax,33,0] λc9=>ay 21 [ax,34]/\bf 21
 [ax,34,0] λz51=>ay 21 [ax,35]/\bf 21 [ax,35,0] λcx=>ay 21 [ax,36]/\bf 21 [ax,36,0] λz53=>ay 21 [ax,37]/\bf 21 [ax,37,0] λ
 df=>ay 21 [ax,38]/\bf 21 [ax,38,0] λdq=>ay 21 [ax,39]/\bf 21 [ax,39,0] λdg=>ay 21 [ax,40]/\bf 21 [ax,40,0] λcu=>ay 21
 [ax,41]/\bf 21 [ax,41,0] λdz=>ay 21 [ax,42]/\bf 21 [ax,42,0] λz59=>ay 21 [ax,43]/\bf 21 [ax,43,0] λdJ=>ay 21 [ax,44]/\
 bf 21 [ax,44,0] λdP=>ay 21 [ax,45]/\bf 21 [ax,45,0] λdV=>ay 21 [ax,46]/\bf 21 [ax,46,0] λdr=>ay 21 [ax,47]/\bf 21
 [ax,47,0] λed=>ay 21 [ax,48]/\bf 21 [ax,48,0] λeG=>ay 21 [ax,49]/\bf 21 [ax,49,0] λeD=>ay 21 [ax,50]/\bf 21 [ax,50,0] λ
 eu=>ay 21 [ax,51]/\bf 21 [ax,51,0] λfb=>ay 21 [ax,52]/\bf 21 [ax,52,0] λek=>ay 21 [ax,53]/\bf 21 [ax,53,0] λz70=>ay 21
 [ax,54]/\bf 21 [ax,54,0] λfc=>ay 21 [ax,55]/\bf 21 [ax,55,0] λz72=>ay 21 [ax,56]/\bf 21 [ax,56,0] λeH=>ay 21 [ax,57]/\
 bf 21 [ax,57,0] λgI=>ay 21 [ax,58]/\bf 21 [ax,58,0] λz75=>ay 21 [ax,59]/\bf 21 [ax,59,0] λz76=>ay 21 [ax,60]/\bf 21
 [ax,60,0] λhX=>ay 21 [ax,61]/\bf 21 [ax,61,0] λho=>ay 21 [ax,62]/\bf 21 [ax,62,0] λhq=>ay 21 [ax,63]/\bf 21 [ax,63,0] λ
 il=>K [[z0]]
 [[aU,bd,bk,z20,z21,z22,bA,z24,bS,z26,bO,z28,bX,b2,z31,aS,bL,bY,bB,bZ,z37,cA,ct,z40,cq,cw,cN,dp,cH,z46,cE,cQ,z49,c9,z51,cx,z53,df,dq,dg,cu,dz,z59,dJ,dP,dV,dr,ed,eG,eD,eu,fb,ek,z70,fc,z72,eH,gI,z75,z76,hX,ho,hq,il]])
theorem aBA:aeJ SB (x3 SB [u3] 467):=by
 intro z0 a0 b7;refine⟨⟨a0,by omega⟩,λaF fV ca h1=>⟨⟨by omega,by omega,trivial⟩,?_⟩⟩;have h1:aF=KT.getD z0.toNat 0:=h1;show [[aF]]=[[KT.getD z0.toNat 0/2^(64-64)]];rw[<-h1];simp
theorem yf (z:Int):(bT z).length=(ao z).length:=by simp[bT]
theorem uV {z r:Int} (h:ao r=ao z):bT r=bT z:=by unfold bT;rw[h]
theorem ee {c i z:Int} (h:z=bM 21 [c,i,0]):z=(bT c).getD i.toNat 0:=by
 rw[h];show((ao c).getD i.toNat []).getD (0:Int).toNat 0=_;unfold bT;rw[xP (l:=(ao c).map _),List.getElem?_map,xP (l:=ao c)];cases(ao c)[i.toNat]?<;>rfl
theorem Yr (l:List Int) (n:Nat) (h:l.length=n):l=(ht n).map λi=>l.getD i 0:=by
 apply Ps
 ·simp[h]
 ·intro i h1 h2;simp[U,h1]
theorem aFA (p:ja) (i:Nat) (x:Int) (v:List Int) (h:v.length=8):(DK p i x v).length=8:=by
 match v,h with
 |[a,b,c,d,e,f,g,k],_=>rfl
theorem amP (p:ja):∀(m:List Int) (i:Nat) (v:List Int),v.length=8->(FH p i m v).length=8
 |[],_,_,h=>h
 |x::m,i,v,h=>amP p m (i+1) _ (aFA p i x v h)
theorem aF9 (p:ja) (h m:List Int) (hl:h.length=8):(K5 p h m).length=8:=by
 unfold K5;rw[List.length_zipWith,amP p _ _ _ hl,hl];rfl
theorem arU (p:ja):(Ep p).length=8:=by simp[Ep];rfl
theorem agO (p:ja) (b:List Int):∀i,(Me p b i (Ep p)).length=8
 |0=>arU p
 |i+1=>aF9 p _ _ (agO p b i)
theorem ama (p:ja):∀(h:List Int),(Fp p h).length=h.length*(p.w/8)
 |[]=>by simp[Fp]
 |x::h=>by
  have:=ama p h;unfold Fp at*;simp only[List.flatMap_cons,gY,pG,apB,this,ke];rw[Nat.succ_mul];omega
theorem P3 (p:ja) (b:List Int):(wA p b).length=8*(p.w/8):=by unfold wA;rw[ama,agO]
theorem ab4 (b:List Int):(BA cT b).length=vk 64 b.length/\128∣vk 64 b.length/\vk 64 b.length<=b.length+200:=by
 have e:vk 64 b.length=(b.length+1+16+127)/128*128:=rfl;refine⟨?_,⟨(b.length+1+16+127)/128,by rw[e,zc]⟩,by rw[e];omega⟩;unfold BA Gw;simp only[gY,ke,qo,UO,pG,apB];show _+(vk 64 _-_-9)+8=vk 64 _;rw[e];omega
theorem zT:∀(n:Nat) (l:List Int),l.length=n->(∀x∈l,0<=x/\x<=255)->ab (ai 0 255 n) l
 |0,[],_,_=>trivial
 |n+1,x::l,hl,h=>⟨(h x (by simp)).1,(h x (by simp)).2,zT n l (by simpa using hl) λy hy=>h y (List.mem_cons_of_mem _ hy)⟩
theorem aCh:aeQ SB (hM SB [.d jb] 453):=by
 intro z0 a0 b7 hp aF fV z2 e4 c1 z3 d0 d1 h3;have hp:(ao z0).length<=1000000000:=hp;have h3:z3=((ao z0).length:Int):=h3;refine⟨⟨di _,by omega,by rw[h3];exact di _⟩,λz4 gE az h4=>?_⟩;have h4:=lA h4 h3;refine⟨by show(ao z4).length<=1000000000;rw[h4];exact hp,λz5 f0 f1 h5 bC g0 aX i0 i1 aK Bp jc fq=>?_⟩;have h5:ao z5=ao z4:=h5;have fq:aK=((ao z5).length:Int):=fq;refine⟨⟨di _,by omega,by rw[fq];exact di _⟩,λz9 u6 k1 ef=>?_⟩;have ef:=lA ef fq;have rB:ao z9=ao z0:=by rw[ef,h5,h4]
 refine⟨by show(ao z9).length<=1000000000;rw[rB];exact hp,λa8 tt l1 mV aL m0 ir z12 gS a6 jV=>?_⟩;have mV:bT a8=BA cT (bT z9):=mV;have jV:z12=((ao a8).length:Int):=jV;rw[uV rB]at mV;obtain⟨bg,b3,cy⟩:=ab4 (bT z0);have ph:(bT z0).length=(ao z0).length:=yf z0;refine⟨⟨di _,by omega,by rw[jV];exact di _⟩,λaq SV o1 la=>?_⟩;have la:=lA la jV;have Nq:(ao aq).length=vk 64 (bT z0).length:=by rw[la,<-yf,mV,bg]
 refine⟨by show 128∣(ao aq).length/\(ao aq).length<=1000001000;rw[Nq];exact⟨b3,by omega⟩,λax p0 cG lb aT r0 r1 bh aH s1 qI=>?_⟩;have lb:bT ax=wA cT (bT aq):=lb;rw[uV la,mV]at lb;have qI:bh=((ao ax).length:Int):=qI;have JT:(bT ax).length=64:=by rw[lb,P3];rfl
 have NB:(ao ax).length=64:=by rw[<-yf,JT]
 have aV:∀i:Int,0<=i->i<64->ay 21 [ax,i]:=λi h1 h2=>⟨h1,by rw[NB];exact h2⟩;refine⟨⟨by decide,by omega⟩,aV 0 (by decide) (by decide),?_⟩;refine⟨aV 0 (by decide) (by decide),?_⟩;intro aU dx j1 t0;refine⟨aV 1 (by decide) (by decide),?_⟩;intro bd aj ar t1;refine⟨aV 2 (by decide) (by decide),?_⟩;intro bk ah an t2;refine⟨aV 3 (by decide) (by decide),?_⟩;intro z20 au aw t3;refine⟨aV 4 (by decide) (by decide),?_⟩;intro z21 de ks t4;refine⟨aV 5 (by decide) (by decide),?_⟩;intro z22 iK Iv t5;refine⟨aV 6 (by decide) (by decide),?_⟩;intro bA jz y8 t6;refine⟨aV 7 (by decide) (by decide),?_⟩;intro z24 mc Ix t7;refine⟨aV 8 (by decide) (by decide),?_⟩;intro bS me xO t8;refine⟨aV 9 (by decide) (by decide),?_⟩;intro z26 mf BY t9;refine⟨aV 10 (by decide) (by decide),?_⟩;intro bO mB y2 t10;refine⟨aV 11 (by decide) (by decide),?_⟩;intro z28 hW DO t11;refine⟨aV 12 (by decide) (by decide),?_⟩;intro bX jy BT t12;refine⟨aV 13 (by decide) (by decide),?_⟩;intro b2 mb DP t13;refine⟨aV 14 (by decide) (by decide),?_⟩;intro z31 uI FP t14;refine⟨aV 15 (by decide) (by decide),?_⟩;intro aS uJ FQ t15;refine⟨aV 16 (by decide) (by decide),?_⟩;intro bL vu Im t16;refine⟨aV 17 (by decide) (by decide),?_⟩;intro bY vv Io t17;refine⟨aV 18 (by decide) (by decide),?_⟩;intro bB vw vN t18;refine⟨aV 19 (by decide) (by decide),?_⟩;intro bZ vx Ip t19;refine⟨aV 20 (by decide) (by decide),?_⟩;intro z37 vy y3 t20;refine⟨aV 21 (by decide) (by decide),?_⟩;intro cA vz DQ t21;refine⟨aV 22 (by decide) (by decide),?_⟩;intro ct vA y4 t22;refine⟨aV 23 (by decide) (by decide),?_⟩;intro z40 vB Lf t23;refine⟨aV 24 (by decide) (by decide),?_⟩;intro cq vC DR t24;refine⟨aV 25 (by decide) (by decide),?_⟩;intro cw vD Iq t25;refine⟨aV 26 (by decide) (by decide),?_⟩;intro cN vE BU t26;refine⟨aV 27 (by decide) (by decide),?_⟩;intro dp vF FR t27;refine⟨aV 28 (by decide) (by decide),?_⟩;intro cH vG Ir t28;refine⟨aV 29 (by decide) (by decide),?_⟩;intro z46 vH Lg t29;refine⟨aV 30 (by decide) (by decide),?_⟩;intro cE vI FT t30;refine⟨aV 31 (by decide) (by decide),?_⟩;intro cQ vJ FU t31;refine⟨aV 32 (by decide) (by decide),?_⟩;intro z49 aId vS t32;refine⟨aV 33 (by decide) (by decide),?_⟩;intro c9 aIe Lh t33;refine⟨aV 34 (by decide) (by decide),?_⟩;intro z51 aIf Aj t34;refine⟨aV 35 (by decide) (by decide),?_⟩;intro cx aIg FV t35;refine⟨aV 36 (by decide) (by decide),?_⟩;intro z53 aIh y5 t36;refine⟨aV 37 (by decide) (by decide),?_⟩;intro df aIi Is t37;refine⟨aV 38 (by decide) (by decide),?_⟩;intro dq aIj BV t38;refine⟨aV 39 (by decide) (by decide),?_⟩;intro dg aIk DS t39;refine⟨aV 40 (by decide) (by decide),?_⟩;intro cu aIl BW t40;refine⟨aV 41 (by decide) (by decide),?_⟩;intro dz aIm Li t41;refine⟨aV 42 (by decide) (by decide),?_⟩;intro z59 aIn It t42;refine⟨aV 43 (by decide) (by decide),?_⟩;intro dJ aIo Iu t43;refine⟨aV 44 (by decide) (by decide),?_⟩;intro dP aIp FW t44;refine⟨aV 45 (by decide) (by decide),?_⟩;intro dV aIq FX t45;refine⟨aV 46 (by decide) (by decide),?_⟩;intro dr aIr y6 t46
 refine⟨aV 47 (by decide) (by decide),?_⟩;intro ed aIs Lj t47;refine⟨aV 48 (by decide) (by decide),?_⟩;intro eG aIt xN t48;refine⟨aV 49 (by decide) (by decide),?_⟩;intro eD aIu FY t49;refine⟨aV 50 (by decide) (by decide),?_⟩;intro eu aIv y7 t50;refine⟨aV 51 (by decide) (by decide),?_⟩;intro fb aIw Lk t51;refine⟨aV 52 (by decide) (by decide),?_⟩;intro ek aIx DT t52;refine⟨aV 53 (by decide) (by decide),?_⟩;intro z70 aIy FZ t53;refine⟨aV 54 (by decide) (by decide),?_⟩;intro fc aIz BX t54;refine⟨aV 55 (by decide) (by decide),?_⟩;intro z72 aIA Iw t55;refine⟨aV 56 (by decide) (by decide),?_⟩;intro eH aIB F0 t56;refine⟨aV 57 (by decide) (by decide),?_⟩;intro gI aIC DU t57;refine⟨aV 58 (by decide) (by decide),?_⟩;intro z75 aID F1 t58;refine⟨aV 59 (by decide) (by decide),?_⟩;intro z76 aIE Ll t59;refine⟨aV 60 (by decide) (by decide),?_⟩;intro hX aIF aoZ t60;refine⟨aV 61 (by decide) (by decide),?_⟩;intro ho aIG Pb t61;refine⟨aV 62 (by decide) (by decide),?_⟩;intro hq aIH Ug t62;refine⟨aV 63 (by decide) (by decide),?_⟩;intro il aII Uh t63;have dM:[aU,bd,bk,z20,z21,z22,bA,z24,bS,z26,bO,z28,bX,b2,z31,aS,bL,bY,bB,bZ,z37,cA,ct,z40,cq,cw,cN,dp,cH,z46,cE,cQ,z49,c9,z51,cx,z53,df,dq,dg,cu,dz,z59,dJ,dP,dV,dr,ed,eG,eD,eu,fb,ek,z70,fc,z72,eH,gI,z75,z76,hX,ho,hq,il]=bT ax:=by
  rw[ee t0,ee t1,ee t2,ee t3,ee t4,ee t5,ee t6,ee t7,ee t8,ee t9,ee t10,ee t11,ee t12,ee t13,ee t14,ee t15,ee t16,ee t17,ee t18,ee t19,ee t20,ee t21,ee t22,ee t23,ee t24,ee t25,ee t26,ee t27,ee t28,ee t29,ee t30,ee t31,ee t32,ee t33,ee t34,ee t35,ee t36,ee t37,ee t38,ee t39,ee t40,ee t41,ee t42,ee t43,ee t44,ee t45,ee t46,ee t47,ee t48,ee t49,ee t50,ee t51,ee t52,ee t53,ee t54,ee t55,ee t56,ee t57,ee t58,ee t59,ee t60,ee t61,ee t62,ee t63];exact(Yr (bT ax) 64 JT).symm
 refine⟨?_,?_⟩
 ·show ab (ai 0 255 64++[]) _;rw[hK];exact zT 64 _ rfl λx hx=>by
   simp only[oh,tH,hK,oW,y9,or_false]at hx;rcases hx with rfl|rfl|rfl|rfl|rfl|rfl|rfl|rfl|rfl|rfl|rfl|rfl|rfl|rfl|rfl|rfl|rfl|rfl|rfl|rfl|rfl|rfl|rfl|rfl|rfl|rfl|rfl|rfl|rfl|rfl|rfl|rfl|rfl|rfl|rfl|rfl|rfl|rfl|rfl|rfl|rfl|rfl|rfl|rfl|rfl|rfl|rfl|rfl|rfl|rfl|rfl|rfl|rfl|rfl|rfl|rfl|rfl|rfl|rfl|rfl|rfl|rfl|rfl|rfl
   ·exact⟨dx,j1⟩
   ·exact⟨aj,ar⟩
   ·exact⟨ah,an⟩
   ·exact⟨au,aw⟩
   ·exact⟨de,ks⟩
   ·exact⟨iK,Iv⟩
   ·exact⟨jz,y8⟩
   ·exact⟨mc,Ix⟩
   ·exact⟨me,xO⟩
   ·exact⟨mf,BY⟩
   ·exact⟨mB,y2⟩
   ·exact⟨hW,DO⟩
   ·exact⟨jy,BT⟩
   ·exact⟨mb,DP⟩
   ·exact⟨uI,FP⟩
   ·exact⟨uJ,FQ⟩
   ·exact⟨vu,Im⟩
   ·exact⟨vv,Io⟩
   ·exact⟨vw,vN⟩
   ·exact⟨vx,Ip⟩
   ·exact⟨vy,y3⟩
   ·exact⟨vz,DQ⟩
   ·exact⟨vA,y4⟩
   ·exact⟨vB,Lf⟩
   ·exact⟨vC,DR⟩
   ·exact⟨vD,Iq⟩
   ·exact⟨vE,BU⟩
   ·exact⟨vF,FR⟩
   ·exact⟨vG,Ir⟩
   ·exact⟨vH,Lg⟩
   ·exact⟨vI,FT⟩
   ·exact⟨vJ,FU⟩
   ·exact⟨aId,vS⟩
   ·exact⟨aIe,Lh⟩
   ·exact⟨aIf,Aj⟩
   ·exact⟨aIg,FV⟩
   ·exact⟨aIh,y5⟩
   ·exact⟨aIi,Is⟩
   ·exact⟨aIj,BV⟩
   ·exact⟨aIk,DS⟩
   ·exact⟨aIl,BW⟩
   ·exact⟨aIm,Li⟩
   ·exact⟨aIn,It⟩
   ·exact⟨aIo,Iu⟩
   ·exact⟨aIp,FW⟩
   ·exact⟨aIq,FX⟩
   ·exact⟨aIr,y6⟩
   ·exact⟨aIs,Lj⟩
   ·exact⟨aIt,xN⟩
   ·exact⟨aIu,FY⟩
   ·exact⟨aIv,y7⟩
   ·exact⟨aIw,Lk⟩
   ·exact⟨aIx,DT⟩
   ·exact⟨aIy,FZ⟩
   ·exact⟨aIz,BX⟩
   ·exact⟨aIA,Iw⟩
   ·exact⟨aIB,F0⟩
   ·exact⟨aIC,DU⟩
   ·exact⟨aID,F1⟩
   ·exact⟨aIE,Ll⟩
   ·exact⟨aIF,aoZ⟩
   ·exact⟨aIG,Pb⟩
   ·exact⟨aIH,Ug⟩
   ·exact⟨aII,Uh⟩
 ·show [[aU,bd,bk,z20,z21,z22,bA,z24,bS,z26,bO,z28,bX,b2,z31,aS,bL,bY,bB,bZ,z37,cA,ct,z40,cq,cw,cN,dp,cH,z46,cE,cQ,z49,c9,z51,cx,z53,df,dq,dg,cu,dz,z59,dJ,dP,dV,dr,ed,eG,eD,eu,fb,ek,z70,fc,z72,eH,gI,z75,z76,hX,ho,hq,il]]=[r7 cT (bT z0)];rw[dM,lb];rfl
end Go.gg
namespace Go.gg
open Go Go.b9
def aeP (S:Nat->List (List Int)->List (List Int)->Prop) (K:List (List Int)->List (List Int)->Prop):Prop:=
 r3 λz0=>(ay 71 [z0]->m8 λaF=>lx λz2=>Dt 20 [z0] λz3=>oL (-9223372036854775808) 9223372036854775807 λz4=>S 440 [[z3],[64]] [[z4]]->
 ay 49 [z4,z4]/\iX 26 [z4,0] λz5=>lx λbC=>ay 80 [z5,0,z4]/\ay 22 [z0,0,z3]/\Dt 62 [z3,z4] λaX=>iX 22 [z0,0,aX] λaK=>iX 63
 [z5,0,aK] λz9=>ay 30 [z3,z4]/\ay 21 [z9,z3]/\(ay 67 [z9,z3,1]->iX 42 [z9,z3,0,128] λa8=>aB 0 3 (8*z3) 18446744073709551616 λaL=>∃
 (VU:List (List Int)->Prop) (apF:List (List Int)->Nat),VU [[((8*z3)+((-18446744073709551616)*aL))],[(z4+(-1))],[a8]]/\(a7 λaq=>lx λ
 ax=>r3 λaT=>VU [[aq],[ax],[aT]]->(rZ (decide (0<aq)) (aB 0 72057594037927935 aq 256 λbh=>ay 30 [ax,z4]/\ay 21 [aT,ax]/\(ay
 67 [aT,ax,1]->iX 42 [aT,ax,0,(aq+((-256)*bh))] λaU=>aB 0 72057594037927935 aq 256 λbd=>ay 39 [(ax+(-1)),(-1),9223372036854775807]
 /\(VU [[bd],[(ax+(-1))],[aU]]/\apF [[bd],[(ax+(-1))],[aU]]<apF [[aq],[ax],[aT]]))) (ay 22 [aT,0,z4]/\iX 22 [aT,0,z4] λbh=>K
 [[z0]] [[bh]])))))
def rws (l:List Int):List (List Int):=l.map λx=>[x]
theorem Xp {z:Int} {l:List Int} (h:ao z=rws l):bT z=l:=by
 unfold bT rws at*;rw[h,pD];exact(kU λx _=>rfl).trans (Pl l)
theorem DG (l:List Int):(rws l).length=l.length:=by simp[rws]
theorem amR (a b:List Int):rws (a++b)=rws a++rws b:=by simp[rws]
theorem acI (n:Nat) (x:Int):rws (fD n x)=fD n [x]:=by simp[rws]
def vp (v:Nat) (j:Nat):List Int:=(ht j).map λq=>((v/256^(j-1-q)% 256:Nat):Int)
theorem aGe (v j:Nat):(vp v j).length=j:=by simp[vp]
theorem anz (v j:Nat):vp v (j+1)=((v/256^j% 256:Nat):Int)::vp v j:=by
 unfold vp;rw[List.range_succ_eq_map,List.map_cons,pD];refine congr (congrArg _ (by simp)) (kU λq ak=>?_);have:q<j:=List.mem_range.1 ak;simp only[Pm];rw[show j+1-1-(q+1)=j-1-q by omega]
theorem aGd (v:Nat):∀(d j:Nat),j+d=8->v/256^j=0->Gw v=fD (8-j) 0++vp v j:=by
 have base:Gw v=vp v 8:=by
  unfold Gw vp;refine kU λq ak=>?_;have:q<8:=List.mem_range.1 ak;have e:(256:Nat)^(8-1-q)=2^(56-8*q):=by
   rw[show(256:Nat)=2^8 by rfl,<-Nat.pow_mul];congr 1;omega
  rw[e]
 intro d;induction d with
 |zero=>
  intro j aM _;have:j=8:=by omega
  subst this;simpa using base
 |succ d ih=>
  intro j aM h0;have h1:v/256^(j+1)=0:=by rw[za,<-Ph,h0]
  rw[ih (j+1) (by omega) h1,anz,h0,show 8-j=(8-(j+1))+1 by omega,aJX];simp
theorem anc {α:Type} (a b:List α) (x y:α) (n:Nat) (h:a.length=n):(a++x::b).set n y=a++y::b:=by
 subst h;induction a with
 |nil=>rfl
 |cons z a ih=>simp[ih]
theorem aio {α:Type} (a b:List α) (x d:α) (n:Nat) (h:a.length=n):(a++x::b).getD n d=x:=by
 subst h;simp[U]
theorem aCf:aeP SB (hM SB [S7] 443):=by
 intro z0 a0 b7 hp aF fV z2 e4 c1 z3 d0 d1 h3 z4 gE az h4;have hp:(ao z0).length<=1000000000:=hp;have h3:z3=((ao z0).length:Int):=h3;have h4:[[z4]]=[[Bz z3 64]]:=h4;obtain⟨n,hn⟩:∃n,(ao z0).length=n:=⟨_,rfl⟩;rw[hn]at h3 hp;have M5:(bT z0).length=n:=by rw[yf,hn]
 obtain⟨P,CH⟩:∃P,vk 64 n=P:=⟨_,rfl⟩;have aMY:P=(n+1+16+127)/128*128:=CH.symm;have h4:z4=(P:Int):=by
  have:z4=Bz z3 64:=by simpa using h4
  rw[this];unfold Bz;rw[if_neg (by omega),h3];simp only[qm];rw[show(64:Int).toNat=64 from rfl,CH]
 have g1:n+9<=P:=by omega
 have g2:P<=1000001000:=by omega
 refine⟨⟨by omega,by omega,by omega⟩,λz5 f0 f1 h5 bC i0 i1=>?_⟩;have h5:ao z5=rws (fD P 0):=by
  rw[h5];show ao (rc (fD z4.toNat [0]))=_;rw[kS,acI,h4];simp
 have yE:(ao z5).length=P:=by rw[h5,DG];simp
 refine⟨⟨di _,by omega,by rw[yE];omega⟩,⟨di _,by omega,by rw[hn];omega⟩,λaX Bp jc h7 aK u6 k1 fq z9 m0 ir ef=>?_⟩;have h7:aX=(n:Int):=by
  have:aX=min z3 z4:=h7;rw[this,h3,h4];omega
 have fq:ao aK=ao z0:=lA fq (by rw[h7,hn]);obtain⟨aQT,NS⟩:∃l:List (List Int),ao z0=l:=⟨_,rfl⟩;have ef:ao z9=ao z0++rws (0::fD (P-n-1) 0):=by
  rw[ef];show ao (rc ((ao z5).take (0:Int).toNat++ao aK++(ao z5).drop ((0:Int).toNat+(ao aK).length)))=_;rw[kS,fq,h5,hn];simp only[ael,qp,gq,zd]
  congr 1
  rw[acI,List.drop_replicate,<-List.replicate_succ,acI];rw[show P-n-1+1=P-n by omega]
 have Di:(ao z9).length=P:=by rw[ef,gY,hn,DG];simp;omega
 refine⟨⟨by omega,by omega⟩,⟨by omega,by rw[Di];omega⟩,λ_ a8 gS a6 mV aL SV o1 w7 alV=>?_⟩;have:aL=0:=by omega
 subst this;have mV:ao a8=ao z0++rws (128::fD (P-n-1) 0):=by
  rw[mV];show ao (rc ((ao z9).set z3.toNat (((ao z9).getD z3.toNat []).take (0:Int).toNat++[128]++((ao z9).getD z3.toNat []).drop ((0:Int).toNat+[(128:Int)].length))))=_;have az:rws (0::fD (P-n-1) 0)=[0]::rws (fD (P-n-1) 0):=rfl;have aI:rws (128::fD (P-n-1) 0)=[128]::rws (fD (P-n-1) 0):=rfl;have hl:(ao z0).length=z3.toNat:=by rw[hn,h3];simp
  rw[kS,ef,az,aI,aio _ _ _ _ _ hl];simp only[ael,qp,gq,aJY,tK,pJ,zd,hK];exact anc _ _ _ _ _ hl
 refine⟨λl=>∃(j:Nat) (c:Int),j<=8/\l=[[((8*n/256^j:Nat):Int)],[(P:Int)-1-j],[c]]/\ao c=ao z0++rws (128::fD (P-n-1-j) 0++vp (8*n) j),λl=>((l.getD 0 []).getD 0 0).toNat,⟨0,a8,by decide,by
  rw[Nat.pow_zero,Nat.div_one,show(8*z3+-18446744073709551616*0:Int)=((8*n:Nat):Int) by omega,show(z4+-1:Int)=(P:Int)-1-((0:Nat):Int) by omega],by rw[mV];simp[vp]⟩,?_⟩
 intro aq p0 cG ax eJ bg aT r0 r1 eg;obtain⟨j,c,aM,hl,hc⟩:=eg;simp only[qn,and_true]at hl;obtain⟨s7,zx,Ji⟩:=hl;subst Ji;have Ff:(ao aT).length=P:=by
  rw[hc,gY,hn,DG];simp only[gY,ke,UO,aGe];omega
 refine⟨λrI=>?_,λRt=>⟨⟨di _,by omega,by rw[Ff];omega⟩,λbh aH s1 qI=>⟨⟨aH,s1,trivial⟩,?_⟩⟩⟩
 ·have rI:=of_decide_eq_true rI;intro bh aH s1 s2 bn;have aM6:j<8:=by
   rcases Nat.lt_or_ge j 8 with h|h
   ·exact h
   ·have:j=8:=by omega
    subst this;have:8*n/256^8=0:=adY (by omega);omega
  refine⟨⟨by omega,by omega⟩,⟨by omega,by rw[Ff];omega⟩,λ_ aU t0 t1 Jz bd vq oR sR BQ=>?_⟩;have Rz:ao aT=ao z0++rws ((128::fD (P-n-1-j-1) 0)++0::vp (8*n) j):=by
   rw[hc];congr 2;rw[show P-n-1-j=(P-n-1-j-1)+1 by omega,aJX];simp
  have axp:ao aU=ao z0++rws ((128::fD (P-n-1-j-1) 0)++(aq+-256*bh)::vp (8*n) j):=by
   rw[Jz];show ao (rc ((ao aT).set ax.toNat (((ao aT).getD ax.toNat []).take (0:Int).toNat++[aq+-256*bh]++((ao aT).getD ax.toNat []).drop ((0:Int).toNat+[aq+-256*bh].length))))=_;have az:∀x:Int,ao z0++rws ((128::fD (P-n-1-j-1) 0)++x::vp (8*n) j)=(ao z0++rws (128::fD (P-n-1-j-1) 0))++[x]::rws (vp (8*n) j):=λx=>by
    rw[amR,mF];rfl
   have hl:(ao z0++rws (128::fD (P-n-1-j-1) 0)).length=ax.toNat:=by
    rw[gY,hn,DG];simp only[ke,UO];omega
   rw[kS,Rz,az,az,aio _ _ _ _ _ hl];simp only[ael,qp,gq,aJY,tK,pJ,zd,hK];exact anc _ _ _ _ _ hl
  have nr:bh=aq/256:=by omega
  have Ex:bd=aq/256:=by omega
  refine⟨⟨by omega,by omega⟩,⟨j+1,aU,by omega,?_,?_⟩,?_⟩
  ·rw[show bd=((8*n/256^(j+1):Nat):Int) by rw[za,<-Ph,Ex,s7];simp,show(ax+-1:Int)=(P:Int)-1-((j+1:Nat):Int) by omega]
  ·rw[axp,anz]
   congr 2
   rw[show P-n-1-(j+1)=P-n-1-j-1 by omega]
   congr 2
   rw[nr,s7];omega
  ·show bd.toNat<aq.toNat;omega
 ·have Rt:=of_decide_eq_false Rt;have h0:8*n/256^j=0:=by omega
  show bT bh=BA cT (bT z0);have qI:=lA qI (by rw[Ff,h4]);have gE:ao aT=ao z0++rws (128::fD (P-n-9) 0++Gw (8*n)):=by
   rw[hc,aGd (8*n) (8-j) j (by omega) h0]
   congr 2
   rw[show P-n-1-j=(P-n-9)+(8-j) by omega,<-List.replicate_append_replicate];simp only[List.cons_append,mF]
  unfold BA;rw[M5,show cT.w=64 from rfl,CH];unfold bT;rw[qI,gE,jE];have:=Xp (z:=rc (rws (128::fD (P-n-9) 0++Gw (8*n)))) (kS _);unfold bT at this;rw[kS]at this;rw[this];simp
end Go.gg
namespace Go.gg
open Go Go.b9
theorem ahN (p:ja):∀(j:Nat) (m:List Int),A9 p (j+1) m=A9 p j m++[Kv p (A9 p j m)]
 |0,m=>rfl
 |j+1,m=>by
  show A9 p (j+1) (m++[Kv p m])=_;rw[ahN p j];rfl
theorem ahM (p:ja):∀(j:Nat) (m:List Int),(A9 p j m).length=m.length+j
 |0,_=>rfl
 |j+1,m=>by
  show(A9 p j (m++[Kv p m])).length=_;rw[ahM p j];simp;omega
theorem amQ (p:ja):∀(m:List Int) (i:Nat) (x:Int) (v:List Int),FH p i (m++[x]) v=DK p (i+m.length) x (FH p i m v)
 |[],i,x,v=>rfl
 |y::m,i,x,v=>by
  show FH p (i+1) (m++[x]) _=DK p _ x (FH p (i+1) m _);rw[amQ p m]
  congr 1
  simp only[ke];omega
theorem aGa (m:List Int) (i:Nat) (h:i<m.length):m.take (i+1)=m.take i++[m.getD i 0]:=by
 rw[List.take_add_one,pF h];simp[U,h]
theorem ayO {r:List Int} (h:r.length=8):r=[r.getD 0 0,r.getD 1 0,r.getD 2 0,r.getD 3 0,r.getD 4 0,r.getD 5 0,r.getD 6 0,r.getD 7 0]:=Yr r 8 h
theorem rD {c z x:Int} {l:List Int} (h:z=bM 23 [c,x]) (hc:ao c=rws l):ao z=rws (l++[x]):=by
 rw[h];show ao (rc (ao c++[[x]]))=_;rw[kS,hc,amR];rfl
theorem ML {c i z:Int} {l:List Int} (h:z=bM 21 [c,i,0]) (hc:ao c=rws l):z=l.getD i.toNat 0:=by
 rw[ee h,Xp hc]
theorem Z8 {lo hi:Int}:∀(n:Nat) (l:List Int),ab (ai lo hi n) l->l.length=n/\∀x∈l,lo<=x/\x<=hi
 |0,[],_=>⟨rfl,λ_ h=>by cases h⟩
 |n+1,x::l,h=>by
  obtain⟨h1,h2⟩:=Z8 n l h.2.2;refine⟨by simp[h1],λy hy=>?_⟩;rcases List.mem_cons.1 hy with rfl|hy
  ·exact⟨h.1,h.2.1⟩
  ·exact h2 y hy
 |0,_::_,h=>h.elim
 |_+1,[],h=>h.elim
theorem as1 (b:List Int) (o n k:Nat) (af:k<n):((b.drop o).take n).getD k 0=b.getD (o+k) 0:=by
 simp only[U,List.getElem?_take,Cj,af,if_true]
theorem FM {x c l k:Int} {pre:List Int} {Next:Int->Int->Int->Prop} (hc:ao c=rws pre) (hl:l=(pre.length:Int)) (hb:pre.length<=1000)
 (hn:∀e3 l' bI:Int,0<=e3->e3<=b6->ao e3=rws (pre++(ht 8).map (yg cT x))->l'=((pre.length+8:Nat):Int)->Next e3 l' bI):
 ∃(mi:List (List Int)->Prop) (o5:List (List Int)->Nat),mi [[7],[c],[l],[k]]/\(∀aT:Int,(-1)<=aT->aT<=7->∀bh:Int,0<=bh->bh<=b6->∀aU:Int,0<=aU->aU<=9223372036854775807->∀bd:Int,(-1)<=bd->bd<=9223372036854775807->mi [[aT],[bh],[aU],[bd]]->
 (((decide (0<=aT))=true->
  ∀bk:Int,0<=bk->bk<=18446744073709551615->bk=x/2^((8*aT)).toNat->
  ∀z20:Int,0<=z20->z20<=72057594037927935->0<=bk-256*z20->bk-256*z20<256->
  ay 31 [bh,aU]/\
  ay 23 [bh,1]/\
  ∀z21:Int,0<=z21->z21<=b6->z21=bM 23 [bh,(bk+((-256)*z20))]->
  ∀z22:Int,(-1)<=z22->z22<=9223372036854775807->
  (mi [[(aT+(-1))],[z21],[(aU+1)],[z22]]/\o5 [[(aT+(-1))],[z21],[(aU+1)],[z22]]<o5 [[aT],[bh],[aU],[bd]])
 )/\((decide (0<=aT))=false->Next bh aU bd))):=by
 refine⟨λl=>∃(j:Nat) (e3 bI:Int),j<=8/\l=[[7-(j:Int)],[e3],[((pre.length+j:Nat):Int)],[bI]]/\ao e3=rws (pre++(ht j).map (yg cT x)),λl=>((l.getD 0 []).getD 0 0+1).toNat,⟨0,c,k,by decide,by rw[hl];rfl,by rw[hc];simp⟩,?_⟩;intro aT a0 b7 bh fV ca aU e4 c1 bd d0 d1 ⟨j,e3,bI,aM,e,hr⟩;simp only[qn,and_true]at e;obtain⟨az,aI,cn,iC⟩:=e;subst aI;have hlen:(ao bh).length=pre.length+j:=by rw[hr,DG];simp
 refine⟨λh bk f0 f1 f2 z20 g0 g1 g2 g3=>?_,λh=>?_⟩
 ·have h:=of_decide_eq_true h;refine⟨by show aU=((ao bh).length:Int);rw[hlen,cn],by show(ao bh).length+(1:Int)<=1073741824;rw[hlen];omega,λz21 i0 i1 i2 z22 Bp jc=>⟨⟨j+1,z21,z22,by omega,?_,?_⟩,?_⟩⟩
  ·rw[show aT+-1=7-((j+1:Nat):Int) by omega,show aU+1=((pre.length+(j+1):Nat):Int) by omega]
  ·rw[rD i2 hr,mF,List.range_succ,jE]
   congr 3
   show [bk+-256*z20]=[x/2^(64-8-8*j)% 256];have:(8*aT).toNat=64-8-8*j:=by omega
   rw[<-this,<-f2]
   congr 1;omega
  ·show(aT+-1+1).toNat<(aT+1).toNat;omega
 ·have h:=of_decide_eq_false h;have:j=8:=by omega
  subst this;exact hn bh aU bd fV ca hr cn
end Go.gg
namespace Go.gg
open Go Go.b9
theorem aly {L S M k:Int} (h:L=S-M*k) (h1:0<=L) (h2:L<M):L=S% M:=by
 have e:S=L+M*k:=by omega
 rw[e,xW,mD h1 h2]
end Go.gg
namespace Go.gg
open Go Go.b9
def aex (S:Nat->List (List Int)->List (List Int)->Prop) (K:List (List Int)->List (List Int)->Prop):Prop:=
 r3 λz0=>(ay 73 [z0]->m8 λaF=>lx λz2=>Dt 20 [z0] λz3=>ay 70 [z3,128]/\∃(V3:List (List Int)->Prop) (apO:List (List Int)->
 Nat),V3
 [[7640891576956012808,13503953896175478587,4354685564936845355,11912009170470909681,5840696475078001361,11170449401992604703,2270897969802886507,6620516959819538809],[0]]
 /\(∀aE:List Int,ab (ai 0 18446744073709551615 8) aE->Ac λaq=>V3 [aE,[aq]]->(rZ (decide ((128*aq)<z3)) (ay 21 [z0,(128*aq)]/\bf 21
 [z0,(128*aq),0] λax=>ay 21 [z0,((128*aq)+1)]/\bf 21 [z0,((128*aq)+1),0] λaT=>ay 21 [z0,((128*aq)+2)]/\bf 21 [z0,((128*
 aq)+2),0] λbh=>ay 21 [z0,((128*aq)+3)]/\bf 21 [z0,((128*aq)+3),0] λaU=>ay 21 [z0,((128*aq)+4)]/\bf 21 [z0,((128*aq)+
 4),0] λbd=>ay 21 [z0,((128*aq)+5)]/\bf 21 [z0,((128*aq)+5),0] λbk=>ay 21 [z0,((128*aq)+6)]/\bf 21 [z0,((128*aq)+6),0]
 λz20=>ay 21 [z0,((128*aq)+7)]/\bf 21 [z0,((128*aq)+7),0] λz21=>ay 21 [z0,((128*aq)+8)]/\bf 21 [z0,((128*aq)+8),0] λz22
 =>ay 21 [z0,((128*aq)+9)]/\bf 21 [z0,((128*aq)+9),0] λbA=>ay 21 [z0,((128*aq)+10)]/\bf 21 [z0,((128*aq)+10),0] λz24=>
 ay 21 [z0,((128*aq)+11)]/\bf 21 [z0,((128*aq)+11),0] λbS=>ay 21 [z0,((128*aq)+12)]/\bf 21 [z0,((128*aq)+12),0] λz26=>
 ay 21 [z0,((128*aq)+13)]/\bf 21 [z0,((128*aq)+13),0] λbO=>ay 21 [z0,((128*aq)+14)]/\bf 21 [z0,((128*aq)+14),0] λz28=>
 ay 21 [z0,((128*aq)+15)]/\bf 21 [z0,((128*aq)+15),0] λbX=>ay 21 [z0,((128*aq)+16)]/\bf 21 [z0,((128*aq)+16),0] λb2=>
 ay 21 [z0,((128*aq)+17)]/\bf 21 [z0,((128*aq)+17),0] λz31=>ay 21 [z0,((128*aq)+18)]/\bf 21 [z0,((128*aq)+18),0] λaS=>
 ay 21 [z0,((128*aq)+19)]/\bf 21 [z0,((128*aq)+19),0] λbL=>ay 21 [z0,((128*aq)+20)]/\bf 21 [z0,((128*aq)+20),0] λbY=>
 ay 21 [z0,((128*aq)+21)]/\bf 21 [z0,((128*aq)+21),0] λbB=>ay 21 [z0,((128*aq)+22)]/\bf 21 [z0,((128*aq)+22),0] λbZ=>
 ay 21 [z0,((128*aq)+23)]/\bf 21 [z0,((128*aq)+23),0] λz37=>ay 21 [z0,((128*aq)+24)]/\bf 21 [z0,((128*aq)+24),0] λcA=>
 ay 21 [z0,((128*aq)+25)]/\bf 21 [z0,((128*aq)+25),0] λct=>ay 21 [z0,((128*aq)+26)]/\bf 21 [z0,((128*aq)+26),0] λz40=>
 ay 21 [z0,((128*aq)+27)]/\bf 21 [z0,((128*aq)+27),0] λcq=>ay 21 [z0,((128*aq)+28)]/\bf 21 [z0,((128*aq)+28),0] λcw=>
 ay 21 [z0,((128*aq)+29)]/\bf 21 [z0,((128*aq)+29),0] λcN=>ay 21 [z0,((128*aq)+30)]/\bf 21 [z0,((128*aq)+30),0] λdp=>
 ay 21 [z0,((128*aq)+31)]/\bf 21 [z0,((128*aq)+31),0] λcH=>ay 21 [z0,((128*aq)+32)]/\bf 21 [z0,((128*aq)+32),0] λz46=>
 ay 21 [z0,((128*aq)+33)]/\bf 21 [z0,((128*aq)+33),0] λcE=>ay 21 [z0,((128*aq)+34)]/\bf 21 [z0,((128*aq)+34),0] λcQ=>
 ay 21 [z0,((128*aq)+35)]/\bf 21 [z0,((128*aq)+35),0] λz49=>ay 21 [z0,((128*aq)+36)]/\bf 21 [z0,((128*aq)+36),0] λc9=>
 ay 21 [z0,((128*aq)+37)]/\bf 21 [z0,((128*aq)+37),0] λz51=>ay 21 [z0,((128*aq)+38)]/\bf 21 [z0,((128*aq)+38),0] λcx=>
 ay 21 [z0,((128*aq)+39)]/\bf 21 [z0,((128*aq)+39),0] λz53=>ay 21 [z0,((128*aq)+40)]/\bf 21 [z0,((128*aq)+40),0] λdf=>
 ay 21 [z0,((128*aq)+41)]/\bf 21 [z0,((128*aq)+41),0] λdq=>ay 21 [z0,((128*aq)+42)]/\bf 21 [z0,((128*aq)+42),0] λdg=>
 ay 21 [z0,((128*aq)+43)]/\bf 21 [z0,((128*aq)+43),0] λcu=>ay 21 [z0,((128*aq)+44)]/\bf 21 [z0,((128*aq)+44),0] λdz=>
 ay 21 [z0,((128*aq)+45)]/\bf 21 [z0,((128*aq)+45),0] λz59=>ay 21 [z0,((128*aq)+46)]/\bf 21 [z0,((128*aq)+46),0] λdJ=>
 ay 21 [z0,((128*aq)+47)]/\bf 21 [z0,((128*aq)+47),0] λdP=>ay 21 [z0,((128*aq)+48)]/\bf 21 [z0,((128*aq)+48),0] λdV=>
 ay 21 [z0,((128*aq)+49)]/\bf 21 [z0,((128*aq)+49),0] λdr=>ay 21 [z0,((128*aq)+50)]/\bf 21 [z0,((128*aq)+50),0] λed=>
 ay 21 [z0,((128*aq)+51)]/\bf 21 [z0,((128*aq)+51),0] λeG=>ay 21 [z0,((128*aq)+52)]/\bf 21 [z0,((128*aq)+52),0] λeD=>
 ay 21 [z0,((128*aq)+53)]/\bf 21 [z0,((128*aq)+53),0] λeu=>ay 21 [z0,((128*aq)+54)]/\bf 21 [z0,((128*aq)+54),0] λfb=>
 ay 21 [z0,((128*aq)+55)]/\bf 21 [z0,((128*aq)+55),0] λek=>ay 21 [z0,((128*aq)+56)]/\bf 21 [z0,((128*aq)+56),0] λz70=>
 ay 21 [z0,((128*aq)+57)]/\bf 21 [z0,((128*aq)+57),0] λfc=>ay 21 [z0,((128*aq)+58)]/\bf 21 [z0,((128*aq)+58),0] λz72=>
 ay 21 [z0,((128*aq)+59)]/\bf 21 [z0,((128*aq)+59),0] λeH=>ay 21 [z0,((128*aq)+60)]/\bf 21 [z0,((128*aq)+60),0] λgI=>
 ay 21 [z0,((128*aq)+61)]/\bf 21 [z0,((128*aq)+61),0] λz75=>ay 21 [z0,((128*aq)+62)]/\bf 21 [z0,((128*aq)+62),0] λz76=>
 ay 21 [z0,((128*aq)+63)]/\bf 21 [z0,((128*aq)+63),0] λhX=>ay 21 [z0,((128*aq)+64)]/\bf 21 [z0,((128*aq)+64),0] λho=>
 ay 21 [z0,((128*aq)+65)]/\bf 21 [z0,((128*aq)+65),0] λhq=>ay 21 [z0,((128*aq)+66)]/\bf 21 [z0,((128*aq)+66),0] λil=>
 ay 21 [z0,((128*aq)+67)]/\bf 21 [z0,((128*aq)+67),0] λj2=>ay 21 [z0,((128*aq)+68)]/\bf 21 [z0,((128*aq)+68),0] λji=>
 ay 21 [z0,((128*aq)+69)]/\bf 21 [z0,((128*aq)+69),0] λhZ=>ay 21 [z0,((128*aq)+70)]/\bf 21 [z0,((128*aq)+70),0] λjA=>
 ay 21 [z0,((128*aq)+71)]/\bf 21 [z0,((128*aq)+71),0] λz85=>ay 21 [z0,((128*aq)+72)]/\bf 21 [z0,((128*aq)+72),0] λjj=>
 ay 21 [z0,((128*aq)+73)]/\bf 21 [z0,((128*aq)+73),0] λz87=>ay 21 [z0,((128*aq)+74)]/\bf 21 [z0,((128*aq)+74),0] λku=>
 ay 21 [z0,((128*aq)+75)]/\bf 21 [z0,((128*aq)+75),0] λjk=>ay 21 [z0,((128*aq)+76)]/\bf 21 [z0,((128*aq)+76),0] λkT=>
 ay 21 [z0,((128*aq)+77)]/\bf 21 [z0,((128*aq)+77),0] λz91=>ay 21 [z0,((128*aq)+78)]/\bf 21 [z0,((128*aq)+78),0] λjB=>
 ay 21 [z0,((128*aq)+79)]/\bf 21 [z0,((128*aq)+79),0] λz93=>ay 21 [z0,((128*aq)+80)]/\bf 21 [z0,((128*aq)+80),0] λlj=>
 ay 21 [z0,((128*aq)+81)]/\bf 21 [z0,((128*aq)+81),0] λmg=>ay 21 [z0,((128*aq)+82)]/\bf 21 [z0,((128*aq)+82),0] λq9=>
 ay 21 [z0,((128*aq)+83)]/\bf 21 [z0,((128*aq)+83),0] λsT=>ay 21 [z0,((128*aq)+84)]/\bf 21 [z0,((128*aq)+84),0] λsc=>
 ay 21 [z0,((128*aq)+85)]/\bf 21 [z0,((128*aq)+85),0] λmC=>ay 21 [z0,((128*aq)+86)]/\bf 21 [z0,((128*aq)+86),0] λoT=>
 ay 21 [z0,((128*aq)+87)]/\bf 21 [z0,((128*aq)+87),0] λvW=>ay 21 [z0,((128*aq)+88)]/\bf 21 [z0,((128*aq)+88),0] λvX=>
 ay 21 [z0,((128*aq)+89)]/\bf 21 [z0,((128*aq)+89),0] λvY=>ay 21 [z0,((128*aq)+90)]/\bf 21 [z0,((128*aq)+90),0] λvZ=>
 ay 21 [z0,((128*aq)+91)]/\bf 21 [z0,((128*aq)+91),0] λz105=>ay 21 [z0,((128*aq)+92)]/\bf 21 [z0,((128*aq)+92),0] λv7=>
 ay 21 [z0,((128*aq)+93)]/\bf 21 [z0,((128*aq)+93),0] λz107=>ay 21 [z0,((128*aq)+94)]/\bf 21 [z0,((128*aq)+94),0] λB0=>
 ay 21 [z0,((128*aq)+95)]/\bf 21 [z0,((128*aq)+95),0] λz109=>ay 21 [z0,((128*aq)+96)]/\bf 21 [z0,((128*aq)+96),0] λB1=>
 ay 21 [z0,((128*aq)+97)]/\bf 21 [z0,((128*aq)+97),0] λB2=>ay 21 [z0,((128*aq)+98)]/\bf 21 [z0,((128*aq)+98),0] λAl=>
 ay 21 [z0,((128*aq)+99)]/\bf 21 [z0,((128*aq)+99),0] λAm=>ay 21 [z0,((128*aq)+100)]/\bf 21 [z0,((128*aq)+100),0] λv8=>
 ay 21 [z0,((128*aq)+101)]/\bf 21 [z0,((128*aq)+101),0] λwa=>ay 21 [z0,((128*aq)+102)]/\bf 21 [z0,((128*aq)+102),0] λz116
 =>ay 21 [z0,((128*aq)+103)]/\bf 21 [z0,((128*aq)+103),0] λz117=>ay 21 [z0,((128*aq)+104)]/\bf 21 [z0,((128*aq)+104),0] λ
 wc=>ay 21 [z0,((128*aq)+105)]/\bf 21 [z0,((128*aq)+105),0] λz119=>ay 21 [z0,((128*aq)+106)]/\bf 21 [z0,((128*aq)+106),0]
 λAn=>ay 21 [z0,((128*aq)+107)]/\bf 21 [z0,((128*aq)+107),0] λAo=>ay 21 [z0,((128*aq)+108)]/\bf 21 [z0,((128*aq)+
 108),0] λAp=>ay 21 [z0,((128*aq)+109)]/\bf 21 [z0,((128*aq)+109),0] λAq=>ay 21 [z0,((128*aq)+110)]/\bf 21 [z0,((128*aq)
 +110),0] λz124=>ay 21 [z0,((128*aq)+111)]/\bf 21 [z0,((128*aq)+111),0] λAr=>ay 21 [z0,((128*aq)+112)]/\bf 21 [z0,((128*
 aq)+112),0] λAs=>ay 21 [z0,((128*aq)+113)]/\bf 21 [z0,((128*aq)+113),0] λz127=>ay 21 [z0,((128*aq)+114)]/\bf 21 [z0,((128
 *aq)+114),0] λDV=>ay 21 [z0,((128*aq)+115)]/\bf 21 [z0,((128*aq)+115),0] λB3=>ay 21 [z0,((128*aq)+116)]/\bf 21
 [z0,((128*aq)+116),0] λz130=>ay 21 [z0,((128*aq)+117)]/\bf 21 [z0,((128*aq)+117),0] λz131=>ay 21 [z0,((128*aq)+118)]/\bf
 21 [z0,((128*aq)+118),0] λB4=>ay 21 [z0,((128*aq)+119)]/\bf 21 [z0,((128*aq)+119),0] λpC=>ay 21 [z0,((128*aq)+120)]/\
 bf 21 [z0,((128*aq)+120),0] λB5=>ay 21 [z0,((128*aq)+121)]/\bf 21 [z0,((128*aq)+121),0] λB6=>ay 21 [z0,((128*aq)+122)]
 /\bf 21 [z0,((128*aq)+122),0] λB7=>ay 21 [z0,((128*aq)+123)]/\bf 21 [z0,((128*aq)+123),0] λB8=>ay 21 [z0,((128*aq)+
 124)]/\bf 21 [z0,((128*aq)+124),0] λz138=>ay 21 [z0,((128*aq)+125)]/\bf 21 [z0,((128*aq)+125),0] λz139=>ay 21 [z0,((128*aq)
 +126)]/\bf 21 [z0,((128*aq)+126),0] λB9=>ay 21 [z0,((128*aq)+127)]/\bf 21 [z0,((128*aq)+127),0] λz141=>iX 23
 [0,((72057594037927936*ax)+((281474976710656*aT)+((1099511627776*bh)+((4294967296*aU)+((16777216*bd)+((65536*bk)+((256*z20)+
 z21)))))))] λLm=>iX 23 [Lm,((72057594037927936*z22)+((281474976710656*bA)+((1099511627776*z24)+((4294967296*bS)+((16777216*z26)+
 ((65536*bO)+((256*z28)+bX)))))))] λz143=>iX 23 [z143,((72057594037927936*b2)+((281474976710656*z31)+((1099511627776*aS)+
 ((4294967296*bL)+((16777216*bY)+((65536*bB)+((256*bZ)+z37)))))))] λLn=>iX 23 [Ln,((72057594037927936*cA)+((281474976710656*
 ct)+((1099511627776*z40)+((4294967296*cq)+((16777216*cw)+((65536*cN)+((256*dp)+cH)))))))] λz145=>iX 23
 [z145,((72057594037927936*z46)+((281474976710656*cE)+((1099511627776*cQ)+((4294967296*z49)+((16777216*c9)+((65536*z51)+((256*cx)+
 z53)))))))] λz146=>iX 23 [z146,((72057594037927936*df)+((281474976710656*dq)+((1099511627776*dg)+((4294967296*cu)+((16777216*dz)+
 ((65536*z59)+((256*dJ)+dP)))))))] λLo=>iX 23 [Lo,((72057594037927936*dV)+((281474976710656*dr)+((1099511627776*ed)+
 ((4294967296*eG)+((16777216*eD)+((65536*eu)+((256*fb)+ek)))))))] λz148=>iX 23 [z148,((72057594037927936*z70)+((281474976710656*
 fc)+((1099511627776*z72)+((4294967296*eH)+((16777216*gI)+((65536*z75)+((256*z76)+hX)))))))] λLp=>iX 23
 [Lp,((72057594037927936*ho)+((281474976710656*hq)+((1099511627776*il)+((4294967296*j2)+((16777216*ji)+((65536*hZ)+((256*jA)+
 z85)))))))] λLq=>iX 23 [Lq,((72057594037927936*jj)+((281474976710656*z87)+((1099511627776*ku)+((4294967296*jk)+((16777216*kT)+
 ((65536*z91)+((256*jB)+z93)))))))] λLr=>iX 23 [Lr,((72057594037927936*lj)+((281474976710656*mg)+((1099511627776*q9)+
 ((4294967296*sT)+((16777216*sc)+((65536*mC)+((256*oT)+vW)))))))] λz152=>iX 23 [z152,((72057594037927936*vX)+((281474976710656
 *vY)+((1099511627776*vZ)+((4294967296*z105)+((16777216*v7)+((65536*z107)+((256*B0)+z109)))))))] λLs=>iX 23
 [Ls,((72057594037927936*B1)+((281474976710656*B2)+((1099511627776*Al)+((4294967296*Am)+((16777216*v8)+((65536*wa)+((256*
 z116)+z117)))))))] λz154=>iX 23 [z154,((72057594037927936*wc)+((281474976710656*z119)+((1099511627776*An)+((4294967296*Ao)+
 ((16777216*Ap)+((65536*Aq)+((256*z124)+Ar)))))))] λLt=>iX 23 [Lt,((72057594037927936*As)+((281474976710656*z127)+
 ((1099511627776*DV)+((4294967296*B3)+((16777216*z130)+((65536*z131)+((256*B4)+pC)))))))] λz156=>iX 23 [z156,((72057594037927936
 *B5)+((281474976710656*B6)+((1099511627776*B7)+((4294967296*B8)+((16777216*z138)+((65536*z139)+((256*B9)+z141)))))))] λ
 z157=>ay 66 [z157]/\r3 λAt=>S 463 [[z157]] [[At]]->lx λz159=>Dt 20 [At] λz160=>∃(VW:List (List Int)->Prop) (apH:List
 (List Int)->Nat),VW [[16],[At],[z160],[z159]]/\(oL 16 9223372036854775807 λz162=>r3 λod=>Ac λz164=>lx λwe=>VW
 [[z162],[od],[z164],[we]]->(rZ (decide (z162<80)) (ay 30 [(z162+(-16)),z164]/\ay 21 [od,(z162+(-16))]/\OD 21 [od,(z162+(-16)),0] λ
 Lu=>ay 30 [(z162+(-15)),z164]/\ay 21 [od,(z162+(-15))]/\OD 21 [od,(z162+(-15)),0] λz167=>a7 λz168=>S 450 [[z167]] [[z168]]->bz
 (Lu+z168) 18446744073709551616 λPc=>ay 30 [(z162+(-7)),z164]/\ay 21 [od,(z162+(-7))]/\OD 21 [od,(z162+(-7)),0] λPd=>bz (Lu
 +(z168+(((-18446744073709551616)*Pc)+Pd))) 18446744073709551616 λz171=>ay 30 [(z162+(-2)),z164]/\ay 21 [od,(z162+(-2))]/\OD 21
 [od,(z162+(-2)),0] λadR=>a7 λz173=>S 451 [[adR]] [[z173]]->bz (Lu+(z168+(((-18446744073709551616)*Pc)+(Pd+
 (((-18446744073709551616)*z171)+z173))))) 18446744073709551616 λadS=>ay 31 [od,z164]/\ay 23 [od,1]/\iX 23 [od,(Lu+(z168+
 (((-18446744073709551616)*Pc)+(Pd+(((-18446744073709551616)*z171)+(z173+((-18446744073709551616)*adS)))))))] λz175=>lx λoe=>(VW
 [[(z162+1)],[z175],[(z164+1)],[oe]]/\apH [[(z162+1)],[z175],[(z164+1)],[oe]]<apH [[z162],[od],[z164],[we]])) (∃(VX:List (List Int)->
 Prop) (apI:List (List Int)->Nat),VX [aE,[0]]/\(∀dn:List Int,ab (ai 0 18446744073709551615 8) dn->Ac λz175=>VX [dn,[z175]]->(rZ
 (decide (z175<z164)) (ay 30 [z175,z164]/\ay 21 [od,z175]/\OD 21 [od,z175,0] λoe=>a7 λoU=>S 449 [[(U dn 4 0)]] [[oU]]->
 bz ((U dn 7 0)+oU) 18446744073709551616 λsb=>m8 λDW=>DW<=o0 .u64->DW=eR .and .u64 (U dn 4 0) (U
 dn 5 0)->m8 λDX=>DX<=o0 .u64->DX=eR .and .u64 (((-1)*(U dn 4 0))+18446744073709551615) (U dn 6 0)->m8
 λoV=>oV<=o0 .u64->oV=eR .xor .u64 DW DX->bz ((U dn 7 0)+(oU+(((-18446744073709551616)*sb)+oV)))
 18446744073709551616 λz182=>ay 39 [z175,0,79]/\a7 λz183=>S 467 [[z175]] [[z183]]->bz ((U dn 7 0)+(oU+(((-18446744073709551616)*
 sb)+(oV+(((-18446744073709551616)*z182)+z183))))) 18446744073709551616 λAu=>bz ((U dn 7 0)+(oe+(oU+
 (((-18446744073709551616)*sb)+(oV+(((-18446744073709551616)*z182)+(z183+((-18446744073709551616)*Au)))))))) 18446744073709551616 λCa=>
 a7 λCb=>S 448 [[(U dn 0 0)]] [[Cb]]->m8 λUi=>Ui<=o0 .u64->Ui=eR .and .u64 (U dn 0 0) (U dn 1
 0)->m8 λUj=>Uj<=o0 .u64->Uj=eR .and .u64 (U dn 0 0) (U dn 2 0)->m8 λUk=>Uk<=o0 .u64->Uk
 =eR .xor .u64 Ui Uj->m8 λUl=>Ul<=o0 .u64->Ul=eR .and .u64 (U dn 1 0) (U dn 2 0)->m8 λAv=>Av<=
 o0 .u64->Av=eR .xor .u64 Uk Ul->bz (Cb+Av) 18446744073709551616 λLv=>gp λz193=>0<=((U dn 3 0)+((U
 dn 7 0)+(oe+(oU+(((-18446744073709551616)*sb)+(oV+(((-18446744073709551616)*z182)+(z183+(((-18446744073709551616)*Au)+
 ((-18446744073709551616)*Ca))))))))))-18446744073709551616*z193->((U dn 3 0)+((U dn 7 0)+(oe+(oU+
 (((-18446744073709551616)*sb)+(oV+(((-18446744073709551616)*z182)+(z183+(((-18446744073709551616)*Au)+((-18446744073709551616)*
 Ca))))))))))-18446744073709551616*z193<18446744073709551616->gp λz194=>0<=((U dn 7 0)+(oe+(oU+(((-18446744073709551616)*
 sb)+(oV+(((-18446744073709551616)*z182)+(z183+(((-18446744073709551616)*Au)+(((-18446744073709551616)*Ca)+(Cb+(Av+
 ((-18446744073709551616)*Lv))))))))))))-18446744073709551616*z194->((U dn 7 0)+(oe+(oU+(((-18446744073709551616)*sb)+(oV+
 (((-18446744073709551616)*z182)+(z183+(((-18446744073709551616)*Au)+(((-18446744073709551616)*Ca)+(Cb+(Av+((-18446744073709551616)*
 Lv))))))))))))-18446744073709551616*z194<18446744073709551616->bz (z175+9223372036854775809) 18446744073709551616 λAw=>ay 39 [((z175+
 ((-18446744073709551616)*Aw))+1),0,9223372036854775807]/\(VX [[((U dn 7 0)+(oe+(oU+(((-18446744073709551616)*sb)+(oV+
 (((-18446744073709551616)*z182)+(z183+(((-18446744073709551616)*Au)+(((-18446744073709551616)*Ca)+(Cb+(Av+(((-18446744073709551616)*
 Lv)+((-18446744073709551616)*z194))))))))))))),(U dn 0 0),(U dn 1 0),(U dn 2 0),((U dn 3 0)+((U dn 7 0)
 +(oe+(oU+(((-18446744073709551616)*sb)+(oV+(((-18446744073709551616)*z182)+(z183+(((-18446744073709551616)*Au)+
 (((-18446744073709551616)*Ca)+((-18446744073709551616)*z193))))))))))),(U dn 4 0),(U dn 5 0),(U dn 6 0)],[((z175+
 ((-18446744073709551616)*Aw))+1)]]/\apI [[((U dn 7 0)+(oe+(oU+(((-18446744073709551616)*sb)+(oV+(((-18446744073709551616)
 *z182)+(z183+(((-18446744073709551616)*Au)+(((-18446744073709551616)*Ca)+(Cb+(Av+(((-18446744073709551616)*Lv)+
 ((-18446744073709551616)*z194))))))))))))),(U dn 0 0),(U dn 1 0),(U dn 2 0),((U dn 3 0)+((U dn 7 0)+(oe
 +(oU+(((-18446744073709551616)*sb)+(oV+(((-18446744073709551616)*z182)+(z183+(((-18446744073709551616)*Au)+(((-18446744073709551616)*
 Ca)+((-18446744073709551616)*z193))))))))))),(U dn 4 0),(U dn 5 0),(U dn 6 0)],[((z175+((-18446744073709551616)*Aw))+
 1)]]<apI [dn,[z175]])) (bz ((U aE 0 0)+(U dn 0 0)) 18446744073709551616 λoe=>bz ((U aE 1 0)+(U dn 1 0))
 18446744073709551616 λoU=>bz ((U aE 2 0)+(U dn 2 0)) 18446744073709551616 λsb=>bz ((U aE 3 0)+(U dn 3 0))
 18446744073709551616 λDW=>bz ((U aE 4 0)+(U dn 4 0)) 18446744073709551616 λDX=>bz ((U aE 5 0)+(U dn 5 0))
 18446744073709551616 λoV=>bz ((U aE 6 0)+(U dn 6 0)) 18446744073709551616 λz182=>bz ((U aE 7 0)+(U dn 7 0))
 18446744073709551616 λz183=>(V3 [[((U aE 0 0)+((U dn 0 0)+((-18446744073709551616)*oe))),((U aE 1 0)+((U dn 1
 0)+((-18446744073709551616)*oU))),((U aE 2 0)+((U dn 2 0)+((-18446744073709551616)*sb))),((U aE 3 0)+((U dn 3
 0)+((-18446744073709551616)*DW))),((U aE 4 0)+((U dn 4 0)+((-18446744073709551616)*DX))),((U aE 5 0)+((U dn 5
 0)+((-18446744073709551616)*oV))),((U aE 6 0)+((U dn 6 0)+((-18446744073709551616)*z182))),((U aE 7 0)+((U dn 7
 0)+((-18446744073709551616)*z183)))],[(aq+1)]]/\apO [[((U aE 0 0)+((U dn 0 0)+((-18446744073709551616)*oe))),((U aE 1
 0)+((U dn 1 0)+((-18446744073709551616)*oU))),((U aE 2 0)+((U dn 2 0)+((-18446744073709551616)*sb))),((U aE 3
 0)+((U dn 3 0)+((-18446744073709551616)*DW))),((U aE 4 0)+((U dn 4 0)+((-18446744073709551616)*DX))),((U aE 5
 0)+((U dn 5 0)+((-18446744073709551616)*oV))),((U aE 6 0)+((U dn 6 0)+((-18446744073709551616)*z182))),((U aE 7
 0)+((U dn 7 0)+((-18446744073709551616)*z183)))],[(aq+1)]]<apO [aE,[aq]])))))))) (∃(VV:List (List Int)->Prop) (apG:List (List Int)
 ->Nat),VV [[7],[0],[0],[(-1)]]/\(oL (-1) 7 λaT=>r3 λbh=>Ac λaU=>lx λbd=>VV [[aT],[bh],[aU],[bd]]->(rZ (decide (0<=aT)) (a7
 λbk=>bk=(U aE 0 0)/2^((8*aT)).toNat->aB 0 72057594037927935 bk 256 λz20=>ay 31 [bh,aU]/\ay 23 [bh,1]/\iX 23 [bh,(bk
 +((-256)*z20))] λz21=>lx λz22=>(VV [[(aT+(-1))],[z21],[(aU+1)],[z22]]/\apG [[(aT+(-1))],[z21],[(aU+1)],[z22]]<apG
 [[aT],[bh],[aU],[bd]])) (∃(VY:List (List Int)->Prop) (apJ:List (List Int)->Nat),VY [[7],[bh],[aU],[bd]]/\(oL (-1) 7 λz20=>r3 λz21=>
 Ac λz22=>lx λbA=>VY [[z20],[z21],[z22],[bA]]->(rZ (decide (0<=z20)) (a7 λz24=>z24=(U aE 1 0)/2^((8*z20)).toNat->aB 0
 72057594037927935 z24 256 λbS=>ay 31 [z21,z22]/\ay 23 [z21,1]/\iX 23 [z21,(z24+((-256)*bS))] λz26=>lx λbO=>(VY [[(z20+
 (-1))],[z26],[(z22+1)],[bO]]/\apJ [[(z20+(-1))],[z26],[(z22+1)],[bO]]<apJ [[z20],[z21],[z22],[bA]])) (∃(VZ:List (List Int)->Prop) (apK:List
 (List Int)->Nat),VZ [[7],[z21],[z22],[bA]]/\(oL (-1) 7 λbS=>r3 λz26=>Ac λbO=>lx λz28=>VZ [[bS],[z26],[bO],[z28]]->(rZ (decide (0
 <=bS)) (a7 λbX=>bX=(U aE 2 0)/2^((8*bS)).toNat->aB 0 72057594037927935 bX 256 λb2=>ay 31 [z26,bO]/\ay 23 [z26,1]/\iX
 23 [z26,(bX+((-256)*b2))] λz31=>lx λaS=>(VZ [[(bS+(-1))],[z31],[(bO+1)],[aS]]/\apK [[(bS+(-1))],[z31],[(bO+1)],[aS]]<apK
 [[bS],[z26],[bO],[z28]])) (∃(V0:List (List Int)->Prop) (apL:List (List Int)->Nat),V0 [[7],[z26],[bO],[z28]]/\(oL (-1) 7 λb2=>r3 λz31=>
 Ac λaS=>lx λbL=>V0 [[b2],[z31],[aS],[bL]]->(rZ (decide (0<=b2)) (a7 λbY=>bY=(U aE 3 0)/2^((8*b2)).toNat->aB 0
 72057594037927935 bY 256 λbB=>ay 31 [z31,aS]/\ay 23 [z31,1]/\iX 23 [z31,(bY+((-256)*bB))] λbZ=>lx λz37=>(V0 [[(b2+
 (-1))],[bZ],[(aS+1)],[z37]]/\apL [[(b2+(-1))],[bZ],[(aS+1)],[z37]]<apL [[b2],[z31],[aS],[bL]])) (∃(V1:List (List Int)->Prop) (apM:List
 (List Int)->Nat),V1 [[7],[z31],[aS],[bL]]/\(oL (-1) 7 λbB=>r3 λbZ=>Ac λz37=>lx λcA=>V1 [[bB],[bZ],[z37],[cA]]->(rZ (decide (0
 <=bB)) (a7 λct=>ct=(U aE 4 0)/2^((8*bB)).toNat->aB 0 72057594037927935 ct 256 λz40=>ay 31 [bZ,z37]/\ay 23 [bZ,1]/\iX
 23 [bZ,(ct+((-256)*z40))] λcq=>lx λcw=>(V1 [[(bB+(-1))],[cq],[(z37+1)],[cw]]/\apM [[(bB+(-1))],[cq],[(z37+1)],[cw]]<apM
 [[bB],[bZ],[z37],[cA]])) (∃(V2:List (List Int)->Prop) (apN:List (List Int)->Nat),V2 [[7],[bZ],[z37],[cA]]/\(oL (-1) 7 λz40=>r3 λcq=>
 Ac λcw=>lx λcN=>V2 [[z40],[cq],[cw],[cN]]->(rZ (decide (0<=z40)) (a7 λdp=>dp=(U aE 5 0)/2^((8*z40)).toNat->aB 0
 72057594037927935 dp 256 λcH=>ay 31 [cq,cw]/\ay 23 [cq,1]/\iX 23 [cq,(dp+((-256)*cH))] λz46=>lx λcE=>(V2 [[(z40+
 (-1))],[z46],[(cw+1)],[cE]]/\apN [[(z40+(-1))],[z46],[(cw+1)],[cE]]<apN [[z40],[cq],[cw],[cN]])) (∃(V4:List (List Int)->Prop) (apP:List
 (List Int)->Nat),V4 [[7],[cq],[cw],[cN]]/\(oL (-1) 7 λcH=>r3 λz46=>Ac λcE=>lx λcQ=>V4 [[cH],[z46],[cE],[cQ]]->(rZ (decide (0
 <=cH)) (a7 λz49=>z49=(U aE 6 0)/2^((8*cH)).toNat->aB 0 72057594037927935 z49 256 λc9=>ay 31 [z46,cE]/\ay 23 [z46,1]/\iX
 23 [z46,(z49+((-256)*c9))] λz51=>lx λcx=>(V4 [[(cH+(-1))],[z51],[(cE+1)],[cx]]/\apP [[(cH+(-1))],[z51],[(cE+1)],[cx]]<apP
 [[cH],[z46],[cE],[cQ]])) (∃(V5:List (List Int)->Prop) (apQ:List (List Int)->Nat),V5 [[7],[z46],[cE],[cQ]]/\(oL (-1) 7 λc9=>r3 λz51=>
 Ac λcx=>lx λz53=>V5 [[c9],[z51],[cx],[z53]]->(rZ (decide (0<=c9)) (a7 λdf=>df=(U aE 7 0)/2^((8*c9)).toNat->aB 0
 72057594037927935 df 256 λdq=>ay 31 [z51,cx]/\ay 23 [z51,1]/\iX 23 [z51,(df+((-256)*dq))] λdg=>lx λcu=>(V5 [[(c9+
 (-1))],[dg],[(cx+1)],[cu]]/\apQ [[(c9+(-1))],[dg],[(cx+1)],[cu]]<apQ [[c9],[z51],[cx],[z53]])) (ay 22 [z51,0,cx]/\iX 22 [z51,0,cx] λ
 df=>K [[z0]] [[df]]))))))))))))))))))))))))))))
theorem aIS (f:Int->Int->Int) {r t:List Int} (h:r.length=8) (bm:t.length=8):List.zipWith f r t=[f (r.getD 0 0) (t.getD 0 0),f (r.getD 1 0) (t.getD 1 0),f (r.getD 2 0) (t.getD 2 0),f (r.getD 3 0) (t.getD 3 0),f (r.getD 4 0) (t.getD 4 0),f (r.getD 5 0) (t.getD 5 0),f (r.getD 6 0) (t.getD 6 0),f (r.getD 7 0) (t.getD 7 0)]:=by
 match r,t,h,bm with
 |[_,_,_,_,_,_,_,_],[_,_,_,_,_,_,_,_],_,_=>rfl
theorem aFx (i:Nat) (x:Int) {r:List Int} (hr:r.length=8):DK cT i x r=(let t:=md cT (r.getD 7 0+I8 cT (r.getD 4 0)+Qy cT (r.getD 4 0) (r.getD 5 0) (r.getD 6 0)+OW cT i+x);let u:=md cT (I7 cT (r.getD 0 0)+abp cT (r.getD 0 0) (r.getD 1 0) (r.getD 2 0));[md cT (t+u),r.getD 0 0,r.getD 1 0,r.getD 2 0,md cT (r.getD 3 0+t),r.getD 4 0,r.getD 5 0,r.getD 6 0]):=by
 match r,hr with
 |[_,_,_,_,_,_,_,_],_=>rfl
theorem Km (x:Int):md cT x=x% 18446744073709551616:=by
 show x% (2:Int)^64=_;rw[show(2:Int)^64=18446744073709551616 by decide]
theorem arV:Ep cT=[7640891576956012808,13503953896175478587,4354685564936845355,11912009170470909681,5840696475078001361,11170449401992604703,2270897969802886507,6620516959819538809]:=by decide+kernel
set_option maxHeartbeats 4000000 in
theorem aBa:aex SB (hM SB [S7] 465):=by
 intro z0 a0 b7 hp aF fV z2 e4 c1 z3 d0 d1 h3;have hp:128∣(ao z0).length/\(ao z0).length<=1000001000:=hp;have h3:z3=((ao z0).length:Int):=h3;obtain⟨⟨q,ak⟩,JY⟩:=hp;have aZ:(bT z0).length=128*q:=by rw[yf,ak]
 have aiA:z3=128*(q:Int):=by rw[h3,ak];simp
 refine⟨⟨(q:Int),aiA⟩,λl=>∃(i:Nat),i<=q/\l=[Me cT (bT z0) i (Ep cT),[(i:Int)]],λl=>((q:Int)-(l.getD 1 []).getD 0 0).toNat,⟨0,LC _,by
  show _=[Ep cT,[(0:Int)]];rw[arV]⟩,?_⟩
 intro aE awJ aq gE az ⟨i,hi,eg⟩;simp only[qn,and_true]at eg;obtain⟨aiE,aMX⟩:=eg;obtain⟨yE,mn⟩:=Z8 8 aE awJ;have Ro:((ao z0).length:Int)=128*(q:Int):=by rw[<-h3,aiA]
 refine⟨λh=>?_,λh=>?_⟩
 ·have h:=of_decide_eq_true h;have ajn:i<q:=by omega
  have aV:∀k:Int,0<=k->k<128->ay 21 [z0,128*aq+k]:=λk h1 h2=>⟨by omega,by rw[Ro];omega⟩;have ar7:ay 21 [z0,128*aq]:=⟨by omega,by rw[Ro];omega⟩;refine⟨ar7,?_⟩;intro ax f0 g0 t0;refine⟨aV 1 (by decide) (by decide),?_⟩;intro aT f1 g1 t1;refine⟨aV 2 (by decide) (by decide),?_⟩;intro bh f2 g2 t2;refine⟨aV 3 (by decide) (by decide),?_⟩;intro aU f3 g3 t3;refine⟨aV 4 (by decide) (by decide),?_⟩;intro bd f4 g4 t4;refine⟨aV 5 (by decide) (by decide),?_⟩;intro bk f5 g5 t5;refine⟨aV 6 (by decide) (by decide),?_⟩;intro z20 f6 g6 t6;refine⟨aV 7 (by decide) (by decide),?_⟩;intro z21 f7 g7 t7;refine⟨aV 8 (by decide) (by decide),?_⟩;intro z22 f8 g8 t8;refine⟨aV 9 (by decide) (by decide),?_⟩;intro bA f9 g9 t9;refine⟨aV 10 (by decide) (by decide),?_⟩;intro z24 f10 g10 t10;refine⟨aV 11 (by decide) (by decide),?_⟩;intro bS f11 g11 t11;refine⟨aV 12 (by decide) (by decide),?_⟩;intro z26 f12 g12 t12;refine⟨aV 13 (by decide) (by decide),?_⟩;intro bO f13 g13 t13;refine⟨aV 14 (by decide) (by decide),?_⟩;intro z28 f14 g14 t14;refine⟨aV 15 (by decide) (by decide),?_⟩;intro bX f15 g15 t15;refine⟨aV 16 (by decide) (by decide),?_⟩;intro b2 f16 g16 t16;refine⟨aV 17 (by decide) (by decide),?_⟩;intro z31 f17 g17 t17;refine⟨aV 18 (by decide) (by decide),?_⟩;intro aS f18 g18 t18;refine⟨aV 19 (by decide) (by decide),?_⟩;intro bL f19 g19 t19;refine⟨aV 20 (by decide) (by decide),?_⟩;intro bY f20 g20 t20;refine⟨aV 21 (by decide) (by decide),?_⟩;intro bB f21 g21 t21;refine⟨aV 22 (by decide) (by decide),?_⟩;intro bZ f22 g22 t22;refine⟨aV 23 (by decide) (by decide),?_⟩;intro z37 f23 g23 t23;refine⟨aV 24 (by decide) (by decide),?_⟩;intro cA f24 g24 t24;refine⟨aV 25 (by decide) (by decide),?_⟩;intro ct f25 aLB t25;refine⟨aV 26 (by decide) (by decide),?_⟩;intro z40 f26 aLC t26;refine⟨aV 27 (by decide) (by decide),?_⟩;intro cq f27 aLD t27;refine⟨aV 28 (by decide) (by decide),?_⟩;intro cw f28 aLE t28;refine⟨aV 29 (by decide) (by decide),?_⟩;intro cN f29 aLF t29;refine⟨aV 30 (by decide) (by decide),?_⟩;intro dp f30 aLG t30;refine⟨aV 31 (by decide) (by decide),?_⟩;intro cH f31 aLH t31;refine⟨aV 32 (by decide) (by decide),?_⟩;intro z46 f32 aLI t32;refine⟨aV 33 (by decide) (by decide),?_⟩;intro cE f33 aLJ t33;refine⟨aV 34 (by decide) (by decide),?_⟩;intro cQ f34 aLK t34;refine⟨aV 35 (by decide) (by decide),?_⟩;intro z49 f35 aLL t35;refine⟨aV 36 (by decide) (by decide),?_⟩;intro c9 f36 aLM t36;refine⟨aV 37 (by decide) (by decide),?_⟩;intro z51 f37 aLN t37;refine⟨aV 38 (by decide) (by decide),?_⟩;intro cx f38 aLO t38;refine⟨aV 39 (by decide) (by decide),?_⟩;intro z53 f39 aLP t39;refine⟨aV 40 (by decide) (by decide),?_⟩;intro df f40 aLQ t40;refine⟨aV 41 (by decide) (by decide),?_⟩;intro dq f41 aLR t41;refine⟨aV 42 (by decide) (by decide),?_⟩;intro dg f42 aLS t42;refine⟨aV 43 (by decide) (by decide),?_⟩;intro cu f43 aLT t43;refine⟨aV 44 (by decide) (by decide),?_⟩;intro dz f44 aLU t44;refine⟨aV 45 (by decide) (by decide),?_⟩;intro z59 f45 aLV t45;refine⟨aV 46 (by decide) (by decide),?_⟩
  intro dJ f46 aLW t46;refine⟨aV 47 (by decide) (by decide),?_⟩;intro dP f47 aLX t47;refine⟨aV 48 (by decide) (by decide),?_⟩;intro dV f48 aLY t48;refine⟨aV 49 (by decide) (by decide),?_⟩;intro dr f49 aLZ t49;refine⟨aV 50 (by decide) (by decide),?_⟩;intro ed f50 aL0 t50;refine⟨aV 51 (by decide) (by decide),?_⟩;intro eG f51 aL1 t51;refine⟨aV 52 (by decide) (by decide),?_⟩;intro eD f52 aL2 t52;refine⟨aV 53 (by decide) (by decide),?_⟩;intro eu f53 aL3 t53;refine⟨aV 54 (by decide) (by decide),?_⟩;intro fb f54 aL4 t54;refine⟨aV 55 (by decide) (by decide),?_⟩;intro ek f55 aL5 t55;refine⟨aV 56 (by decide) (by decide),?_⟩;intro z70 f56 aL6 t56;refine⟨aV 57 (by decide) (by decide),?_⟩;intro fc f57 aL7 t57;refine⟨aV 58 (by decide) (by decide),?_⟩;intro z72 f58 aL8 t58;refine⟨aV 59 (by decide) (by decide),?_⟩;intro eH f59 aL9 t59;refine⟨aV 60 (by decide) (by decide),?_⟩;intro gI f60 aMa t60;refine⟨aV 61 (by decide) (by decide),?_⟩;intro z75 f61 aMb t61;refine⟨aV 62 (by decide) (by decide),?_⟩;intro z76 f62 aMc t62;refine⟨aV 63 (by decide) (by decide),?_⟩;intro hX f63 aMd t63;refine⟨aV 64 (by decide) (by decide),?_⟩;intro ho f64 aMe t64;refine⟨aV 65 (by decide) (by decide),?_⟩;intro hq f65 aMf t65;refine⟨aV 66 (by decide) (by decide),?_⟩;intro il f66 aMg t66;refine⟨aV 67 (by decide) (by decide),?_⟩;intro j2 f67 aMh t67;refine⟨aV 68 (by decide) (by decide),?_⟩;intro ji f68 aMi t68;refine⟨aV 69 (by decide) (by decide),?_⟩;intro hZ f69 aMj t69;refine⟨aV 70 (by decide) (by decide),?_⟩;intro jA f70 aMk t70;refine⟨aV 71 (by decide) (by decide),?_⟩;intro z85 f71 aMl t71;refine⟨aV 72 (by decide) (by decide),?_⟩;intro jj f72 aMm t72;refine⟨aV 73 (by decide) (by decide),?_⟩;intro z87 f73 aMn t73;refine⟨aV 74 (by decide) (by decide),?_⟩;intro ku f74 aMo t74;refine⟨aV 75 (by decide) (by decide),?_⟩;intro jk f75 aMp t75;refine⟨aV 76 (by decide) (by decide),?_⟩;intro kT f76 aMq t76;refine⟨aV 77 (by decide) (by decide),?_⟩;intro z91 f77 aMr t77;refine⟨aV 78 (by decide) (by decide),?_⟩;intro jB f78 aMs t78;refine⟨aV 79 (by decide) (by decide),?_⟩;intro z93 f79 aMt t79;refine⟨aV 80 (by decide) (by decide),?_⟩;intro lj f80 aMu t80;refine⟨aV 81 (by decide) (by decide),?_⟩;intro mg f81 aMv t81;refine⟨aV 82 (by decide) (by decide),?_⟩;intro q9 f82 aMw t82;refine⟨aV 83 (by decide) (by decide),?_⟩;intro sT f83 aMx t83;refine⟨aV 84 (by decide) (by decide),?_⟩;intro sc f84 aMy t84;refine⟨aV 85 (by decide) (by decide),?_⟩;intro mC f85 aMz t85;refine⟨aV 86 (by decide) (by decide),?_⟩;intro oT f86 aMA t86;refine⟨aV 87 (by decide) (by decide),?_⟩;intro vW f87 aMB t87;refine⟨aV 88 (by decide) (by decide),?_⟩;intro vX f88 aMC t88;refine⟨aV 89 (by decide) (by decide),?_⟩;intro vY f89 aMD t89;refine⟨aV 90 (by decide) (by decide),?_⟩;intro vZ f90 aME t90;refine⟨aV 91 (by decide) (by decide),?_⟩;intro z105 f91 aMF t91;refine⟨aV 92 (by decide) (by decide),?_⟩;intro v7 f92 aMG t92;refine⟨aV 93 (by decide) (by decide),?_⟩;intro z107 f93 aMH t93;refine⟨aV 94 (by decide) (by decide),?_⟩
  intro B0 f94 aMI t94;refine⟨aV 95 (by decide) (by decide),?_⟩;intro z109 f95 aMJ t95;refine⟨aV 96 (by decide) (by decide),?_⟩;intro B1 f96 aMK t96;refine⟨aV 97 (by decide) (by decide),?_⟩;intro B2 f97 aML t97;refine⟨aV 98 (by decide) (by decide),?_⟩;intro Al f98 aMM t98;refine⟨aV 99 (by decide) (by decide),?_⟩;intro Am f99 aMN t99;refine⟨aV 100 (by decide) (by decide),?_⟩;intro v8 f100 aK9 t100;refine⟨aV 101 (by decide) (by decide),?_⟩;intro wa f101 aLa t101;refine⟨aV 102 (by decide) (by decide),?_⟩;intro z116 f102 aLb t102;refine⟨aV 103 (by decide) (by decide),?_⟩;intro z117 f103 aLc t103;refine⟨aV 104 (by decide) (by decide),?_⟩;intro wc f104 aLd t104;refine⟨aV 105 (by decide) (by decide),?_⟩;intro z119 f105 aLe t105;refine⟨aV 106 (by decide) (by decide),?_⟩;intro An f106 aLf t106;refine⟨aV 107 (by decide) (by decide),?_⟩;intro Ao f107 aLg t107;refine⟨aV 108 (by decide) (by decide),?_⟩;intro Ap f108 aLh t108;refine⟨aV 109 (by decide) (by decide),?_⟩;intro Aq f109 aLi t109;refine⟨aV 110 (by decide) (by decide),?_⟩;intro z124 f110 aLj t110;refine⟨aV 111 (by decide) (by decide),?_⟩;intro Ar f111 aLk t111;refine⟨aV 112 (by decide) (by decide),?_⟩;intro As f112 aLl t112;refine⟨aV 113 (by decide) (by decide),?_⟩;intro z127 f113 aLm t113;refine⟨aV 114 (by decide) (by decide),?_⟩;intro DV f114 aLn t114;refine⟨aV 115 (by decide) (by decide),?_⟩;intro B3 f115 aLo t115;refine⟨aV 116 (by decide) (by decide),?_⟩;intro z130 f116 aLp t116;refine⟨aV 117 (by decide) (by decide),?_⟩;intro z131 f117 aLq t117;refine⟨aV 118 (by decide) (by decide),?_⟩;intro B4 f118 aLr t118;refine⟨aV 119 (by decide) (by decide),?_⟩;intro pC f119 aLs t119;refine⟨aV 120 (by decide) (by decide),?_⟩;intro B5 f120 aLt t120;refine⟨aV 121 (by decide) (by decide),?_⟩;intro B6 f121 aLu t121;refine⟨aV 122 (by decide) (by decide),?_⟩;intro B7 f122 aLv t122;refine⟨aV 123 (by decide) (by decide),?_⟩;intro B8 f123 aLw t123;refine⟨aV 124 (by decide) (by decide),?_⟩;intro z138 f124 aLx t124;refine⟨aV 125 (by decide) (by decide),?_⟩;intro z139 f125 aLy t125;refine⟨aV 126 (by decide) (by decide),?_⟩;intro B9 f126 aLz t126;refine⟨aV 127 (by decide) (by decide),?_⟩;intro z141 f127 aLA t127;obtain⟨bl,CK⟩:∃l,((bT z0).drop (128*i)).take 128=l:=⟨_,rfl⟩;have ar0:bl.length=128:=by rw[<-CK,sf,oZ,aZ];omega
  have bV:∀(k:Nat) (y z:Int),k<128->y=(k:Int)->z=bM 21 [z0,128*aq+y,0]->z=bl.getD k 0:=λk y z af hy hz=>by
   rw[ee hz,<-CK,as1 _ _ _ _ af]
   congr 1;omega
  have ea:[ax,aT,bh,aU,bd,bk,z20,z21,z22,bA,z24,bS,z26,bO,z28,bX,b2,z31,aS,bL,bY,bB,bZ,z37,cA,ct,z40,cq,cw,cN,dp,cH,z46,cE,cQ,z49,c9,z51,cx,z53,df,dq,dg,cu,dz,z59,dJ,dP,dV,dr,ed,eG,eD,eu,fb,ek,z70,fc,z72,eH,gI,z75,z76,hX,ho,hq,il,j2,ji,hZ,jA,z85,jj,z87,ku,jk,kT,z91,jB,z93,lj,mg,q9,sT,sc,mC,oT,vW,vX,vY,vZ,z105,v7,z107,B0,z109,B1,B2,Al,Am,v8,wa,z116,z117,wc,z119,An,Ao,Ap,Aq,z124,Ar,As,z127,DV,B3,z130,z131,B4,pC,B5,B6,B7,B8,z138,z139,B9,z141]=bl:=by
   rw[bV 0 0 ax (by decide) rfl (by rw[xU];exact t0),bV 1 1 aT (by decide) rfl t1,bV 2 2 bh (by decide) rfl t2,bV 3 3 aU (by decide) rfl t3,bV 4 4 bd (by decide) rfl t4,bV 5 5 bk (by decide) rfl t5,bV 6 6 z20 (by decide) rfl t6,bV 7 7 z21 (by decide) rfl t7,bV 8 8 z22 (by decide) rfl t8,bV 9 9 bA (by decide) rfl t9,bV 10 10 z24 (by decide) rfl t10,bV 11 11 bS (by decide) rfl t11,bV 12 12 z26 (by decide) rfl t12,bV 13 13 bO (by decide) rfl t13,bV 14 14 z28 (by decide) rfl t14,bV 15 15 bX (by decide) rfl t15,bV 16 16 b2 (by decide) rfl t16,bV 17 17 z31 (by decide) rfl t17,bV 18 18 aS (by decide) rfl t18,bV 19 19 bL (by decide) rfl t19,bV 20 20 bY (by decide) rfl t20,bV 21 21 bB (by decide) rfl t21,bV 22 22 bZ (by decide) rfl t22,bV 23 23 z37 (by decide) rfl t23,bV 24 24 cA (by decide) rfl t24,bV 25 25 ct (by decide) rfl t25,bV 26 26 z40 (by decide) rfl t26,bV 27 27 cq (by decide) rfl t27,bV 28 28 cw (by decide) rfl t28,bV 29 29 cN (by decide) rfl t29,bV 30 30 dp (by decide) rfl t30,bV 31 31 cH (by decide) rfl t31,bV 32 32 z46 (by decide) rfl t32,bV 33 33 cE (by decide) rfl t33,bV 34 34 cQ (by decide) rfl t34,bV 35 35 z49 (by decide) rfl t35,bV 36 36 c9 (by decide) rfl t36,bV 37 37 z51 (by decide) rfl t37,bV 38 38 cx (by decide) rfl t38,bV 39 39 z53 (by decide) rfl t39,bV 40 40 df (by decide) rfl t40,bV 41 41 dq (by decide) rfl t41,bV 42 42 dg (by decide) rfl t42,bV 43 43 cu (by decide) rfl t43,bV 44 44 dz (by decide) rfl t44,bV 45 45 z59 (by decide) rfl t45,bV 46 46 dJ (by decide) rfl t46,bV 47 47 dP (by decide) rfl t47,bV 48 48 dV (by decide) rfl t48,bV 49 49 dr (by decide) rfl t49,bV 50 50 ed (by decide) rfl t50,bV 51 51 eG (by decide) rfl t51,bV 52 52 eD (by decide) rfl t52,bV 53 53 eu (by decide) rfl t53,bV 54 54 fb (by decide) rfl t54,bV 55 55 ek (by decide) rfl t55,bV 56 56 z70 (by decide) rfl t56,bV 57 57 fc (by decide) rfl t57,bV 58 58 z72 (by decide) rfl t58,bV 59 59 eH (by decide) rfl t59,bV 60 60 gI (by decide) rfl t60,bV 61 61 z75 (by decide) rfl t61,bV 62 62 z76 (by decide) rfl t62,bV 63 63 hX (by decide) rfl t63,bV 64 64 ho (by decide) rfl t64,bV 65 65 hq (by decide) rfl t65,bV 66 66 il (by decide) rfl t66,bV 67 67 j2 (by decide) rfl t67,bV 68 68 ji (by decide) rfl t68,bV 69 69 hZ (by decide) rfl t69,bV 70 70 jA (by decide) rfl t70,bV 71 71 z85 (by decide) rfl t71,bV 72 72 jj (by decide) rfl t72,bV 73 73 z87 (by decide) rfl t73,bV 74 74 ku (by decide) rfl t74,bV 75 75 jk (by decide) rfl t75,bV 76 76 kT (by decide) rfl t76,bV 77 77 z91 (by decide) rfl t77,bV 78 78 jB (by decide) rfl t78,bV 79 79 z93 (by decide) rfl t79,bV 80 80 lj (by decide) rfl t80,bV 81 81 mg (by decide) rfl t81,bV 82 82 q9 (by decide) rfl t82,bV 83 83 sT (by decide) rfl t83,bV 84 84 sc (by decide) rfl t84,bV 85 85 mC (by decide) rfl t85,bV 86 86 oT (by decide) rfl t86,bV 87 87 vW (by decide) rfl t87,bV 88 88 vX (by decide) rfl t88,bV 89 89 vY (by decide) rfl t89,bV 90 90 vZ (by decide) rfl t90,bV 91 91 z105 (by decide) rfl t91,bV 92 92 v7 (by decide) rfl t92,bV 93 93 z107 (by decide) rfl t93,bV 94 94 B0 (by decide) rfl t94,bV 95 95 z109 (by decide) rfl t95,bV 96 96 B1 (by decide) rfl t96,bV 97 97 B2 (by decide) rfl t97,bV 98 98 Al (by decide) rfl t98,bV 99 99 Am (by decide) rfl t99,bV 100 100 v8 (by decide) rfl t100,bV 101 101 wa (by decide) rfl t101,bV 102 102 z116 (by decide) rfl t102,bV 103 103 z117 (by decide) rfl t103,bV 104 104 wc (by decide) rfl t104,bV 105 105 z119 (by decide) rfl t105,bV 106 106 An (by decide) rfl t106,bV 107 107 Ao (by decide) rfl t107,bV 108 108 Ap (by decide) rfl t108,bV 109 109 Aq (by decide) rfl t109,bV 110 110 z124 (by decide) rfl t110,bV 111 111 Ar (by decide) rfl t111,bV 112 112 As (by decide) rfl t112,bV 113 113 z127 (by decide) rfl t113,bV 114 114 DV (by decide) rfl t114,bV 115 115 B3 (by decide) rfl t115,bV 116 116 z130 (by decide) rfl t116,bV 117 117 z131 (by decide) rfl t117,bV 118 118 B4 (by decide) rfl t118,bV 119 119 pC (by decide) rfl t119,bV 120 120 B5 (by decide) rfl t120,bV 121 121 B6 (by decide) rfl t121,bV 122 122 B7 (by decide) rfl t122,bV 123 123 B8 (by decide) rfl t123,bV 124 124 z138 (by decide) rfl t124,bV 125 125 z139 (by decide) rfl t125,bV 126 126 B9 (by decide) rfl t126,bV 127 127 z141 (by decide) rfl t127]
   exact(Yr bl 128 ar0).symm
  have CI:O9 cT bl=[((72057594037927936*ax)+((281474976710656*aT)+((1099511627776*bh)+((4294967296*aU)+((16777216*bd)+((65536*bk)+((256*z20)+z21))))))),((72057594037927936*z22)+((281474976710656*bA)+((1099511627776*z24)+((4294967296*bS)+((16777216*z26)+((65536*bO)+((256*z28)+bX))))))),((72057594037927936*b2)+((281474976710656*z31)+((1099511627776*aS)+((4294967296*bL)+((16777216*bY)+((65536*bB)+((256*bZ)+z37))))))),((72057594037927936*cA)+((281474976710656*ct)+((1099511627776*z40)+((4294967296*cq)+((16777216*cw)+((65536*cN)+((256*dp)+cH))))))),((72057594037927936*z46)+((281474976710656*cE)+((1099511627776*cQ)+((4294967296*z49)+((16777216*c9)+((65536*z51)+((256*cx)+z53))))))),((72057594037927936*df)+((281474976710656*dq)+((1099511627776*dg)+((4294967296*cu)+((16777216*dz)+((65536*z59)+((256*dJ)+dP))))))),((72057594037927936*dV)+((281474976710656*dr)+((1099511627776*ed)+((4294967296*eG)+((16777216*eD)+((65536*eu)+((256*fb)+ek))))))),((72057594037927936*z70)+((281474976710656*fc)+((1099511627776*z72)+((4294967296*eH)+((16777216*gI)+((65536*z75)+((256*z76)+hX))))))),((72057594037927936*ho)+((281474976710656*hq)+((1099511627776*il)+((4294967296*j2)+((16777216*ji)+((65536*hZ)+((256*jA)+z85))))))),((72057594037927936*jj)+((281474976710656*z87)+((1099511627776*ku)+((4294967296*jk)+((16777216*kT)+((65536*z91)+((256*jB)+z93))))))),((72057594037927936*lj)+((281474976710656*mg)+((1099511627776*q9)+((4294967296*sT)+((16777216*sc)+((65536*mC)+((256*oT)+vW))))))),((72057594037927936*vX)+((281474976710656*vY)+((1099511627776*vZ)+((4294967296*z105)+((16777216*v7)+((65536*z107)+((256*B0)+z109))))))),((72057594037927936*B1)+((281474976710656*B2)+((1099511627776*Al)+((4294967296*Am)+((16777216*v8)+((65536*wa)+((256*z116)+z117))))))),((72057594037927936*wc)+((281474976710656*z119)+((1099511627776*An)+((4294967296*Ao)+((16777216*Ap)+((65536*Aq)+((256*z124)+Ar))))))),((72057594037927936*As)+((281474976710656*z127)+((1099511627776*DV)+((4294967296*B3)+((16777216*z130)+((65536*z131)+((256*B4)+pC))))))),((72057594037927936*B5)+((281474976710656*B6)+((1099511627776*B7)+((4294967296*B8)+((16777216*z138)+((65536*z139)+((256*B9)+z141)))))))]:=by
   rw[<-ea];show [((((((((0*256+ax)*256+aT)*256+bh)*256+aU)*256+bd)*256+bk)*256+z20)*256+z21),((((((((0*256+z22)*256+bA)*256+z24)*256+bS)*256+z26)*256+bO)*256+z28)*256+bX),((((((((0*256+b2)*256+z31)*256+aS)*256+bL)*256+bY)*256+bB)*256+bZ)*256+z37),((((((((0*256+cA)*256+ct)*256+z40)*256+cq)*256+cw)*256+cN)*256+dp)*256+cH),((((((((0*256+z46)*256+cE)*256+cQ)*256+z49)*256+c9)*256+z51)*256+cx)*256+z53),((((((((0*256+df)*256+dq)*256+dg)*256+cu)*256+dz)*256+z59)*256+dJ)*256+dP),((((((((0*256+dV)*256+dr)*256+ed)*256+eG)*256+eD)*256+eu)*256+fb)*256+ek),((((((((0*256+z70)*256+fc)*256+z72)*256+eH)*256+gI)*256+z75)*256+z76)*256+hX),((((((((0*256+ho)*256+hq)*256+il)*256+j2)*256+ji)*256+hZ)*256+jA)*256+z85),((((((((0*256+jj)*256+z87)*256+ku)*256+jk)*256+kT)*256+z91)*256+jB)*256+z93),((((((((0*256+lj)*256+mg)*256+q9)*256+sT)*256+sc)*256+mC)*256+oT)*256+vW),((((((((0*256+vX)*256+vY)*256+vZ)*256+z105)*256+v7)*256+z107)*256+B0)*256+z109),((((((((0*256+B1)*256+B2)*256+Al)*256+Am)*256+v8)*256+wa)*256+z116)*256+z117),((((((((0*256+wc)*256+z119)*256+An)*256+Ao)*256+Ap)*256+Aq)*256+z124)*256+Ar),((((((((0*256+As)*256+z127)*256+DV)*256+B3)*256+z130)*256+z131)*256+B4)*256+pC),((((((((0*256+B5)*256+B6)*256+B7)*256+B8)*256+z138)*256+z139)*256+B9)*256+z141)]=_;simp only[qn,and_true];refine⟨by omega,by omega,by omega,by omega,by omega,by omega,by omega,by omega,by omega,by omega,by omega,by omega,by omega,by omega,by omega,by omega⟩
  obtain⟨ws,ZW⟩:∃l,O9 cT bl=l:=⟨_,rfl⟩;intro Lm dx j1 vq z143 aj ar oR Ln ah an sR z145 au aw BQ z146 de ks Lc Lo iK Iv T9 z148 jz y8 Ua Lp mc Ix Ub Lq me xO u8 Lr mf BY Ld z152 mB y2 K6 Ls hW DO K7 z154 jy BT K8 Lt mb DP K9 z156 uI FP La z157 uJ FQ Lb;have v0:=rD (l:=[]) vq oa;have v1:=rD oR v0;have v2:=rD sR v1;have v3:=rD BQ v2;have v4:=rD Lc v3;have v5:=rD T9 v4;have v6:=rD Ua v5;have aHS:=rD Ub v6;have aHT:=rD u8 aHS;have v9:=rD Ld aHT;have v10:=rD K6 v9;have v11:=rD K7 v10;have v12:=rD K8 v11;have aHN:=rD K9 v12;have aHO:=rD La aHN;have aHP:=rD Lb aHO;have hr:ao z157=rws ws:=by
   rw[<-ZW,CI];exact aHP
  have wl:ws.length=16:=by rw[<-ZW];simp[O9]
  refine⟨by show(ao z157).length<=1000000;rw[hr,DG,wl];decide,?_⟩;intro At i0 i1 Bp z159 u6 k1 z160 m0 ir gS;have Bp:ao At=ao z157:=Bp;rw[hr]at Bp;have gS:z160=((ao At).length:Int):=gS;rw[Bp,DG,wl]at gS;refine⟨λl=>∃(j:Nat) (c k:Int),j<=64/\l=[[((16+j:Nat):Int)],[c],[((16+j:Nat):Int)],[k]]/\ao c=rws (A9 cT j ws),λl=>(80-(l.getD 0 []).getD 0 0).toNat,⟨0,At,z159,LC _,by rw[gS];rfl,Bp⟩,?_⟩;intro z162 SV o1 od p0 cG z164 eJ bg we r0 r1 ⟨j,c,nB,aM,hl,hc⟩;simp only[qn,and_true]at hl;obtain⟨Zq,Hg,Rl,aNa⟩:=hl;subst Hg;obtain⟨bK,p7⟩:∃l,A9 cT j ws=l:=⟨_,rfl⟩;rw[p7]at hc;have alw:bK.length=16+j:=by rw[<-p7,ahM,wl]
  have Mo:((ao od).length:Int)=16+(j:Int):=by rw[hc,DG,alw];omega
  refine⟨λhlt=>?_,λtd=>?_⟩
  ·have hlt:=of_decide_eq_true hlt;refine⟨⟨by omega,by omega⟩,⟨by omega,by rw[Mo];omega⟩,λLu aH s1 s2=>⟨⟨by omega,by omega⟩,⟨by omega,by rw[Mo];omega⟩,λz167 aOf aOh aFN z168 aOm aOn TO Pc aOo aOp aOq aOr=>⟨⟨by omega,by omega⟩,⟨by omega,by rw[Mo];omega⟩,λPd w0 eN qj z171 aOw aOx aOu aOv=>⟨⟨by omega,by omega⟩,⟨by omega,by rw[Mo];omega⟩,λadR aOC aOD aIJ z173 afA afB Gl adS arN arO Ma aKN=>⟨by show z164=((ao od).length:Int);omega,by show((ao od).length:Int)+1<=1073741824;omega,λz175 asn aso Xv oe asQ asR=>?_⟩⟩⟩⟩⟩;have TO:[[z168]]=[[O4 cT z167]]:=TO;have Gl:[[z173]]=[[O5 cT adR]]:=Gl;simp only[qn,and_true]at TO Gl;have az:=ML s2 hc;have aI:=ML aFN hc;have cn:=ML qj hc;have iC:=ML aIJ hc;have awr:Lu+(z168+((-18446744073709551616)*Pc+(Pd+((-18446744073709551616)*z171+(z173+(-18446744073709551616)*adS)))))=Kv cT bK:=by
    unfold Kv;rw[Km,alw,show 16+j-16=(z162+-16).toNat by omega,show 16+j-15=(z162+-15).toNat by omega,show 16+j-7=(z162+-7).toNat by omega,show 16+j-2=(z162+-2).toNat by omega,<-az,<-aI,<-cn,<-iC,<-TO,<-Gl];omega
   have ld:=rD Xv hc;rw[awr]at ld;refine⟨⟨j+1,z175,oe,by omega,by rw[show z162+1=((16+(j+1):Nat):Int) by omega,show z164+1=((16+(j+1):Nat):Int) by omega],by rw[ahN,p7];exact ld⟩,?_⟩;show(80-(z162+1)).toNat<(80-z162).toNat;omega
  ·have td:=of_decide_eq_false td;have av7:j=64:=by omega
   have awQ:sched cT ws=bK:=by rw[<-p7,av7];rfl
   refine⟨λl=>∃(t:Nat),t<=80/\l=[FH cT 0 (bK.take t) aE,[(t:Int)]],λl=>(80-(l.getD 1 []).getD 0 0).toNat,⟨0,LC _,rfl⟩,?_⟩;intro eU awK z175 aH s1 ⟨t,aD,hl⟩;simp only[qn,and_true]at hl;obtain⟨hv,aNj⟩:=hl;obtain⟨Di,fx⟩:=Z8 8 eU awK;refine⟨λhlt=>?_,λajj=>?_⟩
   ·have hlt:=of_decide_eq_true hlt;refine⟨⟨by omega,by omega⟩,⟨by omega,by rw[Mo];omega⟩,?_⟩;intro oe afA afB Gl oU arN arO Ma sb asn aso Xv asp DW asQ asR asS DX aK3 aK4 atr oV aK5 aK6 atA z182 aMO aMP auG auH;refine⟨⟨by omega,by omega⟩,?_⟩;intro z183 Rh aM2 Nk Au aNn aNo axY axZ Ca aNp aNq ax6 ax7 Cb aNz aNA Sc Ui aNI aNJ ayQ Uj aNL aNM azb Uk aNS aNT azp Ul aNU aNV aA0 Av aN1 aN2 aC8 Lv aN4 aN5 aN6 aN7 z193 aN8 aN9 amM amN z194 aOb aOc aFv aFw Aw aOg aOi aOj aOk;have ZM:t<80:=by omega
    have as4:Aw=0:=by omega
    have ex:=ML Gl hc;rw[show z175.toNat=t by omega]at ex;have Ma:[[oU]]=[[I8 cT (eU.getD 4 0)]]:=Ma;have Nk:[[z183]]=[[OW cT z175.toNat]]:=Nk;have Sc:[[Cb]]=[[I7 cT (eU.getD 0 0)]]:=Sc;simp only[qn,and_true]at Ma Nk Sc;rw[show z175.toNat=t by omega]at Nk;have oz:oV=Qy cT (eU.getD 4 0) (eU.getD 5 0) (eU.getD 6 0):=by
     rw[atA,asS,atr];unfold Qy;rw[show(2:Int)^cT.w-1-eU.getD 4 0=-1*eU.getD 4 0+18446744073709551615 by rw[show(2:Int)^cT.w=18446744073709551616 by decide];omega];rfl
    have awl:Av=abp cT (eU.getD 0 0) (eU.getD 1 0) (eU.getD 2 0):=by
     rw[aC8,azp,azb,ayQ,aA0];rfl
    obtain⟨A,aO⟩:∃A,eU.getD 0 0=A:=⟨_,rfl⟩;obtain⟨D,qJ⟩:∃A,eU.getD 3 0=A:=⟨_,rfl⟩;obtain⟨H,aiD⟩:∃A,eU.getD 7 0=A:=⟨_,rfl⟩;rw[aiD]at Xv asp auG auH axY axZ ax6 ax7 amM amN aFv aFw⊢;rw[qJ]at amM amN⊢;have ZK:=aFx t oe Di;rw[aiD,qJ,<-Ma,<-oz,<-Nk,<-Sc,<-awl]at ZK;have bu:md cT (H+oU+oV+z183+oe)=H+(oe+(oU+((-18446744073709551616)*sb+(oV+((-18446744073709551616)*z182+(z183+((-18446744073709551616)*Au+(-18446744073709551616)*Ca))))))):=by
     rw[Km];omega
    have au6:md cT (Cb+Av)=Cb+(Av+(-18446744073709551616)*Lv):=by
     rw[Km];omega
    simp only[bu,au6]at ZK;refine⟨⟨by omega,by omega⟩,⟨t+1,by omega,?_⟩,?_⟩
    ·rw[aGa bK t (by omega),amQ,<-hv,show 0+(bK.take t).length=t by rw[sf];omega,<-ex,ZK,as4];simp only[qn,and_true];refine⟨⟨?_,trivial,trivial,trivial,?_⟩,?_⟩
     ·rw[Km];exact aly (k:=z194) (by omega) (by omega) (by omega)
     ·rw[Km];exact aly (k:=z193) (by omega) (by omega) (by omega)
     ·omega
    ·show(80-(z175+-18446744073709551616*Aw+1)).toNat<(80-z175).toNat;omega
   ·have ajj:=of_decide_eq_false ajj;intro oe afA aKo aKw aKE oU afB aKp aKx aKF sb Gl aKq aKy aKG DW aKj aKr aKz aKH DX aKk aKs aKA aKI oV aKl aKt aKB aKJ z182 aKm aKu aKC aKK z183 aKn aKv aKD aKL;have ZM:t=80:=by omega
    have avY:bK.take t=bK:=uK (by omega);rw[avY]at hv;have ys:K5 cT aE ws=[aE.getD 0 0+(eU.getD 0 0+(-18446744073709551616)*oe),aE.getD 1 0+(eU.getD 1 0+(-18446744073709551616)*oU),aE.getD 2 0+(eU.getD 2 0+(-18446744073709551616)*sb),aE.getD 3 0+(eU.getD 3 0+(-18446744073709551616)*DW),aE.getD 4 0+(eU.getD 4 0+(-18446744073709551616)*DX),aE.getD 5 0+(eU.getD 5 0+(-18446744073709551616)*oV),aE.getD 6 0+(eU.getD 6 0+(-18446744073709551616)*z182),aE.getD 7 0+(eU.getD 7 0+(-18446744073709551616)*z183)]:=by
     unfold K5;rw[awQ,<-hv,aIS _ yE Di];simp only[Km,qn,and_true];refine⟨by omega,by omega,by omega,by omega,by omega,by omega,by omega,by omega⟩
    refine⟨⟨i+1,by omega,?_⟩,?_⟩
    ·rw[<-ys,aiE];show _=[K5 cT (Me cT (bT z0) i (Ep cT)) (O9 cT (((bT z0).drop (128*i)).take 128)),_];rw[CK,ZW,show aq+1=((i+1:Nat):Int) by omega]
    ·show((q:Int)-(aq+1)).toNat<((q:Int)-aq).toNat;omega
 ·have h:=of_decide_eq_false h;have ajn:i=q:=by omega
  have jM:wA cT (bT z0)=Fp cT aE:=by
   unfold wA;rw[aZ,show 2*cT.w=128 from rfl,Nat.mul_div_cancel_left q (by decide),<-ajn,<-aiE]
  have lH:Fp cT aE=((((((([]++(ht 8).map (yg cT (aE.getD 0 0)))++(ht 8).map (yg cT (aE.getD 1 0)))++(ht 8).map (yg cT (aE.getD 2 0)))++(ht 8).map (yg cT (aE.getD 3 0)))++(ht 8).map (yg cT (aE.getD 4 0)))++(ht 8).map (yg cT (aE.getD 5 0)))++(ht 8).map (yg cT (aE.getD 6 0)))++(ht 8).map (yg cT (aE.getD 7 0)):=by
   conv=>lhs;rw[ayO yE]
   rfl
  refine FM (pre:=[]) oa rfl (by simp) λaKP aNC aNr p0 cG h0 as2=>?_;refine FM h0 (by rw[as2];simp) (by simp) λaKQ akB aNs cC dE h1 QI=>?_;refine FM h1 (by rw[QI];simp) (by simp) λaKR akC aNt gP gW h2 XP=>?_;refine FM h2 (by rw[XP];simp) (by simp) λQi aND aNu ie pt h3 XQ=>?_;refine FM h3 (by rw[XQ];simp) (by simp) λaKS aNF aNv Kz amc h4 as5=>?_;refine FM h4 (by rw[as5];simp) (by simp) λaKT aNG aNw amb aNW h5 as6=>?_;refine FM h5 (by rw[as6];simp) (by simp) λaKU aNH aNx aNX aNY h6 as8=>?_;refine FM h6 (by rw[as8];simp) (by simp) λag1 ayw aNy aNZ aN0 h7 as9=>?_;have Zr:ao ag1=rws (Fp cT aE):=by rw[h7,lH]
  have ayP:ayw=((ao ag1).length:Int):=by rw[h7,DG,as9];simp
  refine⟨⟨di _,by omega,by omega⟩,λaIR dx aj ah=>⟨⟨dx,aj,trivial⟩,?_⟩⟩;have hf:=lA ah ayP;show bT aIR=wA cT (bT z0);rw[jM];exact Xp (by rw[hf,Zr])
end Go.gg
namespace Go.gg
open Go Go.b9
def aeM (S:Nat->List (List Int)->List (List Int)->Prop) (K:List (List Int)->List (List Int)->Prop):Prop:=
 ∀z0:Int,0<=z0->z0<=b6->∀aF:Int,0<=aF->aF<=b6->
 (ay 75 [z0,aF]->
 ∀z2:Int,0<=z2->
 ∀z3:Int,(-1)<=z3->z3<=9223372036854775807->
 ∀z4:Int,0<=z4->z4<=9223372036854775807->z4=bM 20 [z0]->
 ∀z5:Int,0<=z5->
 ∀bC:Int,(-1)<=bC->bC<=9223372036854775807->
 ∀aX:Int,0<=aX->aX<=9223372036854775807->aX=bM 20 [aF]->
 (((decide ((((-1)*z4)+9223372036854775807)<aX))=true->
  False
 )/\((decide ((((-1)*z4)+9223372036854775807)<aX))=false->
  ∀aK:Int,0<=aK->aK<=1->0<=((z4+aX)+9223372036854775808)-18446744073709551616*aK->((z4+aX)+9223372036854775808)-18446744073709551616*aK<18446744073709551616->
  ay 26 [(z4+(aX+((-18446744073709551616)*aK)))]/\
  ∀z9:Int,0<=z9->z9<=b6->
  (ay 31 [z9,(z4+(aX+((-18446744073709551616)*aK)))]->
  ∀a8:Int,0<=a8->a8<=9223372036854775807->
  (ay 79 [(z4+(aX+((-18446744073709551616)*aK))),a8]->
  ay 78 [0,(z4+(aX+((-18446744073709551616)*aK))),(z4+(aX+((-18446744073709551616)*aK))),a8]/\
  ∀aL:Int,0<=aL->aL<=9223372036854775808->aL=bM 33 [0,0,(z4+(aX+((-18446744073709551616)*aK)))]->
  ay 80 [z9,aL,(z4+(aX+((-18446744073709551616)*aK)))]/\
  ay 22 [z0,0,z4]/\
  ∀z12:Int,0<=z12->z12<=9223372036854775807->z12=bM 62 [z4,(z4+(aX+((-18446744073709551616)*aK)))]->
  ∀aq:Int,0<=aq->aq<=b6->aq=bM 22 [z0,0,z12]->
  ∀ax:Int,0<=ax->ax<=b6->ax=bM 63 [z9,aL,aq]->
  ay 32 [z12,(z4+(aX+((-18446744073709551616)*aK))),(z4+(aX+((-18446744073709551616)*aK)))]/\
  (ay 68 [(z4+(aX+((-18446744073709551616)*aK))),(z4+(aX+((-18446744073709551616)*aK)))]->
  ∀aT:Int,0<=aT->aT<=9223372036854775808->aT=bM 33 [aL,z12,(z4+(aX+((-18446744073709551616)*aK)))]->
  ay 32 [z12,(z4+(aX+((-18446744073709551616)*aK))),(z4+(aX+((-18446744073709551616)*aK)))]/\
  (ay 68 [(z4+(aX+((-18446744073709551616)*aK))),(z4+(aX+((-18446744073709551616)*aK)))]->
  ∀bh:Int,0<=bh->bh<=9223372036854775808->bh=bM 33 [aL,z12,(z4+(aX+((-18446744073709551616)*aK)))]->
  ay 80 [ax,bh,(z4+(aX+(((-18446744073709551616)*aK)+((-1)*z12))))]/\
  ay 22 [aF,0,aX]/\
  ∀aU:Int,0<=aU->aU<=9223372036854775807->aU=bM 62 [aX,(z4+(aX+(((-18446744073709551616)*aK)+((-1)*z12))))]->
  ∀bd:Int,0<=bd->bd<=b6->bd=bM 22 [aF,0,aU]->
  ∀bk:Int,0<=bk->bk<=b6->bk=bM 63 [ax,bh,bd]->
  ∀z20:Int,0<=z20->z20<=1->0<=((z12+aU)+9223372036854775808)-18446744073709551616*z20->((z12+aU)+9223372036854775808)-18446744073709551616*z20<18446744073709551616->
  ay 22 [bk,aL,(z4+(aX+(((-18446744073709551616)*aK)+aL)))]/\
  ay 40 [(z4+(aX+((-18446744073709551616)*aK))),a8]/\
  ∀z21:Int,0<=z21->z21<=b6->z21=bM 22 [bk,aL,(z4+(aX+(((-18446744073709551616)*aK)+aL)))]->
  K [[z0],[aF]] [[z21]]
  )
  )
  )
  )
 ))
 )
def aeN (S:Nat->List (List Int)->List (List Int)->Prop) (K:List (List Int)->List (List Int)->Prop):Prop:=
 ∀z0:Int,0<=z0->z0<=b6->∀aF:Int,0<=aF->aF<=b6->∀z2:Int,0<=z2->z2<=b6->
 (ay 75 [z0,aF,z2]->
 ∀z3:Int,0<=z3->
 ∀z4:Int,(-1)<=z4->z4<=9223372036854775807->
 ∀z5:Int,0<=z5->z5<=9223372036854775807->z5=bM 20 [z0]->
 ∀bC:Int,0<=bC->
 ∀aX:Int,(-1)<=aX->aX<=9223372036854775807->
 ∀aK:Int,0<=aK->aK<=9223372036854775807->aK=bM 20 [aF]->
 ∀z9:Int,0<=z9->
 ∀a8:Int,(-1)<=a8->a8<=9223372036854775807->
 ∀aL:Int,0<=aL->aL<=9223372036854775807->aL=bM 20 [z2]->
 (((decide ((((-1)*z5)+9223372036854775807)<aK))=true->
  False
 )/\((decide ((((-1)*z5)+9223372036854775807)<aK))=false->
  ∀z12:Int,0<=z12->z12<=1->0<=((z5+aK)+9223372036854775808)-18446744073709551616*z12->((z5+aK)+9223372036854775808)-18446744073709551616*z12<18446744073709551616->
  ∀aq:Int,0<=aq->aq<=1->0<=((((-1)*z5)+(((-1)*aK)+(18446744073709551616*z12)))+18446744073709551615)-18446744073709551616*aq->((((-1)*z5)+(((-1)*aK)+(18446744073709551616*z12)))+18446744073709551615)-18446744073709551616*aq<18446744073709551616->
  (((decide (((((-1)*z5)+(((-1)*aK)+((18446744073709551616*z12)+((-18446744073709551616)*aq))))+9223372036854775807)<aL))=true->
   False
  )/\((decide (((((-1)*z5)+(((-1)*aK)+((18446744073709551616*z12)+((-18446744073709551616)*aq))))+9223372036854775807)<aL))=false->
   ∀ax:Int,0<=ax->ax<=1->0<=((z5+(aK+(aL+((-18446744073709551616)*z12))))+9223372036854775808)-18446744073709551616*ax->((z5+(aK+(aL+((-18446744073709551616)*z12))))+9223372036854775808)-18446744073709551616*ax<18446744073709551616->
   ay 26 [(z5+(aK+(aL+(((-18446744073709551616)*z12)+((-18446744073709551616)*ax)))))]/\
   ∀aT:Int,0<=aT->aT<=b6->
   (ay 31 [aT,(z5+(aK+(aL+(((-18446744073709551616)*z12)+((-18446744073709551616)*ax)))))]->
   ∀bh:Int,0<=bh->bh<=9223372036854775807->
   (ay 79 [(z5+(aK+(aL+(((-18446744073709551616)*z12)+((-18446744073709551616)*ax))))),bh]->
   ay 78 [0,(z5+(aK+(aL+(((-18446744073709551616)*z12)+((-18446744073709551616)*ax))))),(z5+(aK+(aL+(((-18446744073709551616)*z12)+((-18446744073709551616)*ax))))),bh]/\
   ∀aU:Int,0<=aU->aU<=9223372036854775808->aU=bM 33 [0,0,(z5+(aK+(aL+(((-18446744073709551616)*z12)+((-18446744073709551616)*ax)))))]->
   ay 80 [aT,aU,(z5+(aK+(aL+(((-18446744073709551616)*z12)+((-18446744073709551616)*ax)))))]/\
   ay 22 [z0,0,z5]/\
   ∀bd:Int,0<=bd->bd<=9223372036854775807->bd=bM 62 [z5,(z5+(aK+(aL+(((-18446744073709551616)*z12)+((-18446744073709551616)*ax)))))]->
   ∀bk:Int,0<=bk->bk<=b6->bk=bM 22 [z0,0,bd]->
   ∀z20:Int,0<=z20->z20<=b6->z20=bM 63 [aT,aU,bk]->
   ay 32 [bd,(z5+(aK+(aL+(((-18446744073709551616)*z12)+((-18446744073709551616)*ax))))),(z5+(aK+(aL+(((-18446744073709551616)*z12)+((-18446744073709551616)*ax)))))]/\
   (ay 68 [(z5+(aK+(aL+(((-18446744073709551616)*z12)+((-18446744073709551616)*ax))))),(z5+(aK+(aL+(((-18446744073709551616)*z12)+((-18446744073709551616)*ax)))))]->
   ∀z21:Int,0<=z21->z21<=9223372036854775808->z21=bM 33 [aU,bd,(z5+(aK+(aL+(((-18446744073709551616)*z12)+((-18446744073709551616)*ax)))))]->
   ay 32 [bd,(z5+(aK+(aL+(((-18446744073709551616)*z12)+((-18446744073709551616)*ax))))),(z5+(aK+(aL+(((-18446744073709551616)*z12)+((-18446744073709551616)*ax)))))]/\
   (ay 68 [(z5+(aK+(aL+(((-18446744073709551616)*z12)+((-18446744073709551616)*ax))))),(z5+(aK+(aL+(((-18446744073709551616)*z12)+((-18446744073709551616)*ax)))))]->
   ∀z22:Int,0<=z22->z22<=9223372036854775808->z22=bM 33 [aU,bd,(z5+(aK+(aL+(((-18446744073709551616)*z12)+((-18446744073709551616)*ax)))))]->
   ay 80 [z20,z22,(z5+(aK+(aL+(((-18446744073709551616)*z12)+(((-18446744073709551616)*ax)+((-1)*bd))))))]/\
   ay 22 [aF,0,aK]/\
   ∀bA:Int,0<=bA->bA<=9223372036854775807->bA=bM 62 [aK,(z5+(aK+(aL+(((-18446744073709551616)*z12)+(((-18446744073709551616)*ax)+((-1)*bd))))))]->
   ∀z24:Int,0<=z24->z24<=b6->z24=bM 22 [aF,0,bA]->
   ∀bS:Int,0<=bS->bS<=b6->bS=bM 63 [z20,z22,z24]->
   ∀z26:Int,0<=z26->z26<=1->0<=((bd+bA)+9223372036854775808)-18446744073709551616*z26->((bd+bA)+9223372036854775808)-18446744073709551616*z26<18446744073709551616->
   ay 32 [(bd+(bA+((-18446744073709551616)*z26))),(z5+(aK+(aL+(((-18446744073709551616)*z12)+((-18446744073709551616)*ax))))),(z5+(aK+(aL+(((-18446744073709551616)*z12)+((-18446744073709551616)*ax)))))]/\
   (ay 68 [(z5+(aK+(aL+(((-18446744073709551616)*z12)+((-18446744073709551616)*ax))))),(z5+(aK+(aL+(((-18446744073709551616)*z12)+((-18446744073709551616)*ax)))))]->
   ∀bO:Int,0<=bO->bO<=9223372036854775808->bO=bM 33 [aU,(bd+(bA+((-18446744073709551616)*z26))),(z5+(aK+(aL+(((-18446744073709551616)*z12)+((-18446744073709551616)*ax)))))]->
   ay 32 [(bd+(bA+((-18446744073709551616)*z26))),(z5+(aK+(aL+(((-18446744073709551616)*z12)+((-18446744073709551616)*ax))))),(z5+(aK+(aL+(((-18446744073709551616)*z12)+((-18446744073709551616)*ax)))))]/\
   (ay 68 [(z5+(aK+(aL+(((-18446744073709551616)*z12)+((-18446744073709551616)*ax))))),(z5+(aK+(aL+(((-18446744073709551616)*z12)+((-18446744073709551616)*ax)))))]->
   ∀z28:Int,0<=z28->z28<=9223372036854775808->z28=bM 33 [aU,(bd+(bA+((-18446744073709551616)*z26))),(z5+(aK+(aL+(((-18446744073709551616)*z12)+((-18446744073709551616)*ax)))))]->
   ay 80 [bS,z28,(z5+(aK+(aL+(((-18446744073709551616)*z12)+(((-18446744073709551616)*ax)+(((-1)*bd)+(((-1)*bA)+(18446744073709551616*z26))))))))]/\
   ay 22 [z2,0,aL]/\
   ∀bX:Int,0<=bX->bX<=9223372036854775807->bX=bM 62 [aL,(z5+(aK+(aL+(((-18446744073709551616)*z12)+(((-18446744073709551616)*ax)+(((-1)*bd)+(((-1)*bA)+(18446744073709551616*z26))))))))]->
   ∀b2:Int,0<=b2->b2<=b6->b2=bM 22 [z2,0,bX]->
   ∀z31:Int,0<=z31->z31<=b6->z31=bM 63 [bS,z28,b2]->
   ∀aS:Int,0<=aS->aS<=1->0<=((bd+(bA+(((-18446744073709551616)*z26)+bX)))+9223372036854775808)-18446744073709551616*aS->((bd+(bA+(((-18446744073709551616)*z26)+bX)))+9223372036854775808)-18446744073709551616*aS<18446744073709551616->
   ay 22 [z31,aU,(z5+(aK+(aL+(((-18446744073709551616)*z12)+(((-18446744073709551616)*ax)+aU)))))]/\
   ay 40 [(z5+(aK+(aL+(((-18446744073709551616)*z12)+((-18446744073709551616)*ax))))),bh]/\
   ∀bL:Int,0<=bL->bL<=b6->bL=bM 22 [z31,aU,(z5+(aK+(aL+(((-18446744073709551616)*z12)+(((-18446744073709551616)*ax)+aU)))))]->
   K [[z0],[aF],[z2]] [[bL]]
   )
   )
   )
   )
   )
   )
  ))
 ))
 )
def aeR (S:Nat->List (List Int)->List (List Int)->Prop) (K:List (List Int)->List (List Int)->Prop):Prop:=
 ∀z0:Int,0<=z0->z0<=b6->∀aF:Int,0<=aF->aF<=b6->
 (ay 75 [z0,aF]->
 ∀z2:Int,0<=z2->
 ∀z3:Int,(-1)<=z3->z3<=9223372036854775807->
 ∀z4:Int,0<=z4->z4<=9223372036854775807->z4=bM 20 [z0]->
 ∀z5:Int,0<=z5->
 ∀bC:Int,(-1)<=bC->bC<=9223372036854775807->
 ∀aX:Int,0<=aX->aX<=9223372036854775807->aX=bM 20 [aF]->
 ay 22 [z0,0,z4]/\
 ∀aK:Int,0<=aK->aK<=b6->aK=bM 22 [z0,0,z4]->
 ay 22 [aF,0,aX]/\
 ∀z9:Int,0<=z9->z9<=b6->z9=bM 22 [aF,0,aX]->
 ay 75 [aK,z9]/\
 ∀a8:Int,0<=a8->a8<=b6->S 472 [[aK],[z9]] [[a8]]->
 ∀aL:Int,0<=aL->
 ∀z12:Int,(-1)<=z12->z12<=9223372036854775807->
 ∀aq:Int,0<=aq->aq<=9223372036854775807->aq=bM 20 [a8]->
 ay 22 [a8,0,aq]/\
 ∀ax:Int,0<=ax->ax<=b6->ax=bM 22 [a8,0,aq]->
 ay 71 [ax]/\
 ∀aT:Int,0<=aT->aT<=b6->S 443 [[ax]] [[aT]]->
 ∀bh:Int,(-1)<=bh->bh<=9223372036854775807->
 ∀aU:Int,0<=aU->aU<=9223372036854775807->aU=bM 20 [aT]->
 ay 22 [aT,0,aU]/\
 ∀bd:Int,0<=bd->bd<=b6->bd=bM 22 [aT,0,aU]->
 ay 73 [bd]/\
 ∀bk:Int,0<=bk->bk<=b6->S 465 [[bd]] [[bk]]->
 ∀z20:Int,(-1)<=z20->z20<=9223372036854775807->
 ∀z21:Int,0<=z21->z21<=9223372036854775807->z21=bM 20 [bk]->
 ay 30 [63,z21]/\
 ay 21 [bk,0]/\
 Qz bk 64 0 [] λvV=>
 K [[z0],[aF]] [vV]
 )
def aeS (S:Nat->List (List Int)->List (List Int)->Prop) (K:List (List Int)->List (List Int)->Prop):Prop:=
 ∀z0:Int,0<=z0->z0<=b6->∀aF:Int,0<=aF->aF<=b6->∀z2:Int,0<=z2->z2<=b6->
 (ay 75 [z0,aF,z2]->
 ∀z3:Int,0<=z3->
 ∀z4:Int,(-1)<=z4->z4<=9223372036854775807->
 ∀z5:Int,0<=z5->z5<=9223372036854775807->z5=bM 20 [z0]->
 ∀bC:Int,0<=bC->
 ∀aX:Int,(-1)<=aX->aX<=9223372036854775807->
 ∀aK:Int,0<=aK->aK<=9223372036854775807->aK=bM 20 [aF]->
 ∀z9:Int,0<=z9->
 ∀a8:Int,(-1)<=a8->a8<=9223372036854775807->
 ∀aL:Int,0<=aL->aL<=9223372036854775807->aL=bM 20 [z2]->
 ay 22 [z0,0,z5]/\
 ∀z12:Int,0<=z12->z12<=b6->z12=bM 22 [z0,0,z5]->
 ay 22 [aF,0,aK]/\
 ∀aq:Int,0<=aq->aq<=b6->aq=bM 22 [aF,0,aK]->
 ay 22 [z2,0,aL]/\
 ∀ax:Int,0<=ax->ax<=b6->ax=bM 22 [z2,0,aL]->
 ay 75 [z12,aq,ax]/\
 ∀aT:Int,0<=aT->aT<=b6->S 469 [[z12],[aq],[ax]] [[aT]]->
 ∀bh:Int,0<=bh->
 ∀aU:Int,(-1)<=aU->aU<=9223372036854775807->
 ∀bd:Int,0<=bd->bd<=9223372036854775807->bd=bM 20 [aT]->
 ay 22 [aT,0,bd]/\
 ∀bk:Int,0<=bk->bk<=b6->bk=bM 22 [aT,0,bd]->
 ay 71 [bk]/\
 ∀z20:Int,0<=z20->z20<=b6->S 443 [[bk]] [[z20]]->
 ∀z21:Int,(-1)<=z21->z21<=9223372036854775807->
 ∀z22:Int,0<=z22->z22<=9223372036854775807->z22=bM 20 [z20]->
 ay 22 [z20,0,z22]/\
 ∀bA:Int,0<=bA->bA<=b6->bA=bM 22 [z20,0,z22]->
 ay 73 [bA]/\
 ∀z24:Int,0<=z24->z24<=b6->S 465 [[bA]] [[z24]]->
 ∀bS:Int,(-1)<=bS->bS<=9223372036854775807->
 ∀z26:Int,0<=z26->z26<=9223372036854775807->z26=bM 20 [z24]->
 ay 30 [63,z26]/\
 ay 21 [z24,0]/\
 Qz z24 64 0 [] λvV=>
 K [[z0],[aF],[z2]] [vV]
 )
theorem XB {c:Int} {k:List Int->Prop}:∀(n i:Nat) (acc:List Int),i+n<=(ao c).length->(∀l:List Int,l.length=n->(∀x∈l,0<=x/\x<=255)->l=((bT c).drop i).take n->k (acc++l))->Qz c n i acc k
 |0,i,acc,_,h=>by
  have:=h [] rfl (by simp) (by simp);show k acc;simpa using this
 |n+1,i,acc,hl,h=>⟨⟨by omega,by omega⟩,λy j1 ar hy=>XB n (i+1) (acc++[y]) (by omega) λl h1 h2 h3=>by
  have hb:i<(bT c).length:=by rw[yf];omega
  have e:y=(bT c)[i]:=by rw[ee hy,qm,xP,pF hb];rfl
  have:=h (y::l) (by simp[h1]) (λx hx=>by
   rcases List.mem_cons.1 hx with rfl|hx
   ·exact⟨j1,ar⟩
   ·exact h2 x hx) (by rw[apD hb,nL,<-e,<-h3])
  simpa using this⟩
theorem Oo {c x s t n a b m r0 r:Int} {A B:List (List Int)} (hc:ao c=A++B) (aO:(A.length:Int)=s) (ea:(B.length:Int)=t-s) (h0:r0=0) (hr:r=bM 33 [r0,a,b]) (ha:a=s) (hb:b=t) (hn:n=((ao x).length:Int)) (hle:n<=t-s) (hm:m=t-s):
 ay 80 [c,r,m]/\ay 22 [x,0,n]/\∀q,q=bM 62 [n,m]->q=n/\∀src,src=bM 22 [x,0,q]->∀e3,e3=bM 63 [c,r,src]->∃aeu,ao e3=(A++ao x)++aeu/\(aeu.length:Int)=t-s-n:=by
 subst h0;subst ha;subst hb;subst hm;have hr:r=if a=b then 0 else 0+a:=hr
 have Nr:((ao c).length:Int)=b:=by rw[hc,gY];omega
 have E5:0<=r/\r<=a/\(a≠b->r=a):=by
  by_cases h:a=b
  ·rw[if_pos h]at hr;exact⟨by omega,by omega,λh2=>absurd h h2⟩
  ·rw[if_neg h]at hr;exact⟨by omega,by omega,λ_=>by omega⟩
 refine⟨⟨E5.1,by omega,by rw[Nr];omega⟩,⟨di _,by omega,by rw[hn];exact di _⟩,λq ak=>?_⟩;have ak:q=min n (b-a):=ak;have ajF:q=n:=by omega
 refine⟨ajF,λsrc hs e3 EV=>?_⟩;have hs:ao src=ao x:=lA hs (by rw[ajF,hn]);have EV:e3=rc ((ao c).take r.toNat++ao src++(ao c).drop (r.toNat+(ao src).length)):=EV;by_cases h:a=b
 ·have CZ:ao x=[]:=zb (by omega);refine⟨B,?_,by omega⟩;rw[EV,kS,hs,CZ,hc];simp
 ·have aNg:=E5.2.2 h;refine⟨B.drop (ao x).length,?_,by rw[oZ];omega⟩;have e:r.toNat=A.length:=by omega
  rw[EV,kS,hs,hc,e,List.take_left,<-List.drop_drop,List.drop_left]
theorem aCc:aeM SB (hM SB [l5] 472):=by
 intro z0 _ _ aF _ _ hp;have hp:∀z∈([z0,aF]:List Int),(ao z).length<=100000000:=hp;have aDf:=hp z0 (by simp);have aDg:=hp aF (by simp);intro z2 _ z3 _ _ z4 w3 _ h4 z5 _ bC _ _ aX HF _ h7;have h4:z4=((ao z0).length:Int):=h4;have h7:aX=((ao aF).length:Int):=h7;refine⟨λh=>?_,λ_=>?_⟩
 ·have h:=of_decide_eq_true h;omega
 intro w _ _ qj uH;have wM:w=0:=by omega
 subst wM;clear qj uH;obtain⟨t,aD⟩:∃t:Int,z4+aX=t:=⟨_,rfl⟩;refine⟨⟨by omega,by omega⟩,?_⟩;intro e4 _ _ hc0;have hc0:_=((ao e4).length:Int):=hc0;intro nV asM _ EY;have EY:_<=nV:=EY;refine⟨⟨by decide,by omega,by omega,by omega⟩,?_⟩;intro r0 _ _ ju;have ju:r0=if(0:Int)=_ then 0 else 0+0:=ju
 have ju:r0=0:=by rw[ju];split<;>rfl
 have i0:ao e4=([]:List (List Int))++ao e4:=rfl;obtain⟨s1,s2,bn⟩:=Oo (c:=e4) (x:=z0) (s:=0) (t:=t) (n:=z4) (a:=0) (b:=t) (m:=t) (r0:=0) (r:=0) i0 rfl (by omega) rfl (by show(0:Int)=if(0:Int)=t then 0 else 0+0;split<;>rfl) rfl rfl h4 (by omega) (by omega);have Jp:∀x:Int,x=t->x=t:=λ_ h=>h;refine⟨?_,s2,?_⟩
 ·rw[ju];have e:=s1;have hm:∀m:Int,m=t->ay 80 [e4,0,m]:=λm h=>by rw[h];exact s1
  exact hm _ (by omega)
 intro eJ _ _ zO;have hm:∀m:Int,m=t->eJ=bM 62 [z4,m]->eJ=bM 62 [z4,t]:=λm h h2=>by rw[h2,h]
 obtain⟨gE,bn⟩:=bn eJ (hm _ (by omega) zO);clear hm zO s1 s2;intro ac8 _ _ ZI c1 _ _ iw;rw[ju]at iw;obtain⟨aqV,i1,jc⟩:=bn ac8 ZI c1 iw;clear bn;refine⟨⟨by omega,by omega,by omega⟩,λ_=>?_⟩;intro rs _ _ _;refine⟨⟨by omega,by omega,by omega⟩,λ_=>?_⟩;intro r1 _ _ hO;obtain⟨s1,s2,bn⟩:=Oo (x:=aF) (t:=t) (n:=aX) (s:=z4) i1 (by simp only[gY,qo];omega) (by omega) ju hO (by omega) (by omega) h7 (by omega) rfl;refine⟨?_,s2,?_⟩
 ·have hm:∀m:Int,m=t-(z4)->ay 80 [c1,r1,m]:=λm h=>by rw[h];exact s1
  exact hm _ (by omega)
 intro bg _ _ zP;have hm:∀m:Int,m=t-(z4)->bg=bM 62 [aX,m]->bg=bM 62 [aX,t-(z4)]:=λm h h2=>by rw[h2,h]
 obtain⟨az,bn⟩:=bn bg (hm _ (by omega) zP);clear hm zP s1 s2;intro ac9 _ _ CW bQ _ _ hc2;obtain⟨ae6,i2,p9⟩:=bn ac9 CW bQ hc2;clear bn;intro w _ _ qj uH;have wM:w=0:=by omega
 subst wM;clear qj uH;have wP:ae6=[]:=zb (by omega);have hl:((ao bQ).length:Int)=t:=by rw[i2,wP];simp only[gY,qo];omega
 subst ju;refine⟨⟨di _,by omega,by omega⟩,λ_=>by omega,?_⟩;intro z _ adU hz;have hz:=lA hz (by omega);refine⟨⟨by assumption,adU,trivial⟩,?_⟩;show ao z=ao z0++(ao aF);rw[hz,i2,wP];simp only[gq,hK,mF]
theorem aCd:aeN SB (hM SB [l5] 469):=by
 intro z0 _ _ aF _ _ z2 _ _ hp;have hp:∀z∈([z0,aF,z2]:List Int),(ao z).length<=100000000:=hp;have aDf:=hp z0 (by simp);have aDg:=hp aF (by simp);have aN3:=hp z2 (by simp);intro z3 _ z4 _ _ z5 yE _ h5 bC _ aX _ _ aK Dh _ fq z9 _ a8 _ _ aL Df _ qH;have h5:z5=((ao z0).length:Int):=h5;have fq:aK=((ao aF).length:Int):=fq;have qH:aL=((ao z2).length:Int):=qH;refine⟨λh=>?_,λ_=>?_⟩
 ·have h:=of_decide_eq_true h;omega
 intro w _ _ qj uH;have wM:w=0:=by omega
 subst wM;clear qj uH;intro w _ _ qj uH;have wM:w=0:=by omega
 subst wM;clear qj uH;refine⟨λh=>?_,λ_=>?_⟩
 ·have h:=of_decide_eq_true h;omega
 intro w _ _ qj uH;have wM:w=0:=by omega
 subst wM;clear qj uH;obtain⟨t,aD⟩:∃t:Int,z5+aK+aL=t:=⟨_,rfl⟩;refine⟨⟨by omega,by omega⟩,?_⟩;intro e4 _ _ hc0;have hc0:_=((ao e4).length:Int):=hc0;intro nV asM _ EY;have EY:_<=nV:=EY;refine⟨⟨by decide,by omega,by omega,by omega⟩,?_⟩;intro r0 _ _ ju;have ju:r0=if(0:Int)=_ then 0 else 0+0:=ju
 have ju:r0=0:=by rw[ju];split<;>rfl
 have i0:ao e4=([]:List (List Int))++ao e4:=rfl;obtain⟨s1,s2,bn⟩:=Oo (c:=e4) (x:=z0) (s:=0) (t:=t) (n:=z5) (a:=0) (b:=t) (m:=t) (r0:=0) (r:=0) i0 rfl (by omega) rfl (by show(0:Int)=if(0:Int)=t then 0 else 0+0;split<;>rfl) rfl rfl h5 (by omega) (by omega);have Jp:∀x:Int,x=t->x=t:=λ_ h=>h;refine⟨?_,s2,?_⟩
 ·rw[ju];have e:=s1;have hm:∀m:Int,m=t->ay 80 [e4,0,m]:=λm h=>by rw[h];exact s1
  exact hm _ (by omega)
 intro eJ _ _ zO;have hm:∀m:Int,m=t->eJ=bM 62 [z5,m]->eJ=bM 62 [z5,t]:=λm h h2=>by rw[h2,h]
 obtain⟨gE,bn⟩:=bn eJ (hm _ (by omega) zO);clear hm zO s1 s2;intro ac8 _ _ ZI c1 _ _ iw;rw[ju]at iw;obtain⟨aqV,i1,jc⟩:=bn ac8 ZI c1 iw;clear bn;refine⟨⟨by omega,by omega,by omega⟩,λ_=>?_⟩;intro rs _ _ _;refine⟨⟨by omega,by omega,by omega⟩,λ_=>?_⟩;intro r1 _ _ hO;obtain⟨s1,s2,bn⟩:=Oo (x:=aF) (t:=t) (n:=aK) (s:=z5) i1 (by simp only[gY,qo];omega) (by omega) ju hO (by omega) (by omega) fq (by omega) rfl;refine⟨?_,s2,?_⟩
 ·have hm:∀m:Int,m=t-(z5)->ay 80 [c1,r1,m]:=λm h=>by rw[h];exact s1
  exact hm _ (by omega)
 intro bg _ _ zP;have hm:∀m:Int,m=t-(z5)->bg=bM 62 [aK,m]->bg=bM 62 [aK,t-(z5)]:=λm h h2=>by rw[h2,h]
 obtain⟨az,bn⟩:=bn bg (hm _ (by omega) zP);clear hm zP s1 s2;intro ac9 _ _ CW bQ _ _ hc2;obtain⟨ae6,i2,p9⟩:=bn ac9 CW bQ hc2;clear bn;intro w _ _ qj uH;have wM:w=0:=by omega
 subst wM;clear qj uH;refine⟨⟨by omega,by omega,by omega⟩,λ_=>?_⟩;intro rs _ _ _;refine⟨⟨by omega,by omega,by omega⟩,λ_=>?_⟩;intro r2 _ _ jN;obtain⟨s1,s2,bn⟩:=Oo (x:=z2) (t:=t) (n:=aL) (s:=z5+aK) i2 (by simp only[gY,qo];omega) (by omega) ju jN (by omega) (by omega) qH (by omega) rfl;refine⟨?_,s2,?_⟩
 ·have hm:∀m:Int,m=t-(z5+aK)->ay 80 [bQ,r2,m]:=λm h=>by rw[h];exact s1
  exact hm _ (by omega)
 intro b3 _ _ wU;have hm:∀m:Int,m=t-(z5+aK)->b3=bM 62 [aL,m]->b3=bM 62 [aL,t-(z5+aK)]:=λm h h2=>by rw[h2,h]
 obtain⟨aI,bn⟩:=bn b3 (hm _ (by omega) wU);clear hm wU s1 s2;intro aFt _ _ zR cF _ _ ai2;obtain⟨aqW,i3,rM⟩:=bn aFt zR cF ai2;clear bn;intro w _ _ qj uH;have wM:w=0:=by omega
 subst wM;clear qj uH;have wP:aqW=[]:=zb (by omega);have hl:((ao cF).length:Int)=t:=by rw[i3,wP];simp only[gY,qo];omega
 subst ju;refine⟨⟨di _,by omega,by omega⟩,λ_=>by omega,?_⟩;intro z _ adU hz;have hz:=lA hz (by omega);refine⟨⟨by assumption,adU,trivial⟩,?_⟩;show ao z=ao z0++(ao aF++(ao z2));rw[hz,i3,wP];simp only[gq,hK,mF]
theorem aCi:aeR SB (hM SB [.d jb] 473):=by
 intro z0 _ _ aF _ _ hp;have hp:∀z∈([z0,aF]:List Int),(ao z).length<=100000000:=hp;intro z2 _ z3 _ _ z4 w3 _ h4 z5 _ bC _ _ aX HF _ h7;have h4:z4=((ao z0).length:Int):=h4;have h7:aX=((ao aF).length:Int):=h7;refine⟨⟨di _,w3,by rw[h4];exact di _⟩,?_⟩;intro aK _ _ fq;have fq:=lA fq h4;refine⟨⟨di _,HF,by rw[h7];exact di _⟩,?_⟩;intro z9 _ _ ef;have ef:=lA ef h7;refine⟨λz hz=>?_,?_⟩
 ·simp only[oW,y9,or_false]at hz;rcases hz with rfl|rfl
  ·rw[fq];exact hp z0 (by simp)
  ·rw[ef];exact hp aF (by simp)
 intro ra _ _ aM;have aM:ao ra=ao aK++(ao z9):=aM;rw[fq,ef]at aM;have Zt:(ao ra).length<=1000000000:=by
  rw[aM];simp only[gY];have:=hp z0 (by simp);have:=hp aF (by simp);omega
 have Y4:bT ra=bT z0++(bT aF):=by
  unfold bT;rw[aM];simp only[jE]
 intro aIK _ aIL _ _ adT aa7 _ jL;have jL:adT=((ao ra).length:Int):=jL;refine⟨⟨di _,aa7,by rw[jL];exact di _⟩,λz9 u6 k1 ef=>?_⟩;have rB:=lA ef jL;refine⟨by show(ao z9).length<=1000000000;rw[rB];exact Zt,λa8 tt l1 mV aL m0 ir z12 gS a6 jV=>?_⟩;have mV:bT a8=BA cT (bT z9):=mV;have jV:z12=((ao a8).length:Int):=jV;rw[uV rB]at mV;obtain⟨bg,b3,cy⟩:=ab4 (bT ra);have ph:(bT ra).length=(ao ra).length:=yf ra;refine⟨⟨di _,by omega,by rw[jV];exact di _⟩,λaq SV o1 la=>?_⟩;have la:=lA la jV;have Nq:(ao aq).length=vk 64 (bT ra).length:=by rw[la,<-yf,mV,bg]
 refine⟨by show 128∣(ao aq).length/\(ao aq).length<=1000001000;rw[Nq];exact⟨b3,by omega⟩,λax p0 cG lb aT r0 r1 bh aH s1 qI=>?_⟩;have lb:bT ax=wA cT (bT aq):=lb;rw[uV la,mV]at lb;have qI:bh=((ao ax).length:Int):=qI;have JT:(bT ax).length=64:=by rw[lb,P3];rfl
 have NB:(ao ax).length=64:=by rw[<-yf,JT]
 have aV:∀i:Int,0<=i->i<64->ay 21 [ax,i]:=λi h1 h2=>⟨h1,by rw[NB];exact h2⟩;refine⟨⟨by decide,by omega⟩,aV 0 (by decide) (by decide),XB 64 0 [] (by omega) λl h1 h2 h3=>?_⟩;have dM:l=bT ax:=by rw[h3,pJ,uK (by omega)]
 rw[gq];refine⟨?_,?_⟩
 ·show ab (ai 0 255 64++[]) [l].flatten;have:=zT 64 l h1 h2;simpa using this
 ·show [l]=[r7 cT (bT z0++(bT aF))];rw[dM,lb,Y4];rfl
theorem aCj:aeS SB (hM SB [.d jb] 471):=by
 intro z0 _ _ aF _ _ z2 _ _ hp;have hp:∀z∈([z0,aF,z2]:List Int),(ao z).length<=100000000:=hp;intro z3 _ z4 _ _ z5 yE _ h5 bC _ aX _ _ aK Dh _ fq z9 _ a8 _ _ aL Df _ qH;have h5:z5=((ao z0).length:Int):=h5;have fq:aK=((ao aF).length:Int):=fq;have qH:aL=((ao z2).length:Int):=qH;refine⟨⟨di _,yE,by rw[h5];exact di _⟩,?_⟩;intro z12 _ _ jV;have jV:=lA jV h5;refine⟨⟨di _,Dh,by rw[fq];exact di _⟩,?_⟩;intro aq _ _ la;have la:=lA la fq;refine⟨⟨di _,Df,by rw[qH];exact di _⟩,?_⟩;intro ax _ _ lb;have lb:=lA lb qH;refine⟨λz hz=>?_,?_⟩
 ·simp only[oW,y9,or_false]at hz;rcases hz with rfl|rfl|rfl
  ·rw[jV];exact hp z0 (by simp)
  ·rw[la];exact hp aF (by simp)
  ·rw[lb];exact hp z2 (by simp)
 intro ra _ _ aM;have aM:ao ra=ao z12++(ao aq++(ao ax)):=aM;rw[jV,la,lb]at aM;have Zt:(ao ra).length<=1000000000:=by
  rw[aM];simp only[gY];have:=hp z0 (by simp);have:=hp aF (by simp);have:=hp z2 (by simp);omega
 have Y4:bT ra=bT z0++(bT aF++(bT z2)):=by
  unfold bT;rw[aM];simp only[jE]
 intro aIK _ aIL _ _ adT aa7 _ jL;have jL:adT=((ao ra).length:Int):=jL;refine⟨⟨di _,aa7,by rw[jL];exact di _⟩,λz9 u6 k1 ef=>?_⟩;have rB:=lA ef jL;refine⟨by show(ao z9).length<=1000000000;rw[rB];exact Zt,λa8 tt l1 mV aL m0 ir z12 gS a6 jV=>?_⟩;have mV:bT a8=BA cT (bT z9):=mV;have jV:z12=((ao a8).length:Int):=jV;rw[uV rB]at mV;obtain⟨bg,b3,cy⟩:=ab4 (bT ra);have ph:(bT ra).length=(ao ra).length:=yf ra;refine⟨⟨di _,by omega,by rw[jV];exact di _⟩,λaq SV o1 la=>?_⟩;have la:=lA la jV;have Nq:(ao aq).length=vk 64 (bT ra).length:=by rw[la,<-yf,mV,bg]
 refine⟨by show 128∣(ao aq).length/\(ao aq).length<=1000001000;rw[Nq];exact⟨b3,by omega⟩,λax p0 cG lb aT r0 r1 bh aH s1 qI=>?_⟩;have lb:bT ax=wA cT (bT aq):=lb;rw[uV la,mV]at lb;have qI:bh=((ao ax).length:Int):=qI;have JT:(bT ax).length=64:=by rw[lb,P3];rfl
 have NB:(ao ax).length=64:=by rw[<-yf,JT]
 have aV:∀i:Int,0<=i->i<64->ay 21 [ax,i]:=λi h1 h2=>⟨h1,by rw[NB];exact h2⟩;refine⟨⟨by decide,by omega⟩,aV 0 (by decide) (by decide),XB 64 0 [] (by omega) λl h1 h2 h3=>?_⟩;have dM:l=bT ax:=by rw[h3,pJ,uK (by omega)]
 rw[gq];refine⟨?_,?_⟩
 ·show ab (ai 0 255 64++[]) [l].flatten;have:=zT 64 l h1 h2;simpa using this
 ·show [l]=[r7 cT (bT z0++(bT aF++(bT z2)))];rw[dM,lb,Y4];rfl
end Go.gg
namespace Go.Fd
open Go.b9
def CG:Nat:=57896044618658097711785492504343953926634992332820282019728792003956564819948
def wK:Nat:=28948022309329048855892746252171976963317496166410141009864396001978282409974
def ME:Nat:=14474011154664524427946373126085988481658748083205070504932198000989141204987
theorem aDd (a e:Nat):cr (a:Int) e=((a^e% 57896044618658097711785492504343953926634992332820282019728792003956564819949:Nat):Int):=by
 unfold cr;rw[Uo];congr 1
theorem auE {n g a e:Nat} (h:L0.Cp n g) (he:e=n-1) (ha:a% n≠0):a^e% n=1:=by subst he;exact h.EK ha
theorem amm {a b:Int} (h:a% 57896044618658097711785492504343953926634992332820282019728792003956564819949=b% 57896044618658097711785492504343953926634992332820282019728792003956564819949) (k:Nat):cr a k=cr b k:=by rw[<-BE a,h,BE]
theorem aDc (a:Int) (m n:Nat):cr a (m+n)=cr a m*cr a n% 57896044618658097711785492504343953926634992332820282019728792003956564819949:=by
 unfold cr;rw[sK,w5,<-Ur]
theorem amk (a:Int) (m:Nat):∀n:Nat,cr (cr a m) n=cr a (m*n)
 |0=>by rw[Nat.mul_zero,BF,BF]
 |n+1=>by rw[yJ,amk a m n,Nat.mul_add,Nat.mul_one,aDc]
theorem Oc (a b:Int):∀n:Nat,cr (a*b) n=cr a n*cr b n% 57896044618658097711785492504343953926634992332820282019728792003956564819949
 |0=>by rw[BF,BF,BF];decide
 |n+1=>by
  rw[yJ,Oc a b n,yJ,yJ,sK,sK,w5]
  congr 1
  ac_rfl
theorem aDe (a:Int):cr a 1=a% 57896044618658097711785492504343953926634992332820282019728792003956564819949:=by rw[show(1:Nat)=0+1 by rfl,yJ,BF,xV]
theorem Oq (a:Int) (k:Nat):cr a k% 57896044618658097711785492504343953926634992332820282019728792003956564819949=cr a k:=xX _ _
theorem ao6 (a:Int) (h:a% 57896044618658097711785492504343953926634992332820282019728792003956564819949=0) (k:Nat) (af:0<k):cr a k=0:=by
 obtain⟨j,rfl⟩:∃j,k=j+1:=⟨k-1,by omega⟩;rw[yJ,<-w5,h,Int.mul_zero];rfl
theorem EK {x:Int} (h:x% 57896044618658097711785492504343953926634992332820282019728792003956564819949≠0):cr x CG=1:=by
 have h0:0<=x% 57896044618658097711785492504343953926634992332820282019728792003956564819949:=sV _ (by decide);have h1:x% 57896044618658097711785492504343953926634992332820282019728792003956564819949<57896044618658097711785492504343953926634992332820282019728792003956564819949:=wg _ (by decide);obtain⟨X,cg⟩:=oY h0;have au8:X% 57896044618658097711785492504343953926634992332820282019728792003956564819949≠0:=by omega
 rw[<-BE,cg,aDd X CG,auE L0.auB (by decide:CG=57896044618658097711785492504343953926634992332820282019728792003956564819949-1) au8];rfl
theorem Of {x y:Int} (h:x*y% 57896044618658097711785492504343953926634992332820282019728792003956564819949=0):x% 57896044618658097711785492504343953926634992332820282019728792003956564819949=0∨y% 57896044618658097711785492504343953926634992332820282019728792003956564819949=0:=by
 by_cases hx:x% 57896044618658097711785492504343953926634992332820282019728792003956564819949=0
 ·exact .inl hx
 ·right
  have h1:=EK hx;have h2:cr x (CG-1)*x% 57896044618658097711785492504343953926634992332820282019728792003956564819949=1:=by rw[<-yJ,show CG-1+1=CG by decide];exact h1
  have h3:y% 57896044618658097711785492504343953926634992332820282019728792003956564819949=cr x (CG-1)*(x*y)% 57896044618658097711785492504343953926634992332820282019728792003956564819949:=by
   rw[<-DY,sU,h2,xV,xX]
  rw[h3,sU,h,Int.mul_zero];rfl
theorem anl (r s:Int):(r-s)*(r+s)=r*r-s*s:=by grind
theorem alM (c:Int):(0-c)*(0-c)=c*c:=by grind
theorem aFs {t:Int} (h0:0<=t) (h1:t<57896044618658097711785492504343953926634992332820282019728792003956564819949) (h:t*t% 57896044618658097711785492504343953926634992332820282019728792003956564819949=1):t=1∨t=57896044618658097711785492504343953926634992332820282019728792003956564819948:=by
 have e:(t-1)*(t+1)% 57896044618658097711785492504343953926634992332820282019728792003956564819949=0:=by
  rw[anl,Int.sub_emod,h];decide
 rcases Of e with h|h
 ·left;omega
 ·right;omega
def O3 (T a:Int):Int×Int:=
 let e4:=cr a ov
 if e4*e4% 57896044618658097711785492504343953926634992332820282019728792003956564819949=a then(if e4% 2=1 then(0-e4)% 57896044618658097711785492504343953926634992332820282019728792003956564819949 else e4,1)else
 let c:=e4*T% 57896044618658097711785492504343953926634992332820282019728792003956564819949
 if c*c% 57896044618658097711785492504343953926634992332820282019728792003956564819949=a then(if c% 2=1 then(0-c)% 57896044618658097711785492504343953926634992332820282019728792003956564819949 else c,1)else(0,0)
theorem aFo (a:Int):qi a=O3 yY a:=by
 unfold qi O3;simp only;by_cases h:cr a ov*cr a ov% 57896044618658097711785492504343953926634992332820282019728792003956564819949=a
 ·simp only[if_pos h]
 ·simp only[if_neg h]
def isRoot (a r:Int):Prop:=0<=r/\r<57896044618658097711785492504343953926634992332820282019728792003956564819949/\r% 2=0/\r*r% 57896044618658097711785492504343953926634992332820282019728792003956564819949=a
theorem ahL {a c:Int} (h0:0<=c) (h1:c<57896044618658097711785492504343953926634992332820282019728792003956564819949) (h:c*c% 57896044618658097711785492504343953926634992332820282019728792003956564819949=a):isRoot a (if c% 2=1 then(0-c)% 57896044618658097711785492504343953926634992332820282019728792003956564819949 else c):=by
 split
 ·rename_i hc;have e:=SR (c:=c) (by omega) h1;refine⟨by omega,by omega,by omega,?_⟩;rw[sK,w5,alM];exact h
 ·exact⟨h0,h1,by omega,h⟩
theorem acz {a r s:Int} (hr:isRoot a r) (hs:isRoot a s):r=s:=by
 obtain⟨r0,r1,r2,ij⟩:=hr;obtain⟨aH,s1,s2,bn⟩:=hs;have e:(r-s)*(r+s)% 57896044618658097711785492504343953926634992332820282019728792003956564819949=0:=by
  rw[anl,Int.sub_emod,ij,bn,Int.sub_self];rfl
 clear ij bn;rcases Of e with h|h
 ·clear e r2 s2;obtain⟨k,af⟩:=Iy h;have h1:k<1:=by omega
  have h2:-1<k:=by omega
  have h3:k=0:=by omega
  subst h3;omega
 ·clear e;obtain⟨k,af⟩:=Iy h;have h1:k<2:=by clear r2 s2;omega
  have h2:-1<k:=by clear r2 s2;omega
  have h3:k=0∨k=1:=by clear r2 s2 af;omega
  rcases h3 with rfl|rfl
  ·clear r2 s2;omega
  ·exfalso;clear r0 r1 aH s1 h h1 h2;omega
theorem asP:2*ov=ME+1:=by decide
theorem asO:2*ME=wK:=by decide
theorem XG:2*wK=CG:=by decide
theorem agW (a:Int):cr a ov*cr a ov% 57896044618658097711785492504343953926634992332820282019728792003956564819949=cr a ME*a% 57896044618658097711785492504343953926634992332820282019728792003956564819949:=by rw[<-HU,asP,yJ]
theorem atd {x:Int} (h:x% 57896044618658097711785492504343953926634992332820282019728792003956564819949≠0):cr x wK=1∨cr x wK=57896044618658097711785492504343953926634992332820282019728792003956564819948:=
 aFs (KE x wK).1 (KE x wK).2 (by rw[<-HU,XG];exact EK h)
theorem azl {T:Int} (bu:T*T% 57896044618658097711785492504343953926634992332820282019728792003956564819949=57896044618658097711785492504343953926634992332820282019728792003956564819948) (a:Int):(cr a ov*T% 57896044618658097711785492504343953926634992332820282019728792003956564819949)*(cr a ov*T% 57896044618658097711785492504343953926634992332820282019728792003956564819949)% 57896044618658097711785492504343953926634992332820282019728792003956564819949=cr a ME*a*57896044618658097711785492504343953926634992332820282019728792003956564819948% 57896044618658097711785492504343953926634992332820282019728792003956564819949:=by
 rw[sK,w5,show cr a ov*T*(cr a ov*T)=(cr a ov*cr a ov)*(T*T) by ac_rfl,sU,bu,agW,sK]
theorem anj {T a:Int} (bu:T*T% 57896044618658097711785492504343953926634992332820282019728792003956564819949=57896044618658097711785492504343953926634992332820282019728792003956564819948) (h0:0<=a) (h1:a<57896044618658097711785492504343953926634992332820282019728792003956564819949):(∃r,O3 T a=(r,1)/\isRoot a r)∨(O3 T a=(0,0)/\∀x:Int,x*x% 57896044618658097711785492504343953926634992332820282019728792003956564819949≠a):=by
 unfold O3;simp only;by_cases eJ:cr a ov*cr a ov% 57896044618658097711785492504343953926634992332820282019728792003956564819949=a
 ·rw[if_pos eJ];exact .inl ⟨_,rfl,ahL (KE a ov).1 (KE a ov).2 eJ⟩
 ·rw[if_neg eJ];by_cases bg:cr a ov*T% 57896044618658097711785492504343953926634992332820282019728792003956564819949*(cr a ov*T% 57896044618658097711785492504343953926634992332820282019728792003956564819949)% 57896044618658097711785492504343953926634992332820282019728792003956564819949=a
  ·rw[if_pos bg];exact .inl ⟨_,rfl,ahL (sV _ (by decide)) (wg _ (by decide)) bg⟩
  ·rw[if_neg bg];refine .inr ⟨rfl,λx hx=>?_⟩;by_cases hz:x% 57896044618658097711785492504343953926634992332820282019728792003956564819949=0
   ·have ha:a=0:=by rw[<-hx,sU,hz];rfl
    apply eJ;rw[ha,ao6 0 (by decide) ov (by decide)];decide
   ·have aD:cr a ME=cr x wK:=by
     rw[<-hx,<-asO,<-amk,BE];have aI:cr x 2=x*x% 57896044618658097711785492504343953926634992332820282019728792003956564819949:=by rw[show(2:Nat)=2*1 by rfl,HU,aDe,sK,w5]
     rw[aI,BE]
    rcases atd hz with h|h
    ·apply eJ;rw[agW,aD,h,xV];exact mD h0 h1
    ·apply bg;rw[azl bu,aD,h,show(57896044618658097711785492504343953926634992332820282019728792003956564819948:Int)*a*57896044618658097711785492504343953926634992332820282019728792003956564819948=a+57896044618658097711785492504343953926634992332820282019728792003956564819949*(57896044618658097711785492504343953926634992332820282019728792003956564819947*a) by omega,xW];exact mD h0 h1
theorem aGh:yZ*yZ% 57896044618658097711785492504343953926634992332820282019728792003956564819949=57896044618658097711785492504343953926634992332820282019728792003956564819948:=by decide+kernel
theorem ank:yY*yY% 57896044618658097711785492504343953926634992332820282019728792003956564819949=57896044618658097711785492504343953926634992332820282019728792003956564819948:=by decide+kernel
theorem TE {a:Int} (h0:0<=a) (h1:a<57896044618658097711785492504343953926634992332820282019728792003956564819949):(∃r,l9 a=(r,1)/\isRoot a r)∨(l9 a=(0,0)/\∀x:Int,x*x% 57896044618658097711785492504343953926634992332820282019728792003956564819949≠a):=anj aGh h0 h1
theorem aFp {a:Int} (h0:0<=a) (h1:a<57896044618658097711785492504343953926634992332820282019728792003956564819949):(∃r,qi a=(r,1)/\isRoot a r)∨(qi a=(0,0)/\∀x:Int,x*x% 57896044618658097711785492504343953926634992332820282019728792003956564819949≠a):=by rw[aFo];exact anj ank h0 h1
theorem TF {a:Int} (h0:0<=a) (h1:a<57896044618658097711785492504343953926634992332820282019728792003956564819949):l9 a=qi a:=by
 rcases TE h0 h1 with⟨r,e,hr⟩|⟨e,hn⟩<;>rcases aFp h0 h1 with⟨s,cW,hs⟩|⟨cW,yr⟩
 ·rw[e,cW,acz hr hs]
 ·exact absurd hr.2.2.2 (yr r)
 ·exact absurd hs.2.2.2 (hn s)
 ·rw[e,cW]
theorem oH (a:Int):0<=a% 57896044618658097711785492504343953926634992332820282019728792003956564819949/\a% 57896044618658097711785492504343953926634992332820282019728792003956564819949<57896044618658097711785492504343953926634992332820282019728792003956564819949:=⟨sV _ (by decide),wg _ (by decide)⟩
theorem aFr {a x:Int} (h:x*x% 57896044618658097711785492504343953926634992332820282019728792003956564819949=a% 57896044618658097711785492504343953926634992332820282019728792003956564819949):∃r,l9 (a% 57896044618658097711785492504343953926634992332820282019728792003956564819949)=(r,1)/\isRoot (a% 57896044618658097711785492504343953926634992332820282019728792003956564819949) r:=by
 rcases TE (oH a).1 (oH a).2 with bm|⟨_,hn⟩
 ·exact bm
 ·exact absurd h (hn x)
theorem inv_mul {a:Int} (h:a% 57896044618658097711785492504343953926634992332820282019728792003956564819949≠0):a*cr a s9% 57896044618658097711785492504343953926634992332820282019728792003956564819949=1:=by
 rw[lB,<-yJ,show s9+1=CG by decide];exact EK h
end Go.Fd
namespace Go.pK
theorem arA (aj ar ah an au aw d:Int):((aj*an+ar*ah)*(1-d*(aj*ah*(ar*an)))*aw+(ar*an+aj*ah)*(1+d*(aj*ah*(ar*an)))*au)*((1+d*(ah*au*(an*aw)))*(1-d*(ah*au*(an*aw)))+d*((ah*aw+an*au)*(an*aw+ah*au)*(aj*ar)))-(aj*((an*aw+ah*au)*(1+d*(ah*au*(an*aw))))+ar*((ah*aw+an*au)*(1-d*(ah*au*(an*aw)))))*((1+d*(aj*ah*(ar*an)))*(1-d*(aj*ah*(ar*an)))+d*((aj*an+ar*ah)*(ar*an+aj*ah)*(au*aw)))=
 (-1*(aj*ah*ah*ah*ah*an*an*an*au*au*aw*d*d)-aj*ah*ah*ah*ah*an*au*au*aw*d-aj*ah*ah*ah*an*an*an*an*au*aw*aw*d*d-aj*ah*ah*ah*an*an*au*au*au*d-aj*ah*ah*ah*an*an*au*d+aj*ah*ah*an*an*an*aw*aw*aw*d-aj*ah*ah*an*an*an*aw*d+aj*ah*an*an*an*an*au*aw*aw*d+ar*ah*ah*ah*ah*an*an*an*au*aw*aw*d*d+ar*ah*ah*ah*ah*an*au*aw*aw*d+ar*ah*ah*ah*an*an*an*an*au*au*aw*d*d+ar*ah*ah*ah*an*an*aw*aw*aw*d-ar*ah*ah*ah*an*an*aw*d-ar*ah*ah*an*an*an*au*au*au*d-ar*ah*ah*an*an*an*au*d-ar*ah*an*an*an*an*au*au*aw*d)*(ar*ar-aj*aj-1-d*(aj*aj*(ar*ar)))+
 (aj*aj*aj*ah*ah*an*au*au*aw*d+aj*aj*aj*ah*an*an*au*aw*aw*d+aj*aj*aj*ah*au*au*au*aw*aw*d+aj*aj*aj*ah*au*au*au-aj*aj*aj*ah*au*aw*aw+aj*aj*aj*ah*au+aj*aj*aj*an*au*au*aw*aw*aw*d+aj*aj*aj*an*au*au*aw-aj*aj*aj*an*aw*aw*aw+aj*aj*aj*an*aw+aj*aj*ar*ah*ah*an*au*au*au*aw*aw*d*d-aj*aj*ar*ah*ah*an*au*aw*aw*d-aj*aj*ar*ah*an*an*au*au*aw*aw*aw*d*d-aj*aj*ar*ah*an*an*au*au*aw*d+aj*aj*ar*ah*au*au*aw*aw*aw*d+aj*aj*ar*ah*au*au*aw-aj*aj*ar*ah*aw*aw*aw+aj*aj*ar*ah*aw+aj*aj*ar*an*au*au*au*aw*aw*d+aj*aj*ar*an*au*au*au-aj*aj*ar*an*au*aw*aw+aj*aj*ar*an*au-aj*ar*ar*ah*ah*an*au*au*aw*aw*aw*d*d-aj*ar*ar*ah*ah*an*au*au*aw*d+aj*ar*ar*ah*an*an*au*au*au*aw*aw*d*d-aj*ar*ar*ah*an*an*au*aw*aw*d-aj*ar*ar*ah*au*au*au*aw*aw*d-aj*ar*ar*ah*au*au*au+aj*ar*ar*ah*au*aw*aw-aj*ar*ar*ah*au-aj*ar*ar*an*au*au*aw*aw*aw*d-aj*ar*ar*an*au*au*aw+aj*ar*ar*an*aw*aw*aw-aj*ar*ar*an*aw+aj*ah*ah*an*au*au*aw*d+aj*ah*an*an*au*aw*aw*d+aj*ah*au*au*au*aw*aw*d+aj*ah*au*au*au-aj*ah*au*aw*aw+aj*ah*au+aj*an*au*au*aw*aw*aw*d+aj*an*au*au*aw-aj*an*aw*aw*aw+aj*an*aw+ar*ar*ar*ah*ah*an*au*aw*aw*d+ar*ar*ar*ah*an*an*au*au*aw*d-ar*ar*ar*ah*au*au*aw*aw*aw*d-ar*ar*ar*ah*au*au*aw+ar*ar*ar*ah*aw*aw*aw-ar*ar*ar*ah*aw-ar*ar*ar*an*au*au*au*aw*aw*d-ar*ar*ar*an*au*au*au+ar*ar*ar*an*au*aw*aw-ar*ar*ar*an*au-ar*ah*ah*an*au*aw*aw*d-ar*ah*an*an*au*au*aw*d+ar*ah*au*au*aw*aw*aw*d+ar*ah*au*au*aw-ar*ah*aw*aw*aw+ar*ah*aw+ar*an*au*au*au*aw*aw*d+ar*an*au*au*au-ar*an*au*aw*aw+ar*an*au)*(an*an-ah*ah-1-d*(ah*ah*(an*an)))+
 (-1*(aj*aj*aj*ah*ah*ah*au)-aj*aj*aj*ah*ah*an*aw+aj*aj*aj*ah*an*an*au-aj*aj*aj*ah*au+aj*aj*aj*an*an*an*aw-aj*aj*aj*an*aw-aj*aj*ar*ah*ah*ah*aw-aj*aj*ar*ah*ah*an*au*d-aj*aj*ar*ah*ah*an*au+aj*aj*ar*ah*an*an*aw*d+aj*aj*ar*ah*an*an*aw-aj*aj*ar*ah*aw+aj*aj*ar*an*an*an*au-aj*aj*ar*an*au+aj*ar*ar*ah*ah*ah*au+aj*ar*ar*ah*ah*an*aw*d+aj*ar*ar*ah*ah*an*aw-aj*ar*ar*ah*an*an*au*d-aj*ar*ar*ah*an*an*au+aj*ar*ar*ah*au-aj*ar*ar*an*an*an*aw+aj*ar*ar*an*aw-aj*ah*ah*ah*au-aj*ah*ah*an*aw+aj*ah*an*an*au-aj*ah*au+aj*an*an*an*aw-aj*an*aw+ar*ar*ar*ah*ah*ah*aw+ar*ar*ar*ah*ah*an*au-ar*ar*ar*ah*an*an*aw+ar*ar*ar*ah*aw-ar*ar*ar*an*an*an*au+ar*ar*ar*an*au-ar*ah*ah*ah*aw-ar*ah*ah*an*au+ar*ah*an*an*aw-ar*ah*aw+ar*an*an*an*au-ar*an*au)*(aw*aw-au*au-1-d*(au*au*(aw*aw))):=by grind
theorem arB (aj ar ah an au aw d:Int):((ar*an+aj*ah)*(1+d*(aj*ah*(ar*an)))*aw+(aj*an+ar*ah)*(1-d*(aj*ah*(ar*an)))*au)*((1+d*(ah*au*(an*aw)))*(1-d*(ah*au*(an*aw)))-d*((ah*aw+an*au)*(an*aw+ah*au)*(aj*ar)))-(ar*((an*aw+ah*au)*(1+d*(ah*au*(an*aw))))+aj*((ah*aw+an*au)*(1-d*(ah*au*(an*aw)))))*((1+d*(aj*ah*(ar*an)))*(1-d*(aj*ah*(ar*an)))-d*((aj*an+ar*ah)*(ar*an+aj*ah)*(au*aw)))=
 (aj*ah*ah*ah*ah*an*an*an*au*aw*aw*d*d+aj*ah*ah*ah*ah*an*au*aw*aw*d+aj*ah*ah*ah*an*an*an*an*au*au*aw*d*d+aj*ah*ah*ah*an*an*aw*aw*aw*d-aj*ah*ah*ah*an*an*aw*d-aj*ah*ah*an*an*an*au*au*au*d-aj*ah*ah*an*an*an*au*d-aj*ah*an*an*an*an*au*au*aw*d-ar*ah*ah*ah*ah*an*an*an*au*au*aw*d*d-ar*ah*ah*ah*ah*an*au*au*aw*d-ar*ah*ah*ah*an*an*an*an*au*aw*aw*d*d-ar*ah*ah*ah*an*an*au*au*au*d-ar*ah*ah*ah*an*an*au*d+ar*ah*ah*an*an*an*aw*aw*aw*d-ar*ah*ah*an*an*an*aw*d+ar*ah*an*an*an*an*au*aw*aw*d)*(ar*ar-aj*aj-1-d*(aj*aj*(ar*ar)))+
 (-1*(aj*aj*aj*ah*ah*an*au*aw*aw*d)-aj*aj*aj*ah*an*an*au*au*aw*d+aj*aj*aj*ah*au*au*aw*aw*aw*d+aj*aj*aj*ah*au*au*aw-aj*aj*aj*ah*aw*aw*aw+aj*aj*aj*ah*aw+aj*aj*aj*an*au*au*au*aw*aw*d+aj*aj*aj*an*au*au*au-aj*aj*aj*an*au*aw*aw+aj*aj*aj*an*au+aj*aj*ar*ah*ah*an*au*au*aw*aw*aw*d*d+aj*aj*ar*ah*ah*an*au*au*aw*d-aj*aj*ar*ah*an*an*au*au*au*aw*aw*d*d+aj*aj*ar*ah*an*an*au*aw*aw*d+aj*aj*ar*ah*au*au*au*aw*aw*d+aj*aj*ar*ah*au*au*au-aj*aj*ar*ah*au*aw*aw+aj*aj*ar*ah*au+aj*aj*ar*an*au*au*aw*aw*aw*d+aj*aj*ar*an*au*au*aw-aj*aj*ar*an*aw*aw*aw+aj*aj*ar*an*aw-aj*ar*ar*ah*ah*an*au*au*au*aw*aw*d*d+aj*ar*ar*ah*ah*an*au*aw*aw*d+aj*ar*ar*ah*an*an*au*au*aw*aw*aw*d*d+aj*ar*ar*ah*an*an*au*au*aw*d-aj*ar*ar*ah*au*au*aw*aw*aw*d-aj*ar*ar*ah*au*au*aw+aj*ar*ar*ah*aw*aw*aw-aj*ar*ar*ah*aw-aj*ar*ar*an*au*au*au*aw*aw*d-aj*ar*ar*an*au*au*au+aj*ar*ar*an*au*aw*aw-aj*ar*ar*an*au-aj*ah*ah*an*au*aw*aw*d-aj*ah*an*an*au*au*aw*d+aj*ah*au*au*aw*aw*aw*d+aj*ah*au*au*aw-aj*ah*aw*aw*aw+aj*ah*aw+aj*an*au*au*au*aw*aw*d+aj*an*au*au*au-aj*an*au*aw*aw+aj*an*au-ar*ar*ar*ah*ah*an*au*au*aw*d-ar*ar*ar*ah*an*an*au*aw*aw*d-ar*ar*ar*ah*au*au*au*aw*aw*d-ar*ar*ar*ah*au*au*au+ar*ar*ar*ah*au*aw*aw-ar*ar*ar*ah*au-ar*ar*ar*an*au*au*aw*aw*aw*d-ar*ar*ar*an*au*au*aw+ar*ar*ar*an*aw*aw*aw-ar*ar*ar*an*aw+ar*ah*ah*an*au*au*aw*d+ar*ah*an*an*au*aw*aw*d+ar*ah*au*au*au*aw*aw*d+ar*ah*au*au*au-ar*ah*au*aw*aw+ar*ah*au+ar*an*au*au*aw*aw*aw*d+ar*an*au*au*aw-ar*an*aw*aw*aw+ar*an*aw)*(an*an-ah*ah-1-d*(ah*ah*(an*an)))+
 (-1*(aj*aj*aj*ah*ah*ah*aw)-aj*aj*aj*ah*ah*an*au+aj*aj*aj*ah*an*an*aw-aj*aj*aj*ah*aw+aj*aj*aj*an*an*an*au-aj*aj*aj*an*au-aj*aj*ar*ah*ah*ah*au-aj*aj*ar*ah*ah*an*aw*d-aj*aj*ar*ah*ah*an*aw+aj*aj*ar*ah*an*an*au*d+aj*aj*ar*ah*an*an*au-aj*aj*ar*ah*au+aj*aj*ar*an*an*an*aw-aj*aj*ar*an*aw+aj*ar*ar*ah*ah*ah*aw+aj*ar*ar*ah*ah*an*au*d+aj*ar*ar*ah*ah*an*au-aj*ar*ar*ah*an*an*aw*d-aj*ar*ar*ah*an*an*aw+aj*ar*ar*ah*aw-aj*ar*ar*an*an*an*au+aj*ar*ar*an*au-aj*ah*ah*ah*aw-aj*ah*ah*an*au+aj*ah*an*an*aw-aj*ah*aw+aj*an*an*an*au-aj*an*au+ar*ar*ar*ah*ah*ah*au+ar*ar*ar*ah*ah*an*aw-ar*ar*ar*ah*an*an*au+ar*ar*ar*ah*au-ar*ar*ar*an*an*an*aw+ar*ar*ar*an*aw-ar*ah*ah*ah*au-ar*ah*ah*an*aw+ar*ah*an*an*au-ar*ah*au+ar*an*an*an*aw-ar*an*aw)*(aw*aw-au*au-1-d*(au*au*(aw*aw))):=by grind
end Go.pK
namespace Go.pK
theorem ym {p a:Int} (r:Int) (h:p∣a):p∣r*a:=Int.dvd_trans h ⟨r,by rw[lB]⟩
theorem N6 {p X zh r1:Int} (h1:p∣zh) (e:X=r1*zh):p∣X:=by rw[e];exact ym r1 h1
theorem Aa {p X zh Ea r1 r2:Int} (h1:p∣zh) (h2:p∣Ea) (e:X=r1*zh+r2*Ea):p∣X:=by rw[e];exact Ly (ym r1 h1) (ym r2 h2)
theorem Bs {p X zh Ea LU r1 r2 ij:Int} (h1:p∣zh) (h2:p∣Ea) (h3:p∣LU) (e:X=r1*zh+r2*Ea+ij*LU):p∣X:=by rw[e];exact Ly (Ly (ym r1 h1) (ym r2 h2)) (ym ij h3)
theorem akR {p X zh Ea LU aeV r1 r2 ij aR:Int} (h1:p∣zh) (h2:p∣Ea) (h3:p∣LU) (h4:p∣aeV) (e:X=r1*zh+r2*Ea+ij*LU+aR*aeV):p∣X:=by rw[e];exact Ly (Ly (Ly (ym r1 h1) (ym r2 h2)) (ym ij h3)) (ym aR h4)
def qv (p d x y:Int):Prop:=p∣y*y-x*x-1-d*(x*x*(y*y))
def Ct (p d aj ar ah an au aw:Int):Prop:=p∣au*(1+d*(aj*ah*(ar*an)))-(aj*an+ar*ah)/\p∣aw*(1-d*(aj*ah*(ar*an)))-(ar*an+aj*ah)
structure qs (p d i:Int):Prop where
 hz:∀x y,p∣x*y->p∣x∨p∣y
 h1:¬p∣1
 h2:¬p∣2
 hi:p∣i*i+1
 hd:∀a b,p∣a*a-d*(b*b)->p∣b
section
variable {p d i:Int}
theorem axM (aj ar ah an d i e:Int):(ar+i*e*aj)*(ar+i*e*aj)-d*((aj*ar*(an+i*ah))*(aj*ar*(an+i*ah)))=
 1*(ar*ar-aj*aj-1-d*(aj*aj*(ar*ar)))+(-(d*(aj*aj*(ar*ar))))*(an*an-ah*ah-1-d*(ah*ah*(an*an)))+(-(2*i*aj*ar)-(d*(aj*ah*(ar*an))+e))*(d*(aj*ah*(ar*an))-e)+(e*e*aj*aj-d*(aj*aj*(ar*ar)*(ah*ah)))*(i*i+1)+(1-e*e)*(1+aj*aj):=by grind
theorem qs.complete (F:qs p d i) {aj ar ah an e:Int} (h1:qv p d aj ar) (h2:qv p d ah an) (he:e*e=1):¬p∣d*(aj*ah*(ar*an))-e:=by
 intro af;have key:∀j:Int,p∣j*j+1->p∣aj*ar*(an+j*ah):=λj aM=>by
  have hc:=axM aj ar ah an d j e;rw[he,Int.sub_self,Int.zero_mul,xU]at hc;exact F.hd (ar+j*e*aj) _ (akR h1 h2 af aM hc)
 have mW:¬p∣d*(aj*ah*(ar*an)):=λh=>by
  have h3:p∣e:=by have:=Int.dvd_sub h af;rwa [show d*(aj*ah*(ar*an))-(d*(aj*ah*(ar*an))-e)=e by omega]at this
  exact F.h1 (by rw[<-he];exact ym e h3)
 have th:¬p∣aj*ar:=λh=>mW (N6 h (r1:=d*(ah*an)) (by grind));have c1:=(F.hz _ _ (key i F.hi)).resolve_left th;have bQ:=(F.hz _ _ (key (-i) (by rw[show-i*-i=i*i by grind];exact F.hi))).resolve_left th;have cF:p∣2*an:=by have:=Ly c1 bQ;rwa [show an+i*ah+(an+-i*ah)=2*an by grind]at this
 have dk:=(F.hz _ _ cF).resolve_left F.h2;exact mW (N6 dk (r1:=d*(aj*ah*ar)) (by grind))
theorem qs.plus (F:qs p d i) {aj ar ah an:Int} (h1:qv p d aj ar) (h2:qv p d ah an):¬p∣1+d*(aj*ah*(ar*an)):=λh=>
 F.complete h1 h2 (e:=-1) rfl (by rw[show d*(aj*ah*(ar*an))- -1=1+d*(aj*ah*(ar*an)) by omega];exact h)
theorem qs.minus (F:qs p d i) {aj ar ah an:Int} (h1:qv p d aj ar) (h2:qv p d ah an):¬p∣1-d*(aj*ah*(ar*an)):=λh=>
 F.complete h1 h2 (e:=1) rfl (by
  have:=ym (-1) h
  rwa [show-1*(1-d*(aj*ah*(ar*an)))=d*(aj*ah*(ar*an))-1 by omega]at this)
theorem qs.cancel (F:qs p d i) {a x y:Int} (ha:¬p∣a) (h:p∣a*x-a*y):p∣x-y:=by
 rw[<-Int.mul_sub]at h;exact(F.hz _ _ h).resolve_left ha
theorem axK (aj ar ah an d:Int):(ar*an+aj*ah)*(ar*an+aj*ah)*((1+d*(aj*ah*(ar*an)))*(1+d*(aj*ah*(ar*an))))-(aj*an+ar*ah)*(aj*an+ar*ah)*((1-d*(aj*ah*(ar*an)))*(1-d*(aj*ah*(ar*an))))-(1+d*(aj*ah*(ar*an)))*(1+d*(aj*ah*(ar*an)))*((1-d*(aj*ah*(ar*an)))*(1-d*(aj*ah*(ar*an))))-d*((aj*an+ar*ah)*(aj*an+ar*ah)*((ar*an+aj*ah)*(ar*an+aj*ah)))=
 (aj*aj*ar*ar*ah*ah*ah*ah*an*an*an*an*d*d*d-aj*aj*ah*ah*ah*ah*an*an*an*an*d*d-aj*aj*ah*ah*ah*ah*an*an*d+aj*aj*ah*ah*an*an*an*an*d+ar*ar*ah*ah*ah*ah*an*an*an*an*d*d+ar*ar*ah*ah*ah*ah*an*an*d-ar*ar*ah*ah*an*an*an*an*d-ah*ah*ah*ah*an*an*an*an*d*d-2*ah*ah*ah*ah*an*an*an*an*d-2*ah*ah*ah*ah*an*an+ah*ah*ah*ah+2*ah*ah*an*an*an*an-2*ah*ah*an*an*d-4*ah*ah*an*an+an*an*an*an)*(ar*ar-aj*aj-1-d*(aj*aj*(ar*ar)))+(aj*aj*aj*aj*ah*ah*an*an*d+2*aj*aj*ah*ah*an*an*d+2*aj*aj*ah*ah*an*an-aj*aj*ah*ah+aj*aj*an*an+ar*ar*ar*ar*ah*ah*an*an*d-2*ar*ar*ah*ah*an*an*d-2*ar*ar*ah*ah*an*an+ar*ar*ah*ah-ar*ar*an*an+ah*ah*an*an*d+2*ah*ah*an*an-ah*ah+an*an+1)*(an*an-ah*ah-1-d*(ah*ah*(an*an))):=by grind
theorem axL (a b nE oI au aw d:Int):(a*a*(b*b))*(aw*aw-au*au-1-d*(au*au*(aw*aw)))=
 1*(oI*oI*(a*a)-nE*nE*(b*b)-a*a*(b*b)-d*(nE*nE*(oI*oI)))+(-((au*a+nE)*(b*b+d*(oI*oI))))*(au*a-nE)+((aw*b+oI)*(a*a-d*((au*a)*(au*a))))*(aw*b-oI):=by grind
theorem qs.closed (F:qs p d i) {aj ar ah an au aw:Int} (h1:qv p d aj ar) (h2:qv p d ah an) (hs:Ct p d aj ar ah an au aw):qv p d au aw:=by
 have ha:=F.plus h1 h2;have hb:=F.minus h1 h2;have k1:=Aa h1 h2 (axK aj ar ah an d);have k2:=Bs k1 hs.1 hs.2 (axL _ _ _ _ au aw d);rcases F.hz _ _ k2 with h|h
 ·exfalso;rcases F.hz _ _ h with h|h<;>rcases F.hz _ _ h with h|h
  ·exact ha h
  ·exact ha h
  ·exact hb h
  ·exact hb h
 ·exact h
theorem aj3 (a b nE oI qk nI au aw vK d:Int):vK*(a*b+d*(nE*oI*(au*aw)))-(nE*b*aw+oI*a*au)=
 (a*b)*(vK*(1+d*(qk*au*(nI*aw)))-(qk*aw+nI*au))+(b*aw-vK*d*(au*aw)*(nI*b))*(qk*a-nE)+(a*au-vK*d*(au*aw)*nE)*(nI*b-oI):=by grind
theorem aj4 (a b nE oI qk nI au aw Ak d:Int):Ak*(a*b-d*(nE*oI*(au*aw)))-(oI*a*aw+nE*b*au)=
 (a*b)*(Ak*(1-d*(qk*au*(nI*aw)))-(nI*aw+qk*au))+(b*au+Ak*d*(au*aw)*(nI*b))*(qk*a-nE)+(a*aw+Ak*d*(au*aw)*nE)*(nI*b-oI):=by grind
theorem aj0 (a b nE oI qk nI au aw d:Int):(a*b+d*(nE*oI*(au*aw)))-(a*b)*(1+d*(qk*au*(nI*aw)))=(-(d*(au*aw))*(nI*b))*(qk*a-nE)+(-(d*(au*aw))*nE)*(nI*b-oI):=by grind
theorem aj1 (a b nE oI qk nI au aw d:Int):(a*b-d*(nE*oI*(au*aw)))-(a*b)*(1-d*(qk*au*(nI*aw)))=((d*(au*aw))*(nI*b))*(qk*a-nE)+((d*(au*aw))*nE)*(nI*b-oI):=by grind
theorem aj2 (vK q7 dl Mr nl alR:Int):(dl*Mr)*vK-(dl*Mr)*q7=Mr*(vK*dl-nl)+(-dl)*(q7*Mr-alR)+1*(nl*Mr-alR*dl):=by grind
theorem axU (aj ar q7 tG vK d:Int):vK*(1+d*(aj*q7*(ar*tG)))-(aj*tG+ar*q7)=vK*(1+d*(q7*aj*(tG*ar)))-(q7*ar+tG*aj):=by grind
theorem axV (aj ar q7 tG Ak d:Int):Ak*(1-d*(aj*q7*(ar*tG)))-(ar*tG+aj*q7)=Ak*(1-d*(q7*aj*(tG*ar)))-(tG*ar+q7*aj):=by grind
theorem qs.HI (F:qs p d i) {a b c X:Int} (ha:¬p∣a) (hb:¬p∣b) (hc:¬p∣c) (h:p∣X-(a*b)*c):¬p∣X:=λcg=>by
 have h3:p∣a*b*c:=by have:=Int.dvd_sub cg h;rwa [show X-(X-a*b*c)=a*b*c by omega]at this
 rcases F.hz _ _ h3 with h|h
 ·rcases F.hz _ _ h with h|h
  ·exact ha h
  ·exact hb h
 ·exact hc h
theorem qs.alU (F:qs p d i) {a b:Int} (ha:¬p∣a) (hb:¬p∣b):¬p∣a*b:=λh=>(F.hz _ _ h).elim ha hb
theorem axQ (aj ar n m p q:Int):aj*(n*p)+ar*(m*q)=m*q*ar+n*p*aj:=by grind
theorem axR (aj ar n m p q:Int):ar*(n*p)+aj*(m*q)=n*p*ar+m*q*aj:=by grind
theorem qs.assoc (F:qs p d i) {aj ar ah an au aw qk nI vK Ak q7 tG adK adO:Int} (h1:qv p d aj ar) (h2:qv p d ah an) (h3:qv p d au aw)
 (hd:Ct p d aj ar ah an qk nI) (he:Ct p d qk nI au aw vK Ak) (hf:Ct p d ah an au aw q7 tG) (hg:Ct p d aj ar q7 tG adK adO):p∣vK-adK/\p∣Ak-adO:=by
 have alW:=F.closed h1 h2 hd;have of:=F.closed h2 h3 hf;have az:=he.1;have aI:=he.2;have g1:=hg.1;have g2:=hg.2;rw[axU]at g1;rw[axV]at g2;have aqI:=Bs az hd.1 hd.2 (aj3 _ _ _ _ qk nI au aw vK d);have aqJ:=Bs aI hd.1 hd.2 (aj4 _ _ _ _ qk nI au aw Ak d);have aqN:=Bs g1 hf.1 hf.2 (aj3 _ _ _ _ q7 tG aj ar adK d);have M2:=Bs g2 hf.1 hf.2 (aj4 _ _ _ _ q7 tG aj ar adO d);have Fq:=F.plus h1 h2;have Ft:=F.minus h1 h2;have yK:=F.plus h2 h3;have Du:=F.minus h2 h3;have a6:=F.HI Fq Ft (F.plus alW h3) (Aa hd.1 hd.2 (aj0 _ _ _ _ qk nI au aw d));have gd:=F.HI Fq Ft (F.minus alW h3) (Aa hd.1 hd.2 (aj1 _ _ _ _ qk nI au aw d));have ir:=F.HI yK Du (F.plus of h1) (Aa hf.1 hf.2 (aj0 _ _ _ _ q7 tG aj ar d));have gw:=F.HI yK Du (F.minus of h1) (Aa hf.1 hf.2 (aj1 _ _ _ _ q7 tG aj ar d));have afU:=Bs h1 h2 h3 (arA aj ar ah an au aw d);have afV:=Bs h1 h2 h3 (arB aj ar ah an au aw d);rw[axQ]at afU;rw[axR]at afV;exact⟨F.cancel (F.alU a6 ir) (Bs aqI aqN afU (aj2 _ _ _ _ _ _)),F.cancel (F.alU gd gw) (Bs aqJ M2 afV (aj2 _ _ _ _ _ _))⟩
theorem qs.uniq (F:qs p d i) {aj ar ah an au aw de ks:Int} (h1:qv p d aj ar) (h2:qv p d ah an) (hs:Ct p d aj ar ah an au aw) (aD:Ct p d aj ar ah an de ks):p∣au-de/\p∣aw-ks:=by
 refine⟨F.cancel (F.plus h1 h2) ?_,F.cancel (F.minus h1 h2) ?_⟩
 ·exact Aa hs.1 aD.1 (r1:=1) (r2:=-1) (by grind)
 ·exact Aa hs.2 aD.2 (r1:=1) (r2:=-1) (by grind)
end
end Go.pK
namespace Go.Fd
open Go.b9
abbrev uN (a:Int):Prop:=(57896044618658097711785492504343953926634992332820282019728792003956564819949:Int)∣a
theorem sz {a b:Int}:a% 57896044618658097711785492504343953926634992332820282019728792003956564819949=b% 57896044618658097711785492504343953926634992332820282019728792003956564819949↔uN (a-b):=by
 rw[Int.emod_eq_emod_iff_emod_sub_eq_zero];exact⟨Iy,aIU⟩
theorem sB {a:Int}:a% 57896044618658097711785492504343953926634992332820282019728792003956564819949=0↔uN a:=⟨Iy,aIU⟩
theorem u1 {a b dT b':Int} (h:a% 57896044618658097711785492504343953926634992332820282019728792003956564819949=dT% 57896044618658097711785492504343953926634992332820282019728792003956564819949) (bm:b% 57896044618658097711785492504343953926634992332820282019728792003956564819949=b'% 57896044618658097711785492504343953926634992332820282019728792003956564819949):(a+b)% 57896044618658097711785492504343953926634992332820282019728792003956564819949=(dT+b')% 57896044618658097711785492504343953926634992332820282019728792003956564819949:=by rw[Int.add_emod,h,bm,<-Int.add_emod]
theorem zw {a b dT b':Int} (h:a% 57896044618658097711785492504343953926634992332820282019728792003956564819949=dT% 57896044618658097711785492504343953926634992332820282019728792003956564819949) (bm:b% 57896044618658097711785492504343953926634992332820282019728792003956564819949=b'% 57896044618658097711785492504343953926634992332820282019728792003956564819949):(a-b)% 57896044618658097711785492504343953926634992332820282019728792003956564819949=(dT-b')% 57896044618658097711785492504343953926634992332820282019728792003956564819949:=by rw[Int.sub_emod,h,bm,<-Int.sub_emod]
theorem gb {a b dT b':Int} (h:a% 57896044618658097711785492504343953926634992332820282019728792003956564819949=dT% 57896044618658097711785492504343953926634992332820282019728792003956564819949) (bm:b% 57896044618658097711785492504343953926634992332820282019728792003956564819949=b'% 57896044618658097711785492504343953926634992332820282019728792003956564819949):a*b% 57896044618658097711785492504343953926634992332820282019728792003956564819949=dT*b'% 57896044618658097711785492504343953926634992332820282019728792003956564819949:=by rw[sU,h,bm,<-sU]
theorem mu {a b:Int} (h:a=b):a% 57896044618658097711785492504343953926634992332820282019728792003956564819949=b% 57896044618658097711785492504343953926634992332820282019728792003956564819949:=by rw[h]
theorem ahg {x y:Int} (h0:0<=x) (h1:x<57896044618658097711785492504343953926634992332820282019728792003956564819949) (g0:0<=y) (g1:y<57896044618658097711785492504343953926634992332820282019728792003956564819949) (h:uN (x-y)):x=y:=by
 have:=sz.2 h
 rwa [mD h0 h1,mD g0 g1]at this
theorem asq:cr dv wK=57896044618658097711785492504343953926634992332820282019728792003956564819948:=by
 rw[show dv=((37095705934669439343138083508754565189542113879843219016388785533085940283555:Nat):Int) by decide,aml _ _ (by decide)];decide+kernel
theorem sg:pK.qs 57896044618658097711785492504343953926634992332820282019728792003956564819949 dv yY where
 hz x y h:=by
  rcases Of (sB.2 h)with h|h
  ·exact .inl (sB.1 h)
  ·exact .inr (sB.1 h)
 h1:=by decide
 h2:=by decide
 hi:=by
  apply sB.1;have h:=ank;rw[Int.add_emod,h];decide
 hd a b h:=by
  have Be:=sz.2 h;by_cases hb:b% 57896044618658097711785492504343953926634992332820282019728792003956564819949=0
  ·exact sB.1 hb
  ·exfalso;have h1:cr (b*b) wK=1:=by rw[Oc,<-HU,XG];exact EK hb
   have h2:cr (dv*(b*b)) wK=57896044618658097711785492504343953926634992332820282019728792003956564819948:=by rw[Oc,h1,asq];decide
   have h3:=amm Be wK;rw[h2]at h3;by_cases ha:a% 57896044618658097711785492504343953926634992332820282019728792003956564819949=0
   ·rw[Oc,ao6 a ha wK (by decide)]at h3;revert h3;decide
   ·have h4:cr (a*a) wK=1:=by rw[Oc,<-HU,XG];exact EK ha
    rw[h4]at h3;revert h3;decide
theorem Ok {A:Int×Int}:on A↔((0<=A.1/\A.1<57896044618658097711785492504343953926634992332820282019728792003956564819949)/\(0<=A.2/\A.2<57896044618658097711785492504343953926634992332820282019728792003956564819949))/\pK.qv 57896044618658097711785492504343953926634992332820282019728792003956564819949 dv A.1 A.2:=by
 unfold on pK.qv;rw[sz,show A.2*A.2-A.1*A.1-(1+dv*(A.1*A.1*(A.2*A.2)))=A.2*A.2-A.1*A.1-1-dv*(A.1*A.1*(A.2*A.2)) by omega];exact⟨λh=>⟨⟨h.1,h.2.1⟩,h.2.2⟩,λh=>⟨h.1.1,h.1.2,h.2⟩⟩
theorem on.c {A:Int×Int} (h:on A):pK.qv 57896044618658097711785492504343953926634992332820282019728792003956564819949 dv A.1 A.2:=(Ok.1 h).2
theorem aac {a:Int} (h:¬uN a):a*lJ a% 57896044618658097711785492504343953926634992332820282019728792003956564819949=1:=inv_mul λh0=>h (sB.1 h0)
theorem amn {a n:Int} (h:¬uN a):uN (n*lJ a% 57896044618658097711785492504343953926634992332820282019728792003956564819949*a-n):=by
 apply sz.1;rw[sK,show n*lJ a*a=n*(a*lJ a) by rw[DY,lB (lJ a)],<-w5,aac h,Un]
theorem AV {A B:Int×Int} (aO:on A) (ea:on B):pK.Ct 57896044618658097711785492504343953926634992332820282019728792003956564819949 dv A.1 A.2 B.1 B.2 (fU A B).1 (fU A B).2:=
 ⟨amn (sg.plus aO.c ea.c),amn (sg.minus aO.c ea.c)⟩
theorem arh (A B:Int×Int):(0<=(fU A B).1/\(fU A B).1<57896044618658097711785492504343953926634992332820282019728792003956564819949)/\(0<=(fU A B).2/\(fU A B).2<57896044618658097711785492504343953926634992332820282019728792003956564819949):=⟨oH _,oH _⟩
theorem wy {A B:Int×Int} (aO:on A) (ea:on B):on (fU A B):=Ok.2 ⟨arh A B,sg.closed aO.c ea.c (AV aO ea)⟩
theorem Te {A B:Int×Int} (aO:on A) (ea:on B) (h1:uN (A.1-B.1)) (h2:uN (A.2-B.2)):A=B:=
 Pg (ahg aO.1.1 aO.1.2 ea.1.1 ea.1.2 h1) (ahg aO.2.1.1 aO.2.1.2 ea.2.1.1 ea.2.1.2 h2)
theorem WQ {A B C:Int×Int} (aO:on A) (ea:on B) (jL:on C) (h:pK.Ct 57896044618658097711785492504343953926634992332820282019728792003956564819949 dv A.1 A.2 B.1 B.2 C.1 C.2):fU A B=C:=
 have:=sg.uniq aO.c ea.c (AV aO ea) h
 Te (wy aO ea) jL this.1 this.2
theorem afF {A B C:Int×Int} (aO:on A) (ea:on B) (jL:on C):fU (fU A B) C=fU A (fU B C):=by
 have h:=sg.assoc aO.c ea.c jL.c (AV aO ea) (AV (wy aO ea) jL) (AV ea jL) (AV aO (wy ea jL));exact Te (wy (wy aO ea) jL) (wy aO (wy ea jL)) h.1 h.2
theorem afG (A B:Int×Int):fU A B=fU B A:=by
 unfold fU;rw[show A.1*B.2+A.2*B.1=B.1*A.2+B.2*A.1 by rw[lB A.1,lB A.2,Int.add_comm],show A.1*B.1*(A.2*B.2)=B.1*A.1*(B.2*A.2) by rw[lB A.1,lB A.2],show A.2*B.2+A.1*B.1=B.2*A.2+B.1*A.1 by rw[lB A.1,lB A.2]]
theorem Pe:on nc:=by unfold on nc;decide
theorem mr:on ln:=by unfold on ln;decide+kernel
theorem WR {A:Int×Int} (aO:on A):fU A nc=A:=by
 refine WQ aO Pe aO ⟨?_,?_⟩
 ·exact⟨0,by simp[nc]⟩
 ·exact⟨0,by simp[nc]⟩
theorem ao5 {A:Int×Int} (aO:on A):fU nc A=A:=by rw[afG];exact WR aO
theorem Fl (x:Int):uN ((0-x)% 57896044618658097711785492504343953926634992332820282019728792003956564819949+x):=by
 have:=sz.1 (show(0-x)% 57896044618658097711785492504343953926634992332820282019728792003956564819949% 57896044618658097711785492504343953926634992332820282019728792003956564819949=(0-x)% 57896044618658097711785492504343953926634992332820282019728792003956564819949 from xX _ _)
 rwa [show(0-x)% 57896044618658097711785492504343953926634992332820282019728792003956564819949-(0-x)=(0-x)% 57896044618658097711785492504343953926634992332820282019728792003956564819949+x by omega]at this
theorem axP (d u x y:Int):y*y-u*u-1-d*(u*u*(y*y))=1*(y*y-x*x-1-d*(x*x*(y*y)))+(-((u-x)*(1+d*(y*y))))*(u+x):=by grind
theorem Fk {A:Int×Int} (aO:on A):on (rY A):=
 Ok.2 ⟨⟨oH _,aO.2.1⟩,pK.Aa aO.c (Fl A.1) (axP dv _ A.1 A.2)⟩
theorem axN (d u x y:Int):0*(1+d*(x*u*(y*y)))-(x*y+y*u)=(-y)*(u+x):=by grind
theorem axO (d u x y:Int):1*(1-d*(x*u*(y*y)))-(y*y+x*u)=(-(d*(x*(y*y))+x))*(u+x)+(-1)*(y*y-x*x-1-d*(x*x*(y*y))):=by grind
theorem arf {A:Int×Int} (aO:on A):fU A (rY A)=nc:=
 WQ aO (Fk aO) Pe ⟨pK.N6 (Fl A.1) (axN dv _ A.1 A.2),pK.Aa (Fl A.1) aO.c (axO dv _ A.1 A.2)⟩
theorem axS (d aj ar ah an au u v w:Int):w*(1+d*(u*v*(ar*an)))-(u*an+ar*v)=(-1)*(au*(1+d*(aj*ah*(ar*an)))-(aj*an+ar*ah))+(-(au*d*(ar*an)*v)-an)*(u+aj)+(au*d*(ar*an)*aj-ar)*(v+ah)+(1+d*(u*v*(ar*an)))*(w+au):=by grind
theorem axT (d aj ar ah an aw u v:Int):aw*(1-d*(u*v*(ar*an)))-(ar*an+u*v)=1*(aw*(1-d*(aj*ah*(ar*an)))-(ar*an+aj*ah))+(-(aw*d*(ar*an)+1)*v)*(u+aj)+((aw*d*(ar*an)+1)*aj)*(v+ah):=by grind
theorem neg_add {A B:Int×Int} (aO:on A) (ea:on B):fU (rY A) (rY B)=rY (fU A B):=by
 have h:=AV aO ea;refine WQ (Fk aO) (Fk ea) (Fk (wy aO ea)) ⟨?_,?_⟩
 ·exact pK.akR h.1 (Fl A.1) (Fl B.1) (Fl (fU A B).1) (axS dv A.1 A.2 B.1 B.2 (fU A B).1 _ _ _)
 ·exact pK.Bs h.2 (Fl A.1) (Fl B.1) (axT dv A.1 A.2 B.1 B.2 (fU A B).2 _ _)
theorem neg_zero:rY nc=nc:=by decide
theorem jf {A:Int×Int} (aO:on A):∀n,on (er n A)
 |0=>Pe
 |n+1=>wy (jf aO n) aO
theorem Fi (n:Nat) (A:Int×Int):er (n+1) A=fU (er n A) A:=rfl
theorem Oa {A:Int×Int} (aO:on A) (m:Nat):∀n,er (m+n) A=fU (er m A) (er n A)
 |0=>(WR (jf aO m)).symm
 |n+1=>by rw[<-Nat.add_assoc,Fi,Oa aO m n,Fi,afF (jf aO m) (jf aO n) aO]
theorem abv {A:Int×Int} (aO:on A) (n:Nat):er (2*n) A=fU (er n A) (er n A):=by rw[Nat.two_mul,Oa aO]
theorem abw:∀n,er n nc=nc
 |0=>rfl
 |n+1=>by rw[Fi,abw n,WR Pe]
theorem Ob {A:Int×Int} (aO:on A) (m:Nat):∀n,er n (er m A)=er (m*n) A
 |0=>by rw[Nat.mul_zero];rfl
 |n+1=>by rw[Fi,Ob aO m n,Nat.mul_succ,Oa aO]
theorem alC {A:Int×Int} (aO:on A):∀n,er n (rY A)=rY (er n A)
 |0=>neg_zero.symm
 |n+1=>by rw[Fi,alC aO n,Fi,neg_add (jf aO n) aO]
theorem i1 (a b c d z w:Int):(b*z+a*z)*(d*w+c*w)-(b*z-a*z)*(d*w-c*w)=2*(z*w)*(a*d+b*c):=by grind
theorem i2 (a b c d z w:Int):(b*z+a*z)*(d*w+c*w)+(b*z-a*z)*(d*w-c*w)=2*(z*w)*(b*d+a*c):=by grind
theorem i3 (a b c d z w k:Int):(z*w+z*w)-(a*b*z)*(c*d*w)*(2*k)=2*(z*w)*(1-k*(a*c*(b*d))):=by grind
theorem i4 (a b c d z w k:Int):(z*w+z*w)+(a*b*z)*(c*d*w)*(2*k)=2*(z*w)*(1+k*(a*c*(b*d))):=by grind
theorem jc (a b z:Int):(a*z)*(a*z)+(b*z)*(b*z)=z*z*(b*b+a*a):=by grind
theorem p9 (a b z:Int):z*z*(b*b+a*a)-(a*z+b*z)*(a*z+b*z)=(-1)*(z*z)*(a*b+b*a):=by grind
theorem rM (a b z:Int):(a*z)*(a*z)-(b*z)*(b*z)=(-1)*(z*z)*(b*b-a*a):=by grind
theorem tk (a b z k:Int):(z*z+z*z)+(-1)*(z*z)*(1+k*(a*a*(b*b)))=z*z*(1-k*(a*a*(b*b))):=by grind
theorem l1 (a b c d z k:Int):z*z-k*(a*c*z*(b*d*z))=z*z*(1-k*(a*c*(b*d))):=by grind
theorem l2 (a b c d z k:Int):z*z+k*(a*c*z*(b*d*z))=z*z*(1+k*(a*c*(b*d))):=by grind
theorem oG (a b c d z:Int):a*d*z+b*c*z=z*(a*d+b*c):=by grind
theorem w3 (a b c d z:Int):b*d*z+a*c*z=z*(b*d+a*c):=by grind
theorem ir (x y d w:Int):x*x-(y*y-1)*w=(-w)*(y*y-x*x-1-d*(x*x*(y*y)))+(-(x*x))*((d*(y*y)+1)*w-1):=by grind
theorem gw (x y d w:Int):y*y-x*x-1-d*(x*x*(y*y))=(-(d*(y*y)+1))*(x*x-(y*y-1)*w)+(1-y*y)*((d*(y*y)+1)*w-1):=by grind
theorem HG (x p:Int):(p-x)*(p-x)-x*x=p*(p-2*x):=by grind
theorem Bt (x y:Int):y*x-y*1=(-1)*(y-x*y):=by grind
theorem Dj {a b:Int} (h:a% 57896044618658097711785492504343953926634992332820282019728792003956564819949=b% 57896044618658097711785492504343953926634992332820282019728792003956564819949) (hb:b% 57896044618658097711785492504343953926634992332820282019728792003956564819949≠0):a% 57896044618658097711785492504343953926634992332820282019728792003956564819949≠0:=by rw[h];exact hb
theorem uq {a b:Int} (ha:a% 57896044618658097711785492504343953926634992332820282019728792003956564819949≠0) (hb:b% 57896044618658097711785492504343953926634992332820282019728792003956564819949≠0):a*b% 57896044618658097711785492504343953926634992332820282019728792003956564819949≠0:=λh=>(Of h).elim ha hb
theorem amv {e f g h x y z t:Int} {A:Int×Int} (hf:f% 57896044618658097711785492504343953926634992332820282019728792003956564819949≠0) (hg:g% 57896044618658097711785492504343953926634992332820282019728792003956564819949≠0) (he:e% 57896044618658097711785492504343953926634992332820282019728792003956564819949=A.1*g% 57896044618658097711785492504343953926634992332820282019728792003956564819949) (ag:h% 57896044618658097711785492504343953926634992332820282019728792003956564819949=A.2*f% 57896044618658097711785492504343953926634992332820282019728792003956564819949)
 (hx:x% 57896044618658097711785492504343953926634992332820282019728792003956564819949=e*f% 57896044618658097711785492504343953926634992332820282019728792003956564819949) (hy:y% 57896044618658097711785492504343953926634992332820282019728792003956564819949=g*h% 57896044618658097711785492504343953926634992332820282019728792003956564819949) (hz:z% 57896044618658097711785492504343953926634992332820282019728792003956564819949=f*g% 57896044618658097711785492504343953926634992332820282019728792003956564819949) (aD:t% 57896044618658097711785492504343953926634992332820282019728792003956564819949=e*h% 57896044618658097711785492504343953926634992332820282019728792003956564819949):mG x y z t A:=by
 refine⟨Dj hz (uq hf hg),?_,?_,?_⟩
 ·refine hx.trans ((gb he rfl).trans ((mu ?_).trans (gb rfl hz).symm));ac_rfl
 ·refine hy.trans ((gb rfl ag).trans ((mu ?_).trans (gb rfl hz).symm));ac_rfl
 ·refine aD.trans ((gb he ag).trans ((mu ?_).trans (gb rfl hz).symm));ac_rfl
theorem aEo {A B:Int×Int} (aO:on A) (ea:on B) {aj ar aF t1 ah an z2 t2 a b c d e f g h x y z t oR sR v1 v2 Il anG XO:Int}
 (r1:mG aj ar aF t1 A) (r2:mG ah an z2 t2 B)
 (bg:oR% 57896044618658097711785492504343953926634992332820282019728792003956564819949=(ar-aj)% 57896044618658097711785492504343953926634992332820282019728792003956564819949) (b3:sR% 57896044618658097711785492504343953926634992332820282019728792003956564819949=(an-ah)% 57896044618658097711785492504343953926634992332820282019728792003956564819949) (yK:a% 57896044618658097711785492504343953926634992332820282019728792003956564819949=oR*sR% 57896044618658097711785492504343953926634992332820282019728792003956564819949) (cy:v1% 57896044618658097711785492504343953926634992332820282019728792003956564819949=(ar+aj)% 57896044618658097711785492504343953926634992332820282019728792003956564819949) (et:v2% 57896044618658097711785492504343953926634992332820282019728792003956564819949=(an+ah)% 57896044618658097711785492504343953926634992332820282019728792003956564819949) (Du:b% 57896044618658097711785492504343953926634992332820282019728792003956564819949=v1*v2% 57896044618658097711785492504343953926634992332820282019728792003956564819949)
 (j8:Il% 57896044618658097711785492504343953926634992332820282019728792003956564819949=t1*t2% 57896044618658097711785492504343953926634992332820282019728792003956564819949) (n6:anG% 57896044618658097711785492504343953926634992332820282019728792003956564819949=2*dv% 57896044618658097711785492504343953926634992332820282019728792003956564819949) (OE:c% 57896044618658097711785492504343953926634992332820282019728792003956564819949=Il*anG% 57896044618658097711785492504343953926634992332820282019728792003956564819949) (oJ:XO% 57896044618658097711785492504343953926634992332820282019728792003956564819949=aF*z2% 57896044618658097711785492504343953926634992332820282019728792003956564819949) (acp:d% 57896044618658097711785492504343953926634992332820282019728792003956564819949=(XO+XO)% 57896044618658097711785492504343953926634992332820282019728792003956564819949)
 (OF:e% 57896044618658097711785492504343953926634992332820282019728792003956564819949=(b-a)% 57896044618658097711785492504343953926634992332820282019728792003956564819949) (OG:f% 57896044618658097711785492504343953926634992332820282019728792003956564819949=(d-c)% 57896044618658097711785492504343953926634992332820282019728792003956564819949) (OH:g% 57896044618658097711785492504343953926634992332820282019728792003956564819949=(d+c)% 57896044618658097711785492504343953926634992332820282019728792003956564819949) (acq:h% 57896044618658097711785492504343953926634992332820282019728792003956564819949=(b+a)% 57896044618658097711785492504343953926634992332820282019728792003956564819949)
 (hx:x% 57896044618658097711785492504343953926634992332820282019728792003956564819949=e*f% 57896044618658097711785492504343953926634992332820282019728792003956564819949) (hy:y% 57896044618658097711785492504343953926634992332820282019728792003956564819949=g*h% 57896044618658097711785492504343953926634992332820282019728792003956564819949) (hz:z% 57896044618658097711785492504343953926634992332820282019728792003956564819949=f*g% 57896044618658097711785492504343953926634992332820282019728792003956564819949) (aD:t% 57896044618658097711785492504343953926634992332820282019728792003956564819949=e*h% 57896044618658097711785492504343953926634992332820282019728792003956564819949):mG x y z t (fU A B):=by
 obtain⟨a6,b7,a2,a3⟩:=r1;obtain⟨gd,ca,cc,dm⟩:=r2;have hs:=AV aO ea;have k1:=mt sB.1 (sg.plus aO.c ea.c);have k2:=mt sB.1 (sg.minus aO.c ea.c);generalize cg:(fU A B).1=X at hs;generalize hY:(fU A B).2=Y at hs;have km:2*(aF*z2)% 57896044618658097711785492504343953926634992332820282019728792003956564819949≠0:=uq (by decide) (uq a6 gd);have Fq:a% 57896044618658097711785492504343953926634992332820282019728792003956564819949=((A.2*aF-A.1*aF)*(B.2*z2-B.1*z2))% 57896044618658097711785492504343953926634992332820282019728792003956564819949:=yK.trans (gb (bg.trans (zw a2 b7)) (b3.trans (zw cc ca)));have Ft:b% 57896044618658097711785492504343953926634992332820282019728792003956564819949=((A.2*aF+A.1*aF)*(B.2*z2+B.1*z2))% 57896044618658097711785492504343953926634992332820282019728792003956564819949:=Du.trans (gb (cy.trans (u1 a2 b7)) (et.trans (u1 cc ca)));have HN:c% 57896044618658097711785492504343953926634992332820282019728792003956564819949=((A.1*A.2*aF)*(B.1*B.2*z2)*(2*dv))% 57896044618658097711785492504343953926634992332820282019728792003956564819949:=OE.trans (gb (j8.trans (gb a3 dm)) n6);have On:d% 57896044618658097711785492504343953926634992332820282019728792003956564819949=(aF*z2+aF*z2)% 57896044618658097711785492504343953926634992332820282019728792003956564819949:=acp.trans (u1 oJ oJ);have Fw:e% 57896044618658097711785492504343953926634992332820282019728792003956564819949=(2*(aF*z2)*(A.1*B.2+A.2*B.1))% 57896044618658097711785492504343953926634992332820282019728792003956564819949:=(OF.trans (zw Ft Fq)).trans (mu (i1 A.1 A.2 B.1 B.2 aF z2));have Ta:h% 57896044618658097711785492504343953926634992332820282019728792003956564819949=(2*(aF*z2)*(A.2*B.2+A.1*B.1))% 57896044618658097711785492504343953926634992332820282019728792003956564819949:=(acq.trans (u1 Ft Fq)).trans (mu (i2 A.1 A.2 B.1 B.2 aF z2));have Fx:f% 57896044618658097711785492504343953926634992332820282019728792003956564819949=(2*(aF*z2)*(1-dv*(A.1*B.1*(A.2*B.2))))% 57896044618658097711785492504343953926634992332820282019728792003956564819949:=(OG.trans (zw On HN)).trans (mu (i3 A.1 A.2 B.1 B.2 aF z2 dv));have Dq:g% 57896044618658097711785492504343953926634992332820282019728792003956564819949=(2*(aF*z2)*(1+dv*(A.1*B.1*(A.2*B.2))))% 57896044618658097711785492504343953926634992332820282019728792003956564819949:=(OH.trans (u1 On HN)).trans (mu (i4 A.1 A.2 B.1 B.2 aF z2 dv));have s1:X*(1+dv*(A.1*B.1*(A.2*B.2)))% 57896044618658097711785492504343953926634992332820282019728792003956564819949=(A.1*B.2+A.2*B.1)% 57896044618658097711785492504343953926634992332820282019728792003956564819949:=sz.2 hs.1;have s2:Y*(1-dv*(A.1*B.1*(A.2*B.2)))% 57896044618658097711785492504343953926634992332820282019728792003956564819949=(A.2*B.2+A.1*B.1)% 57896044618658097711785492504343953926634992332820282019728792003956564819949:=sz.2 hs.2;refine amv (A:=fU A B) (Dj Fx (uq km k2)) (Dj Dq (uq km k1)) ?_ ?_ hx hy hz aD
 ·rw[cg];refine Fw.trans ((gb rfl s1).symm.trans ((mu ?_).trans (gb rfl Dq).symm));ac_rfl
 ·rw[hY];refine Ta.trans ((gb rfl s2).symm.trans ((mu ?_).trans (gb rfl Fx).symm));ac_rfl
theorem aEl {A:Int×Int} (aO:on A) {aj ar aF a b e4 c h aH s e g f x y z t:Int} (r1:lP aj ar aF A)
 (yK:a% 57896044618658097711785492504343953926634992332820282019728792003956564819949=aj*aj% 57896044618658097711785492504343953926634992332820282019728792003956564819949) (Du:b% 57896044618658097711785492504343953926634992332820282019728792003956564819949=ar*ar% 57896044618658097711785492504343953926634992332820282019728792003956564819949) (eJ:e4% 57896044618658097711785492504343953926634992332820282019728792003956564819949=aF*aF% 57896044618658097711785492504343953926634992332820282019728792003956564819949) (OE:c% 57896044618658097711785492504343953926634992332820282019728792003956564819949=(e4+e4)% 57896044618658097711785492504343953926634992332820282019728792003956564819949) (acq:h% 57896044618658097711785492504343953926634992332820282019728792003956564819949=(a+b)% 57896044618658097711785492504343953926634992332820282019728792003956564819949) (bg:aH% 57896044618658097711785492504343953926634992332820282019728792003956564819949=(aj+ar)% 57896044618658097711785492504343953926634992332820282019728792003956564819949) (KG:s% 57896044618658097711785492504343953926634992332820282019728792003956564819949=aH*aH% 57896044618658097711785492504343953926634992332820282019728792003956564819949) (OF:e% 57896044618658097711785492504343953926634992332820282019728792003956564819949=(h-s)% 57896044618658097711785492504343953926634992332820282019728792003956564819949) (OH:g% 57896044618658097711785492504343953926634992332820282019728792003956564819949=(a-b)% 57896044618658097711785492504343953926634992332820282019728792003956564819949) (OG:f% 57896044618658097711785492504343953926634992332820282019728792003956564819949=(c+g)% 57896044618658097711785492504343953926634992332820282019728792003956564819949)
 (hx:x% 57896044618658097711785492504343953926634992332820282019728792003956564819949=e*f% 57896044618658097711785492504343953926634992332820282019728792003956564819949) (hy:y% 57896044618658097711785492504343953926634992332820282019728792003956564819949=g*h% 57896044618658097711785492504343953926634992332820282019728792003956564819949) (hz:z% 57896044618658097711785492504343953926634992332820282019728792003956564819949=f*g% 57896044618658097711785492504343953926634992332820282019728792003956564819949) (aD:t% 57896044618658097711785492504343953926634992332820282019728792003956564819949=e*h% 57896044618658097711785492504343953926634992332820282019728792003956564819949):mG x y z t (fU A A):=by
 obtain⟨a6,b7,a2⟩:=r1;have hs:=AV aO aO;have k1:=mt sB.1 (sg.plus aO.c aO.c);have k2:=mt sB.1 (sg.minus aO.c aO.c);have hc:=aO.2.2;generalize cg:(fU A A).1=X at hs;generalize hY:(fU A A).2=Y at hs;have km:aF*aF% 57896044618658097711785492504343953926634992332820282019728792003956564819949≠0:=uq a6 a6;have axv:(-1)*(aF*aF)% 57896044618658097711785492504343953926634992332820282019728792003956564819949≠0:=uq (by decide) km;have Fq:a% 57896044618658097711785492504343953926634992332820282019728792003956564819949=((A.1*aF)*(A.1*aF))% 57896044618658097711785492504343953926634992332820282019728792003956564819949:=yK.trans (gb b7 b7);have Ft:b% 57896044618658097711785492504343953926634992332820282019728792003956564819949=((A.2*aF)*(A.2*aF))% 57896044618658097711785492504343953926634992332820282019728792003956564819949:=Du.trans (gb a2 a2);have HN:c% 57896044618658097711785492504343953926634992332820282019728792003956564819949=(aF*aF+aF*aF)% 57896044618658097711785492504343953926634992332820282019728792003956564819949:=OE.trans (u1 eJ eJ);have Ta:h% 57896044618658097711785492504343953926634992332820282019728792003956564819949=(aF*aF*(A.2*A.2+A.1*A.1))% 57896044618658097711785492504343953926634992332820282019728792003956564819949:=(acq.trans (u1 Fq Ft)).trans (mu (jc A.1 A.2 aF));have p0:aH% 57896044618658097711785492504343953926634992332820282019728792003956564819949=(A.1*aF+A.2*aF)% 57896044618658097711785492504343953926634992332820282019728792003956564819949:=bg.trans (u1 b7 a2);have lh:=KG.trans (gb p0 p0);have Fw:e% 57896044618658097711785492504343953926634992332820282019728792003956564819949=((-1)*(aF*aF)*(A.1*A.2+A.2*A.1))% 57896044618658097711785492504343953926634992332820282019728792003956564819949:=(OF.trans (zw Ta lh)).trans (mu (p9 A.1 A.2 aF));have aCn:g% 57896044618658097711785492504343953926634992332820282019728792003956564819949=((-1)*(aF*aF)*(A.2*A.2-A.1*A.1))% 57896044618658097711785492504343953926634992332820282019728792003956564819949:=(OH.trans (zw Fq Ft)).trans (mu (rM A.1 A.2 aF));have Dq:g% 57896044618658097711785492504343953926634992332820282019728792003956564819949=((-1)*(aF*aF)*(1+dv*(A.1*A.1*(A.2*A.2))))% 57896044618658097711785492504343953926634992332820282019728792003956564819949:=aCn.trans (gb rfl hc);have Fx:f% 57896044618658097711785492504343953926634992332820282019728792003956564819949=(aF*aF*(1-dv*(A.1*A.1*(A.2*A.2))))% 57896044618658097711785492504343953926634992332820282019728792003956564819949:=(OG.trans (u1 HN Dq)).trans (mu (tk A.1 A.2 aF dv));have s1:X*(1+dv*(A.1*A.1*(A.2*A.2)))% 57896044618658097711785492504343953926634992332820282019728792003956564819949=(A.1*A.2+A.2*A.1)% 57896044618658097711785492504343953926634992332820282019728792003956564819949:=sz.2 hs.1;have s2:Y*(1-dv*(A.1*A.1*(A.2*A.2)))% 57896044618658097711785492504343953926634992332820282019728792003956564819949=(A.2*A.2+A.1*A.1)% 57896044618658097711785492504343953926634992332820282019728792003956564819949:=sz.2 hs.2
 refine amv (A:=fU A A) (Dj Fx (uq km k2)) (Dj Dq (uq axv k1)) ?_ ?_ hx hy hz aD
 ·rw[cg];refine Fw.trans ((gb rfl s1).symm.trans ((mu ?_).trans (gb rfl Dq).symm));ac_rfl
 ·rw[hY];refine Ta.trans ((gb rfl s2).symm.trans ((mu ?_).trans (gb rfl Fx).symm));ac_rfl
theorem amx {A B:Int×Int} (aO:on A) (ea:on B) {aj ar aF ah an z2 a b c d gE e f g ir gw XF both u v x y z:Int} (r1:lP aj ar aF A) (r2:lP ah an z2 B)
 (yK:a% 57896044618658097711785492504343953926634992332820282019728792003956564819949=aF*z2% 57896044618658097711785492504343953926634992332820282019728792003956564819949) (Du:b% 57896044618658097711785492504343953926634992332820282019728792003956564819949=a*a% 57896044618658097711785492504343953926634992332820282019728792003956564819949) (OE:c% 57896044618658097711785492504343953926634992332820282019728792003956564819949=aj*ah% 57896044618658097711785492504343953926634992332820282019728792003956564819949) (acp:d% 57896044618658097711785492504343953926634992332820282019728792003956564819949=ar*an% 57896044618658097711785492504343953926634992332820282019728792003956564819949) (eJ:gE% 57896044618658097711785492504343953926634992332820282019728792003956564819949=c*d% 57896044618658097711785492504343953926634992332820282019728792003956564819949) (OF:e% 57896044618658097711785492504343953926634992332820282019728792003956564819949=dv*gE% 57896044618658097711785492504343953926634992332820282019728792003956564819949) (OG:f% 57896044618658097711785492504343953926634992332820282019728792003956564819949=(b-e)% 57896044618658097711785492504343953926634992332820282019728792003956564819949) (OH:g% 57896044618658097711785492504343953926634992332820282019728792003956564819949=(b+e)% 57896044618658097711785492504343953926634992332820282019728792003956564819949)
 (bg:ir% 57896044618658097711785492504343953926634992332820282019728792003956564819949=aj*an% 57896044618658097711785492504343953926634992332820282019728792003956564819949) (b3:gw% 57896044618658097711785492504343953926634992332820282019728792003956564819949=ar*ah% 57896044618658097711785492504343953926634992332820282019728792003956564819949) (aEd:XF% 57896044618658097711785492504343953926634992332820282019728792003956564819949=(ir+gw)% 57896044618658097711785492504343953926634992332820282019728792003956564819949) (aEe:both% 57896044618658097711785492504343953926634992332820282019728792003956564819949=(d+c)% 57896044618658097711785492504343953926634992332820282019728792003956564819949) (cy:u% 57896044618658097711785492504343953926634992332820282019728792003956564819949=a*f% 57896044618658097711785492504343953926634992332820282019728792003956564819949) (hx:x% 57896044618658097711785492504343953926634992332820282019728792003956564819949=u*XF% 57896044618658097711785492504343953926634992332820282019728792003956564819949) (et:v% 57896044618658097711785492504343953926634992332820282019728792003956564819949=a*g% 57896044618658097711785492504343953926634992332820282019728792003956564819949) (hy:y% 57896044618658097711785492504343953926634992332820282019728792003956564819949=v*both% 57896044618658097711785492504343953926634992332820282019728792003956564819949) (hz:z% 57896044618658097711785492504343953926634992332820282019728792003956564819949=f*g% 57896044618658097711785492504343953926634992332820282019728792003956564819949):lP x y z (fU A B):=by
 obtain⟨a6,b7,a2⟩:=r1;obtain⟨gd,ca,cc⟩:=r2;have hs:=AV aO ea;have k1:=mt sB.1 (sg.plus aO.c ea.c);have k2:=mt sB.1 (sg.minus aO.c ea.c);have SO:a% 57896044618658097711785492504343953926634992332820282019728792003956564819949≠0:=Dj yK (uq a6 gd);generalize cg:(fU A B).1=X at hs;generalize hY:(fU A B).2=Y at hs;have HN:c% 57896044618658097711785492504343953926634992332820282019728792003956564819949=(A.1*B.1*a)% 57896044618658097711785492504343953926634992332820282019728792003956564819949:=(OE.trans (gb b7 ca)).trans ((mu (by ac_rfl)).trans (gb rfl yK.symm));have On:d% 57896044618658097711785492504343953926634992332820282019728792003956564819949=(A.2*B.2*a)% 57896044618658097711785492504343953926634992332820282019728792003956564819949:=(acp.trans (gb a2 cc)).trans ((mu (by ac_rfl)).trans (gb rfl yK.symm));have aC6:ir% 57896044618658097711785492504343953926634992332820282019728792003956564819949=(A.1*B.2*a)% 57896044618658097711785492504343953926634992332820282019728792003956564819949:=(bg.trans (gb b7 cc)).trans ((mu (by ac_rfl)).trans (gb rfl yK.symm));have aC7:gw% 57896044618658097711785492504343953926634992332820282019728792003956564819949=(A.2*B.1*a)% 57896044618658097711785492504343953926634992332820282019728792003956564819949:=(b3.trans (gb a2 ca)).trans ((mu (by ac_rfl)).trans (gb rfl yK.symm));have Fw:e% 57896044618658097711785492504343953926634992332820282019728792003956564819949=(dv*(A.1*B.1*a*(A.2*B.2*a)))% 57896044618658097711785492504343953926634992332820282019728792003956564819949:=OF.trans (gb rfl (eJ.trans (gb HN On)));have Fx:f% 57896044618658097711785492504343953926634992332820282019728792003956564819949=(a*a*(1-dv*(A.1*B.1*(A.2*B.2))))% 57896044618658097711785492504343953926634992332820282019728792003956564819949:=(OG.trans (zw Du Fw)).trans (mu (l1 A.1 A.2 B.1 B.2 a dv));have Dq:g% 57896044618658097711785492504343953926634992332820282019728792003956564819949=(a*a*(1+dv*(A.1*B.1*(A.2*B.2))))% 57896044618658097711785492504343953926634992332820282019728792003956564819949:=(OH.trans (u1 Du Fw)).trans (mu (l2 A.1 A.2 B.1 B.2 a dv));have Dr:XF% 57896044618658097711785492504343953926634992332820282019728792003956564819949=(a*(A.1*B.2+A.2*B.1))% 57896044618658097711785492504343953926634992332820282019728792003956564819949:=(aEd.trans (u1 aC6 aC7)).trans (mu (oG A.1 A.2 B.1 B.2 a));have Ds:both% 57896044618658097711785492504343953926634992332820282019728792003956564819949=(a*(A.2*B.2+A.1*B.1))% 57896044618658097711785492504343953926634992332820282019728792003956564819949:=(aEe.trans (u1 On HN)).trans (mu (w3 A.1 A.2 B.1 B.2 a));have s1:X*(1+dv*(A.1*B.1*(A.2*B.2)))% 57896044618658097711785492504343953926634992332820282019728792003956564819949=(A.1*B.2+A.2*B.1)% 57896044618658097711785492504343953926634992332820282019728792003956564819949:=sz.2 hs.1
 have s2:Y*(1-dv*(A.1*B.1*(A.2*B.2)))% 57896044618658097711785492504343953926634992332820282019728792003956564819949=(A.2*B.2+A.1*B.1)% 57896044618658097711785492504343953926634992332820282019728792003956564819949:=sz.2 hs.2;refine⟨Dj hz (uq (Dj Fx (uq (uq SO SO) k2)) (Dj Dq (uq (uq SO SO) k1))),?_,?_⟩
 ·rw[cg];refine hx.trans ((gb cy (Dr.trans (gb rfl s1.symm))).trans (((mu ?_).trans (gb rfl (gb rfl Dq.symm))).trans (gb rfl hz).symm));ac_rfl
 ·rw[hY];refine hy.trans ((gb et (Ds.trans (gb rfl s2.symm))).trans (((mu ?_).trans (gb rfl (gb Fx.symm rfl))).trans (gb rfl hz).symm));ac_rfl
theorem mG.j {x y z t:Int} {A:Int×Int} (h:mG x y z t A):lP x y z A:=⟨h.1,h.2.1,h.2.2.1⟩
theorem KQ {x y z:Int} {A:Int×Int} (aO:on A) (h:lP x y z A):A8 x y z=enc A:=by
 obtain⟨n,h1,h2⟩:=h;have hi:=aac (mt sB.2 n);have key:∀u v:Int,u% 57896044618658097711785492504343953926634992332820282019728792003956564819949=v*z% 57896044618658097711785492504343953926634992332820282019728792003956564819949->0<=v->v<57896044618658097711785492504343953926634992332820282019728792003956564819949->u*lJ z% 57896044618658097711785492504343953926634992332820282019728792003956564819949=v:=λu v hu h0 h1=>by
  have:u*lJ z% 57896044618658097711785492504343953926634992332820282019728792003956564819949=v*z*lJ z% 57896044618658097711785492504343953926634992332820282019728792003956564819949:=gb hu rfl;rw[this,DY,<-w5,hi,Un,mD h0 h1]
 unfold A8 enc;rw[key x A.1 h1 aO.1.1 aO.1.2,key y A.2 h2 aO.2.1.1 aO.2.1.2]
theorem asU (y:Int):¬uN (dv*(y*y)+1):=λh=>by
 have h1:uN (yY*yY-dv*(y*y)):=by
  have h2:=Int.dvd_sub sg.hi h
  rwa [show yY*yY+1-(dv*(y*y)+1)=yY*yY-dv*(y*y) by omega]at h2
 have h3:=sg.hd _ _ h1;have h4:uN (dv*(y*y)):=pK.N6 h3 (r1:=dv*y) (by rw[DY]);have h5:=Int.dvd_sub h h4;rw[show dv*(y*y)+1-dv*(y*y)=1 by omega]at h5;exact sg.h1 h5
theorem abM {x y:Int}:pK.qv 57896044618658097711785492504343953926634992332820282019728792003956564819949 dv x y↔x*x% 57896044618658097711785492504343953926634992332820282019728792003956564819949=(y*y-1)*lJ (dv*(y*y)+1)% 57896044618658097711785492504343953926634992332820282019728792003956564819949:=by
 have hi:=aac (asU y);generalize lJ (dv*(y*y)+1)=w at hi⊢;have hw:=sz.1 (hi.trans (show(1:Int)=1% 57896044618658097711785492504343953926634992332820282019728792003956564819949 by decide));rw[sz];unfold pK.qv;constructor
 ·intro h;exact pK.Aa h hw (ir x y dv w)
 ·intro h;exact pK.Aa h hw (gw x y dv w)
theorem att {A:Int×Int} (aO:on A):0<=enc A/\enc A<2*ej/\enc A% ej=A.2/\enc A/ej=A.1% 2:=by
 have h1:=aO.2.1;unfold enc ej;have h2:=sV A.1 (show(2:Int)≠0 by decide);have h3:=wg A.1 (show(0:Int)<2 by decide);generalize A.1% 2=o at h2 h3;generalize A.2=y at h1;clear aO;refine⟨by omega,by omega,?_,?_⟩
 ·rw[xW,mD h1.1 (by omega)]
 ·rw[Int.add_mul_ediv_left _ _ (by decide),Int.ediv_eq_zero_of_lt h1.1 (by omega),Int.zero_add]
theorem asT {A:Int×Int} (aO:on A):dec (enc A)=some A:=by
 obtain⟨_,_,az,aI⟩:=att aO;unfold dec;simp only[az,aI];rw[if_pos aO.2.1.2];have hr:=abM.1 aO.c;generalize (A.2*A.2-1)*lJ (dv*(A.2*A.2)+1)=q at hr;obtain⟨r,hs,qM⟩:=aFr hr;rw[hs];simp only;rw[if_neg (by decide)];have hx:=aO.1;by_cases aA:A.1% 2=1
 ·rw[if_pos aA];have hz:0<A.1:=by clear hr hs qM az aI;omega
  have hn:r=57896044618658097711785492504343953926634992332820282019728792003956564819949-A.1:=by
   refine acz qM ⟨by clear hr hs qM az aI;omega,by clear hr hs qM az aI;omega,by clear hr hs qM az aI;omega,?_⟩;rw[<-hr,sz];exact⟨57896044618658097711785492504343953926634992332820282019728792003956564819949-2*A.1,HG A.1 57896044618658097711785492504343953926634992332820282019728792003956564819949⟩
  rw[if_neg (by rw[hn];clear hr hs qM az aI;omega),SR (by rw[hn];clear hr hs qM az aI;omega) qM.2.1,hn]
  congr 1
  exact Pg (by simp only;omega) rfl
 ·rw[if_neg aA];have hn:r=A.1:=acz qM ⟨hx.1,hx.2,by clear hr hs qM az aI;omega,hr⟩;rw[hn]
theorem Je {b:Int} {A:Int×Int} (h:dec b=some A):on A:=by
 unfold dec at h;simp only at h;have NQ:0<=b% ej:=sV _ (by decide);generalize b% ej=y at h NQ;by_cases h1:y<57896044618658097711785492504343953926634992332820282019728792003956564819949
 ·rw[if_pos h1]at h;rcases TE (oH ((y*y-1)*lJ (dv*(y*y)+1))).1 (oH ((y*y-1)*lJ (dv*(y*y)+1))).2 with⟨r,hs,qM⟩|⟨hs,_⟩
  ·rw[hs]at h;simp only at h;rw[if_neg (by decide)]at h;by_cases h2:b/ej=1
   ·rw[if_pos h2]at h;by_cases h3:r=0
    ·rw[if_pos h3]at h;cases h
    ·rw[if_neg h3]at h;cases h;refine Ok.2 ⟨⟨oH _,NQ,h1⟩,abM.2 ?_⟩;rw[sK,w5,alM];exact qM.2.2.2
   ·rw[if_neg h2]at h;cases h;exact Ok.2 ⟨⟨⟨qM.1,qM.2.1⟩,NQ,h1⟩,abM.2 qM.2.2.2⟩
  ·rw[hs]at h;simp at h
 ·rw[if_neg h1]at h;cases h
theorem atu:enc nc=1:=by decide
def adk (p q:Int×Int×Int):Int×Int×Int:=
 let a:=p.2.2*q.2.2% 57896044618658097711785492504343953926634992332820282019728792003956564819949;let b:=a*a% 57896044618658097711785492504343953926634992332820282019728792003956564819949;let c:=p.1*q.1% 57896044618658097711785492504343953926634992332820282019728792003956564819949;let d:=p.2.1*q.2.1% 57896044618658097711785492504343953926634992332820282019728792003956564819949;let e:=dv*(c*d% 57896044618658097711785492504343953926634992332820282019728792003956564819949)% 57896044618658097711785492504343953926634992332820282019728792003956564819949;let f:=(b-e)% 57896044618658097711785492504343953926634992332820282019728792003956564819949;let g:=(b+e)% 57896044618658097711785492504343953926634992332820282019728792003956564819949
 (a*f% 57896044618658097711785492504343953926634992332820282019728792003956564819949*((p.1*q.2.1% 57896044618658097711785492504343953926634992332820282019728792003956564819949+p.2.1*q.1% 57896044618658097711785492504343953926634992332820282019728792003956564819949)% 57896044618658097711785492504343953926634992332820282019728792003956564819949)% 57896044618658097711785492504343953926634992332820282019728792003956564819949,a*g% 57896044618658097711785492504343953926634992332820282019728792003956564819949*((d+c)% 57896044618658097711785492504343953926634992332820282019728792003956564819949)% 57896044618658097711785492504343953926634992332820282019728792003956564819949,f*g% 57896044618658097711785492504343953926634992332820282019728792003956564819949)
def abt:Nat->Nat->Int×Int×Int->Int×Int×Int
 |0,_,_=>(0,1,1)
 |f+1,n,p=>let h:=abt f (n/2) p
           let d:=adk h h
           cond (n% 2==1) (adk d p) d
abbrev Cr (p:Int×Int×Int) (A:Int×Int):Prop:=lP p.1 p.2.1 p.2.2 A
theorem bK (a:Int):a% 57896044618658097711785492504343953926634992332820282019728792003956564819949% 57896044618658097711785492504343953926634992332820282019728792003956564819949=a% 57896044618658097711785492504343953926634992332820282019728792003956564819949:=xX _ _
theorem anv {p q:Int×Int×Int} {A B:Int×Int} (aO:on A) (ea:on B) (hp:Cr p A) (ak:Cr q B):Cr (adk p q) (fU A B):=
 amx aO ea hp ak (bK _) (bK _) (bK _) (bK _) (bK _) (bK _) (bK _) (bK _) (bK _) (bK _) (bK _) (bK _) (bK _) (bK _) (bK _) (bK _) (bK _)
theorem ao7:Cr (0,1,1) nc:=by
 show lP 0 1 1 nc;unfold lP nc;decide
theorem SM {p:Int×Int×Int} {A:Int×Int} (aO:on A) (hp:Cr p A):∀(f n:Nat),n<2^f->Cr (abt f n p) (er n A)
 |0,n,h=>by
  have:n=0:=by simp at h;exact h
  subst this;exact ao7
 |f+1,n,h=>by
  have ih:=SM aO hp f (n/2) (by rw[za]at h;omega);have h2:=anv (jf aO _) (jf aO _) ih ih;rw[<-abv aO]at h2;unfold abt;simp only;cases hc:(n% 2==1)with
  |true=>
   have:n% 2=1:=by simpa using hc
   have e:n=2*(n/2)+1:=by omega
   simp only[cond_true]
   conv=>rhs;rw[e,Fi]
   exact anv (jf aO _) aO h2 hp
  |false=>
   have:¬n% 2=1:=by simpa using hc
   have e:n=2*(n/2):=by omega
   simp only[cond_false]
   conv=>rhs;rw[e]
   exact h2
theorem S1 {A:Int×Int}:Cr (A.1,A.2,1) A:=⟨(show(1:Int)% 57896044618658097711785492504343953926634992332820282019728792003956564819949≠0 by decide),by simp,by simp⟩
theorem aEm {p:Int×Int×Int} {A:Int×Int} (aO:on A) (h:Cr p A) (hx:p.1% 57896044618658097711785492504343953926634992332820282019728792003956564819949=0) (hy:p.2.1% 57896044618658097711785492504343953926634992332820282019728792003956564819949=p.2.2% 57896044618658097711785492504343953926634992332820282019728792003956564819949):A=nc:=by
 obtain⟨n,h1,h2⟩:=h;rw[hx]at h1;have k1:A.1% 57896044618658097711785492504343953926634992332820282019728792003956564819949=0:=(Of h1.symm).resolve_right n;have k2:uN (A.2-1):=by
  have:=sz.1 (hy.symm.trans h2);have h3:uN (p.2.2*A.2-p.2.2*1):=pK.N6 this (Bt A.2 p.2.2);exact sg.cancel (mt sB.2 n) h3
 exact Te aO Pe (by have:=sB.1 k1;rwa [show nc.1=0 by rfl,Int.sub_zero]) k2
theorem agF:er jx ln=nc:=by
 have h:=SM mr S1 253 jx (by decide);exact aEm (jf mr _) h (by decide+kernel) (by decide+kernel)
theorem arM (n:Nat):er (n% jx) ln=er n ln:=by
 have e:er n ln=fU (er (jx*(n/jx)) ln) (er (n% jx) ln):=by rw[<-Oa mr,Nat.div_add_mod]
 rw[<-Ob mr,agF,abw,ao5 (jf mr _)]at e;exact e.symm
end Go.Fd
set_option maxRecDepth 20000
namespace Go.Fd
open Go.b9
theorem anE {l:List Int} (hl:ab (ai 0 255 32) l):(nb l).toNat/2^(255+1:Int).toNat=0:=by
 have h:=abB hl;have e:(255+1:Int).toNat=256:=by decide
 rw[e];apply adY;have:((nb l).toNat:Int)<2^256:=by rw[Pf h.1];exact h.2
 exact_mod_cast this
theorem aIQ {x y z t:List Int} (h:acR [] [x,y,z,t]):mG (v5 x) (v5 y) (v5 z) (v5 t) nc:=by
 obtain⟨h1,h2,h3,h4⟩:=h;refine⟨by rw[h3];decide,?_,?_,?_⟩
 ·rw[h1,show nc.1=0 by rfl,Int.zero_mul];rfl
 ·rw[h2,show nc.2=1 by rfl,xV,h3]
 ·rw[h4,show nc.1*nc.2=0 by rfl,Int.zero_mul];rfl
theorem aEE {x y z:List Int} (h:acT [] [x,y,z]):lP (ad x) (ad y) (ad z) nc:=by
 obtain⟨h1,h2,h3⟩:=h;rw[h1,h2,h3];exact ao7
theorem Xh {x y z t:List Int} (h:O0 [] [x,y,z,t]):mG (v5 x) (v5 y) (v5 z) (v5 t) ln:=by
 obtain⟨h1,h2,h3,h4⟩:=h;have k:∀a:Int,a*v5 z% 57896044618658097711785492504343953926634992332820282019728792003956564819949=a% 57896044618658097711785492504343953926634992332820282019728792003956564819949:=λa=>by rw[<-w5,h3,Un]
 refine⟨by rw[h3];decide,?_,?_,?_⟩
 ·rw[k,h1];decide
 ·rw[k,h2];decide
 ·rw[k,h4]
theorem P9 {l:List Int} {i:Nat} {q x fA y h:Int} (hl:ab (ai 0 255 32) l) (hi:(i:Int)<=255) (c:0<=(i:Int)-8*q) (d:(i:Int)-8*q<8) (e:x=l.getD q.toNat 0)
 (e3:0<=(i:Int)-8*fA) (GF:(i:Int)-8*fA<8) (cW:y=x/2^((i:Int)+(-8)*fA).toNat) (bQ:0<=y-2*h) (d2:y-2*h<2):y+(-2)*h=(((nb l).toNat/2^i% 2:Nat):Int):=by
 have hb:=abE 8 (n:=32) (l:=l) i hl (by omega);have h0:=(abB hl).1;have bg:q.toNat=i/8:=by omega
 have b3:((i:Int)+(-8)*fA).toNat=i% 8:=by omega
 rw[bg]at e;rw[b3]at cW;have cn:(((nb l).toNat/2^i% 2:Nat):Int)=nb l/2^i% 2:=by
  have:((nb l).toNat:Int)=nb l:=Pf h0;rw[Uo,Int.natCast_ediv,this];simp
 rw[cn];have hb:nb l/2^i% 2=l.getD (i/8) 0/2^(i% 8)% 2:=hb;rw[hb,<-e,<-cW];omega
theorem alB {A:Int×Int} (aO:on A) {N i:Nat} (h:N/2^i% 2=1):er (N/2^i) A=fU (fU (er (N/2^(i+1)) A) (er (N/2^(i+1)) A)) A:=by
 rw[SP N i,h,Fi,abv aO]
theorem alA {A:Int×Int} (aO:on A) {N i:Nat} (h:N/2^i% 2≠1):er (N/2^i) A=fU (er (N/2^(i+1)) A) (er (N/2^(i+1)) A):=by
 have h0:N/2^i% 2=0:=by omega
 rw[SP N i,h0,Nat.add_zero,abv aO]
theorem anx {a b c d:List Int} {lo hi SJ qL ayR av2 ayS Nn:Int} (ha:ab (ai lo hi 5) a) (hb:ab (ai SJ qL 5) b) (hc:ab (ai ayR av2 5) c) (hd:ab (ai ayS Nn 5) d):[a,b,c,d].flatten.take 15=[a,b,c].flatten:=by
 have l1:=abd ha;have l2:=abd hb;have oG:=abd hc;rw[show [a,b,c,d].flatten=[a,b,c].flatten++d by simp];exact adZ (by simp[l1,l2,oG])
theorem atD {a b c d e f g h:List Int}:[a,b,c,d,e,f,g,h].flatten=[a,b,c,d].flatten++[e,f,g,h].flatten:=by simp
theorem Ye {a b c d e f:List Int}:[a,b,c,d,e,f].flatten=[a,b,c].flatten++[d,e,f].flatten:=by simp
theorem aA5:∀x:Nat,x<128->eR .or .u8 (x:Int) 128=(x:Int)+128:=by decide
theorem aA4 {x:Int} (h0:0<=x) (h1:x<128):eR .or .u8 x 128=x+128:=by
 obtain⟨n,rfl⟩:=oY h0;exact aA5 n (by omega)
theorem akc {l:List Int} {w:Int} (h:ab (ai 0 255 32) l) (h0:0<=w) (h1:w<=255):ab (aY [gN]) [[l.getD 0 0,l.getD 1 0,l.getD 2 0,l.getD 3 0,l.getD 4 0,l.getD 5 0,l.getD 6 0,l.getD 7 0,l.getD 8 0,l.getD 9 0,l.getD 10 0,l.getD 11 0,l.getD 12 0,l.getD 13 0,l.getD 14 0,l.getD 15 0,l.getD 16 0,l.getD 17 0,l.getD 18 0,l.getD 19 0,l.getD 20 0,l.getD 21 0,l.getD 22 0,l.getD 23 0,l.getD 24 0,l.getD 25 0,l.getD 26 0,l.getD 27 0,l.getD 28 0,l.getD 29 0,l.getD 30 0,w]].flatten:=by
 obtain⟨dx,aj,ah,au,de,iK,jz,mc,me,mf,mB,hW,jy,mb,uI,uJ,vu,vv,vw,vx,vy,vz,vA,vB,vC,vD,vE,vF,vG,vH,vI,vJ,rfl,hx⟩:=Ht h;show ab (ai 0 255 32) _;simp only[oh,tH,hK,gD,hL,ai,ab,and_true];simp only[hx,h0,h1,and_self]
theorem abC {l:List Int} (h:ab (ai 0 255 32) l) (w:Int):nb [l.getD 0 0,l.getD 1 0,l.getD 2 0,l.getD 3 0,l.getD 4 0,l.getD 5 0,l.getD 6 0,l.getD 7 0,l.getD 8 0,l.getD 9 0,l.getD 10 0,l.getD 11 0,l.getD 12 0,l.getD 13 0,l.getD 14 0,l.getD 15 0,l.getD 16 0,l.getD 17 0,l.getD 18 0,l.getD 19 0,l.getD 20 0,l.getD 21 0,l.getD 22 0,l.getD 23 0,l.getD 24 0,l.getD 25 0,l.getD 26 0,l.getD 27 0,l.getD 28 0,l.getD 29 0,l.getD 30 0,w]=nb l+(w-l.getD 31 0)*452312848583266388373324160190187140051835877600158453279131187530910662656:=by
 obtain⟨dx,aj,ah,au,de,iK,jz,mc,me,mf,mB,hW,jy,mb,uI,uJ,vu,vv,vw,vx,vy,vz,vA,vB,vC,vD,vE,vF,vG,vH,vI,vJ,rfl,hx⟩:=Ht h;clear hx;simp only[num,gD,hL];omega
theorem alK {l:List Int} (h:ab (ai 0 255 32) l):0<=nb l-l.getD 31 0*452312848583266388373324160190187140051835877600158453279131187530910662656/\nb l-l.getD 31 0*452312848583266388373324160190187140051835877600158453279131187530910662656<452312848583266388373324160190187140051835877600158453279131187530910662656:=by
 obtain⟨dx,aj,ah,au,de,iK,jz,mc,me,mf,mB,hW,jy,mb,uI,uJ,vu,vv,vw,vx,vy,vz,vA,vB,vC,vD,vE,vF,vG,vH,vI,vJ,rfl,hx⟩:=Ht h;simp only[num,gD,hL];omega
theorem aip {l:List Int} (h:ab (ai 0 255 32) l):0<=l.getD 31 0/\l.getD 31 0<=255:=by
 obtain⟨dx,aj,ah,au,de,iK,jz,mc,me,mf,mB,hW,jy,mb,uI,uJ,vu,vv,vw,vx,vy,vz,vA,vB,vC,vD,vE,vF,vG,vH,vI,vJ,rfl,hx⟩:=Ht h;simp only[gD,hL];omega
theorem anC {l:List Int} (h:ab (ai 0 255 32) l) (hlt:nb l<ej):l.getD 31 0<128:=by
 have h1:=alK h;unfold ej at hlt;generalize nb l=n at*;generalize l.getD 31 0=t at*;omega
theorem Bu {l:List Int} {z:Int} (h:ab (ai 0 255 32) l) (c:0<=l.getD 31 0-128*z) (d:l.getD 31 0-128*z<128):nb [l.getD 0 0,l.getD 1 0,l.getD 2 0,l.getD 3 0,l.getD 4 0,l.getD 5 0,l.getD 6 0,l.getD 7 0,l.getD 8 0,l.getD 9 0,l.getD 10 0,l.getD 11 0,l.getD 12 0,l.getD 13 0,l.getD 14 0,l.getD 15 0,l.getD 16 0,l.getD 17 0,l.getD 18 0,l.getD 19 0,l.getD 20 0,l.getD 21 0,l.getD 22 0,l.getD 23 0,l.getD 24 0,l.getD 25 0,l.getD 26 0,l.getD 27 0,l.getD 28 0,l.getD 29 0,l.getD 30 0,l.getD 31 0+(-128)*z]=nb l% ej/\z=nb l/ej:=by
 have h1:=alK h;rw[abC h];have e:nb l+(l.getD 31 0+(-128)*z-l.getD 31 0)*452312848583266388373324160190187140051835877600158453279131187530910662656=nb l-ej*z:=by unfold ej;generalize nb l=n at*;generalize l.getD 31 0=t at*;omega
 have r1:0<=nb l-ej*z:=by unfold ej;generalize nb l=n at*;generalize l.getD 31 0=t at*;omega
 have r2:nb l-ej*z<ej:=by unfold ej;generalize nb l=n at*;generalize l.getD 31 0=t at*;omega
 have ij:=OI (show(0:Int)<ej by decide) r1 r2;rw[e];refine⟨?_,ij.symm⟩;have h4:=ad0 (nb l) ej;rw[ij]at h4;omega
abbrev BZ (y:Int):Int:=(y*y-1)*lJ (dv*(y*y)+1)% 57896044618658097711785492504343953926634992332820282019728792003956564819949
theorem Mq (b:Int):dec b=(if b% ej<57896044618658097711785492504343953926634992332820282019728792003956564819949 then
 (if(l9 (BZ (b% ej))).2=0 then none else if b/ej=1 then(if(l9 (BZ (b% ej))).1=0 then none else some ((0-(l9 (BZ (b% ej))).1)% 57896044618658097711785492504343953926634992332820282019728792003956564819949,b% ej))else some ((l9 (BZ (b% ej))).1,b% ej))else none):=rfl
theorem ahn {b:Int} (h:¬b% ej<57896044618658097711785492504343953926634992332820282019728792003956564819949):dec b=none:=by rw[Mq,if_neg h]
theorem ahp {b a k:Int} (hy:b% ej<57896044618658097711785492504343953926634992332820282019728792003956564819949) (hs:(a,k)=l9 (BZ (b% ej))) (af:k=0):dec b=none:=by rw[Mq,if_pos hy,<-hs,if_pos af]
theorem ahr {b a k:Int} (hy:b% ej<57896044618658097711785492504343953926634992332820282019728792003956564819949) (hs:(a,k)=l9 (BZ (b% ej))) (af:k≠0) (aA:b/ej=1) (h0:a=0):dec b=none:=by rw[Mq,if_pos hy,<-hs,if_neg af,if_pos aA,if_pos h0]
theorem ahq {b a k:Int} (hy:b% ej<57896044618658097711785492504343953926634992332820282019728792003956564819949) (hs:(a,k)=l9 (BZ (b% ej))) (af:k≠0) (aA:b/ej=1) (h0:a≠0):dec b=some ((0-a)% 57896044618658097711785492504343953926634992332820282019728792003956564819949,b% ej):=by rw[Mq,if_pos hy,<-hs,if_neg af,if_pos aA,if_neg h0]
theorem aho {b a k:Int} (hy:b% ej<57896044618658097711785492504343953926634992332820282019728792003956564819949) (hs:(a,k)=l9 (BZ (b% ej))) (af:k≠0) (aA:¬b/ej=1):dec b=some (a,b% ej):=by rw[Mq,if_pos hy,<-hs,if_neg af,if_neg aA]
theorem aFq {a k x:Int} (h:(a,k)=l9 (x% 57896044618658097711785492504343953926634992332820282019728792003956564819949)):0<=a/\a<57896044618658097711785492504343953926634992332820282019728792003956564819949:=by
 rcases TE (oH x).1 (oH x).2 with⟨r,e,hr⟩|⟨e,_⟩
 ·rw[e]at h;cases h;exact⟨hr.1,hr.2.1⟩
 ·rw[e]at h;cases h;decide
theorem akh {a b:Int} (h:a% 57896044618658097711785492504343953926634992332820282019728792003956564819949=b% 57896044618658097711785492504343953926634992332820282019728792003956564819949):cr a s9% 57896044618658097711785492504343953926634992332820282019728792003956564819949=lJ b% 57896044618658097711785492504343953926634992332820282019728792003956564819949:=by unfold lJ;rw[amm h]
theorem Tm {y f vV m t p v q:Int} (s1:f% 57896044618658097711785492504343953926634992332820282019728792003956564819949=y% 57896044618658097711785492504343953926634992332820282019728792003956564819949) (s2:vV% 57896044618658097711785492504343953926634992332820282019728792003956564819949=f*f% 57896044618658097711785492504343953926634992332820282019728792003956564819949) (bn:m% 57896044618658097711785492504343953926634992332820282019728792003956564819949=(vV-v5 [1,0,0,0,0])% 57896044618658097711785492504343953926634992332820282019728792003956564819949) (cz:t% 57896044618658097711785492504343953926634992332820282019728792003956564819949=vV*v5 [929955233495203,466365720129213,1662059464998953,2033849074728123,1442794654840575]% 57896044618658097711785492504343953926634992332820282019728792003956564819949) (dO:p% 57896044618658097711785492504343953926634992332820282019728792003956564819949=(t+v5 [1,0,0,0,0])% 57896044618658097711785492504343953926634992332820282019728792003956564819949) (ec:v% 57896044618658097711785492504343953926634992332820282019728792003956564819949=cr p s9) (eK:q% 57896044618658097711785492504343953926634992332820282019728792003956564819949=m*v% 57896044618658097711785492504343953926634992332820282019728792003956564819949):q% 57896044618658097711785492504343953926634992332820282019728792003956564819949=BZ y:=by
 rw[aHQ]at bn dO;rw[alY]at cz;have bg:vV% 57896044618658097711785492504343953926634992332820282019728792003956564819949=y*y% 57896044618658097711785492504343953926634992332820282019728792003956564819949:=s2.trans (gb s1 s1);have b3:m% 57896044618658097711785492504343953926634992332820282019728792003956564819949=(y*y-1)% 57896044618658097711785492504343953926634992332820282019728792003956564819949:=bn.trans (zw bg rfl);have cy:p% 57896044618658097711785492504343953926634992332820282019728792003956564819949=(dv*(y*y)+1)% 57896044618658097711785492504343953926634992332820282019728792003956564819949:=dO.trans (u1 (cz.trans ((gb bg rfl).trans (mu (lB _ _)))) rfl);exact eK.trans (gb b3 ((ec.trans (Oq _ _).symm).trans (akh cy)))
theorem diff_eq {a b:Int} (ha:0<=a/\a<57896044618658097711785492504343953926634992332820282019728792003956564819949) (hb:0<=b/\b<57896044618658097711785492504343953926634992332820282019728792003956564819949):(a-b+(if a<b then 57896044618658097711785492504343953926634992332820282019728792003956564819949 else 0))% 115792089237316195423570985008687907853269984665640564039457584007913129639936=(a-b)% 57896044618658097711785492504343953926634992332820282019728792003956564819949:=by
 split
 ·rename_i h;rw[mD (by omega) (by omega),show(a-b)% 57896044618658097711785492504343953926634992332820282019728792003956564819949=(a-b+57896044618658097711785492504343953926634992332820282019728792003956564819949*1)% 57896044618658097711785492504343953926634992332820282019728792003956564819949 by rw[xW],mD (by omega) (by omega)];omega
 ·rename_i h;rw[mD (by omega) (by omega),mD (by omega) (by omega)];omega
theorem asY {a b:Int} (ha:0<=a/\a<57896044618658097711785492504343953926634992332820282019728792003956564819949) (hb:0<=b/\b<57896044618658097711785492504343953926634992332820282019728792003956564819949):(a-b+(if a<b then 57896044618658097711785492504343953926634992332820282019728792003956564819949 else 0))% 115792089237316195423570985008687907853269984665640564039457584007913129639936% 57896044618658097711785492504343953926634992332820282019728792003956564819949=(a-b)% 57896044618658097711785492504343953926634992332820282019728792003956564819949:=by rw[diff_eq ha hb,xX]
theorem anw {a b:Int} (ha:0<=a/\a<57896044618658097711785492504343953926634992332820282019728792003956564819949) (hb:0<=b/\b<57896044618658097711785492504343953926634992332820282019728792003956564819949):(a+b)% 115792089237316195423570985008687907853269984665640564039457584007913129639936% 57896044618658097711785492504343953926634992332820282019728792003956564819949=(a+b)% 57896044618658097711785492504343953926634992332820282019728792003956564819949:=by rw[mD (a:=a+b) (by omega) (by omega)]
theorem smod {a b:Int} (ha:0<=a/\a<57896044618658097711785492504343953926634992332820282019728792003956564819949) (hb:0<=b/\b<57896044618658097711785492504343953926634992332820282019728792003956564819949):(a+b)% 115792089237316195423570985008687907853269984665640564039457584007913129639936% 57896044618658097711785492504343953926634992332820282019728792003956564819949% 57896044618658097711785492504343953926634992332820282019728792003956564819949=(a+b)% 57896044618658097711785492504343953926634992332820282019728792003956564819949:=by rw[anw ha hb,xX]
theorem tv {r x:Int} (h:r=x% 57896044618658097711785492504343953926634992332820282019728792003956564819949):r% 57896044618658097711785492504343953926634992332820282019728792003956564819949=x% 57896044618658097711785492504343953926634992332820282019728792003956564819949:=by rw[h,xX]
theorem Fz {r x:Int} (h:r=x% 57896044618658097711785492504343953926634992332820282019728792003956564819949):0<=r/\r<57896044618658097711785492504343953926634992332820282019728792003956564819949:=by rw[h];exact oH x
theorem Tt {y f vV d t p m v q:Int} (aH:f=y) (bn:vV=f*f% 57896044618658097711785492504343953926634992332820282019728792003956564819949) (cz:d=dv) (dO:t=d*vV% 57896044618658097711785492504343953926634992332820282019728792003956564819949) (ec:p=(t+ad [1,0,0,0])% 115792089237316195423570985008687907853269984665640564039457584007913129639936% 57896044618658097711785492504343953926634992332820282019728792003956564819949) (eK:m=(vV-ad [1,0,0,0]+(if vV<ad [1,0,0,0]then 57896044618658097711785492504343953926634992332820282019728792003956564819949 else 0))% 115792089237316195423570985008687907853269984665640564039457584007913129639936) (gy:v=cr p s9) (gX:q=m*v% 57896044618658097711785492504343953926634992332820282019728792003956564819949):q=BZ y:=by
 rw[abG]at ec eK;rw[anw (Fz dO) (by decide)]at ec;rw[diff_eq (Fz bn) (by decide)]at eK;subst aH;have bg:vV% 57896044618658097711785492504343953926634992332820282019728792003956564819949=f*f% 57896044618658097711785492504343953926634992332820282019728792003956564819949:=tv bn;have b3:m% 57896044618658097711785492504343953926634992332820282019728792003956564819949=(f*f-1)% 57896044618658097711785492504343953926634992332820282019728792003956564819949:=(tv eK).trans (zw bg rfl);have cy:p% 57896044618658097711785492504343953926634992332820282019728792003956564819949=(dv*(f*f)+1)% 57896044618658097711785492504343953926634992332820282019728792003956564819949:=(tv ec).trans (u1 ((tv dO).trans (by rw[cz];exact gb rfl bg)) rfl);rw[gX];exact gb b3 (by rw[gy];exact akh cy)
theorem aEn {x y z t:Int} {A:Int×Int} (h1:x% 57896044618658097711785492504343953926634992332820282019728792003956564819949=A.1) (h2:y% 57896044618658097711785492504343953926634992332820282019728792003956564819949=A.2) (h3:z% 57896044618658097711785492504343953926634992332820282019728792003956564819949=1) (h4:t% 57896044618658097711785492504343953926634992332820282019728792003956564819949=A.1*A.2% 57896044618658097711785492504343953926634992332820282019728792003956564819949):mG x y z t A:=by
 have k:∀a:Int,a*z% 57896044618658097711785492504343953926634992332820282019728792003956564819949=a% 57896044618658097711785492504343953926634992332820282019728792003956564819949:=λa=>by rw[<-w5,h3,Un]
 exact⟨by rw[h3];decide,by rw[k,<-h1,xX],by rw[k,<-h2,xX],by rw[k,h4]⟩
def Gd (o:Option (Int×Int)) (x y z t k:Int):Prop:=match o with|none=>k=0|some A=>k=1/\x% 57896044618658097711785492504343953926634992332820282019728792003956564819949=A.1/\y% 57896044618658097711785492504343953926634992332820282019728792003956564819949=A.2/\z% 57896044618658097711785492504343953926634992332820282019728792003956564819949=1/\t% 57896044618658097711785492504343953926634992332820282019728792003956564819949=A.1*A.2% 57896044618658097711785492504343953926634992332820282019728792003956564819949
def Gc (o:Option (Int×Int)) (x y z k:Int):Prop:=match o with|none=>k=0|some A=>k=1/\x=A.1/\y=A.2/\z=1
theorem amr {b x y z t:List Int} {k:Int} (h:O2 [b] [x,y,z,t,[k]]) (af:¬k=1):dec (nb b)=none:=by
 have h:Gd (dec (nb b)) (v5 x) (v5 y) (v5 z) (v5 t) k:=h;cases hd:dec (nb b)with
 |none=>rfl
 |some A=>rw[hd]at h;exact absurd h.1 af
theorem rd_some {b x y z t:List Int} {k:Int} (h:O2 [b] [x,y,z,t,[k]]) (af:k=1):∃A,dec (nb b)=some A/\mG (v5 x) (v5 y) (v5 z) (v5 t) A:=by
 have h:Gd (dec (nb b)) (v5 x) (v5 y) (v5 z) (v5 t) k:=h;cases hd:dec (nb b)with
 |none=>rw[hd]at h;have h:k=0:=h;omega
 |some A=>rw[hd]at h;exact⟨A,rfl,aEn h.2.1 h.2.2.1 h.2.2.2.1 h.2.2.2.2⟩
theorem aEw {b x y z:List Int} {k:Int} (h:Tw [b] [x,y,z,[k]]) (af:¬k=1):dec (nb b)=none:=by
 have h:Gc (dec (nb b)) (ad x) (ad y) (ad z) k:=h;cases hd:dec (nb b)with
 |none=>rfl
 |some A=>rw[hd]at h;exact absurd h.1 af
theorem aEx {b x y z:List Int} {k:Int} (h:Tw [b] [x,y,z,[k]]) (af:k=1):∃A,dec (nb b)=some A/\lP (ad x) (ad y) (ad z) A:=by
 have h:Gc (dec (nb b)) (ad x) (ad y) (ad z) k:=h;cases hd:dec (nb b)with
 |none=>rw[hd]at h;have h:k=0:=h;omega
 |some A=>
  rw[hd]at h;refine⟨A,rfl,?_⟩;rw[h.2.1,h.2.2.1,h.2.2.2];exact S1 (A:=A)
theorem alL {x hI y z:Int} {A:Int×Int} (h:hI% 57896044618658097711785492504343953926634992332820282019728792003956564819949=(0-x)% 57896044618658097711785492504343953926634992332820282019728792003956564819949) (q:lP x y z A):lP hI y z (rY A):=by
 obtain⟨n,h1,h2⟩:=q;refine⟨n,?_,h2⟩;have e:(0-A.1)*z=0-A.1*z:=by rw[Int.sub_mul,Int.zero_mul]
 show hI% 57896044618658097711785492504343953926634992332820282019728792003956564819949=(0-A.1)% 57896044618658097711785492504343953926634992332820282019728792003956564819949*z% 57896044618658097711785492504343953926634992332820282019728792003956564819949;rw[sK,e];exact h.trans (zw rfl h1)
end Go.Fd
namespace Go.Fd
open Go.b9
theorem aq0 {r r':List Int} {e cW:Int} {o:Option (Int×Int)} (h:rk r e o) (bm:rk r' cW o) (i:ab (ai 0 255 32) r) (E8:ab (ai 0 255 32) r'):r=r'/\e=cW:=by
 cases o with
 |none=>exact⟨w6 i E8 (h.2.trans bm.2.symm),h.1.trans bm.1.symm⟩
 |some A=>exact⟨w6 i E8 (h.2.trans bm.2.symm),h.1.trans bm.1.symm⟩
theorem XJ {r:List Int} {A:Int×Int} (aO:on A) (h:nb r=enc A):dec (nb r)=some A:=by rw[h];exact asT aO
end Go.Fd
set_option maxRecDepth 100000
namespace Go.gg
open Go Go.b9
def aeK (S:Nat->List (List Int)->List (List Int)->Prop) (K:List (List Int)->List (List Int)->Prop):Prop:=
 ∀z0:Int,0<=z0->z0<=b6->∀aF:Int,0<=aF->aF<=b6->
 (ay 75 [z0,aF]->
 ∀z2:Int,0<=z2->
 ∀z3:Int,(-1)<=z3->z3<=9223372036854775807->
 ∀z4:Int,0<=z4->z4<=9223372036854775807->z4=bM 20 [z0]->
 ∀z5:Int,0<=z5->
 ∀bC:Int,(-1)<=bC->bC<=9223372036854775807->
 ∀aX:Int,0<=aX->aX<=9223372036854775807->aX=bM 20 [aF]->
 ay 22 [z0,0,z4]/\
 ∀aK:Int,0<=aK->aK<=b6->aK=bM 22 [z0,0,z4]->
 ay 22 [aF,0,aX]/\
 ∀z9:Int,0<=z9->z9<=b6->z9=bM 22 [aF,0,aX]->
 ay 75 [aK,z9]/\
 ∀cd:List Int,ab (ai 0 255 64) cd->S 473 [[aK],[z9]] [cd]->
 ∀kb:List Int,ab (ai 0 255 32) kb->S 152 [cd] [kb]->
 K [[z0],[aF]] [kb]
 )
def aeL (S:Nat->List (List Int)->List (List Int)->Prop) (K:List (List Int)->List (List Int)->Prop):Prop:=
 ∀z0:Int,0<=z0->z0<=b6->∀aF:Int,0<=aF->aF<=b6->∀z2:Int,0<=z2->z2<=b6->
 (ay 75 [z0,aF,z2]->
 ∀z3:Int,0<=z3->
 ∀z4:Int,(-1)<=z4->z4<=9223372036854775807->
 ∀z5:Int,0<=z5->z5<=9223372036854775807->z5=bM 20 [z0]->
 ∀bC:Int,0<=bC->
 ∀aX:Int,(-1)<=aX->aX<=9223372036854775807->
 ∀aK:Int,0<=aK->aK<=9223372036854775807->aK=bM 20 [aF]->
 ∀z9:Int,0<=z9->
 ∀a8:Int,(-1)<=a8->a8<=9223372036854775807->
 ∀aL:Int,0<=aL->aL<=9223372036854775807->aL=bM 20 [z2]->
 ay 22 [z0,0,z5]/\
 ∀z12:Int,0<=z12->z12<=b6->z12=bM 22 [z0,0,z5]->
 ay 22 [aF,0,aK]/\
 ∀aq:Int,0<=aq->aq<=b6->aq=bM 22 [aF,0,aK]->
 ay 22 [z2,0,aL]/\
 ∀ax:Int,0<=ax->ax<=b6->ax=bM 22 [z2,0,aL]->
 ay 75 [z12,aq,ax]/\
 ∀dG:List Int,ab (ai 0 255 64) dG->S 471 [[z12],[aq],[ax]] [dG]->
 ∀q4:List Int,ab (ai 0 255 32) q4->S 152 [dG] [q4]->
 K [[z0],[aF],[z2]] [q4]
 )
def aeC (S:Nat->List (List Int)->List (List Int)->Prop) (K:List (List Int)->List (List Int)->Prop):Prop:=
 ∀r0:List Int,ab (ai 0 255 32) r0->
 sA r0 0 32 0 λdr=>
 ay 71 [dr]/\
 ∀ka:List Int,ab (ai 0 255 64) ka->S 453 [[dr]] [ka]->
 ∀KK:List Int,ab (ai 0 255 32) KK->S 154 [(gj ka 0 32)] [KK]->
 ∀KL:List Int,ab (ai 0 255 32) KL->S 114 [KK] [KL]->
 K [r0] [KL]
def aeD (S:Nat->List (List Int)->List (List Int)->Prop) (K:List (List Int)->List (List Int)->Prop):Prop:=
 ∀r0:List Int,ab (ai 0 255 32) r0->∀aS:Int,0<=aS->aS<=b6->
 (ay 75 (gj r0 0 32++[aS])->
 ∀bL:Int,0<=bL->
 ∀bY:Int,(-1)<=bY->bY<=9223372036854775807->
 ∀bB:Int,0<=bB->bB<=9223372036854775807->bB=bM 20 [aS]->
 sA r0 0 32 0 λeu=>
 ay 71 [eu]/\
 ∀nF:List Int,ab (ai 0 255 64) nF->S 453 [[eu]] [nF]->
 ∀l7:List Int,ab (ai 0 255 32) l7->S 154 [(gj nF 0 32)] [l7]->
 sA nF 32 32 0 λAw=>
 ay 22 [aS,0,bB]/\
 ∀z196:Int,0<=z196->z196<=b6->z196=bM 22 [aS,0,bB]->
 ay 75 [Aw,z196]/\
 ∀m9:List Int,ab (ai 0 255 32) m9->S 674 [[Aw],[z196]] [m9]->
 ∀r4:List Int,ab (ai 0 255 32) r4->S 114 [m9] [r4]->
 ∀BH:List Int,ab (ai 0 255 32) BH->S 114 [l7] [BH]->
 ((
  ((
   sA r4 0 32 0 λCd=>
   sA BH 0 32 0 λCe=>
   ay 22 [aS,0,bB]/\
   ∀q8:Int,0<=q8->q8<=b6->q8=bM 22 [aS,0,bB]->
   ay 75 [Cd,Ce,q8]/\
   ∀pw:List Int,ab (ai 0 255 32) pw->S 675 [[Cd],[Ce],[q8]] [pw]->
   ((
    ∀my:List Int,ab (ai 0 255 32) my->S 153 [pw,l7,m9] [my]->
    K [r0,[aS]] [(gj r4 0 32++gj my 0 32)]
   )/\(
    ∀my:List Int,ab (ai 0 255 32) my->S 153 [pw,l7,m9] [my]->
    K [r0,[aS]] [(gj r4 0 32++gj my 0 32)]
   ))
  )/\(
   sA r4 0 32 0 λCd=>
   sA BH 0 32 0 λCe=>
   ay 22 [aS,0,bB]/\
   ∀q8:Int,0<=q8->q8<=b6->q8=bM 22 [aS,0,bB]->
   ay 75 [Cd,Ce,q8]/\
   ∀pw:List Int,ab (ai 0 255 32) pw->S 675 [[Cd],[Ce],[q8]] [pw]->
   ∀my:List Int,ab (ai 0 255 32) my->S 153 [pw,l7,m9] [my]->
   K [r0,[aS]] [(gj r4 0 32++gj my 0 32)]
  ))
 )/\(
  sA r4 0 32 0 λCd=>
  sA BH 0 32 0 λCe=>
  ay 22 [aS,0,bB]/\
  ∀q8:Int,0<=q8->q8<=b6->q8=bM 22 [aS,0,bB]->
  ay 75 [Cd,Ce,q8]/\
  ∀pw:List Int,ab (ai 0 255 32) pw->S 675 [[Cd],[Ce],[q8]] [pw]->
  ∀my:List Int,ab (ai 0 255 32) my->S 153 [pw,l7,m9] [my]->
  K [r0,[aS]] [(gj r4 0 32++gj my 0 32)]
 ))
 )
def aeE (S:Nat->List (List Int)->List (List Int)->Prop) (K:List (List Int)->List (List Int)->Prop):Prop:=
 ∀r0:List Int,ab (ai 0 255 32) r0->∀aS:Int,0<=aS->aS<=b6->∀fB:List Int,ab (ai 0 255 64) fB->
 (ay 75 (gj r0 0 32++[aS]++gj fB 0 64)->
 ∀sT:Int,0<=sT->
 ∀sc:Int,(-1)<=sc->sc<=9223372036854775807->
 ∀mC:Int,0<=mC->mC<=9223372036854775807->mC=bM 20 [aS]->
 ∀oT:Int,0<=oT->oT<=1->S 151 [(gj fB 32 32)] [[oT]]->
 ((((!(decide (oT=1))))=true->
  K [r0,[aS],fB] [[(cond (false) 1 0)]]
 )/\(((!(decide (oT=1))))=false->
  ∀pv:List Int,ab (ai 0 255 32) pv->∀pC:Int,0<=pC->pC<=1->S 112 [r0] [pv,[pC]]->
  ((((!(decide (pC=0))))=true->
   K [r0,[aS],fB] [[(cond (false) 1 0)]]
  )/\(((!(decide (pC=0))))=false->
   ((
    ((
     sA fB 0 32 0 λwe=>
     sA r0 0 32 0 λCc=>
     ay 22 [aS,0,mC]/\
     ∀z198:Int,0<=z198->z198<=b6->z198=bM 22 [aS,0,mC]->
     ay 75 [we,Cc,z198]/\
     ∀oM:List Int,ab (ai 0 255 32) oM->S 675 [[we],[Cc],[z198]] [oM]->
     ((
      ∀n7:List Int,ab (ai 0 255 32) n7->∀kt:Int,0<=kt->kt<=1->S 115 [oM,pv,(gj fB 32 32)] [n7,[kt]]->
      (((decide (kt=0))=true->
       K [r0,[aS],fB] [[(cond (decide (n7=(gj fB 0 32))) 1 0)]]
      )/\((decide (kt=0))=false->
       K [r0,[aS],fB] [[(cond (false) 1 0)]]
      ))
     )/\(
      ∀n7:List Int,ab (ai 0 255 32) n7->∀kt:Int,0<=kt->kt<=1->S 115 [oM,pv,(gj fB 32 32)] [n7,[kt]]->
      (((decide (kt=0))=true->
       K [r0,[aS],fB] [[(cond (decide (n7=(gj fB 0 32))) 1 0)]]
      )/\((decide (kt=0))=false->
       K [r0,[aS],fB] [[(cond (false) 1 0)]]
      ))
     ))
    )/\(
     sA fB 0 32 0 λwe=>
     sA r0 0 32 0 λCc=>
     ay 22 [aS,0,mC]/\
     ∀z198:Int,0<=z198->z198<=b6->z198=bM 22 [aS,0,mC]->
     ay 75 [we,Cc,z198]/\
     ∀oM:List Int,ab (ai 0 255 32) oM->S 675 [[we],[Cc],[z198]] [oM]->
     ∀n7:List Int,ab (ai 0 255 32) n7->∀kt:Int,0<=kt->kt<=1->S 115 [oM,pv,(gj fB 32 32)] [n7,[kt]]->
     (((decide (kt=0))=true->
      K [r0,[aS],fB] [[(cond (decide (n7=(gj fB 0 32))) 1 0)]]
     )/\((decide (kt=0))=false->
      K [r0,[aS],fB] [[(cond (false) 1 0)]]
     ))
    ))
   )/\(
    sA fB 0 32 0 λwe=>
    sA r0 0 32 0 λCc=>
    ay 22 [aS,0,mC]/\
    ∀z198:Int,0<=z198->z198<=b6->z198=bM 22 [aS,0,mC]->
    ay 75 [we,Cc,z198]/\
    ∀oM:List Int,ab (ai 0 255 32) oM->S 675 [[we],[Cc],[z198]] [oM]->
    ∀n7:List Int,ab (ai 0 255 32) n7->∀kt:Int,0<=kt->kt<=1->S 115 [oM,pv,(gj fB 32 32)] [n7,[kt]]->
    (((decide (kt=0))=true->
     K [r0,[aS],fB] [[(cond (decide (n7=(gj fB 0 32))) 1 0)]]
    )/\((decide (kt=0))=false->
     K [r0,[aS],fB] [[(cond (false) 1 0)]]
    ))
   ))
  ))
 ))
 )
theorem J4:∀{n:Nat} {l:List Int},ab (ai 0 255 n) l->∀x∈l,0<=x/\x<=255
 |0,[],_,x,hx=>by cases hx
 |0,_::_,h,_,_=>by simp[ai,ab]at h
 |n+1,[],h,_,_=>by simp[ai,ab]at h
 |n+1,y::r,h,x,hx=>by
  have h:0<=y/\y<=255/\ab (ai 0 255 n) r:=by simpa [ai,ab]using h
  rcases List.mem_cons.1 hx with rfl|hx
  ·exact⟨h.1,h.2.1⟩
  ·exact J4 h.2.2 x hx
theorem aaI {r:List Int} (h:ab (ai 0 255 32) r):ab (ai 0 255 32++[]) [r].flatten:=by simpa using h
theorem ayo {r:List Int} (h:ab (ai 0 255 64) r):ab (ai 0 255 64++[]) [r].flatten:=by simpa using h
theorem pu {c y x:Int} (h:y=bM 23 [c,x]):ao y=ao c++[[x]]:=by rw[h];simp only[bM,kS]
theorem Eu {r:List Int} {k:Int->Prop}:∀(n o:Nat) (c:Int),o+n<=r.length->(∀z,ao z=ao c++((r.drop o).take n).map (λx=>[x])->k z)->sA r o n c k
 |0,o,c,_,h=>h c (by simp)
 |n+1,o,c,hl,h=>λz _ _ hz=>Eu n (o+1) z (by omega) λy hy=>h y (by
  have aA:o<r.length:=by omega
  rw[hy,pu hz,mF,apD aA,nL];simp[U,aA])
theorem agV {r:List Int} {z:Int} (h:ao z=r.map λx=>[x]):bT z=r:=by unfold bT;rw[h,pD];exact Pl r
theorem KD {r:List Int} {z:Int} {o:Nat} (hl:r.length=o+32) (h:ao z=ao 0++((r.drop o).take 32).map λx=>[x]):bT z=r.drop o/\(ao z).length=32:=by
 have e:(r.drop o).take 32=r.drop o:=uK (by rw[oZ];omega);rw[e,oa,gq]at h;exact⟨agV h,by rw[h,pG,oZ];omega⟩
theorem aDa {r:List Int} {z:Int} (hl:32<=r.length) (h:ao z=ao 0++((r.drop 0).take 32).map λx=>[x]):bT z=r.take 32/\(ao z).length=32:=by
 rw[pJ,oa,gq]at h;exact⟨agV h,by rw[h,pG,sf];omega⟩
theorem EO {r:List Int} (hl:32<=r.length):gj r 0 32=r.take 32:=by
 unfold gj;apply Ps
 ·simp;omega
 ·intro i h1 h2;simp at h1;simp[U,show i<r.length by omega]
theorem auA {r:List Int} (hl:r.length=64):gj r 0 64=r:=by
 unfold gj;apply Ps
 ·simp;omega
 ·intro i h1 h2;simp at h1;simp[U,show i<r.length by omega]
theorem aij {r:List Int} (hl:r.length=64):gj r 32 32=r.drop 32:=by
 unfold gj;apply Ps
 ·simp;omega
 ·intro i h1 h2;simp at h1;simp[U,show 32+i<r.length by omega]
theorem P4 {l:List Int} {n:Nat} (h:ab (ai 0 255 n) l):∀z∈l,(ao z).length<=100000000:=λz hz=>by
 have Ij:∀n:Nat,n<256->(ao (n:Int)).length<=100:=by decide+kernel
 have hb:=J4 h z hz;obtain⟨k,rfl⟩:∃k:Nat,z=(k:Int):=⟨z.toNat,by omega⟩;have:=Ij k (by omega);omega
theorem aC9 {l g:List Int} {z:Int} (h:∀x∈l++[z]++g,(ao x).length<=100000000):(ao z).length<=100000000:=h z (by simp)
theorem dup {p:Prop} (h:p):p/\p:=⟨h,h⟩
theorem RJ {g:List Int} (h:ab (ai 0 255 64) g):ab (ai 0 255 32) (g.take 32)/\ab (ai 0 255 32) (g.drop 32):=by
 have bm:ab (ai 0 255 32++ai 0 255 32) g:=h;exact Bm bm
theorem ax0 {a b:List Int} (ha:ab (ai 0 255 32) a) (hb:ab (ai 0 255 32) b):ab (ai 0 255 64) (a++b):=by
 have:=zT 64 (a++b) (by rw[gY,dR ha,dR hb];rfl) λx hx=>?_
 ·exact this
 ·rcases List.mem_append.1 hx with h|h
  ·exact J4 ha x h
  ·exact J4 hb x h
theorem aBI:aeK SB (hM SB [.d c7] 674):=by
 intro z0 _ _ aF _ _ hp z2 _ z3 _ _ z4 w3 _ h4 z5 _ bC _ _ aX HF _ h7;have hp:∀z∈([z0,aF]:List Int),(ao z).length<=100000000:=hp;have h4:z4=((ao z0).length:Int):=h4;have h7:aX=((ao aF).length:Int):=h7;refine⟨⟨di _,w3,by rw[h4];exact di _⟩,λaK _ _ fq=>?_⟩;have fq:=lA fq h4;refine⟨⟨di _,HF,by rw[h7];exact di _⟩,λz9 _ _ ef=>?_⟩;have ef:=lA ef h7;refine⟨λz hz=>?_,λcd i10 s1 kb i74 s2=>⟨aaI i74,?_⟩⟩
 ·simp only[oW,y9,or_false]at hz;rcases hz with rfl|rfl
  ·rw[fq];exact hp z0 (by simp)
  ·rw[ef];exact hp aF (by simp)
 have s1:[cd]=[r7 cT (bT aK++(bT z9))]:=s1;have s1:cd=r7 cT (bT aK++(bT z9)):=by simpa using s1
 have s2:cR kb=cR cd% (Go.Fd.jx:Int):=s2;show cR kb=vg (bT z0++(bT aF));rw[s2,s1,uV fq,uV ef];rfl
theorem aBJ:aeL SB (hM SB [.d c7] 675):=by
 intro z0 _ _ aF _ _ z2 _ _ hp z3 _ z4 _ _ z5 yE _ h5 bC _ aX _ _ aK Dh _ fq z9 _ a8 _ _ aL Df _ qH;have hp:∀z∈([z0,aF,z2]:List Int),(ao z).length<=100000000:=hp;have h5:z5=((ao z0).length:Int):=h5;have fq:aK=((ao aF).length:Int):=fq;have qH:aL=((ao z2).length:Int):=qH;refine⟨⟨di _,yE,by rw[h5];exact di _⟩,λz12 _ _ jV=>?_⟩;have jV:=lA jV h5;refine⟨⟨di _,Dh,by rw[fq];exact di _⟩,λaq _ _ la=>?_⟩;have la:=lA la fq;refine⟨⟨di _,Df,by rw[qH];exact di _⟩,λax _ _ lb=>?_⟩;have lb:=lA lb qH;refine⟨λz hz=>?_,λdG i15 s1 q4 i79 s2=>⟨aaI i79,?_⟩⟩
 ·simp only[oW,y9,or_false]at hz;rcases hz with rfl|rfl|rfl
  ·rw[jV];exact hp z0 (by simp)
  ·rw[la];exact hp aF (by simp)
  ·rw[lb];exact hp z2 (by simp)
 have s1:[dG]=[r7 cT (bT z12++(bT aq++(bT ax)))]:=s1;have s1:dG=r7 cT (bT z12++(bT aq++(bT ax))):=by simpa using s1
 have s2:cR q4=cR dG% (Go.Fd.jx:Int):=s2;show cR q4=vg (bT z0++(bT aF++(bT z2)));rw[s2,s1,uV jV,uV la,uV lb];rfl
theorem aBq:aeC SB (hM SB [.d c7] 680):=by
 intro r0 i0;have tt:r0.length=32:=dR i0;refine Eu 32 0 0 (by omega) λdr auT=>?_;obtain⟨bg,b3⟩:=KD (o:=0) tt auT;refine⟨by show(ao dr).length<=1000000000;omega,λka i64 s1 KK i128 s2 KL axA bn=>⟨aaI axA,?_⟩⟩;have aa6:ka.length=64:=dR i64;have s1:[ka]=[r7 cT (bT dr)]:=s1;have s1:ka=qt r0:=by rw[bg,pJ]at s1;simpa [qt]using s1
 have s2:KK=Mp (gj ka 0 32):=s2;rw[EO (by omega),s1]at s2;have bn:cR KL=Go.Fd.enc (Go.Fd.er (cR KK).toNat Go.Fd.ln):=bn;show cR KL=Br r0;rw[bn,s2];rfl
theorem aBr:aeD SB (hM SB [.d jb] 681):=by
 intro r0 i0 aS _ _ hp bL _ bY _ _ bB Dg _ p3;have hp:∀x∈gj r0 0 32++[aS],(ao x).length<=100000000:=hp;have hz:=hp aS (by simp);have p3:bB=((ao aS).length:Int):=p3;have tt:r0.length=32:=dR i0;refine Eu 32 0 0 (by omega) λeu auU=>?_;obtain⟨bg,b3⟩:=KD (o:=0) tt auU;refine⟨by show(ao eu).length<=1000000000;omega,λnF i68 s1 l7 i132 s2=>?_⟩;have SF:nF.length=64:=dR i68;have s1:[nF]=[r7 cT (bT eu)]:=s1;have s1:nF=qt r0:=by rw[bg,pJ]at s1;simpa [qt]using s1
 have s2:l7=Mp (gj nF 0 32):=s2;rw[EO (by omega),s1]at s2;have s2:l7=Ih r0:=s2;refine Eu 32 32 0 (by omega) λAw auP=>?_;obtain⟨cy,et⟩:=KD (o:=32) SF auP;refine⟨⟨di _,Dg,by rw[p3];exact di _⟩,λz196 _ _ Q0=>?_⟩;have Q0:=lA Q0 p3;refine⟨λz km=>?_,λm9 RF bn r4 ajX cz BH ajY dO=>?_⟩
 ·simp only[oW,y9,or_false]at km;rcases km with rfl|rfl
  ·omega
  ·rw[Q0];exact hz
 have bn:cR m9=vg (bT Aw++(bT z196)):=bn;rw[cy,uV Q0,s1]at bn;have bn:cR m9=OQ r0 (bT aS):=bn;have cz:cR r4=Go.Fd.enc (Go.Fd.er (cR m9).toNat Go.Fd.ln):=cz;have dO:cR BH=Go.Fd.enc (Go.Fd.er (cR l7).toNat Go.Fd.ln):=dO;rw[bn]at cz;rw[s2]at dO;have aaM:r4.length=32:=dR ajX;have ayv:BH.length=32:=dR ajY;have fin:∀pw:List Int,cR pw=vg (r4++(BH++bT aS))->∀my:List Int,ab (ai 0 255 32) my->SB 153 [pw,l7,m9] [my]->hM SB [.d jb] 681 [r0,[aS]] [gj r4 0 32++gj my 0 32]:=λpw ec my ajZ eK=>by
  have aNE:my.length=32:=dR ajZ;rw[EO (by omega),EO (by omega),uK (by omega),uK (by omega)];have eK:cR my=(cR pw*cR l7+cR m9)% (Go.Fd.jx:Int):=eK;refine⟨ayo (ax0 ajX ajZ),?_⟩;show DJ r0 (bT aS) (r4++my);have az:(r4++my).take 32=r4:=adZ aaM;have aI:(r4++my).drop 32=my:=List.drop_left' aaM;unfold DJ;rw[az,aI];refine⟨cz,BH,ajY,dO,?_⟩;rw[eK,ec,s2,bn]
 refine⟨⟨?_,?_⟩,?_⟩
 all_goals
  refine Eu 32 0 0 (by omega) λCd auR=>Eu 32 0 0 (by omega) λCe auS=>?_;obtain⟨j8,n6⟩:=KD (o:=0) aaM auR;obtain⟨oJ,oK⟩:=KD (o:=0) ayv auS;rw[pJ]at j8 oJ;refine⟨⟨di _,Dg,by rw[p3];exact di _⟩,λq8 _ _ Q5=>?_⟩;have Q5:=lA Q5 p3;refine⟨λz km=>?_,λpw aNl ec=>?_⟩
  ·simp only[oW,y9,or_false]at km;rcases km with rfl|rfl|rfl
   ·omega
   ·omega
   ·rw[Q5];exact hz
  have ec:cR pw=vg (bT Cd++(bT Ce++bT q8)):=ec;rw[j8,oJ,uV Q5]at ec
  first
   |exact dup (fin pw ec)
   |exact fin pw ec
theorem aBs:aeE SB (hM SB [.d .bool] 682):=by
 intro r0 i0 aS _ _ fB i33 hp sT _ sc _ _ mC ayx _ Q7 oT _ _ s1;have hp:∀x∈gj r0 0 32++[aS]++gj fB 0 64,(ao x).length<=100000000:=hp;have hz:=aC9 hp;have Q7:mC=((ao aS).length:Int):=Q7;have tt:r0.length=32:=dR i0;have HE:fB.length=64:=dR i33;have s1:oT=if cR (gj fB 32 32)<(Go.Fd.jx:Int)then 1 else 0:=s1
 rw[aij HE]at s1;have aky:∀b:Bool,(b=true↔JX r0 (bT aS) fB)->hM SB [.d .bool] 682 [r0,[aS],fB] [[cond b 1 0]]:=λb hb=>by
  refine⟨by cases b<;>exact⟨by decide,by decide,trivial⟩,?_⟩;show cond b (1:Int) 0=1↔JX r0 (bT aS) fB;rw[<-hb];cases b<;>simp
 have no:¬JX r0 (bT aS) fB->hM SB [.d .bool] 682 [r0,[aS],fB] [[cond false 1 0]]:=λh=>aky false ⟨λh=>(by cases h),λh2=>absurd h2 h⟩;refine⟨λh=>no λag=>?_,λh=>?_⟩
 ·rw[if_pos ag.1]at s1;rw[s1]at h;cases h
 have hlt:cR (fB.drop 32)<(Go.Fd.jx:Int):=by
  by_cases hc:cR (fB.drop 32)<(Go.Fd.jx:Int)
  ·exact hc
  ·rw[if_neg hc]at s1;rw[s1]at h;cases h
 intro pv i101 pC _ _ s2;have s2:Go.Fd.rk pv pC ((Go.Fd.dec (cR r0)).map Go.Fd.rY):=s2;refine⟨λh=>no λag=>?_,λh=>?_⟩
 ·obtain⟨_,A,aO,_⟩:=ag;rw[aO]at s2;have:pC=0:=s2.1;rw[this]at h;cases h
 cases hd:Go.Fd.dec (cR r0)with
 |none=>
  rw[hd]at s2;have:pC=1:=s2.1;rw[this]at h;cases h
 |some A=>
 rw[hd]at s2;have s2:pC=0/\cR pv=Go.Fd.enc (Go.Fd.rY A):=s2;have aO:Go.Fd.on A:=Go.Fd.Je hd;have fin:∀oM:List Int,cR oM=vg (fB.take 32++(r0++bT aS))->∀n7:List Int,ab (ai 0 255 32) n7->∀kt:Int,0<=kt->kt<=1->SB 115 [oM,pv,gj fB 32 32] [n7,[kt]]->
  ((decide (kt=0))=true->hM SB [.d .bool] 682 [r0,[aS],fB] [[cond (decide (n7=gj fB 0 32)) 1 0]])/\((decide (kt=0))=false->hM SB [.d .bool] 682 [r0,[aS],fB] [[cond false 1 0]]):=λoM bn n7 axJ kt _ _ cz=>by
  rw[aij HE]at cz;rw[EO (by omega)];have cz:Go.Fd.rk n7 kt ((Go.Fd.dec (cR pv)).map λA=>Go.Fd.fU (Go.Fd.er (cR oM).toNat A) (Go.Fd.er (cR (fB.drop 32)).toNat Go.Fd.ln)):=cz;have zH:Go.Fd.dec (cR pv)=some (Go.Fd.rY A):=Go.Fd.XJ (Go.Fd.Fk aO) s2.2;rw[zH]at cz;have cz:kt=0/\cR n7=Go.Fd.enc (Go.Fd.fU (Go.Fd.er (cR oM).toNat (Go.Fd.rY A)) (Go.Fd.er (cR (fB.drop 32)).toNat Go.Fd.ln)):=cz;refine⟨λ_=>aky _ ?_,λh=>absurd cz.1 (of_decide_eq_false h)⟩;rw[decide_eq_true_eq];constructor
  ·intro e;refine⟨hlt,A,hd,?_⟩;rw[<-e,cz.2,bn];rw[e]
  ·rintro⟨_,B,ea,e⟩
   rw[hd]at ea;have ea:A=B:=jC ea;subst ea;refine Go.Fd.w6 axJ (RJ i33).1 ?_;show cR n7=cR (fB.take 32);rw[cz.2,bn,e]
 refine⟨⟨?_,?_⟩,?_⟩
 all_goals
  refine Eu 32 0 0 (by omega) λwe auO=>Eu 32 0 0 (by omega) λCc auQ=>?_;obtain⟨j8,n6⟩:=aDa (by omega) auO;obtain⟨oJ,oK⟩:=KD (o:=0) tt auQ;rw[pJ]at oJ;refine⟨⟨di _,ayx,by rw[Q7];exact di _⟩,λz198 _ _ Q1=>?_⟩;have Q1:=lA Q1 Q7;refine⟨λz km=>?_,λoM aNk bn=>?_⟩
  ·simp only[oW,y9,or_false]at km;rcases km with rfl|rfl|rfl
   ·omega
   ·omega
   ·rw[Q1];exact hz
  have bn:cR oM=vg (bT we++(bT Cc++bT z198)):=bn;rw[j8,oJ,uV Q1]at bn
  first
   |exact dup (fin oM bn)
   |exact fin oM bn
end Go.gg
namespace Go.gg
open Go Go.b9
def aeA (S:Nat->List (List Int)->List (List Int)->Prop) (K:List (List Int)->List (List Int)->Prop):Prop:=
 ((
  uE S oc λr0=>
  ((
   uF S λb8=>
   ((
    r8 S K r0 b8
   )/\(
    r8 S K r0 b8
   ))
  )/\(
   ((
    ((
     uF S λb8=>
     r8 S K r0 b8
    )/\(
     uF S λb8=>
     r8 S K r0 b8
    ))
   )/\(
    ((
     uF S λb8=>
     r8 S K r0 b8
    )/\(
     uF S λb8=>
     r8 S K r0 b8
    ))
   ))
  ))
 )/\(
  ((
   ((
    uE S oc λr0=>
    ((
     uF S λb8=>
     r8 S K r0 b8
    )/\(
     uF S λb8=>
     r8 S K r0 b8
    ))
   )/\(
    uE S oc λr0=>
    uF S λb8=>
    r8 S K r0 b8
   ))
  )/\(
   ((
    uE S oc λr0=>
    ((
     uF S λb8=>
     r8 S K r0 b8
    )/\(
     uF S λb8=>
     r8 S K r0 b8
    ))
   )/\(
    uE S oc λr0=>
    uF S λb8=>
    r8 S K r0 b8
   ))
  ))
 ))
theorem art (p:ja) (b:List Int):∀x∈wA p b,0<=x/\x<=255:=λx hx=>by
 unfold wA Fp at hx;obtain⟨y,_,hx⟩:=List.mem_flatMap.1 hx;obtain⟨q,_,rfl⟩:=List.mem_map.1 hx;unfold yg;omega
theorem azj {l:List Int} {n:Nat} (h:ab (ai 0 255 n) l):0<=cR l:=num_nonneg (by decide) (di _) h
theorem aFc (b:List Int):ab (ai 0 255 64) (r7 cT b):=zT 64 _ (by unfold r7;rw[P3];rfl) (art cT _)
theorem aE6 (s:List Int):ab (ai 0 255 32) (Ih s):=by
 have h:=(RJ (aFc s)).1;have hl:=dR h;rw[H3]at hl;refine zT 32 _ ?_ λx hx=>?_
 ·show(((qt s).take 32).getD 0 0/8*8::((((qt s).take 32).drop 1).take 30++[((qt s).take 32).getD 31 0% 64+64])).length=32;have hl:((qt s).take 32).length=32:=hl;simp only[ke,gY,sf,oZ,qo]at hl⊢;omega
 ·have hx:x∈((qt s).take 32).getD 0 0/8*8::((((qt s).take 32).drop 1).take 30++[((qt s).take 32).getD 31 0% 64+64]):=hx;have g:∀j,j<32->0<=((qt s).take 32).getD j 0/\((qt s).take 32).getD j 0<=255:=λj aM=>by
   have aM:j<((qt s).take 32).length:=by show j<((r7 cT s).take 32).length;omega
   have e:((qt s).take 32).getD j 0=((qt s).take 32)[j]:=by rw[xP,pF aM];rfl
   rw[e];exact J4 h _ (List.getElem_mem aM)
  rcases List.mem_cons.1 hx with rfl|hx
  ·have:=g 0 (by decide);omega
  ·rcases List.mem_append.1 hx with hx|hx
   ·exact J4 h x (List.mem_of_mem_drop (List.mem_of_mem_take hx))
   ·rw[List.mem_singleton.1 hx];omega
theorem ard {X Y:Int×Int} (cg:Go.Fd.on X) (hY:Go.Fd.on Y):Go.Fd.fU (Go.Fd.rY X) (Go.Fd.fU X Y)=Y:=by
 rw[<-Go.Fd.afF (Go.Fd.Fk cg) cg hY,Go.Fd.afG (Go.Fd.rY X) X,Go.Fd.arf cg];exact Go.Fd.ao5 hY
theorem sign_holds {s m g k:List Int} (gn:ab (ai 0 255 32) k) (af:cR k=Br s) (h:DJ s m g):JX k m g:=by
 obtain⟨h1,A,Z5,aO,h2⟩:=h;have e:A=k:=Go.Fd.w6 Z5 gn (aO.trans af.symm);subst e;have dM:(0:Int)<(Go.Fd.jx:Int):=by decide
 refine⟨by rw[h2];exact wg _ dM,_,Go.Fd.XJ (Go.Fd.jf Go.Fd.mr _) af,?_⟩;have a6:0<=vg (g.take 32++(A++m)):=sV _ (by decide);have gd:0<=OQ s m:=sV _ (by decide);have ur:0<=cR (Ih s):=azj (aE6 s);obtain⟨nB,ats⟩:=oY a6;obtain⟨r,pZ⟩:=oY gd;obtain⟨a,MF⟩:=oY ur;rw[h1,h2,ats,pZ,MF,qm,qm,qm];have cn:(((nB:Int)*(a:Int)+(r:Int))% (Go.Fd.jx:Int)).toNat=(a*nB+r)% Go.Fd.jx:=by
  have:((nB:Int)*(a:Int)+(r:Int))% (Go.Fd.jx:Int)=(((a*nB+r)% Go.Fd.jx:Nat):Int):=by
   rw[Uo,Int.natCast_add,Int.natCast_mul,lB]
  rw[this,qm]
 rw[cn,Go.Fd.arM,Go.Fd.alC (Go.Fd.jf Go.Fd.mr _),Go.Fd.Ob Go.Fd.mr,Go.Fd.Oa Go.Fd.mr];rw[ard (Go.Fd.jf Go.Fd.mr _) (Go.Fd.jf Go.Fd.mr _)]
def x8:List Int:=[215,90,152,1,130,177,10,183,213,75,254,211,201,100,7,58,14,225,114,243,218,166,35,37,175,2,26,104,247,7,81,26]
def L6:List Int:=[229,86,67,0,195,96,172,114,144,134,226,204,128,110,130,138,132,135,127,30,184,229,217,116,216,115,224,101,34,73,1,85]
def WS:List Int:=[95,184,130,21,144,163,59,172,198,30,57,112,28,249,180,107,210,91,245,240,89,91,190,36,101,81,65,67,142,122,16,11]
def Ei:List Int:=[229,86,67,0,195,96,172,114,144,134,226,204,128,110,130,138,132,135,127,30,184,229,217,116,216,115,224,101,34,73,1,85,95,184,130,21,144,163,59,172,198,30,57,112,28,249,180,107,210,91,245,240,89,91,190,36,101,81,65,67,142,122,16,11]
theorem WT:cR (Ih oc)=36144925721603087658594284515452164870581325872720374094707712194495455132720:=by decide+kernel
theorem PY:OQ oc []=2015312323900227545039973048451112962192803170366412514267238242679089760755:=by decide+kernel
theorem afM:vg (L6++(x8++[]))=1958233733501237659471134851339390337284068724042047466985993338226439154310:=by decide+kernel
theorem amw {p:Int×Int×Int} {A B:Int×Int} (aO:Go.Fd.on A) (ea:Go.Fd.on B) (h:Go.Fd.Cr p A) (hx:p.1% 57896044618658097711785492504343953926634992332820282019728792003956564819949=B.1*p.2.2% 57896044618658097711785492504343953926634992332820282019728792003956564819949) (hy:p.2.1% 57896044618658097711785492504343953926634992332820282019728792003956564819949=B.2*p.2.2% 57896044618658097711785492504343953926634992332820282019728792003956564819949):A=B:=by
 obtain⟨n,h1,h2⟩:=h;refine Go.Fd.Te aO ea ?_ ?_
 ·have:=Go.Fd.sz.1 (h1.symm.trans hx);rw[lB A.1,lB B.1]at this;exact Go.Fd.sg.cancel (mt Go.Fd.sB.2 n) this
 ·have:=Go.Fd.sz.1 (h2.symm.trans hy);rw[lB A.2,lB B.2]at this;exact Go.Fd.sg.cancel (mt Go.Fd.sB.2 n) this
def afI:Int×Int:=(38815646466658113194383306759739515082307681141926459231621296960732224964046,11903303657706407974989296177215005343713679411332034699907763981919547054807)
def afJ:Int×Int:=(44370630452101398467924320556439323233869374150616132215183787387252341590058,38448863731492799660668882834560725606410712239157980760146247592118262650597)
theorem ark:Go.Fd.on afI:=by unfold Go.Fd.on afI;decide+kernel
theorem arl:Go.Fd.on afJ:=by unfold Go.Fd.on afJ;decide+kernel
theorem arn:Go.Fd.enc (Go.Fd.er 36144925721603087658594284515452164870581325872720374094707712194495455132720 Go.Fd.ln)=cR x8:=by
 rw[amw (Go.Fd.jf Go.Fd.mr _) ark (Go.Fd.SM Go.Fd.mr Go.Fd.S1 256 36144925721603087658594284515452164870581325872720374094707712194495455132720 (by decide)) (by decide+kernel) (by decide+kernel)];decide+kernel
theorem afK:Go.Fd.enc (Go.Fd.er 2015312323900227545039973048451112962192803170366412514267238242679089760755 Go.Fd.ln)=cR L6:=by
 rw[amw (Go.Fd.jf Go.Fd.mr _) arl (Go.Fd.SM Go.Fd.mr Go.Fd.S1 256 2015312323900227545039973048451112962192803170366412514267238242679089760755 (by decide)) (by decide+kernel) (by decide+kernel)];decide+kernel
theorem Gn:ab (ai 0 255 32) x8/\ab (ai 0 255 32) L6/\ab (ai 0 255 32) WS:=by
 refine⟨?_,?_,?_⟩<;>exact zT 32 _ rfl (by decide)
theorem PX:Br oc=cR x8:=by
 show Go.Fd.enc (Go.Fd.er (cR (Ih oc)).toNat Go.Fd.ln)=_;rw[WT];exact arn
theorem aro {r g:List Int} (NV:ab (ai 0 255 32) r) (aH:SB 680 [oc] [r]) (pn:ab (ai 0 255 64) g) (s1:SB 681 [oc,[0]] [g]):r=x8/\g=Ei:=by
 have aH:cR r=Br oc:=aH;have s1:DJ oc (bT 0) g:=s1;have hr:r=x8:=Go.Fd.w6 NV Gn.1 (aH.trans PX);refine⟨hr,?_⟩;rw[show bT 0=[] by unfold bT;rw[oa];rfl]at s1;obtain⟨h1,A,Z5,aO,h2⟩:=s1;have QK:A=x8:=Go.Fd.w6 Z5 Gn.1 (aO.trans PX);subst QK;have ahE:g.take 32=L6:=Go.Fd.w6 (RJ pn).1 Gn.2.1 (h1.trans (by rw[PY];exact afK));rw[ahE,afM,WT,PY]at h2;have atf:g.drop 32=WS:=Go.Fd.w6 (RJ pn).2 Gn.2.2 (h2.trans (by decide+kernel));rw[<-List.take_append_drop 32 g,ahE,atf];rfl
theorem ars:DJ oc [] Ei:=by
 refine⟨?_,x8,Gn.1,PX.symm,?_⟩
 ·rw[PY];exact afK.symm
 ·rw[show Ei.take 32=L6 by rfl,show Ei.drop 32=WS by rfl,afM,WT,PY];decide+kernel
theorem asF {k g:List Int} {z:Int} (gn:ab (ai 0 255 32) k) (pn:ab (ai 0 255 64) g) (hz:(ao z).length<=100000000):∀x∈gj k 0 32++[z]++gj g 0 64,(ao x).length<=100000000:=λx hx=>by
 rw[EO (by rw[dR gn];decide),uK (by rw[dR gn];decide),auA (dR pn)]at hx;rcases List.mem_append.1 hx with hx|hx
 ·rcases List.mem_append.1 hx with hx|hx
  ·exact P4 gn x hx
  ·rw[List.mem_singleton.1 hx];exact hz
 ·exact P4 pn x hx
theorem asE {k:List Int} {z:Int} (gn:ab (ai 0 255 32) k) (hz:(ao z).length<=100000000):∀x∈gj k 0 32++[z],(ao x).length<=100000000:=λx hx=>by
 rw[EO (by rw[dR gn];decide),uK (by rw[dR gn];decide)]at hx;rcases List.mem_append.1 hx with hx|hx
 ·exact P4 gn x hx
 ·rw[List.mem_singleton.1 hx];exact hz
theorem ao2:(ao 0).length<=100000000:=by rw[oa];decide
theorem afL:ay 75 (oc++[0]):=λx hx=>by
 rcases List.mem_append.1 hx with hx|hx
 ·exact P4 (zT 32 oc rfl (by decide)) x hx
 ·rw[List.mem_singleton.1 hx];exact ao2
theorem arp:ay 75 (gj x8 0 32++[0]++gj Ei 0 64):=asF Gn.1 (zT 64 _ rfl (by decide)) ao2
theorem arq {z:Int} (s:SB 682 [x8,[0],Ei] [[z]]):hM SB [.d .bool] 683 [] [[cond (decide (z=1)) 1 0]]:=by
 have s:z=1↔JX x8 (bT 0) Ei:=s;have h:z=1:=s.2 (by
  rw[show bT 0=[] by unfold bT;rw[oa];rfl];exact sign_holds Gn.1 PX.symm ars)
 rw[decide_eq_true h];exact⟨⟨by decide,by decide,trivial⟩,(rfl:(1:Int)=1)⟩
theorem aBo:aeA SB (hM SB [.d .bool] 683):=by
 have aO:r8 SB (hM SB [.d .bool] 683) x8 Ei:=Ik rfl (Ik rfl (Ik rfl (Ik rfl (Ik rfl (Ik rfl (Ik rfl ⟨arp,λz _ _ s=>arq s⟩))))));have m:∀k,ab (ai 0 255 32) k->SB 680 [oc] [k]->∀g,ab (ai 0 255 64) g->SB 681 [oc,[0]] [g]->r8 SB (hM SB [.d .bool] 683) k g:=λk gn xG g pn DH=>by
  obtain⟨rfl,rfl⟩:=aro gn xG pn DH;exact aO
 have a:∀k,ab (ai 0 255 32) k->SB 680 [oc] [k]->uF SB λg=>r8 SB (hM SB [.d .bool] 683) k g:=λk gn xG=>⟨afL,m k gn xG⟩;have b:uE SB oc λk=>(uF SB λg=>r8 SB (hM SB [.d .bool] 683) k g)/\(uF SB λg=>r8 SB (hM SB [.d .bool] 683) k g):=λk gn xG=>⟨a k gn xG,a k gn xG⟩;have c:uE SB oc λk=>uF SB λg=>r8 SB (hM SB [.d .bool] 683) k g:=a;exact⟨λk gn xG=>⟨⟨afL,λg pn DH=>⟨m k gn xG g pn DH,m k gn xG g pn DH⟩⟩,⟨⟨a k gn xG,a k gn xG⟩,⟨a k gn xG,a k gn xG⟩⟩⟩,⟨⟨b,c⟩,⟨b,c⟩⟩⟩
end Go.gg
namespace Go.gg
open Go Go.b9
def aez (S:Nat->List (List Int)->List (List Int)->Prop) (K:List (List Int)->List (List Int)->Prop):Prop:=
 ∀r0:List Int,ab (ai 0 255 32) r0->
 ∀b8:List Int,ab (ai 0 18446744073709551615 4) b8->S 693 [r0] [b8]->
 ∀kR:List Int,ab (ai 0 18446744073709551615 4) kR->S 691 [] [kR]->
 ∀z40:Int,0<=z40->z40<=1->S 694 [b8,kR] [[z40]]->
 K [r0] [[(cond (decide (z40=1)) 1 0)]]
def aeB (S:Nat->List (List Int)->List (List Int)->Prop) (K:List (List Int)->List (List Int)->Prop):Prop:=
 ∀r0:List Int,ab (ai 0 255 32) r0->∀aS:Int,0<=aS->aS<=b6->
 ∀bL:Int,0<=bL->
 ∀bY:Int,(-1)<=bY->bY<=9223372036854775807->
 ∀bB:Int,0<=bB->bB<=9223372036854775807->bB=bM 20 [aS]->
 ∀bZ:Int,0<=bZ->bZ<=1->S 683 [] [[bZ]]->
 ((((!(decide (bZ=1))))=true->
  K [r0,[aS]] [[(cond (false) 1 0)]]
 )/\(((!(decide (bZ=1))))=false->
  (((decide (2000<bB))=true->
   K [r0,[aS]] [[(cond (true) 1 0)]]
  )/\((decide (2000<bB))=false->
   ((
    uE S r0 λgf=>
    ((
     tD S r0 aS bB λdB=>
     ((
      sQ S K [r0,[aS]] gf dB
     )/\(
      sQ S K [r0,[aS]] gf dB
     ))
    )/\(
     ((
      ((
       tD S r0 aS bB λdB=>
       sQ S K [r0,[aS]] gf dB
      )/\(
       tD S r0 aS bB λdB=>
       sQ S K [r0,[aS]] gf dB
      ))
     )/\(
      ((
       tD S r0 aS bB λdB=>
       sQ S K [r0,[aS]] gf dB
      )/\(
       tD S r0 aS bB λdB=>
       sQ S K [r0,[aS]] gf dB
      ))
     ))
    ))
   )/\(
    ((
     ((
      uE S r0 λgf=>
      ((
       tD S r0 aS bB λdB=>
       sQ S K [r0,[aS]] gf dB
      )/\(
       tD S r0 aS bB λdB=>
       sQ S K [r0,[aS]] gf dB
      ))
     )/\(
      uE S r0 λgf=>
      tD S r0 aS bB λdB=>
      sQ S K [r0,[aS]] gf dB
     ))
    )/\(
     ((
      uE S r0 λgf=>
      ((
       tD S r0 aS bB λdB=>
       sQ S K [r0,[aS]] gf dB
      )/\(
       tD S r0 aS bB λdB=>
       sQ S K [r0,[aS]] gf dB
      ))
     )/\(
      uE S r0 λgf=>
      tD S r0 aS bB λdB=>
      sQ S K [r0,[aS]] gf dB
     ))
    ))
   ))
  ))
 ))
theorem auz {r:List Int} (h:r.length=64):gj r 32 32=r.drop 32:=by
 have e:gj r 32 32=gj (r.drop 32) 0 32:=by
  unfold gj;refine kU λj _=>?_;simp[U,Cj]
 rw[e,EO (by rw[oZ];omega)];exact uK (by rw[oZ];omega)
theorem aBn:aez SB (hM SB [.d .bool] 695):=by
 intro r0 i0 b8 i32 h1 kR i36 h2 z40 fV ca h3;have h1:Go.Fd.ad b8=cR r0:=h1;have h2:Go.Fd.ad kR=(Go.Fd.jx:Int):=h2;have h3:z40=if Go.Fd.ad b8<Go.Fd.ad kR then 1 else 0:=h3
 rw[h1,h2]at h3;refine⟨?_,?_⟩
 ·cases decide (z40=1)<;>exact⟨by decide,by decide,trivial⟩
 ·show(cond (decide (z40=1)) (1:Int) 0)=if cR r0<(Go.Fd.jx:Int)then 1 else 0
  rw[h3];split<;>rfl
theorem ayq {r0 k g:List Int} {P:Int->Prop} (CH:P 1) (gn:ab (ai 0 255 32) k) (af:cR k=Br r0) (pn:ab (ai 0 255 64) g) {m:List Int} (hg:DJ r0 m g) {n l:List Int} (hn:Go.Fd.ad n=(Go.Fd.jx:Int)) (hl:cR l=Go.Fd.ad n):∀r:List Int,ab (ai 0 255 32) r->∀z:Int,SB 692 [l,k] [r,[z]]->
 ((decide (z=0))=true->((decide (r=Kx))=true->∀y:Int,SB 695 [(gj g 32 32)] [[y]]->P (cond (decide (y=1)) 1 0))/\((decide (r=Kx))=false->P (cond (false) 1 0)))/\((decide (z=0))=false->P (cond (false) 1 0)):=λr NV z h=>by
 have h:Go.Fd.rk r z ((Go.Fd.dec (cR k)).map (Go.Fd.er (cR l).toNat)):=h;rw[hl,hn,Go.Fd.XJ (Go.Fd.jf Go.Fd.mr _) af,qm]at h;obtain⟨h1,h2⟩:=h;rw[Go.Fd.Ob Go.Fd.mr,zc,<-Go.Fd.Ob Go.Fd.mr,Go.Fd.agF,Go.Fd.abw,Go.Fd.atu]at h2;have e:r=Kx:=Go.Fd.w6 NV (zT 32 Kx rfl (by decide)) (h2.trans (by decide));have ayK:g.length=64:=dR pn;refine⟨λ_=>⟨λ_ y hy=>?_,λh=>?_⟩,λh=>?_⟩
 ·have hy:y=if cR (gj g 32 32)<(Go.Fd.jx:Int)then 1 else 0:=hy
  obtain⟨_,A,_,_,h3⟩:=hg;rw[auz ayK,h3,if_pos (wg _ (by decide))]at hy;rw[hy];exact CH
 ·rw[decide_eq_true e]at h;cases h
 ·rw[decide_eq_true h1]at h;cases h
theorem aBp:aeB SB (hM SB [.d .bool] 696):=by
 intro r0 i0 aS _ _ bL _ bY _ _ bB Dg _ p3 bZ _ _ aH;have p3:bB=((ao aS).length:Int):=p3;have aH:bZ=1:=aH;have nB:∀b:Bool,b=true->hM SB [.d .bool] 696 [r0,[aS]] [[cond b 1 0]]:=λb h=>by subst h;exact⟨⟨by decide,by decide,trivial⟩,(rfl:(1:Int)=1)⟩
 refine⟨λh=>(by rw[aH]at h;cases h),λ_=>⟨λ_=>nB true rfl,λh=>?_⟩⟩;have h:=of_decide_eq_false h;have dM:∀k,ab (ai 0 255 32) k->cR k=Br r0->∀g,ab (ai 0 255 64) g->(∃m,DJ r0 m g)->sQ SB (hM SB [.d .bool] 696) [r0,[aS]] k g:=λk gn af g pn ⟨m,hg⟩ n _ hn l _ hl r NV z _ _ hz=>
  have t:=ayq (P:=λx=>hM SB [.d .bool] 696 [r0,[aS]] [[x]]) (nB true rfl) gn af pn hg hn hl r NV z hz
  ⟨λa=>⟨λb y _ _ hy=>(t.1 a).1 b y hy,(t.1 a).2⟩,t.2⟩
 have hS:∀p:List Int->Prop,(∀g,ab (ai 0 255 64) g->(∃m,DJ r0 m g)->p g)->tD SB r0 aS bB p:=λp hp=>by
  refine⟨⟨di _,Dg,by rw[p3];exact di _⟩,λek _ _ YH=>?_⟩;have YH:=lA YH p3;exact⟨asE i0 (by rw[YH];omega),λg pn s2=>hp g pn ⟨_,s2⟩⟩
 have CH:∀p:List Int->Prop,(∀k,ab (ai 0 255 32) k->cR k=Br r0->p k)->uE SB r0 p:=λp hp k gn s1=>hp k gn s1;have a:∀k,ab (ai 0 255 32) k->cR k=Br r0->tD SB r0 aS bB λg=>sQ SB (hM SB [.d .bool] 696) [r0,[aS]] k g:=λk gn af=>hS _ λg pn hg=>dM k gn af g pn hg;have b:uE SB r0 λk=>(tD SB r0 aS bB λg=>sQ SB (hM SB [.d .bool] 696) [r0,[aS]] k g)/\(tD SB r0 aS bB λg=>sQ SB (hM SB [.d .bool] 696) [r0,[aS]] k g):=CH _ λk gn af=>⟨a k gn af,a k gn af⟩;have c:uE SB r0 λk=>tD SB r0 aS bB λg=>sQ SB (hM SB [.d .bool] 696) [r0,[aS]] k g:=CH _ a;exact⟨CH _ λk gn af=>⟨hS _ λg pn hg=>⟨dM k gn af g pn hg,dM k gn af g pn hg⟩,⟨⟨a k gn af,a k gn af⟩,⟨a k gn af,a k gn af⟩⟩⟩,⟨⟨b,c⟩,⟨b,c⟩⟩⟩
end Go.gg
set_option maxRecDepth 20000
namespace Go.Fd
open Go.b9
def VJ (S:Nat->List (List Int)->List (List Int)->Prop) (K:List (List Int)->List (List Int)->Prop):Prop:=
 ∀r0:List Int,ab (ai 0 4503599627370495 5) r0->S 34 [[929955233495203,466365720129213,1662059464998953,2033849074728123,1442794654840575],[929955233495203,466365720129213,1662059464998953,2033849074728123,1442794654840575]] [r0]->
 K [] [r0]
theorem aCl (G):VJ (fr G) (eP vf.res 100):=by
 unfold VJ;intro r0 i0 aH;have aH:v5 r0% 57896044618658097711785492504343953926634992332820282019728792003956564819949=(v5 [929955233495203,466365720129213,1662059464998953,2033849074728123,1442794654840575]+v5 [929955233495203,466365720129213,1662059464998953,2033849074728123,1442794654840575])% 57896044618658097711785492504343953926634992332820282019728792003956564819949:=aH.1;refine⟨kY i0,?_⟩;show v5 r0% 57896044618658097711785492504343953926634992332820282019728792003956564819949=2*dv% 57896044618658097711785492504343953926634992332820282019728792003956564819949;rw[aH,alY,<-Int.two_mul]
def U7 (S:Nat->List (List Int)->List (List Int)->Prop) (K:List (List Int)->List (List Int)->Prop):Prop:=
 ∀r0:List Int,ab (ai 0 4503599627370495 5) r0->∀aE:List Int,ab (ai 0 4503599627370495 5) aE->
 ∀cd:List Int,ab (ai 0 4503599627370495 5) cd->S 33 [r0,aE] [cd]->
 K [r0,aE] [r0,aE,[1,0,0,0,0],cd]
theorem aBt (G):U7 (fr G) (eP oD.res 101):=by
 unfold U7;intro r0 i0 aE i5 cd i10 aH;have aH:v5 cd% 57896044618658097711785492504343953926634992332820282019728792003956564819949=v5 r0*v5 aE% 57896044618658097711785492504343953926634992332820282019728792003956564819949:=aH.1;exact⟨Hu i0 i5 ax1 i10,rfl,rfl,by decide,aH⟩
def UZ (S:Nat->List (List Int)->List (List Int)->Prop) (K:List (List Int)->List (List Int)->Prop):Prop:=
 ∀r0:List Int,ab (ai 0 4503599627370495 5) r0->∀aE:List Int,ab (ai 0 4503599627370495 5) aE->∀cd:List Int,ab (ai 0 4503599627370495 5) cd->∀dG:List Int,ab (ai 0 4503599627370495 5) dG->S 101 [[1738742601995546,1146398526822698,2070867633025821,562264141797630,587772402128613],[1801439850948184,1351079888211148,450359962737049,900719925474099,1801439850948198]] [r0,aE,cd,dG]->
 K [] [r0,aE,cd,dG]
theorem aBd (G):UZ (fr G) (eP sH.res 102):=by
 unfold UZ;intro r0 i0 aE i5 cd i10 dG i15 aH;have aH:O1 [[1738742601995546,1146398526822698,2070867633025821,562264141797630,587772402128613],[1801439850948184,1351079888211148,450359962737049,900719925474099,1801439850948198]] [r0,aE,cd,dG]:=aH.1;exact⟨Hu i0 i5 i10 i15,aH.1.trans (by decide),aH.2.1.trans (by decide),aH.2.2.1,aH.2.2.2.trans (by decide)⟩
def U5 (S:Nat->List (List Int)->List (List Int)->Prop) (K:List (List Int)->List (List Int)->Prop):Prop:=
 ∀r0:List Int,ab (ai 0 4503599627370495 5) r0->∀aE:List Int,ab (ai 0 4503599627370495 5) aE->∀cd:List Int,ab (ai 0 4503599627370495 5) cd->∀dG:List Int,ab (ai 0 4503599627370495 5) dG->S 101 [[0,0,0,0,0],[1,0,0,0,0]] [r0,aE,cd,dG]->
 K [] [r0,aE,cd,dG]
theorem aBl (G):U5 (fr G) (eP u7.res 103):=by
 unfold U5;intro r0 i0 aE i5 cd i10 dG i15 aH;have aH:O1 [[0,0,0,0,0],[1,0,0,0,0]] [r0,aE,cd,dG]:=aH.1;exact⟨Hu i0 i5 i10 i15,aH.1.trans (by decide),aH.2.1.trans (by decide),aH.2.2.1,aH.2.2.2.trans (by decide)⟩
def U3 (S:Nat->List (List Int)->List (List Int)->Prop) (K:List (List Int)->List (List Int)->Prop):Prop:=
 ∀r0:List Int,ab (ai 0 4503599627370495 5) r0->∀aE:List Int,ab (ai 0 4503599627370495 5) aE->∀cd:List Int,ab (ai 0 4503599627370495 5) cd->∀dG:List Int,ab (ai 0 4503599627370495 5) dG->
 ∀c8:List Int,ab (ai 0 4503599627370495 5) c8->S 33 [r0,aE] [c8]->
 ∀dc:List Int,ab (ai 0 4503599627370495 5) dc->S 33 [cd,dG] [dc]->
 ∀na:List Int,ab (ai 0 4503599627370495 5) na->S 33 [aE,cd] [na]->
 ∀kn:List Int,ab (ai 0 4503599627370495 5) kn->S 33 [r0,dG] [kn]->
 K [r0,aE,cd,dG] [c8,dc,na,kn]
theorem aBj (G):U3 (fr G) (eP rR.res 104):=by
 unfold U3;intro r0 i0 aE i5 cd i10 dG i15 c8 i20 aH dc i25 s1 na i30 s2 kn i35 bn;have aH:v5 c8% 57896044618658097711785492504343953926634992332820282019728792003956564819949=v5 r0*v5 aE% 57896044618658097711785492504343953926634992332820282019728792003956564819949:=aH.1;have s1:v5 dc% 57896044618658097711785492504343953926634992332820282019728792003956564819949=v5 cd*v5 dG% 57896044618658097711785492504343953926634992332820282019728792003956564819949:=s1.1;have s2:v5 na% 57896044618658097711785492504343953926634992332820282019728792003956564819949=v5 aE*v5 cd% 57896044618658097711785492504343953926634992332820282019728792003956564819949:=s2.1;have bn:v5 kn% 57896044618658097711785492504343953926634992332820282019728792003956564819949=v5 r0*v5 dG% 57896044618658097711785492504343953926634992332820282019728792003956564819949:=bn.1;exact⟨Hu i20 i25 i30 i35,aH,s1,s2,bn⟩
def U4 (S:Nat->List (List Int)->List (List Int)->Prop) (K:List (List Int)->List (List Int)->Prop):Prop:=
 ∀r0:List Int,ab (ai 0 bE 5) r0->∀aE:List Int,ab (ai 0 bE 5) aE->∀cd:List Int,ab (ai 0 bE 5) cd->∀dG:List Int,ab (ai 0 bE 5) dG->∀c8:List Int,ab (ai 0 bE 5) c8->∀dc:List Int,ab (ai 0 bE 5) dc->∀na:List Int,ab (ai 0 bE 5) na->∀kn:List Int,ab (ai 0 bE 5) kn->
 ∀hH:List Int,ab (ai 0 bE 5) hH->S 32 [aE,r0] [hH]->
 ∀qd:List Int,ab (ai 0 bE 5) qd->S 32 [dc,c8] [qd]->
 ∀ly:List Int,ab (ai 0 bE 5) ly->S 33 [hH,qd] [ly]->
 ∀oN:List Int,ab (ai 0 bE 5) oN->S 34 [aE,r0] [oN]->
 ∀lN:List Int,ab (ai 0 bE 5) lN->S 34 [dc,c8] [lN]->
 ∀px:List Int,ab (ai 0 bE 5) px->S 33 [oN,lN] [px]->
 ∀dB:List Int,ab (ai 0 bE 5) dB->S 33 [dG,kn] [dB]->
 ∀q3:List Int,ab (ai 0 bE 5) q3->S 100 [] [q3]->
 ∀qg:List Int,ab (ai 0 bE 5) qg->S 33 [dB,q3] [qg]->
 ∀uw:List Int,ab (ai 0 bE 5) uw->S 33 [cd,na] [uw]->
 ∀FE:List Int,ab (ai 0 bE 5) FE->S 34 [uw,uw] [FE]->
 ∀tx:List Int,ab (ai 0 bE 5) tx->S 32 [px,ly] [tx]->
 ∀KH:List Int,ab (ai 0 bE 5) KH->S 32 [FE,qg] [KH]->
 ∀KI:List Int,ab (ai 0 bE 5) KI->S 34 [FE,qg] [KI]->
 ∀KJ:List Int,ab (ai 0 bE 5) KJ->S 34 [px,ly] [KJ]->
 ∀OK:List Int,ab (ai 0 bE 5) OK->∀OL:List Int,ab (ai 0 bE 5) OL->∀OM:List Int,ab (ai 0 bE 5) OM->∀ON:List Int,ab (ai 0 bE 5) ON->S 104 [tx,KH,KI,KJ] [OK,OL,OM,ON]->
 K [r0,aE,cd,dG,c8,dc,na,kn] [OK,OL,OM,ON]
theorem aBk (G):U4 (fr G) (eP sI.res 105):=by
 simp(maxSteps:=4000000) only[U4,bE];intro r0 i0 aE i5 cd i10 dG i15 c8 i20 dc i25 na i30 kn i35 hH i40 aH qd i45 s1 ly i50 s2 oN i55 bn lN i60 cz px i65 dO dB i70 ec q3 i75 eK qg i80 gy uw i85 gX FE i90 j0 tx i95 oP KH i100 Ia KI i105 Ib KJ i110 Ic OK i115 OL i120 OM i125 ON i130 BJ;have aH:v5 hH% 57896044618658097711785492504343953926634992332820282019728792003956564819949=(v5 aE-v5 r0)% 57896044618658097711785492504343953926634992332820282019728792003956564819949:=aH.1;have s1:v5 qd% 57896044618658097711785492504343953926634992332820282019728792003956564819949=(v5 dc-v5 c8)% 57896044618658097711785492504343953926634992332820282019728792003956564819949:=s1.1;have s2:v5 ly% 57896044618658097711785492504343953926634992332820282019728792003956564819949=v5 hH*v5 qd% 57896044618658097711785492504343953926634992332820282019728792003956564819949:=s2.1;have bn:v5 oN% 57896044618658097711785492504343953926634992332820282019728792003956564819949=(v5 aE+v5 r0)% 57896044618658097711785492504343953926634992332820282019728792003956564819949:=bn.1;have cz:v5 lN% 57896044618658097711785492504343953926634992332820282019728792003956564819949=(v5 dc+v5 c8)% 57896044618658097711785492504343953926634992332820282019728792003956564819949:=cz.1;have dO:v5 px% 57896044618658097711785492504343953926634992332820282019728792003956564819949=v5 oN*v5 lN% 57896044618658097711785492504343953926634992332820282019728792003956564819949:=dO.1;have ec:v5 dB% 57896044618658097711785492504343953926634992332820282019728792003956564819949=v5 dG*v5 kn% 57896044618658097711785492504343953926634992332820282019728792003956564819949:=ec.1;have eK:am5 [] [q3]:=eK.1;have gy:v5 qg% 57896044618658097711785492504343953926634992332820282019728792003956564819949=v5 dB*v5 q3% 57896044618658097711785492504343953926634992332820282019728792003956564819949:=gy.1;have gX:v5 uw% 57896044618658097711785492504343953926634992332820282019728792003956564819949=v5 cd*v5 na% 57896044618658097711785492504343953926634992332820282019728792003956564819949:=gX.1;have j0:v5 FE% 57896044618658097711785492504343953926634992332820282019728792003956564819949=(v5 uw+v5 uw)% 57896044618658097711785492504343953926634992332820282019728792003956564819949:=j0.1;have oP:v5 tx% 57896044618658097711785492504343953926634992332820282019728792003956564819949=(v5 px-v5 ly)% 57896044618658097711785492504343953926634992332820282019728792003956564819949:=oP.1;have Ia:v5 KH% 57896044618658097711785492504343953926634992332820282019728792003956564819949=(v5 FE-v5 qg)% 57896044618658097711785492504343953926634992332820282019728792003956564819949:=Ia.1;have Ib:v5 KI% 57896044618658097711785492504343953926634992332820282019728792003956564819949=(v5 FE+v5 qg)% 57896044618658097711785492504343953926634992332820282019728792003956564819949:=Ib.1;have Ic:v5 KJ% 57896044618658097711785492504343953926634992332820282019728792003956564819949=(v5 px+v5 ly)% 57896044618658097711785492504343953926634992332820282019728792003956564819949:=Ic.1
 have BJ:acP [tx,KH,KI,KJ] [OK,OL,OM,ON]:=BJ.1;refine⟨Hu i115 i120 i125 i130,?_⟩;intro A B aO ea bg b3;exact aEo aO ea bg b3 aH s1 s2 bn cz dO ec eK gy gX j0 oP Ia Ib Ic BJ.1 BJ.2.1 BJ.2.2.1 BJ.2.2.2
def U6 (S:Nat->List (List Int)->List (List Int)->Prop) (K:List (List Int)->List (List Int)->Prop):Prop:=
 ∀r0:List Int,ab (ai 0 bE 5) r0->∀aE:List Int,ab (ai 0 bE 5) aE->∀cd:List Int,ab (ai 0 bE 5) cd->
 ∀dG:List Int,ab (ai 0 bE 5) dG->S 47 [r0] [dG]->
 ∀c8:List Int,ab (ai 0 bE 5) c8->S 47 [aE] [c8]->
 ∀dc:List Int,ab (ai 0 bE 5) dc->S 47 [cd] [dc]->
 ∀na:List Int,ab (ai 0 bE 5) na->S 34 [dc,dc] [na]->
 ∀kn:List Int,ab (ai 0 bE 5) kn->S 34 [dG,c8] [kn]->
 ∀hH:List Int,ab (ai 0 bE 5) hH->S 34 [r0,aE] [hH]->
 ∀qd:List Int,ab (ai 0 bE 5) qd->S 47 [hH] [qd]->
 ∀ly:List Int,ab (ai 0 bE 5) ly->S 32 [kn,qd] [ly]->
 ∀oN:List Int,ab (ai 0 bE 5) oN->S 32 [dG,c8] [oN]->
 ∀lN:List Int,ab (ai 0 bE 5) lN->S 34 [na,oN] [lN]->
 ∀px:List Int,ab (ai 0 bE 5) px->∀dB:List Int,ab (ai 0 bE 5) dB->∀q3:List Int,ab (ai 0 bE 5) q3->∀qg:List Int,ab (ai 0 bE 5) qg->S 104 [ly,lN,oN,kn] [px,dB,q3,qg]->
 K [r0,aE,cd] [px,dB,q3,qg]
theorem aBm (G):U6 (fr G) (eP u9.res 106):=by
 simp(maxSteps:=4000000) only[U6,bE];intro r0 i0 aE i5 cd i10 dG i15 aH c8 i20 s1 dc i25 s2 na i30 bn kn i35 cz hH i40 dO qd i45 ec ly i50 eK oN i55 gy lN i60 gX px i65 dB i70 q3 i75 qg i80 j0;have aH:v5 dG% 57896044618658097711785492504343953926634992332820282019728792003956564819949=v5 r0*v5 r0% 57896044618658097711785492504343953926634992332820282019728792003956564819949:=aH.1;have s1:v5 c8% 57896044618658097711785492504343953926634992332820282019728792003956564819949=v5 aE*v5 aE% 57896044618658097711785492504343953926634992332820282019728792003956564819949:=s1.1;have s2:v5 dc% 57896044618658097711785492504343953926634992332820282019728792003956564819949=v5 cd*v5 cd% 57896044618658097711785492504343953926634992332820282019728792003956564819949:=s2.1;have bn:v5 na% 57896044618658097711785492504343953926634992332820282019728792003956564819949=(v5 dc+v5 dc)% 57896044618658097711785492504343953926634992332820282019728792003956564819949:=bn.1;have cz:v5 kn% 57896044618658097711785492504343953926634992332820282019728792003956564819949=(v5 dG+v5 c8)% 57896044618658097711785492504343953926634992332820282019728792003956564819949:=cz.1;have dO:v5 hH% 57896044618658097711785492504343953926634992332820282019728792003956564819949=(v5 r0+v5 aE)% 57896044618658097711785492504343953926634992332820282019728792003956564819949:=dO.1;have ec:v5 qd% 57896044618658097711785492504343953926634992332820282019728792003956564819949=v5 hH*v5 hH% 57896044618658097711785492504343953926634992332820282019728792003956564819949:=ec.1;have eK:v5 ly% 57896044618658097711785492504343953926634992332820282019728792003956564819949=(v5 kn-v5 qd)% 57896044618658097711785492504343953926634992332820282019728792003956564819949:=eK.1;have gy:v5 oN% 57896044618658097711785492504343953926634992332820282019728792003956564819949=(v5 dG-v5 c8)% 57896044618658097711785492504343953926634992332820282019728792003956564819949:=gy.1;have gX:v5 lN% 57896044618658097711785492504343953926634992332820282019728792003956564819949=(v5 na+v5 oN)% 57896044618658097711785492504343953926634992332820282019728792003956564819949:=gX.1;have j0:acP [ly,lN,oN,kn] [px,dB,q3,qg]:=j0.1;refine⟨Hu i65 i70 i75 i80,?_⟩;intro A aO bg;exact aEl aO bg aH s1 s2 bn cz dO ec eK gy gX j0.1 j0.2.1 j0.2.2.1 j0.2.2.2
def Vb (S:Nat->List (List Int)->List (List Int)->Prop) (K:List (List Int)->List (List Int)->Prop):Prop:=
 ∀r0:List Int,ab (ai 0 bE 5) r0->∀aE:List Int,ab (ai 0 bE 5) aE->∀cd:List Int,ab (ai 0 bE 5) cd->∀dG:List Int,ab (ai 0 bE 5) dG->∀c8:List Int,ab (ai 0 255 32) c8->
 ∀kp:List Int,ab (ai 0 bE 5) kp->∀n8:List Int,ab (ai 0 bE 5) n8->∀iY:List Int,ab (ai 0 bE 5) iY->∀yL:List Int,ab (ai 0 bE 5) yL->S 103 [] [kp,n8,iY,yL]->
 ∃(PJ:List (List Int)->Prop) (UQ:List (List Int)->Nat),PJ [[255],kp,n8,iY,yL]/\(oL (-1) 255 λeH=>∀kb:List Int,ab (ai 0 bE 5) kb->∀q4:List Int,ab (ai 0 bE 5) q4->∀q5:List Int,ab (ai 0 bE 5) q5->∀vl:List Int,ab (ai 0 bE 5) vl->PJ [[eH],kb,q4,q5,vl]->
  (((decide (0<=eH))=true->
   ∀xt:List Int,ab (ai 0 bE 5) xt->∀xv:List Int,ab (ai 0 bE 5) xv->∀w8:List Int,ab (ai 0 bE 5) w8->∀w9:List Int,ab (ai 0 bE 5) w9->S 106 [kb,q4,q5] [xt,xv,w8,w9]->
   aB 0 31 eH 8 λv8=>
   dK 255 (U c8 (v8).toNat 0) λwa=>
   aB 0 31 eH 8 λz116=>
   dK 255 (wa/2^((eH+((-8)*z116))).toNat) λz117=>
   aB 0 127 z117 2 λwc=>
   (((decide ((z117+((-2)*wc))=1))=true->
    ∀Dw:List Int,ab (ai 0 bE 5) Dw->∀Dx:List Int,ab (ai 0 bE 5) Dx->∀Dy:List Int,ab (ai 0 bE 5) Dy->∀Dz:List Int,ab (ai 0 bE 5) Dz->S 105 [xt,xv,w8,w9,r0,aE,cd,dG] [Dw,Dx,Dy,Dz]->
    (PJ [[(eH+(-1))],Dw,Dx,Dy,Dz]/\UQ [[(eH+(-1))],Dw,Dx,Dy,Dz]<UQ [[eH],kb,q4,q5,vl])
   )/\((decide ((z117+((-2)*wc))=1))=false->
    (PJ [[(eH+(-1))],xt,xv,w8,w9]/\UQ [[(eH+(-1))],xt,xv,w8,w9]<UQ [[eH],kb,q4,q5,vl])
   ))
  )/\((decide (0<=eH))=false->
   K [r0,aE,cd,dG,c8] [kb,q4,q5,vl]
  ))
 )
theorem aBF (G):Vb (fr G) (V7 G):=by
 simp(maxSteps:=4000000) only[Vb,dK,oL,aB,bE];intro r0 i0 aE i5 cd i10 dG i15 c8 i20 kp i52 n8 i57 iY i62 yL i67 aH;have KW:=aH.2;have aH:acR [] [kp,n8,iY,yL]:=aH.1;refine⟨λl=>match l with|[[i],x,y,z,t]=>(∀A,on A->mG (v5 r0) (v5 aE) (v5 cd) (v5 dG) A->mG (v5 x) (v5 y) (v5 z) (v5 t) (er ((nb c8).toNat/2^(i+1).toNat) A))/\[x,y,z,t].flatten=w4 G [r0,aE,cd,dG].flatten (nb c8).toNat (255-i).toNat|_=>False,λl=>match l with|[[i],_,_,_,_]=>(i+1).toNat|_=>0,?_,?_⟩
 ·show(∀A,on A->mG (v5 r0) (v5 aE) (v5 cd) (v5 dG) A->mG (v5 kp) (v5 n8) (v5 iY) (v5 yL) (er ((nb c8).toNat/2^(255+1:Int).toNat) A))/\[kp,n8,iY,yL].flatten=w4 G [r0,aE,cd,dG].flatten (nb c8).toNat (255-255:Int).toNat;refine⟨λA aO ak=>?_,KW⟩;rw[anE i20];exact aIQ aH
 ·intro eH zk wD kb i74 q4 i79 q5 i84 vl i89 eg;have eg:(∀A,on A->mG (v5 r0) (v5 aE) (v5 cd) (v5 dG) A->mG (v5 kb) (v5 q4) (v5 q5) (v5 vl) (er ((nb c8).toNat/2^(eH+1).toNat) A))/\[kb,q4,q5,vl].flatten=w4 G [r0,aE,cd,dG].flatten (nb c8).toNat (255-eH).toNat:=eg;refine⟨λh0=>?_,λh0=>?_⟩
  ·skip
   simp only[cI,dd,cU,dh,decide_eq_true_eq,decide_eq_false_iff_not]at h0;intro xt i94 xv i99 w8 i104 w9 i109 s1 v8 WI Xb agX d114 wa WJ Xc ahB z116 a116 Xd agY d116 z117 a117 afY ahC wc afc afZ agZ d118;have Ie:=s1.2;have s1:amY [kb,q4,q5] [xt,xv,w8,w9]:=s1.1;refine⟨λh1=>?_,λh1=>?_⟩
   ·skip
    simp only[cI,dd,cU,dh,decide_eq_true_eq,decide_eq_false_iff_not]at h1;intro Dw i119 Dx i124 Dy i129 Dz i134 s2;have acL:=s2.2;have s2:Tv [xt,xv,w8,w9,r0,aE,cd,dG] [Dw,Dx,Dy,Dz]:=s2.1;obtain⟨i,rfl⟩:=oY h0;have hb:=P9 i20 wD agX d114 ahB agY d116 ahC agZ d118;have nY:((i:Int)+1).toNat=i+1:=by omega
    have tV:((i:Int)+(-1)+1).toNat=i:=by omega
    obtain⟨eg,hF⟩:=eg;rw[nY]at eg;have sE:(255-(i:Int)).toNat=255-i:=by omega
    have zA:(255-((i:Int)+(-1))).toNat=(255-i)+1:=by omega
    have zB:255-(255-i)=i:=by omega
    rw[sE]at hF;have g0:[xt,xv,w8,w9].flatten=G 106 [kb,q4,q5].flatten:=Ie;rw[<-anx i74 i79 i84 i89,hF]at g0;have g1:[Dw,Dx,Dy,Dz].flatten=G 105 [xt,xv,w8,w9,r0,aE,cd,dG].flatten:=acL;rw[atD,g0]at g1;have cP:(nb c8).toNat/2^i% 2=1:=by omega
    refine⟨⟨λA aO ak=>?_,?_⟩,?_⟩
    ·show mG (v5 Dw) (v5 Dx) (v5 Dy) (v5 Dz) (er ((nb c8).toNat/2^((i:Int)+(-1)+1).toNat) A);rw[tV,alB aO cP];have k1:=s1 _ (jf aO _) (eg A aO ak).j;exact s2 _ _ (wy (jf aO _) (jf aO _)) aO k1 ak
    ·show [Dw,Dx,Dy,Dz].flatten=w4 G [r0,aE,cd,dG].flatten (nb c8).toNat (255-((i:Int)+(-1))).toNat;rw[zA,w4,zB];have:((nb c8).toNat/2^i% 2==1)=true:=by simpa using cP
     rw[this,cond_true];exact g1
    ·show((i:Int)+(-1)+1).toNat<((i:Int)+1).toNat;omega
   ·skip
    simp only[cI,dd,cU,dh,decide_eq_true_eq,decide_eq_false_iff_not]at h1;obtain⟨i,rfl⟩:=oY h0;have hb:=P9 i20 wD agX d114 ahB agY d116 ahC agZ d118;have nY:((i:Int)+1).toNat=i+1:=by omega
    have tV:((i:Int)+(-1)+1).toNat=i:=by omega
    obtain⟨eg,hF⟩:=eg;rw[nY]at eg;have sE:(255-(i:Int)).toNat=255-i:=by omega
    have zA:(255-((i:Int)+(-1))).toNat=(255-i)+1:=by omega
    have zB:255-(255-i)=i:=by omega
    rw[sE]at hF;have g0:[xt,xv,w8,w9].flatten=G 106 [kb,q4,q5].flatten:=Ie;rw[<-anx i74 i79 i84 i89,hF]at g0;have cP:(nb c8).toNat/2^i% 2≠1:=by omega
    refine⟨⟨λA aO ak=>?_,?_⟩,?_⟩
    ·show mG (v5 xt) (v5 xv) (v5 w8) (v5 w9) (er ((nb c8).toNat/2^((i:Int)+(-1)+1).toNat) A);rw[tV,alA aO cP];exact s1 _ (jf aO _) (eg A aO ak).j
    ·show [xt,xv,w8,w9].flatten=w4 G [r0,aE,cd,dG].flatten (nb c8).toNat (255-((i:Int)+(-1))).toNat;rw[zA,w4,zB];have:((nb c8).toNat/2^i% 2==1)=false:=by simpa using cP
     rw[this,cond_false];exact g0
    ·show((i:Int)+(-1)+1).toNat<((i:Int)+1).toNat;omega
  ·skip
   simp only[cI,dd,cU,dh,decide_eq_true_eq,decide_eq_false_iff_not]at h0;obtain⟨eg,hF⟩:=eg;have nY:(eH+1).toNat=0:=by omega
   have sE:(255-eH).toNat=256:=by omega
   rw[nY]at eg;rw[sE]at hF;refine⟨⟨Hu i74 i79 i84 i89,?_⟩,hF⟩;intro A aO ak;have eg:=eg A aO ak
   rwa [Nat.pow_zero,Nat.div_one]at eg
def U0 (S:Nat->List (List Int)->List (List Int)->Prop) (K:List (List Int)->List (List Int)->Prop):Prop:=
 ∀r0:List Int,ab (ai 0 bE 5) r0->∀aE:List Int,ab (ai 0 bE 5) aE->∀cd:List Int,ab (ai 0 bE 5) cd->
 ∀dG:List Int,ab (ai 0 bE 5) dG->S 35 [cd] [dG]->
 ∀c8:List Int,ab (ai 0 bE 5) c8->S 33 [aE,dG] [c8]->
 ∀dc:List Int,ab (ai 0 255 32) dc->S 31 [c8] [dc]->
 ∀n8:List Int,ab (ai 0 bE 5) n8->S 33 [r0,dG] [n8]->
 gp λdV=>S 49 [n8] [[dV]]->
 (((decide (dV=1))=true->
  ∀dr:Int,0<=dr->dr<=o0 .u8->dr=eR .or .u8 (U dc 31 0) 128->
  K [r0,aE,cd] [[(U dc 0 0),(U dc 1 0),(U dc 2 0),(U dc 3 0),(U dc 4 0),(U dc 5 0),(U dc 6 0),(U dc 7 0),(U dc 8 0),(U dc 9 0),(U dc 10 0),(U dc 11 0),(U dc 12 0),(U dc 13 0),(U dc 14 0),(U dc 15 0),(U dc 16 0),(U dc 17 0),(U dc 18 0),(U dc 19 0),(U dc 20 0),(U dc 21 0),(U dc 22 0),(U dc 23 0),(U dc 24 0),(U dc 25 0),(U dc 26 0),(U dc 27 0),(U dc 28 0),(U dc 29 0),(U dc 30 0),dr]]
 )/\((decide (dV=1))=false->
  K [r0,aE,cd] [dc]
 ))
theorem aBe (G):U0 (fr G) (eP qa.res 108):=by
 simp(maxSteps:=4000000) only[U0,gp,bE];intro r0 i0 aE i5 cd i10 dG i15 aH c8 i20 s1 dc i25 s2 n8 i57 bn dV mJ mq cz;have aH:v5 dG% 57896044618658097711785492504343953926634992332820282019728792003956564819949=cr (v5 cd) s9:=aH.1;have s1:v5 c8% 57896044618658097711785492504343953926634992332820282019728792003956564819949=v5 aE*v5 dG% 57896044618658097711785492504343953926634992332820282019728792003956564819949:=s1.1;have s2:nb dc=v5 c8% 57896044618658097711785492504343953926634992332820282019728792003956564819949:=s2.1;have bn:v5 n8% 57896044618658097711785492504343953926634992332820282019728792003956564819949=v5 r0*v5 dG% 57896044618658097711785492504343953926634992332820282019728792003956564819949:=bn.1;have cz:dV=v5 n8% 57896044618658097711785492504343953926634992332820282019728792003956564819949% 2:=cz.1;refine⟨λh0=>?_,λh0=>?_⟩
 ·skip
  simp only[cI,dd,cU,dh,decide_eq_true_eq,decide_eq_false_iff_not]at h0;intro dr pa pN nX;have eJ:v5 c8% 57896044618658097711785492504343953926634992332820282019728792003956564819949=v5 aE*lJ (v5 cd)% 57896044618658097711785492504343953926634992332820282019728792003956564819949:=s1.trans (gb rfl (aH.trans (Oq _ _).symm));have bg:v5 n8% 57896044618658097711785492504343953926634992332820282019728792003956564819949=v5 r0*lJ (v5 cd)% 57896044618658097711785492504343953926634992332820282019728792003956564819949:=bn.trans (gb rfl (aH.trans (Oq _ _).symm));rw[eJ]at s2;rw[bg]at cz;have hlt:nb dc<ej:=by rw[s2];exact Int.lt_trans (oH _).2 (by decide)
  have aD:=anC i25 hlt;have hg:=aip i25;rw[aA4 hg.1 aD]at nX;subst nX;refine⟨akc i25 (by omega) (by omega),?_⟩;show nb _=A8 (v5 r0) (v5 aE) (v5 cd);rw[abC i25];unfold A8;rw[<-cz,s2,h0];unfold ej;omega
 ·skip
  simp only[cI,dd,cU,dh,decide_eq_true_eq,decide_eq_false_iff_not]at h0;have eJ:v5 c8% 57896044618658097711785492504343953926634992332820282019728792003956564819949=v5 aE*lJ (v5 cd)% 57896044618658097711785492504343953926634992332820282019728792003956564819949:=s1.trans (gb rfl (aH.trans (Oq _ _).symm));have bg:v5 n8% 57896044618658097711785492504343953926634992332820282019728792003956564819949=v5 r0*lJ (v5 cd)% 57896044618658097711785492504343953926634992332820282019728792003956564819949:=bn.trans (gb rfl (aH.trans (Oq _ _).symm));rw[eJ]at s2;rw[bg]at cz;have hlt:nb dc<ej:=by rw[s2];exact Int.lt_trans (oH _).2 (by decide)
  refine⟨kY i25,?_⟩;show nb dc=A8 (v5 r0) (v5 aE) (v5 cd);unfold A8;rw[<-cz,s2,show dV=0 by clear s2 cz eJ bg hlt;omega,Int.mul_zero,xU]
def Vo (S:Nat->List (List Int)->List (List Int)->Prop) (K:List (List Int)->List (List Int)->Prop):Prop:=
 ∀r0:List Int,ab (ai 0 255 32) r0->
 bz (U r0 31 0) 128 λaS=>
 bz (U r0 31 0) 128 λbL=>
 gp λbY=>S 22 [[(U r0 0 0),(U r0 1 0),(U r0 2 0),(U r0 3 0),(U r0 4 0),(U r0 5 0),(U r0 6 0),(U r0 7 0),(U r0 8 0),(U r0 9 0),(U r0 10 0),(U r0 11 0),(U r0 12 0),(U r0 13 0),(U r0 14 0),(U r0 15 0),(U r0 16 0),(U r0 17 0),(U r0 18 0),(U r0 19 0),(U r0 20 0),(U r0 21 0),(U r0 22 0),(U r0 23 0),(U r0 24 0),(U r0 25 0),(U r0 26 0),(U r0 27 0),(U r0 28 0),(U r0 29 0),(U r0 30 0),((U r0 31 0)+((-128)*bL))]] [[bY]]->
 ((((!(decide (bY=1))))=true->
  K [r0] [[0,0,0,0,0],[0,0,0,0,0],[0,0,0,0,0],[0,0,0,0,0],[(cond (false) 1 0)]]
 )/\(((!(decide (bY=1))))=false->
  ∀kn:List Int,ab (ai 0 bE 5) kn->S 29 [[(U r0 0 0),(U r0 1 0),(U r0 2 0),(U r0 3 0),(U r0 4 0),(U r0 5 0),(U r0 6 0),(U r0 7 0),(U r0 8 0),(U r0 9 0),(U r0 10 0),(U r0 11 0),(U r0 12 0),(U r0 13 0),(U r0 14 0),(U r0 15 0),(U r0 16 0),(U r0 17 0),(U r0 18 0),(U r0 19 0),(U r0 20 0),(U r0 21 0),(U r0 22 0),(U r0 23 0),(U r0 24 0),(U r0 25 0),(U r0 26 0),(U r0 27 0),(U r0 28 0),(U r0 29 0),(U r0 30 0),((U r0 31 0)+((-128)*bL))]] [kn]->
  ∀hH:List Int,ab (ai 0 bE 5) hH->S 47 [kn] [hH]->
  ∀qd:List Int,ab (ai 0 bE 5) qd->S 32 [hH,[1,0,0,0,0]] [qd]->
  ∀ly:List Int,ab (ai 0 bE 5) ly->S 33 [hH,[akr,aks,akt,aku,akv]] [ly]->
  ∀oN:List Int,ab (ai 0 bE 5) oN->S 34 [ly,[1,0,0,0,0]] [oN]->
  ∀lN:List Int,ab (ai 0 bE 5) lN->S 35 [oN] [lN]->
  ∀px:List Int,ab (ai 0 bE 5) px->S 33 [qd,lN] [px]->
  ∀dB:List Int,ab (ai 0 bE 5) dB->gp λz75=>S 30 [px] [dB,[z75]]->
  ((((!(decide (z75=1))))=true->
   K [r0] [[0,0,0,0,0],[0,0,0,0,0],[0,0,0,0,0],[0,0,0,0,0],[(cond (false) 1 0)]]
  )/\(((!(decide (z75=1))))=false->
   ((((!(decide ((128*aS)=0))))=true->
    gp λz76=>S 48 [dB,[0,0,0,0,0]] [[z76]]->
    (((decide (z76=1))=true->
     K [r0] [[0,0,0,0,0],[0,0,0,0,0],[0,0,0,0,0],[0,0,0,0,0],[(cond (false) 1 0)]]
    )/\((decide (z76=1))=false->
     ∀xp:List Int,ab (ai 0 bE 5) xp->S 50 [dB] [xp]->
     ∀KP:List Int,ab (ai 0 bE 5) KP->∀tw:List Int,ab (ai 0 bE 5) tw->∀Ae:List Int,ab (ai 0 bE 5) Ae->∀xu:List Int,ab (ai 0 bE 5) xu->S 101 [xp,kn] [KP,tw,Ae,xu]->
     K [r0] [KP,tw,Ae,xu,[(cond (true) 1 0)]]
    ))
   )/\(((!(decide ((128*aS)=0))))=false->
    ∀yM:List Int,ab (ai 0 bE 5) yM->∀xr:List Int,ab (ai 0 bE 5) xr->∀OO:List Int,ab (ai 0 bE 5) OO->∀ux:List Int,ab (ai 0 bE 5) ux->S 101 [dB,kn] [yM,xr,OO,ux]->
    K [r0] [yM,xr,OO,ux,[(cond (true) 1 0)]]
   ))
  ))
 ))
theorem aBU (G):Vo (fr G) (eP tq.res 109):=by
 simp(maxSteps:=4000000) only[Vo,gp,bz,bE,akr,aks,akt,aku,akv];intro r0 i0 aS c7 ga rp d32 bL eY e2 k8 d33 bY fi fo aH;have aH:bY=bit (nb [(U r0 0 0),(U r0 1 0),(U r0 2 0),(U r0 3 0),(U r0 4 0),(U r0 5 0),(U r0 6 0),(U r0 7 0),(U r0 8 0),(U r0 9 0),(U r0 10 0),(U r0 11 0),(U r0 12 0),(U r0 13 0),(U r0 14 0),(U r0 15 0),(U r0 16 0),(U r0 17 0),(U r0 18 0),(U r0 19 0),(U r0 20 0),(U r0 21 0),(U r0 22 0),(U r0 23 0),(U r0 24 0),(U r0 25 0),(U r0 26 0),(U r0 27 0),(U r0 28 0),(U r0 29 0),(U r0 30 0),((U r0 31 0)+((-128)*bL))]<57896044618658097711785492504343953926634992332820282019728792003956564819949):=aH.1;refine⟨λh0=>?_,λh0=>?_⟩
 ·skip
  simp only[cI,dd,cU,dh,decide_eq_true_eq,decide_eq_false_iff_not]at h0;have hm:=Bu i0 k8 d33;have hz:aS=bL:=by clear aH;omega
  rw[hm.1]at aH;refine⟨NT yA yA yA yA (by decide),?_⟩;rw[aH]at h0;show Gd (dec (nb r0)) _ _ _ _ _;rw[ahn (Gy h0)];rfl
 ·skip
  simp only[cI,dd,cU,dh,decide_eq_true_eq,decide_eq_false_iff_not]at h0;intro kn i35 s1 hH i40 s2 qd i45 bn ly i50 cz oN i55 dO lN i60 ec px i65 eK dB i70 z75 a75 zq gy;have s1:v5 kn% 57896044618658097711785492504343953926634992332820282019728792003956564819949=nb [(U r0 0 0),(U r0 1 0),(U r0 2 0),(U r0 3 0),(U r0 4 0),(U r0 5 0),(U r0 6 0),(U r0 7 0),(U r0 8 0),(U r0 9 0),(U r0 10 0),(U r0 11 0),(U r0 12 0),(U r0 13 0),(U r0 14 0),(U r0 15 0),(U r0 16 0),(U r0 17 0),(U r0 18 0),(U r0 19 0),(U r0 20 0),(U r0 21 0),(U r0 22 0),(U r0 23 0),(U r0 24 0),(U r0 25 0),(U r0 26 0),(U r0 27 0),(U r0 28 0),(U r0 29 0),(U r0 30 0),((U r0 31 0)+((-128)*bL))]% 57896044618658097711785492504343953926634992332820282019728792003956564819949:=s1.1;have s2:v5 hH% 57896044618658097711785492504343953926634992332820282019728792003956564819949=v5 kn*v5 kn% 57896044618658097711785492504343953926634992332820282019728792003956564819949:=s2.1;have bn:v5 qd% 57896044618658097711785492504343953926634992332820282019728792003956564819949=(v5 hH-v5 [1,0,0,0,0])% 57896044618658097711785492504343953926634992332820282019728792003956564819949:=bn.1;have cz:v5 ly% 57896044618658097711785492504343953926634992332820282019728792003956564819949=v5 hH*v5 [929955233495203,466365720129213,1662059464998953,2033849074728123,1442794654840575]% 57896044618658097711785492504343953926634992332820282019728792003956564819949:=cz.1;have dO:v5 oN% 57896044618658097711785492504343953926634992332820282019728792003956564819949=(v5 ly+v5 [1,0,0,0,0])% 57896044618658097711785492504343953926634992332820282019728792003956564819949:=dO.1;have ec:v5 lN% 57896044618658097711785492504343953926634992332820282019728792003956564819949=cr (v5 oN) s9:=ec.1;have eK:v5 px% 57896044618658097711785492504343953926634992332820282019728792003956564819949=v5 qd*v5 lN% 57896044618658097711785492504343953926634992332820282019728792003956564819949:=eK.1;have gy:(v5 dB% 57896044618658097711785492504343953926634992332820282019728792003956564819949,z75)=l9 (v5 px% 57896044618658097711785492504343953926634992332820282019728792003956564819949):=gy.1;refine⟨λh1=>?_,λh1=>?_⟩
  ·skip
   simp only[cI,dd,cU,dh,decide_eq_true_eq,decide_eq_false_iff_not]at h1;have hm:=Bu i0 k8 d33;have hz:aS=bL:=by clear aH;omega
   rw[hm.1]at aH;have hy:nb r0% ej<57896044618658097711785492504343953926634992332820282019728792003956564819949:=wH (by rw[<-aH];exact h0);rw[hm.1]at s1;have q:=Tm s1 s2 bn cz dO ec eK;rw[q]at gy;have af:z75=0:=by omega
   refine⟨NT yA yA yA yA (by decide),?_⟩;show Gd (dec (nb r0)) _ _ _ _ _;rw[ahp hy gy af];rfl
  ·skip
   simp only[cI,dd,cU,dh,decide_eq_true_eq,decide_eq_false_iff_not]at h1;refine⟨λh2=>?_,λh2=>?_⟩
   ·skip
    simp only[cI,dd,cU,dh,decide_eq_true_eq,decide_eq_false_iff_not]at h2;intro z76 a76 uQ gX;have gX:z76=bit (v5 dB% 57896044618658097711785492504343953926634992332820282019728792003956564819949=v5 [0,0,0,0,0]% 57896044618658097711785492504343953926634992332820282019728792003956564819949):=gX.1;refine⟨λh3=>?_,λh3=>?_⟩
    ·skip
     simp only[cI,dd,cU,dh,decide_eq_true_eq,decide_eq_false_iff_not]at h3;have hm:=Bu i0 k8 d33;have hz:aS=bL:=by clear aH;omega
     rw[hm.1]at aH;have hy:nb r0% ej<57896044618658097711785492504343953926634992332820282019728792003956564819949:=wH (by rw[<-aH];exact h0);rw[hm.1]at s1;have q:=Tm s1 s2 bn cz dO ec eK;rw[q]at gy;have af:z75≠0:=by omega
     have aA:nb r0/ej=1:=by rw[<-hm.2];omega
     rw[gX]at h3;have ak:=wH h3;have ak:v5 dB% 57896044618658097711785492504343953926634992332820282019728792003956564819949=0:=ak;refine⟨NT yA yA yA yA (by decide),?_⟩;show Gd (dec (nb r0)) _ _ _ _ _;rw[ahr hy gy af aA ak];rfl
    ·skip
     simp only[cI,dd,cU,dh,decide_eq_true_eq,decide_eq_false_iff_not]at h3;intro xp i77 j0 KP i82 tw i87 Ae i92 xu i97 oP;have j0:v5 xp% 57896044618658097711785492504343953926634992332820282019728792003956564819949=(0-v5 dB)% 57896044618658097711785492504343953926634992332820282019728792003956564819949:=j0.1;have oP:O1 [xp,kn] [KP,tw,Ae,xu]:=oP.1;have hm:=Bu i0 k8 d33;have hz:aS=bL:=by clear aH;omega
     rw[hm.1]at aH;have hy:nb r0% ej<57896044618658097711785492504343953926634992332820282019728792003956564819949:=wH (by rw[<-aH];exact h0);rw[hm.1]at s1;have q:=Tm s1 s2 bn cz dO ec eK;rw[q]at gy;have af:z75≠0:=by omega
     have aA:nb r0/ej=1:=by rw[<-hm.2];omega
     rw[gX]at h3;have ak:=Gy h3;have ak:v5 dB% 57896044618658097711785492504343953926634992332820282019728792003956564819949≠0:=ak;refine⟨NT i82 i87 i92 i97 (by decide),?_⟩;show Gd (dec (nb r0)) _ _ _ _ _;rw[ahq hy gy af aA ak];have oR:v5 KP% 57896044618658097711785492504343953926634992332820282019728792003956564819949=(0-v5 dB% 57896044618658097711785492504343953926634992332820282019728792003956564819949)% 57896044618658097711785492504343953926634992332820282019728792003956564819949:=oP.1.trans (j0.trans (zw rfl (xX _ _).symm));have sR:v5 tw% 57896044618658097711785492504343953926634992332820282019728792003956564819949=nb r0% ej:=oP.2.1.trans (s1.trans (mD (sV _ (by decide)) hy));exact⟨rfl,oR,sR,oP.2.2.1,oP.2.2.2.trans (gb (oP.1.symm.trans (oR.trans (xX _ _).symm)) s1)⟩
   ·skip
    simp only[cI,dd,cU,dh,decide_eq_true_eq,decide_eq_false_iff_not]at h2;intro yM i76 xr i81 OO i86 ux i91 gX;have gX:O1 [dB,kn] [yM,xr,OO,ux]:=gX.1;have hm:=Bu i0 k8 d33;have hz:aS=bL:=by clear aH;omega
    rw[hm.1]at aH;have hy:nb r0% ej<57896044618658097711785492504343953926634992332820282019728792003956564819949:=wH (by rw[<-aH];exact h0);rw[hm.1]at s1;have q:=Tm s1 s2 bn cz dO ec eK;rw[q]at gy;have af:z75≠0:=by omega
    have aA:¬nb r0/ej=1:=by rw[<-hm.2];omega
    refine⟨NT i76 i81 i86 i91 (by decide),?_⟩;show Gd (dec (nb r0)) _ _ _ _ _;rw[aho hy gy af aA];have sR:v5 xr% 57896044618658097711785492504343953926634992332820282019728792003956564819949=nb r0% ej:=gX.2.1.trans (s1.trans (mD (sV _ (by decide)) hy));exact⟨rfl,gX.1,sR,gX.2.2.1,gX.2.2.2.trans (gb (xX _ _).symm s1)⟩
def U2 (S:Nat->List (List Int)->List (List Int)->Prop) (K:List (List Int)->List (List Int)->Prop):Prop:=
 ∀r0:List Int,ab (ai 0 255 32) r0->
 ∀b8:List Int,ab (ai 0 bE 5) b8->∀gf:List Int,ab (ai 0 bE 5) gf->∀ko:List Int,ab (ai 0 bE 5) ko->∀Ad:List Int,ab (ai 0 bE 5) Ad->gp λcx=>S 109 [r0] [b8,gf,ko,Ad,[cx]]->
 ((((!(decide (cx=1))))=true->
  K [r0] [[0,0,0,0,0,0,0,0,0,0,0,0,0,0,0,0,0,0,0,0,0,0,0,0,0,0,0,0,0,0,0,0],[1]]
 )/\(((!(decide (cx=1))))=false->
  ((
   ∀xo:List Int,ab (ai 0 bE 5) xo->S 50 [b8] [xo]->
   ∀jO:List Int,ab (ai 0 255 32) jO->S 108 [xo,gf,ko] [jO]->
   K [r0] [jO,[0]]
  )/\(
   ∀xo:List Int,ab (ai 0 bE 5) xo->S 50 [b8] [xo]->
   ∀jO:List Int,ab (ai 0 255 32) jO->S 108 [xo,gf,ko] [jO]->
   K [r0] [jO,[0]]
  ))
 ))
theorem aBi (G):U2 (fr G) (eP z7.res 112):=by
 simp(maxSteps:=4000000) only[U2,gp,bE];intro r0 i0 b8 i32 gf i37 ko i42 Ad i47 cx kA kI aH;have aH:O2 [r0] [b8,gf,ko,Ad,[cx]]:=aH.1;refine⟨λh0=>?_,λh0=>?_⟩
 ·skip
  simp only[cI,dd,cU,dh,decide_eq_true_eq,decide_eq_false_iff_not]at h0;have e:=amr aH h0;refine⟨Fa aab (by decide),?_⟩;show rk _ _ _;rw[e];exact⟨rfl,by decide⟩
 ·skip
  simp only[cI,dd,cU,dh,decide_eq_true_eq,decide_eq_false_iff_not]at h0;refine⟨?_,?_⟩
  ·skip
   intro xo i53 s1 jO i58 s2;have s1:v5 xo% 57896044618658097711785492504343953926634992332820282019728792003956564819949=(0-v5 b8)% 57896044618658097711785492504343953926634992332820282019728792003956564819949:=s1.1;have s2:KX [xo,gf,ko] [jO]:=s2.1;obtain⟨AK,az,bg⟩:=rd_some aH h0;have o1:=Je az;refine⟨Fa i58 (by decide),?_⟩;show rk _ _ _;rw[az];exact⟨rfl,s2.trans (KQ (Fk o1) (alL (s1) bg.j))⟩
  ·skip
   intro xo i53 s1 jO i58 s2;have s1:v5 xo% 57896044618658097711785492504343953926634992332820282019728792003956564819949=(0-v5 b8)% 57896044618658097711785492504343953926634992332820282019728792003956564819949:=s1.1;have s2:KX [xo,gf,ko] [jO]:=s2.1;obtain⟨AK,az,bg⟩:=rd_some aH h0;have o1:=Je az;refine⟨Fa i58 (by decide),?_⟩;show rk _ _ _;rw[az];exact⟨rfl,s2.trans (KQ (Fk o1) (alL (s1) bg.j))⟩
def UW (S:Nat->List (List Int)->List (List Int)->Prop) (K:List (List Int)->List (List Int)->Prop):Prop:=
 ∀r0:List Int,ab (ai 0 255 32) r0->
 ∀b8:List Int,ab (ai 0 4503599627370495 5) b8->∀gf:List Int,ab (ai 0 4503599627370495 5) gf->∀ko:List Int,ab (ai 0 4503599627370495 5) ko->∀Ad:List Int,ab (ai 0 4503599627370495 5) Ad->S 102 [] [b8,gf,ko,Ad]->
 ∀kp:List Int,ab (ai 0 4503599627370495 5) kp->∀n8:List Int,ab (ai 0 4503599627370495 5) n8->∀iY:List Int,ab (ai 0 4503599627370495 5) iY->∀yL:List Int,ab (ai 0 4503599627370495 5) yL->S 107 [b8,gf,ko,Ad,r0] [kp,n8,iY,yL]->
 ∀qf:List Int,ab (ai 0 255 32) qf->S 108 [kp,n8,iY] [qf]->
 K [r0] [qf]
theorem aBb (G):UW (fr G) (eP z1.res 114):=by
 unfold UW;intro r0 i0 b8 i32 gf i37 ko i42 Ad i47 aH kp i52 n8 i57 iY i62 yL i67 s1 qf i72 s2;have aH:O0 [] [b8,gf,ko,Ad]:=aH.1;have s1:KY [b8,gf,ko,Ad,r0] [kp,n8,iY,yL]:=s1.1;have s2:KX [kp,n8,iY] [qf]:=s2.1;exact⟨kY i72,s2.trans (KQ (jf mr _) (s1 _ mr (Xh aH)).j)⟩
def U1 (S:Nat->List (List Int)->List (List Int)->Prop) (K:List (List Int)->List (List Int)->Prop):Prop:=
 ∀r0:List Int,ab (ai 0 255 32) r0->∀b8:List Int,ab (ai 0 255 32) b8->∀ka:List Int,ab (ai 0 255 32) ka->
 ∀FF:List Int,ab (ai 0 bE 5) FF->∀pv:List Int,ab (ai 0 bE 5) pv->∀FC:List Int,ab (ai 0 bE 5) FC->∀FD:List Int,ab (ai 0 bE 5) FD->gp λz116=>S 109 [b8] [FF,pv,FC,FD,[z116]]->
 ((((!(decide (z116=1))))=true->
  K [r0,b8,ka] [[0,0,0,0,0,0,0,0,0,0,0,0,0,0,0,0,0,0,0,0,0,0,0,0,0,0,0,0,0,0,0,0],[1]]
 )/\(((!(decide (z116=1))))=false->
  ((
   ∀xa:List Int,ab (ai 0 bE 5) xa->∀xb:List Int,ab (ai 0 bE 5) xb->∀xc:List Int,ab (ai 0 bE 5) xc->∀l7:List Int,ab (ai 0 bE 5) l7->S 107 [FF,pv,FC,FD,r0] [xa,xb,xc,l7]->
   ∀xd:List Int,ab (ai 0 bE 5) xd->∀xe:List Int,ab (ai 0 bE 5) xe->∀xf:List Int,ab (ai 0 bE 5) xf->∀xg:List Int,ab (ai 0 bE 5) xg->S 102 [] [xd,xe,xf,xg]->
   ∀xh:List Int,ab (ai 0 bE 5) xh->∀xi:List Int,ab (ai 0 bE 5) xi->∀dn:List Int,ab (ai 0 bE 5) dn->∀xk:List Int,ab (ai 0 bE 5) xk->S 107 [xd,xe,xf,xg,ka] [xh,xi,dn,xk]->
   ∀xl:List Int,ab (ai 0 bE 5) xl->∀xm:List Int,ab (ai 0 bE 5) xm->∀xn:List Int,ab (ai 0 bE 5) xn->∀DA:List Int,ab (ai 0 bE 5) DA->S 105 [xa,xb,xc,l7,xh,xi,dn,xk] [xl,xm,xn,DA]->
   ∀m9:List Int,ab (ai 0 255 32) m9->S 108 [xl,xm,xn] [m9]->
   K [r0,b8,ka] [m9,[0]]
  )/\(
   ∀xa:List Int,ab (ai 0 bE 5) xa->∀xb:List Int,ab (ai 0 bE 5) xb->∀xc:List Int,ab (ai 0 bE 5) xc->∀l7:List Int,ab (ai 0 bE 5) l7->S 107 [FF,pv,FC,FD,r0] [xa,xb,xc,l7]->
   ∀xd:List Int,ab (ai 0 bE 5) xd->∀xe:List Int,ab (ai 0 bE 5) xe->∀xf:List Int,ab (ai 0 bE 5) xf->∀xg:List Int,ab (ai 0 bE 5) xg->S 102 [] [xd,xe,xf,xg]->
   ∀xh:List Int,ab (ai 0 bE 5) xh->∀xi:List Int,ab (ai 0 bE 5) xi->∀dn:List Int,ab (ai 0 bE 5) dn->∀xk:List Int,ab (ai 0 bE 5) xk->S 107 [xd,xe,xf,xg,ka] [xh,xi,dn,xk]->
   ∀xl:List Int,ab (ai 0 bE 5) xl->∀xm:List Int,ab (ai 0 bE 5) xm->∀xn:List Int,ab (ai 0 bE 5) xn->∀DA:List Int,ab (ai 0 bE 5) DA->S 105 [xa,xb,xc,l7,xh,xi,dn,xk] [xl,xm,xn,DA]->
   ∀m9:List Int,ab (ai 0 255 32) m9->S 108 [xl,xm,xn] [m9]->
   K [r0,b8,ka] [m9,[0]]
  ))
 ))
theorem aBh (G):U1 (fr G) (eP z6.res 115):=by
 simp(maxSteps:=4000000) only[U1,gp,bE];intro r0 i0 b8 i32 ka i64 FF i96 pv i101 FC i106 FD i111 z116 a116 Xd aH;have aH:O2 [b8] [FF,pv,FC,FD,[z116]]:=aH.1;refine⟨λh0=>?_,λh0=>?_⟩
 ·skip
  simp only[cI,dd,cU,dh,decide_eq_true_eq,decide_eq_false_iff_not]at h0;have e:=amr aH h0;refine⟨Fa aab (by decide),?_⟩;show rk _ _ _;rw[e];exact⟨rfl,by decide⟩
 ·skip
  simp only[cI,dd,cU,dh,decide_eq_true_eq,decide_eq_false_iff_not]at h0;refine⟨?_,?_⟩
  ·skip
   intro xa i117 xb i122 xc i127 l7 i132 s1 xd i137 xe i142 xf i147 xg axy s2 xh axz xi axB dn axC xk axD bn xl axE xm axF xn axG DA axH cz m9 RF dO;have s1:KY [FF,pv,FC,FD,r0] [xa,xb,xc,l7]:=s1.1;have s2:O0 [] [xd,xe,xf,xg]:=s2.1;have bn:KY [xd,xe,xf,xg,ka] [xh,xi,dn,xk]:=bn.1;have cz:Tv [xa,xb,xc,l7,xh,xi,dn,xk] [xl,xm,xn,DA]:=cz.1;have dO:KX [xl,xm,xn] [m9]:=dO.1;obtain⟨AK,az,bg⟩:=rd_some aH h0;have o1:=Je az;refine⟨Fa RF (by decide),?_⟩;show rk _ _ _;rw[az];have k1:=s1 _ o1 bg;have k2:=bn _ mr (Xh s2);exact⟨rfl,dO.trans (KQ (wy (jf o1 _) (jf mr _)) (cz _ _ (jf o1 _) (jf mr _) k1 k2).j)⟩
  ·skip
   intro xa i117 xb i122 xc i127 l7 i132 s1 xd i137 xe i142 xf i147 xg axy s2 xh axz xi axB dn axC xk axD bn xl axE xm axF xn axG DA axH cz m9 RF dO;have s1:KY [FF,pv,FC,FD,r0] [xa,xb,xc,l7]:=s1.1;have s2:O0 [] [xd,xe,xf,xg]:=s2.1;have bn:KY [xd,xe,xf,xg,ka] [xh,xi,dn,xk]:=bn.1;have cz:Tv [xa,xb,xc,l7,xh,xi,dn,xk] [xl,xm,xn,DA]:=cz.1;have dO:KX [xl,xm,xn] [m9]:=dO.1;obtain⟨AK,az,bg⟩:=rd_some aH h0;have o1:=Je az;refine⟨Fa RF (by decide),?_⟩;show rk _ _ _;rw[az];have k1:=s1 _ o1 bg;have k2:=bn _ mr (Xh s2);exact⟨rfl,dO.trans (KQ (wy (jf o1 _) (jf mr _)) (cz _ _ (jf o1 _) (jf mr _) k1 k2).j)⟩
end Go.Fd
