/- The scalar seat: shapes,contracts,what each says. -/
import Derived.Test.YtacpildnjohidaaGreatDoorPac
open BitVec renaming toNat_ofInt->JJ
open Bool renaming not_eq_true'->c6,not_true->dD,not_eq_false'->dZ,not_false->ei
open Function renaming comp->Si
open Go.IntKind renaming max->cL
open Int renaming le_refl->cn,toNat_natCast->hC,mul_comm->kL,emod_eq_of_lt->lO,eq_ofNat_of_zero_le->mr,le_of_lt->qv,emod_lt_of_pos->ri,mul_emod->sU,emod_nonneg->sV,add_zero->wI,one_mul->wJ,add_mul_emod_self_left->xQ,emod_emod->xR,mul_assoc->CD,dvd_of_emod_eq_zero->JH,dvd_add->MQ,add_emod->MR,toNat_of_nonneg->Sc,zero_mul->X5,mul_one->X6,natCast_emod->X7,pow_add->Ya,ediv_eq_iff_of_pos->Yh,emod_add_mul_ediv->ai0,toNat_zero->ajj,emod_eq_zero_of_dvd->aV7
open List renaming getD->U,map_cons->df,replicate->dw,range->dP,nil_append->eQ,length_append->fq,append_assoc->fS,getD_cons_zero->gp,append_nil->gO,getD_cons_succ->hq,map_append->hQ,drop_zero->jA,map_congr_left->j5,length_cons->kx,getD_eq_getElem?_getD->ky,map_map->lz,getElem?_eq_getElem->lA,take_succ_cons->l5,take_of_length_le->mu,mem_cons->m2,length_take->m4,flatten_cons->nH,length_drop->pq,length_nil->pr,length_map->ps,take_zero->qy,flatten_nil->sT,zipWith->tG,drop_succ_cons->tI,not_mem_nil->uU,eq_nil_of_length_eq_zero->uV,drop_eq_getElem_cons->EN,ext_getElem->JO,length_replicate->JT,map_id->Sh,range_succ->SC,take_left'->X8,range_succ_eq_map->Yx,length_range->ajn,replicate_succ'->ajp,length_singleton->aXi
open List.cons renaming injEq->hD
open Nat renaming add_zero->m3,mul_comm->xT,pow_succ->y1,zero_add->y4,zero_le->AS,mod_eq_of_lt->MS,div_div_eq_div_mul->Sf,mul_div_cancel_left->Sg,div_eq_of_lt->aiZ,xor_lt_two_pow->aWe
open Option.some renaming inj->iI
open Prod renaming ext->Sd
set_option linter.unusedVariables false
namespace Go.ou
open Go.bX
def gl:fK:=Go.dg.cE
def gK:D:= .agg .u8 32 0 255
def azo:D:= .agg .u8 64 0 255
def ij:D:= .agg .u64 4 0 0xffffffffffffffff
def y0:D:= .agg .u64 8 0 0xffffffffffffffff
def c1:D:= .int .u64 0 1
def lS:FuncId->Nat->Option fB:=λf r=>match f,r with
 |56,12=>some ⟨[2,3],[],[(2,0,0,0xffffffffffffffff),(2,1,0,0xffffffffffffffff),(2,2,0,0xffffffffffffffff),(2,3,0,0xffffffffffffffff)],[],[],[],[]⟩
 |_,_=>none
abbrev ad:List Int->Int:=num 0x10000000000000000
abbrev nb:List Int->Int:=num 256
def uH (zs rs:List Int):Prop:=ad rs=nb zs
def yN (zs rs:List Int):Prop:=ad rs=nb (zs.take 32)
def yO (zs rs:List Int):Prop:=ad rs=nb (zs.drop 32)
def q8 (zs rs:List Int):Prop:=ad (rs.take 4)=ad (zs.take 4)-ad (zs.drop 4)+0x10000000000000000000000000000000000000000000000000000000000000000*rs.getD 4 0
def q9 (zs rs:List Int):Prop:=ad (rs.take 4)=ad (zs.take 4)+ad (zs.drop 4)-0x10000000000000000000000000000000000000000000000000000000000000000*rs.getD 4 0
def uG (zs rs:List Int):Prop:=nb rs=ad zs
def yR (zs rs:List Int):Prop:=ad rs=ad (zs.take 4)*ad (zs.drop 4)
def vO (zs rs:List Int):Prop:=ad (rs.take 4)=ad zs% 0x1000000000000000000000000000000000000000000000000000000000000000/\ad (rs.drop 4)=0x14def9dea2f79cd65812631a5cf5d3ed*(ad zs/0x1000000000000000000000000000000000000000000000000000000000000000)
def yM (zs rs:List Int):Prop:=ad rs=ad zs% 0x1000000000000000000000000000000014def9dea2f79cd65812631a5cf5d3ed
def AH (zs rs:List Int):Prop:=nb rs=nb zs
def uJ (zs rs:List Int):Prop:=rs=[if nb zs<0x1000000000000000000000000000000014def9dea2f79cd65812631a5cf5d3ed then 1 else 0]
def yQ (zs rs:List Int):Prop:=nb rs=(-nb zs)% 0x1000000000000000000000000000000014def9dea2f79cd65812631a5cf5d3ed
def uI (zs rs:List Int):Prop:=nb rs=nb zs% 0x1000000000000000000000000000000014def9dea2f79cd65812631a5cf5d3ed
def yP (zs rs:List Int):Prop:=nb rs=(nb (zs.take 32)*nb ((zs.drop 32).take 32)+nb (zs.drop 64))% 0x1000000000000000000000000000000014def9dea2f79cd65812631a5cf5d3ed
def xz (zs rs:List Int):Prop:=rs=(zs.getD 0 0/8*8)::((zs.drop 1).take 30++[zs.getD 31 0% 64+64])
def AG (zs rs:List Int):Prop:=ad rs=0x1000000000000000000000000000000014def9dea2f79cd65812631a5cf5d3ed
def xA (zs rs:List Int):Prop:=rs=[if ad (zs.take 4)<ad (zs.drop 4)then 1 else 0]
def xB (zs rs:List Int):Prop:=ad rs=if(ad (zs.take 4)+ad (zs.drop 4))% 0x10000000000000000000000000000000000000000000000000000000000000000<0x1000000000000000000000000000000014def9dea2f79cd65812631a5cf5d3ed then(ad (zs.take 4)+ad (zs.drop 4))% 0x10000000000000000000000000000000000000000000000000000000000000000 else(ad (zs.take 4)+ad (zs.drop 4))% 0x10000000000000000000000000000000000000000000000000000000000000000-0x1000000000000000000000000000000014def9dea2f79cd65812631a5cf5d3ed
def yS (zs rs:List Int):Prop:=ad rs=nb zs% 0x1000000000000000000000000000000014def9dea2f79cd65812631a5cf5d3ed
def xC (zs rs:List Int):Prop:=rs=[1]
def cQ:Nat->List Int->List Int->Prop
 |22=>uH
 |122=>yN
 |222=>yO
 |29=>q8
 |24=>q9
 |26=>uG
 |21=>yR
 |35=>vO
 |23=>yM
 |25=>yM
 |12=>AH
 |13=>uJ
 |10=>yQ
 |11=>uI
 |8=>yP
 |14=>xz
 |19=>uG
 |20=>AG
 |30=>xA
 |31=>uH
 |32=>q8
 |36=>q9
 |28=>xB
 |27=>yS
 |127=>yS
 |16=>uJ
 |17=>yQ
 |18=>xz
 |15=>uI
 |9=>yP
 |_=>xC
theorem JA {x d q fG:Int} (hd:0<d) (h1:0<=x-d*q) (h2:x-d*q<d) (h3:0<=x-d*fG) (h4:x-d*fG<d):q=fG:=Rs h1 h2 h3 h4
theorem Rr {x d q:Int} (hd:0<d) (h1:0<=x-d*q) (h2:x-d*q<d):x/d=q:=by
 have e:=ai0 x d;have av:=sV x (show d≠0 by omega);have aH:=ri x hd;exact Rs (x:=x) (d:=d) (by omega) (by omega) h1 h2
theorem nP {x d c q fG p:Int} (hd:0<d/\0<c) (bR:0<=x-d*q) (a2:x-d*q<d) (b4:0<=q-c*fG) (cg:q-c*fG<c) {e:Int} (c1:0<=x-e*p) (bQ:x-e*p<e) (he:e=d*c:=by decide):fG=p:=by
 subst he;rw[<-Rr hd.2 b4 cg,<-Rr hd.1 bR a2,Int.ediv_ediv_of_nonneg (qv hd.1)];exact Rr (Int.mul_pos hd.1 hd.2) c1 bQ
theorem W6 {x q fG:Int} (a:0<=16*x-0x10000000000000000*q) (b:16*x-0x10000000000000000*q<0x10000000000000000) (c:0<=x-0x1000000000000000*fG) (d:x-0x1000000000000000*fG<0x1000000000000000):q=fG:=by omega
theorem agP (a0 bR a2 a3 dM b4 cg dh:Int):(a0+0x10000000000000000*(bR+0x10000000000000000*(a2+0x10000000000000000*(a3+0x10000000000000000*0))))*(dM+0x10000000000000000*(b4+0x10000000000000000*(cg+0x10000000000000000*(dh+0x10000000000000000*0))))=1*(a0*dM)+0x10000000000000000*(a0*b4)+0x100000000000000000000000000000000*(a0*cg)+0x1000000000000000000000000000000000000000000000000*(a0*dh)+0x10000000000000000*(bR*dM)+0x100000000000000000000000000000000*(bR*b4)+0x1000000000000000000000000000000000000000000000000*(bR*cg)+0x10000000000000000000000000000000000000000000000000000000000000000*(bR*dh)+0x100000000000000000000000000000000*(a2*dM)+0x1000000000000000000000000000000000000000000000000*(a2*b4)+0x10000000000000000000000000000000000000000000000000000000000000000*(a2*cg)+0x100000000000000000000000000000000000000000000000000000000000000000000000000000000*(a2*dh)+0x1000000000000000000000000000000000000000000000000*(a3*dM)+0x10000000000000000000000000000000000000000000000000000000000000000*(a3*b4)+0x100000000000000000000000000000000000000000000000000000000000000000000000000000000*(a3*cg)+0x1000000000000000000000000000000000000000000000000000000000000000000000000000000000000000000000000*(a3*dh):=by grind
theorem mG {a b c d:Int} (a0:0<=a) (bR:a<=0xffffffffffffffff) (dM:0<=b) (b4:b<=0xffffffffffffffff) (dK:0<=c) (c1:c<=0xffffffffffffffff) (d0:0<=d) (d1:d<=0xffffffffffffffff):0<=ad [a,b,c,d]/\ad [a,b,c,d]<0x10000000000000000000000000000000000000000000000000000000000000000:=by
 simp only[num];omega
theorem aI6 {a b c d e f g h:Int} (a0:0<=a) (bR:a<=0xffffffffffffffff) (dM:0<=b) (b4:b<=0xffffffffffffffff) (dK:0<=c) (c1:c<=0xffffffffffffffff) (d0:0<=d) (d1:d<=0xffffffffffffffff) (cv:0<=e) (av:e<=0xffffffffffffffff) (f0:0<=f) (f1:f<=0xffffffffffffffff) (g0:0<=g) (g1:g<=0xffffffffffffffff) (h0:0<=h) (h1:h<=0xffffffffffffffff):0<=ad [a,b,c,d,e,f,g,h]/\ad [a,b,c,d,e,f,g,h]<0x100000000000000000000000000000000000000000000000000000000000000000000000000000000000000000000000000000000000000000000000000000000:=by
 simp only[num];omega
theorem asl {l:List Int} {n:Nat} (h:ay (aT 0 255 n) l):0<=nb l/\nb l<256^n:=⟨num_nonneg (by decide) (cn _) h,V9 (b:=256) (by decide) h⟩
theorem agh:ad [0x5812631a5cf5d3ed,0x14def9dea2f79cd6,0,0x1000000000000000]=0x1000000000000000000000000000000014def9dea2f79cd65812631a5cf5d3ed:=by decide
theorem aI8 (a b c d:Int):ad [a,b,c,d,0,0,0,0]=ad [a,b,c,d]:=by simp only[num];omega
theorem aI7:ad [0,0,0,0]=0:=by decide
theorem aPp {A4 lb Hb SQ c1 l1 Hc SR bQ SS cD l2 J5 SU dq n7 axW SV fM G9 hI:Int}
 (e9:0<=A4/\A4<0x100000000000000000000000000000000000000000000000000000000000000000000000000000000000000000000000000000000000000000000000000000000)
 (f0:lb=A4% 0x1000000000000000000000000000000000000000000000000000000000000000) (g0:Hb=0x14def9dea2f79cd65812631a5cf5d3ed*(A4/0x1000000000000000000000000000000000000000000000000000000000000000))
 (f2:l1=Hb% 0x1000000000000000000000000000000000000000000000000000000000000000) (g2:Hc=0x14def9dea2f79cd65812631a5cf5d3ed*(Hb/0x1000000000000000000000000000000000000000000000000000000000000000))
 (f5:l2=Hc% 0x1000000000000000000000000000000000000000000000000000000000000000) (g5:J5=0x14def9dea2f79cd65812631a5cf5d3ed*(Hc/0x1000000000000000000000000000000000000000000000000000000000000000))
 (f7:n7=J5% 0x1000000000000000000000000000000000000000000000000000000000000000) (g7:axW=0x14def9dea2f79cd65812631a5cf5d3ed*(J5/0x1000000000000000000000000000000000000000000000000000000000000000))
 (s1:SQ=lb-0x10000000000000000000000000000000000000000000000000000000000000000*c1)
 (bx:SR=SQ+0x1000000000000000000000000000000014def9dea2f79cd65812631a5cf5d3ed-0x10000000000000000000000000000000000000000000000000000000000000000*bQ)
 (cG:SS=SR-l1+0x10000000000000000000000000000000000000000000000000000000000000000*cD)
 (eW:SU=SS+l2-0x10000000000000000000000000000000000000000000000000000000000000000*dq)
 (hO:SV=SU+0x1000000000000000000000000000000014def9dea2f79cd65812631a5cf5d3ed-0x10000000000000000000000000000000000000000000000000000000000000000*fM)
 (jx:G9=SV-n7+0x10000000000000000000000000000000000000000000000000000000000000000*hI)
 (bR:0<=c1) (b4:c1<=1) (a2:0<=bQ) (cg:bQ<=1) (a3:0<=cD) (dh:cD<=1) (a4:0<=dq) (ox:dq<=1) (a5:0<=fM) (nM:fM<=1) (rp:0<=hI) (rq:hI<=1)
 (gk:0<=SQ/\SQ<0x10000000000000000000000000000000000000000000000000000000000000000) (eJ:0<=SR/\SR<0x10000000000000000000000000000000000000000000000000000000000000000)
 (ur:0<=SS/\SS<0x10000000000000000000000000000000000000000000000000000000000000000) (BW:0<=SU/\SU<0x10000000000000000000000000000000000000000000000000000000000000000)
 (aIw:0<=SV/\SV<0x10000000000000000000000000000000000000000000000000000000000000000) (aIx:0<=G9/\G9<0x10000000000000000000000000000000000000000000000000000000000000000):(G9-A4)% 0x1000000000000000000000000000000014def9dea2f79cd65812631a5cf5d3ed=0:=by
 have k1:c1=0:=by omega
 have k2:bQ=0:=by omega
 have k3:cD=0:=by omega
 have k4:dq=0:=by omega
 have te:fM=0:=by omega
 have z1:hI=0:=by omega
 have v1:A4=0x1000000000000000000000000000000000000000000000000000000000000000*(A4/0x1000000000000000000000000000000000000000000000000000000000000000)+lb:=by omega
 have v2:Hb=0x1000000000000000000000000000000000000000000000000000000000000000*(Hb/0x1000000000000000000000000000000000000000000000000000000000000000)+l1:=by omega
 have v3:Hc=0x1000000000000000000000000000000000000000000000000000000000000000*(Hc/0x1000000000000000000000000000000000000000000000000000000000000000)+l2:=by omega
 have dM:A4/0x1000000000000000000000000000000000000000000000000000000000000000<0x100000000000000000000000000000000000000000000000000000000000000000:=by omega
 have b4:Hb/0x1000000000000000000000000000000000000000000000000000000000000000<0x2000000000000000000000000000000000:=by omega
 have cg:Hc/0x1000000000000000000000000000000000000000000000000000000000000000<64:=by omega
 have dh:J5<0x1000000000000000000000000000000000000000000000000000000000000000:=by omega
 have jH:0<=J5:=by omega
 have v4:n7=J5:=by omega
 have e:G9-A4=0x1000000000000000000000000000000014def9dea2f79cd65812631a5cf5d3ed*(2-A4/0x1000000000000000000000000000000000000000000000000000000000000000+Hb/0x1000000000000000000000000000000000000000000000000000000000000000-Hc/0x1000000000000000000000000000000000000000000000000000000000000000):=by
  clear f0 f2 f5 f7 dM b4 cg dh gk eJ ur BW aIw aIx;omega
 rw[e];exact Int.mul_emod_right _ _
def nt:lB:=⟨30,22,.u8,32,0,255,22,0,32,32,[],[ij]⟩
def BT:lB:=⟨30,122,.u8,64,0,255,24,0,32,64,[],[ij]⟩
def DR:lB:=⟨30,222,.u8,64,0,255,24,32,32,32,[],[ij]⟩
def jr:bq:=⟨31,29,[ij,ij],[ij,.bool]⟩
def js:bq:=⟨57,24,[ij,ij],[ij,c1]⟩
def iY:bq:=⟨59,26,[ij],[gK]⟩
def DS:bq:=⟨55,21,[ij,ij],[y0]⟩
def DF:bq:=⟨104,35,[y0],[ij,y0]⟩
def xk:bq:=⟨56,23,[y0],[ij]⟩
def DQ:bq:=⟨58,25,[ij],[ij]⟩
def n1:bq:=⟨14,13,[gK],[.bool]⟩
def oD:bq:=⟨39,11,[azo],[gK]⟩
def FT:bq:=⟨26,8,[gK,gK,gK],[gK]⟩
def FO:bq:=⟨53,14,[gK],[gK]⟩
end Go.ou
set_option maxRecDepth 100000
namespace Go.dg
open Go Go.bX
def fy (r:List Int) (o n:Nat):List Int:=(dP n).map λj=>U r (o+j) 0
def jJ (r:List Int):Nat->Nat->Int->(Int->Prop)->Prop
 |_,0,c,k=>k c
 |o,n+1,c,k=>∀z:Int,0<=z->z<=cP->z=cu 23 [c,U r o 0]->jJ r (o+1) n z k
def Kw (c:Int):Nat->Nat->List Int->(List Int->Prop)->Prop
 |0,_,acc,k=>k acc
 |n+1,i,acc,k=>aj 21 [c,(i:Int)]/\∀y:Int,0<=y->y<=255->y=cu 21 [c,(i:Int),0]->Kw c n (i+1) (acc++[y]) k
def oM:List Int:=[157,97,177,157,239,253,90,96,186,132,74,244,146,236,44,196,68,73,197,105,123,50,105,25,112,59,172,3,28,174,127,96]
abbrev b9 (l:List Int):Int:=Go.Fd.nb l
def ot (l:List Int):List Int:=jy bP l
def qk (l:List Int):Int:=b9 (ot l)% (Go.Fd.dG:Int)
def zB (zs:List Int):List Int:=(zs.getD 0 0/8*8)::((zs.drop 1).take 30++[zs.getD 31 0% 64+64])
def Cg (s:List Int):List Int:=zB ((ot s).take 32)
def Mj (s m:List Int):Int:=qk ((ot s).drop 32++m)
def Ae (s:List Int):Int:=Go.Fd.enc (Go.Fd.eK (b9 (Cg s)).toNat Go.Fd.kn)
def xG (s m g:List Int):Prop:=b9 (g.take 32)=Go.Fd.enc (Go.Fd.eK (Mj s m).toNat Go.Fd.kn)/\∃A,ay (aT 0 255 32) A/\b9 A=Ae s/\b9 (g.drop 32)=(qk (g.take 32++(A++m))*b9 (Cg s)+Mj s m)% (Go.Fd.dG:Int)
def Ij (k m g:List Int):Prop:=b9 (g.drop 32)<(Go.Fd.dG:Int)/\∃A,Go.Fd.dec (b9 k)=some A/\b9 (g.take 32)=Go.Fd.enc (Go.Fd.fO (Go.Fd.eK (qk (g.take 32++(k++m))).toNat (Go.Fd.rU A)) (Go.Fd.eK (b9 (g.drop 32)).toNat Go.Fd.kn))
def Mz (t:List UInt8):List Int:=t.map λb=>(b.toNat:Int)
def SB:Nat->List (List Int)->List (List Int)->Prop
 |112,[a],[r,[e]]=>Go.Fd.WZ [a] [r,[e]]
 |114,[k],[r]=>Go.Fd.WX [k] [r]
 |115,[k,a,l],[r,[e]]=>Go.Fd.WY [k,a,l] [r,[e]]
 |151,[a],[[z]]=>z=if b9 a<(Go.Fd.dG:Int)then 1 else 0
 |152,[a],[r]=>b9 r=b9 a% (Go.Fd.dG:Int)
 |153,[a,b,c],[r]=>b9 r=(b9 a*b9 b+b9 c)% (Go.Fd.dG:Int)
 |154,[a],[r]=>r=zB a
 |472,[[a],[b]],[[r]]=>af r=af a++(af b)
 |473,[[a],[b]],rs=>rs=[jy bP (aJ a++(aJ b))]
 |674,[[a],[b]],[r]=>b9 r=qk (aJ a++(aJ b))
 |675,[[a],[b],[c]],[r]=>b9 r=qk (aJ a++(aJ b++aJ c))
 |680,[s],[r]=>b9 r=Ae s
 |681,[s,[z]],[g]=>xG s (aJ z) g
 |682,[k,[z],g],[[b]]=>b=1↔Ij k (aJ z) g
 |683,[],[[r]]=>r=1
 |684,[_,_],[[r]]=>r=1
 |685,[_,_,_],[[r]]=>r=1
 |690,[n],[r]=>b9 r=Go.Fd.ad n
 |691,[],[r]=>Go.Fd.ad r=(Go.Fd.dG:Int)
 |692,[k,a],[r,[e]]=>Go.Fd.ahu [k,a] [r,[e]]
 |693,[a],[r]=>Go.Fd.ad r=b9 a
 |694,[a,b],[[z]]=>z=if Go.Fd.ad a<Go.Fd.ad b then 1 else 0
 |695,[a],[[z]]=>z=if b9 a<(Go.Fd.dG:Int)then 1 else 0
 |696,[_,_],[[r]]=>r=1
 |697,[[a],[b],[c]],[r]=>b9 r=qk (aJ a++(aJ b++aJ c))
 |720,[a],[r,[e]]=>Go.Fd.WZ [a] [r,[e]]
 |721,[k,a,l],[r,[e]]=>Go.Fd.WY [k,a,l] [r,[e]]
 |722,[a,b],[r,[c]]=>Go.Fd.q9 [a,b] [r,[c]]
 |723,[a,b],[r,[c]]=>Go.Fd.q8 [a,b] [r,[c]]
 |724,[a,b],[r]=>Go.Fd.ad a<(Go.Fd.dG:Int)->Go.Fd.ad b<(Go.Fd.dG:Int)->Go.Fd.ad r=(Go.Fd.ad a+Go.Fd.ad b)% (Go.Fd.dG:Int)
 |725,[[z]],[r]=>Go.Fd.ad r=b9 (aJ z)% (Go.Fd.dG:Int)
 |726,[a],[r]=>b9 r=b9 a% (Go.Fd.dG:Int)
 |727,[k,[z],g],[[b]]=>b=1↔Ij k (aJ z) g
 |729,[_,_,_],[[r]]=>r=1
 |750,[k],[r]=>Go.Fd.WX [k] [r]
 |751,[a],[r]=>r=zB a
 |752,[s],[a,[z]]=>a=Cg s/\aJ z=(ot s).drop 32
 |753,[s],[r]=>b9 r=Ae s
 |754,[a,b,c],[r]=>b9 r=(b9 a*b9 b+b9 c)% (Go.Fd.dG:Int)
 |755,[s,[z]],[g]=>xG s (aJ z) g
 |756,[[z]],rs=>rs=[jy bN (Mz (bD z))]
 |757,[[z]],rs=>rs=[jy bN (Mz (bD z))]
 |758,[_,_,_],[[r]]=>r=1
 |n,a,b=>axT n a b
end Go.dg
namespace Go.dg
open Go Go.bX
def JC (S:zzS) (s:List Int) (p:List Int->Prop):Prop:=∀k:List Int,ay (aT 0 255 32) k->S 680 [s] [k]->p k
def uL (S:zzS) (p:List Int->Prop):Prop:=aj 75 (oM++[0])/\∀g:List Int,ay (aT 0 255 64) g->S 681 [oM,[0]] [g]->p g
def Gr (x c:Int) (T F:Prop):Prop:=((decide (x=c))=true->T)/\((decide (x=c))=false->F)
theorem JB {x c:Int} {T F:Prop} (h:x=c) (t:T):Gr x c T F:=⟨λ_=>t,λe=>absurd h (of_decide_eq_false e)⟩
def r9 (S:zzS) (K:zzK) (k g:List Int):Prop:=Gr (U k 0 0) 215 (Gr (U k 1 0) 90 (Gr (U k 31 0) 26 (Gr (U g 0 0) 229 (Gr (U g 1 0) 86 (Gr (U g 32 0) 95 (Gr (U g 63 0) 11 (aj 75 (fy k 0 32++[0]++fy g 0 64)/\∀z:Int,0<=z->z<=1->S 682 [k,[0],g] [[z]]->K [] [[(cond (decide (z=1)) 1 0)]]) (K [] [[(cond (false) 1 0)]])) (K [] [[(cond (false) 1 0)]])) (K [] [[(cond (false) 1 0)]])) (K [] [[(cond (false) 1 0)]])) (K [] [[(cond (false) 1 0)]])) (K [] [[(cond (false) 1 0)]])) (K [] [[(cond (false) 1 0)]])
end Go.dg
namespace Go.dg
open Go Go.bX
def Tu (c l:Int):Nat->Nat->List Int->(List Int->Prop)->Prop
 |0,_,acc,k=>k acc
 |n+1,i,acc,k=>aj 30 [(i:Int),l]/\aj 21 [c,(i:Int)]/\∀y:Int,0<=y->y<=255->y=cu 21 [c,(i:Int),0]->Tu c l n (i+1) (acc++[y]) k
def RT (S:zzS) (K:zzK) (a:List (List Int)) (c:Int):Prop:=aj 71 [c]/\∀r:List Int,ay (aT 0 255 64) r->S 478 [[c]] [r]->∀q:List Int,ay (aT 0 255 32) q->S 726 [r] [q]->K a [q]
end Go.dg
namespace Go.dg
open Go Go.bX
def aV2:List Int:=[0,0,0,0,0,0,0,0,0,0,0,0,0,0,0,0,0,0,0,0,0,0,0,0,0,0,0,0,0,0,0,0,0,0,0,0,0,0,0,0,0,0,0,0,0,0,0,0,0,0,0,0,0,0,0,0,0,0,0,0,0,0,0,0]
def TB (S:zzS) (K:zzK) (e0:List Int) (r0:List Int) (iF:List Int):Prop:=aj 23 [0,32]/\jJ e0 32 32 0 λuR=>∀Cy:Int,(-1)<=Cy->Cy<=0x7fffffffffffffff->aj 22 [uR,0,32]/\∀z193:Int,0<=z193->z193<=cP->z193=cu 22 [uR,0,32]->K [r0] [iF,[z193]]
def zC (S:zzS) (K:zzK) (e0:List Int) (r0:List Int):Prop:=∀iF:List Int,ay (aT 0 255 32) iF->S 751 [(fy e0 0 32)] [iF]->TB S K e0 r0 iF
def TD (S:zzS) (K:zzK) (e0:List Int) (pO:List Int) (r0:List Int) (b6:List Int):Prop:=jJ e0 0 32 0 λz201=>aj 71 [z201]/\∀Jg:List Int,ay (aT 0 0xffffffffffffffff 4) Jg->S 725 [[z201]] [Jg]->∀Mb:List Int,ay (aT 0 0xffffffffffffffff 4) Mb->S 724 [pO,Jg] [Mb]->∀Mc:List Int,ay (aT 0 255 32) Mc->S 690 [Mb] [Mc]->K [r0,b6,e0] [Mc]
def N4 (S:zzS) (K:zzK) (dY:Int) (iH:Int) (tE:Int) (p4:List (List Int)->Prop) (rm:List (List Int)->Nat) (hP:Int):Prop:=aj 30 [(dY+32),64]/\aj 21 [iH,(dY+32)]/\(aj 67 [iH,(dY+32),1]->∀Sa:Int,0<=Sa->Sa<=cP->Sa=cu 42 [iH,(dY+32),0,tE]->(p4 [[(dY+1)],[Sa]]/\rm [[(dY+1)],[Sa]]<rm [[dY],[hP]]))
def HA (S:zzS) (K:zzK) (hP:Int) (dY:Int) (lZ:Int) (iH:Int) (p4:List (List Int)->Prop) (rm:List (List Int)->Nat):Prop:=aj 21 [hP,dY]/\(aj 67 [hP,dY,1]->∀tE:Int,0<=tE->tE<=cP->tE=cu 42 [hP,dY,0,lZ]->N4 S K dY tE iH p4 rm hP)
def TF (S:zzS) (K:zzK) (mZ:Int) (dY:Int) (hP:Int) (lZ:Int) (p4:List (List Int)->Prop) (rm:List (List Int)->Nat):Prop:=((aj 21 [mZ,dY]/\∀iH:Int,0<=iH->iH<=255->iH=cu 21 [mZ,dY,0]->HA S K hP dY lZ iH p4 rm)/\(aj 21 [hP,dY]/\(aj 67 [hP,dY,1]->∀iH:Int,0<=iH->iH<=cP->iH=cu 42 [hP,dY,0,lZ]->aj 21 [mZ,dY]/\∀tE:Int,0<=tE->tE<=255->tE=cu 21 [mZ,dY,0]->N4 S K dY iH tE p4 rm hP)))
def ab0 (S:zzS) (K:zzK) (dY:Int) (uS:Int) (mZ:Int) (hP:Int) (p4:List (List Int)->Prop) (rm:List (List Int)->Nat):Prop:=aj 30 [dY,32]/\((aj 21 [uS,dY]/\∀lZ:Int,0<=lZ->lZ<=255->lZ=cu 21 [uS,dY,0]->((aj 21 [mZ,dY]/\∀iH:Int,0<=iH->iH<=255->iH=cu 21 [mZ,dY,0]->aj 30 [dY,64]/\HA S K hP dY lZ iH p4 rm)/\(aj 30 [dY,64]/\TF S K mZ dY hP lZ p4 rm)))/\(aj 21 [mZ,dY]/\∀lZ:Int,0<=lZ->lZ<=255->lZ=cu 21 [mZ,dY,0]->aj 21 [uS,dY]/\∀iH:Int,0<=iH->iH<=255->iH=cu 21 [uS,dY,0]->aj 30 [dY,64]/\HA S K hP dY iH lZ p4 rm))
def TE (S:zzS) (K:zzK) (nA:List Int) (iy:List Int) (gT:List Int) (hM:List Int) (r0:List Int) (bj:Int):Prop:=∀qo:List Int,ay (aT 0 255 32) qo->S 754 [nA,iy,gT] [qo]->jJ hM 0 32 0 λuS=>jJ qo 0 32 0 λmZ=>jJ aV2 0 64 0 λX3=>∃(p4:List (List Int)->Prop) (rm:List (List Int)->Nat),p4 [[0],[X3]]/\(∀dY:Int,0<=dY->dY<=32->∀hP:Int,0<=hP->hP<=cP->p4 [[dY],[hP]]->(((decide (dY<32))=true->((aj 30 [dY,32]/\((aj 21 [uS,dY]/\∀lZ:Int,0<=lZ->lZ<=255->lZ=cu 21 [uS,dY,0]->((aj 30 [dY,32]/\((aj 21 [mZ,dY]/\∀iH:Int,0<=iH->iH<=255->iH=cu 21 [mZ,dY,0]->aj 30 [dY,64]/\HA S K hP dY lZ iH p4 rm)/\(aj 30 [dY,64]/\TF S K mZ dY hP lZ p4 rm)))/\(aj 30 [dY,64]/\((aj 30 [dY,32]/\TF S K mZ dY hP lZ p4 rm)/\(aj 21 [hP,dY]/\(aj 67 [hP,dY,1]->∀iH:Int,0<=iH->iH<=cP->iH=cu 42 [hP,dY,0,lZ]->aj 30 [dY,32]/\aj 21 [mZ,dY]/\∀tE:Int,0<=tE->tE<=255->tE=cu 21 [mZ,dY,0]->N4 S K dY iH tE p4 rm hP))))))/\(ab0 S K dY uS mZ hP p4 rm)))/\(aj 30 [dY,32]/\((ab0 S K dY uS mZ hP p4 rm)/\(aj 21 [mZ,dY]/\∀lZ:Int,0<=lZ->lZ<=255->lZ=cu 21 [mZ,dY,0]->aj 30 [dY,32]/\aj 21 [uS,dY]/\∀iH:Int,0<=iH->iH<=255->iH=cu 21 [uS,dY,0]->aj 30 [dY,64]/\HA S K hP dY iH lZ p4 rm)))))/\((decide (dY<32))=false->Kw hP 64 0 [] λtA=>K [r0,[bj]] [tA])))
end Go.dg
namespace Go.dg
open Go Go.bX
abbrev en:Int:=0x10000000000000000
def av0:List Int:=[0,0,0,0,0,0,0,0,0,0,0,0,0,0,0,0,0,0,0,0,0,0,0,0,0,0,0,0,0,0,0,0,0,0,0,0,0,0,0,0,0,0,0,0,0,0,0,0,0,0,0,0,0,0,0,0,0,0,0,0,0,0,0,0,0,0,0,0,0,0,0,0,0,0,0,0,0,0,0,0]
def azc:List Int:=[0x6a09e667f3bcc908,0xbb67ae8584caa73b,0x3c6ef372fe94f82b,0xa54ff53a5f1d36f1,0x510e527fade682d1,0x9b05688c2b3e6c1f,0x1f83d9abfb41bd6b,0x5be0cd19137e2179]
def atw (K:zzK) (z0 g:Int):Prop:=∃(c5:List (List Int)->Prop) (ey:List (List Int)->Nat),c5 [[0],[0],[0],[(-1)]]/\(dy 0 8 λi=>dV λc=>qm λl=>cz λk=>c5 [[i],[c],[l],[k]]->eb (decide (i<8)) (∃(J:List (List Int)->Prop) (SE:List (List Int)->Nat),J [[56],[c],[l],[k]]/\(dy (-8) 56 λs=>dV λd=>qm λe=>cz λf=>J [[s],[d],[e],[f]]->eb (decide (0<=s)) (aj 30 [i,8]/\aj 21 [g,i]/\ql 21 [g,i,0] λx=>∀y:Int,0<=y->y<=0xffffffffffffffff->y=x/2^(s).toNat->aq 0 0xffffffffffffff y 256 λq=>aj 31 [d,e]/\aj 23 [d,1]/\ck 23 [d,(y+((-256)*q))] λtQ=>cz λnQ=>(J [[(s+(-8))],[tQ],[(e+1)],[nQ]]/\SE [[(s+(-8))],[tQ],[(e+1)],[nQ]]<SE [[s],[d],[e],[f]])) (c5 [[(i+1)],[d],[e],[f]]/\ey [[(i+1)],[d],[e],[f]]<ey [[i],[c],[l],[k]]))) (aj 22 [c,0,l]/\ck 22 [c,0,l] λr=>K [[z0]] [[r]]))
def atu (c n a m0:Int) (P:Int->Prop):Prop:=∃(c5:List (List Int)->Prop) (ey:List (List Int)->Nat),c5 [[0],[m0]]/\(dy 0 128 λi=>dV λm=>c5 [[i],[m]]->eb (decide (i<128)) (aq 0 15 i 8 λx=>aq 0 15 i 8 λy=>aj 30 [y,80]/\aj 21 [m,y]/\ql 21 [m,y,0] λw=>aq 0 255 (256*w) 0x10000000000000000 λu=>bg ((a+i)+0x8000000000000000) 0x10000000000000000 λt=>aj 30 [(a+(i+((-0x10000000000000000)*t))),n]/\aj 21 [c,(a+(i+((-0x10000000000000000)*t)))]/\iE 21 [c,(a+(i+((-0x10000000000000000)*t))),0] λb=>aj 30 [x,80]/\aj 21 [m,x]/\(aj 67 [m,x,1]->ck 42 [m,x,0,((256*w)+(((-0x10000000000000000)*u)+b))] λm'=>(c5 [[(i+1)],[m']]/\ey [[(i+1)],[m']]<ey [[i],[m]]))) (P m))
def atz (S:zzS) (m0:Int) (P:Int->Prop):Prop:=∃(c5:List (List Int)->Prop) (ey:List (List Int)->Nat),c5 [[16],[m0]]/\(dy 16 80 λi=>dV λm=>c5 [[i],[m]]->eb (decide (i<80)) (aj 30 [(i+(-16)),80]/\aj 21 [m,(i+(-16))]/\ql 21 [m,(i+(-16)),0] λa=>aj 30 [(i+(-15)),80]/\aj 21 [m,(i+(-15))]/\ql 21 [m,(i+(-15)),0] λb=>aj 82 [b,1,8,7,1]/\aI λs=>S 481 [[b],[1,8,7],[1]] [[s]]->bg (a+s) 0x10000000000000000 λo=>aj 30 [(i+(-7)),80]/\aj 21 [m,(i+(-7))]/\ql 21 [m,(i+(-7)),0] λc=>bg (a+(s+(((-0x10000000000000000)*o)+c))) 0x10000000000000000 λp=>aj 30 [(i+(-2)),80]/\aj 21 [m,(i+(-2))]/\ql 21 [m,(i+(-2)),0] λd=>aj 82 [d,19,61,6,1]/\aI λt=>S 482 [[d],[19,61,6],[1]] [[t]]->bg (a+(s+(((-0x10000000000000000)*o)+(c+(((-0x10000000000000000)*p)+t))))) 0x10000000000000000 λq=>aI λx=>S 476 [[(a+(s+(((-0x10000000000000000)*o)+(c+(((-0x10000000000000000)*p)+(t+((-0x10000000000000000)*q)))))))]] [[x]]->aj 30 [i,80]/\aj 21 [m,i]/\(aj 67 [m,i,1]->ck 42 [m,i,0,x] λm'=>(c5 [[(i+1)],[m']]/\ey [[(i+1)],[m']]<ey [[i],[m]]))) (P m))
def aty (S:zzS) (m:Int) (h:List Int) (P:List Int->Prop):Prop:=∃(c5:List (List Int)->Prop) (ey:List (List Int)->Nat),c5 [[0],h]/\(dy 0 80 λi=>∀v:List Int,ay (aT 0 0xffffffffffffffff 8) v->c5 [[i],v]->eb (decide (i<80)) (aj 82 [U v 4 0,14,18,41,0]/\aI λa=>S 480 [[U v 4 0],[14,18,41],[0]] [[a]]->bg (U v 7 0+a) 0x10000000000000000 λo=>dy 0 (cL .u64) λb=>b=br .and .u64 (U v 4 0) (U v 5 0)->dy 0 (cL .u64) λc=>c=br .and .u64 (((-1)*(U v 4 0))+0xffffffffffffffff) (U v 6 0)->dy 0 (cL .u64) λd=>d=br .xor .u64 b c->bg (U v 7 0+(a+(((-0x10000000000000000)*o)+d))) 0x10000000000000000 λp=>aj 74 [i,80]/\dy 0x6ca6351e003826f 0xf57d4f7fee6ed178 λe=>e=U uF i.toNat 0->bg (U v 7 0+(a+(((-0x10000000000000000)*o)+(d+(((-0x10000000000000000)*p)+e))))) 0x10000000000000000 λq=>aj 30 [i,80]/\aj 21 [m,i]/\ql 21 [m,i,0] λx=>bg (U v 7 0+(a+(((-0x10000000000000000)*o)+(d+(((-0x10000000000000000)*p)+(e+(((-0x10000000000000000)*q)+x))))))) 0x10000000000000000 λr=>aI λt=>S 476 [[(U v 7 0+(a+(((-0x10000000000000000)*o)+(d+(((-0x10000000000000000)*p)+(e+(((-0x10000000000000000)*q)+(x+((-0x10000000000000000)*r)))))))))]] [[t]]->aj 82 [U v 0 0,28,34,39,0]/\aI λf=>S 479 [[U v 0 0],[28,34,39],[0]] [[f]]->dy 0 (cL .u64) λg1=>g1=br .and .u64 (U v 0 0) (U v 1 0)->dy 0 (cL .u64) λg2=>g2=br .and .u64 (U v 0 0) (U v 2 0)->dy 0 (cL .u64) λg3=>g3=br .xor .u64 g1 g2->dy 0 (cL .u64) λg4=>g4=br .and .u64 (U v 1 0) (U v 2 0)->dy 0 (cL .u64) λg5=>g5=br .xor .u64 g3 g4->bg (f+g5) 0x10000000000000000 λkG=>aI λu=>S 476 [[(f+(g5+((-0x10000000000000000)*kG)))]] [[u]]->bg (t+u) 0x10000000000000000 λpc=>aI λy=>S 476 [[(t+(u+((-0x10000000000000000)*pc)))]] [[y]]->bg (U v 3 0+t) 0x10000000000000000 λagk=>aI λw=>S 476 [[(U v 3 0+(t+((-0x10000000000000000)*agk)))]] [[w]]->(c5 [[(i+1)],[y,U v 0 0,U v 1 0,U v 2 0,w,U v 4 0,U v 5 0,U v 6 0]]/\ey [[(i+1)],[y,U v 0 0,U v 1 0,U v 2 0,w,U v 4 0,U v 5 0,U v 6 0]]<ey [[i],v])) (P v))
def ahm (S:zzS) (h v:List Int):Nat->Nat->List Int->(List Int->Prop)->Prop
 |0,_,acc,k=>k acc
 |n+1,i,acc,k=>bg (U h i 0+U v i 0) 0x10000000000000000 λo=>aI λy=>S 476 [[(U h i 0+(U v i 0+((-0x10000000000000000)*o)))]] [[y]]->ahm S h v n (i+1) (acc++[y]) k
def ahl (S:zzS) (K:zzK) (z0 c n:Int):Prop:=∃(c5:List (List Int)->Prop) (ey:List (List Int)->Nat),c5 [[0],azc]/\(qm λa=>∀h:List Int,ay (aT 0 0xffffffffffffffff 8) h->c5 [[a],h]->eb (decide (a<n)) (jJ av0 0 80 0 λm=>atu c n a m λm=>atz S m λm=>aty S m h λv=>ahm S h v 8 0 [] λaP=>bg (a+0x8000000000000080) 0x10000000000000000 λo=>aj 39 [((a+((-0x10000000000000000)*o))+128),0,0x7fffffffffffffff]/\(c5 [[((a+((-0x10000000000000000)*o))+128)],aP]/\ey [[((a+((-0x10000000000000000)*o))+128)],aP]<ey [[a],h])) (jJ h 0 8 0 λg=>atw K z0 g))
def att (S:zzS) (K:zzK) (z0 z3 aY aN:Int):Prop:=
aq 0 3 (8*z3) 0x10000000000000000 λaS=>
 aq 0 255 ((8*z3)+((-0x10000000000000000)*aS)) 72057594037927936 λba=>
 aj 31 [aY,aN]/\
 aj 23 [aY,1]/\
 ck 23 [aY,ba] λaW=>
 cz λbm=>
 aq 0 65535 ((8*z3)+((-0x10000000000000000)*aS)) 281474976710656 λbp=>
 aq 0 255 bp 256 λz20=>
 aj 31 [aW,(aN+1)]/\
 aj 23 [aW,1]/\
 ck 23 [aW,(bp+((-256)*z20))] λz21=>
 cz λz22=>
 aq 0 16777215 ((8*z3)+((-0x10000000000000000)*aS)) 1099511627776 λbW=>
 aq 0 65535 bW 256 λz24=>
 aj 31 [z21,(aN+2)]/\
 aj 23 [z21,1]/\
 ck 23 [z21,(bW+((-256)*z24))] λcr=>
 cz λz26=>
 aq 0 4294967295 ((8*z3)+((-0x10000000000000000)*aS)) 4294967296 λb5=>
 aq 0 16777215 b5 256 λz28=>
 aj 31 [cr,(aN+3)]/\
 aj 23 [cr,1]/\
 ck 23 [cr,(b5+((-256)*z28))] λcl=>
 cz λcA=>
 aq 0 0xffffffffff ((8*z3)+((-0x10000000000000000)*aS)) 16777216 λz31=>
 aq 0 4294967295 z31 256 λbj=>
 aj 31 [cl,(aN+4)]/\
 aj 23 [cl,1]/\
 ck 23 [cl,(z31+((-256)*bj))] λbM=>
 cz λcw=>
 aq 0 0xffffffffffff ((8*z3)+((-0x10000000000000000)*aS)) 65536 λb7=>
 aq 0 0xffffffffff b7 256 λcp=>
 aj 31 [bM,(aN+5)]/\
 aj 23 [bM,1]/\
 ck 23 [bM,(b7+((-256)*cp))] λz37=>
 cz λcU=>
 aq 0 0xffffffffffffff ((8*z3)+((-0x10000000000000000)*aS)) 256 λcO=>
 aq 0 0xffffffffffff cO 256 λz40=>
 aj 31 [z37,(aN+6)]/\
 aj 23 [z37,1]/\
 ck 23 [z37,(cO+((-256)*z40))] λc2=>
 cz λdb=>
 aq 0 0xffffffffffffff ((8*z3)+((-0x10000000000000000)*aS)) 256 λdc=>
 aj 31 [c2,(aN+7)]/\
 aj 23 [c2,1]/\
 ck 23 [c2,((8*z3)+(((-0x10000000000000000)*aS)+((-256)*dc)))] λeh=>
 cz λdC=>
 ahl S K z0 eh (aN+8)
def ahn (S:zzS) (K:zzK) (z0 z3 aK aiY aF:Int):Prop:=
∃(x2:List (List Int)->Prop) (CQ:List (List Int)->Nat),x2 [[aK],[aiY],[aF]]/\(dV λaY=>qm λaN=>cz λz12=>x2 [[aY],[aN],[z12]]->
  dy (-0x8000000000000000) 0x7fffffffffffffff λa1=>S 441 [[z3],[64]] [[a1]]->
  aq (-1) 0 (a1+0x7ffffffffffffff8) 0x10000000000000000 λaG=>
  (eb (decide (aN<((a1+((-0x10000000000000000)*aG))+(-8)))) (aj 31 [aY,aN]/\
   aj 23 [aY,1]/\
   ck 23 [aY,0] λaS=>
   cz λba=>
   (x2 [[aS],[(aN+1)],[ba]]/\CQ [[aS],[(aN+1)],[ba]]<CQ [[aY],[aN],[z12]])) (att S K z0 z3 aY aN))
 )
end Go.dg
namespace Go.dg
open Go Go.bX
def azb:List Int:=[1779033703,3144134277,1013904242,2773480762,1359893119,2600822924,528734635,1541459225]
def auv (K:zzK) (z0 g:Int):Prop:=∃(c5:List (List Int)->Prop) (ey:List (List Int)->Nat),c5 [[0],[0],[0],[(-1)]]/\(dy 0 8 λi=>dV λc=>qm λl=>cz λk=>c5 [[i],[c],[l],[k]]->eb (decide (i<8)) (∃(J:List (List Int)->Prop) (SE:List (List Int)->Nat),J [[24],[c],[l],[k]]/\(dy (-8) 24 λs=>dV λd=>qm λe=>cz λf=>J [[s],[d],[e],[f]]->eb (decide (0<=s)) (aj 30 [i,8]/\aj 21 [g,i]/\ql 21 [g,i,0] λx=>∀y:Int,0<=y->y<=0xffffffffffffffff->y=x/2^(s).toNat->aq 0 0xffffffffffffff y 256 λq=>aj 31 [d,e]/\aj 23 [d,1]/\ck 23 [d,(y+((-256)*q))] λtQ=>cz λnQ=>(J [[(s+(-8))],[tQ],[(e+1)],[nQ]]/\SE [[(s+(-8))],[tQ],[(e+1)],[nQ]]<SE [[s],[d],[e],[f]])) (c5 [[(i+1)],[d],[e],[f]]/\ey [[(i+1)],[d],[e],[f]]<ey [[i],[c],[l],[k]]))) (aj 22 [c,0,l]/\ck 22 [c,0,l] λr=>K [[z0]] [[r]]))
def aut (c n a m0:Int) (P:Int->Prop):Prop:=∃(c5:List (List Int)->Prop) (ey:List (List Int)->Nat),c5 [[0],[m0]]/\(dy 0 64 λi=>dV λm=>c5 [[i],[m]]->eb (decide (i<64)) (aq 0 15 i 4 λx=>aq 0 15 i 4 λy=>aj 30 [y,80]/\aj 21 [m,y]/\ql 21 [m,y,0] λw=>aq 0 255 (256*w) 0x10000000000000000 λu=>bg ((a+i)+0x8000000000000000) 0x10000000000000000 λt=>aj 30 [(a+(i+((-0x10000000000000000)*t))),n]/\aj 21 [c,(a+(i+((-0x10000000000000000)*t)))]/\iE 21 [c,(a+(i+((-0x10000000000000000)*t))),0] λb=>aj 30 [x,80]/\aj 21 [m,x]/\(aj 67 [m,x,1]->ck 42 [m,x,0,((256*w)+(((-0x10000000000000000)*u)+b))] λm'=>(c5 [[(i+1)],[m']]/\ey [[(i+1)],[m']]<ey [[i],[m]]))) (P m))
def auz (S:zzS) (m0:Int) (P:Int->Prop):Prop:=∃(c5:List (List Int)->Prop) (ey:List (List Int)->Nat),c5 [[16],[m0]]/\(dy 16 64 λi=>dV λm=>c5 [[i],[m]]->eb (decide (i<64)) (aj 30 [(i+(-16)),80]/\aj 21 [m,(i+(-16))]/\ql 21 [m,(i+(-16)),0] λa=>aj 30 [(i+(-15)),80]/\aj 21 [m,(i+(-15))]/\ql 21 [m,(i+(-15)),0] λb=>aj 82 [b,7,18,3,1]/\aI λs=>S 486 [[b],[7,18,3],[1]] [[s]]->bg (a+s) 0x10000000000000000 λo=>aj 30 [(i+(-7)),80]/\aj 21 [m,(i+(-7))]/\ql 21 [m,(i+(-7)),0] λc=>bg (a+(s+(((-0x10000000000000000)*o)+c))) 0x10000000000000000 λp=>aj 30 [(i+(-2)),80]/\aj 21 [m,(i+(-2))]/\ql 21 [m,(i+(-2)),0] λd=>aj 82 [d,17,19,10,1]/\aI λt=>S 487 [[d],[17,19,10],[1]] [[t]]->bg (a+(s+(((-0x10000000000000000)*o)+(c+(((-0x10000000000000000)*p)+t))))) 0x10000000000000000 λq=>aI λx=>S 483 [[(a+(s+(((-0x10000000000000000)*o)+(c+(((-0x10000000000000000)*p)+(t+((-0x10000000000000000)*q)))))))]] [[x]]->aj 30 [i,80]/\aj 21 [m,i]/\(aj 67 [m,i,1]->ck 42 [m,i,0,x] λm'=>(c5 [[(i+1)],[m']]/\ey [[(i+1)],[m']]<ey [[i],[m]]))) (P m))
def auy (S:zzS) (m:Int) (h:List Int) (P:List Int->Prop):Prop:=∃(c5:List (List Int)->Prop) (ey:List (List Int)->Nat),c5 [[0],h]/\(dy 0 64 λi=>∀v:List Int,ay (aT 0 0xffffffffffffffff 8) v->c5 [[i],v]->eb (decide (i<64)) (aj 82 [U v 4 0,6,11,25,0]/\aI λa=>S 485 [[U v 4 0],[6,11,25],[0]] [[a]]->bg (U v 7 0+a) 0x10000000000000000 λo=>dy 0 (cL .u64) λb=>b=br .and .u64 (U v 4 0) (U v 5 0)->dy 0 (cL .u64) λc=>c=br .and .u64 (((-1)*(U v 4 0))+0xffffffffffffffff) (U v 6 0)->dy 0 (cL .u64) λd=>d=br .xor .u64 b c->bg (U v 7 0+(a+(((-0x10000000000000000)*o)+d))) 0x10000000000000000 λp=>aj 74 [i,80]/\dy 0x6ca6351e003826f 0xf57d4f7fee6ed178 λcv=>cv=U uF i.toNat 0->aq 113926993 4118630271 cv 4294967296 λe=>bg (U v 7 0+(a+(((-0x10000000000000000)*o)+(d+(((-0x10000000000000000)*p)+e))))) 0x10000000000000000 λq=>aj 30 [i,80]/\aj 21 [m,i]/\ql 21 [m,i,0] λx=>bg (U v 7 0+(a+(((-0x10000000000000000)*o)+(d+(((-0x10000000000000000)*p)+(e+(((-0x10000000000000000)*q)+x))))))) 0x10000000000000000 λr=>aI λt=>S 483 [[(U v 7 0+(a+(((-0x10000000000000000)*o)+(d+(((-0x10000000000000000)*p)+(e+(((-0x10000000000000000)*q)+(x+((-0x10000000000000000)*r)))))))))]] [[t]]->aj 82 [U v 0 0,2,13,22,0]/\aI λf=>S 484 [[U v 0 0],[2,13,22],[0]] [[f]]->dy 0 (cL .u64) λg1=>g1=br .and .u64 (U v 0 0) (U v 1 0)->dy 0 (cL .u64) λg2=>g2=br .and .u64 (U v 0 0) (U v 2 0)->dy 0 (cL .u64) λg3=>g3=br .xor .u64 g1 g2->dy 0 (cL .u64) λg4=>g4=br .and .u64 (U v 1 0) (U v 2 0)->dy 0 (cL .u64) λg5=>g5=br .xor .u64 g3 g4->bg (f+g5) 0x10000000000000000 λkG=>aI λu=>S 483 [[(f+(g5+((-0x10000000000000000)*kG)))]] [[u]]->bg (t+u) 0x10000000000000000 λpc=>aI λy=>S 483 [[(t+(u+((-0x10000000000000000)*pc)))]] [[y]]->bg (U v 3 0+t) 0x10000000000000000 λagk=>aI λw=>S 483 [[(U v 3 0+(t+((-0x10000000000000000)*agk)))]] [[w]]->(c5 [[(i+1)],[y,U v 0 0,U v 1 0,U v 2 0,w,U v 4 0,U v 5 0,U v 6 0]]/\ey [[(i+1)],[y,U v 0 0,U v 1 0,U v 2 0,w,U v 4 0,U v 5 0,U v 6 0]]<ey [[i],v])) (P v))
def ah7 (S:zzS) (h v:List Int):Nat->Nat->List Int->(List Int->Prop)->Prop
 |0,_,acc,k=>k acc
 |n+1,i,acc,k=>bg (U h i 0+U v i 0) 0x10000000000000000 λo=>aI λy=>S 483 [[(U h i 0+(U v i 0+((-0x10000000000000000)*o)))]] [[y]]->ah7 S h v n (i+1) (acc++[y]) k
def ah6 (S:zzS) (K:zzK) (z0 c n:Int):Prop:=∃(c5:List (List Int)->Prop) (ey:List (List Int)->Nat),c5 [[0],azb]/\(qm λa=>∀h:List Int,ay (aT 0 0xffffffffffffffff 8) h->c5 [[a],h]->eb (decide (a<n)) (jJ av0 0 80 0 λm=>aut c n a m λm=>auz S m λm=>auy S m h λv=>ah7 S h v 8 0 [] λaP=>bg (a+0x8000000000000040) 0x10000000000000000 λo=>aj 39 [((a+((-0x10000000000000000)*o))+64),0,0x7fffffffffffffff]/\(c5 [[((a+((-0x10000000000000000)*o))+64)],aP]/\ey [[((a+((-0x10000000000000000)*o))+64)],aP]<ey [[a],h])) (jJ h 0 8 0 λg=>auv K z0 g))
def aus (S:zzS) (K:zzK) (z0 z3 aY aN:Int):Prop:=
aq 0 3 (8*z3) 0x10000000000000000 λaS=>
 aq 0 255 ((8*z3)+((-0x10000000000000000)*aS)) 72057594037927936 λba=>
 aj 31 [aY,aN]/\
 aj 23 [aY,1]/\
 ck 23 [aY,ba] λaW=>
 cz λbm=>
 aq 0 65535 ((8*z3)+((-0x10000000000000000)*aS)) 281474976710656 λbp=>
 aq 0 255 bp 256 λz20=>
 aj 31 [aW,(aN+1)]/\
 aj 23 [aW,1]/\
 ck 23 [aW,(bp+((-256)*z20))] λz21=>
 cz λz22=>
 aq 0 16777215 ((8*z3)+((-0x10000000000000000)*aS)) 1099511627776 λbW=>
 aq 0 65535 bW 256 λz24=>
 aj 31 [z21,(aN+2)]/\
 aj 23 [z21,1]/\
 ck 23 [z21,(bW+((-256)*z24))] λcr=>
 cz λz26=>
 aq 0 4294967295 ((8*z3)+((-0x10000000000000000)*aS)) 4294967296 λb5=>
 aq 0 16777215 b5 256 λz28=>
 aj 31 [cr,(aN+3)]/\
 aj 23 [cr,1]/\
 ck 23 [cr,(b5+((-256)*z28))] λcl=>
 cz λcA=>
 aq 0 0xffffffffff ((8*z3)+((-0x10000000000000000)*aS)) 16777216 λz31=>
 aq 0 4294967295 z31 256 λbj=>
 aj 31 [cl,(aN+4)]/\
 aj 23 [cl,1]/\
 ck 23 [cl,(z31+((-256)*bj))] λbM=>
 cz λcw=>
 aq 0 0xffffffffffff ((8*z3)+((-0x10000000000000000)*aS)) 65536 λb7=>
 aq 0 0xffffffffff b7 256 λcp=>
 aj 31 [bM,(aN+5)]/\
 aj 23 [bM,1]/\
 ck 23 [bM,(b7+((-256)*cp))] λz37=>
 cz λcU=>
 aq 0 0xffffffffffffff ((8*z3)+((-0x10000000000000000)*aS)) 256 λcO=>
 aq 0 0xffffffffffff cO 256 λz40=>
 aj 31 [z37,(aN+6)]/\
 aj 23 [z37,1]/\
 ck 23 [z37,(cO+((-256)*z40))] λc2=>
 cz λdb=>
 aq 0 0xffffffffffffff ((8*z3)+((-0x10000000000000000)*aS)) 256 λdc=>
 aj 31 [c2,(aN+7)]/\
 aj 23 [c2,1]/\
 ck 23 [c2,((8*z3)+(((-0x10000000000000000)*aS)+((-256)*dc)))] λeh=>
 cz λdC=>
 ah6 S K z0 eh (aN+8)
def ah8 (S:zzS) (K:zzK) (z0 z3 aK aiY aF:Int):Prop:=
∃(x2:List (List Int)->Prop) (CQ:List (List Int)->Nat),x2 [[aK],[aiY],[aF]]/\(dV λaY=>qm λaN=>cz λz12=>x2 [[aY],[aN],[z12]]->
  dy (-0x8000000000000000) 0x7fffffffffffffff λa1=>S 441 [[z3],[32]] [[a1]]->
  aq (-1) 0 (a1+0x7ffffffffffffff8) 0x10000000000000000 λaG=>
  (eb (decide (aN<((a1+((-0x10000000000000000)*aG))+(-8)))) (aj 31 [aY,aN]/\
   aj 23 [aY,1]/\
   ck 23 [aY,0] λaS=>
   cz λba=>
   (x2 [[aS],[(aN+1)],[ba]]/\CQ [[aS],[(aN+1)],[ba]]<CQ [[aY],[aN],[z12]])) (aus S K z0 z3 aY aN))
 )
end Go.dg
namespace Go.dg
open Go Go.bX
def uv:c3:= .rX [.int .u8 0 255] 5
def x8:D:= .int .i64 (-0x8000000000000000) 0x7fffffffffffffff
def anh:D:= .int .i64 0 79
def aIu:c3:= .rd [.int .u32 0 4294967295]
def Wm:c3:= .rX [.int .u32 0 4294967295] 92
def aIv:c3:= .rd [.int .u64 0 0xffffffffffffffff]
def Wn:c3:= .rX [.int .u64 0 0xffffffffffffffff] 45
def qV:D:= .kF .i64 32
def qW:D:= .kF .i64 64
def vo:D:= .int .u32 0 4294967295
def cx:D:= .int .u64 0 0xffffffffffffffff
def cN:D:= .agg .u8 32 0 255
def j7:D:= .agg .u8 64 0 255
def anX:D:= .int .i64 0 1
def hh:c3:= .rd [.int .u8 0 255]
def aHp:D:= .int .i64 1 1
def aq8:D:= .int .i64 6 6
def aq9:D:= .int .i64 7 7
def aHE:D:= .int .i64 8 8
def aHt:D:= .int .i64 14 14
def aq6:D:= .int .i64 18 18
def aq7:D:= .int .i64 19 19
def aHy:D:= .int .i64 28 28
def aHA:D:= .int .i64 34 34
def aHB:D:= .int .i64 39 39
def aHC:D:= .int .i64 41 41
def aHD:D:= .int .i64 61 61
def aIK:D:= .mix [.int .i64 28 28,.int .i64 34 34,.int .i64 39 39]
def aIL:D:= .mix [.int .i64 14 14,.int .i64 18 18,.int .i64 41 41]
def aIM:D:= .mix [.int .i64 1 1,.int .i64 8 8,.int .i64 7 7]
def aIN:D:= .mix [.int .i64 19 19,.int .i64 61 61,.int .i64 6 6]
def dO:D:= .agg .u64 4 0 0xffffffffffffffff
def aHv:D:= .int .i64 2 2
def aHz:D:= .int .i64 3 3
def aHq:D:= .int .i64 10 10
def aHr:D:= .int .i64 11 11
def aHs:D:= .int .i64 13 13
def aHu:D:= .int .i64 17 17
def aHw:D:= .int .i64 22 22
def aHx:D:= .int .i64 25 25
def aIO:D:= .mix [.int .i64 2 2,.int .i64 13 13,.int .i64 22 22]
def aIP:D:= .mix [.int .i64 6 6,.int .i64 11 11,.int .i64 25 25]
def aIQ:D:= .mix [.int .i64 7 7,.int .i64 18 18,.int .i64 3 3]
def aIR:D:= .mix [.int .i64 17 17,.int .i64 19 19,.int .i64 10 10]
def c1:D:= .int .u64 0 1
end Go.dg
set_option linter.unusedSimpArgs false
namespace Go.dg
open Go Go.bX
def YX (S:zzS) (K:zzK):Prop:=vJ λz0=>aq 0 1073741823 (1073741824*z0) 4294967296 λar=>aq 0 1073741823 z0 4 λz2=>bY λz3=>z3<=cL .u32->z3=br .xor .u32 0 ((1073741824*z0)+(((-4294967296)*ar)+z2))->aq 0 524287 (524288*z0) 4294967296 λz4=>aq 0 524287 z0 8192 λz5=>bY λaZ=>aZ<=cL .u32->aZ=br .xor .u32 z3 ((524288*z0)+(((-4294967296)*z4)+z5))->aq 0 1023 (1024*z0) 4294967296 λaK=>aq 0 1023 z0 4194304 λaF=>bY λ z9=>z9<=cL .u32->z9=br .xor .u32 aZ ((1024*z0)+(((-4294967296)*aK)+aF))->K [[z0]] [[z9]]
def YZ (S:zzS) (K:zzK):Prop:=vJ λz0=>aq 0 67108863 (67108864*z0) 4294967296 λar=>aq 0 67108863 z0 64 λz2=>bY λz3=>z3<=cL .u32->z3=br .xor .u32 0 ((67108864*z0)+(((-4294967296)*ar)+z2))->aq 0 2097151 (2097152*z0) 4294967296 λz4=>aq 0 2097151 z0 2048 λz5=>bY λaZ=>aZ<=cL .u32->aZ=br .xor .u32 z3 ((2097152*z0)+(((-4294967296)*z4)+z5))->aq 0 127 (128*z0) 4294967296 λaK=>aq 0 127 z0 33554432 λaF=>bY λ z9=>z9<=cL .u32->z9=br .xor .u32 aZ ((128*z0)+(((-4294967296)*aK)+aF))->K [[z0]] [[z9]]
def Y1 (S:zzS) (K:zzK):Prop:=vJ λz0=>aq 0 33554431 (33554432*z0) 4294967296 λar=>aq 0 33554431 z0 128 λz2=>bY λz3=>z3<=cL .u32->z3=br .xor .u32 0 ((33554432*z0)+(((-4294967296)*ar)+z2))->aq 0 16383 (16384*z0) 4294967296 λz4=>aq 0 16383 z0 262144 λz5=>bY λaZ=>aZ<=cL .u32->aZ=br .xor .u32 z3 ((16384*z0)+(((-4294967296)*z4)+z5))->aq 0 536870911 z0 8 λaK=>bY λaF=>aF<=cL .u32->aF=br .xor .u32 aZ aK->K [[z0]] [[aF]]
def Y3 (S:zzS) (K:zzK):Prop:=vJ λz0=>aq 0 32767 (32768*z0) 4294967296 λar=>aq 0 32767 z0 131072 λz2=>bY λz3=>z3<=cL .u32->z3=br .xor .u32 0 ((32768*z0)+(((-4294967296)*ar)+z2))->aq 0 8191 (8192*z0) 4294967296 λz4=>aq 0 8191 z0 524288 λz5=>bY λaZ=>aZ<=cL .u32->aZ=br .xor .u32 z3 ((8192*z0)+(((-4294967296)*z4)+z5))->aq 0 4194303 z0 1024 λaK=>bY λaF=>aF<=cL .u32->aF=br .xor .u32 aZ aK->K [[z0]] [[aF]]
def YY (S:zzS) (K:zzK):Prop:=aI λz0=>aq 0 68719476735 (68719476736*z0) en λar=>aq 0 68719476735 z0 268435456 λz2=>bY λz3=>z3<=cL .u64->z3=br .xor .u64 0 ((68719476736*z0)+((a7*ar)+z2))->aq 0 1073741823 (1073741824*z0) en λz4=>aq 0 1073741823 z0 17179869184 λz5=>bY λaZ=>aZ<=cL .u64->aZ=br .xor .u64 z3 ((1073741824*z0)+((a7*z4)+z5))->aq 0 33554431 (33554432*z0) en λaK=>aq 0 33554431 z0 549755813888 λaF=>bY λz9=>z9<=cL .u64->z9=br .xor .u64 aZ ((33554432*z0)+((a7*aK)+aF))->K [[z0]] [[z9]]
def Y0 (S:zzS) (K:zzK):Prop:=aI λz0=>aq 0 0x3ffffffffffff (0x4000000000000*z0) en λar=>aq 0 0x3ffffffffffff z0 16384 λz2=>bY λz3=>z3<=cL .u64->z3=br .xor .u64 0 ((0x4000000000000*z0)+((a7*ar)+z2))->aq 0 70368744177663 (70368744177664*z0) en λz4=>aq 0 70368744177663 z0 262144 λz5=>bY λaZ=>aZ<=cL .u64->aZ=br .xor .u64 z3 ((70368744177664*z0)+((a7*z4)+z5))->aq 0 8388607 (8388608*z0) en λaK=>aq 0 8388607 z0 2199023255552 λaF=>bY λz9=>z9<=cL .u64->z9=br .xor .u64 aZ ((8388608*z0)+((a7*aK)+aF))->K [[z0]] [[z9]]
def Y2 (S:zzS) (K:zzK):Prop:=aI λz0=>aq 0 oF (0x8000000000000000*z0) en λar=>aq 0 oF z0 2 λz2=>bY λz3=>z3<=cL .u64->z3=br .xor .u64 0 ((0x8000000000000000*z0)+((a7*ar)+z2))->aq 0 0xffffffffffffff (72057594037927936*z0) en λz4=>aq 0 0xffffffffffffff z0 256 λz5=>bY λaZ=>aZ<=cL .u64->aZ=br .xor .u64 z3 ((72057594037927936*z0)+((a7*z4)+z5))->aq 0 0x1ffffffffffffff z0 128 λaK=>bY λaF=>aF<=cL .u64->aF=br .xor .u64 aZ aK->K [[z0]] [[aF]]
def Y4 (S:zzS) (K:zzK):Prop:=aI λz0=>aq 0 35184372088831 (35184372088832*z0) en λar=>aq 0 35184372088831 z0 524288 λz2=>bY λz3=>z3<=cL .u64->z3=br .xor .u64 0 ((35184372088832*z0)+((a7*ar)+z2))->aq 0 7 (8*z0) en λz4=>aq 0 7 z0 0x2000000000000000 λz5=>bY λaZ=>aZ<=cL .u64->aZ=br .xor .u64 z3 ((8*z0)+((a7*z4)+z5))->aq 0 0x3ffffffffffffff z0 64 λaK=>bY λaF=>aF<=cL .u64->aF=br .xor .u64 aZ aK->K [[z0]] [[aF]]
theorem aPH (w n:Nat) (hn:n<=w) (z q r:Int) (h1:0<=2^(w-n)*z-2^w*q) (h2:2^(w-n)*z-2^w*q<2^w) (h3:0<=z-2^n*r) (h4:z-2^n*r<2^n):(2^(w-n)*z-2^w*q)+r=fc w n z:=by
 have e:(2:Int)^w=2^(w-n)*2^n:=by rw[<-Ya];congr 1;omega
 have bw:(0:Int)<2^(w-n):=Int.pow_pos (by decide);have bz:(0:Int)<2^n:=Int.pow_pos (by decide);have qJ:z/2^n=r:=by
  rw[Yh bz];constructor
  ·rw[kL];omega
  ·rw[kL r];omega
 have eq:q=r:=by
  rw[e]at h1 h2;have f1:2^(w-n)*z-2^(w-n)*2^n*q=2^(w-n)*(z-2^n*q):=by rw[Int.mul_sub,CD]
  rw[f1]at h1 h2;have g1:0<=z-2^n*q:=by
   rcases Int.lt_or_le (z-2^n*q) 0 with h|h
   ·have:=Int.mul_neg_of_pos_of_neg bw h;omega
   ·exact h
  have g2:z-2^n*q<2^n:=Int.lt_of_mul_lt_mul_left h2 (qv bw);have:=qJ;rw[Yh bz]at this;have h5:z/2^n=q:=by
   rw[Yh bz];constructor
   ·rw[kL];omega
   ·rw[kL q];omega
  rw[<-h5,qJ]
 subst eq;unfold fc;rw[qJ,Int.emod_def,qJ,e,CD,<-Int.mul_sub,kL (z-2^n*q) _];omega
theorem pS (w n:Nat) (hn:n<=w) (A B D:Int) (aV:A=2^(w-n)) (da:B=2^w) (nR:D=2^n) {z q r:Int} (h1:0<=A*z-B*q) (h2:A*z-B*q<B) (h3:0<=z-D*r) (h4:z-D*r<D):A*z+(-B*q+r)=fc w n z:=by
 subst aV;subst da;subst nR;rw[<-aPH w n hn z q r h1 h2 h3 h4,Int.neg_mul];omega
theorem aMs:YX SB (fA SB [vo] 444):=by
 delta YX aq bY vJ;dsimp only
 intro z0 a0 bR ar aQ D8 bw sL z2 bn D9 bz sM z3 cj Am ca z4 dU I7 fa uw z5 jv I8 fv ux aZ lK I9 pF aK nz Ja lJ Ak aF lU An Al IZ z9 Jb Jc nc;have r1:=pS 32 2 (by decide) 1073741824 4294967296 4 (by decide) (by decide) (by decide) bw sL bz sM;have bb:=pS 32 13 (by decide) 524288 4294967296 8192 (by decide) (by decide) (by decide) fa uw fv ux;have uC:=pS 32 22 (by decide) 1024 4294967296 4194304 (by decide) (by decide) (by decide) lJ Ak Al IZ;refine⟨⟨Jb,Jc,trivial⟩,?_⟩;show [[z9]]=[[vk bN z0]];rw[nc,pF,ca,r1,bb,uC];rfl
theorem aMu:YZ SB (fA SB [vo] 445):=by
 delta YZ aq bY vJ;dsimp only
 intro z0 a0 bR ar aQ D8 bw sL z2 bn D9 bz sM z3 cj Am ca z4 dU I7 fa uw z5 jv I8 fv ux aZ lK I9 pF aK nz Ja lJ Ak aF lU An Al IZ z9 Jb Jc nc;have r1:=pS 32 6 (by decide) 67108864 4294967296 64 (by decide) (by decide) (by decide) bw sL bz sM;have bb:=pS 32 11 (by decide) 2097152 4294967296 2048 (by decide) (by decide) (by decide) fa uw fv ux;have uC:=pS 32 25 (by decide) 128 4294967296 33554432 (by decide) (by decide) (by decide) lJ Ak Al IZ;refine⟨⟨Jb,Jc,trivial⟩,?_⟩;show [[z9]]=[[vl bN z0]];rw[nc,pF,ca,r1,bb,uC];rfl
theorem aMw:Y1 SB (fA SB [vo] 446):=by
 delta Y1 aq bY vJ;dsimp only
 intro z0 a0 bR ar aQ D8 bw sL z2 bn D9 bz sM z3 cj Am ca z4 dU I7 fa uw z5 jv I8 fv ux aZ lK I9 pF aK nz Ja lJ Ak aF lU An tS;have r1:=pS 32 7 (by decide) 33554432 4294967296 128 (by decide) (by decide) (by decide) bw sL bz sM;have bb:=pS 32 18 (by decide) 16384 4294967296 262144 (by decide) (by decide) (by decide) fa uw fv ux;have uC:aK=z0/2^3:=by rw[show(2:Int)^3=8 by decide];omega
 refine⟨⟨lU,An,trivial⟩,?_⟩;show [[aF]]=[[Cj bN z0]];rw[tS,pF,ca,r1,bb,uC];rfl
theorem aMy:Y3 SB (fA SB [vo] 447):=by
 delta Y3 aq bY vJ;dsimp only
 intro z0 a0 bR ar aQ D8 bw sL z2 bn D9 bz sM z3 cj Am ca z4 dU I7 fa uw z5 jv I8 fv ux aZ lK I9 pF aK nz Ja lJ Ak aF lU An tS;have r1:=pS 32 17 (by decide) 32768 4294967296 131072 (by decide) (by decide) (by decide) bw sL bz sM;have bb:=pS 32 19 (by decide) 8192 4294967296 524288 (by decide) (by decide) (by decide) fa uw fv ux;have uC:aK=z0/2^10:=by rw[show(2:Int)^10=1024 by decide];omega
 refine⟨⟨lU,An,trivial⟩,?_⟩;show [[aF]]=[[Ck bN z0]];rw[tS,pF,ca,r1,bb,uC];rfl
theorem aMt:YY SB (fA SB [cx] 448):=by
 delta YY aq bY aI en a7;dsimp only
 intro z0 a0 bR ar aQ D8 bw sL z2 bn D9 bz sM z3 cj Am ca z4 dU I7 fa uw z5 jv I8 fv ux aZ lK I9 pF aK nz Ja lJ Ak aF lU An Al IZ z9 Jb Jc nc;have r1:=pS 64 28 (by decide) 68719476736 0x10000000000000000 268435456 (by decide) (by decide) (by decide) bw sL bz sM;have bb:=pS 64 34 (by decide) 1073741824 0x10000000000000000 17179869184 (by decide) (by decide) (by decide) fa uw fv ux;have uC:=pS 64 39 (by decide) 33554432 0x10000000000000000 549755813888 (by decide) (by decide) (by decide) lJ Ak Al IZ;refine⟨⟨Jb,Jc,trivial⟩,?_⟩;show [[z9]]=[[vk bP z0]];rw[nc,pF,ca,r1,bb,uC];rfl
theorem aMv:Y0 SB (fA SB [cx] 449):=by
 delta Y0 aq bY aI en a7;dsimp only
 intro z0 a0 bR ar aQ D8 bw sL z2 bn D9 bz sM z3 cj Am ca z4 dU I7 fa uw z5 jv I8 fv ux aZ lK I9 pF aK nz Ja lJ Ak aF lU An Al IZ z9 Jb Jc nc;have r1:=pS 64 14 (by decide) 0x4000000000000 0x10000000000000000 16384 (by decide) (by decide) (by decide) bw sL bz sM;have bb:=pS 64 18 (by decide) 70368744177664 0x10000000000000000 262144 (by decide) (by decide) (by decide) fa uw fv ux;have uC:=pS 64 41 (by decide) 8388608 0x10000000000000000 2199023255552 (by decide) (by decide) (by decide) lJ Ak Al IZ;refine⟨⟨Jb,Jc,trivial⟩,?_⟩;show [[z9]]=[[vl bP z0]];rw[nc,pF,ca,r1,bb,uC];rfl
theorem aMx:Y2 SB (fA SB [cx] 450):=by
 delta Y2 aq bY aI en a7 oF;dsimp only
 intro z0 a0 bR ar aQ D8 bw sL z2 bn D9 bz sM z3 cj Am ca z4 dU I7 fa uw z5 jv I8 fv ux aZ lK I9 pF aK nz Ja lJ Ak aF lU An tS;have r1:=pS 64 1 (by decide) 0x8000000000000000 0x10000000000000000 2 (by decide) (by decide) (by decide) bw sL bz sM;have bb:=pS 64 8 (by decide) 72057594037927936 0x10000000000000000 256 (by decide) (by decide) (by decide) fa uw fv ux;have uC:aK=z0/2^7:=by rw[show(2:Int)^7=128 by decide];omega
 refine⟨⟨lU,An,trivial⟩,?_⟩;show [[aF]]=[[Cj bP z0]];rw[tS,pF,ca,r1,bb,uC];rfl
theorem aMz:Y4 SB (fA SB [cx] 451):=by
 delta Y4 aq bY aI en a7;dsimp only
 intro z0 a0 bR ar aQ D8 bw sL z2 bn D9 bz sM z3 cj Am ca z4 dU I7 fa uw z5 jv I8 fv ux aZ lK I9 pF aK nz Ja lJ Ak aF lU An tS;have r1:=pS 64 19 (by decide) 35184372088832 0x10000000000000000 524288 (by decide) (by decide) (by decide) bw sL bz sM;have bb:=pS 64 61 (by decide) 8 0x10000000000000000 0x2000000000000000 (by decide) (by decide) (by decide) fa uw fv ux;have uC:aK=z0/2^6:=by rw[show(2:Int)^6=64 by decide];omega
 refine⟨⟨lU,An,trivial⟩,?_⟩;show [[aF]]=[[Ck bP z0]];rw[tS,pF,ca,r1,bb,uC];rfl
end Go.dg
namespace Go.dg
open Go Go.bX
def YN (S:zzS) (K:zzK):Prop:=dV λz0=>(aj 66 [z0]->bY λar=>cz λz2=>ee 20 [z0] λz3=>(aj 53 [z2,z3]->(eb (decide (z2<0)) (K [[z0]] [[0]]) (aj 22 [z0,0,z3]/\aj 23 [0,z3]/\ck 22 [z0,0,z3] λz4=>ck 24 [0,z4] λz5=>(eb (decide (z3<=0)) (K [[z0]] [[0]]) (cz λaZ=>aj 22 [z5,0,z3]/\ck 22 [z5,0,z3] λaK=>K [[z0]] [[aK]]))))))
def YO (S:zzS) (K:zzK):Prop:=dV λz0=>(aj 66 [z0]->bY λar=>cz λz2=>ee 20 [z0] λz3=>(aj 53 [z2,z3]->(eb (decide (z2<0)) (K [[z0]] [[0]]) (aj 22 [z0,0,z3]/\aj 23 [0,z3]/\ck 22 [z0,0,z3] λz4=>ck 24 [0,z4] λz5=>(eb (decide (z3<=0)) (K [[z0]] [[0]]) (cz λaZ=>aj 22 [z5,0,z3]/\ck 22 [z5,0,z3] λaK=>K [[z0]] [[aK]]))))))
def ZG (S:zzS) (K:zzK):Prop:=dy (-0x8000000000000000) oF λz0=>dy (-0x8000000000000000) oF λar=>(eb (decide (z0<0)) (K [[z0],[ar]] [[0]]) ((eb (decide (1099511627776<z0)) (K [[z0],[ar]] [[0]]) ((eb ((!(decide (ar=32)))) ((eb ((!(decide (ar=64)))) (K [[z0],[ar]] [[0]]) (aq (-1) 1 ((2*ar)+0x8000000000000000) en λz2=>aj 77 [ar]/\aq 0 0x1fffffffffffffff ar 4 λz3=>aj 36 [((2*ar)+(a7*z2))]/\QR 0 0x2000010000000000 38 [((z0+z3)+1),((2*ar)+(a7*z2))] λz4=>aq (-1) 0 (((2*ar)+((a7*z2)+((-1)*z4)))+0x8000000000000000) en λz5=>aj 77 [((2*ar)+((a7*z2)+(((-1)*z4)+(a7*z5))))]/\aj 36 [((2*ar)+(a7*z2))]/\QR 0 0x7ffffffffffffffe 38 [((2*ar)+((a7*z2)+(((-1)*z4)+(a7*z5)))),((2*ar)+(a7*z2))] λaZ=>bg ((z0+(z3+aZ))+BX) en λaK=>K [[z0],[ar]] [[((z0+(z3+(aZ+(a7*aK))))+1)]]))) (aq (-1) 1 ((2*ar)+0x8000000000000000) en λz2=>aj 77 [ar]/\aq 0 0x1fffffffffffffff ar 4 λz3=>aj 36 [((2*ar)+(a7*z2))]/\QR 0 0x2000010000000000 38 [((z0+z3)+1),((2*ar)+(a7*z2))] λz4=>aq (-1) 0 (((2*ar)+((a7*z2)+((-1)*z4)))+0x8000000000000000) en λz5=>aj 77 [((2*ar)+((a7*z2)+(((-1)*z4)+(a7*z5))))]/\aj 36 [((2*ar)+(a7*z2))]/\QR 0 0x7ffffffffffffffe 38 [((2*ar)+((a7*z2)+(((-1)*z4)+(a7*z5)))),((2*ar)+(a7*z2))] λaZ=>bg ((z0+(z3+aZ))+BX) en λaK=>K [[z0],[ar]] [[((z0+(z3+(aZ+(a7*aK))))+1)]]))))))
theorem fP {c l z:Int} (h:z=cu 22 [c,0,l]) (hl:l=((af c).length:Int)):af z=af c:=by
 rw[h];show af (rc (((af c).drop (0:Int).toNat).take (l.toNat-(0:Int).toNat)))=_
 rw[jO,hl];simp
theorem asr {c:Int} (h:((af c).length:Int)=0):af c=[]:=uV (by omega)
theorem aL1:YN SB (ej SB [Wm] 462):=by
 delta YN eb bY ee dV ck cz;dsimp only
 intro z0 a0 bR hp ar b4 z2 dK c1 z3 d0 d1 h3 hn;have h3:z3=((af z0).length:Int):=h3;have hl:(af z0).length<=1000000:=hp;have hn:z2<0->z3=0:=hn;have fin:∀z,0<=z->z<=cP->af z=af z0->ej SB [Wm] 462 [[z0]] [[z]]:=λz h1 h2 h=>⟨⟨h1,h2,trivial⟩,h⟩;have cv:z3<=0->ej SB [Wm] 462 [[z0]] [[0]]:=λh=>fin 0 (cn _) zc (by rw[j2,asr (c:=z0) (by omega)]);refine⟨λh=>cv (by have h:=of_decide_eq_true h;have:=hn (by omega);omega),λh=>⟨⟨cn _,by omega,by rw[h3];exact cn _⟩,by show(af 0).length+z3<=1073741824;rw[j2];simp only[pr];omega,λz4 f0 f1 h4 z5 g0 g1 h5=>?_⟩⟩;have h4:=fP h4 h3;have h5:af z5=af z0:=by
  rw[h5];show af (rc (af 0++af z4))=_
  rw[jO,j2,h4];rfl
 refine⟨λh=>cv (of_decide_eq_true h),λh aZ i0 i1=>⟨⟨cn _,by omega,by rw[h3,h5];exact cn _⟩,λaK fC dN h7=>fin aK fC dN ?_⟩⟩;rw[fP h7 (by rw[h3,h5]),h5]
theorem aL2:YO SB (ej SB [Wn] 463):=by
 delta YO eb bY ee dV ck cz;dsimp only
 intro z0 a0 bR hp ar b4 z2 dK c1 z3 d0 d1 h3 hn;have h3:z3=((af z0).length:Int):=h3;have hl:(af z0).length<=1000000:=hp;have hn:z2<0->z3=0:=hn;have fin:∀z,0<=z->z<=cP->af z=af z0->ej SB [Wn] 463 [[z0]] [[z]]:=λz h1 h2 h=>⟨⟨h1,h2,trivial⟩,h⟩;have cv:z3<=0->ej SB [Wn] 463 [[z0]] [[0]]:=λh=>fin 0 (cn _) zc (by rw[j2,asr (c:=z0) (by omega)]);refine⟨λh=>cv (by have h:=of_decide_eq_true h;have:=hn (by omega);omega),λh=>⟨⟨cn _,by omega,by rw[h3];exact cn _⟩,by show(af 0).length+z3<=1073741824;rw[j2];simp only[pr];omega,λz4 f0 f1 h4 z5 g0 g1 h5=>?_⟩⟩;have h4:=fP h4 h3;have h5:af z5=af z0:=by
  rw[h5];show af (rc (af 0++af z4))=_
  rw[jO,j2,h4];rfl
 refine⟨λh=>cv (of_decide_eq_true h),λh aZ i0 i1=>⟨⟨cn _,by omega,by rw[h3,h5];exact cn _⟩,λaK fC dN h7=>fin aK fC dN ?_⟩⟩;rw[fP h7 (by rw[h3,h5]),h5]
theorem aNT:ZG SB (fA SB [x8] 440):=by
 delta ZG eb bg aq dy QR en a7 oF BX;dsimp only
 intro z0 a0 bR ar dM b4;have fin:∀z:Int,-0x8000000000000000<=z->z<=0x7fffffffffffffff->z=pM z0 ar->fA SB [x8] 440 [[z0],[ar]] [[z]]:=λz h1 h2 h=>⟨⟨h1,h2,trivial⟩,by show [[z]]=[[pM z0 ar]];rw[h]⟩;have bad:(z0<0∨1099511627776<z0∨(ar≠32/\ar≠64))->fA SB [x8] 440 [[z0],[ar]] [[0]]:=λh=>fin 0 (by omega) (by omega) (by unfold pM;rw[if_pos h]);refine⟨λh=>bad (.inl (of_decide_eq_true h)),λh=>⟨λaP=>bad (.inr (.inl (of_decide_eq_true aP))),λaP=>?_⟩⟩;have e9:0<=z0:=by have:=of_decide_eq_false h;omega
 have bh:z0<=1099511627776:=by have:=of_decide_eq_false aP;omega
 obtain⟨N,rfl⟩:∃N:Nat,(N:Int)=z0:=⟨z0.toNat,by omega⟩;refine⟨λg=>⟨λkq=>bad (.inr (.inr ⟨by simpa using g,by simpa using kq⟩)),λkq=>?_⟩,λg=>?_⟩
 ·have hz:ar=64:=by simpa using kq
  subst hz;intro z2 dK c1 bQ cD;have:z2=0:=by omega
  subst this;refine⟨by show(0:Int)<=64;decide,λz3 d0 d1 d2 d3=>?_⟩;have:z3=16:=by omega
  subst this;refine⟨by show(0:Int)<2*64+-0x10000000000000000*0;decide,λz4 cv av h4 z5 f0 f1 f2 f3=>?_⟩;have h4:z4=((N:Int)+16+1)% (2*64+-0x10000000000000000*0):=h4;rw[show(2*64+-0x10000000000000000*0:Int)=128 by decide]at h4;have:z5=0:=by omega
  subst this;refine⟨by show(0:Int)<=_;omega,by show(0:Int)<2*64+-0x10000000000000000*0;decide,λaZ g0 g1 h6 aK i0 i1 i2 i3=>?_⟩;have h6:aZ=(2*64+(-0x10000000000000000*0+(-1*z4+-0x10000000000000000*0)))% (2*64+-0x10000000000000000*0):=h6;rw[show(2*64+-0x10000000000000000*0:Int)=128 by decide]at h6;have:aK=0:=by omega
  subst this;refine fin _ (by omega) (by omega) ?_;unfold pM lf;rw[if_neg (by omega)];simp only[hC];rw[show(64:Int).toNat=64 from rfl];omega
 ·have hz:ar=32:=by simpa using g
  subst hz;intro z2 dK c1 bQ cD;have:z2=0:=by omega
  subst this;refine⟨by show(0:Int)<=32;decide,λz3 d0 d1 d2 d3=>?_⟩;have:z3=8:=by omega
  subst this;refine⟨by show(0:Int)<2*32+-0x10000000000000000*0;decide,λz4 cv av h4 z5 f0 f1 f2 f3=>?_⟩;have h4:z4=((N:Int)+8+1)% (2*32+-0x10000000000000000*0):=h4;rw[show(2*32+-0x10000000000000000*0:Int)=64 by decide]at h4;have:z5=0:=by omega
  subst this;refine⟨by show(0:Int)<=_;omega,by show(0:Int)<2*32+-0x10000000000000000*0;decide,λaZ g0 g1 h6 aK i0 i1 i2 i3=>?_⟩;have h6:aZ=(2*32+(-0x10000000000000000*0+(-1*z4+-0x10000000000000000*0)))% (2*32+-0x10000000000000000*0):=h6;rw[show(2*32+-0x10000000000000000*0:Int)=64 by decide]at h6;have:aK=0:=by omega
  subst this;refine fin _ (by omega) (by omega) ?_;unfold pM lf;rw[if_neg (by omega)];simp only[hC];rw[show(32:Int).toNat=32 from rfl];omega
end Go.dg
namespace Go.dg
open Go Go.bX
def ajL (S:zzS) (K:zzK):Prop:=dy 0 79 λz0=>aj 74 [z0,80]/\dy 0x6ca6351e003826f 0xf57d4f7fee6ed178 λar=>ar=U [0x428a2f98d728ae22,0x7137449123ef65cd,0xb5c0fbcfec4d3b2f,0xe9b5dba58189dbbc,0x3956c25bf348b538,0x59f111f1b605d019,0x923f82a4af194f9b,0xab1c5ed5da6d8118,0xd807aa98a3030242,0x12835b0145706fbe,0x243185be4ee4b28c,0x550c7dc3d5ffb4e2,0x72be5d74f27b896f,0x80deb1fe3b1696b1,0x9bdc06a725c71235,0xc19bf174cf692694,0xe49b69c19ef14ad2,0xefbe4786384f25e3,0xfc19dc68b8cd5b5,0x240ca1cc77ac9c65,0x2de92c6f592b0275,0x4a7484aa6ea6e483,0x5cb0a9dcbd41fbd4,0x76f988da831153b5,0x983e5152ee66dfab,0xa831c66d2db43210,0xb00327c898fb213f,0xbf597fc7beef0ee4,0xc6e00bf33da88fc2,0xd5a79147930aa725,0x6ca6351e003826f,0x142929670a0e6e70,0x27b70a8546d22ffc,0x2e1b21385c26c926,0x4d2c6dfc5ac42aed,0x53380d139d95b3df,0x650a73548baf63de,0x766a0abb3c77b2a8,0x81c2c92e47edaee6,0x92722c851482353b,0xa2bfe8a14cf10364,0xa81a664bbc423001,0xc24b8b70d0f89791,0xc76c51a30654be30,0xd192e819d6ef5218,0xd69906245565a910,0xf40e35855771202a,0x106aa07032bbd1b8,0x19a4c116b8d2d0c8,0x1e376c085141ab53,0x2748774cdf8eeb99,0x34b0bcb5e19b48a8,0x391c0cb3c5c95a63,0x4ed8aa4ae3418acb,0x5b9cca4f7763e373,0x682e6ff3d6b2b8a3,0x748f82ee5defb2fc,0x78a5636f43172f60,0x84c87814a1f0ab72,0x8cc702081a6439ec,0x90befffa23631e28,0xa4506cebde82bde9,0xbef9a3f7b2c67915,0xc67178f2e372532b,0xca273eceea26619c,0xd186b8c721c0c207,0xeada7dd6cde0eb1e,0xf57d4f7fee6ed178,0x6f067aa72176fba,0xa637dc5a2c898a6,0x113f9804bef90dae,0x1b710b35131c471b,0x28db77f523047d84,0x32caab7b40c72493,0x3c9ebe0a15c9bebc,0x431d67c49c100d4c,0x4cc5d4becb3e42b6,0x597f299cfc657e2a,0x5fcb6fab3ad6faec,0x6c44198c4a475817] (z0).toNat 0->aq 113926993 4118630271 ar 4294967296 λz2=>K [[z0]] [[z2]]
def ajM (S:zzS) (K:zzK):Prop:=dy 0 79 λz0=>aj 74 [z0,80]/\dy 0x6ca6351e003826f 0xf57d4f7fee6ed178 λar=>ar=U [0x428a2f98d728ae22,0x7137449123ef65cd,0xb5c0fbcfec4d3b2f,0xe9b5dba58189dbbc,0x3956c25bf348b538,0x59f111f1b605d019,0x923f82a4af194f9b,0xab1c5ed5da6d8118,0xd807aa98a3030242,0x12835b0145706fbe,0x243185be4ee4b28c,0x550c7dc3d5ffb4e2,0x72be5d74f27b896f,0x80deb1fe3b1696b1,0x9bdc06a725c71235,0xc19bf174cf692694,0xe49b69c19ef14ad2,0xefbe4786384f25e3,0xfc19dc68b8cd5b5,0x240ca1cc77ac9c65,0x2de92c6f592b0275,0x4a7484aa6ea6e483,0x5cb0a9dcbd41fbd4,0x76f988da831153b5,0x983e5152ee66dfab,0xa831c66d2db43210,0xb00327c898fb213f,0xbf597fc7beef0ee4,0xc6e00bf33da88fc2,0xd5a79147930aa725,0x6ca6351e003826f,0x142929670a0e6e70,0x27b70a8546d22ffc,0x2e1b21385c26c926,0x4d2c6dfc5ac42aed,0x53380d139d95b3df,0x650a73548baf63de,0x766a0abb3c77b2a8,0x81c2c92e47edaee6,0x92722c851482353b,0xa2bfe8a14cf10364,0xa81a664bbc423001,0xc24b8b70d0f89791,0xc76c51a30654be30,0xd192e819d6ef5218,0xd69906245565a910,0xf40e35855771202a,0x106aa07032bbd1b8,0x19a4c116b8d2d0c8,0x1e376c085141ab53,0x2748774cdf8eeb99,0x34b0bcb5e19b48a8,0x391c0cb3c5c95a63,0x4ed8aa4ae3418acb,0x5b9cca4f7763e373,0x682e6ff3d6b2b8a3,0x748f82ee5defb2fc,0x78a5636f43172f60,0x84c87814a1f0ab72,0x8cc702081a6439ec,0x90befffa23631e28,0xa4506cebde82bde9,0xbef9a3f7b2c67915,0xc67178f2e372532b,0xca273eceea26619c,0xd186b8c721c0c207,0xeada7dd6cde0eb1e,0xf57d4f7fee6ed178,0x6f067aa72176fba,0xa637dc5a2c898a6,0x113f9804bef90dae,0x1b710b35131c471b,0x28db77f523047d84,0x32caab7b40c72493,0x3c9ebe0a15c9bebc,0x431d67c49c100d4c,0x4cc5d4becb3e42b6,0x597f299cfc657e2a,0x5fcb6fab3ad6faec,0x6c44198c4a475817] (z0).toNat 0->K [[z0]] [[ar]]
def aku (S:zzS) (K:zzK):Prop:=dV λz0=>(aj 71 [z0]->bY λar=>cz λz2=>ee 20 [z0] λz3=>aj 22 [z0,0,z3]/\ck 22 [z0,0,z3] λz4=>aj 71 [z4]/\dV λz5=>S 460 [[z4]] [[z5]]->bY λaZ=>cz λaK=>ee 20 [z5] λaF=>aj 22 [z5,0,aF]/\ck 22 [z5,0,aF] λz9=>aj 71 [z9]/\dV λaY=>S 442 [[z9]] [[aY]]->cz λaN=>ee 20 [aY] λz12=>aj 22 [aY,0,z12]/\ck 22 [aY,0,z12] λa1=>aj 72 [a1]/\dV λaG=>S 464 [[a1]] [[aG]]->cz λaS=>ee 20 [aG] λba=>aj 30 [31,ba]/\aj 21 [aG,0]/\aj 21 [aG,0]/\iE 21 [aG,0,0] λaW=>aj 21 [aG,1]/\iE 21 [aG,1,0] λ bm=>aj 21 [aG,2]/\iE 21 [aG,2,0] λbp=>aj 21 [aG,3]/\iE 21 [aG,3,0] λz20=>aj 21 [aG,4]/\iE 21 [aG,4,0] λz21=>aj 21 [aG,5]/\iE 21 [aG,5,0] λz22=>aj 21 [aG,6]/\iE 21 [aG,6,0] λbW=>aj 21 [aG,7]/\iE 21 [aG,7,0] λz24=>aj 21 [aG,8]/\iE 21 [aG,8,0] λcr=>aj 21 [aG,9]/\iE 21 [aG,9,0] λz26=>aj 21 [aG,10]/\iE 21 [aG,10,0] λb5=>aj 21 [aG,11]/\iE 21 [aG,11,0] λ z28=>aj 21 [aG,12]/\iE 21 [aG,12,0] λcl=>aj 21 [aG,13]/\iE 21 [aG,13,0] λcA=>aj 21 [aG,14]/\iE 21 [aG,14,0] λz31=>aj 21 [aG,15]/\iE 21 [aG,15,0] λbj=>aj 21 [aG,16]/\iE 21 [aG,16,0] λbM=>aj 21 [aG,17]/\iE 21 [aG,17,0] λcw=>aj 21 [aG,18]/\iE 21 [aG,18,0] λb7=>aj 21 [aG,19]/\iE 21 [aG,19,0] λcp=>aj 21 [aG,20]/\iE 21 [aG,20,0] λz37=>aj 21 [aG,21]/\iE 21 [aG,21,0] λcU=>aj 21 [aG,22]/\iE 21 [aG,22,0] λcO=>aj 21 [aG,23]/\iE 21 [aG,23,0] λz40=>aj 21 [aG,24]/\iE 21 [aG,24,0] λ c2=>aj 21 [aG,25]/\iE 21 [aG,25,0] λdb=>aj 21 [aG,26]/\iE 21 [aG,26,0] λdc=>aj 21 [aG,27]/\iE 21 [aG,27,0] λeh=>aj 21 [aG,28]/\iE 21 [aG,28,0] λdC=>aj 21 [aG,29]/\iE 21 [aG,29,0] λz46=>aj 21 [aG,30]/\iE 21 [aG,30,0] λdz=>aj 21 [aG,31]/\iE 21 [aG,31,0] λdL=>K [[z0]] [[aW,bm,bp,z20,z21,z22,bW,z24,cr,z26,b5,z28,cl,cA,z31,bj,bM,cw,b7,cp,z37,cU,cO,z40,c2,db,dc,eh,dC,z46,dz,dL]])
def akv (S:zzS) (K:zzK):Prop:=dV λz0=>(aj 71 [z0]->bY λar=>cz λz2=>ee 20 [z0] λz3=>aj 22 [z0,0,z3]/\ck 22 [z0,0,z3] λz4=>aj 71 [z4]/\dV λz5=>S 461 [[z4]] [[z5]]->bY λaZ=>cz λaK=>ee 20 [z5] λaF=>aj 22 [z5,0,aF]/\ck 22 [z5,0,aF] λz9=>aj 71 [z9]/\dV λaY=>S 443 [[z9]] [[aY]]->cz λaN=>ee 20 [aY] λz12=>aj 22 [aY,0,z12]/\ck 22 [aY,0,z12] λa1=>aj 73 [a1]/\dV λaG=>S 465 [[a1]] [[aG]]->cz λaS=>ee 20 [aG] λba=>aj 30 [63,ba]/\aj 21 [aG,0]/\Kw aG 64 0 [] λtA=>K [[z0]] [tA])
theorem aMA:ajL SB (fA SB [vo] 466):=by
 intro z0 a0 bR;refine⟨⟨a0,by omega⟩,λar dM b4 h1 z2 dK c1 bQ cD=>⟨⟨by omega,by omega,trivial⟩,?_⟩⟩;have h1:ar=uF.getD z0.toNat 0:=h1;show [[z2]]=[[uF.getD z0.toNat 0/2^(64-32)]];rw[<-h1,show(2:Int)^(64-32)=4294967296 by decide];have:z2=ar/4294967296:=by omega
 rw[this]
theorem aMB:ajM SB (fA SB [cx] 467):=by
 intro z0 a0 bR;refine⟨⟨a0,by omega⟩,λar dM b4 h1=>⟨⟨by omega,by omega,trivial⟩,?_⟩⟩;have h1:ar=uF.getD z0.toNat 0:=h1;show [[ar]]=[[uF.getD z0.toNat 0/2^(64-64)]];rw[<-h1];simp
theorem fT (z:Int):(aJ z).length=(af z).length:=by simp[aJ]
theorem jU {z r:Int} (h:af r=af z):aJ r=aJ z:=by unfold aJ;rw[h]
theorem fU {c i z:Int} (h:z=cu 21 [c,i,0]):z=(aJ c).getD i.toNat 0:=by
 rw[h];show((af c).getD i.toNat []).getD (0:Int).toNat 0=_;unfold aJ;rw[ky (l:=(af c).map _),List.getElem?_map,ky (l:=af c)];cases(af c)[i.toNat]?<;>rfl
theorem aoC (l:List Int) (n:Nat) (h:l.length=n):l=(dP n).map λi=>l.getD i 0:=by
 apply JO
 ·simp[h]
 ·intro i h1 h2;simp[U,h1]
theorem aRl (p:jc) (i:Nat) (x:Int) (v:List Int) (h:v.length=8):(Cl p i x v).length=8:=by
 match v,h with
 |[a,b,c,d,e,f,g,k],_=>rfl
theorem WV (p:jc):∀(m:List Int) (i:Nat) (v:List Int),v.length=8->(q7 p i m v).length=8
 |[],_,_,h=>h
 |x::m,i,v,h=>WV p m (i+1) _ (aRl p i x v h)
theorem aRW (p:jc) (h m:List Int) (hl:h.length=8):(uM p h m).length=8:=by
 unfold uM;rw[List.length_zipWith,WV p _ _ _ hl,hl];rfl
theorem azd (p:jc):(mB p).length=8:=by simp[mB];rfl
theorem amr (p:jc) (b:List Int):∀i,(ru p b i (mB p)).length=8
 |0=>azd p
 |i+1=>aRW p _ _ (amr p b i)
theorem Wo (p:jc):∀(h:List Int),(oH p h).length=h.length*(p.w/8)
 |[]=>by simp[oH]
 |x::h=>by
  have:=Wo p h;unfold oH at*;simp only[List.flatMap_cons,fq,ps,ajn,this,kx];rw[Nat.succ_mul];omega
theorem E0 (p:jc) (b:List Int):(pC p b).length=8*(p.w/8):=by unfold pC;rw[Wo,amr]
theorem asO (b:List Int):(q4 bN b).length=lf 32 b.length/\64∣lf 32 b.length/\lf 32 b.length<=b.length+100:=by
 have e:lf 32 b.length=(b.length+1+8+63)/64*64:=rfl;refine⟨?_,⟨(b.length+1+8+63)/64,by rw[e,xT]⟩,by rw[e];omega⟩;unfold q4 Br;simp only[fq,kx,pr,JT,ps,ajn];show _+(lf 32 _-_-9)+8=lf 32 _;rw[e];omega
theorem Wp (b:List Int):(q4 bP b).length=lf 64 b.length/\128∣lf 64 b.length/\lf 64 b.length<=b.length+200:=by
 have e:lf 64 b.length=(b.length+1+16+127)/128*128:=rfl;refine⟨?_,⟨(b.length+1+16+127)/128,by rw[e,xT]⟩,by rw[e];omega⟩;unfold q4 Br;simp only[fq,kx,pr,JT,ps,ajn];show _+(lf 64 _-_-9)+8=lf 64 _;rw[e];omega
theorem vv:∀(n:Nat) (l:List Int),l.length=n->(∀x∈l,0<=x/\x<=255)->ay (aT 0 255 n) l
 |0,[],_,_=>trivial
 |n+1,x::l,hl,h=>⟨(h x (by simp)).1,(h x (by simp)).2,vv n l (by simpa using hl) λy hy=>h y (List.mem_cons_of_mem _ hy)⟩
theorem aNX:aku SB (ej SB [.d cN] 452):=by
 intro z0 a0 bR hp ar dM z2 dK c1 z3 d0 d1 h3;have hp:(af z0).length<=1000000000:=hp;have h3:z3=((af z0).length:Int):=h3;refine⟨⟨cn _,by omega,by rw[h3];exact cn _⟩,λz4 cv av h4=>?_⟩;have h4:=fP h4 h3;refine⟨by show(af z4).length<=1000000000;rw[h4];exact hp,λz5 f0 f1 h5 aZ g0 aK i0 i1 aF fC dN ch=>?_⟩;have h5:af z5=af z4:=h5;have ch:aF=((af z5).length:Int):=ch;refine⟨⟨cn _,by omega,by rw[ch];exact cn _⟩,λz9 o7 k1 cC=>?_⟩;have cC:=fP cC ch;have nc:af z9=af z0:=by rw[cC,h5,h4]
 refine⟨by show(af z9).length<=1000000000;rw[nc];exact hp,λaY lb l1 dB aN m0 gk z12 e9 bh gj=>?_⟩;have dB:aJ aY=q4 bN (aJ z9):=dB;have gj:z12=((af aY).length:Int):=gj;rw[jU nc]at dB;obtain⟨aQ,bn,cj⟩:=asO (aJ z0);have o0:(aJ z0).length=(af z0).length:=fT z0;refine⟨⟨cn _,by omega,by rw[gj];exact cn _⟩,λa1 rW o1 ix=>?_⟩;have ix:=fP ix gj;have Ia:(af a1).length=lf 32 (aJ z0).length:=by rw[ix,<-fT,dB,aQ]
 refine⟨by show 64∣(af a1).length/\(af a1).length<=1000001000;rw[Ia];exact⟨bn,by omega⟩,λaG p0 bw jm aS r0 r1 ba aL s1 ln=>?_⟩;have jm:aJ aG=pC bN (aJ a1):=jm;rw[jU ix,dB]at jm;have ln:ba=((af aG).length:Int):=ln;have FF:(aJ aG).length=32:=by rw[jm,E0];rfl
 have Il:(af aG).length=32:=by rw[<-fT,FF]
 have gv:∀i:Int,0<=i->i<32->aj 21 [aG,i]:=λi h1 h2=>⟨h1,by rw[Il];exact h2⟩;refine⟨⟨by decide,by omega⟩,gv 0 (by decide) (by decide),?_⟩;refine⟨gv 0 (by decide) (by decide),?_⟩;intro aW dp gV t0;refine⟨gv 1 (by decide) (by decide),?_⟩;intro bm ak au t1;refine⟨gv 2 (by decide) (by decide),?_⟩;intro bp ai ao t2;refine⟨gv 3 (by decide) (by decide),?_⟩;intro z20 aw az t3;refine⟨gv 4 (by decide) (by decide),?_⟩;intro z21 dk oh t4;refine⟨gv 5 (by decide) (by decide),?_⟩;intro z22 jz RX t5;refine⟨gv 6 (by decide) (by decide),?_⟩;intro bW jR RY t6;refine⟨gv 7 (by decide) (by decide),?_⟩;intro z24 lW R5 t7;refine⟨gv 8 (by decide) (by decide),?_⟩;intro cr mW Eu t8;refine⟨gv 9 (by decide) (by decide),?_⟩;intro z26 mX Ev t9;refine⟨gv 10 (by decide) (by decide),?_⟩;intro b5 nE Er t10;refine⟨gv 11 (by decide) (by decide),?_⟩;intro z28 ik GA t11;refine⟨gv 12 (by decide) (by decide),?_⟩;intro cl ki JE t12;refine⟨gv 13 (by decide) (by decide),?_⟩;intro cA mP Es t13;refine⟨gv 14 (by decide) (by decide),?_⟩;intro z31 vV MD t14;refine⟨gv 15 (by decide) (by decide),?_⟩;intro bj vW GB t15;refine⟨gv 16 (by decide) (by decide),?_⟩;intro bM vX GC t16;refine⟨gv 17 (by decide) (by decide),?_⟩;intro cw vY GD t17;refine⟨gv 18 (by decide) (by decide),?_⟩;intro b7 vZ AK t18;refine⟨gv 19 (by decide) (by decide),?_⟩;intro cp v7 GF t19;refine⟨gv 20 (by decide) (by decide),?_⟩;intro z37 v8 GG t20;refine⟨gv 21 (by decide) (by decide),?_⟩;intro cU wa Cp t21;refine⟨gv 22 (by decide) (by decide),?_⟩;intro cO wc Cq t22;refine⟨gv 23 (by decide) (by decide),?_⟩;intro z40 we ME t23;refine⟨gv 24 (by decide) (by decide),?_⟩;intro c2 wg MF t24;refine⟨gv 25 (by decide) (by decide),?_⟩;intro db wh GH t25;refine⟨gv 26 (by decide) (by decide),?_⟩;intro dc wi Cr t26;refine⟨gv 27 (by decide) (by decide),?_⟩;intro eh wj Cs t27;refine⟨gv 28 (by decide) (by decide),?_⟩;intro dC wk MG t28;refine⟨gv 29 (by decide) (by decide),?_⟩;intro z46 wm MH t29;refine⟨gv 30 (by decide) (by decide),?_⟩;intro dz wo Ct t30;refine⟨gv 31 (by decide) (by decide),?_⟩;intro dL wq Cu t31;have eF:[aW,bm,bp,z20,z21,z22,bW,z24,cr,z26,b5,z28,cl,cA,z31,bj,bM,cw,b7,cp,z37,cU,cO,z40,c2,db,dc,eh,dC,z46,dz,dL]=aJ aG:=by
  rw[fU t0,fU t1,fU t2,fU t3,fU t4,fU t5,fU t6,fU t7,fU t8,fU t9,fU t10,fU t11,fU t12,fU t13,fU t14,fU t15,fU t16,fU t17,fU t18,fU t19,fU t20,fU t21,fU t22,fU t23,fU t24,fU t25,fU t26,fU t27,fU t28,fU t29,fU t30,fU t31];exact(aoC (aJ aG) 32 FF).symm
 refine⟨?_,?_⟩
 ·show ay (aT 0 255 32++[]) _;rw[gO];exact vv 32 _ rfl λx hx=>by
   simp only[nH,sT,gO,m2,uU,or_false]at hx;rcases hx with rfl|rfl|rfl|rfl|rfl|rfl|rfl|rfl|rfl|rfl|rfl|rfl|rfl|rfl|rfl|rfl|rfl|rfl|rfl|rfl|rfl|rfl|rfl|rfl|rfl|rfl|rfl|rfl|rfl|rfl|rfl|rfl
   ·exact⟨dp,gV⟩
   ·exact⟨ak,au⟩
   ·exact⟨ai,ao⟩
   ·exact⟨aw,az⟩
   ·exact⟨dk,oh⟩
   ·exact⟨jz,RX⟩
   ·exact⟨jR,RY⟩
   ·exact⟨lW,R5⟩
   ·exact⟨mW,Eu⟩
   ·exact⟨mX,Ev⟩
   ·exact⟨nE,Er⟩
   ·exact⟨ik,GA⟩
   ·exact⟨ki,JE⟩
   ·exact⟨mP,Es⟩
   ·exact⟨vV,MD⟩
   ·exact⟨vW,GB⟩
   ·exact⟨vX,GC⟩
   ·exact⟨vY,GD⟩
   ·exact⟨vZ,AK⟩
   ·exact⟨v7,GF⟩
   ·exact⟨v8,GG⟩
   ·exact⟨wa,Cp⟩
   ·exact⟨wc,Cq⟩
   ·exact⟨we,ME⟩
   ·exact⟨wg,MF⟩
   ·exact⟨wh,GH⟩
   ·exact⟨wi,Cr⟩
   ·exact⟨wj,Cs⟩
   ·exact⟨wk,MG⟩
   ·exact⟨wm,MH⟩
   ·exact⟨wo,Ct⟩
   ·exact⟨wq,Cu⟩
 ·show _=[jy bN (aJ z0)];rw[eF,jm];rfl
theorem NX {c:Int} {k:List Int->Prop}:∀(n i:Nat) (acc:List Int),i+n<=(af c).length->(∀l:List Int,l.length=n->(∀x∈l,0<=x/\x<=255)->l=((aJ c).drop i).take n->k (acc++l))->Kw c n i acc k
 |0,i,acc,_,h=>by
  have:=h [] rfl (by simp) (by simp);show k acc;simpa using this
 |n+1,i,acc,hl,h=>⟨⟨by omega,by omega⟩,λy gV au hy=>NX n (i+1) (acc++[y]) (by omega) λl h1 h2 h3=>by
  have hb:i<(aJ c).length:=by rw[fT];omega
  have e:y=(aJ c)[i]:=by rw[fU hy,hC,ky,lA hb];rfl
  have:=h (y::l) (by simp[h1]) (λx hx=>by
   rcases List.mem_cons.1 hx with rfl|hx
   ·exact⟨gV,au⟩
   ·exact h2 x hx) (by rw[EN hb,l5,<-e,<-h3])
  simpa using this⟩
theorem aNY:akv SB (ej SB [.d j7] 453):=by
 intro z0 a0 bR hp ar dM z2 dK c1 z3 d0 d1 h3;have hp:(af z0).length<=1000000000:=hp;have h3:z3=((af z0).length:Int):=h3;refine⟨⟨cn _,by omega,by rw[h3];exact cn _⟩,λz4 cv av h4=>?_⟩;have h4:=fP h4 h3;refine⟨by show(af z4).length<=1000000000;rw[h4];exact hp,λz5 f0 f1 h5 aZ g0 aK i0 i1 aF fC dN ch=>?_⟩;have h5:af z5=af z4:=h5;have ch:aF=((af z5).length:Int):=ch;refine⟨⟨cn _,by omega,by rw[ch];exact cn _⟩,λz9 o7 k1 cC=>?_⟩;have cC:=fP cC ch;have nc:af z9=af z0:=by rw[cC,h5,h4]
 refine⟨by show(af z9).length<=1000000000;rw[nc];exact hp,λaY lb l1 dB aN m0 gk z12 e9 bh gj=>?_⟩;have dB:aJ aY=q4 bP (aJ z9):=dB;have gj:z12=((af aY).length:Int):=gj;rw[jU nc]at dB;obtain⟨aQ,bn,cj⟩:=Wp (aJ z0);have o0:(aJ z0).length=(af z0).length:=fT z0;refine⟨⟨cn _,by omega,by rw[gj];exact cn _⟩,λa1 rW o1 ix=>?_⟩;have ix:=fP ix gj;have Ia:(af a1).length=lf 64 (aJ z0).length:=by rw[ix,<-fT,dB,aQ]
 refine⟨by show 128∣(af a1).length/\(af a1).length<=1000001000;rw[Ia];exact⟨bn,by omega⟩,λaG p0 bw jm aS r0 r1 ba aL s1 ln=>?_⟩;have jm:aJ aG=pC bP (aJ a1):=jm;rw[jU ix,dB]at jm;have ln:ba=((af aG).length:Int):=ln;have FF:(aJ aG).length=64:=by rw[jm,E0];rfl
 have Il:(af aG).length=64:=by rw[<-fT,FF]
 have gv:∀i:Int,0<=i->i<64->aj 21 [aG,i]:=λi h1 h2=>⟨h1,by rw[Il];exact h2⟩;refine⟨⟨by decide,by omega⟩,gv 0 (by decide) (by decide),NX 64 0 [] (by omega) λl h1 h2 h3=>?_⟩;have eF:l=aJ aG:=by rw[h3,jA,mu (by omega)]
 rw[eQ];refine⟨?_,?_⟩
 ·show ay (aT 0 255 64++[]) [l].flatten;have:=vv 64 l h1 h2;simpa using this
 ·show [l]=[jy bP (aJ z0)];rw[eF,jm];rfl
end Go.dg
namespace Go.dg
open Go Go.bX
def Xa (w:Int) (S:zzS) (K:zzK):Prop:=dV λz0=>(aj 71 [z0]->bY λar=>cz λz2=>ee 20 [z0] λz3=>dy (-0x8000000000000000) oF λz4=>S 440 [[z3],[w]] [[z4]]->aj 49 [z4,z4]/\ck 26 [z4,0] λz5=>cz λaZ=>aj 80 [z5,0,z4]/\aj 22 [z0,0,z3]/\ee 62 [z3,z4] λaK=>ck 22 [z0,0,aK] λaF=>ck 63 [z5,0,aF] λz9=>aj 30 [z3,z4]/\aj 21 [z9,z3]/\(aj 67 [z9,z3,1]->ck 42 [z9,z3,0,128] λaY=>aq 0 3 (8*z3) en λaN=>∃(ZY:List (List Int)->Prop) (awF:List (List Int)->Nat),ZY [[((8*z3)+(a7*aN))],[(z4+(-1))],[aY]]/\(aI λa1=>cz λ aG=>dV λaS=>ZY [[a1],[aG],[aS]]->(eb (decide (0<a1)) (aq 0 0xffffffffffffff a1 256 λba=>aj 30 [aG,z4]/\aj 21 [aS,aG]/\(aj 67 [aS,aG,1]->ck 42 [aS,aG,0,(a1+((-256)*ba))] λaW=>aq 0 0xffffffffffffff a1 256 λbm=>aj 39 [(aG+(-1)),(-1),oF]/\(ZY [[bm],[(aG+(-1))],[aW]]/\awF [[bm],[(aG+(-1))],[aW]]<awF [[a1],[aG],[aS]]))) (aj 22 [aS,0,z4]/\ck 22 [aS,0,z4] λba=>K [[z0]] [[ba]])))))
def aks (S:zzS) (K:zzK):Prop:=Xa 32 S K
def akt (S:zzS) (K:zzK):Prop:=Xa 64 S K
def rws (l:List Int):List (List Int):=l.map λx=>[x]
theorem Tg {z:Int} {l:List Int} (h:af z=rws l):aJ z=l:=by
 unfold aJ rws at*;rw[h,lz];exact(j5 λx _=>rfl).trans (Sh l)
theorem vN (l:List Int):(rws l).length=l.length:=by simp[rws]
theorem atB (a b:List Int):rws (a++b)=rws a++rws b:=by simp[rws]
theorem ahp (n:Nat) (x:Int):rws (dw n x)=dw n [x]:=by simp[rws]
def vS (v:Nat) (j:Nat):List Int:=(dP j).map λq=>((v/256^(j-1-q)% 256:Nat):Int)
theorem aR0 (v j:Nat):(vS v j).length=j:=by simp[vS]
theorem aul (v j:Nat):vS v (j+1)=((v/256^j% 256:Nat):Int)::vS v j:=by
 unfold vS;rw[Yx,df,lz];refine congr (congrArg _ (by simp)) (j5 λq an=>?_);have:q<j:=List.mem_range.1 an;simp only[Si];rw[show j+1-1-(q+1)=j-1-q by omega]
theorem aRZ (v:Nat):∀(d j:Nat),j+d=8->v/256^j=0->Br v=dw (8-j) 0++vS v j:=by
 have base:Br v=vS v 8:=by
  unfold Br vS;refine j5 λq an=>?_;have:q<8:=List.mem_range.1 an;have e:(256:Nat)^(8-1-q)=2^(56-8*q):=by
   rw[show(256:Nat)=2^8 by rfl,<-Nat.pow_mul];congr 1;omega
  rw[e]
 intro d;induction d with
 |zero=>
  intro j aR _;have:j=8:=by omega
  subst this;simpa using base
 |succ d ih=>
  intro j aR h0;have h1:v/256^(j+1)=0:=by rw[y1,<-Sf,h0]
  rw[ih (j+1) (by omega) h1,aul,h0,show 8-j=(8-(j+1))+1 by omega,ajp];simp
theorem RQ {α:Type} (a b:List α) (x y:α) (n:Nat) (h:a.length=n):(a++x::b).set n y=a++y::b:=by
 subst h;induction a with
 |nil=>rfl
 |cons z a ih=>simp[ih]
theorem aoA {α:Type} (a b:List α) (x d:α) (n:Nat) (h:a.length=n):(a++x::b).getD n d=x:=by
 subst h;simp[U]
theorem at4 (W:jc) (id:Nat) (h8:∀a b,SB id [[a]] [[b]]=(aJ b=q4 W (aJ a))) (hw:W.w=32∨W.w=64) (an:∀n,n<=1000000000->n+9<=lf W.w n/\lf W.w n<=1000001000):Xa W.w SB (ej SB [uv] id):=by
 delta Xa eb aq dy bY ee dV ck aI cz en a7 oF;dsimp only
 intro z0 a0 bR hp ar dM z2 dK c1 z3 d0 d1 h3 z4 cv av h4;have hp:(af z0).length<=1000000000:=hp;have h3:z3=((af z0).length:Int):=h3;have h4:[[z4]]=[[pM z3 W.w]]:=h4;obtain⟨n,hn⟩:∃n,(af z0).length=n:=⟨_,rfl⟩;rw[hn]at h3 hp;have OO:(aJ z0).length=n:=by rw[fT,hn]
 obtain⟨P,lE⟩:∃P,lf W.w n=P:=⟨_,rfl⟩;have aC7:=an n hp;rw[lE]at aC7;have h4:z4=(P:Int):=by
  have:z4=pM z3 W.w:=by simpa using h4
  rw[this];unfold pM;rw[if_neg (by omega),h3];simp only[hC];rw[lE]
 have g1:n+9<=P:=by omega
 have g2:P<=1000001000:=by omega
 refine⟨⟨by omega,by omega,by omega⟩,λz5 f0 f1 h5 aZ i0 i1=>?_⟩;have h5:af z5=rws (dw P 0):=by
  rw[h5];show af (rc (dw z4.toNat [0]))=_;rw[jO,ahp,h4];simp
 have q1:(af z5).length=P:=by rw[h5,vN];simp
 refine⟨⟨cn _,by omega,by rw[q1];omega⟩,⟨cn _,by omega,by rw[hn];omega⟩,λaK fC dN h7 aF o7 k1 ch z9 m0 gk cC=>?_⟩;have h7:aK=(n:Int):=by
  have:aK=min z3 z4:=h7;rw[this,h3,h4];omega
 have ch:af aF=af z0:=fP ch (by rw[h7,hn]);obtain⟨a04,PB⟩:∃l:List (List Int),af z0=l:=⟨_,rfl⟩;have cC:af z9=af z0++rws (0::dw (P-n-1) 0):=by
  rw[cC];show af (rc ((af z5).take (0:Int).toNat++af aF++(af z5).drop ((0:Int).toNat+(af aF).length)))=_;rw[jO,ch,h5,hn];simp only[ajj,qy,eQ,y4]
  congr 1
  rw[ahp,List.drop_replicate,<-List.replicate_succ,ahp];rw[show P-n-1+1=P-n by omega]
 have yv:(af z9).length=P:=by rw[cC,fq,hn,vN];simp;omega
 refine⟨⟨by omega,by omega⟩,⟨by omega,by rw[yv];omega⟩,λ_ aY e9 bh dB aN rW o1 kG pc=>?_⟩;have:aN=0:=by omega
 subst this;have dB:af aY=af z0++rws (128::dw (P-n-1) 0):=by
  rw[dB];show af (rc ((af z9).set z3.toNat (((af z9).getD z3.toNat []).take (0:Int).toNat++[128]++((af z9).getD z3.toNat []).drop ((0:Int).toNat+[(128:Int)].length))))=_;have av:rws (0::dw (P-n-1) 0)=[0]::rws (dw (P-n-1) 0):=rfl;have aH:rws (128::dw (P-n-1) 0)=[128]::rws (dw (P-n-1) 0):=rfl;have hl:(af z0).length=z3.toNat:=by rw[hn,h3];simp
  rw[jO,cC,av,aH,aoA _ _ _ _ _ hl];simp only[ajj,qy,eQ,aXi,tI,jA,y4,gO];exact RQ _ _ _ _ _ hl
 refine⟨λl=>∃(j:Nat) (c:Int),j<=8/\l=[[((8*n/256^j:Nat):Int)],[(P:Int)-1-j],[c]]/\af c=af z0++rws (128::dw (P-n-1-j) 0++vS (8*n) j),λl=>((l.getD 0 []).getD 0 0).toNat,⟨0,aY,by decide,by
  rw[Nat.pow_zero,Nat.div_one,show(8*z3+-bt*0:Int)=((8*n:Nat):Int) by omega,show(z4+-1:Int)=(P:Int)-1-((0:Nat):Int) by omega],by rw[dB];simp[vS]⟩,?_⟩
 intro a1 p0 bw aG eu aQ aS r0 r1 ea;obtain⟨j,c,aR,hl,hc⟩:=ea;simp only[hD,and_true]at hl;obtain⟨TH,By,N5⟩:=hl;subst N5;have FX:(af aS).length=P:=by
  rw[hc,fq,hn,vN];simp only[fq,kx,JT,aR0];omega
 refine⟨λrG=>?_,λUF=>⟨⟨cn _,by omega,by rw[FX];omega⟩,λba aL s1 ln=>⟨⟨aL,s1,trivial⟩,?_⟩⟩⟩
 ·have rG:=of_decide_eq_true rG;intro ba aL s1 s2 bx;have aYe:j<8:=by
   rcases Nat.lt_or_ge j 8 with h|h
   ·exact h
   ·have:j=8:=by omega
    subst this;have:8*n/256^8=0:=aiZ (by omega);omega
  refine⟨⟨by omega,by omega⟩,⟨by omega,by rw[FX];omega⟩,λ_ aW t0 t1 lp bm sa kY rb yX=>?_⟩;have UL:af aS=af z0++rws ((128::dw (P-n-1-j-1) 0)++0::vS (8*n) j):=by
   rw[hc];congr 2;rw[show P-n-1-j=(P-n-1-j-1)+1 by omega,ajp];simp
  have aGc:af aW=af z0++rws ((128::dw (P-n-1-j-1) 0)++(a1+-256*ba)::vS (8*n) j):=by
   rw[lp];show af (rc ((af aS).set aG.toNat (((af aS).getD aG.toNat []).take (0:Int).toNat++[a1+-256*ba]++((af aS).getD aG.toNat []).drop ((0:Int).toNat+[a1+-256*ba].length))))=_;have av:∀x:Int,af z0++rws ((128::dw (P-n-1-j-1) 0)++x::vS (8*n) j)=(af z0++rws (128::dw (P-n-1-j-1) 0))++[x]::rws (vS (8*n) j):=λx=>by
    rw[atB,fS];rfl
   have hl:(af z0++rws (128::dw (P-n-1-j-1) 0)).length=aG.toNat:=by
    rw[fq,hn,vN];simp only[kx,JT];omega
   rw[jO,UL,av,av,aoA _ _ _ _ _ hl];simp only[ajj,qy,eQ,aXi,tI,jA,y4,gO];exact RQ _ _ _ _ _ hl
  have tR:ba=a1/256:=by omega
  have zE:bm=a1/256:=by omega
  refine⟨⟨by omega,by omega⟩,⟨j+1,aW,by omega,?_,?_⟩,?_⟩
  ·rw[show bm=((8*n/256^(j+1):Nat):Int) by rw[y1,<-Sf,zE,TH];simp,show(aG+-1:Int)=(P:Int)-1-((j+1:Nat):Int) by omega]
  ·rw[aGc,aul]
   congr 2
   rw[show P-n-1-(j+1)=P-n-1-j-1 by omega]
   congr 2
   rw[tR,TH];omega
  ·show bm.toNat<a1.toNat;omega
 ·have UF:=of_decide_eq_false UF;have h0:8*n/256^j=0:=by omega
  show SB id [[z0]] [[ba]];rw[h8];have ln:=fP ln (by rw[FX,h4]);have cv:af aS=af z0++rws (128::dw (P-n-9) 0++Br (8*n)):=by
   rw[hc,aRZ (8*n) (8-j) j (by omega) h0]
   congr 2
   rw[show P-n-1-j=(P-n-9)+(8-j) by omega,<-List.replicate_append_replicate];simp only[List.cons_append,fS]
  unfold q4;rw[OO,lE];unfold aJ;rw[ln,cv,hQ];have:=Tg (z:=rc (rws (128::dw (P-n-9) 0++Br (8*n)))) (jO _);unfold aJ at this;rw[jO]at this;rw[this];simp
theorem aNU:aks SB (ej SB [uv] 442):=at4 bN 442 (λ_ _=>rfl) (.inl rfl) λn h=>by show _<=(n+1+8+63)/64*64/\(n+1+8+63)/64*64<=_;omega
theorem aNV:akt SB (ej SB [uv] 443):=at4 bP 443 (λ_ _=>rfl) (.inr rfl) λn h=>by show _<=(n+1+16+127)/128*128/\(n+1+16+127)/128*128<=_;omega
end Go.dg
namespace Go.dg
open Go Go.bX
theorem Ok (p:jc):∀(j:Nat) (m:List Int),nd p (j+1) m=nd p j m++[tj p (nd p j m)]
 |0,m=>rfl
 |j+1,m=>by
  show nd p (j+1) (m++[tj p m])=_;rw[Ok p j];rfl
theorem HK (p:jc):∀(j:Nat) (m:List Int),(nd p j m).length=m.length+j
 |0,_=>rfl
 |j+1,m=>by
  show(nd p j (m++[tj p m])).length=_;rw[HK p j];simp;omega
theorem Mp (p:jc):∀(m:List Int) (i:Nat) (x:Int) (v:List Int),q7 p i (m++[x]) v=Cl p (i+m.length) x (q7 p i m v)
 |[],i,x,v=>rfl
 |y::m,i,x,v=>by
  show q7 p (i+1) (m++[x]) _=Cl p _ x (q7 p (i+1) m _);rw[Mp p m]
  congr 1
  simp only[kx];omega
theorem Gw (m:List Int) (i:Nat) (h:i<m.length):m.take (i+1)=m.take i++[m.getD i 0]:=by
 rw[List.take_add_one,lA h];simp[U,h]
theorem arB {r:List Int} (h:r.length=8):r=[r.getD 0 0,r.getD 1 0,r.getD 2 0,r.getD 3 0,r.getD 4 0,r.getD 5 0,r.getD 6 0,r.getD 7 0]:=aoC r 8 h
theorem KQ {c z x:Int} {l:List Int} (h:z=cu 23 [c,x]) (hc:af c=rws l):af z=rws (l++[x]):=by
 rw[h];show af (rc (af c++[[x]]))=_;rw[jO,hc,atB];rfl
theorem BF {c i z:Int} {l:List Int} (h:z=cu 21 [c,i,0]) (hc:af c=rws l):z=l.getD i.toNat 0:=by
 rw[fU h,Tg hc]
theorem DC {lo hi:Int}:∀(n:Nat) (l:List Int),ay (aT lo hi n) l->l.length=n/\∀x∈l,lo<=x/\x<=hi
 |0,[],_=>⟨rfl,λ_ h=>by cases h⟩
 |n+1,x::l,h=>by
  obtain⟨h1,h2⟩:=DC n l h.2.2;refine⟨by simp[h1],λy hy=>?_⟩;rcases List.mem_cons.1 hy with rfl|hy
  ·exact⟨h.1,h.2.1⟩
  ·exact h2 y hy
 |0,_::_,h=>h.elim
 |_+1,[],h=>h.elim
theorem anq (b:List Int) (o n k:Nat) (ag:k<n):((b.drop o).take n).getD k 0=b.getD (o+k) 0:=by
 simp only[U,List.getElem?_take,List.getElem?_drop,ag,if_true]
theorem Gu {x c l k:Int} {pre:List Int} {Next:Int->Int->Int->Prop} (hc:af c=rws pre) (hl:l=(pre.length:Int)) (hb:pre.length<=1000)
 (hn:∀ek l' bJ:Int,0<=ek->ek<=cP->af ek=rws (pre++(dP 4).map (nN bN x))->l'=((pre.length+4:Nat):Int)->Next ek l' bJ):
 ∃(c5:List (List Int)->Prop) (ey:List (List Int)->Nat),c5 [[3],[c],[l],[k]]/\(∀aS:Int,(-1)<=aS->aS<=3->∀ba:Int,0<=ba->ba<=cP->∀aW:Int,0<=aW->aW<=0x7fffffffffffffff->∀bm:Int,(-1)<=bm->bm<=0x7fffffffffffffff->c5 [[aS],[ba],[aW],[bm]]->
 (((decide (0<=aS))=true->
  ∀bp:Int,0<=bp->bp<=4294967295->bp=x/2^((8*aS)).toNat->
  ∀z20:Int,0<=z20->z20<=16777215->0<=bp-256*z20->bp-256*z20<256->
  aj 31 [ba,aW]/\
  aj 23 [ba,1]/\
  ∀z21:Int,0<=z21->z21<=cP->z21=cu 23 [ba,(bp+((-256)*z20))]->
  ∀z22:Int,(-1)<=z22->z22<=0x7fffffffffffffff->
  (c5 [[(aS+(-1))],[z21],[(aW+1)],[z22]]/\ey [[(aS+(-1))],[z21],[(aW+1)],[z22]]<ey [[aS],[ba],[aW],[bm]])
 )/\((decide (0<=aS))=false->Next ba aW bm))):=by
 refine⟨λl=>∃(j:Nat) (ek bJ:Int),j<=4/\l=[[3-(j:Int)],[ek],[((pre.length+j:Nat):Int)],[bJ]]/\af ek=rws (pre++(dP j).map (nN bN x)),λl=>((l.getD 0 []).getD 0 0+1).toNat,⟨0,c,k,by decide,by rw[hl];rfl,by rw[hc];simp⟩,?_⟩;intro aS a0 bR ba dM b4 aW dK c1 bm d0 d1 ⟨j,ek,bJ,aR,e,hr⟩;simp only[hD,and_true]at e;obtain⟨av,aH,ca,ht⟩:=e;subst aH;have hlen:(af ba).length=pre.length+j:=by rw[hr,vN];simp
 refine⟨λh bp f0 f1 f2 z20 g0 g1 g2 g3=>?_,λh=>?_⟩
 ·have h:=of_decide_eq_true h;refine⟨by show aW=((af ba).length:Int);rw[hlen,ca],by show(af ba).length+(1:Int)<=1073741824;rw[hlen];omega,λz21 i0 i1 i2 z22 fC dN=>⟨⟨j+1,z21,z22,by omega,?_,?_⟩,?_⟩⟩
  ·rw[show aS+-1=3-((j+1:Nat):Int) by omega,show aW+1=((pre.length+(j+1):Nat):Int) by omega]
  ·rw[KQ i2 hr,fS,SC,hQ]
   congr 3
   show [bp+-256*z20]=[x/2^(32-8-8*j)% 256];have:(8*aS).toNat=32-8-8*j:=by omega
   rw[<-this,<-f2]
   congr 1;omega
  ·show(aS+-1+1).toNat<(aS+1).toNat;omega
 ·have h:=of_decide_eq_false h;have:j=4:=by omega
  subst this;exact hn ba aW bm dM b4 hr ca
theorem Gv {x c l k:Int} {pre:List Int} {Next:Int->Int->Int->Prop} (hc:af c=rws pre) (hl:l=(pre.length:Int)) (hb:pre.length<=1000)
 (hn:∀ek l' bJ:Int,0<=ek->ek<=cP->af ek=rws (pre++(dP 8).map (nN bP x))->l'=((pre.length+8:Nat):Int)->Next ek l' bJ):
 ∃(c5:List (List Int)->Prop) (ey:List (List Int)->Nat),c5 [[7],[c],[l],[k]]/\(∀aS:Int,(-1)<=aS->aS<=7->∀ba:Int,0<=ba->ba<=cP->∀aW:Int,0<=aW->aW<=0x7fffffffffffffff->∀bm:Int,(-1)<=bm->bm<=0x7fffffffffffffff->c5 [[aS],[ba],[aW],[bm]]->
 (((decide (0<=aS))=true->
  ∀bp:Int,0<=bp->bp<=0xffffffffffffffff->bp=x/2^((8*aS)).toNat->
  ∀z20:Int,0<=z20->z20<=0xffffffffffffff->0<=bp-256*z20->bp-256*z20<256->
  aj 31 [ba,aW]/\
  aj 23 [ba,1]/\
  ∀z21:Int,0<=z21->z21<=cP->z21=cu 23 [ba,(bp+((-256)*z20))]->
  ∀z22:Int,(-1)<=z22->z22<=0x7fffffffffffffff->
  (c5 [[(aS+(-1))],[z21],[(aW+1)],[z22]]/\ey [[(aS+(-1))],[z21],[(aW+1)],[z22]]<ey [[aS],[ba],[aW],[bm]])
 )/\((decide (0<=aS))=false->Next ba aW bm))):=by
 refine⟨λl=>∃(j:Nat) (ek bJ:Int),j<=8/\l=[[7-(j:Int)],[ek],[((pre.length+j:Nat):Int)],[bJ]]/\af ek=rws (pre++(dP j).map (nN bP x)),λl=>((l.getD 0 []).getD 0 0+1).toNat,⟨0,c,k,by decide,by rw[hl];rfl,by rw[hc];simp⟩,?_⟩;intro aS a0 bR ba dM b4 aW dK c1 bm d0 d1 ⟨j,ek,bJ,aR,e,hr⟩;simp only[hD,and_true]at e;obtain⟨av,aH,ca,ht⟩:=e;subst aH;have hlen:(af ba).length=pre.length+j:=by rw[hr,vN];simp
 refine⟨λh bp f0 f1 f2 z20 g0 g1 g2 g3=>?_,λh=>?_⟩
 ·have h:=of_decide_eq_true h;refine⟨by show aW=((af ba).length:Int);rw[hlen,ca],by show(af ba).length+(1:Int)<=1073741824;rw[hlen];omega,λz21 i0 i1 i2 z22 fC dN=>⟨⟨j+1,z21,z22,by omega,?_,?_⟩,?_⟩⟩
  ·rw[show aS+-1=7-((j+1:Nat):Int) by omega,show aW+1=((pre.length+(j+1):Nat):Int) by omega]
  ·rw[KQ i2 hr,fS,SC,hQ]
   congr 3
   show [bp+-256*z20]=[x/2^(64-8-8*j)% 256];have:(8*aS).toNat=64-8-8*j:=by omega
   rw[<-this,<-f2]
   congr 1;omega
  ·show(aS+-1+1).toNat<(aS+1).toNat;omega
 ·have h:=of_decide_eq_false h;have:j=8:=by omega
  subst this;exact hn ba aW bm dM b4 hr ca
end Go.dg
namespace Go.dg
open Go Go.bX
def Zw (S:zzS) (K:zzK):Prop:=dy (-0x8000000000000000) oF λz0=>dy (-0x8000000000000000) oF λar=>(eb (decide (z0<0)) (K [[z0],[ar]] [[0]]) ((eb (decide (1099511627776<z0)) (K [[z0],[ar]] [[0]]) ((eb ((!(decide (ar=32)))) ((eb ((!(decide (ar=64)))) (K [[z0],[ar]] [[0]]) (aq (-1) 1 ((2*ar)+0x8000000000000000) en λz2=>aj 77 [ar]/\aq 0 0x1fffffffffffffff ar 4 λz3=>bg ((z0+((2*ar)+((a7*z2)+z3)))+BX) en λz4=>aq (-1) 0 ((z0+((2*ar)+((a7*z2)+(z3+(a7*z4)))))+0x8000000000000000) en λz5=>aj 77 [(z0+((2*ar)+((a7*z2)+(z3+((a7*z4)+(a7*z5))))))]/\aj 36 [((2*ar)+(a7*z2))]/\ee 76 [(z0+((2*ar)+((a7*z2)+(z3+((a7*z4)+(a7*z5)))))),((2*ar)+(a7*z2))] λaZ=>aj 77 [((2*ar)+(a7*z2))]/\dy 0 0x3fffffffffffffff0000000000000001 λaK=>aK=aZ*((2*ar)+(a7*z2))->aq 0 0x3fffffffffffffff (aK+0x8000000000000000) en λaF=>K [[z0],[ar]] [[(aK+(a7*aF))]]))) (aq (-1) 1 ((2*ar)+0x8000000000000000) en λz2=>aj 77 [ar]/\aq 0 0x1fffffffffffffff ar 4 λz3=>bg ((z0+((2*ar)+((a7*z2)+z3)))+BX) en λz4=>aq (-1) 0 ((z0+((2*ar)+((a7*z2)+(z3+(a7*z4)))))+0x8000000000000000) en λz5=>aj 77 [(z0+((2*ar)+((a7*z2)+(z3+((a7*z4)+(a7*z5))))))]/\aj 36 [((2*ar)+(a7*z2))]/\ee 76 [(z0+((2*ar)+((a7*z2)+(z3+((a7*z4)+(a7*z5)))))),((2*ar)+(a7*z2))] λaZ=>aj 77 [((2*ar)+(a7*z2))]/\dy 0 0x3fffffffffffffff0000000000000001 λaK=>aK=aZ*((2*ar)+(a7*z2))->aq 0 0x3fffffffffffffff (aK+0x8000000000000000) en λaF=>K [[z0],[ar]] [[(aK+(a7*aF))]]))))))
theorem aNj:Zw SB (fA SB [x8] 441):=by
 delta Zw eb bg aq dy ee en a7 oF BX;dsimp only
 intro z0 a0 bR ar dM b4;have fin:∀z:Int,-0x8000000000000000<=z->z<=0x7fffffffffffffff->z=pM z0 ar->fA SB [x8] 441 [[z0],[ar]] [[z]]:=λz h1 h2 h=>⟨⟨h1,h2,trivial⟩,by show [[z]]=[[pM z0 ar]];rw[h]⟩;have bad:(z0<0∨1099511627776<z0∨(ar≠32/\ar≠64))->fA SB [x8] 441 [[z0],[ar]] [[0]]:=λh=>fin 0 (by omega) (by omega) (by unfold pM;rw[if_pos h]);refine⟨λh=>bad (.inl (of_decide_eq_true h)),λh=>⟨λaP=>bad (.inr (.inl (of_decide_eq_true aP))),λaP=>?_⟩⟩;have e9:0<=z0:=by have:=of_decide_eq_false h;omega
 have bh:z0<=1099511627776:=by have:=of_decide_eq_false aP;omega
 obtain⟨N,rfl⟩:∃N:Nat,(N:Int)=z0:=⟨z0.toNat,by omega⟩;refine⟨λg=>⟨λkq=>bad (.inr (.inr ⟨by simpa using g,by simpa using kq⟩)),λkq=>?_⟩,λg=>?_⟩
 ·have hz:ar=64:=by simpa using kq
  subst hz;intro z2 dK c1 bQ cD;have:z2=0:=by omega
  subst this;refine⟨by show(0:Int)<=64;decide,λz3 d0 d1 d2 d3 z4 cv av aH ca=>?_⟩;have:z3=16:=by omega
  subst this;have:z4=0:=by omega
  subst this;intro z5 f0 f1 f2 f3;have:z5=0:=by omega
  subst this;rw[show(2*64+-0x10000000000000000*0:Int)=128 by decide];refine⟨by show(0:Int)<=_;omega,by show(0:Int)<128;decide,λaZ g0 g1 h6=>⟨by show(0:Int)<=128;decide,λaK i0 i1 h7 aF fC dN nY o6=>?_⟩⟩;have h6:aZ=((N:Int)+(2*64+(-0x10000000000000000*0+(16+(-0x10000000000000000*0+-0x10000000000000000*0)))))/128:=h6;have:aF=0:=by omega
  subst this;refine fin _ (by omega) (by omega) ?_;unfold pM lf;rw[if_neg (by omega)];simp only[hC];rw[show(64:Int).toNat=64 from rfl];omega
 ·have hz:ar=32:=by simpa using g
  subst hz;intro z2 dK c1 bQ cD;have:z2=0:=by omega
  subst this;refine⟨by show(0:Int)<=32;decide,λz3 d0 d1 d2 d3 z4 cv av aH ca=>?_⟩;have:z3=8:=by omega
  subst this;have:z4=0:=by omega
  subst this;intro z5 f0 f1 f2 f3;have:z5=0:=by omega
  subst this;rw[show(2*32+-0x10000000000000000*0:Int)=64 by decide];refine⟨by show(0:Int)<=_;omega,by show(0:Int)<64;decide,λaZ g0 g1 h6=>⟨by show(0:Int)<=64;decide,λaK i0 i1 h7 aF fC dN nY o6=>?_⟩⟩;have h6:aZ=((N:Int)+(2*32+(-0x10000000000000000*0+(8+(-0x10000000000000000*0+-0x10000000000000000*0)))))/64:=h6;have:aF=0:=by omega
  subst this;refine fin _ (by omega) (by omega) ?_;unfold pM lf;rw[if_neg (by omega)];simp only[hC];rw[show(32:Int).toNat=32 from rfl];omega
end Go.dg
namespace Go.dg
open Go Go.bX
def YG (S:zzS) (K:zzK):Prop:=dV λz0=>(aj 72 [z0]->bY λar=>cz λz2=>ee 20 [z0] λz3=>aj 70 [z3,64]/\∃(G3:List (List Int)->Prop) (SD:List (List Int)->Nat),G3 [[1779033703,3144134277,1013904242,2773480762,1359893119,2600822924,528734635,1541459225],[0]]/\(∀aD:List Int,ay (aT 0 4294967295 8) aD->qm λ a1=>G3 [aD,[a1]]->(eb (decide ((64*a1)<z3)) (aj 21 [z0,(64*a1)]/\iE 21 [z0,(64*a1),0] λaG=>abL z0 (64*a1) 63 1 [aG] λE9=>abJ E9 16 0 0 λz93=>aj 66 [z93]/\dV λly=>S 462 [[z93]] [[ly]]->cz λoP=>ee 20 [ly] λuT=>∃(Z2:List (List Int)->Prop) (awJ:List (List Int)->Nat),Z2 [[16],[ly],[uT],[oP]]/\(dy 16 oF λkj=>dV λj3=>qm λmf=>cz λAM=>Z2 [[kj],[j3],[mf],[AM]]->(eb (decide (kj<64)) (aj 30 [(kj+(-16)),mf]/\aj 21 [j3,(kj+(-16))]/\L8 21 [j3,(kj+(-16)),0] λwE=>aj 30 [(kj+(-15)),mf]/\aj 21 [j3,(kj+(-15))]/\L8 21 [j3,(kj+(-15)),0] λtB=>vJ λtC=>S 446 [[tB]] [[tC]]->bg (wE+tC) 4294967296 λz105=>aj 30 [(kj+(-7)),mf]/\aj 21 [j3,(kj+(-7))]/\L8 21 [j3,(kj+(-7)),0] λxP=>bg (wE+(tC+(((-4294967296)*z105)+xP))) 4294967296 λz107=>aj 30 [(kj+(-2)),mf]/\aj 21 [j3,(kj+(-2))]/\L8 21 [j3,(kj+(-2)),0] λJF=>vJ λz109=>S 447 [[JF]] [[z109]]->bg (wE+(tC+(((-4294967296)*z105)+(xP+(((-4294967296)*z107)+z109))))) 4294967296 λJG=>aj 31 [j3,mf]/\aj 23 [j3,1]/\ck 23 [j3,(wE+(tC+(((-4294967296)*z105)+(xP+(((-4294967296)*z107)+(z109+((-4294967296)*JG)))))))] λmg=>cz λlX=>(Z2 [[(kj+1)],[mg],[(mf+1)],[lX]]/\awJ [[(kj+1)],[mg],[(mf+1)],[lX]]<awJ [[kj],[j3],[mf],[AM]])) (∃(ZX:List (List Int)->Prop) (awE:List (List Int)->Nat),ZX [aD,[0]]/\(∀eN:List Int,ay (aT 0 4294967295 8) eN->qm λmg=>ZX [eN,[mg]]->(eb (decide (mg<mf)) (aj 30 [mg,mf]/\aj 21 [j3,mg]/\L8 21 [j3,mg,0] λlX=>vJ λmh=>S 445 [[(U eN 4 0)]] [[mh]]->bg ((U eN 7 0)+mh) 4294967296 λmY=>bY λsS=>sS<=cL .u32->sS=br .and .u32 (U eN 4 0) (U eN 5 0)->bY λz116=>z116<=cL .u32->z116=br .and .u32 (((-1)*(U eN 4 0))+4294967295) (U eN 6 0)->bY λz117=>z117<=cL .u32->z117=br .xor .u32 sS z116->bg ((U eN 7 0)+(mh+(((-4294967296)*mY)+z117))) 4294967296 λ nF=>aj 39 [mg,0,79]/\vJ λz119=>S 466 [[mg]] [[z119]]->bg ((U eN 7 0)+(mh+(((-4294967296)*mY)+(z117+(((-4294967296)*nF)+z119))))) 4294967296 λtD=>bg ((U eN 7 0)+(lX+(mh+(((-4294967296)*mY)+(z117+(((-4294967296)*nF)+(z119+((-4294967296)*tD)))))))) 4294967296 λuP=>vJ λuQ=>S 444 [[(U eN 0 0)]] [[uQ]]->bY λEx=>Ex<=cL .u32->Ex=br .and .u32 (U eN 0 0) (U eN 1 0)->bY λz124=>z124<=cL .u32->z124=br .and .u32 (U eN 0 0) (U eN 2 0)->bY λEy=>Ey<=cL .u32->Ey=br .xor .u32 Ex z124->bY λEz=>Ez<=cL .u32->Ez=br .and .u32 (U eN 1 0) (U eN 2 0)->bY λz127=>z127<=cL .u32->z127=br .xor .u32 Ey Ez->bg (uQ+z127) 4294967296 λEA=>dI λ Cv=>0<=((U eN 3 0)+((U eN 7 0)+(lX+(mh+(((-4294967296)*mY)+(z117+(((-4294967296)*nF)+(z119+(((-4294967296)*tD)+((-4294967296)*uP))))))))))-4294967296*Cv->((U eN 3 0)+((U eN 7 0)+(lX+(mh+(((-4294967296)*mY)+(z117+(((-4294967296)*nF)+(z119+(((-4294967296)*tD)+((-4294967296)*uP))))))))))-4294967296*Cv<4294967296->dI λz130=>0<=((U eN 7 0)+(lX+(mh+(((-4294967296)*mY)+(z117+(((-4294967296)*nF)+(z119+(((-4294967296)*tD)+(((-4294967296)*uP)+(uQ+(z127+((-4294967296)*EA))))))))))))-4294967296*z130->((U eN 7 0)+(lX+(mh+(((-4294967296)*mY)+(z117+(((-4294967296)*nF)+(z119+(((-4294967296)*tD)+(((-4294967296)*uP)+(uQ+(z127+((-4294967296)*EA))))))))))))-4294967296*z130<4294967296->bg (mg+BX) en λz131=>aj 39 [((mg+(a7*z131))+1),0,oF]/\(ZX [[((U eN 7 0)+(lX+(mh+(((-4294967296)*mY)+(z117+(((-4294967296)*nF)+(z119+(((-4294967296)*tD)+(((-4294967296)*uP)+(uQ+(z127+(((-4294967296)*EA)+((-4294967296)*z130))))))))))))),(U eN 0 0),(U eN 1 0),(U eN 2 0),((U eN 3 0)+((U eN 7 0)+(lX+(mh+(((-4294967296)*mY)+(z117+(((-4294967296)*nF)+(z119+(((-4294967296)*tD)+(((-4294967296)*uP)+((-4294967296)*Cv))))))))))),(U eN 4 0),(U eN 5 0),(U eN 6 0)],[((mg+(a7*z131))+1)]]/\awE [[((U eN 7 0)+(lX+(mh+(((-4294967296)*mY)+(z117+(((-4294967296)*nF)+(z119+(((-4294967296)*tD)+(((-4294967296)*uP)+(uQ+(z127+(((-4294967296)*EA)+((-4294967296)*z130))))))))))))),(U eN 0 0),(U eN 1 0),(U eN 2 0),((U eN 3 0)+((U eN 7 0)+(lX+(mh+(((-4294967296)*mY)+(z117+(((-4294967296)*nF)+(z119+(((-4294967296)*tD)+(((-4294967296)*uP)+((-4294967296)*Cv))))))))))),(U eN 4 0),(U eN 5 0),(U eN 6 0)],[((mg+(a7*z131))+1)]]<awE [eN,[mg]])) (bg ((U aD 0 0)+(U eN 0 0)) 4294967296 λlX=>bg ((U aD 1 0)+(U eN 1 0)) 4294967296 λmh=>bg ((U aD 2 0)+(U eN 2 0)) 4294967296 λmY=>bg ((U aD 3 0)+(U eN 3 0)) 4294967296 λsS=>bg ((U aD 4 0)+(U eN 4 0)) 4294967296 λz116=>bg ((U aD 5 0)+(U eN 5 0)) 4294967296 λz117=>bg ((U aD 6 0)+(U eN 6 0)) 4294967296 λnF=>bg ((U aD 7 0)+(U eN 7 0)) 4294967296 λz119=>(G3 [[((U aD 0 0)+((U eN 0 0)+((-4294967296)*lX))),((U aD 1 0)+((U eN 1 0)+((-4294967296)*mh))),((U aD 2 0)+((U eN 2 0)+((-4294967296)*mY))),((U aD 3 0)+((U eN 3 0)+((-4294967296)*sS))),((U aD 4 0)+((U eN 4 0)+((-4294967296)*z116))),((U aD 5 0)+((U eN 5 0)+((-4294967296)*z117))),((U aD 6 0)+((U eN 6 0)+((-4294967296)*nF))),((U aD 7 0)+((U eN 7 0)+((-4294967296)*z119)))],[(a1+1)]]/\SD [[((U aD 0 0)+((U eN 0 0)+((-4294967296)*lX))),((U aD 1 0)+((U eN 1 0)+((-4294967296)*mh))),((U aD 2 0)+((U eN 2 0)+((-4294967296)*mY))),((U aD 3 0)+((U eN 3 0)+((-4294967296)*sS))),((U aD 4 0)+((U eN 4 0)+((-4294967296)*z116))),((U aD 5 0)+((U eN 5 0)+((-4294967296)*z117))),((U aD 6 0)+((U eN 6 0)+((-4294967296)*nF))),((U aD 7 0)+((U eN 7 0)+((-4294967296)*z119)))],[(a1+1)]]<SD [aD,[a1]])))))))) (Gt (U aD 0 0) 0 0 (-1) λba aW bm=>Gt (U aD 1 0) ba aW bm λz21 z22 bW=>Gt (U aD 2 0) z21 z22 bW λz26 b5 z28=>Gt (U aD 3 0) z26 b5 z28 λz31 bj bM=>Gt (U aD 4 0) z31 bj bM λcp z37 cU=>Gt (U aD 5 0) cp z37 cU λc2 db dc=>Gt (U aD 6 0) c2 db dc λz46 dz dL=>Gt (U aD 7 0) z46 dz dL λz51 dA z53=>aj 22 [z51,0,dA]/\ck 22 [z51,0,dA] λeX=>K [[z0]] [[eX]]))))
theorem V0 {L S M k:Int} (h:L=S-M*k) (h1:0<=L) (h2:L<M):L=S% M:=by
 have e:S=L+M*k:=by omega
 rw[e,xQ,lO h1 h2]
theorem av6 (f:Int->Int->Int) {r t:List Int} (h:r.length=8) (aP:t.length=8):tG f r t=[f (r.getD 0 0) (t.getD 0 0),f (r.getD 1 0) (t.getD 1 0),f (r.getD 2 0) (t.getD 2 0),f (r.getD 3 0) (t.getD 3 0),f (r.getD 4 0) (t.getD 4 0),f (r.getD 5 0) (t.getD 5 0),f (r.getD 6 0) (t.getD 6 0),f (r.getD 7 0) (t.getD 7 0)]:=by
 match r,t,h,aP with
 |[_,_,_,_,_,_,_,_],[_,_,_,_,_,_,_,_],_,_=>rfl
theorem ahT (i:Nat) (x:Int) {r:List Int} (hr:r.length=8):Cl bN i x r=(let t:=md bN (r.getD 7 0+vl bN (r.getD 4 0)+wZ bN (r.getD 4 0) (r.getD 5 0) (r.getD 6 0)+AE bN i+x);let u:=md bN (vk bN (r.getD 0 0)+Ah bN (r.getD 0 0) (r.getD 1 0) (r.getD 2 0));[md bN (t+u),r.getD 0 0,r.getD 1 0,r.getD 2 0,md bN (r.getD 3 0+t),r.getD 4 0,r.getD 5 0,r.getD 6 0]):=by
 match r,hr with
 |[_,_,_,_,_,_,_,_],_=>rfl
theorem vG (x:Int):md bN x=x% 4294967296:=by
 show x% (2:Int)^32=_;rw[show(2:Int)^32=4294967296 by decide]
theorem abd:mB bN=[1779033703,3144134277,1013904242,2773480762,1359893119,2600822924,528734635,1541459225]:=by decide+kernel
theorem amY {c b:Int} {B:Nat} {k:List Int->Prop} (hb:b=(B:Int)):∀(n i:Nat) (acc:List Int),B+i+n<=(aJ c).length->(∀q:List Int,q.length=n->q=((aJ c).drop (B+i)).take n->(∀x∈q,0<=x/\x<=255)->k (acc++q))->abL c b n i acc k
 |0,i,acc,_,h=>by
  have:=h [] rfl (by simp) (by simp);show k acc;simpa using this
 |n+1,i,acc,hn,h=>⟨⟨by omega,by rw[<-fT];omega⟩,λy gV au hy=>amY hb n (i+1) (acc++[y]) (by omega) λq h1 h3 h4=>by
  have hl:B+i<(aJ c).length:=by omega
  have e:y=(aJ c)[B+i]:=by rw[fU hy,show(b+(i:Int)).toNat=B+i by omega,ky,lA hl];rfl
  have:=h (y::q) (by simp[h1]) (by rw[EN hl,l5,<-e,h3];rfl) (λx hx=>(List.mem_cons.1 hx).elim (λe=>e▸⟨gV,au⟩) (h4 x));simpa using this⟩
theorem amW {l:List Int} {k:Int->Prop}:∀(n j:Nat) (c:Int) (L:List Int),af c=rws L->(∀z,af z=rws (L++(dP n).map λt=>tx bN l (j+t))->k z)->abJ l n j c k
 |0,j,c,L,hc,h=>h c (by simpa using hc)
 |n+1,j,c,L,hc,h=>λy _ _ hy=>amW n (j+1) y _ (KQ hy hc) λz hz=>h z (by
  rw[hz,fS,Yx,df,lz];have e:(16777216*U l (4*j) 0)+((65536*U l (4*j+1) 0)+((256*U l (4*j+2) 0)+U l (4*j+3) 0))=tx bN l (j+0):=by
   show _=(((0*256+l.getD (j*4+0) 0)*256+l.getD (j*4+1) 0)*256+l.getD (j*4+2) 0)*256+l.getD (j*4+3) 0;rw[show j*4=4*j by omega];simp only[m3];omega
  rw[e];refine congrArg (λq=>rws (L++(tx bN l (j+0)::q))) (j5 λt _=>?_);show tx bN l (j+1+t)=tx bN l (j+(t+1));rw[show j+1+t=j+(t+1) by omega])
set_option maxHeartbeats 4000000 in
theorem aLV:YG SB (ej SB [uv] 464):=by
 delta YG eb bg dy bY qm ee dV ck iE dI vJ L8 cz en a7 oF BX;dsimp only
 intro z0 a0 bR hp ar dM z2 dK c1 z3 d0 d1 h3;have hp:64∣(af z0).length/\(af z0).length<=1000001000:=hp;have h3:z3=((af z0).length:Int):=h3;obtain⟨⟨q,an⟩,Ik⟩:=hp;have bd:(aJ z0).length=64*q:=by rw[fT,an]
 have OA:z3=64*(q:Int):=by rw[h3,an];simp
 refine⟨⟨(q:Int),OA⟩,λl=>∃(i:Nat),i<=q/\l=[ru bN (aJ z0) i (mB bN),[(i:Int)]],λl=>((q:Int)-(l.getD 1 []).getD 0 0).toNat,⟨0,AS _,by
  show _=[mB bN,[(0:Int)]];rw[abd]⟩,?_⟩
 intro aD aeb a1 cv av ⟨i,hi,ea⟩;simp only[hD,and_true]at ea;obtain⟨OH,aCZ⟩:=ea;obtain⟨q1,nM⟩:=DC 8 aD aeb;have Ib:((af z0).length:Int)=64*(q:Int):=by rw[<-h3,OA]
 refine⟨λh=>?_,λh=>?_⟩
 ·have h:=of_decide_eq_true h;have O6:i<q:=by omega
  have gv:∀k:Int,0<=k->k<64->aj 21 [z0,64*a1+k]:=λk h1 h2=>⟨by omega,by rw[Ib];omega⟩;have abo:aj 21 [z0,64*a1]:=⟨by omega,by rw[Ib];omega⟩;refine⟨abo,?_⟩;intro aG f0 g0 t0;obtain⟨bl,xa⟩:∃l,((aJ z0).drop (64*i)).take 64=l:=⟨_,rfl⟩;have azj:bl.length=64:=by rw[<-xa,m4,pq,bd];omega
  have hz:a1=(i:Int):=by omega
  refine amY (B:=64*i) (by rw[hz];omega) 63 1 [aG] (by rw[bd];omega) λaQ h1 h2 _=>?_;have oZ:[aG]++aQ=bl:=by
   have av:aG=(aJ z0).getD (64*i) 0:=by rw[fU t0,hz,show(64*(i:Int)).toNat=64*i by omega]
   have l1:64*i<(aJ z0).length:=by rw[bd];omega
   rw[<-xa,h2,av,ky,lA l1,EN l1];rfl
  rw[oZ];obtain⟨ws,BO⟩:∃l,re bN bl=l:=⟨_,rfl⟩;refine amW 16 0 0 [] j2 λz93 hr=>?_;have hr:af z93=rws ws:=by rw[hr,<-BO,eQ];simp[re]
  have wl:ws.length=16:=by rw[<-BO];simp[re]
  refine⟨by show(af z93).length<=1000000;rw[hr,vN,wl];decide,?_⟩;intro ly i0 i1 fC oP o7 k1 uT m0 gk e9;have fC:af ly=af z93:=fC;rw[hr]at fC;have e9:uT=((af ly).length:Int):=e9;rw[fC,vN,wl]at e9;refine⟨λl=>∃(j:Nat) (c k:Int),j<=48/\l=[[((16+j:Nat):Int)],[c],[((16+j:Nat):Int)],[k]]/\af c=rws (nd bN j ws),λl=>(64-(l.getD 0 []).getD 0 0).toNat,⟨0,ly,oP,AS _,by rw[e9];rfl,fC⟩,?_⟩;intro kj rW o1 j3 p0 bw mf eu aQ AM r0 r1 ⟨j,c,gR,aR,hl,hc⟩;simp only[hD,and_true]at hl;obtain⟨Uz,Dr,O9,aEZ⟩:=hl;subst Dr;obtain⟨bK,nm⟩:∃l,nd bN j ws=l:=⟨_,rfl⟩;rw[nm]at hc;have DY:bK.length=16+j:=by rw[<-nm,HK,wl]
  have zA:((af j3).length:Int)=16+(j:Int):=by rw[hc,vN,DY];omega
  refine⟨λhlt=>?_,λng=>?_⟩
  ·have hlt:=of_decide_eq_true hlt;refine⟨⟨by omega,by omega⟩,⟨by omega,by rw[zA];omega⟩,λwE aL s1 s2=>⟨⟨by omega,by omega⟩,⟨by omega,by rw[zA];omega⟩,λtB aR9 aSb ah4 tC aSm aSn En z105 aVp aVq aVr aVs=>⟨⟨by omega,by omega⟩,⟨by omega,by rw[zA];omega⟩,λxP w0 eU pn z107 aVP aVQ aVM aVN=>⟨⟨by omega,by omega⟩,⟨by omega,by rw[zA];omega⟩,λJF aVW aVX aiz z109 Ns Nt tM JG abb abc zy ay6=>⟨by show mf=((af j3).length:Int);omega,by show((af j3).length:Int)+1<=1073741824;omega,λmg aby abz Hx lX abT abU=>?_⟩⟩⟩⟩⟩;have En:[[tC]]=[[Cj bN tB]]:=En;have tM:[[z109]]=[[Ck bN JF]]:=tM;simp only[hD,and_true]at En tM;have av:=BF s2 hc;have aH:=BF ah4 hc;have ca:=BF pn hc;have ht:=BF aiz hc;have ad3:wE+(tC+((-4294967296)*z105+(xP+((-4294967296)*z107+(z109+(-4294967296)*JG)))))=tj bN bK:=by
    unfold tj;rw[vG,DY,show 16+j-16=(kj+-16).toNat by omega,show 16+j-15=(kj+-15).toNat by omega,show 16+j-7=(kj+-7).toNat by omega,show 16+j-2=(kj+-2).toNat by omega,<-av,<-aH,<-ca,<-ht,<-En,<-tM];omega
   have kD:=KQ Hx hc;rw[ad3]at kD;refine⟨⟨j+1,mg,lX,by omega,by rw[show kj+1=((16+(j+1):Nat):Int) by omega,show mf+1=((16+(j+1):Nat):Int) by omega],by rw[Ok,nm];exact kD⟩,?_⟩;show(64-(kj+1)).toNat<(64-kj).toNat;omega
  ·have ng:=of_decide_eq_false ng;have adS:j=48:=by omega
   have aeg:sched bN ws=bK:=by rw[<-nm,adS];rfl
   refine⟨λl=>∃(t:Nat),t<=64/\l=[q7 bN 0 (bK.take t) aD,[(t:Int)]],λl=>(64-(l.getD 1 []).getD 0 0).toNat,⟨0,AS _,rfl⟩,?_⟩;intro dW aec mg aL s1 ⟨t,aB,hl⟩;simp only[hD,and_true]at hl;obtain⟨hv,aGk⟩:=hl;obtain⟨yv,hH⟩:=DC 8 dW aec;refine⟨λhlt=>?_,λO2=>?_⟩
   ·have hlt:=of_decide_eq_true hlt;refine⟨⟨by omega,by omega⟩,⟨by omega,by rw[zA];omega⟩,?_⟩;intro lX Ns Nt tM mh abb abc zy mY aby abz Hx abA sS abT abU abV z116 aBh aBi acj z117 aBp aBq acw nF aCx aCy acN acO;refine⟨⟨by omega,by omega⟩,?_⟩;intro z119 O3 aEN zQ tD aGK aGL aez aeA uP aGU aGV aeH aeI uQ aHl aHm DV Ex aIc aId afS z124 aIF aIG af0 Ey aI1 aI2 agd Ez aLC aLD agw z127 aOP aOQ agN EA aPa aPb aPc aPd Cv aPL aPM RJ RL z130 aRh aRi ahQ ahR z131 aSa aSc aSd aSe;have Pq:t<64:=by omega
    have ab3:z131=0:=by omega
    have ex:=BF tM hc;rw[show mg.toNat=t by omega]at ex;have zy:[[mh]]=[[vl bN (dW.getD 4 0)]]:=zy;have zQ:[[z119]]=[[AE bN mg.toNat]]:=zQ;have DV:[[uQ]]=[[vk bN (dW.getD 0 0)]]:=DV;simp only[hD,and_true]at zy zQ DV;rw[show mg.toNat=t by omega]at zQ;have nU:z117=wZ bN (dW.getD 4 0) (dW.getD 5 0) (dW.getD 6 0):=by
     rw[acw,abV,acj];unfold wZ;rw[show(2:Int)^bN.w-1-dW.getD 4 0=-1*dW.getD 4 0+4294967295 by rw[show(2:Int)^bN.w=4294967296 by decide];omega];rfl
    have ad0:z127=Ah bN (dW.getD 0 0) (dW.getD 1 0) (dW.getD 2 0):=by
     rw[agN,agd,af0,afS,agw];rfl
    obtain⟨A,aV⟩:∃A,dW.getD 0 0=A:=⟨_,rfl⟩;obtain⟨D,nR⟩:∃A,dW.getD 3 0=A:=⟨_,rfl⟩;obtain⟨H,OG⟩:∃A,dW.getD 7 0=A:=⟨_,rfl⟩;rw[OG]at Hx abA acN acO aez aeA aeH aeI RJ RL ahQ ahR⊢;rw[nR]at RJ RL⊢;have It:=ahT t lX yv;rw[OG,nR,<-zy,<-nU,<-zQ,<-DV,<-ad0]at It;have bG:md bN (H+mh+z117+z119+lX)=H+(lX+(mh+((-4294967296)*mY+(z117+((-4294967296)*nF+(z119+((-4294967296)*tD+(-4294967296)*uP))))))):=by
     rw[vG];omega
    have ada:md bN (uQ+z127)=uQ+(z127+(-4294967296)*EA):=by
     rw[vG];omega
    simp only[bG,ada]at It;refine⟨⟨by omega,by omega⟩,⟨t+1,by omega,?_⟩,?_⟩
    ·rw[Gw bK t (by omega),Mp,<-hv,show 0+(bK.take t).length=t by rw[m4];omega,<-ex,It,ab3];simp only[hD,and_true];refine⟨⟨?_,trivial,trivial,trivial,?_⟩,?_⟩
     ·rw[vG];exact V0 (k:=z130) (by omega) (by omega) (by omega)
     ·rw[vG];exact V0 (k:=Cv) (by omega) (by omega) (by omega)
     ·omega
    ·show(64-(mg+-0x10000000000000000*z131+1)).toNat<(64-mg).toNat;omega
   ·have O2:=of_decide_eq_false O2;intro lX Ns ax8 ayg ayp mh Nt ax9 ayh ayq mY tM aya ayi ayr sS ax3 ayb ayj ays z116 ax4 ayc ayk ayt z117 ax5 ayd ayl ayu nF ax6 aye aym ayv z119 ax7 ayf ayn ayw;have Pq:t=64:=by omega
    have adH:bK.take t=bK:=mu (by omega);rw[adH]at hv;have vt:uM bN aD ws=[aD.getD 0 0+(dW.getD 0 0+(-4294967296)*lX),aD.getD 1 0+(dW.getD 1 0+(-4294967296)*mh),aD.getD 2 0+(dW.getD 2 0+(-4294967296)*mY),aD.getD 3 0+(dW.getD 3 0+(-4294967296)*sS),aD.getD 4 0+(dW.getD 4 0+(-4294967296)*z116),aD.getD 5 0+(dW.getD 5 0+(-4294967296)*z117),aD.getD 6 0+(dW.getD 6 0+(-4294967296)*nF),aD.getD 7 0+(dW.getD 7 0+(-4294967296)*z119)]:=by
     unfold uM;rw[aeg,<-hv,av6 _ q1 yv];simp only[vG,hD,and_true];refine⟨by omega,by omega,by omega,by omega,by omega,by omega,by omega,by omega⟩
    refine⟨⟨i+1,by omega,?_⟩,?_⟩
    ·rw[<-vt,OH];show _=[uM bN (ru bN (aJ z0) i (mB bN)) (re bN (((aJ z0).drop (64*i)).take 64)),_];rw[xa,BO,show a1+1=((i+1:Nat):Int) by omega]
    ·show((q:Int)-(a1+1)).toNat<((q:Int)-a1).toNat;omega
 ·have h:=of_decide_eq_false h;have O6:i=q:=by omega
  have jL:pC bN (aJ z0)=oH bN aD:=by
   unfold pC;rw[bd,show 2*bN.w=64 from rfl,Sg q (by decide),<-O6,<-OH]
  have lq:oH bN aD=((((((([]++(dP 4).map (nN bN (aD.getD 0 0)))++(dP 4).map (nN bN (aD.getD 1 0)))++(dP 4).map (nN bN (aD.getD 2 0)))++(dP 4).map (nN bN (aD.getD 3 0)))++(dP 4).map (nN bN (aD.getD 4 0)))++(dP 4).map (nN bN (aD.getD 5 0)))++(dP 4).map (nN bN (aD.getD 6 0)))++(dP 4).map (nN bN (aD.getD 7 0)):=by
   conv=>lhs;rw[arB q1]
   rfl
  refine Gu (pre:=[]) j2 rfl (by simp) λazp afh aGW p0 bw h0 ab2=>?_;refine Gu h0 (by rw[ab2];simp) (by simp) λazq afi aGX bz cY h1 KC=>?_;refine Gu h1 (by rw[KC];simp) (by simp) λazr afj aG3 fa fv h2 N6=>?_;refine Gu h2 (by rw[N6];simp) (by simp) λNK aHK aHa hB lJ h3 N8=>?_;refine Gu h3 (by rw[N8];simp) (by simp) λazw aHL aHb Al agF h4 ab8=>?_;refine Gu h4 (by rw[ab8];simp) (by simp) λazC aHM aHc agE aLP h5 ab9=>?_;refine Gu h5 (by rw[ab9];simp) (by simp) λazI aHN aHd aLQ aLR h6 acb=>?_;refine Gu h6 (by rw[acb];simp) (by simp) λNR afE aHe aLS aLT h7 acd=>?_;have Pa:af NR=rws (oH bN aD):=by rw[h7,lq]
  have afR:afE=((af NR).length:Int):=by rw[h7,vN,acd];simp
  refine⟨⟨cn _,by omega,by omega⟩,λaiX dp ak ai=>⟨⟨dp,ak,trivial⟩,?_⟩⟩;have hf:=fP ai afR;show aJ aiX=pC bN (aJ z0);rw[jL];exact Tg (by rw[hf,Pa])
end Go.dg
namespace Go.dg
open Go Go.bX
def YH (S:zzS) (K:zzK):Prop:=dV λz0=>(aj 73 [z0]->bY λar=>cz λz2=>ee 20 [z0] λz3=>aj 70 [z3,128]/\∃(G3:List (List Int)->Prop) (SD:List (List Int)->Nat),G3 [[0x6a09e667f3bcc908,0xbb67ae8584caa73b,0x3c6ef372fe94f82b,0xa54ff53a5f1d36f1,0x510e527fade682d1,0x9b05688c2b3e6c1f,0x1f83d9abfb41bd6b,0x5be0cd19137e2179],[0]]/\(∀aD:List Int,ay (aT 0 LN 8) aD->qm λa1=>G3 [aD,[a1]]->(eb (decide ((128*a1)<z3)) (aj 21 [z0,(128*a1)]/\iE 21 [z0,(128*a1),0] λaG=>abK z0 (128*a1) 127 1 [aG] λE9=>abI E9 16 0 0 λz157=>aj 66 [z157]/\dV λAO=>S 463 [[z157]] [[AO]]->cz λz159=>ee 20 [AO] λz160=>∃(ZZ:List (List Int)->Prop) (awG:List (List Int)->Nat),ZZ [[16],[AO],[z160],[z159]]/\(dy 16 oF λz162=>dV λmi=>qm λz164=>cz λmj=>ZZ [[z162],[mi],[z164],[mj]]->(eb (decide (z162<80)) (aj 30 [(z162+(-16)),z164]/\aj 21 [mi,(z162+(-16))]/\ql 21 [mi,(z162+(-16)),0] λMN=>aj 30 [(z162+(-15)),z164]/\aj 21 [mi,(z162+(-15))]/\ql 21 [mi,(z162+(-15)),0] λz167=>aI λz168=>S 450 [[z167]] [[z168]]->bg (MN+z168) en λR8=>aj 30 [(z162+(-7)),z164]/\aj 21 [mi,(z162+(-7))]/\ql 21 [mi,(z162+(-7)),0] λR9=>bg (MN+(z168+((a7*R8)+R9))) en λz171=>aj 30 [(z162+(-2)),z164]/\aj 21 [mi,(z162+(-2))]/\ql 21 [mi,(z162+(-2)),0] λaiR=>aI λz173=>S 451 [[aiR]] [[z173]]->bg (MN+(z168+((a7*R8)+(R9+((a7*z171)+z173))))) en λEB=>aj 31 [mi,z164]/\aj 23 [mi,1]/\ck 23 [mi,(MN+(z168+((a7*R8)+(R9+((a7*z171)+(z173+(a7*EB)))))))] λz175=>cz λml=>(ZZ [[(z162+1)],[z175],[(z164+1)],[ml]]/\awG [[(z162+1)],[z175],[(z164+1)],[ml]]<awG [[z162],[mi],[z164],[mj]])) (∃(Z0:List (List Int)->Prop) (awH:List (List Int)->Nat),Z0 [aD,[0]]/\(∀dJ:List Int,ay (aT 0 LN 8) dJ->qm λz175=>Z0 [dJ,[z175]]->(eb (decide (z175<z164)) (aj 30 [z175,z164]/\aj 21 [mi,z175]/\ql 21 [mi,z175,0] λml=>aI λlY=>S 449 [[(U dJ 4 0)]] [[lY]]->bg ((U dJ 7 0)+lY) en λpW=>bY λEC=>EC<=cL .u64->EC=br .and .u64 (U dJ 4 0) (U dJ 5 0)->bY λED=>ED<=cL .u64->ED=br .and .u64 (((-1)*(U dJ 4 0))+LN) (U dJ 6 0)->bY λpo=>po<=cL .u64->po=br .xor .u64 EC ED->bg ((U dJ 7 0)+(lY+((a7*pW)+po))) en λz182=>aj 39 [z175,0,79]/\aI λz183=>S 467 [[z175]] [[z183]]->bg ((U dJ 7 0)+(lY+((a7*pW)+(po+((a7*z182)+z183))))) en λ AP=>bg ((U dJ 7 0)+(ml+(lY+((a7*pW)+(po+((a7*z182)+(z183+(a7*AP)))))))) en λCw=>aI λCx=>S 448 [[(U dJ 0 0)]] [[Cx]]->bY λXZ=>XZ<=cL .u64->XZ=br .and .u64 (U dJ 0 0) (U dJ 1 0)->bY λX0=>X0<=cL .u64->X0=br .and .u64 (U dJ 0 0) (U dJ 2 0)->bY λX1=>X1<=cL .u64->X1=br .xor .u64 XZ X0->bY λX2=>X2<=cL .u64->X2=br .and .u64 (U dJ 1 0) (U dJ 2 0)->bY λuR=>uR<=cL .u64->uR=br .xor .u64 X1 X2->bg (Cx+uR) en λCy=>dI λz193=>0<=((U dJ 3 0)+((U dJ 7 0)+(ml+(lY+((a7*pW)+(po+((a7*z182)+(z183+((a7*AP)+(a7*Cw))))))))))-en*z193->((U dJ 3 0)+((U dJ 7 0)+(ml+(lY+((a7*pW)+(po+((a7*z182)+(z183+((a7*AP)+(a7*Cw))))))))))-en*z193<en->dI λz194=>0<=((U dJ 7 0)+(ml+(lY+((a7*pW)+(po+((a7*z182)+(z183+((a7*AP)+((a7*Cw)+(Cx+(uR+(a7*Cy))))))))))))-en*z194->((U dJ 7 0)+(ml+(lY+((a7*pW)+(po+((a7*z182)+(z183+((a7*AP)+((a7*Cw)+(Cx+(uR+(a7*Cy))))))))))))-en*z194<en->bg (z175+BX) en λAQ=>aj 39 [((z175+(a7*AQ))+1),0,oF]/\(Z0 [[((U dJ 7 0)+(ml+(lY+((a7*pW)+(po+((a7*z182)+(z183+((a7*AP)+((a7*Cw)+(Cx+(uR+((a7*Cy)+(a7*z194))))))))))))),(U dJ 0 0),(U dJ 1 0),(U dJ 2 0),((U dJ 3 0)+((U dJ 7 0)+(ml+(lY+((a7*pW)+(po+((a7*z182)+(z183+((a7*AP)+((a7*Cw)+(a7*z193))))))))))),(U dJ 4 0),(U dJ 5 0),(U dJ 6 0)],[((z175+(a7*AQ))+1)]]/\awH [[((U dJ 7 0)+(ml+(lY+((a7*pW)+(po+((a7*z182)+(z183+((a7*AP)+((a7*Cw)+(Cx+(uR+((a7*Cy)+(a7*z194))))))))))))),(U dJ 0 0),(U dJ 1 0),(U dJ 2 0),((U dJ 3 0)+((U dJ 7 0)+(ml+(lY+((a7*pW)+(po+((a7*z182)+(z183+((a7*AP)+((a7*Cw)+(a7*z193))))))))))),(U dJ 4 0),(U dJ 5 0),(U dJ 6 0)],[((z175+(a7*AQ))+1)]]<awH [dJ,[z175]])) (bg ((U aD 0 0)+(U dJ 0 0)) en λml=>bg ((U aD 1 0)+(U dJ 1 0)) en λlY=>bg ((U aD 2 0)+(U dJ 2 0)) en λpW=>bg ((U aD 3 0)+(U dJ 3 0)) en λEC=>bg ((U aD 4 0)+(U dJ 4 0)) en λED=>bg ((U aD 5 0)+(U dJ 5 0)) en λpo=>bg ((U aD 6 0)+(U dJ 6 0)) en λz182=>bg ((U aD 7 0)+(U dJ 7 0)) en λz183=>(G3 [[((U aD 0 0)+((U dJ 0 0)+(a7*ml))),((U aD 1 0)+((U dJ 1 0)+(a7*lY))),((U aD 2 0)+((U dJ 2 0)+(a7*pW))),((U aD 3 0)+((U dJ 3 0)+(a7*EC))),((U aD 4 0)+((U dJ 4 0)+(a7*ED))),((U aD 5 0)+((U dJ 5 0)+(a7*po))),((U aD 6 0)+((U dJ 6 0)+(a7*z182))),((U aD 7 0)+((U dJ 7 0)+(a7*z183)))],[(a1+1)]]/\SD [[((U aD 0 0)+((U dJ 0 0)+(a7*ml))),((U aD 1 0)+((U dJ 1 0)+(a7*lY))),((U aD 2 0)+((U dJ 2 0)+(a7*pW))),((U aD 3 0)+((U dJ 3 0)+(a7*EC))),((U aD 4 0)+((U dJ 4 0)+(a7*ED))),((U aD 5 0)+((U dJ 5 0)+(a7*po))),((U aD 6 0)+((U dJ 6 0)+(a7*z182))),((U aD 7 0)+((U dJ 7 0)+(a7*z183)))],[(a1+1)]]<SD [aD,[a1]])))))))) (Gs (U aD 0 0) 0 0 (-1) λba aW bm=>Gs (U aD 1 0) ba aW bm λz21 z22 bW=>Gs (U aD 2 0) z21 z22 bW λz26 b5 z28=>Gs (U aD 3 0) z26 b5 z28 λz31 bj bM=>Gs (U aD 4 0) z31 bj bM λcp z37 cU=>Gs (U aD 5 0) cp z37 cU λc2 db dc=>Gs (U aD 6 0) c2 db dc λz46 dz dL=>Gs (U aD 7 0) z46 dz dL λz51 dA z53=>aj 22 [z51,0,dA]/\ck 22 [z51,0,dA] λeX=>K [[z0]] [[eX]]))))
theorem av7 (f:Int->Int->Int) {r t:List Int} (h:r.length=8) (aP:t.length=8):tG f r t=[f (r.getD 0 0) (t.getD 0 0),f (r.getD 1 0) (t.getD 1 0),f (r.getD 2 0) (t.getD 2 0),f (r.getD 3 0) (t.getD 3 0),f (r.getD 4 0) (t.getD 4 0),f (r.getD 5 0) (t.getD 5 0),f (r.getD 6 0) (t.getD 6 0),f (r.getD 7 0) (t.getD 7 0)]:=by
 match r,t,h,aP with
 |[_,_,_,_,_,_,_,_],[_,_,_,_,_,_,_,_],_,_=>rfl
theorem aub (i:Nat) (x:Int) {r:List Int} (hr:r.length=8):Cl bP i x r=(let t:=md bP (r.getD 7 0+vl bP (r.getD 4 0)+wZ bP (r.getD 4 0) (r.getD 5 0) (r.getD 6 0)+AE bP i+x);let u:=md bP (vk bP (r.getD 0 0)+Ah bP (r.getD 0 0) (r.getD 1 0) (r.getD 2 0));[md bP (t+u),r.getD 0 0,r.getD 1 0,r.getD 2 0,md bP (r.getD 3 0+t),r.getD 4 0,r.getD 5 0,r.getD 6 0]):=by
 match r,hr with
 |[_,_,_,_,_,_,_,_],_=>rfl
theorem Ag (x:Int):md bP x=x% 0x10000000000000000:=by
 show x% (2:Int)^64=_;rw[show(2:Int)^64=0x10000000000000000 by decide]
theorem aml:mB bP=[0x6a09e667f3bcc908,0xbb67ae8584caa73b,0x3c6ef372fe94f82b,0xa54ff53a5f1d36f1,0x510e527fade682d1,0x9b05688c2b3e6c1f,0x1f83d9abfb41bd6b,0x5be0cd19137e2179]:=by decide+kernel
theorem amZ {c b:Int} {B:Nat} {k:List Int->Prop} (hb:b=(B:Int)):∀(n i:Nat) (acc:List Int),B+i+n<=(aJ c).length->(∀q:List Int,q.length=n->q=((aJ c).drop (B+i)).take n->k (acc++q))->abK c b n i acc k
 |0,i,acc,_,h=>by
  have:=h [] rfl (by simp);show k acc;simpa using this
 |n+1,i,acc,hn,h=>⟨⟨by omega,by rw[<-fT];omega⟩,λy gV au hy=>amZ hb n (i+1) (acc++[y]) (by omega) λq h1 h3=>by
  have hl:B+i<(aJ c).length:=by omega
  have e:y=(aJ c)[B+i]:=by rw[fU hy,show(b+(i:Int)).toNat=B+i by omega,ky,lA hl];rfl
  have:=h (y::q) (by simp[h1]) (by rw[EN hl,l5,<-e,h3];rfl);simpa using this⟩
theorem amX {l:List Int} {k:Int->Prop}:∀(n j:Nat) (c:Int) (L:List Int),af c=rws L->(∀z,af z=rws (L++(dP n).map λt=>tx bP l (j+t))->k z)->abI l n j c k
 |0,j,c,L,hc,h=>h c (by simpa using hc)
 |n+1,j,c,L,hc,h=>λy _ _ hy=>amX n (j+1) y _ (KQ hy hc) λz hz=>h z (by
  rw[hz,fS,Yx,df,lz];have e:(72057594037927936*U l (8*j) 0)+((281474976710656*U l (8*j+1) 0)+((1099511627776*U l (8*j+2) 0)+((4294967296*U l (8*j+3) 0)+((16777216*U l (8*j+4) 0)+((65536*U l (8*j+5) 0)+((256*U l (8*j+6) 0)+U l (8*j+7) 0))))))=tx bP l (j+0):=by
   show _=(((((((0*256+l.getD (j*8+0) 0)*256+l.getD (j*8+1) 0)*256+l.getD (j*8+2) 0)*256+l.getD (j*8+3) 0)*256+l.getD (j*8+4) 0)*256+l.getD (j*8+5) 0)*256+l.getD (j*8+6) 0)*256+l.getD (j*8+7) 0;rw[show j*8=8*j by omega];simp only[m3];omega
  rw[e];refine congrArg (λq=>rws (L++(tx bP l (j+0)::q))) (j5 λt _=>?_);show tx bP l (j+1+t)=tx bP l (j+(t+1));rw[show j+1+t=j+(t+1) by omega])
set_option maxHeartbeats 4000000 in
theorem aLW:YH SB (ej SB [uv] 465):=by
 delta YH eb bg dy bY qm ee dV ck iE dI aI ql cz en a7 oF BX LN;dsimp only
 intro z0 a0 bR hp ar dM z2 dK c1 z3 d0 d1 h3;have hp:128∣(af z0).length/\(af z0).length<=1000001000:=hp;have h3:z3=((af z0).length:Int):=h3;obtain⟨⟨q,an⟩,Ik⟩:=hp;have bd:(aJ z0).length=128*q:=by rw[fT,an]
 have OA:z3=128*(q:Int):=by rw[h3,an];simp
 refine⟨⟨(q:Int),OA⟩,λl=>∃(i:Nat),i<=q/\l=[ru bP (aJ z0) i (mB bP),[(i:Int)]],λl=>((q:Int)-(l.getD 1 []).getD 0 0).toNat,⟨0,AS _,by
  show _=[mB bP,[(0:Int)]];rw[aml]⟩,?_⟩
 intro aD aeb a1 cv av ⟨i,hi,ea⟩;simp only[hD,and_true]at ea;obtain⟨OH,aCZ⟩:=ea;obtain⟨q1,nM⟩:=DC 8 aD aeb;have Ib:((af z0).length:Int)=128*(q:Int):=by rw[<-h3,OA]
 refine⟨λh=>?_,λh=>?_⟩
 ·have h:=of_decide_eq_true h;have O6:i<q:=by omega
  have gv:∀k:Int,0<=k->k<128->aj 21 [z0,128*a1+k]:=λk h1 h2=>⟨by omega,by rw[Ib];omega⟩;have abo:aj 21 [z0,128*a1]:=⟨by omega,by rw[Ib];omega⟩;refine⟨abo,?_⟩;intro aG f0 g0 t0;obtain⟨bl,xa⟩:∃l,((aJ z0).drop (128*i)).take 128=l:=⟨_,rfl⟩;have azj:bl.length=128:=by rw[<-xa,m4,pq,bd];omega
  have hz:a1=(i:Int):=by omega
  refine amZ (B:=128*i) (by rw[hz];omega) 127 1 [aG] (by rw[bd];omega) λaQ h1 h2=>?_;have oZ:[aG]++aQ=bl:=by
   have av:aG=(aJ z0).getD (128*i) 0:=by rw[fU t0,hz,show(128*(i:Int)).toNat=128*i by omega]
   have l1:128*i<(aJ z0).length:=by rw[bd];omega
   rw[<-xa,h2,av,ky,lA l1,EN l1];rfl
  rw[oZ];obtain⟨ws,BO⟩:∃l,re bP bl=l:=⟨_,rfl⟩;refine amX 16 0 0 [] j2 λz157 hr=>?_;have hr:af z157=rws ws:=by rw[hr,<-BO,eQ];simp[re]
  have wl:ws.length=16:=by rw[<-BO];simp[re]
  refine⟨by show(af z157).length<=1000000;rw[hr,vN,wl];decide,?_⟩;intro AO i0 i1 fC z159 o7 k1 z160 m0 gk e9;have fC:af AO=af z157:=fC;rw[hr]at fC;have e9:z160=((af AO).length:Int):=e9;rw[fC,vN,wl]at e9;refine⟨λl=>∃(j:Nat) (c k:Int),j<=64/\l=[[((16+j:Nat):Int)],[c],[((16+j:Nat):Int)],[k]]/\af c=rws (nd bP j ws),λl=>(80-(l.getD 0 []).getD 0 0).toNat,⟨0,AO,z159,AS _,by rw[e9];rfl,fC⟩,?_⟩;intro z162 rW o1 mi p0 bw z164 eu aQ mj r0 r1 ⟨j,c,gR,aR,hl,hc⟩;simp only[hD,and_true]at hl;obtain⟨Uz,Dr,O9,aEZ⟩:=hl;subst Dr;obtain⟨bK,nm⟩:∃l,nd bP j ws=l:=⟨_,rfl⟩;rw[nm]at hc;have DY:bK.length=16+j:=by rw[<-nm,HK,wl]
  have zA:((af mi).length:Int)=16+(j:Int):=by rw[hc,vN,DY];omega
  refine⟨λhlt=>?_,λng=>?_⟩
  ·have hlt:=of_decide_eq_true hlt;refine⟨⟨by omega,by omega⟩,⟨by omega,by rw[zA];omega⟩,λMN aL s1 s2=>⟨⟨by omega,by omega⟩,⟨by omega,by rw[zA];omega⟩,λz167 aR9 aSb ah4 z168 aSm aSn En R8 aVp aVq aVr aVs=>⟨⟨by omega,by omega⟩,⟨by omega,by rw[zA];omega⟩,λR9 w0 eU pn z171 aVP aVQ aVM aVN=>⟨⟨by omega,by omega⟩,⟨by omega,by rw[zA];omega⟩,λaiR aVW aVX aiz z173 Ns Nt tM EB abb abc zy ay6=>⟨by show z164=((af mi).length:Int);omega,by show((af mi).length:Int)+1<=1073741824;omega,λz175 aby abz Hx ml abT abU=>?_⟩⟩⟩⟩⟩;have En:[[z168]]=[[Cj bP z167]]:=En;have tM:[[z173]]=[[Ck bP aiR]]:=tM;simp only[hD,and_true]at En tM;have av:=BF s2 hc;have aH:=BF ah4 hc;have ca:=BF pn hc;have ht:=BF aiz hc;have ad3:MN+(z168+((-0x10000000000000000)*R8+(R9+((-0x10000000000000000)*z171+(z173+(-0x10000000000000000)*EB)))))=tj bP bK:=by
    unfold tj;rw[Ag,DY,show 16+j-16=(z162+-16).toNat by omega,show 16+j-15=(z162+-15).toNat by omega,show 16+j-7=(z162+-7).toNat by omega,show 16+j-2=(z162+-2).toNat by omega,<-av,<-aH,<-ca,<-ht,<-En,<-tM];omega
   have kD:=KQ Hx hc;rw[ad3]at kD;refine⟨⟨j+1,z175,ml,by omega,by rw[show z162+1=((16+(j+1):Nat):Int) by omega,show z164+1=((16+(j+1):Nat):Int) by omega],by rw[Ok,nm];exact kD⟩,?_⟩;show(80-(z162+1)).toNat<(80-z162).toNat;omega
  ·have ng:=of_decide_eq_false ng;have adS:j=64:=by omega
   have aeg:sched bP ws=bK:=by rw[<-nm,adS];rfl
   refine⟨λl=>∃(t:Nat),t<=80/\l=[q7 bP 0 (bK.take t) aD,[(t:Int)]],λl=>(80-(l.getD 1 []).getD 0 0).toNat,⟨0,AS _,rfl⟩,?_⟩;intro dW aec z175 aL s1 ⟨t,aB,hl⟩;simp only[hD,and_true]at hl;obtain⟨hv,aGk⟩:=hl;obtain⟨yv,hH⟩:=DC 8 dW aec;refine⟨λhlt=>?_,λO2=>?_⟩
   ·have hlt:=of_decide_eq_true hlt;refine⟨⟨by omega,by omega⟩,⟨by omega,by rw[zA];omega⟩,?_⟩;intro ml Ns Nt tM lY abb abc zy pW aby abz Hx abA EC abT abU abV ED aBh aBi acj po aBp aBq acw z182 aCx aCy acN acO;refine⟨⟨by omega,by omega⟩,?_⟩;intro z183 O3 aEN zQ AP aGK aGL aez aeA Cw aGU aGV aeH aeI Cx aHl aHm DV XZ aIc aId afS X0 aIF aIG af0 X1 aI1 aI2 agd X2 aLC aLD agw uR aOP aOQ agN Cy aPa aPb aPc aPd z193 aPL aPM RJ RL z194 aRh aRi ahQ ahR AQ aSa aSc aSd aSe;have Pq:t<80:=by omega
    have ab3:AQ=0:=by omega
    have ex:=BF tM hc;rw[show z175.toNat=t by omega]at ex;have zy:[[lY]]=[[vl bP (dW.getD 4 0)]]:=zy;have zQ:[[z183]]=[[AE bP z175.toNat]]:=zQ;have DV:[[Cx]]=[[vk bP (dW.getD 0 0)]]:=DV;simp only[hD,and_true]at zy zQ DV;rw[show z175.toNat=t by omega]at zQ;have nU:po=wZ bP (dW.getD 4 0) (dW.getD 5 0) (dW.getD 6 0):=by
     rw[acw,abV,acj];unfold wZ;rw[show(2:Int)^bP.w-1-dW.getD 4 0=-1*dW.getD 4 0+0xffffffffffffffff by rw[show(2:Int)^bP.w=0x10000000000000000 by decide];omega];rfl
    have ad0:uR=Ah bP (dW.getD 0 0) (dW.getD 1 0) (dW.getD 2 0):=by
     rw[agN,agd,af0,afS,agw];rfl
    obtain⟨A,aV⟩:∃A,dW.getD 0 0=A:=⟨_,rfl⟩;obtain⟨D,nR⟩:∃A,dW.getD 3 0=A:=⟨_,rfl⟩;obtain⟨H,OG⟩:∃A,dW.getD 7 0=A:=⟨_,rfl⟩;rw[OG]at Hx abA acN acO aez aeA aeH aeI RJ RL ahQ ahR⊢;rw[nR]at RJ RL⊢;have It:=aub t ml yv;rw[OG,nR,<-zy,<-nU,<-zQ,<-DV,<-ad0]at It;have bG:md bP (H+lY+po+z183+ml)=H+(ml+(lY+((-0x10000000000000000)*pW+(po+((-0x10000000000000000)*z182+(z183+((-0x10000000000000000)*AP+(-0x10000000000000000)*Cw))))))):=by
     rw[Ag];omega
    have ada:md bP (Cx+uR)=Cx+(uR+(-0x10000000000000000)*Cy):=by
     rw[Ag];omega
    simp only[bG,ada]at It;refine⟨⟨by omega,by omega⟩,⟨t+1,by omega,?_⟩,?_⟩
    ·rw[Gw bK t (by omega),Mp,<-hv,show 0+(bK.take t).length=t by rw[m4];omega,<-ex,It,ab3];simp only[hD,and_true];refine⟨⟨?_,trivial,trivial,trivial,?_⟩,?_⟩
     ·rw[Ag];exact V0 (k:=z194) (by omega) (by omega) (by omega)
     ·rw[Ag];exact V0 (k:=z193) (by omega) (by omega) (by omega)
     ·omega
    ·show(80-(z175+-0x10000000000000000*AQ+1)).toNat<(80-z175).toNat;omega
   ·have O2:=of_decide_eq_false O2;intro ml Ns ax8 ayg ayp lY Nt ax9 ayh ayq pW tM aya ayi ayr EC ax3 ayb ayj ays ED ax4 ayc ayk ayt po ax5 ayd ayl ayu z182 ax6 aye aym ayv z183 ax7 ayf ayn ayw;have Pq:t=80:=by omega
    have adH:bK.take t=bK:=mu (by omega);rw[adH]at hv;have vt:uM bP aD ws=[aD.getD 0 0+(dW.getD 0 0+(-0x10000000000000000)*ml),aD.getD 1 0+(dW.getD 1 0+(-0x10000000000000000)*lY),aD.getD 2 0+(dW.getD 2 0+(-0x10000000000000000)*pW),aD.getD 3 0+(dW.getD 3 0+(-0x10000000000000000)*EC),aD.getD 4 0+(dW.getD 4 0+(-0x10000000000000000)*ED),aD.getD 5 0+(dW.getD 5 0+(-0x10000000000000000)*po),aD.getD 6 0+(dW.getD 6 0+(-0x10000000000000000)*z182),aD.getD 7 0+(dW.getD 7 0+(-0x10000000000000000)*z183)]:=by
     unfold uM;rw[aeg,<-hv,av7 _ q1 yv];simp only[Ag,hD,and_true];refine⟨by omega,by omega,by omega,by omega,by omega,by omega,by omega,by omega⟩
    refine⟨⟨i+1,by omega,?_⟩,?_⟩
    ·rw[<-vt,OH];show _=[uM bP (ru bP (aJ z0) i (mB bP)) (re bP (((aJ z0).drop (128*i)).take 128)),_];rw[xa,BO,show a1+1=((i+1:Nat):Int) by omega]
    ·show((q:Int)-(a1+1)).toNat<((q:Int)-a1).toNat;omega
 ·have h:=of_decide_eq_false h;have O6:i=q:=by omega
  have jL:pC bP (aJ z0)=oH bP aD:=by
   unfold pC;rw[bd,show 2*bP.w=128 from rfl,Sg q (by decide),<-O6,<-OH]
  have lq:oH bP aD=((((((([]++(dP 8).map (nN bP (aD.getD 0 0)))++(dP 8).map (nN bP (aD.getD 1 0)))++(dP 8).map (nN bP (aD.getD 2 0)))++(dP 8).map (nN bP (aD.getD 3 0)))++(dP 8).map (nN bP (aD.getD 4 0)))++(dP 8).map (nN bP (aD.getD 5 0)))++(dP 8).map (nN bP (aD.getD 6 0)))++(dP 8).map (nN bP (aD.getD 7 0)):=by
   conv=>lhs;rw[arB q1]
   rfl
  refine Gv (pre:=[]) j2 rfl (by simp) λazp afh aGW p0 bw h0 ab2=>?_;refine Gv h0 (by rw[ab2];simp) (by simp) λazq afi aGX bz cY h1 KC=>?_;refine Gv h1 (by rw[KC];simp) (by simp) λazr afj aG3 fa fv h2 N6=>?_;refine Gv h2 (by rw[N6];simp) (by simp) λNK aHK aHa hB lJ h3 N8=>?_;refine Gv h3 (by rw[N8];simp) (by simp) λazw aHL aHb Al agF h4 ab8=>?_;refine Gv h4 (by rw[ab8];simp) (by simp) λazC aHM aHc agE aLP h5 ab9=>?_;refine Gv h5 (by rw[ab9];simp) (by simp) λazI aHN aHd aLQ aLR h6 acb=>?_;refine Gv h6 (by rw[acb];simp) (by simp) λNR afE aHe aLS aLT h7 acd=>?_;have Pa:af NR=rws (oH bP aD):=by rw[h7,lq]
  have afR:afE=((af NR).length:Int):=by rw[h7,vN,acd];simp
  refine⟨⟨cn _,by omega,by omega⟩,λaiX dp ak ai=>⟨⟨dp,ak,trivial⟩,?_⟩⟩;have hf:=fP ai afR;show aJ aiX=pC bP (aJ z0);rw[jL];exact Tg (by rw[hf,Pa])
end Go.dg
namespace Go.dg
open Go Go.bX
def ZE (S:zzS) (K:zzK):Prop:=dV λz0=>dV λar=>(aj 75 [z0,ar]->bY λz2=>cz λz3=>ee 20 [z0] λz4=>bY λz5=>cz λaZ=>ee 20 [ar] λaK=>(eb (decide ((((-1)*z4)+oF)<aK)) (False) (bg ((z4+aK)+0x8000000000000000) en λaF=>aj 26 [(z4+(aK+(a7*aF)))]/\dV λz9=>(aj 31 [z9,(z4+(aK+(a7*aF)))]->qm λaY=>(aj 79 [(z4+(aK+(a7*aF))),aY]->aj 78 [0,(z4+(aK+(a7*aF))),(z4+(aK+(a7*aF))),aY]/\B8 33 [0,0,(z4+(aK+(a7*aF)))] λaN=>aj 80 [z9,aN,(z4+(aK+(a7*aF)))]/\aj 22 [z0,0,z4]/\ee 62 [z4,(z4+(aK+(a7*aF)))] λz12=>ck 22 [z0,0,z12] λa1=>ck 63 [z9,aN,a1] λaG=>aj 32 [z12,(z4+(aK+(a7*aF))),(z4+(aK+(a7*aF)))]/\(aj 68 [(z4+(aK+(a7*aF))),(z4+(aK+(a7*aF)))]->B8 33 [aN,z12,(z4+(aK+(a7*aF)))] λaS=>aj 32 [z12,(z4+(aK+(a7*aF))),(z4+(aK+(a7*aF)))]/\(aj 68 [(z4+(aK+(a7*aF))),(z4+(aK+(a7*aF)))]->B8 33 [aN,z12,(z4+(aK+(a7*aF)))] λba=>aj 80 [aG,ba,(z4+(aK+((a7*aF)+((-1)*z12))))]/\aj 22 [ar,0,aK]/\ee 62 [aK,(z4+(aK+((a7*aF)+((-1)*z12))))] λaW=>ck 22 [ar,0,aW] λbm=>ck 63 [aG,ba,bm] λbp=>bg ((z12+aW)+0x8000000000000000) en λz20=>aj 22 [bp,aN,(z4+(aK+((a7*aF)+aN)))]/\aj 40 [(z4+(aK+(a7*aF))),aY]/\ck 22 [bp,aN,(z4+(aK+((a7*aF)+aN)))] λz21=>K [[z0],[ar]] [[z21]])))))))
def ZF (S:zzS) (K:zzK):Prop:=dV λz0=>dV λar=>dV λz2=>(aj 75 [z0,ar,z2]->bY λz3=>cz λz4=>ee 20 [z0] λz5=>bY λaZ=>cz λaK=>ee 20 [ar] λaF=>bY λz9=>cz λaY=>ee 20 [z2] λaN=>(eb (decide ((((-1)*z5)+oF)<aF)) (False) (bg ((z5+aF)+0x8000000000000000) en λz12=>bg ((((-1)*z5)+(((-1)*aF)+(en*z12)))+LN) en λa1=>(eb (decide (((((-1)*z5)+(((-1)*aF)+((en*z12)+(a7*a1))))+oF)<aN)) (False) (bg ((z5+(aF+(aN+(a7*z12))))+0x8000000000000000) en λaG=>aj 26 [(z5+(aF+(aN+((a7*z12)+(a7*aG)))))]/\dV λaS=>(aj 31 [aS,(z5+(aF+(aN+((a7*z12)+(a7*aG)))))]->qm λba=>(aj 79 [(z5+(aF+(aN+((a7*z12)+(a7*aG))))),ba]->aj 78 [0,(z5+(aF+(aN+((a7*z12)+(a7*aG))))),(z5+(aF+(aN+((a7*z12)+(a7*aG))))),ba]/\B8 33 [0,0,(z5+(aF+(aN+((a7*z12)+(a7*aG)))))] λaW=>aj 80 [aS,aW,(z5+(aF+(aN+((a7*z12)+(a7*aG)))))]/\aj 22 [z0,0,z5]/\ee 62 [z5,(z5+(aF+(aN+((a7*z12)+(a7*aG)))))] λbm=>ck 22 [z0,0,bm] λbp=>ck 63 [aS,aW,bp] λz20=>aj 32 [bm,(z5+(aF+(aN+((a7*z12)+(a7*aG))))),(z5+(aF+(aN+((a7*z12)+(a7*aG)))))]/\(aj 68 [(z5+(aF+(aN+((a7*z12)+(a7*aG))))),(z5+(aF+(aN+((a7*z12)+(a7*aG)))))]->B8 33 [aW,bm,(z5+(aF+(aN+((a7*z12)+(a7*aG)))))] λz21=>aj 32 [bm,(z5+(aF+(aN+((a7*z12)+(a7*aG))))),(z5+(aF+(aN+((a7*z12)+(a7*aG)))))]/\(aj 68 [(z5+(aF+(aN+((a7*z12)+(a7*aG))))),(z5+(aF+(aN+((a7*z12)+(a7*aG)))))]->B8 33 [aW,bm,(z5+(aF+(aN+((a7*z12)+(a7*aG)))))] λz22=>aj 80 [z20,z22,(z5+(aF+(aN+((a7*z12)+((a7*aG)+((-1)*bm))))))]/\aj 22 [ar,0,aF]/\ee 62 [aF,(z5+(aF+(aN+((a7*z12)+((a7*aG)+((-1)*bm))))))] λbW=>ck 22 [ar,0,bW] λz24=>ck 63 [z20,z22,z24] λcr=>bg ((bm+bW)+0x8000000000000000) en λz26=>aj 32 [(bm+(bW+(a7*z26))),(z5+(aF+(aN+((a7*z12)+(a7*aG))))),(z5+(aF+(aN+((a7*z12)+(a7*aG)))))]/\(aj 68 [(z5+(aF+(aN+((a7*z12)+(a7*aG))))),(z5+(aF+(aN+((a7*z12)+(a7*aG)))))]->B8 33 [aW,(bm+(bW+(a7*z26))),(z5+(aF+(aN+((a7*z12)+(a7*aG)))))] λb5=>aj 32 [(bm+(bW+(a7*z26))),(z5+(aF+(aN+((a7*z12)+(a7*aG))))),(z5+(aF+(aN+((a7*z12)+(a7*aG)))))]/\(aj 68 [(z5+(aF+(aN+((a7*z12)+(a7*aG))))),(z5+(aF+(aN+((a7*z12)+(a7*aG)))))]->B8 33 [aW,(bm+(bW+(a7*z26))),(z5+(aF+(aN+((a7*z12)+(a7*aG)))))] λz28=>aj 80 [cr,z28,(z5+(aF+(aN+((a7*z12)+((a7*aG)+(((-1)*bm)+(((-1)*bW)+(en*z26))))))))]/\aj 22 [z2,0,aN]/\ee 62 [aN,(z5+(aF+(aN+((a7*z12)+((a7*aG)+(((-1)*bm)+(((-1)*bW)+(en*z26))))))))] λcl=>ck 22 [z2,0,cl] λcA=>ck 63 [cr,z28,cA] λz31=>bg ((bm+(bW+((a7*z26)+cl)))+0x8000000000000000) en λbj=>aj 22 [z31,aW,(z5+(aF+(aN+((a7*z12)+((a7*aG)+aW)))))]/\aj 40 [(z5+(aF+(aN+((a7*z12)+(a7*aG))))),ba]/\ck 22 [z31,aW,(z5+(aF+(aN+((a7*z12)+((a7*aG)+aW)))))] λbM=>K [[z0],[ar],[z2]] [[bM]])))))))))))
def ZI (S:zzS) (K:zzK):Prop:=dV λz0=>dV λar=>(aj 75 [z0,ar]->bY λz2=>cz λz3=>ee 20 [z0] λz4=>bY λz5=>cz λaZ=>ee 20 [ar] λaK=>aj 22 [z0,0,z4]/\ck 22 [z0,0,z4] λaF=>aj 22 [ar,0,aK]/\ck 22 [ar,0,aK] λz9=>aj 75 [aF,z9]/\dV λaY=>S 472 [[aF],[z9]] [[aY]]->bY λaN=>cz λ z12=>ee 20 [aY] λa1=>aj 22 [aY,0,a1]/\ck 22 [aY,0,a1] λaG=>aj 71 [aG]/\dV λaS=>S 443 [[aG]] [[aS]]->cz λba=>ee 20 [aS] λaW=>aj 22 [aS,0,aW]/\ck 22 [aS,0,aW] λbm=>aj 73 [bm]/\dV λbp=>S 465 [[bm]] [[bp]]->cz λz20=>ee 20 [bp] λz21=>aj 30 [63,z21]/\aj 21 [bp,0]/\Kw bp 64 0 [] λtA=>K [[z0],[ar]] [tA])
def ZJ (S:zzS) (K:zzK):Prop:=dV λz0=>dV λar=>dV λz2=>(aj 75 [z0,ar,z2]->bY λz3=>cz λz4=>ee 20 [z0] λz5=>bY λaZ=>cz λaK=>ee 20 [ar] λaF=>bY λz9=>cz λaY=>ee 20 [z2] λaN=>aj 22 [z0,0,z5]/\ck 22 [z0,0,z5] λz12=>aj 22 [ar,0,aF]/\ck 22 [ar,0,aF] λa1=>aj 22 [z2,0,aN]/\ck 22 [z2,0,aN] λaG=>aj 75 [z12,a1,aG]/\dV λaS=>S 469 [[z12],[a1],[aG]] [[aS]]->bY λba=>cz λaW=>ee 20 [aS] λbm=>aj 22 [aS,0,bm]/\ck 22 [aS,0,bm] λbp=>aj 71 [bp]/\dV λz20=>S 443 [[bp]] [[z20]]->cz λz21=>ee 20 [z20] λz22=>aj 22 [z20,0,z22]/\ck 22 [z20,0,z22] λbW=>aj 73 [bW]/\dV λz24=>S 465 [[bW]] [[z24]]->cz λcr=>ee 20 [z24] λz26=>aj 30 [63,z26]/\aj 21 [z24,0]/\Kw z24 64 0 [] λtA=>K [[z0],[ar],[z2]] [tA])
theorem QO {c x s t n a b m r0 r:Int} {A B:List (List Int)} (hc:af c=A++B) (aV:(A.length:Int)=s) (da:(B.length:Int)=t-s) (h0:r0=0) (hr:r=cu 33 [r0,a,b]) (ha:a=s) (hb:b=t) (hn:n=((af x).length:Int)) (hle:n<=t-s) (hm:m=t-s):
 aj 80 [c,r,m]/\aj 22 [x,0,n]/\∀q,q=cu 62 [n,m]->q=n/\∀src,src=cu 22 [x,0,q]->∀ek,ek=cu 63 [c,r,src]->∃ajt,af ek=(A++af x)++ajt/\(ajt.length:Int)=t-s-n:=by
 subst h0;subst ha;subst hb;subst hm;have hr:r=if a=b then 0 else 0+a:=hr
 have Pb:((af c).length:Int)=b:=by rw[hc,fq];omega
 have zV:0<=r/\r<=a/\(a≠b->r=a):=by
  by_cases h:a=b
  ·rw[if_pos h]at hr;exact⟨by omega,by omega,λh2=>absurd h h2⟩
  ·rw[if_neg h]at hr;exact⟨by omega,by omega,λ_=>by omega⟩
 refine⟨⟨zV.1,by omega,by rw[Pb];omega⟩,⟨cn _,by omega,by rw[hn];exact cn _⟩,λq an=>?_⟩;have an:q=min n (b-a):=an;have apU:q=n:=by omega
 refine⟨apU,λsrc hs ek Fx=>?_⟩;have hs:af src=af x:=fP hs (by rw[apU,hn]);have Fx:ek=rc ((af c).take r.toNat++af src++(af c).drop (r.toNat+(af src).length)):=Fx;by_cases h:a=b
 ·have Dy:af x=[]:=uV (by omega);refine⟨B,?_,by omega⟩;rw[Fx,jO,hs,Dy,hc];simp
 ·have aYn:=zV.2.2 h;refine⟨B.drop (af x).length,?_,by rw[pq];omega⟩;have e:r.toNat=A.length:=by omega
  rw[Fx,jO,hs,hc,e,List.take_left,<-List.drop_drop,List.drop_left]
theorem aNR:ZE SB (ej SB [hh] 472):=by
 delta ZE eb bg bY qm ee dV ck cz B8 en a7 oF;dsimp only
 intro z0 _ _ ar _ _ hp;have hp:∀z∈([z0,ar]:List Int),(af z).length<=100000000:=hp;have aOX:=hp z0 (by simp);have aOY:=hp ar (by simp);intro z2 _ z3 _ _ z4 xn _ h4 z5 _ aZ _ _ aK IW _ h7;have h4:z4=((af z0).length:Int):=h4;have h7:aK=((af ar).length:Int):=h7;refine⟨λh=>?_,λ_=>?_⟩
 ·have h:=of_decide_eq_true h;omega
 intro w _ _ pn uO;have w4:w=0:=by omega
 subst w4;clear pn uO;obtain⟨t,aB⟩:∃t:Int,z4+aK=t:=⟨_,rfl⟩;refine⟨⟨by omega,by omega⟩,?_⟩;intro dK _ _ hc0;have hc0:_=((af dK).length:Int):=hc0;intro oy aAB _ FA;have FA:_<=oy:=FA;refine⟨⟨by decide,by omega,by omega,by omega⟩,?_⟩;intro r0 _ _ jY;have jY:r0=if(0:Int)=_ then 0 else 0+0:=jY
 have jY:r0=0:=by rw[jY];split<;>rfl
 have i0:af dK=([]:List (List Int))++af dK:=rfl;obtain⟨s1,s2,bx⟩:=QO (c:=dK) (x:=z0) (s:=0) (t:=t) (n:=z4) (a:=0) (b:=t) (m:=t) (r0:=0) (r:=0) i0 rfl (by omega) rfl (by show(0:Int)=if(0:Int)=t then 0 else 0+0;split<;>rfl) rfl rfl h4 (by omega) (by omega);have BA:∀x:Int,x=t->x=t:=λ_ h=>h;refine⟨?_,s2,?_⟩
 ·rw[jY];have e:=s1;have hm:∀m:Int,m=t->aj 80 [dK,0,m]:=λm h=>by rw[h];exact s1
  exact hm _ (by omega)
 intro eu _ _ zT;have hm:∀m:Int,m=t->eu=cu 62 [z4,m]->eu=cu 62 [z4,t]:=λm h h2=>by rw[h2,h]
 obtain⟨cv,bx⟩:=bx eu (hm _ (by omega) zT);clear hm zT s1 s2;intro ahO _ _ aee c1 _ _ iD;rw[jY]at iD;obtain⟨axN,i1,dN⟩:=bx ahO aee c1 iD;clear bx;refine⟨⟨by omega,by omega,by omega⟩,λ_=>?_⟩;intro rs _ _ _;refine⟨⟨by omega,by omega,by omega⟩,λ_=>?_⟩;intro r1 _ _ hA;obtain⟨s1,s2,bx⟩:=QO (x:=ar) (t:=t) (n:=aK) (s:=z4) i1 (by simp only[fq,pr];omega) (by omega) jY hA (by omega) (by omega) h7 (by omega) rfl;refine⟨?_,s2,?_⟩
 ·have hm:∀m:Int,m=t-(z4)->aj 80 [c1,r1,m]:=λm h=>by rw[h];exact s1
  exact hm _ (by omega)
 intro aQ _ _ zU;have hm:∀m:Int,m=t-(z4)->aQ=cu 62 [aK,m]->aQ=cu 62 [aK,t-(z4)]:=λm h h2=>by rw[h2,h]
 obtain⟨av,bx⟩:=bx aQ (hm _ (by omega) zU);clear hm zU s1 s2;intro ahP _ _ Dv bQ _ _ hc2;obtain⟨akK,i2,nY⟩:=bx ahP Dv bQ hc2;clear bx;intro w _ _ pn uO;have w4:w=0:=by omega
 subst w4;clear pn uO;have tW:akK=[]:=uV (by omega);have hl:((af bQ).length:Int)=t:=by rw[i2,tW];simp only[fq,pr];omega
 subst jY;refine⟨⟨cn _,by omega,by omega⟩,λ_=>by omega,?_⟩;intro z _ aiT hz;have hz:=fP hz (by omega);refine⟨⟨by assumption,aiT,trivial⟩,?_⟩;show af z=af z0++(af ar);rw[hz,i2,tW];simp only[eQ,gO,fS]
theorem aNS:ZF SB (ej SB [hh] 469):=by
 delta ZF eb bg bY qm ee dV ck cz B8 en a7 oF LN;dsimp only
 intro z0 _ _ ar _ _ z2 _ _ hp;have hp:∀z∈([z0,ar,z2]:List Int),(af z).length<=100000000:=hp;have aOX:=hp z0 (by simp);have aOY:=hp ar (by simp);have aYI:=hp z2 (by simp);intro z3 _ z4 _ _ z5 q1 _ h5 aZ _ aK _ _ aF yu _ ch z9 _ aY _ _ aN xm _ jK;have h5:z5=((af z0).length:Int):=h5;have ch:aF=((af ar).length:Int):=ch;have jK:aN=((af z2).length:Int):=jK;refine⟨λh=>?_,λ_=>?_⟩
 ·have h:=of_decide_eq_true h;omega
 intro w _ _ pn uO;have w4:w=0:=by omega
 subst w4;clear pn uO;intro w _ _ pn uO;have w4:w=0:=by omega
 subst w4;clear pn uO;refine⟨λh=>?_,λ_=>?_⟩
 ·have h:=of_decide_eq_true h;omega
 intro w _ _ pn uO;have w4:w=0:=by omega
 subst w4;clear pn uO;obtain⟨t,aB⟩:∃t:Int,z5+aF+aN=t:=⟨_,rfl⟩;refine⟨⟨by omega,by omega⟩,?_⟩;intro dK _ _ hc0;have hc0:_=((af dK).length:Int):=hc0;intro oy aAB _ FA;have FA:_<=oy:=FA;refine⟨⟨by decide,by omega,by omega,by omega⟩,?_⟩;intro r0 _ _ jY;have jY:r0=if(0:Int)=_ then 0 else 0+0:=jY
 have jY:r0=0:=by rw[jY];split<;>rfl
 have i0:af dK=([]:List (List Int))++af dK:=rfl;obtain⟨s1,s2,bx⟩:=QO (c:=dK) (x:=z0) (s:=0) (t:=t) (n:=z5) (a:=0) (b:=t) (m:=t) (r0:=0) (r:=0) i0 rfl (by omega) rfl (by show(0:Int)=if(0:Int)=t then 0 else 0+0;split<;>rfl) rfl rfl h5 (by omega) (by omega);have BA:∀x:Int,x=t->x=t:=λ_ h=>h;refine⟨?_,s2,?_⟩
 ·rw[jY];have e:=s1;have hm:∀m:Int,m=t->aj 80 [dK,0,m]:=λm h=>by rw[h];exact s1
  exact hm _ (by omega)
 intro eu _ _ zT;have hm:∀m:Int,m=t->eu=cu 62 [z5,m]->eu=cu 62 [z5,t]:=λm h h2=>by rw[h2,h]
 obtain⟨cv,bx⟩:=bx eu (hm _ (by omega) zT);clear hm zT s1 s2;intro ahO _ _ aee c1 _ _ iD;rw[jY]at iD;obtain⟨axN,i1,dN⟩:=bx ahO aee c1 iD;clear bx;refine⟨⟨by omega,by omega,by omega⟩,λ_=>?_⟩;intro rs _ _ _;refine⟨⟨by omega,by omega,by omega⟩,λ_=>?_⟩;intro r1 _ _ hA;obtain⟨s1,s2,bx⟩:=QO (x:=ar) (t:=t) (n:=aF) (s:=z5) i1 (by simp only[fq,pr];omega) (by omega) jY hA (by omega) (by omega) ch (by omega) rfl;refine⟨?_,s2,?_⟩
 ·have hm:∀m:Int,m=t-(z5)->aj 80 [c1,r1,m]:=λm h=>by rw[h];exact s1
  exact hm _ (by omega)
 intro aQ _ _ zU;have hm:∀m:Int,m=t-(z5)->aQ=cu 62 [aF,m]->aQ=cu 62 [aF,t-(z5)]:=λm h h2=>by rw[h2,h]
 obtain⟨av,bx⟩:=bx aQ (hm _ (by omega) zU);clear hm zU s1 s2;intro ahP _ _ Dv bQ _ _ hc2;obtain⟨akK,i2,nY⟩:=bx ahP Dv bQ hc2;clear bx;intro w _ _ pn uO;have w4:w=0:=by omega
 subst w4;clear pn uO;refine⟨⟨by omega,by omega,by omega⟩,λ_=>?_⟩;intro rs _ _ _;refine⟨⟨by omega,by omega,by omega⟩,λ_=>?_⟩;intro r2 _ _ ke;obtain⟨s1,s2,bx⟩:=QO (x:=z2) (t:=t) (n:=aN) (s:=z5+aF) i2 (by simp only[fq,pr];omega) (by omega) jY ke (by omega) (by omega) jK (by omega) rfl;refine⟨?_,s2,?_⟩
 ·have hm:∀m:Int,m=t-(z5+aF)->aj 80 [bQ,r2,m]:=λm h=>by rw[h];exact s1
  exact hm _ (by omega)
 intro bn _ _ xd;have hm:∀m:Int,m=t-(z5+aF)->bn=cu 62 [aN,m]->bn=cu 62 [aN,t-(z5+aF)]:=λm h h2=>by rw[h2,h]
 obtain⟨aH,bx⟩:=bx bn (hm _ (by omega) xd);clear hm xd s1 s2;intro aRf _ _ zX cD _ _ apf;obtain⟨axO,i3,o6⟩:=bx aRf zX cD apf;clear bx;intro w _ _ pn uO;have w4:w=0:=by omega
 subst w4;clear pn uO;have tW:axO=[]:=uV (by omega);have hl:((af cD).length:Int)=t:=by rw[i3,tW];simp only[fq,pr];omega
 subst jY;refine⟨⟨cn _,by omega,by omega⟩,λ_=>by omega,?_⟩;intro z _ aiT hz;have hz:=fP hz (by omega);refine⟨⟨by assumption,aiT,trivial⟩,?_⟩;show af z=af z0++(af ar++(af z2));rw[hz,i3,tW];simp only[eQ,gO,fS]
theorem aNZ:ZI SB (ej SB [.d j7] 473):=by
 delta ZI bY ee dV ck cz;dsimp only
 intro z0 _ _ ar _ _ hp;have hp:∀z∈([z0,ar]:List Int),(af z).length<=100000000:=hp;intro z2 _ z3 _ _ z4 xn _ h4 z5 _ aZ _ _ aK IW _ h7;have h4:z4=((af z0).length:Int):=h4;have h7:aK=((af ar).length:Int):=h7;refine⟨⟨cn _,xn,by rw[h4];exact cn _⟩,?_⟩;intro aF _ _ ch;have ch:=fP ch h4;refine⟨⟨cn _,IW,by rw[h7];exact cn _⟩,?_⟩;intro z9 _ _ cC;have cC:=fP cC h7;refine⟨λz hz=>?_,?_⟩
 ·simp only[m2,uU,or_false]at hz;rcases hz with rfl|rfl
  ·rw[ch];exact hp z0 (by simp)
  ·rw[cC];exact hp ar (by simp)
 intro rh _ _ aR;have aR:af rh=af aF++(af z9):=aR;rw[ch,cC]at aR;have adW:(af rh).length<=1000000000:=by
  rw[aR];simp only[fq];have:=hp z0 (by simp);have:=hp ar (by simp);omega
 have adw:aJ rh=aJ z0++(aJ ar):=by
  unfold aJ;rw[aR];simp only[hQ]
 intro aVY _ aVZ _ _ aiS afF _ kc;have kc:aiS=((af rh).length:Int):=kc;refine⟨⟨cn _,afF,by rw[kc];exact cn _⟩,λz9 o7 k1 cC=>?_⟩;have nc:=fP cC kc;refine⟨by show(af z9).length<=1000000000;rw[nc];exact adW,λaY lb l1 dB aN m0 gk z12 e9 bh gj=>?_⟩;have dB:aJ aY=q4 bP (aJ z9):=dB;have gj:z12=((af aY).length:Int):=gj;rw[jU nc]at dB;obtain⟨aQ,bn,cj⟩:=Wp (aJ rh);have o0:(aJ rh).length=(af rh).length:=fT rh;refine⟨⟨cn _,by omega,by rw[gj];exact cn _⟩,λa1 rW o1 ix=>?_⟩;have ix:=fP ix gj;have Ia:(af a1).length=lf 64 (aJ rh).length:=by rw[ix,<-fT,dB,aQ]
 refine⟨by show 128∣(af a1).length/\(af a1).length<=1000001000;rw[Ia];exact⟨bn,by omega⟩,λaG p0 bw jm aS r0 r1 ba aL s1 ln=>?_⟩;have jm:aJ aG=pC bP (aJ a1):=jm;rw[jU ix,dB]at jm;have ln:ba=((af aG).length:Int):=ln;have FF:(aJ aG).length=64:=by rw[jm,E0];rfl
 have Il:(af aG).length=64:=by rw[<-fT,FF]
 have gv:∀i:Int,0<=i->i<64->aj 21 [aG,i]:=λi h1 h2=>⟨h1,by rw[Il];exact h2⟩;refine⟨⟨by decide,by omega⟩,gv 0 (by decide) (by decide),NX 64 0 [] (by omega) λl h1 h2 h3=>?_⟩;have eF:l=aJ aG:=by rw[h3,jA,mu (by omega)]
 rw[eQ];refine⟨?_,?_⟩
 ·show ay (aT 0 255 64++[]) [l].flatten;have:=vv 64 l h1 h2;simpa using this
 ·show [l]=_;rw[eF,jm,adw];rfl
theorem aN0:ZJ SB (ej SB [.d j7] 471):=by
 delta ZJ bY ee dV ck cz;dsimp only
 intro z0 _ _ ar _ _ z2 _ _ hp;have hp:∀z∈([z0,ar,z2]:List Int),(af z).length<=100000000:=hp;intro z3 _ z4 _ _ z5 q1 _ h5 aZ _ aK _ _ aF yu _ ch z9 _ aY _ _ aN xm _ jK;have h5:z5=((af z0).length:Int):=h5;have ch:aF=((af ar).length:Int):=ch;have jK:aN=((af z2).length:Int):=jK;refine⟨⟨cn _,q1,by rw[h5];exact cn _⟩,?_⟩;intro z12 _ _ gj;have gj:=fP gj h5;refine⟨⟨cn _,yu,by rw[ch];exact cn _⟩,?_⟩;intro a1 _ _ ix;have ix:=fP ix ch;refine⟨⟨cn _,xm,by rw[jK];exact cn _⟩,?_⟩;intro aG _ _ jm;have jm:=fP jm jK;refine⟨λz hz=>?_,?_⟩
 ·simp only[m2,uU,or_false]at hz;rcases hz with rfl|rfl|rfl
  ·rw[gj];exact hp z0 (by simp)
  ·rw[ix];exact hp ar (by simp)
  ·rw[jm];exact hp z2 (by simp)
 intro rh _ _ aR;have aR:af rh=af z12++(af a1++(af aG)):=aR;rw[gj,ix,jm]at aR;have adW:(af rh).length<=1000000000:=by
  rw[aR];simp only[fq];have:=hp z0 (by simp);have:=hp ar (by simp);have:=hp z2 (by simp);omega
 have adw:aJ rh=aJ z0++(aJ ar++(aJ z2)):=by
  unfold aJ;rw[aR];simp only[hQ]
 intro aVY _ aVZ _ _ aiS afF _ kc;have kc:aiS=((af rh).length:Int):=kc;refine⟨⟨cn _,afF,by rw[kc];exact cn _⟩,λz9 o7 k1 cC=>?_⟩;have nc:=fP cC kc;refine⟨by show(af z9).length<=1000000000;rw[nc];exact adW,λaY lb l1 dB aN m0 gk z12 e9 bh gj=>?_⟩;have dB:aJ aY=q4 bP (aJ z9):=dB;have gj:z12=((af aY).length:Int):=gj;rw[jU nc]at dB;obtain⟨aQ,bn,cj⟩:=Wp (aJ rh);have o0:(aJ rh).length=(af rh).length:=fT rh;refine⟨⟨cn _,by omega,by rw[gj];exact cn _⟩,λa1 rW o1 ix=>?_⟩;have ix:=fP ix gj;have Ia:(af a1).length=lf 64 (aJ rh).length:=by rw[ix,<-fT,dB,aQ]
 refine⟨by show 128∣(af a1).length/\(af a1).length<=1000001000;rw[Ia];exact⟨bn,by omega⟩,λaG p0 bw jm aS r0 r1 ba aL s1 ln=>?_⟩;have jm:aJ aG=pC bP (aJ a1):=jm;rw[jU ix,dB]at jm;have ln:ba=((af aG).length:Int):=ln;have FF:(aJ aG).length=64:=by rw[jm,E0];rfl
 have Il:(af aG).length=64:=by rw[<-fT,FF]
 have gv:∀i:Int,0<=i->i<64->aj 21 [aG,i]:=λi h1 h2=>⟨h1,by rw[Il];exact h2⟩;refine⟨⟨by decide,by omega⟩,gv 0 (by decide) (by decide),NX 64 0 [] (by omega) λl h1 h2 h3=>?_⟩;have eF:l=aJ aG:=by rw[h3,jA,mu (by omega)]
 rw[eQ];refine⟨?_,?_⟩
 ·show ay (aT 0 255 64++[]) [l].flatten;have:=vv 64 l h1 h2;simpa using this
 ·show [l]=_;rw[eF,jm,adw];rfl
end Go.dg
namespace Go.dg
open Go Go.bX
theorem avW {k:IntKind} {x y:Int} (hx:0<=x) (hy:0<=y) (lI:x<nv k) (DA:y<nv k):br .xor k x y=((x.toNat^^^y.toNat:Nat):Int):=by
 have hl:=Qv k;have Pw:x<2^k.bits:=by rw[<-yW];omega
 have Pz:y<2^k.bits:=by rw[<-yW];omega
 obtain⟨i,hi,_⟩:=arz k;obtain⟨X,rfl⟩:=mr hx;obtain⟨Y,rfl⟩:=mr hy;have cb:X<2^i:=by rw[hi]at lI;exact_mod_cast lI
 have hY:Y<2^i:=by rw[hi]at DA;exact_mod_cast DA
 have h1:X^^^Y<2^i:=aWe cb hY;unfold br;simp only;rw[BitVec.toNat_xor,JJ,JJ];have av:((X:Int)% ((2^k.bits:Nat):Int)).toNat=X:=by
  rw[lO (by omega) (by exact_mod_cast Pw)];simp
 have aH:((Y:Int)% ((2^k.bits:Nat):Int)).toNat=Y:=by
  rw[lO (by omega) (by exact_mod_cast Pz)];simp
 rw[av,aH];simp only[hC];exact RU (by omega) (by rw[hi];exact_mod_cast h1)
theorem VV:nv .u32=4294967296:=by decide
theorem LL:nv .u64=0x10000000000000000:=by decide
theorem MC {x y:Int} (hx:0<=x) (lI:x<4294967296) (hy:0<=y) (DA:y<4294967296):br .xor .u64 x y=br .xor .u32 x y/\0<=br .xor .u32 x y/\br .xor .u32 x y<4294967296:=by
 have av:=avW (k:= .u64) hx hy (by rw[LL];omega) (by rw[LL];omega);have aH:=avW (k:= .u32) hx hy (by rw[VV];omega) (by rw[VV];omega);rw[av,aH];have h1:x.toNat^^^y.toNat<2^32:=aWe (by omega) (by omega);exact⟨rfl,by omega,by omega⟩
theorem Nw {x y:Int} (hx:0<=x) (lI:x<4294967296) (hy:0<=y) (DA:y<4294967296):br .and .u64 x y=br .and .u32 x y/\0<=br .and .u32 x y/\br .and .u32 x y<4294967296:=by
 have av:=Kg (k:= .u64) hx hy (by rw[LL];omega) (by show y<0x10000000000000000;omega);have aH:=Kg (k:= .u32) hx hy (by rw[VV];omega) (by show y<4294967296;omega);rw[av,aH];have h1:x.toNat&&&y.toNat<=x.toNat:=Nat.and_le_left;exact⟨rfl,by omega,by omega⟩
theorem aI4 {x y:Int} (hx:0<=x) (lI:x<4294967296) (hy:0<=y) (DA:y<4294967296):br .and .u64 (-1*x+0xffffffffffffffff) y=br .and .u32 (4294967295-x) y:=by
 have av:=Kg (k:= .u64) (x:=-1*x+0xffffffffffffffff) (y:=y) (by omega) hy (by rw[LL];omega) (by show y<0x10000000000000000;omega);have aH:=Kg (k:= .u32) (x:=4294967295-x) (y:=y) (by omega) hy (by rw[VV];omega) (by show y<4294967296;omega);rw[av,aH];have h1:(-1*x+0xffffffffffffffff).toNat&&&y.toNat<2^32:=Nat.lt_of_le_of_lt Nat.and_le_right (by omega);have h2:=Nat.and_mod_two_pow (a:=(-1*x+0xffffffffffffffff).toNat) (b:=y.toNat) (n:=32);rw[MS h1,MS (a:=y.toNat) (by omega)]at h2;rw[h2,show(-1*x+0xffffffffffffffff).toNat% 2^32=(4294967295-x).toNat by omega]
end Go.dg
namespace Go.Fd
open Go.bX
def Dg:Nat:=0x7fffffffffffffffffffffffffffffffffffffffffffffffffffffffffffffec
def w1:Nat:=0x3ffffffffffffffffffffffffffffffffffffffffffffffffffffffffffffff6
def Oi:Nat:=0x1ffffffffffffffffffffffffffffffffffffffffffffffffffffffffffffffb
theorem aOV (a e:Nat):cJ (a:Int) e=((a^e% 0x7fffffffffffffffffffffffffffffffffffffffffffffffffffffffffffffed:Nat):Int):=by
 unfold cJ;rw[X7];congr 1
theorem aCv {n g a e:Nat} (h:Nl.CT n g) (he:e=n-1) (ha:a% n≠0):a^e% n=1:=by subst he;exact h.Fj ha
theorem asY {a b:Int} (h:a% aa=b% aa) (k:Nat):cJ a k=cJ b k:=by rw[<-B5 a,h,B5]
theorem aOU (a:Int) (m n:Nat):cJ a (m+n)=cJ a m*cJ a n% aa:=by
 unfold cJ;rw[sI,xp,<-Ya]
theorem asW (a:Int) (m:Nat):∀n:Nat,cJ (cJ a m) n=cJ a (m*n)
 |0=>by rw[Nat.mul_zero,B6,B6]
 |n+1=>by rw[yC,asW a m n,Nat.mul_add,Nat.mul_one,aOU]
theorem QC (a b:Int):∀n:Nat,cJ (a*b) n=cJ a n*cJ b n% aa
 |0=>by rw[B6,B6,B6];decide
 |n+1=>by
  rw[yC,QC a b n,yC,yC,sI,sI,xp]
  congr 1
  ac_rfl
theorem aOW (a:Int):cJ a 1=a% aa:=by rw[show(1:Nat)=0+1 by rfl,yC,B6,wJ]
theorem QP (a:Int) (k:Nat):cJ a k% aa=cJ a k:=xR _ _
theorem av4 (a:Int) (h:a% aa=0) (k:Nat) (ag:0<k):cJ a k=0:=by
 obtain⟨j,rfl⟩:∃j,k=j+1:=⟨k-1,by omega⟩;rw[yC,<-xp,h,Int.mul_zero];rfl
theorem Fj {x:Int} (h:x% 0x7fffffffffffffffffffffffffffffffffffffffffffffffffffffffffffffed≠0):cJ x Dg=1:=by
 have h0:0<=x% 0x7fffffffffffffffffffffffffffffffffffffffffffffffffffffffffffffed:=sV _ (by decide);have h1:x% 0x7fffffffffffffffffffffffffffffffffffffffffffffffffffffffffffffed<0x7fffffffffffffffffffffffffffffffffffffffffffffffffffffffffffffed:=ri _ (by decide);obtain⟨X,cb⟩:=mr h0;have aDb:X% 0x7fffffffffffffffffffffffffffffffffffffffffffffffffffffffffffffed≠0:=by omega
 rw[<-B5,cb,aOV X Dg,aCv Nl.aCs (by decide:Dg=0x7fffffffffffffffffffffffffffffffffffffffffffffffffffffffffffffed-1) aDb];rfl
theorem QF {x y:Int} (h:x*y% aa=0):x% aa=0∨y% aa=0:=by
 by_cases hx:x% aa=0
 ·exact .inl hx
 ·right
  have h1:=Fj hx;have h2:cJ x (Dg-1)*x% aa=1:=by rw[<-yC,show Dg-1+1=Dg by decide];exact h1
  have h3:y% aa=cJ x (Dg-1)*(x*y)% aa:=by
   rw[<-CD,sU,h2,wJ,xR]
  rw[h3,sU,h,Int.mul_zero];rfl
theorem at6 (r s:Int):(r-s)*(r+s)=r*r-s*s:=by grind
theorem aso (c:Int):(0-c)*(0-c)=c*c:=by grind
theorem aRe {t:Int} (h0:0<=t) (h1:t<aa) (h:t*t% aa=1):t=1∨t=0x7fffffffffffffffffffffffffffffffffffffffffffffffffffffffffffffec:=by
 have e:(t-1)*(t+1)% aa=0:=by
  rw[at6,Int.sub_emod,h];decide
 rcases QF e with h|h
 ·left;(unfold aa at*;omega)
 ·right;(unfold aa at*;omega)
def ahM (T a:Int):Int×Int:=
 let dK:=cJ a p9
 if dK*dK% aa=a then(if dK% 2=1 then(0-dK)% aa else dK,1)else
 let c:=dK*T% aa
 if c*c% aa=a then(if c% 2=1 then(0-c)% aa else c,1)else(0,0)
def isRoot (a r:Int):Prop:=0<=r/\r<aa/\r% 2=0/\r*r% aa=a
theorem anY {a c:Int} (h0:0<=c) (h1:c<aa) (h:c*c% aa=a):isRoot a (if c% 2=1 then(0-c)% aa else c):=by
 split
 ·rename_i hc;have e:=V7 (c:=c) (by omega) h1;refine⟨by(unfold aa at*;omega),by(unfold aa at*;omega),by(unfold aa at*;omega),?_⟩;rw[sI,xp,aso];exact h
 ·exact⟨h0,h1,by omega,h⟩
theorem atg {a r s:Int} (hr:isRoot a r) (hs:isRoot a s):r=s:=by
 obtain⟨r0,r1,r2,gS⟩:=hr;obtain⟨aL,s1,s2,bx⟩:=hs;have e:(r-s)*(r+s)% aa=0:=by
  rw[at6,Int.sub_emod,gS,bx,Int.sub_self];rfl
 clear gS bx;rcases QF e with h|h
 ·clear e r2 s2;obtain⟨k,ag⟩:=JH h;have h1:k<1:=by(unfold aa at*;omega)
  have h2:-1<k:=by(unfold aa at*;omega)
  have h3:k=0:=by omega
  subst h3;omega
 ·clear e;obtain⟨k,ag⟩:=JH h;have h1:k<2:=by clear r2 s2;(unfold aa at*;omega)
  have h2:-1<k:=by clear r2 s2;(unfold aa at*;omega)
  have h3:k=0∨k=1:=by clear r2 s2 ag;omega
  rcases h3 with rfl|rfl
  ·clear r2 s2;omega
  ·exfalso;clear r0 r1 aL s1 h h1 h2;(unfold aa at*;omega)
theorem aAE:2*p9=Oi+1:=by decide
theorem aAD:2*Oi=w1:=by decide
theorem abR:2*w1=Dg:=by decide
theorem amB (a:Int):cJ a p9*cJ a p9% aa=cJ a Oi*a% aa:=by rw[<-I6,aAE,yC]
theorem aA1 {x:Int} (h:x% aa≠0):cJ x w1=1∨cJ x w1=0x7fffffffffffffffffffffffffffffffffffffffffffffffffffffffffffffec:=
 aRe (L6 x w1).1 (L6 x w1).2 (by rw[<-I6,abR];exact Fj h)
theorem aIY {T:Int} (bG:T*T% aa=0x7fffffffffffffffffffffffffffffffffffffffffffffffffffffffffffffec) (a:Int):(cJ a p9*T% aa)*(cJ a p9*T% aa)% aa=cJ a Oi*a*0x7fffffffffffffffffffffffffffffffffffffffffffffffffffffffffffffec% aa:=by
 rw[sI,xp,show cJ a p9*T*(cJ a p9*T)=(cJ a p9*cJ a p9)*(T*T) by ac_rfl,sU,bG,amB,sI]
theorem aRb {T a:Int} (bG:T*T% aa=0x7fffffffffffffffffffffffffffffffffffffffffffffffffffffffffffffec) (h0:0<=a) (h1:a<aa):(∃r,ahM T a=(r,1)/\isRoot a r)∨(ahM T a=(0,0)/\∀x:Int,x*x% aa≠a):=by
 unfold ahM;simp only;by_cases eu:cJ a p9*cJ a p9% aa=a
 ·rw[if_pos eu];exact .inl ⟨_,rfl,anY (L6 a p9).1 (L6 a p9).2 eu⟩
 ·rw[if_neg eu];by_cases aQ:cJ a p9*T% aa*(cJ a p9*T% aa)% aa=a
  ·rw[if_pos aQ];exact .inl ⟨_,rfl,anY (sV _ (by decide)) (ri _ (by decide)) aQ⟩
  ·rw[if_neg aQ];refine .inr ⟨rfl,λx hx=>?_⟩;by_cases hz:x% aa=0
   ·have ha:a=0:=by rw[<-hx,sU,hz];rfl
    apply eu;rw[ha,av4 0 (by decide) p9 (by decide)];decide
   ·have aB:cJ a Oi=cJ x w1:=by
     rw[<-hx,<-aAD,<-asW,B5];have aH:cJ x 2=x*x% aa:=by rw[show(2:Nat)=2*1 by rfl,I6,aOW,sI,xp]
     rw[aH,B5]
    rcases aA1 hz with h|h
    ·apply eu;rw[amB,aB,h,wJ];exact lO h0 h1
    ·apply aQ;rw[aIY bG,aB,h,show(0x7fffffffffffffffffffffffffffffffffffffffffffffffffffffffffffffec:Int)*a*0x7fffffffffffffffffffffffffffffffffffffffffffffffffffffffffffffec=a+aa*(0x7fffffffffffffffffffffffffffffffffffffffffffffffffffffffffffffeb*a) by(unfold aa at*;omega),xQ];exact lO h0 h1
theorem aSf:yV*yV% aa=0x7fffffffffffffffffffffffffffffffffffffffffffffffffffffffffffffec:=by decide+kernel
theorem aRc:AI*AI% aa=0x7fffffffffffffffffffffffffffffffffffffffffffffffffffffffffffffec:=by decide+kernel
theorem at5 {a:Int} (h0:0<=a) (h1:a<aa):(∃r,nC a=(r,1)/\isRoot a r)∨(nC a=(0,0)/\∀x:Int,x*x% aa≠a):=aRb aSf h0 h1
theorem yy (a:Int):0<=a% aa/\a% aa<aa:=⟨sV _ (by decide),ri _ (by decide)⟩
theorem aRd {a x:Int} (h:x*x% aa=a% aa):∃r,nC (a% aa)=(r,1)/\isRoot (a% aa) r:=by
 rcases at5 (yy a).1 (yy a).2 with aP|⟨_,hn⟩
 ·exact aP
 ·exact absurd h (hn x)
theorem inv_mul {a:Int} (h:a% aa≠0):a*cJ a vp% aa=1:=by
 rw[kL,<-yC,show vp+1=Dg by decide];exact Fj h
end Go.Fd
namespace Go.p2
theorem ayS (ak au ai ao aw az d:Int):((ak*ao+au*ai)*(1-d*(ak*ai*(au*ao)))*az+(au*ao+ak*ai)*(1+d*(ak*ai*(au*ao)))*aw)*((1+d*(ai*aw*(ao*az)))*(1-d*(ai*aw*(ao*az)))+d*((ai*az+ao*aw)*(ao*az+ai*aw)*(ak*au)))-(ak*((ao*az+ai*aw)*(1+d*(ai*aw*(ao*az))))+au*((ai*az+ao*aw)*(1-d*(ai*aw*(ao*az)))))*((1+d*(ak*ai*(au*ao)))*(1-d*(ak*ai*(au*ao)))+d*((ak*ao+au*ai)*(au*ao+ak*ai)*(aw*az)))=
 (-1*(ak*ai*ai*ai*ai*ao*ao*ao*aw*aw*az*d*d)-ak*ai*ai*ai*ai*ao*aw*aw*az*d-ak*ai*ai*ai*ao*ao*ao*ao*aw*az*az*d*d-ak*ai*ai*ai*ao*ao*aw*aw*aw*d-ak*ai*ai*ai*ao*ao*aw*d+ak*ai*ai*ao*ao*ao*az*az*az*d-ak*ai*ai*ao*ao*ao*az*d+ak*ai*ao*ao*ao*ao*aw*az*az*d+au*ai*ai*ai*ai*ao*ao*ao*aw*az*az*d*d+au*ai*ai*ai*ai*ao*aw*az*az*d+au*ai*ai*ai*ao*ao*ao*ao*aw*aw*az*d*d+au*ai*ai*ai*ao*ao*az*az*az*d-au*ai*ai*ai*ao*ao*az*d-au*ai*ai*ao*ao*ao*aw*aw*aw*d-au*ai*ai*ao*ao*ao*aw*d-au*ai*ao*ao*ao*ao*aw*aw*az*d)*(au*au-ak*ak-1-d*(ak*ak*(au*au)))+
 (ak*ak*ak*ai*ai*ao*aw*aw*az*d+ak*ak*ak*ai*ao*ao*aw*az*az*d+ak*ak*ak*ai*aw*aw*aw*az*az*d+ak*ak*ak*ai*aw*aw*aw-ak*ak*ak*ai*aw*az*az+ak*ak*ak*ai*aw+ak*ak*ak*ao*aw*aw*az*az*az*d+ak*ak*ak*ao*aw*aw*az-ak*ak*ak*ao*az*az*az+ak*ak*ak*ao*az+ak*ak*au*ai*ai*ao*aw*aw*aw*az*az*d*d-ak*ak*au*ai*ai*ao*aw*az*az*d-ak*ak*au*ai*ao*ao*aw*aw*az*az*az*d*d-ak*ak*au*ai*ao*ao*aw*aw*az*d+ak*ak*au*ai*aw*aw*az*az*az*d+ak*ak*au*ai*aw*aw*az-ak*ak*au*ai*az*az*az+ak*ak*au*ai*az+ak*ak*au*ao*aw*aw*aw*az*az*d+ak*ak*au*ao*aw*aw*aw-ak*ak*au*ao*aw*az*az+ak*ak*au*ao*aw-ak*au*au*ai*ai*ao*aw*aw*az*az*az*d*d-ak*au*au*ai*ai*ao*aw*aw*az*d+ak*au*au*ai*ao*ao*aw*aw*aw*az*az*d*d-ak*au*au*ai*ao*ao*aw*az*az*d-ak*au*au*ai*aw*aw*aw*az*az*d-ak*au*au*ai*aw*aw*aw+ak*au*au*ai*aw*az*az-ak*au*au*ai*aw-ak*au*au*ao*aw*aw*az*az*az*d-ak*au*au*ao*aw*aw*az+ak*au*au*ao*az*az*az-ak*au*au*ao*az+ak*ai*ai*ao*aw*aw*az*d+ak*ai*ao*ao*aw*az*az*d+ak*ai*aw*aw*aw*az*az*d+ak*ai*aw*aw*aw-ak*ai*aw*az*az+ak*ai*aw+ak*ao*aw*aw*az*az*az*d+ak*ao*aw*aw*az-ak*ao*az*az*az+ak*ao*az+au*au*au*ai*ai*ao*aw*az*az*d+au*au*au*ai*ao*ao*aw*aw*az*d-au*au*au*ai*aw*aw*az*az*az*d-au*au*au*ai*aw*aw*az+au*au*au*ai*az*az*az-au*au*au*ai*az-au*au*au*ao*aw*aw*aw*az*az*d-au*au*au*ao*aw*aw*aw+au*au*au*ao*aw*az*az-au*au*au*ao*aw-au*ai*ai*ao*aw*az*az*d-au*ai*ao*ao*aw*aw*az*d+au*ai*aw*aw*az*az*az*d+au*ai*aw*aw*az-au*ai*az*az*az+au*ai*az+au*ao*aw*aw*aw*az*az*d+au*ao*aw*aw*aw-au*ao*aw*az*az+au*ao*aw)*(ao*ao-ai*ai-1-d*(ai*ai*(ao*ao)))+
 (-1*(ak*ak*ak*ai*ai*ai*aw)-ak*ak*ak*ai*ai*ao*az+ak*ak*ak*ai*ao*ao*aw-ak*ak*ak*ai*aw+ak*ak*ak*ao*ao*ao*az-ak*ak*ak*ao*az-ak*ak*au*ai*ai*ai*az-ak*ak*au*ai*ai*ao*aw*d-ak*ak*au*ai*ai*ao*aw+ak*ak*au*ai*ao*ao*az*d+ak*ak*au*ai*ao*ao*az-ak*ak*au*ai*az+ak*ak*au*ao*ao*ao*aw-ak*ak*au*ao*aw+ak*au*au*ai*ai*ai*aw+ak*au*au*ai*ai*ao*az*d+ak*au*au*ai*ai*ao*az-ak*au*au*ai*ao*ao*aw*d-ak*au*au*ai*ao*ao*aw+ak*au*au*ai*aw-ak*au*au*ao*ao*ao*az+ak*au*au*ao*az-ak*ai*ai*ai*aw-ak*ai*ai*ao*az+ak*ai*ao*ao*aw-ak*ai*aw+ak*ao*ao*ao*az-ak*ao*az+au*au*au*ai*ai*ai*az+au*au*au*ai*ai*ao*aw-au*au*au*ai*ao*ao*az+au*au*au*ai*az-au*au*au*ao*ao*ao*aw+au*au*au*ao*aw-au*ai*ai*ai*az-au*ai*ai*ao*aw+au*ai*ao*ao*az-au*ai*az+au*ao*ao*ao*aw-au*ao*aw)*(az*az-aw*aw-1-d*(aw*aw*(az*az))):=by grind
theorem ayT (ak au ai ao aw az d:Int):((au*ao+ak*ai)*(1+d*(ak*ai*(au*ao)))*az+(ak*ao+au*ai)*(1-d*(ak*ai*(au*ao)))*aw)*((1+d*(ai*aw*(ao*az)))*(1-d*(ai*aw*(ao*az)))-d*((ai*az+ao*aw)*(ao*az+ai*aw)*(ak*au)))-(au*((ao*az+ai*aw)*(1+d*(ai*aw*(ao*az))))+ak*((ai*az+ao*aw)*(1-d*(ai*aw*(ao*az)))))*((1+d*(ak*ai*(au*ao)))*(1-d*(ak*ai*(au*ao)))-d*((ak*ao+au*ai)*(au*ao+ak*ai)*(aw*az)))=
 (ak*ai*ai*ai*ai*ao*ao*ao*aw*az*az*d*d+ak*ai*ai*ai*ai*ao*aw*az*az*d+ak*ai*ai*ai*ao*ao*ao*ao*aw*aw*az*d*d+ak*ai*ai*ai*ao*ao*az*az*az*d-ak*ai*ai*ai*ao*ao*az*d-ak*ai*ai*ao*ao*ao*aw*aw*aw*d-ak*ai*ai*ao*ao*ao*aw*d-ak*ai*ao*ao*ao*ao*aw*aw*az*d-au*ai*ai*ai*ai*ao*ao*ao*aw*aw*az*d*d-au*ai*ai*ai*ai*ao*aw*aw*az*d-au*ai*ai*ai*ao*ao*ao*ao*aw*az*az*d*d-au*ai*ai*ai*ao*ao*aw*aw*aw*d-au*ai*ai*ai*ao*ao*aw*d+au*ai*ai*ao*ao*ao*az*az*az*d-au*ai*ai*ao*ao*ao*az*d+au*ai*ao*ao*ao*ao*aw*az*az*d)*(au*au-ak*ak-1-d*(ak*ak*(au*au)))+
 (-1*(ak*ak*ak*ai*ai*ao*aw*az*az*d)-ak*ak*ak*ai*ao*ao*aw*aw*az*d+ak*ak*ak*ai*aw*aw*az*az*az*d+ak*ak*ak*ai*aw*aw*az-ak*ak*ak*ai*az*az*az+ak*ak*ak*ai*az+ak*ak*ak*ao*aw*aw*aw*az*az*d+ak*ak*ak*ao*aw*aw*aw-ak*ak*ak*ao*aw*az*az+ak*ak*ak*ao*aw+ak*ak*au*ai*ai*ao*aw*aw*az*az*az*d*d+ak*ak*au*ai*ai*ao*aw*aw*az*d-ak*ak*au*ai*ao*ao*aw*aw*aw*az*az*d*d+ak*ak*au*ai*ao*ao*aw*az*az*d+ak*ak*au*ai*aw*aw*aw*az*az*d+ak*ak*au*ai*aw*aw*aw-ak*ak*au*ai*aw*az*az+ak*ak*au*ai*aw+ak*ak*au*ao*aw*aw*az*az*az*d+ak*ak*au*ao*aw*aw*az-ak*ak*au*ao*az*az*az+ak*ak*au*ao*az-ak*au*au*ai*ai*ao*aw*aw*aw*az*az*d*d+ak*au*au*ai*ai*ao*aw*az*az*d+ak*au*au*ai*ao*ao*aw*aw*az*az*az*d*d+ak*au*au*ai*ao*ao*aw*aw*az*d-ak*au*au*ai*aw*aw*az*az*az*d-ak*au*au*ai*aw*aw*az+ak*au*au*ai*az*az*az-ak*au*au*ai*az-ak*au*au*ao*aw*aw*aw*az*az*d-ak*au*au*ao*aw*aw*aw+ak*au*au*ao*aw*az*az-ak*au*au*ao*aw-ak*ai*ai*ao*aw*az*az*d-ak*ai*ao*ao*aw*aw*az*d+ak*ai*aw*aw*az*az*az*d+ak*ai*aw*aw*az-ak*ai*az*az*az+ak*ai*az+ak*ao*aw*aw*aw*az*az*d+ak*ao*aw*aw*aw-ak*ao*aw*az*az+ak*ao*aw-au*au*au*ai*ai*ao*aw*aw*az*d-au*au*au*ai*ao*ao*aw*az*az*d-au*au*au*ai*aw*aw*aw*az*az*d-au*au*au*ai*aw*aw*aw+au*au*au*ai*aw*az*az-au*au*au*ai*aw-au*au*au*ao*aw*aw*az*az*az*d-au*au*au*ao*aw*aw*az+au*au*au*ao*az*az*az-au*au*au*ao*az+au*ai*ai*ao*aw*aw*az*d+au*ai*ao*ao*aw*az*az*d+au*ai*aw*aw*aw*az*az*d+au*ai*aw*aw*aw-au*ai*aw*az*az+au*ai*aw+au*ao*aw*aw*az*az*az*d+au*ao*aw*aw*az-au*ao*az*az*az+au*ao*az)*(ao*ao-ai*ai-1-d*(ai*ai*(ao*ao)))+
 (-1*(ak*ak*ak*ai*ai*ai*az)-ak*ak*ak*ai*ai*ao*aw+ak*ak*ak*ai*ao*ao*az-ak*ak*ak*ai*az+ak*ak*ak*ao*ao*ao*aw-ak*ak*ak*ao*aw-ak*ak*au*ai*ai*ai*aw-ak*ak*au*ai*ai*ao*az*d-ak*ak*au*ai*ai*ao*az+ak*ak*au*ai*ao*ao*aw*d+ak*ak*au*ai*ao*ao*aw-ak*ak*au*ai*aw+ak*ak*au*ao*ao*ao*az-ak*ak*au*ao*az+ak*au*au*ai*ai*ai*az+ak*au*au*ai*ai*ao*aw*d+ak*au*au*ai*ai*ao*aw-ak*au*au*ai*ao*ao*az*d-ak*au*au*ai*ao*ao*az+ak*au*au*ai*az-ak*au*au*ao*ao*ao*aw+ak*au*au*ao*aw-ak*ai*ai*ai*az-ak*ai*ai*ao*aw+ak*ai*ao*ao*az-ak*ai*az+ak*ao*ao*ao*aw-ak*ao*aw+au*au*au*ai*ai*ai*aw+au*au*au*ai*ai*ao*az-au*au*au*ai*ao*ao*aw+au*au*au*ai*aw-au*au*au*ao*ao*ao*az+au*au*au*ao*az-au*ai*ai*ai*aw-au*ai*ai*ao*az+au*ai*ao*ao*aw-au*ai*aw+au*ao*ao*ao*az-au*ao*az)*(az*az-aw*aw-1-d*(aw*aw*(az*az))):=by grind
end Go.p2
namespace Go.p2
theorem x9 {p a:Int} (r:Int) (h:p∣a):p∣r*a:=Int.dvd_trans h ⟨r,by rw[kL]⟩
theorem Qt {p X za r1:Int} (h1:p∣za) (e:X=r1*za):p∣X:=by rw[e];exact x9 r1 h1
theorem Af {p X za EP r1 r2:Int} (h1:p∣za) (h2:p∣EP) (e:X=r1*za+r2*EP):p∣X:=by rw[e];exact MQ (x9 r1 h1) (x9 r2 h2)
theorem BV {p X za EP Nf r1 r2 gS:Int} (h1:p∣za) (h2:p∣EP) (h3:p∣Nf) (e:X=r1*za+r2*EP+gS*Nf):p∣X:=by rw[e];exact MQ (MQ (x9 r1 h1) (x9 r2 h2)) (x9 gS h3)
theorem ars {p X za EP Nf aky r1 r2 gS bb:Int} (h1:p∣za) (h2:p∣EP) (h3:p∣Nf) (h4:p∣aky) (e:X=r1*za+r2*EP+gS*Nf+bb*aky):p∣X:=by rw[e];exact MQ (MQ (MQ (x9 r1 h1) (x9 r2 h2)) (x9 gS h3)) (x9 bb h4)
def qB (p d x y:Int):Prop:=p∣y*y-x*x-1-d*(x*x*(y*y))
def CX (p d ak au ai ao aw az:Int):Prop:=p∣aw*(1+d*(ak*ai*(au*ao)))-(ak*ao+au*ai)/\p∣az*(1-d*(ak*ai*(au*ao)))-(au*ao+ak*ai)
structure qA (p d i:Int):Prop where
 hz:∀x y,p∣x*y->p∣x∨p∣y
 h1:¬p∣1
 h2:¬p∣2
 hi:p∣i*i+1
 hd:∀a b,p∣a*a-d*(b*b)->p∣b
section
variable {p d i:Int}
theorem aGx (ak au ai ao d i e:Int):(au+i*e*ak)*(au+i*e*ak)-d*((ak*au*(ao+i*ai))*(ak*au*(ao+i*ai)))=
 1*(au*au-ak*ak-1-d*(ak*ak*(au*au)))+(-(d*(ak*ak*(au*au))))*(ao*ao-ai*ai-1-d*(ai*ai*(ao*ao)))+(-(2*i*ak*au)-(d*(ak*ai*(au*ao))+e))*(d*(ak*ai*(au*ao))-e)+(e*e*ak*ak-d*(ak*ak*(au*au)*(ai*ai)))*(i*i+1)+(1-e*e)*(1+ak*ak):=by grind
theorem qA.complete (F:qA p d i) {ak au ai ao e:Int} (h1:qB p d ak au) (h2:qB p d ai ao) (he:e*e=1):¬p∣d*(ak*ai*(au*ao))-e:=by
 intro ag;have key:∀j:Int,p∣j*j+1->p∣ak*au*(ao+j*ai):=λj aR=>by
  have hc:=aGx ak au ai ao d j e;rw[he,Int.sub_self,X5,wI]at hc;exact F.hd (au+j*e*ak) _ (ars h1 h2 ag aR hc)
 have nh:¬p∣d*(ak*ai*(au*ao)):=λh=>by
  have h3:p∣e:=by have:=Int.dvd_sub h ag;rwa [show d*(ak*ai*(au*ao))-(d*(ak*ai*(au*ao))-e)=e by omega]at this
  exact F.h1 (by rw[<-he];exact x9 e h3)
 have s9:¬p∣ak*au:=λh=>nh (Qt h (r1:=d*(ai*ao)) (by grind));have c1:=(F.hz _ _ (key i F.hi)).resolve_left s9;have bQ:=(F.hz _ _ (key (-i) (by rw[show-i*-i=i*i by grind];exact F.hi))).resolve_left s9;have cD:p∣2*ao:=by have:=MQ c1 bQ;rwa [show ao+i*ai+(ao+-i*ai)=2*ao by grind]at this
 have dq:=(F.hz _ _ cD).resolve_left F.h2;exact nh (Qt dq (r1:=d*(ak*ai*au)) (by grind))
theorem qA.plus (F:qA p d i) {ak au ai ao:Int} (h1:qB p d ak au) (h2:qB p d ai ao):¬p∣1+d*(ak*ai*(au*ao)):=λh=>
 F.complete h1 h2 (e:=-1) rfl (by rw[show d*(ak*ai*(au*ao))- -1=1+d*(ak*ai*(au*ao)) by omega];exact h)
theorem qA.minus (F:qA p d i) {ak au ai ao:Int} (h1:qB p d ak au) (h2:qB p d ai ao):¬p∣1-d*(ak*ai*(au*ao)):=λh=>
 F.complete h1 h2 (e:=1) rfl (by
  have:=x9 (-1) h
  rwa [show-1*(1-d*(ak*ai*(au*ao)))=d*(ak*ai*(au*ao))-1 by omega]at this)
theorem qA.cancel (F:qA p d i) {a x y:Int} (ha:¬p∣a) (h:p∣a*x-a*y):p∣x-y:=by
 rw[<-Int.mul_sub]at h;exact(F.hz _ _ h).resolve_left ha
theorem aGv (ak au ai ao d:Int):(au*ao+ak*ai)*(au*ao+ak*ai)*((1+d*(ak*ai*(au*ao)))*(1+d*(ak*ai*(au*ao))))-(ak*ao+au*ai)*(ak*ao+au*ai)*((1-d*(ak*ai*(au*ao)))*(1-d*(ak*ai*(au*ao))))-(1+d*(ak*ai*(au*ao)))*(1+d*(ak*ai*(au*ao)))*((1-d*(ak*ai*(au*ao)))*(1-d*(ak*ai*(au*ao))))-d*((ak*ao+au*ai)*(ak*ao+au*ai)*((au*ao+ak*ai)*(au*ao+ak*ai)))=
 (ak*ak*au*au*ai*ai*ai*ai*ao*ao*ao*ao*d*d*d-ak*ak*ai*ai*ai*ai*ao*ao*ao*ao*d*d-ak*ak*ai*ai*ai*ai*ao*ao*d+ak*ak*ai*ai*ao*ao*ao*ao*d+au*au*ai*ai*ai*ai*ao*ao*ao*ao*d*d+au*au*ai*ai*ai*ai*ao*ao*d-au*au*ai*ai*ao*ao*ao*ao*d-ai*ai*ai*ai*ao*ao*ao*ao*d*d-2*ai*ai*ai*ai*ao*ao*ao*ao*d-2*ai*ai*ai*ai*ao*ao+ai*ai*ai*ai+2*ai*ai*ao*ao*ao*ao-2*ai*ai*ao*ao*d-4*ai*ai*ao*ao+ao*ao*ao*ao)*(au*au-ak*ak-1-d*(ak*ak*(au*au)))+(ak*ak*ak*ak*ai*ai*ao*ao*d+2*ak*ak*ai*ai*ao*ao*d+2*ak*ak*ai*ai*ao*ao-ak*ak*ai*ai+ak*ak*ao*ao+au*au*au*au*ai*ai*ao*ao*d-2*au*au*ai*ai*ao*ao*d-2*au*au*ai*ai*ao*ao+au*au*ai*ai-au*au*ao*ao+ai*ai*ao*ao*d+2*ai*ai*ao*ao-ai*ai+ao*ao+1)*(ao*ao-ai*ai-1-d*(ai*ai*(ao*ao))):=by grind
theorem aGw (a b oa pb aw az d:Int):(a*a*(b*b))*(az*az-aw*aw-1-d*(aw*aw*(az*az)))=
 1*(pb*pb*(a*a)-oa*oa*(b*b)-a*a*(b*b)-d*(oa*oa*(pb*pb)))+(-((aw*a+oa)*(b*b+d*(pb*pb))))*(aw*a-oa)+((az*b+pb)*(a*a-d*((aw*a)*(aw*a))))*(az*b-pb):=by grind
theorem qA.closed (F:qA p d i) {ak au ai ao aw az:Int} (h1:qB p d ak au) (h2:qB p d ai ao) (hs:CX p d ak au ai ao aw az):qB p d aw az:=by
 have ha:=F.plus h1 h2;have hb:=F.minus h1 h2;have k1:=Af h1 h2 (aGv ak au ai ao d);have k2:=BV k1 hs.1 hs.2 (aGw _ _ _ _ aw az d);rcases F.hz _ _ k2 with h|h
 ·exfalso;rcases F.hz _ _ h with h|h<;>rcases F.hz _ _ h with h|h
  ·exact ha h
  ·exact ha h
  ·exact hb h
  ·exact hb h
 ·exact h
theorem aqj (a b oa pb qs oi aw az wu d:Int):wu*(a*b+d*(oa*pb*(aw*az)))-(oa*b*az+pb*a*aw)=
 (a*b)*(wu*(1+d*(qs*aw*(oi*az)))-(qs*az+oi*aw))+(b*az-wu*d*(aw*az)*(oi*b))*(qs*a-oa)+(a*aw-wu*d*(aw*az)*oa)*(oi*b-pb):=by grind
theorem aqk (a b oa pb qs oi aw az AL d:Int):AL*(a*b-d*(oa*pb*(aw*az)))-(pb*a*az+oa*b*aw)=
 (a*b)*(AL*(1-d*(qs*aw*(oi*az)))-(oi*az+qs*aw))+(b*aw+AL*d*(aw*az)*(oi*b))*(qs*a-oa)+(a*az+AL*d*(aw*az)*oa)*(oi*b-pb):=by grind
theorem aqg (a b oa pb qs oi aw az d:Int):(a*b+d*(oa*pb*(aw*az)))-(a*b)*(1+d*(qs*aw*(oi*az)))=(-(d*(aw*az))*(oi*b))*(qs*a-oa)+(-(d*(aw*az))*oa)*(oi*b-pb):=by grind
theorem aqh (a b oa pb qs oi aw az d:Int):(a*b-d*(oa*pb*(aw*az)))-(a*b)*(1-d*(qs*aw*(oi*az)))=((d*(aw*az))*(oi*b))*(qs*a-oa)+((d*(aw*az))*oa)*(oi*b-pb):=by grind
theorem aqi (wu rf dl N3 nl asu:Int):(dl*N3)*wu-(dl*N3)*rf=N3*(wu*dl-nl)+(-dl)*(rf*N3-asu)+1*(nl*N3-asu*dl):=by grind
theorem aGF (ak au rf tz wu d:Int):wu*(1+d*(ak*rf*(au*tz)))-(ak*tz+au*rf)=wu*(1+d*(rf*ak*(tz*au)))-(rf*au+tz*ak):=by grind
theorem aGG (ak au rf tz AL d:Int):AL*(1-d*(ak*rf*(au*tz)))-(au*tz+ak*rf)=AL*(1-d*(rf*ak*(tz*au)))-(tz*au+rf*ak):=by grind
theorem qA.IY (F:qA p d i) {a b c X:Int} (ha:¬p∣a) (hb:¬p∣b) (hc:¬p∣c) (h:p∣X-(a*b)*c):¬p∣X:=λcb=>by
 have h3:p∣a*b*c:=by have:=Int.dvd_sub cb h;rwa [show X-(X-a*b*c)=a*b*c by omega]at this
 rcases F.hz _ _ h3 with h|h
 ·rcases F.hz _ _ h with h|h
  ·exact ha h
  ·exact hb h
 ·exact hc h
theorem qA.asy (F:qA p d i) {a b:Int} (ha:¬p∣a) (hb:¬p∣b):¬p∣a*b:=λh=>(F.hz _ _ h).elim ha hb
theorem aGB (ak au n m p q:Int):ak*(n*p)+au*(m*q)=m*q*au+n*p*ak:=by grind
theorem aGC (ak au n m p q:Int):au*(n*p)+ak*(m*q)=n*p*au+m*q*ak:=by grind
theorem qA.assoc (F:qA p d i) {ak au ai ao aw az qs oi wu AL rf tz aiy aiA:Int} (h1:qB p d ak au) (h2:qB p d ai ao) (h3:qB p d aw az)
 (hd:CX p d ak au ai ao qs oi) (he:CX p d qs oi aw az wu AL) (hf:CX p d ai ao aw az rf tz) (hg:CX p d ak au rf tz aiy aiA):p∣wu-aiy/\p∣AL-aiA:=by
 have asz:=F.closed h1 h2 hd;have of:=F.closed h2 h3 hf;have av:=he.1;have aH:=he.2;have g1:=hg.1;have g2:=hg.2;rw[aGF]at g1;rw[aGG]at g2;have axA:=BV av hd.1 hd.2 (aqj _ _ _ _ qs oi aw az wu d);have axB:=BV aH hd.1 hd.2 (aqk _ _ _ _ qs oi aw az AL d);have axF:=BV g1 hf.1 hf.2 (aqj _ _ _ _ rf tz ak au aiy d);have M2:=BV g2 hf.1 hf.2 (aqk _ _ _ _ rf tz ak au aiA d);have F7:=F.plus h1 h2;have F9:=F.minus h1 h2;have yD:=F.plus h2 h3;have Ea:=F.minus h2 h3;have bh:=F.IY F7 F9 (F.plus asz h3) (Af hd.1 hd.2 (aqg _ _ _ _ qs oi aw az d));have fF:=F.IY F7 F9 (F.minus asz h3) (Af hd.1 hd.2 (aqh _ _ _ _ qs oi aw az d));have gk:=F.IY yD Ea (F.plus of h1) (Af hf.1 hf.2 (aqg _ _ _ _ rf tz ak au d));have eJ:=F.IY yD Ea (F.minus of h1) (Af hf.1 hf.2 (aqh _ _ _ _ rf tz ak au d));have aly:=BV h1 h2 h3 (ayS ak au ai ao aw az d);have alz:=BV h1 h2 h3 (ayT ak au ai ao aw az d);rw[aGB]at aly;rw[aGC]at alz;exact⟨F.cancel (F.asy bh gk) (BV axA axF aly (aqi _ _ _ _ _ _)),F.cancel (F.asy fF eJ) (BV axB M2 alz (aqi _ _ _ _ _ _))⟩
theorem qA.uniq (F:qA p d i) {ak au ai ao aw az dk oh:Int} (h1:qB p d ak au) (h2:qB p d ai ao) (hs:CX p d ak au ai ao aw az) (aB:CX p d ak au ai ao dk oh):p∣aw-dk/\p∣az-oh:=by
 refine⟨F.cancel (F.plus h1 h2) ?_,F.cancel (F.minus h1 h2) ?_⟩
 ·exact Af hs.1 aB.1 (r1:=1) (r2:=-1) (by grind)
 ·exact Af hs.2 aB.2 (r1:=1) (r2:=-1) (by grind)
end
end Go.p2
namespace Go.Fd
open Go.bX
abbrev uY (a:Int):Prop:=(aa:Int)∣a
theorem su {a b:Int}:a% aa=b% aa↔uY (a-b):=by
 rw[Int.emod_eq_emod_iff_emod_sub_eq_zero];exact⟨JH,aV7⟩
theorem sw {a:Int}:a% aa=0↔uY a:=⟨JH,aV7⟩
theorem wY {a b eE b':Int} (h:a% aa=eE% aa) (aP:b% aa=b'% aa):(a+b)% aa=(eE+b')% aa:=by rw[MR,h,aP,<-MR]
theorem Bu {a b eE b':Int} (h:a% aa=eE% aa) (aP:b% aa=b'% aa):(a-b)% aa=(eE-b')% aa:=by rw[Int.sub_emod,h,aP,<-Int.sub_emod]
theorem gf {a b eE b':Int} (h:a% aa=eE% aa) (aP:b% aa=b'% aa):a*b% aa=eE*b'% aa:=by rw[sU,h,aP,<-sU]
theorem mC {a b:Int} (h:a=b):a% aa=b% aa:=by rw[h]
theorem amT {x y:Int} (h0:0<=x) (h1:x<aa) (g0:0<=y) (g1:y<aa) (h:uY (x-y)):x=y:=by
 have:=su.2 h
 rwa [lO h0 h1,lO g0 g1]at this
theorem aAd:cJ dQ w1=0x7fffffffffffffffffffffffffffffffffffffffffffffffffffffffffffffec:=by
 rw[show dQ=((0x52036cee2b6ffe738cc740797779e89800700a4d4141d8ab75eb4dca135978a3:Nat):Int) by decide,asX _ _ (by decide)];decide+kernel
theorem se:p2.qA aa dQ AI where
 hz x y h:=by
  rcases QF (sw.2 h)with h|h
  ·exact .inl (sw.1 h)
  ·exact .inr (sw.1 h)
 h1:=by decide
 h2:=by decide
 hi:=by
  apply sw.1;have h:=aRc;rw[MR,h];decide
 hd a b h:=by
  have BI:=su.2 h;by_cases hb:b% aa=0
  ·exact sw.1 hb
  ·exfalso;have h1:cJ (b*b) w1=1:=by rw[QC,<-I6,abR];exact Fj hb
   have h2:cJ (dQ*(b*b)) w1=0x7fffffffffffffffffffffffffffffffffffffffffffffffffffffffffffffec:=by rw[QC,h1,aAd];decide
   have h3:=asY BI w1;rw[h2]at h3;by_cases ha:a% aa=0
   ·rw[QC,av4 a ha w1 (by decide)]at h3;revert h3;decide
   ·have h4:cJ (a*a) w1=1:=by rw[QC,<-I6,abR];exact Fj ha
    rw[h4]at h3;revert h3;decide
theorem QK {A:Int×Int}:on A↔((0<=A.1/\A.1<aa)/\(0<=A.2/\A.2<aa))/\p2.qB aa dQ A.1 A.2:=by
 unfold on p2.qB;rw[su,show A.2*A.2-A.1*A.1-(1+dQ*(A.1*A.1*(A.2*A.2)))=A.2*A.2-A.1*A.1-1-dQ*(A.1*A.1*(A.2*A.2)) by omega];exact⟨λh=>⟨⟨h.1,h.2.1⟩,h.2.2⟩,λh=>⟨h.1.1,h.1.2,h.2⟩⟩
theorem on.c {A:Int×Int} (h:on A):p2.qB aa dQ A.1 A.2:=(QK.1 h).2
theorem aeD {a:Int} (h:¬uY a):a*lR a% aa=1:=inv_mul λh0=>h (sw.1 h0)
theorem as0 {a n:Int} (h:¬uY a):uY (n*lR a% aa*a-n):=by
 apply su.1;rw[sI,show n*lR a*a=n*(a*lR a) by rw[CD,kL (lR a)],<-xp,aeD h,X6]
theorem Bf {A B:Int×Int} (aV:on A) (da:on B):p2.CX aa dQ A.1 A.2 B.1 B.2 (fO A B).1 (fO A B).2:=
 ⟨as0 (se.plus aV.c da.c),as0 (se.minus aV.c da.c)⟩
theorem ayA (A B:Int×Int):(0<=(fO A B).1/\(fO A B).1<aa)/\(0<=(fO A B).2/\(fO A B).2<aa):=⟨yy _,yy _⟩
theorem wO {A B:Int×Int} (aV:on A) (da:on B):on (fO A B):=QK.2 ⟨ayA A B,se.closed aV.c da.c (Bf aV da)⟩
theorem Ww {A B:Int×Int} (aV:on A) (da:on B) (h1:uY (A.1-B.1)) (h2:uY (A.2-B.2)):A=B:=
 Sd (amT aV.1.1 aV.1.2 da.1.1 da.1.2 h1) (amT aV.2.1.1 aV.2.1.2 da.2.1.1 da.2.1.2 h2)
theorem aaK {A B C:Int×Int} (aV:on A) (da:on B) (kc:on C) (h:p2.CX aa dQ A.1 A.2 B.1 B.2 C.1 C.2):fO A B=C:=
 have:=se.uniq aV.c da.c (Bf aV da) h
 Ww (wO aV da) kc this.1 this.2
theorem alh {A B C:Int×Int} (aV:on A) (da:on B) (kc:on C):fO (fO A B) C=fO A (fO B C):=by
 have h:=se.assoc aV.c da.c kc.c (Bf aV da) (Bf (wO aV da) kc) (Bf da kc) (Bf aV (wO da kc));exact Ww (wO (wO aV da) kc) (wO aV (wO da kc)) h.1 h.2
theorem ali (A B:Int×Int):fO A B=fO B A:=by
 unfold fO;rw[show A.1*B.2+A.2*B.1=B.1*A.2+B.2*A.1 by rw[kL A.1,kL A.2,Int.add_comm],show A.1*B.1*(A.2*B.2)=B.1*A.1*(B.2*A.2) by rw[kL A.1,kL A.2],show A.2*B.2+A.1*B.1=B.2*A.2+B.1*A.1 by rw[kL A.1,kL A.2]]
theorem Sb:on om:=by unfold on om;decide
theorem m8:on kn:=by unfold on kn;decide+kernel
theorem aaL {A:Int×Int} (aV:on A):fO A om=A:=by
 refine aaK aV Sb aV ⟨?_,?_⟩
 ·exact⟨0,by simp[om]⟩
 ·exact⟨0,by simp[om]⟩
theorem av3 {A:Int×Int} (aV:on A):fO om A=A:=by rw[ali];exact aaL aV
theorem F4 (x:Int):uY ((0-x)% aa+x):=by
 have:=su.1 (show(0-x)% aa% aa=(0-x)% aa from xR _ _)
 rwa [show(0-x)% aa-(0-x)=(0-x)% aa+x by omega]at this
theorem aGA (d u x y:Int):y*y-u*u-1-d*(u*u*(y*y))=1*(y*y-x*x-1-d*(x*x*(y*y)))+(-((u-x)*(1+d*(y*y))))*(u+x):=by grind
theorem F3 {A:Int×Int} (aV:on A):on (rU A):=
 QK.2 ⟨⟨yy _,aV.2.1⟩,p2.Af aV.c (F4 A.1) (aGA dQ _ A.1 A.2)⟩
theorem aGy (d u x y:Int):0*(1+d*(x*u*(y*y)))-(x*y+y*u)=(-y)*(u+x):=by grind
theorem aGz (d u x y:Int):1*(1-d*(x*u*(y*y)))-(y*y+x*u)=(-(d*(x*(y*y))+x))*(u+x)+(-1)*(y*y-x*x-1-d*(x*x*(y*y))):=by grind
theorem ayz {A:Int×Int} (aV:on A):fO A (rU A)=om:=
 aaK aV (F3 aV) Sb ⟨p2.Qt (F4 A.1) (aGy dQ _ A.1 A.2),p2.Af (F4 A.1) aV.c (aGz dQ _ A.1 A.2)⟩
theorem aGD (d ak au ai ao aw u v w:Int):w*(1+d*(u*v*(au*ao)))-(u*ao+au*v)=(-1)*(aw*(1+d*(ak*ai*(au*ao)))-(ak*ao+au*ai))+(-(aw*d*(au*ao)*v)-ao)*(u+ak)+(aw*d*(au*ao)*ak-au)*(v+ai)+(1+d*(u*v*(au*ao)))*(w+aw):=by grind
theorem aGE (d ak au ai ao az u v:Int):az*(1-d*(u*v*(au*ao)))-(au*ao+u*v)=1*(az*(1-d*(ak*ai*(au*ao)))-(au*ao+ak*ai))+(-(az*d*(au*ao)+1)*v)*(u+ak)+((az*d*(au*ao)+1)*ak)*(v+ai):=by grind
theorem neg_add {A B:Int×Int} (aV:on A) (da:on B):fO (rU A) (rU B)=rU (fO A B):=by
 have h:=Bf aV da;refine aaK (F3 aV) (F3 da) (F3 (wO aV da)) ⟨?_,?_⟩
 ·exact p2.ars h.1 (F4 A.1) (F4 B.1) (F4 (fO A B).1) (aGD dQ A.1 A.2 B.1 B.2 (fO A B).1 _ _ _)
 ·exact p2.BV h.2 (F4 A.1) (F4 B.1) (aGE dQ A.1 A.2 B.1 B.2 (fO A B).2 _ _)
theorem neg_zero:rU om=om:=by decide
theorem j1 {A:Int×Int} (aV:on A):∀n,on (eK n A)
 |0=>Sb
 |n+1=>wO (j1 aV n) aV
theorem FZ (n:Nat) (A:Int×Int):eK (n+1) A=fO (eK n A) A:=rfl
theorem QB {A:Int×Int} (aV:on A) (m:Nat):∀n,eK (m+n) A=fO (eK m A) (eK n A)
 |0=>(aaL (j1 aV m)).symm
 |n+1=>by rw[<-Nat.add_assoc,FZ,QB aV m n,FZ,alh (j1 aV m) (j1 aV n) aV]
theorem af5 {A:Int×Int} (aV:on A) (n:Nat):eK (2*n) A=fO (eK n A) (eK n A):=by rw[Nat.two_mul,QB aV]
theorem asd:∀n,eK n om=om
 |0=>rfl
 |n+1=>by rw[FZ,asd n,aaL Sb]
theorem af6 {A:Int×Int} (aV:on A) (m:Nat):∀n,eK n (eK m A)=eK (m*n) A
 |0=>by rw[Nat.mul_zero];rfl
 |n+1=>by rw[FZ,af6 aV m n,Nat.mul_succ,QB aV]
theorem asc {A:Int×Int} (aV:on A):∀n,eK n (rU A)=rU (eK n A)
 |0=>neg_zero.symm
 |n+1=>by rw[FZ,asc aV n,FZ,neg_add (j1 aV n) aV]
theorem i1 (a b c d z w:Int):(b*z+a*z)*(d*w+c*w)-(b*z-a*z)*(d*w-c*w)=2*(z*w)*(a*d+b*c):=by grind
theorem i2 (a b c d z w:Int):(b*z+a*z)*(d*w+c*w)+(b*z-a*z)*(d*w-c*w)=2*(z*w)*(b*d+a*c):=by grind
theorem i3 (a b c d z w k:Int):(z*w+z*w)-(a*b*z)*(c*d*w)*(2*k)=2*(z*w)*(1-k*(a*c*(b*d))):=by grind
theorem i4 (a b c d z w k:Int):(z*w+z*w)+(a*b*z)*(c*d*w)*(2*k)=2*(z*w)*(1+k*(a*c*(b*d))):=by grind
theorem dN (a b z:Int):(a*z)*(a*z)+(b*z)*(b*z)=z*z*(b*b+a*a):=by grind
theorem nY (a b z:Int):z*z*(b*b+a*a)-(a*z+b*z)*(a*z+b*z)=(-1)*(z*z)*(a*b+b*a):=by grind
theorem o6 (a b z:Int):(a*z)*(a*z)-(b*z)*(b*z)=(-1)*(z*z)*(b*b-a*a):=by grind
theorem td (a b z k:Int):(z*z+z*z)+(-1)*(z*z)*(1+k*(a*a*(b*b)))=z*z*(1-k*(a*a*(b*b))):=by grind
theorem l1 (a b c d z k:Int):z*z-k*(a*c*z*(b*d*z))=z*z*(1-k*(a*c*(b*d))):=by grind
theorem l2 (a b c d z k:Int):z*z+k*(a*c*z*(b*d*z))=z*z*(1+k*(a*c*(b*d))):=by grind
theorem n7 (a b c d z:Int):a*d*z+b*c*z=z*(a*d+b*c):=by grind
theorem xn (a b c d z:Int):b*d*z+a*c*z=z*(b*d+a*c):=by grind
theorem gk (x y d w:Int):x*x-(y*y-1)*w=(-w)*(y*y-x*x-1-d*(x*x*(y*y)))+(-(x*x))*((d*(y*y)+1)*w-1):=by grind
theorem eJ (x y d w:Int):y*y-x*x-1-d*(x*x*(y*y))=(-(d*(y*y)+1))*(x*x-(y*y-1)*w)+(1-y*y)*((d*(y*y)+1)*w-1):=by grind
theorem ur (x p:Int):(p-x)*(p-x)-x*x=p*(p-2*x):=by grind
theorem BW (x y:Int):y*x-y*1=(-1)*(y-x*y):=by grind
theorem DZ {a b:Int} (h:a% aa=b% aa) (hb:b% aa≠0):a% aa≠0:=by rw[h];exact hb
theorem uu {a b:Int} (ha:a% aa≠0) (hb:b% aa≠0):a*b% aa≠0:=λh=>(QF h).elim ha hb
theorem as7 {e f g h x y z t:Int} {A:Int×Int} (hf:f% aa≠0) (hg:g% aa≠0) (he:e% aa=A.1*g% aa) (ah:h% aa=A.2*f% aa)
 (hx:x% aa=e*f% aa) (hy:y% aa=g*h% aa) (hz:z% aa=f*g% aa) (aB:t% aa=e*h% aa):m5 x y z t A:=by
 refine⟨DZ hz (uu hf hg),?_,?_,?_⟩
 ·refine hx.trans ((gf he rfl).trans ((mC ?_).trans (gf rfl hz).symm));ac_rfl
 ·refine hy.trans ((gf rfl ah).trans ((mC ?_).trans (gf rfl hz).symm));ac_rfl
 ·refine aB.trans ((gf he ah).trans ((mC ?_).trans (gf rfl hz).symm));ac_rfl
theorem aPv {A B:Int×Int} (aV:on A) (da:on B) {ak au ar t1 ai ao z2 t2 a b c d e f g h x y z t kY rb v1 v2 JD auA ab1:Int}
 (r1:m5 ak au ar t1 A) (r2:m5 ai ao z2 t2 B)
 (aQ:kY% aa=(au-ak)% aa) (bn:rb% aa=(ao-ai)% aa) (yD:a% aa=kY*rb% aa) (cj:v1% aa=(au+ak)% aa) (dU:v2% aa=(ao+ai)% aa) (Ea:b% aa=v1*v2% aa)
 (jv:JD% aa=t1*t2% aa) (lK:auA% aa=2*dQ% aa) (Ro:c% aa=JD*auA% aa) (nz:ab1% aa=ar*z2% aa) (ag2:d% aa=(ab1+ab1)% aa)
 (pe:e% aa=(b-a)% aa) (Rp:f% aa=(d-c)% aa) (Rq:g% aa=(d+c)% aa) (ag3:h% aa=(b+a)% aa)
 (hx:x% aa=e*f% aa) (hy:y% aa=g*h% aa) (hz:z% aa=f*g% aa) (aB:t% aa=e*h% aa):m5 x y z t (fO A B):=by
 obtain⟨bh,bR,a2,a3⟩:=r1;obtain⟨fF,b4,cg,dh⟩:=r2;have hs:=Bf aV da;have k1:=mt sw.1 (se.plus aV.c da.c);have k2:=mt sw.1 (se.minus aV.c da.c);generalize cb:(fO A B).1=X at hs;generalize hY:(fO A B).2=Y at hs;have jn:2*(ar*z2)% aa≠0:=uu (by decide) (uu bh fF);have F7:a% aa=((A.2*ar-A.1*ar)*(B.2*z2-B.1*z2))% aa:=yD.trans (gf (aQ.trans (Bu a2 bR)) (bn.trans (Bu cg b4)));have F9:b% aa=((A.2*ar+A.1*ar)*(B.2*z2+B.1*z2))% aa:=Ea.trans (gf (cj.trans (wY a2 bR)) (dU.trans (wY cg b4)));have I0:c% aa=((A.1*A.2*ar)*(B.1*B.2*z2)*(2*dQ))% aa:=Ro.trans (gf (jv.trans (gf a3 dh)) lK);have QN:d% aa=(ar*z2+ar*z2)% aa:=ag2.trans (wY nz nz);have Gc:e% aa=(2*(ar*z2)*(A.1*B.2+A.2*B.1))% aa:=(pe.trans (Bu F9 F7)).trans (mC (i1 A.1 A.2 B.1 B.2 ar z2));have Ws:h% aa=(2*(ar*z2)*(A.2*B.2+A.1*B.1))% aa:=(ag3.trans (wY F9 F7)).trans (mC (i2 A.1 A.2 B.1 B.2 ar z2));have Gd:f% aa=(2*(ar*z2)*(1-dQ*(A.1*B.1*(A.2*B.2))))% aa:=(Rp.trans (Bu QN I0)).trans (mC (i3 A.1 A.2 B.1 B.2 ar z2 dQ));have D5:g% aa=(2*(ar*z2)*(1+dQ*(A.1*B.1*(A.2*B.2))))% aa:=(Rq.trans (wY QN I0)).trans (mC (i4 A.1 A.2 B.1 B.2 ar z2 dQ));have s1:X*(1+dQ*(A.1*B.1*(A.2*B.2)))% aa=(A.1*B.2+A.2*B.1)% aa:=su.2 hs.1;have s2:Y*(1-dQ*(A.1*B.1*(A.2*B.2)))% aa=(A.2*B.2+A.1*B.1)% aa:=su.2 hs.2;refine as7 (A:=fO A B) (DZ Gd (uu jn k2)) (DZ D5 (uu jn k1)) ?_ ?_ hx hy hz aB
 ·rw[cb];refine Gc.trans ((gf rfl s1).symm.trans ((mC ?_).trans (gf rfl D5).symm));ac_rfl
 ·rw[hY];refine Ws.trans ((gf rfl s2).symm.trans ((mC ?_).trans (gf rfl Gd).symm));ac_rfl
theorem aPs {A:Int×Int} (aV:on A) {ak au ar a b dK c h aL s e g f x y z t:Int} (r1:l6 ak au ar A)
 (yD:a% aa=ak*ak% aa) (Ea:b% aa=au*au% aa) (eu:dK% aa=ar*ar% aa) (Ro:c% aa=(dK+dK)% aa) (ag3:h% aa=(a+b)% aa) (aQ:aL% aa=(ak+au)% aa) (L9:s% aa=aL*aL% aa) (pe:e% aa=(h-s)% aa) (Rq:g% aa=(a-b)% aa) (Rp:f% aa=(c+g)% aa)
 (hx:x% aa=e*f% aa) (hy:y% aa=g*h% aa) (hz:z% aa=f*g% aa) (aB:t% aa=e*h% aa):m5 x y z t (fO A A):=by
 obtain⟨bh,bR,a2⟩:=r1;have hs:=Bf aV aV;have k1:=mt sw.1 (se.plus aV.c aV.c);have k2:=mt sw.1 (se.minus aV.c aV.c);have hc:=aV.2.2;generalize cb:(fO A A).1=X at hs;generalize hY:(fO A A).2=Y at hs;have jn:ar*ar% aa≠0:=uu bh bh;have aGi:(-1)*(ar*ar)% aa≠0:=uu (by decide) jn;have F7:a% aa=((A.1*ar)*(A.1*ar))% aa:=yD.trans (gf bR bR);have F9:b% aa=((A.2*ar)*(A.2*ar))% aa:=Ea.trans (gf a2 a2);have I0:c% aa=(ar*ar+ar*ar)% aa:=Ro.trans (wY eu eu);have Ws:h% aa=(ar*ar*(A.2*A.2+A.1*A.1))% aa:=(ag3.trans (wY F7 F9)).trans (mC (dN A.1 A.2 ar));have p0:aL% aa=(A.1*ar+A.2*ar)% aa:=aQ.trans (wY bR a2);have lx:=L9.trans (gf p0 p0);have Gc:e% aa=((-1)*(ar*ar)*(A.1*A.2+A.2*A.1))% aa:=(pe.trans (Bu Ws lx)).trans (mC (nY A.1 A.2 ar));have aN4:g% aa=((-1)*(ar*ar)*(A.2*A.2-A.1*A.1))% aa:=(Rq.trans (Bu F7 F9)).trans (mC (o6 A.1 A.2 ar));have D5:g% aa=((-1)*(ar*ar)*(1+dQ*(A.1*A.1*(A.2*A.2))))% aa:=aN4.trans (gf rfl hc);have Gd:f% aa=(ar*ar*(1-dQ*(A.1*A.1*(A.2*A.2))))% aa:=(Rp.trans (wY I0 D5)).trans (mC (td A.1 A.2 ar dQ));have s1:X*(1+dQ*(A.1*A.1*(A.2*A.2)))% aa=(A.1*A.2+A.2*A.1)% aa:=su.2 hs.1;have s2:Y*(1-dQ*(A.1*A.1*(A.2*A.2)))% aa=(A.2*A.2+A.1*A.1)% aa:=su.2 hs.2;refine as7 (A:=fO A A) (DZ Gd (uu jn k2)) (DZ D5 (uu aGi k1)) ?_ ?_ hx hy hz aB
 ·rw[cb];refine Gc.trans ((gf rfl s1).symm.trans ((mC ?_).trans (gf rfl D5).symm));ac_rfl
 ·rw[hY];refine Ws.trans ((gf rfl s2).symm.trans ((mC ?_).trans (gf rfl Gd).symm));ac_rfl
theorem as9 {A B:Int×Int} (aV:on A) (da:on B) {ak au ar ai ao z2 a b c d cv e f g gk eJ abP both u v x y z:Int} (r1:l6 ak au ar A) (r2:l6 ai ao z2 B)
 (yD:a% aa=ar*z2% aa) (Ea:b% aa=a*a% aa) (Ro:c% aa=ak*ai% aa) (ag2:d% aa=au*ao% aa) (eu:cv% aa=c*d% aa) (pe:e% aa=dQ*cv% aa) (Rp:f% aa=(b-e)% aa) (Rq:g% aa=(b+e)% aa)
 (aQ:gk% aa=ak*ao% aa) (bn:eJ% aa=au*ai% aa) (aPf:abP% aa=(gk+eJ)% aa) (aPg:both% aa=(d+c)% aa) (cj:u% aa=a*f% aa) (hx:x% aa=u*abP% aa) (dU:v% aa=a*g% aa) (hy:y% aa=v*both% aa) (hz:z% aa=f*g% aa):l6 x y z (fO A B):=by
 obtain⟨bh,bR,a2⟩:=r1;obtain⟨fF,b4,cg⟩:=r2;have hs:=Bf aV da;have k1:=mt sw.1 (se.plus aV.c da.c);have k2:=mt sw.1 (se.minus aV.c da.c);have V4:a% aa≠0:=DZ yD (uu bh fF);generalize cb:(fO A B).1=X at hs;generalize hY:(fO A B).2=Y at hs;have I0:c% aa=(A.1*B.1*a)% aa:=(Ro.trans (gf bR b4)).trans ((mC (by ac_rfl)).trans (gf rfl yD.symm));have QN:d% aa=(A.2*B.2*a)% aa:=(ag2.trans (gf a2 cg)).trans ((mC (by ac_rfl)).trans (gf rfl yD.symm));have aON:gk% aa=(A.1*B.2*a)% aa:=(aQ.trans (gf bR cg)).trans ((mC (by ac_rfl)).trans (gf rfl yD.symm));have aOO:eJ% aa=(A.2*B.1*a)% aa:=(bn.trans (gf a2 b4)).trans ((mC (by ac_rfl)).trans (gf rfl yD.symm));have Gc:e% aa=(dQ*(A.1*B.1*a*(A.2*B.2*a)))% aa:=pe.trans (gf rfl (eu.trans (gf I0 QN)));have Gd:f% aa=(a*a*(1-dQ*(A.1*B.1*(A.2*B.2))))% aa:=(Rp.trans (Bu Ea Gc)).trans (mC (l1 A.1 A.2 B.1 B.2 a dQ));have D5:g% aa=(a*a*(1+dQ*(A.1*B.1*(A.2*B.2))))% aa:=(Rq.trans (wY Ea Gc)).trans (mC (l2 A.1 A.2 B.1 B.2 a dQ));have D6:abP% aa=(a*(A.1*B.2+A.2*B.1))% aa:=(aPf.trans (wY aON aOO)).trans (mC (n7 A.1 A.2 B.1 B.2 a));have D7:both% aa=(a*(A.2*B.2+A.1*B.1))% aa:=(aPg.trans (wY QN I0)).trans (mC (xn A.1 A.2 B.1 B.2 a));have s1:X*(1+dQ*(A.1*B.1*(A.2*B.2)))% aa=(A.1*B.2+A.2*B.1)% aa:=su.2 hs.1;have s2:Y*(1-dQ*(A.1*B.1*(A.2*B.2)))% aa=(A.2*B.2+A.1*B.1)% aa:=su.2 hs.2;refine⟨DZ hz (uu (DZ Gd (uu (uu V4 V4) k2)) (DZ D5 (uu (uu V4 V4) k1))),?_,?_⟩
 ·rw[cb];refine hx.trans ((gf cj (D6.trans (gf rfl s1.symm))).trans (((mC ?_).trans (gf rfl (gf rfl D5.symm))).trans (gf rfl hz).symm));ac_rfl
 ·rw[hY];refine hy.trans ((gf dU (D7.trans (gf rfl s2.symm))).trans (((mC ?_).trans (gf rfl (gf Gd.symm rfl))).trans (gf rfl hz).symm));ac_rfl
theorem m5.j {x y z t:Int} {A:Int×Int} (h:m5 x y z t A):l6 x y z A:=⟨h.1,h.2.1,h.2.2.1⟩
theorem Mk {x y z:Int} {A:Int×Int} (aV:on A) (h:l6 x y z A):Bz x y z=enc A:=by
 obtain⟨n,h1,h2⟩:=h;have hi:=aeD (mt sw.2 n);have key:∀u v:Int,u% aa=v*z% aa->0<=v->v<aa->u*lR z% aa=v:=λu v hu h0 h1=>by
  have:u*lR z% aa=v*z*lR z% aa:=gf hu rfl;rw[this,CD,<-xp,hi,X6,lO h0 h1]
 unfold Bz enc;rw[key x A.1 h1 aV.1.1 aV.1.2,key y A.2 h2 aV.2.1.1 aV.2.1.2]
theorem aAM (y:Int):¬uY (dQ*(y*y)+1):=λh=>by
 have h1:uY (AI*AI-dQ*(y*y)):=by
  have h2:=Int.dvd_sub se.hi h
  rwa [show AI*AI+1-(dQ*(y*y)+1)=AI*AI-dQ*(y*y) by omega]at h2
 have h3:=se.hd _ _ h1;have h4:uY (dQ*(y*y)):=p2.Qt h3 (r1:=dQ*y) (by rw[CD]);have h5:=Int.dvd_sub h h4;rw[show dQ*(y*y)+1-dQ*(y*y)=1 by omega]at h5;exact se.h1 h5
theorem ags {x y:Int}:p2.qB aa dQ x y↔x*x% aa=(y*y-1)*lR (dQ*(y*y)+1)% aa:=by
 have hi:=aeD (aAM y);generalize lR (dQ*(y*y)+1)=w at hi⊢;have hw:=su.1 (hi.trans (show(1:Int)=1% aa by decide));rw[su];unfold p2.qB;constructor
 ·intro h;exact p2.Af h hw (gk x y dQ w)
 ·intro h;exact p2.Af h hw (eJ x y dQ w)
theorem aBk {A:Int×Int} (aV:on A):0<=enc A/\enc A<2*fl/\enc A% fl=A.2/\enc A/fl=A.1% 2:=by
 have h1:=aV.2.1;unfold enc fl;have h2:=sV A.1 (show(2:Int)≠0 by decide);have h3:=ri A.1 (show(0:Int)<2 by decide);generalize A.1% 2=o at h2 h3;generalize A.2=y at h1;clear aV;refine⟨by(unfold aa at*;omega),by(unfold aa at*;omega),?_,?_⟩
 ·rw[xQ,lO h1.1 (by(unfold aa at*;omega))]
 ·rw[Int.add_mul_ediv_left _ _ (by decide),Int.ediv_eq_zero_of_lt h1.1 (by(unfold aa at*;omega)),Int.zero_add]
theorem aAH {A:Int×Int} (aV:on A):dec (enc A)=some A:=by
 obtain⟨_,_,av,aH⟩:=aBk aV;unfold dec;simp only[av,aH];rw[if_pos aV.2.1.2];have hr:=ags.1 aV.c;generalize (A.2*A.2-1)*lR (dQ*(A.2*A.2)+1)=q at hr;obtain⟨r,hs,qO⟩:=aRd hr;rw[hs];simp only;rw[if_neg (by decide)];have hx:=aV.1;by_cases aA:A.1% 2=1
 ·rw[if_pos aA];have hz:0<A.1:=by clear hr hs qO av aH;omega
  have hn:r=aa-A.1:=by
   refine atg qO ⟨by clear hr hs qO av aH;(unfold aa at*;omega),by clear hr hs qO av aH;(unfold aa at*;omega),by clear hr hs qO av aH;(unfold aa at*;omega),?_⟩;rw[<-hr,su];exact⟨aa-2*A.1,ur A.1 aa⟩
  rw[if_neg (by rw[hn];clear hr hs qO av aH;omega),V7 (by rw[hn];clear hr hs qO av aH;omega) qO.2.1,hn]
  congr 1
  exact Sd (by simp only;omega) rfl
 ·rw[if_neg aA];have hn:r=A.1:=atg qO ⟨hx.1,hx.2,by clear hr hs qO av aH;omega,hr⟩;rw[hn]
theorem N2 {b:Int} {A:Int×Int} (h:dec b=some A):on A:=by
 unfold dec at h;simp only at h;have Py:0<=b% fl:=sV _ (by decide);generalize b% fl=y at h Py;by_cases h1:y<aa
 ·rw[if_pos h1]at h;rcases at5 (yy ((y*y-1)*lR (dQ*(y*y)+1))).1 (yy ((y*y-1)*lR (dQ*(y*y)+1))).2 with⟨r,hs,qO⟩|⟨hs,_⟩
  ·rw[hs]at h;simp only at h;rw[if_neg (by decide)]at h;by_cases h2:b/fl=1
   ·rw[if_pos h2]at h;by_cases h3:r=0
    ·rw[if_pos h3]at h;cases h
    ·rw[if_neg h3]at h;cases h;refine QK.2 ⟨⟨yy _,Py,h1⟩,ags.2 ?_⟩;rw[sI,xp,aso];exact qO.2.2.2
   ·rw[if_neg h2]at h;cases h;exact QK.2 ⟨⟨⟨qO.1,qO.2.1⟩,Py,h1⟩,ags.2 qO.2.2.2⟩
  ·rw[hs]at h;simp at h
 ·rw[if_neg h1]at h;cases h
def ah2 (p q:Int×Int×Int):Int×Int×Int:=
 let a:=p.2.2*q.2.2% aa;let b:=a*a% aa;let c:=p.1*q.1% aa;let d:=p.2.1*q.2.1% aa;let e:=dQ*(c*d% aa)% aa;let f:=(b-e)% aa;let g:=(b+e)% aa
 (a*f% aa*((p.1*q.2.1% aa+p.2.1*q.1% aa)% aa)% aa,a*g% aa*((d+c)% aa)% aa,f*g% aa)
def af3:Nat->Nat->Int×Int×Int->Int×Int×Int
 |0,_,_=>(0,1,1)
 |f+1,n,p=>let h:=af3 f (n/2) p
           let d:=ah2 h h
           cond (n% 2==1) (ah2 d p) d
abbrev CV (p:Int×Int×Int) (A:Int×Int):Prop:=l6 p.1 p.2.1 p.2.2 A
theorem bK (a:Int):a% aa% aa=a% aa:=xR _ _
theorem auj {p q:Int×Int×Int} {A B:Int×Int} (aV:on A) (da:on B) (hp:CV p A) (an:CV q B):CV (ah2 p q) (fO A B):=
 as9 aV da hp an (bK _) (bK _) (bK _) (bK _) (bK _) (bK _) (bK _) (bK _) (bK _) (bK _) (bK _) (bK _) (bK _) (bK _) (bK _) (bK _) (bK _)
theorem av5:CV (0,1,1) om:=by
 show l6 0 1 1 om;unfold l6 om;decide
theorem V1 {p:Int×Int×Int} {A:Int×Int} (aV:on A) (hp:CV p A):∀(f n:Nat),n<2^f->CV (af3 f n p) (eK n A)
 |0,n,h=>by
  have:n=0:=by simp at h;exact h
  subst this;exact av5
 |f+1,n,h=>by
  have ih:=V1 aV hp f (n/2) (by rw[y1]at h;omega);have h2:=auj (j1 aV _) (j1 aV _) ih ih;rw[<-af5 aV]at h2;unfold af3;simp only;cases hc:(n% 2==1)with
  |true=>
   have:n% 2=1:=by simpa using hc
   have e:n=2*(n/2)+1:=by omega
   simp only[cond_true]
   conv=>rhs;rw[e,FZ]
   exact auj (j1 aV _) aV h2 hp
  |false=>
   have:¬n% 2=1:=by simpa using hc
   have e:n=2*(n/2):=by omega
   simp only[cond_false]
   conv=>rhs;rw[e]
   exact h2
theorem Wh {A:Int×Int}:CV (A.1,A.2,1) A:=⟨(show(1:Int)% aa≠0 by decide),by simp,by simp⟩
theorem aPt {p:Int×Int×Int} {A:Int×Int} (aV:on A) (h:CV p A) (hx:p.1% aa=0) (hy:p.2.1% aa=p.2.2% aa):A=om:=by
 obtain⟨n,h1,h2⟩:=h;rw[hx]at h1;have k1:A.1% aa=0:=(QF h1.symm).resolve_right n;have k2:uY (A.2-1):=by
  have:=su.1 (hy.symm.trans h2);have h3:uY (p.2.2*A.2-p.2.2*1):=p2.Qt this (BW A.2 p.2.2);exact se.cancel (mt sw.2 n) h3
 exact Ww aV Sb (by have:=sw.1 k1;rwa [show om.1=0 by rfl,Int.sub_zero]) k2
theorem ay5:eK dG kn=om:=by
 have h:=V1 m8 Wh 253 dG (by decide);exact aPt (j1 m8 _) h (by decide+kernel) (by decide+kernel)
theorem ay4 (n:Nat):eK (n% dG) kn=eK n kn:=by
 have e:eK n kn=fO (eK (dG*(n/dG)) kn) (eK (n% dG) kn):=by rw[<-QB m8,Nat.div_add_mod]
 rw[<-af6 m8,ay5,asd,av3 (j1 m8 _)]at e;exact e.symm
end Go.Fd
set_option maxRecDepth 20000
namespace Go.Fd
open Go.bX
theorem auq {l:List Int} (hl:ay (aT 0 255 32) l):(nb l).toNat/2^(255+1:Int).toNat=0:=by
 have h:=aga hl;have e:(255+1:Int).toNat=256:=by decide
 rw[e];apply aiZ;have:((nb l).toNat:Int)<2^256:=by rw[Sc h.1];exact h.2
 exact_mod_cast this
theorem aV5 {x y z t:List Int} (h:ahv [] [x,y,z,t]):m5 (v5 x) (v5 y) (v5 z) (v5 t) om:=by
 obtain⟨h1,h2,h3,h4⟩:=h;refine⟨by rw[h3];decide,?_,?_,?_⟩
 ·rw[h1,show om.1=0 by rfl,X5];rfl
 ·rw[h2,show om.2=1 by rfl,wJ,h3]
 ·rw[h4,show om.1*om.2=0 by rfl,X5];rfl
theorem aQo {x y z:List Int} (h:ahy [] [x,y,z]):l6 (ad x) (ad y) (ad z) om:=by
 obtain⟨h1,h2,h3⟩:=h;rw[h1,h2,h3];exact av5
theorem aba {x y z t:List Int} (h:RN [] [x,y,z,t]):m5 (v5 x) (v5 y) (v5 z) (v5 t) kn:=by
 obtain⟨h1,h2,h3,h4⟩:=h;have k:∀a:Int,a*v5 z% aa=a% aa:=λa=>by rw[<-xp,h3,X6]
 refine⟨by rw[h3];decide,?_,?_,?_⟩
 ·rw[k,h1];decide
 ·rw[k,h2];decide
 ·rw[k,h4]
theorem aBs {x y z:List Int} (h:ahx [] [x,y,z]):l6 (ad x) (ad y) (ad z) kn:=by
 obtain⟨h1,h2,h3⟩:=h;rw[h1,h2,h3];exact Wh (A:=kn)
theorem S8 {l:List Int} {i:Nat} {q x fG y h:Int} (hl:ay (aT 0 255 32) l) (hi:(i:Int)<=255) (c:0<=(i:Int)-8*q) (d:(i:Int)-8*q<8) (e:x=l.getD q.toNat 0)
 (ek:0<=(i:Int)-8*fG) (tQ:(i:Int)-8*fG<8) (c8:y=x/2^((i:Int)+(-8)*fG).toNat) (bQ:0<=y-2*h) (d2:y-2*h<2):y+(-2)*h=(((nb l).toNat/2^i% 2:Nat):Int):=by
 have hb:=agf 8 (n:=32) (l:=l) i hl (by omega);have h0:=(aga hl).1;have aQ:q.toNat=i/8:=by omega
 have bn:((i:Int)+(-8)*fG).toNat=i% 8:=by omega
 rw[aQ]at e;rw[bn]at c8;have ca:(((nb l).toNat/2^i% 2:Nat):Int)=nb l/2^i% 2:=by
  have:((nb l).toNat:Int)=nb l:=Sc h0;rw[X7,Int.natCast_ediv,this];simp
 rw[ca];have hb:nb l/2^i% 2=l.getD (i/8) 0/2^(i% 8)% 2:=hb;rw[hb,<-e,<-c8];omega
theorem asb {A:Int×Int} (aV:on A) {N i:Nat} (h:N/2^i% 2=1):eK (N/2^i) A=fO (fO (eK (N/2^(i+1)) A) (eK (N/2^(i+1)) A)) A:=by
 rw[V5 N i,h,FZ,af5 aV]
theorem asa {A:Int×Int} (aV:on A) {N i:Nat} (h:N/2^i% 2≠1):eK (N/2^i) A=fO (eK (N/2^(i+1)) A) (eK (N/2^(i+1)) A):=by
 have h0:N/2^i% 2=0:=by omega
 rw[V5 N i,h0,m3,af5 aV]
theorem auk {a b c d:List Int} {lo hi VW qN aIe aEP aIf O5:Int} (ha:ay (aT lo hi 5) a) (hb:ay (aT VW qN 5) b) (hc:ay (aT aIe aEP 5) c) (hd:ay (aT aIf O5 5) d):[a,b,c,d].flatten.take 15=[a,b,c].flatten:=by
 have l1:=afM ha;have l2:=afM hb;have n7:=afM hc;rw[show [a,b,c,d].flatten=[a,b,c].flatten++d by simp];exact X8 (by simp[l1,l2,n7])
theorem aBu {a b c d e f g h:List Int}:[a,b,c,d,e,f,g,h].flatten=[a,b,c,d].flatten++[e,f,g,h].flatten:=by simp
theorem acz {a b c d e f:List Int}:[a,b,c,d,e,f].flatten=[a,b,c].flatten++[d,e,f].flatten:=by simp
theorem aLJ:∀x:Nat,x<128->br .or .u8 (x:Int) 128=(x:Int)+128:=by decide
theorem aLI {x:Int} (h0:0<=x) (h1:x<128):br .or .u8 x 128=x+128:=by
 obtain⟨n,rfl⟩:=mr h0;exact aLJ n (by omega)
theorem aqu {l:List Int} {w:Int} (h:ay (aT 0 255 32) l) (h0:0<=w) (h1:w<=255):ay (aX [gK]) [[l.getD 0 0,l.getD 1 0,l.getD 2 0,l.getD 3 0,l.getD 4 0,l.getD 5 0,l.getD 6 0,l.getD 7 0,l.getD 8 0,l.getD 9 0,l.getD 10 0,l.getD 11 0,l.getD 12 0,l.getD 13 0,l.getD 14 0,l.getD 15 0,l.getD 16 0,l.getD 17 0,l.getD 18 0,l.getD 19 0,l.getD 20 0,l.getD 21 0,l.getD 22 0,l.getD 23 0,l.getD 24 0,l.getD 25 0,l.getD 26 0,l.getD 27 0,l.getD 28 0,l.getD 29 0,l.getD 30 0,w]].flatten:=by
 obtain⟨dp,ak,ai,aw,dk,jz,jR,lW,mW,mX,nE,ik,ki,mP,vV,vW,vX,vY,vZ,v7,v8,wa,wc,we,wg,wh,wi,wj,wk,wm,wo,wq,rfl,hx⟩:=Iy h;show ay (aT 0 255 32) _;simp only[nH,sT,gO,gp,hq,aT,ay,and_true];simp only[hx,h0,h1,and_self]
theorem agc {l:List Int} (h:ay (aT 0 255 32) l) (w:Int):nb [l.getD 0 0,l.getD 1 0,l.getD 2 0,l.getD 3 0,l.getD 4 0,l.getD 5 0,l.getD 6 0,l.getD 7 0,l.getD 8 0,l.getD 9 0,l.getD 10 0,l.getD 11 0,l.getD 12 0,l.getD 13 0,l.getD 14 0,l.getD 15 0,l.getD 16 0,l.getD 17 0,l.getD 18 0,l.getD 19 0,l.getD 20 0,l.getD 21 0,l.getD 22 0,l.getD 23 0,l.getD 24 0,l.getD 25 0,l.getD 26 0,l.getD 27 0,l.getD 28 0,l.getD 29 0,l.getD 30 0,w]=nb l+(w-l.getD 31 0)*0x100000000000000000000000000000000000000000000000000000000000000:=by
 obtain⟨dp,ak,ai,aw,dk,jz,jR,lW,mW,mX,nE,ik,ki,mP,vV,vW,vX,vY,vZ,v7,v8,wa,wc,we,wg,wh,wi,wj,wk,wm,wo,wq,rfl,hx⟩:=Iy h;clear hx;simp only[num,gp,hq];omega
theorem asm {l:List Int} (h:ay (aT 0 255 32) l):0<=nb l-l.getD 31 0*0x100000000000000000000000000000000000000000000000000000000000000/\nb l-l.getD 31 0*0x100000000000000000000000000000000000000000000000000000000000000<0x100000000000000000000000000000000000000000000000000000000000000:=by
 obtain⟨dp,ak,ai,aw,dk,jz,jR,lW,mW,mX,nE,ik,ki,mP,vV,vW,vX,vY,vZ,v7,v8,wa,wc,we,wg,wh,wi,wj,wk,wm,wo,wq,rfl,hx⟩:=Iy h;simp only[num,gp,hq];omega
theorem aoB {l:List Int} (h:ay (aT 0 255 32) l):0<=l.getD 31 0/\l.getD 31 0<=255:=by
 obtain⟨dp,ak,ai,aw,dk,jz,jR,lW,mW,mX,nE,ik,ki,mP,vV,vW,vX,vY,vZ,v7,v8,wa,wc,we,wg,wh,wi,wj,wk,wm,wo,wq,rfl,hx⟩:=Iy h;simp only[gp,hq];omega
theorem auo {l:List Int} (h:ay (aT 0 255 32) l) (hlt:nb l<fl):l.getD 31 0<128:=by
 have h1:=asm h;unfold fl at hlt;generalize nb l=n at*;generalize l.getD 31 0=t at*;omega
theorem Qw {l:List Int} {z:Int} (h:ay (aT 0 255 32) l) (c:0<=l.getD 31 0-128*z) (d:l.getD 31 0-128*z<128):nb [l.getD 0 0,l.getD 1 0,l.getD 2 0,l.getD 3 0,l.getD 4 0,l.getD 5 0,l.getD 6 0,l.getD 7 0,l.getD 8 0,l.getD 9 0,l.getD 10 0,l.getD 11 0,l.getD 12 0,l.getD 13 0,l.getD 14 0,l.getD 15 0,l.getD 16 0,l.getD 17 0,l.getD 18 0,l.getD 19 0,l.getD 20 0,l.getD 21 0,l.getD 22 0,l.getD 23 0,l.getD 24 0,l.getD 25 0,l.getD 26 0,l.getD 27 0,l.getD 28 0,l.getD 29 0,l.getD 30 0,l.getD 31 0+(-128)*z]=nb l% fl/\z=nb l/fl:=by
 have h1:=asm h;rw[agc h];have e:nb l+(l.getD 31 0+(-128)*z-l.getD 31 0)*0x100000000000000000000000000000000000000000000000000000000000000=nb l-fl*z:=by unfold fl;generalize nb l=n at*;generalize l.getD 31 0=t at*;omega
 have r1:0<=nb l-fl*z:=by unfold fl;generalize nb l=n at*;generalize l.getD 31 0=t at*;omega
 have r2:nb l-fl*z<fl:=by unfold fl;generalize nb l=n at*;generalize l.getD 31 0=t at*;omega
 have gS:=Rr (show(0:Int)<fl by decide) r1 r2;rw[e];refine⟨?_,gS.symm⟩;have h4:=ai0 (nb l) fl;rw[gS]at h4;omega
abbrev Ew (y:Int):Int:=(y*y-1)*lR (dQ*(y*y)+1)% aa
theorem N1 (b:Int):dec b=(if b% fl<aa then
 (if(nC (Ew (b% fl))).2=0 then none else if b/fl=1 then(if(nC (Ew (b% fl))).1=0 then none else some ((0-(nC (Ew (b% fl))).1)% aa,b% fl))else some ((nC (Ew (b% fl))).1,b% fl))else none):=rfl
theorem aAG {b:Int} (h:¬b% fl<aa):dec b=none:=by rw[N1,if_neg h]
theorem aAJ {b a k:Int} (hy:b% fl<aa) (hs:(a,k)=nC (Ew (b% fl))) (ag:k=0):dec b=none:=by rw[N1,if_pos hy,<-hs,if_pos ag]
theorem aAL {b a k:Int} (hy:b% fl<aa) (hs:(a,k)=nC (Ew (b% fl))) (ag:k≠0) (aA:b/fl=1) (h0:a=0):dec b=none:=by rw[N1,if_pos hy,<-hs,if_neg ag,if_pos aA,if_pos h0]
theorem aAK {b a k:Int} (hy:b% fl<aa) (hs:(a,k)=nC (Ew (b% fl))) (ag:k≠0) (aA:b/fl=1) (h0:a≠0):dec b=some ((0-a)% aa,b% fl):=by rw[N1,if_pos hy,<-hs,if_neg ag,if_pos aA,if_neg h0]
theorem aAI {b a k:Int} (hy:b% fl<aa) (hs:(a,k)=nC (Ew (b% fl))) (ag:k≠0) (aA:¬b/fl=1):dec b=some (a,b% fl):=by rw[N1,if_pos hy,<-hs,if_neg ag,if_neg aA]
theorem aGT {a b:Int} (h:a% aa=b% aa):cJ a vp% aa=lR b% aa:=by unfold lR;rw[asY h]
theorem WM {y f tA m t p v q:Int} (s1:f% aa=y% aa) (s2:tA% aa=f*f% aa) (bx:m% aa=(tA-v5 [1,0,0,0,0])% aa) (cG:t% aa=tA*v5 [929955233495203,466365720129213,0x5e7a26001c029,0x739c663a03cbb,0x52036cee2b6ff]% aa) (er:p% aa=(t+v5 [1,0,0,0,0])% aa) (eW:v% aa=cJ p vp) (gm:q% aa=m*v% aa):q% aa=Ew y:=by
 rw[aVt]at bx er;rw[asC]at cG;have aQ:tA% aa=y*y% aa:=s2.trans (gf s1 s1);have bn:m% aa=(y*y-1)% aa:=bx.trans (Bu aQ rfl);have cj:p% aa=(dQ*(y*y)+1)% aa:=er.trans (wY (cG.trans ((gf aQ rfl).trans (mC (kL _ _)))) rfl);exact gm.trans (gf bn ((eW.trans (QP _ _).symm).trans (aGT cj)))
theorem diff_eq {a b:Int} (ha:0<=a/\a<aa) (hb:0<=b/\b<aa):(a-b+(if a<b then aa else 0))% 0x10000000000000000000000000000000000000000000000000000000000000000=(a-b)% aa:=by
 split
 ·rename_i h;rw[lO (by(unfold aa at*;omega)) (by(unfold aa at*;omega)),show(a-b)% aa=(a-b+aa*1)% aa by rw[xQ],lO (by(unfold aa at*;omega)) (by(unfold aa at*;omega))];(unfold aa at*;omega)
 ·rename_i h;rw[lO (by(unfold aa at*;omega)) (by(unfold aa at*;omega)),lO (by(unfold aa at*;omega)) (by(unfold aa at*;omega))];(unfold aa at*;omega)
theorem aAQ {a b:Int} (ha:0<=a/\a<aa) (hb:0<=b/\b<aa):(a-b+(if a<b then aa else 0))% dT% aa=(a-b)% aa:=by rw[diff_eq ha hb,xR]
theorem aRz {a b:Int} (ha:0<=a/\a<aa) (hb:0<=b/\b<aa):(a+b)% 0x10000000000000000000000000000000000000000000000000000000000000000% aa=(a+b)% aa:=by rw[lO (a:=a+b) (by(unfold aa at*;omega)) (by(unfold aa at*;omega))]
theorem smod {a b:Int} (ha:0<=a/\a<aa) (hb:0<=b/\b<aa):(a+b)% dT% aa% aa=(a+b)% aa:=by rw[aRz ha hb,xR]
theorem yB {r x:Int} (h:r=x% aa):r% aa=x% aa:=by rw[h,xR]
theorem L4 {r x:Int} (h:r=x% aa):0<=r/\r<aa:=by rw[h];exact yy x
theorem aPu {x y z t:Int} {A:Int×Int} (h1:x% aa=A.1) (h2:y% aa=A.2) (h3:z% aa=1) (h4:t% aa=A.1*A.2% aa):m5 x y z t A:=by
 have k:∀a:Int,a*z% aa=a% aa:=λa=>by rw[<-xp,h3,X6]
 exact⟨by rw[h3];decide,by rw[k,<-h1,xR],by rw[k,<-h2,xR],by rw[k,h4]⟩
def G7 (o:Option (Int×Int)) (x y z t k:Int):Prop:=match o with|none=>k=0|some A=>k=1/\x% aa=A.1/\y% aa=A.2/\z% aa=1/\t% aa=A.1*A.2% aa
theorem as3 {b x y z t:List Int} {k:Int} (h:RP [b] [x,y,z,t,[k]]) (ag:¬k=1):dec (nb b)=none:=by
 have h:G7 (dec (nb b)) (v5 x) (v5 y) (v5 z) (v5 t) k:=h;cases hd:dec (nb b)with
 |none=>rfl
 |some A=>rw[hd]at h;exact absurd h.1 ag
theorem rd_some {b x y z t:List Int} {k:Int} (h:RP [b] [x,y,z,t,[k]]) (ag:k=1):∃A,dec (nb b)=some A/\m5 (v5 x) (v5 y) (v5 z) (v5 t) A:=by
 have h:G7 (dec (nb b)) (v5 x) (v5 y) (v5 z) (v5 t) k:=h;cases hd:dec (nb b)with
 |none=>rw[hd]at h;have h:k=0:=h;omega
 |some A=>rw[hd]at h;exact⟨A,rfl,aPu h.2.1 h.2.2.1 h.2.2.2.1 h.2.2.2.2⟩
theorem asn {x hk y z:Int} {A:Int×Int} (h:hk% aa=(0-x)% aa) (q:l6 x y z A):l6 hk y z (rU A):=by
 obtain⟨n,h1,h2⟩:=q;refine⟨n,?_,h2⟩;have e:(0-A.1)*z=0-A.1*z:=by rw[Int.sub_mul,X5]
 show hk% aa=(0-A.1)% aa*z% aa;rw[sI,e];exact h.trans (Bu rfl h1)
end Go.Fd
namespace Go.Fd
open Go.bX
theorem axS {r r':List Int} {e c8:Int} {o:Option (Int×Int)} (h:tJ r e o) (aP:tJ r' c8 o) (i:ay (aT 0 255 32) r) (FM:ay (aT 0 255 32) r'):r=r'/\e=c8:=by
 cases o with
 |none=>exact⟨ti i FM (h.2.trans aP.2.symm),h.1.trans aP.1.symm⟩
 |some A=>exact⟨ti i FM (h.2.trans aP.2.symm),h.1.trans aP.1.symm⟩
theorem am6 {r:List Int} {A:Int×Int} (aV:on A) (h:nb r=enc A):dec (nb r)=some A:=by rw[h];exact aAH aV
end Go.Fd
set_option maxRecDepth 100000
namespace Go.dg
open Go Go.bX
def ajN (S:zzS) (K:zzK):Prop:=dV λz0=>dV λar=>(aj 75 [z0,ar]->bY λz2=>cz λz3=>ee 20 [z0] λz4=>bY λz5=>cz λaZ=>ee 20 [ar] λaK=>aj 22 [z0,0,z4]/\ck 22 [z0,0,z4] λaF=>aj 22 [ar,0,aK]/\ck 22 [ar,0,aK] λz9=>aj 75 [aF,z9]/\∀cH:List Int,ay (aT 0 255 64) cH->S 473 [[aF],[z9]] [cH]->∀gT:List Int,ay (aT 0 255 32) gT->S 152 [cH] [gT]->K [[z0],[ar]] [gT])
def ajO (S:zzS) (K:zzK):Prop:=dV λz0=>dV λar=>dV λz2=>(aj 75 [z0,ar,z2]->bY λz3=>cz λz4=>ee 20 [z0] λz5=>bY λaZ=>cz λaK=>ee 20 [ar] λaF=>bY λz9=>cz λaY=>ee 20 [z2] λaN=>aj 22 [z0,0,z5]/\ck 22 [z0,0,z5] λz12=>aj 22 [ar,0,aF]/\ck 22 [ar,0,aF] λa1=>aj 22 [z2,0,aN]/\ck 22 [z2,0,aN] λaG=>aj 75 [z12,a1,aG]/\∀eV:List Int,ay (aT 0 255 64) eV->S 471 [[z12],[a1],[aG]] [eV]->∀r7:List Int,ay (aT 0 255 32) r7->S 152 [eV] [r7]->K [[z0],[ar],[z2]] [r7])
def ajG (S:zzS) (K:zzK):Prop:=∀r0:List Int,ay (aT 0 255 32) r0->jJ r0 0 32 0 λew=>aj 71 [ew]/\∀e0:List Int,ay (aT 0 255 64) e0->S 453 [[ew]] [e0]->∀iF:List Int,ay (aT 0 255 32) iF->S 154 [(fy e0 0 32)] [iF]->∀Ma:List Int,ay (aT 0 255 32) Ma->S 114 [iF] [Ma]->K [r0] [Ma]
def ajI (S:zzS) (K:zzK):Prop:=∀r0:List Int,ay (aT 0 255 32) r0->dV λbj=>(aj 75 (fy r0 0 32++[bj])->bY λbM=>cz λcw=>ee 20 [bj] λb7=>jJ r0 0 32 0 λ gg=>aj 71 [gg]/\∀pg:List Int,ay (aT 0 255 64) pg->S 453 [[gg]] [pg]->∀kV:List Int,ay (aT 0 255 32) kV->S 154 [(fy pg 0 32)] [kV]->jJ pg 32 32 0 λAQ=>aj 22 [bj,0,b7]/\ck 22 [bj,0,b7] λz196=>aj 75 [AQ,z196]/\∀pP:List Int,ay (aT 0 255 32) pP->S 674 [[AQ],[z196]] [pP]->∀r3:List Int,ay (aT 0 255 32) r3->S 114 [pP] [r3]->∀Ca:List Int,ay (aT 0 255 32) Ca->S 114 [kV] [Ca]->((((jJ r3 0 32 0 λCA=>jJ Ca 0 32 0 λCB=>aj 22 [bj,0,b7]/\ck 22 [bj,0,b7] λCC=>aj 75 [CA,CB,CC]/\∀pQ:List Int,ay (aT 0 255 32) pQ->S 675 [[CA],[CB],[CC]] [pQ]->((∀mI:List Int,ay (aT 0 255 32) mI->S 153 [pQ,kV,pP] [mI]->K [r0,[bj]] [(fy r3 0 32++fy mI 0 32)])/\(∀mI:List Int,ay (aT 0 255 32) mI->S 153 [pQ,kV,pP] [mI]->K [r0,[bj]] [(fy r3 0 32++fy mI 0 32)])))/\(jJ r3 0 32 0 λCA=>jJ Ca 0 32 0 λCB=>aj 22 [bj,0,b7]/\ck 22 [bj,0,b7] λCC=>aj 75 [CA,CB,CC]/\∀pQ:List Int,ay (aT 0 255 32) pQ->S 675 [[CA],[CB],[CC]] [pQ]->∀mI:List Int,ay (aT 0 255 32) mI->S 153 [pQ,kV,pP] [mI]->K [r0,[bj]] [(fy r3 0 32++fy mI 0 32)])))/\(jJ r3 0 32 0 λCA=>jJ Ca 0 32 0 λCB=>aj 22 [bj,0,b7]/\ck 22 [bj,0,b7] λCC=>aj 75 [CA,CB,CC]/\∀pQ:List Int,ay (aT 0 255 32) pQ->S 675 [[CA],[CB],[CC]] [pQ]->∀mI:List Int,ay (aT 0 255 32) mI->S 153 [pQ,kV,pP] [mI]->K [r0,[bj]] [(fy r3 0 32++fy mI 0 32)])))
def ajK (S:zzS) (K:zzK):Prop:=∀r0:List Int,ay (aT 0 255 32) r0->dV λbj=>∀hN:List Int,ay (aT 0 255 64) hN->(aj 75 (fy r0 0 32++[bj]++fy hN 0 64)->bY λEE=>cz λkj=>ee 20 [bj] λj3=>dI λmf=>S 151 [(fy hN 32 32)] [[mf]]->(eb ((!(decide (mf=1)))) (K [r0,[bj],hN] [[(cond (false) 1 0)]]) (∀qn:List Int,ay (aT 0 255 32) qn->dI λAN=>S 112 [r0] [qn,[AN]]->(eb ((!(decide (AN=0)))) (K [r0,[bj],hN] [[(cond (false) 1 0)]]) (((((jJ hN 0 32 0 λmj=>jJ r0 0 32 0 λCz=>aj 22 [bj,0,j3]/\ck 22 [bj,0,j3] λz198=>aj 75 [mj,Cz,z198]/\∀pf:List Int,ay (aT 0 255 32) pf->S 675 [[mj],[Cz],[z198]] [pf]->((∀oJ:List Int,ay (aT 0 255 32) oJ->dI λqt=>S 115 [pf,qn,(fy hN 32 32)] [oJ,[qt]]->(eb (decide (qt=0)) (K [r0,[bj],hN] [[(cond (decide (oJ=(fy hN 0 32))) 1 0)]]) (K [r0,[bj],hN] [[(cond (false) 1 0)]])))/\(∀oJ:List Int,ay (aT 0 255 32) oJ->dI λqt=>S 115 [pf,qn,(fy hN 32 32)] [oJ,[qt]]->(eb (decide (qt=0)) (K [r0,[bj],hN] [[(cond (decide (oJ=(fy hN 0 32))) 1 0)]]) (K [r0,[bj],hN] [[(cond (false) 1 0)]])))))/\(jJ hN 0 32 0 λmj=>jJ r0 0 32 0 λCz=>aj 22 [bj,0,j3]/\ck 22 [bj,0,j3] λz198=>aj 75 [mj,Cz,z198]/\∀pf:List Int,ay (aT 0 255 32) pf->S 675 [[mj],[Cz],[z198]] [pf]->∀oJ:List Int,ay (aT 0 255 32) oJ->dI λqt=>S 115 [pf,qn,(fy hN 32 32)] [oJ,[qt]]->(eb (decide (qt=0)) (K [r0,[bj],hN] [[(cond (decide (oJ=(fy hN 0 32))) 1 0)]]) (K [r0,[bj],hN] [[(cond (false) 1 0)]])))))/\(jJ hN 0 32 0 λmj=>jJ r0 0 32 0 λCz=>aj 22 [bj,0,j3]/\ck 22 [bj,0,j3] λz198=>aj 75 [mj,Cz,z198]/\∀pf:List Int,ay (aT 0 255 32) pf->S 675 [[mj],[Cz],[z198]] [pf]->∀oJ:List Int,ay (aT 0 255 32) oJ->dI λqt=>S 115 [pf,qn,(fy hN 32 32)] [oJ,[qt]]->(eb (decide (qt=0)) (K [r0,[bj],hN] [[(cond (decide (oJ=(fy hN 0 32))) 1 0)]]) (K [r0,[bj],hN] [[(cond (false) 1 0)]])))))))))
theorem Iz:∀{n:Nat} {l:List Int},ay (aT 0 255 n) l->∀x∈l,0<=x/\x<=255
 |0,[],_,x,hx=>by cases hx
 |0,_::_,h,_,_=>by simp[aT,ay]at h
 |n+1,[],h,_,_=>by simp[aT,ay]at h
 |n+1,y::r,h,x,hx=>by
  have h:0<=y/\y<=255/\ay (aT 0 255 n) r:=by simpa [aT,ay]using h
  rcases List.mem_cons.1 hx with rfl|hx
  ·exact⟨h.1,h.2.1⟩
  ·exact Iz h.2.2 x hx
theorem Ad {r:List Int} (h:ay (aT 0 255 32) r):ay (aT 0 255 32++[]) [r].flatten:=by simpa using h
theorem afd {r:List Int} (h:ay (aT 0 255 64) r):ay (aT 0 255 64++[]) [r].flatten:=by simpa using h
theorem pu {c y x:Int} (h:y=cu 23 [c,x]):af y=af c++[[x]]:=by rw[h];simp only[cu,jO]
theorem rz {r:List Int} {k:Int->Prop}:∀(n o:Nat) (c:Int),o+n<=r.length->(∀z,af z=af c++((r.drop o).take n).map (λx=>[x])->k z)->jJ r o n c k
 |0,o,c,_,h=>h c (by simp)
 |n+1,o,c,hl,h=>λz _ _ hz=>rz n (o+1) z (by omega) λy hy=>h y (by
  have aA:o<r.length:=by omega
  rw[hy,pu hz,fS,EN aA,l5];simp[U,aA])
theorem abn {r:List Int} {z:Int} (h:af z=r.map λx=>[x]):aJ z=r:=by unfold aJ;rw[h,lz];exact Sh r
theorem uy {r:List Int} {z:Int} {o:Nat} (hl:r.length=o+32) (h:af z=af 0++((r.drop o).take 32).map λx=>[x]):aJ z=r.drop o/\(af z).length=32:=by
 have e:(r.drop o).take 32=r.drop o:=mu (by rw[pq];omega);rw[e,j2,eQ]at h;exact⟨abn h,by rw[h,ps,pq];omega⟩
theorem aOS {r:List Int} {z:Int} (hl:32<=r.length) (h:af z=af 0++((r.drop 0).take 32).map λx=>[x]):aJ z=r.take 32/\(af z).length=32:=by
 rw[jA,j2,eQ]at h;exact⟨abn h,by rw[h,ps,m4];omega⟩
theorem Fo {r:List Int} (hl:32<=r.length):fy r 0 32=r.take 32:=by
 unfold fy;apply JO
 ·simp;omega
 ·intro i h1 h2;simp at h1;simp[U,show i<r.length by omega]
theorem aCr {r:List Int} (hl:r.length=64):fy r 0 64=r:=by
 unfold fy;apply JO
 ·simp;omega
 ·intro i h1 h2;simp at h1;simp[U,show i<r.length by omega]
theorem aov {r:List Int} (hl:r.length=64):fy r 32 32=r.drop 32:=by
 unfold fy;apply JO
 ·simp;omega
 ·intro i h1 h2;simp at h1;simp[U,show 32+i<r.length by omega]
theorem S4 {l:List Int} {n:Nat} (h:ay (aT 0 255 n) l):∀z∈l,(af z).length<=100000000:=λz hz=>by
 have JA:∀n:Nat,n<256->(af (n:Int)).length<=100:=by decide+kernel
 have hb:=Iz h z hz;obtain⟨k,rfl⟩:∃k:Nat,z=(k:Int):=⟨z.toNat,by omega⟩;have:=JA k (by omega);omega
theorem aOR {l g:List Int} {z:Int} (h:∀x∈l++[z]++g,(af x).length<=100000000):(af z).length<=100000000:=h z (by simp)
theorem dup {p:Prop} (h:p):p/\p:=⟨h,h⟩
theorem Ln {g:List Int} (h:ay (aT 0 255 64) g):ay (aT 0 255 32) (g.take 32)/\ay (aT 0 255 32) (g.drop 32):=by
 have aP:ay (aT 0 255 32++aT 0 255 32) g:=h;exact BQ aP
theorem aqs {a b:List Int} (ha:ay (aT 0 255 32) a) (hb:ay (aT 0 255 32) b):ay (aT 0 255 64) (a++b):=by
 have:=vv 64 (a++b) (by rw[fq,dj ha,dj hb];rfl) λx hx=>?_
 ·exact this
 ·rcases List.mem_append.1 hx with h|h
  ·exact Iz ha x h
  ·exact Iz hb x h
theorem aMJ:ajN SB (ej SB [.d cN] 674):=by
 intro z0 _ _ ar _ _ hp z2 _ z3 _ _ z4 xn _ h4 z5 _ aZ _ _ aK IW _ h7;have hp:∀z∈([z0,ar]:List Int),(af z).length<=100000000:=hp;have h4:z4=((af z0).length:Int):=h4;have h7:aK=((af ar).length:Int):=h7;refine⟨⟨cn _,xn,by rw[h4];exact cn _⟩,λaF _ _ ch=>?_⟩;have ch:=fP ch h4;refine⟨⟨cn _,IW,by rw[h7];exact cn _⟩,λz9 _ _ cC=>?_⟩;have cC:=fP cC h7;refine⟨λz hz=>?_,λcH i10 s1 gT i74 s2=>⟨Ad i74,?_⟩⟩
 ·simp only[m2,uU,or_false]at hz;rcases hz with rfl|rfl
  ·rw[ch];exact hp z0 (by simp)
  ·rw[cC];exact hp ar (by simp)
 have s1:[cH]=_:=s1;have s1:cH=jy bP (aJ aF++(aJ z9)):=by simpa using s1
 have s2:b9 gT=b9 cH% (Go.Fd.dG:Int):=s2;show b9 gT=qk (aJ z0++(aJ ar));rw[s2,s1,jU ch,jU cC];rfl
theorem aMK:ajO SB (ej SB [.d cN] 675):=by
 intro z0 _ _ ar _ _ z2 _ _ hp z3 _ z4 _ _ z5 q1 _ h5 aZ _ aK _ _ aF yu _ ch z9 _ aY _ _ aN xm _ jK;have hp:∀z∈([z0,ar,z2]:List Int),(af z).length<=100000000:=hp;have h5:z5=((af z0).length:Int):=h5;have ch:aF=((af ar).length:Int):=ch;have jK:aN=((af z2).length:Int):=jK;refine⟨⟨cn _,q1,by rw[h5];exact cn _⟩,λz12 _ _ gj=>?_⟩;have gj:=fP gj h5;refine⟨⟨cn _,yu,by rw[ch];exact cn _⟩,λa1 _ _ ix=>?_⟩;have ix:=fP ix ch;refine⟨⟨cn _,xm,by rw[jK];exact cn _⟩,λaG _ _ jm=>?_⟩;have jm:=fP jm jK;refine⟨λz hz=>?_,λeV i15 s1 r7 i79 s2=>⟨Ad i79,?_⟩⟩
 ·simp only[m2,uU,or_false]at hz;rcases hz with rfl|rfl|rfl
  ·rw[gj];exact hp z0 (by simp)
  ·rw[ix];exact hp ar (by simp)
  ·rw[jm];exact hp z2 (by simp)
 have s1:[eV]=_:=s1;have s1:eV=jy bP (aJ z12++(aJ a1++(aJ aG))):=by simpa using s1
 have s2:b9 r7=b9 eV% (Go.Fd.dG:Int):=s2;show b9 r7=qk (aJ z0++(aJ ar++(aJ z2)));rw[s2,s1,jU gj,jU ix,jU jm];rfl
theorem aMk:ajG SB (ej SB [.d cN] 680):=by
 intro r0 i0;have lb:r0.length=32:=dj i0;refine rz 32 0 0 (by omega) λew acZ=>?_;obtain⟨aQ,bn⟩:=uy (o:=0) lb acZ;refine⟨by show(af ew).length<=1000000000;omega,λe0 i64 s1 iF i128 s2 Ma i160 bx=>⟨Ad i160,?_⟩⟩;have IV:e0.length=64:=dj i64;have s1:[e0]=[jy bP (aJ ew)]:=s1;have s1:e0=ot r0:=by rw[aQ,jA]at s1;simpa [ot]using s1
 have s2:iF=zB (fy e0 0 32):=s2;rw[Fo (by omega),s1]at s2;have bx:b9 Ma=Go.Fd.enc (Go.Fd.eK (b9 iF).toNat Go.Fd.kn):=bx;show b9 Ma=Ae r0;rw[bx,s2];rfl
theorem aMm:ajI SB (ej SB [.d j7] 681):=by
 intro r0 i0 bj _ _ hp bM _ cw _ _ b7 BU _ oX;have hp:∀x∈fy r0 0 32++[bj],(af x).length<=100000000:=hp;have hz:=hp bj (by simp);have oX:b7=((af bj).length:Int):=oX;have lb:r0.length=32:=dj i0;refine rz 32 0 0 (by omega) λgg aCT=>?_;obtain⟨aQ,bn⟩:=uy (o:=0) lb aCT;refine⟨by show(af gg).length<=1000000000;omega,λpg i68 s1 kV i132 s2=>?_⟩;have VQ:pg.length=64:=dj i68;have s1:[pg]=[jy bP (aJ gg)]:=s1;have s1:pg=ot r0:=by rw[aQ,jA]at s1;simpa [ot]using s1
 have s2:kV=zB (fy pg 0 32):=s2;rw[Fo (by omega),s1]at s2;have s2:kV=Cg r0:=s2;refine rz 32 32 0 (by omega) λAQ aCL=>?_;obtain⟨cj,dU⟩:=uy (o:=32) VQ aCL;refine⟨⟨cn _,BU,by rw[oX];exact cn _⟩,λz196 _ _ Uc=>?_⟩;have Uc:=fP Uc oX;refine⟨λz jn=>?_,λpP US bx r3 aqc cG Ca aqd er=>?_⟩
 ·simp only[m2,uU,or_false]at jn;rcases jn with rfl|rfl
  ·omega
  ·rw[Uc];exact hz
 have bx:b9 pP=qk (aJ AQ++(aJ z196)):=bx;rw[cj,jU Uc,s1]at bx;have bx:b9 pP=Mj r0 (aJ bj):=bx;have cG:b9 r3=Go.Fd.enc (Go.Fd.eK (b9 pP).toNat Go.Fd.kn):=cG;have er:b9 Ca=Go.Fd.enc (Go.Fd.eK (b9 kV).toNat Go.Fd.kn):=er;rw[bx]at cG;rw[s2]at er;have afk:r3.length=32:=dj aqc;have aHI:Ca.length=32:=dj aqd;have fin:∀pQ:List Int,b9 pQ=qk (r3++(Ca++aJ bj))->∀mI:List Int,ay (aT 0 255 32) mI->SB 153 [pQ,kV,pP] [mI]->ej SB [.d j7] 681 [r0,[bj]] [fy r3 0 32++fy mI 0 32]:=λpQ eW mI aqf gm=>by
  have aYA:mI.length=32:=dj aqf;rw[Fo (by omega),Fo (by omega),mu (by omega),mu (by omega)];have gm:b9 mI=(b9 pQ*b9 kV+b9 pP)% (Go.Fd.dG:Int):=gm;refine⟨afd (aqs aqc aqf),?_⟩;show xG r0 (aJ bj) (r3++mI);have av:(r3++mI).take 32=r3:=X8 afk;have aH:(r3++mI).drop 32=mI:=List.drop_left' afk;unfold xG;rw[av,aH];refine⟨cG,Ca,aqd,er,?_⟩;rw[gm,eW,s2,bx]
 refine⟨⟨?_,?_⟩,?_⟩
 all_goals
  refine rz 32 0 0 (by omega) λCA aCO=>rz 32 0 0 (by omega) λCB aCQ=>?_;obtain⟨jv,lK⟩:=uy (o:=0) afk aCO;obtain⟨nz,lU⟩:=uy (o:=0) aHI aCQ;rw[jA]at jv nz;refine⟨⟨cn _,BU,by rw[oX];exact cn _⟩,λCC _ _ Ui=>?_⟩;have Ui:=fP Ui oX;refine⟨λz jn=>?_,λpQ aYx eW=>?_⟩
  ·simp only[m2,uU,or_false]at jn;rcases jn with rfl|rfl|rfl
   ·omega
   ·omega
   ·rw[Ui];exact hz
  have eW:b9 pQ=qk (aJ CA++(aJ CB++aJ CC)):=eW;rw[jv,nz,jU Ui]at eW
  first
   |exact dup (fin pQ eW)
   |exact fin pQ eW
theorem aMo:ajK SB (ej SB [.d .bool] 682):=by
 intro r0 i0 bj _ _ hN i33 hp EE _ kj _ _ j3 aHO _ Um mf _ _ s1;have hp:∀x∈fy r0 0 32++[bj]++fy hN 0 64,(af x).length<=100000000:=hp;have hz:=aOR hp;have Um:j3=((af bj).length:Int):=Um;have lb:r0.length=32:=dj i0;have IT:hN.length=64:=dj i33;have s1:mf=if b9 (fy hN 32 32)<(Go.Fd.dG:Int)then 1 else 0:=s1
 rw[aov IT]at s1;have aq3:∀b:Bool,(b=true↔Ij r0 (aJ bj) hN)->ej SB [.d .bool] 682 [r0,[bj],hN] [[cond b 1 0]]:=λb hb=>by
  refine⟨by cases b<;>exact⟨by decide,by decide,trivial⟩,?_⟩;show cond b (1:Int) 0=1↔Ij r0 (aJ bj) hN;rw[<-hb];cases b<;>simp
 have no:¬Ij r0 (aJ bj) hN->ej SB [.d .bool] 682 [r0,[bj],hN] [[cond false 1 0]]:=λh=>aq3 false ⟨λh=>(by cases h),λh2=>absurd h2 h⟩;refine⟨λh=>no λah=>?_,λh=>?_⟩
 ·rw[if_pos ah.1]at s1;rw[s1]at h;cases h
 have hlt:b9 (hN.drop 32)<(Go.Fd.dG:Int):=by
  by_cases hc:b9 (hN.drop 32)<(Go.Fd.dG:Int)
  ·exact hc
  ·rw[if_neg hc]at s1;rw[s1]at h;cases h
 intro qn i101 AN _ _ s2;have s2:Go.Fd.tJ qn AN ((Go.Fd.dec (b9 r0)).map Go.Fd.rU):=s2;refine⟨λh=>no λah=>?_,λh=>?_⟩
 ·obtain⟨_,A,aV,_⟩:=ah;rw[aV]at s2;have:AN=0:=s2.1;rw[this]at h;cases h
 cases hd:Go.Fd.dec (b9 r0)with
 |none=>
  rw[hd]at s2;have:AN=1:=s2.1;rw[this]at h;cases h
 |some A=>
 rw[hd]at s2;have s2:AN=0/\b9 qn=Go.Fd.enc (Go.Fd.rU A):=s2;have aV:Go.Fd.on A:=Go.Fd.N2 hd;have fin:∀pf:List Int,b9 pf=qk (hN.take 32++(r0++aJ bj))->∀oJ:List Int,ay (aT 0 255 32) oJ->∀qt:Int,0<=qt->qt<=1->SB 115 [pf,qn,fy hN 32 32] [oJ,[qt]]->
  ((decide (qt=0))=true->ej SB [.d .bool] 682 [r0,[bj],hN] [[cond (decide (oJ=fy hN 0 32)) 1 0]])/\((decide (qt=0))=false->ej SB [.d .bool] 682 [r0,[bj],hN] [[cond false 1 0]]):=λpf bx oJ aGu qt _ _ cG=>by
  rw[aov IT]at cG;rw[Fo (by omega)];have cG:Go.Fd.tJ oJ qt ((Go.Fd.dec (b9 qn)).map λA=>Go.Fd.fO (Go.Fd.eK (b9 pf).toNat A) (Go.Fd.eK (b9 (hN.drop 32)).toNat Go.Fd.kn)):=cG;have ub:Go.Fd.dec (b9 qn)=some (Go.Fd.rU A):=Go.Fd.am6 (Go.Fd.F3 aV) s2.2;rw[ub]at cG;have cG:qt=0/\b9 oJ=Go.Fd.enc (Go.Fd.fO (Go.Fd.eK (b9 pf).toNat (Go.Fd.rU A)) (Go.Fd.eK (b9 (hN.drop 32)).toNat Go.Fd.kn)):=cG;refine⟨λ_=>aq3 _ ?_,λh=>absurd cG.1 (of_decide_eq_false h)⟩;rw[decide_eq_true_eq];constructor
  ·intro e;refine⟨hlt,A,hd,?_⟩;rw[<-e,cG.2,bx];rw[e]
  ·rintro⟨_,B,da,e⟩
   rw[hd]at da;have da:A=B:=iI da;subst da;refine Go.Fd.ti aGu (Ln i33).1 ?_;show b9 oJ=b9 (hN.take 32);rw[cG.2,bx,e]
 refine⟨⟨?_,?_⟩,?_⟩
 all_goals
  refine rz 32 0 0 (by omega) λmj aCI=>rz 32 0 0 (by omega) λCz aCM=>?_;obtain⟨jv,lK⟩:=aOS (by omega) aCI;obtain⟨nz,lU⟩:=uy (o:=0) lb aCM;rw[jA]at nz;refine⟨⟨cn _,aHO,by rw[Um];exact cn _⟩,λz198 _ _ Ud=>?_⟩;have Ud:=fP Ud Um;refine⟨λz jn=>?_,λpf aYr bx=>?_⟩
  ·simp only[m2,uU,or_false]at jn;rcases jn with rfl|rfl|rfl
   ·omega
   ·omega
   ·rw[Ud];exact hz
  have bx:b9 pf=qk (aJ mj++(aJ Cz++aJ z198)):=bx;rw[jv,nz,jU Ud]at bx
  first
   |exact dup (fin pf bx)
   |exact fin pf bx
end Go.dg
namespace Go.dg
open Go Go.bX
def ajF (S:zzS) (K:zzK):Prop:=((JC S oM λr0=>((uL S λb6=>((r9 S K r0 b6)/\(r9 S K r0 b6)))/\(((((uL S λb6=>r9 S K r0 b6)/\(uL S λb6=>r9 S K r0 b6)))/\(((uL S λb6=>r9 S K r0 b6)/\(uL S λb6=>r9 S K r0 b6)))))))/\(((((JC S oM λr0=>((uL S λb6=>r9 S K r0 b6)/\(uL S λb6=>r9 S K r0 b6)))/\(JC S oM λr0=>uL S λb6=>r9 S K r0 b6)))/\(((JC S oM λr0=>((uL S λb6=>r9 S K r0 b6)/\(uL S λb6=>r9 S K r0 b6)))/\(JC S oM λr0=>uL S λb6=>r9 S K r0 b6))))))
theorem ayL (p:jc) (b:List Int):∀x∈pC p b,0<=x/\x<=255:=λx hx=>by
 unfold pC oH at hx;obtain⟨y,_,hx⟩:=List.mem_flatMap.1 hx;obtain⟨q,_,rfl⟩:=List.mem_map.1 hx;unfold nN;omega
theorem aIW {l:List Int} {n:Nat} (h:ay (aT 0 255 n) l):0<=b9 l:=num_nonneg (by decide) (cn _) h
theorem aQW (b:List Int):ay (aT 0 255 64) (jy bP b):=vv 64 _ (by unfold jy;rw[E0];rfl) (ayL bP _)
theorem aQQ (s:List Int):ay (aT 0 255 32) (Cg s):=by
 have h:=(Ln (aQW s)).1;have hl:=dj h;rw[Jn]at hl;refine vv 32 _ ?_ λx hx=>?_
 ·show(((ot s).take 32).getD 0 0/8*8::((((ot s).take 32).drop 1).take 30++_)).length=32;have hl:((ot s).take 32).length=32:=hl;simp only[kx,fq,m4,pq,pr]at hl⊢;omega
 ·have hx:x∈((ot s).take 32).getD 0 0/8*8::((((ot s).take 32).drop 1).take 30++_):=hx;have g:∀j,j<32->0<=((ot s).take 32).getD j 0/\((ot s).take 32).getD j 0<=255:=λj aR=>by
   have aR:j<((ot s).take 32).length:=by show j<((jy bP s).take 32).length;omega
   have e:((ot s).take 32).getD j 0=((ot s).take 32)[j]:=by rw[ky,lA aR];rfl
   rw[e];exact Iz h _ (List.getElem_mem aR)
  rcases List.mem_cons.1 hx with rfl|hx
  ·have:=g 0 (by decide);omega
  ·rcases List.mem_append.1 hx with hx|hx
   ·exact Iz h x (List.mem_of_mem_drop (List.mem_of_mem_take hx))
   ·rw[List.mem_singleton.1 hx];omega
theorem ayy {X Y:Int×Int} (cb:Go.Fd.on X) (hY:Go.Fd.on Y):Go.Fd.fO (Go.Fd.rU X) (Go.Fd.fO X Y)=Y:=by
 rw[<-Go.Fd.alh (Go.Fd.F3 cb) cb hY,Go.Fd.ali (Go.Fd.rU X) X,Go.Fd.ayz cb];exact Go.Fd.av3 hY
theorem sign_holds {s m g k:List Int} (kF:ay (aT 0 255 32) k) (ag:b9 k=Ae s) (h:xG s m g):Ij k m g:=by
 obtain⟨h1,A,aew,aV,h2⟩:=h;have e:A=k:=Go.Fd.ti aew kF (aV.trans ag.symm);subst e;have eF:(0:Int)<(Go.Fd.dG:Int):=by decide
 refine⟨by rw[h2];exact ri _ eF,_,Go.Fd.am6 (Go.Fd.j1 Go.Fd.m8 _) ag,?_⟩;have bh:0<=qk (g.take 32++(A++m)):=sV _ (by decide);have fF:0<=Mj s m:=sV _ (by decide);have sJ:0<=b9 (Cg s):=aIW (aQQ s);obtain⟨gR,aBj⟩:=mr bh;obtain⟨r,qJ⟩:=mr fF;obtain⟨a,Fh⟩:=mr sJ;rw[h1,h2,aBj,qJ,Fh,hC,hC,hC];have ca:(((gR:Int)*(a:Int)+(r:Int))% (Go.Fd.dG:Int)).toNat=(a*gR+r)% Go.Fd.dG:=by
  have:((gR:Int)*(a:Int)+(r:Int))% (Go.Fd.dG:Int)=(((a*gR+r)% Go.Fd.dG:Nat):Int):=by
   rw[X7,Int.natCast_add,Int.natCast_mul,kL]
  rw[this,hC]
 rw[ca,Go.Fd.ay4,Go.Fd.asc (Go.Fd.j1 Go.Fd.m8 _),Go.Fd.af6 Go.Fd.m8,Go.Fd.QB Go.Fd.m8];rw[ayy (Go.Fd.j1 Go.Fd.m8 _) (Go.Fd.j1 Go.Fd.m8 _)]
def x4:List Int:=[215,90,152,1,130,177,10,183,213,75,254,211,201,100,7,58,14,225,114,243,218,166,35,37,175,2,26,104,247,7,81,26]
def Nu:List Int:=[229,86,67,0,195,96,172,114,144,134,226,204,128,110,130,138,132,135,127,30,184,229,217,116,216,115,224,101,34,73,1,85]
def aaM:List Int:=[95,184,130,21,144,163,59,172,198,30,57,112,28,249,180,107,210,91,245,240,89,91,190,36,101,81,65,67,142,122,16,11]
def EY:List Int:=[229,86,67,0,195,96,172,114,144,134,226,204,128,110,130,138,132,135,127,30,184,229,217,116,216,115,224,101,34,73,1,85,95,184,130,21,144,163,59,172,198,30,57,112,28,249,180,107,210,91,245,240,89,91,190,36,101,81,65,67,142,122,16,11]
theorem aaN:b9 (Cg oM)=0x4fe94d9006f020a5a3c080d96827fffd3c010ac0f12e7a42cb33284f86837c30:=by decide+kernel
theorem SZ:Mj oM []=0x474a058ac758fc5edc2af18741049226853afb47d7844f2ea3d898c300789f3:=by decide+kernel
theorem alp:qk (Nu++(x4++[]))=0x454522e167e3e8a132cec316125d8f86cdf00c6e70405293d19964c8ebcea86:=by decide+kernel
theorem as8 {p:Int×Int×Int} {A B:Int×Int} (aV:Go.Fd.on A) (da:Go.Fd.on B) (h:Go.Fd.CV p A) (hx:p.1% aa=B.1*p.2.2% aa) (hy:p.2.1% aa=B.2*p.2.2% aa):A=B:=by
 obtain⟨n,h1,h2⟩:=h;refine Go.Fd.Ww aV da ?_ ?_
 ·have:=Go.Fd.su.1 (h1.symm.trans hx);rw[kL A.1,kL B.1]at this;exact Go.Fd.se.cancel (mt Go.Fd.sw.2 n) this
 ·have:=Go.Fd.su.1 (h2.symm.trans hy);rw[kL A.2,kL B.2]at this;exact Go.Fd.se.cancel (mt Go.Fd.sw.2 n) this
def alk:Int×Int:=(0x55d0e09a2b9d34292297e08d60d0f620c513d47253187c24b12786bd777645ce,0x1a5107f7681a02af2523a6daf372e10e3a0764c9d3fe4bd5b70ab18201985ad7)
def alm:Int×Int:=(0x6218e309d40065fcc338b3127f46837182324bd01ce6f3cf81ab44e62959c82a,0x5501492265e073d874d9e5b81e7f87848a826e80cce2869072ac60c3004356e5)
theorem ayD:Go.Fd.on alk:=by unfold Go.Fd.on alk;decide+kernel
theorem ayE:Go.Fd.on alm:=by unfold Go.Fd.on alm;decide+kernel
theorem ayF:Go.Fd.enc (Go.Fd.eK 0x4fe94d9006f020a5a3c080d96827fffd3c010ac0f12e7a42cb33284f86837c30 Go.Fd.kn)=b9 x4:=by
 rw[as8 (Go.Fd.j1 Go.Fd.m8 _) ayD (Go.Fd.V1 Go.Fd.m8 Go.Fd.Wh 256 0x4fe94d9006f020a5a3c080d96827fffd3c010ac0f12e7a42cb33284f86837c30 (by decide)) (by decide+kernel) (by decide+kernel)];decide+kernel
theorem aln:Go.Fd.enc (Go.Fd.eK 0x474a058ac758fc5edc2af18741049226853afb47d7844f2ea3d898c300789f3 Go.Fd.kn)=b9 Nu:=by
 rw[as8 (Go.Fd.j1 Go.Fd.m8 _) ayE (Go.Fd.V1 Go.Fd.m8 Go.Fd.Wh 256 0x474a058ac758fc5edc2af18741049226853afb47d7844f2ea3d898c300789f3 (by decide)) (by decide+kernel) (by decide+kernel)];decide+kernel
theorem Hk:ay (aT 0 255 32) x4/\ay (aT 0 255 32) Nu/\ay (aT 0 255 32) aaM:=by
 refine⟨?_,?_,?_⟩<;>exact vv 32 _ rfl (by decide)
theorem SY:Ae oM=b9 x4:=by
 show Go.Fd.enc (Go.Fd.eK (b9 (Cg oM)).toNat Go.Fd.kn)=_;rw[aaN];exact ayF
theorem ayG {r g:List Int} (aGQ:ay (aT 0 255 32) r) (aL:SB 680 [oM] [r]) (yo:ay (aT 0 255 64) g) (s1:SB 681 [oM,[0]] [g]):r=x4/\g=EY:=by
 have aL:b9 r=Ae oM:=aL;have s1:xG oM (aJ 0) g:=s1;have hr:r=x4:=Go.Fd.ti aGQ Hk.1 (aL.trans SY);refine⟨hr,?_⟩;rw[show aJ 0=[] by unfold aJ;rw[j2];rfl]at s1;obtain⟨h1,A,aew,aV,h2⟩:=s1;have TU:A=x4:=Go.Fd.ti aew Hk.1 (aV.trans SY);subst TU;have anP:g.take 32=Nu:=Go.Fd.ti (Ln yo).1 Hk.2.1 (h1.trans (by rw[SZ];exact aln));rw[anP,alp,aaN,SZ]at h2;have aA3:g.drop 32=aaM:=Go.Fd.ti (Ln yo).2 Hk.2.2 (h2.trans (by decide+kernel));rw[<-List.take_append_drop 32 g,anP,aA3];rfl
theorem ayJ:xG oM [] EY:=by
 refine⟨?_,x4,Hk.1,SY.symm,?_⟩
 ·rw[SZ];exact aln.symm
 ·rw[show EY.take 32=Nu by rfl,show EY.drop 32=aaM by rfl,alp,aaN,SZ];decide+kernel
theorem aAt {k g:List Int} {z:Int} (kF:ay (aT 0 255 32) k) (yo:ay (aT 0 255 64) g) (hz:(af z).length<=100000000):∀x∈fy k 0 32++[z]++fy g 0 64,(af x).length<=100000000:=λx hx=>by
 rw[Fo (by rw[dj kF];decide),mu (by rw[dj kF];decide),aCr (dj yo)]at hx;rcases List.mem_append.1 hx with hx|hx
 ·rcases List.mem_append.1 hx with hx|hx
  ·exact S4 kF x hx
  ·rw[List.mem_singleton.1 hx];exact hz
 ·exact S4 yo x hx
theorem avZ:(af 0).length<=100000000:=by rw[j2];decide
theorem alo:aj 75 (oM++[0]):=λx hx=>by
 rcases List.mem_append.1 hx with hx|hx
 ·exact S4 (vv 32 oM rfl (by decide)) x hx
 ·rw[List.mem_singleton.1 hx];exact avZ
theorem ayH:aj 75 (fy x4 0 32++[0]++fy EY 0 64):=aAt Hk.1 (vv 64 _ rfl (by decide)) avZ
theorem ayI {z:Int} (s:SB 682 [x4,[0],EY] [[z]]):ej SB [.d .bool] 683 [] [[cond (decide (z=1)) 1 0]]:=by
 have s:z=1↔Ij x4 (aJ 0) EY:=s;have h:z=1:=s.2 (by
  rw[show aJ 0=[] by unfold aJ;rw[j2];rfl];exact sign_holds Hk.1 SY.symm ayJ)
 rw[decide_eq_true h];exact⟨⟨by decide,by decide,trivial⟩,(rfl:(1:Int)=1)⟩
theorem aMj:ajF SB (ej SB [.d .bool] 683):=by
 have aV:r9 SB (ej SB [.d .bool] 683) x4 EY:=JB rfl (JB rfl (JB rfl (JB rfl (JB rfl (JB rfl (JB rfl ⟨ayH,λz _ _ s=>ayI s⟩))))));have m:∀k,ay (aT 0 255 32) k->SB 680 [oM] [k]->∀g,ay (aT 0 255 64) g->SB 681 [oM,[0]] [g]->r9 SB (ej SB [.d .bool] 683) k g:=λk kF xH g yo Ej=>by
  obtain⟨rfl,rfl⟩:=ayG kF xH yo Ej;exact aV
 have a:∀k,ay (aT 0 255 32) k->SB 680 [oM] [k]->uL SB λg=>r9 SB (ej SB [.d .bool] 683) k g:=λk kF xH=>⟨alo,m k kF xH⟩;have b:JC SB oM λk=>(uL SB λg=>r9 SB (ej SB [.d .bool] 683) k g)/\(uL SB λg=>r9 SB (ej SB [.d .bool] 683) k g):=λk kF xH=>⟨a k kF xH,a k kF xH⟩;have c:JC SB oM λk=>uL SB λg=>r9 SB (ej SB [.d .bool] 683) k g:=a;exact⟨λk kF xH=>⟨⟨alo,λg yo Ej=>⟨m k kF xH g yo Ej,m k kF xH g yo Ej⟩⟩,⟨⟨a k kF xH,a k kF xH⟩,⟨a k kF xH,a k kF xH⟩⟩⟩,⟨⟨b,c⟩,⟨b,c⟩⟩⟩
end Go.dg
set_option maxRecDepth 20000
namespace Go.Fd
open Go.bX
def ZL (S:zzS) (K:zzK):Prop:=dx 5 S 34 [[PJ,PK,PL,PM,PF],[PJ,PK,PL,PM,PF]] λr0=>K [] [r0]
theorem aN2 (G):ZL (fu G) (e6 vE.res 100):=by
 simp(maxSteps:=4000000) only[ZL,dx,PJ,PK,PL,PM,PF];intro r0 i0 aL;have aL:v5 r0% aa=(v5 _+v5 _)% aa:=aL.1;refine⟨k0 i0,?_⟩;show v5 r0% aa=2*dQ% aa;rw[aL,asC,<-Int.two_mul]
def YV (S:zzS) (K:zzK):Prop:=bS 5 λr0=>bS 5 λaD=>dx 5 S 33 [r0,aD] λcH=>K [r0,aD] [r0,aD,[1,0,0,0,0],cH]
theorem aMp (G):YV (fu G) (e6 o9.res 101):=by
 simp(maxSteps:=4000000) only[YV,dx,bS];intro r0 i0 aD i5 cH i10 aL;have aL:v5 cH% aa=v5 r0*v5 aD% aa:=aL.1;exact⟨IA i0 i5 aGM i10,rfl,rfl,by decide,aL⟩
def YL (S:zzS) (K:zzK):Prop:=bS 5 λr0=>bS 5 λaD=>bS 5 λcH=>bS 5 λeV=>S 101 [[aqA,aqB,aqC,aqD,aqE],[aqF,aqG,aqH,aqI,aqJ]] [r0,aD,cH,eV]->K [] [r0,aD,cH,eV]
theorem aLZ (G):YL (fu G) (e6 sF.res 102):=by
 simp(maxSteps:=4000000) only[YL,bS,aqA,aqB,aqC,aqD,aqE,aqF,aqG,aqH,aqI,aqJ];intro r0 i0 aD i5 cH i10 eV i15 aL;have aL:RO [[0x62d608f25d51a,0x412a4b4f6592a,0x75b7171a4b31d,562264141797630,587772402128613],[0x6666666666658,0x4cccccccccccc,450359962737049,900719925474099,0x6666666666666]] [r0,aD,cH,eV]:=aL.1;exact⟨IA i0 i5 i10 i15,aL.1.trans (by decide),aL.2.1.trans (by decide),aL.2.2.1,aL.2.2.2.trans (by decide)⟩
def YT (S:zzS) (K:zzK):Prop:=bS 5 λr0=>bS 5 λaD=>bS 5 λcH=>bS 5 λeV=>S 101 [[0,0,0,0,0],[1,0,0,0,0]] [r0,aD,cH,eV]->K [] [r0,aD,cH,eV]
theorem aL8 (G):YT (fu G) (e6 vw.res 103):=by
 simp(maxSteps:=4000000) only[YT,bS];intro r0 i0 aD i5 cH i10 eV i15 aL;have aL:RO [[0,0,0,0,0],[1,0,0,0,0]] [r0,aD,cH,eV]:=aL.1;exact⟨IA i0 i5 i10 i15,aL.1.trans (by decide),aL.2.1.trans (by decide),aL.2.2.1,aL.2.2.2.trans (by decide)⟩
def YR (S:zzS) (K:zzK):Prop:=bS 5 λr0=>bS 5 λaD=>bS 5 λcH=>bS 5 λeV=>dx 5 S 33 [r0,aD] λec=>dx 5 S 33 [cH,eV] λef=>dx 5 S 33 [aD,cH] λr4=>dx 5 S 33 [r0,eV] λnB=>K [r0,aD,cH,eV] [ec,ef,r4,nB]
theorem aL6 (G):YR (fu G) (e6 rO.res 104):=by
 simp(maxSteps:=4000000) only[YR,dx,bS];intro r0 i0 aD i5 cH i10 eV i15 ec i20 aL ef i25 s1 r4 i30 s2 nB i35 bx;have aL:v5 ec% aa=v5 r0*v5 aD% aa:=aL.1;have s1:v5 ef% aa=v5 cH*v5 eV% aa:=s1.1;have s2:v5 r4% aa=v5 aD*v5 cH% aa:=s2.1;have bx:v5 nB% aa=v5 r0*v5 eV% aa:=bx.1;exact⟨IA i20 i25 i30 i35,aL,s1,s2,bx⟩
def YS (S:zzS) (K:zzK):Prop:=bS 5 λr0=>bS 5 λaD=>bS 5 λcH=>bS 5 λeV=>bS 5 λec=>bS 5 λef=>bS 5 λr4=>bS 5 λnB=>dx 5 S 32 [aD,r0] λie=>dx 5 S 32 [ef,ec] λvL=>dx 5 S 33 [ie,vL] λtl=>dx 5 S 34 [aD,r0] λtn=>dx 5 S 34 [ef,ec] λqp=>dx 5 S 33 [tn,qp] λtp=>dx 5 S 33 [eV,nB] λkg=>dx 5 S 100 [] λEg=>dx 5 S 33 [kg,Eg] λuD=>dx 5 S 33 [cH,r4] λMh=>dx 5 S 34 [Mh,Mh] λMi=>dx 5 S 32 [tp,tl] λxu=>dx 5 S 32 [Mi,uD] λWy=>dx 5 S 34 [Mi,uD] λWz=>dx 5 S 34 [tp,tl] λWA=>bS 5 λWB=>bS 5 λWC=>bS 5 λWD=>bS 5 λWE=>S 104 [xu,Wy,Wz,WA] [WB,WC,WD,WE]->K [r0,aD,cH,eV,ec,ef,r4,nB] [WB,WC,WD,WE]
theorem aL7 (G):YS (fu G) (e6 sG.res 105):=by
 simp(maxSteps:=4000000) only[YS,dx,bS];intro r0 i0 aD i5 cH i10 eV i15 ec i20 ef i25 r4 i30 nB i35 ie i40 aL vL i45 s1 tl i50 s2 tn i55 bx qp i60 cG tp i65 er kg i70 eW Eg i75 gm uD i80 hO Mh i85 jx Mi i90 ph xu i95 r8 Wy i100 Ju Wz i105 Jv WA i110 Jw WB i115 WC i120 WD i125 WE i130 Cd;have aL:v5 ie% aa=(v5 aD-v5 r0)% aa:=aL.1;have s1:v5 vL% aa=(v5 ef-v5 ec)% aa:=s1.1;have s2:v5 tl% aa=v5 ie*v5 vL% aa:=s2.1;have bx:v5 tn% aa=(v5 aD+v5 r0)% aa:=bx.1;have cG:v5 qp% aa=(v5 ef+v5 ec)% aa:=cG.1;have er:v5 tp% aa=v5 tn*v5 qp% aa:=er.1;have eW:v5 kg% aa=v5 eV*v5 nB% aa:=eW.1;have gm:atP [] [Eg]:=gm.1;have hO:v5 uD% aa=v5 kg*v5 Eg% aa:=hO.1;have jx:v5 Mh% aa=v5 cH*v5 r4% aa:=jx.1;have ph:v5 Mi% aa=(v5 Mh+v5 Mh)% aa:=ph.1;have r8:v5 xu% aa=(v5 tp-v5 tl)% aa:=r8.1;have Ju:v5 Wy% aa=(v5 Mi-v5 uD)% aa:=Ju.1;have Jv:v5 Wz% aa=(v5 Mi+v5 uD)% aa:=Jv.1;have Jw:v5 WA% aa=(v5 tp+v5 tl)% aa:=Jw.1;have Cd:aht [xu,Wy,Wz,WA] [WB,WC,WD,WE]:=Cd.1;refine⟨IA i115 i120 i125 i130,?_⟩;intro A B aV da aQ bn;exact aPv aV da aQ bn aL s1 s2 bx cG er eW gm hO jx ph r8 Ju Jv Jw Cd.1 Cd.2.1 Cd.2.2.1 Cd.2.2.2
def YU (S:zzS) (K:zzK):Prop:=bS 5 λr0=>bS 5 λaD=>bS 5 λcH=>dx 5 S 47 [r0] λeV=>dx 5 S 47 [aD] λec=>dx 5 S 47 [cH] λef=>dx 5 S 34 [ef,ef] λr4=>dx 5 S 34 [eV,ec] λnB=>dx 5 S 34 [r0,aD] λie=>dx 5 S 47 [ie] λvL=>dx 5 S 32 [nB,vL] λtl=>dx 5 S 32 [eV,ec] λtn=>dx 5 S 34 [r4,tn] λqp=>bS 5 λtp=>bS 5 λkg=>bS 5 λEg=>bS 5 λuD=>S 104 [tl,qp,tn,nB] [tp,kg,Eg,uD]->K [r0,aD,cH] [tp,kg,Eg,uD]
theorem aMe (G):YU (fu G) (e6 vx.res 106):=by
 simp(maxSteps:=4000000) only[YU,dx,bS];intro r0 i0 aD i5 cH i10 eV i15 aL ec i20 s1 ef i25 s2 r4 i30 bx nB i35 cG ie i40 er vL i45 eW tl i50 gm tn i55 hO qp i60 jx tp i65 kg i70 Eg i75 uD i80 ph;have aL:v5 eV% aa=v5 r0*v5 r0% aa:=aL.1;have s1:v5 ec% aa=v5 aD*v5 aD% aa:=s1.1;have s2:v5 ef% aa=v5 cH*v5 cH% aa:=s2.1;have bx:v5 r4% aa=(v5 ef+v5 ef)% aa:=bx.1;have cG:v5 nB% aa=(v5 eV+v5 ec)% aa:=cG.1;have er:v5 ie% aa=(v5 r0+v5 aD)% aa:=er.1;have eW:v5 vL% aa=v5 ie*v5 ie% aa:=eW.1;have gm:v5 tl% aa=(v5 nB-v5 vL)% aa:=gm.1;have hO:v5 tn% aa=(v5 eV-v5 ec)% aa:=hO.1;have jx:v5 qp% aa=(v5 r4+v5 tn)% aa:=jx.1;have ph:aht [tl,qp,tn,nB] [tp,kg,Eg,uD]:=ph.1;refine⟨IA i65 i70 i75 i80,?_⟩;intro A aV aQ;exact aPs aV aQ aL s1 s2 bx cG er eW gm hO jx ph.1 ph.2.1 ph.2.2.1 ph.2.2.2
def Y7 (S:zzS) (K:zzK):Prop:=bS 5 λr0=>bS 5 λaD=>bS 5 λcH=>bS 5 λeV=>oc 32 λec=>bS 5 λkJ=>bS 5 λq6=>bS 5 λlV=>bS 5 λCb=>S 103 [] [kJ,q6,lV,Cb]->∃(SM:List (List Int)->Prop) (YB:List (List Int)->Nat),SM [[255],kJ,q6,lV,Cb]/\(dy (-1) 255 λfZ=>bS 5 λgT=>bS 5 λr7=>bS 5 λtq=>bS 5 λJi=>SM [[fZ],gT,r7,tq,Ji]->(((decide (0<=fZ))=true->bS 5 λyH=>bS 5 λyI=>bS 5 λrY=>bS 5 λyE=>S 106 [gT,r7,tq] [yH,yI,rY,yE]->aq 0 31 fZ 8 λmY=>eo 255 (U ec (mY).toNat 0) λsS=>aq 0 31 fZ 8 λz116=>eo 255 (sS/2^((fZ+((-8)*z116))).toNat) λz117=>aq 0 127 z117 2 λnF=>(((decide ((z117+((-2)*nF))=1))=true->bS 5 λGi=>bS 5 λGj=>bS 5 λGk=>bS 5 λGl=>S 105 [yH,yI,rY,yE,r0,aD,cH,eV] [Gi,Gj,Gk,Gl]->(SM [[(fZ+(-1))],Gi,Gj,Gk,Gl]/\YB [[(fZ+(-1))],Gi,Gj,Gk,Gl]<YB [[fZ],gT,r7,tq,Ji]))/\((decide ((z117+((-2)*nF))=1))=false->(SM [[(fZ+(-1))],yH,yI,rY,yE]/\YB [[(fZ+(-1))],yH,yI,rY,yE]<YB [[fZ],gT,r7,tq,Ji]))))/\((decide (0<=fZ))=false->K [r0,aD,cH,eV,ec] [gT,r7,tq,Ji])))
theorem aMG (G):Y7 (fu G) (Z3 G):=by
 simp(maxSteps:=4000000) only[Y7,eo,dy,aq,oc,bS];intro r0 i0 aD i5 cH i10 eV i15 ec i20 kJ i52 q6 i57 lV i62 Cb i67 aL;have Mq:=aL.2;have aL:ahv [] [kJ,q6,lV,Cb]:=aL.1;refine⟨λl=>match l with|[[i],x,y,z,t]=>(∀A,on A->m5 (v5 r0) (v5 aD) (v5 cH) (v5 eV) A->m5 (v5 x) (v5 y) (v5 z) (v5 t) (eK ((nb ec).toNat/2^(i+1).toNat) A))/\[x,y,z,t].flatten=xo G [r0,aD,cH,eV].flatten (nb ec).toNat (255-i).toNat|_=>False,λl=>match l with|[[i],_,_,_,_]=>(i+1).toNat|_=>0,?_,?_⟩
 ·show(∀A,on A->m5 (v5 r0) (v5 aD) (v5 cH) (v5 eV) A->m5 (v5 kJ) (v5 q6) (v5 lV) (v5 Cb) (eK ((nb ec).toNat/2^(255+1:Int).toNat) A))/\[kJ,q6,lV,Cb].flatten=xo G [r0,aD,cH,eV].flatten (nb ec).toNat (255-255:Int).toNat;refine⟨λA aV an=>?_,Mq⟩;rw[auq i20];exact aV5 aL
 ·intro fZ ET Bm gT i74 r7 i79 tq i84 Ji i89 ea;have ea:(∀A,on A->m5 (v5 r0) (v5 aD) (v5 cH) (v5 eV) A->m5 (v5 gT) (v5 r7) (v5 tq) (v5 Ji) (eK ((nb ec).toNat/2^(fZ+1).toNat) A))/\[gT,r7,tq,Ji].flatten=xo G [r0,aD,cH,eV].flatten (nb ec).toNat (255-fZ).toNat:=ea;refine⟨λh0=>?_,λh0=>?_⟩
  ·skip
   simp only[c6,dZ,dD,ei,decide_eq_true_eq,decide_eq_false_iff_not]at h0;intro yH i94 yI i99 rY i104 yE i109 s1 mY aaD aa4 amC d114 sS aaE aa5 ans z116 a116 aa6 amD d116 z117 a117 alC ant nF akQ alD amE d118;have Jx:=s1.2;have s1:atI [gT,r7,tq] [yH,yI,rY,yE]:=s1.1;refine⟨λh1=>?_,λh1=>?_⟩
   ·skip
    simp only[c6,dZ,dD,ei,decide_eq_true_eq,decide_eq_false_iff_not]at h1;intro Gi i119 Gj i124 Gk i129 Gl i134 s2;have ahs:=s2.2;have s2:W0 [yH,yI,rY,yE,r0,aD,cH,eV] [Gi,Gj,Gk,Gl]:=s2.1;obtain⟨i,rfl⟩:=mr h0;have hb:=S8 i20 Bm amC d114 ans amD d116 ant amE d118;have l9:((i:Int)+1).toNat=i+1:=by omega
    have tT:((i:Int)+(-1)+1).toNat=i:=by omega
    obtain⟨ea,hF⟩:=ea;rw[l9]at ea;have sx:(255-(i:Int)).toNat=255-i:=by omega
    have zG:(255-((i:Int)+(-1))).toNat=(255-i)+1:=by omega
    have zH:255-(255-i)=i:=by omega
    rw[sx]at hF;have g0:[yH,yI,rY,yE].flatten=G 106 [gT,r7,tq].flatten:=Jx;rw[<-auk i74 i79 i84 i89,hF]at g0;have g1:[Gi,Gj,Gk,Gl].flatten=G 105 [yH,yI,rY,yE,r0,aD,cH,eV].flatten:=ahs;rw[aBu,g0]at g1;have cF:(nb ec).toNat/2^i% 2=1:=by omega
    refine⟨⟨λA aV an=>?_,?_⟩,?_⟩
    ·show m5 (v5 Gi) (v5 Gj) (v5 Gk) (v5 Gl) (eK ((nb ec).toNat/2^((i:Int)+(-1)+1).toNat) A);rw[tT,asb aV cF];have k1:=s1 _ (j1 aV _) (ea A aV an).j;exact s2 _ _ (wO (j1 aV _) (j1 aV _)) aV k1 an
    ·show [Gi,Gj,Gk,Gl].flatten=xo G [r0,aD,cH,eV].flatten (nb ec).toNat (255-((i:Int)+(-1))).toNat;rw[zG,xo,zH];have:((nb ec).toNat/2^i% 2==1)=true:=by simpa using cF
     rw[this,cond_true];exact g1
    ·show((i:Int)+(-1)+1).toNat<((i:Int)+1).toNat;omega
   ·skip
    simp only[c6,dZ,dD,ei,decide_eq_true_eq,decide_eq_false_iff_not]at h1;obtain⟨i,rfl⟩:=mr h0;have hb:=S8 i20 Bm amC d114 ans amD d116 ant amE d118;have l9:((i:Int)+1).toNat=i+1:=by omega
    have tT:((i:Int)+(-1)+1).toNat=i:=by omega
    obtain⟨ea,hF⟩:=ea;rw[l9]at ea;have sx:(255-(i:Int)).toNat=255-i:=by omega
    have zG:(255-((i:Int)+(-1))).toNat=(255-i)+1:=by omega
    have zH:255-(255-i)=i:=by omega
    rw[sx]at hF;have g0:[yH,yI,rY,yE].flatten=G 106 [gT,r7,tq].flatten:=Jx;rw[<-auk i74 i79 i84 i89,hF]at g0;have cF:(nb ec).toNat/2^i% 2≠1:=by omega
    refine⟨⟨λA aV an=>?_,?_⟩,?_⟩
    ·show m5 (v5 yH) (v5 yI) (v5 rY) (v5 yE) (eK ((nb ec).toNat/2^((i:Int)+(-1)+1).toNat) A);rw[tT,asa aV cF];exact s1 _ (j1 aV _) (ea A aV an).j
    ·show [yH,yI,rY,yE].flatten=xo G [r0,aD,cH,eV].flatten (nb ec).toNat (255-((i:Int)+(-1))).toNat;rw[zG,xo,zH];have:((nb ec).toNat/2^i% 2==1)=false:=by simpa using cF
     rw[this,cond_false];exact g0
    ·show((i:Int)+(-1)+1).toNat<((i:Int)+1).toNat;omega
  ·skip
   simp only[c6,dZ,dD,ei,decide_eq_true_eq,decide_eq_false_iff_not]at h0;obtain⟨ea,hF⟩:=ea;have l9:(fZ+1).toNat=0:=by omega
   have sx:(255-fZ).toNat=256:=by omega
   rw[l9]at ea;rw[sx]at hF;refine⟨⟨IA i74 i79 i84 i89,?_⟩,hF⟩;intro A aV an;have ea:=ea A aV an
   rwa [Nat.pow_zero,Nat.div_one]at ea
def YM (S:zzS) (K:zzK):Prop:=bS 5 λr0=>bS 5 λaD=>bS 5 λcH=>dx 5 S 35 [cH] λeV=>dx 5 S 33 [aD,eV] λec=>oI 32 S 31 [ec] λef=>dx 5 S 33 [r0,eV] λq6=>dI λfR=>S 49 [q6] [[fR]]->(((decide (fR=1))=true->∀ew:Int,0<=ew->ew<=cL .u8->ew=br .or .u8 (U ef 31 0) 128->K [r0,aD,cH] [[(U ef 0 0),(U ef 1 0),(U ef 2 0),(U ef 3 0),(U ef 4 0),(U ef 5 0),(U ef 6 0),(U ef 7 0),(U ef 8 0),(U ef 9 0),(U ef 10 0),(U ef 11 0),(U ef 12 0),(U ef 13 0),(U ef 14 0),(U ef 15 0),(U ef 16 0),(U ef 17 0),(U ef 18 0),(U ef 19 0),(U ef 20 0),(U ef 21 0),(U ef 22 0),(U ef 23 0),(U ef 24 0),(U ef 25 0),(U ef 26 0),(U ef 27 0),(U ef 28 0),(U ef 29 0),(U ef 30 0),ew]])/\((decide (fR=1))=false->K [r0,aD,cH] [ef]))
theorem aL0 (G):YM (fu G) (e6 qh.res 108):=by
 simp(maxSteps:=4000000) only[YM,dI,oI,dx,bS];intro r0 i0 aD i5 cH i10 eV i15 aL ec i20 s1 ef i25 s2 q6 i57 bx fR x3 x5 cG;have aL:v5 eV% aa=cJ (v5 cH) vp:=aL.1;have s1:v5 ec% aa=v5 aD*v5 eV% aa:=s1.1;have s2:nb ef=v5 ec% aa:=s2.1;have bx:v5 q6% aa=v5 r0*v5 eV% aa:=bx.1;have cG:fR=v5 q6% aa% 2:=cG.1;refine⟨λh0=>?_,λh0=>?_⟩
 ·skip
  simp only[c6,dZ,dD,ei,decide_eq_true_eq,decide_eq_false_iff_not]at h0;intro ew Hd Hn KJ;have eu:v5 ec% aa=v5 aD*lR (v5 cH)% aa:=s1.trans (gf rfl (aL.trans (QP _ _).symm));have aQ:v5 q6% aa=v5 r0*lR (v5 cH)% aa:=bx.trans (gf rfl (aL.trans (QP _ _).symm));rw[eu]at s2;rw[aQ]at cG;have hlt:nb ef<fl:=by rw[s2];exact Int.lt_trans (yy _).2 (by decide)
  have aB:=auo i25 hlt;have hg:=aoB i25;rw[aLI hg.1 aB]at KJ;subst KJ;refine⟨aqu i25 (by omega) (by omega),?_⟩;show nb _=Bz (v5 r0) (v5 aD) (v5 cH);rw[agc i25];unfold Bz;rw[<-cG,s2,h0];unfold fl;omega
 ·skip
  simp only[c6,dZ,dD,ei,decide_eq_true_eq,decide_eq_false_iff_not]at h0;have eu:v5 ec% aa=v5 aD*lR (v5 cH)% aa:=s1.trans (gf rfl (aL.trans (QP _ _).symm));have aQ:v5 q6% aa=v5 r0*lR (v5 cH)% aa:=bx.trans (gf rfl (aL.trans (QP _ _).symm));rw[eu]at s2;rw[aQ]at cG;have hlt:nb ef<fl:=by rw[s2];exact Int.lt_trans (yy _).2 (by decide)
  refine⟨k0 i25,?_⟩;show nb ef=Bz (v5 r0) (v5 aD) (v5 cH);unfold Bz;rw[<-cG,s2,show fR=0 by clear s2 cG eu aQ hlt;omega,Int.mul_zero,wI]
def Zk (S:zzS) (K:zzK):Prop:=oc 32 λr0=>bg (U r0 31 0) 128 λbj=>bg (U r0 31 0) 128 λbM=>dI λcw=>S 22 [[(U r0 0 0),(U r0 1 0),(U r0 2 0),(U r0 3 0),(U r0 4 0),(U r0 5 0),(U r0 6 0),(U r0 7 0),(U r0 8 0),(U r0 9 0),(U r0 10 0),(U r0 11 0),(U r0 12 0),(U r0 13 0),(U r0 14 0),(U r0 15 0),(U r0 16 0),(U r0 17 0),(U r0 18 0),(U r0 19 0),(U r0 20 0),(U r0 21 0),(U r0 22 0),(U r0 23 0),(U r0 24 0),(U r0 25 0),(U r0 26 0),(U r0 27 0),(U r0 28 0),(U r0 29 0),(U r0 30 0),((U r0 31 0)+((-128)*bM))]] [[cw]]->((((!(decide (cw=1))))=true->K [r0] [[0,0,0,0,0],[0,0,0,0,0],[0,0,0,0,0],[0,0,0,0,0],[(cond (false) 1 0)]])/\(((!(decide (cw=1))))=false->dx 5 S 29 [[(U r0 0 0),(U r0 1 0),(U r0 2 0),(U r0 3 0),(U r0 4 0),(U r0 5 0),(U r0 6 0),(U r0 7 0),(U r0 8 0),(U r0 9 0),(U r0 10 0),(U r0 11 0),(U r0 12 0),(U r0 13 0),(U r0 14 0),(U r0 15 0),(U r0 16 0),(U r0 17 0),(U r0 18 0),(U r0 19 0),(U r0 20 0),(U r0 21 0),(U r0 22 0),(U r0 23 0),(U r0 24 0),(U r0 25 0),(U r0 26 0),(U r0 27 0),(U r0 28 0),(U r0 29 0),(U r0 30 0),((U r0 31 0)+((-128)*bM))]] λnB=>dx 5 S 47 [nB] λie=>dx 5 S 32 [ie,[1,0,0,0,0]] λvL=>dx 5 S 33 [ie,[PJ,PK,PL,PM,PF]] λtl=>dx 5 S 34 [tl,[1,0,0,0,0]] λtn=>dx 5 S 35 [tn] λqp=>dx 5 S 33 [vL,qp] λtp=>bS 5 λkg=>dI λz75=>S 30 [tp] [kg,[z75]]->((((!(decide (z75=1))))=true->K [r0] [[0,0,0,0,0],[0,0,0,0,0],[0,0,0,0,0],[0,0,0,0,0],[(cond (false) 1 0)]])/\(((!(decide (z75=1))))=false->((((!(decide ((128*bj)=0))))=true->dI λz76=>S 48 [kg,[0,0,0,0,0]] [[z76]]->(((decide (z76=1))=true->K [r0] [[0,0,0,0,0],[0,0,0,0,0],[0,0,0,0,0],[0,0,0,0,0],[(cond (false) 1 0)]])/\((decide (z76=1))=false->dx 5 S 50 [kg] λWH=>bS 5 λRz=>bS 5 λvM=>bS 5 λGm=>bS 5 λCc=>S 101 [WH,nB] [Rz,vM,Gm,Cc]->K [r0] [Rz,vM,Gm,Cc,[(cond (true) 1 0)]])))/\(((!(decide ((128*bj)=0))))=false->bS 5 λEh=>bS 5 λRy=>bS 5 λWI=>bS 5 λxt=>S 101 [kg,nB] [Eh,Ry,WI,xt]->K [r0] [Eh,Ry,WI,xt,[(cond (true) 1 0)]]))))))
theorem aMZ (G):Zk (fu G) (e6 th.res 109):=by
 simp(maxSteps:=4000000) only[Zk,dI,bg,dx,oc,bS,PJ,PK,PL,PM,PF];intro r0 i0 bj cN jI Kr d32 bM hT hX wX d33 cw iA iC aL;have aL:cw=bit (nb _<aa):=aL.1;refine⟨λh0=>?_,λh0=>?_⟩
 ·skip
  simp only[c6,dZ,dD,ei,decide_eq_true_eq,decide_eq_false_iff_not]at h0;have hm:=Qw i0 wX d33;have hz:bj=bM:=by clear aL;omega
  rw[hm.1]at aL;refine⟨PD yp yp yp yp (by decide),?_⟩;rw[aL]at h0;show G7 (dec (nb r0)) _ _ _ _ _;rw[aAG (Ki h0)];rfl
 ·skip
  simp only[c6,dZ,dD,ei,decide_eq_true_eq,decide_eq_false_iff_not]at h0;intro nB i35 s1 ie i40 s2 vL i45 bx tl i50 cG tn i55 er qp i60 eW tp i65 gm kg i70 z75 a75 E3 hO;have s1:v5 nB% aa=nb _% aa:=s1.1;have s2:v5 ie% aa=v5 nB*v5 nB% aa:=s2.1;have bx:v5 vL% aa=(v5 ie-v5 [1,0,0,0,0])% aa:=bx.1;have cG:v5 tl% aa=v5 ie*v5 _% aa:=cG.1;have er:v5 tn% aa=(v5 tl+v5 [1,0,0,0,0])% aa:=er.1;have eW:v5 qp% aa=cJ (v5 tn) vp:=eW.1;have gm:v5 tp% aa=v5 vL*v5 qp% aa:=gm.1;have hO:(v5 kg% aa,z75)=nC (v5 tp% aa):=hO.1;refine⟨λh1=>?_,λh1=>?_⟩
  ·skip
   simp only[c6,dZ,dD,ei,decide_eq_true_eq,decide_eq_false_iff_not]at h1;have hm:=Qw i0 wX d33;have hz:bj=bM:=by clear aL;omega
   rw[hm.1]at aL;have hy:nb r0% fl<aa:=C9 (by rw[<-aL];exact h0);rw[hm.1]at s1;have q:=WM s1 s2 bx cG er eW gm;rw[q]at hO;have ag:z75=0:=by omega
   refine⟨PD yp yp yp yp (by decide),?_⟩;show G7 (dec (nb r0)) _ _ _ _ _;rw[aAJ hy hO ag];rfl
  ·skip
   simp only[c6,dZ,dD,ei,decide_eq_true_eq,decide_eq_false_iff_not]at h1;refine⟨λh2=>?_,λh2=>?_⟩
   ·skip
    simp only[c6,dZ,dD,ei,decide_eq_true_eq,decide_eq_false_iff_not]at h2;intro z76 a76 Bn jx;have jx:z76=bit (v5 kg% aa=v5 [0,0,0,0,0]% aa):=jx.1;refine⟨λh3=>?_,λh3=>?_⟩
    ·skip
     simp only[c6,dZ,dD,ei,decide_eq_true_eq,decide_eq_false_iff_not]at h3;have hm:=Qw i0 wX d33;have hz:bj=bM:=by clear aL;omega
     rw[hm.1]at aL;have hy:nb r0% fl<aa:=C9 (by rw[<-aL];exact h0);rw[hm.1]at s1;have q:=WM s1 s2 bx cG er eW gm;rw[q]at hO;have ag:z75≠0:=by omega
     have aA:nb r0/fl=1:=by rw[<-hm.2];omega
     rw[jx]at h3;have an:=C9 h3;have an:v5 kg% aa=0:=an;refine⟨PD yp yp yp yp (by decide),?_⟩;show G7 (dec (nb r0)) _ _ _ _ _;rw[aAL hy hO ag aA an];rfl
    ·skip
     simp only[c6,dZ,dD,ei,decide_eq_true_eq,decide_eq_false_iff_not]at h3;intro WH i77 ph Rz i82 vM i87 Gm i92 Cc i97 r8;have ph:v5 WH% aa=(0-v5 kg)% aa:=ph.1;have r8:RO [WH,nB] [Rz,vM,Gm,Cc]:=r8.1;have hm:=Qw i0 wX d33;have hz:bj=bM:=by clear aL;omega
     rw[hm.1]at aL;have hy:nb r0% fl<aa:=C9 (by rw[<-aL];exact h0);rw[hm.1]at s1;have q:=WM s1 s2 bx cG er eW gm;rw[q]at hO;have ag:z75≠0:=by omega
     have aA:nb r0/fl=1:=by rw[<-hm.2];omega
     rw[jx]at h3;have an:=Ki h3;have an:v5 kg% aa≠0:=an;refine⟨PD i82 i87 i92 i97 (by decide),?_⟩;show G7 (dec (nb r0)) _ _ _ _ _;rw[aAK hy hO ag aA an];have kY:v5 Rz% aa=(0-v5 kg% aa)% aa:=r8.1.trans (ph.trans (Bu rfl (xR _ _).symm));have rb:v5 vM% aa=nb r0% fl:=r8.2.1.trans (s1.trans (lO (sV _ (by decide)) hy));exact⟨rfl,kY,rb,r8.2.2.1,r8.2.2.2.trans (gf (r8.1.symm.trans (kY.trans (xR _ _).symm)) s1)⟩
   ·skip
    simp only[c6,dZ,dD,ei,decide_eq_true_eq,decide_eq_false_iff_not]at h2;intro Eh i76 Ry i81 WI i86 xt i91 jx;have jx:RO [kg,nB] [Eh,Ry,WI,xt]:=jx.1;have hm:=Qw i0 wX d33;have hz:bj=bM:=by clear aL;omega
    rw[hm.1]at aL;have hy:nb r0% fl<aa:=C9 (by rw[<-aL];exact h0);rw[hm.1]at s1;have q:=WM s1 s2 bx cG er eW gm;rw[q]at hO;have ag:z75≠0:=by omega
    have aA:¬nb r0/fl=1:=by rw[<-hm.2];omega
    refine⟨PD i76 i81 i86 i91 (by decide),?_⟩;show G7 (dec (nb r0)) _ _ _ _ _;rw[aAI hy hO ag aA];have rb:v5 Ry% aa=nb r0% fl:=jx.2.1.trans (s1.trans (lO (sV _ (by decide)) hy));exact⟨rfl,jx.1,rb,jx.2.2.1,jx.2.2.2.trans (gf (xR _ _).symm s1)⟩
def YQ (S:zzS) (K:zzK):Prop:=oc 32 λr0=>bS 5 λb6=>bS 5 λod=>bS 5 λr5=>bS 5 λEd=>dI λdA=>S 109 [r0] [b6,od,r5,Ed,[dA]]->((((!(decide (dA=1))))=true->K [r0] [[0,0,0,0,0,0,0,0,0,0,0,0,0,0,0,0,0,0,0,0,0,0,0,0,0,0,0,0,0,0,0,0],[1]])/\(((!(decide (dA=1))))=false->((dx 5 S 50 [b6] λEe=>oI 32 S 108 [Ee,od,r5] λoL=>K [r0] [oL,[0]])/\(dx 5 S 50 [b6] λEe=>oI 32 S 108 [Ee,od,r5] λoL=>K [r0] [oL,[0]]))))
theorem aL5 (G):YQ (fu G) (e6 Ab.res 112):=by
 simp(maxSteps:=4000000) only[YQ,dI,oI,dx,oc,bS];intro r0 i0 b6 i32 od i37 r5 i42 Ed i47 dA u6 ve aL;have aL:RP [r0] [b6,od,r5,Ed,[dA]]:=aL.1;refine⟨λh0=>?_,λh0=>?_⟩
 ·skip
  simp only[c6,dZ,dD,ei,decide_eq_true_eq,decide_eq_false_iff_not]at h0;have e:=as3 aL h0;refine⟨Lm aqv (by decide),?_⟩;show tJ _ _ _;rw[e];exact⟨rfl,by decide⟩
 ·skip
  simp only[c6,dZ,dD,ei,decide_eq_true_eq,decide_eq_false_iff_not]at h0;refine⟨?_,?_⟩
  ·skip
   intro Ee i53 s1 oL i58 s2;have s1:v5 Ee% aa=(0-v5 b6)% aa:=s1.1;have s2:Mr [Ee,od,r5] [oL]:=s2.1;obtain⟨CR,av,aQ⟩:=rd_some aL h0;have o1:=N2 av;refine⟨Lm i58 (by decide),?_⟩;show tJ _ _ _;rw[av];exact⟨rfl,s2.trans (Mk (F3 o1) (asn (s1) aQ.j))⟩
  ·skip
   intro Ee i53 s1 oL i58 s2;have s1:v5 Ee% aa=(0-v5 b6)% aa:=s1.1;have s2:Mr [Ee,od,r5] [oL]:=s2.1;obtain⟨CR,av,aQ⟩:=rd_some aL h0;have o1:=N2 av;refine⟨Lm i58 (by decide),?_⟩;show tJ _ _ _;rw[av];exact⟨rfl,s2.trans (Mk (F3 o1) (asn (s1) aQ.j))⟩
def YI (S:zzS) (K:zzK):Prop:=oc 32 λr0=>bS 5 λb6=>bS 5 λod=>bS 5 λr5=>bS 5 λEd=>S 102 [] [b6,od,r5,Ed]->bS 5 λkJ=>bS 5 λq6=>bS 5 λlV=>bS 5 λCb=>S 107 [b6,od,r5,Ed,r0] [kJ,q6,lV,Cb]->oI 32 S 108 [kJ,q6,lV] λEf=>K [r0] [Ef]
theorem aLX (G):YI (fu G) (e6 z8.res 114):=by
 simp(maxSteps:=4000000) only[YI,oI,oc,bS];intro r0 i0 b6 i32 od i37 r5 i42 Ed i47 aL kJ i52 q6 i57 lV i62 Cb i67 s1 Ef i72 s2;have aL:RN [] [b6,od,r5,Ed]:=aL.1;have s1:Ms [b6,od,r5,Ed,r0] [kJ,q6,lV,Cb]:=s1.1;have s2:Mr [kJ,q6,lV] [Ef]:=s2.1;exact⟨k0 i72,s2.trans (Mk (j1 m8 _) (s1 _ m8 (aba aL)).j)⟩
def YP (S:zzS) (K:zzK):Prop:=oc 32 λr0=>oc 32 λb6=>oc 32 λe0=>bS 5 λJj=>bS 5 λqn=>bS 5 λhM=>bS 5 λJd=>dI λz116=>S 109 [b6] [Jj,qn,hM,Jd,[z116]]->((((!(decide (z116=1))))=true->K [r0,b6,e0] [[0,0,0,0,0,0,0,0,0,0,0,0,0,0,0,0,0,0,0,0,0,0,0,0,0,0,0,0,0,0,0,0],[1]])/\(((!(decide (z116=1))))=false->((bS 5 λAo=>bS 5 λAp=>bS 5 λAq=>bS 5 λkV=>S 107 [Jj,qn,hM,Jd,r0] [Ao,Ap,Aq,kV]->bS 5 λAr=>bS 5 λAs=>bS 5 λAt=>bS 5 λAu=>S 102 [] [Ar,As,At,Au]->bS 5 λAv=>bS 5 λAw=>bS 5 λdJ=>bS 5 λAx=>S 107 [Ar,As,At,Au,e0] [Av,Aw,dJ,Ax]->bS 5 λAy=>bS 5 λAz=>bS 5 λAA=>bS 5 λJf=>S 105 [Ao,Ap,Aq,kV,Av,Aw,dJ,Ax] [Ay,Az,AA,Jf]->oI 32 S 108 [Ay,Az,AA] λpP=>K [r0,b6,e0] [pP,[0]])/\(bS 5 λAo=>bS 5 λAp=>bS 5 λAq=>bS 5 λkV=>S 107 [Jj,qn,hM,Jd,r0] [Ao,Ap,Aq,kV]->bS 5 λAr=>bS 5 λAs=>bS 5 λAt=>bS 5 λAu=>S 102 [] [Ar,As,At,Au]->bS 5 λAv=>bS 5 λAw=>bS 5 λdJ=>bS 5 λAx=>S 107 [Ar,As,At,Au,e0] [Av,Aw,dJ,Ax]->bS 5 λAy=>bS 5 λAz=>bS 5 λAA=>bS 5 λJf=>S 105 [Ao,Ap,Aq,kV,Av,Aw,dJ,Ax] [Ay,Az,AA,Jf]->oI 32 S 108 [Ay,Az,AA] λpP=>K [r0,b6,e0] [pP,[0]]))))
theorem aL4 (G):YP (fu G) (e6 Aa.res 115):=by
 simp(maxSteps:=4000000) only[YP,dI,oI,oc,bS];intro r0 i0 b6 i32 e0 i64 Jj i96 qn i101 hM i106 Jd i111 z116 a116 aa6 aL;have aL:RP [b6] [Jj,qn,hM,Jd,[z116]]:=aL.1;refine⟨λh0=>?_,λh0=>?_⟩
 ·skip
  simp only[c6,dZ,dD,ei,decide_eq_true_eq,decide_eq_false_iff_not]at h0;have e:=as3 aL h0;refine⟨Lm aqv (by decide),?_⟩;show tJ _ _ _;rw[e];exact⟨rfl,by decide⟩
 ·skip
  simp only[c6,dZ,dD,ei,decide_eq_true_eq,decide_eq_false_iff_not]at h0;refine⟨?_,?_⟩
  ·skip
   intro Ao i117 Ap i122 Aq i127 kV i132 s1 Ar i137 As i142 At i147 Au i152 s2 Av i157 Aw i162 dJ i167 Ax aGn bx Ay aGo Az aGp AA aGq Jf aGr cG pP US er;have s1:Ms [Jj,qn,hM,Jd,r0] [Ao,Ap,Aq,kV]:=s1.1;have s2:RN [] [Ar,As,At,Au]:=s2.1;have bx:Ms [Ar,As,At,Au,e0] [Av,Aw,dJ,Ax]:=bx.1;have cG:W0 [Ao,Ap,Aq,kV,Av,Aw,dJ,Ax] [Ay,Az,AA,Jf]:=cG.1;have er:Mr [Ay,Az,AA] [pP]:=er.1;obtain⟨CR,av,aQ⟩:=rd_some aL h0;have o1:=N2 av;refine⟨Lm US (by decide),?_⟩;show tJ _ _ _;rw[av];have k1:=s1 _ o1 aQ;have k2:=bx _ m8 (aba s2);exact⟨rfl,er.trans (Mk (wO (j1 o1 _) (j1 m8 _)) (cG _ _ (j1 o1 _) (j1 m8 _) k1 k2).j)⟩
  ·skip
   intro Ao i117 Ap i122 Aq i127 kV i132 s1 Ar i137 As i142 At i147 Au i152 s2 Av i157 Aw i162 dJ i167 Ax aGn bx Ay aGo Az aGp AA aGq Jf aGr cG pP US er;have s1:Ms [Jj,qn,hM,Jd,r0] [Ao,Ap,Aq,kV]:=s1.1;have s2:RN [] [Ar,As,At,Au]:=s2.1;have bx:Ms [Ar,As,At,Au,e0] [Av,Aw,dJ,Ax]:=bx.1;have cG:W0 [Ao,Ap,Aq,kV,Av,Aw,dJ,Ax] [Ay,Az,AA,Jf]:=cG.1;have er:Mr [Ay,Az,AA] [pP]:=er.1;obtain⟨CR,av,aQ⟩:=rd_some aL h0;have o1:=N2 av;refine⟨Lm US (by decide),?_⟩;show tJ _ _ _;rw[av];have k1:=s1 _ o1 aQ;have k2:=bx _ m8 (aba s2);exact⟨rfl,er.trans (Mk (wO (j1 o1 _) (j1 m8 _)) (cG _ _ (j1 o1 _) (j1 m8 _) k1 k2).j)⟩
end Go.Fd
namespace Go.Fd
open Go.bX
def Zi (S:zzS) (K:zzK):Prop:=K [] [[0x75eb4dca135978a3,0x700a4d4141d8ab,0x8cc740797779e898,0x52036cee2b6ffe73]]
theorem aMX (G):Zi (fu G) (e6 um.res 120):=by
 unfold Zi;exact⟨by simp[um,aX,D.bds,dO,ay,aT],by show ad _=dQ;decide⟩
def ZC (S:zzS) (K:zzK):Prop:=K [] [[0,0,0,0],[1,0,0,0],[1,0,0,0]]
theorem aNP (G):ZC (fu G) (e6 vD.res 121):=by
 unfold ZC;exact⟨aeC aGN aqt aqt,by decide,by decide,by decide⟩
def Zg (S:zzS) (K:zzK):Prop:=dn 4 λr0=>dn 4 λbb=>dn 4 λeO=>dn 4 λjN=>dn 4 λev=>dn 4 λec=>fb 4 S 36 [eO,ec] λgL=>fb 4 S 36 [gL,gL] λmH=>fb 4 S 36 [r0,jN] λb6=>fb 4 S 36 [bb,ev] λiy=>fb 4 S 120 [] λie=>fb 4 S 36 [b6,iy] λr6=>fb 4 S 36 [ie,r6] λoK=>fb 4 S 41 [mH,oK] λkJ=>fb 4 S 40 [mH,oK] λAB=>fb 4 S 36 [r0,ev] λqp=>fb 4 S 36 [bb,jN] λe0=>fb 4 S 40 [qp,e0] λpg=>fb 4 S 40 [iy,b6] λEf=>fb 4 S 36 [gL,kJ] λEh=>fb 4 S 36 [Eh,pg] λuD=>fb 4 S 36 [gL,AB] λtq=>fb 4 S 36 [tq,Ef] λag7=>fb 4 S 36 [kJ,AB] λGm=>K [r0,bb,eO,jN,ev,ec] [uD,ag7,Gm]
theorem aMT (G):Zg (fu G) (e6 vz.res 122):=by
 simp(maxSteps:=4000000) only[Zg,fb,dn];intro r0 i0 bb i4 eO i8 jN i12 ev i16 ec i20 gL i24 aL mH i28 s1 b6 i32 s2 iy i36 bx ie i40 cG r6 i44 er oK i48 eW kJ i52 gm AB i56 hO qp i60 jx e0 i64 ph pg i68 r8 Ef i72 Ju Eh i76 Jv uD i80 Jw tq i84 Cd ag7 i88 ahq Gm i92 ahr;have aL:ad gL=ad eO*ad ec% aa:=aL.1;have s1:ad mH=ad gL*ad gL% aa:=s1.1;have s2:ad b6=ad r0*ad jN% aa:=s2.1;have bx:ad iy=ad bb*ad ev% aa:=bx.1;have cG:ad ie=dQ:=cG.1;have er:ad r6=ad b6*ad iy% aa:=er.1;have eW:ad oK=ad ie*ad r6% aa:=eW.1;have gm:ad kJ=(ad mH-ad oK+(if ad mH<ad oK then aa else 0))% dT:=gm.1;have hO:ad AB=(ad mH+ad oK)% dT% aa:=hO.1;have jx:ad qp=ad r0*ad ev% aa:=jx.1;have ph:ad e0=ad bb*ad jN% aa:=ph.1;have r8:ad pg=(ad qp+ad e0)% dT% aa:=r8.1;have Ju:ad Ef=(ad iy+ad b6)% dT% aa:=Ju.1;have Jv:ad Eh=ad gL*ad kJ% aa:=Jv.1;have Jw:ad uD=ad Eh*ad pg% aa:=Jw.1;have Cd:ad tq=ad gL*ad AB% aa:=Cd.1;have ahq:ad ag7=ad tq*ad Ef% aa:=ahq.1;have ahr:ad Gm=ad kJ*ad AB% aa:=ahr.1;refine⟨aeC i80 i88 i92,?_⟩;intro A B aV da aQ bn;have aoI:=L4 s1;have aoJ:=L4 eW;have aCE:=L4 jx;have aCB:=L4 ph;have aCD:=L4 bx;have aCC:=L4 s2;have k1:ad oK% aa=dQ*ad r6% aa:=by rw[eW,cG];exact xR _ _
 have k2:ad kJ% aa=(ad mH-ad oK)% aa:=by rw[gm];exact aAQ aoI aoJ
 have k3:ad AB% aa=(ad mH+ad oK)% aa:=by rw[hO];exact smod aoI aoJ
 have k4:ad pg% aa=(ad qp+ad e0)% aa:=by rw[r8];exact smod aCE aCB
 have te:ad Ef% aa=(ad iy+ad b6)% aa:=by rw[Ju];exact smod aCD aCC
 exact as9 aV da aQ bn (yB aL) (yB s1) (yB s2) (yB bx) (yB er) k1 k2 k3 (yB jx) (yB ph) k4 te (yB Jv) (yB Jw) (yB Cd) (yB ahq) (yB ahr)
def Zs (S:zzS) (K:zzK):Prop:=oc 32 λr0=>dn 4 λb6=>dn 4 λiy=>dn 4 λie=>dn 4 λr6=>dn 4 λoK=>dn 4 λkJ=>S 121 [] [r6,oK,kJ]->∃(SK:List (List Int)->Prop) (Yz:List (List Int)->Nat),SK [[255],r6,oK,kJ]/\(dy (-1) 255 λdm=>dn 4 λoL=>dn 4 λlV=>dn 4 λuB=>SK [[dm],oL,lV,uB]->(((decide (0<=dm))=true->dn 4 λkg=>dn 4 λgT=>dn 4 λyG=>S 122 [oL,lV,uB,oL,lV,uB] [kg,gT,yG]->aq 0 31 dm 8 λl0=>eo 255 (U r0 (l0).toNat 0) λkK=>aq 0 31 dm 8 λmn=>eo 255 (kK/2^((dm+((-8)*mn))).toNat) λz85=>aq 0 127 z85 2 λmo=>(((decide ((z85+((-2)*mo))=1))=true->dn 4 λvM=>dn 4 λxt=>dn 4 λxu=>S 122 [kg,gT,yG,b6,iy,ie] [vM,xt,xu]->(SK [[(dm+(-1))],vM,xt,xu]/\Yz [[(dm+(-1))],vM,xt,xu]<Yz [[dm],oL,lV,uB]))/\((decide ((z85+((-2)*mo))=1))=false->(SK [[(dm+(-1))],kg,gT,yG]/\Yz [[(dm+(-1))],kg,gT,yG]<Yz [[dm],oL,lV,uB]))))/\((decide (0<=dm))=false->K [r0,b6,iy,ie] [oL,lV,uB])))
theorem aM6 (G):Zs (fu G) (Z4 G):=by
 simp(maxSteps:=4000000) only[Zs,eo,dy,aq,oc,dn];intro r0 i0 b6 i32 iy i36 ie i40 r6 i44 oK i48 kJ i52 aL;have Mq:=aL.2;have aL:ahy [] [r6,oK,kJ]:=aL.1;refine⟨λl=>match l with|[[i],x,y,z]=>(∀A,on A->l6 (ad b6) (ad iy) (ad ie) A->l6 (ad x) (ad y) (ad z) (eK ((nb r0).toNat/2^(i+1).toNat) A))/\[x,y,z].flatten=uE G [b6,iy,ie].flatten (nb r0).toNat (255-i).toNat|_=>False,λl=>match l with|[[i],_,_,_]=>(i+1).toNat|_=>0,?_,?_⟩
 ·show(∀A,on A->l6 (ad b6) (ad iy) (ad ie) A->l6 (ad r6) (ad oK) (ad kJ) (eK ((nb r0).toNat/2^(255+1:Int).toNat) A))/\[r6,oK,kJ].flatten=uE G [b6,iy,ie].flatten (nb r0).toNat (255-255:Int).toNat;refine⟨λA aV an=>?_,Mq⟩;rw[auq i0];exact aQo aL
 ·intro dm tL sn oL i58 lV i62 uB i66 ea;have ea:(∀A,on A->l6 (ad b6) (ad iy) (ad ie) A->l6 (ad oL) (ad lV) (ad uB) (eK ((nb r0).toNat/2^(dm+1).toNat) A))/\[oL,lV,uB].flatten=uE G [b6,iy,ie].flatten (nb r0).toNat (255-dm).toNat:=ea;refine⟨λh0=>?_,λh0=>?_⟩
  ·skip
   simp only[c6,dZ,dD,ei,decide_eq_true_eq,decide_eq_false_iff_not]at h0;intro kg i70 gT i74 yG i78 s1 l0 Ba Bo NS d82 kK Bb Bp Og mn Bc Bq NT d84 z85 a85 E4 Oh mo J6 Kd Tm d86;have Jx:=s1.2;have s1:ahw [oL,lV,uB,oL,lV,uB] [kg,gT,yG]:=s1.1;refine⟨λh1=>?_,λh1=>?_⟩
   ·skip
    simp only[c6,dZ,dD,ei,decide_eq_true_eq,decide_eq_false_iff_not]at h1;intro vM i87 xt i91 xu i95 s2;have ahs:=s2.2;have s2:ahw [kg,gT,yG,b6,iy,ie] [vM,xt,xu]:=s2.1;obtain⟨i,rfl⟩:=mr h0;have hb:=S8 i0 sn NS d82 Og NT d84 Oh Tm d86;have l9:((i:Int)+1).toNat=i+1:=by omega
    have tT:((i:Int)+(-1)+1).toNat=i:=by omega
    obtain⟨ea,hF⟩:=ea;rw[l9]at ea;have sx:(255-(i:Int)).toNat=255-i:=by omega
    have zG:(255-((i:Int)+(-1))).toNat=(255-i)+1:=by omega
    have zH:255-(255-i)=i:=by omega
    rw[sx]at hF;have g0:[kg,gT,yG].flatten=G 122 [oL,lV,uB,oL,lV,uB].flatten:=Jx;rw[acz,hF]at g0;have g1:[vM,xt,xu].flatten=G 122 [kg,gT,yG,b6,iy,ie].flatten:=ahs;rw[acz,g0]at g1;have cF:(nb r0).toNat/2^i% 2=1:=by omega
    refine⟨⟨λA aV an=>?_,?_⟩,?_⟩
    ·show l6 (ad vM) (ad xt) (ad xu) (eK ((nb r0).toNat/2^((i:Int)+(-1)+1).toNat) A);rw[tT,asb aV cF];have o7:=ea A aV an;have k1:=s1 _ _ (j1 aV _) (j1 aV _) o7 o7;exact s2 _ _ (wO (j1 aV _) (j1 aV _)) aV k1 an
    ·show [vM,xt,xu].flatten=uE G [b6,iy,ie].flatten (nb r0).toNat (255-((i:Int)+(-1))).toNat;rw[zG,uE,zH];have:((nb r0).toNat/2^i% 2==1)=true:=by simpa using cF
     rw[this,cond_true];exact g1
    ·show((i:Int)+(-1)+1).toNat<((i:Int)+1).toNat;omega
   ·skip
    simp only[c6,dZ,dD,ei,decide_eq_true_eq,decide_eq_false_iff_not]at h1;obtain⟨i,rfl⟩:=mr h0;have hb:=S8 i0 sn NS d82 Og NT d84 Oh Tm d86;have l9:((i:Int)+1).toNat=i+1:=by omega
    have tT:((i:Int)+(-1)+1).toNat=i:=by omega
    obtain⟨ea,hF⟩:=ea;rw[l9]at ea;have sx:(255-(i:Int)).toNat=255-i:=by omega
    have zG:(255-((i:Int)+(-1))).toNat=(255-i)+1:=by omega
    have zH:255-(255-i)=i:=by omega
    rw[sx]at hF;have g0:[kg,gT,yG].flatten=G 122 [oL,lV,uB,oL,lV,uB].flatten:=Jx;rw[acz,hF]at g0;have cF:(nb r0).toNat/2^i% 2≠1:=by omega
    refine⟨⟨λA aV an=>?_,?_⟩,?_⟩
    ·show l6 (ad kg) (ad gT) (ad yG) (eK ((nb r0).toNat/2^((i:Int)+(-1)+1).toNat) A);rw[tT,asa aV cF];have o7:=ea A aV an;exact s1 _ _ (j1 aV _) (j1 aV _) o7 o7
    ·show [kg,gT,yG].flatten=uE G [b6,iy,ie].flatten (nb r0).toNat (255-((i:Int)+(-1))).toNat;rw[zG,uE,zH];have:((nb r0).toNat/2^i% 2==1)=false:=by simpa using cF
     rw[this,cond_false];exact g0
    ·show((i:Int)+(-1)+1).toNat<((i:Int)+1).toNat;omega
  ·skip
   simp only[c6,dZ,dD,ei,decide_eq_true_eq,decide_eq_false_iff_not]at h0;obtain⟨ea,hF⟩:=ea;have l9:(dm+1).toNat=0:=by omega
   have sx:(255-dm).toNat=256:=by omega
   rw[l9]at ea;rw[sx]at hF;refine⟨⟨aeC i58 i62 i66,?_⟩,hF⟩;intro A aV an;have ea:=ea A aV an
   rwa [Nat.pow_zero,Nat.div_one]at ea
def Zf (S:zzS) (K:zzK):Prop:=dn 4 λr0=>dn 4 λbb=>dn 4 λeO=>fb 4 S 45 [eO] λjN=>fb 4 S 36 [r0,jN] λev=>fb 4 S 36 [bb,jN] λec=>oI 32 S 27 [ec] λgL=>aq 0 xj (U ev 0 0) 2 λe4=>bg ((128*(U ev 0 0))+((U gL 31 0)+((-256)*e4))) 256 λdm=>K [r0,bb,eO] [[(U gL 0 0),(U gL 1 0),(U gL 2 0),(U gL 3 0),(U gL 4 0),(U gL 5 0),(U gL 6 0),(U gL 7 0),(U gL 8 0),(U gL 9 0),(U gL 10 0),(U gL 11 0),(U gL 12 0),(U gL 13 0),(U gL 14 0),(U gL 15 0),(U gL 16 0),(U gL 17 0),(U gL 18 0),(U gL 19 0),(U gL 20 0),(U gL 21 0),(U gL 22 0),(U gL 23 0),(U gL 24 0),(U gL 25 0),(U gL 26 0),(U gL 27 0),(U gL 28 0),(U gL 29 0),(U gL 30 0),((128*(U ev 0 0))+((U gL 31 0)+(((-256)*e4)+((-256)*dm))))]]
theorem aMS (G):Zf (fu G) (e6 vy.res 124):=by
 simp(maxSteps:=4000000) only[Zf,aq,bg,oI,fb,dn,xj];intro r0 i0 bb i4 eO i8 jN i12 aL ev i16 s1 ec i20 s2 gL i24 bx e4 u7 vf aXG d56 dm tL sn amF d57;have aL:ad jN=cJ (ad eO) vp:=aL.1;have s1:ad ev=ad r0*ad jN% aa:=s1.1;have s2:ad ec=ad bb*ad jN% aa:=s2.1;have bx:nb gL=ad ec:=bx.1;have eu:ad ec=ad bb*lR (ad eO)% aa:=s2.trans (by rw[aL];rfl);have aQ:ad ev=ad r0*lR (ad eO)% aa:=s1.trans (by rw[aL];rfl);rw[eu]at bx;have hlt:nb gL<fl:=by rw[bx];exact Int.lt_trans (yy _).2 (by decide)
 have aB:=auo i24 hlt;have hg:=aoB i24;have hp:=QH ev;have hz:dm=0:=by clear aL s1 s2 bx eu aQ hlt;omega
 subst hz;refine⟨aqu i24 (by clear aL s1 s2 bx eu aQ hlt;omega) (by clear aL s1 s2 bx eu aQ hlt;omega),?_⟩;show nb _=Bz (ad r0) (ad bb) (ad eO);rw[agc i24];unfold Bz;rw[<-aQ,bx,hp];unfold fl;clear aL s1 s2 bx eu aQ hlt;omega
def Zm (S:zzS) (K:zzK):Prop:=K [] [[aqM,aqN,aqO,aqP],[aqQ,UZ,UZ,UZ],[1,0,0,0]]
theorem aM1 (G):Zm (fu G) (e6 uo.res 126):=by
 simp(maxSteps:=4000000) only[Zm,aqM,aqN,aqO,aqP,aqQ,UZ];exact⟨by simp[uo,aX,D.bds,a8.gu,AF,ay,aT],by decide,by decide,by decide⟩
def Zd (S:zzS) (K:zzK):Prop:=oc 32 λr0=>dn 4 λb6=>dn 4 λiy=>dn 4 λie=>S 126 [] [b6,iy,ie]->dn 4 λr6=>dn 4 λoK=>dn 4 λkJ=>S 123 [r0,b6,iy,ie] [r6,oK,kJ]->oI 32 S 124 [r6,oK,kJ] λAB=>K [r0] [AB]
theorem aMQ (G):Zd (fu G) (e6 Ac.res 131):=by
 simp(maxSteps:=4000000) only[Zd,oI,oc,dn];intro r0 i0 b6 i32 iy i36 ie i40 aL r6 i44 oK i48 kJ i52 s1 AB i56 s2;have aL:ahx [] [b6,iy,ie]:=aL.1;have s1:atN [r0,b6,iy,ie] [r6,oK,kJ]:=s1.1;have s2:atM [r6,oK,kJ] [AB]:=s2.1;exact⟨k0 i56,s2.trans (Mk (j1 m8 _) (s1 _ m8 (aBs aL)))⟩
def Zq (S:zzS) (K:zzK):Prop:=K [] [[0x5812631a5cf5d3ed,0x14def9dea2f79cd6,0,0x1000000000000000]]
theorem aM4 (G):Zq (fu G) (e6 yr.res 133):=by
 unfold Zq;exact⟨by simp[yr,aX,D.bds,dO,ay,aT],by show ad _=(dG:Int);decide⟩
end Go.Fd
