/- Pah: a part of the proof of statements of this seat. -/
import Derived.Test.YtacpildnjohidaaDoorPae
import Derived.Test.YtacpildnjohidaaDoorChunk
import Derived.Test.YtacpildnjohidaaDoorPac
import Derived.KernelRfl
import Derived.Test.YtacpildnjohidaaDoorPaf
import Derived.Shelf.Lay
import Derived.Shelf.LaySoft
import Derived.Shelf.Bytes.SlJoin
import Derived.RangeFuncOwn
import Derived.Test.YtacpildnjohidaaDoorProg
import Derived.BigCall
import Derived.Shelf.Vars
import Derived.Test.YtacpildnjohidaaDoorRows
import Derived.Test.YtacpildnjohidaaDoorTie
import Derived.Test.YtacpildnjohidaaDoorCards
import Derived.SevenTiedAt
import Derived.Lay
open Eq renaming trans->wG,symm->zv
open Go renaming World->aC,Value->aV,DataW->rz
open Go.MakeChecks renaming laidMetH_plain->aHQ
open List renaming map_map->p8
open Option.some renaming inj->jd
open Prod.mk renaming injEq->eW
set_option linter.unusedVariables false
set_option maxRecDepth 100000
namespace Go.fZ
open Go Go.ch Go.Proofs
abbrev iX (wb:aC) (k:bZ):Prop:=k.zL Tryd.prog wb (jo sh SB k.id)
abbrev o7 (wb:aC) (k:fE):Prop:=k.b1 Tryd.prog wb (jo sh SB k.id)
abbrev rF (wb:aC) (k:kl):Prop:=k.b1 Tryd.prog wb (jo sh SB k.c.id)
abbrev NJ (wb:aC) (k:qT):Prop:=k.b1 Tryd.prog wb (jo sh SB k.c.id)
theorem ft:Tryd.prog.follows .mixedOrders=true:=by kernel_rfl
theorem bA {α:Type} {p:α->Prop}:∀x∈([]:List α),p x:=λ_ h=>by cases h
theorem gb {α:Type} {p:α->Prop} {a:α} {l:List α} (h:p a) (hl:∀x∈l,p x):∀x∈a::l,p x:=λx hx=>by
 rcases List.mem_cons.1 hx with rfl|hx
 ·exact h
 ·exact hl x hx
abbrev o6 (wb:aC):Prop:=fA gT ⟨wb,wb,λ_=>False,λ_=>False,[]⟩
theorem IH {a b:Int} (h:[[a]]=[[b]]):a=b:=by simpa using h
section
variable {wb:aC} {zO:Nat->List (List Int)->List (List Int)->Prop} {cal:fy} {li:FuncId->Nat->Option gB} {n d:Nat} {lsh:Nat->List Nat} {lens:List Nat} {B:(Nat->List (List Int)->List (List Int)->Prop)->(List (List Int)->List (List Int)->Prop)->Prop}
theorem IT {c:bZ} (c6:∀r ex ro,h8 (jo sh zO) Tryd.prog gT ⟨wb,r,ex,ro,[]⟩ cal) (hg:o6 wb) (hf:DL Tryd.prog c.f=true) (hu:yv c.args c.res (jo sh zO c.id)) (hl:lens=(sh c.id).1) (hd:xB c.res=(sh c.id).2)
 (e:∀S K,jj sh lsh S K lens (bk c.args) c.res (c.tree Tryd.prog gT cal li n d)=B S K) (hp:B zO (wQ zO c.res c.id)):c.zL Tryd.prog wb (jo sh zO c.id):=
 bZ.b1.f (atz ft c6 hg hf hu hl hd (by rw[e];exact hp))
theorem Gu {c:fE} {bc:qO} (c6:∀r ex ro,h8 (jo sh zO) Tryd.prog gT ⟨wb,r,ex,ro,[]⟩ cal) (hg:o6 wb) (oN:∀(L:V->Env->Prop) (r:aC) (ro:Nat->Prop),wL (jo sh zO) L ⟨wb,r,λ_=>False,ro,[]⟩ Tryd.prog bc) (hf:DL Tryd.prog c.f=true) (hl:lens=(sh c.id).1) (hd:Ca c.res=(sh c.id).2)
 (e:∀S K,qg sh lsh S K lens (dz c.args) c.res (c.tree bc Tryd.prog gT cal li n d)=B S K) (hp:B zO (j4 zO c.res c.id)):c.b1 Tryd.prog wb (jo sh zO c.id):=
 ak6 ft c6 hg oN hf hl hd (by rw[e];exact hp)
end
theorem aoz:SD Tryd.prog 97:=⟨enters (by kernel_rfl),Tryd.alK⟩
theorem awn {a0 fK:Int} (h0:a0=fK):pw [.int .i64 (-9223372036854775808) 9223372036854775807] [a0]=pw [.int .i64 (-9223372036854775808) 9223372036854775807] [fK]:=by
 show(.int .i64 a0:aV)=(.int .i64 fK:aV)
 rw[h0]
theorem MT {a0 fK:Int} (h0:a0=fK):pw [.int .u64 0 18446744073709551615] [a0]=pw [.int .u64 0 18446744073709551615] [fK]:=by
 show(.int .u64 a0:aV)=(.int .u64 fK:aV)
 rw[h0]
theorem azd {A R:List D} {spec:List Int->List Int->Prop} (hl:(bk A).length=2) (hr:(bk R).length=1) (hv:∀a b:Int,a=b->pw R [a]=pw R [b]) (h:∀z0 aB a b:Int,spec [z0,aB] [a]->spec [z0,aB] [b]->a=b):yv A R spec:=λzs rs cV hz h1 h2 h3 h4=>by
 match zs,rs,cV,(e7 hz).trans hl,(e7 h1).trans hr,(e7 h2).trans hr,h3,h4 with
 |[z0,aB],[a],[b],_,_,_,h3,h4=>exact hv a b (h z0 aB a b h3 h4)
theorem M1 {A R:List D} {spec:List Int->List Int->Prop} (hl:(bk A).length=1) (hr:(bk R).length=1) (hv:∀a b:Int,a=b->pw R [a]=pw R [b]) (h:∀z0 a b:Int,spec [z0] [a]->spec [z0] [b]->a=b):yv A R spec:=λzs rs cV hz h1 h2 h3 h4=>by
 match zs,rs,cV,(e7 hz).trans hl,(e7 h1).trans hr,(e7 h2).trans hr,h3,h4 with
 |[z0],[a],[b],_,_,_,h3,h4=>exact hv a b (h z0 a b h3 h4)
theorem azc:yv IL.args IL.res (jo sh SB 440):=azd rfl rfl (λ_ _=>awn) λ_ _ _ _ h bd=>by first|exact wG h (zv bd)|exact IH (wG h (zv bd))
theorem ato {wb:aC} (hg:o6 wb):iX wb IL:=IT (λ_ _ _=>o9 bA bA) hg (by kernel_rfl) azc rfl rfl ayY auB
theorem ay7:yv BY.args BY.res (jo sh SB 448):=M1 rfl rfl (λ_ _=>MT) λ_ _ _ h bd=>by first|exact wG h (zv bd)|exact IH (wG h (zv bd))
theorem as0 {wb:aC} (hg:o6 wb):iX wb BY:=IT (λ_ _ _=>o9 bA bA) hg (by kernel_rfl) ay7 rfl rfl ayD auc
theorem ay8:yv BZ.args BZ.res (jo sh SB 449):=M1 rfl rfl (λ_ _=>MT) λ_ _ _ h bd=>by first|exact wG h (zv bd)|exact IH (wG h (zv bd))
theorem as1 {wb:aC} (hg:o6 wb):iX wb BZ:=IT (λ_ _ _=>o9 bA bA) hg (by kernel_rfl) ay8 rfl rfl ayE aud
theorem ay9:yv B0.args B0.res (jo sh SB 450):=M1 rfl rfl (λ_ _=>MT) λ_ _ _ h bd=>by first|exact wG h (zv bd)|exact IH (wG h (zv bd))
theorem as2 {wb:aC} (hg:o6 wb):iX wb B0:=IT (λ_ _ _=>o9 bA bA) hg (by kernel_rfl) ay9 rfl rfl ayF aue
theorem aza:yv B1.args B1.res (jo sh SB 451):=M1 rfl rfl (λ_ _=>MT) λ_ _ _ h bd=>by first|exact wG h (zv bd)|exact IH (wG h (zv bd))
theorem as3 {wb:aC} (hg:o6 wb):iX wb B1:=IT (λ_ _ _=>o9 bA bA) hg (by kernel_rfl) aza rfl rfl ayG auf
theorem atp {wb:aC} (hg:o6 wb) (aof:iX wb IL):o7 wb vA:=Gu (λ_ _ _=>o9 bA (gb aof bA)) hg (λ_ _ _=>(sY bA)) (by kernel_rfl) rfl rfl ayZ auC
theorem atl {wb:aC} (hg:fA gT ⟨wb,wb,λ_=>False,λ_=>False,[]⟩):rF wb GD:=by
 refine GI (SB:=SB) (sh:=sh) (p:=GD) (bc:=(m2 [])) (cal:=(jK [] [])) (li:=cr) (rounds:=600) (d:=6) (lsh:=c8) (lens:=[1,1]) ft (λ_ _ _=>o9 bA bA) hg (λ_ _ _ _=>(sY bA)) (by kernel_rfl) rfl rfl ?_
 rw[show GD.c=Qh from rfl,ayW]
 exact auz
theorem atm {wb:aC} (hg:fA gT ⟨wb,wb,λ_=>False,λ_=>False,[]⟩):rF wb GF:=by
 refine GI (SB:=SB) (sh:=sh) (p:=GF) (bc:=(m2 [])) (cal:=(jK [] [])) (li:=cr) (rounds:=600) (d:=6) (lsh:=c8) (lens:=[1,1,1]) ft (λ_ _ _=>o9 bA bA) hg (λ_ _ _ _=>(sY bA)) (by kernel_rfl) rfl rfl ?_
 rw[show GF.c=Qi from rfl,ayX]
 exact auA
theorem azb:yv B2.args B2.res (jo sh SB 467):=M1 rfl rfl (λ_ _=>MT) λ_ _ _ h bd=>by first|exact wG h (zv bd)|exact IH (wG h (zv bd))
theorem as4 {wb:aC} (hg:o6 wb):iX wb B2:=IT (λ_ _ _=>o9 bA bA) hg (by kernel_rfl) azb rfl rfl ayH aug
theorem asK {wb:aC} (hg:o6 wb):o7 wb Gm:=Gu (λ_ _ _=>o9 bA bA) hg (λ_ _ _=>(sY bA)) (by kernel_rfl) rfl rfl ayp atU
theorem asF {wb:aC} (hg:fA gT ⟨wb,wb,λ_=>False,λ_=>False,[]⟩) (aee:iX wb B2) (aea:iX wb BY) (aeb:iX wb BZ) (aec:iX wb B0) (aed:iX wb B1) (an9:o7 wb Gm):NJ wb vY:=by
 refine awc (SB:=SB) (sh:=sh) (p:=vY) (lsh:=afZ) (lens:=[1]) (inl:=(N9 Tryd.prog gT (jK [] [B2,BY,BZ,B0,B1]) (HJ (m2 [Gm]) Tryd.prog gT (jK [] [B2,BY,BZ,B0,B1]) Qo 600 6) Qo 600 [(1,0,0,18446744073709551615),(1,1,0,18446744073709551615),(1,2,0,18446744073709551615),(1,3,0,18446744073709551615),(1,4,0,18446744073709551615),(1,5,0,18446744073709551615),(1,6,0,18446744073709551615),(1,7,0,18446744073709551615)] 97)) (λL r ex ro=>ak5 aoz ft (λ_ _ _=>o9 bA (gb aee (gb aea (gb aeb (gb aec (gb aed bA)))))) (λg cs h=>hg g cs h) (λr ex ro=>OQ (w0:=⟨wb,r,ex,ro,[]⟩) rfl ft ((λ_ _ _=>o9 bA (gb aee (gb aea (gb aeb (gb aec (gb aed bA)))))) r ex ro) (λg cs h=>hg g cs h) (sY (gb an9 bA)) 6) rfl) (by kernel_rfl) rfl rfl ?_
 rw[show vY.c=Qe from rfl,ayj]
 exact atO
theorem att {wb:aC} (hg:fA gT ⟨wb,wb,λ_=>False,λ_=>False,[]⟩) (K7:o7 wb vA) (aob:rF wb Mg) (K6:NJ wb vY):rF wb Ej:=by
 refine GI (SB:=SB) (sh:=sh) (p:=Ej) (bc:=(Ct [vY] (rj [Mg] (m2 [vA])))) (cal:=(jK [] [])) (li:=cr) (rounds:=600) (d:=6) (lsh:=c8) (lens:=[1]) ft (λ_ _ _=>o9 bA bA) hg (λ_ _ _ _=>(QW (AM (sY (gb K7 bA)) (gb aob bA)) (gb K6 bA))) (by kernel_rfl) rfl rfl ?_
 rw[show Ej.c=Qj from rfl,ay1]
 exact auE
theorem atu {wb:aC} (hg:fA gT ⟨wb,wb,λ_=>False,λ_=>False,[]⟩) (K7:o7 wb vA) (aoc:rF wb GD) (K6:NJ wb vY):rF wb GG:=by
 refine GI (SB:=SB) (sh:=sh) (p:=GG) (bc:=(Ct [vY] (rj [GD] (m2 [vA])))) (cal:=(jK [] [])) (li:=cr) (rounds:=600) (d:=6) (lsh:=c8) (lens:=[1,1]) ft (λ_ _ _=>o9 bA bA) hg (λ_ _ _ _=>(QW (AM (sY (gb K7 bA)) (gb aoc bA)) (gb K6 bA))) (by kernel_rfl) rfl rfl ?_
 rw[show GG.c=Qk from rfl,ay2]
 exact auF
theorem atv {wb:aC} (hg:fA gT ⟨wb,wb,λ_=>False,λ_=>False,[]⟩) (K7:o7 wb vA) (aod:rF wb GF) (K6:NJ wb vY):rF wb GH:=by
 refine GI (SB:=SB) (sh:=sh) (p:=GH) (bc:=(Ct [vY] (rj [GF] (m2 [vA])))) (cal:=(jK [] [])) (li:=cr) (rounds:=600) (d:=6) (lsh:=c8) (lens:=[1,1,1]) ft (λ_ _ _=>o9 bA bA) hg (λ_ _ _ _=>(QW (AM (sY (gb K7 bA)) (gb aod bA)) (gb K6 bA))) (by kernel_rfl) rfl rfl ?_
 rw[show GH.c=Ql from rfl,ay3]
 exact auG
theorem atc {wb:aC} (hg:fA gT ⟨wb,wb,λ_=>False,λ_=>False,[]⟩) (Vu:iX wb B6) (aoh:rF wb GG):rF wb I2:=by
 refine GI (SB:=SB) (sh:=sh) (p:=I2) (bc:=(rj [GG] (m2 []))) (cal:=(jK [] [B6])) (li:=cr) (rounds:=600) (d:=6) (lsh:=c8) (lens:=[1,1]) ft (λ_ _ _=>o9 bA (gb Vu bA)) hg (λ_ _ _ _=>(AM (sY bA) (gb aoh bA))) (by kernel_rfl) rfl rfl ?_
 rw[show I2.c=Qf from rfl,ayM]
 exact aup
theorem atd {wb:aC} (hg:fA gT ⟨wb,wb,λ_=>False,λ_=>False,[]⟩) (Vu:iX wb B6) (aoi:rF wb GH):rF wb Ei:=by
 refine GI (SB:=SB) (sh:=sh) (p:=Ei) (bc:=(rj [GH] (m2 []))) (cal:=(jK [] [B6])) (li:=cr) (rounds:=600) (d:=6) (lsh:=c8) (lens:=[1,1,1]) ft (λ_ _ _=>o9 bA (gb Vu bA)) hg (λ_ _ _ _=>(AM (sY bA) (gb aoi bA))) (by kernel_rfl) rfl rfl ?_
 rw[show Ei.c=Qg from rfl,ayN]
 exact auq
theorem asU {wb:aC} (hg:o6 wb) (Vt:iX wb Gp) (Vw:iX wb Gq) (Vv:rF wb Ej):o7 wb BU:=Gu (λ_ _ _=>o9 bA (gb Vt (gb Vw bA))) hg (λ_ _ _=>(AM (sY bA) (gb Vv bA))) (by kernel_rfl) rfl rfl ayy at4
theorem asV {wb:aC} (hg:o6 wb) (Vt:iX wb Gp) (Vw:iX wb Gq) (aoe:iX wb LZ) (Vv:rF wb Ej) (aoa:rF wb I2) (Vs:rF wb Ei):o7 wb BV:=Gu (λ_ _ _=>o9 bA (gb Vt (gb Vw (gb aoe bA)))) hg (λ_ _ _=>(AM (sY bA) (gb Vv (gb aoa (gb Vs bA))))) (by kernel_rfl) rfl rfl ayz at5
theorem asW {wb:aC} (hg:o6 wb) (aog:iX wb L0) (aok:iX wb L2) (aoj:iX wb L1) (Vs:rF wb Ei):o7 wb BW:=Gu (λ_ _ _=>o9 bA (gb aog (gb aok (gb aoj bA)))) hg (λ_ _ _=>(AM (sY bA) (gb Vs bA))) (by kernel_rfl) rfl rfl ayA at6
theorem asS {wb:aC} (hg:o6 wb) (h_edPub:o7 wb BU) (h_edSign:o7 wb BV) (h_edVer:o7 wb BW):o7 wb Gn:=Gu (λ_ _ _=>o9 bA bA) hg (λ_ _ _=>(sY (gb h_edPub (gb h_edSign (gb h_edVer bA))))) (by kernel_rfl) rfl rfl ayw at2
theorem asT {wb:aC} (hg:o6 wb) (h_edAlive:o7 wb Gn) (h_edPub:o7 wb BU) (h_edSign:o7 wb BV) (h_edVer:o7 wb BW):o7 wb LY:=Gu (λ_ _ _=>o9 bA bA) hg (λ_ _ _=>(sY (gb h_edAlive (gb h_edPub (gb h_edSign (gb h_edVer bA)))))) (by kernel_rfl) rfl rfl ayx at3
end Go.fZ
namespace Go.fZ
open Go Go.ch Go.Proofs
theorem Gx {wb:aC} {c:bZ} {s GW:List Int->List Int->Prop} (h:c.zL Tryd.prog wb s) (hs:∀zs rs,af (bk c.args) zs->af (bk c.res) rs->s zs rs->GW zs rs):c.zL Tryd.prog wb GW:=λzs hz=>by
 obtain⟨rs,h1,h2,h3⟩:=h zs hz
 exact⟨rs,h1,hs zs rs hz h1 h2,h3⟩
theorem agJ {rs:List Int} {n:Nat} (h:rs.length=n+1):∃e,rs.drop n=[e]:=List.length_eq_one_iff.1 (by rw[List.length_drop];omega)
section
variable {wb:aC}
theorem atB (hg:o6 wb):iX wb L2:=by
 obtain⟨G,h⟩:=Go.Fd.Ka (wb:=wb) hg
 have h1:Go.Fd.y5.b1 Tryd.prog wb (Go.Fd.gq G 112):=h _ (Go.Fd.dM (i:=2) rfl)
 refine Gx (c:=L2) (s:=Go.Fd.gq G 112) h1.f λzs rs hz hr ae=>?_
 have ae:Go.Fd.SB 112 (dk [32] zs) (dk [32,1] rs):=ae.1
 show SB 112 (dk [32] zs) (dk [32,1] rs)
 have oR:zs.length=32:=e7 hz
 have gV:rs.length=32+1:=e7 hr
 obtain⟨e,he⟩:=agJ gV
 rw[Go.Fd.xS oR,Go.Fd.Jw gV,he]at ae⊢
 exact ae
theorem aty (hg:o6 wb):iX wb Gq:=by
 obtain⟨G,h⟩:=Go.Fd.Ka (wb:=wb) hg
 have h1:Go.Fd.y3.b1 Tryd.prog wb (Go.Fd.gq G 114):=h _ (Go.Fd.dM (i:=1) rfl)
 refine Gx (c:=Gq) (s:=Go.Fd.gq G 114) h1.f λzs rs hz hr ae=>?_
 have ae:Go.Fd.SB 114 (dk [32] zs) (dk [32] rs):=ae.1
 show SB 114 (dk [32] zs) (dk [32] rs)
 have oR:zs.length=32:=e7 hz
 have gV:rs.length=32:=e7 hr
 rw[Go.Fd.xS oR,Go.Fd.xS gV]at ae⊢
 exact ae
theorem atA (hg:o6 wb):iX wb L1:=by
 obtain⟨G,h⟩:=Go.Fd.Ka (wb:=wb) hg
 have h1:Go.Fd.y4.b1 Tryd.prog wb (Go.Fd.gq G 115):=h _ (Go.Fd.dM (i:=0) rfl)
 refine Gx (c:=L1) (s:=Go.Fd.gq G 115) h1.f λzs rs hz hr ae=>?_
 have ae:Go.Fd.SB 115 (dk [32,32,32] zs) (dk [32,1] rs):=ae.1
 show SB 115 (dk [32,32,32] zs) (dk [32,1] rs)
 have oR:zs.length=32+(32+32):=e7 hz
 have gV:rs.length=32+1:=e7 hr
 obtain⟨e,he⟩:=agJ gV
 rw[Go.Fd.YG oR,Go.Fd.Jw gV,he]at ae⊢
 exact ae
theorem ats (hg:o6 wb):iX wb L0:=by
 have h1:Go.oF.oo.b1 Tryd.prog wb (Go.oF.cB 13):=Go.oF.Xt hg
 refine Gx (c:=L0) (s:=Go.oF.cB 13) h1.f λzs rs hz hr ae=>?_
 have ae:rs=[if c4 zs<(Go.Fd.kO:Int)then 1 else 0]:=ae
 show SB 151 (dk [32] zs) (dk [1] rs)
 have oR:zs.length=32:=e7 hz
 have gV:rs.length=1:=e7 hr
 rw[Go.Fd.xS oR,Go.Fd.xS gV,ae]
 rfl
theorem atr (hg:o6 wb):iX wb B6:=by
 have h1:Go.oF.oQ.b1 Tryd.prog wb (Go.oF.cB 11):=Go.oF.Xr hg
 refine Gx (c:=B6) (s:=Go.oF.cB 11) h1.f λzs rs hz hr ae=>?_
 have ae:c4 rs=c4 zs% (Go.Fd.kO:Int):=ae
 show SB 152 (dk [64] zs) (dk [32] rs)
 have oR:zs.length=64:=e7 hz
 have gV:rs.length=32:=e7 hr
 rw[Go.Fd.xS oR,Go.Fd.xS gV]
 exact ae
theorem atn (hg:o6 wb):iX wb LZ:=by
 have h1:Go.oF.D6.b1 Tryd.prog wb (Go.oF.cB 8):=Go.oF.ata hg
 refine Gx (c:=LZ) (s:=Go.oF.cB 8) h1.f λzs rs hz hr ae=>?_
 have ae:c4 rs=(c4 (zs.take 32)*c4 ((zs.drop 32).take 32)+c4 (zs.drop 64))% (Go.Fd.kO:Int):=ae
 show SB 153 (dk [32,32,32] zs) (dk [32] rs)
 have oR:zs.length=32+(32+32):=e7 hz
 have gV:rs.length=32:=e7 hr
 rw[Go.Fd.YG oR,Go.Fd.xS gV]
 show c4 rs=(c4 (zs.take 32)*c4 ((zs.drop 32).take 32)+c4 ((zs.drop 32).drop 32))% (Go.Fd.kO:Int)
 rw[ae,List.drop_drop]
theorem atk (hg:o6 wb):iX wb Gp:=by
 have h1:Go.oF.D5.b1 Tryd.prog wb (Go.oF.cB 14):=Go.oF.asL hg
 refine Gx (c:=Gp) (s:=Go.oF.cB 14) h1.f λzs rs hz hr ae=>?_
 have ae:rs=Ku zs:=ae
 show SB 154 (dk [32] zs) (dk [32] rs)
 have oR:zs.length=32:=e7 hz
 have gV:rs.length=32:=e7 hr
 rw[Go.Fd.xS oR,Go.Fd.xS gV]
 exact ae
end
end Go.fZ
namespace Go.Proofs
open Go.Shelf Go.RowKit
shelf_lay SlLaysJ.n14 Slb 14 at Tryd as Tryd.afN
open Go.ch Go.Lib
def uP:List aN:=[.int .u8 0 255]
def Cz (rows:List (List Int)):List UInt8:=rows.map λr=>UInt8.ofNat (r.getD 0 0).toNat
theorem ail {r:List Int} (h:cF uP r):∃z:Int,r=[z]/\0<=z/\z<=255/\((UInt8.ofNat z.toNat).toNat:Int)=z:=by
 match r,h with
 |[z],h=>
  have h1:0<=z/\z<=255:=h.1
  refine⟨z,rfl,h1.1,h1.2,?_⟩
  have e:(UInt8.ofNat z.toNat).toNat=z.toNat% 256:=by simp
  rw[e];omega
theorem Rq (rows:List (List Int)):(Cz rows).length=rows.length:=by simp[Cz]
theorem ayc {w:World} {g o:Nat} {cells:Array Value} {t:TypeId} {fz:Nat×Nat} {rows:List (List Int)} (hg:w.heap[g]?=some (.cells cells t fz)) (h:pK cells o uP rows) (i:Nat) (x:UInt8) (hx:(Cz rows)[i]?=some x):w.cell? ((⟨g,o,none⟩:Addr).add i)=some (.int .u8 (x.toNat:Int)):=by
 unfold Cz at hx
 rw[List.getElem?_map]at hx
 cases hr:rows[i]? with
 |none=>rw[hr]at hx;cases hx
 |some r=>
  rw[hr]at hx
  simp only[Option.map_some,Option.some.injEq]at hx
  obtain⟨z,rfl,h1,h2,h3⟩:=ail (h.1 r (List.mem_of_getElem? hr))
  have hv:(dr uP [z])[0]?=some (Value.int .u8 z):=rfl
  have:=h.get hr hv
  rw[kF]
  simp only[World.cell?,hg,Option.isSome_none,Bool.false_eq_true,if_false]
  simp only[uP,List.length_cons,List.length_nil,Nat.zero_add,Nat.mul_one,Nat.add_zero]at this
  rw[this,<-hx]
  simp only[List.getD_cons_zero]
  rw[h3]
theorem aht:∀(rows:List (List Int)) (zs:List Int),(∀row∈rows,cF uP row)->(∀x∈zs,0<=x/\x<256)->bytesOf zs=Cz rows->ca uP rows=zs.map (Value.int .u8)
 |[],zs,_,_,h=>by
  have:zs.length=0:=by have:=congrArg List.length h;simpa [bytesOf,Cz]using this
  rw[List.eq_nil_of_length_eq_zero this];rfl
 |r::rows,[],_,_,h=>by simp[bytesOf,Cz]at h
 |r::rows,z::zs,hr,hz,h=>by
  obtain⟨y,rfl,h1,h2,h3⟩:=ail (hr r (by simp))
  have hz1:=hz z (by simp)
  unfold bytesOf Cz at h
  simp only[List.map_cons,List.cons.injEq,List.getD_cons_zero]at h
  have ih:=aht rows zs (λx hx=>hr x (List.mem_cons_of_mem _ hx)) (λx hx=>hz x (List.mem_cons_of_mem _ hx)) h.2
  have e:y=z:=by
   have:=congrArg (λb:UInt8=>(b.toNat:Int)) h.1
   simp at this
   omega
  subst e
  show Value.int .u8 y::ca uP rows=_
  rw[ih];rfl
theorem join_one {spec:List Int->List Int->Prop} {wb:World} {p:kl} (hc:p.c.f=71) (ha:p.c.args=[.rd uP]) (hr:p.c.res=[.rd uP]) (hp:p.c.pre=71) (hn:p.nil=true) (hs:∀z r,0<=r->r<=bU->ak r=ak z->spec [z] [r]) (hf:∀args w,(callFunc 71 args).run Tryd.prog w= .ok (.enter 71 args) w):
 p.b1 Tryd.prog wb spec:=by
 refine⟨by rw[hc];exact hf,?_⟩
 rw[hc,ha,hr,hp]
 intro F w vs zs g hw hz rS hat hg hF hcell
 match zs,hz,vs,hat,rS,hcell with
 |[z],hz,[v],hat,rS,hcell=>
 have hat:Bk F w uP (ak z) v:=hat.1
 have rS:(ak z).length<=1000000000:=rS
 have e:Eg p g [v].length=#[.slice (some ⟨g,0,none⟩) 1 1,.slice none 0 0]:=by unfold Eg;rw[hn];rfl
 rw[e]
 have hc0:w.cell? ⟨g,0,none⟩=some v:=by simp[World.cell?,hcell]
 have empty:(∃p0 eS,v= .slice p0 0 eS)->ak z=[]->Calls Tryd.prog 71 #[.slice (some ⟨g,0,none⟩) 1 1,.slice none 0 0] w λe w'=>w.Extends w'/\∃rs us,af (dz [cN.rd uP]) rs/\spec [z] rs/\nM (λg=>F g∨w.heap.size<=g) (λg=>w.heap.size<=g) w' [cN.rd uP] rs us/\e= .returned (wq us):=λ⟨p0,eS,hv⟩ h0=>by
  refine Calls.mono (Any.bytes_Join_one_empty Tryd.afN g 0 1 p0 eS (.slice none 0 0) w (by rw[hc0,hv])) ?_
  rintro e w' ⟨rfl,rfl⟩
  exact⟨World.Extends.refl _,[0],[.slice none 0 0],⟨Int.le_refl _,zN,trivial⟩,hs z 0 (Int.le_refl _) zN (by rw[oW,h0]),⟨.inl ⟨rfl,oW⟩,trivial⟩,rfl⟩
 rcases hat with⟨rfl,h0⟩|⟨g1,o1,c1,cells,t,fz,rfl,⟨h2,h3⟩,h4,h5,h6⟩
 ·exact empty ⟨none,0,rfl⟩ h0
 ·rcases Nat.eq_zero_or_pos (ak z).length with h0|h0
  ·exact empty ⟨some ⟨g1,o1,none⟩,c1,by rw[h0]⟩ (List.eq_nil_of_length_eq_zero h0)
  ·refine Calls.mono (Any.bytes_Join_one Tryd.afN g 0 1 ⟨g1,o1,none⟩ c1 (Cz (ak z)) (.slice none 0 0) w (by rw[hc0,Rq]) (λi x hx=>ayc h5 h6 i x hx) (by rw[Rq];exact h0) (by rw[Rq];omega)) ?_
   rintro e w' ⟨v',rfl,⟨g2,cap,zs',rfl,k1,k2,k3,k4,ux,y2,Qd,_⟩,hb⟩
   have hsz:=hb.size
   rw[Rq]at k2 y2⊢
   obtain⟨cells',t',U8,oO⟩:∃cells' t' U8,w'.heap[g2]?=some (.cells cells' t' U8):=by
    have h7:=Qd 0 (by omega)
    simp only[World.cell?]at h7
    cases ae:w'.heap[g2]? with
    |none=>simp[ae]at h7
    |some ob=>
     cases ob<;>simp[ae]at h7
     exact⟨_,_,_,rfl⟩
   have DQ:∀i,i<cap->cells'[i]?=some (.int .u8 (zs'.getD i 0)):=λi hi=>by
    have h7:=Qd i hi
    simpa [World.cell?,oO]using h7
   have kU:=aht (ak z) (zs'.take (ak z).length) h6.1 (λx hx=>ux x (List.mem_of_mem_take hx)) y2
   refine⟨UT (World.Extends.refl w) hb.os hb.tape hb.output hb.size hb.block,[z],[_],hz,hs z z hz.1 hz.2.1 rfl,⟨.inr ⟨g2,0,cap,cells',t',U8,rfl,⟨k2,by simp only[maxLen]at k3;omega⟩,.inr k1,oO,h6.1,[],cells'.toList.drop (ak z).length,?_,rfl⟩,trivial⟩,rfl⟩
   have apY:cells'.toList.take (ak z).length=ca uP (ak z):=by
    rw[kU]
    apply List.ext_getElem?
    intro i
    rw[List.getElem?_take,List.getElem?_map,List.getElem?_take]
    split
    ·rename_i hi
     have:=DQ i (by omega)
     rw[Array.getElem?_toList,this,List.getD_eq_getElem?_getD]
     have hlt:i<zs'.length:=by omega
     rw[List.getElem?_eq_getElem hlt];rfl
    ·rfl
   show cells'.toList=[]++ca uP (ak z)++_
   rw[List.nil_append,<-apY,List.take_append_drop]
end Go.Proofs
namespace Go.Proofs.YtacpildnjohidaaDoor
open Go Go.ch Go.fZ Go.ChangeShapes Go.RowKit
theorem own:ownKnob Tryd.prog.godebug=none:=by kernel_rfl
theorem arV:laidOutB Tryd.prog=true:=by kernel_rfl
def laid:List (String×rz Unit):=[("vouchsafe/field.One",Rows.laid_vouchsafe_field_One),("vouchsafe/curve.once",Rows.laid_vouchsafe_curve_once),("vouchsafe/scalar.order",Rows.laid_vouchsafe_scalar_order),("vouchsafe/scalar.tail",Rows.laid_vouchsafe_scalar_tail),("vouchsafe/sha.roots",Rows.laid_vouchsafe_sha_roots),("vouchsafe/sha.begins",Rows.laid_vouchsafe_sha_begins)]
theorem adH:Tryd.prog.globalNamed "vouchsafe/field.One" =some 3:=by kernel_rfl
theorem axB:(Tryd.prog.globals[3]?).map (·.type)=some 63:=by kernel_rfl
theorem ayd:Tryd.prog.underlying 63=some (.array 5 32):=by kernel_rfl
theorem amm:Tryd.prog.underlying 32=some (.int .u64):=by kernel_rfl
theorem alw:Tryd.prog.cellsOf 32=1:=by kernel_rfl
theorem alf:Tryd.prog.cellsOf 63=5:=by kernel_rfl
theorem arB:(Rows.laid_vouchsafe_field_One:rz Unit)= .agg (Xw.map λz=> .lit (.int .u64 z)):=by kernel_rfl
theorem adI:Tryd.prog.globalNamed "vouchsafe/curve.once" =some 4:=by kernel_rfl
theorem axC:(Tryd.prog.globals[4]?).map (·.type)=some 63:=by kernel_rfl
theorem aye:Tryd.prog.underlying 63=some (.array 5 32):=by kernel_rfl
theorem amn:Tryd.prog.underlying 32=some (.int .u64):=by kernel_rfl
theorem alx:Tryd.prog.cellsOf 32=1:=by kernel_rfl
theorem alg:Tryd.prog.cellsOf 63=5:=by kernel_rfl
theorem arC:(Rows.laid_vouchsafe_curve_once:rz Unit)= .agg (Xv.map λz=> .lit (.int .u64 z)):=by kernel_rfl
theorem adJ:Tryd.prog.globalNamed "vouchsafe/scalar.order" =some 0:=by kernel_rfl
theorem axD:(Tryd.prog.globals[0]?).map (·.type)=some 56:=by kernel_rfl
theorem ayf:Tryd.prog.underlying 56=some (.array 4 32):=by kernel_rfl
theorem amo:Tryd.prog.underlying 32=some (.int .u64):=by kernel_rfl
theorem aly:Tryd.prog.cellsOf 32=1:=by kernel_rfl
theorem alh:Tryd.prog.cellsOf 56=4:=by kernel_rfl
theorem arD:(Rows.laid_vouchsafe_scalar_order:rz Unit)= .agg (XB.map λz=> .lit (.int .u64 z)):=by kernel_rfl
theorem adK:Tryd.prog.globalNamed "vouchsafe/scalar.tail" =some 5:=by kernel_rfl
theorem axE:(Tryd.prog.globals[5]?).map (·.type)=some 129:=by kernel_rfl
theorem ayg:Tryd.prog.underlying 129=some (.array 2 32):=by kernel_rfl
theorem amp:Tryd.prog.underlying 32=some (.int .u64):=by kernel_rfl
theorem alz:Tryd.prog.cellsOf 32=1:=by kernel_rfl
theorem ali:Tryd.prog.cellsOf 129=2:=by kernel_rfl
theorem arE:(Rows.laid_vouchsafe_scalar_tail:rz Unit)= .agg (YT.map λz=> .lit (.int .u64 z)):=by kernel_rfl
theorem adL:Tryd.prog.globalNamed "vouchsafe/sha.roots" =some 2:=by kernel_rfl
theorem axF:(Tryd.prog.globals[2]?).map (·.type)=some 98:=by kernel_rfl
theorem ayh:Tryd.prog.underlying 98=some (.array 80 32):=by kernel_rfl
theorem amq:Tryd.prog.underlying 32=some (.int .u64):=by kernel_rfl
theorem alA:Tryd.prog.cellsOf 32=1:=by kernel_rfl
theorem alj:Tryd.prog.cellsOf 98=80:=by kernel_rfl
theorem arF:(Rows.laid_vouchsafe_sha_roots:rz Unit)= .agg (Jm.map λz=> .lit (.int .u64 z)):=by kernel_rfl
theorem adM:Tryd.prog.globalNamed "vouchsafe/sha.begins" =some 1:=by kernel_rfl
theorem axG:(Tryd.prog.globals[1]?).map (·.type)=some 77:=by kernel_rfl
theorem ayi:Tryd.prog.underlying 77=some (.array 8 32):=by kernel_rfl
theorem amr:Tryd.prog.underlying 32=some (.int .u64):=by kernel_rfl
theorem alB:Tryd.prog.cellsOf 32=1:=by kernel_rfl
theorem alk:Tryd.prog.cellsOf 77=8:=by kernel_rfl
theorem arG:(Rows.laid_vouchsafe_sha_begins:rz Unit)= .agg (N6.map λz=> .lit (.int .u64 z)):=by kernel_rfl
theorem adU {W:aC} (h:laidMetH Tryd.prog laid W):fA gT ⟨W,W,λ_=>False,λ_=>False,[]⟩:=by
 rw[aHQ _ _ _ (by kernel_rfl)]at h
 obtain⟨kq,⟨a0,fK,aC4,f0,p0,e4,Lo,Wl,q6,aeu,⟨b2,b8,aC5,f1,cz,bm,BI,apU,tQ,DT,⟨a2,b9,aC6,f2,cw,cb,BJ,Wm,nT,yP,⟨a3,de,aC7,f3,dc,cJ,FZ,apV,ap8,Lg,⟨a4,oH,aC8,f4,fC,et,Lp,apW,ap9,Lh,⟨a5,oI,aC9,f5,fN,kg,F0,Wn,aqa,aev,_,_⟩,_⟩,_⟩,_⟩,_⟩,_⟩,_,_⟩:=h
 obtain rfl:=jd (adH.symm.trans Lo)
 obtain rfl:=jd (axB.symm.trans Wl)
 rw[arB]at aeu
 have eU:=H9 (zs:=Xw) adH ayd amm alw alf q6 aeu
 obtain rfl:=jd (adI.symm.trans BI)
 obtain rfl:=jd (axC.symm.trans apU)
 rw[arC]at DT
 have ag:=H9 (zs:=Xv) adI aye amn alx alg tQ DT
 obtain rfl:=jd (adJ.symm.trans BJ)
 obtain rfl:=jd (axD.symm.trans Wm)
 rw[arD]at yP
 have ad:=H9 (zs:=XB) adJ ayf amo aly alh nT yP
 obtain rfl:=jd (adK.symm.trans FZ)
 obtain rfl:=jd (axE.symm.trans apV)
 rw[arE]at Lg
 have ao:=H9 (zs:=YT) adK ayg amp alz ali ap8 Lg
 obtain rfl:=jd (adL.symm.trans Lp)
 obtain rfl:=jd (axF.symm.trans apW)
 rw[arF]at Lh
 have cZ:=H9 (zs:=Jm) adL ayh amq alA alj ap9 Lh
 obtain rfl:=jd (adM.symm.trans F0)
 obtain rfl:=jd (axG.symm.trans Wn)
 rw[arG]at aev
 have iV:=H9 (zs:=N6) adM ayi amr alB alk aqa aev
 intro g cs hm
 simp only[gT,List.mem_cons,eW,List.not_mem_nil,or_false]at hm
 rcases hm with⟨rfl,rfl⟩|⟨rfl,rfl⟩|⟨rfl,rfl⟩|⟨rfl,rfl⟩|⟨rfl,rfl⟩|⟨rfl,rfl⟩
 ·rw[p8];exact ad
 ·rw[p8];exact iV
 ·rw[p8];exact cZ
 ·rw[p8];exact eU
 ·rw[p8];exact ag
 ·rw[p8];exact ao
theorem arH:(laid.filter λx=>x.2.handleName?.isNone)=laid:=by kernel_rfl
theorem al5 (os:Os) (args:Array aV):laidMetH Tryd.prog laid ((World.laidAll Tryd.prog os laid).forCall (λ_ _=>0) ⟨#[],args,[]⟩).memory:=
 laidMetH_of_parts3 (fuel:=8) (by rw[arH];exact laidMet_laidAll args (by kernel_rfl) (by kernel_rfl)) (by kernel_rfl) (by kernel_rfl)
theorem aya:NB Tryd.prog 23 (.rd [.int .u8 0 255]):=⟨5,Tryd.underlying23,by kernel_rfl,by kernel_rfl,by decide⟩
theorem ax9:NB Tryd.prog 22 (.d (.agg .u8 32 0 255)):=⟨5,Tryd.underlying22,by kernel_rfl,by kernel_rfl⟩
theorem atC {id:Nat} (hid:id=684) (a:List (List Int)) (z:Int) (h:SB id a [[z]]):z=1:=by
 subst hid
 all_goals
  match a,h with
  |[],h=>first|exact h|exact h.elim
  |[_],h=>first|exact h|exact h.elim
  |[_,_],h=>first|exact h|exact h.elim
  |[_,_,_],h=>first|exact h|exact h.elim
  |_::_::_::_::_,h=>exact h.elim
structure jh (W:aC):Prop where
 UN:o7 W Gn
 Pb:o7 W BU
 Pc:o7 W BV
 Pd:o7 W BW
theorem Ka {W:aC} (h:W.ShapedOpen Tryd.prog) (dL:laidMetH Tryd.prog laid W):jh W:=by
 have hg:=adU dL
 have axc:=ato hg
 have anv:=as0 hg
 have anx:=as1 hg
 have anz:=as2 hg
 have anA:=as3 hg
 have YF:=atp hg axc
 have aw4:rF W Mg:=join_one (p:=Mg) rfl rfl rfl rfl rfl (λz r h0 h1 h=>h) (enters (by kernel_rfl))
 have aw5:=atl hg
 have aw6:=atm hg
 have anK:=as4 hg
 have alL:=asK hg
 have TI:=asF hg anK anv anx anz anA alL
 have aia:=att hg YF aw4 TI
 have axy:=atu hg YF aw5 TI
 have axz:=atv hg YF aw6 TI
 have azp:iX W L2:=atB hg
 have air:iX W Gq:=aty hg
 have azo:iX W L1:=atA hg
 have axi:iX W L0:=ats hg
 have ah3:iX W B6:=atr hg
 have axb:iX W LZ:=atn hg
 have ahQ:iX W Gp:=atk hg
 have asw:=atc hg ah3 axy
 have agA:=atd hg ah3 axz
 have Pb:=asU hg ahQ air aia
 have Pc:=asV hg ahQ air axb aia asw agA
 have Pd:=asW hg axi azp azo agA
 have UN:=asS hg Pb Pc Pd
 exact⟨UN,Pb,Pc,Pd⟩
end Go.Proofs.YtacpildnjohidaaDoor
