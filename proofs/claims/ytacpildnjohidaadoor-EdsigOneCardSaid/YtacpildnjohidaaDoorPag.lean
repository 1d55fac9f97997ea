/- Pag: a part of the proof of statements of this seat. -/
import Derived.Test.YtacpildnjohidaaDoorPae
import Derived.Test.YtacpildnjohidaaDoorChunk
import Derived.Test.YtacpildnjohidaaDoorPac
import Derived.KernelRfl
import Derived.Shelf.Lay
import Derived.Shelf.LaySoft
import Derived.Shelf.Bytes.SlJoin
import Derived.RangeFuncOwn
import Derived.Test.YtacpildnjohidaaDoorProg
import Derived.BigCall
import Derived.Shelf.Vars
import Derived.Test.YtacpildnjohidaaDoorRows
import Derived.Test.YtacpildnjohidaaDoorTie
import Derived.Test.YtacpildnjohidaaDoorCards
import Derived.SevenTiedAt
import Derived.Lay
open Eq renaming trans->uw,symm->xK
open Go renaming World->aE,Value->aP,DataW->oK
open Go.MakeChecks renaming laidMetH_plain->aKT
open List renaming map_map->nk
open Option.some renaming inj->hV
open Prod.mk renaming injEq->ek
set_option linter.unusedVariables false
set_option maxRecDepth 100000
namespace Go.eV
open Go Go.b6 Go.Proofs
abbrev ie (wb:aE) (k:bU):Prop:=k.x0 Tryd.prog wb (iD sh SB k.id)
abbrev ma (wb:aE) (k:e4):Prop:=k.bY Tryd.prog wb (iD sh SB k.id)
abbrev oP (wb:aE) (k:jF):Prop:=k.bY Tryd.prog wb (iD sh SB k.c.id)
abbrev MV (wb:aE) (k:n6):Prop:=k.bY Tryd.prog wb (iD sh SB k.c.id)
theorem eS:Tryd.prog.follows .mixedOrders=true:=by kernel_rfl
theorem bu {α:Type} {p:α->Prop}:∀x∈([]:List α),p x:=λ_ h=>by cases h
theorem fr {α:Type} {p:α->Prop} {a:α} {l:List α} (h:p a) (hl:∀x∈l,p x):∀x∈a::l,p x:=λx hx=>by
 rcases List.mem_cons.1 hx with rfl|hx
 ·exact h
 ·exact hl x hx
abbrev l9 (wb:aE):Prop:=eX gz ⟨wb,wb,λ_=>False,λ_=>False,[]⟩
theorem Hd {a b:Int} (h:[[a]]=[[b]]):a=b:=by simpa using h
section
variable {wb:aE} {x3:Nat->List (List Int)->List (List Int)->Prop} {cal:eW} {li:FuncId->Nat->Option fH} {n d:Nat} {lsh:Nat->List Nat} {lens:List Nat} {B:(Nat->List (List Int)->List (List Int)->Prop)->(List (List Int)->List (List Int)->Prop)->Prop}
theorem Hy {c:bU} (cU:∀r ex ro,hk (iD sh x3) Tryd.prog gz ⟨wb,r,ex,ro,[]⟩ cal) (hg:l9 wb) (hf:Cl Tryd.prog c.f=true) (hu:wo c.args c.res (iD sh x3 c.id)) (hl:lens=(sh c.id).1) (hd:vq c.res=(sh c.id).2)
 (e:∀S K,iC sh lsh S K lens (bf c.args) c.res (c.tree Tryd.prog gz cal li n d)=B S K) (hp:B x3 (uJ x3 c.res c.id)):c.x0 Tryd.prog wb (iD sh x3 c.id):=
 bU.bY.f (axm eS cU hg hf hu hl hd (by rw[e];exact hp))
theorem EU {c:e4} {bc:n1} (cU:∀r ex ro,hk (iD sh x3) Tryd.prog gz ⟨wb,r,ex,ro,[]⟩ cal) (hg:l9 wb) (lT:∀(L:V->Env->Prop) (r:aE) (ro:Nat->Prop),uE (iD sh x3) L ⟨wb,r,λ_=>False,ro,[]⟩ Tryd.prog bc) (hf:Cl Tryd.prog c.f=true) (hl:lens=(sh c.id).1) (hd:AM c.res=(sh c.id).2)
 (e:∀S K,nv sh lsh S K lens (dx c.args) c.res (c.tree bc Tryd.prog gz cal li n d)=B S K) (hp:B x3 (jh x3 c.res c.id)):c.bY Tryd.prog wb (iD sh x3 c.id):=
 aof eS cU hg lT hf hl hd (by rw[e];exact hp)
end
theorem asg:Tr Tryd.prog 97:=⟨enters (by kernel_rfl),Tryd.aoR⟩
theorem az6 {a0 e9:Int} (h0:a0=e9):mE [.int .i64 (-9223372036854775808) 9223372036854775807] [a0]=mE [.int .i64 (-9223372036854775808) 9223372036854775807] [e9]:=by
 show(.int .i64 a0:aP)=(.int .i64 e9:aP)
 rw[h0]
theorem L1 {a0 e9:Int} (h0:a0=e9):mE [.int .u64 0 18446744073709551615] [a0]=mE [.int .u64 0 18446744073709551615] [e9]:=by
 show(.int .u64 a0:aP)=(.int .u64 e9:aP)
 rw[h0]
theorem aCX {A R:List D} {spec:List Int->List Int->Prop} (hl:(bf A).length=2) (hr:(bf R).length=1) (hv:∀a b:Int,a=b->mE R [a]=mE R [b]) (h:∀z0 aD a b:Int,spec [z0,aD] [a]->spec [z0,aD] [b]->a=b):wo A R spec:=λzs rs cH hz h1 h2 h3 h4=>by
 match zs,rs,cH,(er hz).trans hl,(er h1).trans hr,(er h2).trans hr,h3,h4 with
 |[z0,aD],[a],[b],_,_,_,h3,h4=>exact hv a b (h z0 aD a b h3 h4)
theorem L9 {A R:List D} {spec:List Int->List Int->Prop} (hl:(bf A).length=1) (hr:(bf R).length=1) (hv:∀a b:Int,a=b->mE R [a]=mE R [b]) (h:∀z0 a b:Int,spec [z0] [a]->spec [z0] [b]->a=b):wo A R spec:=λzs rs cH hz h1 h2 h3 h4=>by
 match zs,rs,cH,(er hz).trans hl,(er h1).trans hr,(er h2).trans hr,h3,h4 with
 |[z0],[a],[b],_,_,_,h3,h4=>exact hv a b (h z0 a b h3 h4)
theorem aCW:wo Hs.args Hs.res (iD sh SB 440):=aCX rfl rfl (λ_ _=>az6) λ_ _ _ _ h a8=>by first|exact uw h (xK a8)|exact Hd (uw h (xK a8))
theorem axb {wb:aE} (hg:l9 wb):ie wb Hs:=Hy (λ_ _ _=>mf bu bu) hg (by kernel_rfl) aCW rfl rfl aCI ayl
theorem aCR:wo Aw.args Aw.res (iD sh SB 448):=L9 rfl rfl (λ_ _=>L1) λ_ _ _ h a8=>by first|exact uw h (xK a8)|exact Hd (uw h (xK a8))
theorem awN {wb:aE} (hg:l9 wb):ie wb Aw:=Hy (λ_ _ _=>mf bu bu) hg (by kernel_rfl) aCR rfl rfl aCn axX
theorem aCS:wo Ax.args Ax.res (iD sh SB 449):=L9 rfl rfl (λ_ _=>L1) λ_ _ _ h a8=>by first|exact uw h (xK a8)|exact Hd (uw h (xK a8))
theorem awO {wb:aE} (hg:l9 wb):ie wb Ax:=Hy (λ_ _ _=>mf bu bu) hg (by kernel_rfl) aCS rfl rfl aCo axY
theorem aCT:wo Ay.args Ay.res (iD sh SB 450):=L9 rfl rfl (λ_ _=>L1) λ_ _ _ h a8=>by first|exact uw h (xK a8)|exact Hd (uw h (xK a8))
theorem awP {wb:aE} (hg:l9 wb):ie wb Ay:=Hy (λ_ _ _=>mf bu bu) hg (by kernel_rfl) aCT rfl rfl aCp axZ
theorem aCU:wo Az.args Az.res (iD sh SB 451):=L9 rfl rfl (λ_ _=>L1) λ_ _ _ h a8=>by first|exact uw h (xK a8)|exact Hd (uw h (xK a8))
theorem awQ {wb:aE} (hg:l9 wb):ie wb Az:=Hy (λ_ _ _=>mf bu bu) hg (by kernel_rfl) aCU rfl rfl aCq ax0
theorem axc {wb:aE} (hg:l9 wb) (arV:ie wb Hs):ma wb tz:=EU (λ_ _ _=>mf bu (fr arV bu)) hg (λ_ _ _=>(qt bu)) (by kernel_rfl) rfl rfl aCJ aym
theorem aw8 {wb:aE} (hg:eX gz ⟨wb,wb,λ_=>False,λ_=>False,[]⟩):oP wb E4:=by
 refine E8 (SB:=SB) (sh:=sh) (p:=E4) (bc:=(kx [])) (cal:=(iX [] [])) (li:=cj) (rounds:=600) (d:=6) (lsh:=c2) (lens:=[1,1]) eS (λ_ _ _=>mf bu bu) hg (λ_ _ _ _=>(qt bu)) (by kernel_rfl) rfl rfl ?_
 rw[show E4.c=PQ from rfl,aCG]
 exact ayj
theorem aw9 {wb:aE} (hg:eX gz ⟨wb,wb,λ_=>False,λ_=>False,[]⟩):oP wb E5:=by
 refine E8 (SB:=SB) (sh:=sh) (p:=E5) (bc:=(kx [])) (cal:=(iX [] [])) (li:=cj) (rounds:=600) (d:=6) (lsh:=c2) (lens:=[1,1,1]) eS (λ_ _ _=>mf bu bu) hg (λ_ _ _ _=>(qt bu)) (by kernel_rfl) rfl rfl ?_
 rw[show E5.c=PR from rfl,aCH]
 exact ayk
theorem aCV:wo AA.args AA.res (iD sh SB 467):=L9 rfl rfl (λ_ _=>L1) λ_ _ _ h a8=>by first|exact uw h (xK a8)|exact Hd (uw h (xK a8))
theorem awR {wb:aE} (hg:l9 wb):ie wb AA:=Hy (λ_ _ _=>mf bu bu) hg (by kernel_rfl) aCV rfl rfl aCr ax1
theorem awx {wb:aE} (hg:l9 wb):ma wb EL:=EU (λ_ _ _=>mf bu bu) hg (λ_ _ _=>(qt bu)) (by kernel_rfl) rfl rfl aB9 axH
theorem aws {wb:aE} (hg:eX gz ⟨wb,wb,λ_=>False,λ_=>False,[]⟩) (agn:ie wb AA) (agj:ie wb Aw) (agk:ie wb Ax) (agl:ie wb Ay) (agm:ie wb Az) (arP:ma wb EL):MV wb tZ:=by
 refine azW (SB:=SB) (sh:=sh) (p:=tZ) (lsh:=air) (lens:=[1]) (inl:=(No Tryd.prog gz (iX [] [AA,Aw,Ax,Ay,Az]) (Gd (kx [EL]) Tryd.prog gz (iX [] [AA,Aw,Ax,Ay,Az]) Qq 600 6) Qq 600 [(1,0,0,18446744073709551615),(1,1,0,18446744073709551615),(1,2,0,18446744073709551615),(1,3,0,18446744073709551615),(1,4,0,18446744073709551615),(1,5,0,18446744073709551615),(1,6,0,18446744073709551615),(1,7,0,18446744073709551615)] 97)) (λL r ex ro=>aoe asg eS (λ_ _ _=>mf bu (fr agn (fr agj (fr agk (fr agl (fr agm bu)))))) (λg cs h=>hg g cs h) (λr ex ro=>N7 (w0:=⟨wb,r,ex,ro,[]⟩) rfl eS ((λ_ _ _=>mf bu (fr agn (fr agj (fr agk (fr agl (fr agm bu)))))) r ex ro) (λg cs h=>hg g cs h) (qt (fr arP bu)) 6) rfl) (by kernel_rfl) rfl rfl ?_
 rw[show tZ.c=PM from rfl,aB3]
 exact axC
theorem axg {wb:aE} (hg:eX gz ⟨wb,wb,λ_=>False,λ_=>False,[]⟩) (Kc:ma wb tz) (arR:oP wb Lm) (Kb:MV wb tZ):oP wb CT:=by
 refine E8 (SB:=SB) (sh:=sh) (p:=CT) (bc:=(A4 [tZ] (oC [Lm] (kx [tz])))) (cal:=(iX [] [])) (li:=cj) (rounds:=600) (d:=6) (lsh:=c2) (lens:=[1]) eS (λ_ _ _=>mf bu bu) hg (λ_ _ _ _=>(QZ (yW (qt (fr Kc bu)) (fr arR bu)) (fr Kb bu))) (by kernel_rfl) rfl rfl ?_
 rw[show CT.c=PS from rfl,aCL]
 exact ayo
theorem axh {wb:aE} (hg:eX gz ⟨wb,wb,λ_=>False,λ_=>False,[]⟩) (Kc:ma wb tz) (arS:oP wb E4) (Kb:MV wb tZ):oP wb E6:=by
 refine E8 (SB:=SB) (sh:=sh) (p:=E6) (bc:=(A4 [tZ] (oC [E4] (kx [tz])))) (cal:=(iX [] [])) (li:=cj) (rounds:=600) (d:=6) (lsh:=c2) (lens:=[1,1]) eS (λ_ _ _=>mf bu bu) hg (λ_ _ _ _=>(QZ (yW (qt (fr Kc bu)) (fr arS bu)) (fr Kb bu))) (by kernel_rfl) rfl rfl ?_
 rw[show E6.c=PT from rfl,aCM]
 exact ayp
theorem axi {wb:aE} (hg:eX gz ⟨wb,wb,λ_=>False,λ_=>False,[]⟩) (Kc:ma wb tz) (arT:oP wb E5) (Kb:MV wb tZ):oP wb E7:=by
 refine E8 (SB:=SB) (sh:=sh) (p:=E7) (bc:=(A4 [tZ] (oC [E5] (kx [tz])))) (cal:=(iX [] [])) (li:=cj) (rounds:=600) (d:=6) (lsh:=c2) (lens:=[1,1,1]) eS (λ_ _ _=>mf bu bu) hg (λ_ _ _ _=>(QZ (yW (qt (fr Kc bu)) (fr arT bu)) (fr Kb bu))) (by kernel_rfl) rfl rfl ?_
 rw[show E7.c=PU from rfl,aCN]
 exact ayq
theorem awZ {wb:aE} (hg:eX gz ⟨wb,wb,λ_=>False,λ_=>False,[]⟩) (Wo:ie wb AF) (arX:oP wb E6):oP wb HH:=by
 refine E8 (SB:=SB) (sh:=sh) (p:=HH) (bc:=(oC [E6] (kx []))) (cal:=(iX [] [AF])) (li:=cj) (rounds:=600) (d:=6) (lsh:=c2) (lens:=[1,1]) eS (λ_ _ _=>mf bu (fr Wo bu)) hg (λ_ _ _ _=>(yW (qt bu) (fr arX bu))) (by kernel_rfl) rfl rfl ?_
 rw[show HH.c=PN from rfl,aCw]
 exact aya
theorem aw0 {wb:aE} (hg:eX gz ⟨wb,wb,λ_=>False,λ_=>False,[]⟩) (Wo:ie wb AF) (arY:oP wb E7):oP wb CS:=by
 refine E8 (SB:=SB) (sh:=sh) (p:=CS) (bc:=(oC [E7] (kx []))) (cal:=(iX [] [AF])) (li:=cj) (rounds:=600) (d:=6) (lsh:=c2) (lens:=[1,1,1]) eS (λ_ _ _=>mf bu (fr Wo bu)) hg (λ_ _ _ _=>(yW (qt bu) (fr arY bu))) (by kernel_rfl) rfl rfl ?_
 rw[show CS.c=PO from rfl,aCx]
 exact ayb
theorem awH {wb:aE} (hg:l9 wb) (Wn:ie wb EN) (Wq:ie wb EO) (Wp:oP wb CT):ma wb As:=EU (λ_ _ _=>mf bu (fr Wn (fr Wq bu))) hg (λ_ _ _=>(yW (qt bu) (fr Wp bu))) (by kernel_rfl) rfl rfl aCi axR
theorem awI {wb:aE} (hg:l9 wb) (Wn:ie wb EN) (Wq:ie wb EO) (arU:ie wb K5) (Wp:oP wb CT) (arQ:oP wb HH) (Wm:oP wb CS):ma wb At:=EU (λ_ _ _=>mf bu (fr Wn (fr Wq (fr arU bu)))) hg (λ_ _ _=>(yW (qt bu) (fr Wp (fr arQ (fr Wm bu))))) (by kernel_rfl) rfl rfl aCj axS
theorem awJ {wb:aE} (hg:l9 wb) (arW:ie wb K6) (ar0:ie wb K8) (arZ:ie wb K7) (Wm:oP wb CS):ma wb Au:=EU (λ_ _ _=>mf bu (fr arW (fr ar0 (fr arZ bu)))) hg (λ_ _ _=>(yW (qt bu) (fr Wm bu))) (by kernel_rfl) rfl rfl aCk axT
theorem awF {wb:aE} (hg:l9 wb) (h_edPub:ma wb As) (h_edSign:ma wb At) (h_edVer:ma wb Au):ma wb EM:=EU (λ_ _ _=>mf bu bu) hg (λ_ _ _=>(qt (fr h_edPub (fr h_edSign (fr h_edVer bu))))) (by kernel_rfl) rfl rfl aCg axP
theorem awG {wb:aE} (hg:l9 wb) (h_edAlive:ma wb EM) (h_edPub:ma wb As) (h_edSign:ma wb At) (h_edVer:ma wb Au):ma wb K4:=EU (λ_ _ _=>mf bu bu) hg (λ_ _ _=>(qt (fr h_edAlive (fr h_edPub (fr h_edSign (fr h_edVer bu)))))) (by kernel_rfl) rfl rfl aCh axQ
end Go.eV
namespace Go.eV
open Go Go.b6 Go.Proofs
theorem EY {wb:aE} {c:bU} {s Fm:List Int->List Int->Prop} (h:c.x0 Tryd.prog wb s) (hs:∀zs rs,ag (bf c.args) zs->ag (bf c.res) rs->s zs rs->Fm zs rs):c.x0 Tryd.prog wb Fm:=λzs hz=>by
 obtain⟨rs,h1,h2,h3⟩:=h zs hz
 exact⟨rs,h1,hs zs rs hz h1 h2,h3⟩
theorem ajo {rs:List Int} {n:Nat} (h:rs.length=n+1):∃e,rs.drop n=[e]:=List.length_eq_one_iff.1 (by rw[List.length_drop];omega)
section
variable {wb:aE}
theorem axo (hg:l9 wb):ie wb K8:=by
 obtain⟨G,h⟩:=Go.Fd.Jf (wb:=wb) hg
 have h1:Go.Fd.w9.bY Tryd.prog wb (Go.Fd.fG G 112):=h _ (Go.Fd.dD (i:=2) rfl)
 refine EY (c:=K8) (s:=Go.Fd.fG G 112) h1.f λzs rs hz hr ae=>?_
 have ae:Go.Fd.SB 112 (dd [32] zs) (dd [32,1] rs):=ae.1
 show SB 112 (dd [32] zs) (dd [32,1] rs)
 have kV:zs.length=32:=er hz
 have gA:rs.length=32+1:=er hr
 obtain⟨e,he⟩:=ajo gA
 rw[Go.Fd.vI kV,Go.Fd.Ih gA,he]at ae⊢
 exact ae
theorem axl (hg:l9 wb):ie wb EO:=by
 obtain⟨G,h⟩:=Go.Fd.Jf (wb:=wb) hg
 have h1:Go.Fd.w7.bY Tryd.prog wb (Go.Fd.fG G 114):=h _ (Go.Fd.dD (i:=1) rfl)
 refine EY (c:=EO) (s:=Go.Fd.fG G 114) h1.f λzs rs hz hr ae=>?_
 have ae:Go.Fd.SB 114 (dd [32] zs) (dd [32] rs):=ae.1
 show SB 114 (dd [32] zs) (dd [32] rs)
 have kV:zs.length=32:=er hz
 have gA:rs.length=32:=er hr
 rw[Go.Fd.vI kV,Go.Fd.vI gA]at ae⊢
 exact ae
theorem axn (hg:l9 wb):ie wb K7:=by
 obtain⟨G,h⟩:=Go.Fd.Jf (wb:=wb) hg
 have h1:Go.Fd.w8.bY Tryd.prog wb (Go.Fd.fG G 115):=h _ (Go.Fd.dD (i:=0) rfl)
 refine EY (c:=K7) (s:=Go.Fd.fG G 115) h1.f λzs rs hz hr ae=>?_
 have ae:Go.Fd.SB 115 (dd [32,32,32] zs) (dd [32,1] rs):=ae.1
 show SB 115 (dd [32,32,32] zs) (dd [32,1] rs)
 have kV:zs.length=32+(32+32):=er hz
 have gA:rs.length=32+1:=er hr
 obtain⟨e,he⟩:=ajo gA
 rw[Go.Fd.aai kV,Go.Fd.Ih gA,he]at ae⊢
 exact ae
theorem axf (hg:l9 wb):ie wb K6:=by
 have h1:Go.lJ.lu.bY Tryd.prog wb (Go.lJ.cq 13):=Go.lJ.Y4 hg
 refine EY (c:=K6) (s:=Go.lJ.cq 13) h1.f λzs rs hz hr ae=>?_
 have ae:rs=[if cK zs<(Go.Fd.iv:Int)then 1 else 0]:=ae
 show SB 151 (dd [32] zs) (dd [1] rs)
 have kV:zs.length=32:=er hz
 have gA:rs.length=1:=er hr
 rw[Go.Fd.vI kV,Go.Fd.vI gA,ae]
 rfl
theorem axe (hg:l9 wb):ie wb AF:=by
 have h1:Go.lJ.lW.bY Tryd.prog wb (Go.lJ.cq 11):=Go.lJ.Y2 hg
 refine EY (c:=AF) (s:=Go.lJ.cq 11) h1.f λzs rs hz hr ae=>?_
 have ae:cK rs=cK zs% (Go.Fd.iv:Int):=ae
 show SB 152 (dd [64] zs) (dd [32] rs)
 have kV:zs.length=64:=er hz
 have gA:rs.length=32:=er hr
 rw[Go.Fd.vI kV,Go.Fd.vI gA]
 exact ae
theorem axa (hg:l9 wb):ie wb K5:=by
 have h1:Go.lJ.CG.bY Tryd.prog wb (Go.lJ.cq 8):=Go.lJ.awX hg
 refine EY (c:=K5) (s:=Go.lJ.cq 8) h1.f λzs rs hz hr ae=>?_
 have ae:cK rs=(cK (zs.take 32)*cK ((zs.drop 32).take 32)+cK (zs.drop 64))% (Go.Fd.iv:Int):=ae
 show SB 153 (dd [32,32,32] zs) (dd [32] rs)
 have kV:zs.length=32+(32+32):=er hz
 have gA:rs.length=32:=er hr
 rw[Go.Fd.aai kV,Go.Fd.vI gA]
 show cK rs=(cK (zs.take 32)*cK ((zs.drop 32).take 32)+cK ((zs.drop 32).drop 32))% (Go.Fd.iv:Int)
 rw[ae,List.drop_drop]
theorem aw7 (hg:l9 wb):ie wb EN:=by
 have h1:Go.lJ.CF.bY Tryd.prog wb (Go.lJ.cq 14):=Go.lJ.awy hg
 refine EY (c:=EN) (s:=Go.lJ.cq 14) h1.f λzs rs hz hr ae=>?_
 have ae:rs=JA zs:=ae
 show SB 154 (dd [32] zs) (dd [32] rs)
 have kV:zs.length=32:=er hz
 have gA:rs.length=32:=er hr
 rw[Go.Fd.vI kV,Go.Fd.vI gA]
 exact ae
end
end Go.eV
namespace Go.Proofs
open Go.Shelf Go.RowKit
shelf_lay SlLaysJ.n14 Slb 14 at Tryd as Tryd.aie
open Go.b6 Go.Lib
def sy:List aL:=[.int .u8 0 255]
def A9 (rows:List (List Int)):List UInt8:=rows.map λr=>UInt8.ofNat (r.getD 0 0).toNat
theorem alb {r:List Int} (h:cw sy r):∃z:Int,r=[z]/\0<=z/\z<=255/\((UInt8.ofNat z.toNat).toNat:Int)=z:=by
 match r,h with
 |[z],h=>
  have h1:0<=z/\z<=255:=h.1
  refine⟨z,rfl,h1.1,h1.2,?_⟩
  have e:(UInt8.ofNat z.toNat).toNat=z.toNat% 256:=by simp
  rw[e];omega
theorem RT (rows:List (List Int)):(A9 rows).length=rows.length:=by simp[A9]
theorem aBW {w:World} {g o:Nat} {cells:Array Value} {t:TypeId} {fz:Nat×Nat} {rows:List (List Int)} (hg:w.heap[g]?=some (.cells cells t fz)) (h:mU cells o sy rows) (i:Nat) (x:UInt8) (hx:(A9 rows)[i]?=some x):w.cell? ((⟨g,o,none⟩:Addr).add i)=some (.int .u8 (x.toNat:Int)):=by
 unfold A9 at hx
 rw[List.getElem?_map]at hx
 cases hr:rows[i]? with
 |none=>rw[hr]at hx;cases hx
 |some r=>
  rw[hr]at hx
  simp only[Option.map_some,Option.some.injEq]at hx
  obtain⟨z,rfl,h1,h2,h3⟩:=alb (h.1 r (List.mem_of_getElem? hr))
  have hv:(dq sy [z])[0]?=some (Value.int .u8 z):=rfl
  have:=h.get hr hv
  rw[jG]
  simp only[World.cell?,hg,Option.isSome_none,Bool.false_eq_true,if_false]
  simp only[sy,List.length_cons,List.length_nil,Nat.zero_add,Nat.mul_one,Nat.add_zero]at this
  rw[this,<-hx]
  simp only[List.getD_cons_zero]
  rw[h3]
theorem aj9:∀(rows:List (List Int)) (zs:List Int),(∀row∈rows,cw sy row)->(∀x∈zs,0<=x/\x<256)->bytesOf zs=A9 rows->b2 sy rows=zs.map (Value.int .u8)
 |[],zs,_,_,h=>by
  have:zs.length=0:=by have:=congrArg List.length h;simpa [bytesOf,A9]using this
  rw[List.eq_nil_of_length_eq_zero this];rfl
 |r::rows,[],_,_,h=>by simp[bytesOf,A9]at h
 |r::rows,z::zs,hr,hz,h=>by
  obtain⟨y,rfl,h1,h2,h3⟩:=alb (hr r (by simp))
  have hz1:=hz z (by simp)
  unfold bytesOf A9 at h
  simp only[List.map_cons,List.cons.injEq,List.getD_cons_zero]at h
  have ih:=aj9 rows zs (λx hx=>hr x (List.mem_cons_of_mem _ hx)) (λx hx=>hz x (List.mem_cons_of_mem _ hx)) h.2
  have e:y=z:=by
   have:=congrArg (λb:UInt8=>(b.toNat:Int)) h.1
   simp at this
   omega
  subst e
  show Value.int .u8 y::b2 sy rows=_
  rw[ih];rfl
theorem join_one {spec:List Int->List Int->Prop} {wb:World} {p:jF} (hc:p.c.f=71) (ha:p.c.args=[.rd sy]) (hr:p.c.res=[.rd sy]) (hp:p.c.pre=71) (hn:p.nil=true) (hs:∀z r,0<=r->r<=bN->ah r=ah z->spec [z] [r]) (hf:∀args w,(callFunc 71 args).run Tryd.prog w= .ok (.enter 71 args) w):
 p.bY Tryd.prog wb spec:=by
 refine⟨by rw[hc];exact hf,?_⟩
 rw[hc,ha,hr,hp]
 intro F w vs zs g hw hz o2 hat hg hF hcell
 match zs,hz,vs,hat,o2,hcell with
 |[z],hz,[v],hat,o2,hcell=>
 have hat:zG F w sy (ah z) v:=hat.1
 have o2:(ah z).length<=1000000000:=o2
 have e:CQ p g [v].length=#[.slice (some ⟨g,0,none⟩) 1 1,.slice none 0 0]:=by unfold CQ;rw[hn];rfl
 rw[e]
 have hc0:w.cell? ⟨g,0,none⟩=some v:=by simp[World.cell?,hcell]
 have empty:(∃p0 eh,v= .slice p0 0 eh)->ah z=[]->Calls Tryd.prog 71 #[.slice (some ⟨g,0,none⟩) 1 1,.slice none 0 0] w λe w'=>w.Extends w'/\∃rs us,ag (dx [cB.rd sy]) rs/\spec [z] rs/\kK (λg=>F g∨w.heap.size<=g) (λg=>w.heap.size<=g) w' [cB.rd sy] rs us/\e= .returned (uq us):=λ⟨p0,eh,hv⟩ h0=>by
  refine Calls.mono (Any.bytes_Join_one_empty Tryd.aie g 0 1 p0 eh (.slice none 0 0) w (by rw[hc0,hv])) ?_
  rintro e w' ⟨rfl,rfl⟩
  exact⟨World.Extends.refl _,[0],[.slice none 0 0],⟨Int.le_refl _,x2,trivial⟩,hs z 0 (Int.le_refl _) x2 (by rw[k6,h0]),⟨.inl ⟨rfl,k6⟩,trivial⟩,rfl⟩
 rcases hat with⟨rfl,h0⟩|⟨g1,o1,c1,cells,t,fz,rfl,⟨h2,h3⟩,h4,h5,h6⟩
 ·exact empty ⟨none,0,rfl⟩ h0
 ·rcases Nat.eq_zero_or_pos (ah z).length with h0|h0
  ·exact empty ⟨some ⟨g1,o1,none⟩,c1,by rw[h0]⟩ (List.eq_nil_of_length_eq_zero h0)
  ·refine Calls.mono (Any.bytes_Join_one Tryd.aie g 0 1 ⟨g1,o1,none⟩ c1 (A9 (ah z)) (.slice none 0 0) w (by rw[hc0,RT]) (λi x hx=>aBW h5 h6 i x hx) (by rw[RT];exact h0) (by rw[RT];omega)) ?_
   rintro e w' ⟨v',rfl,⟨g2,cap,zs',rfl,k1,k2,k3,k4,sc,w4,PL,_⟩,hb⟩
   have hsz:=hb.size
   rw[RT]at k2 w4⊢
   obtain⟨cells',t',VU,lU⟩:∃cells' t' VU,w'.heap[g2]?=some (.cells cells' t' VU):=by
    have h7:=PL 0 (by omega)
    simp only[World.cell?]at h7
    cases ae:w'.heap[g2]? with
    |none=>simp[ae]at h7
    |some ob=>
     cases ob<;>simp[ae]at h7
     exact⟨_,_,_,rfl⟩
   have Cq:∀i,i<cap->cells'[i]?=some (.int .u8 (zs'.getD i 0)):=λi hi=>by
    have h7:=PL i hi
    simpa [World.cell?,lU]using h7
   have j6:=aj9 (ah z) (zs'.take (ah z).length) h6.1 (λx hx=>sc x (List.mem_of_mem_take hx)) w4
   refine⟨VH (World.Extends.refl w) hb.os hb.tape hb.output hb.size hb.block,[z],[_],hz,hs z z hz.1 hz.2.1 rfl,⟨.inr ⟨g2,0,cap,cells',t',VU,rfl,⟨k2,by simp only[maxLen]at k3;omega⟩,.inr k1,lU,h6.1,[],cells'.toList.drop (ah z).length,?_,rfl⟩,trivial⟩,rfl⟩
   have atG:cells'.toList.take (ah z).length=b2 sy (ah z):=by
    rw[j6]
    apply List.ext_getElem?
    intro i
    rw[List.getElem?_take,List.getElem?_map,List.getElem?_take]
    split
    ·rename_i hi
     have:=Cq i (by omega)
     rw[Array.getElem?_toList,this,List.getD_eq_getElem?_getD]
     have hlt:i<zs'.length:=by omega
     rw[List.getElem?_eq_getElem hlt];rfl
    ·rfl
   show cells'.toList=[]++b2 sy (ah z)++_
   rw[List.nil_append,<-atG,List.take_append_drop]
end Go.Proofs
namespace Go.Proofs.YtacpildnjohidaaDoor
open Go Go.b6 Go.eV Go.ChangeShapes Go.RowKit
theorem own:ownKnob Tryd.prog.godebug=none:=by kernel_rfl
theorem avH:laidOutB Tryd.prog=true:=by kernel_rfl
def laid:List (String×oK Unit):=[("vouchsafe/field.One",Rows.laid_vouchsafe_field_One),("vouchsafe/curve.once",Rows.laid_vouchsafe_curve_once),("vouchsafe/scalar.order",Rows.laid_vouchsafe_scalar_order),("vouchsafe/scalar.tail",Rows.laid_vouchsafe_scalar_tail),("vouchsafe/sha.roots",Rows.laid_vouchsafe_sha_roots),("vouchsafe/sha.begins",Rows.laid_vouchsafe_sha_begins)]
theorem afQ:Tryd.prog.globalNamed "vouchsafe/field.One" =some 3:=by kernel_rfl
theorem aBm:(Tryd.prog.globals[3]?).map (·.type)=some 63:=by kernel_rfl
theorem aBX:Tryd.prog.underlying 63=some (.array 5 32):=by kernel_rfl
theorem aps:Tryd.prog.underlying 32=some (.int .u64):=by kernel_rfl
theorem aoD:Tryd.prog.cellsOf 32=1:=by kernel_rfl
theorem aoo:Tryd.prog.cellsOf 63=5:=by kernel_rfl
theorem avl:(Rows.laid_vouchsafe_field_One:oK Unit)= .agg (Y7.map λz=> .lit (.int .u64 z)):=by kernel_rfl
theorem afR:Tryd.prog.globalNamed "vouchsafe/curve.once" =some 4:=by kernel_rfl
theorem aBn:(Tryd.prog.globals[4]?).map (·.type)=some 63:=by kernel_rfl
theorem aBY:Tryd.prog.underlying 63=some (.array 5 32):=by kernel_rfl
theorem apt:Tryd.prog.underlying 32=some (.int .u64):=by kernel_rfl
theorem aoE:Tryd.prog.cellsOf 32=1:=by kernel_rfl
theorem aop:Tryd.prog.cellsOf 63=5:=by kernel_rfl
theorem avm:(Rows.laid_vouchsafe_curve_once:oK Unit)= .agg (Y6.map λz=> .lit (.int .u64 z)):=by kernel_rfl
theorem afS:Tryd.prog.globalNamed "vouchsafe/scalar.order" =some 0:=by kernel_rfl
theorem aBo:(Tryd.prog.globals[0]?).map (·.type)=some 56:=by kernel_rfl
theorem aBZ:Tryd.prog.underlying 56=some (.array 4 32):=by kernel_rfl
theorem apu:Tryd.prog.underlying 32=some (.int .u64):=by kernel_rfl
theorem aoF:Tryd.prog.cellsOf 32=1:=by kernel_rfl
theorem aoq:Tryd.prog.cellsOf 56=4:=by kernel_rfl
theorem avn:(Rows.laid_vouchsafe_scalar_order:oK Unit)= .agg (Zc.map λz=> .lit (.int .u64 z)):=by kernel_rfl
theorem afT:Tryd.prog.globalNamed "vouchsafe/scalar.tail" =some 5:=by kernel_rfl
theorem aBp:(Tryd.prog.globals[5]?).map (·.type)=some 129:=by kernel_rfl
theorem aB0:Tryd.prog.underlying 129=some (.array 2 32):=by kernel_rfl
theorem apv:Tryd.prog.underlying 32=some (.int .u64):=by kernel_rfl
theorem aoG:Tryd.prog.cellsOf 32=1:=by kernel_rfl
theorem aor:Tryd.prog.cellsOf 129=2:=by kernel_rfl
theorem avo:(Rows.laid_vouchsafe_scalar_tail:oK Unit)= .agg (aaw.map λz=> .lit (.int .u64 z)):=by kernel_rfl
theorem afU:Tryd.prog.globalNamed "vouchsafe/sha.roots" =some 2:=by kernel_rfl
theorem aBq:(Tryd.prog.globals[2]?).map (·.type)=some 98:=by kernel_rfl
theorem aB1:Tryd.prog.underlying 98=some (.array 80 32):=by kernel_rfl
theorem apw:Tryd.prog.underlying 32=some (.int .u64):=by kernel_rfl
theorem aoH:Tryd.prog.cellsOf 32=1:=by kernel_rfl
theorem aos:Tryd.prog.cellsOf 98=80:=by kernel_rfl
theorem avp:(Rows.laid_vouchsafe_sha_roots:oK Unit)= .agg (H5.map λz=> .lit (.int .u64 z)):=by kernel_rfl
theorem afV:Tryd.prog.globalNamed "vouchsafe/sha.begins" =some 1:=by kernel_rfl
theorem aBr:(Tryd.prog.globals[1]?).map (·.type)=some 77:=by kernel_rfl
theorem aB2:Tryd.prog.underlying 77=some (.array 8 32):=by kernel_rfl
theorem apx:Tryd.prog.underlying 32=some (.int .u64):=by kernel_rfl
theorem aoI:Tryd.prog.cellsOf 32=1:=by kernel_rfl
theorem aot:Tryd.prog.cellsOf 77=8:=by kernel_rfl
theorem avq:(Rows.laid_vouchsafe_sha_begins:oK Unit)= .agg (Nk.map λz=> .lit (.int .u64 z)):=by kernel_rfl
theorem af1 {W:aE} (h:laidMetH Tryd.prog laid W):eX gz ⟨W,W,λ_=>False,λ_=>False,[]⟩:=by
 rw[aKT _ _ _ (by kernel_rfl)]at h
 obtain⟨jM,⟨a0,e9,aF1,f0,p0,eB,Kt,Xg,oq,agD,⟨bZ,b3,aF2,f1,cm,bb,Aa,Pn,rm,yy,⟨a2,b4,aF3,f2,cl,b0,Ab,Xh,kR,wP,⟨a3,c7,aF4,f3,c3,cv,Ep,atD,atQ,Kl,⟨a4,lO,aF5,f4,e0,dK,Ku,atE,atS,Km,⟨a5,lP,aF6,f5,fb,jC,Er,Xi,atT,agE,_,_⟩,_⟩,_⟩,_⟩,_⟩,_⟩,_,_⟩:=h
 obtain rfl:=hV (afQ.symm.trans Kt)
 obtain rfl:=hV (aBm.symm.trans Xg)
 rw[avl]at agD
 have ej:=GD (zs:=Y7) afQ aBX aps aoD aoo oq agD
 obtain rfl:=hV (afR.symm.trans Aa)
 obtain rfl:=hV (aBn.symm.trans Pn)
 rw[avm]at yy
 have ai:=GD (zs:=Y6) afR aBY apt aoE aop rm yy
 obtain rfl:=hV (afS.symm.trans Ab)
 obtain rfl:=hV (aBo.symm.trans Xh)
 rw[avn]at wP
 have af:=GD (zs:=Zc) afS aBZ apu aoF aoq kR wP
 obtain rfl:=hV (afT.symm.trans Ep)
 obtain rfl:=hV (aBp.symm.trans atD)
 rw[avo]at Kl
 have ar:=GD (zs:=aaw) afT aB0 apv aoG aor atQ Kl
 obtain rfl:=hV (afU.symm.trans Ku)
 obtain rfl:=hV (aBq.symm.trans atE)
 rw[avp]at Km
 have cN:=GD (zs:=H5) afU aB1 apw aoH aos atS Km
 obtain rfl:=hV (afV.symm.trans Er)
 obtain rfl:=hV (aBr.symm.trans Xi)
 rw[avq]at agE
 have ia:=GD (zs:=Nk) afV aB2 apx aoI aot atT agE
 intro g cs hm
 simp only[gz,List.mem_cons,ek,List.not_mem_nil,or_false]at hm
 rcases hm with⟨rfl,rfl⟩|⟨rfl,rfl⟩|⟨rfl,rfl⟩|⟨rfl,rfl⟩|⟨rfl,rfl⟩|⟨rfl,rfl⟩
 ·rw[nk];exact af
 ·rw[nk];exact ia
 ·rw[nk];exact cN
 ·rw[nk];exact ej
 ·rw[nk];exact ai
 ·rw[nk];exact ar
theorem avs:(laid.filter λx=>x.2.handleName?.isNone)=laid:=by kernel_rfl
theorem apa (os:Os) (args:Array aP):laidMetH Tryd.prog laid ((World.laidAll Tryd.prog os laid).forCall (λ_ _=>0) ⟨#[],args,[]⟩).memory:=
 laidMetH_of_parts3 (fuel:=8) (by rw[avs];exact laidMet_laidAll args (by kernel_rfl) (by kernel_rfl)) (by kernel_rfl) (by kernel_rfl)
theorem aBU:MO Tryd.prog 23 (.rd [.int .u8 0 255]):=⟨5,Tryd.underlying23,by kernel_rfl,by kernel_rfl,by decide⟩
theorem akW:MO Tryd.prog 22 (.d (.agg .u8 32 0 255)):=⟨5,Tryd.underlying22,by kernel_rfl,by kernel_rfl⟩
theorem axp {id:Nat} (hid:id=685) (a:List (List Int)) (z:Int) (h:SB id a [[z]]):z=1:=by
 subst hid
 all_goals
  match a,h with
  |[],h=>first|exact h|exact h.elim
  |[_],h=>first|exact h|exact h.elim
  |[_,_],h=>first|exact h|exact h.elim
  |[_,_,_],h=>first|exact h|exact h.elim
  |_::_::_::_::_,h=>exact h.elim
structure iA (W:aE):Prop where
 VB:ma W EM
 Ov:ma W As
 Ow:ma W At
 Ox:ma W Au
theorem Jf {W:aE} (h:W.ShapedOpen Tryd.prog) (dB:laidMetH Tryd.prog laid W):iA W:=by
 have hg:=af1 dB
 have aAV:=axb hg
 have aq6:=awN hg
 have aq8:=awO hg
 have aq9:=awP hg
 have ara:=awQ hg
 have aah:=axc hg aAV
 have aAN:oP W Lm:=join_one (p:=Lm) rfl rfl rfl rfl rfl (λz r h0 h1 h=>h) (enters (by kernel_rfl))
 have aAO:=aw8 hg
 have aAP:=aw9 hg
 have arp:=awR hg
 have aoS:=awx hg
 have Uv:=aws hg arp aq6 aq8 aq9 ara aoS
 have akO:=axg hg aah aAN Uv
 have aBj:=axh hg aah aAO Uv
 have aBk:=axi hg aah aAP Uv
 have aC9:ie W K8:=axo hg
 have alh:ie W EO:=axl hg
 have aC8:ie W K7:=axn hg
 have aA1:ie W K6:=axf hg
 have akH:ie W AF:=axe hg
 have aAU:ie W K5:=axa hg
 have akv:ie W EN:=aw7 hg
 have awj:=awZ hg akH aBj
 have ajf:=aw0 hg akH aBk
 have Ov:=awH hg akv alh akO
 have Ow:=awI hg akv alh aAU akO awj ajf
 have Ox:=awJ hg aA1 aC9 aC8 ajf
 have VB:=awF hg Ov Ow Ox
 exact⟨VB,Ov,Ow,Ox⟩
end Go.Proofs.YtacpildnjohidaaDoor
