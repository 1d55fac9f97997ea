/- Pah: a part of the proof of statements of this seat. -/
import Derived.Test.YtacpildnjohidaaDoorPae
import Derived.Test.YtacpildnjohidaaDoorChunk
import Derived.Test.YtacpildnjohidaaDoorPac
import Derived.KernelRfl
import Derived.Test.YtacpildnjohidaaDoorCvOk
import Derived.Shelf.Lay
import Derived.Shelf.LaySoft
import Derived.Shelf.Bytes.SlJoin
import Derived.RangeFuncOwn
import Derived.Test.YtacpildnjohidaaDoorProg
import Derived.BigCall
import Derived.Shelf.Vars
import Derived.Test.YtacpildnjohidaaDoorRows
import Derived.Test.YtacpildnjohidaaDoorTie
import Derived.Test.YtacpildnjohidaaDoorCards
import Derived.SevenTiedAt
import Derived.Lay
open Eq renaming trans->xT,symm->Ax
open Go renaming World->aG,Value->aW,DataW->rb
open Go.MakeChecks renaming laidMetH_plain->aOE
open List renaming map_map->pD
open Option.some renaming inj->jC
open Prod.mk renaming injEq->eO
set_option linter.unusedVariables false
set_option maxRecDepth 100000
namespace Go.gg
open Go Go.b9 Go.Proofs
abbrev fE (wb:aG) (k:bJ):Prop:=k.AM Tryd.prog wb (jK sh SB k.id)
abbrev nM (wb:aG) (k:gK):Prop:=k.bD Tryd.prog wb (jK sh SB k.id)
abbrev rj (wb:aG) (k:kV):Prop:=k.bD Tryd.prog wb (jK sh SB k.c.id)
abbrev PN (wb:aG) (k:qw):Prop:=k.bD Tryd.prog wb (jK sh SB k.c.id)
theorem gx:Tryd.prog.follows .mixedOrders=true:=by kernel_rfl
theorem bb {α:Type} {p:α->Prop}:∀x∈([]:List α),p x:=λ_ h=>by cases h
theorem gB {α:Type} {p:α->Prop} {a:α} {l:List α} (h:p a) (hl:∀x∈l,p x):∀x∈a::l,p x:=λx hx=>by
 rcases List.mem_cons.1 hx with rfl|hx
 ·exact h
 ·exact hl x hx
abbrev lC (wb:aG):Prop:=gM h9 ⟨wb,wb,λ_=>False,λ_=>False,[]⟩
theorem J3 {a b:Int} (h:[[a]]=[[b]]):a=b:=by simpa using h
section
variable {wb:aG} {AP:Nat->List (List Int)->List (List Int)->Prop} {cal:gL} {li:FuncId->Nat->Option hN} {n d:Nat} {lsh:Nat->List Nat} {lens:List Nat} {B:(Nat->List (List Int)->List (List Int)->Prop)->(List (List Int)->List (List Int)->Prop)->Prop}
theorem Kp {c:bJ} (dy:∀r ex ro,iM (jK sh AP) Tryd.prog h9 ⟨wb,r,ex,ro,[]⟩ cal) (hg:lC wb) (hf:EP Tryd.prog c.f=true) (hu:zj c.args c.res (jK sh AP c.id)) (hl:lens=(sh c.id).1) (hd:vh c.res=(sh c.id).2)
 (e:∀S K,fg sh lsh S K lens (aY c.args) c.res (c.tree Tryd.prog h9 cal li n d)=B S K) (hp:B AP (x3 AP c.res c.id)):c.AM Tryd.prog wb (jK sh AP c.id):=
 bJ.bD.f (aAV gx dy hg hf hu hl hd (by rw[e];exact hp))
theorem Fh {c:gK} {bc:qq} (dy:∀r ex ro,iM (jK sh AP) Tryd.prog h9 ⟨wb,r,ex,ro,[]⟩ cal) (hg:lC wb) (n0:∀(L:V->Env->Prop) (r:aG) (ro:Nat->Prop),xZ (jK sh AP) L ⟨wb,r,λ_=>False,ro,[]⟩ Tryd.prog bc) (hf:EP Tryd.prog c.f=true) (hl:lens=(sh c.id).1) (hd:Dl c.res=(sh c.id).2)
 (e:∀S K,o9 sh lsh S K lens (dU c.args) c.res (c.tree bc Tryd.prog h9 cal li n d)=B S K) (hp:B AP (hM AP c.res c.id)):c.bD Tryd.prog wb (jK sh AP c.id):=
 ar2 gx dy hg n0 hf hl hd (by rw[e];exact hp)
end
theorem avC:VN Tryd.prog 97:=⟨enters (by kernel_rfl),Tryd.asG⟩
theorem aED {a0 fV:Int} (h0:a0=fV):oO [.int .i64 (-9223372036854775808) 9223372036854775807] [a0]=oO [.int .i64 (-9223372036854775808) 9223372036854775807] [fV]:=by
 show(.int .i64 a0:aW)=(.int .i64 fV:aW);rw[h0]
theorem OZ {a0 fV:Int} (h0:a0=fV):oO [.int .u64 0 18446744073709551615] [a0]=oO [.int .u64 0 18446744073709551615] [fV]:=by
 show(.int .u64 a0:aW)=(.int .u64 fV:aW);rw[h0]
theorem aHL {A R:List D} {spec:List Int->List Int->Prop} (hl:(aY A).length=2) (hr:(aY R).length=1) (hv:∀a b:Int,a=b->oO R [a]=oO R [b]) (h:∀z0 aF a b:Int,spec [z0,aF] [a]->spec [z0,aF] [b]->a=b):zj A R spec:=λzs rs cX hz h1 h2 h3 h4=>by
 match zs,rs,cX,(dR hz).trans hl,(dR h1).trans hr,(dR h2).trans hr,h3,h4 with
 |[z0,aF],[a],[b],_,_,_,h3,h4=>exact hv a b (h z0 aF a b h3 h4)
theorem O8 {A R:List D} {spec:List Int->List Int->Prop} (hl:(aY A).length=1) (hr:(aY R).length=1) (hv:∀a b:Int,a=b->oO R [a]=oO R [b]) (h:∀z0 a b:Int,spec [z0] [a]->spec [z0] [b]->a=b):zj A R spec:=λzs rs cX hz h1 h2 h3 h4=>by
 match zs,rs,cX,(dR hz).trans hl,(dR h1).trans hr,(dR h2).trans hr,h3,h4 with
 |[z0],[a],[b],_,_,_,h3,h4=>exact hv a b (h z0 a b h3 h4)
theorem aHK:zj Kj.args Kj.res (jK sh SB 440):=aHL rfl rfl (λ_ _=>aED) λ_ _ _ _ h bm=>by first|exact xT h (Ax bm)|exact J3 (xT h (Ax bm))
theorem aAK {wb:aG} (hg:lC wb):fE wb Kj:=Kp (λ_ _ _=>nU bb bb) hg (by kernel_rfl) aHK rfl rfl aHw aCe
theorem aHF:zj C5.args C5.res (jK sh SB 448):=O8 rfl rfl (λ_ _=>OZ) λ_ _ _ h bm=>by first|exact xT h (Ax bm)|exact J3 (xT h (Ax bm))
theorem az1 {wb:aG} (hg:lC wb):fE wb C5:=Kp (λ_ _ _=>nU bb bb) hg (by kernel_rfl) aHF rfl rfl aGP aBw
theorem aHG:zj C6.args C6.res (jK sh SB 449):=O8 rfl rfl (λ_ _=>OZ) λ_ _ _ h bm=>by first|exact xT h (Ax bm)|exact J3 (xT h (Ax bm))
theorem az2 {wb:aG} (hg:lC wb):fE wb C6:=Kp (λ_ _ _=>nU bb bb) hg (by kernel_rfl) aHG rfl rfl aGQ aBx
theorem aHH:zj C7.args C7.res (jK sh SB 450):=O8 rfl rfl (λ_ _=>OZ) λ_ _ _ h bm=>by first|exact xT h (Ax bm)|exact J3 (xT h (Ax bm))
theorem az3 {wb:aG} (hg:lC wb):fE wb C7:=Kp (λ_ _ _=>nU bb bb) hg (by kernel_rfl) aHH rfl rfl aGR aBy
theorem aHI:zj C8.args C8.res (jK sh SB 451):=O8 rfl rfl (λ_ _=>OZ) λ_ _ _ h bm=>by first|exact xT h (Ax bm)|exact J3 (xT h (Ax bm))
theorem az4 {wb:aG} (hg:lC wb):fE wb C8:=Kp (λ_ _ _=>nU bb bb) hg (by kernel_rfl) aHI rfl rfl aGS aBz
theorem aAL {wb:aG} (hg:lC wb) (avi:fE wb Kj):nM wb w1:=Fh (λ_ _ _=>nU bb (gB avi bb)) hg (λ_ _ _=>(sm bb)) (by kernel_rfl) rfl rfl aHx aCf
theorem aAH {wb:aG} (hg:gM h9 ⟨wb,wb,λ_=>False,λ_=>False,[]⟩):rj wb HO:=by
 refine HS (SB:=SB) (sh:=sh) (p:=HO) (bc:=(lV [])) (cal:=(jR [] [])) (li:=bw) (rounds:=600) (d:=6) (lsh:=ck) (lens:=[1,1]) gx (λ_ _ _=>nU bb bb) hg (λ_ _ _ _=>(sm bb)) (by kernel_rfl) rfl rfl ?_;rw[show HO.c=R7 from rfl,aHu];exact aCc
theorem aAI {wb:aG} (hg:gM h9 ⟨wb,wb,λ_=>False,λ_=>False,[]⟩):rj wb HP:=by
 refine HS (SB:=SB) (sh:=sh) (p:=HP) (bc:=(lV [])) (cal:=(jR [] [])) (li:=bw) (rounds:=600) (d:=6) (lsh:=ck) (lens:=[1,1,1]) gx (λ_ _ _=>nU bb bb) hg (λ_ _ _ _=>(sm bb)) (by kernel_rfl) rfl rfl ?_;rw[show HP.c=R8 from rfl,aHv];exact aCd
theorem aHJ:zj C9.args C9.res (jK sh SB 467):=O8 rfl rfl (λ_ _=>OZ) λ_ _ _ h bm=>by first|exact xT h (Ax bm)|exact J3 (xT h (Ax bm))
theorem az5 {wb:aG} (hg:lC wb):fE wb C9:=Kp (λ_ _ _=>nU bb bb) hg (by kernel_rfl) aHJ rfl rfl aGT aBA
theorem azF {wb:aG} (hg:lC wb):nM wb Hz:=Fh (λ_ _ _=>nU bb bb) hg (λ_ _ _=>(sm bb)) (by kernel_rfl) rfl rfl aGA aBf
theorem azA {wb:aG} (hg:gM h9 ⟨wb,wb,λ_=>False,λ_=>False,[]⟩) (aiQ:fE wb C9) (aiM:fE wb C5) (aiN:fE wb C6) (aiO:fE wb C7) (aiP:fE wb C8) (au9:nM wb Hz):PN wb xw:=by
 refine aEr (SB:=SB) (sh:=sh) (p:=xw) (lsh:=ak2) (lens:=[1]) (inl:=(Qd Tryd.prog h9 (jR [] [C9,C5,C6,C7,C8]) (I9 (lV [Hz]) Tryd.prog h9 (jR [] [C9,C5,C6,C7,C8]) SH 600 6) SH 600 [(1,0,0,18446744073709551615),(1,1,0,18446744073709551615),(1,2,0,18446744073709551615),(1,3,0,18446744073709551615),(1,4,0,18446744073709551615),(1,5,0,18446744073709551615),(1,6,0,18446744073709551615),(1,7,0,18446744073709551615)] 97)) (λL r ex ro=>ar1 avC gx (λ_ _ _=>nU bb (gB aiQ (gB aiM (gB aiN (gB aiO (gB aiP bb)))))) (λg cs h=>hg g cs h) (λr ex ro=>Qt (w0:=⟨wb,r,ex,ro,[]⟩) rfl gx ((λ_ _ _=>nU bb (gB aiQ (gB aiM (gB aiN (gB aiO (gB aiP bb)))))) r ex ro) (λg cs h=>hg g cs h) (sm (gB au9 bb)) 6) rfl) (by kernel_rfl) rfl rfl ?_;rw[show xw.c=R4 from rfl,aGu];exact aBa
theorem aAP {wb:aG} (hg:gM h9 ⟨wb,wb,λ_=>False,λ_=>False,[]⟩) (MZ:nM wb w1) (ave:rj wb Om) (MY:PN wb xw):rj wb Fv:=by
 refine HS (SB:=SB) (sh:=sh) (p:=Fv) (bc:=(DE [xw] (q0 [Om] (lV [w1])))) (cal:=(jR [] [])) (li:=bw) (rounds:=600) (d:=6) (lsh:=ck) (lens:=[1]) gx (λ_ _ _=>nU bb bb) hg (λ_ _ _ _=>(Ti (BB (sm (gB MZ bb)) (gB ave bb)) (gB MY bb))) (by kernel_rfl) rfl rfl ?_;rw[show Fv.c=R9 from rfl,aHz];exact aCh
theorem aAQ {wb:aG} (hg:gM h9 ⟨wb,wb,λ_=>False,λ_=>False,[]⟩) (MZ:nM wb w1) (avf:rj wb HO) (MY:PN wb xw):rj wb HQ:=by
 refine HS (SB:=SB) (sh:=sh) (p:=HQ) (bc:=(DE [xw] (q0 [HO] (lV [w1])))) (cal:=(jR [] [])) (li:=bw) (rounds:=600) (d:=6) (lsh:=ck) (lens:=[1,1]) gx (λ_ _ _=>nU bb bb) hg (λ_ _ _ _=>(Ti (BB (sm (gB MZ bb)) (gB avf bb)) (gB MY bb))) (by kernel_rfl) rfl rfl ?_;rw[show HQ.c=Sa from rfl,aHA];exact aCi
theorem aAR {wb:aG} (hg:gM h9 ⟨wb,wb,λ_=>False,λ_=>False,[]⟩) (MZ:nM wb w1) (avg:rj wb HP) (MY:PN wb xw):rj wb HR:=by
 refine HS (SB:=SB) (sh:=sh) (p:=HR) (bc:=(DE [xw] (q0 [HP] (lV [w1])))) (cal:=(jR [] [])) (li:=bw) (rounds:=600) (d:=6) (lsh:=ck) (lens:=[1,1,1]) gx (λ_ _ _=>nU bb bb) hg (λ_ _ _ _=>(Ti (BB (sm (gB MZ bb)) (gB avg bb)) (gB MY bb))) (by kernel_rfl) rfl rfl ?_;rw[show HR.c=Sb from rfl,aHB];exact aCj
theorem aAd {wb:aG} (hg:gM h9 ⟨wb,wb,λ_=>False,λ_=>False,[]⟩) (YW:fE wb Dd) (avk:rj wb HQ):rj wb KA:=by
 refine HS (SB:=SB) (sh:=sh) (p:=KA) (bc:=(q0 [HQ] (lV []))) (cal:=(jR [] [Dd])) (li:=bw) (rounds:=600) (d:=6) (lsh:=ck) (lens:=[1,1]) gx (λ_ _ _=>nU bb (gB YW bb)) hg (λ_ _ _ _=>(BB (sm bb) (gB avk bb))) (by kernel_rfl) rfl rfl ?_;rw[show KA.c=R5 from rfl,aGZ];exact aBI
theorem aAe {wb:aG} (hg:gM h9 ⟨wb,wb,λ_=>False,λ_=>False,[]⟩) (YW:fE wb Dd) (avl:rj wb HR):rj wb Fu:=by
 refine HS (SB:=SB) (sh:=sh) (p:=Fu) (bc:=(q0 [HR] (lV []))) (cal:=(jR [] [Dd])) (li:=bw) (rounds:=600) (d:=6) (lsh:=ck) (lens:=[1,1,1]) gx (λ_ _ _=>nU bb (gB YW bb)) hg (λ_ _ _ _=>(BB (sm bb) (gB avl bb))) (by kernel_rfl) rfl rfl ?_;rw[show Fu.c=R6 from rfl,aG0];exact aBJ
theorem azV {wb:aG} (hg:lC wb) (YV:fE wb HC) (YY:fE wb HD) (YX:rj wb Fv):nM wb C2:=Fh (λ_ _ _=>nU bb (gB YV (gB YY bb))) hg (λ_ _ _=>(BB (sm bb) (gB YX bb))) (by kernel_rfl) rfl rfl aGK aBq
theorem azW {wb:aG} (hg:lC wb) (YV:fE wb HC) (YY:fE wb HD) (avh:fE wb N2) (YX:rj wb Fv) (avd:rj wb KA) (YU:rj wb Fu):nM wb C3:=Fh (λ_ _ _=>nU bb (gB YV (gB YY (gB avh bb)))) hg (λ_ _ _=>(BB (sm bb) (gB YX (gB avd (gB YU bb))))) (by kernel_rfl) rfl rfl aGL aBr
theorem azX {wb:aG} (hg:lC wb) (avj:fE wb N3) (avn:fE wb N5) (avm:fE wb N4) (YU:rj wb Fu):nM wb Ki:=Fh (λ_ _ _=>nU bb (gB avj (gB avn (gB avm bb)))) hg (λ_ _ _=>(BB (sm bb) (gB YU bb))) (by kernel_rfl) rfl rfl aGM aBs
theorem azT {wb:aG} (hg:lC wb) (h_edPub:nM wb C2) (h_edSign:nM wb C3) (avc:nM wb Ki):nM wb HB:=Fh (λ_ _ _=>nU bb bb) hg (λ_ _ _=>(sm (gB h_edPub (gB h_edSign (gB avc bb))))) (by kernel_rfl) rfl rfl aGI aBo
theorem azR {wb:aG} (hg:lC wb) (h_dl:fE wb Fc) (avb:fE wb N0) (ava:fE wb NZ):nM wb HA:=Fh (λ_ _ _=>nU bb (gB h_dl (gB avb (gB ava bb)))) hg (λ_ _ _=>(sm bb)) (by kernel_rfl) rfl rfl aGH aBn
theorem azU {wb:aG} (hg:lC wb) (h_dbytes:fE wb Kg) (h_dl:fE wb Fc) (h_dtimes:fE wb Kh) (h_edAlive:nM wb HB) (h_edPub:nM wb C2) (h_edSign:nM wb C3) (h_dright:nM wb HA):nM wb N1:=Fh (λ_ _ _=>nU bb (gB h_dbytes (gB h_dl (gB h_dtimes bb)))) hg (λ_ _ _=>(sm (gB h_edAlive (gB h_edPub (gB h_edSign (gB h_dright bb)))))) (by kernel_rfl) rfl rfl aGJ aBp
end Go.gg
namespace Go.gg
open Go Go.b9 Go.Proofs
theorem yH {wb:aG} {c:bJ} {s H9:List Int->List Int->Prop} (h:c.AM Tryd.prog wb s) (hs:∀zs rs,ab (aY c.args) zs->ab (aY c.res) rs->s zs rs->H9 zs rs):c.AM Tryd.prog wb H9:=λzs hz=>by
 obtain⟨rs,h1,h2,h3⟩:=h zs hz;exact⟨rs,h1,hs zs rs hz h1 h2,h3⟩
theorem abQ {rs:List Int} {n:Nat} (h:rs.length=n+1):∃e,rs.drop n=[e]:=List.length_eq_one_iff.1 (by rw[List.length_drop];omega)
section
variable {wb:aG}
theorem aAX (hg:lC wb):fE wb N5:=by
 obtain⟨G,h⟩:=Go.Fd.AW (wb:=wb) hg;have h1:Go.Fd.z7.bD Tryd.prog wb (Go.Fd.dY G 112):=h _ (Go.Fd.cm (i:=2) rfl);refine yH (c:=N5) (s:=Go.Fd.dY G 112) h1.f λzs rs hz hr ag=>?_;have ag:Go.Fd.SB 112 (cD [32] zs) (cD [32,1] rs):=ag.1;show SB 112 (cD [32] zs) (cD [32,1] rs);have je:zs.length=32:=dR hz;have gH:rs.length=32+1:=dR hr;obtain⟨e,he⟩:=abQ gH;rw[Go.Fd.q6 je,Go.Fd.Ah gH,he]at ag⊢;exact ag
theorem aAU (hg:lC wb):fE wb HD:=by
 obtain⟨G,h⟩:=Go.Fd.AW (wb:=wb) hg;have h1:Go.Fd.z1.bD Tryd.prog wb (Go.Fd.dY G 114):=h _ (Go.Fd.cm (i:=1) rfl);refine yH (c:=HD) (s:=Go.Fd.dY G 114) h1.f λzs rs hz hr ag=>?_;have ag:Go.Fd.SB 114 (cD [32] zs) (cD [32] rs):=ag.1;show SB 114 (cD [32] zs) (cD [32] rs);have je:zs.length=32:=dR hz;have gH:rs.length=32:=dR hr;rw[Go.Fd.q6 je,Go.Fd.q6 gH]at ag⊢;exact ag
theorem aAW (hg:lC wb):fE wb N4:=by
 obtain⟨G,h⟩:=Go.Fd.AW (wb:=wb) hg;have h1:Go.Fd.z6.bD Tryd.prog wb (Go.Fd.dY G 115):=h _ (Go.Fd.cm (i:=0) rfl);refine yH (c:=N4) (s:=Go.Fd.dY G 115) h1.f λzs rs hz hr ag=>?_;have ag:Go.Fd.SB 115 (cD [32,32,32] zs) (cD [32,1] rs):=ag.1;show SB 115 (cD [32,32,32] zs) (cD [32,1] rs);have je:zs.length=32+(32+32):=dR hz;have gH:rs.length=32+1:=dR hr;obtain⟨e,he⟩:=abQ gH;rw[Go.Fd.TC je,Go.Fd.Ah gH,he]at ag⊢;exact ag
theorem aAO (hg:lC wb):fE wb N3:=by
 have h1:Go.nN.nz.bD Tryd.prog wb (Go.nN.cJ 13):=Go.nN.abL hg;refine yH (c:=N3) (s:=Go.nN.cJ 13) h1.f λzs rs hz hr ag=>?_;have ag:rs=[if cR zs<(Go.Fd.jx:Int)then 1 else 0]:=ag;show SB 151 (cD [32] zs) (cD [1] rs);have je:zs.length=32:=dR hz;have gH:rs.length=1:=dR hr;rw[Go.Fd.q6 je,Go.Fd.q6 gH,ag];rfl
theorem aAN (hg:lC wb):fE wb Dd:=by
 have h1:Go.nN.n3.bD Tryd.prog wb (Go.nN.cJ 11):=Go.nN.abJ hg;refine yH (c:=Dd) (s:=Go.nN.cJ 11) h1.f λzs rs hz hr ag=>?_;have ag:cR rs=cR zs% (Go.Fd.jx:Int):=ag;show SB 152 (cD [64] zs) (cD [32] rs);have je:zs.length=64:=dR hz;have gH:rs.length=32:=dR hr;rw[Go.Fd.q6 je,Go.Fd.q6 gH];exact ag
theorem aAJ (hg:lC wb):fE wb N2:=by
 have h1:Go.nN.Fe.bD Tryd.prog wb (Go.nN.cJ 8):=Go.nN.aAb hg;refine yH (c:=N2) (s:=Go.nN.cJ 8) h1.f λzs rs hz hr ag=>?_;have ag:cR rs=(cR (zs.take 32)*cR ((zs.drop 32).take 32)+cR (zs.drop 64))% (Go.Fd.jx:Int):=ag;show SB 153 (cD [32,32,32] zs) (cD [32] rs);have je:zs.length=32+(32+32):=dR hz;have gH:rs.length=32:=dR hr;rw[Go.Fd.TC je,Go.Fd.q6 gH];show cR rs=(cR (zs.take 32)*cR ((zs.drop 32).take 32)+cR ((zs.drop 32).drop 32))% (Go.Fd.jx:Int);rw[ag,List.drop_drop]
theorem aAG (hg:lC wb):fE wb HC:=by
 have h1:Go.nN.Fb.bD Tryd.prog wb (Go.nN.cJ 14):=Go.nN.azG hg;refine yH (c:=HC) (s:=Go.nN.cJ 14) h1.f λzs rs hz hr ag=>?_;have ag:rs=Mp zs:=ag;show SB 154 (cD [32] zs) (cD [32] rs);have je:zs.length=32:=dR hz;have gH:rs.length=32:=dR hr;rw[Go.Fd.q6 je,Go.Fd.q6 gH];exact ag
end
end Go.gg
namespace Go.gg
open Go Go.b9 Go.Proofs
section
variable {wb:aG}
theorem azM (hg:lC wb):fE wb Kg:=by
 obtain⟨G,h⟩:=Go.Fd.AW (wb:=wb) hg;have h1:Go.Fd.tp.bD Tryd.prog wb (Go.Fd.dY G 27):=h _ (Go.Fd.cm (i:=48) rfl);refine yH (c:=Kg) (s:=Go.Fd.dY G 27) h1.f λzs rs hz hr ag=>?_;have ag:Go.Fd.SB 27 (cD [4] zs) (cD [32] rs):=ag.1;show SB 690 (cD [4] zs) (cD [32] rs);have je:zs.length=4:=dR hz;have gH:rs.length=32:=dR hr;rw[Go.Fd.q6 je,Go.Fd.q6 gH]at ag⊢;exact ag
theorem azN (hg:lC wb):fE wb Fc:=by
 obtain⟨G,h⟩:=Go.Fd.AW (wb:=wb) hg;have h1:Go.Fd.yC.bD Tryd.prog wb (Go.Fd.dY G 133):=h _ (Go.Fd.cm (i:=28) rfl);refine yH (c:=Fc) (s:=Go.Fd.dY G 133) h1.f λzs rs hz hr ag=>?_;have ag:Go.Fd.SB 133 (cD [] zs) (cD [4] rs):=ag.1;show SB 691 (cD [] zs) (cD [4] rs);have gH:rs.length=4:=dR hr;obtain rfl:zs=[]:=List.eq_nil_of_length_eq_zero (dR hz);rw[Go.Fd.q6 gH]at ag⊢;exact ag
theorem azS (hg:lC wb):fE wb Kh:=by
 obtain⟨G,h⟩:=Go.Fd.AW (wb:=wb) hg;have h1:Go.Fd.z8.bD Tryd.prog wb (Go.Fd.dY G 130):=h _ (Go.Fd.cm (i:=29) rfl);refine yH (c:=Kh) (s:=Go.Fd.dY G 130) h1.f λzs rs hz hr ag=>?_;have ag:Go.Fd.SB 130 (cD [32,32] zs) (cD [32,1] rs):=ag.1;show SB 692 (cD [32,32] zs) (cD [32,1] rs);have je:zs.length=32+32:=dR hz;have gH:rs.length=32+1:=dR hr;obtain⟨e,he⟩:=abQ gH;rw[Go.Fd.Ah je,Go.Fd.Ah gH,he]at ag⊢;exact ag
theorem azP (hg:lC wb):fE wb N0:=by
 obtain⟨G,h⟩:=Go.Fd.AW (wb:=wb) hg;have h1:Go.Fd.lg.bD Tryd.prog wb (Go.Fd.dY G 37):=h _ (Go.Fd.cm (i:=49) rfl);refine yH (c:=N0) (s:=Go.Fd.dY G 37) h1.f λzs rs hz hr ag=>?_;have ag:Go.Fd.SB 37 (cD [32] zs) (cD [4] rs):=ag.1;show SB 693 (cD [32] zs) (cD [4] rs);have je:zs.length=32:=dR hz;have gH:rs.length=4:=dR hr;rw[Go.Fd.q6 je,Go.Fd.q6 gH]at ag⊢;exact ag
theorem azO (hg:lC wb):fE wb NZ:=by
 obtain⟨G,h⟩:=Go.Fd.AW (wb:=wb) hg;have h1:Go.Fd.lK.bD Tryd.prog wb (Go.Fd.dY G 42):=h _ (Go.Fd.cm (i:=46) rfl);refine yH (c:=NZ) (s:=Go.Fd.dY G 42) h1.f λzs rs hz hr ag=>?_;have ag:Go.Fd.SB 42 (cD [4,4] zs) (cD [1] rs):=ag.1;show SB 694 (cD [4,4] zs) (cD [1] rs);have je:zs.length=4+4:=dR hz;obtain⟨e,he⟩:∃e,rs=[e]:=List.length_eq_one_iff.1 (dR hr);subst he;rw[Go.Fd.Ah je]at ag⊢;exact ag
end
end Go.gg
namespace Go.Proofs
open Go.Shelf Go.RowKit
shelf_lay SlLaysJ.n14 Slb 14 at Tryd as Tryd.akP
open Go.b9 Go.Lib
def vr:List aQ:=[.int .u8 0 255]
def DM (rows:List (List Int)):List UInt8:=rows.map λr=>UInt8.ofNat (r.getD 0 0).toNat
theorem anV {r:List Int} (h:cM vr r):∃z:Int,r=[z]/\0<=z/\z<=255/\((UInt8.ofNat z.toNat).toNat:Int)=z:=by
 match r,h with
 |[z],h=>
  have h1:0<=z/\z<=255:=h.1
  refine⟨z,rfl,h1.1,h1.2,?_⟩
  have e:(UInt8.ofNat z.toNat).toNat=z.toNat% 256:=by simp
  rw[e];omega
theorem Uc (rows:List (List Int)):(DM rows).length=rows.length:=by simp[DM]
theorem aGn {w:World} {g o:Nat} {cells:Array Value} {t:TypeId} {fz:Nat×Nat} {rows:List (List Int)} (hg:w.heap[g]?=some (.cells cells t fz)) (h:o8 cells o vr rows) (i:Nat) (x:UInt8) (hx:(DM rows)[i]?=some x):w.cell? ((⟨g,o,none⟩:Addr).add i)=some (.int .u8 (x.toNat:Int)):=by
 unfold DM at hx
 rw[List.getElem?_map]at hx
 cases hr:rows[i]? with
 |none=>rw[hr]at hx;cases hx
 |some r=>
  rw[hr]at hx
  simp only[Option.map_some,Option.some.injEq]at hx
  obtain⟨z,rfl,h1,h2,h3⟩:=anV (h.1 r (List.mem_of_getElem? hr))
  have hv:(dS vr [z])[0]?=some (Value.int .u8 z):=rfl
  have:=h.get hr hv
  rw[kX]
  simp only[World.cell?,hg,Option.isSome_none,Bool.false_eq_true,if_false]
  simp only[vr,List.length_cons,List.length_nil,Nat.zero_add,Nat.mul_one,Nat.add_zero]at this
  rw[this,<-hx]
  simp only[List.getD_cons_zero]
  rw[h3]
theorem amL:∀(rows:List (List Int)) (zs:List Int),(∀row∈rows,cM vr row)->(∀x∈zs,0<=x/\x<256)->bytesOf zs=DM rows->cj vr rows=zs.map (Value.int .u8)
 |[],zs,_,_,h=>by
  have:zs.length=0:=by have:=congrArg List.length h;simpa [bytesOf,DM]using this
  rw[List.eq_nil_of_length_eq_zero this];rfl
 |r::rows,[],_,_,h=>by simp[bytesOf,DM]at h
 |r::rows,z::zs,hr,hz,h=>by
  obtain⟨y,rfl,h1,h2,h3⟩:=anV (hr r (by simp))
  have hz1:=hz z (by simp)
  unfold bytesOf DM at h
  simp only[List.map_cons,List.cons.injEq,List.getD_cons_zero]at h
  have ih:=amL rows zs (λx hx=>hr x (List.mem_cons_of_mem _ hx)) (λx hx=>hz x (List.mem_cons_of_mem _ hx)) h.2
  have e:y=z:=by
   have:=congrArg (λb:UInt8=>(b.toNat:Int)) h.1
   simp at this
   omega
  subst e
  show Value.int .u8 y::cj vr rows=_
  rw[ih];rfl
theorem join_one {spec:List Int->List Int->Prop} {wb:World} {p:kV} (hc:p.c.f=71) (ha:p.c.args=[.rd vr]) (hr:p.c.res=[.rd vr]) (hp:p.c.pre=71) (hn:p.nil=true) (hs:∀z r,0<=r->r<=b6->ao r=ao z->spec [z] [r]) (hf:∀args w,(callFunc 71 args).run Tryd.prog w= .ok (.enter 71 args) w):
 p.bD Tryd.prog wb spec:=by
 refine⟨by rw[hc];exact hf,?_⟩
 rw[hc,ha,hr,hp]
 intro F w vs zs g hw hz rJ hat hg hF hcell
 match zs,hz,vs,hat,rJ,hcell with
 |[z],hz,[v],hat,rJ,hcell=>
 have hat:Cs F w vr (ao z) v:=hat.1
 have rJ:(ao z).length<=1000000000:=rJ
 have e:Fs p g [v].length=#[.slice (some ⟨g,0,none⟩) 1 1,.slice none 0 0]:=by unfold Fs;rw[hn];rfl
 rw[e]
 have hc0:w.cell? ⟨g,0,none⟩=some v:=by simp[World.cell?,hcell]
 have empty:(∃p0 e4,v= .slice p0 0 e4)->ao z=[]->Calls Tryd.prog 71 #[.slice (some ⟨g,0,none⟩) 1 1,.slice none 0 0] w λe w'=>w.Extends w'/\∃rs us,ab (dU [cV.rd vr]) rs/\spec [z] rs/\mM (λg=>F g∨w.heap.size<=g) (λg=>w.heap.size<=g) w' [cV.rd vr] rs us/\e= .returned (xK us):=λ⟨p0,e4,hv⟩ h0=>by
  refine Calls.mono (Any.bytes_Join_one_empty Tryd.akP g 0 1 p0 e4 (.slice none 0 0) w (by rw[hc0,hv])) ?_
  rintro e w' ⟨rfl,rfl⟩
  exact⟨World.Extends.refl _,[0],[.slice none 0 0],⟨Int.le_refl _,AO,trivial⟩,hs z 0 (Int.le_refl _) AO (by rw[oa,h0]),⟨.inl ⟨rfl,oa⟩,trivial⟩,rfl⟩
 rcases hat with⟨rfl,h0⟩|⟨g1,o1,c1,cells,t,fz,rfl,⟨h2,h3⟩,h4,h5,h6⟩
 ·exact empty ⟨none,0,rfl⟩ h0
 ·rcases Nat.eq_zero_or_pos (ao z).length with h0|h0
  ·exact empty ⟨some ⟨g1,o1,none⟩,c1,by rw[h0]⟩ (List.eq_nil_of_length_eq_zero h0)
  ·refine Calls.mono (Any.bytes_Join_one Tryd.akP g 0 1 ⟨g1,o1,none⟩ c1 (DM (ao z)) (.slice none 0 0) w (by rw[hc0,Uc]) (λi x hx=>aGn h5 h6 i x hx) (by rw[Uc];exact h0) (by rw[Uc];omega)) ?_
   rintro e w' ⟨v',rfl,⟨g2,cap,zs',rfl,k1,k2,k3,k4,tl,zX,R2,_⟩,hb⟩
   have hsz:=hb.size
   rw[Uc]at k2 zX⊢
   obtain⟨cells',t',Yq,n1⟩:∃cells' t' Yq,w'.heap[g2]?=some (.cells cells' t' Yq):=by
    have h7:=R2 0 (by omega)
    simp only[World.cell?]at h7
    cases ag:w'.heap[g2]? with
    |none=>simp[ag]at h7
    |some ob=>
     cases ob<;>simp[ag]at h7
     exact⟨_,_,_,rfl⟩
   have EW:∀i,i<cap->cells'[i]?=some (.int .u8 (zs'.getD i 0)):=λi hi=>by
    have h7:=R2 i hi
    simpa [World.cell?,n1]using h7
   have lG:=amL (ao z) (zs'.take (ao z).length) h6.1 (λx hx=>tl x (List.mem_of_mem_take hx)) zX
   refine⟨Yb (World.Extends.refl w) hb.os hb.tape hb.output hb.size hb.block,[z],[_],hz,hs z z hz.1 hz.2.1 rfl,⟨.inr ⟨g2,0,cap,cells',t',Yq,rfl,⟨k2,by simp only[maxLen]at k3;omega⟩,.inr k1,n1,h6.1,[],cells'.toList.drop (ao z).length,?_,rfl⟩,trivial⟩,rfl⟩
   have aw1:cells'.toList.take (ao z).length=cj vr (ao z):=by
    rw[lG]
    apply List.ext_getElem?
    intro i
    rw[List.getElem?_take,List.getElem?_map,List.getElem?_take]
    split
    ·rename_i hi
     have:=EW i (by omega)
     rw[Array.getElem?_toList,this,List.getD_eq_getElem?_getD]
     have hlt:i<zs'.length:=by omega
     rw[List.getElem?_eq_getElem hlt];rfl
    ·rfl
   show cells'.toList=[]++cj vr (ao z)++_
   rw[List.nil_append,<-aw1,List.take_append_drop]
end Go.Proofs
namespace Go.Proofs.YtacpildnjohidaaDoor
open Go Go.b9 Go.gg Go.ChangeShapes Go.RowKit
theorem own:ownKnob Tryd.prog.godebug=none:=by kernel_rfl
theorem ayT:laidOutB Tryd.prog=true:=by kernel_rfl
def laid:List (String×rb Unit):=[("vouchsafe/field.One",Rows.laid_vouchsafe_field_One),("vouchsafe/curve.once",Rows.laid_vouchsafe_curve_once),("vouchsafe/scalar.order",Rows.laid_vouchsafe_scalar_order),("vouchsafe/scalar.tail",Rows.laid_vouchsafe_scalar_tail),("vouchsafe/sha.roots",Rows.laid_vouchsafe_sha_roots),("vouchsafe/sha.begins",Rows.laid_vouchsafe_sha_begins)]
theorem aic:Tryd.prog.globalNamed "vouchsafe/field.One" =some 3:=by kernel_rfl
theorem aFP:(Tryd.prog.globals[3]?).map (·.type)=some 63:=by kernel_rfl
theorem aGo:Tryd.prog.underlying 63=some (.array 5 32):=by kernel_rfl
theorem atg:Tryd.prog.underlying 32=some (.int .u64):=by kernel_rfl
theorem asr:Tryd.prog.cellsOf 32=1:=by kernel_rfl
theorem asb:Tryd.prog.cellsOf 63=5:=by kernel_rfl
theorem ayy:(Rows.laid_vouchsafe_field_One:rb Unit)= .agg (abO.map λz=> .lit (.int .u64 z)):=by kernel_rfl
theorem aid:Tryd.prog.globalNamed "vouchsafe/curve.once" =some 4:=by kernel_rfl
theorem aFQ:(Tryd.prog.globals[4]?).map (·.type)=some 63:=by kernel_rfl
theorem aGp:Tryd.prog.underlying 63=some (.array 5 32):=by kernel_rfl
theorem ath:Tryd.prog.underlying 32=some (.int .u64):=by kernel_rfl
theorem ass:Tryd.prog.cellsOf 32=1:=by kernel_rfl
theorem asc:Tryd.prog.cellsOf 63=5:=by kernel_rfl
theorem ayz:(Rows.laid_vouchsafe_curve_once:rb Unit)= .agg (abN.map λz=> .lit (.int .u64 z)):=by kernel_rfl
theorem aie:Tryd.prog.globalNamed "vouchsafe/scalar.order" =some 0:=by kernel_rfl
theorem aFR:(Tryd.prog.globals[0]?).map (·.type)=some 56:=by kernel_rfl
theorem aGq:Tryd.prog.underlying 56=some (.array 4 32):=by kernel_rfl
theorem ati:Tryd.prog.underlying 32=some (.int .u64):=by kernel_rfl
theorem ast:Tryd.prog.cellsOf 32=1:=by kernel_rfl
theorem asd:Tryd.prog.cellsOf 56=4:=by kernel_rfl
theorem ayA:(Rows.laid_vouchsafe_scalar_order:rb Unit)= .agg (abT.map λz=> .lit (.int .u64 z)):=by kernel_rfl
theorem aif:Tryd.prog.globalNamed "vouchsafe/scalar.tail" =some 5:=by kernel_rfl
theorem aFS:(Tryd.prog.globals[5]?).map (·.type)=some 129:=by kernel_rfl
theorem aGr:Tryd.prog.underlying 129=some (.array 2 32):=by kernel_rfl
theorem atj:Tryd.prog.underlying 32=some (.int .u64):=by kernel_rfl
theorem asu:Tryd.prog.cellsOf 32=1:=by kernel_rfl
theorem ase:Tryd.prog.cellsOf 129=2:=by kernel_rfl
theorem ayB:(Rows.laid_vouchsafe_scalar_tail:rb Unit)= .agg (adm.map λz=> .lit (.int .u64 z)):=by kernel_rfl
theorem aih:Tryd.prog.globalNamed "vouchsafe/sha.roots" =some 2:=by kernel_rfl
theorem aFT:(Tryd.prog.globals[2]?).map (·.type)=some 98:=by kernel_rfl
theorem aGs:Tryd.prog.underlying 98=some (.array 80 32):=by kernel_rfl
theorem atk:Tryd.prog.underlying 32=some (.int .u64):=by kernel_rfl
theorem asv:Tryd.prog.cellsOf 32=1:=by kernel_rfl
theorem asf:Tryd.prog.cellsOf 98=80:=by kernel_rfl
theorem ayC:(Rows.laid_vouchsafe_sha_roots:rb Unit)= .agg (KT.map λz=> .lit (.int .u64 z)):=by kernel_rfl
theorem aii:Tryd.prog.globalNamed "vouchsafe/sha.begins" =some 1:=by kernel_rfl
theorem aFU:(Tryd.prog.globals[1]?).map (·.type)=some 77:=by kernel_rfl
theorem aGt:Tryd.prog.underlying 77=some (.array 8 32):=by kernel_rfl
theorem atl:Tryd.prog.underlying 32=some (.int .u64):=by kernel_rfl
theorem asw:Tryd.prog.cellsOf 32=1:=by kernel_rfl
theorem asg:Tryd.prog.cellsOf 77=8:=by kernel_rfl
theorem ayD:(Rows.laid_vouchsafe_sha_begins:rb Unit)= .agg (P8.map λz=> .lit (.int .u64 z)):=by kernel_rfl
theorem air {W:aG} (h:laidMetH Tryd.prog laid W):gM h9 ⟨W,W,λ_=>False,λ_=>False,[]⟩:=by
 rw[aOE _ _ _ (by kernel_rfl)]at h;obtain⟨lh,⟨a0,fV,aKX,f0,p0,eJ,Ni,ZL,qP,ai6,⟨b7,ca,aKY,f1,cG,bg,CP,awX,uj,EZ,⟨a2,cc,aKZ,f2,cC,b3,CQ,ZM,mZ,zH,⟨a3,dm,aK0,f3,dE,cy,Hd,awY,axb,M9,⟨a4,mm,aK1,f4,gP,et,Nj,awZ,axc,Na,⟨a5,mn,aK2,f5,gW,j8,He,ZN,axd,ai7,_,_⟩,_⟩,_⟩,_⟩,_⟩,_⟩,_,_⟩:=h;obtain rfl:=jC (aic.symm.trans Ni);obtain rfl:=jC (aFP.symm.trans ZL);rw[ayy]at ai6;have dx:=Jv (zs:=abO) aic aGo atg asr asb qP ai6;obtain rfl:=jC (aid.symm.trans CP);obtain rfl:=jC (aFQ.symm.trans awX);rw[ayz]at EZ;have aj:=Jv (zs:=abN) aid aGp ath ass asc uj EZ;obtain rfl:=jC (aie.symm.trans CQ);obtain rfl:=jC (aFR.symm.trans ZM);rw[ayA]at zH;have ah:=Jv (zs:=abT) aie aGq ati ast asd mZ zH;obtain rfl:=jC (aif.symm.trans Hd);obtain rfl:=jC (aFS.symm.trans awY);rw[ayB]at M9;have au:=Jv (zs:=adm) aif aGr atj asu ase axb M9;obtain rfl:=jC (aih.symm.trans Nj);obtain rfl:=jC (aFT.symm.trans awZ);rw[ayC]at Na;have de:=Jv (zs:=KT) aih aGs atk asv asf axc Na;obtain rfl:=jC (aii.symm.trans He);obtain rfl:=jC (aFU.symm.trans ZN);rw[ayD]at ai7;have iK:=Jv (zs:=P8) aii aGt atl asw asg axd ai7;intro g cs hm;simp only[h9,List.mem_cons,eO,List.not_mem_nil,or_false]at hm;rcases hm with⟨rfl,rfl⟩|⟨rfl,rfl⟩|⟨rfl,rfl⟩|⟨rfl,rfl⟩|⟨rfl,rfl⟩|⟨rfl,rfl⟩
 ·rw[pD];exact ah
 ·rw[pD];exact iK
 ·rw[pD];exact de
 ·rw[pD];exact dx
 ·rw[pD];exact aj
 ·rw[pD];exact au
theorem ayE:(laid.filter λx=>x.2.handleName?.isNone)=laid:=by kernel_rfl
theorem asZ (os:Os) (args:Array aW):laidMetH Tryd.prog laid ((World.laidAll Tryd.prog os laid).forCall (λ_ _=>0) ⟨#[],args,[]⟩).memory:=
 laidMetH_of_parts3 (fuel:=8) (by rw[ayE];exact laidMet_laidAll args (by kernel_rfl) (by kernel_rfl)) (by kernel_rfl) (by kernel_rfl)
theorem aGl:PF Tryd.prog 23 (.rd [.int .u8 0 255]):=⟨5,Tryd.underlying23,by kernel_rfl,by kernel_rfl,by decide⟩
theorem aGk:PF Tryd.prog 22 (.d (.agg .u8 32 0 255)):=⟨5,Tryd.underlying22,by kernel_rfl,by kernel_rfl⟩
theorem aAY {id:Nat} (hid:id=696) (a:List (List Int)) (z:Int) (h:SB id a [[z]]):z=1:=by
 subst hid
 all_goals
  match a,h with
  |[],h=>first|exact h|exact h.elim
  |[_],h=>first|exact h|exact h.elim
  |[_,_],h=>first|exact h|exact h.elim
  |[_,_,_],h=>first|exact h|exact h.elim
  |_::_::_::_::_,h=>exact h.elim
structure ff (W:aG):Prop where
 X4:nM W HB
 QL:nM W C2
 QM:nM W C3
 XH:fE W Kg
 QG:fE W Fc
 XN:fE W Kh
 XM:nM W HA
theorem AW {W:aG} (h:W.ShapedOpen Tryd.prog) (dM:laidMetH Tryd.prog laid W):ff W:=by
 have hg:=air dM;have aFn:=aAK hg;have aut:=az1 hg;have auv:=az2 hg;have auw:=az3 hg;have auy:=az4 hg;have ac6:=aAL hg aFn;have aFf:rj W Om:=join_one (p:=Om) rfl rfl rfl rfl rfl (λz r h0 h1 h=>h) (enters (by kernel_rfl));have aFg:=aAH hg;have aFh:=aAI hg;have auI:=az5 hg;have asH:=azF hg;have WV:=azA hg auI aut auv auw auy asH;have anu:=aAP hg ac6 aFf WV;have aFL:=aAQ hg ac6 aFg WV;have aFM:=aAR hg ac6 aFh WV;have aHX:fE W N5:=aAX hg;have an1:fE W HD:=aAU hg;have aHW:fE W N4:=aAW hg;have aFu:fE W N3:=aAO hg;have ann:fE W Dd:=aAN hg;have aFm:fE W N2:=aAJ hg;have am9:fE W HC:=aAG hg;have azr:=aAd hg ann aFL;have alS:=aAe hg ann aFM;have QL:=azV hg am9 an1 anu;have QM:=azW hg am9 an1 aFm anu azr alS;have ato:=azX hg aFu aHX aHW alS;have X4:=azT hg QL QM ato;have XH:fE W Kg:=azM hg;have QG:fE W Fc:=azN hg;have XN:fE W Kh:=azS hg;have asX:fE W N0:=azP hg;have asW:fE W NZ:=azO hg;have XM:=azR hg QG asX asW;exact⟨X4,QL,QM,XH,QG,XN,XM⟩
end Go.Proofs.YtacpildnjohidaaDoor
