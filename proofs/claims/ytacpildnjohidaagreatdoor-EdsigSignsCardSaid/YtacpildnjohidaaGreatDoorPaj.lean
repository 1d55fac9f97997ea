/- Paj: a part of the proof of statements of this seat. -/
import Derived.Test.YtacpildnjohidaaGreatDoorPaf
import Derived.Test.YtacpildnjohidaaGreatDoorPag
import Derived.Test.YtacpildnjohidaaGreatDoorChunk
import Derived.Test.YtacpildnjohidaaGreatDoorPac
import Derived.KernelRfl
import Derived.Test.YtacpildnjohidaaGreatDoorPah
import Derived.Test.YtacpildnjohidaaGreatDoorPae
import Derived.Shelf.Lay
import Derived.Shelf.LaySoft
import Derived.Shelf.Bytes.SlJoin
import Derived.RangeFuncOwn
import Derived.Test.YtacpildnjohidaaGreatDoorProg
import Derived.BigCall
import Derived.Shelf.Vars
import Derived.Test.YtacpildnjohidaaGreatDoorRows
import Derived.Test.YtacpildnjohidaaGreatDoorTie
import Derived.Test.YtacpildnjohidaaGreatDoorCards
import Derived.SevenTiedAt
import Derived.Lay
open And renaming right->lj
open Eq renaming trans->gN,symm->ho
open Go renaming World->aC,Value->bf,DataW->pX
open Go.MakeChecks renaming laidMetH_plain->aYN
open List renaming map_map->lz
open Option.some renaming inj->iI
open Prod.mk renaming injEq->fi
set_option linter.unusedVariables false
set_option maxRecDepth 100000
namespace Go.dg
open Go Go.bX Go.Proofs
abbrev cK (wb:aC) (k:bq):Prop:=k.A3 Tryz.prog wb (du sh SB k.id)
abbrev eY (wb:aC) (q:gi):Prop:=q.bH Tryz.prog wb (du sh SB q.c.id)
abbrev e7 (wb:aC) (k:eG):Prop:=k.bH Tryz.prog wb (du sh SB k.id)
abbrev oS (wb:aC) (k:kP):Prop:=k.bH Tryz.prog wb (du sh SB k.c.id)
abbrev J3 (wb:aC) (k:p5):Prop:=k.bH Tryz.prog wb (du sh SB k.c.id)
theorem fE:Tryz.prog.follows .mixedOrders=true:=by kernel_rfl
theorem aO {α:Type} {p:α->Prop}:∀x∈([]:List α),p x:=λ_ h=>by cases h
theorem bT {α:Type} {p:α->Prop} {a:α} {l:List α} (h:p a) (hl:∀x∈l,p x):∀x∈a::l,p x:=λx hx=>by
 rcases List.mem_cons.1 hx with rfl|hx
 ·exact h
 ·exact hl x hx
abbrev dd (wb:aC):Prop:=fJ cE ⟨wb,wb,λ_=>False,λ_=>False,[]⟩
theorem lr {a b:Int} (h:[[a]]=[[b]]):a=b:=by simpa using h
section
variable {wb:aC} {tK:Nat->List (List Int)->List (List Int)->Prop} {cal:gb} {li:FuncId->Nat->Option fB} {n d:Nat} {lsh:Nat->List Nat} {lens:List Nat} {B:(Nat->List (List Int)->List (List Int)->Prop)->(List (List Int)->List (List Int)->Prop)->Prop}
theorem vH {c:bq} (di:∀r ex ro,im (du sh tK) Tryz.prog cE ⟨wb,r,ex,ro,[]⟩ cal) (hg:dd wb) (hf:BG Tryz.prog c.f=true) (hu:fL c.args c.res (du sh tK c.id)) (hl:lens=(sh c.id).1) (hd:rV c.res=(sh c.id).2)
 (e:∀S K,cZ sh lsh S K lens (aX c.args) c.res (c.tree Tryz.prog cE cal li n d)=B S K) (hp:B tK (fA tK c.res c.id)):c.A3 Tryz.prog wb (du sh tK c.id):=
 bq.bH.f (aLx fE di hg hf hu hl hd (by rw[e];exact hp))
theorem kU {q:gi} (di:∀r ex ro,im (du sh tK) Tryz.prog cE ⟨wb,r,ex,ro,[]⟩ cal) (hg:dd wb) (hf:BG Tryz.prog q.c.f=true) (hu:fL q.c.args q.c.res (du sh tK q.c.id)) (hl:lens=(sh q.c.id).1) (hd:rV q.c.res=(sh q.c.id).2)
 (e:∀S K,cZ sh lsh S K lens (aX q.c.args) q.c.res (q.tree Tryz.prog cE cal li n d)=B S K) (hp:B tK (fA tK q.c.res q.c.id)):q.bH Tryz.prog wb (du sh tK q.c.id):=
 aO8 fE di hg hf hu hl hd (by rw[e];exact hp)
theorem n8 {c:eG} {bc:qz} (di:∀r ex ro,im (du sh tK) Tryz.prog cE ⟨wb,r,ex,ro,[]⟩ cal) (hg:dd wb) (oB:∀(L:V->Env->Prop) (r:aC) (ro:Nat->Prop),xY (du sh tK) L ⟨wb,r,λ_=>False,ro,[]⟩ Tryz.prog bc) (hf:BG Tryz.prog c.f=true) (hl:lens=(sh c.id).1) (hd:D1 c.res=(sh c.id).2)
 (e:∀S K,iL sh lsh S K lens (c7 c.args) c.res (c.tree bc Tryz.prog cE cal li n d)=B S K) (hp:B tK (ej tK c.res c.id)):c.bH Tryz.prog wb (du sh tK c.id):=
 azk fE di hg oB hf hl hd (by rw[e];exact hp)
end
theorem api:ZP Tryz.prog 126:=⟨enters (by kernel_rfl),Tryz.aAu⟩
theorem atA {a0 dM:Int} (h0:a0=dM):mJ [.int .i64 (-0x8000000000000000) 0x7fffffffffffffff] [a0]=mJ [.int .i64 (-0x8000000000000000) 0x7fffffffffffffff] [dM]:=by
 show(.int .i64 a0:bf)=(.int .i64 dM:bf);rw[h0]
theorem RM {a0 dM:Int} (h0:a0=dM):mJ [.int .u32 0 4294967295] [a0]=mJ [.int .u32 0 4294967295] [dM]:=by
 show(.int .u32 a0:bf)=(.int .u32 dM:bf);rw[h0]
theorem ja {a0 dM:Int} (h0:a0=dM):mJ [.int .u64 0 0xffffffffffffffff] [a0]=mJ [.int .u64 0 0xffffffffffffffff] [dM]:=by
 show(.int .u64 a0:bf)=(.int .u64 dM:bf);rw[h0]
theorem mM {A R:List D} {spec:List Int->List Int->Prop} (hl:(aX A).length=2) (hr:(aX R).length=1) (hv:∀a b:Int,a=b->mJ R [a]=mJ R [b]) (h:∀z0 ar a b:Int,spec [z0,ar] [a]->spec [z0,ar] [b]->a=b):fL A R spec:=λzs rs c0 hz h1 h2 h3 h4=>by
 match zs,rs,c0,(dj hz).trans hl,(dj h1).trans hr,(dj h2).trans hr,h3,h4 with
 |[z0,ar],[a],[b],_,_,_,h3,h4=>exact hv a b (h z0 ar a b h3 h4)
theorem yZ {A R:List D} {spec:List Int->List Int->Prop} (hl:(aX A).length=1) (hr:(aX R).length=1) (hv:∀a b:Int,a=b->mJ R [a]=mJ R [b]) (h:∀z0 a b:Int,spec [z0] [a]->spec [z0] [b]->a=b):fL A R spec:=λzs rs c0 hz h1 h2 h3 h4=>by
 match zs,rs,c0,(dj hz).trans hl,(dj h1).trans hr,(dj h2).trans hr,h3,h4 with
 |[z0],[a],[b],_,_,_,h3,h4=>exact hv a b (h z0 a b h3 h4)
theorem Gx {A R:List D} {spec:List Int->List Int->Prop} (hl:(aX A).length=5) (hr:(aX R).length=1) (hv:∀a b:Int,a=b->mJ R [a]=mJ R [b]) (h:∀z0 ar z2 z3 z4 a b:Int,spec [z0,ar,z2,z3,z4] [a]->spec [z0,ar,z2,z3,z4] [b]->a=b):fL A R spec:=λzs rs c0 hz h1 h2 h3 h4=>by
 match zs,rs,c0,(dj hz).trans hl,(dj h1).trans hr,(dj h2).trans hr,h3,h4 with
 |[z0,ar,z2,z3,z4],[a],[b],_,_,_,h3,h4=>exact hv a b (h z0 ar z2 z3 z4 a b h3 h4)
theorem aVn:fL FW.args FW.res (du sh SB 440):=mM rfl rfl (λ_ _=>atA) λ_ _ _ _ h aP=>lr (gN h (ho aP))
theorem aLk {wb:aC} (hg:dd wb):cK wb FW:=vH (λ_ _ _=>dt aO aO) hg (by kernel_rfl) aVn rfl rfl aUt aNT
theorem aUE:fL DG.args DG.res (du sh SB 444):=yZ rfl rfl (λ_ _=>RM) λ_ _ _ h aP=>lr (gN h (ho aP))
theorem aJS {wb:aC} (hg:dd wb):cK wb DG:=vH (λ_ _ _=>dt aO aO) hg (by kernel_rfl) aUE rfl rfl aS3 aMs
theorem aUG:fL DI.args DI.res (du sh SB 445):=yZ rfl rfl (λ_ _=>RM) λ_ _ _ h aP=>lr (gN h (ho aP))
theorem aJU {wb:aC} (hg:dd wb):cK wb DI:=vH (λ_ _ _=>dt aO aO) hg (by kernel_rfl) aUG rfl rfl aS5 aMu
theorem aUI:fL DK.args DK.res (du sh SB 446):=yZ rfl rfl (λ_ _=>RM) λ_ _ _ h aP=>lr (gN h (ho aP))
theorem aJW {wb:aC} (hg:dd wb):cK wb DK:=vH (λ_ _ _=>dt aO aO) hg (by kernel_rfl) aUI rfl rfl aS7 aMw
theorem aUK:fL DM.args DM.res (du sh SB 447):=yZ rfl rfl (λ_ _=>RM) λ_ _ _ h aP=>lr (gN h (ho aP))
theorem aJY {wb:aC} (hg:dd wb):cK wb DM:=vH (λ_ _ _=>dt aO aO) hg (by kernel_rfl) aUK rfl rfl aS9 aMy
theorem aLl {wb:aC} (hg:dd wb) (adn:cK wb FW):e7 wb IQ:=n8 (λ_ _ _=>dt aO (bT adn aO)) hg (λ_ _ _=>(ka aO)) (by kernel_rfl) rfl rfl aUu aNU
theorem aUM:fL DO.args DO.res (du sh SB 466):=yZ rfl rfl (λ_ _=>RM) λ_ _ _ h aP=>lr (gN h (ho aP))
theorem aJ0 {wb:aC} (hg:dd wb):cK wb DO:=vH (λ_ _ _=>dt aO aO) hg (by kernel_rfl) aUM rfl rfl aTb aMA
theorem aJl {wb:aC} (hg:dd wb):e7 wb IF:=n8 (λ_ _ _=>dt aO aO) hg (λ_ _ _=>(ka aO)) (by kernel_rfl) rfl rfl aSE aL1
theorem aJf {wb:aC} (hg:fJ cE ⟨wb,wb,λ_=>False,λ_=>False,[]⟩) (ao2:cK wb DO) (aoU:cK wb DG) (aoW:cK wb DI) (aoY:cK wb DK) (ao0:cK wb DM) (aDd:e7 wb IF):J3 wb Jk:=by
 refine atf (SB:=SB) (sh:=sh) (p:=Jk) (lsh:=arF) (lens:=[1]) (inl:=(Kk Tryz.prog cE (cS [] [DO,DG,DI,DK,DM]) (Fc (gJ [IF]) Tryz.prog cE (cS [] [DO,DG,DI,DK,DM]) VT 600 6) VT 600 [(1,0,0,4294967295),(1,1,0,4294967295),(1,2,0,4294967295),(1,3,0,4294967295),(1,4,0,4294967295),(1,5,0,4294967295),(1,6,0,4294967295),(1,7,0,4294967295)] 126)) (λL r ex ro=>amv api fE (λ_ _ _=>dt aO (bT ao2 (bT aoU (bT aoW (bT aoY (bT ao0 aO)))))) (λg cs h=>hg g cs h) (λr ex ro=>NV (w0:=⟨wb,r,ex,ro,[]⟩) rfl fE ((λ_ _ _=>dt aO (bT ao2 (bT aoU (bT aoW (bT aoY (bT ao0 aO)))))) r ex ro) (λg cs h=>hg g cs h) (ka (bT aDd aO)) 6) rfl) (by kernel_rfl) rfl rfl ?_;rw[show Jk.c=Vg from rfl,aSx];exact aLV
theorem aLq {wb:aC} (hg:fJ cE ⟨wb,wb,λ_=>False,λ_=>False,[]⟩) (aD3:e7 wb IQ) (aDY:oS wb QL) (aDc:J3 wb Jk):oS wb L2:=by
 refine Ge (SB:=SB) (sh:=sh) (p:=L2) (bc:=(AD [Jk] (pd [QL] (gJ [IQ])))) (cal:=(cS [] [])) (li:=bB) (rounds:=600) (d:=6) (lsh:=cf) (lens:=[1]) fE (λ_ _ _=>dt aO aO) hg (λ_ _ _ _=>(RB (yA (ka (bT aD3 aO)) (bT aDY aO)) (bT aDc aO))) (by kernel_rfl) rfl rfl ?_;rw[show L2.c=Vm from rfl,aUx];exact aNX
theorem aUF:fL DH.args DH.res (du sh SB 448):=yZ rfl rfl (λ_ _=>ja) λ_ _ _ h aP=>lr (gN h (ho aP))
theorem aJT {wb:aC} (hg:dd wb):cK wb DH:=vH (λ_ _ _=>dt aO aO) hg (by kernel_rfl) aUF rfl rfl aS4 aMt
theorem aUH:fL DJ.args DJ.res (du sh SB 449):=yZ rfl rfl (λ_ _=>ja) λ_ _ _ h aP=>lr (gN h (ho aP))
theorem aJV {wb:aC} (hg:dd wb):cK wb DJ:=vH (λ_ _ _=>dt aO aO) hg (by kernel_rfl) aUH rfl rfl aS6 aMv
theorem aUJ:fL DL.args DL.res (du sh SB 450):=yZ rfl rfl (λ_ _=>ja) λ_ _ _ h aP=>lr (gN h (ho aP))
theorem aJX {wb:aC} (hg:dd wb):cK wb DL:=vH (λ_ _ _=>dt aO aO) hg (by kernel_rfl) aUJ rfl rfl aS8 aMx
theorem aUL:fL DN.args DN.res (du sh SB 451):=yZ rfl rfl (λ_ _=>ja) λ_ _ _ h aP=>lr (gN h (ho aP))
theorem aJZ {wb:aC} (hg:dd wb):cK wb DN:=vH (λ_ _ _=>dt aO aO) hg (by kernel_rfl) aUL rfl rfl aTa aMz
theorem aLm {wb:aC} (hg:dd wb) (adn:cK wb FW):e7 wb xl:=n8 (λ_ _ _=>dt aO (bT adn aO)) hg (λ_ _ _=>(ka aO)) (by kernel_rfl) rfl rfl aUv aNV
theorem aLh {wb:aC} (hg:fJ cE ⟨wb,wb,λ_=>False,λ_=>False,[]⟩):oS wb I1:=by
 refine Ge (SB:=SB) (sh:=sh) (p:=I1) (bc:=(gJ [])) (cal:=(cS [] [])) (li:=bB) (rounds:=600) (d:=6) (lsh:=cf) (lens:=[1,1]) fE (λ_ _ _=>dt aO aO) hg (λ_ _ _ _=>(ka aO)) (by kernel_rfl) rfl rfl ?_;rw[show I1.c=Vk from rfl,aUr];exact aNR
theorem aLi {wb:aC} (hg:fJ cE ⟨wb,wb,λ_=>False,λ_=>False,[]⟩):oS wb I2:=by
 refine Ge (SB:=SB) (sh:=sh) (p:=I2) (bc:=(gJ [])) (cal:=(cS [] [])) (li:=bB) (rounds:=600) (d:=6) (lsh:=cf) (lens:=[1,1,1]) fE (λ_ _ _=>dt aO aO) hg (λ_ _ _ _=>(ka aO)) (by kernel_rfl) rfl rfl ?_;rw[show I2.c=Vl from rfl,aUs];exact aNS
theorem aUN:fL DP.args DP.res (du sh SB 467):=yZ rfl rfl (λ_ _=>ja) λ_ _ _ h aP=>lr (gN h (ho aP))
theorem aJ1 {wb:aC} (hg:dd wb):cK wb DP:=vH (λ_ _ _=>dt aO aO) hg (by kernel_rfl) aUN rfl rfl aTc aMB
theorem aJm {wb:aC} (hg:dd wb):e7 wb IG:=n8 (λ_ _ _=>dt aO aO) hg (λ_ _ _=>(ka aO)) (by kernel_rfl) rfl rfl aSF aL2
theorem aJg {wb:aC} (hg:fJ cE ⟨wb,wb,λ_=>False,λ_=>False,[]⟩) (ao3:cK wb DP) (aoV:cK wb DH) (aoX:cK wb DJ) (aoZ:cK wb DL) (ao1:cK wb DN) (aDe:e7 wb IG):J3 wb xv:=by
 refine atf (SB:=SB) (sh:=sh) (p:=xv) (lsh:=arG) (lens:=[1]) (inl:=(Kk Tryz.prog cE (cS [] [DP,DH,DJ,DL,DN]) (Fc (gJ [IG]) Tryz.prog cE (cS [] [DP,DH,DJ,DL,DN]) VU 600 6) VU 600 [(1,0,0,0xffffffffffffffff),(1,1,0,0xffffffffffffffff),(1,2,0,0xffffffffffffffff),(1,3,0,0xffffffffffffffff),(1,4,0,0xffffffffffffffff),(1,5,0,0xffffffffffffffff),(1,6,0,0xffffffffffffffff),(1,7,0,0xffffffffffffffff)] 126)) (λL r ex ro=>amv api fE (λ_ _ _=>dt aO (bT ao3 (bT aoV (bT aoX (bT aoZ (bT ao1 aO)))))) (λg cs h=>hg g cs h) (λr ex ro=>NV (w0:=⟨wb,r,ex,ro,[]⟩) rfl fE ((λ_ _ _=>dt aO (bT ao3 (bT aoV (bT aoX (bT aoZ (bT ao1 aO)))))) r ex ro) (λg cs h=>hg g cs h) (ka (bT aDe aO)) 6) rfl) (by kernel_rfl) rfl rfl ?_;rw[show xv.c=Vh from rfl,aSy];exact aLW
theorem aLr {wb:aC} (hg:fJ cE ⟨wb,wb,λ_=>False,λ_=>False,[]⟩) (OJ:e7 wb xl) (aDZ:oS wb QM) (OI:J3 wb xv):oS wb Gb:=by
 refine Ge (SB:=SB) (sh:=sh) (p:=Gb) (bc:=(AD [xv] (pd [QM] (gJ [xl])))) (cal:=(cS [] [])) (li:=bB) (rounds:=600) (d:=6) (lsh:=cf) (lens:=[1]) fE (λ_ _ _=>dt aO aO) hg (λ_ _ _ _=>(RB (yA (ka (bT OJ aO)) (bT aDZ aO)) (bT OI aO))) (by kernel_rfl) rfl rfl ?_;rw[show Gb.c=Vn from rfl,aUy];exact aNY
theorem aLs {wb:aC} (hg:fJ cE ⟨wb,wb,λ_=>False,λ_=>False,[]⟩) (OJ:e7 wb xl) (aD0:oS wb I1) (OI:J3 wb xv):oS wb I3:=by
 refine Ge (SB:=SB) (sh:=sh) (p:=I3) (bc:=(AD [xv] (pd [I1] (gJ [xl])))) (cal:=(cS [] [])) (li:=bB) (rounds:=600) (d:=6) (lsh:=cf) (lens:=[1,1]) fE (λ_ _ _=>dt aO aO) hg (λ_ _ _ _=>(RB (yA (ka (bT OJ aO)) (bT aD0 aO)) (bT OI aO))) (by kernel_rfl) rfl rfl ?_;rw[show I3.c=Vo from rfl,aUz];exact aNZ
theorem aLt {wb:aC} (hg:fJ cE ⟨wb,wb,λ_=>False,λ_=>False,[]⟩) (OJ:e7 wb xl) (aD1:oS wb I2) (OI:J3 wb xv):oS wb I4:=by
 refine Ge (SB:=SB) (sh:=sh) (p:=I4) (bc:=(AD [xv] (pd [I2] (gJ [xl])))) (cal:=(cS [] [])) (li:=bB) (rounds:=600) (d:=6) (lsh:=cf) (lens:=[1,1,1]) fE (λ_ _ _=>dt aO aO) hg (λ_ _ _ _=>(RB (yA (ka (bT OJ aO)) (bT aD1 aO)) (bT OI aO))) (by kernel_rfl) rfl rfl ?_;rw[show I4.c=Vp from rfl,aUA];exact aN0
theorem aJ9 {wb:aC} (hg:fJ cE ⟨wb,wb,λ_=>False,λ_=>False,[]⟩) (ado:cK wb DT) (aD6:oS wb I3):oS wb L1:=by
 refine Ge (SB:=SB) (sh:=sh) (p:=L1) (bc:=(pd [I3] (gJ []))) (cal:=(cS [] [DT])) (li:=bB) (rounds:=600) (d:=6) (lsh:=cf) (lens:=[1,1]) fE (λ_ _ _=>dt aO (bT ado aO)) hg (λ_ _ _ _=>(yA (ka aO) (bT aD6 aO))) (by kernel_rfl) rfl rfl ?_;rw[show L1.c=Vi from rfl,aTi];exact aMJ
theorem aKa {wb:aC} (hg:fJ cE ⟨wb,wb,λ_=>False,λ_=>False,[]⟩) (ado:cK wb DT) (aD7:oS wb I4):oS wb Ga:=by
 refine Ge (SB:=SB) (sh:=sh) (p:=Ga) (bc:=(pd [I4] (gJ []))) (cal:=(cS [] [DT])) (li:=bB) (rounds:=600) (d:=6) (lsh:=cf) (lens:=[1,1,1]) fE (λ_ _ _=>dt aO (bT ado aO)) hg (λ_ _ _ _=>(yA (ka aO) (bT aD7 aO))) (by kernel_rfl) rfl rfl ?_;rw[show Ga.c=Vj from rfl,aTj];exact aMK
theorem aJK {wb:aC} (hg:dd wb) (adm:cK wb IP) (adq:cK wb IS) (adp:oS wb Gb):e7 wb DD:=n8 (λ_ _ _=>dt aO (bT adm (bT adq aO))) hg (λ_ _ _=>(yA (ka aO) (bT adp aO))) (by kernel_rfl) rfl rfl aSW aMk
theorem aJM {wb:aC} (hg:dd wb) (adm:cK wb IP) (adq:cK wb IS) (aD2:cK wb Qp) (adp:oS wb Gb) (aDn:oS wb L1) (adj:oS wb Ga):e7 wb DE:=n8 (λ_ _ _=>dt aO (bT adm (bT adq (bT aD2 aO)))) hg (λ_ _ _=>(yA (ka aO) (bT adp (bT aDn (bT adj aO))))) (by kernel_rfl) rfl rfl aSY aMm
theorem aJO {wb:aC} (hg:dd wb) (aD4:cK wb Qq) (aD9:cK wb Qs) (aD8:cK wb Qr) (adj:oS wb Ga):e7 wb LF:=n8 (λ_ _ _=>dt aO (bT aD4 (bT aD9 (bT aD8 aO)))) hg (λ_ _ _=>(yA (ka aO) (bT adj aO))) (by kernel_rfl) rfl rfl aS0 aMo
theorem aJJ {wb:aC} (hg:dd wb) (h_edPub:e7 wb DD) (h_edSign:e7 wb DE) (aDm:e7 wb LF):e7 wb IM:=n8 (λ_ _ _=>dt aO aO) hg (λ_ _ _=>(ka (bT h_edPub (bT h_edSign (bT aDm aO))))) (by kernel_rfl) rfl rfl aSV aMj
theorem aUY:fL FV.args FV.res (du sh SB 441):=mM rfl rfl (λ_ _=>atA) λ_ _ _ _ h aP=>lr (gN h (ho aP))
theorem aKI {wb:aC} (hg:dd wb):cK wb FV:=vH (λ_ _ _=>dt aO aO) hg (by kernel_rfl) aUY rfl rfl aTT aNj
theorem aUP:fL lv.args lv.res (du sh SB 476):=yZ rfl rfl (λ_ _=>ja) λ_ _ _ h aP=>lr (gN h (ho aP))
theorem aKm {wb:aC} (hg:dd wb):cK wb lv:=vH (λ_ _ _=>dt aO aO) hg (by kernel_rfl) aUP rfl rfl aTv aMW
theorem aUZ:fL P1.args P1.res (du sh SB 701):=mM rfl rfl (λ_ _=>ja) λ_ _ _ _ h aP=>lr (gN h (ho aP))
theorem aKP {wb:aC} (hg:dd wb) (nf:cK wb lv):eY wb Q0:=kU (q:=Q0) (λ_ _ _=>dt aO (bT nf aO)) hg (by kernel_rfl) aUZ rfl rfl aT0 aNq
theorem aU7:fL P9.args P9.res (du sh SB 706):=mM rfl rfl (λ_ _=>ja) λ_ _ _ _ h aP=>lr (gN h (ho aP))
theorem aKX {wb:aC} (hg:dd wb) (nf:cK wb lv):eY wb Q8:=kU (q:=Q8) (λ_ _ _=>dt aO (bT nf aO)) hg (by kernel_rfl) aU7 rfl rfl aT8 aNy
theorem aU9:fL Qb.args Qb.res (du sh SB 707):=mM rfl rfl (λ_ _=>ja) λ_ _ _ _ h aP=>lr (gN h (ho aP))
theorem aKZ {wb:aC} (hg:dd wb) (nf:cK wb lv):eY wb Ra:=kU (q:=Ra) (λ_ _ _=>dt aO (bT nf aO)) hg (by kernel_rfl) aU9 rfl rfl aUa aNA
theorem aVa:fL Qc.args Qc.res (du sh SB 708):=mM rfl rfl (λ_ _=>ja) λ_ _ _ _ h aP=>lr (gN h (ho aP))
theorem aK0 {wb:aC} (hg:dd wb) (nf:cK wb lv):eY wb Rb:=kU (q:=Rb) (λ_ _ _=>dt aO (bT nf aO)) hg (by kernel_rfl) aVa rfl rfl aUb aNB
theorem aU0:fL P2.args P2.res (du sh SB 714):=mM rfl rfl (λ_ _=>ja) λ_ _ _ _ h aP=>lr (gN h (ho aP))
theorem aKQ {wb:aC} (hg:dd wb) (nf:cK wb lv):eY wb Q1:=kU (q:=Q1) (λ_ _ _=>dt aO (bT nf aO)) hg (by kernel_rfl) aU0 rfl rfl aT1 aNr
theorem aU1:fL P3.args P3.res (du sh SB 718):=mM rfl rfl (λ_ _=>ja) λ_ _ _ _ h aP=>lr (gN h (ho aP))
theorem aKR {wb:aC} (hg:dd wb) (nf:cK wb lv):eY wb Q2:=kU (q:=Q2) (λ_ _ _=>dt aO (bT nf aO)) hg (by kernel_rfl) aU1 rfl rfl aT2 aNs
theorem aU2:fL P4.args P4.res (du sh SB 719):=mM rfl rfl (λ_ _=>ja) λ_ _ _ _ h aP=>lr (gN h (ho aP))
theorem aKS {wb:aC} (hg:dd wb) (nf:cK wb lv):eY wb Q3:=kU (q:=Q3) (λ_ _ _=>dt aO (bT nf aO)) hg (by kernel_rfl) aU2 rfl rfl aT3 aNt
theorem aU3:fL P5.args P5.res (du sh SB 728):=mM rfl rfl (λ_ _=>ja) λ_ _ _ _ h aP=>lr (gN h (ho aP))
theorem aKT {wb:aC} (hg:dd wb) (nf:cK wb lv):eY wb Q4:=kU (q:=Q4) (λ_ _ _=>dt aO (bT nf aO)) hg (by kernel_rfl) aU3 rfl rfl aT4 aNu
theorem aU4:fL P6.args P6.res (du sh SB 734):=mM rfl rfl (λ_ _=>ja) λ_ _ _ _ h aP=>lr (gN h (ho aP))
theorem aKU {wb:aC} (hg:dd wb) (nf:cK wb lv):eY wb Q5:=kU (q:=Q5) (λ_ _ _=>dt aO (bT nf aO)) hg (by kernel_rfl) aU4 rfl rfl aT5 aNv
theorem aU5:fL P7.args P7.res (du sh SB 739):=mM rfl rfl (λ_ _=>ja) λ_ _ _ _ h aP=>lr (gN h (ho aP))
theorem aKV {wb:aC} (hg:dd wb) (nf:cK wb lv):eY wb Q6:=kU (q:=Q6) (λ_ _ _=>dt aO (bT nf aO)) hg (by kernel_rfl) aU5 rfl rfl aT6 aNw
theorem aU6:fL P8.args P8.res (du sh SB 741):=mM rfl rfl (λ_ _=>ja) λ_ _ _ _ h aP=>lr (gN h (ho aP))
theorem aKW {wb:aC} (hg:dd wb) (nf:cK wb lv):eY wb Q7:=kU (q:=Q7) (λ_ _ _=>dt aO (bT nf aO)) hg (by kernel_rfl) aU6 rfl rfl aT7 aNx
theorem aU8:fL Qa.args Qa.res (du sh SB 761):=mM rfl rfl (λ_ _=>ja) λ_ _ _ _ h aP=>lr (gN h (ho aP))
theorem aKY {wb:aC} (hg:dd wb) (nf:cK wb lv):eY wb Q9:=kU (q:=Q9) (λ_ _ _=>dt aO (bT nf aO)) hg (by kernel_rfl) aU8 rfl rfl aT9 aNz
theorem aUQ:fL PT.args PT.res (du sh SB 479):=Gx rfl rfl (λ_ _=>ja) λ_ _ _ _ _ _ _ h aP=>lr (gN h (ho aP))
theorem aKx {wb:aC} (hg:dd wb) (aDE:eY wb Q4) (aDF:eY wb Q5) (aDG:eY wb Q6):eY wb QS:=kU (q:=QS) (λ_ _ _=>dt (bT aDE (bT aDF (bT aDG aO))) aO) hg (by kernel_rfl) aUQ rfl rfl aTI aM8
theorem aUR:fL PU.args PU.res (du sh SB 480):=Gx rfl rfl (λ_ _=>ja) λ_ _ _ _ _ _ _ h aP=>lr (gN h (ho aP))
theorem aKy {wb:aC} (hg:dd wb) (aDB:eY wb Q1) (aDC:eY wb Q2) (aDH:eY wb Q7):eY wb QT:=kU (q:=QT) (λ_ _ _=>dt (bT aDB (bT aDC (bT aDH aO))) aO) hg (by kernel_rfl) aUR rfl rfl aTJ aM9
theorem aUS:fL PV.args PV.res (du sh SB 481):=Gx rfl rfl (λ_ _=>ja) λ_ _ _ _ _ _ _ h aP=>lr (gN h (ho aP))
theorem aKz {wb:aC} (hg:dd wb) (aDA:eY wb Q0) (aDL:eY wb Rb) (aDK:eY wb Ra):eY wb QU:=kU (q:=QU) (λ_ _ _=>dt (bT aDA (bT aDL (bT aDK aO))) aO) hg (by kernel_rfl) aUS rfl rfl aTK aNa
theorem aUT:fL PW.args PW.res (du sh SB 482):=Gx rfl rfl (λ_ _=>ja) λ_ _ _ _ _ _ _ h aP=>lr (gN h (ho aP))
theorem aKA {wb:aC} (hg:dd wb) (aDD:eY wb Q3) (aDJ:eY wb Q9) (aDI:eY wb Q8):eY wb QV:=kU (q:=QV) (λ_ _ _=>dt (bT aDD (bT aDJ (bT aDI aO))) aO) hg (by kernel_rfl) aUT rfl rfl aTL aNb
theorem aKO {wb:aC} (hg:dd wb) (aDp:eY wb QS) (aDq:eY wb QT) (aDr:eY wb QU) (aDs:eY wb QV) (adl:cK wb FV) (nf:cK wb lv):e7 wb LJ:=n8 (λ_ _ _=>dt (bT aDp (bT aDq (bT aDr (bT aDs aO)))) (bT adl (bT nf aO))) hg (λ_ _ _=>(ka aO)) (by kernel_rfl) rfl rfl aTZ aNp
theorem aKe {wb:aC} (hg:dd wb) (aDz:e7 wb LJ):e7 wb FU:=n8 (λ_ _ _=>dt aO aO) hg (λ_ _ _=>(ka (bT aDz aO))) (by kernel_rfl) rfl rfl aTn aMO
theorem aJI {wb:aC} (hg:dd wb) (aDk:cK wb PR) (aDh:cK wb PO) (aDi:cK wb PQ) (aDg:cK wb PN):e7 wb FR:=n8 (λ_ _ _=>dt aO (bT aDk (bT aDh (bT aDi (bT aDg aO))))) hg (λ_ _ _=>(ka aO)) (by kernel_rfl) rfl rfl aSU aMi
theorem aJz {wb:aC} (hg:dd wb) (adi:e7 wb FR):e7 wb FQ:=n8 (λ_ _ _=>dt aO aO) hg (λ_ _ _=>(ka (bT adi aO))) (by kernel_rfl) rfl rfl aSO aMc
theorem aJG {wb:aC} (hg:dd wb) (adf:cK wb IJ) (adh:e7 wb FQ):e7 wb LD:=n8 (λ_ _ _=>dt aO (bT adf aO)) hg (λ_ _ _=>(ka (bT adh aO))) (by kernel_rfl) rfl rfl aSS aMg
theorem aKF {wb:aC} (hg:dd wb) (adk:e7 wb FU) (aDl:e7 wb LD):e7 wb LH:=n8 (λ_ _ _=>dt aO aO) hg (λ_ _ _=>(ka (bT adk (bT aDl aO)))) (by kernel_rfl) rfl rfl aTQ aNg
theorem aUO:fL jt.args jt.res (du sh SB 483):=yZ rfl rfl (λ_ _=>ja) λ_ _ _ h aP=>lr (gN h (ho aP))
theorem aKl {wb:aC} (hg:dd wb):cK wb jt:=vH (λ_ _ _=>dt aO aO) hg (by kernel_rfl) aUO rfl rfl aTu aMV
theorem aVh:fL Qj.args Qj.res (du sh SB 802):=mM rfl rfl (λ_ _=>ja) λ_ _ _ _ h aP=>gN (lj h) (ho (lj aP))
theorem aK8 {wb:aC} (hg:dd wb) (kC:cK wb jt):eY wb Ri:=kU (q:=Ri) (λ_ _ _=>dt aO (bT kC aO)) hg (by kernel_rfl) aVh rfl rfl aUj aNJ
theorem aVk:fL Qm.args Qm.res (du sh SB 803):=mM rfl rfl (λ_ _=>ja) λ_ _ _ _ h aP=>gN (lj h) (ho (lj aP))
theorem aLb {wb:aC} (hg:dd wb) (kC:cK wb jt):eY wb Rl:=kU (q:=Rl) (λ_ _ _=>dt aO (bT kC aO)) hg (by kernel_rfl) aVk rfl rfl aUm aNM
theorem aVl:fL Qn.args Qn.res (du sh SB 806):=mM rfl rfl (λ_ _=>ja) λ_ _ _ _ h aP=>gN (lj h) (ho (lj aP))
theorem aLc {wb:aC} (hg:dd wb) (kC:cK wb jt):eY wb Rm:=kU (q:=Rm) (λ_ _ _=>dt aO (bT kC aO)) hg (by kernel_rfl) aVl rfl rfl aUn aNN
theorem aVm:fL Qo.args Qo.res (du sh SB 807):=mM rfl rfl (λ_ _=>ja) λ_ _ _ _ h aP=>gN (lj h) (ho (lj aP))
theorem aLd {wb:aC} (hg:dd wb) (kC:cK wb jt):eY wb Rn:=kU (q:=Rn) (λ_ _ _=>dt aO (bT kC aO)) hg (by kernel_rfl) aVm rfl rfl aUo aNO
theorem aVb:fL Qd.args Qd.res (du sh SB 810):=mM rfl rfl (λ_ _=>ja) λ_ _ _ _ h aP=>gN (lj h) (ho (lj aP))
theorem aK2 {wb:aC} (hg:dd wb) (kC:cK wb jt):eY wb Rc:=kU (q:=Rc) (λ_ _ _=>dt aO (bT kC aO)) hg (by kernel_rfl) aVb rfl rfl aUd aND
theorem aVc:fL Qe.args Qe.res (du sh SB 811):=mM rfl rfl (λ_ _=>ja) λ_ _ _ _ h aP=>gN (lj h) (ho (lj aP))
theorem aK3 {wb:aC} (hg:dd wb) (kC:cK wb jt):eY wb Rd:=kU (q:=Rd) (λ_ _ _=>dt aO (bT kC aO)) hg (by kernel_rfl) aVc rfl rfl aUe aNE
theorem aVd:fL Qf.args Qf.res (du sh SB 813):=mM rfl rfl (λ_ _=>ja) λ_ _ _ _ h aP=>gN (lj h) (ho (lj aP))
theorem aK4 {wb:aC} (hg:dd wb) (kC:cK wb jt):eY wb Re:=kU (q:=Re) (λ_ _ _=>dt aO (bT kC aO)) hg (by kernel_rfl) aVd rfl rfl aUf aNF
theorem aVe:fL Qg.args Qg.res (du sh SB 817):=mM rfl rfl (λ_ _=>ja) λ_ _ _ _ h aP=>gN (lj h) (ho (lj aP))
theorem aK5 {wb:aC} (hg:dd wb) (kC:cK wb jt):eY wb Rf:=kU (q:=Rf) (λ_ _ _=>dt aO (bT kC aO)) hg (by kernel_rfl) aVe rfl rfl aUg aNG
theorem aVf:fL Qh.args Qh.res (du sh SB 818):=mM rfl rfl (λ_ _=>ja) λ_ _ _ _ h aP=>gN (lj h) (ho (lj aP))
theorem aK6 {wb:aC} (hg:dd wb) (kC:cK wb jt):eY wb Rg:=kU (q:=Rg) (λ_ _ _=>dt aO (bT kC aO)) hg (by kernel_rfl) aVf rfl rfl aUh aNH
theorem aVg:fL Qi.args Qi.res (du sh SB 819):=mM rfl rfl (λ_ _=>ja) λ_ _ _ _ h aP=>gN (lj h) (ho (lj aP))
theorem aK7 {wb:aC} (hg:dd wb) (kC:cK wb jt):eY wb Rh:=kU (q:=Rh) (λ_ _ _=>dt aO (bT kC aO)) hg (by kernel_rfl) aVg rfl rfl aUi aNI
theorem aVi:fL Qk.args Qk.res (du sh SB 822):=mM rfl rfl (λ_ _=>ja) λ_ _ _ _ h aP=>gN (lj h) (ho (lj aP))
theorem aK9 {wb:aC} (hg:dd wb) (kC:cK wb jt):eY wb Rj:=kU (q:=Rj) (λ_ _ _=>dt aO (bT kC aO)) hg (by kernel_rfl) aVi rfl rfl aUk aNK
theorem aVj:fL Ql.args Ql.res (du sh SB 825):=mM rfl rfl (λ_ _=>ja) λ_ _ _ _ h aP=>gN (lj h) (ho (lj aP))
theorem aLa {wb:aC} (hg:dd wb) (kC:cK wb jt):eY wb Rk:=kU (q:=Rk) (λ_ _ _=>dt aO (bT kC aO)) hg (by kernel_rfl) aVj rfl rfl aUl aNL
theorem aUU:fL PX.args PX.res (du sh SB 484):=Gx rfl rfl (λ_ _=>ja) λ_ _ _ _ _ _ _ h aP=>gN (lj h) (ho (lj aP))
theorem aKB {wb:aC} (hg:dd wb) (aDS:eY wb Ri) (aDO:eY wb Re) (aDT:eY wb Rj) (kC:cK wb jt):eY wb QW:=kU (q:=QW) (λ_ _ _=>dt (bT aDS (bT aDO (bT aDT aO))) (bT kC aO)) hg (by kernel_rfl) aUU rfl rfl aTM aNc
theorem aUV:fL PY.args PY.res (du sh SB 485):=Gx rfl rfl (λ_ _=>ja) λ_ _ _ _ _ _ _ h aP=>gN (lj h) (ho (lj aP))
theorem aKC {wb:aC} (hg:dd wb) (aDW:eY wb Rm) (aDN:eY wb Rd) (aDU:eY wb Rk) (kC:cK wb jt):eY wb QX:=kU (q:=QX) (λ_ _ _=>dt (bT aDW (bT aDN (bT aDU aO))) (bT kC aO)) hg (by kernel_rfl) aUV rfl rfl aTN aNd
theorem aUW:fL PZ.args PZ.res (du sh SB 486):=Gx rfl rfl (λ_ _=>ja) λ_ _ _ _ _ _ _ h aP=>gN (lj h) (ho (lj aP))
theorem aKD {wb:aC} (hg:dd wb) (aDX:eY wb Rn) (aDQ:eY wb Rg) (aDV:eY wb Rl) (kC:cK wb jt):eY wb QY:=kU (q:=QY) (λ_ _ _=>dt (bT aDX (bT aDQ (bT aDV aO))) (bT kC aO)) hg (by kernel_rfl) aUW rfl rfl aTO aNe
theorem aUX:fL P0.args P0.res (du sh SB 487):=Gx rfl rfl (λ_ _=>ja) λ_ _ _ _ _ _ _ h aP=>gN (lj h) (ho (lj aP))
theorem aKE {wb:aC} (hg:dd wb) (aDP:eY wb Rf) (aDR:eY wb Rh) (aDM:eY wb Rc) (kC:cK wb jt):eY wb QZ:=kU (q:=QZ) (λ_ _ _=>dt (bT aDP (bT aDR (bT aDM aO))) (bT kC aO)) hg (by kernel_rfl) aUX rfl rfl aTP aNf
theorem aKN {wb:aC} (hg:dd wb) (aDt:eY wb QW) (aDu:eY wb QX) (aDv:eY wb QY) (aDw:eY wb QZ) (adl:cK wb FV) (kC:cK wb jt):e7 wb LI:=n8 (λ_ _ _=>dt (bT aDt (bT aDu (bT aDv (bT aDw aO)))) (bT adl (bT kC aO))) hg (λ_ _ _=>(ka aO)) (by kernel_rfl) rfl rfl aTY aNo
theorem aKd {wb:aC} (hg:dd wb) (aDy:e7 wb LI):e7 wb LG:=n8 (λ_ _ _=>dt aO aO) hg (λ_ _ _=>(ka (bT aDy aO))) (by kernel_rfl) rfl rfl aTm aMN
theorem aJw {wb:aC} (hg:dd wb):e7 wb LB:=n8 (λ_ _ _=>dt aO aO) hg (λ_ _ _=>(ka aO)) (by kernel_rfl) rfl rfl aSM aMa
theorem aJx {wb:aC} (hg:dd wb) (adk:e7 wb FU) (aDf:e7 wb LB):e7 wb FP:=n8 (λ_ _ _=>dt aO aO) hg (λ_ _ _=>(ka (bT adk (bT aDf aO)))) (by kernel_rfl) rfl rfl aSN aMb
theorem aJF {wb:aC} (hg:dd wb) (ade:cK wb II) (adg:e7 wb FP):e7 wb IK:=n8 (λ_ _ _=>dt aO (bT ade aO)) hg (λ_ _ _=>(ka (bT adg aO))) (by kernel_rfl) rfl rfl aSR aMf
theorem aJC {wb:aC} (hg:dd wb) (adf:cK wb IJ) (adh:e7 wb FQ) (adi:e7 wb FR):e7 wb LC:=n8 (λ_ _ _=>dt aO (bT adf aO)) hg (λ_ _ _=>(ka (bT adh (bT adi aO)))) (by kernel_rfl) rfl rfl aSP aMd
theorem aJH {wb:aC} (hg:dd wb) (ade:cK wb II) (adg:e7 wb FP) (aDx:e7 wb LH) (aDj:e7 wb LC):e7 wb IL:=n8 (λ_ _ _=>dt aO (bT ade aO)) hg (λ_ _ _=>(ka (bT adg (bT aDx (bT aDj aO))))) (by kernel_rfl) rfl rfl aST aMh
theorem aJL {wb:aC} (hg:dd wb) (aD5:oS wb L2):e7 wb IN:=n8 (λ_ _ _=>dt aO aO) hg (λ_ _ _=>(yA (ka aO) (bT aD5 aO))) (by kernel_rfl) rfl rfl aSX aMl
theorem aJt {wb:aC} (hg:dd wb) (aDo:e7 wb LG):e7 wb IH:=n8 (λ_ _ _=>dt aO aO) hg (λ_ _ _=>(ka (bT aDo aO))) (by kernel_rfl) rfl rfl aSL aL9
theorem aJN {wb:aC} (hg:dd wb) (h_edAlive:e7 wb IM) (h_edPub:e7 wb DD) (h_edSign:e7 wb DE) (h_edSeed:e7 wb IN) (h_dpub:e7 wb IK) (h_dsign:e7 wb IL) (h_dSeed:e7 wb IH):e7 wb PS:=n8 (λ_ _ _=>dt aO aO) hg (λ_ _ _=>(ka (bT h_edAlive (bT h_edPub (bT h_edSign (bT h_edSeed (bT h_dpub (bT h_dsign (bT h_dSeed aO))))))))) (by kernel_rfl) rfl rfl aSZ aMn
end Go.dg
namespace Go.dg
open Go Go.bX Go.Proofs
theorem xr {wb:aC} {c:bq} {s Jt:List Int->List Int->Prop} (h:c.A3 Tryz.prog wb s) (hs:∀zs rs,ay (aX c.args) zs->ay (aX c.res) rs->s zs rs->Jt zs rs):c.A3 Tryz.prog wb Jt:=λzs hz=>by
 obtain⟨rs,h1,h2,h3⟩:=h zs hz;exact⟨rs,h1,hs zs rs hz h1 h2,h3⟩
theorem Wg {rs:List Int} {n:Nat} (h:rs.length=n+1):∃e,rs.drop n=[e]:=List.length_eq_one_iff.1 (by rw[List.length_drop];omega)
section
variable {wb:aC}
theorem aLz (hg:dd wb):cK wb Qs:=by
 obtain⟨G,h⟩:=Go.Fd.zk (wb:=wb) hg;have h1:Go.Fd.Ab.bH Tryz.prog wb (Go.Fd.eD G 112):=h _ (Go.Fd.BZ (i:=2) rfl);refine xr (c:=Qs) (s:=Go.Fd.eD G 112) h1.f λzs rs hz hr ah=>?_;have ah:Go.Fd.SB 112 (cI [32] zs) (cI [32,1] rs):=ah.1;show SB 112 (cI [32] zs) (cI [32,1] rs);have iZ:zs.length=32:=dj hz;have fY:rs.length=32+1:=dj hr;obtain⟨e,he⟩:=Wg fY;rw[Go.Fd.ra iZ,Go.Fd.xK fY,he]at ah⊢;exact ah
theorem aLw (hg:dd wb):cK wb IS:=by
 obtain⟨G,h⟩:=Go.Fd.zk (wb:=wb) hg;have h1:Go.Fd.z8.bH Tryz.prog wb (Go.Fd.eD G 114):=h _ (Go.Fd.BZ (i:=1) rfl);refine xr (c:=IS) (s:=Go.Fd.eD G 114) h1.f λzs rs hz hr ah=>?_;have ah:Go.Fd.SB 114 (cI [32] zs) (cI [32] rs):=ah.1;show SB 114 (cI [32] zs) (cI [32] rs);have iZ:zs.length=32:=dj hz;have fY:rs.length=32:=dj hr;rw[Go.Fd.ra iZ,Go.Fd.ra fY]at ah⊢;exact ah
theorem aLy (hg:dd wb):cK wb Qr:=by
 obtain⟨G,h⟩:=Go.Fd.zk (wb:=wb) hg;have h1:Go.Fd.Aa.bH Tryz.prog wb (Go.Fd.eD G 115):=h _ (Go.Fd.BZ (i:=0) rfl);refine xr (c:=Qr) (s:=Go.Fd.eD G 115) h1.f λzs rs hz hr ah=>?_;have ah:Go.Fd.SB 115 (cI [32,32,32] zs) (cI [32,1] rs):=ah.1;show SB 115 (cI [32,32,32] zs) (cI [32,1] rs);have iZ:zs.length=32+(32+32):=dj hz;have fY:rs.length=32+1:=dj hr;obtain⟨e,he⟩:=Wg fY;rw[Go.Fd.Xb iZ,Go.Fd.xK fY,he]at ah⊢;exact ah
theorem aLp (hg:dd wb):cK wb Qq:=by
 have h1:Go.ou.n1.bH Tryz.prog wb (Go.ou.cQ 13):=Go.ou.agr hg;refine xr (c:=Qq) (s:=Go.ou.cQ 13) h1.f λzs rs hz hr ah=>?_;have ah:rs=[if b9 zs<(Go.Fd.dG:Int)then 1 else 0]:=ah;show SB 151 (cI [32] zs) (cI [1] rs);have iZ:zs.length=32:=dj hz;have fY:rs.length=1:=dj hr;rw[Go.Fd.ra iZ,Go.Fd.ra fY,ah];rfl
theorem aLo (hg:dd wb):cK wb DT:=by
 have h1:Go.ou.oD.bH Tryz.prog wb (Go.ou.cQ 11):=Go.ou.agp hg;refine xr (c:=DT) (s:=Go.ou.cQ 11) h1.f λzs rs hz hr ah=>?_;have ah:b9 rs=b9 zs% (Go.Fd.dG:Int):=ah;show SB 152 (cI [64] zs) (cI [32] rs);have iZ:zs.length=64:=dj hz;have fY:rs.length=32:=dj hr;rw[Go.Fd.ra iZ,Go.Fd.ra fY];exact ah
theorem aLj (hg:dd wb):cK wb Qp:=by
 have h1:Go.ou.FT.bH Tryz.prog wb (Go.ou.cQ 8):=Go.ou.aJ7 hg;refine xr (c:=Qp) (s:=Go.ou.cQ 8) h1.f λzs rs hz hr ah=>?_;have ah:b9 rs=(b9 (zs.take 32)*b9 ((zs.drop 32).take 32)+b9 (zs.drop 64))% (Go.Fd.dG:Int):=ah;show SB 153 (cI [32,32,32] zs) (cI [32] rs);have iZ:zs.length=32+(32+32):=dj hz;have fY:rs.length=32:=dj hr;rw[Go.Fd.Xb iZ,Go.Fd.ra fY];show b9 rs=(b9 (zs.take 32)*b9 ((zs.drop 32).take 32)+b9 ((zs.drop 32).drop 32))% (Go.Fd.dG:Int);rw[ah,List.drop_drop]
theorem aLg (hg:dd wb):cK wb IP:=by
 have h1:Go.ou.FO.bH Tryz.prog wb (Go.ou.cQ 14):=Go.ou.aJn hg;refine xr (c:=IP) (s:=Go.ou.cQ 14) h1.f λzs rs hz hr ah=>?_;have ah:rs=zB zs:=ah;show SB 154 (cI [32] zs) (cI [32] rs);have iZ:zs.length=32:=dj hz;have fY:rs.length=32:=dj hr;rw[Go.Fd.ra iZ,Go.Fd.ra fY];exact ah
end
end Go.dg
namespace Go.dg
open Go Go.bX Go.Proofs
section
variable {wb:aC}
theorem aJv (hg:dd wb):cK wb IJ:=by
 obtain⟨G,h⟩:=Go.Fd.zk (wb:=wb) hg;have h1:Go.Fd.tg.bH Tryz.prog wb (Go.Fd.eD G 27):=h _ (Go.Fd.BZ (i:=48) rfl);refine xr (c:=IJ) (s:=Go.Fd.eD G 27) h1.f λzs rs hz hr ah=>?_;have ah:Go.Fd.SB 27 (cI [4] zs) (cI [32] rs):=ah.1;show SB 690 (cI [4] zs) (cI [32] rs);have iZ:zs.length=4:=dj hz;have fY:rs.length=32:=dj hr;rw[Go.Fd.ra iZ,Go.Fd.ra fY]at ah⊢;exact ah
theorem aJy (hg:dd wb):cK wb PN:=by
 obtain⟨G,h⟩:=Go.Fd.zk (wb:=wb) hg;have h1:Go.Fd.yr.bH Tryz.prog wb (Go.Fd.eD G 133):=h _ (Go.Fd.BZ (i:=28) rfl);refine xr (c:=PN) (s:=Go.Fd.eD G 133) h1.f λzs rs hz hr ah=>?_;have ah:Go.Fd.SB 133 (cI [] zs) (cI [4] rs):=ah.1;show SB 691 (cI [] zs) (cI [4] rs);have fY:rs.length=4:=dj hr;obtain rfl:zs=[]:=List.eq_nil_of_length_eq_zero (dj hz);rw[Go.Fd.ra fY]at ah⊢;exact ah
theorem aJA (hg:dd wb):cK wb PO:=by
 obtain⟨G,h⟩:=Go.Fd.zk (wb:=wb) hg;have h1:Go.Fd.n2.bH Tryz.prog wb (Go.Fd.eD G 42):=h _ (Go.Fd.BZ (i:=46) rfl);refine xr (c:=PO) (s:=Go.Fd.eD G 42) h1.f λzs rs hz hr ah=>?_;have ah:Go.Fd.SB 42 (cI [4,4] zs) (cI [1] rs):=ah.1;show SB 694 (cI [4,4] zs) (cI [1] rs);have iZ:zs.length=4+4:=dj hz;obtain⟨e,he⟩:∃e,rs=[e]:=List.length_eq_one_iff.1 (dj hr);subst he;rw[Go.Fd.xK iZ]at ah⊢;exact ah
theorem aJu (hg:dd wb):cK wb II:=by
 obtain⟨G,h⟩:=Go.Fd.zk (wb:=wb) hg;have h1:Go.Fd.Ac.bH Tryz.prog wb (Go.Fd.eD G 131):=h _ (Go.Fd.BZ (i:=29) rfl);refine xr (c:=II) (s:=Go.Fd.eD G 131) h1.f λzs rs hz hr ah=>?_;have ah:Go.Fd.SB 131 (cI [32] zs) (cI [32] rs):=ah.1;show SB 750 (cI [32] zs) (cI [32] rs);have iZ:zs.length=32:=dj hz;have fY:rs.length=32:=dj hr;rw[Go.Fd.ra iZ,Go.Fd.ra fY]at ah⊢;exact ah
theorem aJE (hg:dd wb):cK wb PR:=by
 obtain⟨G,h⟩:=Go.Fd.zk (wb:=wb) hg;have h1:Go.Fd.n4.bH Tryz.prog wb (Go.Fd.eD G 56):=h _ (Go.Fd.BZ (i:=44) rfl);refine xr (c:=PR) (s:=Go.Fd.eD G 56) h1.f λzs rs hz hr ah=>?_;have ah:Go.Fd.SB 56 (cI [4,4] zs) (cI [4,1] rs):=ah.1;show SB 722 (cI [4,4] zs) (cI [4,1] rs);have iZ:zs.length=4+4:=dj hz;have fY:rs.length=4+1:=dj hr;obtain⟨e,he⟩:=Wg fY;rw[Go.Fd.xK iZ,Go.Fd.xK fY,he]at ah⊢;exact ah
theorem aJB (hg:dd wb):cK wb PQ:=by
 obtain⟨G,h⟩:=Go.Fd.zk (wb:=wb) hg;have h1:Go.Fd.n3.bH Tryz.prog wb (Go.Fd.eD G 55):=h _ (Go.Fd.BZ (i:=45) rfl);refine xr (c:=PQ) (s:=Go.Fd.eD G 55) h1.f λzs rs hz hr ah=>?_;have ah:Go.Fd.SB 55 (cI [4,4] zs) (cI [4,1] rs):=ah.1;show SB 723 (cI [4,4] zs) (cI [4,1] rs);have iZ:zs.length=4+4:=dj hz;have fY:rs.length=4+1:=dj hr;obtain⟨e,he⟩:=Wg fY;rw[Go.Fd.xK iZ,Go.Fd.xK fY,he]at ah⊢;exact ah
end
end Go.dg
namespace Go.Proofs
open Go.Shelf Go.RowKit
shelf_lay SlLaysJ.n14 Slb 14 at Tryz as Tryz.arp
open Go.bX Go.Lib
def vT:List a8:=[.int .u8 0 255]
def Eo (rows:List (List Int)):List UInt8:=rows.map λr=>UInt8.ofNat (r.getD 0 0).toNat
theorem auS {r:List Int} (h:cX vT r):∃z:Int,r=[z]/\0<=z/\z<=255/\((UInt8.ofNat z.toNat).toNat:Int)=z:=by
 match r,h with
 |[z],h=>
  have h1:0<=z/\z<=255:=h.1
  refine⟨z,rfl,h1.1,h1.2,?_⟩
  have e:(UInt8.ofNat z.toNat).toNat=z.toNat% 256:=by simp
  rw[e];omega
theorem XM (rows:List (List Int)):(Eo rows).length=rows.length:=by simp[Eo]
theorem aSo {w:World} {g o:Nat} {cells:Array Value} {t:TypeId} {fz:Nat×Nat} {rows:List (List Int)} (hg:w.heap[g]?=some (.cells cells t fz)) (h:pz cells o vT rows) (i:Nat) (x:UInt8) (hx:(Eo rows)[i]?=some x):w.cell? ((⟨g,o,none⟩:Addr).add i)=some (.int .u8 (x.toNat:Int)):=by
 unfold Eo at hx
 rw[List.getElem?_map]at hx
 cases hr:rows[i]? with
 |none=>rw[hr]at hx;cases hx
 |some r=>
  rw[hr]at hx
  simp only[Option.map_some,Option.some.injEq]at hx
  obtain⟨z,rfl,h1,h2,h3⟩:=auS (h.1 r (List.mem_of_getElem? hr))
  have hv:(eA vT [z])[0]?=some (Value.int .u8 z):=rfl
  have:=h.get hr hv
  rw[lk]
  simp only[World.cell?,hg,Option.isSome_none,Bool.false_eq_true,if_false]
  simp only[vT,List.length_cons,List.length_nil,Nat.zero_add,Nat.mul_one,Nat.add_zero]at this
  rw[this,<-hx]
  simp only[List.getD_cons_zero]
  rw[h3]
theorem atq:∀(rows:List (List Int)) (zs:List Int),(∀row∈rows,cX vT row)->(∀x∈zs,0<=x/\x<256)->bytesOf zs=Eo rows->ct vT rows=zs.map (Value.int .u8)
 |[],zs,_,_,h=>by
  have:zs.length=0:=by have:=congrArg List.length h;simpa [bytesOf,Eo]using this
  rw[List.eq_nil_of_length_eq_zero this];rfl
 |r::rows,[],_,_,h=>by simp[bytesOf,Eo]at h
 |r::rows,z::zs,hr,hz,h=>by
  obtain⟨y,rfl,h1,h2,h3⟩:=auS (hr r (by simp))
  have hz1:=hz z (by simp)
  unfold bytesOf Eo at h
  simp only[List.map_cons,List.cons.injEq,List.getD_cons_zero]at h
  have ih:=atq rows zs (λx hx=>hr x (List.mem_cons_of_mem _ hx)) (λx hx=>hz x (List.mem_cons_of_mem _ hx)) h.2
  have e:y=z:=by
   have:=congrArg (λb:UInt8=>(b.toNat:Int)) h.1
   simp at this
   omega
  subst e
  show Value.int .u8 y::ct vT rows=_
  rw[ih];rfl
theorem join_one {spec:List Int->List Int->Prop} {wb:World} {p:kP} (hc:p.c.f=71) (ha:p.c.args=[.rd vT]) (hr:p.c.res=[.rd vT]) (hp:p.c.pre=71) (hn:p.nil=true) (hs:∀z r,0<=r->r<=cP->af r=af z->spec [z] [r]) (hf:∀args w,(callFunc 71 args).run Tryz.prog w= .ok (.enter 71 args) w):
 p.bH Tryz.prog wb spec:=by
 refine⟨by rw[hc];exact hf,?_⟩
 rw[hc,ha,hr,hp]
 intro F w vs zs g hw hz rH hat hg hF hcell
 match zs,hz,vs,hat,rH,hcell with
 |[z],hz,[v],hat,rH,hcell=>
 have hat:CW F w vT (af z) v:=hat.1
 have rH:(af z).length<=1000000000:=rH
 have e:F8 p g [v].length=#[.slice (some ⟨g,0,none⟩) 1 1,.slice none 0 0]:=by unfold F8;rw[hn];rfl
 rw[e]
 have hc0:w.cell? ⟨g,0,none⟩=some v:=by simp[World.cell?,hcell]
 have empty:(∃p0 dK,v= .slice p0 0 dK)->af z=[]->Calls Tryz.prog 71 #[.slice (some ⟨g,0,none⟩) 1 1,.slice none 0 0] w λe w'=>w.Extends w'/\∃rs us,ay (c7 [c3.rd vT]) rs/\spec [z] rs/\m7 (λg=>F g∨w.heap.size<=g) (λg=>w.heap.size<=g) w' [c3.rd vT] rs us/\e= .returned (xM us):=λ⟨p0,dK,hv⟩ h0=>by
  refine Calls.mono (Any.bytes_Join_one_empty Tryz.arp g 0 1 p0 dK (.slice none 0 0) w (by rw[hc0,hv])) ?_
  rintro e w' ⟨rfl,rfl⟩
  exact⟨World.Extends.refl _,[0],[.slice none 0 0],⟨Int.le_refl _,zc,trivial⟩,hs z 0 (Int.le_refl _) zc (by rw[j2,h0]),⟨.inl ⟨rfl,j2⟩,trivial⟩,rfl⟩
 rcases hat with⟨rfl,h0⟩|⟨g1,o1,c1,cells,t,fz,rfl,⟨h2,h3⟩,h4,h5,h6⟩
 ·exact empty ⟨none,0,rfl⟩ h0
 ·rcases Nat.eq_zero_or_pos (af z).length with h0|h0
  ·exact empty ⟨some ⟨g1,o1,none⟩,c1,by rw[h0]⟩ (List.eq_nil_of_length_eq_zero h0)
  ·refine Calls.mono (Any.bytes_Join_one Tryz.arp g 0 1 ⟨g1,o1,none⟩ c1 (Eo (af z)) (.slice none 0 0) w (by rw[hc0,XM]) (λi x hx=>aSo h5 h6 i x hx) (by rw[XM];exact h0) (by rw[XM];omega)) ?_
   rintro e w' ⟨v',rfl,⟨g2,cap,zs',rfl,k1,k2,k3,k4,te,z1,Ve,_⟩,hb⟩
   have hsz:=hb.size
   rw[XM]at k2 z1⊢
   obtain⟨cells',t',acL,lF⟩:∃cells' t' acL,w'.heap[g2]?=some (.cells cells' t' acL):=by
    have h7:=Ve 0 (by omega)
    simp only[World.cell?]at h7
    cases ah:w'.heap[g2]? with
    |none=>simp[ah]at h7
    |some ob=>
     cases ob<;>simp[ah]at h7
     exact⟨_,_,_,rfl⟩
   have Fy:∀i,i<cap->cells'[i]?=some (.int .u8 (zs'.getD i 0)):=λi hi=>by
    have h7:=Ve i hi
    simpa [World.cell?,lF]using h7
   have lP:=atq (af z) (zs'.take (af z).length) h6.1 (λx hx=>te x (List.mem_of_mem_take hx)) z1
   refine⟨acv (World.Extends.refl w) hb.os hb.tape hb.output hb.size hb.block,[z],[_],hz,hs z z hz.1 hz.2.1 rfl,⟨.inr ⟨g2,0,cap,cells',t',acL,rfl,⟨k2,by simp only[maxLen]at k3;omega⟩,.inr k1,lF,h6.1,[],cells'.toList.drop (af z).length,?_,rfl⟩,trivial⟩,rfl⟩
   have aFL:cells'.toList.take (af z).length=ct vT (af z):=by
    rw[lP]
    apply List.ext_getElem?
    intro i
    rw[List.getElem?_take,List.getElem?_map,List.getElem?_take]
    split
    ·rename_i hi
     have:=Fy i (by omega)
     rw[Array.getElem?_toList,this,List.getD_eq_getElem?_getD]
     have hlt:i<zs'.length:=by omega
     rw[List.getElem?_eq_getElem hlt];rfl
    ·rfl
   show cells'.toList=[]++ct vT (af z)++_
   rw[List.nil_append,<-aFL,List.take_append_drop]
end Go.Proofs
namespace Go.Proofs.YtacpildnjohidaaGreatDoor
open Go Go.bX Go.dg Go.ChangeShapes Go.RowKit
theorem own:ownKnob Tryz.prog.godebug=none:=by kernel_rfl
theorem aIg:laidOutB Tryz.prog=true:=by kernel_rfl
def laid:List (String×pX Unit):=[("vouchsafe/field.One",Rows.laid_vouchsafe_field_One),("vouchsafe/curve.once",Rows.laid_vouchsafe_curve_once),("vouchsafe/scalar.order",Rows.laid_vouchsafe_scalar_order),("vouchsafe/scalar.tail",Rows.laid_vouchsafe_scalar_tail),("vouchsafe/vouchsaferef07.roots",Rows.laid_vouchsafe_vouchsaferef07_roots),("vouchsafe/vouchsaferef07.begins",Rows.laid_vouchsafe_vouchsaferef07_begins),("vouchsafe/sha.roots",Rows.laid_vouchsafe_sha_roots),("vouchsafe/sha.begins",Rows.laid_vouchsafe_sha_begins)]
theorem aon:Tryz.prog.globalNamed "vouchsafe/field.One" =some 5:=by kernel_rfl
theorem aRA:(Tryz.prog.globals[5]?).map (·.type)=some 54:=by kernel_rfl
theorem aSp:Tryz.prog.underlying 54=some (.array 5 45):=by kernel_rfl
theorem aA4:Tryz.prog.underlying 45=some (.int .u64):=by kernel_rfl
theorem aAe:Tryz.prog.cellsOf 45=1:=by kernel_rfl
theorem az1:Tryz.prog.cellsOf 54=5:=by kernel_rfl
theorem aHQ:(Rows.laid_vouchsafe_field_One:pX Unit)= .agg (agu.map λz=> .lit (.int .u64 z)):=by kernel_rfl
theorem aoo:Tryz.prog.globalNamed "vouchsafe/curve.once" =some 6:=by kernel_rfl
theorem aRB:(Tryz.prog.globals[6]?).map (·.type)=some 54:=by kernel_rfl
theorem aSq:Tryz.prog.underlying 54=some (.array 5 45):=by kernel_rfl
theorem aA5:Tryz.prog.underlying 45=some (.int .u64):=by kernel_rfl
theorem aAf:Tryz.prog.cellsOf 45=1:=by kernel_rfl
theorem az2:Tryz.prog.cellsOf 54=5:=by kernel_rfl
theorem aHR:(Rows.laid_vouchsafe_curve_once:pX Unit)= .agg (agt.map λz=> .lit (.int .u64 z)):=by kernel_rfl
theorem aop:Tryz.prog.globalNamed "vouchsafe/scalar.order" =some 0:=by kernel_rfl
theorem aRC:(Tryz.prog.globals[0]?).map (·.type)=some 47:=by kernel_rfl
theorem aSr:Tryz.prog.underlying 47=some (.array 4 45):=by kernel_rfl
theorem aA6:Tryz.prog.underlying 45=some (.int .u64):=by kernel_rfl
theorem aAg:Tryz.prog.cellsOf 45=1:=by kernel_rfl
theorem az3:Tryz.prog.cellsOf 47=4:=by kernel_rfl
theorem aHS:(Rows.laid_vouchsafe_scalar_order:pX Unit)= .agg (agA.map λz=> .lit (.int .u64 z)):=by kernel_rfl
theorem aoq:Tryz.prog.globalNamed "vouchsafe/scalar.tail" =some 7:=by kernel_rfl
theorem aRD:(Tryz.prog.globals[7]?).map (·.type)=some 148:=by kernel_rfl
theorem aSs:Tryz.prog.underlying 148=some (.array 2 45):=by kernel_rfl
theorem aA7:Tryz.prog.underlying 45=some (.int .u64):=by kernel_rfl
theorem aAh:Tryz.prog.cellsOf 45=1:=by kernel_rfl
theorem az4:Tryz.prog.cellsOf 148=2:=by kernel_rfl
theorem aHT:(Rows.laid_vouchsafe_scalar_tail:pX Unit)= .agg (ah5.map λz=> .lit (.int .u64 z)):=by kernel_rfl
theorem aor:Tryz.prog.globalNamed "vouchsafe/vouchsaferef07.roots" =some 4:=by kernel_rfl
theorem aRE:(Tryz.prog.globals[4]?).map (·.type)=some 93:=by kernel_rfl
theorem aSt:Tryz.prog.underlying 93=some (.array 80 45):=by kernel_rfl
theorem aA8:Tryz.prog.underlying 45=some (.int .u64):=by kernel_rfl
theorem aAi:Tryz.prog.cellsOf 45=1:=by kernel_rfl
theorem az5:Tryz.prog.cellsOf 93=80:=by kernel_rfl
theorem aHU:(Rows.laid_vouchsafe_vouchsaferef07_roots:pX Unit)= .agg (uF.map λz=> .lit (.int .u64 z)):=by kernel_rfl
theorem aos:Tryz.prog.globalNamed "vouchsafe/vouchsaferef07.begins" =some 3:=by kernel_rfl
theorem aRF:(Tryz.prog.globals[3]?).map (·.type)=some 82:=by kernel_rfl
theorem aSu:Tryz.prog.underlying 82=some (.array 8 45):=by kernel_rfl
theorem aA9:Tryz.prog.underlying 45=some (.int .u64):=by kernel_rfl
theorem aAj:Tryz.prog.cellsOf 45=1:=by kernel_rfl
theorem az6:Tryz.prog.cellsOf 82=8:=by kernel_rfl
theorem aHV:(Rows.laid_vouchsafe_vouchsaferef07_begins:pX Unit)= .agg (Hv.map λz=> .lit (.int .u64 z)):=by kernel_rfl
theorem aot:Tryz.prog.globalNamed "vouchsafe/sha.roots" =some 1:=by kernel_rfl
theorem aRG:(Tryz.prog.globals[1]?).map (·.type)=some 93:=by kernel_rfl
theorem aSv:Tryz.prog.underlying 93=some (.array 80 45):=by kernel_rfl
theorem aBa:Tryz.prog.underlying 45=some (.int .u64):=by kernel_rfl
theorem aAk:Tryz.prog.cellsOf 45=1:=by kernel_rfl
theorem az7:Tryz.prog.cellsOf 93=80:=by kernel_rfl
theorem aHW:(Rows.laid_vouchsafe_sha_roots:pX Unit)= .agg (uF.map λz=> .lit (.int .u64 z)):=by kernel_rfl
theorem aou:Tryz.prog.globalNamed "vouchsafe/sha.begins" =some 2:=by kernel_rfl
theorem aRH:(Tryz.prog.globals[2]?).map (·.type)=some 82:=by kernel_rfl
theorem aSw:Tryz.prog.underlying 82=some (.array 8 45):=by kernel_rfl
theorem aBb:Tryz.prog.underlying 45=some (.int .u64):=by kernel_rfl
theorem aAl:Tryz.prog.cellsOf 45=1:=by kernel_rfl
theorem az8:Tryz.prog.cellsOf 82=8:=by kernel_rfl
theorem aHX:(Rows.laid_vouchsafe_sha_begins:pX Unit)= .agg (Hv.map λz=> .lit (.int .u64 z)):=by kernel_rfl
theorem aoE {W:aC} (h:laidMetH Tryz.prog laid W):fJ cE ⟨W,W,λ_=>False,λ_=>False,[]⟩:=by
 rw[aYN _ _ _ (by kernel_rfl)]at h;obtain⟨lx,⟨a0,dM,aXJ,f0,p0,eu,O0,aeh,qR,apk,⟨bR,b4,aXK,f1,bw,aQ,Dm,aFF,ui,FB,⟨a2,cg,aXL,f2,bz,bn,Dn,Pq,np,ub,⟨a3,dh,aXM,f3,cY,cj,H7,aFG,aFW,OS,⟨a4,ox,aXN,f4,fa,dU,O1,aFH,aFX,OT,⟨a5,nM,aXO,f5,fv,jv,H8,aei,aFY,apl,⟨rp,rq,aXP,f6,hB,lK,aEJ,aFI,aFZ,apm,⟨sk,so,aXQ,f7,lJ,nz,aEK,aFJ,aF0,apn,_,_⟩,_⟩,_⟩,_⟩,_⟩,_⟩,_⟩,_⟩,_,_⟩:=h;obtain rfl:=iI (aon.symm.trans O0);obtain rfl:=iI (aRA.symm.trans aeh);rw[aHQ]at apk;have dp:=Fp (zs:=agu) aon aSp aA4 aAe az1 qR apk;obtain rfl:=iI (aoo.symm.trans Dm);obtain rfl:=iI (aRB.symm.trans aFF);rw[aHR]at FB;have ak:=Fp (zs:=agt) aoo aSq aA5 aAf az2 ui FB;obtain rfl:=iI (aop.symm.trans Dn);obtain rfl:=iI (aRC.symm.trans Pq);rw[aHS]at ub;have ai:=Fp (zs:=agA) aop aSr aA6 aAg az3 np ub;obtain rfl:=iI (aoq.symm.trans H7);obtain rfl:=iI (aRD.symm.trans aFG);rw[aHT]at OS;have aw:=Fp (zs:=ah5) aoq aSs aA7 aAh az4 aFW OS;obtain rfl:=iI (aor.symm.trans O1);obtain rfl:=iI (aRE.symm.trans aFH);rw[aHU]at OT;have dk:=Fp (zs:=uF) aor aSt aA8 aAi az5 aFX OT;obtain rfl:=iI (aos.symm.trans H8);obtain rfl:=iI (aRF.symm.trans aei);rw[aHV]at apl;have jz:=Fp (zs:=Hv) aos aSu aA9 aAj az6 aFY apl;obtain rfl:=iI (aot.symm.trans aEJ);obtain rfl:=iI (aRG.symm.trans aFI);rw[aHW]at apm;have jR:=Fp (zs:=uF) aot aSv aBa aAk az7 aFZ apm;obtain rfl:=iI (aou.symm.trans aEK);obtain rfl:=iI (aRH.symm.trans aFJ);rw[aHX]at apn;have lW:=Fp (zs:=Hv) aou aSw aBb aAl az8 aF0 apn;intro g cs hm;simp only[cE,List.mem_cons,fi,List.not_mem_nil,or_false]at hm;rcases hm with⟨rfl,rfl⟩|⟨rfl,rfl⟩|⟨rfl,rfl⟩|⟨rfl,rfl⟩|⟨rfl,rfl⟩|⟨rfl,rfl⟩|⟨rfl,rfl⟩|⟨rfl,rfl⟩
 ·rw[lz];exact ai
 ·rw[lz];exact jR
 ·rw[lz];exact lW
 ·rw[lz];exact jz
 ·rw[lz];exact dk
 ·rw[lz];exact dp
 ·rw[lz];exact ak
 ·rw[lz];exact aw
theorem aHY:(laid.filter λx=>x.2.handleName?.isNone)=laid:=by kernel_rfl
theorem aAS (os:Os) (args:Array bf):laidMetH Tryz.prog laid ((World.laidAll Tryz.prog os laid).forCall (λ_ _=>0) ⟨#[],args,[]⟩).memory:=
 laidMetH_of_parts3 (fuel:=8) (by rw[aHY];exact laidMet_laidAll args (by kernel_rfl) (by kernel_rfl)) (by kernel_rfl) (by kernel_rfl)
theorem aSk:Nc Tryz.prog 9 (.d (.str)):=Tryz.underlying9
theorem aSj:Nc Tryz.prog 23 (.rd [.int .u8 0 255]):=⟨5,Tryz.underlying23,by kernel_rfl,by kernel_rfl,by decide⟩
theorem aSi:Nc Tryz.prog 22 (.d (.agg .u8 32 0 255)):=⟨5,Tryz.underlying22,by kernel_rfl,by kernel_rfl⟩
theorem aLA {id:Nat} (hid:id=758) (a:List (List Int)) (z:Int) (h:SB id a [[z]]):z=1:=by
 subst hid
 all_goals
  match a,h with
  |[],h=>first|exact h|exact h.elim
  |[_],h=>first|exact h|exact h.elim
  |[_,_],h=>first|exact h|exact h.elim
  |[_,_,_],h=>first|exact h|exact h.elim
  |_::_::_::_::_,h=>exact h.elim
structure fr (W:aC):Prop where
 acg:e7 W IM
 TV:e7 W DD
 TW:e7 W DE
 ach:e7 W IN
 abY:e7 W IK
 abZ:e7 W IL
 abQ:e7 W IH
theorem zk {W:aC} (h:W.ShapedOpen Tryz.prog) (eF:laidMetH Tryz.prog laid W):fr W:=by
 have hg:=aoE eF;have at3:=aLk hg;have aCh:=aJS hg;have aCk:=aJU hg;have aCm:=aJW hg;have aCo:=aJY hg;have aRa:=aLl hg at3;have aQ0:oS W QL:=join_one (p:=QL) rfl rfl rfl rfl rfl (λz r h0 h1 h=>h) (enters (by kernel_rfl));have aCz:=aJ0 hg;have aAv:=aJl hg;have ayK:=aJf hg aCz aCh aCk aCm aCo aAv;have aRw:=aLq hg aRa aQ0 ayK;have aCi:=aJT hg;have aCl:=aJV hg;have aCn:=aJX hg;have aCp:=aJZ hg;have ahL:=aLm hg at3;have aQ1:oS W QM:=join_one (p:=QM) rfl rfl rfl rfl rfl (λz r h0 h1 h=>h) (enters (by kernel_rfl));have aQ2:=aLh hg;have aQ3:=aLi hg;have aCA:=aJ1 hg;have aAw:=aJm hg;have aaP:=aJg hg aCA aCi aCl aCn aCp aAw;have aui:=aLr hg ahL aQ1 aaP;have aRx:=aLs hg ahL aQ2 aaP;have aRy:=aLt hg ahL aQ3 aaP;have aVx:cK W Qs:=aLz hg;have auY:cK W IS:=aLw hg;have aVw:cK W Qr:=aLy hg;have aRg:cK W Qq:=aLp hg;have aua:cK W DT:=aLo hg;have aQ9:cK W Qp:=aLj hg;have atU:cK W IP:=aLg hg;have aI5:=aJ9 hg aua aRx;have asv:=aKa hg aua aRy;have TV:=aJK hg atU auY aui;have TW:=aJM hg atU auY aQ9 aui aI5 asv;have aBe:=aJO hg aRg aVx aVw asv;have acg:=aJJ hg TV TW aBe;have am5:cK W IJ:=aJv hg;have aAN:cK W PN:=aJy hg;have aAO:cK W PO:=aJA hg;have aAT:cK W PR:=aJE hg;have aAP:cK W PQ:=aJB hg;have atr:=aKI hg;have xw:=aKm hg;have aPY:=aKP hg xw;have aP4:=aKX hg xw;have aP5:=aKZ hg xw;have aP6:=aK0 hg xw;have aPV:=aKQ hg xw;have aPW:=aKR hg xw;have aPX:=aKS hg xw;have aPZ:=aKT hg xw;have aP0:=aKU hg xw;have aP1:=aKV hg xw;have aP2:=aKW hg xw;have aP3:=aKY hg xw;have aPy:=aKx hg aPZ aP0 aP1;have aPz:=aKy hg aPV aPW aP2;have aPA:=aKz hg aPY aP6 aP5;have aPB:=aKA hg aPX aP3 aP4;have aPU:=aKO hg aPy aPz aPA aPB atr xw;have as1:=aKe hg aPU;have anr:=aJI hg aAT aAO aAP aAN;have anp:=aJz hg anr;have aAU:=aJG hg am5 anp;have aPG:=aKF hg as1 aAU;have sO:=aKl hg;have aQf:=aK8 hg sO;have aQg:=aLb hg sO;have aQh:=aLc hg sO;have aQi:=aLd hg sO;have aP7:=aK2 hg sO;have aP8:=aK3 hg sO;have aP9:=aK4 hg sO;have aQa:=aK5 hg sO;have aQb:=aK6 hg sO;have aQc:=aK7 hg sO;have aQd:=aK9 hg sO;have aQe:=aLa hg sO;have aPC:=aKB hg aQf aP9 aQd sO;have aPD:=aKC hg aQh aP8 aQe sO;have aPE:=aKD hg aQi aQb aQg sO;have aPF:=aKE hg aQa aQc aP7 sO;have aPT:=aKN hg aPC aPD aPE aPF atr sO;have aPl:=aKd hg aPT;have am4:cK W II:=aJu hg;have aAF:=aJw hg;have ang:=aJx hg as1 aAF;have abY:=aJF hg am4 ang;have aAR:=aJC hg am5 anp anr;have abZ:=aJH hg am4 ang aPG aAR;have ach:=aJL hg aRw;have abQ:=aJt hg aPl;exact⟨acg,TV,TW,ach,abY,abZ,abQ⟩
end Go.Proofs.YtacpildnjohidaaGreatDoor
