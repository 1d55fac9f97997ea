/- Pag: a part of the proof of statements of this seat. -/
import Derived.Test.YtponpidccjmlnaaGreatDoorPae
import Derived.Test.YtponpidccjmlnaaGreatDoorChunk
import Derived.Test.YtponpidccjmlnaaGreatDoorPac
import Derived.KernelRfl
import Derived.Shelf.Lay
import Derived.Shelf.LaySoft
import Derived.Shelf.Strings.Search1
import Derived.Shelf.Strings.Search3
import Derived.Shelf.Small.Strs
import Derived.Test.YtponpidccjmlnaaGreatDoorProg
import Derived.BigCall
import Derived.Shelf.Strings.Builder1
import Derived.Lib.IndexMore
import Derived.Test.YtponpidccjmlnaaGreatDoorPad
import Derived.WalkKit
import Derived.WideMake
import Derived.Laws.ResultCell
import Derived.Laws.Rows
import Derived.Lib.IndexAny
import Derived.OwnWalk
import Derived.Deep.RegionLaw
import Derived.Laws.CopyOwn
import Derived.Lib.Builder
import Derived.Lib.Overlaps
import Derived.Lib.AppendZerosOnto
import Derived.Shelf.Bytes.SlJoin
import Derived.RangeFuncOwn
import Derived.Shelf.Vars
import Derived.Test.YtponpidccjmlnaaGreatDoorRows
import Derived.Test.YtponpidccjmlnaaGreatDoorTie
import Derived.Test.YtponpidccjmlnaaGreatDoorCards
import Derived.SevenTiedAt
import Derived.Lay
open Bool renaming and_eq_true->aS
open Classical renaming choose_spec->S3,choose->acv
open Eq renaming trans->cj,symm->ct
open Go renaming World->ar,Value->aF,FuncId->cw,DataW->oc
open Go.MakeChecks renaming laidMetH_plain->aDc
open Go.World.Extends renaming refl->oi
open Int renaming le_trans->oe
open List renaming mem_cons_of_mem->dn,append_nil->h9,map_map->k7,mem_cons_self->Ef
open List.cons renaming injEq->hX
open Nat renaming beq->aG
open Option.some renaming inj->hZ
open Prod.mk renaming injEq->cA
set_option linter.unusedVariables false
set_option maxRecDepth 100000
namespace Go.cu
open Go Go.bo Go.Proofs
abbrev bb (wb:ar) (k:bu):Prop:=k.dh Tryz.prog wb (b6 sh SB k.id)
abbrev wF (wb:ar) (q:kB):Prop:=q.eY Tryz.prog wb (b6 sh SB q.c.id)
abbrev fw (wb:ar) (k:dJ):Prop:=k.eY Tryz.prog wb (b6 sh SB k.id)
abbrev Vm (wb:ar) (k:lQ):Prop:=k.eY Tryz.prog wb (b6 sh SB k.id)
abbrev Bk (wb:ar) (k:jf):Prop:=k.eY Tryz.prog wb (b6 sh SB k.c.id)
abbrev Ie (wb:ar) (k:lR):Prop:=k.eY Tryz.prog wb (b6 sh SB k.c.id)
theorem dR:Tryz.prog.follows .mixedOrders=true:=by kernel_rfl
theorem aD {α:Type} {p:α->Prop}:∀x∈([]:List α),p x:=λ_ h=>by cases h
theorem aT {α:Type} {p:α->Prop} {a:α} {l:List α} (h:p a) (hl:∀x∈l,p x):∀x∈a::l,p x:=λx hx=>by
 rcases List.mem_cons.1 hx with rfl|hx
 ·exact h
 ·exact hl x hx
abbrev cG (wb:ar):Prop:=fg bS ⟨wb,wb,λ_=>False,λ_=>False,[]⟩
theorem fV {a b:Int} (h:[[a]]=[[b]]):a=b:=by simpa using h
section
variable {wb:ar} {oY:Nat->List (List Int)->List (List Int)->Prop} {cal:eI} {li:cw->Nat->Option c7} {n d:Nat} {lsh:Nat->List Nat} {lens:List Nat} {B:(Nat->List (List Int)->List (List Int)->Prop)->(List (List Int)->List (List Int)->Prop)->Prop}
theorem dQ {c:bu} (cQ:∀r ex ro,fS (b6 sh oY) Tryz.prog bS ⟨wb,r,ex,ro,[]⟩ cal) (hg:cG wb) (hf:tA Tryz.prog c.f=true) (hu:c8 c.args c.res (b6 sh oY c.id)) (hl:lens=(sh c.id).1) (hd:tX c.res=(sh c.id).2)
 (e:∀S K,te sh lsh S K lens (dC c.args) c.res (c.tree Tryz.prog bS cal li n d)=B S K) (hp:B oY (aY oY c.res c.id)):c.dh Tryz.prog wb (b6 sh oY c.id):=
 bu.eY.f (ara dR cQ hg hf hu hl hd (by rw[e];exact hp))
theorem ZY {q:kB} (cQ:∀r ex ro,fS (b6 sh oY) Tryz.prog bS ⟨wb,r,ex,ro,[]⟩ cal) (hg:cG wb) (hf:tA Tryz.prog q.c.f=true) (hu:c8 q.c.args q.c.res (b6 sh oY q.c.id)) (hl:lens=(sh q.c.id).1) (hd:tX q.c.res=(sh q.c.id).2)
 (e:∀S K,te sh lsh S K lens (dC q.c.args) q.c.res (q.tree Tryz.prog bS cal li n d)=B S K) (hp:B oY (aY oY q.c.res q.c.id)):q.eY Tryz.prog wb (b6 sh oY q.c.id):=
 atr dR cQ hg hf hu hl hd (by rw[e];exact hp)
theorem mg {c:dJ} {bc:kz} (cQ:∀r ex ro,fS (b6 sh oY) Tryz.prog bS ⟨wb,r,ex,ro,[]⟩ cal) (hg:cG wb) (jw:∀(L:V->Env->Prop) (r:ar) (ro:Nat->Prop),pD (b6 sh oY) L ⟨wb,r,λ_=>False,ro,[]⟩ Tryz.prog bc) (hf:tA Tryz.prog c.f=true) (hl:lens=(sh c.id).1) (hd:vN c.res=(sh c.id).2)
 (e:∀S K,ix sh lsh S K lens (cR c.args) c.res (c.tree bc Tryz.prog bS cal li n d)=B S K) (hp:B oY (dq oY c.res c.id)):c.eY Tryz.prog wb (b6 sh oY c.id):=
 afb dR cQ hg jw hf hl hd (by rw[e];exact hp)
end
theorem X3:Mh Tryz.prog 147:=⟨enters (by kernel_rfl),Tryz.afN⟩
theorem aug {a0 b0:Int} (h0:a0=b0):fb [.int .i64 (-1) 9223372036854775807] [a0]=fb [.int .i64 (-1) 9223372036854775807] [b0]:=by
 show(.int .i64 a0:aF)=(.int .i64 b0:aF)
 rw[h0]
theorem rG {a0 b0:Int} (h0:U a0=U b0):fb [.str] [a0]=fb [.str] [b0]:=by
 show(.string (bw (U a0)):aF)=(.string (bw (U b0)):aF)
 rw[h0]
theorem jU {a0 b0:Int} (h0:a0=b0):fb [.bool] [a0]=fb [.bool] [b0]:=by
 show(.bool (decide (a0=1)):aF)=(.bool (decide (b0=1)):aF)
 rw[h0]
theorem K4 {a0 a1 a2 b0 b1 b2:Int} (h0:U a0=U b0) (h1:U a1=U b1) (h2:a2=b2):fb [.str,.str,.bool] [a0,a1,a2]=fb [.str,.str,.bool] [b0,b1,b2]:=by
 show(.tuple #[.string (bw (U a0)),.string (bw (U a1)),.bool (decide (a2=1))]:aF)=(.tuple #[.string (bw (U b0)),.string (bw (U b1)),.bool (decide (b2=1))]:aF)
 rw[h0,h1,h2]
theorem abn {a0 a1 a2 b0 b1 b2:Int} (h0:U a0=U b0) (h1:a1=b1) (h2:a2=b2):fb [.str,.bool,.bool] [a0,a1,a2]=fb [.str,.bool,.bool] [b0,b1,b2]:=by
 show(.tuple #[.string (bw (U a0)),.bool (decide (a1=1)),.bool (decide (a2=1))]:aF)=(.tuple #[.string (bw (U b0)),.bool (decide (b1=1)),.bool (decide (b2=1))]:aF)
 rw[h0,h1,h2]
theorem K5 {a0 a1 b0 b1:Int} (h0:U a0=U b0) (h1:a1=b1):fb [.str,.int .i64 0 21] [a0,a1]=fb [.str,.int .i64 0 21] [b0,b1]:=by
 show(.tuple #[.string (bw (U a0)),.int .i64 a1]:aF)=(.tuple #[.string (bw (U b0)),.int .i64 b1]:aF)
 rw[h0,h1]
theorem abo {a0 a1 a2 b0 b1 b2:Int} (h0:U a0=U b0) (h1:U a1=U b1) (h2:a2=b2):fb [.mix [.str,.str],.int .i64 0 21] [a0,a1,a2]=fb [.mix [.str,.str],.int .i64 0 21] [b0,b1,b2]:=by
 show(.tuple #[.agg #[.string (bw (U a0)),.string (bw (U a1))],.int .i64 a2]:aF)=(.tuple #[.agg #[.string (bw (U b0)),.string (bw (U b1))],.int .i64 b2]:aF)
 rw[h0,h1,h2]
theorem aui {a0 a1 a2 a3 a4 a5 wJ b0 b1 b2 b3 b4 nK EG:Int} (h0:U a0=U b0) (h1:U a1=U b1) (h2:U a2=U b2) (h3:U a3=U b3) (h4:U a4=U b4) (h5:U a5=U nK) (h6:U wJ=U EG):fb [.mix [.str,.str,.str,.str,.str,.str,.str]] [a0,a1,a2,a3,a4,a5,wJ]=fb [.mix [.str,.str,.str,.str,.str,.str,.str]] [b0,b1,b2,b3,b4,nK,EG]:=by
 show(.agg #[.string (bw (U a0)),.string (bw (U a1)),.string (bw (U a2)),.string (bw (U a3)),.string (bw (U a4)),.string (bw (U a5)),.string (bw (U wJ))]:aF)=(.agg #[.string (bw (U b0)),.string (bw (U b1)),.string (bw (U b2)),.string (bw (U b3)),.string (bw (U b4)),.string (bw (U nK)),.string (bw (U EG))]:aF)
 rw[h0,h1,h2,h3,h4,h5,h6]
theorem auh {a0 b0:Int} (h0:a0=b0):fb [.int .i64 (-9223372036854775808) 9223372036854775807] [a0]=fb [.int .i64 (-9223372036854775808) 9223372036854775807] [b0]:=by
 show(.int .i64 a0:aF)=(.int .i64 b0:aF)
 rw[h0]
theorem Hf {a0 b0:Int} (h0:a0=b0):fb [.int .u32 0 4294967295] [a0]=fb [.int .u32 0 4294967295] [b0]:=by
 show(.int .u32 a0:aF)=(.int .u32 b0:aF)
 rw[h0]
theorem Hg {a0 b0:Int} (h0:a0=b0):fb [.int .u64 0 18446744073709551615] [a0]=fb [.int .u64 0 18446744073709551615] [b0]:=by
 show(.int .u64 a0:aF)=(.int .u64 b0:aF)
 rw[h0]
theorem Sr {A R:List D} {spec:List Int->List Int->Prop} (hl:(dC A).length=2) (hr:(dC R).length=1) (hv:∀a b:Int,U a=U b->fb R [a]=fb R [b]) (h:∀z0 ag a b:Int,spec [z0,ag] [a]->spec [z0,ag] [b]->U a=U b):c8 A R spec:=λzs rs ey hz h1 h2 h3 h4=>by
 match zs,rs,ey,(gS hz).trans hl,(gS h1).trans hr,(gS h2).trans hr,h3,h4 with
 |[z0,ag],[a],[b],_,_,_,h3,h4=>exact hv a b (h z0 ag a b h3 h4)
theorem wh {A R:List D} {spec:List Int->List Int->Prop} (hl:(dC A).length=1) (hr:(dC R).length=1) (hv:∀a b:Int,U a=U b->fb R [a]=fb R [b]) (h:∀z0 a b:Int,spec [z0] [a]->spec [z0] [b]->U a=U b):c8 A R spec:=λzs rs ey hz h1 h2 h3 h4=>by
 match zs,rs,ey,(gS hz).trans hl,(gS h1).trans hr,(gS h2).trans hr,h3,h4 with
 |[z0],[a],[b],_,_,_,h3,h4=>exact hv a b (h z0 a b h3 h4)
theorem iI {A R:List D} {spec:List Int->List Int->Prop} (hl:(dC A).length=1) (hr:(dC R).length=1) (hv:∀a b:Int,a=b->fb R [a]=fb R [b]) (h:∀z0 a b:Int,spec [z0] [a]->spec [z0] [b]->a=b):c8 A R spec:=λzs rs ey hz h1 h2 h3 h4=>by
 match zs,rs,ey,(gS hz).trans hl,(gS h1).trans hr,(gS h2).trans hr,h3,h4 with
 |[z0],[a],[b],_,_,_,h3,h4=>exact hv a b (h z0 a b h3 h4)
theorem DN {A R:List D} {spec:List Int->List Int->Prop} (hl:(dC A).length=2) (hr:(dC R).length=1) (hv:∀a b:Int,a=b->fb R [a]=fb R [b]) (h:∀z0 ag a b:Int,spec [z0,ag] [a]->spec [z0,ag] [b]->a=b):c8 A R spec:=λzs rs ey hz h1 h2 h3 h4=>by
 match zs,rs,ey,(gS hz).trans hl,(gS h1).trans hr,(gS h2).trans hr,h3,h4 with
 |[z0,ag],[a],[b],_,_,_,h3,h4=>exact hv a b (h z0 ag a b h3 h4)
theorem acb {A R:List D} {spec:List Int->List Int->Prop} (hl:(dC A).length=7) (hr:(dC R).length=1) (hv:∀a b:Int,a=b->fb R [a]=fb R [b]) (h:∀z0 ag z2 z3 z4 z5 z6 a b:Int,spec [z0,ag,z2,z3,z4,z5,z6] [a]->spec [z0,ag,z2,z3,z4,z5,z6] [b]->a=b):c8 A R spec:=λzs rs ey hz h1 h2 h3 h4=>by
 match zs,rs,ey,(gS hz).trans hl,(gS h1).trans hr,(gS h2).trans hr,h3,h4 with
 |[z0,ag,z2,z3,z4,z5,z6],[a],[b],_,_,_,h3,h4=>exact hv a b (h z0 ag z2 z3 z4 z5 z6 a b h3 h4)
theorem axX:c8 xF.args xF.res (b6 sh SB 36):=Sr rfl rfl (λ_ _=>rG) λ_ _ _ _ h h'=>cj h (ct h')
theorem aq3 {wb:ar} (hg:cG wb):bb wb xF:=dQ (λ_ _ _=>bZ aD aD) hg (by kernel_rfl) axX rfl rfl awW asW
theorem axZ:c8 xG.args xG.res (b6 sh SB 37):=Sr rfl rfl (λ_ _=>rG) λ_ _ _ _ h h'=>cj h (ct h')
theorem aq5 {wb:ar} (hg:cG wb):bb wb xG:=dQ (λ_ _ _=>bZ aD aD) hg (by kernel_rfl) axZ rfl rfl awY asY
theorem ax1:c8 C2.args C2.res (b6 sh SB 120):=wh rfl rfl (λ_ _=>rG) λ_ _ _ h h'=>cj h (ct h')
theorem aq7 {wb:ar} (hg:cG wb) (OM:bb wb xF) (ON:bb wb xG):bb wb C2:=dQ (λ_ _ _=>bZ aD (aT OM (aT ON aD))) hg (by kernel_rfl) ax1 rfl rfl aw0 as0
theorem axV:c8 CY.args CY.res (b6 sh SB 121):=wh rfl rfl (λ_ _=>rG) λ_ _ _ h h'=>cj h (ct h')
theorem aq1 {wb:ar} (hg:cG wb) (OM:bb wb xF) (ON:bb wb xG):bb wb CY:=dQ (λ_ _ _=>bZ aD (aT OM (aT ON aD))) hg (by kernel_rfl) axV rfl rfl awU asU
theorem aw6:c8 Cu.args Cu.res (b6 sh SB 127):=iI rfl rfl (λ_ _=>jU) λ_ _ _ h h'=>by first|exact cj h (ct h')|exact fV (cj h (ct h'))
theorem apJ {wb:ar} (hg:cG wb) (qt:bb wb oH):bb wb Cu:=dQ (λ_ _ _=>bZ aD (aT qt aD)) hg (by kernel_rfl) aw6 rfl rfl avH arG
theorem axU:c8 CX.args CX.res (b6 sh SB 122):=wh rfl rfl (λ_ _=>rG) λ_ _ _ h h'=>cj h (ct h')
theorem aq0 {wb:ar} (hg:cG wb):bb wb CX:=dQ (λ_ _ _=>bZ aD aD) hg (by kernel_rfl) axU rfl rfl awT asT
theorem aw9:c8 Cw.args Cw.res (b6 sh SB 125):=by
 intro zs rs ey hz hr iE h h'
 match zs,rs,ey,hz,hr,iE,h,h' with
 |[z0],[a0,a1,a2],[b0,b1,b2],_,_,_,h,h'=>
  have e:(U a0,U a1,a2)=(U b0,U b1,b2):=cj h (ct h')
  simp only[cA]at e
  exact K4 e.1 e.2.1 e.2.2
theorem apQ {wb:ar} (hg:cG wb) (qt:bb wb oH):bb wb Cw:=dQ (λ_ _ _=>bZ aD (aT qt aD)) hg (by kernel_rfl) aw9 rfl rfl avM arL
theorem axa:c8 tP.args tP.res (b6 sh SB 126):=by
 intro zs rs ey hz hr iE h h'
 match zs,rs,ey,hz,hr,iE,h,h' with
 |[z0],[a0,a1,a2],[b0,b1,b2],_,_,_,h,h'=>
  have e:(U a0,U a1,a2)=(U b0,U b1,b2):=cj h (ct h')
  simp only[cA]at e
  exact K4 e.1 e.2.1 e.2.2
theorem apR {wb:ar} (hg:cG wb) (qt:bb wb oH):bb wb tP:=dQ (λ_ _ _=>bZ aD (aT qt aD)) hg (by kernel_rfl) axa rfl rfl avN arM
theorem axt:c8 CF.args CF.res (b6 sh SB 44):=DN rfl rfl (λ_ _=>jU) λ_ _ _ _ h h'=>by first|exact cj h (ct h')|exact fV (cj h (ct h'))
theorem aqe {wb:ar} (hg:cG wb) (qt:bb wb oH):bb wb CF:=dQ (λ_ _ _=>bZ aD (aT qt aD)) hg (by kernel_rfl) axt rfl rfl av8 ar7
theorem axp:c8 rz.args rz.res (b6 sh SB 65):=DN rfl rfl (λ_ _=>jU) λ_ _ _ _ h h'=>by first|exact cj h (ct h')|exact fV (cj h (ct h'))
theorem ap8 {wb:ar} (hg:cG wb) (qt:bb wb oH):bb wb rz:=dQ (λ_ _ _=>bZ aD (aT qt aD)) hg (by kernel_rfl) axp rfl rfl av2 ar1
theorem axr:c8 CB.args CB.res (b6 sh SB 28):=wh rfl rfl (λ_ _=>rG) λ_ _ _ h h'=>cj h (ct h')
theorem aqa {wb:ar} (hg:cG wb):bb wb CB:=dQ (λ_ _ _=>bZ aD aD) hg (by kernel_rfl) axr rfl rfl av4 ar3
theorem axI:c8 CR.args CR.res (b6 sh SB 17):=wh rfl rfl (λ_ _=>rG) λ_ _ _ h h'=>cj h (ct h')
theorem aqK {wb:ar} (hg:cG wb):bb wb CR:=dQ (λ_ _ _=>bZ aD aD) hg (by kernel_rfl) axI rfl rfl awD asD
theorem axE:c8 CO.args CO.res (b6 sh SB 31):=DN rfl rfl (λ_ _=>jU) λ_ _ _ _ h h'=>by first|exact cj h (ct h')|exact fV (cj h (ct h'))
theorem aqG {wb:ar} (hg:cG wb):bb wb CO:=dQ (λ_ _ _=>bZ aD aD) hg (by kernel_rfl) axE rfl rfl awz asz
theorem axW:c8 CZ.args CZ.res (b6 sh SB 123):=wh rfl rfl (λ_ _=>rG) λ_ _ _ h h'=>cj h (ct h')
theorem aq2 {wb:ar} (hg:cG wb):bb wb CZ:=dQ (λ_ _ _=>bZ aD aD) hg (by kernel_rfl) axW rfl rfl awV asV
theorem axT:c8 CW.args CW.res (b6 sh SB 124):=wh rfl rfl (λ_ _=>rG) λ_ _ _ h h'=>cj h (ct h')
theorem aqZ {wb:ar} (hg:cG wb):bb wb CW:=dQ (λ_ _ _=>bZ aD aD) hg (by kernel_rfl) axT rfl rfl awS asS
theorem axo:c8 Cy.args Cy.res (b6 sh SB 47):=iI rfl rfl (λ_ _=>jU) λ_ _ _ h h'=>by first|exact cj h (ct h')|exact fV (cj h (ct h'))
theorem ap5 {wb:ar} (hg:cG wb) (Ow:wF wb Dt) (aj0:bb wb CZ) (ajY:bb wb CX) (zg:bb wb rz):bb wb Cy:=dQ (λ_ _ _=>bZ (aT Ow aD) (aT aj0 (aT ajY (aT zg aD)))) hg (by kernel_rfl) axo rfl rfl av1 ar0
theorem axQ:c8 tQ.args tQ.res (b6 sh SB 27):=iI rfl rfl (λ_ _=>jU) λ_ _ _ h h'=>by first|exact cj h (ct h')|exact fV (cj h (ct h'))
theorem aqS {wb:ar} (hg:cG wb) (Fw:bb wb tP) (ajm:bb wb Cy) (ajX:bb wb CW) (zg:bb wb rz):bb wb tQ:=dQ (λ_ _ _=>bZ aD (aT Fw (aT ajm (aT ajX (aT zg aD))))) hg (by kernel_rfl) axQ rfl rfl awL asL
theorem axq:c8 CA.args CA.res (b6 sh SB 24):=iI rfl rfl (λ_ _=>jU) λ_ _ _ h h'=>by first|exact cj h (ct h')|exact fV (cj h (ct h'))
theorem ap9 {wb:ar} (hg:cG wb) (Ow:wF wb Dt) (ajv:bb wb CF) (ajZ:bb wb CY):bb wb CA:=dQ (λ_ _ _=>bZ (aT Ow aD) (aT ajv (aT ajZ aD))) hg (by kernel_rfl) axq rfl rfl av3 ar2
theorem axH:c8 CQ.args CQ.res (b6 sh SB 29):=iI rfl rfl (λ_ _=>jU) λ_ _ _ h h'=>by first|exact cj h (ct h')|exact fV (cj h (ct h'))
theorem aqJ {wb:ar} (hg:cG wb):bb wb CQ:=dQ (λ_ _ _=>bZ aD aD) hg (by kernel_rfl) axH rfl rfl awC asC
theorem axR:c8 tR.args tR.res (b6 sh SB 50):=iI rfl rfl (λ_ _=>jU) λ_ _ _ h h'=>by first|exact cj h (ct h')|exact fV (cj h (ct h'))
theorem aqT {wb:ar} (hg:cG wb):bb wb tR:=dQ (λ_ _ _=>bZ aD aD) hg (by kernel_rfl) axR rfl rfl awM asM
theorem axn:c8 xv.args xv.res (b6 sh SB 51):=iI rfl rfl (λ_ _=>jU) λ_ _ _ h h'=>by first|exact cj h (ct h')|exact fV (cj h (ct h'))
theorem ap4 {wb:ar} (hg:cG wb):bb wb xv:=dQ (λ_ _ _=>bZ aD aD) hg (by kernel_rfl) axn rfl rfl av0 arZ
theorem axb:c8 rv.args rv.res (b6 sh SB 52):=iI rfl rfl (λ_ _=>jU) λ_ _ _ h h'=>by first|exact cj h (ct h')|exact fV (cj h (ct h'))
theorem apS {wb:ar} (hg:cG wb):bb wb rv:=dQ (λ_ _ _=>bZ aD aD) hg (by kernel_rfl) axb rfl rfl avO arN
theorem axF:c8 xB.args xB.res (b6 sh SB 30):=iI rfl rfl (λ_ _=>jU) λ_ _ _ h h'=>by first|exact cj h (ct h')|exact fV (cj h (ct h'))
theorem aqH {wb:ar} (hg:cG wb) (Fz:bb wb tR) (OB:bb wb xv) (zf:bb wb rv):bb wb xB:=dQ (λ_ _ _=>bZ aD (aT Fz (aT OB (aT zf aD)))) hg (by kernel_rfl) axF rfl rfl awA asA
theorem axC:c8 CM.args CM.res (b6 sh SB 35):=by
 intro zs rs ey hz hr iE h h'
 match zs,rs,ey,hz,hr,iE,h,h' with
 |[z0],[a0,a1,a2],[b0,b1,b2],_,_,_,h,h'=>
  have h:(match jI (U z0)with|some (code,gD)=>U a0=code/\a1=aL (!gD.isEmpty)/\a2=1|none=>U a0=[]/\a1=0/\a2=0):=h
  have h':(match jI (U z0)with|some (code,gD)=>U b0=code/\b1=aL (!gD.isEmpty)/\b2=1|none=>U b0=[]/\b1=0/\b2=0):=h'
  cases hc:jI (U z0)with
  |none=>rw[hc]at h h';exact abn (h.1.trans h'.1.symm) (h.2.1.trans h'.2.1.symm) (h.2.2.trans h'.2.2.symm)
  |some u5=>
   obtain⟨c,t⟩:=u5
   rw[hc]at h h';exact abn (h.1.trans h'.1.symm) (h.2.1.trans h'.2.1.symm) (h.2.2.trans h'.2.2.symm)
theorem aqE {wb:ar} (hg:cG wb):bb wb CM:=dQ (λ_ _ _=>bZ aD aD) hg (by kernel_rfl) axC rfl rfl awx asx
theorem axL:c8 GG.args GG.res (b6 sh SB 13):=by
 intro zs rs ey hz hr iE h h'
 match zs,rs,ey,hz,hr,iE,h,h' with
 |[z0,ag],[a0,a1],[b0,b1],_,_,_,h,h'=>
  have e:(U a0,a1)=(U b0,b1):=cj h (ct h')
  simp only[cA]at e
  exact K5 e.1 e.2
theorem aqN {wb:ar} (hg:cG wb) (ajG:bb wb CM):wF wb G4:=ZY (q:=G4) (λ_ _ _=>bZ aD (aT ajG aD)) hg (by kernel_rfl) axL rfl rfl awG asG
theorem axD:c8 CN.args CN.res (b6 sh SB 11):=by
 intro zs rs ey hz hr iE h h'
 match zs,rs,ey,hz,hr,iE,h,h' with
 |[z0],[a0,a1],[b0,b1],_,_,_,h,h'=>
  have e:(U a0,a1)=(U b0,b1):=cj h (ct h')
  simp only[cA]at e
  exact K5 e.1 e.2
theorem aqF {wb:ar} (hg:cG wb) (ajK:bb wb CQ) (OH:bb wb xB) (ajI:bb wb CO) (ajL:bb wb CR):bb wb CN:=dQ (λ_ _ _=>bZ aD (aT ajK (aT OH (aT ajI (aT ajL aD))))) hg (by kernel_rfl) axD rfl rfl awy asy
theorem axc:c8 Cx.args Cx.res (b6 sh SB 10):=by
 intro zs rs ey hz hr iE h h'
 match zs,rs,ey,hz,hr,iE,h,h' with
 |[z0],[a0,a1],[b0,b1],_,_,_,h,h'=>
  have e:(U a0,a1)=(U b0,b1):=cj h (ct h')
  simp only[cA]at e
  exact K5 e.1 e.2
theorem apT {wb:ar} (hg:cG wb) (aj3:bb wb C2) (aji:bb wb Cw) (ajp:bb wb CA) (aja:bb wb Cu) (Fy:bb wb tQ) (ajq:bb wb CB) (qt:bb wb oH):bb wb Cx:=dQ (λ_ _ _=>bZ aD (aT aj3 (aT aji (aT ajp (aT aja (aT Fy (aT ajq (aT qt aD)))))))) hg (by kernel_rfl) axc rfl rfl avP arO
theorem axY:c8 C0.args C0.res (b6 sh SB 34):=Sr rfl rfl (λ_ _=>rG) λ_ _ _ _ h h'=>cj h (ct h')
theorem aq4 {wb:ar} (hg:cG wb):bb wb C0:=dQ (λ_ _ _=>bZ aD aD) hg (by kernel_rfl) axY rfl rfl awX asX
theorem axw:c8 GF.args GF.res (b6 sh SB 12):=by
 intro zs rs ey hz hr iE h h'
 match zs,rs,ey,hz,hr,iE,h,h' with
 |[z0,ag],[a0,a1],[b0,b1],_,_,_,h,h'=>
  have e:(U a0,a1)=(U b0,b1):=cj h (ct h')
  simp only[cA]at e
  exact K5 e.1 e.2
theorem aqp {wb:ar} (hg:cG wb) (ajf:bb wb J8) (ai7:bb wb J6) (aj1:bb wb C0):wF wb G3:=ZY (q:=G3) (λ_ _ _=>bZ aD (aT ajf (aT ai7 (aT aj1 aD)))) hg (by kernel_rfl) axw rfl rfl awj asi
theorem axs:c8 CC.args CC.res (b6 sh SB 15):=by
 intro zs rs ey hz hr iE h h'
 match zs,rs,ey,hz,hr,iE,h,h' with
 |[z0,ag],[a0,a1,a2],[b0,b1,b2],_,_,_,h,h'=>
  have e:(U a0,U a1,a2)=(U b0,U b1,b2):=cj h (ct h')
  simp only[cA]at e
  exact abo e.1 e.2.1 e.2.2
theorem aqc {wb:ar} (hg:cG wb) (ajz:wF wb G3) (ajl:bb wb Cx):bb wb CC:=dQ (λ_ _ _=>bZ (aT ajz aD) (aT ajl aD)) hg (by kernel_rfl) axs rfl rfl av6 ar5
theorem axJ:c8 CS.args CS.res (b6 sh SB 18):=by
 intro zs rs ey hz hr iE h h'
 match zs,rs,ey,hz,hr,iE,h,h' with
 |[z0,ag],[a0,a1,a2],[b0,b1,b2],_,_,_,h,h'=>
  have e:(U a0,U a1,a2)=(U b0,U b1,b2):=cj h (ct h')
  simp only[cA]at e
  exact abo e.1 e.2.1 e.2.2
theorem aqL {wb:ar} (hg:cG wb) (ajO:wF wb G4) (ajH:bb wb CN):bb wb CS:=dQ (λ_ _ _=>bZ (aT ajO aD) (aT ajH aD)) hg (by kernel_rfl) axJ rfl rfl awE asE
theorem axG:c8 CP.args CP.res (b6 sh SB 16):=DN rfl rfl (λ_ _=>jU) λ_ _ _ _ h h'=>by first|exact cj h (ct h')|exact fV (cj h (ct h'))
theorem aqI {wb:ar} (hg:cG wb) (ajr:bb wb CC):bb wb CP:=dQ (λ_ _ _=>bZ aD (aT ajr aD)) hg (by kernel_rfl) axG rfl rfl awB asB
theorem axM:c8 CU.args CU.res (b6 sh SB 19):=DN rfl rfl (λ_ _=>jU) λ_ _ _ _ h h'=>by first|exact cj h (ct h')|exact fV (cj h (ct h'))
theorem aqO {wb:ar} (hg:cG wb) (ajM:bb wb CS):bb wb CU:=dQ (λ_ _ _=>bZ aD (aT ajM aD)) hg (by kernel_rfl) axM rfl rfl awH asH
theorem ax2:c8 C3.args C3.res (b6 sh SB 202):=wh rfl rfl (λ_ _=>rG) λ_ _ _ h h'=>cj h (ct h')
theorem aq8 {wb:ar} (hg:cG wb):bb wb C3:=dQ (λ_ _ _=>bZ aD aD) hg (by kernel_rfl) ax2 rfl rfl aw1 as1
theorem ax0:c8 C1.args C1.res (b6 sh SB 203):=wh rfl rfl (λ_ _=>rG) λ_ _ _ h h'=>cj h (ct h')
theorem aq6 {wb:ar} (hg:cG wb):bb wb C1:=dQ (λ_ _ _=>bZ aD aD) hg (by kernel_rfl) ax0 rfl rfl awZ asZ
theorem ax3:c8 xH.args xH.res (b6 sh SB 200):=iI rfl rfl (λ_ _=>jU) λ_ _ _ h h'=>by first|exact cj h (ct h')|exact fV (cj h (ct h'))
theorem aq9 {wb:ar} (hg:cG wb) (Fw:bb wb tP) (aj4:bb wb C3) (zg:bb wb rz) (Fy:bb wb tQ):bb wb xH:=dQ (λ_ _ _=>bZ aD (aT Fw (aT aj4 (aT zg (aT Fy aD))))) hg (by kernel_rfl) ax3 rfl rfl aw2 as2
theorem axK:c8 CT.args CT.res (b6 sh SB 201):=iI rfl rfl (λ_ _=>jU) λ_ _ _ h h'=>by first|exact cj h (ct h')|exact fV (cj h (ct h'))
theorem aqM {wb:ar} (hg:cG wb) (Fw:bb wb tP) (aj2:bb wb C1) (zg:bb wb rz) (Fy:bb wb tQ):bb wb CT:=dQ (λ_ _ _=>bZ aD (aT Fw (aT aj2 (aT zg (aT Fy aD))))) hg (by kernel_rfl) axK rfl rfl awF asF
theorem aw7:c8 tO.args tO.res (b6 sh SB 204):=iI rfl rfl (λ_ _=>aug) λ_ _ _ h h'=>by first|exact cj h (ct h')|exact fV (cj h (ct h'))
theorem apN {wb:ar} (hg:cG wb):bb wb tO:=dQ (λ_ _ _=>bZ aD aD) hg (by kernel_rfl) aw7 rfl rfl avK arJ
theorem axO:c8 xC.args xC.res (b6 sh SB 205):=iI rfl rfl (λ_ _=>jU) λ_ _ _ h h'=>by first|exact cj h (ct h')|exact fV (cj h (ct h'))
theorem aqQ {wb:ar} (hg:cG wb) (Fv:bb wb tO) (OH:bb wb xB) (zf:bb wb rv):bb wb xC:=dQ (λ_ _ _=>bZ aD (aT Fv (aT OH (aT zf aD)))) hg (by kernel_rfl) axO rfl rfl awJ asJ
theorem axv:c8 CH.args CH.res (b6 sh SB 206):=by
 intro zs rs ey hz hr iE h h'
 match zs,rs,ey,hz,hr,iE,h,h' with
 |[z0,ag],[a0,a1,a2],[b0,b1,b2],_,_,_,h,h'=>
  have e:(U a0,U a1,a2)=(U b0,U b1,b2):=cj h (ct h')
  simp only[cA]at e
  exact K4 e.1 e.2.1 e.2.2
theorem aqn {wb:ar} (hg:cG wb) (Fv:bb wb tO) (OI:bb wb xC):bb wb CH:=dQ (λ_ _ _=>bZ aD (aT Fv (aT OI aD))) hg (by kernel_rfl) axv rfl rfl awh asg
theorem axu:c8 CG.args CG.res (b6 sh SB 211):=by
 intro zs rs ey hz hr iE h h'
 match zs,rs,ey,hz,hr,iE,h,h' with
 |[z0,ag],[a0,a1,a2],[b0,b1,b2],_,_,_,h,h'=>
  have e:(U a0,U a1,a2)=(U b0,U b1,b2):=cj h (ct h')
  simp only[cA]at e
  exact K4 e.1 e.2.1 e.2.2
theorem aqm {wb:ar} (hg:cG wb) (Fv:bb wb tO) (OI:bb wb xC):bb wb CG:=dQ (λ_ _ _=>bZ aD (aT Fv (aT OI aD))) hg (by kernel_rfl) axu rfl rfl awg asf
theorem axP:c8 xD.args xD.res (b6 sh SB 207):=iI rfl rfl (λ_ _=>jU) λ_ _ _ h h'=>by first|exact cj h (ct h')|exact fV (cj h (ct h'))
theorem aqR {wb:ar} (hg:cG wb) (ajy:bb wb CH) (Fz:bb wb tR) (zf:bb wb rv):bb wb xD:=dQ (λ_ _ _=>bZ aD (aT ajy (aT Fz (aT zf aD)))) hg (by kernel_rfl) axP rfl rfl awK asK
theorem axN:c8 CV.args CV.res (b6 sh SB 208):=iI rfl rfl (λ_ _=>jU) λ_ _ _ h h'=>by first|exact cj h (ct h')|exact fV (cj h (ct h'))
theorem aqP {wb:ar} (hg:cG wb) (ajx:bb wb CG) (Fz:bb wb tR) (OB:bb wb xv) (zf:bb wb rv):bb wb CV:=dQ (λ_ _ _=>bZ aD (aT ajx (aT Fz (aT OB (aT zf aD))))) hg (by kernel_rfl) axN rfl rfl awI asI
theorem axz:c8 CJ.args CJ.res (b6 sh SB 400):=iI rfl rfl (λ_ _=>jU) λ_ _ _ h h'=>by first|exact cj h (ct h')|exact fV (cj h (ct h'))
theorem aqu {wb:ar} (hg:cG wb):bb wb CJ:=dQ (λ_ _ _=>bZ aD aD) hg (by kernel_rfl) axz rfl rfl awn asn
theorem ax4:c8 C5.args C5.res (b6 sh SB 420):=iI rfl rfl (λ_ _=>jU) λ_ _ _ h h'=>by first|exact cj h (ct h')|exact fV (cj h (ct h'))
theorem arb {wb:ar} (hg:cG wb):bb wb C5:=dQ (λ_ _ _=>bZ aD aD) hg (by kernel_rfl) ax4 rfl rfl aw3 as3
theorem aw8:c8 Cv.args Cv.res (b6 sh SB 501):=iI rfl rfl (λ_ _=>jU) λ_ _ _ h h'=>by first|exact cj h (ct h')|exact fV (cj h (ct h'))
theorem apP {wb:ar} (hg:cG wb) (qt:bb wb oH):bb wb Cv:=dQ (λ_ _ _=>bZ aD (aT qt aD)) hg (by kernel_rfl) aw8 rfl rfl avL arK
theorem axA:c8 CK.args CK.res (b6 sh SB 600):=iI rfl rfl (λ_ _=>jU) λ_ _ _ h h'=>by first|exact cj h (ct h')|exact fV (cj h (ct h'))
theorem aqv {wb:ar} (hg:cG wb) (ajC:bb wb CJ) (ajh:bb wb Cv):bb wb CK:=dQ (λ_ _ _=>bZ aD (aT ajC (aT ajh aD))) hg (by kernel_rfl) axA rfl rfl awo aso
theorem axy:c8 xz.args xz.res (b6 sh SB 601):=acb rfl rfl (λ_ _=>jU) λ_ _ _ _ _ _ _ _ _ h h'=>by first|exact cj h (ct h')|exact fV (cj h (ct h'))
theorem aqt {wb:ar} (hg:cG wb) (ajD:bb wb CK) (ajJ:bb wb CP) (OO:bb wb xH) (ajN:bb wb CT):bb wb xz:=dQ (λ_ _ _=>bZ aD (aT ajD (aT ajJ (aT OO (aT ajN aD))))) hg (by kernel_rfl) axy rfl rfl awm asm
theorem aqh {wb:ar} (hg:cG wb) (OF:bb wb xz):fw wb pj:=mg (λ_ _ _=>bZ aD (aT OF aD)) hg (λ_ _ _=>(jG aD)) (by kernel_rfl) rfl rfl awb asa
theorem aqs {wb:ar} (hg:cG wb) (aje:bb wb J7):fw wb xy:=mg (λ_ _ _=>bZ aD (aT aje aD)) hg (λ_ _ _=>(jG aD)) (by kernel_rfl) rfl rfl awl asl
theorem aqf {wb:ar} (hg:cG wb) (h_pRight:fw wb pj) (OE:fw wb xy):fw wb zZ:=mg (λ_ _ _=>bZ aD aD) hg (λ_ _ _=>(jG (aT h_pRight (aT OE aD)))) (by kernel_rfl) rfl rfl av9 ar8
theorem aqo {wb:ar} (hg:cG wb):fw wb xx:=mg (λ_ _ _=>bZ aD aD) hg (λ_ _ _=>(jG aD)) (by kernel_rfl) rfl rfl awi ash
theorem aqj {wb:ar} (hg:cG wb) (OF:bb wb xz) (h_pRight:fw wb pj) (OE:fw wb xy) (OD:fw wb xx) (ajA:Vm wb eU):fw wb vF:=mg (λ_ _ _=>bZ aD (aT OF aD)) hg (λ_ _ _=>(Y4 (jG (aT h_pRight (aT OE (aT OD aD)))) (aT ajA aD))) (by kernel_rfl) rfl rfl awd asc
theorem aqi {wb:ar} (hg:cG wb) (OO:bb wb xH) (h_pRight:fw wb pj) (OD:fw wb xx):fw wb vE:=mg (λ_ _ _=>bZ aD (aT OO aD)) hg (λ_ _ _=>(jG (aT h_pRight (aT OD aD)))) (by kernel_rfl) rfl rfl awc asb
theorem axx:c8 CI.args CI.res (b6 sh SB 608):=by
 intro zs rs ey hz hr iE h h'
 match zs,rs,ey,hz,hr,iE,h,h' with
 |[],[a0,a1,a2,a3,a4,a5,wJ],[b0,b1,b2,b3,b4,nK,EG],_,_,_,h,h'=>
  have h:[a0,a1,a2,a3,a4,a5,wJ]=pZ:=h
  have h':[b0,b1,b2,b3,b4,nK,EG]=pZ:=h'
  have e:=h.trans h'.symm
  simp only[hX,and_true]at e
  exact aui (congrArg U e.1) (congrArg U e.2.1) (congrArg U e.2.2.1) (congrArg U e.2.2.2.1) (congrArg U e.2.2.2.2.1) (congrArg U e.2.2.2.2.2.1) (congrArg U e.2.2.2.2.2.2)
theorem aqr {wb:ar} (hg:cG wb):bb wb CI:=dQ (λ_ _ _=>bZ aD aD) hg (by kernel_rfl) axx rfl rfl awk asj
theorem axB:c8 xA.args xA.res (b6 sh SB 612):=acb rfl rfl (λ_ _=>jU) λ_ _ _ _ _ _ _ _ _ h h'=>by first|exact cj h (ct h')|exact fV (cj h (ct h'))
theorem aqy {wb:ar} (hg:cG wb) (aj6:bb wb C5) (ajP:bb wb CU) (ajQ:bb wb CV) (OJ:bb wb xD):bb wb xA:=dQ (λ_ _ _=>bZ aD (aT aj6 (aT ajP (aT ajQ (aT OJ aD))))) hg (by kernel_rfl) axB rfl rfl awr asr
theorem aqz {wb:ar} (hg:cG wb) (OG:bb wb xA):fw wb qJ:=mg (λ_ _ _=>bZ aD (aT OG aD)) hg (λ_ _ _=>(jG aD)) (by kernel_rfl) rfl rfl aws ass
theorem aqx {wb:ar} (hg:cG wb) (h_qRight:fw wb qJ):fw wb vG:=mg (λ_ _ _=>bZ aD aD) hg (λ_ _ _=>(jG (aT h_qRight aD))) (by kernel_rfl) rfl rfl awq asq
theorem aqC {wb:ar} (hg:cG wb) (OG:bb wb xA) (h_qRight:fw wb qJ) (h_qFind:fw wb vG):fw wb Ad:=mg (λ_ _ _=>bZ aD (aT OG aD)) hg (λ_ _ _=>(jG (aT h_qRight (aT h_qFind aD)))) (by kernel_rfl) rfl rfl awv asv
theorem aqB {wb:ar} (hg:cG wb) (OJ:bb wb xD) (h_qRight:fw wb qJ):fw wb Ac:=mg (λ_ _ _=>bZ aD (aT OJ aD)) hg (λ_ _ _=>(jG (aT h_qRight aD))) (by kernel_rfl) rfl rfl awu asu
theorem aqA {wb:ar} (hg:cG wb):fw wb Ab:=mg (λ_ _ _=>bZ aD aD) hg (λ_ _ _=>(jG aD)) (by kernel_rfl) rfl rfl awt ast
theorem axS:c8 xE.args xE.res (b6 sh SB 440):=DN rfl rfl (λ_ _=>auh) λ_ _ _ _ h h'=>by first|exact cj h (ct h')|exact fV (cj h (ct h'))
theorem aqU {wb:ar} (hg:cG wb):bb wb xE:=dQ (λ_ _ _=>bZ aD aD) hg (by kernel_rfl) axS rfl rfl awN asN
theorem axd:c8 vt.args vt.res (b6 sh SB 444):=iI rfl rfl (λ_ _=>Hf) λ_ _ _ h h'=>by first|exact cj h (ct h')|exact fV (cj h (ct h'))
theorem apU {wb:ar} (hg:cG wb):bb wb vt:=dQ (λ_ _ _=>bZ aD aD) hg (by kernel_rfl) axd rfl rfl avQ arP
theorem axf:c8 vv.args vv.res (b6 sh SB 445):=iI rfl rfl (λ_ _=>Hf) λ_ _ _ h h'=>by first|exact cj h (ct h')|exact fV (cj h (ct h'))
theorem apW {wb:ar} (hg:cG wb):bb wb vv:=dQ (λ_ _ _=>bZ aD aD) hg (by kernel_rfl) axf rfl rfl avS arR
theorem axh:c8 vx.args vx.res (b6 sh SB 446):=iI rfl rfl (λ_ _=>Hf) λ_ _ _ h h'=>by first|exact cj h (ct h')|exact fV (cj h (ct h'))
theorem apY {wb:ar} (hg:cG wb):bb wb vx:=dQ (λ_ _ _=>bZ aD aD) hg (by kernel_rfl) axh rfl rfl avU arT
theorem axj:c8 vz.args vz.res (b6 sh SB 447):=iI rfl rfl (λ_ _=>Hf) λ_ _ _ h h'=>by first|exact cj h (ct h')|exact fV (cj h (ct h'))
theorem ap0 {wb:ar} (hg:cG wb):bb wb vz:=dQ (λ_ _ _=>bZ aD aD) hg (by kernel_rfl) axj rfl rfl avW arV
theorem axe:c8 vu.args vu.res (b6 sh SB 448):=iI rfl rfl (λ_ _=>Hg) λ_ _ _ h h'=>by first|exact cj h (ct h')|exact fV (cj h (ct h'))
theorem apV {wb:ar} (hg:cG wb):bb wb vu:=dQ (λ_ _ _=>bZ aD aD) hg (by kernel_rfl) axe rfl rfl avR arQ
theorem axg:c8 vw.args vw.res (b6 sh SB 449):=iI rfl rfl (λ_ _=>Hg) λ_ _ _ h h'=>by first|exact cj h (ct h')|exact fV (cj h (ct h'))
theorem apX {wb:ar} (hg:cG wb):bb wb vw:=dQ (λ_ _ _=>bZ aD aD) hg (by kernel_rfl) axg rfl rfl avT arS
theorem axi:c8 vy.args vy.res (b6 sh SB 450):=iI rfl rfl (λ_ _=>Hg) λ_ _ _ h h'=>by first|exact cj h (ct h')|exact fV (cj h (ct h'))
theorem apZ {wb:ar} (hg:cG wb):bb wb vy:=dQ (λ_ _ _=>bZ aD aD) hg (by kernel_rfl) axi rfl rfl avV arU
theorem axk:c8 vA.args vA.res (b6 sh SB 451):=iI rfl rfl (λ_ _=>Hg) λ_ _ _ h h'=>by first|exact cj h (ct h')|exact fV (cj h (ct h'))
theorem ap1 {wb:ar} (hg:cG wb):bb wb vA:=dQ (λ_ _ _=>bZ aD aD) hg (by kernel_rfl) axk rfl rfl avX arW
theorem aqV {wb:ar} (hg:cG wb) (OK:bb wb xE):fw wb Ae:=mg (λ_ _ _=>bZ aD (aT OK aD)) hg (λ_ _ _=>(jG aD)) (by kernel_rfl) rfl rfl awO asO
theorem aqW {wb:ar} (hg:cG wb) (OK:bb wb xE):fw wb Af:=mg (λ_ _ _=>bZ aD (aT OK aD)) hg (λ_ _ _=>(jG aD)) (by kernel_rfl) rfl rfl awP asP
theorem axl:c8 vB.args vB.res (b6 sh SB 466):=iI rfl rfl (λ_ _=>Hf) λ_ _ _ h h'=>by first|exact cj h (ct h')|exact fV (cj h (ct h'))
theorem ap2 {wb:ar} (hg:cG wb):bb wb vB:=dQ (λ_ _ _=>bZ aD aD) hg (by kernel_rfl) axl rfl rfl avY arX
theorem axm:c8 vC.args vC.res (b6 sh SB 467):=iI rfl rfl (λ_ _=>Hg) λ_ _ _ h h'=>by first|exact cj h (ct h')|exact fV (cj h (ct h'))
theorem ap3 {wb:ar} (hg:cG wb):bb wb vC:=dQ (λ_ _ _=>bZ aD aD) hg (by kernel_rfl) axm rfl rfl avZ arY
theorem apK {wb:ar} (hg:cG wb):fw wb zV:=mg (λ_ _ _=>bZ aD aD) hg (λ_ _ _=>(jG aD)) (by kernel_rfl) rfl rfl avI arH
theorem apL {wb:ar} (hg:cG wb):fw wb zW:=mg (λ_ _ _=>bZ aD aD) hg (λ_ _ _=>(jG aD)) (by kernel_rfl) rfl rfl avJ arI
theorem apF {wb:ar} (hg:fg bS ⟨wb,wb,λ_=>False,λ_=>False,[]⟩) (XM:bb wb vB) (XE:bb wb vt) (XG:bb wb vv) (XI:bb wb vx) (XK:bb wb vz) (ajb:fw wb zV):Ie wb AE:=by
 refine aa6 (SB:=SB) (sh:=sh) (p:=AE) (lsh:=ZL) (lens:=[1]) (inl:=(BB Tryz.prog bS (cc [] [vB,vt,vv,vx,vz]) (wP (hP [zV]) Tryz.prog bS (cc [] [vB,vt,vv,vx,vz]) Kg 600 6) Kg 600 [(1,0,0,4294967295),(1,1,0,4294967295),(1,2,0,4294967295),(1,3,0,4294967295),(1,4,0,4294967295),(1,5,0,4294967295),(1,6,0,4294967295),(1,7,0,4294967295)] 147)) (λL r ex ro=>VW X3 dR (λ_ _ _=>bZ aD (aT XM (aT XE (aT XG (aT XI (aT XK aD)))))) (λg cs h=>hg g cs h) (λr ex ro=>EU (w0:=⟨wb,r,ex,ro,[]⟩) rfl dR ((λ_ _ _=>bZ aD (aT XM (aT XE (aT XG (aT XI (aT XK aD)))))) r ex ro) (λg cs h=>hg g cs h) (jG (aT ajb aD)) 6) rfl) (by kernel_rfl) rfl rfl ?_
 rw[show AE.c=J4 from rfl,avF]
 exact arE
theorem apG {wb:ar} (hg:fg bS ⟨wb,wb,λ_=>False,λ_=>False,[]⟩) (XN:bb wb vC) (XF:bb wb vu) (XH:bb wb vw) (XJ:bb wb vy) (XL:bb wb vA) (ajc:fw wb zW):Ie wb AF:=by
 refine aa6 (SB:=SB) (sh:=sh) (p:=AF) (lsh:=ZM) (lens:=[1]) (inl:=(BB Tryz.prog bS (cc [] [vC,vu,vw,vy,vA]) (wP (hP [zW]) Tryz.prog bS (cc [] [vC,vu,vw,vy,vA]) Kh 600 6) Kh 600 [(1,0,0,18446744073709551615),(1,1,0,18446744073709551615),(1,2,0,18446744073709551615),(1,3,0,18446744073709551615),(1,4,0,18446744073709551615),(1,5,0,18446744073709551615),(1,6,0,18446744073709551615),(1,7,0,18446744073709551615)] 147)) (λL r ex ro=>VW X3 dR (λ_ _ _=>bZ aD (aT XN (aT XF (aT XH (aT XJ (aT XL aD)))))) (λg cs h=>hg g cs h) (λr ex ro=>EU (w0:=⟨wb,r,ex,ro,[]⟩) rfl dR ((λ_ _ _=>bZ aD (aT XN (aT XF (aT XH (aT XJ (aT XL aD)))))) r ex ro) (λg cs h=>hg g cs h) (jG (aT ajc aD)) 6) rfl) (by kernel_rfl) rfl rfl ?_
 rw[show AF.c=J5 from rfl,avG]
 exact arF
theorem aqX {wb:ar} (hg:fg bS ⟨wb,wb,λ_=>False,λ_=>False,[]⟩) (ajT:fw wb Ae) (ajR:Bk wb GU) (ai5:Ie wb AE):Bk wb Dn:=by
 refine aaL (SB:=SB) (sh:=sh) (p:=Dn) (bc:=(AH [AE] (rC [GU] (hP [Ae])))) (cal:=(cc [] [])) (li:=ek) (rounds:=600) (d:=6) (lsh:=et) (lens:=[1]) dR (λ_ _ _=>bZ aD aD) hg (λ_ _ _ _=>(Rv (Dm (jG (aT ajT aD)) (aT ajR aD)) (aT ai5 aD))) (by kernel_rfl) rfl rfl ?_
 rw[show Dn.c=Ka from rfl,awQ]
 exact asQ
theorem aqY {wb:ar} (hg:fg bS ⟨wb,wb,λ_=>False,λ_=>False,[]⟩) (ajU:fw wb Af) (ajS:Bk wb GV) (ai6:Ie wb AF):Bk wb Dp:=by
 refine aaL (SB:=SB) (sh:=sh) (p:=Dp) (bc:=(AH [AF] (rC [GV] (hP [Af])))) (cal:=(cc [] [])) (li:=ek) (rounds:=600) (d:=6) (lsh:=et) (lens:=[1]) dR (λ_ _ _=>bZ aD aD) hg (λ_ _ _ _=>(Rv (Dm (jG (aT ajU aD)) (aT ajS aD)) (aT ai6 aD))) (by kernel_rfl) rfl rfl ?_
 rw[show Dp.c=Kb from rfl,awR]
 exact asR
end Go.cu
set_option linter.unusedSimpArgs false
namespace Go.bo
def T.free (p:V->Bool):T->Bool
 |stuck=>false
 |leaf v=>p v
 |fn _ _ _ _ _ r|ind _ _ r|div _ _ _ _ _ r|mul _ _ _ _ _ r|bit _ _ _ _ _ r|shr _ _ _ _ _ r|qP _ _ _ _ _ r|call _ _ _ _ r=>r.free p
 |nM _ t e=>t.free p&&e.free p
 |_=>false
theorem VD:∀{b:List (Int×Int)} {P:List Int->Prop},(∀rs,P rs)->nJ b P
 |[],_,h=>h []
 |(_,_)::b,_,h=>λr _ _=>VD (b:=b) λrs=>h (r::rs)
theorem T.Jc {p:V->Bool}:∀(t:T),t.free p=true->t.plain=true
 | .leaf _,_=>rfl
 | .fn _ _ _ _ _ r,h| .ind _ _ r,h| .div _ _ _ _ _ r,h| .mul _ _ _ _ _ r,h| .bit _ _ _ _ _ r,h| .shr _ _ _ _ _ r,h| .qP _ _ _ _ _ r,h| .call _ _ _ _ r,h=>T.Jc r h
 | .nM b t e,h=>by
  simp only[T.free,aS]at h
  rw[T.plain,T.Jc t h.1,T.Jc e h.2];rfl
theorem T.free_holds {S:Nat->List Int->List Int->Prop} {p:V->Bool}:∀(t:T) (G:dT) (ρ:Env),t.free p=true->t.holds S (λv _=>p v=true) G ρ
 | .leaf v,_,_,h=>h
 | .fn n op args lo hi r,G,ρ,h=>λz _ _ _=>T.free_holds r G _ h
 | .ind n b r,G,ρ,h=>λz _ _ _=>T.free_holds r G _ h
 | .div n x d lo hi r,G,ρ,h=>λz _ _ _ _=>T.free_holds r G _ h
 | .mul n x y lo hi r,G,ρ,h=>λz _ _ _=>T.free_holds r G _ h
 | .bit n op k x y r,G,ρ,h=>λz _ _ _=>T.free_holds r G _ h
 | .shr n x y lo hi r,G,ρ,h=>λz _ _ _=>T.free_holds r G _ h
 | .qP n cs aU lo hi r,G,ρ,h=>λz _ _ _=>T.free_holds r G _ h
 | .call id args n bds r,G,ρ,h=>VD λrs _=>T.free_holds r G _ h
 | .nM b t e,G,ρ,h=>by
  simp only[T.free,aS]at h
  exact⟨λ_=>T.free_holds t G ρ h.1,λ_=>T.free_holds e G ρ h.2⟩
def I9 (k:IntKind) (lo hi:Int):List A->Bool
 |[]=>true
 | .int a6 x::r=>decide (k=a6)&&(decide (lo<=x.lo)&&decide (x.hi<=hi))&&I9 k lo hi r
 |_=>false
def E8:List aB->List A->Bool
 |[],[]=>true
 | .int k lo hi::d,.int a6 x::r=>decide (k=a6)&&(decide (lo<=x.lo)&&decide (x.hi<=hi))&&E8 d r
 | .bool::d,.bool _::r=>E8 d r
 |_,_=>false
def fits:List D->V->Bool
 |[.int k lo hi],.w (.one (.int a6 x))=>decide (k=a6)&&(decide (lo<=x.lo)&&decide (x.hi<=hi))
 |[.bool],.w (.one (.bool _))=>true
 |[.agg k n lo hi],.w (.agg l)=>aG l.length n&&I9 k lo hi l
 |[.mix d],.w (.agg l)=>E8 d l
 |_,_=>false
theorem WR {k:IntKind} {lo hi:Int} {ρ:Env} {n nb:Nat}:∀{l:List A},I9 k lo hi l=true->(∀a∈l,a.ok n nb ρ)->∃os,iG k l=some os/\aV (da lo hi l.length) (os.map (O.den ρ))
 |[],_,_=>⟨[],rfl,trivial⟩
 | .int a6 x::r,h,ho=>by
  simp only[I9,aS,decide_eq_true_eq]at h
  obtain⟨⟨h1,h2,h3⟩,h4⟩:=h
  obtain⟨os,g1,g2⟩:=WR h4 λa ha=>ho a (dn _ ha)
  have hx:x.ok n ρ:=ho _ Ef
  refine⟨.l x.l::os,by subst h1;simp only[iG,decide_true,cond_true,g1],?_,?_,g2⟩
  ·exact oe h2 hx.2.1
  ·exact oe hx.2.2 h3
theorem IQ:∀c:Bool,(0:Int)<=cond c 1 0/\(cond c 1 0:Int)<=1:=by decide
theorem NT {ρ:Env} {n nb:Nat}:∀{d:List aB} {l:List A},E8 d l=true->(∀a∈l,a.ok n nb ρ)->∃os,n3 d l=some os/\aV (d.map aB.eL) (os.map (O.den ρ))
 |[],[],_,_=>⟨[],rfl,trivial⟩
 | .int k lo hi::d,.int a6 x::r,h,ho=>by
  simp only[E8,aS,decide_eq_true_eq]at h
  obtain⟨⟨h1,h2,h3⟩,h4⟩:=h
  obtain⟨os,g1,g2⟩:=NT h4 λa ha=>ho a (dn _ ha)
  have hx:x.ok n ρ:=ho _ Ef
  exact⟨.l x.l::os,by subst h1;simp only[n3,aB.out,decide_true,cond_true,g1],oe h2 hx.2.1,oe hx.2.2 h3,g2⟩
 | .bool::d,.bool b::r,h,ho=>by
  obtain⟨os,g1,g2⟩:=NT (d:=d) (l:=r) h λa ha=>ho a (dn _ ha)
  exact⟨.b b::os,by simp only[n3,aB.out,g1],(IQ _).1,(IQ _).2,g2⟩
theorem agI {ds:List D} {v:V} {n nb:Nat} {ρ:Env} (h:fits ds v=true) (ho:v.ok n nb ρ):nG ds (λrs=>aV (dC ds) rs) v ρ:=by
 unfold fits at h
 split at h
 ·rename_i k lo hi a6 x
  simp only[aS,decide_eq_true_eq]at h
  obtain⟨h1,h2,h3⟩:=h
  have hx:x.ok n ρ:=ho
  subst h1
  simp only[nG,outs,qL,decide_true,cond_true]
  exact⟨oe h2 hx.2.1,oe hx.2.2 h3,trivial⟩
 ·rename_i b
  simp only[nG,outs,qL]
  exact⟨(IQ _).1,(IQ _).2,trivial⟩
 ·rename_i k m lo hi l
  simp only[aS]at h
  obtain⟨os,h1,h2⟩:=WR h.2 (show ∀a∈l,a.ok n nb ρ from ho)
  have hl:=Nat.eq_of_beq_eq_true h.1
  simp only[nG,outs,qL,h.1,cond_true,h1]
  rw[hl]at h2
  show aV (da lo hi m++[]) _
  rw[h9];exact h2
 ·rename_i d l
  obtain⟨os,h1,h2⟩:=NT h (show ∀a∈l,a.ok n nb ρ from ho)
  simp only[nG,outs,qL,h1]
  show aV (d.map aB.eL++[]) _
  rw[h9];exact h2
 ·cases h
section
variable {P:Program} {gl:ei} {S:Nat->List Int->List Int->Prop} {wb:ar}
theorem bu.apC {c:bu} {cal:eI} {li:cw->Nat->Option c7} {rounds d:Nat} (hm:P.follows .mixedOrders=true) (cQ:∀r ex ro,fS S P gl ⟨wb,r,ex,ro,[]⟩ cal) (hg:fg gl ⟨wb,wb,λ_=>False,λ_=>False,[]⟩)
 (hf:∀args w,(callFunc c.f args).run P w= .ok (.enter c.f args) w) (cL:∀id a rs ey,S id a rs->S id a ey->rs=ey) (hx:(c.tree P gl cal li rounds d).free (fits c.res)=true):c.eY P wb λ_ _=>True:=by
 have Jt:∀zs,aV (dC c.args) zs->∀w,wb.Extends w->Calls P c.f (m2 c.args zs).toArray w λe w'=>∃v ah m val n nb,e= .returned val/\v.rel ah m val/\V.ok n nb ah v/\(fits c.res v=true/\Path S (c.tree P gl cal li rounds d) (bL (λ_=>0) 0 zs) v ah)/\w.Extends w':=λzs hz w hw=>by
  have ly:=rp _ _ _ (T.Jc _ hx) (T.free_holds (S:=S) _ (λ_ _=>False) (bL (λ_=>0) 0 zs) hx)
  have hs:=Lh (m:=λ_=>0) (nb:=0) (N:=(dC c.args).length) c.args hz (gJ.bL (λ_=>0) 0 zs) (by omega)
  have:=V7 (b:=wb) (w:=w) hm (cQ w _ _) hg c.f _ _ _ ((sQ 0 c.args).map (W.den (bL (λ_=>0) 0 zs) λ_=>0)) hw (λv hv=>by
   obtain⟨u,hu,rfl⟩:=List.mem_map.1 hv
   exact hs.1 u hu) (Mx _) ly
  rw[hs.2]at this
  refine this.mono λe w' ⟨v,ah,m,val,nb,h1,h2,⟨n,h5⟩,h3,h4⟩=>⟨v,ah,m,val,n,nb,h1,h2,h5,h3,h4⟩
 refine⟨hf,λzs hz=>?_⟩
 obtain⟨e,w',v0,b8,m0,aC6,n0,aCY,h1,h2,h5,⟨h3,w3⟩,h4⟩:=Calls.some (Jt zs hz wb (oi wb))
 have hl:=agI h3 h5
 obtain⟨rs,hb,hv⟩:=yM hl h2
 refine⟨rs,hb,trivial,λw hw=>?_⟩
 refine(Jt zs hz w hw).mono λe w' ⟨v,ah,m,val,n,nb,g1,g2,g5,⟨g3,agZ⟩,g4⟩=>?_
 obtain⟨e1,e2⟩:=rB cL _ _ agZ w3
 subst e1;subst e2
 have:val=fb c.res rs:=by
  cases ho:outs c.res v with
  |none=>simp[nG,ho]at hl
  |some os=>
   have key:∀{m val},v.rel ah m val->val=fb c.res (os.map (O.den ah)):=λ{m val} hr=>by
    have hK:nG c.res (λrs=>rs=os.map (O.den ah)) v ah:=by unfold nG;simp[ho]
    obtain⟨ey,alM,hv⟩:=yM hK hr
    rw[hv,alM]
   rw[key g2,<-key h2,hv]
 exact⟨by rw[g1,this],g4⟩
end
end Go.bo
namespace Go.cu
open Go Go.bo Go.Proofs
abbrev fp (G:Nat->List Int->List Int):Nat->List Int->List Int->Prop:=b6 sh (uT G)
theorem wC {G:Nat->List Int->List Int} {id:Nat} {zs rs:List Int}:fp G id zs rs↔rs=Ew G id zs:=by
 show(gU _ rs).flatten=Ew G id (gU _ zs).flatten↔_
 rw[yd,yd]
theorem U9 {G:Nat->List Int->List Int} {id:Nat} (h5:aG id 645=false) (h2:aG id 652=false) (zs:List Int):Ew G id zs=G id zs:=by unfold Ew;rw[h5,h2];rfl
section
variable {wb:ar}
theorem adE {c:bu} {spec:List Int->List Int->Prop} (h:c.dh Tryz.prog wb spec):∃F:List Int->List Int,c.dh Tryz.prog wb λzs rs=>rs=F zs:=by
 classical
 refine⟨λzs=>if hz:aV (dC c.args) zs then acv (h zs hz)else [],λzs hz=>?_⟩
 obtain⟨h1,h2,h3⟩:=S3 (h zs hz)
 exact⟨_,h1,by simp only[dif_pos hz],h3⟩
def kh (wb:ar) (L:List bu) (G:Nat->List Int->List Int):Prop:=∀c∈L,c.dh Tryz.prog wb (fp G c.id)
theorem kh.step {L:List bu} {G:Nat->List Int->List Int} {c:bu} (h:kh wb L G) (hb:((c::L).all λc'=> !(aG c'.id 645)&& !(aG c'.id 652))=true) (hne:(L.all λc'=> !(aG c'.id c.id))=true) (h0:c.dh Tryz.prog wb λ_ _=>True):∃dU,kh wb (c::L) dU:=by
 obtain⟨F,hF⟩:=adE h0
 refine⟨λid=>if id=c.id then F else G id,λc' Ca=>?_⟩
 have iO:=List.all_eq_true.1 hb c' Ca
 simp only[aS,Bool.not_eq_true']at iO
 rcases List.mem_cons.1 Ca with rfl|hm
 ·intro zs hz
  obtain⟨rs,r1,r2,jm⟩:=hF zs hz
  refine⟨rs,r1,wC.2 ?_,jm⟩
  rw[U9 iO.1 iO.2,if_pos rfl];exact r2
 ·intro zs hz
  obtain⟨rs,r1,r2,jm⟩:=h c' hm zs hz
  refine⟨rs,r1,wC.2 ?_,jm⟩
  have r2:=wC.1 r2
  rw[U9 iO.1 iO.2]at r2⊢
  have hn:¬c'.id=c.id:=λe=>by
   have:=List.all_eq_true.1 hne c' hm
   rw[e,Nat.beq_refl]at this;cases this
  rw[if_neg hn];exact r2
theorem gC {α:Type} {l:List α} {a:α} (i:Nat) (h:l[i]?=some a):a∈l:=List.mem_of_getElem? h
theorem nZ {G:Nat->List Int->List Int} {c:bu} {cal:eI} (cQ:∀r ex ro,fS (fp G) Tryz.prog bS ⟨wb,r,ex,ro,[]⟩ cal) (hg:fg bS ⟨wb,wb,λ_=>False,λ_=>False,[]⟩)
 (hf:∀args w,(callFunc c.f args).run Tryz.prog w= .ok (.enter c.f args) w) (hx:(c.tree Tryz.prog bS cal ek 600 6).free (fits c.res)=true):c.dh Tryz.prog wb λ_ _=>True:=
 bu.eY.f (bu.apC (S:=fp G) dR cQ hg hf (λid a rs ey h h'=>(wC.1 h).trans (wC.1 h').symm) hx)
theorem aah {G:Nat->List Int->List Int} {c:bu} {cal:eI} {li:cw->Nat->Option c7} {rounds d:Nat} {lsh:Nat->List Nat} {lens:List Nat} (cQ:∀r ex ro,fS (fp G) Tryz.prog bS ⟨wb,r,ex,ro,[]⟩ cal) (hg:fg bS ⟨wb,wb,λ_=>False,λ_=>False,[]⟩)
 (hf:∀args w,(callFunc c.f args).run Tryz.prog w= .ok (.enter c.f args) w)
 (hv:te sh lsh (uT G) (aY (uT G) c.res c.id) lens (dC c.args) c.res (c.tree Tryz.prog bS cal li rounds d)):c.dh Tryz.prog wb (fp G c.id):=
 bu.eY.f (bu.Kv (S:=fp G) (spec:=fp G c.id) dR cQ hg hf (λzs rs ey _ _ _ h h'=>by rw[wC.1 h,wC.1 h']) (tj λzs hz=>by
  have h:=lT (Vv hv) hz
  simp only[aY,uT,yd]at h
  simp only[wC]
  exact h))
theorem apq:Vl Tryz.prog 143:=apn dR (enters (by kernel_rfl)) (λK=>by kernel_rfl)
theorem aez:TD Tryz.prog 161:=aex Tryz.func161 (by kernel_rfl) (by kernel_rfl) (by kernel_rfl) (by kernel_rfl)
theorem ahZ:CD.dh Tryz.prog wb λ_ _=>True:=by
 intro zs hz
 match zs,hz with
 |[x,y],hz=>
  obtain⟨x0,x1,ja,iq,_⟩:=hz
  have h0:0<=x*y:=Int.mul_nonneg x0 ja
  have h1:x*y<=18446744073709551615*18446744073709551615:=Int.mul_le_mul x1 iq ja (by decide)
  exact⟨[x*y/18446744073709551616,x*y% 18446744073709551616],⟨by omega,by omega,by omega,by omega,trivial⟩,trivial,λw _=>apq x y x0 (by omega) ja (by omega) w⟩
theorem ahK:Ct.dh Tryz.prog wb λ_ _=>True:=by
 intro zs hz
 match zs,hz with
 |[x,y,c],hz=>
  obtain⟨x0,x1,ja,iq,bC,c1,_⟩:=hz
  exact⟨[(x+y+c)% 18446744073709551616,(x+y+c)/18446744073709551616],⟨by omega,by omega,by omega,by omega,trivial⟩,trivial,λw _=>aez x y c x0 ja bC c1 w⟩
variable (hg:fg bS ⟨wb,wb,λ_=>False,λ_=>False,[]⟩) {G:Nat->List Int->List Int}
include hg G
theorem ahL:ph.dh Tryz.prog wb λ_ _=>True:=nZ (G:=G) (λ_ _ _=>bZ aD aD) hg (enters (by kernel_rfl)) (by kernel_rfl)
theorem ahW (ze:ph.dh Tryz.prog wb (fp G ph.id)):ry.dh Tryz.prog wb λ_ _=>True:=nZ (G:=G) (λ_ _ _=>bZ aD (aT ze aD)) hg (enters (by kernel_rfl)) (by kernel_rfl)
theorem ahV (ze:ph.dh Tryz.prog wb (fp G ph.id)):vr.dh Tryz.prog wb λ_ _=>True:=nZ (G:=G) (λ_ _ _=>bZ aD (aT ze aD)) hg (enters (by kernel_rfl)) (by kernel_rfl)
theorem ahX (ze:ph.dh Tryz.prog wb (fp G ph.id)) (ajt:CD.dh Tryz.prog wb (fp G CD.id)) (ai4:Ct.dh Tryz.prog wb (fp G Ct.id)):km.dh Tryz.prog wb λ_ _=>True:=nZ (G:=G) (λ_ _ _=>bZ aD (aT ze (aT ajt (aT ai4 aD)))) hg (enters (by kernel_rfl)) (by kernel_rfl)
theorem ah1 (sf:km.dh Tryz.prog wb (fp G km.id)):sD.dh Tryz.prog wb λ_ _=>True:=nZ (G:=G) (λ_ _ _=>bZ aD (aT sf aD)) hg (enters (by kernel_rfl)) (by kernel_rfl)
theorem ah2 (Fx:ry.dh Tryz.prog wb (fp G ry.id)):C4.dh Tryz.prog wb λ_ _=>True:=nZ (G:=G) (λ_ _ _=>bZ aD (aT Fx aD)) hg (enters (by kernel_rfl)) (by kernel_rfl)
theorem ahT (ze:ph.dh Tryz.prog wb (fp G ph.id)):vp.dh Tryz.prog wb λ_ _=>True:=nZ (G:=G) (λ_ _ _=>bZ aD (aT ze aD)) hg (enters (by kernel_rfl)) (by kernel_rfl)
theorem ahY (ajF:CL.dh Tryz.prog wb (fp G CL.id)):Cz.dh Tryz.prog wb λ_ _=>True:=nZ (G:=G) (λ_ _ _=>bZ aD (aT ajF aD)) hg (enters (by kernel_rfl)) (by kernel_rfl)
theorem ah0 (Oy:vp.dh Tryz.prog wb (fp G vp.id)):CE.dh Tryz.prog wb λ_ _=>True:=nZ (G:=G) (λ_ _ _=>bZ aD (aT Oy aD)) hg (enters (by kernel_rfl)) (by kernel_rfl)
theorem ahU (sf:km.dh Tryz.prog wb (fp G km.id)):vq.dh Tryz.prog wb λ_ _=>True:=nZ (G:=G) (λ_ _ _=>bZ aD (aT sf aD)) hg (enters (by kernel_rfl)) (by kernel_rfl)
theorem ahM (Oz:vq.dh Tryz.prog wb (fp G vq.id)):zT.dh Tryz.prog wb λ_ _=>True:=nZ (G:=G) (λ_ _ _=>bZ aD (aT Oz aD)) hg (enters (by kernel_rfl)) (by kernel_rfl)
theorem ahR (Oz:vq.dh Tryz.prog wb (fp G vq.id)):xt.dh Tryz.prog wb λ_ _=>True:=nZ (G:=G) (λ_ _ _=>bZ aD (aT Oz aD)) hg (enters (by kernel_rfl)) (by kernel_rfl)
theorem ahP (sf:km.dh Tryz.prog wb (fp G km.id)):vo.dh Tryz.prog wb λ_ _=>True:=nZ (G:=G) (λ_ _ _=>bZ aD (aT sf aD)) hg (enters (by kernel_rfl)) (by kernel_rfl)
theorem ahQ (OA:vr.dh Tryz.prog wb (fp G vr.id)) (sf:km.dh Tryz.prog wb (fp G km.id)) (Fx:ry.dh Tryz.prog wb (fp G ry.id)) (Ox:vo.dh Tryz.prog wb (fp G vo.id)) (aj5:C4.dh Tryz.prog wb (fp G C4.id)):xr.dh Tryz.prog wb λ_ _=>True:=nZ (G:=G) (λ_ _ _=>bZ aD (aT OA (aT sf (aT Fx (aT Ox (aT aj5 aD)))))) hg (enters (by kernel_rfl)) (by kernel_rfl)
theorem ahS (OL:sD.dh Tryz.prog wb (fp G sD.id)) (Fx:ry.dh Tryz.prog wb (fp G ry.id)) (OA:vr.dh Tryz.prog wb (fp G vr.id)) (Ox:vo.dh Tryz.prog wb (fp G vo.id)):xu.dh Tryz.prog wb λ_ _=>True:=nZ (G:=G) (λ_ _ _=>bZ aD (aT OL (aT Fx (aT OA (aT Ox aD))))) hg (enters (by kernel_rfl)) (by kernel_rfl)
theorem ahN (ajo:Cz.dh Tryz.prog wb (fp G Cz.id)) (sf:km.dh Tryz.prog wb (fp G km.id)) (Oy:vp.dh Tryz.prog wb (fp G vp.id)) (aju:CE.dh Tryz.prog wb (fp G CE.id)):zU.dh Tryz.prog wb λ_ _=>True:=nZ (G:=G) (λ_ _ _=>bZ aD (aT ajo (aT sf (aT Oy (aT aju aD))))) hg (enters (by kernel_rfl)) (by kernel_rfl)
theorem ahO:zX.dh Tryz.prog wb λ_ _=>True:=nZ (G:=G) (λ_ _ _=>bZ aD aD) hg (enters (by kernel_rfl)) (by kernel_rfl)
theorem aqD (OL:sD.dh Tryz.prog wb (fp G sD.id)) (sf:km.dh Tryz.prog wb (fp G km.id)):CL.dh Tryz.prog wb (fp G CL.id):=by
 refine aah (G:=G) (c:=CL) (cal:=(cc [] [sD,km])) (li:=ZC) (rounds:=600) (d:=6) (lsh:=ZO) (lens:=[5,4]) (λ_ _ _=>bZ aD (aT OL (aT sf aD))) hg (enters (by kernel_rfl)) ?_
 rw[aww]
 exact asw G
theorem aqd (ajj:xt.dh Tryz.prog wb (fp G xt.id)) (ajk:xu.dh Tryz.prog wb (fp G xu.id)) (ajg:xr.dh Tryz.prog wb (fp G xr.id)):zY.dh Tryz.prog wb (fp G zY.id):=by
 refine aah (G:=G) (c:=zY) (cal:=(cc [] [xt,xu,xr])) (li:=ZB) (rounds:=600) (d:=6) (lsh:=ZN) (lens:=[20,32]) (λ_ _ _=>bZ aD (aT ajj (aT ajk (aT ajg aD)))) hg (enters (by kernel_rfl)) ?_
 rw[av7]
 exact ar6 G
omit G in
theorem aeE:∃G,kh wb [zX,zU,xu,xr,vo,xt,zT,vq,CE,Cz,vp,C4,sD,km,vr,ry,ph,Ct,CD] G:=by
 obtain⟨aAO,h0⟩:=kh.step (c:=CD) (L:=[]) (G:=λ_ _=>[]) (λc hc=>by cases hc) rfl rfl ahZ
 obtain⟨G1,h1⟩:=kh.step (c:=Ct) h0 rfl rfl ahK
 obtain⟨H9,h2⟩:=kh.step (c:=ph) h1 rfl rfl (ahL hg (G:=G1))
 obtain⟨Ml,h3⟩:=kh.step (c:=ry) h2 rfl rfl (ahW hg (G:=H9) (h2 ph (gC 0 rfl)))
 obtain⟨Ia,h4⟩:=kh.step (c:=vr) h3 rfl rfl (ahV hg (G:=Ml) (h3 ph (gC 1 rfl)))
 obtain⟨adr,h5⟩:=kh.step (c:=km) h4 rfl rfl (ahX hg (G:=Ia) (h4 ph (gC 2 rfl)) (h4 CD (gC 4 rfl)) (h4 Ct (gC 3 rfl)))
 obtain⟨ads,h6⟩:=kh.step (c:=sD) h5 rfl rfl (ah1 hg (G:=adr) (h5 km (gC 0 rfl)))
 obtain⟨adt,h7⟩:=kh.step (c:=C4) h6 rfl rfl (ah2 hg (G:=ads) (h6 ry (gC 3 rfl)))
 obtain⟨adu,bD⟩:=kh.step (c:=vp) h7 rfl rfl (ahT hg (G:=adt) (h7 ph (gC 5 rfl)))
 obtain⟨adv,bg⟩:=kh.step (c:=Cz) bD rfl rfl (ahY hg (G:=adu) (aqD hg (bD sD (gC 2 rfl)) (bD km (gC 3 rfl))))
 obtain⟨adj,b9⟩:=kh.step (c:=CE) bg rfl rfl (ah0 hg (G:=adv) (bg vp (gC 1 rfl)))
 obtain⟨adk,cH⟩:=kh.step (c:=vq) b9 rfl rfl (ahU hg (G:=adj) (b9 km (gC 5 rfl)))
 obtain⟨adl,dw⟩:=kh.step (c:=zT) cH rfl rfl (ahM hg (G:=adk) (cH vq (gC 0 rfl)))
 obtain⟨adm,dj⟩:=kh.step (c:=xt) dw rfl rfl (ahR hg (G:=adl) (dw vq (gC 1 rfl)))
 obtain⟨adn,dA⟩:=kh.step (c:=vo) dj rfl rfl (ahP hg (G:=adm) (dj km (gC 8 rfl)))
 obtain⟨ado,e0⟩:=kh.step (c:=xr) dA rfl rfl (ahQ hg (G:=adn) (dA vr (gC 10 rfl)) (dA km (gC 9 rfl)) (dA ry (gC 11 rfl)) (dA vo (gC 0 rfl)) (dA C4 (gC 7 rfl)))
 obtain⟨adp,gA⟩:=kh.step (c:=xu) e0 rfl rfl (ahS hg (G:=ado) (e0 sD (gC 9 rfl)) (e0 ry (gC 12 rfl)) (e0 vr (gC 11 rfl)) (e0 vo (gC 1 rfl)))
 obtain⟨adq,ju⟩:=kh.step (c:=zU) gA rfl rfl (ahN hg (G:=adp) (gA Cz (gC 7 rfl)) (gA km (gC 11 rfl)) (gA vp (gC 8 rfl)) (gA CE (gC 6 rfl)))
 obtain⟨aAP,lq⟩:=kh.step (c:=zX) ju rfl rfl (ahO hg (G:=adq))
 exact⟨_,lq⟩
end
end Go.cu
namespace Go.cu
open Go Go.bo Go.Proofs
abbrev uR (G:Nat->List Int->List Int) (wb:ar) (k:bu):Prop:=k.dh Tryz.prog wb (b6 sh (fx G) k.id)
abbrev iN (G:Nat->List Int->List Int) (wb:ar) (k:dJ):Prop:=k.eY Tryz.prog wb (b6 sh (fx G) k.id)
abbrev Vn (G:Nat->List Int->List Int) (wb:ar) (k:jf):Prop:=k.eY Tryz.prog wb (b6 sh (fx G) k.c.id)
theorem aqw {G:Nat->List Int->List Int} {wb:ar} (hg:cG wb) (ajd:uR G wb zX) (ai8:uR G wb zT) (ajs:uR G wb zY) (ai9:uR G wb zU) (ajW:Vn G wb Dp):iN G wb Aa:=mg (λ_ _ _=>bZ aD (aT ajd (aT ai8 (aT ajs (aT ai9 aD))))) hg (λ_ _ _=>(Dm (jG aD) (aT ajW aD))) (by kernel_rfl) rfl rfl awp (asp G)
theorem aqg {G:Nat->List Int->List Int} {wb:ar} (hg:cG wb) (ajE:iN G wb Aa) (ajn:iN G wb J9) (ajV:Vn G wb Dn):iN G wb vD:=mg (λ_ _ _=>bZ aD aD) hg (λ_ _ _=>(Dm (jG (aT ajE (aT ajn aD))) (aT ajV aD))) (by kernel_rfl) rfl rfl awa (ar9 G)
theorem aqk {G:Nat->List Int->List Int} {wb:ar} (hg:cG wb) (h_pRight:iN G wb pj) (OC:iN G wb vD):iN G wb z1:=mg (λ_ _ _=>bZ aD aD) hg (λ_ _ _=>(jG (aT h_pRight (aT OC aD)))) (by kernel_rfl) rfl rfl awe (asd G)
theorem aql {G:Nat->List Int->List Int} {wb:ar} (hg:cG wb) (ajB:uR G wb CI) (h_pStore:iN G wb vF) (h_pSettle:iN G wb vE) (ajw:iN G wb z1) (OC:iN G wb vD):iN G wb xw:=mg (λ_ _ _=>bZ aD (aT ajB aD)) hg (λ_ _ _=>(jG (aT h_pStore (aT h_pSettle (aT ajw (aT OC aD)))))) (by kernel_rfl) rfl rfl awf (ase G)
theorem aqb {G:Nat->List Int->List Int} {wb:ar} (hg:cG wb) (h_palive:iN G wb xw) (h_pStore:iN G wb vF) (h_qStore:iN G wb Ad) (h_pSettle:iN G wb vE) (h_qSettle:iN G wb Ac) (h_pFind:iN G wb zZ) (h_qFind:iN G wb vG) (h_qSame:iN G wb Ab) (h_pRight:iN G wb pj) (h_qRight:iN G wb qJ):iN G wb GD:=mg (λ_ _ _=>bZ aD aD) hg (λ_ _ _=>(jG (aT h_palive (aT h_pStore (aT h_qStore (aT h_pSettle (aT h_qSettle (aT h_pFind (aT h_qFind (aT h_qSame (aT h_pRight (aT h_qRight aD)))))))))))) (by kernel_rfl) rfl rfl av5 (ar4 G)
end Go.cu
namespace Go.Proofs
open Go.Shelf Go.RowKit
shelf_lay Lays.n137 Nm 137 at Tryz as Tryz.anE
theorem Tryz.strings_IndexByte (s:ByteArray) (c:Int) (w:World):
 Calls Tryz.prog 125 #[.string s,.int .u8 c] w λe w'=>e= .returned (.int .i64 (Lib.indexByte s.data.toList c.toNat.toUInt8))/\w'=w:=Any.strings_IndexByte Tryz.anE s c w
shelf_lay Lays.n144 Nm 144 at Tryz as Tryz.anF
theorem Tryz.strings_Contains (s sub:ByteArray) (m:Int) (w:World) (hs:s.size<4294967281) (hm:w.cell? ⟨2,0,none⟩=some (.int .i64 m)):
 Calls Tryz.prog 59 #[.string s,.string sub] w λe w'=>e= .returned (.bool (Lib.contains s.data.toList sub.data.toList))/\w'=w:=Any.strings_Contains Tryz.anF s sub m w hs hm
end Go.Proofs
namespace Go.Proofs
open Go.Shelf Go.RowKit
shelf_lay Lays.n169 Nm 169 at Tryz as Tryz.lays169
theorem Tryz.H8:Builder.Extra Tryz.prog Tryz.lays169_ren where
 sizeBuilder:=by kernel_rfl
 liesBuilder:=by kernel_rfl
 t5:=Tryz.underlying5
 a5:=Tryz.isAgg5
 z5:=Tryz.sizeOf5
 v5:=Tryz.zeroValue5
 infoByte:=by kernel_rfl
 cellsByte:=by kernel_rfl
 sizeByte:=by kernel_rfl
 neB5:=by decide
theorem Tryz.Builder_String_any (B b:Nat) (l:List UInt8) (w:World) (h:Lib.IsBuilder 112 5 B b (Lib.byteCells l) w) (Xt:B<=w.heap.size):
 Calls Tryz.prog 82 #[.pointer (some ⟨b,0,none⟩)] w λe w'=>e= .returned (.string ⟨l.toArray⟩)/\Below B w w':=Any.Builder_String_any Tryz.lays169 Tryz.H8 B b l w h Xt
shelf_lay Lays.n170 Nm 170 at Tryz as Tryz.anG
theorem Tryz.Builder_Len (B b:Nat) (bs:List Value) (w:World) (h:Lib.IsBuilder 112 5 B b bs w):
 Calls Tryz.prog 159 #[.pointer (some ⟨b,0,none⟩)] w λe w'=>e= .returned (.int .i64 bs.length)/\w'=w:=Any.Builder_Len Tryz.anG B b bs w h
set_option maxHeartbeats 1000000 in
set_option maxRecDepth 100000 in
theorem Tryz.Builder_copyCheck_used (b:Nat) (w:World) (h0:w.cell? ⟨b,0,none⟩=some (.pointer (some ⟨b,0,none⟩))):
 Calls Tryz.prog 116 #[.pointer (some ⟨b,0,none⟩)] w λe w'=>e= .returned (.tuple #[])/\w'=w:=by
 obtain⟨j,hj,_⟩:=Option.map_eq_some_iff.1 Tryz.H8.toX72.sizeBuilder
 go_enter Tryz.func116,Tryz.ntmps116
 go_wp2
 rw[Lib.run_neq_ptr_same w _ Tryz.underlying110 hj]
 go_wp2
 go_end0
 exact⟨rfl,rfl⟩
set_option maxHeartbeats 1000000 in
set_option maxRecDepth 100000 in
theorem Tryz.Builder_copyCheck_fresh (b:Nat) (w:World) (h0:w.cell? ⟨b,0,none⟩=some (.pointer none)) (ig:w.shape? b=some (112,2)) (Jz:w.frozen? ⟨b,0,none⟩=false):
 Calls Tryz.prog 116 #[.pointer (some ⟨b,0,none⟩)] w λe w'=>e= .returned (.tuple #[])/\w'=w.setCell ⟨b,0,none⟩ (.pointer (some ⟨b,0,none⟩)):=by
 have X:=Tryz.H8.toX72
 obtain⟨j,hj,akV⟩:=Option.map_eq_some_iff.1 X.sizeBuilder
 go_enter Tryz.func116,Tryz.ntmps116
 go_wp2
 rw[Lib.run_to_unsafe w ⟨b,0,none⟩ Tryz.underlying110 Tryz.underlying174 hj (by rw[akV];decide) ig (Nat.zero_lt_succ 1)]
 simp only[Result.andThen]
 rw[Oper.upon_value]
 go_wp2
 rw[run_callFunc_extern Tryz.func149 (by kernel_rfl) (by kernel_rfl) (by kernel_rfl) (e:=Extern.AbiNoEscape.same) (by kernel_rfl)]
 rw[Lib.run_noEscape]
 simp only[Result.andThen]
 rw[Oper.upon_value]
 go_wp2
 rw[Lib.run_from_unsafe w ⟨b,0,none⟩ Tryz.underlying174 Tryz.underlying110 hj ig X.liesBuilder]
 simp only[Result.andThen]
 rw[Oper.upon_value]
 go_wp2
 go_end0
 exact⟨rfl,rfl⟩
theorem Tryz.Builder_copyCheck (B b:Nat) (bs:List Value) (w:World) (h:Lib.IsBuilder 112 5 B b bs w):
 Calls Tryz.prog 116 #[.pointer (some ⟨b,0,none⟩)] w λe w'=>e= .returned (.tuple #[])/\(Lib.BuilderAt 112 5 B b (.pointer (some ⟨b,0,none⟩)) bs w'/\Below B w w'):=by
 rcases h with h|h
 ·refine(Tryz.Builder_copyCheck_fresh b w h.cell0 h.shape h.frozen0).mono ?_
  rintro e w' ⟨rfl,rfl⟩
  exact⟨rfl,h.used _,(Below.refl B w).setCell (p:=⟨b,0,none⟩) h.1 _⟩
 ·refine(Tryz.Builder_copyCheck_used b w h.cell0).mono ?_
  rintro e w' ⟨rfl,rfl⟩
  exact⟨rfl,h,Below.refl B _⟩
set_option maxHeartbeats 2000000 in
set_option maxRecDepth 100000 in
theorem Tryz.Builder_WriteByte (B b:Nat) (bs:List Value) (c:Int) (w:World) (h:Lib.IsBuilder 112 5 B b bs w) (hlen:bs.length+1<=140737488355328) (Xt:B<=w.heap.size):
 Calls Tryz.prog 81 #[.pointer (some ⟨b,0,none⟩),.int .u8 c] w λe w'=>e= .returned .nilIface/\(Lib.BuilderAt 112 5 B b (.pointer (some ⟨b,0,none⟩)) (bs++[.int .u8 c]) w'/\Below B w w'):=by
 have X:=Tryz.H8
 obtain⟨i0,hi,hz0,hz1,hz2⟩:=info_parts X.infoByte
 go_enter Tryz.func81,Tryz.ntmps81
 go_wp2_with (go_at_call 116;refine(Tryz.Builder_copyCheck B b bs _ h).mono ?_)
 rintro e w1 ⟨rfl,h1,hb1⟩
 obtain⟨hB,v,Js,hown,hne⟩:=h1
 have bC:w1.cell? ⟨b,0,none⟩=some (.pointer (some ⟨b,0,none⟩)):=by rw[Lib.cell_of_heap Js];rfl
 have c1:w1.cell? ⟨b,1,none⟩=some v:=by rw[Lib.cell_of_heap Js];rfl
 go_wp2_with (at_builtin;refine wpList_append_own _ rfl _ _ 60 rfl B 5 i0 (.int .u8 0) 1 1 Tryz.underlying60 hi hz0 hz1 hz2 rfl (by decide) _ _ _ rfl (hown.alloc _) ⟨w1.heap.size,0,none⟩ 1 1 [.int .u8 c] rfl rfl ?c1 ?c2 ?c3 ?c4 ?c5 ?_)
 case c1=>
  intro j u hj
  match j,hj with
  |0,hj=>simp at hj;subst hj;simp[Addr.add]
 case c2=>intro u hu;simp at hu;subst hu;rfl
 case c3=>unfold maxLen;omega
 case c4=>omega
 case c5=>have:=hb1.size;simp;omega
 intro v' w2 hown' hgrow _
 have hlt:b<w1.heap.size:=by
  rcases Nat.lt_or_ge b w1.heap.size with h'|h'
  ·exact h'
  ·simp[Array.getElem?_eq_none h']at Js
 have hb2:w2.heap[b]?=some (.cells #[.pointer (some ⟨b,0,none⟩),v] 112 (0,0)):=by
  rw[hgrow.block b (by simp;omega) (λe=>hne e.symm),Lib.alloc_old w1 _ b hlt]
  exact Js
 have d0:w2.cell? ⟨b,0,none⟩=some (.pointer (some ⟨b,0,none⟩)):=by rw[Lib.cell_of_heap hb2];rfl
 have d1:w2.cell? ⟨b,1,none⟩=some v:=by rw[Lib.cell_of_heap hb2];rfl
 have f1:w2.frozen? ⟨b,1,none⟩=false:=Lib.frozen_of_heap hb2 1
 obtain⟨g,cap,rfl⟩:∃g cap,v'= .slice (some ⟨g,0,none⟩) (bs.length+1) cap:=by
  rcases hown'.2 with⟨_,h0⟩|⟨g,cap,cur,hv,_⟩
  ·omega
  ·exact⟨g,cap,hv⟩
 go_wp2
 go_ret
 refine⟨rfl,?_,?_⟩
 ·exact Lib.BuilderAt.put (T:=112) (e:=5) hB hb2 (bs':=bs++[.int .u8 c]) (by simpa using hown') X.neB5
 ·exact((hb1.alloc (by have:=hb1.size;omega) _).grown hgrow (by have:=hb1.size;simp;omega) (λk hk=>(hown.lt k hk).1)).setCell (p:=⟨b,1,none⟩) hB _
end Go.Proofs
namespace Go.cu
open Go Go.bo Go.Proofs Go.RowKit
theorem E2 {w w':World} (h:Below w.heap.size w w'):w.Extends w':=
 ⟨h.os,h.tape,h.output,h.size,λa ha=>by unfold World.cell?;rw[h.block a.block ha],λa ha=>by unfold World.frozen?;rw[h.block a.block ha],h.block⟩
theorem ap6 {wb:World}:bb wb oH:=by
 intro zs hz
 obtain⟨rs,h1,h2,h3⟩:=amw (wb:=wb) (f:=163) (id:=73) Tryz.func163 (by kernel_rfl) (by kernel_rfl) (by kernel_rfl) (by kernel_rfl) zs hz
 match zs,hz with
 |[s,c],hz=>
  refine⟨rs,h1,?_,h3⟩
  subst h2
  rfl
theorem af5 (b:UInt8) (l:aH):dd (b::l)=((b==46&&l.getD 0 0==46)||dd l):=by
 unfold dd
 rw[List.length_cons,List.range_succ_eq_map,List.any_cons,List.any_map]
 rfl
theorem Wh:∀l:aH,Lib.contains l [46,46]=dd l
 |[]=>rfl
 |b::l=>by
  have ih:=Wh l
  unfold Lib.contains at ih⊢
  rw[af5,<-ih]
  have sym:∀x:UInt8,((46:UInt8)==x)=(x==46):=λx=>by rw[Bool.eq_iff_iff,beq_iff_eq,beq_iff_eq];exact eq_comm
  have hp:([46,46]:aH).isPrefixOf (b::l)=(b==46&&l.getD 0 0==46):=by
   cases l with
   |nil=>
    show((46:UInt8)==b&&false)=(b==46&&((0:UInt8)==46))
    rw[sym];rfl
   |cons c r=>
    show((46:UInt8)==b&&((46:UInt8)==c&&true))=(b==46&&c==46)
    rw[sym,sym,Bool.and_true]
  have he:Lib.index (b::l) [46,46]=if([46,46]:aH).isPrefixOf (b::l)=true then 0 else if(Lib.index l [46,46]==-1)=true then-1 else Lib.index l [46,46]+1:=rfl
  rw[he,hp]
  cases(b==46&&l.getD 0 0==46)with
  |true=>rfl
  |false=>
   rw[if_neg (by decide),Bool.false_or]
   by_cases he:(Lib.index l [46,46]==-1)=true
   ·rw[if_pos he]
    have:=beq_iff_eq.1 he
    rw[this]
   ·rw[if_neg he]
    have he:¬Lib.index l [46,46]=-1:=λe=>he (beq_iff_eq.2 e)
    have:=Lib.index_ge [46,46] l
    rw[Bool.eq_iff_iff,decide_eq_true_eq,decide_eq_true_eq]
    omega
theorem apI {wb:World} (hc:∃m,wb.cell? ⟨2,0,none⟩=some (.int .i64 m)) (h0:2<wb.heap.size):wF wb Dt:=by
 intro zs hz hp
 match zs,hz with
 |[z],hz=>
  refine⟨[aL (dd (U z))],⟨(pE _).1,(pE _).2,trivial⟩,rfl,λw hw=> .inr ⟨enters (by kernel_rfl) _ _,?_⟩⟩
  obtain⟨m,hm⟩:=hc
  have vj:w.cell? ⟨2,0,none⟩=some (.int .i64 m):=by rw[hw.cell ⟨2,0,none⟩ h0];exact hm
  have hl:(U z).length<=4294967280:=hp
  refine(Tryz.strings_Contains (bw (U z)) (bw [46,46]) m w (by show(U z).toArray.size<_;simp;omega) vj).mono ?_
  rintro e w' ⟨rfl,rfl⟩
  refine⟨?_,World.Extends.refl _⟩
  have e1:(bw (U z)).data.toList=U z:=by simp[bw]
  have e2:(bw [46,46]).data.toList=[46,46]:=rfl
  rw[e1,e2,Wh]
  show _=Ending.returned (Value.bool (decide (aL (dd (U z))=1)))
  rw[MP]
theorem ET {l:aH} {n:Nat} (h:l.length<=n) (hn:n<=140737488351232):0<=ev l/\ev l<=bM:=⟨ra _,oW (by unfold gk;omega)⟩
end Go.cu
namespace Go.Proofs
open Go.RowKit Go.cu
def wQ (s:aH):Value:=match jI s with|some (c,t)=> .tuple #[.agg #[.string ⟨c.toArray⟩,.string ⟨t.toArray⟩],.bool true]|none=> .tuple #[.agg #[.string ⟨#[]⟩,.string ⟨#[]⟩],.bool false]
theorem atq {α:Type} (a:Array α) (x y:α):(a.push x).setIfInBounds a.size y=a.push y:=by
 apply Array.ext'
 simp
theorem aeV {s t:ByteArray} (h:¬s=t):(s==t)=false:=by
 cases h':(s==t)with
 |false=>rfl
 |true=>
  have h':(s.data==t.data)=true:=h'
  exact absurd (ByteArray.ext (eq_of_beq h')) h
def Kj (z:Value):Option (Nat×Value)->Value
 |some (_,v)=> .tuple #[v,.bool true]
 |none=> .tuple #[z,.bool false]
theorem C9 {P:Program} {GN Ah sa:TypeId} (hm:P.underlying GN=some (.map Ah sa)) (hk:P.underlying Ah=some .string) (W:World) (es:Array MapEntry) (clock:Nat) (s:ByteArray) (v:Value) (hf:Instr.findNow .string (.string s) es.toList 0=some none):
 (Instr.mapUpdate GN (.map (some W.heap.size)) (.string s) v).run P (W.alloc (.map es clock))= .ok () (W.alloc (.map (es.push {key:= .string s,val:=v,born:=clock}) (clock+1))):=by
 have hb:(W.alloc (.map es clock)).heap[W.heap.size]?=some (.map es clock):=heap_alloc_new W _
 have hc:(Instr.checkKey false 10000 Ah (.string s)).run P (W.alloc (.map es clock))= .ok () (W.alloc (.map es clock)):=MapKept.run_checkKey (k:= .string s) hk (by simp[MapKept.IsKey]) false 9999
 simp only[Instr.mapUpdate,Sem.run_bind,run_underlying hm,Result.andThen,MapKept.run_getObj_map hb,Sem.run_pure,hc,MapKept.run_findKey hk hf,MapKept.run_setObj_map _ hb]
 simp only[World.alloc,atq]
theorem ao9 {P:Program} {GN Ah sa:TypeId} {z:Value} (hm:P.underlying GN=some (.map Ah sa)) (hk:P.underlying Ah=some .string) (hz:∀w,(zeroValue sa).run P w= .ok z w) (W:World) (es:Array MapEntry) (clock:Nat) (s:ByteArray) (a:Option (Nat×Value)) (hf:Instr.findNow .string (.string s) es.toList 0=some a):
 (Instr.lookup GN (.map (some W.heap.size)) (.string s) true).run P (W.alloc (.map es clock))= .ok (Kj z a) (W.alloc (.map es clock)):=by
 have hb:(W.alloc (.map es clock)).heap[W.heap.size]?=some (.map es clock):=heap_alloc_new W _
 have hc:(Instr.checkKey es.isEmpty 10000 Ah (.string s)).run P (W.alloc (.map es clock))= .ok () (W.alloc (.map es clock)):=MapKept.run_checkKey (k:= .string s) hk (by simp[MapKept.IsKey]) _ 9999
 simp only[Instr.lookup,Sem.run_bind,run_underlying hm,Result.andThen,MapKept.run_getObj_map hb,Sem.run_pure,hc,MapKept.run_findKey hk hf]
 cases a with
 |none=>simp[hz,Kj]
 |some p=>simp[Kj]
theorem aeU {s t:ByteArray}:s=t↔s.data.toList=t.data.toList:=⟨λh=>by rw[h],λh=>ByteArray.ext (Array.toList_inj.1 h)⟩
def GH:Array MapEntry:=#[{key:=Value.string {data:=#[]},val:=Value.agg #[Value.string {data:=#[]},Value.string {data:=#[]}],born:=0},{key:=Value.string {data:=#[71,66]},val:=Value.agg #[Value.string {data:=#[52,52]},Value.string {data:=#[48]}],born:=1},{key:=Value.string {data:=#[85,83]},val:=Value.agg #[Value.string {data:=#[49]},Value.string {data:=#[]}],born:=2},{key:=Value.string {data:=#[68,69]},val:=Value.agg #[Value.string {data:=#[52,57]},Value.string {data:=#[48]}],born:=3},{key:=Value.string {data:=#[70,82]},val:=Value.agg #[Value.string {data:=#[51,51]},Value.string {data:=#[48]}],born:=4},{key:=Value.string {data:=#[67,72]},val:=Value.agg #[Value.string {data:=#[52,49]},Value.string {data:=#[48]}],born:=5}]
theorem anB (s:ByteArray):∃a,Instr.findNow .string (.string s) GH.toList 0=some a/\Kj (.agg #[.string ⟨#[]⟩,.string ⟨#[]⟩]) a=wQ s.data.toList:=by
 by_cases h0:s={data:=#[]}
 ·subst h0;exact⟨_,rfl,rfl⟩
 by_cases h1:s={data:=#[71,66]}
 ·subst h1;exact⟨_,rfl,rfl⟩
 by_cases h2:s={data:=#[85,83]}
 ·subst h2;exact⟨_,rfl,rfl⟩
 by_cases h3:s={data:=#[68,69]}
 ·subst h3;exact⟨_,rfl,rfl⟩
 by_cases h4:s={data:=#[70,82]}
 ·subst h4;exact⟨_,rfl,rfl⟩
 by_cases h5:s={data:=#[67,72]}
 ·subst h5;exact⟨_,rfl,rfl⟩
 have n:∀t:ByteArray,¬s=t->(s==t)=false:=λt h=>aeV h
 refine⟨none,?_,?_⟩
 ·simp only[GH,Instr.findNow,Instr.sameNow,n _ h0,n _ h1,n _ h2,n _ h3,n _ h4,n _ h5]
 ·have m:∀t:aH,¬s=⟨t.toArray⟩->(s.data.toList==t)=false:=λt h=>by
   cases ai:(s.data.toList==t)with
   |false=>rfl
   |true=>exact absurd (aeU.2 (by rw[beq_iff_eq.1 ai])) h
  unfold wQ jI
  rw[m [] h0,m [71,66] h1,m [85,83] h2,m [68,69] h3,m [70,82] h4,m [67,72] h5]
  rfl
set_option maxHeartbeats 4000000 in
set_option maxRecDepth 1000000 in
theorem Tryz.afZ (s:ByteArray) (w:World):
 Calls Tryz.prog 129 #[.string s] w λe w'=>e= .returned (wQ s.data.toList)/\Below w.heap.size w w':=by
 go_enter Tryz.func129,Tryz.ntmps129
 have aCx:∀W:World,(Instr.makeMap 180 none).run Tryz.prog W= .ok (.map (some W.heap.size)) (W.alloc (.map #[] 0)):=λW=>run_makeMap 180 W
 have Ge:(Instr.mapUpdate 180 (.map (some (w.heap.size+1))) (.string {data:=#[]}) (Value.agg #[Value.string {data:=#[]},Value.string {data:=#[]}])).run Tryz.prog ((w.alloc (Obj.cells #[Value.string {data:=#[]},Value.string {data:=#[]}] 154)).alloc (.map #[] 0))= .ok () ((w.alloc (Obj.cells #[Value.string {data:=#[]},Value.string {data:=#[]}] 154)).alloc (.map #[{key:=Value.string {data:=#[]},val:=Value.agg #[Value.string {data:=#[]},Value.string {data:=#[]}],born:=0}] 1)):=by
  have:=C9 Tryz.underlying180 Tryz.underlying9 (w.alloc (Obj.cells #[Value.string {data:=#[]},Value.string {data:=#[]}] 154)) #[] 0 {data:=#[]} (Value.agg #[Value.string {data:=#[]},Value.string {data:=#[]}]) rfl
  simpa using this
 have JM:(Instr.mapUpdate 180 (.map (some (w.heap.size+1))) (.string {data:=#[71,66]}) (Value.agg #[Value.string {data:=#[52,52]},Value.string {data:=#[48]}])).run Tryz.prog ((w.alloc (Obj.cells #[Value.string {data:=#[]},Value.string {data:=#[]}] 154)).alloc (.map #[{key:=Value.string {data:=#[]},val:=Value.agg #[Value.string {data:=#[]},Value.string {data:=#[]}],born:=0}] 1))= .ok () ((w.alloc (Obj.cells #[Value.string {data:=#[]},Value.string {data:=#[]}] 154)).alloc (.map #[{key:=Value.string {data:=#[]},val:=Value.agg #[Value.string {data:=#[]},Value.string {data:=#[]}],born:=0},{key:=Value.string {data:=#[71,66]},val:=Value.agg #[Value.string {data:=#[52,52]},Value.string {data:=#[48]}],born:=1}] 2)):=by
  have:=C9 Tryz.underlying180 Tryz.underlying9 (w.alloc (Obj.cells #[Value.string {data:=#[]},Value.string {data:=#[]}] 154)) #[{key:=Value.string {data:=#[]},val:=Value.agg #[Value.string {data:=#[]},Value.string {data:=#[]}],born:=0}] 1 {data:=#[71,66]} (Value.agg #[Value.string {data:=#[52,52]},Value.string {data:=#[48]}]) rfl
  simpa using this
 have xk:(Instr.mapUpdate 180 (.map (some (w.heap.size+1))) (.string {data:=#[85,83]}) (Value.agg #[Value.string {data:=#[49]},Value.string {data:=#[]}])).run Tryz.prog ((w.alloc (Obj.cells #[Value.string {data:=#[]},Value.string {data:=#[]}] 154)).alloc (.map #[{key:=Value.string {data:=#[]},val:=Value.agg #[Value.string {data:=#[]},Value.string {data:=#[]}],born:=0},{key:=Value.string {data:=#[71,66]},val:=Value.agg #[Value.string {data:=#[52,52]},Value.string {data:=#[48]}],born:=1}] 2))= .ok () ((w.alloc (Obj.cells #[Value.string {data:=#[]},Value.string {data:=#[]}] 154)).alloc (.map #[{key:=Value.string {data:=#[]},val:=Value.agg #[Value.string {data:=#[]},Value.string {data:=#[]}],born:=0},{key:=Value.string {data:=#[71,66]},val:=Value.agg #[Value.string {data:=#[52,52]},Value.string {data:=#[48]}],born:=1},{key:=Value.string {data:=#[85,83]},val:=Value.agg #[Value.string {data:=#[49]},Value.string {data:=#[]}],born:=2}] 3)):=by
  have:=C9 Tryz.underlying180 Tryz.underlying9 (w.alloc (Obj.cells #[Value.string {data:=#[]},Value.string {data:=#[]}] 154)) #[{key:=Value.string {data:=#[]},val:=Value.agg #[Value.string {data:=#[]},Value.string {data:=#[]}],born:=0},{key:=Value.string {data:=#[71,66]},val:=Value.agg #[Value.string {data:=#[52,52]},Value.string {data:=#[48]}],born:=1}] 2 {data:=#[85,83]} (Value.agg #[Value.string {data:=#[49]},Value.string {data:=#[]}]) rfl
  simpa using this
 have Cl:(Instr.mapUpdate 180 (.map (some (w.heap.size+1))) (.string {data:=#[68,69]}) (Value.agg #[Value.string {data:=#[52,57]},Value.string {data:=#[48]}])).run Tryz.prog ((w.alloc (Obj.cells #[Value.string {data:=#[]},Value.string {data:=#[]}] 154)).alloc (.map #[{key:=Value.string {data:=#[]},val:=Value.agg #[Value.string {data:=#[]},Value.string {data:=#[]}],born:=0},{key:=Value.string {data:=#[71,66]},val:=Value.agg #[Value.string {data:=#[52,52]},Value.string {data:=#[48]}],born:=1},{key:=Value.string {data:=#[85,83]},val:=Value.agg #[Value.string {data:=#[49]},Value.string {data:=#[]}],born:=2}] 3))= .ok () ((w.alloc (Obj.cells #[Value.string {data:=#[]},Value.string {data:=#[]}] 154)).alloc (.map #[{key:=Value.string {data:=#[]},val:=Value.agg #[Value.string {data:=#[]},Value.string {data:=#[]}],born:=0},{key:=Value.string {data:=#[71,66]},val:=Value.agg #[Value.string {data:=#[52,52]},Value.string {data:=#[48]}],born:=1},{key:=Value.string {data:=#[85,83]},val:=Value.agg #[Value.string {data:=#[49]},Value.string {data:=#[]}],born:=2},{key:=Value.string {data:=#[68,69]},val:=Value.agg #[Value.string {data:=#[52,57]},Value.string {data:=#[48]}],born:=3}] 4)):=by
  have:=C9 Tryz.underlying180 Tryz.underlying9 (w.alloc (Obj.cells #[Value.string {data:=#[]},Value.string {data:=#[]}] 154)) #[{key:=Value.string {data:=#[]},val:=Value.agg #[Value.string {data:=#[]},Value.string {data:=#[]}],born:=0},{key:=Value.string {data:=#[71,66]},val:=Value.agg #[Value.string {data:=#[52,52]},Value.string {data:=#[48]}],born:=1},{key:=Value.string {data:=#[85,83]},val:=Value.agg #[Value.string {data:=#[49]},Value.string {data:=#[]}],born:=2}] 3 {data:=#[68,69]} (Value.agg #[Value.string {data:=#[52,57]},Value.string {data:=#[48]}]) rfl
  simpa using this
 have aCB:(Instr.mapUpdate 180 (.map (some (w.heap.size+1))) (.string {data:=#[70,82]}) (Value.agg #[Value.string {data:=#[51,51]},Value.string {data:=#[48]}])).run Tryz.prog ((w.alloc (Obj.cells #[Value.string {data:=#[]},Value.string {data:=#[]}] 154)).alloc (.map #[{key:=Value.string {data:=#[]},val:=Value.agg #[Value.string {data:=#[]},Value.string {data:=#[]}],born:=0},{key:=Value.string {data:=#[71,66]},val:=Value.agg #[Value.string {data:=#[52,52]},Value.string {data:=#[48]}],born:=1},{key:=Value.string {data:=#[85,83]},val:=Value.agg #[Value.string {data:=#[49]},Value.string {data:=#[]}],born:=2},{key:=Value.string {data:=#[68,69]},val:=Value.agg #[Value.string {data:=#[52,57]},Value.string {data:=#[48]}],born:=3}] 4))= .ok () ((w.alloc (Obj.cells #[Value.string {data:=#[]},Value.string {data:=#[]}] 154)).alloc (.map #[{key:=Value.string {data:=#[]},val:=Value.agg #[Value.string {data:=#[]},Value.string {data:=#[]}],born:=0},{key:=Value.string {data:=#[71,66]},val:=Value.agg #[Value.string {data:=#[52,52]},Value.string {data:=#[48]}],born:=1},{key:=Value.string {data:=#[85,83]},val:=Value.agg #[Value.string {data:=#[49]},Value.string {data:=#[]}],born:=2},{key:=Value.string {data:=#[68,69]},val:=Value.agg #[Value.string {data:=#[52,57]},Value.string {data:=#[48]}],born:=3},{key:=Value.string {data:=#[70,82]},val:=Value.agg #[Value.string {data:=#[51,51]},Value.string {data:=#[48]}],born:=4}] 5)):=by
  have:=C9 Tryz.underlying180 Tryz.underlying9 (w.alloc (Obj.cells #[Value.string {data:=#[]},Value.string {data:=#[]}] 154)) #[{key:=Value.string {data:=#[]},val:=Value.agg #[Value.string {data:=#[]},Value.string {data:=#[]}],born:=0},{key:=Value.string {data:=#[71,66]},val:=Value.agg #[Value.string {data:=#[52,52]},Value.string {data:=#[48]}],born:=1},{key:=Value.string {data:=#[85,83]},val:=Value.agg #[Value.string {data:=#[49]},Value.string {data:=#[]}],born:=2},{key:=Value.string {data:=#[68,69]},val:=Value.agg #[Value.string {data:=#[52,57]},Value.string {data:=#[48]}],born:=3}] 4 {data:=#[70,82]} (Value.agg #[Value.string {data:=#[51,51]},Value.string {data:=#[48]}]) rfl
  simpa using this
 have aCC:(Instr.mapUpdate 180 (.map (some (w.heap.size+1))) (.string {data:=#[67,72]}) (Value.agg #[Value.string {data:=#[52,49]},Value.string {data:=#[48]}])).run Tryz.prog ((w.alloc (Obj.cells #[Value.string {data:=#[]},Value.string {data:=#[]}] 154)).alloc (.map #[{key:=Value.string {data:=#[]},val:=Value.agg #[Value.string {data:=#[]},Value.string {data:=#[]}],born:=0},{key:=Value.string {data:=#[71,66]},val:=Value.agg #[Value.string {data:=#[52,52]},Value.string {data:=#[48]}],born:=1},{key:=Value.string {data:=#[85,83]},val:=Value.agg #[Value.string {data:=#[49]},Value.string {data:=#[]}],born:=2},{key:=Value.string {data:=#[68,69]},val:=Value.agg #[Value.string {data:=#[52,57]},Value.string {data:=#[48]}],born:=3},{key:=Value.string {data:=#[70,82]},val:=Value.agg #[Value.string {data:=#[51,51]},Value.string {data:=#[48]}],born:=4}] 5))= .ok () ((w.alloc (Obj.cells #[Value.string {data:=#[]},Value.string {data:=#[]}] 154)).alloc (.map #[{key:=Value.string {data:=#[]},val:=Value.agg #[Value.string {data:=#[]},Value.string {data:=#[]}],born:=0},{key:=Value.string {data:=#[71,66]},val:=Value.agg #[Value.string {data:=#[52,52]},Value.string {data:=#[48]}],born:=1},{key:=Value.string {data:=#[85,83]},val:=Value.agg #[Value.string {data:=#[49]},Value.string {data:=#[]}],born:=2},{key:=Value.string {data:=#[68,69]},val:=Value.agg #[Value.string {data:=#[52,57]},Value.string {data:=#[48]}],born:=3},{key:=Value.string {data:=#[70,82]},val:=Value.agg #[Value.string {data:=#[51,51]},Value.string {data:=#[48]}],born:=4},{key:=Value.string {data:=#[67,72]},val:=Value.agg #[Value.string {data:=#[52,49]},Value.string {data:=#[48]}],born:=5}] 6)):=by
  have:=C9 Tryz.underlying180 Tryz.underlying9 (w.alloc (Obj.cells #[Value.string {data:=#[]},Value.string {data:=#[]}] 154)) #[{key:=Value.string {data:=#[]},val:=Value.agg #[Value.string {data:=#[]},Value.string {data:=#[]}],born:=0},{key:=Value.string {data:=#[71,66]},val:=Value.agg #[Value.string {data:=#[52,52]},Value.string {data:=#[48]}],born:=1},{key:=Value.string {data:=#[85,83]},val:=Value.agg #[Value.string {data:=#[49]},Value.string {data:=#[]}],born:=2},{key:=Value.string {data:=#[68,69]},val:=Value.agg #[Value.string {data:=#[52,57]},Value.string {data:=#[48]}],born:=3},{key:=Value.string {data:=#[70,82]},val:=Value.agg #[Value.string {data:=#[51,51]},Value.string {data:=#[48]}],born:=4}] 5 {data:=#[67,72]} (Value.agg #[Value.string {data:=#[52,49]},Value.string {data:=#[48]}]) rfl
  simpa using this
 obtain⟨c,t,ok,hl,hv⟩:∃(c t:ByteArray) (ok:Bool),(Instr.lookup 180 (.map (some (w.heap.size+1))) (.string s) true).run Tryz.prog ((w.alloc (Obj.cells #[Value.string {data:=#[]},Value.string {data:=#[]}] 154)).alloc (.map #[{key:=Value.string {data:=#[]},val:=Value.agg #[Value.string {data:=#[]},Value.string {data:=#[]}],born:=0},{key:=Value.string {data:=#[71,66]},val:=Value.agg #[Value.string {data:=#[52,52]},Value.string {data:=#[48]}],born:=1},{key:=Value.string {data:=#[85,83]},val:=Value.agg #[Value.string {data:=#[49]},Value.string {data:=#[]}],born:=2},{key:=Value.string {data:=#[68,69]},val:=Value.agg #[Value.string {data:=#[52,57]},Value.string {data:=#[48]}],born:=3},{key:=Value.string {data:=#[70,82]},val:=Value.agg #[Value.string {data:=#[51,51]},Value.string {data:=#[48]}],born:=4},{key:=Value.string {data:=#[67,72]},val:=Value.agg #[Value.string {data:=#[52,49]},Value.string {data:=#[48]}],born:=5}] 6))= .ok (.tuple #[.agg #[.string c,.string t],.bool ok]) ((w.alloc (Obj.cells #[Value.string {data:=#[]},Value.string {data:=#[]}] 154)).alloc (.map #[{key:=Value.string {data:=#[]},val:=Value.agg #[Value.string {data:=#[]},Value.string {data:=#[]}],born:=0},{key:=Value.string {data:=#[71,66]},val:=Value.agg #[Value.string {data:=#[52,52]},Value.string {data:=#[48]}],born:=1},{key:=Value.string {data:=#[85,83]},val:=Value.agg #[Value.string {data:=#[49]},Value.string {data:=#[]}],born:=2},{key:=Value.string {data:=#[68,69]},val:=Value.agg #[Value.string {data:=#[52,57]},Value.string {data:=#[48]}],born:=3},{key:=Value.string {data:=#[70,82]},val:=Value.agg #[Value.string {data:=#[51,51]},Value.string {data:=#[48]}],born:=4},{key:=Value.string {data:=#[67,72]},val:=Value.agg #[Value.string {data:=#[52,49]},Value.string {data:=#[48]}],born:=5}] 6))/\Hid (Value.tuple #[.agg #[.string c,.string t],.bool ok]=wQ s.data.toList):=by
  obtain⟨a,hf,ha⟩:=anB s
  have:=ao9 (z:= .agg #[.string ⟨#[]⟩,.string ⟨#[]⟩]) Tryz.underlying180 Tryz.underlying9 (λw=>Tryz.zeroValue154 w) (w.alloc (Obj.cells #[Value.string {data:=#[]},Value.string {data:=#[]}] 154)) GH 6 s a hf
  have hsz:(w.alloc (Obj.cells #[Value.string {data:=#[]},Value.string {data:=#[]}] 154)).heap.size=w.heap.size+1:=by simp
  rw[hsz,ha]at this
  have hr:∃(c t:ByteArray) (ok:Bool),wQ s.data.toList=Value.tuple #[.agg #[.string c,.string t],.bool ok]:=by
   unfold wQ
   cases jI s.data.toList with
   |none=>exact⟨_,_,_,rfl⟩
   |some p=>exact⟨_,_,_,rfl⟩
  obtain⟨c,t,ok,hr⟩:=hr
  rw[hr]at this
  exact⟨c,t,ok,this,hr.symm⟩
 go_wp2
 refine bodyPost_ret (v:= .tuple #[.agg #[.string c,.string t],.bool ok]) ?_ rfl ⟨congrArg _ hv,(((Below.refl _ w).alloc (Nat.le_refl _) _).alloc (by simp) _).alloc (by simp;omega) _⟩
 have hg:∀o1 o2:Obj,(((w.alloc (Obj.cells #[Value.string c,Value.string t] 154)).alloc o1).alloc o2).heap[w.heap.size]?=some (.cells #[.string c,.string t] 154 (0,0)):=λo1 o2=>by
  rw[Lib.alloc_old _ _ _ (by simp;omega),Lib.alloc_old _ _ _ (by simp),heap_alloc_new]
 have l4:=run_loadVar_row (P:=Tryz.prog) (((w.alloc (Obj.cells #[Value.string c,Value.string t] 154)).alloc (.map GH 6)).alloc (Obj.cells #[Value.string c,Value.string t] 154)) w.heap.size 154 154 #[.string c,.string t] (0,0) _ (hg _ _) Tryz.underlying154 rfl (by kernel_rfl)
 rw[results_cell_tmp rfl]
 show((loadVar 154 ⟨w.heap.size,0,none⟩).run Tryz.prog (((w.alloc (Obj.cells #[Value.string c,Value.string t] 154)).alloc (.map GH 6)).alloc (Obj.cells #[Value.string c,Value.string t] 154))).andThen _=_
 rw[l4]
 rfl
end Go.Proofs
namespace Go.cu
open Go Go.bo Go.Proofs Go.RowKit
theorem apO {wb:World}:bb wb J8:=by
 intro zs hz
 match zs,hz with
 |[z],hz=>
  have hw:=λw=>Tryz.afZ (bw (U z)) w
  have e1:(bw (U z)).data.toList=U z:=by simp[bw]
  cases ib:jI (U z)with
  |none=>
   refine⟨[0,0,0],⟨Int.le_refl _,fv,Int.le_refl _,fv,by decide,by decide,trivial⟩,?_,λw _=> .inr ⟨enters (by kernel_rfl) _ _,?_⟩⟩
   ·show(match jI (U z)with|some (code,gD)=>U 0=code/\U 0=gD/\(0:Int)=1|none=>(0:Int)=0/\U 0=[]/\U 0=[])
    rw[ib];exact⟨rfl,rfl,rfl⟩
   ·refine(hw w).mono ?_
    rintro e w' ⟨rfl,hb⟩
    refine⟨?_,E2 hb⟩
    rw[e1];unfold wQ;rw[ib];rfl
  |some u5=>
   obtain⟨c,t⟩:=u5
   have h1:=ET (Nn ib) (by decide)
   have h2:0<=ev t/\ev t<=bM:=ET (n:=1) (by rcases No ib with h|h<;>rw[h]<;>decide) (by decide)
   refine⟨[ev c,ev t,1],⟨h1.1,h1.2,h2.1,h2.2,by decide,by decide,trivial⟩,?_,λw _=> .inr ⟨enters (by kernel_rfl) _ _,?_⟩⟩
   ·show(match jI (U z)with|some (code,gD)=>U (ev c)=code/\U (ev t)=gD/\(1:Int)=1|none=>(1:Int)=0/\U (ev c)=[]/\U (ev t)=[])
    rw[ib];exact⟨fm _,fm _,rfl⟩
   ·refine(hw w).mono ?_
    rintro e w' ⟨rfl,hb⟩
    refine⟨?_,E2 hb⟩
    rw[e1];unfold wQ;rw[ib]
    show _=Ending.returned (.tuple #[.agg #[.string (bw (U (ev c))),.string (bw (U (ev t)))],.bool true])
    rw[fm,fm];rfl
end Go.cu
namespace Go.Proofs
open Go.RowKit Go.cu
theorem afd (s:ByteArray):s.data.toList.length=s.size:=by rw[Array.length_toList];rfl
def Bw (s:aH):Value:=match fh s [] false with|some (d,p)=> .tuple #[.string ⟨d.toArray⟩,.bool p,.bool true]|none=> .tuple #[.string ⟨#[]⟩,.bool false,.bool false]
theorem amI (c:UInt8):ej c=true↔(48:Int)<=c.toNat/\(c.toNat:Int)<=57:=by
 unfold ej;rw[Bool.and_eq_true,Nat.ble_eq,Nat.ble_eq];omega
theorem aut (c:UInt8):∃R:Int,(R<0↔pv.contains c=false)/\∀w,Calls Tryz.prog 125 #[.string {data:=#[32,45,46,40,41]},.int .u8 c.toNat] w λe w'=>e= .returned (.int .i64 R)/\w'=w:=by
 refine⟨Lib.indexByte pv c,?_,λw=>?_⟩
 ·rw[Lib.contains_iff_indexByte];simp
 ·have:=Tryz.strings_IndexByte ⟨#[32,45,46,40,41]⟩ (c.toNat:Int) w
  have e:(c.toNat:Int).toNat.toUInt8=c:=by simp
  rw[e]at this
  exact this
theorem anJ (d:aH) (b:Nat) (w:World) (h:Lib.IsBuilder 112 5 b b (Lib.byteCells d) w):Calls Tryz.prog 159 #[.pointer (some ⟨b,0,none⟩)] w λe w'=>e= .returned (.int .i64 d.length)/\w'=w:=by
 have:=Tryz.Builder_Len b b _ w h
 rwa [Lib.byteCells_length]at this
set_option maxHeartbeats 4000000 in
set_option maxRecDepth 1000000 in
theorem Tryz.aeX (s:ByteArray) (w:World) (hs:s.size<=140737488351232):
 Calls Tryz.prog 130 #[.string s] w λe w'=>e= .returned (Bw s.data.toList)/\Below w.heap.size w w':=by
 go_enter Tryz.func130,Tryz.ntmps130
 go_wp2
 go_loopw [10,3] (λvi ayb wr=>∃(i:Nat) (d:List UInt8) (p:Bool),vi= .int .i64 i/\ayb= .bool p/\i<=s.size/\d.length<=i/\Hid (fh (s.data.toList.drop i) d p=fh s.data.toList [] false)/\Lib.IsBuilder 112 5 w.heap.size w.heap.size (Lib.byteCells d) wr/\Below w.heap.size w wr) (λvi _ _=>s.size-(RowKit.intOf vi).toNat)
 case atStart=>
  exact⟨0,[],false,rfl,rfl,Nat.zero_le _,Nat.le_refl _,rfl,Lib.fresh_isBuilder 112 5 w,(Below.refl _ w).alloc (Nat.le_refl _) _⟩
 case round=>
  obtain⟨i,d,p,rfl,rfl,hi,hd,hb,hI,l5⟩:=hrel
  have hsz:s.data.toList.length=s.size:=afd s
  by_cases hlt:i<s.size
  ·have Pv:(i:Int)<(s.size:Int):=by omega
   have qC:¬((i:Int)<0):=by omega
   have hc:s.data.toList.getD i 0=s[i]:=by
    simp only[List.getD,List.getElem?_eq_getElem (show i<s.data.toList.length by omega),Option.getD_some]
    rfl
   have hst:=VL (s:=s.data.toList) (d:=d) (p:=p) (i:=i) (by omega)
   rw[hc]at hst
   have hD:=amI s[i]
   have fin:∀{d':aH} {p':Bool},fh (List.drop i s.data.toList) d p=fh (List.drop (i+1) s.data.toList) d' p'->Hid (fh (List.drop (i+1) s.data.toList) d' p'=fh s.data.toList [] false):=λh=>by
    have hb:fh (List.drop i s.data.toList) d p=fh s.data.toList [] false:=hb
    show _=_
    rw[<-hb,h]
   have bad:fh (List.drop i s.data.toList) d p=none->Value.tuple #[.string ⟨#[]⟩,.bool false,.bool false]=Bw s.data.toList:=λh=>by
    have hb:fh (List.drop i s.data.toList) d p=fh s.data.toList [] false:=hb
    unfold Bw
    rw[<-hb,h]
   obtain⟨R,hR,rl⟩:=aut s[i]
   have B4:=λW=>anJ d w.heap.size W
   by_cases sc:(48:Int)<=s[i].toNat/\(s[i].toNat:Int)<=57
   ·have akw:=hD.2 sc
    obtain⟨sc,Oc⟩:=sc
    rw[akw,cond_true]at hst
    clear hR rl B4 bad
    go_wp2_with (go_at_call 81;refine(Tryz.Builder_WriteByte w.heap.size w.heap.size _ _ _ hI (by rw[Lib.byteCells_length];omega) l5.size).mono ?_)
    rintro e W1 rfl h1 b1
    go_wp2
    go_roundw
    case rel=>
     refine⟨i+1,d++[s[i]],p,by simp,rfl,by omega,by simp;omega,fin hst,?_,l5.trans b1⟩
     rw[Lib.byteCells_append];exact Or.inr h1
    case measure=>simp[intOf];omega
   ·have Gb:ej s[i]=false:=by
     cases ai:ej s[i]with
     |false=>rfl
     |true=>exact absurd (hD.1 ai) sc
    rw[Gb,cond_false]at hst
    by_cases ri:s[i]=43
    ·have BN:(s[i].toNat:Int)=43:=by rw[ri];rfl
     have Z3:¬(48:Int)<=s[i].toNat:=by omega
     have pa:pv.contains s[i]=false:=by rw[ri];rfl
     have XA:=hR.2 pa
     rw[pa,cond_false]at hst
     by_cases hgo:d.length=0/\p=false
     ·obtain⟨vb,rfl⟩:=hgo
      have aks:d=[]:=List.length_eq_zero_iff.1 vb
      have P2:fh (List.drop i s.data.toList) d false=fh (List.drop (i+1) s.data.toList) d true:=by
       rw[hst,ri,aks];rfl
      have Jv:(d.length:Int)=0:=by omega
      rw[Jv]at B4
      go_wp2_with (go_at_call 159;refine(B4 _ hI).mono ?_)
      go_roundw
      case rel=>
       exact⟨i+1,d,true,by simp,rfl,by omega,by omega,fin P2,hI,l5⟩
      case measure=>simp[intOf];omega
     ·have hno:fh (List.drop i s.data.toList) d p=none:=by
       rw[hst]
       have:(d.isEmpty&& !p)=false:=by
        cases d with
        |nil=>
         cases p with
         |true=>rfl
         |false=>exact absurd ⟨rfl,rfl⟩ hgo
        |cons x r=>rfl
       rw[Bool.and_assoc,this,Bool.and_false];rfl
      have FE:=bad hno
      clear hR
      rw[BN]at rl
      by_cases vb:d.length=0
      ·have hp:p=true:=by
        cases p with
        |true=>rfl
        |false=>exact absurd ⟨vb,rfl⟩ hgo
       subst hp
       have Jv:(d.length:Int)=0:=by omega
       rw[Jv]at B4
       go_wp2_with (go_at_call 159;refine(B4 _ hI).mono ?_)
       go_wp2_with (go_at_call 125;refine(rl _).mono ?_)
       rintro e W1 ⟨rfl,rfl⟩
       go_wp2
       go_ret3
       refine⟨?_,l5⟩
       rw[<-FE]
       rfl
      ·have Jv:¬(d.length:Int)=0:=by omega
       go_wp2_with (go_at_call 159;refine(B4 _ hI).mono ?_)
       go_wp2_with (go_at_call 125;refine(rl _).mono ?_)
       rintro e W1 ⟨rfl,rfl⟩
       go_wp2
       go_ret3
       refine⟨?_,l5⟩
       rw[<-FE]
       rfl
    ·have Z1:¬(s[i].toNat:Int)=43:=λe=>ri (by rw[<-UInt8.toNat_inj];show s[i].toNat=43;omega)
     have BN:(s[i]==43)=false:=by simpa using ri
     rw[BN,Bool.false_and,Bool.false_and,cond_false]at hst
     have Xm:¬(48:Int)<=s[i].toNat∨((48:Int)<=s[i].toNat/\¬(s[i].toNat:Int)<=57):=by omega
     cases hsp:pv.contains s[i]with
     |false=>
      have XA:=hR.2 hsp
      rw[hsp,cond_false]at hst
      have FE:=bad hst
      clear hR
      rcases Xm with Z3|⟨SS,apt⟩
      ·go_wp2_with (go_at_call 125;refine(rl _).mono ?_)
       go_ret3
       refine⟨?_,l5⟩
       rw[<-FE]
       rfl
      ·go_wp2_with (go_at_call 125;refine(rl _).mono ?_)
       go_ret3
       refine⟨?_,l5⟩
       rw[<-FE]
       rfl
     |true=>
      have XA:¬R<0:=λh=>by have:=hR.1 h;rw[hsp]at this;cases this
      rw[hsp,cond_true]at hst
      clear hR
      rcases Xm with Z3|⟨SS,apt⟩
      ·go_wp2_with (go_at_call 125;refine(rl _).mono ?_)
       go_roundw
       case rel=>exact⟨i+1,d,p,by simp,rfl,by omega,by omega,fin hst,hI,l5⟩
       case measure=>simp[intOf];omega
      ·go_wp2_with (go_at_call 125;refine(rl _).mono ?_)
       go_roundw
       case rel=>exact⟨i+1,d,p,by simp,rfl,by omega,by omega,fin hst,hI,l5⟩
       case measure=>simp[intOf];omega
  ·have ec:¬(i:Int)<(s.size:Int):=by omega
   go_wp2_with (go_at_call 82;refine(Tryz.Builder_String_any w.heap.size w.heap.size d _ hI l5.size).mono ?_)
   rintro e W1 rfl b1
   go_wp2
   go_ret3
   have hb:fh (List.drop i s.data.toList) d p=fh s.data.toList [] false:=hb
   rw[List.drop_of_length_le (by omega),fh]at hb
   refine⟨?_,l5.trans b1⟩
   unfold Bw
   rw[<-hb]
   rfl
end Go.Proofs
namespace Go.cu
open Go Go.bo Go.Proofs Go.RowKit
theorem apH {wb:World}:bb wb J6:=by
 intro zs hz
 match zs,hz with
 |[z],hz=>
  have hl:(U z).length<=140737488351232:=tc hz.2.1
  have hw:=λw=>Tryz.aeX (bw (U z)) w (by show(U z).toArray.size<=_;simpa using hl)
  have e1:(bw (U z)).data.toList=U z:=by simp[bw]
  cases ib:fh (U z) [] false with
  |none=>
   refine⟨[0,0,0],⟨Int.le_refl _,fv,by decide,by decide,by decide,by decide,trivial⟩,?_,λw _=> .inr ⟨enters (by kernel_rfl) _ _,?_⟩⟩
   ·show(match fh (U z) [] false with|some (d',p')=>U 0=d'/\(0:Int)=aL p'/\(0:Int)=1|none=>U 0=[]/\(0:Int)=0/\(0:Int)=0)
    rw[ib];exact⟨rfl,rfl,rfl⟩
   ·refine(hw w).mono ?_
    rintro e w' ⟨rfl,hb⟩
    refine⟨?_,E2 hb⟩
    rw[e1];unfold Bw;rw[ib];rfl
  |some u5=>
   obtain⟨c,t⟩:=u5
   have h1:=ET (EH _ _ _ ib) (by simp;omega)
   refine⟨[ev c,aL t,1],⟨h1.1,h1.2,(pE t).1,(pE t).2,by decide,by decide,trivial⟩,?_,λw _=> .inr ⟨enters (by kernel_rfl) _ _,?_⟩⟩
   ·show(match fh (U z) [] false with|some (d',p')=>U (ev c)=d'/\aL t=aL p'/\(1:Int)=1|none=>U (ev c)=[]/\aL t=0/\(1:Int)=0)
    rw[ib];exact⟨fm _,rfl,rfl⟩
   ·refine(hw w).mono ?_
    rintro e w' ⟨rfl,hb⟩
    refine⟨?_,E2 hb⟩
    rw[e1];unfold Bw;rw[ib]
    show _=Ending.returned (.tuple #[.string (bw (U (ev c))),.bool (decide (aL t=1)),.bool true])
    rw[fm,MP];rfl
end Go.cu
namespace Go.Proofs
open Go.RowKit Go.bo
section
variable {P:Program}
end
theorem Hi (w:World) (g:Nat) (a:Array Value):lS w (w.setRow g a) (some g):=
 ⟨rfl,rfl,rfl,by simp[World.setRow],λk hk hne=>setRow_other w g k a (λe=>hne (by rw[e]))⟩
end Go.Proofs
namespace Go.Proofs
open Go.RowKit Go.bo
section
variable {P:Program}
theorem K2 (w:World) (Wg aul ty e:TypeId) (i:TypeInfo) (hu:P.underlying Wg=some (.slice e)) (hi:P.info? e=some i) (g o IV af3:Nat) (a:Addr) (eJ m1:Nat) (cur:Array Value) (t:TypeId) (cs:List Value)
 (hg:w.heap[g]?=some (.cells cur t (0,0))) (hn:cs.length=Nat.min eJ IV*i.size) (xm:∀j v,cs[j]?=some v->w.cell? (a.add j)=some v) (rm:o+cs.length<=cur.size) (h1:∀v∈cs,v.oneCell'=true):
 (Builtin.copy_ #[Wg,aul] ty #[.slice (some ⟨g,o,none⟩) IV af3,.slice (some a) eJ m1]).run P w= .ok (goInt (Nat.min eJ IV)) (w.setRow g (cur.toList.take o++cs++cur.toList.drop (o+cs.length)).toArray):=by
 have hst:=run_storeCells_at P g o t cs 0 cur w hg (by simpa using rm) h1
 rw[Nat.add_zero]at hst
 have hf:=run_firstCells_some (P:=P) w i.size (Nat.min eJ IV) a eJ m1 cs hn xm
 simp[Builtin.copy_,run_underlying hu,Builtin.lenOf,sizeOf,typeInfo,hi,hf,hst]
theorem abM {ops:Array Oper} {o:Oper} {a:Act} {w:World} {K:Act->World->Prop} {Q:Exit->Act->World->Prop} {E:Prop}
 (hg:o.guard=none) (s x:Operand) (t t':TypeId) (hop:o.op=Op.call {callee:=Callee.builtin Builtin.copy,args:=#[s,x],argTypes:=#[t,t']}) (u v:Value) (hs:a.eval s=u) (hx:a.eval x=v) {r:Value} {w':World}
 (hr:(Builtin.copy_ #[t,t'] o.type #[u,v]).run P w= .ok r w') (hK:K (a.put o.dst r) w'):if Region.wanted o (yielded ops a.tmps)=true then Oper.wp P o a w K Q else E:=by
 have hw:Region.wanted o (yielded ops a.tmps)=true:=by simp[Region.wanted,hg]
 rw[if_pos hw]
 unfold Oper.wp
 simp[execOp,hop,resolve,invoke,builtin,hs,hx,hr,Result.andThen]
 exact hK
theorem Sx {w:World} {ops:Array Oper} {rest:List Oper} {o:Oper} {a:Act} {Q:Exit->Act->World->Prop} (hgd:o.guard=none) (s x:Operand) (t t':TypeId)
 (ho:o.op= .call {callee:= .builtin .append,args:=#[s,x],argTypes:=#[t,t']}) (u v:Value) (hs:a.eval s=u) (hx:a.eval x=v) {r:Value} {w':World}
 (hr:(Builtin.append_ #[t,t'] o.type #[u,v]).run P w= .ok r w') (h:wpList P ops Q rest (a.put o.dst r) w'):wpList P ops Q (o::rest) a w:=by
 refine wpList_plain hgd λK hK=>?_
 unfold Oper.wp
 simp[execOp,ho,resolve,invoke,builtin,hs,hx,hr,Result.andThen]
 exact hK _ _ h
end
set_option maxHeartbeats 4000000 in
set_option maxRecDepth 1000000 in
theorem Tryz.Zg (g n cap:Nat) (A:Addr) (vc:Nat) (r:Value) (w W1:World) (hn:n<=cap) (c0:cap<=9223372036854775807)
 (sg:∀ty,(Builtin.append_ #[22,22] ty #[.slice (some ⟨g,0,none⟩) n cap,.slice (some A) 1 vc]).run Tryz.prog w= .ok r W1):
 Calls Tryz.prog 25 #[.slice (some ⟨g,0,none⟩) n cap,.int .i64 n,.slice (some A) 1 vc] w λe w'=>e= .returned r/\w'=W1:=by
 obtain⟨B,hB⟩:∃B,(if cap=n then some (⟨g,0,none⟩:Addr)else some ⟨g,n*7,none⟩)=B:=⟨_,rfl⟩
 go_enter Tryz.func25,Tryz.ntmps25
 go_wp2_with (at_builtin;refine Sx rfl (.tmp 23) (.tmp 24) 22 22 rfl _ _ rfl rfl (sg _) ?_)
 go_wp2
 all_goals (go_ret;exact⟨rfl,rfl⟩)
set_option maxHeartbeats 4000000 in
set_option maxRecDepth 1000000 in
theorem Tryz.insert_nil (A:Addr) (vc:Nat) (r:Value) (w W1:World)
 (sg:∀ty,(Builtin.append_ #[22,22] ty #[.slice none 0 0,.slice (some A) 1 vc]).run Tryz.prog w= .ok r W1):
 Calls Tryz.prog 25 #[.slice none 0 0,.int .i64 0,.slice (some A) 1 vc] w λe w'=>e= .returned r/\w'=W1:=by
 go_enter Tryz.func25,Tryz.ntmps25
 go_wp2_with (at_builtin;refine Sx rfl (.tmp 23) (.tmp 24) 22 22 rfl _ _ rfl rfl (sg _) ?_)
 go_wp2
 all_goals (go_ret;exact⟨rfl,rfl⟩)
set_option maxHeartbeats 4000000 in
set_option maxRecDepth 1000000 in
theorem Tryz.amE (g n cap i G C:Nat) (A:Addr) (vc:Nat) (r1 r2:Value) (w W1 W2 W3:World) (cN:i<n) (hn:n<=cap) (hroom:cap<n+1) (hC:n+1<=C) (eN:n<=1073741824)
 (sg:∀ty,(Builtin.append_ #[22,3] ty #[.slice (some ⟨g,0,none⟩) i cap,.int .i64 ((n:Int)+1-(i:Int))]).run Tryz.prog w= .ok (.slice (some ⟨G,0,none⟩) (n+1) C) W1)
 (tD:∀ty,(Builtin.copy_ #[22,22] ty #[.slice (some ⟨G,i*7,none⟩) (n+1-i) (C-i),.slice (some A) 1 vc]).run Tryz.prog W1= .ok r1 W2)
 (zn:∀ty,(Builtin.copy_ #[22,22] ty #[.slice (some ⟨G,(i+1)*7,none⟩) (n+1-(i+1)) (C-(i+1)),.slice (some ⟨g,i*7,none⟩) (n-i) (cap-i)]).run Tryz.prog W2.drew= .ok r2 W3):
 Calls Tryz.prog 25 #[.slice (some ⟨g,0,none⟩) n cap,.int .i64 i,.slice (some A) 1 vc] w λe w'=>e= .returned (.slice (some ⟨G,0,none⟩) (n+1) C)/\w'=W3:=by
 have f1:¬cap=i:=by omega
 have f2:¬C=i:=by omega
 have f3:¬C=i+1:=by omega
 have f4:i<=cap:=by omega
 have f5:¬((i:Int)=(n:Int)):=by omega
 have f6:(cap:Int)<(n:Int)+1:=by omega
 have f7:i<=C:=by omega
 have f8:i+1<=C:=by omega
 have f9:((i:Int)+1).toNat=i+1:=by omega
 have f10:(0:Int)<=(i:Int)+1:=by omega
 have f11:(i:Int)+1<=(n:Int)+1:=by omega
 have f12:i<=n:=by omega
 have f13:IntKind.i64.wrap ((i:Int)+1)=(i:Int)+1:=by rw[IntKind.wrap_i64];omega
 go_enter Tryz.func25,Tryz.ntmps25
 go_wp2_with (first
  |(at_builtin;refine Sx rfl (.tmp 34) (.tmp 39) 22 3 rfl _ _ rfl rfl (sg _) ?_)
  |(at_builtin;refine ayh rfl (.tmp 43) (.tmp 44) 22 22 rfl _ _ rfl rfl (tD _) ?_))
 go_region_law (refine abM rfl (.tmp 50) (.tmp 53) 22 22 rfl (.slice (some ⟨G,(i+1)*7,none⟩) (n+1-(i+1)) (C-(i+1))) (.slice (some ⟨g,i*7,none⟩) (n-i) (cap-i)) (by simp[Act.eval,Act.put]) (by simp[Act.eval,Act.put]) (zn _) ?_)
 go_wp2
 go_ret
 exact⟨rfl,rfl⟩
set_option maxHeartbeats 4000000 in
set_option maxRecDepth 1000000 in
theorem Tryz.amF (g n cap i:Nat) (A:Addr) (vc:Nat) (r1 r2:Value) (w W1 W2:World) (cN:i<n) (hn:n+1<=cap) (eN:n<=1073741824)
 (YH:(callFunc 40 #[.slice (some A) 1 vc,.slice (some ⟨g,(i+1)*7,none⟩) (n-i) (cap-(i+1))]).run Tryz.prog w= .ok (.value (.bool false)) w)
 (tD:∀ty,(Builtin.copy_ #[22,22] ty #[.slice (some ⟨g,(i+1)*7,none⟩) (n+1-(i+1)) (cap-(i+1)),.slice (some ⟨g,i*7,none⟩) (n+1-i) (cap-i)]).run Tryz.prog w.drew= .ok r1 W1)
 (zn:∀ty,(Builtin.copy_ #[22,22] ty #[.slice (some ⟨g,i*7,none⟩) (n+1-i) (cap-i),.slice (some A) 1 vc]).run Tryz.prog W1= .ok r2 W2):
 Calls Tryz.prog 25 #[.slice (some ⟨g,0,none⟩) n cap,.int .i64 i,.slice (some A) 1 vc] w λe w'=>e= .returned (.slice (some ⟨g,0,none⟩) (n+1) cap)/\w'=W2:=by
 have f1:¬cap=i:=by omega
 have f3:¬cap=i+1:=by omega
 have f4:i<=cap:=by omega
 have f5:¬((i:Int)=(n:Int)):=by omega
 have f6:¬(cap:Int)<(n:Int)+1:=by omega
 have f8:i+1<=cap:=by omega
 have f9:((i:Int)+1).toNat=i+1:=by omega
 have f10:(0:Int)<=(i:Int)+1:=by omega
 have f11:(i:Int)+1<=(n:Int)+1:=by omega
 have f12:i<=n:=by omega
 have f13:IntKind.i64.wrap ((i:Int)+1)=(i:Int)+1:=by rw[IntKind.wrap_i64];omega
 have f14:((n:Int)+1).toNat=n+1:=by omega
 have f15:(n:Int)+1<=(cap:Int):=by omega
 have f16:i<=n+1:=by omega
 have f17:(i:Int)<=(n:Int)+1:=by omega
 go_enter Tryz.func25,Tryz.ntmps25
 go_wp2
 go_region_law (refine abM rfl (.tmp 73) (.tmp 76) 22 22 rfl (.slice (some ⟨g,(i+1)*7,none⟩) (n+1-(i+1)) (cap-(i+1))) (.slice (some ⟨g,i*7,none⟩) (n+1-i) (cap-i)) (by simp[Act.eval,Act.put]) (by simp[Act.eval,Act.put]) (tD _) ?_)
 go_wp2_with (at_builtin;refine ayh rfl (.tmp 80) (.tmp 81) 22 22 rfl _ _ rfl rfl (zn _) ?_)
 go_wp2
 go_ret
 exact⟨rfl,rfl⟩
end Go.Proofs
namespace Go.cu
open Go Go.bo Go.Proofs Go.RowKit
theorem RZ (w:World) (o:Obj) (own:Option Nat):lS w (w.drew.alloc o) own:=
 have h:=(World.Extends.refl w.drew).alloc o
 ⟨h.os,h.tape,h.output,h.size,λk hk _=>h.block k hk⟩
theorem lS.Se {w w1 w2:World} {own:Option Nat} {g:Nat} (h:lS w w1 own) (h2:lS w1 w2 (some g)) (hg:own=some g∨w.heap.size<=g):lS w w2 own:=by
 obtain⟨a1,a2,a3,a4,a5⟩:=h
 obtain⟨b1,b2,b3,b4,nK⟩:=h2
 refine⟨b1.trans a1,b2.trans a2,b3.trans a3,Nat.le_trans a4 b4,λk hk hne=>?_⟩
 rw[nK k (Nat.lt_of_lt_of_le hk a4) (λe=>?_),a5 k hk hne]
 cases e
 rcases hg with hg|hg
 ·exact hne hg
 ·omega
theorem lS.af9 {w w1:World} {own:Option Nat} (h:lS w w1 own):lS w w1.drew own:=h
theorem auf {P:Program} (w:World) (Hn au2 e:TypeId) (ht:P.underlying Hn=some (.slice e)) (size:Nat) (hz:∀w,(Go.sizeOf e).run P w= .ok size w)
 (a b:Addr) (la ca lb cb:Nat) (hne:a.block≠b.block) (ES V1:Array Value) (Li abT:TypeId) (agC:Nat×Nat)
 (hA:w.heap[a.block]?=some (.cells ES Li agC)) (hB:w.heap[b.block]?=some (.cells V1 abT (0,0))) (h0:ES.size≠0):
 (Extern.SlicesOverlaps.overlaps #[Hn,Hn] #[au2] #[.slice (some a) la ca,.slice (some b) lb cb]).run P w= .ok (.bool false) w:=by
 have PA:(a.block != b.block)=true:=by simpa using hne
 have ali:(a.block==b.block)=false:=by simpa using hne
 have YR:w.shape? a.block=some (Li,ES.size):=by unfold World.shape?;rw[hA]
 have alO:w.shape? b.block=some (abT,V1.size):=by unfold World.shape?;rw[hB]
 have akD:∀o,w.frozen? ⟨b.block,o,none⟩=false:=λo=>by unfold World.frozen?;simp only[hB];simp
 have akE:w.frozen? b=false:=by unfold World.frozen?;simp only[hB];simp
 change Sem.run P (α:=Value) (do
  let some t:=(#[Hn,Hn]:Array TypeId)[0]?|stuck "slices.overlaps: no parameter types"
  let .slice elem<-underlying t|stuck "slices.overlaps: slice type expected"
  let size<-Go.sizeOf elem
  match(some a:Option Addr),(some b:Option Addr)with
  |some a,some b=>
   if la=0∨lb=0∨size=0 then pure (Value.bool false)
   else if a.block != b.block&&(<-frozen a)&&(<-frozen b)then unsupported .addressObserved
   else do
    if a.block != b.block then do
     noView a;noView b
     if<-mayBeOne a b then return Value.bool ((<-choose (.extern "sameAddr.stringBytes" 2))==1)
    pure (Value.bool (a.block==b.block&&a.off<b.off+lb*size&&b.off<a.off+la*size))
  |_,_=>pure (Value.bool false)) w=_
 by_cases hl:la=0∨lb=0∨size=0
 ·simp[run_underlying ht,hz,hl]
 ·obtain⟨amX,akZ⟩:∃k,ES.size=k+1:=⟨ES.size-1,by omega⟩
  rw[akZ]at YR
  cases h1:w.frozen? a<;>cases h2:w.frozen? ⟨a.block,amX+1,none⟩<;>simp[run_underlying ht,hz,hl,PA,ali,frozen,noView,viewAt,mayBeOne,stringish,shape,Sem.run,YR,alO,akD,akE,h1,h2]
theorem atS {α:Type} {cells td L2 N rest:List α} {x y z:Nat} (h:cells=td++L2++rest) (h1:td.length=x) (hy:z<=cells.length) (hN:N=N) (hz:z=x+y):
 (cells.take z++L2++cells.drop (z+L2.length)).toArray.toList.take x++N++(cells.take z++L2++cells.drop (z+L2.length)).toArray.toList.drop (x+y)=td++N++L2++cells.drop (z+L2.length):=by
 simp only
 have e1:(cells.take z++L2++cells.drop (z+L2.length)).take x=td:=by
  rw[List.append_assoc,List.take_append_of_le_length (by rw[List.length_take];omega),List.take_take,Nat.min_eq_left (by omega),h,List.append_assoc,List.take_append_of_le_length (by omega),List.take_of_length_le (by omega)]
 have e2:(cells.take z++L2++cells.drop (z+L2.length)).drop (x+y)=L2++cells.drop (z+L2.length):=by
  rw[List.append_assoc,<-hz]
  have:(cells.take z).length=z:=by rw[List.length_take];omega
  conv=>lhs;arg 1;rw[<-this]
  rw[List.drop_left]
 rw[e1,e2]
 simp
theorem ahJ {α:Type} {td L2 N D:List α} {x y:Nat} (h1:td.length=x) (hN:N.length=y):
 (td++N++D).toArray.toList.take (x+y)++L2++(td++N++D).toArray.toList.drop (x+y+L2.length)=td++N++L2++(td++N++D).toArray.toList.drop (x+y+L2.length):=by
 congr 2
 simp only
 rw[List.take_append_of_le_length (by rw[List.length_append];omega),List.take_of_length_le (by rw[List.length_append];omega)]
theorem aqq {wb:World}:eU.eY Tryz.prog wb (b6 sh SB eU.id):=by
 refine⟨λargs w=>enters (by kernel_rfl) _ _,λF w v0 code vs zs hw ho hc hz ie hat hF=>?_⟩
 match zs,hz,vs,hat with
 |[i,r],hz,[vi,ayc],hat=>
  obtain⟨zG,zH,_⟩:=hat
  have zG:vi= .int .i64 i:=zG
  have amb:r0 F w eU.sh (af r) ayc:=zH
  clear zH
  have ie:(0<=i/\i<=((af code).length:Int))/\(af r).length=1/\(af code).length+1<=1073741824:=ie
  obtain⟨⟨p0,p1⟩,bJ,cP⟩:=ie
  obtain⟨a,ha⟩:∃a:Nat,i=a:=⟨i.toNat,by omega⟩
  subst ha
  have p1:a<=(af code).length:=by omega
  rcases amb with⟨_,h0⟩|⟨jj,nY,vc,V9,Li,agR,zH,⟨aCi,aCj⟩,aiQ,O5,PV⟩
  ·rw[h0]at bJ;simp at bJ
  rw[bJ]at zH
  obtain⟨i0,nS,su,z,Pk,Qh,Pb⟩:∃i0,Tryz.prog.info? 32=some i0/\i0.size=7/\∃z,i0.zero=some z/\z.cells.size=7/\i0.bytes<=131072:=⟨_,rfl,by kernel_rfl,_,rfl,by kernel_rfl,by decide+kernel⟩
  have Gl:eU.sh.length=7:=rfl
  have hnone:∀row∈af r,cl eU.sh row:=PV.1
  have kJ:(bf eU.sh (af r)).length=7:=by rw[kj hnone,bJ,Gl,Nat.one_mul]
  have nm:∀(rows:List (List Int)),∀u∈bf eU.sh rows,u.oneCell'=true:=λ_=>Jb
  have ala:jj<w.heap.size:=(Array.getElem?_eq_some_iff.1 O5).1
  have aiI:V9.size≠0:=by
   obtain⟨_,pre,post,h2,_⟩:=PV
   have:=congrArg List.length h2
   simp only[List.length_append,kJ,Array.length_toList]at this
   omega
  have xm:∀w1:World,w1.heap[jj]?=w.heap[jj]?->∀j u,(bf eU.sh (af r))[j]?=some u->w1.cell? ((⟨jj,nY,none⟩:Addr).add j)=some u:=λw1 h1 j u hu=>by
   rw[Addr.add_lit]
   have:=PV.flat hu
   simp only[World.cell?,h1,O5,Option.isSome_none,Bool.false_eq_true,if_false]
   exact this
  have P1:∀w1:World,w1.heap[jj]?=w.heap[jj]?->Src Tryz.prog i0.size 22 (.slice (some ⟨jj,nY,none⟩) 1 vc) 1 (bf eU.sh (af r)) w1:=λw1 h1=>
   Src.ofSlice w1 Tryz.underlying22 ⟨jj,nY,none⟩ 1 vc _ (by rw[kJ,su]) (xm w1 h1) (nm _)
  have fin:∀(w':World) (G C:Nat) (cells:Array Value) (post:List Value),lS w w' (mi v0)->(∀row∈af code,cl eU.sh row)->w'.heap[G]?=some (.cells cells 32 (0,0))->cells.toList=bf eU.sh ((af code).take a)++bf eU.sh (af r)++bf eU.sh ((af code).drop a)++post->cells.size=C*7->
   (af code).length+1<=C->(C:Int)<=9223372036854775807->(mi v0=some G∨w.heap.size<=G)->
   lS w w' (mi v0)/\∃code' v',(0<=code'/\code'<=bK)/\b6 sh SB eU.id (code::[(a:Int),r]) [code']/\q5 (λg=>mi v0=some g∨w.heap.size<=g) w' eU.sh eU.e (af code') v'/\Ending.returned (.slice (some ⟨G,0,none⟩) ((af code).length+1) C)= .returned v':=by
   intro w' G C cells post nj bm hG qw hsz w9 aiM hown
   have hall:∀row∈(af code).take a++af r++(af code).drop a,cl eU.sh row:=λrow hr=>by
    rcases List.mem_append.1 hr with hr|hr
    ·rcases List.mem_append.1 hr with hr|hr
     ·exact bm row (List.mem_of_mem_take hr)
     ·exact hnone row hr
    ·exact bm row (List.mem_of_mem_drop hr)
   have Pt:((af code).take a++af r++(af code).drop a).length=(af code).length+1:=by
    rw[List.length_append,List.length_append,List.length_take,List.length_drop,bJ,Nat.min_eq_left p1];omega
   refine⟨nj,rc ((af code).take a++af r++(af code).drop a),_,⟨gm _,wG (by kernel_rfl) (by rw[Pt];omega) hall⟩,?_,Or.inr ⟨G,C,cells,?_,⟨?_,aiM⟩,hown,hG,⟨?_,[],post,?_,rfl⟩,hsz⟩,rfl⟩
   ·show af (rc _)=(af code).take ((a:Int)).toNat++af r++(af code).drop ((a:Int)).toNat
    rw[ee];rfl
   ·rw[ee,Pt]
   ·rw[ee,Pt];exact w9
   ·rw[ee];exact hall
   ·rw[ee,qw,List.nil_append,pK,pK]
  rw[zG,zH]
  rcases ho with⟨hv0,h0⟩|⟨g,cap,cells,hv0,⟨X1,OW⟩,aCD,hg,nU,hsz⟩
  ·
   have ha0:a=0:=by rw[h0]at p1;simpa using p1
   subst ha0
   have hC:=Fc w (0+1) 0 32 (by omega)
   have sg:∀ty,(Builtin.append_ #[22,22] ty #[.slice none 0 0,.slice (some ⟨jj,nY,none⟩) 1 vc]).run Tryz.prog w=_:=λty=>
    run_append_grow_src w 22 22 ty 32 i0 z Tryz.underlying22 nS Pk none 0 0 [] (NS _ _ _ _) _ 1 _ (P1 w rfl) (by omega) (by omega) (growslice_fits (by omega) (by omega))
   rw[hv0]
   refine(Tryz.insert_nil ⟨jj,nY,none⟩ vc _ w _ sg).mono ?_
   rintro e w' ⟨rfl,rfl⟩
   have w9:=hC.1
   have:=fin _ w.heap.size (grownCap w (0+1) 0 32) (([]++bf eU.sh (af r)).toArray++Builtin.zeroCells z.cells (grownCap w (0+1) 0 32-(0+1))) (Builtin.zeroCells z.cells (grownCap w (0+1) 0 32-(0+1))).toList (RZ w _ _) (by rw[h0];intro _ h;cases h) (heap_alloc_new w.drew _) (by rw[h0];simp[bf]) (by
    simp only[Array.size_append,List.size_toArray,List.nil_append,kJ,Hy,Qh];omega) (by rw[h0];exact hC.1) (by omega) (.inr (Nat.le_refl _))
   rw[h0]at this
   rw[<-hv0];exact this
  ·rw[Gl]at hsz
   obtain⟨bm,pre,rest,qw,PN⟩:=nU
   have PN:pre=[]:=List.eq_nil_of_length_eq_zero PN
   subst PN
   rw[List.nil_append]at qw
   obtain⟨n,hn⟩:∃n,(af code).length=n:=⟨_,rfl⟩
   rw[hn]at p1 cP X1 hv0 fin
   have tJ:bf eU.sh (af code)=bf eU.sh ((af code).take a)++bf eU.sh ((af code).drop a):=by rw[<-pK,List.take_append_drop]
   have pR:(bf eU.sh ((af code).take a)).length=a*7:=by rw[kj λr h=>bm r (List.mem_of_mem_take h),List.length_take,Nat.min_eq_left (by omega),Gl]
   have hl2:(bf eU.sh ((af code).drop a)).length=(n-a)*7:=by rw[kj λr h=>bm r (List.mem_of_mem_drop h),List.length_drop,hn,Gl]
   have hl0:(bf eU.sh (af code)).length=n*7:=by rw[kj bm,hn,Gl]
   have gP:cells.toList.length=cap*7:=by rw[Array.length_toList];exact hsz
   have hne:jj≠g∨cap=0:=by
    rcases Nat.eq_zero_or_pos cap with h|h
    ·exact .inr h
    ·refine .inl λe=>?_
     obtain⟨c',rfl⟩:∃c',cap=c'+1:=⟨cap-1,by omega⟩
     refine hF jj aiQ ?_
     rw[hv0,e];rfl
   have hown:cap≠0->mi v0=some g:=λh=>by
    obtain⟨c',rfl⟩:∃c',cap=c'+1:=⟨cap-1,by omega⟩
    rw[hv0];rfl
   have hlt:g<w.heap.size:=(Array.getElem?_eq_some_iff.1 hg).1
   have hcell:∀(w1:World) (o:Nat) (l:List Value) (pre post:List Value),w1.heap[g]?=w.heap[g]?->cells.toList=pre++l++post->pre.length=o->∀j u,l[j]?=some u->w1.cell? ((⟨g,o,none⟩:Addr).add j)=some u:=λw1 o l pre post h1 h2 h3 j u hu=>by
    rw[Addr.add_lit]
    simp only[World.cell?,h1,hg,Option.isSome_none,Bool.false_eq_true,if_false]
    have hlt:=(List.getElem?_eq_some_iff.1 hu).1
    rw[<-Array.getElem?_toList,h2,List.append_assoc,List.getElem?_append_right (by omega),List.getElem?_append_left (by omega),<-h3]
    rw[show pre.length+j-pre.length=j by omega];exact hu
   by_cases Jq:a=n
   ·
    subst Jq
    have vb:(af code).drop a=[]:=List.drop_of_length_le (by omega)
    have xn:(af code).take a=af code:=List.take_of_length_le (by omega)
    by_cases hroom:a+1<=cap
    ·have sg:∀ty,(Builtin.append_ #[22,22] ty #[.slice (some ⟨g,0,none⟩) a cap,.slice (some ⟨jj,nY,none⟩) 1 vc]).run Tryz.prog w=_:=λty=>
      abl (P:=Tryz.prog) w 22 22 ty 32 i0 Tryz.underlying22 nS g a cap cells 32 hg _ 1 _ (P1 w rfl) hroom (by rw[su,kJ,hsz];omega)
     rw[hv0]
     refine(Tryz.Zg g a cap ⟨jj,nY,none⟩ vc _ w _ (by omega) (by omega) sg).mono ?_
     rintro e w' ⟨rfl,rfl⟩
     rw[<-hv0]
     refine fin _ g cap _ (cells.toList.drop (a*7+7)) (by rw[hown (by omega)];exact Hi w g _) bm (setRow_heap w g _ _ _ _ hg) ?_ ?_ hroom OW (.inl (hown (by omega)))
     ·rw[vb,xn,su,kJ]
      simp only[qw]
      rw[List.take_append_of_le_length (by omega),List.take_of_length_le (by omega)]
      simp[bf]
     ·simp only[List.size_toArray,List.length_append,List.length_take,List.length_drop,gP,kJ,su]
      omega
    ·have hC:=Fc w (a+1) cap 32 (by omega)
     have sg:∀ty,(Builtin.append_ #[22,22] ty #[.slice (some ⟨g,0,none⟩) a cap,.slice (some ⟨jj,nY,none⟩) 1 vc]).run Tryz.prog w=_:=λty=>
      run_append_grow_src w 22 22 ty 32 i0 z Tryz.underlying22 nS Pk (some ⟨g,0,none⟩) a cap (bf eU.sh (af code)) (run_firstCells_some w.drew i0.size a ⟨g,0,none⟩ a cap _ (by rw[hl0,su]) (hcell w.drew 0 _ [] rest rfl (by rw[qw];rfl) rfl)) _ 1 _ (P1 w rfl) (by omega) (by omega) (growslice_fits (by omega) (by
       have:=Nat.mul_le_mul (show a+1<=1073741824 by omega) Pb
       omega))
     rw[hv0]
     refine(Tryz.Zg g a cap ⟨jj,nY,none⟩ vc _ w _ (by omega) (by omega) sg).mono ?_
     rintro e w' ⟨rfl,rfl⟩
     rw[<-hv0]
     refine fin _ w.heap.size (grownCap w (a+1) cap 32) _ (Builtin.zeroCells z.cells (grownCap w (a+1) cap 32-(a+1))).toList (RZ w _ _) bm (heap_alloc_new w.drew _) ?_ ?_ hC.1 (by omega) (.inr (Nat.le_refl _))
     ·rw[vb,xn];simp[bf]
     ·simp only[Array.size_append,List.size_toArray,List.length_append,hl0,kJ,Hy,Qh]
      have:=hC.1
      omega
   ·have Jq:a<n:=by omega
    have OV:cap≠0:=by omega
    have hne:jj≠g:=hne.resolve_right OV
    have hown:=hown OV
    by_cases hroom:n+1<=cap
    ·
     have aCw:rest.length=(cap-n)*7:=by
      have:=congrArg List.length qw
      simp only[List.length_append,hl0,gP]at this
      rw[Nat.sub_mul];omega
     have hcs:cells.toList=bf eU.sh ((af code).take a)++bf eU.sh ((af code).drop a)++rest:=by rw[qw,tJ]
     have tD:∀ty,(Builtin.copy_ #[22,22] ty #[.slice (some ⟨g,(a+1)*7,none⟩) (n+1-(a+1)) (cap-(a+1)),.slice (some ⟨g,a*7,none⟩) (n+1-a) (cap-a)]).run Tryz.prog w.drew=_:=λty=>
      K2 w.drew 22 22 ty 32 i0 Tryz.underlying22 nS g ((a+1)*7) (n+1-(a+1)) (cap-(a+1)) ⟨g,a*7,none⟩ (n+1-a) (cap-a) cells 32 (bf eU.sh ((af code).drop a)) hg
       (by rw[hl2,su,show Nat.min (n+1-a) (n+1-(a+1))=n-a by show min _ _=_;omega]) (hcell w.drew (a*7) _ (bf eU.sh ((af code).take a)) rest rfl hcs pR) (by rw[hl2,hsz];omega) (nm _)
     obtain⟨c1,hc1⟩:∃c1,c1=(cells.toList.take ((a+1)*7)++bf eU.sh ((af code).drop a)++cells.toList.drop ((a+1)*7+(bf eU.sh ((af code).drop a)).length)).toArray:=⟨_,rfl⟩
     rw[<-hc1]at tD
     have hg1:(w.drew.setRow g c1).heap[g]?=some (.cells c1 32 (0,0)):=setRow_heap w.drew g _ _ _ _ hg
     have FH:c1.size=cap*7:=by
      rw[hc1];simp only[List.size_toArray,List.length_append,List.length_take,List.length_drop,gP,hl2];omega
     have zn:∀ty,(Builtin.copy_ #[22,22] ty #[.slice (some ⟨g,a*7,none⟩) (n+1-a) (cap-a),.slice (some ⟨jj,nY,none⟩) 1 vc]).run Tryz.prog (w.drew.setRow g c1)=_:=λty=>
      K2 (w.drew.setRow g c1) 22 22 ty 32 i0 Tryz.underlying22 nS g (a*7) (n+1-a) (cap-a) ⟨jj,nY,none⟩ 1 vc c1 32 (bf eU.sh (af r)) hg1
       (by rw[kJ,su,show Nat.min 1 (n+1-a)=1 by show min _ _=_;omega]) (xm _ (setRow_other w.drew g jj c1 hne)) (by rw[kJ,FH];omega) (nm _)
     have YH:(callFunc 40 #[.slice (some ⟨jj,nY,none⟩) 1 vc,.slice (some ⟨g,(a+1)*7,none⟩) (n-a) (cap-(a+1))]).run Tryz.prog w= .ok (.value (.bool false)) w:=by
      rw[run_callFunc_extern Tryz.func40 (by kernel_rfl) (by kernel_rfl) (by kernel_rfl) (e:=Extern.SlicesOverlaps.overlaps #[22,22] #[4]) (by kernel_rfl)]
      rw[auf w 22 4 32 Tryz.underlying22 i0.size (λw=>by simp[Go.sizeOf,typeInfo,nS]) ⟨jj,nY,none⟩ ⟨g,(a+1)*7,none⟩ 1 vc (n-a) (cap-(a+1)) hne V9 cells Li 32 agR O5 hg aiI]
      rfl
     rw[hv0]
     refine(Tryz.amF g n cap a ⟨jj,nY,none⟩ vc _ _ w _ _ Jq hroom (by omega) YH tD zn).mono ?_
     rintro e w' ⟨rfl,rfl⟩
     rw[<-hv0]
     refine fin _ g cap _ (cells.toList.drop ((a+1)*7+(bf eU.sh ((af code).drop a)).length)) (by rw[hown];exact lS.Se (w:=w) (w1:=w.drew.setRow g c1) (Hi w.drew g c1) (Hi _ g _) (.inl rfl)) bm (setRow_heap _ g _ _ _ _ hg1) ?_ ?_ hroom OW (.inl hown)
     ·simp only[kJ]
      rw[hc1]
      exact atS hcs pR (by simp only[gP];omega) rfl (by rw[Nat.succ_mul])
     ·simp only[List.size_toArray,List.length_append,List.length_take,List.length_drop,Array.length_toList,FH,kJ]
      have:(a+1)*7<=cap*7:=Nat.mul_le_mul_right _ (by omega)
      omega
    ·
     have hka:a+(n+1-a)=n+1:=by omega
     have Yo:((n:Int)+1-(a:Int))=((n+1-a:Nat):Int):=by omega
     have hC:=Fc w (n+1) cap 32 (by omega)
     have Jr:=λty=>Lib.run_append_grow_zeros (P:=Tryz.prog) w 22 3 ty 32 i0 z .i64 .i64 Tryz.underlying22 Tryz.underlying3 nS Pk (some ⟨g,0,none⟩) a cap (bf eU.sh ((af code).take a))
      (run_firstCells_some w.drew i0.size a ⟨g,0,none⟩ a cap _ (by rw[pR,su]) (hcell w.drew 0 _ [] (bf eU.sh ((af code).drop a)++rest) rfl (by rw[qw,tJ,List.nil_append,List.append_assoc]) rfl)) (n+1-a) (by omega) (by rw[su];decide) (by omega) (by omega)
      (by
        have:=Nat.mul_le_mul (show n+1-a<=1073741824 by omega) Pb
        omega)
      (growslice_fits (by omega) (by
        have:=Nat.mul_le_mul (show a+(n+1-a)<=1073741824 by omega) Pb
        omega))
     rw[hka]at Jr
     obtain⟨C,aiN⟩:∃C,C=grownCap w (n+1) cap 32:=⟨_,rfl⟩
     rw[<-aiN]at Jr hC
     obtain⟨bC,hc0⟩:∃bC:Array Value,bC=(bf eU.sh ((af code).take a)).toArray++Builtin.zeroCells z.cells (n+1-a)++Builtin.zeroCells z.cells (C-(n+1)):=⟨_,rfl⟩
     rw[<-hc0,<-Yo]at Jr
     have XZ:bC.size=C*7:=by
      rw[hc0];simp only[Array.size_append,List.size_toArray,pR,Hy,Qh];omega
     have aki:bC.toList.take (a*7)=bf eU.sh ((af code).take a):=by
      rw[hc0,Array.toList_append,Array.toList_append,List.append_assoc,List.take_append_of_le_length (by simp only[pR];omega),List.take_of_length_le (by simp only[pR];omega)]
     have Xu:(w.drew.alloc (.cells bC 32)).heap[w.heap.size]?=some (.cells bC 32 (0,0)):=heap_alloc_new w.drew _
     have hold:∀k:Nat,k<w.heap.size->(w.drew.alloc (.cells bC 32)).heap[k]?=w.heap[k]?:=λk hk=>((World.Extends.refl w.drew).alloc _).block k hk
     have tD:∀ty,(Builtin.copy_ #[22,22] ty #[.slice (some ⟨w.heap.size,a*7,none⟩) (n+1-a) (C-a),.slice (some ⟨jj,nY,none⟩) 1 vc]).run Tryz.prog (w.drew.alloc (.cells bC 32))=_:=λty=>
      K2 _ 22 22 ty 32 i0 Tryz.underlying22 nS w.heap.size (a*7) (n+1-a) (C-a) ⟨jj,nY,none⟩ 1 vc bC 32 (bf eU.sh (af r)) Xu
       (by rw[kJ,su,show Nat.min 1 (n+1-a)=1 by show min _ _=_;omega]) (xm _ (hold jj ala)) (by rw[kJ,XZ];omega) (nm _)
     obtain⟨c1,hc1⟩:∃c1,c1=(bC.toList.take (a*7)++bf eU.sh (af r)++bC.toList.drop (a*7+(bf eU.sh (af r)).length)).toArray:=⟨_,rfl⟩
     rw[<-hc1]at tD
     have FH:c1.size=C*7:=by
      rw[hc1];simp only[List.size_toArray,List.length_append,List.length_take,List.length_drop,Array.length_toList,XZ,kJ];omega
     obtain⟨W2,hW2⟩:∃W2,W2=(w.drew.alloc (.cells bC 32)).setRow w.heap.size c1:=⟨_,rfl⟩
     have Xv:W2.heap[w.heap.size]?=some (.cells c1 32 (0,0)):=by rw[hW2];exact setRow_heap _ _ _ _ _ _ Xu
     have alu:W2.drew.heap[g]?=w.heap[g]?:=by
      rw[hW2]
      show((w.drew.alloc (.cells bC 32)).setRow w.heap.size c1).heap[g]?=_
      rw[setRow_other _ _ _ _ (by omega),hold g hlt]
     have zn:∀ty,(Builtin.copy_ #[22,22] ty #[.slice (some ⟨w.heap.size,(a+1)*7,none⟩) (n+1-(a+1)) (C-(a+1)),.slice (some ⟨g,a*7,none⟩) (n-a) (cap-a)]).run Tryz.prog W2.drew=_:=λty=>
      K2 W2.drew 22 22 ty 32 i0 Tryz.underlying22 nS w.heap.size ((a+1)*7) (n+1-(a+1)) (C-(a+1)) ⟨g,a*7,none⟩ (n-a) (cap-a) c1 32 (bf eU.sh ((af code).drop a)) Xv
       (by rw[hl2,su,show Nat.min (n-a) (n+1-(a+1))=n-a by show min _ _=_;omega]) (hcell W2.drew (a*7) _ (bf eU.sh ((af code).take a)) rest alu (by rw[qw,tJ]) pR) (by rw[hl2,FH];omega) (nm _)
     rw[<-hW2]at tD
     rw[hv0]
     refine(Tryz.amE g n cap a w.heap.size C ⟨jj,nY,none⟩ vc _ _ w _ W2 _ Jq X1 (by omega) hC.1 (by omega) Jr tD zn).mono ?_
     rintro e w' ⟨rfl,rfl⟩
     rw[<-hv0]
     refine fin _ w.heap.size C _ (c1.toList.drop ((a+1)*7+(bf eU.sh ((af code).drop a)).length)) ?_ bm (setRow_heap _ _ _ _ _ _ Xv) ?_ ?_ hC.1 (by omega) (.inr (Nat.le_refl _))
     ·rw[hW2]
      have s1:=lS.Se (RZ w (.cells bC 32) (mi v0)) (Hi _ w.heap.size c1) (.inr (Nat.le_refl _))
      exact lS.Se (lS.af9 s1) (Hi _ w.heap.size _) (.inr (Nat.le_refl _))
     ·simp only
      rw[hc1,kJ]
      simp only
      rw[aki,Nat.succ_mul]
      exact ahJ pR kJ
     ·simp only[List.size_toArray,List.length_append,List.length_take,List.length_drop,Array.length_toList,FH,hl2]
      have:(a+1)*7+(n-a)*7<=C*7:=by rw[<-Nat.add_mul];exact Nat.mul_le_mul_right _ (by omega)
      omega
end Go.cu
namespace Go.Proofs
open Go.RowKit Go.cu
theorem amH {T e:TypeId} {B b:Nat} {bs:List Value} {w w':World} (h:Lib.IsBuilder T e B b bs w) (hk:∀k,k<w.heap.size->w'.heap[k]?=w.heap[k]?):Lib.IsBuilder T e B b bs w':=by
 have lt:∀{k:Nat} {x:Obj},w.heap[k]?=some x->k<w.heap.size:=λ{k x} hx=>by
  rcases Nat.lt_or_ge k w.heap.size with h'|h'
  ·exact h'
  ·rw[Array.getElem?_eq_none h']at hx;cases hx
 have one:∀{q:Value},Lib.BuilderAt T e B b q bs w->Lib.BuilderAt T e B b q bs w':=λ{q} h=>by
  obtain⟨hB,v,hb,⟨pb,mG⟩,hne⟩:=h
  refine⟨hB,v,by rw[hk b (lt hb)];exact hb,⟨pb,?_⟩,hne⟩
  rcases mG with h|⟨g,cap,cur,h1,h2,h3,h4⟩
  ·exact .inl h
  ·exact .inr ⟨g,cap,cur,h1,h2,by rw[hk g (lt h3)];exact h3,h4⟩
 exact h.elim (λx=> .inl (one x)) λx=> .inr (one x)
theorem splice3 (l:aH) (i n:Nat) (hn:n<=3) (qC:n=3∨n=l.length-i):splice [Value.int .u8 0,Value.int .u8 0,Value.int .u8 0] 0 ((List.range n).map λj=>Value.int .u8 (l.getD (i+j) 0).toNat)=[Value.int .u8 (l.getD i 0).toNat,Value.int .u8 (l.getD (i+1) 0).toNat,Value.int .u8 (l.getD (i+2) 0).toNat]:=by
 have z:∀j,l.length-i<=j->((l.getD (i+j) 0).toNat:Int)=0:=λj hj=>by
  rw[show l.getD (i+j) 0=0 by simp only[List.getD];rw[List.getElem?_eq_none (by omega)];rfl];rfl
 match n,hn with
 |0,_=>rcases qC with h|h<;>first|omega|(have z0:=z 0 (by omega);have ag:=z 1 (by omega);have z2:=z 2 (by omega);rw[Nat.add_zero]at z0;rw[z0,ag,z2];rfl)
 |1,_=>rcases qC with h|h<;>first|omega|(have ag:=z 1 (by omega);have z2:=z 2 (by omega);rw[ag,z2];rfl)
 |2,_=>rcases qC with h|h<;>first|omega|(have z2:=z 2 (by omega);rw[z2];rfl)
 |3,_=>rfl
open Go.bo in
theorem ae7 {x0 x1 x2:Int} (a0:0<=x0) (a1:x0<=255) (b0:0<=x1) (b1:x1<=255) (bC:0<=x2) (c1:x2<=255):bits BinOp.or IntKind.i64 (bits BinOp.or IntKind.i64 (wrap64 (wrap64 x0*65536)) (wrap64 (wrap64 x1*256))) (wrap64 x2)=65536*x0+256*x1+x2:=by
 have w:∀z:Int,0<=z->z<9223372036854775808->wrap64 z=z:=λz h0 h1=>by unfold wrap64;omega
 rw[w x0 a0 (by omega),w x1 b0 (by omega),w x2 bC (by omega),w (x0*65536) (by omega) (by omega),w (x1*256) (by omega) (by omega)]
 have e1:bits BinOp.or IntKind.i64 (x0*65536) (x1*256)=65536*x0+256*x1:=by
  have h:cD BinOp.or IntKind.i64 (x0*65536) (x1*256)=_:=Iy (k:= .i64) (x:=x0*65536) (y:=x1*256) (by omega) (by omega) (show _<(9223372036854775808:Int) by omega) (show _<(9223372036854775808:Int) by omega)
  have h2:bits BinOp.or IntKind.i64 (x0*65536) (x1*256)=cD BinOp.or IntKind.i64 (x0*65536) (x1*256):=rfl
  rw[h2,h,GR (s:=65536) ⟨16,rfl⟩ (by omega) (by omega)];omega
 rw[e1]
 have h:cD BinOp.or IntKind.i64 (65536*x0+256*x1) x2=_:=Iy (k:= .i64) (x:=65536*x0+256*x1) (y:=x2) (by omega) (by omega) (show _<(9223372036854775808:Int) by omega) (show _<(9223372036854775808:Int) by omega)
 have h2:bits BinOp.or IntKind.i64 (65536*x0+256*x1) x2=cD BinOp.or IntKind.i64 (65536*x0+256*x1) x2:=rfl
 rw[h2,h,GR (s:=256) ⟨8,rfl⟩ (by omega) (by omega)];omega
open Go.bo in
theorem ae6 {x:Int} (h0:0<=x) (h1:x<9223372036854775808):bits BinOp.and IntKind.i64 x 63=((x.toNat% 64:Nat):Int):=by
 have h:cD BinOp.and IntKind.i64 x 63=_:=MT (k:= .i64) (x:=x) (y:=63) h0 (by decide) (show _<(9223372036854775808:Int) by omega) (by decide)
 have h2:bits BinOp.and IntKind.i64 x 63=cD BinOp.and IntKind.i64 x 63:=rfl
 rw[h2,h]
 exact congrArg Int.ofNat (Nat.and_two_pow_sub_one_eq_mod x.toNat 6)
theorem aaF (a b c:UInt8) (r:aH):ij (a::b::c::r)=me (a.toNat/4)::me (a.toNat% 4*16+b.toNat/16)::me (b.toNat% 16*4+c.toNat/64)::me (c.toNat% 64)::ij r:=by conv=>lhs;unfold ij
theorem atc {l:aH} {i n:Nat} {x0 x1 x2 bY:Int} (hlt:i<l.length) (h1:1<=n) (h3:n<=3) (kJ:n<=l.length-i) (qC:n=3∨n=l.length-i) (hx0:x0=(l.getD i 0).toNat) (hx1:x1=(l.getD (i+1) 0).toNat) (hx2:x2=(l.getD (i+2) 0).toNat) (hb:bY=65536*x0+256*x1+x2):
 ij (l.drop i)=(List.range (n+1)).map (λj=>me ((bY/2^(18-6*j)).toNat% 64))++ij (l.drop (i+n)):=by
 have z:∀j,l.length<=j->((l.getD j 0).toNat:Int)=0:=λj hj=>by
  rw[show l.getD j 0=0 by simp only[List.getD];rw[List.getElem?_eq_none (by omega)];rfl];rfl
 have a1:=(l.getD i 0).toNat_lt
 have a2:=(l.getD (i+1) 0).toNat_lt
 have a3:=(l.getD (i+2) 0).toNat_lt
 have L:∀{u v:Nat},u=v->me u=me v:=λh=>congrArg me h
 match n,h1,h3 with
 |1,_,_=>
  have hl:l.length=i+1:=by omega
  have d1:l.drop (i+1)=[]:=List.drop_eq_nil_of_le (by omega)
  rw[z (i+1) (by omega)]at hx1
  rw[z (i+2) (by omega)]at hx2
  rw[r9 l i hlt,d1]
  show [_,_]=[_,_]
  rw[L (show(l.getD i 0).toNat/4=(bY/2^(18-6*0)).toNat% 64 by show _=(bY/262144).toNat% 64;omega),L (show(l.getD i 0).toNat% 4*16=(bY/2^(18-6*1)).toNat% 64 by show _=(bY/4096).toNat% 64;omega)]
 |2,_,_=>
  have hl:l.length=i+2:=by omega
  have d2:l.drop (i+2)=[]:=List.drop_eq_nil_of_le (by omega)
  rw[z (i+2) (by omega)]at hx2
  rw[r9 l i hlt,r9 l (i+1) (by omega),d2]
  show [_,_,_]=[_,_,_]
  rw[L (show(l.getD i 0).toNat/4=(bY/2^(18-6*0)).toNat% 64 by show _=(bY/262144).toNat% 64;omega),L (show(l.getD i 0).toNat% 4*16+(l.getD (i+1) 0).toNat/16=(bY/2^(18-6*1)).toNat% 64 by show _=(bY/4096).toNat% 64;omega),L (show(l.getD (i+1) 0).toNat% 16*4=(bY/2^(18-6*2)).toNat% 64 by show _=(bY/64).toNat% 64;omega)]
 |3,_,_=>
  rw[r9 l i hlt,r9 l (i+1) (by omega),r9 l (i+2) (by omega),aaF]
  show _::_::_::_::_=_::_::_::_::_
  rw[L (show(l.getD i 0).toNat/4=(bY/2^(18-6*0)).toNat% 64 by show _=(bY/262144).toNat% 64;omega),L (show(l.getD i 0).toNat% 4*16+(l.getD (i+1) 0).toNat/16=(bY/2^(18-6*1)).toNat% 64 by show _=(bY/4096).toNat% 64;omega),L (show(l.getD (i+1) 0).toNat% 16*4+(l.getD (i+2) 0).toNat/64=(bY/2^(18-6*2)).toNat% 64 by show _=(bY/64).toNat% 64;omega),L (show(l.getD (i+2) 0).toNat% 64=(bY/2^(18-6*3)).toNat% 64 by show _=(bY/1).toNat% 64;omega)]
  rfl
set_option maxHeartbeats 4000000 in
set_option maxRecDepth 1000000 in
theorem Tryz.agv (al:ByteArray) (dZ:al.data.toList=Ik) (l:aH) (p:Option Addr) (g o cap:Nat) (w:World) (hp:0<l.length->p=some ⟨g,o,none⟩/\l.length<=cap/\∀j,j<l.length->w.cell? ⟨g,o+j,none⟩=some (.int .u8 (l.getD j 0).toNat)) (hl:l.length<=1099511627776):
 Calls Tryz.prog 52 #[.string al,.slice p l.length cap] w λe w'=>e= .returned (.string ⟨(ij l).toArray⟩)/\Below w.heap.size w w':=by
 go_enter Tryz.func52,Tryz.ntmps52
 go_wp2
 go_loopw [1] (λvs wr=>∃(i c:Nat) (q:Option Addr) (d:List UInt8),vs= .slice q (l.length-i) c/\i<=l.length/\(i<l.length->q=some ⟨g,o+i,none⟩/\l.length-i<=c)/\d.length<=4*i/\Hid (d++ij (l.drop i)=ij l)/\Lib.IsBuilder 112 5 w.heap.size w.heap.size (Lib.byteCells d) wr/\Below w.heap.size w wr) (λvs _=>match vs with| .slice _ n _=>n|_=>0)
 case atStart=>
  refine⟨0,cap,p,[],rfl,Nat.zero_le _,λh=>?_,Nat.zero_le _,rfl,Lib.fresh_isBuilder 112 5 w,(Below.refl _ w).alloc (Nat.le_refl _) _⟩
  obtain⟨h1,h2,_⟩:=hp (by omega)
  exact⟨h1,by omega⟩
 case round=>
  obtain⟨i,c,q,d,rfl,hi,hq,hd,hb,hI,l5⟩:=hrel
  by_cases hlt:i<l.length
  ·obtain⟨rfl,hc⟩:=hq hlt
   have hsz:(Tryz.prog.info? 5).map (·.size)=some 1:=by kernel_rfl
   obtain⟨_,_,hcell⟩:=hp (by omega)
   obtain⟨m3,rfl⟩:∃m3:World,m3=wr:=⟨_,rfl⟩
   go_wp2
   obtain⟨n,hn⟩:∃n:Nat,n=min 3 (l.length-i):=⟨_,rfl⟩
   have Cj:min 3 ((l.length-i:Nat):Int)=(n:Int):=by omega
   rw[Cj]
   clear Cj
   have nT:1<=n:=by omega
   have sx:n<=3:=by omega
   have kJ:n<=l.length-i:=by omega
   have qC:Hid (n=3∨n=l.length-i):=show n=3∨n=l.length-i by omega
   clear hn
   have aCy:n<=c:=by omega
   have akM:g<w.heap.size:=block_lt_of_cell (hcell 0 (by omega))
   have hgo:¬g=m3.heap.size:=by have:=l5.size;omega
   have hrow:∀W:World,W.heap=(m3.alloc (.cells #[.int .u8 0,.int .u8 0,.int .u8 0] 113)).heap->W.heap[m3.heap.size]?=some (.cells [.int .u8 0,.int .u8 0,.int .u8 0].toArray 113 (0,0)):=λW h=>by rw[h];show(m3.heap.push _)[m3.heap.size]?=_;rw[Array.getElem?_push_size]
   have xm:∀W:World,W.heap=(m3.alloc (.cells #[.int .u8 0,.int .u8 0,.int .u8 0] 113)).heap->∀j v,((List.range n).map λj=>Value.int .u8 (l.getD (i+j) 0).toNat)[j]?=some v->W.cell? ((⟨g,o+i,none⟩:Addr).add j)=some v:=λW h j v hj=>by
    rw[List.getElem?_map]at hj
    have xh:j<n:=by
     rcases Nat.lt_or_ge j n with h|h
     ·exact h
     ·rw[List.getElem?_eq_none (by simpa using h)]at hj;cases hj
    rw[List.getElem?_range xh]at hj
    simp only[Option.map_some,Option.some.injEq]at hj
    subst hj
    have e1:=hcell (i+j) (by omega)
    have e2:W.cell? ⟨g,o+(i+j),none⟩=w.cell? ⟨g,o+(i+j),none⟩:=by
     unfold World.cell?
     simp only[h]
     have:=Lib.alloc_old m3 (.cells #[.int .u8 0,.int .u8 0,.int .u8 0] 113) g (by have:=l5.size;omega)
     rw[this,l5.block g akM]
    rw[Addr.add_lit,Nat.add_assoc,e2,e1]
   go_region_law (refine step_copy_splice rfl (.tmp 16) (.tmp 19) 60 60 rfl 5 Tryz.underlying60 hsz (some ⟨m3.heap.size,0,none⟩) (some ⟨g,o+i,none⟩) 3 3 n c (by simp[Act.eval,Act.put]) (by simp[Act.eval,Act.put]) m3.heap.size 0 [.int .u8 0,.int .u8 0,.int .u8 0] 113 (hrow _ rfl) ((List.range n).map λj=>Value.int .u8 (l.getD (i+j) 0).toNat) (by simp only[List.length_map,List.length_range];exact(Nat.min_eq_left sx).symm) (λ_=>⟨rfl,_,rfl,xm _ rfl⟩) (by simp;omega) (λv hv=>by simp at hv;obtain⟨_,_,rfl⟩:=hv;rfl) m3.heap.size m3 ((Below.refl _ m3).alloc (Nat.le_refl _) _).drew (Nat.le_refl _) ?_;intro w4 hg4 hb4)
   have hg4:w4.heap[m3.heap.size]?=some (.cells (splice _ _ _).toArray 113 (0,0)):=hg4
   rw[splice3 l i n sx qC]at hg4
   obtain⟨x0,hx0⟩:∃x:Int,x=(l.getD i 0).toNat:=⟨_,rfl⟩
   obtain⟨x1,hx1⟩:∃x:Int,x=(l.getD (i+1) 0).toNat:=⟨_,rfl⟩
   obtain⟨x2,hx2⟩:∃x:Int,x=(l.getD (i+2) 0).toNat:=⟨_,rfl⟩
   rw[<-hx0,<-hx1,<-hx2]at hg4
   have bC:w4.cell? ⟨m3.heap.size,0,none⟩=some (.int .u8 x0):=by rw[Lib.cell_of_heap hg4];rfl
   have c1:w4.cell? ⟨m3.heap.size,1,none⟩=some (.int .u8 x1):=by rw[Lib.cell_of_heap hg4];rfl
   have c2:w4.cell? ⟨m3.heap.size,2,none⟩=some (.int .u8 x2):=by rw[Lib.cell_of_heap hg4];rfl
   have aiJ:Below w.heap.size w w4:=l5.trans (hb4.mono l5.size)
   have aiT:=amH hI (λk hk=>hb4.block k hk)
   obtain⟨q',hq',alG⟩:∃q',(if c=n then some (⟨g,o+i,none⟩:Addr)else some ⟨g,o+i+n,none⟩)=q'/\Hid (i+n<l.length->q'=some ⟨g,o+(i+n),none⟩):=⟨_,rfl,λh=>by rw[if_neg (by omega),Nat.add_assoc]⟩
   replace hx0:Hid _:=hx0
   replace hx1:Hid _:=hx1
   replace hx2:Hid _:=hx2
   clear hgo hrow xm
   go_wp2
   obtain⟨bY,FG⟩:∃bY:Int,bits BinOp.or IntKind.i64 (bits BinOp.or IntKind.i64 (wrap64 (wrap64 x0*65536)) (wrap64 (wrap64 x1*256))) (wrap64 x2)=bY:=⟨_,rfl⟩
   rw[FG]
   have ja:x0=(l.getD i 0).toNat:=hx0
   have iq:x1=(l.getD (i+1) 0).toNat:=hx1
   have qU:x2=(l.getD (i+2) 0).toNat:=hx2
   have u0:=(l.getD i 0).toNat_lt
   have px:=(l.getD (i+1) 0).toNat_lt
   have sR:=(l.getD (i+2) 0).toNat_lt
   have XY:bY=65536*x0+256*x1+x2:=by rw[<-FG];exact ae7 (by omega) (by omega) (by omega) (by omega) (by omega) (by omega)
   have O9:Hid (ij (l.drop i)=_):=atc hlt nT sx kJ qC ja iq qU XY
   have hbl:0<=bY:=by omega
   have aCg:bY<16777216:=by omega
   have ake:al.size=64:=by show al.data.size=64;rw[<-Array.length_toList,dZ];rfl
   clear XY ja iq qU u0 px sR
   clear FG
   have hw4:m3.heap.size<=w4.heap.size:=hb4.size
   clear hg4 bC c1 c2 hq' hcell hI l5 hb4
   go_loopw [39] (λv Sw=>∃k:Nat,v= .int .i64 k/\k<=n+1/\Lib.IsBuilder 112 5 w.heap.size w.heap.size (Lib.byteCells (d++(List.range k).map λj=>me ((bY/2^(18-6*j)).toNat% 64))) Sw/\Below w.heap.size w Sw) (λv _=>n+1-(RowKit.intOf v).toNat)
   case atStart=>
    refine⟨0,rfl,by omega,by simpa using aiT,aiJ⟩
   case round=>
    obtain⟨k,rfl,hk,xa,Oh⟩:=hrel
    by_cases aCp:k<n+1
    ·obtain⟨m,hm⟩:∃m:Nat,m=(bY/2^(18-6*k)).toNat% 64:=⟨_,rfl⟩
     have gj:(0:Int)<2^(18-6*k):=Int.pow_pos (by decide)
     have xl:0<=bY/2^(18-6*k):=Int.ediv_nonneg hbl (by omega)
     have rq:bY/2^(18-6*k)<=bY:=Int.ediv_le_self _ hbl
     have hand:bits BinOp.and IntKind.i64 (bY/2^(18-6*k)) 63=(m:Int):=by rw[hm];exact ae6 xl (by omega)
     have alg:m<al.size:=by rw[ake,hm];exact Nat.mod_lt _ (by decide)
     have aCu:((al[m]).toNat:Int)=(me m).toNat:=by
      have:al[m]=me m:=by
       have e:al.data.toList.getD m 0=al[m]:=by
        simp only[List.getD,List.getElem?_eq_getElem (show m<al.data.toList.length by rw[Array.length_toList];exact alg),Option.getD_some]
        rfl
       rw[<-e,dZ];rfl
      rw[this]
     replace hm:Hid _:=hm
     clear gj xl rq
     go_wp2_with (go_at_call 81;refine(Tryz.Builder_WriteByte w.heap.size w.heap.size _ _ _ xa (by rw[Lib.byteCells_length,List.length_append,List.length_map,List.length_range];omega) Oh.size).mono ?_)
     rintro e ayd ⟨rfl,h1,b1⟩
     go_wp2
     go_roundw
     case rel=>
      refine⟨k+1,by simp,by omega,?_,Oh.trans b1⟩
      have hm:m=(bY/2^(18-6*k)).toNat% 64:=hm
      rw[List.range_succ,List.map_append,<-List.append_assoc,Lib.byteCells_append]
      rw[hm]at h1
      exact Or.inr h1
     case measure=>simp[intOf];omega
    ·have hk2:k=n+1:=by omega
     subst hk2
     go_wp2
     go_roundw
     case rel=>
      have O9:ij (l.drop i)=_:=O9
      have hb:d++ij (l.drop i)=ij l:=hb
      refine⟨i+n,c-n,q',_,by rw[Nat.sub_sub],by omega,λh=>⟨alG h,by omega⟩,?_,?_,xa,Oh⟩
      ·rw[List.length_append,List.length_map,List.length_range];omega
      ·show _=_
       rw[List.append_assoc,<-O9,hb]
     case measure=>simp;omega
  ·have hz:l.length-i=0:=by omega
   have hI:Lib.IsBuilder 112 5 w.heap.size w.heap.size (Lib.byteCells d) wr:=hI
   rw[hz]
   go_wp2_with (go_at_call 82;refine(Tryz.Builder_String_any w.heap.size w.heap.size d _ hI l5.size).mono ?_)
   rintro e W1 ⟨rfl,b1⟩
   go_wp2
   go_ret
   have hb:d++ij (l.drop i)=ij l:=hb
   rw[List.drop_of_length_le (by omega)]at hb
   have hb:d++[]=ij l:=hb
   rw[List.append_nil]at hb
   exact⟨by rw[<-hb];rfl,l5.trans b1⟩
end Go.Proofs
namespace Go.cu
open Go Go.bo Go.Proofs Go.RowKit
theorem afi (z:Int):(iz z).length=(af z).length:=by simp[iz]
theorem afh {z:Int} {i:Nat} {v:Int} (v0:0<=v) (v1:v<=255) (h:v=((af z).getD i []).getD 0 0):((iz z).getD i 0).toNat=v.toNat:=by
 unfold iz
 by_cases hi:i<(af z).length
 ·simp only[List.getD,List.getElem?_map,List.getElem?_eq_getElem hi,Option.map_some,Option.getD_some]at h⊢
  rw[<-h];simp;omega
 ·have e:(af z)[i]?=none:=List.getElem?_eq_none (by omega)
  simp only[List.getD,List.getElem?_map,e,Option.map_none,Option.getD_none]at h⊢
  have:v=0:=by rw[h];rfl
  rw[this];rfl
theorem aaG:∀l:aH,(ij l).length<=2*l.length
 |[]=>by simp[ij]
 |[_]=>by simp[ij]
 |[_,_]=>by simp[ij]
 |a::b::c::r=>by
  have:=aaG r
  rw[Go.Proofs.aaF];simp;omega
theorem ap7 {wb:World}:fw wb J9:=by
 refine⟨λargs w=>enters (by kernel_rfl) _ _,λF w vs zs hw hz ie hat=>?_⟩
 match zs,hz,vs,hat with
 |[r],hz,[v0,v1],hat=>
  obtain⟨h0,h1,_⟩:=hat
  have ie:(af r).length<=1099511627776:=ie
  have h0:v0= .string (bw Ik):=h0
  have h1:r0 F w [.int .u8 0 255] (af r) v1:=h1
  have hlen:=afi r
  obtain⟨p,g,o,cap,hv,hp⟩:∃(p:Option Addr) (g o cap:Nat),v1= .slice p (iz r).length cap/\(0<(iz r).length->p=some ⟨g,o,none⟩/\(iz r).length<=cap/\∀j,j<(iz r).length->w.cell? ⟨g,o+j,none⟩=some (.int .u8 ((iz r).getD j 0).toNat)):=by
   rcases h1 with⟨h1,h2⟩|⟨g,o,cap,cells,t,fz,h1,⟨h2,_⟩,_,h3,h4⟩
   ·exact⟨none,0,0,0,by rw[h1,hlen,h2];rfl,λh=>by rw[hlen,h2]at h;simp at h⟩
   ·refine⟨some ⟨g,o,none⟩,g,o,cap,by rw[h1,hlen],λ_=>⟨rfl,by omega,λj hj=>?_⟩⟩
    have hj':j<(af r).length:=by omega
    have hrow:=List.getElem?_eq_getElem hj'
    obtain⟨z,z0,ag,z2,z3⟩:=(h4.1 _ (List.getElem_mem hj')).get (j:=0) (c:= .int .u8 0 255) rfl
    have hc:=h4.get hrow z3
    have hb:=afh (z:=r) (i:=j) (v:=z) ag z2 (by simp only[List.getD,hrow,Option.getD_some,z0])
    have hz':((((iz r).getD j 0).toNat:Nat):Int)=z:=by rw[hb];exact Int.toNat_of_nonneg ag
    rw[hz']
    have hc:cells[o+j]?=some (.int .u8 z):=by simpa [aB.val]using hc
    unfold World.cell?
    rw[h3]
    exact hc
  subst h0 hv
  refine(Tryz.agv (bw Ik) (by simp[bw]) (iz r) p g o cap w hp (by omega)).mono ?_
  rintro e w' ⟨rfl,hb⟩
  have hl:=aaG (iz r)
  refine⟨E2 hb,[ev (ij (iz r))],[.string ⟨(ij (iz r)).toArray⟩],⟨(ET (l:=ij (iz r)) hl (by omega)).1,(ET (l:=ij (iz r)) hl (by omega)).2,trivial⟩,?_,⟨?_,trivial⟩,rfl⟩
  ·show U (ev (ij (iz r)))=ij (iz r)
   exact fm _
  ·show Value.string _=Value.string (bw (U (ev (ij (iz r)))))
   rw[fm];rfl
end Go.cu
namespace Go.cu
open Go Go.bo Go.Proofs Go.RowKit
theorem apM {wb:World}:bb wb J7:=by
 intro zs hz
 obtain⟨rs,h1,h2,h3⟩:=afV (wb:=wb) (f:=91) (id:=510) Tryz.func91 (by kernel_rfl) (by kernel_rfl) (by kernel_rfl) (by kernel_rfl) zs hz
 match zs,hz with
 |[a,b],hz=>
  refine⟨rs,h1,?_,h3⟩
  subst h2
  show cmpL (U a) (U b)=cond (Op.bytesLess (U a) (U b)) (-1) (cond (decide (U a=U b)) 0 1)
  have hb:=Nh (U a) (U b)
  have⟨h1,h2⟩:=Wb (U a) (U b)
  cases hl:Op.bytesLess (U a) (U b)with
  |true=>exact h1.2 hl
  |false=>
   have n1:cmpL (U a) (U b)≠-1:=λh=>by rw[h1.1 h]at hl;cases hl
   by_cases h:U a=U b
   ·rw[decide_eq_true h];exact h2.2 h
   ·have n0:cmpL (U a) (U b)≠0:=λh'=>h (h2.1 h')
    rw[decide_eq_false h]
    show cmpL (U a) (U b)=1
    omega
end Go.cu
namespace Go.Proofs
open Go.Shelf Go.RowKit
shelf_lay SlLaysJ.n14 Slb 14 at Tryz as Tryz.Zt
open Go.bo Go.Lib
def p6:List aB:=[.int .u8 0 255]
def wg (rows:List (List Int)):List UInt8:=rows.map λr=>UInt8.ofNat (r.getD 0 0).toNat
theorem ab5 {r:List Int} (h:cl p6 r):∃z:Int,r=[z]/\0<=z/\z<=255/\((UInt8.ofNat z.toNat).toNat:Int)=z:=by
 match r,h with
 |[z],h=>
  have h1:0<=z/\z<=255:=h.1
  refine⟨z,rfl,h1.1,h1.2,?_⟩
  have e:(UInt8.ofNat z.toNat).toNat=z.toNat% 256:=by simp
  rw[e];omega
theorem Ln (rows:List (List Int)):(wg rows).length=rows.length:=by simp[wg]
theorem avA {w:World} {g o:Nat} {cells:Array Value} {t:TypeId} {fz:Nat×Nat} {rows:List (List Int)} (hg:w.heap[g]?=some (.cells cells t fz)) (h:lg cells o p6 rows) (i:Nat) (x:UInt8) (hx:(wg rows)[i]?=some x):w.cell? ((⟨g,o,none⟩:Addr).add i)=some (.int .u8 (x.toNat:Int)):=by
 unfold wg at hx
 rw[List.getElem?_map]at hx
 cases hr:rows[i]? with
 |none=>rw[hr]at hx;cases hx
 |some r=>
  rw[hr]at hx
  simp only[Option.map_some,Option.some.injEq]at hx
  obtain⟨z,rfl,h1,h2,h3⟩:=ab5 (h.1 r (List.mem_of_getElem? hr))
  have hv:(de p6 [z])[0]?=some (Value.int .u8 z):=rfl
  have:=h.get hr hv
  rw[iy]
  simp only[World.cell?,hg,Option.isSome_none,Bool.false_eq_true,if_false]
  simp only[p6,List.length_cons,List.length_nil,Nat.zero_add,Nat.mul_one,Nat.add_zero]at this
  rw[this,<-hx]
  simp only[List.getD_cons_zero]
  rw[h3]
theorem abg:∀(rows:List (List Int)) (zs:List Int),(∀row∈rows,cl p6 row)->(∀x∈zs,0<=x/\x<256)->bytesOf zs=wg rows->bf p6 rows=zs.map (Value.int .u8)
 |[],zs,_,_,h=>by
  have:zs.length=0:=by have:=congrArg List.length h;simpa [bytesOf,wg]using this
  rw[List.eq_nil_of_length_eq_zero this];rfl
 |r::rows,[],_,_,h=>by simp[bytesOf,wg]at h
 |r::rows,z::zs,hr,hz,h=>by
  obtain⟨y,rfl,h1,h2,h3⟩:=ab5 (hr r (by simp))
  have hz1:=hz z (by simp)
  unfold bytesOf wg at h
  simp only[List.map_cons,List.cons.injEq,List.getD_cons_zero]at h
  have ih:=abg rows zs (λx hx=>hr x (List.mem_cons_of_mem _ hx)) (λx hx=>hz x (List.mem_cons_of_mem _ hx)) h.2
  have e:y=z:=by
   have:=congrArg (λb:UInt8=>(b.toNat:Int)) h.1
   simp at this
   omega
  subst e
  show Value.int .u8 y::bf p6 rows=_
  rw[ih];rfl
theorem join_one {spec:List Int->List Int->Prop} {wb:World} {p:jf} (hc:p.c.f=80) (ha:p.c.args=[.rd p6]) (hr:p.c.res=[.rd p6]) (hp:p.c.pre=71) (hn:p.nil=true) (hs:∀z r,0<=r->r<=bK->af r=af z->spec [z] [r]) (hf:∀args w,(callFunc 80 args).run Tryz.prog w= .ok (.enter 80 args) w):
 p.eY Tryz.prog wb spec:=by
 refine⟨by rw[hc];exact hf,?_⟩
 rw[hc,ha,hr,hp]
 intro F w vs zs g hw hz ie hat hg hF hcell
 match zs,hz,vs,hat,ie,hcell with
 |[z],hz,[v],hat,ie,hcell=>
 have hat:r0 F w p6 (af z) v:=hat.1
 have ie:(af z).length<=1000000000:=ie
 have e:xU p g [v].length=#[.slice (some ⟨g,0,none⟩) 1 1,.slice none 0 0]:=by unfold xU;rw[hn];rfl
 rw[e]
 have hc0:w.cell? ⟨g,0,none⟩=some v:=by simp[World.cell?,hcell]
 have empty:(∃p0 bC,v= .slice p0 0 bC)->af z=[]->Calls Tryz.prog 80 #[.slice (some ⟨g,0,none⟩) 1 1,.slice none 0 0] w λe w'=>w.Extends w'/\∃rs us,aV (cR [ck.rd p6]) rs/\spec [z] rs/\jt (λg=>F g∨w.heap.size<=g) (λg=>w.heap.size<=g) w' [ck.rd p6] rs us/\e= .returned (qT us):=λ⟨p0,bC,hv⟩ h0=>by
  refine Calls.mono (Any.bytes_Join_one_empty Tryz.Zt g 0 1 p0 bC (.slice none 0 0) w (by rw[hc0,hv])) ?_
  rintro e w' ⟨rfl,rfl⟩
  exact⟨World.Extends.refl _,[0],[.slice none 0 0],⟨Int.le_refl _,ou,trivial⟩,hs z 0 (Int.le_refl _) ou (by rw[fa,h0]),⟨.inl ⟨rfl,fa⟩,trivial⟩,rfl⟩
 rcases hat with⟨rfl,h0⟩|⟨g1,o1,c1,cells,t,fz,rfl,⟨h2,h3⟩,h4,h5,h6⟩
 ·exact empty ⟨none,0,rfl⟩ h0
 ·rcases Nat.eq_zero_or_pos (af z).length with h0|h0
  ·exact empty ⟨some ⟨g1,o1,none⟩,c1,by rw[h0]⟩ (List.eq_nil_of_length_eq_zero h0)
  ·refine Calls.mono (Any.bytes_Join_one Tryz.Zt g 0 1 ⟨g1,o1,none⟩ c1 (wg (af z)) (.slice none 0 0) w (by rw[hc0,Ln]) (λi x hx=>avA h5 h6 i x hx) (by rw[Ln];exact h0) (by rw[Ln];omega)) ?_
   rintro e w' ⟨v',rfl,⟨g2,cap,zs',rfl,k1,k2,k3,k4,qI,tN,J3,_⟩,hb⟩
   have hsz:=hb.size
   rw[Ln]at k2 tN⊢
   obtain⟨cells',t',N4,gP⟩:∃cells' t' N4,w'.heap[g2]?=some (.cells cells' t' N4):=by
    have h7:=J3 0 (by omega)
    simp only[World.cell?]at h7
    cases ai:w'.heap[g2]? with
    |none=>simp[ai]at h7
    |some ob=>
     cases ob<;>simp[ai]at h7
     exact⟨_,_,_,rfl⟩
   have xc:∀i,i<cap->cells'[i]?=some (.int .u8 (zs'.getD i 0)):=λi hi=>by
    have h7:=J3 i hi
    simpa [World.cell?,gP]using h7
   have iP:=abg (af z) (zs'.take (af z).length) h6.1 (λx hx=>qI x (List.mem_of_mem_take hx)) tN
   refine⟨NP (World.Extends.refl w) hb.os hb.tape hb.output hb.size hb.block,[z],[_],hz,hs z z hz.1 hz.2.1 rfl,⟨.inr ⟨g2,0,cap,cells',t',N4,rfl,⟨k2,by simp only[maxLen]at k3;omega⟩,.inr k1,gP,h6.1,[],cells'.toList.drop (af z).length,?_,rfl⟩,trivial⟩,rfl⟩
   have alZ:cells'.toList.take (af z).length=bf p6 (af z):=by
    rw[iP]
    apply List.ext_getElem?
    intro i
    rw[List.getElem?_take,List.getElem?_map,List.getElem?_take]
    split
    ·rename_i hi
     have:=xc i (by omega)
     rw[Array.getElem?_toList,this,List.getD_eq_getElem?_getD]
     have hlt:i<zs'.length:=by omega
     rw[List.getElem?_eq_getElem hlt];rfl
    ·rfl
   show cells'.toList=[]++bf p6 (af z)++_
   rw[List.nil_append,<-alZ,List.take_append_drop]
end Go.Proofs
namespace Go.Proofs.YtponpidccjmlnaaGreatDoor
open Go Go.bo Go.cu Go.ChangeShapes Go.RowKit
theorem own:ownKnob Tryz.prog.godebug=none:=by kernel_rfl
theorem aoo:laidOutB Tryz.prog=true:=by kernel_rfl
def laid:List (String×oc Unit):=[("unicode/utf8.acceptRanges",Rows.laid_unicode_utf8_acceptRanges),("vouchsafe/field.One",Rows.laid_vouchsafe_field_One),("vouchsafe/curve.once",Rows.laid_vouchsafe_curve_once),("vouchsafe/sha.roots",Rows.laid_vouchsafe_sha_roots),("vouchsafe/sha.begins",Rows.laid_vouchsafe_sha_begins),("unicode/utf8.first",Rows.laid_unicode_utf8_first)]
theorem W7:Tryz.prog.globalNamed "vouchsafe/field.One" =some 3:=by kernel_rfl
theorem au3:(Tryz.prog.globals[3]?).map (·.type)=some 87:=by kernel_rfl
theorem avB:Tryz.prog.underlying 87=some (.array 5 85):=by kernel_rfl
theorem agk:Tryz.prog.underlying 85=some (.int .u64):=by kernel_rfl
theorem afC:Tryz.prog.cellsOf 85=1:=by kernel_rfl
theorem afs:Tryz.prog.cellsOf 87=5:=by kernel_rfl
theorem anv:(Rows.laid_vouchsafe_field_One:oc Unit)= .agg (([1,0,0,0,0]:List Int).map λz=> .lit (.int .u64 z)):=by kernel_rfl
theorem W8:Tryz.prog.globalNamed "vouchsafe/curve.once" =some 4:=by kernel_rfl
theorem au4:(Tryz.prog.globals[4]?).map (·.type)=some 87:=by kernel_rfl
theorem avC:Tryz.prog.underlying 87=some (.array 5 85):=by kernel_rfl
theorem agl:Tryz.prog.underlying 85=some (.int .u64):=by kernel_rfl
theorem afD:Tryz.prog.cellsOf 85=1:=by kernel_rfl
theorem aft:Tryz.prog.cellsOf 87=5:=by kernel_rfl
theorem anw:(Rows.laid_vouchsafe_curve_once:oc Unit)= .agg (Q8.map λz=> .lit (.int .u64 z)):=by kernel_rfl
theorem W9:Tryz.prog.globalNamed "vouchsafe/sha.roots" =some 0:=by kernel_rfl
theorem au5:(Tryz.prog.globals[0]?).map (·.type)=some 100:=by kernel_rfl
theorem avD:Tryz.prog.underlying 100=some (.array 80 85):=by kernel_rfl
theorem agm:Tryz.prog.underlying 85=some (.int .u64):=by kernel_rfl
theorem afE:Tryz.prog.cellsOf 85=1:=by kernel_rfl
theorem afu:Tryz.prog.cellsOf 100=80:=by kernel_rfl
theorem anx:(Rows.laid_vouchsafe_sha_roots:oc Unit)= .agg (x4.map λz=> .lit (.int .u64 z)):=by kernel_rfl
theorem Xa:Tryz.prog.globalNamed "vouchsafe/sha.begins" =some 1:=by kernel_rfl
theorem au6:(Tryz.prog.globals[1]?).map (·.type)=some 107:=by kernel_rfl
theorem avE:Tryz.prog.underlying 107=some (.array 8 85):=by kernel_rfl
theorem agn:Tryz.prog.underlying 85=some (.int .u64):=by kernel_rfl
theorem afF:Tryz.prog.cellsOf 85=1:=by kernel_rfl
theorem afv:Tryz.prog.cellsOf 107=8:=by kernel_rfl
theorem anz:(Rows.laid_vouchsafe_sha_begins:oc Unit)= .agg (Iw.map λz=> .lit (.int .u64 z)):=by kernel_rfl
theorem Xf {W:ar} (h:laidMetH Tryz.prog laid W):fg bS ⟨W,W,λ_=>False,λ_=>False,[]⟩:=by
 rw[aDc _ _ _ (by kernel_rfl)]at h
 obtain⟨cx,⟨_,_,_,_,_,_,_,_,_,_,⟨a0,b0,aA4,f0,p0,fJ,FU,xn,hv0,vb,⟨a1,b1,aA5,f1,p1,bq,hg1,alV,nV,zo,⟨a2,b2,aA6,f2,bJ,bE,vf,Gn,iR,zp,⟨a3,b3,aA7,f3,cP,b5,zt,alW,P7,FK,⟨_,_,_,_,_,_,_,_,_,_,_,_⟩,_⟩,_⟩,_⟩,_⟩,_⟩,_,_⟩:=h
 obtain rfl:=hZ (W7.symm.trans FU)
 obtain rfl:=hZ (au3.symm.trans xn)
 rw[anv]at vb
 have x0:=Je (zs:=([1,0,0,0,0]:List Int)) W7 avB agk afC afs hv0 vb
 obtain rfl:=hZ (W8.symm.trans hg1)
 obtain rfl:=hZ (au4.symm.trans alV)
 rw[anw]at zo
 have x1:=Je (zs:=Q8) W8 avC agl afD aft nV zo
 obtain rfl:=hZ (W9.symm.trans vf)
 obtain rfl:=hZ (au5.symm.trans Gn)
 rw[anx]at zp
 have x2:=Je (zs:=x4) W9 avD agm afE afu iR zp
 obtain rfl:=hZ (Xa.symm.trans zt)
 obtain rfl:=hZ (au6.symm.trans alW)
 rw[anz]at FK
 have gF:=Je (zs:=Iw) Xa avE agn afF afv P7 FK
 intro g cs hm
 simp only[bS,List.mem_cons,cA,List.not_mem_nil,or_false]at hm
 rcases hm with⟨rfl,rfl⟩|⟨rfl,rfl⟩|⟨rfl,rfl⟩|⟨rfl,rfl⟩
 ·rw[k7];exact x2
 ·rw[k7];exact gF
 ·rw[k7];exact x0
 ·rw[k7];exact x1
theorem anA:(laid.filter λx=>x.2.handleName?.isNone)=laid:=by kernel_rfl
theorem af7 (os:Os) (args:Array aF):laidMetH Tryz.prog laid ((World.laidAll Tryz.prog os laid).forCall (λ_ _=>0) ⟨#[],args,[]⟩).memory:=
 laidMetH_of_parts3 (fuel:=8) (by rw[anA];exact laidMet_laidAll args (by kernel_rfl) (by kernel_rfl)) (by kernel_rfl) (by kernel_rfl)
theorem avw:Eu Tryz.prog 9 (.d (.str)):=Tryz.underlying9
theorem avv:Eu Tryz.prog 32 (.d (.mix [.str,.str,.str,.str,.str,.str,.str])):=⟨.inl ⟨_,Tryz.underlying32⟩,by kernel_rfl,by kernel_rfl⟩
theorem avu:Eu Tryz.prog 22 (.rd [.str,.str,.str,.str,.str,.str,.str]):=⟨32,Tryz.underlying22,by kernel_rfl,by kernel_rfl,by decide⟩
theorem cell0 {W:ar} (h:W.ShapedOpen Tryz.prog):∃m,W.cell? ⟨2,0,none⟩=some (.int .i64 m):=
 cell_of_shapedOpen_int (zero:=#[.int .i64 0]) (t:=3) h (of_decide_eq_true (by kernel_rfl)) (by kernel_rfl) rfl (by kernel_rfl) (by kernel_rfl) Tryz.underlying3
theorem akz {W:ar} {m:Int} (h:W.cell? ⟨2,0,none⟩=some (.int .i64 m)):2<W.heap.size:=by
 rcases Nat.lt_or_ge 2 W.heap.size with h0|h0
 ·exact h0
 ·have:W.heap[(2:Nat)]?=none:=Array.getElem?_eq_none h0
  simp[World.cell?,this]at h
theorem ard {G:Nat->List Int->List Int} {id:Nat} (hid:id=659∨id=660) (a:List (List Int)) (z:Int) (h:fx G id a [[z]]):z=1:=by
 rcases hid with rfl|rfl
 all_goals
  match a,h with
  |[],h=>first|exact h|exact h.elim
  |[_],h=>first|exact h|exact h.elim
  |[_,_],h=>first|exact h|exact h.elim
  |[_,_,_],h=>first|exact h|exact h.elim
  |_::_::_::_::_,h=>exact h.elim
structure adg (W:ar) (G:Nat->List Int->List Int):Prop where
 Ri:iN G W xw
 KF:fw W vE
 Ro:fw W Ab
 KG:fw W vF
 Rq:fw W Ad
 Rp:fw W Ac
 Rh:fw W zZ
 KO:fw W vG
 Ao:fw W pj
 Ds:fw W qJ
theorem aeG {W:ar} (h:W.ShapedOpen Tryz.prog) (cF:laidMetH Tryz.prog laid W):∃G,adg W G:=by
 have hg:=Xf cF
 obtain⟨m,hm⟩:=cell0 h
 have zO:bb W oH:=ap6
 have abY:=aq3 hg
 have ab1:=aq5 hg
 have avk:=aq7 hg abY ab1
 have avb:=aq1 hg abY ab1
 have afB:=apJ hg zO
 have ava:=aq0 hg
 have af2:=apQ hg zO
 have Np:=apR hg zO
 have ari:=aqe hg zO
 have J1:=ap8 hg zO
 have aot:=aqa hg
 have atO:=aqK hg
 have atK:=aqG hg
 have V8:wF W Dt:=apI ⟨m,hm⟩ (akz hm)
 have avc:=aq2 hg
 have au9:=aqZ hg
 have alv:=ap5 hg V8 avc ava J1
 have RT:=aqS hg Np alv au9 J1
 have aoq:=ap9 hg V8 ari avb
 have atN:=aqJ hg
 have R3:=aqT hg
 have Xg:=ap4 hg
 have IZ:=apS hg
 have aa3:=aqH hg R3 Xg IZ
 have atB:=aqE hg
 have at1:=aqN hg atB
 have atE:=aqF hg atN aa3 atK atO
 have agu:=apT hg avk af2 aoq afB RT aot zO
 have afY:bb W J8:=apO
 have aeW:bb W J6:=apH
 have avh:=aq4 hg
 have atd:=aqp hg afY aeW avh
 have ao6:=aqc hg atd agu
 have atP:=aqL hg at1 atE
 have atM:=aqI hg ao6
 have at4:=aqO hg atP
 have avr:=aq8 hg
 have avj:=aq6 hg
 have aca:=aq9 hg Np avr J1 RT
 have atQ:=aqM hg Np avj J1 RT
 have Nj:=apN hg
 have abh:=aqQ hg Nj aa3 IZ
 have ata:=aqn hg Nj abh
 have as9:=aqm hg Nj abh
 have abm:=aqR hg ata R3 IZ
 have at5:=aqP hg as9 R3 Xg IZ
 have atm:=aqu hg
 have ayT:=arb hg
 have afU:bb W J7:=apM
 have af0:=apP hg zO
 have atn:=aqv hg atm af0
 have aaO:=aqt hg atn atM aca atQ
 have Ao:=aqh hg aaO
 have aaM:=aqs hg afU
 have Rh:=aqf hg Ao aaM
 have ate:Vm W eU:=aqq
 have aaE:=aqo hg
 have KG:=aqj hg aaO Ao aaM aaE ate
 have KF:=aqi hg aca Ao aaE
 have atj:=aqr hg
 have aaR:=aqy hg ayT at4 at5 abm
 have Ds:=aqz hg aaR
 have KO:=aqx hg Ds
 have Rq:=aqC hg aaR Ds KO
 have Rp:=aqB hg abm Ds
 have Ro:=aqA hg
 have amz:fw W J9:=ap7
 have abI:=aqU hg
 have agX:=apU hg
 have aha:=apW hg
 have ahm:=apY hg
 have ahy:=ap0 hg
 have agY:=apV hg
 have ahb:=apX hg
 have ahn:=apZ hg
 have ahz:=ap1 hg
 have auG:=aqV hg abI
 have auH:=aqW hg abI
 have auA:Bk W GU:=join_one (p:=GU) rfl rfl rfl rfl rfl (λz r h0 h1 h=>h) (enters (by kernel_rfl))
 have auB:Bk W GV:=join_one (p:=GV) rfl rfl rfl rfl rfl (λz r h0 h1 h=>h) (enters (by kernel_rfl))
 have ahH:=ap2 hg
 have ahI:=ap3 hg
 have afO:=apK hg
 have afP:=apL hg
 have aeC:=apF hg ahH agX aha ahm ahy afO
 have aeD:=apG hg ahI agY ahb ahn ahz afP
 have au0:=aqX hg auG auA aeC
 have au1:=aqY hg auH auB aeD
 obtain⟨G,hG⟩:=aeE (wb:=W) hg
 have afy:uR G W zT:=(hG zT (gC 6 rfl))
 have ao7:uR G W zY:=(aqd hg (hG xt (gC 5 rfl)) (hG xu (gC 2 rfl)) (hG xr (gC 3 rfl)))
 have afz:uR G W zU:=(hG zU (gC 1 rfl))
 have afQ:uR G W zX:=(hG zX (gC 0 rfl))
 have atp:iN G W Aa:=aqw hg afQ afy ao7 afz au1
 have aau:iN G W vD:=aqg hg atp amz au0
 have arD:iN G W z1:=aqk hg Ao aau
 have Ri:iN G W xw:=aql hg atj KG KF arD aau
 exact⟨G,⟨Ri,KF,Ro,KG,Rq,Rp,Rh,KO,Ao,Ds⟩⟩
end Go.Proofs.YtponpidccjmlnaaGreatDoor
