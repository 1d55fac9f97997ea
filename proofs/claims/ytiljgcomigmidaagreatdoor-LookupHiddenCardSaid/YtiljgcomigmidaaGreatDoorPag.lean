/- Pag: a part of the proof of statements of this seat. -/
import Derived.Test.YtiljgcomigmidaaGreatDoorPae
import Derived.Test.YtiljgcomigmidaaGreatDoorChunk
import Derived.Test.YtiljgcomigmidaaGreatDoorPac
import Derived.KernelRfl
import Derived.Shelf.Lay
import Derived.Shelf.LaySoft
import Derived.Shelf.Strings.Search1
import Derived.Shelf.Strings.Search3
import Derived.Shelf.Small.Strs
import Derived.Test.YtiljgcomigmidaaGreatDoorProg
import Derived.BigCall
import Derived.Lib.IndexMore
import Derived.Shelf.Strings.Builder1
import Derived.Test.YtiljgcomigmidaaGreatDoorPad
import Derived.WalkKit
import Derived.WideMake
import Derived.Laws.ResultCell
import Derived.Laws.Rows
import Derived.Lib.IndexAny
import Derived.OwnWalk
import Derived.Deep.RegionLaw
import Derived.Laws.CopyOwn
import Derived.Lib.Builder
import Derived.Lib.Overlaps
import Derived.Lib.AppendZerosOnto
import Derived.Maps.OwnSet
import Derived.Maps.Views
import Derived.OrdersHeld
import Derived.Deep.Cut
import Derived.Deep.RegionWith
import Derived.Shelf.Vars
import Derived.Test.YtiljgcomigmidaaGreatDoorRows
import Derived.Test.YtiljgcomigmidaaGreatDoorTie
import Derived.Test.YtiljgcomigmidaaGreatDoorCards
import Derived.SevenTiedAt
import Derived.Lay
open Eq renaming trans->cu,symm->cv
open Go renaming World->ai,Value->az
open Go.MakeChecks renaming laidMetH_plain->ay4
open List renaming map_map->kN
open Option.some renaming inj->gH
open Prod.mk renaming injEq->ct
set_option linter.unusedVariables false
set_option maxRecDepth 100000
namespace Go.bE
open Go Go.ba Go.Proofs
abbrev bm (wb:ai) (k:b9):Prop:=k.wX Tryz.prog wb (b5 sh SB k.id)
abbrev ve (wb:ai) (q:j6):Prop:=q.dX Tryz.prog wb (b5 sh SB q.c.id)
abbrev fE (wb:ai) (k:dw):Prop:=k.dX Tryz.prog wb (b5 sh SB k.id)
abbrev GG (wb:ai) (k:j4):Prop:=k.dX Tryz.prog wb (b5 sh SB k.id)
abbrev kv (wb:ai) (k:eK):Prop:=k.dX Tryz.prog wb (b5 sh SB k.c.id)
abbrev GH (wb:ai) (k:jJ):Prop:=k.dX Tryz.prog wb (b5 sh SB k.c.id)
abbrev Sy (wb:ai) (k:lx):Prop:=k.dX Tryz.prog wb (b5 sh SB k.c.id)
theorem fy:Tryz.prog.follows .mixedOrders=true:=by kernel_rfl
theorem aS {α:Type} {p:α->Prop}:∀x∈([]:List α),p x:=λ_ h=>by cases h
theorem bM {α:Type} {p:α->Prop} {a:α} {l:List α} (h:p a) (hl:∀x∈l,p x):∀x∈a::l,p x:=λx hx=>by
 rcases List.mem_cons.1 hx with rfl|hx
 ·exact h
 ·exact hl x hx
abbrev cI (wb:ai):Prop:=eL cg ⟨wb,wb,λ_=>False,λ_=>False,[]⟩
theorem gv {a b:Int} (h:[[a]]=[[b]]):a=b:=by simpa using h
section
variable {wb:ai} {S0:Nat->List (List Int)->List (List Int)->Prop} {cal:dW} {li:FuncId->Nat->Option cX} {n d:Nat} {lsh:Nat->List Nat} {lens:List Nat} {B:(Nat->List (List Int)->List (List Int)->Prop)->(List (List Int)->List (List Int)->Prop)->Prop}
theorem dN {c:b9} (cw:∀r ex ro,fl (b5 sh S0) Tryz.prog cg ⟨wb,r,ex,ro,[]⟩ cal) (hg:cI wb) (hf:qS Tryz.prog c.f=true) (hu:cY c.args c.res (b5 sh S0 c.id)) (hl:lens=(sh c.id).1) (hd:sL c.res=(sh c.id).2)
 (e:∀S K,tx sh lsh S K lens (dA c.args) c.res (c.tree Tryz.prog cg cal li n d)=B S K) (hp:B S0 (aW S0 c.res c.id)):c.wX Tryz.prog wb (b5 sh S0 c.id):=
 b9.dX.f (amV fy cw hg hf hu hl hd (by rw[e];exact hp))
theorem Xx {q:j6} (cw:∀r ex ro,fl (b5 sh S0) Tryz.prog cg ⟨wb,r,ex,ro,[]⟩ cal) (hg:cI wb) (hf:qS Tryz.prog q.c.f=true) (hu:cY q.c.args q.c.res (b5 sh S0 q.c.id)) (hl:lens=(sh q.c.id).1) (hd:sL q.c.res=(sh q.c.id).2)
 (e:∀S K,tx sh lsh S K lens (dA q.c.args) q.c.res (q.tree Tryz.prog cg cal li n d)=B S K) (hp:B S0 (aW S0 q.c.res q.c.id)):q.dX Tryz.prog wb (b5 sh S0 q.c.id):=
 aoS fy cw hg hf hu hl hd (by rw[e];exact hp)
theorem ry {c:dw} {bc:hT} (cw:∀r ex ro,fl (b5 sh S0) Tryz.prog cg ⟨wb,r,ex,ro,[]⟩ cal) (hg:cI wb) (fQ:∀(L:V->Env->Prop) (r:ai) (ro:Nat->Prop),lY (b5 sh S0) L ⟨wb,r,λ_=>False,ro,[]⟩ Tryz.prog bc) (hf:qS Tryz.prog c.f=true) (hl:lens=(sh c.id).1) (hd:sK c.res=(sh c.id).2)
 (e:∀S K,iI sh lsh S K lens (cd c.args) c.res (c.tree bc Tryz.prog cg cal li n d)=B S K) (hp:B S0 (ez S0 c.res c.id)):c.dX Tryz.prog wb (b5 sh S0 c.id):=
 acq fy cw hg fQ hf hl hd (by rw[e];exact hp)
theorem E2 {c:eK} {bc:hT} (cw:∀r ex ro,fl (b5 sh S0) Tryz.prog cg ⟨wb,r,ex,ro,[]⟩ cal) (hg:cI wb) (fQ:∀(L:V->Env->Prop) (r:ai) (ro:Nat->Prop),lY (b5 sh S0) L ⟨wb,r,λ_=>False,ro,[]⟩ Tryz.prog bc) (hf:qS Tryz.prog c.c.f=true) (hl:lens=(sh c.c.id).1) (hd:sK c.c.res=(sh c.c.id).2)
 (e:∀S K,iI sh lsh S K lens (cd c.c.args) c.c.res (c.tree bc Tryz.prog cg cal li n d)=B S K) (hp:B S0 (ez S0 c.c.res c.c.id)):c.dX Tryz.prog wb (b5 sh S0 c.c.id):=by
 refine eK.vW (li:=li) (rounds:=n) (d:=d) fy cw hg fQ (enters hf) (r6 λzs hz=>?_);have hv:iI sh lsh S0 (ez S0 c.c.res c.c.id) lens (cd c.c.args) c.c.res (c.tree bc Tryz.prog cg cal li n d):=by rw[e];exact hp
 have h:=kx (GO hv) hz;simp only[ez,B3]at h;rw[hl,hd]at h;exact h
end
theorem agu:Lf Tryz.prog 115:=⟨enters (by kernel_rfl),Tryz.acZ⟩
theorem rG {a0 b0:Int} (h0:U a0=U b0):eF [.str] [a0]=eF [.str] [b0]:=by
 show(.string (aG (U a0)):az)=(.string (aG (U b0)):az);rw[h0]
theorem jA {a0 b0:Int} (h0:a0=b0):eF [.bool] [a0]=eF [.bool] [b0]:=by
 show(.bool (decide (a0=1)):az)=(.bool (decide (b0=1)):az);rw[h0]
theorem Qg {a0 a1 a2 b0 b1 b2:Int} (h0:U a0=U b0) (h1:U a1=U b1) (h2:a2=b2):eF [.str,.str,.bool] [a0,a1,a2]=eF [.str,.str,.bool] [b0,b1,b2]:=by
 show(.tuple #[.string (aG (U a0)),.string (aG (U a1)),.bool (decide (a2=1))]:az)=(.tuple #[.string (aG (U b0)),.string (aG (U b1)),.bool (decide (b2=1))]:az);rw[h0,h1,h2]
theorem YR {a0 a1 a2 b0 b1 b2:Int} (h0:U a0=U b0) (h1:a1=b1) (h2:a2=b2):eF [.str,.bool,.bool] [a0,a1,a2]=eF [.str,.bool,.bool] [b0,b1,b2]:=by
 show(.tuple #[.string (aG (U a0)),.bool (decide (a1=1)),.bool (decide (a2=1))]:az)=(.tuple #[.string (aG (U b0)),.bool (decide (b1=1)),.bool (decide (b2=1))]:az);rw[h0,h1,h2]
theorem JH {a0 a1 b0 b1:Int} (h0:U a0=U b0) (h1:a1=b1):eF [.str,.int .i64 0 21] [a0,a1]=eF [.str,.int .i64 0 21] [b0,b1]:=by
 show(.tuple #[.string (aG (U a0)),.int .i64 a1]:az)=(.tuple #[.string (aG (U b0)),.int .i64 b1]:az);rw[h0,h1]
theorem YS {a0 a1 a2 b0 b1 b2:Int} (h0:U a0=U b0) (h1:U a1=U b1) (h2:a2=b2):eF [.mix [.str,.str],.int .i64 0 21] [a0,a1,a2]=eF [.mix [.str,.str],.int .i64 0 21] [b0,b1,b2]:=by
 show(.tuple #[.agg #[.string (aG (U a0)),.string (aG (U a1))],.int .i64 a2]:az)=(.tuple #[.agg #[.string (aG (U b0)),.string (aG (U b1))],.int .i64 b2]:az);rw[h0,h1,h2]
theorem apI {a0 b0:Int} (h0:a0=b0):eF [.int .i64 (-1) 9223372036854775807] [a0]=eF [.int .i64 (-1) 9223372036854775807] [b0]:=by
 show(.int .i64 a0:az)=(.int .i64 b0:az);rw[h0]
theorem apJ {a0 b0:Int} (h0:a0=b0):eF [.int .i64 (-1) 1] [a0]=eF [.int .i64 (-1) 1] [b0]:=by
 show(.int .i64 a0:az)=(.int .i64 b0:az);rw[h0]
theorem apK {a0 b0:Int} (h0:a0=b0):eF [.int .i64 (-9223372036854775808) 9223372036854775807] [a0]=eF [.int .i64 (-9223372036854775808) 9223372036854775807] [b0]:=by
 show(.int .i64 a0:az)=(.int .i64 b0:az);rw[h0]
theorem Fz {a0 b0:Int} (h0:a0=b0):eF [.int .u32 0 4294967295] [a0]=eF [.int .u32 0 4294967295] [b0]:=by
 show(.int .u32 a0:az)=(.int .u32 b0:az);rw[h0]
theorem QP {A R:List D} {spec:List Int->List Int->Prop} (hl:(dA A).length=2) (hr:(dA R).length=1) (hv:∀a b:Int,U a=U b->eF R [a]=eF R [b]) (h:∀z0 ae a b:Int,spec [z0,ae] [a]->spec [z0,ae] [b]->U a=U b):cY A R spec:=λzs rs fb hz h1 h2 h3 h4=>by
 match zs,rs,fb,(gi hz).trans hl,(gi h1).trans hr,(gi h2).trans hr,h3,h4 with
 |[z0,ae],[a],[b],_,_,_,h3,h4=>exact hv a b (h z0 ae a b h3 h4)
theorem wy {A R:List D} {spec:List Int->List Int->Prop} (hl:(dA A).length=1) (hr:(dA R).length=1) (hv:∀a b:Int,U a=U b->eF R [a]=eF R [b]) (h:∀z0 a b:Int,spec [z0] [a]->spec [z0] [b]->U a=U b):cY A R spec:=λzs rs fb hz h1 h2 h3 h4=>by
 match zs,rs,fb,(gi hz).trans hl,(gi h1).trans hr,(gi h2).trans hr,h3,h4 with
 |[z0],[a],[b],_,_,_,h3,h4=>exact hv a b (h z0 a b h3 h4)
theorem kK {A R:List D} {spec:List Int->List Int->Prop} (hl:(dA A).length=1) (hr:(dA R).length=1) (hv:∀a b:Int,a=b->eF R [a]=eF R [b]) (h:∀z0 a b:Int,spec [z0] [a]->spec [z0] [b]->a=b):cY A R spec:=λzs rs fb hz h1 h2 h3 h4=>by
 match zs,rs,fb,(gi hz).trans hl,(gi h1).trans hr,(gi h2).trans hr,h3,h4 with
 |[z0],[a],[b],_,_,_,h3,h4=>exact hv a b (h z0 a b h3 h4)
theorem Cc {A R:List D} {spec:List Int->List Int->Prop} (hl:(dA A).length=2) (hr:(dA R).length=1) (hv:∀a b:Int,a=b->eF R [a]=eF R [b]) (h:∀z0 ae a b:Int,spec [z0,ae] [a]->spec [z0,ae] [b]->a=b):cY A R spec:=λzs rs fb hz h1 h2 h3 h4=>by
 match zs,rs,fb,(gi hz).trans hl,(gi h1).trans hr,(gi h2).trans hr,h3,h4 with
 |[z0,ae],[a],[b],_,_,_,h3,h4=>exact hv a b (h z0 ae a b h3 h4)
theorem J1 {A R:List D} {spec:List Int->List Int->Prop} (hl:(dA A).length=4) (hr:(dA R).length=1) (hv:∀a b:Int,a=b->eF R [a]=eF R [b]) (h:∀z0 ae z2 z3 a b:Int,spec [z0,ae,z2,z3] [a]->spec [z0,ae,z2,z3] [b]->a=b):cY A R spec:=λzs rs fb hz h1 h2 h3 h4=>by
 match zs,rs,fb,(gi hz).trans hl,(gi h1).trans hr,(gi h2).trans hr,h3,h4 with
 |[z0,ae,z2,z3],[a],[b],_,_,_,h3,h4=>exact hv a b (h z0 ae z2 z3 a b h3 h4)
theorem aty {A R:List D} {spec:List Int->List Int->Prop} (hl:(dA A).length=6) (hr:(dA R).length=1) (hv:∀a b:Int,a=b->eF R [a]=eF R [b]) (h:∀z0 ae z2 z3 z4 z5 a b:Int,spec [z0,ae,z2,z3,z4,z5] [a]->spec [z0,ae,z2,z3,z4,z5] [b]->a=b):cY A R spec:=λzs rs fb hz h1 h2 h3 h4=>by
 match zs,rs,fb,(gi hz).trans hl,(gi h1).trans hr,(gi h2).trans hr,h3,h4 with
 |[z0,ae,z2,z3,z4,z5],[a],[b],_,_,_,h3,h4=>exact hv a b (h z0 ae z2 z3 z4 z5 a b h3 h4)
theorem atr:cY vO.args vO.res (b5 sh SB 36):=QP rfl rfl (λ_ _=>rG) λ_ _ _ _ h h'=>cu h (cv h')
theorem amO {wb:ai} (hg:cI wb):bm wb vO:=dN (λ_ _ _=>cJ aS aS) hg (by kernel_rfl) atr rfl rfl asu aoi
theorem att:cY vP.args vP.res (b5 sh SB 37):=QP rfl rfl (λ_ _=>rG) λ_ _ _ _ h h'=>cu h (cv h')
theorem amQ {wb:ai} (hg:cI wb):bm wb vP:=dN (λ_ _ _=>cJ aS aS) hg (by kernel_rfl) att rfl rfl asw aok
theorem atu:cY Bk.args Bk.res (b5 sh SB 120):=wy rfl rfl (λ_ _=>rG) λ_ _ _ h h'=>cu h (cv h')
theorem amR {wb:ai} (hg:cI wb) (Ni:bm wb vO) (Nj:bm wb vP):bm wb Bk:=dN (λ_ _ _=>cJ aS (bM Ni (bM Nj aS))) hg (by kernel_rfl) atu rfl rfl asx aol
theorem atp:cY Bh.args Bh.res (b5 sh SB 121):=wy rfl rfl (λ_ _=>rG) λ_ _ _ h h'=>cu h (cv h')
theorem amM {wb:ai} (hg:cI wb) (Ni:bm wb vO) (Nj:bm wb vP):bm wb Bh:=dN (λ_ _ _=>cJ aS (bM Ni (bM Nj aS))) hg (by kernel_rfl) atp rfl rfl ass aog
theorem asJ:cY AM.args AM.res (b5 sh SB 127):=kK rfl rfl (λ_ _=>jA) λ_ _ _ h h'=>by first|exact cu h (cv h')|exact gv (cu h (cv h'))
theorem alK {wb:ai} (hg:cI wb) (pf:bm wb nx):bm wb AM:=dN (λ_ _ _=>cJ aS (bM pf aS)) hg (by kernel_rfl) asJ rfl rfl arw ani
theorem ato:cY Bg.args Bg.res (b5 sh SB 122):=wy rfl rfl (λ_ _=>rG) λ_ _ _ h h'=>cu h (cv h')
theorem amL {wb:ai} (hg:cI wb):bm wb Bg:=dN (λ_ _ _=>cJ aS aS) hg (by kernel_rfl) ato rfl rfl asr aof
theorem asM:cY AP.args AP.res (b5 sh SB 125):=by
 intro zs rs fb hz hr gQ h h'
 match zs,rs,fb,hz,hr,gQ,h,h' with
 |[z0],[a0,a1,a2],[b0,b1,b2],_,_,_,h,h'=>
  have e:(U a0,U a1,a2)=(U b0,U b1,b2):=cu h (cv h');simp only[ct]at e;exact Qg e.1 e.2.1 e.2.2
theorem alQ {wb:ai} (hg:cI wb) (pf:bm wb nx):bm wb AP:=dN (λ_ _ _=>cJ aS (bM pf aS)) hg (by kernel_rfl) asM rfl rfl arB ann
theorem asN:cY vK.args vK.res (b5 sh SB 126):=by
 intro zs rs fb hz hr gQ h h'
 match zs,rs,fb,hz,hr,gQ,h,h' with
 |[z0],[a0,a1,a2],[b0,b1,b2],_,_,_,h,h'=>
  have e:(U a0,U a1,a2)=(U b0,U b1,b2):=cu h (cv h');simp only[ct]at e;exact Qg e.1 e.2.1 e.2.2
theorem alR {wb:ai} (hg:cI wb) (pf:bm wb nx):bm wb vK:=dN (λ_ _ _=>cJ aS (bM pf aS)) hg (by kernel_rfl) asN rfl rfl arC ano
theorem as3:cY A0.args A0.res (b5 sh SB 44):=Cc rfl rfl (λ_ _=>jA) λ_ _ _ _ h h'=>by first|exact cu h (cv h')|exact gv (cu h (cv h'))
theorem amm {wb:ai} (hg:cI wb) (pf:bm wb nx):bm wb A0:=dN (λ_ _ _=>cJ aS (bM pf aS)) hg (by kernel_rfl) as3 rfl rfl ar2 anQ
theorem asX:cY sD.args sD.res (b5 sh SB 65):=Cc rfl rfl (λ_ _=>jA) λ_ _ _ _ h h'=>by first|exact cu h (cv h')|exact gv (cu h (cv h'))
theorem al4 {wb:ai} (hg:cI wb) (pf:bm wb nx):bm wb sD:=dN (λ_ _ _=>cJ aS (bM pf aS)) hg (by kernel_rfl) asX rfl rfl arN anA
theorem as0:cY AY.args AY.res (b5 sh SB 28):=wy rfl rfl (λ_ _=>rG) λ_ _ _ h h'=>cu h (cv h')
theorem amj {wb:ai} (hg:cI wb):bm wb AY:=dN (λ_ _ _=>cJ aS aS) hg (by kernel_rfl) as0 rfl rfl arZ anM
theorem ate:cY A9.args A9.res (b5 sh SB 17):=wy rfl rfl (λ_ _=>rG) λ_ _ _ h h'=>cu h (cv h')
theorem amx {wb:ai} (hg:cI wb):bm wb A9:=dN (λ_ _ _=>cJ aS aS) hg (by kernel_rfl) ate rfl rfl asd an2
theorem as9:cY A5.args A5.res (b5 sh SB 31):=Cc rfl rfl (λ_ _=>jA) λ_ _ _ _ h h'=>by first|exact cu h (cv h')|exact gv (cu h (cv h'))
theorem ams {wb:ai} (hg:cI wb):bm wb A5:=dN (λ_ _ _=>cJ aS aS) hg (by kernel_rfl) as9 rfl rfl ar8 anX
theorem atq:cY Bi.args Bi.res (b5 sh SB 123):=wy rfl rfl (λ_ _=>rG) λ_ _ _ h h'=>cu h (cv h')
theorem amN {wb:ai} (hg:cI wb):bm wb Bi:=dN (λ_ _ _=>cJ aS aS) hg (by kernel_rfl) atq rfl rfl ast aoh
theorem atn:cY Bf.args Bf.res (b5 sh SB 124):=wy rfl rfl (λ_ _=>rG) λ_ _ _ h h'=>cu h (cv h')
theorem amK {wb:ai} (hg:cI wb):bm wb Bf:=dN (λ_ _ _=>cJ aS aS) hg (by kernel_rfl) atn rfl rfl asq aoe
theorem asW:cY AT.args AT.res (b5 sh SB 47):=kK rfl rfl (λ_ _=>jA) λ_ _ _ h h'=>by first|exact cu h (cv h')|exact gv (cu h (cv h'))
theorem al1 {wb:ai} (hg:cI wb) (Nb:ve wb BK) (af4:bm wb Bi) (af2:bm wb Bg) (DK:bm wb sD):bm wb AT:=dN (λ_ _ _=>cJ (bM Nb aS) (bM af4 (bM af2 (bM DK aS)))) hg (by kernel_rfl) asW rfl rfl arM anz
theorem atk:cY vM.args vM.res (b5 sh SB 27):=kK rfl rfl (λ_ _=>jA) λ_ _ _ h h'=>by first|exact cu h (cv h')|exact gv (cu h (cv h'))
theorem amD {wb:ai} (hg:cI wb) (Nd:bm wb vK) (afu:bm wb AT) (af1:bm wb Bf) (DK:bm wb sD):bm wb vM:=dN (λ_ _ _=>cJ aS (bM Nd (bM afu (bM af1 (bM DK aS))))) hg (by kernel_rfl) atk rfl rfl asj an8
theorem asZ:cY AX.args AX.res (b5 sh SB 24):=kK rfl rfl (λ_ _=>jA) λ_ _ _ h h'=>by first|exact cu h (cv h')|exact gv (cu h (cv h'))
theorem ami {wb:ai} (hg:cI wb) (Nb:ve wb BK) (afG:bm wb A0) (af3:bm wb Bh):bm wb AX:=dN (λ_ _ _=>cJ (bM Nb aS) (bM afG (bM af3 aS))) hg (by kernel_rfl) asZ rfl rfl arY anL
theorem atd:cY A8.args A8.res (b5 sh SB 29):=kK rfl rfl (λ_ _=>jA) λ_ _ _ h h'=>by first|exact cu h (cv h')|exact gv (cu h (cv h'))
theorem amw {wb:ai} (hg:cI wb):bm wb A8:=dN (λ_ _ _=>cJ aS aS) hg (by kernel_rfl) atd rfl rfl asc an1
theorem atl:cY vN.args vN.res (b5 sh SB 50):=kK rfl rfl (λ_ _=>jA) λ_ _ _ h h'=>by first|exact cu h (cv h')|exact gv (cu h (cv h'))
theorem amF {wb:ai} (hg:cI wb):bm wb vN:=dN (λ_ _ _=>cJ aS aS) hg (by kernel_rfl) atl rfl rfl asm aoa
theorem asV:cY AS.args AS.res (b5 sh SB 51):=kK rfl rfl (λ_ _=>jA) λ_ _ _ h h'=>by first|exact cu h (cv h')|exact gv (cu h (cv h'))
theorem al0 {wb:ai} (hg:cI wb):bm wb AS:=dN (λ_ _ _=>cJ aS aS) hg (by kernel_rfl) asV rfl rfl arL anx
theorem asO:cY sC.args sC.res (b5 sh SB 52):=kK rfl rfl (λ_ _=>jA) λ_ _ _ h h'=>by first|exact cu h (cv h')|exact gv (cu h (cv h'))
theorem alT {wb:ai} (hg:cI wb):bm wb sC:=dN (λ_ _ _=>cJ aS aS) hg (by kernel_rfl) asO rfl rfl arE anq
theorem ata:cY vL.args vL.res (b5 sh SB 30):=kK rfl rfl (λ_ _=>jA) λ_ _ _ h h'=>by first|exact cu h (cv h')|exact gv (cu h (cv h'))
theorem amt {wb:ai} (hg:cI wb) (Nh:bm wb vN) (aft:bm wb AS) (DJ:bm wb sC):bm wb vL:=dN (λ_ _ _=>cJ aS (bM Nh (bM aft (bM DJ aS)))) hg (by kernel_rfl) ata rfl rfl ar9 anY
theorem as7:cY A3.args A3.res (b5 sh SB 35):=by
 intro zs rs fb hz hr gQ h h'
 match zs,rs,fb,hz,hr,gQ,h,h' with
 |[z0],[a0,a1,a2],[b0,b1,b2],_,_,_,h,h'=>
  have h:(match iJ (U z0)with|some (code,fV)=>U a0=code/\a1=aN (!fV.isEmpty)/\a2=1|none=>U a0=[]/\a1=0/\a2=0):=h;have h':(match iJ (U z0)with|some (code,fV)=>U b0=code/\b1=aN (!fV.isEmpty)/\b2=1|none=>U b0=[]/\b1=0/\b2=0):=h';cases hc:iJ (U z0)with
  |none=>rw[hc]at h h';exact YR (h.1.trans h'.1.symm) (h.2.1.trans h'.2.1.symm) (h.2.2.trans h'.2.2.symm)
  |some tK=>
   obtain⟨c,t⟩:=tK;rw[hc]at h h';exact YR (h.1.trans h'.1.symm) (h.2.1.trans h'.2.1.symm) (h.2.2.trans h'.2.2.symm)
theorem amq {wb:ai} (hg:cI wb):bm wb A3:=dN (λ_ _ _=>cJ aS aS) hg (by kernel_rfl) as7 rfl rfl ar6 anV
theorem atg:cY EO.args EO.res (b5 sh SB 13):=by
 intro zs rs fb hz hr gQ h h'
 match zs,rs,fb,hz,hr,gQ,h,h' with
 |[z0,ae],[a0,a1],[b0,b1],_,_,_,h,h'=>
  have e:(U a0,a1)=(U b0,b1):=cu h (cv h');simp only[ct]at e;exact JH e.1 e.2
theorem amz {wb:ai} (hg:cI wb) (afK:bm wb A3):ve wb Fg:=Xx (q:=Fg) (λ_ _ _=>cJ aS (bM afK aS)) hg (by kernel_rfl) atg rfl rfl asf an4
theorem as8:cY A4.args A4.res (b5 sh SB 11):=by
 intro zs rs fb hz hr gQ h h'
 match zs,rs,fb,hz,hr,gQ,h,h' with
 |[z0],[a0,a1],[b0,b1],_,_,_,h,h'=>
  have e:(U a0,a1)=(U b0,b1):=cu h (cv h');simp only[ct]at e;exact JH e.1 e.2
theorem amr {wb:ai} (hg:cI wb) (afP:bm wb A8) (Nf:bm wb vL) (afM:bm wb A5) (afQ:bm wb A9):bm wb A4:=dN (λ_ _ _=>cJ aS (bM afP (bM Nf (bM afM (bM afQ aS))))) hg (by kernel_rfl) as8 rfl rfl ar7 anW
theorem ats:cY Bj.args Bj.res (b5 sh SB 34):=QP rfl rfl (λ_ _=>rG) λ_ _ _ _ h h'=>cu h (cv h')
theorem amP {wb:ai} (hg:cI wb):bm wb Bj:=dN (λ_ _ _=>cJ aS aS) hg (by kernel_rfl) ats rfl rfl asv aoj
theorem asP:cY AR.args AR.res (b5 sh SB 10):=by
 intro zs rs fb hz hr gQ h h'
 match zs,rs,fb,hz,hr,gQ,h,h' with
 |[z0],[a0,a1],[b0,b1],_,_,_,h,h'=>
  have e:(U a0,a1)=(U b0,b1):=cu h (cv h');simp only[ct]at e;exact JH e.1 e.2
theorem alU {wb:ai} (hg:cI wb) (af6:bm wb Bk) (afq:bm wb AP) (afD:bm wb AX) (afl:bm wb AM) (Ng:bm wb vM) (afE:bm wb AY) (pf:bm wb nx):bm wb AR:=dN (λ_ _ _=>cJ aS (bM af6 (bM afq (bM afD (bM afl (bM Ng (bM afE (bM pf aS)))))))) hg (by kernel_rfl) asP rfl rfl arF anr
theorem as5:cY EN.args EN.res (b5 sh SB 12):=by
 intro zs rs fb hz hr gQ h h'
 match zs,rs,fb,hz,hr,gQ,h,h' with
 |[z0,ae],[a0,a1],[b0,b1],_,_,_,h,h'=>
  have e:(U a0,a1)=(U b0,b1):=cu h (cv h');simp only[ct]at e;exact JH e.1 e.2
theorem amo {wb:ai} (hg:cI wb) (afn:bm wb IG) (afi:bm wb IF) (af5:bm wb Bj):ve wb Ff:=Xx (q:=Ff) (λ_ _ _=>cJ aS (bM afn (bM afi (bM af5 aS)))) hg (by kernel_rfl) as5 rfl rfl ar4 anT
theorem as2:cY AZ.args AZ.res (b5 sh SB 15):=by
 intro zs rs fb hz hr gQ h h'
 match zs,rs,fb,hz,hr,gQ,h,h' with
 |[z0,ae],[a0,a1,a2],[b0,b1,b2],_,_,_,h,h'=>
  have e:(U a0,U a1,a2)=(U b0,U b1,b2):=cu h (cv h');simp only[ct]at e;exact YS e.1 e.2.1 e.2.2
theorem aml {wb:ai} (hg:cI wb) (afI:ve wb Ff) (afs:bm wb AR):bm wb AZ:=dN (λ_ _ _=>cJ (bM afI aS) (bM afs aS)) hg (by kernel_rfl) as2 rfl rfl ar1 anO
theorem atf:cY Ba.args Ba.res (b5 sh SB 18):=by
 intro zs rs fb hz hr gQ h h'
 match zs,rs,fb,hz,hr,gQ,h,h' with
 |[z0,ae],[a0,a1,a2],[b0,b1,b2],_,_,_,h,h'=>
  have e:(U a0,U a1,a2)=(U b0,U b1,b2):=cu h (cv h');simp only[ct]at e;exact YS e.1 e.2.1 e.2.2
theorem amy {wb:ai} (hg:cI wb) (afS:ve wb Fg) (afL:bm wb A4):bm wb Ba:=dN (λ_ _ _=>cJ (bM afS aS) (bM afL aS)) hg (by kernel_rfl) atf rfl rfl ase an3
theorem atb:cY A6.args A6.res (b5 sh SB 16):=Cc rfl rfl (λ_ _=>jA) λ_ _ _ _ h h'=>by first|exact cu h (cv h')|exact gv (cu h (cv h'))
theorem amu {wb:ai} (hg:cI wb) (afF:bm wb AZ):bm wb A6:=dN (λ_ _ _=>cJ aS (bM afF aS)) hg (by kernel_rfl) atb rfl rfl asa anZ
theorem ath:cY Bb.args Bb.res (b5 sh SB 19):=Cc rfl rfl (λ_ _=>jA) λ_ _ _ _ h h'=>by first|exact cu h (cv h')|exact gv (cu h (cv h'))
theorem amA {wb:ai} (hg:cI wb) (afR:bm wb Ba):bm wb Bb:=dN (λ_ _ _=>cJ aS (bM afR aS)) hg (by kernel_rfl) ath rfl rfl asg an5
theorem asY:cY AW.args AW.res (b5 sh SB 14):=J1 rfl rfl (λ_ _=>jA) λ_ _ _ _ _ _ h h'=>by first|exact cu h (cv h')|exact gv (cu h (cv h'))
theorem amf {wb:ai} (hg:cI wb):bm wb AW:=dN (λ_ _ _=>cJ aS aS) hg (by kernel_rfl) asY rfl rfl arV anI
theorem atc:cY A7.args A7.res (b5 sh SB 21):=J1 rfl rfl (λ_ _=>jA) λ_ _ _ _ _ _ h h'=>by first|exact cu h (cv h')|exact gv (cu h (cv h'))
theorem amv {wb:ai} (hg:cI wb):bm wb A7:=dN (λ_ _ _=>cJ aS aS) hg (by kernel_rfl) atc rfl rfl asb an0
theorem atv:cY Bl.args Bl.res (b5 sh SB 202):=wy rfl rfl (λ_ _=>rG) λ_ _ _ h h'=>cu h (cv h')
theorem amS {wb:ai} (hg:cI wb):bm wb Bl:=dN (λ_ _ _=>cJ aS aS) hg (by kernel_rfl) atv rfl rfl asy aom
theorem asK:cY vJ.args vJ.res (b5 sh SB 204):=kK rfl rfl (λ_ _=>apI) λ_ _ _ h h'=>by first|exact cu h (cv h')|exact gv (cu h (cv h'))
theorem alM {wb:ai} (hg:cI wb):bm wb vJ:=dN (λ_ _ _=>cJ aS aS) hg (by kernel_rfl) asK rfl rfl ary ank
theorem ati:cY Bc.args Bc.res (b5 sh SB 205):=kK rfl rfl (λ_ _=>jA) λ_ _ _ h h'=>by first|exact cu h (cv h')|exact gv (cu h (cv h'))
theorem amB {wb:ai} (hg:cI wb) (Nc:bm wb vJ) (Nf:bm wb vL) (DJ:bm wb sC):bm wb Bc:=dN (λ_ _ _=>cJ aS (bM Nc (bM Nf (bM DJ aS)))) hg (by kernel_rfl) ati rfl rfl ash an6
theorem as4:cY A1.args A1.res (b5 sh SB 206):=by
 intro zs rs fb hz hr gQ h h'
 match zs,rs,fb,hz,hr,gQ,h,h' with
 |[z0,ae],[a0,a1,a2],[b0,b1,b2],_,_,_,h,h'=>
  have e:(U a0,U a1,a2)=(U b0,U b1,b2):=cu h (cv h');simp only[ct]at e;exact Qg e.1 e.2.1 e.2.2
theorem amn {wb:ai} (hg:cI wb) (Nc:bm wb vJ) (afU:bm wb Bc):bm wb A1:=dN (λ_ _ _=>cJ aS (bM Nc (bM afU aS))) hg (by kernel_rfl) as4 rfl rfl ar3 anS
theorem atj:cY Bd.args Bd.res (b5 sh SB 207):=kK rfl rfl (λ_ _=>jA) λ_ _ _ h h'=>by first|exact cu h (cv h')|exact gv (cu h (cv h'))
theorem amC {wb:ai} (hg:cI wb) (afH:bm wb A1) (Nh:bm wb vN) (DJ:bm wb sC):bm wb Bd:=dN (λ_ _ _=>cJ aS (bM afH (bM Nh (bM DJ aS)))) hg (by kernel_rfl) atj rfl rfl asi an7
theorem atw:cY Bm.args Bm.res (b5 sh SB 200):=kK rfl rfl (λ_ _=>jA) λ_ _ _ h h'=>by first|exact cu h (cv h')|exact gv (cu h (cv h'))
theorem amT {wb:ai} (hg:cI wb) (Nd:bm wb vK) (af7:bm wb Bl) (DK:bm wb sD) (Ng:bm wb vM):bm wb Bm:=dN (λ_ _ _=>cJ aS (bM Nd (bM af7 (bM DK (bM Ng aS))))) hg (by kernel_rfl) atw rfl rfl asz aon
theorem asI:cY AL.args AL.res (b5 sh SB 300):=J1 rfl rfl (λ_ _=>jA) λ_ _ _ _ _ _ h h'=>by first|exact cu h (cv h')|exact gv (cu h (cv h'))
theorem alI {wb:ai} (hg:cI wb) (afN:bm wb A6) (af8:bm wb Bm):bm wb AL:=dN (λ_ _ _=>cJ aS (bM afN (bM af8 aS))) hg (by kernel_rfl) asI rfl rfl arv anh
theorem asH:cY AK.args AK.res (b5 sh SB 301):=aty rfl rfl (λ_ _=>apJ) λ_ _ _ _ _ _ _ _ h h'=>by first|exact cu h (cv h')|exact gv (cu h (cv h'))
theorem alH {wb:ai} (hg:cI wb) (afC:bm wb AW):bm wb AK:=dN (λ_ _ _=>cJ aS (bM afC aS)) hg (by kernel_rfl) asH rfl rfl aru ang
theorem alF {wb:ai} (hg:cI wb) (afk:bm wb AL) (afj:bm wb AK):fE wb vI:=ry (λ_ _ _=>cJ aS (bM afk (bM afj aS))) hg (λ_ _ _=>(kQ aS)) (by kernel_rfl) rfl rfl art anf
theorem atx:cY Bn.args Bn.res (b5 sh SB 320):=J1 rfl rfl (λ_ _=>jA) λ_ _ _ _ _ _ h h'=>by first|exact cu h (cv h')|exact gv (cu h (cv h'))
theorem amX {wb:ai} (hg:cI wb) (afT:bm wb Bb) (afV:bm wb Bd):bm wb Bn:=dN (λ_ _ _=>cJ aS (bM afT (bM afV aS))) hg (by kernel_rfl) atx rfl rfl asC aoq
theorem amW {wb:ai} (hg:cI wb) (af9:bm wb Bn) (afO:bm wb A7):fE wb ym:=ry (λ_ _ _=>cJ aS (bM af9 (bM afO aS))) hg (λ_ _ _=>(kQ aS)) (by kernel_rfl) rfl rfl asB aop
theorem as6:cY A2.args A2.res (b5 sh SB 400):=kK rfl rfl (λ_ _=>jA) λ_ _ _ h h'=>by first|exact cu h (cv h')|exact gv (cu h (cv h'))
theorem amp {wb:ai} (hg:cI wb):bm wb A2:=dN (λ_ _ _=>cJ aS aS) hg (by kernel_rfl) as6 rfl rfl ar5 anU
theorem asL:cY AO.args AO.res (b5 sh SB 501):=kK rfl rfl (λ_ _=>jA) λ_ _ _ h h'=>by first|exact cu h (cv h')|exact gv (cu h (cv h'))
theorem alP {wb:ai} (hg:cI wb) (pf:bm wb nx):bm wb AO:=dN (λ_ _ _=>cJ aS (bM pf aS)) hg (by kernel_rfl) asL rfl rfl arA anm
theorem as1:cY ru.args ru.res (b5 sh SB 670):=kK rfl rfl (λ_ _=>jA) λ_ _ _ h h'=>by first|exact cu h (cv h')|exact gv (cu h (cv h'))
theorem amk {wb:ai} (hg:cI wb) (afJ:bm wb A2) (afp:bm wb AO):bm wb ru:=dN (λ_ _ _=>cJ aS (bM afJ (bM afp aS))) hg (by kernel_rfl) as1 rfl rfl ar0 anN
theorem amU {wb:ai} (hg:cI wb):fE wb sE:=ry (λ_ _ _=>cJ aS aS) hg (λ_ _ _=>(kQ aS)) (by kernel_rfl) rfl rfl asA aoo
theorem al6 {wb:ai} (hg:cI wb) (DL:fE wb sE):kv wb HF:=E2 (λ_ _ _=>cJ aS aS) hg (λ_ _ _=>(kQ (bM DL aS))) (by kernel_rfl) rfl rfl arP anC
theorem al7 {wb:ai} (hg:cI wb) (DL:fE wb sE):kv wb HG:=E2 (λ_ _ _=>cJ aS aS) hg (λ_ _ _=>(kQ (bM DL aS))) (by kernel_rfl) rfl rfl arQ anD
theorem al9 {wb:ai} (hg:cI wb):fE wb AU:=ry (λ_ _ _=>cJ aS aS) hg (λ_ _ _=>(kQ aS)) (by kernel_rfl) rfl rfl arS anF
theorem alO {wb:ai} (hg:cI wb):fE wb AN:=ry (λ_ _ _=>cJ aS aS) hg (λ_ _ _=>(kQ aS)) (by kernel_rfl) rfl rfl arz anl
theorem alS {wb:ai} (hg:cI wb):fE wb AQ:=ry (λ_ _ _=>cJ aS aS) hg (λ_ _ _=>(kQ aS)) (by kernel_rfl) rfl rfl arD anp
theorem ama {wb:ai} (hg:cI wb) (afy:fE wb AU) (afo:fE wb AN) (afr:fE wb AQ) (afZ:GG wb ef) (afA:GG wb ee):kv wb HH:=E2 (λ_ _ _=>cJ aS aS) hg (λ_ _ _=>(Wo (kQ (bM afy (bM afo (bM afr aS)))) (bM afZ (bM afA aS)))) (by kernel_rfl) rfl rfl arT anG
theorem al8 {wb:ai} (hg:cI wb) (DL:fE wb sE) (afw:kv wb HF) (afx:kv wb HG) (afz:kv wb HH):kv wb Dp:=E2 (λ_ _ _=>cJ aS aS) hg (λ_ _ _=>(Dr (kQ (bM DL aS)) (bM afw (bM afx (bM afz aS))))) (by kernel_rfl) rfl rfl arR anE
theorem al5 {wb:ai} (hg:cI wb):kv wb xn:=E2 (λ_ _ _=>cJ aS aS) hg (λ_ _ _=>(kQ aS)) (by kernel_rfl) rfl rfl arO anB
theorem atm:cY Be.args Be.res (b5 sh SB 440):=Cc rfl rfl (λ_ _=>apK) λ_ _ _ _ h h'=>by first|exact cu h (cv h')|exact gv (cu h (cv h'))
theorem amG {wb:ai} (hg:cI wb):bm wb Be:=dN (λ_ _ _=>cJ aS aS) hg (by kernel_rfl) atm rfl rfl asn aob
theorem asQ:cY uk.args uk.res (b5 sh SB 444):=kK rfl rfl (λ_ _=>Fz) λ_ _ _ h h'=>by first|exact cu h (cv h')|exact gv (cu h (cv h'))
theorem alV {wb:ai} (hg:cI wb):bm wb uk:=dN (λ_ _ _=>cJ aS aS) hg (by kernel_rfl) asQ rfl rfl arG ans
theorem asR:cY um.args um.res (b5 sh SB 445):=kK rfl rfl (λ_ _=>Fz) λ_ _ _ h h'=>by first|exact cu h (cv h')|exact gv (cu h (cv h'))
theorem alW {wb:ai} (hg:cI wb):bm wb um:=dN (λ_ _ _=>cJ aS aS) hg (by kernel_rfl) asR rfl rfl arH ant
theorem asS:cY uo.args uo.res (b5 sh SB 446):=kK rfl rfl (λ_ _=>Fz) λ_ _ _ h h'=>by first|exact cu h (cv h')|exact gv (cu h (cv h'))
theorem alX {wb:ai} (hg:cI wb):bm wb uo:=dN (λ_ _ _=>cJ aS aS) hg (by kernel_rfl) asS rfl rfl arI anu
theorem asT:cY uq.args uq.res (b5 sh SB 447):=kK rfl rfl (λ_ _=>Fz) λ_ _ _ h h'=>by first|exact cu h (cv h')|exact gv (cu h (cv h'))
theorem alY {wb:ai} (hg:cI wb):bm wb uq:=dN (λ_ _ _=>cJ aS aS) hg (by kernel_rfl) asT rfl rfl arJ anv
theorem amH {wb:ai} (hg:cI wb) (afX:bm wb Be):fE wb yl:=ry (λ_ _ _=>cJ aS (bM afX aS)) hg (λ_ _ _=>(kQ aS)) (by kernel_rfl) rfl rfl aso aoc
theorem asU:cY ur.args ur.res (b5 sh SB 466):=kK rfl rfl (λ_ _=>Fz) λ_ _ _ h h'=>by first|exact cu h (cv h')|exact gv (cu h (cv h'))
theorem alZ {wb:ai} (hg:cI wb):bm wb ur:=dN (λ_ _ _=>cJ aS aS) hg (by kernel_rfl) asU rfl rfl arK anw
theorem alL {wb:ai} (hg:cI wb):fE wb yj:=ry (λ_ _ _=>cJ aS aS) hg (λ_ _ _=>(kQ aS)) (by kernel_rfl) rfl rfl arx anj
theorem alE {wb:ai} (hg:eL cg ⟨wb,wb,λ_=>False,λ_=>False,[]⟩) (U3:bm wb ur) (UZ:bm wb uk) (U0:bm wb um) (U1:bm wb uo) (U2:bm wb uq) (afm:fE wb yj):Sy wb yK:=by
 refine apl (SB:=SB) (sh:=sh) (p:=yK) (lsh:=Xn) (lens:=[1]) (inl:=(G9 Tryz.prog cg (cA [] [ur,uk,um,uo,uq]) (xd (iU [yj]) Tryz.prog cg (cA [] [ur,uk,um,uo,uq]) IQ 600 6) IQ 600 [(1,0,0,4294967295),(1,1,0,4294967295),(1,2,0,4294967295),(1,3,0,4294967295),(1,4,0,4294967295),(1,5,0,4294967295),(1,6,0,4294967295),(1,7,0,4294967295)] 115)) (λL r ex ro=>acp agu fy (λ_ _ _=>cJ aS (bM U3 (bM UZ (bM U0 (bM U1 (bM U2 aS)))))) (λg cs h=>hg g cs h) (λr ex ro=>CU (w0:=⟨wb,r,ex,ro,[]⟩) rfl fy ((λ_ _ _=>cJ aS (bM U3 (bM UZ (bM U0 (bM U1 (bM U2 aS)))))) r ex ro) (λg cs h=>hg g cs h) (kQ (bM afm aS)) 6) rfl) (by kernel_rfl) rfl rfl ?_;rw[show yK.c=IE from rfl,ars];exact ane
theorem amE {wb:ai} (hg:eL cg ⟨wb,wb,λ_=>False,λ_=>False,[]⟩):GH wb yB:=by
 refine Yf (SB:=SB) (sh:=sh) (p:=yB) (bc:=(iU [])) (cal:=(cA [] [])) (li:=ek) (rounds:=600) (d:=6) (lsh:=en) (lens:=[1,1,1]) fy (λ_ _ _=>cJ aS aS) hg (λ_ _ _ _=>(kQ aS)) (by kernel_rfl) rfl rfl ?_;rw[show yB.c=II from rfl,asl];exact an9
theorem amJ {wb:ai} (hg:eL cg ⟨wb,wb,λ_=>False,λ_=>False,[]⟩) (afY:fE wb yl) (afW:GH wb yB) (afh:Sy wb yK):GH wb BF:=by
 refine Yf (SB:=SB) (sh:=sh) (p:=BF) (bc:=(Fj [yK] (uB [yB] (iU [yl])))) (cal:=(cA [] [])) (li:=ek) (rounds:=600) (d:=6) (lsh:=en) (lens:=[1,1,1]) fy (λ_ _ _=>cJ aS aS) hg (λ_ _ _ _=>(Yk (Jn (kQ (bM afY aS)) (bM afW aS)) (bM afh aS))) (by kernel_rfl) rfl rfl ?_;rw[show BF.c=IJ from rfl,asp];exact aod
theorem amc {wb:ai} (hg:cI wb) (afv:fE wb IH) (af0:GH wb BF):fE wb rr:=ry (λ_ _ _=>cJ aS aS) hg (λ_ _ _=>(Jn (kQ (bM afv aS)) (bM af0 aS))) (by kernel_rfl) rfl rfl arU anH
theorem amh {wb:ai} (hg:cI wb) (h_lHash:fE wb rr) (afB:kv wb zY) (h_jGet:kv wb xn):fE wb yk:=ry (λ_ _ _=>cJ aS aS) hg (λ_ _ _=>(Dr (kQ (bM h_lHash aS)) (bM afB (bM h_jGet aS)))) (by kernel_rfl) rfl rfl arX anK
theorem amg {wb:ai} (hg:cI wb) (h_lpep:bm wb ru) (h_lkalive:fE wb yk) (h_lHash:fE wb rr) (h_xR:fE wb ym) (h_lLookS:kv wb Dq) (h_jGet:kv wb xn):fE wb EM:=ry (λ_ _ _=>cJ aS (bM h_lpep aS)) hg (λ_ _ _=>(Dr (kQ (bM h_lkalive (bM h_lHash (bM h_xR aS)))) (bM h_lLookS (bM h_jGet aS)))) (by kernel_rfl) rfl rfl arW anJ
end Go.bE
namespace Go.Proofs
open Go.Shelf Go.RowKit
shelf_lay Lays.n137 Nm 137 at Tryz as Tryz.ajx
theorem Tryz.strings_IndexByte (s:ByteArray) (c:Int) (w:World):
 Calls Tryz.prog 164 #[.string s,.int .u8 c] w λe w'=>e= .returned (.int .i64 (Lib.indexByte s.data.toList c.toNat.toUInt8))/\w'=w:=Any.strings_IndexByte Tryz.ajx s c w
shelf_lay Lays.n144 Nm 144 at Tryz as Tryz.ajy
theorem Tryz.strings_Contains (s sub:ByteArray) (m:Int) (w:World) (hs:s.size<4294967281) (hm:w.cell? ⟨6,0,none⟩=some (.int .i64 m)):
 Calls Tryz.prog 33 #[.string s,.string sub] w λe w'=>e= .returned (.bool (Lib.contains s.data.toList sub.data.toList))/\w'=w:=Any.strings_Contains Tryz.ajy s sub m w hs hm
end Go.Proofs
namespace Go.bE
open Go Go.ba Go.Proofs Go.RowKit
theorem Db {w w':World} (h:Below w.heap.size w w'):w.Extends w':=
 ⟨h.os,h.tape,h.output,h.size,λa ha=>by unfold World.cell?;rw[h.block a.block ha],λa ha=>by unfold World.frozen?;rw[h.block a.block ha],h.block⟩
theorem al2 {wb:World}:bm wb nx:=by
 intro zs hz
 obtain⟨rs,h1,h2,h3⟩:=aio (wb:=wb) (f:=137) (id:=73) Tryz.func137 (by kernel_rfl) (by kernel_rfl) (by kernel_rfl) (by kernel_rfl) zs hz
 match zs,hz with
 |[s,c],hz=>
  refine⟨rs,h1,?_,h3⟩
  subst h2
  rfl
theorem adl (b:UInt8) (l:aq):dd (b::l)=((b==46&&l.getD 0 0==46)||dd l):=by
 unfold dd
 rw[List.length_cons,List.range_succ_eq_map,List.any_cons,List.any_map]
 rfl
theorem TI:∀l:aq,Lib.contains l [46,46]=dd l
 |[]=>rfl
 |b::l=>by
  have ih:=TI l
  unfold Lib.contains at ih⊢
  rw[adl,<-ih]
  have sym:∀x:UInt8,((46:UInt8)==x)=(x==46):=λx=>by rw[Bool.eq_iff_iff,beq_iff_eq,beq_iff_eq];exact eq_comm
  have hp:([46,46]:aq).isPrefixOf (b::l)=(b==46&&l.getD 0 0==46):=by
   cases l with
   |nil=>
    show((46:UInt8)==b&&false)=(b==46&&((0:UInt8)==46))
    rw[sym];rfl
   |cons c r=>
    show((46:UInt8)==b&&((46:UInt8)==c&&true))=(b==46&&c==46)
    rw[sym,sym,Bool.and_true]
  have he:Lib.index (b::l) [46,46]=if([46,46]:aq).isPrefixOf (b::l)=true then 0 else if(Lib.index l [46,46]==-1)=true then-1 else Lib.index l [46,46]+1:=rfl
  rw[he,hp]
  cases(b==46&&l.getD 0 0==46)with
  |true=>rfl
  |false=>
   rw[if_neg (by decide),Bool.false_or]
   by_cases he:(Lib.index l [46,46]==-1)=true
   ·rw[if_pos he]
    have:=beq_iff_eq.1 he
    rw[this]
   ·rw[if_neg he]
    have he:¬Lib.index l [46,46]=-1:=λe=>he (beq_iff_eq.2 e)
    have:=Lib.index_ge [46,46] l
    rw[Bool.eq_iff_iff,decide_eq_true_eq,decide_eq_true_eq]
    omega
theorem alJ {wb:World} (hc:∃m,wb.cell? ⟨6,0,none⟩=some (.int .i64 m)) (h0:6<wb.heap.size):ve wb BK:=by
 intro zs hz hp
 match zs,hz with
 |[z],hz=>
  refine⟨[aN (dd (U z))],⟨(oH _).1,(oH _).2,trivial⟩,rfl,λw hw=> .inr ⟨enters (by kernel_rfl) _ _,?_⟩⟩
  obtain⟨m,hm⟩:=hc
  have ug:w.cell? ⟨6,0,none⟩=some (.int .i64 m):=by rw[hw.cell ⟨6,0,none⟩ h0];exact hm
  have hl:(U z).length<=4294967280:=hp
  refine(Tryz.strings_Contains (aG (U z)) (aG [46,46]) m w (by show(U z).toArray.size<_;simp;omega) ug).mono ?_
  rintro e w' ⟨rfl,rfl⟩
  refine⟨?_,World.Extends.refl _⟩
  have e1:(aG (U z)).data.toList=U z:=by simp[aG]
  have e2:(aG [46,46]).data.toList=[46,46]:=rfl
  rw[e1,e2,TI]
  show _=Ending.returned (Value.bool (decide (aN (dd (U z))=1)))
  rw[CK]
theorem CT {l:aq} {n:Nat} (h:l.length<=n) (hn:n<=140737488351232):0<=cZ l/\cZ l<=bp:=⟨nR _,my (by unfold eN;omega)⟩
end Go.bE
namespace Go.Proofs
open Go.Shelf Go.RowKit
shelf_lay Lays.n169 Nm 169 at Tryz as Tryz.lays169
theorem Tryz.Gy:Builder.Extra Tryz.prog Tryz.lays169_ren where
 sizeBuilder:=by kernel_rfl
 liesBuilder:=by kernel_rfl
 t5:=Tryz.underlying5
 a5:=Tryz.isAgg5
 z5:=Tryz.sizeOf5
 v5:=Tryz.zeroValue5
 infoByte:=by kernel_rfl
 cellsByte:=by kernel_rfl
 sizeByte:=by kernel_rfl
 neB5:=by decide
theorem Tryz.Builder_String_any (B b:Nat) (l:List UInt8) (w:World) (h:Lib.IsBuilder 121 5 B b (Lib.byteCells l) w) (UM:B<=w.heap.size):
 Calls Tryz.prog 89 #[.pointer (some ⟨b,0,none⟩)] w λe w'=>e= .returned (.string ⟨l.toArray⟩)/\Below B w w':=Any.Builder_String_any Tryz.lays169 Tryz.Gy B b l w h UM
shelf_lay Lays.n170 Nm 170 at Tryz as Tryz.ajz
theorem Tryz.Builder_Len (B b:Nat) (bs:List Value) (w:World) (h:Lib.IsBuilder 121 5 B b bs w):
 Calls Tryz.prog 163 #[.pointer (some ⟨b,0,none⟩)] w λe w'=>e= .returned (.int .i64 bs.length)/\w'=w:=Any.Builder_Len Tryz.ajz B b bs w h
set_option maxHeartbeats 1000000 in
set_option maxRecDepth 100000 in
theorem Tryz.Builder_copyCheck_used (b:Nat) (w:World) (h0:w.cell? ⟨b,0,none⟩=some (.pointer (some ⟨b,0,none⟩))):
 Calls Tryz.prog 117 #[.pointer (some ⟨b,0,none⟩)] w λe w'=>e= .returned (.tuple #[])/\w'=w:=by
 obtain⟨j,hj,_⟩:=Option.map_eq_some_iff.1 Tryz.Gy.toX72.sizeBuilder
 go_enter Tryz.func117,Tryz.ntmps117
 go_wp2
 rw[Lib.run_neq_ptr_same w _ Tryz.underlying119 hj]
 go_wp2
 go_end0
 exact⟨rfl,rfl⟩
set_option maxHeartbeats 1000000 in
set_option maxRecDepth 100000 in
theorem Tryz.Builder_copyCheck_fresh (b:Nat) (w:World) (h0:w.cell? ⟨b,0,none⟩=some (.pointer none)) (kf:w.shape? b=some (121,2)) (H3:w.frozen? ⟨b,0,none⟩=false):
 Calls Tryz.prog 117 #[.pointer (some ⟨b,0,none⟩)] w λe w'=>e= .returned (.tuple #[])/\w'=w.setCell ⟨b,0,none⟩ (.pointer (some ⟨b,0,none⟩)):=by
 have X:=Tryz.Gy.toX72
 obtain⟨j,hj,xN⟩:=Option.map_eq_some_iff.1 X.sizeBuilder
 go_enter Tryz.func117,Tryz.ntmps117
 go_wp2
 rw[Lib.run_to_unsafe w ⟨b,0,none⟩ Tryz.underlying119 Tryz.underlying167 hj (by rw[xN];decide) kf (Nat.zero_lt_succ 1)]
 simp only[Result.andThen]
 rw[Oper.upon_value]
 go_wp2
 rw[run_callFunc_extern Tryz.func139 (by kernel_rfl) (by kernel_rfl) (by kernel_rfl) (e:=Extern.AbiNoEscape.same) (by kernel_rfl)]
 rw[Lib.run_noEscape]
 simp only[Result.andThen]
 rw[Oper.upon_value]
 go_wp2
 rw[Lib.run_from_unsafe w ⟨b,0,none⟩ Tryz.underlying167 Tryz.underlying119 hj kf X.liesBuilder]
 simp only[Result.andThen]
 rw[Oper.upon_value]
 go_wp2
 go_end0
 exact⟨rfl,rfl⟩
theorem Tryz.Builder_copyCheck (B b:Nat) (bs:List Value) (w:World) (h:Lib.IsBuilder 121 5 B b bs w):
 Calls Tryz.prog 117 #[.pointer (some ⟨b,0,none⟩)] w λe w'=>e= .returned (.tuple #[])/\(Lib.BuilderAt 121 5 B b (.pointer (some ⟨b,0,none⟩)) bs w'/\Below B w w'):=by
 rcases h with h|h
 ·refine(Tryz.Builder_copyCheck_fresh b w h.cell0 h.shape h.frozen0).mono ?_
  rintro e w' ⟨rfl,rfl⟩
  exact⟨rfl,h.used _,(Below.refl B w).setCell (p:=⟨b,0,none⟩) h.1 _⟩
 ·refine(Tryz.Builder_copyCheck_used b w h.cell0).mono ?_
  rintro e w' ⟨rfl,rfl⟩
  exact⟨rfl,h,Below.refl B _⟩
set_option maxHeartbeats 2000000 in
set_option maxRecDepth 100000 in
theorem Tryz.Builder_WriteByte (B b:Nat) (bs:List Value) (c:Int) (w:World) (h:Lib.IsBuilder 121 5 B b bs w) (hlen:bs.length+1<=140737488355328) (UM:B<=w.heap.size):
 Calls Tryz.prog 88 #[.pointer (some ⟨b,0,none⟩),.int .u8 c] w λe w'=>e= .returned .nilIface/\(Lib.BuilderAt 121 5 B b (.pointer (some ⟨b,0,none⟩)) (bs++[.int .u8 c]) w'/\Below B w w'):=by
 have X:=Tryz.Gy
 obtain⟨i0,hi,hz0,hz1,hz2⟩:=info_parts X.infoByte
 go_enter Tryz.func88,Tryz.ntmps88
 go_wp2_with (go_at_call 117;refine(Tryz.Builder_copyCheck B b bs _ h).mono ?_)
 rintro e w1 ⟨rfl,h1,hb1⟩
 obtain⟨hB,v,HW,hown,hne⟩:=h1
 have bA:w1.cell? ⟨b,0,none⟩=some (.pointer (some ⟨b,0,none⟩)):=by rw[Lib.cell_of_heap HW];rfl
 have c1:w1.cell? ⟨b,1,none⟩=some v:=by rw[Lib.cell_of_heap HW];rfl
 go_wp2_with (at_builtin;refine wpList_append_own _ rfl _ _ 63 rfl B 5 i0 (.int .u8 0) 1 1 Tryz.underlying63 hi hz0 hz1 hz2 rfl (by decide) _ _ _ rfl (hown.alloc _) ⟨w1.heap.size,0,none⟩ 1 1 [.int .u8 c] rfl rfl ?c1 ?c2 ?c3 ?c4 ?c5 ?_)
 case c1=>
  intro j u hj
  match j,hj with
  |0,hj=>simp at hj;subst hj;simp[Addr.add]
 case c2=>intro u hu;simp at hu;subst hu;rfl
 case c3=>unfold maxLen;omega
 case c4=>omega
 case c5=>have:=hb1.size;simp;omega
 intro v' w2 hown' hgrow _
 have hlt:b<w1.heap.size:=by
  rcases Nat.lt_or_ge b w1.heap.size with h'|h'
  ·exact h'
  ·simp[Array.getElem?_eq_none h']at HW
 have hb2:w2.heap[b]?=some (.cells #[.pointer (some ⟨b,0,none⟩),v] 121 (0,0)):=by
  rw[hgrow.block b (by simp;omega) (λe=>hne e.symm),Lib.alloc_old w1 _ b hlt]
  exact HW
 have d0:w2.cell? ⟨b,0,none⟩=some (.pointer (some ⟨b,0,none⟩)):=by rw[Lib.cell_of_heap hb2];rfl
 have d1:w2.cell? ⟨b,1,none⟩=some v:=by rw[Lib.cell_of_heap hb2];rfl
 have f1:w2.frozen? ⟨b,1,none⟩=false:=Lib.frozen_of_heap hb2 1
 obtain⟨g,cap,rfl⟩:∃g cap,v'= .slice (some ⟨g,0,none⟩) (bs.length+1) cap:=by
  rcases hown'.2 with⟨_,h0⟩|⟨g,cap,cur,hv,_⟩
  ·omega
  ·exact⟨g,cap,hv⟩
 go_wp2
 go_ret
 refine⟨rfl,?_,?_⟩
 ·exact Lib.BuilderAt.put (T:=121) (e:=5) hB hb2 (bs':=bs++[.int .u8 c]) (by simpa using hown') X.neB5
 ·exact((hb1.alloc (by have:=hb1.size;omega) _).grown hgrow (by have:=hb1.size;simp;omega) (λk hk=>(hown.lt k hk).1)).setCell (p:=⟨b,1,none⟩) hB _
end Go.Proofs
set_option linter.unusedSimpArgs false
namespace Go.Proofs
open Go.RowKit Go.bE
def vr (s:aq):Value:=match iJ s with|some (c,t)=> .tuple #[.agg #[.string ⟨c.toArray⟩,.string ⟨t.toArray⟩],.bool true]|none=> .tuple #[.agg #[.string ⟨#[]⟩,.string ⟨#[]⟩],.bool false]
theorem aoJ {α:Type} (a:Array α) (x y:α):(a.push x).setIfInBounds a.size y=a.push y:=by
 apply Array.ext'
 simp
theorem ab8 {s t:ByteArray} (h:¬s=t):(s==t)=false:=by
 cases h':(s==t)with
 |false=>rfl
 |true=>
  have h':(s.data==t.data)=true:=h'
  exact absurd (ByteArray.ext (eq_of_beq h')) h
def IT (z:Value):Option (Nat×Value)->Value
 |some (_,v)=> .tuple #[v,.bool true]
 |none=> .tuple #[z,.bool false]
theorem Br {P:Program} {E3 uu nf:TypeId} (hm:P.underlying E3=some (.map uu nf)) (hk:P.underlying uu=some .string) (W:World) (es:Array MapEntry) (clock:Nat) (s:ByteArray) (v:Value) (hf:Instr.findNow .string (.string s) es.toList 0=some none):
 (Instr.mapUpdate E3 (.map (some W.heap.size)) (.string s) v).run P (W.alloc (.map es clock))= .ok () (W.alloc (.map (es.push {key:= .string s,val:=v,born:=clock}) (clock+1))):=by
 have hb:(W.alloc (.map es clock)).heap[W.heap.size]?=some (.map es clock):=heap_alloc_new W _
 have hc:(Instr.checkKey false 10000 uu (.string s)).run P (W.alloc (.map es clock))= .ok () (W.alloc (.map es clock)):=MapKept.run_checkKey (k:= .string s) hk (by simp[MapKept.IsKey]) false 9999
 simp only[Instr.mapUpdate,Sem.run_bind,run_underlying hm,Result.andThen,MapKept.run_getObj_map hb,Sem.run_pure,hc,MapKept.run_findKey hk hf,MapKept.run_setObj_map _ hb]
 simp only[World.alloc,aoJ]
theorem ak6 {P:Program} {E3 uu nf:TypeId} {z:Value} (hm:P.underlying E3=some (.map uu nf)) (hk:P.underlying uu=some .string) (hz:∀w,(zeroValue nf).run P w= .ok z w) (W:World) (es:Array MapEntry) (clock:Nat) (s:ByteArray) (a:Option (Nat×Value)) (hf:Instr.findNow .string (.string s) es.toList 0=some a):
 (Instr.lookup E3 (.map (some W.heap.size)) (.string s) true).run P (W.alloc (.map es clock))= .ok (IT z a) (W.alloc (.map es clock)):=by
 have hb:(W.alloc (.map es clock)).heap[W.heap.size]?=some (.map es clock):=heap_alloc_new W _
 have hc:(Instr.checkKey es.isEmpty 10000 uu (.string s)).run P (W.alloc (.map es clock))= .ok () (W.alloc (.map es clock)):=MapKept.run_checkKey (k:= .string s) hk (by simp[MapKept.IsKey]) _ 9999
 simp only[Instr.lookup,Sem.run_bind,run_underlying hm,Result.andThen,MapKept.run_getObj_map hb,Sem.run_pure,hc,MapKept.run_findKey hk hf]
 cases a with
 |none=>simp[hz,IT]
 |some p=>simp[IT]
theorem ab7 {s t:ByteArray}:s=t↔s.data.toList=t.data.toList:=⟨λh=>by rw[h],λh=>ByteArray.ext (Array.toList_inj.1 h)⟩
def ET:Array MapEntry:=#[{key:=Value.string {data:=#[]},val:=Value.agg #[Value.string {data:=#[]},Value.string {data:=#[]}],born:=0},{key:=Value.string {data:=#[71,66]},val:=Value.agg #[Value.string {data:=#[52,52]},Value.string {data:=#[48]}],born:=1},{key:=Value.string {data:=#[85,83]},val:=Value.agg #[Value.string {data:=#[49]},Value.string {data:=#[]}],born:=2},{key:=Value.string {data:=#[68,69]},val:=Value.agg #[Value.string {data:=#[52,57]},Value.string {data:=#[48]}],born:=3},{key:=Value.string {data:=#[70,82]},val:=Value.agg #[Value.string {data:=#[51,51]},Value.string {data:=#[48]}],born:=4},{key:=Value.string {data:=#[67,72]},val:=Value.agg #[Value.string {data:=#[52,49]},Value.string {data:=#[48]}],born:=5}]
theorem aju (s:ByteArray):∃a,Instr.findNow .string (.string s) ET.toList 0=some a/\IT (.agg #[.string ⟨#[]⟩,.string ⟨#[]⟩]) a=vr s.data.toList:=by
 by_cases h0:s={data:=#[]}
 ·subst h0;exact⟨_,rfl,rfl⟩
 by_cases h1:s={data:=#[71,66]}
 ·subst h1;exact⟨_,rfl,rfl⟩
 by_cases h2:s={data:=#[85,83]}
 ·subst h2;exact⟨_,rfl,rfl⟩
 by_cases h3:s={data:=#[68,69]}
 ·subst h3;exact⟨_,rfl,rfl⟩
 by_cases h4:s={data:=#[70,82]}
 ·subst h4;exact⟨_,rfl,rfl⟩
 by_cases h5:s={data:=#[67,72]}
 ·subst h5;exact⟨_,rfl,rfl⟩
 have n:∀t:ByteArray,¬s=t->(s==t)=false:=λt h=>ab8 h
 refine⟨none,?_,?_⟩
 ·simp only[ET,Instr.findNow,Instr.sameNow,n _ h0,n _ h1,n _ h2,n _ h3,n _ h4,n _ h5]
 ·have m:∀t:aq,¬s=⟨t.toArray⟩->(s.data.toList==t)=false:=λt h=>by
   cases ah:(s.data.toList==t)with
   |false=>rfl
   |true=>exact absurd (ab7.2 (by rw[beq_iff_eq.1 ah])) h
  unfold vr iJ
  rw[m [] h0,m [71,66] h1,m [85,83] h2,m [68,69] h3,m [70,82] h4,m [67,72] h5]
  rfl
set_option maxHeartbeats 4000000 in
set_option maxRecDepth 1000000 in
theorem Tryz.ac8 (s:ByteArray) (w:World):
 Calls Tryz.prog 144 #[.string s] w λe w'=>e= .returned (vr s.data.toList)/\Below w.heap.size w w':=by
 go_enter Tryz.func144,Tryz.ntmps144
 have awL:∀W:World,(Instr.makeMap 185 none).run Tryz.prog W= .ok (.map (some W.heap.size)) (W.alloc (.map #[] 0)):=λW=>run_makeMap 185 W
 have qa:(Instr.mapUpdate 185 (.map (some (w.heap.size+1))) (.string {data:=#[]}) (Value.agg #[Value.string {data:=#[]},Value.string {data:=#[]}])).run Tryz.prog ((w.alloc (Obj.cells #[Value.string {data:=#[]},Value.string {data:=#[]}] 172)).alloc (.map #[] 0))= .ok () ((w.alloc (Obj.cells #[Value.string {data:=#[]},Value.string {data:=#[]}] 172)).alloc (.map #[{key:=Value.string {data:=#[]},val:=Value.agg #[Value.string {data:=#[]},Value.string {data:=#[]}],born:=0}] 1)):=by
  have:=Br Tryz.underlying185 Tryz.underlying9 (w.alloc (Obj.cells #[Value.string {data:=#[]},Value.string {data:=#[]}] 172)) #[] 0 {data:=#[]} (Value.agg #[Value.string {data:=#[]},Value.string {data:=#[]}]) rfl
  simpa using this
 have pr:(Instr.mapUpdate 185 (.map (some (w.heap.size+1))) (.string {data:=#[71,66]}) (Value.agg #[Value.string {data:=#[52,52]},Value.string {data:=#[48]}])).run Tryz.prog ((w.alloc (Obj.cells #[Value.string {data:=#[]},Value.string {data:=#[]}] 172)).alloc (.map #[{key:=Value.string {data:=#[]},val:=Value.agg #[Value.string {data:=#[]},Value.string {data:=#[]}],born:=0}] 1))= .ok () ((w.alloc (Obj.cells #[Value.string {data:=#[]},Value.string {data:=#[]}] 172)).alloc (.map #[{key:=Value.string {data:=#[]},val:=Value.agg #[Value.string {data:=#[]},Value.string {data:=#[]}],born:=0},{key:=Value.string {data:=#[71,66]},val:=Value.agg #[Value.string {data:=#[52,52]},Value.string {data:=#[48]}],born:=1}] 2)):=by
  have:=Br Tryz.underlying185 Tryz.underlying9 (w.alloc (Obj.cells #[Value.string {data:=#[]},Value.string {data:=#[]}] 172)) #[{key:=Value.string {data:=#[]},val:=Value.agg #[Value.string {data:=#[]},Value.string {data:=#[]}],born:=0}] 1 {data:=#[71,66]} (Value.agg #[Value.string {data:=#[52,52]},Value.string {data:=#[48]}]) rfl
  simpa using this
 have xX:(Instr.mapUpdate 185 (.map (some (w.heap.size+1))) (.string {data:=#[85,83]}) (Value.agg #[Value.string {data:=#[49]},Value.string {data:=#[]}])).run Tryz.prog ((w.alloc (Obj.cells #[Value.string {data:=#[]},Value.string {data:=#[]}] 172)).alloc (.map #[{key:=Value.string {data:=#[]},val:=Value.agg #[Value.string {data:=#[]},Value.string {data:=#[]}],born:=0},{key:=Value.string {data:=#[71,66]},val:=Value.agg #[Value.string {data:=#[52,52]},Value.string {data:=#[48]}],born:=1}] 2))= .ok () ((w.alloc (Obj.cells #[Value.string {data:=#[]},Value.string {data:=#[]}] 172)).alloc (.map #[{key:=Value.string {data:=#[]},val:=Value.agg #[Value.string {data:=#[]},Value.string {data:=#[]}],born:=0},{key:=Value.string {data:=#[71,66]},val:=Value.agg #[Value.string {data:=#[52,52]},Value.string {data:=#[48]}],born:=1},{key:=Value.string {data:=#[85,83]},val:=Value.agg #[Value.string {data:=#[49]},Value.string {data:=#[]}],born:=2}] 3)):=by
  have:=Br Tryz.underlying185 Tryz.underlying9 (w.alloc (Obj.cells #[Value.string {data:=#[]},Value.string {data:=#[]}] 172)) #[{key:=Value.string {data:=#[]},val:=Value.agg #[Value.string {data:=#[]},Value.string {data:=#[]}],born:=0},{key:=Value.string {data:=#[71,66]},val:=Value.agg #[Value.string {data:=#[52,52]},Value.string {data:=#[48]}],born:=1}] 2 {data:=#[85,83]} (Value.agg #[Value.string {data:=#[49]},Value.string {data:=#[]}]) rfl
  simpa using this
 have Ij:(Instr.mapUpdate 185 (.map (some (w.heap.size+1))) (.string {data:=#[68,69]}) (Value.agg #[Value.string {data:=#[52,57]},Value.string {data:=#[48]}])).run Tryz.prog ((w.alloc (Obj.cells #[Value.string {data:=#[]},Value.string {data:=#[]}] 172)).alloc (.map #[{key:=Value.string {data:=#[]},val:=Value.agg #[Value.string {data:=#[]},Value.string {data:=#[]}],born:=0},{key:=Value.string {data:=#[71,66]},val:=Value.agg #[Value.string {data:=#[52,52]},Value.string {data:=#[48]}],born:=1},{key:=Value.string {data:=#[85,83]},val:=Value.agg #[Value.string {data:=#[49]},Value.string {data:=#[]}],born:=2}] 3))= .ok () ((w.alloc (Obj.cells #[Value.string {data:=#[]},Value.string {data:=#[]}] 172)).alloc (.map #[{key:=Value.string {data:=#[]},val:=Value.agg #[Value.string {data:=#[]},Value.string {data:=#[]}],born:=0},{key:=Value.string {data:=#[71,66]},val:=Value.agg #[Value.string {data:=#[52,52]},Value.string {data:=#[48]}],born:=1},{key:=Value.string {data:=#[85,83]},val:=Value.agg #[Value.string {data:=#[49]},Value.string {data:=#[]}],born:=2},{key:=Value.string {data:=#[68,69]},val:=Value.agg #[Value.string {data:=#[52,57]},Value.string {data:=#[48]}],born:=3}] 4)):=by
  have:=Br Tryz.underlying185 Tryz.underlying9 (w.alloc (Obj.cells #[Value.string {data:=#[]},Value.string {data:=#[]}] 172)) #[{key:=Value.string {data:=#[]},val:=Value.agg #[Value.string {data:=#[]},Value.string {data:=#[]}],born:=0},{key:=Value.string {data:=#[71,66]},val:=Value.agg #[Value.string {data:=#[52,52]},Value.string {data:=#[48]}],born:=1},{key:=Value.string {data:=#[85,83]},val:=Value.agg #[Value.string {data:=#[49]},Value.string {data:=#[]}],born:=2}] 3 {data:=#[68,69]} (Value.agg #[Value.string {data:=#[52,57]},Value.string {data:=#[48]}]) rfl
  simpa using this
 have awN:(Instr.mapUpdate 185 (.map (some (w.heap.size+1))) (.string {data:=#[70,82]}) (Value.agg #[Value.string {data:=#[51,51]},Value.string {data:=#[48]}])).run Tryz.prog ((w.alloc (Obj.cells #[Value.string {data:=#[]},Value.string {data:=#[]}] 172)).alloc (.map #[{key:=Value.string {data:=#[]},val:=Value.agg #[Value.string {data:=#[]},Value.string {data:=#[]}],born:=0},{key:=Value.string {data:=#[71,66]},val:=Value.agg #[Value.string {data:=#[52,52]},Value.string {data:=#[48]}],born:=1},{key:=Value.string {data:=#[85,83]},val:=Value.agg #[Value.string {data:=#[49]},Value.string {data:=#[]}],born:=2},{key:=Value.string {data:=#[68,69]},val:=Value.agg #[Value.string {data:=#[52,57]},Value.string {data:=#[48]}],born:=3}] 4))= .ok () ((w.alloc (Obj.cells #[Value.string {data:=#[]},Value.string {data:=#[]}] 172)).alloc (.map #[{key:=Value.string {data:=#[]},val:=Value.agg #[Value.string {data:=#[]},Value.string {data:=#[]}],born:=0},{key:=Value.string {data:=#[71,66]},val:=Value.agg #[Value.string {data:=#[52,52]},Value.string {data:=#[48]}],born:=1},{key:=Value.string {data:=#[85,83]},val:=Value.agg #[Value.string {data:=#[49]},Value.string {data:=#[]}],born:=2},{key:=Value.string {data:=#[68,69]},val:=Value.agg #[Value.string {data:=#[52,57]},Value.string {data:=#[48]}],born:=3},{key:=Value.string {data:=#[70,82]},val:=Value.agg #[Value.string {data:=#[51,51]},Value.string {data:=#[48]}],born:=4}] 5)):=by
  have:=Br Tryz.underlying185 Tryz.underlying9 (w.alloc (Obj.cells #[Value.string {data:=#[]},Value.string {data:=#[]}] 172)) #[{key:=Value.string {data:=#[]},val:=Value.agg #[Value.string {data:=#[]},Value.string {data:=#[]}],born:=0},{key:=Value.string {data:=#[71,66]},val:=Value.agg #[Value.string {data:=#[52,52]},Value.string {data:=#[48]}],born:=1},{key:=Value.string {data:=#[85,83]},val:=Value.agg #[Value.string {data:=#[49]},Value.string {data:=#[]}],born:=2},{key:=Value.string {data:=#[68,69]},val:=Value.agg #[Value.string {data:=#[52,57]},Value.string {data:=#[48]}],born:=3}] 4 {data:=#[70,82]} (Value.agg #[Value.string {data:=#[51,51]},Value.string {data:=#[48]}]) rfl
  simpa using this
 have awO:(Instr.mapUpdate 185 (.map (some (w.heap.size+1))) (.string {data:=#[67,72]}) (Value.agg #[Value.string {data:=#[52,49]},Value.string {data:=#[48]}])).run Tryz.prog ((w.alloc (Obj.cells #[Value.string {data:=#[]},Value.string {data:=#[]}] 172)).alloc (.map #[{key:=Value.string {data:=#[]},val:=Value.agg #[Value.string {data:=#[]},Value.string {data:=#[]}],born:=0},{key:=Value.string {data:=#[71,66]},val:=Value.agg #[Value.string {data:=#[52,52]},Value.string {data:=#[48]}],born:=1},{key:=Value.string {data:=#[85,83]},val:=Value.agg #[Value.string {data:=#[49]},Value.string {data:=#[]}],born:=2},{key:=Value.string {data:=#[68,69]},val:=Value.agg #[Value.string {data:=#[52,57]},Value.string {data:=#[48]}],born:=3},{key:=Value.string {data:=#[70,82]},val:=Value.agg #[Value.string {data:=#[51,51]},Value.string {data:=#[48]}],born:=4}] 5))= .ok () ((w.alloc (Obj.cells #[Value.string {data:=#[]},Value.string {data:=#[]}] 172)).alloc (.map #[{key:=Value.string {data:=#[]},val:=Value.agg #[Value.string {data:=#[]},Value.string {data:=#[]}],born:=0},{key:=Value.string {data:=#[71,66]},val:=Value.agg #[Value.string {data:=#[52,52]},Value.string {data:=#[48]}],born:=1},{key:=Value.string {data:=#[85,83]},val:=Value.agg #[Value.string {data:=#[49]},Value.string {data:=#[]}],born:=2},{key:=Value.string {data:=#[68,69]},val:=Value.agg #[Value.string {data:=#[52,57]},Value.string {data:=#[48]}],born:=3},{key:=Value.string {data:=#[70,82]},val:=Value.agg #[Value.string {data:=#[51,51]},Value.string {data:=#[48]}],born:=4},{key:=Value.string {data:=#[67,72]},val:=Value.agg #[Value.string {data:=#[52,49]},Value.string {data:=#[48]}],born:=5}] 6)):=by
  have:=Br Tryz.underlying185 Tryz.underlying9 (w.alloc (Obj.cells #[Value.string {data:=#[]},Value.string {data:=#[]}] 172)) #[{key:=Value.string {data:=#[]},val:=Value.agg #[Value.string {data:=#[]},Value.string {data:=#[]}],born:=0},{key:=Value.string {data:=#[71,66]},val:=Value.agg #[Value.string {data:=#[52,52]},Value.string {data:=#[48]}],born:=1},{key:=Value.string {data:=#[85,83]},val:=Value.agg #[Value.string {data:=#[49]},Value.string {data:=#[]}],born:=2},{key:=Value.string {data:=#[68,69]},val:=Value.agg #[Value.string {data:=#[52,57]},Value.string {data:=#[48]}],born:=3},{key:=Value.string {data:=#[70,82]},val:=Value.agg #[Value.string {data:=#[51,51]},Value.string {data:=#[48]}],born:=4}] 5 {data:=#[67,72]} (Value.agg #[Value.string {data:=#[52,49]},Value.string {data:=#[48]}]) rfl
  simpa using this
 obtain⟨c,t,ok,hl,hv⟩:∃(c t:ByteArray) (ok:Bool),(Instr.lookup 185 (.map (some (w.heap.size+1))) (.string s) true).run Tryz.prog ((w.alloc (Obj.cells #[Value.string {data:=#[]},Value.string {data:=#[]}] 172)).alloc (.map #[{key:=Value.string {data:=#[]},val:=Value.agg #[Value.string {data:=#[]},Value.string {data:=#[]}],born:=0},{key:=Value.string {data:=#[71,66]},val:=Value.agg #[Value.string {data:=#[52,52]},Value.string {data:=#[48]}],born:=1},{key:=Value.string {data:=#[85,83]},val:=Value.agg #[Value.string {data:=#[49]},Value.string {data:=#[]}],born:=2},{key:=Value.string {data:=#[68,69]},val:=Value.agg #[Value.string {data:=#[52,57]},Value.string {data:=#[48]}],born:=3},{key:=Value.string {data:=#[70,82]},val:=Value.agg #[Value.string {data:=#[51,51]},Value.string {data:=#[48]}],born:=4},{key:=Value.string {data:=#[67,72]},val:=Value.agg #[Value.string {data:=#[52,49]},Value.string {data:=#[48]}],born:=5}] 6))= .ok (.tuple #[.agg #[.string c,.string t],.bool ok]) ((w.alloc (Obj.cells #[Value.string {data:=#[]},Value.string {data:=#[]}] 172)).alloc (.map #[{key:=Value.string {data:=#[]},val:=Value.agg #[Value.string {data:=#[]},Value.string {data:=#[]}],born:=0},{key:=Value.string {data:=#[71,66]},val:=Value.agg #[Value.string {data:=#[52,52]},Value.string {data:=#[48]}],born:=1},{key:=Value.string {data:=#[85,83]},val:=Value.agg #[Value.string {data:=#[49]},Value.string {data:=#[]}],born:=2},{key:=Value.string {data:=#[68,69]},val:=Value.agg #[Value.string {data:=#[52,57]},Value.string {data:=#[48]}],born:=3},{key:=Value.string {data:=#[70,82]},val:=Value.agg #[Value.string {data:=#[51,51]},Value.string {data:=#[48]}],born:=4},{key:=Value.string {data:=#[67,72]},val:=Value.agg #[Value.string {data:=#[52,49]},Value.string {data:=#[48]}],born:=5}] 6))/\Hid (Value.tuple #[.agg #[.string c,.string t],.bool ok]=vr s.data.toList):=by
  obtain⟨a,hf,ha⟩:=aju s
  have:=ak6 (z:= .agg #[.string ⟨#[]⟩,.string ⟨#[]⟩]) Tryz.underlying185 Tryz.underlying9 (λw=>Tryz.zeroValue172 w) (w.alloc (Obj.cells #[Value.string {data:=#[]},Value.string {data:=#[]}] 172)) ET 6 s a hf
  have hsz:(w.alloc (Obj.cells #[Value.string {data:=#[]},Value.string {data:=#[]}] 172)).heap.size=w.heap.size+1:=by simp
  rw[hsz,ha]at this
  have hr:∃(c t:ByteArray) (ok:Bool),vr s.data.toList=Value.tuple #[.agg #[.string c,.string t],.bool ok]:=by
   unfold vr
   cases iJ s.data.toList with
   |none=>exact⟨_,_,_,rfl⟩
   |some p=>exact⟨_,_,_,rfl⟩
  obtain⟨c,t,ok,hr⟩:=hr
  rw[hr]at this
  exact⟨c,t,ok,this,hr.symm⟩
 go_wp2
 refine bodyPost_ret (v:= .tuple #[.agg #[.string c,.string t],.bool ok]) ?_ rfl ⟨congrArg _ hv,(((Below.refl _ w).alloc (Nat.le_refl _) _).alloc (by simp) _).alloc (by simp;omega) _⟩
 have hg:∀o1 o2:Obj,(((w.alloc (Obj.cells #[Value.string c,Value.string t] 172)).alloc o1).alloc o2).heap[w.heap.size]?=some (.cells #[.string c,.string t] 172 (0,0)):=λo1 o2=>by
  rw[Lib.alloc_old _ _ _ (by simp;omega),Lib.alloc_old _ _ _ (by simp),heap_alloc_new]
 have mG:=run_loadVar_row (P:=Tryz.prog) (((w.alloc (Obj.cells #[Value.string c,Value.string t] 172)).alloc (.map ET 6)).alloc (Obj.cells #[Value.string c,Value.string t] 172)) w.heap.size 172 172 #[.string c,.string t] (0,0) _ (hg _ _) Tryz.underlying172 rfl (by kernel_rfl)
 rw[results_cell_tmp rfl]
 show((loadVar 172 ⟨w.heap.size,0,none⟩).run Tryz.prog (((w.alloc (Obj.cells #[Value.string c,Value.string t] 172)).alloc (.map ET 6)).alloc (Obj.cells #[Value.string c,Value.string t] 172))).andThen _=_
 rw[mG]
 rfl
end Go.Proofs
namespace Go.bE
open Go Go.ba Go.Proofs Go.RowKit
theorem alN {wb:World}:bm wb IG:=by
 intro zs hz
 match zs,hz with
 |[z],hz=>
  have hw:=λw=>Tryz.ac8 (aG (U z)) w
  have e1:(aG (U z)).data.toList=U z:=by simp[aG]
  cases gN:iJ (U z)with
  |none=>
   refine⟨[0,0,0],⟨Int.le_refl _,fZ,Int.le_refl _,fZ,by decide,by decide,trivial⟩,?_,λw _=> .inr ⟨enters (by kernel_rfl) _ _,?_⟩⟩
   ·show(match iJ (U z)with|some (code,fV)=>U 0=code/\U 0=fV/\(0:Int)=1|none=>(0:Int)=0/\U 0=[]/\U 0=[])
    rw[gN];exact⟨rfl,rfl,rfl⟩
   ·refine(hw w).mono ?_
    rintro e w' ⟨rfl,hb⟩
    refine⟨?_,Db hb⟩
    rw[e1];unfold vr;rw[gN];rfl
  |some tK=>
   obtain⟨c,t⟩:=tK
   have h1:=CT (Mg gN) (by decide)
   have h2:0<=cZ t/\cZ t<=bp:=CT (n:=1) (by rcases Mh gN with h|h<;>rw[h]<;>decide) (by decide)
   refine⟨[cZ c,cZ t,1],⟨h1.1,h1.2,h2.1,h2.2,by decide,by decide,trivial⟩,?_,λw _=> .inr ⟨enters (by kernel_rfl) _ _,?_⟩⟩
   ·show(match iJ (U z)with|some (code,fV)=>U (cZ c)=code/\U (cZ t)=fV/\(1:Int)=1|none=>(1:Int)=0/\U (cZ c)=[]/\U (cZ t)=[])
    rw[gN];exact⟨dZ _,dZ _,rfl⟩
   ·refine(hw w).mono ?_
    rintro e w' ⟨rfl,hb⟩
    refine⟨?_,Db hb⟩
    rw[e1];unfold vr;rw[gN]
    show _=Ending.returned (.tuple #[.agg #[.string (aG (U (cZ c))),.string (aG (U (cZ t)))],.bool true])
    rw[dZ,dZ];rfl
end Go.bE
namespace Go.Proofs
open Go.RowKit Go.bE
theorem acv (s:ByteArray):s.data.toList.length=s.size:=by rw[Array.length_toList];rfl
def zz (s:aq):Value:=match ea s [] false with|some (d,p)=> .tuple #[.string ⟨d.toArray⟩,.bool p,.bool true]|none=> .tuple #[.string ⟨#[]⟩,.bool false,.bool false]
theorem aiM (c:UInt8):dM c=true↔(48:Int)<=c.toNat/\(c.toNat:Int)<=57:=by
 unfold dM;rw[Bool.and_eq_true,Nat.ble_eq,Nat.ble_eq];omega
theorem apU (c:UInt8):∃R:Int,(R<0↔nB.contains c=false)/\∀w,Calls Tryz.prog 164 #[.string {data:=#[32,45,46,40,41]},.int .u8 c.toNat] w λe w'=>e= .returned (.int .i64 R)/\w'=w:=by
 refine⟨Lib.indexByte nB c,?_,λw=>?_⟩
 ·rw[Lib.contains_iff_indexByte];simp
 ·have:=Tryz.strings_IndexByte ⟨#[32,45,46,40,41]⟩ (c.toNat:Int) w
  have e:(c.toNat:Int).toNat.toUInt8=c:=by simp
  rw[e]at this
  exact this
theorem ajD (d:aq) (b:Nat) (w:World) (h:Lib.IsBuilder 121 5 b b (Lib.byteCells d) w):Calls Tryz.prog 163 #[.pointer (some ⟨b,0,none⟩)] w λe w'=>e= .returned (.int .i64 d.length)/\w'=w:=by
 have:=Tryz.Builder_Len b b _ w h
 rwa [Lib.byteCells_length]at this
set_option maxHeartbeats 4000000 in
set_option maxRecDepth 1000000 in
theorem Tryz.aca (s:ByteArray) (w:World) (hs:s.size<=140737488351232):
 Calls Tryz.prog 145 #[.string s] w λe w'=>e= .returned (zz s.data.toList)/\Below w.heap.size w w':=by
 go_enter Tryz.func145,Tryz.ntmps145
 go_wp2
 go_loopw [10,3] (λvi atQ wr=>∃(i:Nat) (d:List UInt8) (p:Bool),vi= .int .i64 i/\atQ= .bool p/\i<=s.size/\d.length<=i/\Hid (ea (s.data.toList.drop i) d p=ea s.data.toList [] false)/\Lib.IsBuilder 121 5 w.heap.size w.heap.size (Lib.byteCells d) wr/\Below w.heap.size w wr) (λvi _ _=>s.size-(RowKit.intOf vi).toNat)
 case atStart=>
  exact⟨0,[],false,rfl,rfl,Nat.zero_le _,Nat.le_refl _,rfl,Lib.fresh_isBuilder 121 5 w,(Below.refl _ w).alloc (Nat.le_refl _) _⟩
 case round=>
  obtain⟨i,d,p,rfl,rfl,hi,hd,hb,hI,kX⟩:=hrel
  have hsz:s.data.toList.length=s.size:=acv s
  by_cases hlt:i<s.size
  ·have NX:(i:Int)<(s.size:Int):=by omega
   have kF:¬((i:Int)<0):=by omega
   have hc:s.data.toList.getD i 0=s[i]:=by
    simp only[List.getD,List.getElem?_eq_getElem (show i<s.data.toList.length by omega),Option.getD_some]
    rfl
   have hst:=S5 (s:=s.data.toList) (d:=d) (p:=p) (i:=i) (by omega)
   rw[hc]at hst
   have hD:=aiM s[i]
   have fin:∀{d':aq} {p':Bool},ea (List.drop i s.data.toList) d p=ea (List.drop (i+1) s.data.toList) d' p'->Hid (ea (List.drop (i+1) s.data.toList) d' p'=ea s.data.toList [] false):=λh=>by
    have hb:ea (List.drop i s.data.toList) d p=ea s.data.toList [] false:=hb
    show _=_
    rw[<-hb,h]
   have bad:ea (List.drop i s.data.toList) d p=none->Value.tuple #[.string ⟨#[]⟩,.bool false,.bool false]=zz s.data.toList:=λh=>by
    have hb:ea (List.drop i s.data.toList) d p=ea s.data.toList [] false:=hb
    unfold zz
    rw[<-hb,h]
   obtain⟨R,hR,nU⟩:=apU s[i]
   have Af:=λW=>ajD d w.heap.size W
   by_cases sg:(48:Int)<=s[i].toNat/\(s[i].toNat:Int)<=57
   ·have agF:=hD.2 sg
    obtain⟨sg,MR⟩:=sg
    rw[agF,cond_true]at hst
    clear hR nU Af bad
    go_wp2_with (go_at_call 88;refine(Tryz.Builder_WriteByte w.heap.size w.heap.size _ _ _ hI (by rw[Lib.byteCells_length];omega) kX.size).mono ?_)
    rintro e W1 rfl h1 b1
    go_wp2
    go_roundw
    case rel=>
     refine⟨i+1,d++[s[i]],p,by simp,rfl,by omega,by simp;omega,fin hst,?_,kX.trans b1⟩
     rw[Lib.byteCells_append];exact Or.inr h1
    case measure=>simp[intOf];omega
   ·have Ed:dM s[i]=false:=by
     cases ah:dM s[i]with
     |false=>rfl
     |true=>exact absurd (hD.1 ah) sg
    rw[Ed,cond_false]at hst
    by_cases tT:s[i]=43
    ·have zP:(s[i].toNat:Int)=43:=by rw[tT];rfl
     have XF:¬(48:Int)<=s[i].toNat:=by omega
     have jS:nB.contains s[i]=false:=by rw[tT];rfl
     have UU:=hR.2 jS
     rw[jS,cond_false]at hst
     by_cases hgo:d.length=0/\p=false
     ·obtain⟨p8,rfl⟩:=hgo
      have agC:d=[]:=List.length_eq_zero_iff.1 p8
      have ahU:ea (List.drop i s.data.toList) d false=ea (List.drop (i+1) s.data.toList) d true:=by
       rw[hst,tT,agC];rfl
      have HX:(d.length:Int)=0:=by omega
      rw[HX]at Af
      go_wp2_with (go_at_call 163;refine(Af _ hI).mono ?_)
      go_roundw
      case rel=>
       exact⟨i+1,d,true,by simp,rfl,by omega,by omega,fin ahU,hI,kX⟩
      case measure=>simp[intOf];omega
     ·have hno:ea (List.drop i s.data.toList) d p=none:=by
       rw[hst]
       have:(d.isEmpty&& !p)=false:=by
        cases d with
        |nil=>
         cases p with
         |true=>rfl
         |false=>exact absurd ⟨rfl,rfl⟩ hgo
        |cons x r=>rfl
       rw[Bool.and_assoc,this,Bool.and_false];rfl
      have DP:=bad hno
      clear hR
      rw[zP]at nU
      by_cases p8:d.length=0
      ·have hp:p=true:=by
        cases p with
        |true=>rfl
        |false=>exact absurd ⟨p8,rfl⟩ hgo
       subst hp
       have HX:(d.length:Int)=0:=by omega
       rw[HX]at Af
       go_wp2_with (go_at_call 163;refine(Af _ hI).mono ?_)
       go_wp2_with (go_at_call 164;refine(nU _).mono ?_)
       rintro e W1 ⟨rfl,rfl⟩
       go_wp2
       go_ret3
       refine⟨?_,kX⟩
       rw[<-DP]
       rfl
      ·have HX:¬(d.length:Int)=0:=by omega
       go_wp2_with (go_at_call 163;refine(Af _ hI).mono ?_)
       go_wp2_with (go_at_call 164;refine(nU _).mono ?_)
       rintro e W1 ⟨rfl,rfl⟩
       go_wp2
       go_ret3
       refine⟨?_,kX⟩
       rw[<-DP]
       rfl
    ·have XD:¬(s[i].toNat:Int)=43:=λe=>tT (by rw[<-UInt8.toNat_inj];show s[i].toNat=43;omega)
     have zP:(s[i]==43)=false:=by simpa using tT
     rw[zP,Bool.false_and,Bool.false_and,cond_false]at hst
     have UL:¬(48:Int)<=s[i].toNat∨((48:Int)<=s[i].toNat/\¬(s[i].toNat:Int)<=57):=by omega
     cases hsp:nB.contains s[i]with
     |false=>
      have UU:=hR.2 hsp
      rw[hsp,cond_false]at hst
      have DP:=bad hst
      clear hR
      rcases UL with XF|⟨at2,aln⟩
      ·go_wp2_with (go_at_call 164;refine(nU _).mono ?_)
       go_ret3
       refine⟨?_,kX⟩
       rw[<-DP]
       rfl
      ·go_wp2_with (go_at_call 164;refine(nU _).mono ?_)
       go_ret3
       refine⟨?_,kX⟩
       rw[<-DP]
       rfl
     |true=>
      have UU:¬R<0:=λh=>by have:=hR.1 h;rw[hsp]at this;cases this
      rw[hsp,cond_true]at hst
      clear hR
      rcases UL with XF|⟨at2,aln⟩
      ·go_wp2_with (go_at_call 164;refine(nU _).mono ?_)
       go_roundw
       case rel=>exact⟨i+1,d,p,by simp,rfl,by omega,by omega,fin hst,hI,kX⟩
       case measure=>simp[intOf];omega
      ·go_wp2_with (go_at_call 164;refine(nU _).mono ?_)
       go_roundw
       case rel=>exact⟨i+1,d,p,by simp,rfl,by omega,by omega,fin hst,hI,kX⟩
       case measure=>simp[intOf];omega
  ·have fI:¬(i:Int)<(s.size:Int):=by omega
   go_wp2_with (go_at_call 89;refine(Tryz.Builder_String_any w.heap.size w.heap.size d _ hI kX.size).mono ?_)
   rintro e W1 rfl b1
   go_wp2
   go_ret3
   have hb:ea (List.drop i s.data.toList) d p=ea s.data.toList [] false:=hb
   rw[List.drop_of_length_le (by omega),ea]at hb
   refine⟨?_,kX.trans b1⟩
   unfold zz
   rw[<-hb]
   rfl
end Go.Proofs
namespace Go.bE
open Go Go.ba Go.Proofs Go.RowKit
theorem alG {wb:World}:bm wb IF:=by
 intro zs hz
 match zs,hz with
 |[z],hz=>
  have hl:(U z).length<=140737488351232:=rW hz.2.1
  have hw:=λw=>Tryz.aca (aG (U z)) w (by show(U z).toArray.size<=_;simpa using hl)
  have e1:(aG (U z)).data.toList=U z:=by simp[aG]
  cases gN:ea (U z) [] false with
  |none=>
   refine⟨[0,0,0],⟨Int.le_refl _,fZ,by decide,by decide,by decide,by decide,trivial⟩,?_,λw _=> .inr ⟨enters (by kernel_rfl) _ _,?_⟩⟩
   ·show(match ea (U z) [] false with|some (d',p')=>U 0=d'/\(0:Int)=aN p'/\(0:Int)=1|none=>U 0=[]/\(0:Int)=0/\(0:Int)=0)
    rw[gN];exact⟨rfl,rfl,rfl⟩
   ·refine(hw w).mono ?_
    rintro e w' ⟨rfl,hb⟩
    refine⟨?_,Db hb⟩
    rw[e1];unfold zz;rw[gN];rfl
  |some tK=>
   obtain⟨c,t⟩:=tK
   have h1:=CT (CL _ _ _ gN) (by simp;omega)
   refine⟨[cZ c,aN t,1],⟨h1.1,h1.2,(oH t).1,(oH t).2,by decide,by decide,trivial⟩,?_,λw _=> .inr ⟨enters (by kernel_rfl) _ _,?_⟩⟩
   ·show(match ea (U z) [] false with|some (d',p')=>U (cZ c)=d'/\aN t=aN p'/\(1:Int)=1|none=>U (cZ c)=[]/\aN t=0/\(1:Int)=0)
    rw[gN];exact⟨dZ _,rfl,rfl⟩
   ·refine(hw w).mono ?_
    rintro e w' ⟨rfl,hb⟩
    refine⟨?_,Db hb⟩
    rw[e1];unfold zz;rw[gN]
    show _=Ending.returned (.tuple #[.string (aG (U (cZ c))),.bool (decide (aN t=1)),.bool true])
    rw[dZ,CK];rfl
end Go.bE
namespace Go.Proofs
open Go.RowKit Go.bE
theorem aiL {T e:TypeId} {B b:Nat} {bs:List Value} {w w':World} (h:Lib.IsBuilder T e B b bs w) (hk:∀k,k<w.heap.size->w'.heap[k]?=w.heap[k]?):Lib.IsBuilder T e B b bs w':=by
 have lt:∀{k:Nat} {x:Obj},w.heap[k]?=some x->k<w.heap.size:=λ{k x} hx=>by
  rcases Nat.lt_or_ge k w.heap.size with h'|h'
  ·exact h'
  ·rw[Array.getElem?_eq_none h']at hx;cases hx
 have one:∀{q:Value},Lib.BuilderAt T e B b q bs w->Lib.BuilderAt T e B b q bs w':=λ{q} h=>by
  obtain⟨hB,v,hb,⟨rb,nq⟩,hne⟩:=h
  refine⟨hB,v,by rw[hk b (lt hb)];exact hb,⟨rb,?_⟩,hne⟩
  rcases nq with h|⟨g,cap,cur,h1,h2,h3,h4⟩
  ·exact .inl h
  ·exact .inr ⟨g,cap,cur,h1,h2,by rw[hk g (lt h3)];exact h3,h4⟩
 exact h.elim (λx=> .inl (one x)) λx=> .inr (one x)
theorem splice3 (l:aq) (i n:Nat) (hn:n<=3) (kF:n=3∨n=l.length-i):splice [Value.int .u8 0,Value.int .u8 0,Value.int .u8 0] 0 ((List.range n).map λj=>Value.int .u8 (l.getD (i+j) 0).toNat)=[Value.int .u8 (l.getD i 0).toNat,Value.int .u8 (l.getD (i+1) 0).toNat,Value.int .u8 (l.getD (i+2) 0).toNat]:=by
 have z:∀j,l.length-i<=j->((l.getD (i+j) 0).toNat:Int)=0:=λj hj=>by
  rw[show l.getD (i+j) 0=0 by simp only[List.getD];rw[List.getElem?_eq_none (by omega)];rfl];rfl
 match n,hn with
 |0,_=>rcases kF with h|h<;>first|omega|(have z0:=z 0 (by omega);have ae:=z 1 (by omega);have z2:=z 2 (by omega);rw[Nat.add_zero]at z0;rw[z0,ae,z2];rfl)
 |1,_=>rcases kF with h|h<;>first|omega|(have ae:=z 1 (by omega);have z2:=z 2 (by omega);rw[ae,z2];rfl)
 |2,_=>rcases kF with h|h<;>first|omega|(have z2:=z 2 (by omega);rw[z2];rfl)
 |3,_=>rfl
open Go.ba in
theorem acn {x0 x1 x2:Int} (a0:0<=x0) (a1:x0<=255) (b0:0<=x1) (b1:x1<=255) (bA:0<=x2) (c1:x2<=255):bits BinOp.or IntKind.i64 (bits BinOp.or IntKind.i64 (wrap64 (wrap64 x0*65536)) (wrap64 (wrap64 x1*256))) (wrap64 x2)=65536*x0+256*x1+x2:=by
 have w:∀z:Int,0<=z->z<9223372036854775808->wrap64 z=z:=λz h0 h1=>by unfold wrap64;omega
 rw[w x0 a0 (by omega),w x1 b0 (by omega),w x2 bA (by omega),w (x0*65536) (by omega) (by omega),w (x1*256) (by omega) (by omega)]
 have e1:bits BinOp.or IntKind.i64 (x0*65536) (x1*256)=65536*x0+256*x1:=by
  have h:cy BinOp.or IntKind.i64 (x0*65536) (x1*256)=_:=G4 (k:= .i64) (x:=x0*65536) (y:=x1*256) (by omega) (by omega) (show _<(9223372036854775808:Int) by omega) (show _<(9223372036854775808:Int) by omega)
  have h2:bits BinOp.or IntKind.i64 (x0*65536) (x1*256)=cy BinOp.or IntKind.i64 (x0*65536) (x1*256):=rfl
  rw[h2,h,E5 (s:=65536) ⟨16,rfl⟩ (by omega) (by omega)];omega
 rw[e1]
 have h:cy BinOp.or IntKind.i64 (65536*x0+256*x1) x2=_:=G4 (k:= .i64) (x:=65536*x0+256*x1) (y:=x2) (by omega) (by omega) (show _<(9223372036854775808:Int) by omega) (show _<(9223372036854775808:Int) by omega)
 have h2:bits BinOp.or IntKind.i64 (65536*x0+256*x1) x2=cy BinOp.or IntKind.i64 (65536*x0+256*x1) x2:=rfl
 rw[h2,h,E5 (s:=256) ⟨8,rfl⟩ (by omega) (by omega)];omega
open Go.ba in
theorem acm {x:Int} (h0:0<=x) (h1:x<9223372036854775808):bits BinOp.and IntKind.i64 x 63=((x.toNat% 64:Nat):Int):=by
 have h:cy BinOp.and IntKind.i64 x 63=_:=LP (k:= .i64) (x:=x) (y:=63) h0 (by decide) (show _<(9223372036854775808:Int) by omega) (by decide)
 have h2:bits BinOp.and IntKind.i64 x 63=cy BinOp.and IntKind.i64 x 63:=rfl
 rw[h2,h]
 exact congrArg Int.ofNat (Nat.and_two_pow_sub_one_eq_mod x.toNat 6)
theorem Ya (a b c:UInt8) (r:aq):eU (a::b::c::r)=kh (a.toNat/4)::kh (a.toNat% 4*16+b.toNat/16)::kh (b.toNat% 16*4+c.toNat/64)::kh (c.toNat% 64)::eU r:=by conv=>lhs;unfold eU
theorem aoy {l:aq} {i n:Nat} {x0 x1 x2 bS:Int} (hlt:i<l.length) (h1:1<=n) (h3:n<=3) (e6:n<=l.length-i) (kF:n=3∨n=l.length-i) (hx0:x0=(l.getD i 0).toNat) (hx1:x1=(l.getD (i+1) 0).toNat) (hx2:x2=(l.getD (i+2) 0).toNat) (hb:bS=65536*x0+256*x1+x2):
 eU (l.drop i)=(List.range (n+1)).map (λj=>kh ((bS/2^(18-6*j)).toNat% 64))++eU (l.drop (i+n)):=by
 have z:∀j,l.length<=j->((l.getD j 0).toNat:Int)=0:=λj hj=>by
  rw[show l.getD j 0=0 by simp only[List.getD];rw[List.getElem?_eq_none (by omega)];rfl];rfl
 have a1:=(l.getD i 0).toNat_lt
 have a2:=(l.getD (i+1) 0).toNat_lt
 have a3:=(l.getD (i+2) 0).toNat_lt
 have L:∀{u v:Nat},u=v->kh u=kh v:=λh=>congrArg kh h
 match n,h1,h3 with
 |1,_,_=>
  have hl:l.length=i+1:=by omega
  have d1:l.drop (i+1)=[]:=List.drop_eq_nil_of_le (by omega)
  rw[z (i+1) (by omega)]at hx1
  rw[z (i+2) (by omega)]at hx2
  rw[qM l i hlt,d1]
  show [_,_]=[_,_]
  rw[L (show(l.getD i 0).toNat/4=(bS/2^(18-6*0)).toNat% 64 by show _=(bS/262144).toNat% 64;omega),L (show(l.getD i 0).toNat% 4*16=(bS/2^(18-6*1)).toNat% 64 by show _=(bS/4096).toNat% 64;omega)]
 |2,_,_=>
  have hl:l.length=i+2:=by omega
  have d2:l.drop (i+2)=[]:=List.drop_eq_nil_of_le (by omega)
  rw[z (i+2) (by omega)]at hx2
  rw[qM l i hlt,qM l (i+1) (by omega),d2]
  show [_,_,_]=[_,_,_]
  rw[L (show(l.getD i 0).toNat/4=(bS/2^(18-6*0)).toNat% 64 by show _=(bS/262144).toNat% 64;omega),L (show(l.getD i 0).toNat% 4*16+(l.getD (i+1) 0).toNat/16=(bS/2^(18-6*1)).toNat% 64 by show _=(bS/4096).toNat% 64;omega),L (show(l.getD (i+1) 0).toNat% 16*4=(bS/2^(18-6*2)).toNat% 64 by show _=(bS/64).toNat% 64;omega)]
 |3,_,_=>
  rw[qM l i hlt,qM l (i+1) (by omega),qM l (i+2) (by omega),Ya]
  show _::_::_::_::_=_::_::_::_::_
  rw[L (show(l.getD i 0).toNat/4=(bS/2^(18-6*0)).toNat% 64 by show _=(bS/262144).toNat% 64;omega),L (show(l.getD i 0).toNat% 4*16+(l.getD (i+1) 0).toNat/16=(bS/2^(18-6*1)).toNat% 64 by show _=(bS/4096).toNat% 64;omega),L (show(l.getD (i+1) 0).toNat% 16*4+(l.getD (i+2) 0).toNat/64=(bS/2^(18-6*2)).toNat% 64 by show _=(bS/64).toNat% 64;omega),L (show(l.getD (i+2) 0).toNat% 64=(bS/2^(18-6*3)).toNat% 64 by show _=(bS/1).toNat% 64;omega)]
  rfl
set_option maxHeartbeats 4000000 in
set_option maxRecDepth 1000000 in
theorem Tryz.adK (al:ByteArray) (cG:al.data.toList=w5) (l:aq) (p:Option Addr) (g o cap:Nat) (w:World) (hp:0<l.length->p=some ⟨g,o,none⟩/\l.length<=cap/\∀j,j<l.length->w.cell? ⟨g,o+j,none⟩=some (.int .u8 (l.getD j 0).toNat)) (hl:l.length<=1099511627776):
 Calls Tryz.prog 61 #[.string al,.slice p l.length cap] w λe w'=>e= .returned (.string ⟨(eU l).toArray⟩)/\Below w.heap.size w w':=by
 go_enter Tryz.func61,Tryz.ntmps61
 go_wp2
 go_loopw [1] (λvs wr=>∃(i c:Nat) (q:Option Addr) (d:List UInt8),vs= .slice q (l.length-i) c/\i<=l.length/\(i<l.length->q=some ⟨g,o+i,none⟩/\l.length-i<=c)/\d.length<=4*i/\Hid (d++eU (l.drop i)=eU l)/\Lib.IsBuilder 121 5 w.heap.size w.heap.size (Lib.byteCells d) wr/\Below w.heap.size w wr) (λvs _=>match vs with| .slice _ n _=>n|_=>0)
 case atStart=>
  refine⟨0,cap,p,[],rfl,Nat.zero_le _,λh=>?_,Nat.zero_le _,rfl,Lib.fresh_isBuilder 121 5 w,(Below.refl _ w).alloc (Nat.le_refl _) _⟩
  obtain⟨h1,h2,_⟩:=hp (by omega)
  exact⟨h1,by omega⟩
 case round=>
  obtain⟨i,c,q,d,rfl,hi,hq,hd,hb,hI,kX⟩:=hrel
  by_cases hlt:i<l.length
  ·obtain⟨rfl,hc⟩:=hq hlt
   have hsz:(Tryz.prog.info? 5).map (·.size)=some 1:=by kernel_rfl
   obtain⟨_,_,hcell⟩:=hp (by omega)
   obtain⟨lP,rfl⟩:∃lP:World,lP=wr:=⟨_,rfl⟩
   go_wp2
   obtain⟨n,hn⟩:∃n:Nat,n=min 3 (l.length-i):=⟨_,rfl⟩
   have Az:min 3 ((l.length-i:Nat):Int)=(n:Int):=by omega
   rw[Az]
   clear Az
   have nX:1<=n:=by omega
   have ra:n<=3:=by omega
   have e6:n<=l.length-i:=by omega
   have kF:Hid (n=3∨n=l.length-i):=show n=3∨n=l.length-i by omega
   clear hn
   have xU:n<=c:=by omega
   have agW:g<w.heap.size:=block_lt_of_cell (hcell 0 (by omega))
   have hgo:¬g=lP.heap.size:=by have:=kX.size;omega
   have hrow:∀W:World,W.heap=(lP.alloc (.cells #[.int .u8 0,.int .u8 0,.int .u8 0] 122)).heap->W.heap[lP.heap.size]?=some (.cells [.int .u8 0,.int .u8 0,.int .u8 0].toArray 122 (0,0)):=λW h=>by rw[h];show(lP.heap.push _)[lP.heap.size]?=_;rw[Array.getElem?_push_size]
   have qd:∀W:World,W.heap=(lP.alloc (.cells #[.int .u8 0,.int .u8 0,.int .u8 0] 122)).heap->∀j v,((List.range n).map λj=>Value.int .u8 (l.getD (i+j) 0).toNat)[j]?=some v->W.cell? ((⟨g,o+i,none⟩:Addr).add j)=some v:=λW h j v hj=>by
    rw[List.getElem?_map]at hj
    have vE:j<n:=by
     rcases Nat.lt_or_ge j n with h|h
     ·exact h
     ·rw[List.getElem?_eq_none (by simpa using h)]at hj;cases hj
    rw[List.getElem?_range vE]at hj
    simp only[Option.map_some,Option.some.injEq]at hj
    subst hj
    have e1:=hcell (i+j) (by omega)
    have e2:W.cell? ⟨g,o+(i+j),none⟩=w.cell? ⟨g,o+(i+j),none⟩:=by
     unfold World.cell?
     simp only[h]
     have:=Lib.alloc_old lP (.cells #[.int .u8 0,.int .u8 0,.int .u8 0] 122) g (by have:=kX.size;omega)
     rw[this,kX.block g agW]
    rw[Addr.add_lit,Nat.add_assoc,e2,e1]
   go_region_law (refine step_copy_splice rfl (.tmp 16) (.tmp 19) 63 63 rfl 5 Tryz.underlying63 hsz (some ⟨lP.heap.size,0,none⟩) (some ⟨g,o+i,none⟩) 3 3 n c (by simp[Act.eval,Act.put]) (by simp[Act.eval,Act.put]) lP.heap.size 0 [.int .u8 0,.int .u8 0,.int .u8 0] 122 (hrow _ rfl) ((List.range n).map λj=>Value.int .u8 (l.getD (i+j) 0).toNat) (by simp only[List.length_map,List.length_range];exact(Nat.min_eq_left ra).symm) (λ_=>⟨rfl,_,rfl,qd _ rfl⟩) (by simp;omega) (λv hv=>by simp at hv;obtain⟨_,_,rfl⟩:=hv;rfl) lP.heap.size lP ((Below.refl _ lP).alloc (Nat.le_refl _) _).drew (Nat.le_refl _) ?_;intro w4 hg4 hb4)
   have hg4:w4.heap[lP.heap.size]?=some (.cells (splice _ _ _).toArray 122 (0,0)):=hg4
   rw[splice3 l i n ra kF]at hg4
   obtain⟨x0,hx0⟩:∃x:Int,x=(l.getD i 0).toNat:=⟨_,rfl⟩
   obtain⟨x1,hx1⟩:∃x:Int,x=(l.getD (i+1) 0).toNat:=⟨_,rfl⟩
   obtain⟨x2,hx2⟩:∃x:Int,x=(l.getD (i+2) 0).toNat:=⟨_,rfl⟩
   rw[<-hx0,<-hx1,<-hx2]at hg4
   have bA:w4.cell? ⟨lP.heap.size,0,none⟩=some (.int .u8 x0):=by rw[Lib.cell_of_heap hg4];rfl
   have c1:w4.cell? ⟨lP.heap.size,1,none⟩=some (.int .u8 x1):=by rw[Lib.cell_of_heap hg4];rfl
   have c2:w4.cell? ⟨lP.heap.size,2,none⟩=some (.int .u8 x2):=by rw[Lib.cell_of_heap hg4];rfl
   have aeX:Below w.heap.size w w4:=kX.trans (hb4.mono kX.size)
   have ae3:=aiL hI (λk hk=>hb4.block k hk)
   obtain⟨q',hq',ahG⟩:∃q',(if c=n then some (⟨g,o+i,none⟩:Addr)else some ⟨g,o+i+n,none⟩)=q'/\Hid (i+n<l.length->q'=some ⟨g,o+(i+n),none⟩):=⟨_,rfl,λh=>by rw[if_neg (by omega),Nat.add_assoc]⟩
   replace hx0:Hid _:=hx0
   replace hx1:Hid _:=hx1
   replace hx2:Hid _:=hx2
   clear hgo hrow qd
   go_wp2
   obtain⟨bS,DR⟩:∃bS:Int,bits BinOp.or IntKind.i64 (bits BinOp.or IntKind.i64 (wrap64 (wrap64 x0*65536)) (wrap64 (wrap64 x1*256))) (wrap64 x2)=bS:=⟨_,rfl⟩
   rw[DR]
   have uQ:x0=(l.getD i 0).toNat:=hx0
   have kL:x1=(l.getD (i+1) 0).toNat:=hx1
   have mY:x2=(l.getD (i+2) 0).toNat:=hx2
   have u0:=(l.getD i 0).toNat_lt
   have ia:=(l.getD (i+1) 0).toNat_lt
   have nF:=(l.getD (i+2) 0).toNat_lt
   have Ve:bS=65536*x0+256*x1+x2:=by rw[<-DR];exact acn (by omega) (by omega) (by omega) (by omega) (by omega) (by omega)
   have NL:Hid (eU (l.drop i)=_):=aoy hlt nX ra e6 kF uQ kL mY Ve
   have hbl:0<=bS:=by omega
   have awu:bS<16777216:=by omega
   have age:al.size=64:=by show al.data.size=64;rw[<-Array.length_toList,cG];rfl
   clear Ve uQ kL mY u0 ia nF
   clear DR
   have hw4:lP.heap.size<=w4.heap.size:=hb4.size
   clear hg4 bA c1 c2 hq' hcell hI kX hb4
   go_loopw [39] (λv mX=>∃k:Nat,v= .int .i64 k/\k<=n+1/\Lib.IsBuilder 121 5 w.heap.size w.heap.size (Lib.byteCells (d++(List.range k).map λj=>kh ((bS/2^(18-6*j)).toNat% 64))) mX/\Below w.heap.size w mX) (λv _=>n+1-(RowKit.intOf v).toNat)
   case atStart=>
    refine⟨0,rfl,by omega,by simpa using ae3,aeX⟩
   case round=>
    obtain⟨k,rfl,hk,DF,DB⟩:=hrel
    by_cases mL:k<n+1
    ·obtain⟨m,hm⟩:∃m:Nat,m=(bS/2^(18-6*k)).toNat% 64:=⟨_,rfl⟩
     have gP:(0:Int)<2^(18-6*k):=Int.pow_pos (by decide)
     have re:0<=bS/2^(18-6*k):=Int.ediv_nonneg hbl (by omega)
     have nZ:bS/2^(18-6*k)<=bS:=Int.ediv_le_self _ hbl
     have hand:bits BinOp.and IntKind.i64 (bS/2^(18-6*k)) 63=(m:Int):=by rw[hm];exact acm re (by omega)
     have ahk:m<al.size:=by rw[age,hm];exact Nat.mod_lt _ (by decide)
     have awJ:((al[m]).toNat:Int)=(kh m).toNat:=by
      have:al[m]=kh m:=by
       have e:al.data.toList.getD m 0=al[m]:=by
        simp only[List.getD,List.getElem?_eq_getElem (show m<al.data.toList.length by rw[Array.length_toList];exact ahk),Option.getD_some]
        rfl
       rw[<-e,cG];rfl
      rw[this]
     replace hm:Hid _:=hm
     clear gP re nZ
     go_wp2_with (go_at_call 88;refine(Tryz.Builder_WriteByte w.heap.size w.heap.size _ _ _ DF (by rw[Lib.byteCells_length,List.length_append,List.length_map,List.length_range];omega) DB.size).mono ?_)
     rintro e QR ⟨rfl,h1,b1⟩
     go_wp2
     go_roundw
     case rel=>
      refine⟨k+1,by simp,by omega,?_,DB.trans b1⟩
      have hm:m=(bS/2^(18-6*k)).toNat% 64:=hm
      rw[List.range_succ,List.map_append,<-List.append_assoc,Lib.byteCells_append]
      rw[hm]at h1
      exact Or.inr h1
     case measure=>simp[intOf];omega
    ·have hk2:k=n+1:=by omega
     subst hk2
     go_wp2
     go_roundw
     case rel=>
      have NL:eU (l.drop i)=_:=NL
      have hb:d++eU (l.drop i)=eU l:=hb
      refine⟨i+n,c-n,q',_,by rw[Nat.sub_sub],by omega,λh=>⟨ahG h,by omega⟩,?_,?_,DF,DB⟩
      ·rw[List.length_append,List.length_map,List.length_range];omega
      ·show _=_
       rw[List.append_assoc,<-NL,hb]
     case measure=>simp;omega
  ·have hz:l.length-i=0:=by omega
   have hI:Lib.IsBuilder 121 5 w.heap.size w.heap.size (Lib.byteCells d) wr:=hI
   rw[hz]
   go_wp2_with (go_at_call 89;refine(Tryz.Builder_String_any w.heap.size w.heap.size d _ hI kX.size).mono ?_)
   rintro e W1 ⟨rfl,b1⟩
   go_wp2
   go_ret
   have hb:d++eU (l.drop i)=eU l:=hb
   rw[List.drop_of_length_le (by omega)]at hb
   have hb:d++[]=eU l:=hb
   rw[List.append_nil]at hb
   exact⟨by rw[<-hb];rfl,kX.trans b1⟩
end Go.Proofs
namespace Go.bE
open Go Go.ba Go.Proofs Go.RowKit
theorem acA (z:Int):(gW z).length=(ab z).length:=by simp[gW]
theorem acz {z:Int} {i:Nat} {v:Int} (v0:0<=v) (v1:v<=255) (h:v=((ab z).getD i []).getD 0 0):((gW z).getD i 0).toNat=v.toNat:=by
 unfold gW
 by_cases hi:i<(ab z).length
 ·simp only[List.getD,List.getElem?_map,List.getElem?_eq_getElem hi,Option.map_some,Option.getD_some]at h⊢
  rw[<-h];simp;omega
 ·have e:(ab z)[i]?=none:=List.getElem?_eq_none (by omega)
  simp only[List.getD,List.getElem?_map,e,Option.map_none,Option.getD_none]at h⊢
  have:v=0:=by rw[h];rfl
  rw[this];rfl
theorem Yd:∀l:aq,(eU l).length<=2*l.length
 |[]=>by simp[eU]
 |[_]=>by simp[eU]
 |[_,_]=>by simp[eU]
 |a::b::c::r=>by
  have:=Yd r
  rw[Go.Proofs.Ya];simp;omega
theorem al3 {wb:World}:fE wb IH:=by
 refine⟨λargs w=>enters (by kernel_rfl) _ _,λF w vs zs hw hz gD hat=>?_⟩
 match zs,hz,vs,hat with
 |[r],hz,[v0,v1],hat=>
  obtain⟨h0,h1,_⟩:=hat
  have gD:(ab r).length<=1099511627776:=gD
  have h0:v0= .string (aG w5):=h0
  have h1:gq F w [.int .u8 0 255] (ab r) v1:=h1
  have hlen:=acA r
  obtain⟨p,g,o,cap,hv,hp⟩:∃(p:Option Addr) (g o cap:Nat),v1= .slice p (gW r).length cap/\(0<(gW r).length->p=some ⟨g,o,none⟩/\(gW r).length<=cap/\∀j,j<(gW r).length->w.cell? ⟨g,o+j,none⟩=some (.int .u8 ((gW r).getD j 0).toNat)):=by
   rcases h1 with⟨⟨p1,h1⟩,h2⟩|⟨g,o,cap,cells,t,fz,h1,⟨h2,_⟩,_,h3,h4⟩
   ·exact⟨p1,0,0,0,by rw[h1,hlen,h2];rfl,λh=>by rw[hlen,h2]at h;simp at h⟩
   ·refine⟨some ⟨g,o,none⟩,g,o,cap,by rw[h1,hlen],λ_=>⟨rfl,by omega,λj hj=>?_⟩⟩
    have hj':j<(ab r).length:=by omega
    have hrow:=List.getElem?_eq_getElem hj'
    obtain⟨z,z0,ae,z2,z3⟩:=(h4.1 _ (List.getElem_mem hj')).get (j:=0) (c:= .int .u8 0 255) rfl
    have hc:=((mA rfl).1 h4).get hrow z3
    have hb:=acz (z:=r) (i:=j) (v:=z) ae z2 (by simp only[List.getD,hrow,Option.getD_some,z0])
    have hz':((((gW r).getD j 0).toNat:Nat):Int)=z:=by rw[hb];exact Int.toNat_of_nonneg ae
    rw[hz']
    have hc:cells[o+j]?=some (.int .u8 z):=by simpa [ay.val]using hc
    unfold World.cell?
    rw[h3]
    exact hc
  subst h0 hv
  refine(Tryz.adK (aG w5) (by simp[aG]) (gW r) p g o cap w hp (by omega)).mono ?_
  rintro e w' ⟨rfl,hb⟩
  have hl:=Yd (gW r)
  refine⟨Db hb,[cZ (eU (gW r))],[.string ⟨(eU (gW r)).toArray⟩],⟨(CT (l:=eU (gW r)) hl (by omega)).1,(CT (l:=eU (gW r)) hl (by omega)).2,trivial⟩,?_,⟨?_,trivial⟩,rfl⟩
  ·show U (cZ (eU (gW r)))=eU (gW r)
   exact dZ _
  ·show Value.string _=Value.string (aG (U (cZ (eU (gW r)))))
   rw[dZ];rfl
end Go.bE
namespace Go.Proofs
open Go.RowKit Go.ba
section
variable {P:Program}
end
theorem sY (w:World) (g:Nat) (a:Array Value):iH w (w.setRow g a) (some g):=
 ⟨rfl,rfl,rfl,by simp[World.setRow],λk hk hne=>setRow_other w g k a (λe=>hne (by rw[e]))⟩
end Go.Proofs
namespace Go.Proofs
open Go.RowKit Go.ba
section
variable {P:Program}
theorem wk (w:World) (TH apO ty e:TypeId) (i:TypeInfo) (hu:P.underlying TH=some (.slice e)) (hi:P.info? e=some i) (g o Hp adg:Nat) (a:Addr) (kJ uF:Nat) (cur:Array Value) (t:TypeId) (cs:List Value)
 (hg:w.heap[g]?=some (.cells cur t (0,0))) (hn:cs.length=Nat.min kJ Hp*i.size) (qd:∀j v,cs[j]?=some v->w.cell? (a.add j)=some v) (sq:o+cs.length<=cur.size) (h1:∀v∈cs,v.oneCell'=true):
 (Builtin.copy_ #[TH,apO] ty #[.slice (some ⟨g,o,none⟩) Hp adg,.slice (some a) kJ uF]).run P w= .ok (goInt (Nat.min kJ Hp)) (w.setRow g (cur.toList.take o++cs++cur.toList.drop (o+cs.length)).toArray):=by
 have hst:=run_storeCells_at P g o t cs 0 cur w hg (by simpa using sq) h1
 rw[Nat.add_zero]at hst
 have hf:=run_firstCells_some (P:=P) w i.size (Nat.min kJ Hp) a kJ uF cs hn qd
 simp[Builtin.copy_,run_underlying hu,Builtin.lenOf,sizeOf,typeInfo,hi,hf,hst]
theorem JT {ops:Array Oper} {o:Oper} {a:Act} {w:World} {K:Act->World->Prop} {Q:Exit->Act->World->Prop} {E:Prop}
 (hg:o.guard=none) (s x:Operand) (t t':TypeId) (hop:o.op=Op.call {callee:=Callee.builtin Builtin.copy,args:=#[s,x],argTypes:=#[t,t']}) (u v:Value) (hs:a.eval s=u) (hx:a.eval x=v) {r:Value} {w':World}
 (hr:(Builtin.copy_ #[t,t'] o.type #[u,v]).run P w= .ok r w') (hK:K (a.put o.dst r) w'):if Region.wanted o (yielded ops a.tmps)=true then Oper.wp P o a w K Q else E:=by
 have hw:Region.wanted o (yielded ops a.tmps)=true:=by simp[Region.wanted,hg]
 rw[if_pos hw]
 unfold Oper.wp
 simp[execOp,hop,resolve,invoke,builtin,hs,hx,hr,Result.andThen]
 exact hK
theorem wA {w:World} {ops:Array Oper} {rest:List Oper} {o:Oper} {a:Act} {Q:Exit->Act->World->Prop} (hgd:o.guard=none) (s x:Operand) (t t':TypeId)
 (ho:o.op= .call {callee:= .builtin .append,args:=#[s,x],argTypes:=#[t,t']}) (u v:Value) (hs:a.eval s=u) (hx:a.eval x=v) {r:Value} {w':World}
 (hr:(Builtin.append_ #[t,t'] o.type #[u,v]).run P w= .ok r w') (h:wpList P ops Q rest (a.put o.dst r) w'):wpList P ops Q (o::rest) a w:=by
 refine wpList_plain hgd λK hK=>?_
 unfold Oper.wp
 simp[execOp,ho,resolve,invoke,builtin,hs,hx,hr,Result.andThen]
 exact hK _ _ h
end
set_option maxHeartbeats 4000000 in
set_option maxRecDepth 1000000 in
theorem Tryz.WE (g n cap:Nat) (A:Addr) (vc:Nat) (r:Value) (w W1:World) (hn:n<=cap) (cK:cap<=9223372036854775807)
 (il:∀ty,(Builtin.append_ #[28,28] ty #[.slice (some ⟨g,0,none⟩) n cap,.slice (some A) 1 vc]).run Tryz.prog w= .ok r W1):
 Calls Tryz.prog 74 #[.slice (some ⟨g,0,none⟩) n cap,.int .i64 n,.slice (some A) 1 vc] w λe w'=>e= .returned r/\w'=W1:=by
 obtain⟨B,hB⟩:∃B,(if cap=n then some (⟨g,0,none⟩:Addr)else some ⟨g,n*5,none⟩)=B:=⟨_,rfl⟩
 go_enter Tryz.func74,Tryz.ntmps74
 go_wp2_with (at_builtin;refine wA rfl (.tmp 23) (.tmp 24) 28 28 rfl _ _ rfl rfl (il _) ?_)
 go_wp2
 all_goals (go_ret;exact⟨rfl,rfl⟩)
set_option maxHeartbeats 4000000 in
set_option maxRecDepth 1000000 in
theorem Tryz.insert_nil (A:Addr) (vc:Nat) (r:Value) (w W1:World)
 (il:∀ty,(Builtin.append_ #[28,28] ty #[.slice none 0 0,.slice (some A) 1 vc]).run Tryz.prog w= .ok r W1):
 Calls Tryz.prog 74 #[.slice none 0 0,.int .i64 0,.slice (some A) 1 vc] w λe w'=>e= .returned r/\w'=W1:=by
 go_enter Tryz.func74,Tryz.ntmps74
 go_wp2_with (at_builtin;refine wA rfl (.tmp 23) (.tmp 24) 28 28 rfl _ _ rfl rfl (il _) ?_)
 go_wp2
 all_goals (go_ret;exact⟨rfl,rfl⟩)
set_option maxHeartbeats 4000000 in
set_option maxRecDepth 1000000 in
theorem Tryz.aiI (g n cap i G C:Nat) (A:Addr) (vc:Nat) (r1 r2:Value) (w W1 W2 W3:World) (cE:i<n) (hn:n<=cap) (hroom:cap<n+1) (hC:n+1<=C) (dY:n<=1073741824)
 (il:∀ty,(Builtin.append_ #[28,3] ty #[.slice (some ⟨g,0,none⟩) i cap,.int .i64 ((n:Int)+1-(i:Int))]).run Tryz.prog w= .ok (.slice (some ⟨G,0,none⟩) (n+1) C) W1)
 (jQ:∀ty,(Builtin.copy_ #[28,28] ty #[.slice (some ⟨G,i*5,none⟩) (n+1-i) (C-i),.slice (some A) 1 vc]).run Tryz.prog W1= .ok r1 W2)
 (mI:∀ty,(Builtin.copy_ #[28,28] ty #[.slice (some ⟨G,(i+1)*5,none⟩) (n+1-(i+1)) (C-(i+1)),.slice (some ⟨g,i*5,none⟩) (n-i) (cap-i)]).run Tryz.prog W2.drew= .ok r2 W3):
 Calls Tryz.prog 74 #[.slice (some ⟨g,0,none⟩) n cap,.int .i64 i,.slice (some A) 1 vc] w λe w'=>e= .returned (.slice (some ⟨G,0,none⟩) (n+1) C)/\w'=W3:=by
 have f1:¬cap=i:=by omega
 have f2:¬C=i:=by omega
 have f3:¬C=i+1:=by omega
 have f4:i<=cap:=by omega
 have f5:¬((i:Int)=(n:Int)):=by omega
 have f6:(cap:Int)<(n:Int)+1:=by omega
 have f7:i<=C:=by omega
 have f8:i+1<=C:=by omega
 have f9:((i:Int)+1).toNat=i+1:=by omega
 have f10:(0:Int)<=(i:Int)+1:=by omega
 have f11:(i:Int)+1<=(n:Int)+1:=by omega
 have f12:i<=n:=by omega
 have f13:IntKind.i64.wrap ((i:Int)+1)=(i:Int)+1:=by rw[IntKind.wrap_i64];omega
 go_enter Tryz.func74,Tryz.ntmps74
 go_wp2_with (first
  |(at_builtin;refine wA rfl (.tmp 34) (.tmp 39) 28 3 rfl _ _ rfl rfl (il _) ?_)
  |(at_builtin;refine QT rfl (.tmp 43) (.tmp 44) 28 28 rfl _ _ rfl rfl (jQ _) ?_))
 go_region_law (refine JT rfl (.tmp 50) (.tmp 53) 28 28 rfl (.slice (some ⟨G,(i+1)*5,none⟩) (n+1-(i+1)) (C-(i+1))) (.slice (some ⟨g,i*5,none⟩) (n-i) (cap-i)) (by simp[Act.eval,Act.put]) (by simp[Act.eval,Act.put]) (mI _) ?_)
 go_wp2
 go_ret
 exact⟨rfl,rfl⟩
set_option maxHeartbeats 4000000 in
set_option maxRecDepth 1000000 in
theorem Tryz.aiJ (g n cap i:Nat) (A:Addr) (vc:Nat) (r1 r2:Value) (w W1 W2:World) (cE:i<n) (hn:n+1<=cap) (dY:n<=1073741824)
 (AD:(callFunc 103 #[.slice (some A) 1 vc,.slice (some ⟨g,(i+1)*5,none⟩) (n-i) (cap-(i+1))]).run Tryz.prog w= .ok (.value (.bool false)) w)
 (jQ:∀ty,(Builtin.copy_ #[28,28] ty #[.slice (some ⟨g,(i+1)*5,none⟩) (n+1-(i+1)) (cap-(i+1)),.slice (some ⟨g,i*5,none⟩) (n+1-i) (cap-i)]).run Tryz.prog w.drew= .ok r1 W1)
 (mI:∀ty,(Builtin.copy_ #[28,28] ty #[.slice (some ⟨g,i*5,none⟩) (n+1-i) (cap-i),.slice (some A) 1 vc]).run Tryz.prog W1= .ok r2 W2):
 Calls Tryz.prog 74 #[.slice (some ⟨g,0,none⟩) n cap,.int .i64 i,.slice (some A) 1 vc] w λe w'=>e= .returned (.slice (some ⟨g,0,none⟩) (n+1) cap)/\w'=W2:=by
 have f1:¬cap=i:=by omega
 have f3:¬cap=i+1:=by omega
 have f4:i<=cap:=by omega
 have f5:¬((i:Int)=(n:Int)):=by omega
 have f6:¬(cap:Int)<(n:Int)+1:=by omega
 have f8:i+1<=cap:=by omega
 have f9:((i:Int)+1).toNat=i+1:=by omega
 have f10:(0:Int)<=(i:Int)+1:=by omega
 have f11:(i:Int)+1<=(n:Int)+1:=by omega
 have f12:i<=n:=by omega
 have f13:IntKind.i64.wrap ((i:Int)+1)=(i:Int)+1:=by rw[IntKind.wrap_i64];omega
 have f14:((n:Int)+1).toNat=n+1:=by omega
 have f15:(n:Int)+1<=(cap:Int):=by omega
 have f16:i<=n+1:=by omega
 have f17:(i:Int)<=(n:Int)+1:=by omega
 go_enter Tryz.func74,Tryz.ntmps74
 go_wp2
 go_region_law (refine JT rfl (.tmp 73) (.tmp 76) 28 28 rfl (.slice (some ⟨g,(i+1)*5,none⟩) (n+1-(i+1)) (cap-(i+1))) (.slice (some ⟨g,i*5,none⟩) (n+1-i) (cap-i)) (by simp[Act.eval,Act.put]) (by simp[Act.eval,Act.put]) (jQ _) ?_)
 go_wp2_with (at_builtin;refine QT rfl (.tmp 80) (.tmp 81) 28 28 rfl _ _ rfl rfl (mI _) ?_)
 go_wp2
 go_ret
 exact⟨rfl,rfl⟩
end Go.Proofs
namespace Go.bE
open Go Go.ba Go.Proofs Go.RowKit
theorem B0 (w:World) (o:Obj) (own:Option Nat):iH w (w.drew.alloc o) own:=
 have h:=(World.Extends.refl w.drew).alloc o
 ⟨h.os,h.tape,h.output,h.size,λk hk _=>h.block k hk⟩
theorem iH.B8 {w w1 w2:World} {own:Option Nat} {g:Nat} (h:iH w w1 own) (h2:iH w1 w2 (some g)) (hg:own=some g∨w.heap.size<=g):iH w w2 own:=by
 obtain⟨a1,a2,a3,a4,a5⟩:=h
 obtain⟨b1,b2,b3,b4,pQ⟩:=h2
 refine⟨b1.trans a1,b2.trans a2,b3.trans a3,Nat.le_trans a4 b4,λk hk hne=>?_⟩
 rw[pQ k (Nat.lt_of_lt_of_le hk a4) (λe=>?_),a5 k hk hne]
 cases e
 rcases hg with hg|hg
 ·exact hne hg
 ·omega
theorem iH.TU {w w1:World} {own:Option Nat} (h:iH w w1 own):iH w w1.drew own:=h
theorem YQ {P:Program} (w:World) (FG aqz e:TypeId) (ht:P.underlying FG=some (.slice e)) (size:Nat) (hz:∀w,(Go.sizeOf e).run P w= .ok size w)
 (a b:Addr) (la ca lb cb:Nat) (hne:a.block≠b.block) (CS Tl:Array Value) (B5 Zr:TypeId) (adS:Nat×Nat)
 (hA:w.heap[a.block]?=some (.cells CS B5 adS)) (hB:w.heap[b.block]?=some (.cells Tl Zr (0,0))) (h0:CS.size≠0):
 (Extern.SlicesOverlaps.overlaps #[FG,FG] #[aqz] #[.slice (some a) la ca,.slice (some b) lb cb]).run P w= .ok (.bool false) w:=by
 have N0:(a.block != b.block)=true:=by simpa using hne
 have ahp:(a.block==b.block)=false:=by simpa using hne
 have VZ:w.shape? a.block=some (B5,CS.size):=by unfold World.shape?;rw[hA]
 have ahN:w.shape? b.block=some (Zr,Tl.size):=by unfold World.shape?;rw[hB]
 have agL:∀o,w.frozen? ⟨b.block,o,none⟩=false:=λo=>by unfold World.frozen?;simp only[hB];simp
 have agM:w.frozen? b=false:=by unfold World.frozen?;simp only[hB];simp
 change Sem.run P (α:=Value) (do
  let some t:=(#[FG,FG]:Array TypeId)[0]?|stuck "slices.overlaps: no parameter types"
  let .slice elem<-underlying t|stuck "slices.overlaps: slice type expected"
  let size<-Go.sizeOf elem
  match(some a:Option Addr),(some b:Option Addr)with
  |some a,some b=>
   if la=0∨lb=0∨size=0 then pure (Value.bool false)
   else if a.block != b.block&&(<-frozen a)&&(<-frozen b)then unsupported .addressObserved
   else do
    if a.block != b.block then do
     noView a;noView b
     if<-mayBeOne a b then return Value.bool ((<-choose (.extern "sameAddr.stringBytes" 2))==1)
    pure (Value.bool (a.block==b.block&&a.off<b.off+lb*size&&b.off<a.off+la*size))
  |_,_=>pure (Value.bool false)) w=_
 by_cases hl:la=0∨lb=0∨size=0
 ·simp[run_underlying ht,hz,hl]
 ·obtain⟨ai0,ag6⟩:∃k,CS.size=k+1:=⟨CS.size-1,by omega⟩
  rw[ag6]at VZ
  cases h1:w.frozen? a<;>cases h2:w.frozen? ⟨a.block,ai0+1,none⟩<;>simp[run_underlying ht,hz,hl,N0,ahp,frozen,noView,viewAt,mayBeOne,stringish,shape,Sem.run,VZ,ahN,agL,agM,h1,h2]
theorem Yu {α:Type} {cells rX L2 N rest:List α} {x y z:Nat} (h:cells=rX++L2++rest) (h1:rX.length=x) (hy:z<=cells.length) (hN:N=N) (hz:z=x+y):
 (cells.take z++L2++cells.drop (z+L2.length)).toArray.toList.take x++N++(cells.take z++L2++cells.drop (z+L2.length)).toArray.toList.drop (x+y)=rX++N++L2++cells.drop (z+L2.length):=by
 simp only
 have e1:(cells.take z++L2++cells.drop (z+L2.length)).take x=rX:=by
  rw[List.append_assoc,List.take_append_of_le_length (by rw[List.length_take];omega),List.take_take,Nat.min_eq_left (by omega),h,List.append_assoc,List.take_append_of_le_length (by omega),List.take_of_length_le (by omega)]
 have e2:(cells.take z++L2++cells.drop (z+L2.length)).drop (x+y)=L2++cells.drop (z+L2.length):=by
  rw[List.append_assoc,<-hz]
  have:(cells.take z).length=z:=by rw[List.length_take];omega
  conv=>lhs;arg 1;rw[<-this]
  rw[List.drop_left]
 rw[e1,e2]
 simp
theorem UJ {α:Type} {rX L2 N D:List α} {x y:Nat} (h1:rX.length=x) (hN:N.length=y):
 (rX++N++D).toArray.toList.take (x+y)++L2++(rX++N++D).toArray.toList.drop (x+y+L2.length)=rX++N++L2++(rX++N++D).toArray.toList.drop (x+y+L2.length):=by
 congr 2
 simp only
 rw[List.take_append_of_le_length (by rw[List.length_append];omega),List.take_of_length_le (by rw[List.length_append];omega)]
theorem aiE (p:Option Addr) (A:Addr) (vc:Nat) (r:Value) (w W1:World)
 (il:∀ty,(Builtin.append_ #[28,28] ty #[.slice p 0 0,.slice (some A) 1 vc]).run Tryz.prog w= .ok r W1):
 Calls Tryz.prog 74 #[.slice p 0 0,.int .i64 0,.slice (some A) 1 vc] w λe w'=>e= .returned r/\w'=W1:=by
 go_enter Tryz.func74,Tryz.ntmps74
 go_wp2_with (at_builtin;refine wA rfl (.tmp 23) (.tmp 24) 28 28 rfl _ _ rfl rfl (il _) ?_)
 go_wp2
 all_goals (go_ret;exact⟨rfl,rfl⟩)
theorem amb {wb:World}:ee.dX Tryz.prog wb (b5 sh SB ee.id):=by
 refine⟨λargs w=>enters (by kernel_rfl) _ _,λF w v0 code vs zs hw ho hc hz gD hat hF=>?_⟩
 match zs,hz,vs,hat with
 |[i,r],hz,[vi,QQ],hat=>
  obtain⟨uh,px,_⟩:=hat
  have uh:vi= .int .i64 i:=uh
  have Oq:gq F w ee.sh (ab r) QQ:=px
  clear px
  have gD:(0<=i/\i<=((ab code).length:Int))/\(ab r).length=1/\(ab code).length+1<=1073741824:=gD
  obtain⟨⟨p0,p1⟩,br,bT⟩:=gD
  obtain⟨a,ha⟩:∃a:Nat,i=a:=⟨i.toNat,by omega⟩
  subst ha
  have p1:a<=(ab code).length:=by omega
  rcases Oq with⟨_,h0⟩|⟨dB,fK,vc,CY,B5,MI,px,⟨ago,agp⟩,M0,xI,rf⟩
  ·rw[h0]at br;simp at br
  rw[br]at px
  have rf:=(mA (F:=F) (w:=w) (show iP ee.sh=true from rfl)).1 rf
  obtain⟨i0,im,jR,z,xL,yc,xJ⟩:∃i0,Tryz.prog.info? 30=some i0/\i0.size=5/\∃z,i0.zero=some z/\z.cells.size=5/\i0.bytes<=131072:=⟨_,rfl,by kernel_rfl,_,rfl,by kernel_rfl,by decide+kernel⟩
  have rh:ee.sh.length=5:=rfl
  have hnone:∀row∈ab r,bK ee.sh row:=rf.1
  have e6:(bn ee.sh (ab r)).length=5:=by rw[l9 hnone,br,rh,Nat.one_mul]
  have ju:∀(rows:List (List Int)),∀u∈bn ee.sh rows,u.oneCell'=true:=λ_=>MG
  have NY:dB<w.heap.size:=(Array.getElem?_eq_some_iff.1 xI).1
  have MU:CY.size≠0:=by
   obtain⟨_,pre,post,h2,_⟩:=rf
   have:=congrArg List.length h2
   simp only[List.length_append,e6,Array.length_toList]at this
   omega
  have qd:∀w1:World,w1.heap[dB]?=w.heap[dB]?->∀j u,(bn ee.sh (ab r))[j]?=some u->w1.cell? ((⟨dB,fK,none⟩:Addr).add j)=some u:=λw1 h1 j u hu=>by
   rw[Addr.add_lit]
   have:=rf.flat hu
   simp only[World.cell?,h1,xI,Option.isSome_none,Bool.false_eq_true,if_false]
   exact this
  have x8:∀w1:World,w1.heap[dB]?=w.heap[dB]?->Src Tryz.prog i0.size 28 (.slice (some ⟨dB,fK,none⟩) 1 vc) 1 (bn ee.sh (ab r)) w1:=λw1 h1=>
   Src.ofSlice w1 Tryz.underlying28 ⟨dB,fK,none⟩ 1 vc _ (by rw[e6,jR]) (qd w1 h1) (ju _)
  have fin:∀(w':World) (G C:Nat) (cells:Array Value) (post:List Value),iH w w' (gj v0)->(∀row∈ab code,bK ee.sh row)->w'.heap[G]?=some (.cells cells 30 (0,0))->cells.toList=bn ee.sh ((ab code).take a)++bn ee.sh (ab r)++bn ee.sh ((ab code).drop a)++post->cells.size=C*5->
   (ab code).length+1<=C->(C:Int)<=9223372036854775807->(gj v0=some G∨w.heap.size<=G)->
   iH w w' (gj v0)/\∃code' v',(0<=code'/\code'<=cc)/\b5 sh SB ee.id (code::[(a:Int),r]) [code']/\o8 (λg=>gj v0=some g∨w.heap.size<=g) w' ee.sh ee.e (ab code') v'/\Ending.returned (.slice (some ⟨G,0,none⟩) ((ab code).length+1) C)= .returned v':=by
   intro w' G C cells post iv aX hG jO hsz qT MX hown
   have hall:∀row∈(ab code).take a++ab r++(ab code).drop a,bK ee.sh row:=λrow hr=>by
    rcases List.mem_append.1 hr with hr|hr
    ·rcases List.mem_append.1 hr with hr|hr
     ·exact aX row (List.mem_of_mem_take hr)
     ·exact hnone row hr
    ·exact aX row (List.mem_of_mem_drop hr)
   have xT:((ab code).take a++ab r++(ab code).drop a).length=(ab code).length+1:=by
    rw[List.length_append,List.length_append,List.length_take,List.length_drop,br,Nat.min_eq_left p1];omega
   refine⟨iv,rc ((ab code).take a++ab r++(ab code).drop a),_,⟨fa _,vg (by kernel_rfl) (by rw[xT];omega) hall⟩,?_,Or.inr ⟨G,C,cells,?_,⟨?_,MX⟩,hown,hG,⟨?_,[],post,?_,rfl⟩,hsz⟩,rfl⟩
   ·show ab (rc _)=(ab code).take ((a:Int)).toNat++ab r++(ab code).drop ((a:Int)).toNat
    rw[du];rfl
   ·rw[du,xT]
   ·rw[du,xT];exact qT
   ·rw[du];exact hall
   ·rw[du,jO,List.nil_append,pZ,pZ]
  rw[uh,px]
  rcases ho with⟨⟨yG,hv0⟩,h0⟩|⟨g,cap,cells,hv0,⟨DT,Al⟩,ah8,hg,k0,hsz⟩
  ·
   have ha0:a=0:=by rw[h0]at p1;simpa using p1
   subst ha0
   have hC:=vx w (0+1) 0 30 (by omega)
   have il:∀ty,(Builtin.append_ #[28,28] ty #[.slice yG 0 0,.slice (some ⟨dB,fK,none⟩) 1 vc]).run Tryz.prog w=_:=λty=>
    run_append_grow_src w 28 28 ty 30 i0 z Tryz.underlying28 im xL yG 0 0 [] (HC _ _ _ _) _ 1 _ (x8 w rfl) (by omega) (by omega) (growslice_fits (by omega) (by omega))
   rw[hv0]
   refine(aiE yG ⟨dB,fK,none⟩ vc _ w _ il).mono ?_
   rintro e w' ⟨rfl,rfl⟩
   have qT:=hC.1
   have:=fin _ w.heap.size (grownCap w (0+1) 0 30) (([]++bn ee.sh (ab r)).toArray++Builtin.zeroCells z.cells (grownCap w (0+1) 0 30-(0+1))) (Builtin.zeroCells z.cells (grownCap w (0+1) 0 30-(0+1))).toList (B0 w _ _) (by rw[h0];intro _ h;cases h) (heap_alloc_new w.drew _) (by rw[h0];simp[bn]) (by
    simp only[Array.size_append,List.size_toArray,List.nil_append,e6,wE,yc];omega) (by rw[h0];exact hC.1) (by omega) (.inr (Nat.le_refl _))
   rw[h0]at this
   rw[<-hv0];exact this
  ·rw[rh]at hsz
   obtain⟨aX,pre,rest,jO,xY⟩:=k0
   have xY:pre=[]:=List.eq_nil_of_length_eq_zero xY
   subst xY
   rw[List.nil_append]at jO
   obtain⟨n,hn⟩:∃n,(ab code).length=n:=⟨_,rfl⟩
   rw[hn]at p1 bT DT hv0 fin
   have qb:bn ee.sh (ab code)=bn ee.sh ((ab code).take a)++bn ee.sh ((ab code).drop a):=by rw[<-pZ,List.take_append_drop]
   have kD:(bn ee.sh ((ab code).take a)).length=a*5:=by rw[l9 λr h=>aX r (List.mem_of_mem_take h),List.length_take,Nat.min_eq_left (by omega),rh]
   have hl2:(bn ee.sh ((ab code).drop a)).length=(n-a)*5:=by rw[l9 λr h=>aX r (List.mem_of_mem_drop h),List.length_drop,hn,rh]
   have hl0:(bn ee.sh (ab code)).length=n*5:=by rw[l9 aX,hn,rh]
   have gY:cells.toList.length=cap*5:=by rw[Array.length_toList];exact hsz
   have hne:dB≠g∨cap=0:=by
    rcases Nat.eq_zero_or_pos cap with h|h
    ·exact .inr h
    ·refine .inl λe=>?_
     obtain⟨c',rfl⟩:∃c',cap=c'+1:=⟨cap-1,by omega⟩
     refine hF dB M0 ?_
     rw[hv0,e];rfl
   have hown:cap≠0->gj v0=some g:=λh=>by
    obtain⟨c',rfl⟩:∃c',cap=c'+1:=⟨cap-1,by omega⟩
    rw[hv0];rfl
   have hlt:g<w.heap.size:=(Array.getElem?_eq_some_iff.1 hg).1
   have hcell:∀(w1:World) (o:Nat) (l:List Value) (pre post:List Value),w1.heap[g]?=w.heap[g]?->cells.toList=pre++l++post->pre.length=o->∀j u,l[j]?=some u->w1.cell? ((⟨g,o,none⟩:Addr).add j)=some u:=λw1 o l pre post h1 h2 h3 j u hu=>by
    rw[Addr.add_lit]
    simp only[World.cell?,h1,hg,Option.isSome_none,Bool.false_eq_true,if_false]
    have hlt:=(List.getElem?_eq_some_iff.1 hu).1
    rw[<-Array.getElem?_toList,h2,List.append_assoc,List.getElem?_append_right (by omega),List.getElem?_append_left (by omega),<-h3]
    rw[show pre.length+j-pre.length=j by omega];exact hu
   by_cases tX:a=n
   ·
    subst tX
    have p8:(ab code).drop a=[]:=List.drop_of_length_le (by omega)
    have ri:(ab code).take a=ab code:=List.take_of_length_le (by omega)
    by_cases hroom:a+1<=cap
    ·have il:∀ty,(Builtin.append_ #[28,28] ty #[.slice (some ⟨g,0,none⟩) a cap,.slice (some ⟨dB,fK,none⟩) 1 vc]).run Tryz.prog w=_:=λty=>
      Qc (P:=Tryz.prog) w 28 28 ty 30 i0 Tryz.underlying28 im g a cap cells 30 hg _ 1 _ (x8 w rfl) hroom (by rw[jR,e6,hsz];omega)
     rw[hv0]
     refine(Tryz.WE g a cap ⟨dB,fK,none⟩ vc _ w _ (by omega) (by omega) il).mono ?_
     rintro e w' ⟨rfl,rfl⟩
     rw[<-hv0]
     refine fin _ g cap _ (cells.toList.drop (a*5+5)) (by rw[hown (by omega)];exact sY w g _) aX (setRow_heap w g _ _ _ _ hg) ?_ ?_ hroom Al (.inl (hown (by omega)))
     ·rw[p8,ri,jR,e6]
      simp only[jO]
      rw[List.take_append_of_le_length (by omega),List.take_of_length_le (by omega)]
      simp[bn]
     ·simp only[List.size_toArray,List.length_append,List.length_take,List.length_drop,gY,e6,jR]
      omega
    ·have hC:=vx w (a+1) cap 30 (by omega)
     have il:∀ty,(Builtin.append_ #[28,28] ty #[.slice (some ⟨g,0,none⟩) a cap,.slice (some ⟨dB,fK,none⟩) 1 vc]).run Tryz.prog w=_:=λty=>
      run_append_grow_src w 28 28 ty 30 i0 z Tryz.underlying28 im xL (some ⟨g,0,none⟩) a cap (bn ee.sh (ab code)) (run_firstCells_some w.drew i0.size a ⟨g,0,none⟩ a cap _ (by rw[hl0,jR]) (hcell w.drew 0 _ [] rest rfl (by rw[jO];rfl) rfl)) _ 1 _ (x8 w rfl) (by omega) (by omega) (growslice_fits (by omega) (by
       have:=Nat.mul_le_mul (show a+1<=1073741824 by omega) xJ
       omega))
     rw[hv0]
     refine(Tryz.WE g a cap ⟨dB,fK,none⟩ vc _ w _ (by omega) (by omega) il).mono ?_
     rintro e w' ⟨rfl,rfl⟩
     rw[<-hv0]
     refine fin _ w.heap.size (grownCap w (a+1) cap 30) _ (Builtin.zeroCells z.cells (grownCap w (a+1) cap 30-(a+1))).toList (B0 w _ _) aX (heap_alloc_new w.drew _) ?_ ?_ hC.1 (by omega) (.inr (Nat.le_refl _))
     ·rw[p8,ri];simp[bn]
     ·simp only[Array.size_append,List.size_toArray,List.length_append,hl0,e6,wE,yc]
      have:=hC.1
      omega
   ·have tX:a<n:=by omega
    have Ak:cap≠0:=by omega
    have hne:dB≠g:=hne.resolve_right Ak
    have hown:=hown Ak
    by_cases hroom:n+1<=cap
    ·
     have ahf:rest.length=(cap-n)*5:=by
      have:=congrArg List.length jO
      simp only[List.length_append,hl0,gY]at this
      rw[Nat.sub_mul];omega
     have hcs:cells.toList=bn ee.sh ((ab code).take a)++bn ee.sh ((ab code).drop a)++rest:=by rw[jO,qb]
     have jQ:∀ty,(Builtin.copy_ #[28,28] ty #[.slice (some ⟨g,(a+1)*5,none⟩) (n+1-(a+1)) (cap-(a+1)),.slice (some ⟨g,a*5,none⟩) (n+1-a) (cap-a)]).run Tryz.prog w.drew=_:=λty=>
      wk w.drew 28 28 ty 30 i0 Tryz.underlying28 im g ((a+1)*5) (n+1-(a+1)) (cap-(a+1)) ⟨g,a*5,none⟩ (n+1-a) (cap-a) cells 30 (bn ee.sh ((ab code).drop a)) hg
       (by rw[hl2,jR,show Nat.min (n+1-a) (n+1-(a+1))=n-a by show min _ _=_;omega]) (hcell w.drew (a*5) _ (bn ee.sh ((ab code).take a)) rest rfl hcs kD) (by rw[hl2,hsz];omega) (ju _)
     obtain⟨c1,hc1⟩:∃c1,c1=(cells.toList.take ((a+1)*5)++bn ee.sh ((ab code).drop a)++cells.toList.drop ((a+1)*5+(bn ee.sh ((ab code).drop a)).length)).toArray:=⟨_,rfl⟩
     rw[<-hc1]at jQ
     have hg1:(w.drew.setRow g c1).heap[g]?=some (.cells c1 30 (0,0)):=setRow_heap w.drew g _ _ _ _ hg
     have qW:c1.size=cap*5:=by
      rw[hc1];simp only[List.size_toArray,List.length_append,List.length_take,List.length_drop,gY,hl2];omega
     have mI:∀ty,(Builtin.copy_ #[28,28] ty #[.slice (some ⟨g,a*5,none⟩) (n+1-a) (cap-a),.slice (some ⟨dB,fK,none⟩) 1 vc]).run Tryz.prog (w.drew.setRow g c1)=_:=λty=>
      wk (w.drew.setRow g c1) 28 28 ty 30 i0 Tryz.underlying28 im g (a*5) (n+1-a) (cap-a) ⟨dB,fK,none⟩ 1 vc c1 30 (bn ee.sh (ab r)) hg1
       (by rw[e6,jR,show Nat.min 1 (n+1-a)=1 by show min _ _=_;omega]) (qd _ (setRow_other w.drew g dB c1 hne)) (by rw[e6,qW];omega) (ju _)
     have AD:(callFunc 103 #[.slice (some ⟨dB,fK,none⟩) 1 vc,.slice (some ⟨g,(a+1)*5,none⟩) (n-a) (cap-(a+1))]).run Tryz.prog w= .ok (.value (.bool false)) w:=by
      rw[run_callFunc_extern Tryz.func103 (by kernel_rfl) (by kernel_rfl) (by kernel_rfl) (e:=Extern.SlicesOverlaps.overlaps #[28,28] #[4]) (by kernel_rfl)]
      rw[YQ w 28 4 30 Tryz.underlying28 i0.size (λw=>by simp[Go.sizeOf,typeInfo,im]) ⟨dB,fK,none⟩ ⟨g,(a+1)*5,none⟩ 1 vc (n-a) (cap-(a+1)) hne CY cells B5 30 MI xI hg MU]
      rfl
     rw[hv0]
     refine(Tryz.aiJ g n cap a ⟨dB,fK,none⟩ vc _ _ w _ _ tX hroom (by omega) AD jQ mI).mono ?_
     rintro e w' ⟨rfl,rfl⟩
     rw[<-hv0]
     refine fin _ g cap _ (cells.toList.drop ((a+1)*5+(bn ee.sh ((ab code).drop a)).length)) (by rw[hown];exact iH.B8 (w:=w) (w1:=w.drew.setRow g c1) (sY w.drew g c1) (sY _ g _) (.inl rfl)) aX (setRow_heap _ g _ _ _ _ hg1) ?_ ?_ hroom Al (.inl hown)
     ·simp only[e6]
      rw[hc1]
      exact Yu hcs kD (by simp only[gY];omega) rfl (by rw[Nat.succ_mul])
     ·simp only[List.size_toArray,List.length_append,List.length_take,List.length_drop,Array.length_toList,qW,e6]
      have:(a+1)*5<=cap*5:=Nat.mul_le_mul_right _ (by omega)
      omega
    ·
     have hka:a+(n+1-a)=n+1:=by omega
     have xP:((n:Int)+1-(a:Int))=((n+1-a:Nat):Int):=by omega
     have hC:=vx w (n+1) cap 30 (by omega)
     have tY:=λty=>Lib.run_append_grow_zeros (P:=Tryz.prog) w 28 3 ty 30 i0 z .i64 .i64 Tryz.underlying28 Tryz.underlying3 im xL (some ⟨g,0,none⟩) a cap (bn ee.sh ((ab code).take a))
      (run_firstCells_some w.drew i0.size a ⟨g,0,none⟩ a cap _ (by rw[kD,jR]) (hcell w.drew 0 _ [] (bn ee.sh ((ab code).drop a)++rest) rfl (by rw[jO,qb,List.nil_append,List.append_assoc]) rfl)) (n+1-a) (by omega) (by rw[jR];decide) (by omega) (by omega)
      (by
        have:=Nat.mul_le_mul (show n+1-a<=1073741824 by omega) xJ
        omega)
      (growslice_fits (by omega) (by
        have:=Nat.mul_le_mul (show a+(n+1-a)<=1073741824 by omega) xJ
        omega))
     rw[hka]at tY
     obtain⟨C,MY⟩:∃C,C=grownCap w (n+1) cap 30:=⟨_,rfl⟩
     rw[<-MY]at tY hC
     obtain⟨bA,hc0⟩:∃bA:Array Value,bA=(bn ee.sh ((ab code).take a)).toArray++Builtin.zeroCells z.cells (n+1-a)++Builtin.zeroCells z.cells (C-(n+1)):=⟨_,rfl⟩
     rw[<-hc0,<-xP]at tY
     have DS:bA.size=C*5:=by
      rw[hc0];simp only[Array.size_append,List.size_toArray,kD,wE,yc];omega
     have Nu:bA.toList.take (a*5)=bn ee.sh ((ab code).take a):=by
      rw[hc0,Array.toList_append,Array.toList_append,List.append_assoc,List.take_append_of_le_length (by simp only[kD];omega),List.take_of_length_le (by simp only[kD];omega)]
     have DC:(w.drew.alloc (.cells bA 30)).heap[w.heap.size]?=some (.cells bA 30 (0,0)):=heap_alloc_new w.drew _
     have hold:∀k:Nat,k<w.heap.size->(w.drew.alloc (.cells bA 30)).heap[k]?=w.heap[k]?:=λk hk=>((World.Extends.refl w.drew).alloc _).block k hk
     have jQ:∀ty,(Builtin.copy_ #[28,28] ty #[.slice (some ⟨w.heap.size,a*5,none⟩) (n+1-a) (C-a),.slice (some ⟨dB,fK,none⟩) 1 vc]).run Tryz.prog (w.drew.alloc (.cells bA 30))=_:=λty=>
      wk _ 28 28 ty 30 i0 Tryz.underlying28 im w.heap.size (a*5) (n+1-a) (C-a) ⟨dB,fK,none⟩ 1 vc bA 30 (bn ee.sh (ab r)) DC
       (by rw[e6,jR,show Nat.min 1 (n+1-a)=1 by show min _ _=_;omega]) (qd _ (hold dB NY)) (by rw[e6,DS];omega) (ju _)
     obtain⟨c1,hc1⟩:∃c1,c1=(bA.toList.take (a*5)++bn ee.sh (ab r)++bA.toList.drop (a*5+(bn ee.sh (ab r)).length)).toArray:=⟨_,rfl⟩
     rw[<-hc1]at jQ
     have qW:c1.size=C*5:=by
      rw[hc1];simp only[List.size_toArray,List.length_append,List.length_take,List.length_drop,Array.length_toList,DS,e6];omega
     obtain⟨W2,hW2⟩:∃W2,W2=(w.drew.alloc (.cells bA 30)).setRow w.heap.size c1:=⟨_,rfl⟩
     have DD:W2.heap[w.heap.size]?=some (.cells c1 30 (0,0)):=by rw[hW2];exact setRow_heap _ _ _ _ _ _ DC
     have N5:W2.drew.heap[g]?=w.heap[g]?:=by
      rw[hW2]
      show((w.drew.alloc (.cells bA 30)).setRow w.heap.size c1).heap[g]?=_
      rw[setRow_other _ _ _ _ (by omega),hold g hlt]
     have mI:∀ty,(Builtin.copy_ #[28,28] ty #[.slice (some ⟨w.heap.size,(a+1)*5,none⟩) (n+1-(a+1)) (C-(a+1)),.slice (some ⟨g,a*5,none⟩) (n-a) (cap-a)]).run Tryz.prog W2.drew=_:=λty=>
      wk W2.drew 28 28 ty 30 i0 Tryz.underlying28 im w.heap.size ((a+1)*5) (n+1-(a+1)) (C-(a+1)) ⟨g,a*5,none⟩ (n-a) (cap-a) c1 30 (bn ee.sh ((ab code).drop a)) DD
       (by rw[hl2,jR,show Nat.min (n-a) (n+1-(a+1))=n-a by show min _ _=_;omega]) (hcell W2.drew (a*5) _ (bn ee.sh ((ab code).take a)) rest N5 (by rw[jO,qb]) kD) (by rw[hl2,qW];omega) (ju _)
     rw[<-hW2]at jQ
     rw[hv0]
     refine(Tryz.aiI g n cap a w.heap.size C ⟨dB,fK,none⟩ vc _ _ w _ W2 _ tX DT (by omega) hC.1 (by omega) tY jQ mI).mono ?_
     rintro e w' ⟨rfl,rfl⟩
     rw[<-hv0]
     refine fin _ w.heap.size C _ (c1.toList.drop ((a+1)*5+(bn ee.sh ((ab code).drop a)).length)) ?_ aX (setRow_heap _ _ _ _ _ _ DD) ?_ ?_ hC.1 (by omega) (.inr (Nat.le_refl _))
     ·rw[hW2]
      have s1:=iH.B8 (B0 w (.cells bA 30) (gj v0)) (sY _ w.heap.size c1) (.inr (Nat.le_refl _))
      exact iH.B8 (iH.TU s1) (sY _ w.heap.size _) (.inr (Nat.le_refl _))
     ·simp only
      rw[hc1,e6]
      simp only
      rw[Nu,Nat.succ_mul]
      exact UJ kD e6
     ·simp only[List.size_toArray,List.length_append,List.length_take,List.length_drop,Array.length_toList,qW,hl2]
      have:(a+1)*5+(n-a)*5<=C*5:=by rw[<-Nat.add_mul];exact Nat.mul_le_mul_right _ (by omega)
      omega
end Go.bE
namespace Go.Proofs
open Go.RowKit Go.ba
set_option maxHeartbeats 4000000 in
set_option maxRecDepth 1000000 in
theorem Tryz.WD (g n cap:Nat) (A:Addr) (vc:Nat) (r:Value) (w W1:World) (hn:n<=cap) (cK:cap<=9223372036854775807)
 (il:∀ty,(Builtin.append_ #[23,23] ty #[.slice (some ⟨g,0,none⟩) n cap,.slice (some A) 1 vc]).run Tryz.prog w= .ok r W1):
 Calls Tryz.prog 73 #[.slice (some ⟨g,0,none⟩) n cap,.int .i64 n,.slice (some A) 1 vc] w λe w'=>e= .returned r/\w'=W1:=by
 obtain⟨B,hB⟩:∃B,(if cap=n then some (⟨g,0,none⟩:Addr)else some ⟨g,n*1,none⟩)=B:=⟨_,rfl⟩
 go_enter Tryz.func73,Tryz.ntmps73
 go_wp2_with (at_builtin;refine wA rfl (.tmp 23) (.tmp 24) 23 23 rfl _ _ rfl rfl (il _) ?_)
 go_wp2
 all_goals (go_ret;exact⟨rfl,rfl⟩)
set_option maxHeartbeats 4000000 in
set_option maxRecDepth 1000000 in
theorem Tryz.awY (A:Addr) (vc:Nat) (r:Value) (w W1:World)
 (il:∀ty,(Builtin.append_ #[23,23] ty #[.slice none 0 0,.slice (some A) 1 vc]).run Tryz.prog w= .ok r W1):
 Calls Tryz.prog 73 #[.slice none 0 0,.int .i64 0,.slice (some A) 1 vc] w λe w'=>e= .returned r/\w'=W1:=by
 go_enter Tryz.func73,Tryz.ntmps73
 go_wp2_with (at_builtin;refine wA rfl (.tmp 23) (.tmp 24) 23 23 rfl _ _ rfl rfl (il _) ?_)
 go_wp2
 all_goals (go_ret;exact⟨rfl,rfl⟩)
set_option maxHeartbeats 4000000 in
set_option maxRecDepth 1000000 in
theorem Tryz.aiG (g n cap i G C:Nat) (A:Addr) (vc:Nat) (r1 r2:Value) (w W1 W2 W3:World) (cE:i<n) (hn:n<=cap) (hroom:cap<n+1) (hC:n+1<=C) (dY:n<=1073741824)
 (il:∀ty,(Builtin.append_ #[23,3] ty #[.slice (some ⟨g,0,none⟩) i cap,.int .i64 ((n:Int)+1-(i:Int))]).run Tryz.prog w= .ok (.slice (some ⟨G,0,none⟩) (n+1) C) W1)
 (jQ:∀ty,(Builtin.copy_ #[23,23] ty #[.slice (some ⟨G,i*1,none⟩) (n+1-i) (C-i),.slice (some A) 1 vc]).run Tryz.prog W1= .ok r1 W2)
 (mI:∀ty,(Builtin.copy_ #[23,23] ty #[.slice (some ⟨G,(i+1)*1,none⟩) (n+1-(i+1)) (C-(i+1)),.slice (some ⟨g,i*1,none⟩) (n-i) (cap-i)]).run Tryz.prog W2.drew= .ok r2 W3):
 Calls Tryz.prog 73 #[.slice (some ⟨g,0,none⟩) n cap,.int .i64 i,.slice (some A) 1 vc] w λe w'=>e= .returned (.slice (some ⟨G,0,none⟩) (n+1) C)/\w'=W3:=by
 have f1:¬cap=i:=by omega
 have f2:¬C=i:=by omega
 have f3:¬C=i+1:=by omega
 have f4:i<=cap:=by omega
 have f5:¬((i:Int)=(n:Int)):=by omega
 have f6:(cap:Int)<(n:Int)+1:=by omega
 have f7:i<=C:=by omega
 have f8:i+1<=C:=by omega
 have f9:((i:Int)+1).toNat=i+1:=by omega
 have f10:(0:Int)<=(i:Int)+1:=by omega
 have f11:(i:Int)+1<=(n:Int)+1:=by omega
 have f12:i<=n:=by omega
 have f13:IntKind.i64.wrap ((i:Int)+1)=(i:Int)+1:=by rw[IntKind.wrap_i64];omega
 simp only[Nat.mul_one]at jQ mI
 go_enter Tryz.func73,Tryz.ntmps73
 go_wp2_with (first
  |(at_builtin;refine wA rfl (.tmp 34) (.tmp 39) 23 3 rfl _ _ rfl rfl (il _) ?_)
  |(at_builtin;refine QT rfl (.tmp 43) (.tmp 44) 23 23 rfl _ _ rfl rfl (jQ _) ?_))
 go_region_law (refine JT rfl (.tmp 50) (.tmp 53) 23 23 rfl (.slice (some ⟨G,i+1,none⟩) (n+1-(i+1)) (C-(i+1))) (.slice (some ⟨g,i,none⟩) (n-i) (cap-i)) (by simp[Act.eval,Act.put]) (by simp[Act.eval,Act.put]) (mI _) ?_)
 go_wp2
 go_ret
 exact⟨rfl,rfl⟩
set_option maxHeartbeats 4000000 in
set_option maxRecDepth 1000000 in
theorem Tryz.aiH (g n cap i:Nat) (A:Addr) (vc:Nat) (r1 r2:Value) (w W1 W2:World) (cE:i<n) (hn:n+1<=cap) (dY:n<=1073741824)
 (AD:(callFunc 101 #[.slice (some A) 1 vc,.slice (some ⟨g,(i+1)*1,none⟩) (n-i) (cap-(i+1))]).run Tryz.prog w= .ok (.value (.bool false)) w)
 (jQ:∀ty,(Builtin.copy_ #[23,23] ty #[.slice (some ⟨g,(i+1)*1,none⟩) (n+1-(i+1)) (cap-(i+1)),.slice (some ⟨g,i*1,none⟩) (n+1-i) (cap-i)]).run Tryz.prog w.drew= .ok r1 W1)
 (mI:∀ty,(Builtin.copy_ #[23,23] ty #[.slice (some ⟨g,i*1,none⟩) (n+1-i) (cap-i),.slice (some A) 1 vc]).run Tryz.prog W1= .ok r2 W2):
 Calls Tryz.prog 73 #[.slice (some ⟨g,0,none⟩) n cap,.int .i64 i,.slice (some A) 1 vc] w λe w'=>e= .returned (.slice (some ⟨g,0,none⟩) (n+1) cap)/\w'=W2:=by
 have f1:¬cap=i:=by omega
 have f3:¬cap=i+1:=by omega
 have f4:i<=cap:=by omega
 have f5:¬((i:Int)=(n:Int)):=by omega
 have f6:¬(cap:Int)<(n:Int)+1:=by omega
 have f8:i+1<=cap:=by omega
 have f9:((i:Int)+1).toNat=i+1:=by omega
 have f10:(0:Int)<=(i:Int)+1:=by omega
 have f11:(i:Int)+1<=(n:Int)+1:=by omega
 have f12:i<=n:=by omega
 have f13:IntKind.i64.wrap ((i:Int)+1)=(i:Int)+1:=by rw[IntKind.wrap_i64];omega
 have f14:((n:Int)+1).toNat=n+1:=by omega
 have f15:(n:Int)+1<=(cap:Int):=by omega
 have f16:i<=n+1:=by omega
 have f17:(i:Int)<=(n:Int)+1:=by omega
 simp only[Nat.mul_one]at AD jQ mI
 go_enter Tryz.func73,Tryz.ntmps73
 go_wp2
 go_region_law (refine JT rfl (.tmp 73) (.tmp 76) 23 23 rfl (.slice (some ⟨g,i+1,none⟩) (n+1-(i+1)) (cap-(i+1))) (.slice (some ⟨g,i,none⟩) (n+1-i) (cap-i)) (by simp[Act.eval,Act.put]) (by simp[Act.eval,Act.put]) (jQ _) ?_)
 go_wp2_with (at_builtin;refine QT rfl (.tmp 80) (.tmp 81) 23 23 rfl _ _ rfl rfl (mI _) ?_)
 go_wp2
 go_ret
 exact⟨rfl,rfl⟩
end Go.Proofs
namespace Go.bE
open Go Go.ba Go.Proofs Go.RowKit
theorem aiF (p:Option Addr) (A:Addr) (vc:Nat) (r:Value) (w W1:World)
 (il:∀ty,(Builtin.append_ #[23,23] ty #[.slice p 0 0,.slice (some A) 1 vc]).run Tryz.prog w= .ok r W1):
 Calls Tryz.prog 73 #[.slice p 0 0,.int .i64 0,.slice (some A) 1 vc] w λe w'=>e= .returned r/\w'=W1:=by
 go_enter Tryz.func73,Tryz.ntmps73
 go_wp2_with (at_builtin;refine wA rfl (.tmp 23) (.tmp 24) 23 23 rfl _ _ rfl rfl (il _) ?_)
 go_wp2
 all_goals (go_ret;exact⟨rfl,rfl⟩)
theorem amI {wb:World}:ef.dX Tryz.prog wb (b5 sh SB ef.id):=by
 refine⟨λargs w=>enters (by kernel_rfl) _ _,λF w v0 code vs zs hw ho hc hz gD hat hF=>?_⟩
 match zs,hz,vs,hat with
 |[i,r],hz,[vi,QQ],hat=>
  obtain⟨uh,px,_⟩:=hat
  have uh:vi= .int .i64 i:=uh
  have Oq:gq F w ef.sh (ab r) QQ:=px
  clear px
  have gD:(0<=i/\i<=((ab code).length:Int))/\(ab r).length=1/\(ab code).length+1<=1073741824:=gD
  obtain⟨⟨p0,p1⟩,br,bT⟩:=gD
  obtain⟨a,ha⟩:∃a:Nat,i=a:=⟨i.toNat,by omega⟩
  subst ha
  have p1:a<=(ab code).length:=by omega
  rcases Oq with⟨_,h0⟩|⟨dB,fK,vc,CY,B5,MI,px,⟨ago,agp⟩,M0,xI,rf⟩
  ·rw[h0]at br;simp at br
  rw[br]at px
  have rf:=(mA (F:=F) (w:=w) (show iP ef.sh=true from rfl)).1 rf
  obtain⟨i0,im,jR,z,xL,yc,xJ⟩:∃i0,Tryz.prog.info? 9=some i0/\i0.size=1/\∃z,i0.zero=some z/\z.cells.size=1/\i0.bytes<=131072:=⟨_,rfl,by kernel_rfl,_,rfl,by kernel_rfl,by decide+kernel⟩
  have rh:ef.sh.length=1:=rfl
  have hnone:∀row∈ab r,bK ef.sh row:=rf.1
  have e6:(bn ef.sh (ab r)).length=1:=by rw[l9 hnone,br,rh,Nat.one_mul]
  have ju:∀(rows:List (List Int)),∀u∈bn ef.sh rows,u.oneCell'=true:=λ_=>MG
  have NY:dB<w.heap.size:=(Array.getElem?_eq_some_iff.1 xI).1
  have MU:CY.size≠0:=by
   obtain⟨_,pre,post,h2,_⟩:=rf
   have:=congrArg List.length h2
   simp only[List.length_append,e6,Array.length_toList]at this
   omega
  have qd:∀w1:World,w1.heap[dB]?=w.heap[dB]?->∀j u,(bn ef.sh (ab r))[j]?=some u->w1.cell? ((⟨dB,fK,none⟩:Addr).add j)=some u:=λw1 h1 j u hu=>by
   rw[Addr.add_lit]
   have:=rf.flat hu
   simp only[World.cell?,h1,xI,Option.isSome_none,Bool.false_eq_true,if_false]
   exact this
  have x8:∀w1:World,w1.heap[dB]?=w.heap[dB]?->Src Tryz.prog i0.size 23 (.slice (some ⟨dB,fK,none⟩) 1 vc) 1 (bn ef.sh (ab r)) w1:=λw1 h1=>
   Src.ofSlice w1 Tryz.underlying23 ⟨dB,fK,none⟩ 1 vc _ (by rw[e6,jR]) (qd w1 h1) (ju _)
  have fin:∀(w':World) (G C:Nat) (cells:Array Value) (post:List Value),iH w w' (gj v0)->(∀row∈ab code,bK ef.sh row)->w'.heap[G]?=some (.cells cells 9 (0,0))->cells.toList=bn ef.sh ((ab code).take a)++bn ef.sh (ab r)++bn ef.sh ((ab code).drop a)++post->cells.size=C*1->
   (ab code).length+1<=C->(C:Int)<=9223372036854775807->(gj v0=some G∨w.heap.size<=G)->
   iH w w' (gj v0)/\∃code' v',(0<=code'/\code'<=cc)/\b5 sh SB ef.id (code::[(a:Int),r]) [code']/\o8 (λg=>gj v0=some g∨w.heap.size<=g) w' ef.sh ef.e (ab code') v'/\Ending.returned (.slice (some ⟨G,0,none⟩) ((ab code).length+1) C)= .returned v':=by
   intro w' G C cells post iv aX hG jO hsz qT MX hown
   have hall:∀row∈(ab code).take a++ab r++(ab code).drop a,bK ef.sh row:=λrow hr=>by
    rcases List.mem_append.1 hr with hr|hr
    ·rcases List.mem_append.1 hr with hr|hr
     ·exact aX row (List.mem_of_mem_take hr)
     ·exact hnone row hr
    ·exact aX row (List.mem_of_mem_drop hr)
   have xT:((ab code).take a++ab r++(ab code).drop a).length=(ab code).length+1:=by
    rw[List.length_append,List.length_append,List.length_take,List.length_drop,br,Nat.min_eq_left p1];omega
   refine⟨iv,rc ((ab code).take a++ab r++(ab code).drop a),_,⟨fa _,vg (by kernel_rfl) (by rw[xT];omega) hall⟩,?_,Or.inr ⟨G,C,cells,?_,⟨?_,MX⟩,hown,hG,⟨?_,[],post,?_,rfl⟩,hsz⟩,rfl⟩
   ·show ab (rc _)=(ab code).take ((a:Int)).toNat++ab r++(ab code).drop ((a:Int)).toNat
    rw[du];rfl
   ·rw[du,xT]
   ·rw[du,xT];exact qT
   ·rw[du];exact hall
   ·rw[du,jO,List.nil_append,pZ,pZ]
  rw[uh,px]
  rcases ho with⟨⟨yG,hv0⟩,h0⟩|⟨g,cap,cells,hv0,⟨DT,Al⟩,ah8,hg,k0,hsz⟩
  ·
   have ha0:a=0:=by rw[h0]at p1;simpa using p1
   subst ha0
   have hC:=vx w (0+1) 0 9 (by omega)
   have il:∀ty,(Builtin.append_ #[23,23] ty #[.slice yG 0 0,.slice (some ⟨dB,fK,none⟩) 1 vc]).run Tryz.prog w=_:=λty=>
    run_append_grow_src w 23 23 ty 9 i0 z Tryz.underlying23 im xL yG 0 0 [] (HC _ _ _ _) _ 1 _ (x8 w rfl) (by omega) (by omega) (growslice_fits (by omega) (by omega))
   rw[hv0]
   refine(aiF yG ⟨dB,fK,none⟩ vc _ w _ il).mono ?_
   rintro e w' ⟨rfl,rfl⟩
   have qT:=hC.1
   have:=fin _ w.heap.size (grownCap w (0+1) 0 9) (([]++bn ef.sh (ab r)).toArray++Builtin.zeroCells z.cells (grownCap w (0+1) 0 9-(0+1))) (Builtin.zeroCells z.cells (grownCap w (0+1) 0 9-(0+1))).toList (B0 w _ _) (by rw[h0];intro _ h;cases h) (heap_alloc_new w.drew _) (by rw[h0];simp[bn]) (by
    simp only[Array.size_append,List.size_toArray,List.nil_append,e6,wE,yc];omega) (by rw[h0];exact hC.1) (by omega) (.inr (Nat.le_refl _))
   rw[h0]at this
   rw[<-hv0];exact this
  ·rw[rh]at hsz
   obtain⟨aX,pre,rest,jO,xY⟩:=k0
   have xY:pre=[]:=List.eq_nil_of_length_eq_zero xY
   subst xY
   rw[List.nil_append]at jO
   obtain⟨n,hn⟩:∃n,(ab code).length=n:=⟨_,rfl⟩
   rw[hn]at p1 bT DT hv0 fin
   have qb:bn ef.sh (ab code)=bn ef.sh ((ab code).take a)++bn ef.sh ((ab code).drop a):=by rw[<-pZ,List.take_append_drop]
   have kD:(bn ef.sh ((ab code).take a)).length=a*1:=by rw[l9 λr h=>aX r (List.mem_of_mem_take h),List.length_take,Nat.min_eq_left (by omega),rh]
   have hl2:(bn ef.sh ((ab code).drop a)).length=(n-a)*1:=by rw[l9 λr h=>aX r (List.mem_of_mem_drop h),List.length_drop,hn,rh]
   have hl0:(bn ef.sh (ab code)).length=n*1:=by rw[l9 aX,hn,rh]
   have gY:cells.toList.length=cap*1:=by rw[Array.length_toList];exact hsz
   have hne:dB≠g∨cap=0:=by
    rcases Nat.eq_zero_or_pos cap with h|h
    ·exact .inr h
    ·refine .inl λe=>?_
     obtain⟨c',rfl⟩:∃c',cap=c'+1:=⟨cap-1,by omega⟩
     refine hF dB M0 ?_
     rw[hv0,e];rfl
   have hown:cap≠0->gj v0=some g:=λh=>by
    obtain⟨c',rfl⟩:∃c',cap=c'+1:=⟨cap-1,by omega⟩
    rw[hv0];rfl
   have hlt:g<w.heap.size:=(Array.getElem?_eq_some_iff.1 hg).1
   have hcell:∀(w1:World) (o:Nat) (l:List Value) (pre post:List Value),w1.heap[g]?=w.heap[g]?->cells.toList=pre++l++post->pre.length=o->∀j u,l[j]?=some u->w1.cell? ((⟨g,o,none⟩:Addr).add j)=some u:=λw1 o l pre post h1 h2 h3 j u hu=>by
    rw[Addr.add_lit]
    simp only[World.cell?,h1,hg,Option.isSome_none,Bool.false_eq_true,if_false]
    have hlt:=(List.getElem?_eq_some_iff.1 hu).1
    rw[<-Array.getElem?_toList,h2,List.append_assoc,List.getElem?_append_right (by omega),List.getElem?_append_left (by omega),<-h3]
    rw[show pre.length+j-pre.length=j by omega];exact hu
   by_cases tX:a=n
   ·
    subst tX
    have p8:(ab code).drop a=[]:=List.drop_of_length_le (by omega)
    have ri:(ab code).take a=ab code:=List.take_of_length_le (by omega)
    by_cases hroom:a+1<=cap
    ·have il:∀ty,(Builtin.append_ #[23,23] ty #[.slice (some ⟨g,0,none⟩) a cap,.slice (some ⟨dB,fK,none⟩) 1 vc]).run Tryz.prog w=_:=λty=>
      Qc (P:=Tryz.prog) w 23 23 ty 9 i0 Tryz.underlying23 im g a cap cells 9 hg _ 1 _ (x8 w rfl) hroom (by rw[jR,e6,hsz];omega)
     rw[hv0]
     refine(Tryz.WD g a cap ⟨dB,fK,none⟩ vc _ w _ (by omega) (by omega) il).mono ?_
     rintro e w' ⟨rfl,rfl⟩
     rw[<-hv0]
     refine fin _ g cap _ (cells.toList.drop (a*1+1)) (by rw[hown (by omega)];exact sY w g _) aX (setRow_heap w g _ _ _ _ hg) ?_ ?_ hroom Al (.inl (hown (by omega)))
     ·rw[p8,ri,jR,e6]
      simp only[jO]
      rw[List.take_append_of_le_length (by omega),List.take_of_length_le (by omega)]
      simp[bn]
     ·simp only[List.size_toArray,List.length_append,List.length_take,List.length_drop,gY,e6,jR]
      omega
    ·have hC:=vx w (a+1) cap 9 (by omega)
     have il:∀ty,(Builtin.append_ #[23,23] ty #[.slice (some ⟨g,0,none⟩) a cap,.slice (some ⟨dB,fK,none⟩) 1 vc]).run Tryz.prog w=_:=λty=>
      run_append_grow_src w 23 23 ty 9 i0 z Tryz.underlying23 im xL (some ⟨g,0,none⟩) a cap (bn ef.sh (ab code)) (run_firstCells_some w.drew i0.size a ⟨g,0,none⟩ a cap _ (by rw[hl0,jR]) (hcell w.drew 0 _ [] rest rfl (by rw[jO];rfl) rfl)) _ 1 _ (x8 w rfl) (by omega) (by omega) (growslice_fits (by omega) (by
       have:=Nat.mul_le_mul (show a+1<=1073741824 by omega) xJ
       omega))
     rw[hv0]
     refine(Tryz.WD g a cap ⟨dB,fK,none⟩ vc _ w _ (by omega) (by omega) il).mono ?_
     rintro e w' ⟨rfl,rfl⟩
     rw[<-hv0]
     refine fin _ w.heap.size (grownCap w (a+1) cap 9) _ (Builtin.zeroCells z.cells (grownCap w (a+1) cap 9-(a+1))).toList (B0 w _ _) aX (heap_alloc_new w.drew _) ?_ ?_ hC.1 (by omega) (.inr (Nat.le_refl _))
     ·rw[p8,ri];simp[bn]
     ·simp only[Array.size_append,List.size_toArray,List.length_append,hl0,e6,wE,yc]
      have:=hC.1
      omega
   ·have tX:a<n:=by omega
    have Ak:cap≠0:=by omega
    have hne:dB≠g:=hne.resolve_right Ak
    have hown:=hown Ak
    by_cases hroom:n+1<=cap
    ·
     have ahf:rest.length=(cap-n)*1:=by
      have:=congrArg List.length jO
      simp only[List.length_append,hl0,gY]at this
      rw[Nat.sub_mul];omega
     have hcs:cells.toList=bn ef.sh ((ab code).take a)++bn ef.sh ((ab code).drop a)++rest:=by rw[jO,qb]
     have jQ:∀ty,(Builtin.copy_ #[23,23] ty #[.slice (some ⟨g,(a+1)*1,none⟩) (n+1-(a+1)) (cap-(a+1)),.slice (some ⟨g,a*1,none⟩) (n+1-a) (cap-a)]).run Tryz.prog w.drew=_:=λty=>
      wk w.drew 23 23 ty 9 i0 Tryz.underlying23 im g ((a+1)*1) (n+1-(a+1)) (cap-(a+1)) ⟨g,a*1,none⟩ (n+1-a) (cap-a) cells 9 (bn ef.sh ((ab code).drop a)) hg
       (by rw[hl2,jR,show Nat.min (n+1-a) (n+1-(a+1))=n-a by show min _ _=_;omega]) (hcell w.drew (a*1) _ (bn ef.sh ((ab code).take a)) rest rfl hcs kD) (by rw[hl2,hsz];omega) (ju _)
     obtain⟨c1,hc1⟩:∃c1,c1=(cells.toList.take ((a+1)*1)++bn ef.sh ((ab code).drop a)++cells.toList.drop ((a+1)*1+(bn ef.sh ((ab code).drop a)).length)).toArray:=⟨_,rfl⟩
     rw[<-hc1]at jQ
     have hg1:(w.drew.setRow g c1).heap[g]?=some (.cells c1 9 (0,0)):=setRow_heap w.drew g _ _ _ _ hg
     have qW:c1.size=cap*1:=by
      rw[hc1];simp only[List.size_toArray,List.length_append,List.length_take,List.length_drop,gY,hl2];omega
     have mI:∀ty,(Builtin.copy_ #[23,23] ty #[.slice (some ⟨g,a*1,none⟩) (n+1-a) (cap-a),.slice (some ⟨dB,fK,none⟩) 1 vc]).run Tryz.prog (w.drew.setRow g c1)=_:=λty=>
      wk (w.drew.setRow g c1) 23 23 ty 9 i0 Tryz.underlying23 im g (a*1) (n+1-a) (cap-a) ⟨dB,fK,none⟩ 1 vc c1 9 (bn ef.sh (ab r)) hg1
       (by rw[e6,jR,show Nat.min 1 (n+1-a)=1 by show min _ _=_;omega]) (qd _ (setRow_other w.drew g dB c1 hne)) (by rw[e6,qW];omega) (ju _)
     have AD:(callFunc 101 #[.slice (some ⟨dB,fK,none⟩) 1 vc,.slice (some ⟨g,(a+1)*1,none⟩) (n-a) (cap-(a+1))]).run Tryz.prog w= .ok (.value (.bool false)) w:=by
      rw[run_callFunc_extern Tryz.func101 (by kernel_rfl) (by kernel_rfl) (by kernel_rfl) (e:=Extern.SlicesOverlaps.overlaps #[23,23] #[4]) (by kernel_rfl)]
      rw[YQ w 23 4 9 Tryz.underlying23 i0.size (λw=>by simp[Go.sizeOf,typeInfo,im]) ⟨dB,fK,none⟩ ⟨g,(a+1)*1,none⟩ 1 vc (n-a) (cap-(a+1)) hne CY cells B5 9 MI xI hg MU]
      rfl
     rw[hv0]
     refine(Tryz.aiH g n cap a ⟨dB,fK,none⟩ vc _ _ w _ _ tX hroom (by omega) AD jQ mI).mono ?_
     rintro e w' ⟨rfl,rfl⟩
     rw[<-hv0]
     refine fin _ g cap _ (cells.toList.drop ((a+1)*1+(bn ef.sh ((ab code).drop a)).length)) (by rw[hown];exact iH.B8 (w:=w) (w1:=w.drew.setRow g c1) (sY w.drew g c1) (sY _ g _) (.inl rfl)) aX (setRow_heap _ g _ _ _ _ hg1) ?_ ?_ hroom Al (.inl hown)
     ·simp only[e6]
      rw[hc1]
      exact Yu hcs kD (by simp only[gY];omega) rfl (by rw[Nat.succ_mul])
     ·simp only[List.size_toArray,List.length_append,List.length_take,List.length_drop,Array.length_toList,qW,e6]
      have:(a+1)*1<=cap*1:=Nat.mul_le_mul_right _ (by omega)
      omega
    ·
     have hka:a+(n+1-a)=n+1:=by omega
     have xP:((n:Int)+1-(a:Int))=((n+1-a:Nat):Int):=by omega
     have hC:=vx w (n+1) cap 9 (by omega)
     have tY:=λty=>Lib.run_append_grow_zeros (P:=Tryz.prog) w 23 3 ty 9 i0 z .i64 .i64 Tryz.underlying23 Tryz.underlying3 im xL (some ⟨g,0,none⟩) a cap (bn ef.sh ((ab code).take a))
      (run_firstCells_some w.drew i0.size a ⟨g,0,none⟩ a cap _ (by rw[kD,jR]) (hcell w.drew 0 _ [] (bn ef.sh ((ab code).drop a)++rest) rfl (by rw[jO,qb,List.nil_append,List.append_assoc]) rfl)) (n+1-a) (by omega) (by rw[jR];decide) (by omega) (by omega)
      (by
        have:=Nat.mul_le_mul (show n+1-a<=1073741824 by omega) xJ
        omega)
      (growslice_fits (by omega) (by
        have:=Nat.mul_le_mul (show a+(n+1-a)<=1073741824 by omega) xJ
        omega))
     rw[hka]at tY
     obtain⟨C,MY⟩:∃C,C=grownCap w (n+1) cap 9:=⟨_,rfl⟩
     rw[<-MY]at tY hC
     obtain⟨bA,hc0⟩:∃bA:Array Value,bA=(bn ef.sh ((ab code).take a)).toArray++Builtin.zeroCells z.cells (n+1-a)++Builtin.zeroCells z.cells (C-(n+1)):=⟨_,rfl⟩
     rw[<-hc0,<-xP]at tY
     have DS:bA.size=C*1:=by
      rw[hc0];simp only[Array.size_append,List.size_toArray,kD,wE,yc];omega
     have Nu:bA.toList.take (a*1)=bn ef.sh ((ab code).take a):=by
      rw[hc0,Array.toList_append,Array.toList_append,List.append_assoc,List.take_append_of_le_length (by simp only[kD];omega),List.take_of_length_le (by simp only[kD];omega)]
     have DC:(w.drew.alloc (.cells bA 9)).heap[w.heap.size]?=some (.cells bA 9 (0,0)):=heap_alloc_new w.drew _
     have hold:∀k:Nat,k<w.heap.size->(w.drew.alloc (.cells bA 9)).heap[k]?=w.heap[k]?:=λk hk=>((World.Extends.refl w.drew).alloc _).block k hk
     have jQ:∀ty,(Builtin.copy_ #[23,23] ty #[.slice (some ⟨w.heap.size,a*1,none⟩) (n+1-a) (C-a),.slice (some ⟨dB,fK,none⟩) 1 vc]).run Tryz.prog (w.drew.alloc (.cells bA 9))=_:=λty=>
      wk _ 23 23 ty 9 i0 Tryz.underlying23 im w.heap.size (a*1) (n+1-a) (C-a) ⟨dB,fK,none⟩ 1 vc bA 9 (bn ef.sh (ab r)) DC
       (by rw[e6,jR,show Nat.min 1 (n+1-a)=1 by show min _ _=_;omega]) (qd _ (hold dB NY)) (by rw[e6,DS];omega) (ju _)
     obtain⟨c1,hc1⟩:∃c1,c1=(bA.toList.take (a*1)++bn ef.sh (ab r)++bA.toList.drop (a*1+(bn ef.sh (ab r)).length)).toArray:=⟨_,rfl⟩
     rw[<-hc1]at jQ
     have qW:c1.size=C*1:=by
      rw[hc1];simp only[List.size_toArray,List.length_append,List.length_take,List.length_drop,Array.length_toList,DS,e6];omega
     obtain⟨W2,hW2⟩:∃W2,W2=(w.drew.alloc (.cells bA 9)).setRow w.heap.size c1:=⟨_,rfl⟩
     have DD:W2.heap[w.heap.size]?=some (.cells c1 9 (0,0)):=by rw[hW2];exact setRow_heap _ _ _ _ _ _ DC
     have N5:W2.drew.heap[g]?=w.heap[g]?:=by
      rw[hW2]
      show((w.drew.alloc (.cells bA 9)).setRow w.heap.size c1).heap[g]?=_
      rw[setRow_other _ _ _ _ (by omega),hold g hlt]
     have mI:∀ty,(Builtin.copy_ #[23,23] ty #[.slice (some ⟨w.heap.size,(a+1)*1,none⟩) (n+1-(a+1)) (C-(a+1)),.slice (some ⟨g,a*1,none⟩) (n-a) (cap-a)]).run Tryz.prog W2.drew=_:=λty=>
      wk W2.drew 23 23 ty 9 i0 Tryz.underlying23 im w.heap.size ((a+1)*1) (n+1-(a+1)) (C-(a+1)) ⟨g,a*1,none⟩ (n-a) (cap-a) c1 9 (bn ef.sh ((ab code).drop a)) DD
       (by rw[hl2,jR,show Nat.min (n-a) (n+1-(a+1))=n-a by show min _ _=_;omega]) (hcell W2.drew (a*1) _ (bn ef.sh ((ab code).take a)) rest N5 (by rw[jO,qb]) kD) (by rw[hl2,qW];omega) (ju _)
     rw[<-hW2]at jQ
     rw[hv0]
     refine(Tryz.aiG g n cap a w.heap.size C ⟨dB,fK,none⟩ vc _ _ w _ W2 _ tX DT (by omega) hC.1 (by omega) tY jQ mI).mono ?_
     rintro e w' ⟨rfl,rfl⟩
     rw[<-hv0]
     refine fin _ w.heap.size C _ (c1.toList.drop ((a+1)*1+(bn ef.sh ((ab code).drop a)).length)) ?_ aX (setRow_heap _ _ _ _ _ _ DD) ?_ ?_ hC.1 (by omega) (.inr (Nat.le_refl _))
     ·rw[hW2]
      have s1:=iH.B8 (B0 w (.cells bA 9) (gj v0)) (sY _ w.heap.size c1) (.inr (Nat.le_refl _))
      exact iH.B8 (iH.TU s1) (sY _ w.heap.size _) (.inr (Nat.le_refl _))
     ·simp only
      rw[hc1,e6]
      simp only
      rw[Nu,Nat.succ_mul]
      exact UJ kD e6
     ·simp only[List.size_toArray,List.length_append,List.length_take,List.length_drop,Array.length_toList,qW,hl2]
      have:(a+1)*1+(n-a)*1<=C*1:=by rw[<-Nat.add_mul];exact Nat.mul_le_mul_right _ (by omega)
      omega
end Go.bE
namespace Go.bE
open Go Go.ba Go.Maps
abbrev oD:=DataW Unit
variable {P:Program} {k e t:TypeId} {R:Value->Option (oD×List MemPlace)} {w:World} {b n:Nat} {f:aq->Option oD}
def gK (P:Program) (k:TypeId) (R:Value->Option (oD×List MemPlace)) (w:World) (b n:Nat) (f:aq->Option oD):Prop:=
 ∃D:oD,w.ownsMap P k R b n D/\∀(s:aq) (zd:oD),D.atKey (.string s) zd=(f s).getD zd
theorem gK.made (w:World) (P:Program) (k:TypeId) (R:Value->Option (oD×List MemPlace)):gK P k R (w.alloc (.map #[] 0)) w.heap.size 0 λ_=>none:=
 ⟨.map [],World.ownsMap_made w P k R,λs zd=>rfl⟩
theorem gK.lt (h:gK P k R w b n f):b<w.heap.size:=by
 obtain⟨D,h1,h2⟩:=h
 exact h1.lt
theorem gK.blk (h:gK P k R w b n f) {w':World} (hb:w'.heap[b]?=w.heap[b]?):gK P k R w' b n f:=by
 obtain⟨D,⟨es,clock,h1,h2⟩,h3⟩:=h
 exact⟨D,⟨es,clock,hb.trans h1,h2⟩,h3⟩
theorem nQ (s:aq):(aG s).size=s.length:=rfl
theorem WU (hk:P.underlying k=some .string) {s:aq} (hs:s.length<=maxLen):keyOf P k (.string (aG s))=some (.string s):=by
 rw[Go.WideMaps.keyOf_string_mk hk (by rw[nQ];exact hs)]
 simp[aG]
theorem gK.store (h:gK P k R w b n f) (hk:P.underlying k=some .string) (ht:P.underlying t=some (.map k e)) (hn:n<maxLen) {s:aq} (hs:s.length<=maxLen) {val:Value} {d:oD} {ps:List MemPlace} (hv:R val=some (d,ps)):
 ∃w',(Instr.mapUpdate t (.map (some b)) (.string (aG s)) val).run P w= .ok () w'/\gK P k R w' b (n+1) (λx=>cond (decide (x=s)) (some d) (f x))/\w.grownBy w' (some b):=by
 obtain⟨D,h1,h2⟩:=h
 have K:=string_keyed hk
 have hkey:=WU hk hs
 obtain⟨w',r1,r2,r3⟩:=h1.update K ht hn hkey hv
 refine⟨w',r1,⟨_,r2,λx zd=>?_⟩,r3⟩
 by_cases hx:x=s
 ·subst hx
  rw[atKey_put_same h1.isMap (K.key hkey)];simp
 ·rw[atKey_put_other (by intro h;injection h with h;exact hx h)];simp only[hx,decide_false,cond_false];exact h2 x zd
theorem gK.look (h:gK P k R w b n f) (hk:P.underlying k=some .string) (ht:P.underlying t=some (.map k e)) {z:Value} (hz:(zeroValue e).run P w= .ok z w) {s:aq} (hs:s.length<=maxLen):
 (f s=none->(Instr.lookup t (.map (some b)) (.string (aG s)) true).run P w= .ok (.tuple #[z,.bool false]) w)/\
 ∀d,f s=some d->∃v ps,(Instr.lookup t (.map (some b)) (.string (aG s)) true).run P w= .ok (.tuple #[v,.bool true]) w/\R v=some (d,ps):=by
 obtain⟨D,⟨es,clock,hb,F,_,rfl⟩,h2⟩:=h
 rcases fit_look true (string_keyed hk) ht hz hb F (WU hk hs)with⟨hrun,_,hat⟩|⟨e0,y,_,_,hrun,hR,hat,_⟩
 ·have hn:f s=none:=by
   cases hf:f s with
   |none=>rfl
   |some d=>
    have h3:=(h2 s (.nil)).symm.trans (hat .nil)
    have h4:=(h2 s (.lit (.bool true))).symm.trans (hat (.lit (.bool true)))
    rw[hf]at h3 h4
    simp only[Option.getD_some]at h3 h4
    rw[h3]at h4;cases h4
  exact⟨λ_=>by simpa using hrun,λd hd=>(by rw[hn]at hd;cases hd)⟩
 ·have hn:f s=some y.1:=by
   cases hf:f s with
   |none=>
    have h3:=(h2 s (.nil)).symm.trans (hat .nil)
    have h4:=(h2 s (.lit (.bool true))).symm.trans (hat (.lit (.bool true)))
    rw[hf]at h3 h4
    simp only[Option.getD_none]at h3 h4
    rw[<-h3]at h4;cases h4
   |some d=>
    have h3:=(h2 s (.nil)).symm.trans (hat .nil)
    rw[hf]at h3
    simp only[Option.getD_some]at h3
    rw[h3]
  refine⟨λh0=>(by rw[hn]at h0;cases h0),λd hd=>⟨e0.val,y.2,by simpa using hrun,?_⟩⟩
  rw[hn]at hd;cases hd
  exact hR
theorem gK.ext (h:gK P k R w b n f) {w':World} (hx:w.Extends w'):gK P k R w' b n f:=h.blk (hx.block b h.lt)
theorem zR {w0 w:World} {o:Obj} (h:w0.Extends w):w0.Extends (w.alloc o).drew:=(h.alloc o).drew
theorem Hw {w0 w w':World} {b:Nat} (h:w0.Extends w) (hg:w.grownBy w' (some b)) (hb:w0.heap.size<=b):w0.Extends w':=by
 obtain⟨g1,g2,g3,g4,g5⟩:=hg
 have hblk:∀i:Nat,i<w0.heap.size->w'.heap[i]?=w0.heap[i]?:=λi hi=>(g5 i (Nat.lt_of_lt_of_le hi h.size) (by intro e;cases e;omega)).trans (h.block i hi)
 exact⟨g1.trans h.os,g2.trans h.tape,g3.trans h.output,Nat.le_trans h.size g4,λa ha=>by simp only[World.cell?,hblk a.block ha],λa ha=>by simp only[World.frozen?,hblk a.block ha],hblk⟩
theorem X9 {e:TypeId} (he:P.underlying e=some .string) {x:aq} (hx:x.length<=maxLen):plainElem (H:=Unit) P e (.string (aG x))=some (.lit (.string x),[]):=by
 rw[plainElem_string he (by rw[nQ];exact hx)];simp[aG]
theorem Ts {w0 w1 w2:World} {cs:Array Value} {ty:TypeId} (hx:(w0.alloc (.cells cs ty)).drew.Extends w2) {j:Nat} {v:Value} (hj:cs[j]?=some v):w2.cell? {block:=w0.heap.size,off:=j}=some v:=by
 have hb:w2.heap[w0.heap.size]?=some (.cells cs ty):=by
  rw[hx.block w0.heap.size (by show w0.heap.size<(w0.alloc (.cells cs ty)).heap.size;rw[World.size_alloc];omega)]
  exact World.alloc_heap_new w0 _
 simp[World.cell?,hb,hj]
end Go.bE
namespace Go.bE
open Go Go.ba Go.Proofs Go.RowKit
noncomputable abbrev zr:Value->Option (oD×List MemPlace):=plainElem Tryz.prog 9
set_option maxHeartbeats 4000000 in
theorem ais (sp:Option Addr) (a:Addr) (c n:Nat) (row:Nat->aq×aq×aq×Int) (nm:Nat->aq) (fm:Nat->aq->Option oD) (w:World) (hn:n<=1000) (xU:n<=c) (hsp:0<n->sp=some a)
 (h0:fm 0=λ_=>none) (hstep:∀i,i<n->fm (i+1)=λx=>cond (decide (x=nm i)) (some (.lit (.string (row i).2.2.1))) (fm i x))
 (hrow:∀w1,w.Extends w1->∀i,i<n->w1.cell? (a.add (i*4))=some (.string (aG (row i).1))/\w1.cell? {block:=(a.add (i*4)).block,off:=(a.add (i*4)).off+1}=some (.string (aG (row i).2.1))/\w1.cell? {block:=(a.add (i*4)).block,off:=(a.add (i*4)).off+2}=some (.string (aG (row i).2.2.1))/\w1.cell? {block:=(a.add (i*4)).block,off:=(a.add (i*4)).off+3}=some (.int .i64 (row i).2.2.2))
 (hlen:∀i,i<n->(nm i).length<=maxLen/\(row i).2.2.1.length<=maxLen)
 (Ef:∀w1,w.Extends w1->∀i,i<n->Calls Tryz.prog 20 #[.agg #[.string (aG (row i).1),.string (aG (row i).2.1)]] w1 λe w2=>w1.Extends w2/\e= .returned (.string (aG (nm i)))):
 Calls Tryz.prog 23 #[.slice sp n c,.func (.func 20) #[] #[]] w λe w'=>w.Extends w'/\∃B,e= .returned (.map (some B))/\w.heap.size<=B/\gK Tryz.prog 9 zr w' B n (fm n):=by
 have kY:=@Go.RowKit.run_makeMap Tryz.prog
 go_enter Tryz.func23,Tryz.ntmps23
 go_wp2
 go_loopw [11] (λv wr=>∃k:Nat,k<=n/\v= .int .i64 k/\w.Extends wr/\gK Tryz.prog 9 zr wr w.heap.size k (fm k)) (λv _=>n-(intOf v).toNat)
 case atStart=>exact⟨0,Nat.zero_le _,rfl,(World.Extends.refl w).alloc _,by rw[h0];exact gK.made _ _ _ _⟩
 case round=>
  obtain⟨k,hk,rfl,hx,hm⟩:=hrel
  by_cases mL:k<n
  ·obtain rfl:=hsp (by omega)
   obtain⟨bA,c1,c2,c3⟩:=hrow wr hx k mL
   go_upto_region 5 with fail
   go_region_with (go_at_call 20;refine(Ef _ (zR hx) k mL).mono ?_;rintro e w2 ⟨hx2,rfl⟩;have d2:=Ts (w1:=w2) hx2 (j:=2) rfl;obtain⟨w3,Ey,q8,hg3⟩:=(hm.ext ((zR (World.Extends.refl wr)).trans hx2)).store Tryz.underlying9 Tryz.underlying52 (by unfold maxLen;omega) (hlen k mL).1 (X9 Tryz.underlying9 (hlen k mL).2))
   all_goals
    have Lv:w.Extends w3:=Hw ((zR hx).trans hx2) hg3 (Nat.le_refl _)
    have Lw:gK Tryz.prog 9 zr w3 w.heap.size (k+1) (fm (k+1)):=by rw[hstep k mL];exact q8
    clear Ey hg3 q8 hx2 d2 hm hrow Ef hstep
    go_wp2
    go_roundw
    case rel=>exact⟨k+1,by omega,by go_num,Lv,Lw⟩
    case measure=>simp[intOf];omega
  ·have:k=n:=by omega
   subst this
   go_wp2
   all_goals (go_ret;exact⟨hx,_,rfl,Nat.le_refl _,hm⟩)
end Go.bE
namespace Go.bE
open Go Go.ba Go.Proofs Go.RowKit
set_option maxHeartbeats 4000000 in
theorem ait (g0:Nat) (sp:Option Addr) (a:Addr) (c n:Nat) (row:Nat->aq×aq×aq×Int) (nm:Nat->aq) (fm:Nat->aq->Option oD) (w:World) (hn:n<=1000) (xU:n<=c) (hsp:0<n->sp=some a)
 (h0:fm 0=λ_=>none) (hstep:∀i,i<n->fm (i+1)=λx=>cond (decide (x=nm i)) (some (.lit (.string (row i).2.2.1))) (fm i x))
 (hrow:∀w1,w.Extends w1->∀i,i<n->w1.cell? (a.add (i*4))=some (.string (aG (row i).1))/\w1.cell? {block:=(a.add (i*4)).block,off:=(a.add (i*4)).off+1}=some (.string (aG (row i).2.1))/\w1.cell? {block:=(a.add (i*4)).block,off:=(a.add (i*4)).off+2}=some (.string (aG (row i).2.2.1))/\w1.cell? {block:=(a.add (i*4)).block,off:=(a.add (i*4)).off+3}=some (.int .i64 (row i).2.2.2))
 (hlen:∀i,i<n->(nm i).length<=maxLen/\(row i).2.2.1.length<=maxLen)
 (Ef:∀w1,w.Extends w1->∀i,i<n->Calls Tryz.prog 21 #[.agg #[.string (aG (row i).1),.string (aG (row i).2.1)],.pointer (some ⟨g0,0,none⟩)] w1 λe w2=>w1.Extends w2/\e= .returned (.string (aG (nm i)))):
 Calls Tryz.prog 23 #[.slice sp n c,.func (.func 21) #[] #[.pointer (some ⟨g0,0,none⟩)]] w λe w'=>w.Extends w'/\∃B,e= .returned (.map (some B))/\w.heap.size<=B/\gK Tryz.prog 9 zr w' B n (fm n):=by
 have kY:=@Go.RowKit.run_makeMap Tryz.prog
 go_enter Tryz.func23,Tryz.ntmps23
 go_wp2
 go_loopw [11] (λv wr=>∃k:Nat,k<=n/\v= .int .i64 k/\w.Extends wr/\gK Tryz.prog 9 zr wr w.heap.size k (fm k)) (λv _=>n-(intOf v).toNat)
 case atStart=>exact⟨0,Nat.zero_le _,rfl,(World.Extends.refl w).alloc _,by rw[h0];exact gK.made _ _ _ _⟩
 case round=>
  obtain⟨k,hk,rfl,hx,hm⟩:=hrel
  by_cases mL:k<n
  ·obtain rfl:=hsp (by omega)
   obtain⟨bA,c1,c2,c3⟩:=hrow wr hx k mL
   go_upto_region 5 with fail
   go_region_with (go_at_call 21;refine(Ef _ (zR hx) k mL).mono ?_;rintro e w2 ⟨hx2,rfl⟩;have d2:=Ts (w1:=w2) hx2 (j:=2) rfl;obtain⟨w3,Ey,q8,hg3⟩:=(hm.ext ((zR (World.Extends.refl wr)).trans hx2)).store Tryz.underlying9 Tryz.underlying52 (by unfold maxLen;omega) (hlen k mL).1 (X9 Tryz.underlying9 (hlen k mL).2))
   all_goals
    have Lv:w.Extends w3:=Hw ((zR hx).trans hx2) hg3 (Nat.le_refl _)
    have Lw:gK Tryz.prog 9 zr w3 w.heap.size (k+1) (fm (k+1)):=by rw[hstep k mL];exact q8
    clear Ey hg3 q8 hx2 d2 hm hrow Ef hstep
    go_wp2
    go_roundw
    case rel=>exact⟨k+1,by omega,by go_num,Lv,Lw⟩
    case measure=>simp[intOf];omega
  ·have:k=n:=by omega
   subst this
   go_wp2
   all_goals (go_ret;exact⟨hx,_,rfl,Nat.le_refl _,hm⟩)
end Go.bE
namespace Go.bE
open Go Go.ba Go.Proofs Go.RowKit
abbrev Hl (g:Nat):Value:= .func (.func 21) #[] #[.pointer (some ⟨g,0,none⟩)]
open Classical in
noncomputable def tw (g:Nat) (v:Value):Option (oD×List MemPlace):=if v= .func (.func 20) #[] #[]then some (.lit (.bool true),[])else if v=Hl g then some (.lit (.bool false),[])else none
theorem abv (g:Nat):tw g (.func (.func 20) #[] #[])=some (.lit (.bool true),[]):=by unfold tw;rw[if_pos rfl]
theorem abw (g:Nat):tw g (Hl g)=some (.lit (.bool false),[]):=by
 unfold tw;rw[if_neg (by intro h;injection h with h;injection h with h;cases h),if_pos rfl]
theorem aby {g:Nat} {v:Value} {ps:List MemPlace} (h:tw g v=some (.lit (.bool true),ps)):v= .func (.func 20) #[] #[]:=by
 unfold tw at h
 split at h
 ·assumption
 ·split at h<;>cases h
theorem abx {g:Nat} {v:Value} {ps:List MemPlace} (h:tw g v=some (.lit (.bool false),ps)):v=Hl g:=by
 unfold tw at h
 split at h
 ·cases h
 ·split at h
  ·assumption
  ·cases h
abbrev JJ:aq:=[110,111,110,101]
abbrev JK:aq:=[115,104,97,50,53,54]
def zl (g:Nat) (al:aq) (fv:Value):Prop:=(al=JJ/\fv= .func (.func 20) #[] #[])∨(al=JK/\fv=Hl g)
def nM (g:Nat) (s0 s1 s2 eO:Value) (w:World):Prop:=w.heap[g]?=some (.cells #[s0] 9)/\w.heap[g+1]?=some (.cells #[s1,s2,eO] 25)/\w.heap[g+1+1]?=some (.cells #[.int .i64 0,.int .i64 0,.string ⟨#[]⟩,.slice none 0 0,.slice none 0 0] 30)
theorem nM.ext {g:Nat} {s0 s1 s2 eO:Value} {w w':World} (h:nM g s0 s1 s2 eO w) (hx:w.Extends w'):nM g s0 s1 s2 eO w':=by
 obtain⟨h1,h2,h3⟩:=h
 exact⟨(hx.block g (Array.getElem?_eq_some_iff.1 h1).1).trans h1,(hx.block _ (Array.getElem?_eq_some_iff.1 h2).1).trans h2,(hx.block _ (Array.getElem?_eq_some_iff.1 h3).1).trans h3⟩
theorem nM.grown {g b:Nat} {s0 s1 s2 eO:Value} {w w':World} (h:nM g s0 s1 s2 eO w) (hg:w.grownBy w' (some b)) (hb:g+1+1<b):nM g s0 s1 s2 eO w':=by
 obtain⟨h1,h2,h3⟩:=h
 obtain⟨_,_,_,_,g5⟩:=hg
 exact⟨(g5 g (Array.getElem?_eq_some_iff.1 h1).1 (by intro e;cases e;omega)).trans h1,(g5 _ (Array.getElem?_eq_some_iff.1 h2).1 (by intro e;cases e;omega)).trans h2,(g5 _ (Array.getElem?_eq_some_iff.1 h3).1 (by intro e;cases e;omega)).trans h3⟩
theorem nM.cells {g:Nat} {s0 s1 s2 eO:Value} {w:World} (h:nM g s0 s1 s2 eO w):w.cell? {block:=g,off:=0}=some s0/\w.cell? {block:=g+1,off:=0}=some s1/\w.cell? {block:=g+1,off:=1}=some s2/\w.cell? {block:=g+1,off:=2}=some eO/\
 w.cell? {block:=g+1+1,off:=0}=some (.int .i64 0)/\w.cell? {block:=g+1+1,off:=1}=some (.int .i64 0)/\w.cell? {block:=g+1+1,off:=2}=some (.string ⟨#[]⟩)/\w.cell? {block:=g+1+1,off:=3}=some (.slice none 0 0)/\w.cell? {block:=g+1+1,off:=4}=some (.slice none 0 0)/\
 w.frozen? {block:=g+1+1,off:=0}=false/\w.frozen? {block:=g+1+1,off:=1}=false/\w.frozen? {block:=g+1+1,off:=2}=false/\w.frozen? {block:=g+1+1,off:=3}=false/\w.frozen? {block:=g+1+1,off:=4}=false:=by
 obtain⟨h1,h2,h3⟩:=h
 simp[World.cell?,World.frozen?,h1,h2,h3]
abbrev W0 (al:aq) (w:World) (p q:aq) (va:Value):World:=((w.alloc (.cells #[.string (aG p)] 9)).alloc (.cells #[.string (aG al),.string (aG q),va] 25)).alloc (.cells #[.int .i64 0,.int .i64 0,.string ⟨#[]⟩,.slice none 0 0,.slice none 0 0] 30)
theorem IS {al:aq} {fv:Value} (w:World) (cG:zl w.heap.size al fv) (p q:aq) (va:Value):∃w1 w2:World,
 (Instr.mapUpdate 50 (.map (some (w.heap.size+1+1+1))) (.string ⟨#[110,111,110,101]⟩) (.func (.func 20) #[] #[])).run Tryz.prog ((W0 al w p q va).alloc (.map #[] 0))= .ok () w1/\
 (Instr.mapUpdate 50 (.map (some (w.heap.size+1+1+1))) (.string ⟨#[115,104,97,50,53,54]⟩) (.func (.func 21) #[] #[.pointer (some ⟨w.heap.size,0,none⟩)])).run Tryz.prog w1= .ok () w2/\
 (Instr.lookup 50 (.map (some (w.heap.size+1+1+1))) (.string (aG al)) true).run Tryz.prog w2= .ok (.tuple #[fv,.bool true]) w2/\
 w.Extends w2/\nM w.heap.size (.string (aG p)) (.string (aG al)) (.string (aG q)) va w2:=by
 have hsz:(W0 al w p q va).heap.size=w.heap.size+1+1+1:=by simp only[World.size_alloc]
 have VJ:=gK.made (W0 al w p q va) Tryz.prog 9 (tw w.heap.size)
 rw[hsz]at VJ
 obtain⟨w1,ia,fT,g1⟩:=VJ.store Tryz.underlying9 Tryz.underlying50 (by unfold maxLen;omega) (s:=JJ) (by decide) (abv _)
 obtain⟨w2,nF,m2,g2⟩:=fT.store Tryz.underlying9 Tryz.underlying50 (by unfold maxLen;omega) (s:=JK) (by decide) (abw _)
 obtain⟨z,hz⟩:∃z,(zeroValue 49).run Tryz.prog w2= .ok z w2:=⟨_,rfl⟩
 have hlk:(Instr.lookup 50 (.map (some (w.heap.size+1+1+1))) (.string (aG al)) true).run Tryz.prog w2= .ok (.tuple #[fv,.bool true]) w2:=by
  rcases cG with⟨rfl,rfl⟩|⟨rfl,rfl⟩
  ·obtain⟨v,ps,l1,l2⟩:=(m2.look Tryz.underlying9 Tryz.underlying50 hz (s:=JJ) (by decide)).2 (.lit (.bool true)) rfl
   rw[aby l2]at l1;exact l1
  ·obtain⟨v,ps,l1,l2⟩:=(m2.look Tryz.underlying9 Tryz.underlying50 hz (s:=JK) (by decide)).2 (.lit (.bool false)) rfl
   rw[abx l2]at l1;exact l1
 have hx0:w.Extends ((W0 al w p q va).alloc (.map #[] 0)):=((((World.Extends.refl w).alloc _).alloc _).alloc _).alloc _
 have hx1:=Hw hx0 g1 (by omega)
 have hx2:=Hw hx1 g2 (by omega)
 refine⟨w1,w2,ia,nF,hlk,hx2,?_⟩
 have hF:nM w.heap.size (.string (aG p)) (.string (aG al)) (.string (aG q)) va ((W0 al w p q va).alloc (.map #[] 0)):=by
  have e1:(w.alloc (.cells #[.string (aG p)] 9)).heap.size=w.heap.size+1:=World.size_alloc ..
  have e2:((w.alloc (.cells #[.string (aG p)] 9)).alloc (.cells #[.string (aG al),.string (aG q),va] 25)).heap.size=w.heap.size+1+1:=by rw[World.size_alloc,e1]
  refine⟨?_,?_,?_⟩
  ·exact((((World.Extends.refl _).alloc _).alloc _).alloc _).block w.heap.size (by rw[e1];omega) |>.trans (World.alloc_heap_new w _)
  ·have:=World.alloc_heap_new (w.alloc (.cells #[.string (aG p)] 9)) (.cells #[.string (aG al),.string (aG q),va] 25)
   rw[e1]at this
   exact(((World.Extends.refl _).alloc _).alloc _).block (w.heap.size+1) (by rw[e2];omega) |>.trans this
  ·have:=World.alloc_heap_new ((w.alloc (.cells #[.string (aG p)] 9)).alloc (.cells #[.string (aG al),.string (aG q),va] 25)) (.cells #[.int .i64 0,.int .i64 0,.string ⟨#[]⟩,.slice none 0 0,.slice none 0 0] 30)
   rw[e2]at this
   exact((World.Extends.refl _).alloc _).block (w.heap.size+1+1) (by rw[hsz];omega) |>.trans this
 exact(hF.grown g1 (by omega)).grown g2 (by omega)
theorem Dc {w0 w1:World} (h:w0.Extends w1) {a:Addr} (ha:w0.heap.size<=a.block) (v:Value):w0.Extends (w1.setCell a v):=by
 have hs:(w1.setCell a v).heap.size=w1.heap.size:=by simp[World.setCell]
 have hblk:∀i:Nat,i<w0.heap.size->(w1.setCell a v).heap[i]?=w0.heap[i]?:=λi hi=>(Go.heap_setCell_other w1 a i v (by omega)).trans (h.block i hi)
 exact⟨h.os,h.tape,h.output,by rw[hs];exact h.size,λb hb=>by simp only[World.cell?,hblk b.block hb],λb hb=>by simp only[World.frozen?,hblk b.block hb],hblk⟩
theorem BV {w:World} {g:Nat} {cs:Array Value} (hg:w.heap[g]?=some (.cells cs 30 (0,0))) (h5:cs.size=5) (x0 x1 x2 x3 eP:Value):
 (((((w.setCell ⟨g,0,none⟩ x0).setCell ⟨g,1,none⟩ x1).setCell ⟨g,2,none⟩ x2).setCell ⟨g,3,none⟩ x3).setCell ⟨g,4,none⟩ eP).heap[g]?=some (.cells #[x0,x1,x2,x3,eP] 30 (0,0)):=by
 match cs,h5 with
 |⟨[a,b,c,d,e]⟩,_=>exact heap_setCell_same _ g 4 _ 30 eP (heap_setCell_same _ g 3 _ 30 x3 (heap_setCell_same _ g 2 _ 30 x2 (heap_setCell_same _ g 1 _ 30 x1 (heap_setCell_same w g 0 _ 30 x0 hg))))
theorem zS {w0 w:World} (h:w0.Extends w) {g:Nat} (hg:w0.heap.size<=g) (x0 x1 x2 x3 eP:Value):w0.Extends (((((w.setCell ⟨g,0,none⟩ x0).setCell ⟨g,1,none⟩ x1).setCell ⟨g,2,none⟩ x2).setCell ⟨g,3,none⟩ x3).setCell ⟨g,4,none⟩ eP):=
 Dc (Dc (Dc (Dc (Dc h (a:=⟨g,0,none⟩) hg x0) (a:=⟨g,1,none⟩) hg x1) (a:=⟨g,2,none⟩) hg x2) (a:=⟨g,3,none⟩) hg x3) (a:=⟨g,4,none⟩) hg eP
theorem Fm {tmps:Array Value} {w:World} {g:Nat} {cs:Array Value} {u:Value} (h6:tmps.getD 6 undef= .pointer (some ⟨g,0,none⟩)) (h7:tmps.getD 7 undef=u) (hg:w.heap[g]?=some (.cells cs 30 (0,0))) (h5:cs.size=5):
 (results Tryz.f9 tmps).run Tryz.prog w= .ok (.tuple #[.agg cs,u]) w:=by
 rw[results_cell_tmp (p:=6) (u:=7) (ty:=30) (by kernel_rfl),h6,h7]
 have hl:=run_loadVar_row (P:=Tryz.prog) w g 30 30 cs (0,0) _ hg Tryz.underlying30 rfl (by rw[h5];kernel_rfl)
 simp[asAddr,hl,Result.andThen]
set_option maxHeartbeats 4000000 in
theorem akn {al:aq} {fv:Value} (v0 va:Value) (p q:aq) (w:World) (cG:zl w.heap.size al fv) (b1 b2:Bool) (hb:(b1&&b2)=false)
 (oP:∀w1,w.Extends w1->Calls Tryz.prog 14 #[.string (aG p)] w1 λe w2=>w1.Extends w2/\e= .returned (.bool b1))
 (xB:∀w1,w.Extends w1->Calls Tryz.prog 22 #[v0] w1 λe w2=>w1.Extends w2/\e= .returned (.bool b2)):
 Calls Tryz.prog 9 #[v0,.string (aG p),.agg #[.string (aG al),.string (aG q),va]] w λe w'=>w.Extends w'/\e= .returned (.tuple #[.agg #[.int .i64 0,.int .i64 0,.string ⟨#[]⟩,.slice none 0 0,.slice none 0 0],.int .i64 1]):=by
 have kY:=@Go.RowKit.run_makeMap Tryz.prog
 obtain⟨w1,w2,ia,nF,pF,hx2,hF2⟩:=IS w cG p q va
 obtain⟨d0,d1,d2,d3,_⟩:=hF2.cells
 cases b1 with
 |false=>
  go_enter Tryz.func9,Tryz.ntmps9
  go_wp2_with (go_at_call 14;refine(oP _ (by assumption)).mono ?_;rintro e w3 ⟨hx3,rfl⟩;obtain⟨e0,e1,e2,e3,bA,c1,c2,c3,c4,f0,f1,f2,f3,f4⟩:=(hF2.ext hx3).cells)
  all_goals
   exact bodyPost_ret (Fm rfl rfl (BV (hF2.ext hx3).2.2 rfl _ _ _ _ _) rfl) rfl ⟨zS (hx2.trans hx3) (by omega) _ _ _ _ _,rfl⟩
 |true=>
  have:b2=false:=by simpa using hb
  subst this
  go_enter Tryz.func9,Tryz.ntmps9
  go_wp2_with (first
   |(go_at_call 14;refine(oP _ (by assumption)).mono ?_;rintro e w3 ⟨hx3,rfl⟩;have rk:=hx2.trans hx3;have si:=hF2.ext hx3)
   |(go_at_call 22;refine(xB _ rk).mono ?_;rintro e w4 ⟨oR,rfl⟩;obtain⟨e0,e1,e2,e3,bA,c1,c2,c3,c4,f0,f1,f2,f3,f4⟩:=(si.ext oR).cells))
  all_goals
   exact bodyPost_ret (Fm rfl rfl (BV (si.ext oR).2.2 rfl _ _ _ _ _) rfl) rfl ⟨zS (rk.trans oR) (by omega) _ _ _ _ _,rfl⟩
set_option maxHeartbeats 4000000 in
theorem akp {al:aq} {fv:Value} (v0 va:Value) (p q:aq) (w:World) (cG:zl w.heap.size al fv) (hq:¬q=p)
 (oP:∀w1,w.Extends w1->Calls Tryz.prog 14 #[.string (aG p)] w1 λe w2=>w1.Extends w2/\e= .returned (.bool true))
 (xB:∀w1,w.Extends w1->Calls Tryz.prog 22 #[v0] w1 λe w2=>w1.Extends w2/\e= .returned (.bool true)):
 Calls Tryz.prog 9 #[v0,.string (aG p),.agg #[.string (aG al),.string (aG q),va]] w λe w'=>w.Extends w'/\e= .returned (.tuple #[.agg #[.int .i64 0,.int .i64 0,.string ⟨#[]⟩,.slice none 0 0,.slice none 0 0],.int .i64 15]):=by
 have kY:=@Go.RowKit.run_makeMap Tryz.prog
 obtain⟨w1,w2,ia,nF,pF,hx2,hF2⟩:=IS w cG p q va
 obtain⟨d0,d1,d2,d3,_⟩:=hF2.cells
 have hne:¬aG q=aG p:=λe=>hq (by have:=congrArg (λb=>b.data.toList) e;simpa [aG]using this)
 have aww:((aG q).toList==(aG p).toList)=false:=by rw[w9,w9];simpa using hq
 go_enter Tryz.func9,Tryz.ntmps9
 go_wp2_with (first
  |(go_at_call 14;refine(oP _ (by assumption)).mono ?_;rintro e w3 ⟨hx3,rfl⟩;have rk:=hx2.trans hx3;have si:=hF2.ext hx3)
  |(go_at_call 22;refine(xB _ rk).mono ?_;rintro e w4 ⟨oR,rfl⟩;obtain⟨e0,e1,e2,e3,bA,c1,c2,c3,c4,f0,f1,f2,f3,f4⟩:=(si.ext oR).cells))
 all_goals
  exact bodyPost_ret (Fm rfl rfl (BV (si.ext oR).2.2 rfl _ _ _ _ _) rfl) rfl ⟨zS (rk.trans oR) (by omega) _ _ _ _ _,rfl⟩
set_option maxHeartbeats 4000000 in
theorem ako {al:aq} {fv:Value} (v0:Value) (ap:Option Addr) (ki l4:Nat) (p:aq) (w:World) (cG:zl w.heap.size al fv) (hn:32<ki)
 (oP:∀w1,w.Extends w1->Calls Tryz.prog 14 #[.string (aG p)] w1 λe w2=>w1.Extends w2/\e= .returned (.bool true))
 (xB:∀w1,w.Extends w1->Calls Tryz.prog 22 #[v0] w1 λe w2=>w1.Extends w2/\e= .returned (.bool true)):
 Calls Tryz.prog 9 #[v0,.string (aG p),.agg #[.string (aG al),.string (aG p),.slice ap ki l4]] w λe w'=>w.Extends w'/\e= .returned (.tuple #[.agg #[.int .i64 0,.int .i64 0,.string ⟨#[]⟩,.slice none 0 0,.slice none 0 0],.int .i64 16]):=by
 have kY:=@Go.RowKit.run_makeMap Tryz.prog
 obtain⟨w1,w2,ia,nF,pF,hx2,hF2⟩:=IS w cG p p (.slice ap ki l4)
 obtain⟨d0,d1,d2,d3,_⟩:=hF2.cells
 have hg:(32:Int)<(ki:Int):=by omega
 go_enter Tryz.func9,Tryz.ntmps9
 go_wp2_with (first
  |(go_at_call 14;refine(oP _ (by assumption)).mono ?_;rintro e w3 ⟨hx3,rfl⟩;have rk:=hx2.trans hx3;have si:=hF2.ext hx3)
  |(go_at_call 22;refine(xB _ rk).mono ?_;rintro e w4 ⟨oR,rfl⟩;obtain⟨e0,e1,e2,e3,bA,c1,c2,c3,c4,f0,f1,f2,f3,f4⟩:=(si.ext oR).cells))
 all_goals
  exact bodyPost_ret (Fm rfl rfl (BV (si.ext oR).2.2 rfl _ _ _ _ _) rfl) rfl ⟨zS (rk.trans oR) (by omega) _ _ _ _ _,rfl⟩
end Go.bE
namespace Go.bE
open Go Go.ba Go.Proofs Go.RowKit
set_option maxHeartbeats 4000000 in
theorem aqN (x:ByteArray) (w:World):Calls Tryz.prog 25 #[.string x] w λe w'=>w.Extends w'/\e= .returned (.agg #[.int .i64 4,.int .i64 0,.string x,.slice none 0 0,.slice none 0 0]):=by
 go_enter Tryz.func25,Tryz.ntmps25
 go_wp2
 exact bodyPost_ret (results_cell_row (p:=2) (ty:=30) (by kernel_rfl) _ _ w.heap.size 30 _ (0,0) _ rfl (World.alloc_heap_new _ _) Tryz.underlying30 rfl (by kernel_rfl)) rfl ⟨(World.Extends.refl w).alloc _,rfl⟩
theorem aox {P:Program} {e:TypeId} (he:P.underlying e=some .string) {v:Value} {x:aq} {ps:List MemPlace} (h:plainElem (H:=Unit) P e v=some (.lit (.string x),ps)):v= .string (aG x):=by
 unfold plainElem at h
 rw[he]at h
 cases v<;>simp only[reduceCtorEq]at h
 rename_i b
 split at h
 ·simp only[Option.some.injEq,Prod.mk.injEq,DataW.lit.injEq,Lit.string.injEq]at h
  rw[<-h.1];cases b;simp[aG]
 ·cases h
def abH (b g:Nat) (w1 w2:World):Prop:=∀k,k<w1.heap.size->b<k->k≠g->w2.heap[k]?=w1.heap[k]?
theorem L5 {w:World} {g:Nat} {x0 x1 x2 x3 eP:Value} (h:w.heap[g]?=some (.cells #[x0,x1,x2,x3,eP] 30 (0,0))):w.cell? {block:=g,off:=0}=some x0/\w.cell? {block:=g,off:=1}=some x1/\w.cell? {block:=g,off:=2}=some x2/\w.cell? {block:=g,off:=3}=some x3/\w.cell? {block:=g,off:=4}=some eP/\
 w.frozen? {block:=g,off:=0}=false/\w.frozen? {block:=g,off:=1}=false/\w.frozen? {block:=g,off:=2}=false/\w.frozen? {block:=g,off:=3}=false/\w.frozen? {block:=g,off:=4}=false:=by
 simp[World.cell?,World.frozen?,h]
theorem BW (w:World) {g k:Nat} (hk:k≠g) (x0 x1 x2 x3 eP:Value):
 (((((w.setCell ⟨g,0,none⟩ x0).setCell ⟨g,1,none⟩ x1).setCell ⟨g,2,none⟩ x2).setCell ⟨g,3,none⟩ x3).setCell ⟨g,4,none⟩ eP).heap[k]?=w.heap[k]?:=by
 rw[Go.heap_setCell_other _ ⟨g,4,none⟩ k eP hk,Go.heap_setCell_other _ ⟨g,3,none⟩ k x3 hk,Go.heap_setCell_other _ ⟨g,2,none⟩ k x2 hk,Go.heap_setCell_other _ ⟨g,1,none⟩ k x1 hk,Go.heap_setCell_other _ ⟨g,0,none⟩ k x0 hk]
theorem nM.of {g:Nat} {s0 s1 s2 eO:Value} {w w':World} (h:nM g s0 s1 s2 eO w) (h0:w'.heap[g]?=w.heap[g]?) (h1:w'.heap[g+1]?=w.heap[g+1]?) (h2:w'.heap[g+1+1]?=w.heap[g+1+1]?):nM g s0 s1 s2 eO w':=⟨h0.trans h.1,h1.trans h.2.1,h2.trans h.2.2⟩
set_option maxHeartbeats 8000000 in
theorem akq {al:aq} {fv:Value} (v0:Value) (sp:Option Addr) (ad:Addr) (ki l4 XG:Nat) (p:aq) (s:Nat->aq) (De:aq->Option aq) (w:World) (cG:zl w.heap.size al fv) (hn:ki<=32) (xU:ki<=l4) (hsp:0<ki->sp=some ad)
 (oP:∀w1,w.Extends w1->Calls Tryz.prog 14 #[.string (aG p)] w1 λe w2=>w1.Extends w2/\e= .returned (.bool true))
 (xB:∀w1,w.Extends w1->Calls Tryz.prog 22 #[v0] w1 λe w2=>w1.Extends w2/\e= .returned (.bool true))
 (hIdx:∀w1,w.Extends w1->nM w.heap.size (.string (aG p)) (.string (aG al)) (.string (aG p)) (.slice sp ki l4) w1->Calls Tryz.prog 23 #[v0,fv] w1 λe w2=>w1.Extends w2/\∃B,e= .returned (.map (some B))/\w1.heap.size<=B/\gK Tryz.prog 9 (plainElem Tryz.prog 9) w2 B XG λx=>(De x).map λt=> .lit (.string t))
 (hs:∀w1,w.Extends w1->∀i,i<ki->w1.cell? (ad.add i)=some (.string (aG (s i)))) (n5:∀i,i<ki->(s i).length<=maxLen)
 (Rel:Nat->Nat->World->Value->Value->Prop)
 (afa:∀g w1,Rel 0 g w1 (.slice none 0 0) (.slice none 0 0))
 (M8:∀i g w1 w2 nm it,Rel i g w1 nm it->abH (w.heap.size+1+1) g w1 w2->Rel i g w2 nm it)
 (afe:∀i g w1 nm it,i<ki->De (s i)=none->Rel i g w1 nm it->Rel (i+1) g w1 nm it)
 (afg:∀i g w1 nm it t,i<ki->De (s i)=some t->w.Extends w1->g<w1.heap.size->w.heap.size+1+1<g->Rel i g w1 nm it->
   Calls Tryz.prog 24 #[.agg #[.int .i64 6,.int .i64 0,.string ⟨#[]⟩,nm,it],.string (aG (s i)),.agg #[.int .i64 4,.int .i64 0,.string (aG t),.slice none 0 0,.slice none 0 0]] w1 λe w2=>w1.Extends w2/\∃q1 n1 c1 q2 n2 c2,Rel (i+1) g w2 (.slice q1 n1 c1) (.slice q2 n2 c2)/\e= .returned (.tuple #[.agg #[.int .i64 6,.int .i64 0,.string ⟨#[]⟩,.slice q1 n1 c1,.slice q2 n2 c2],.int .i64 0])):
 Calls Tryz.prog 9 #[v0,.string (aG p),.agg #[.string (aG al),.string (aG p),.slice sp ki l4]] w λe w'=>w.Extends w'/\∃g nm it,Rel ki g w' nm it/\w.heap.size<=g/\e= .returned (.tuple #[.agg #[.int .i64 6,.int .i64 0,.string ⟨#[]⟩,nm,it],.int .i64 0])/\(∃q n c,nm= .slice q n c)/\∃q n c,it= .slice q n c:=by
 have kY:=@Go.RowKit.run_makeMap Tryz.prog
 obtain⟨w1,w2,ia,nF,pF,hx2,hF2⟩:=IS w cG p p (.slice sp ki l4)
 obtain⟨d0,d1,d2,d3,_⟩:=hF2.cells
 have hg:¬(32:Int)<(ki:Int):=by omega
 go_enter Tryz.func9,Tryz.ntmps9
 go_wp2_with (first
  |(go_at_call 14;refine(oP _ (by assumption)).mono ?_;rintro e w3 ⟨hx3,rfl⟩;have rk:=hx2.trans hx3;have si:=hF2.ext hx3)
  |(go_at_call 22;refine(xB _ rk).mono ?_;rintro e w4 ⟨oR,rfl⟩;have V8:=rk.trans oR;have MZ:=si.ext oR;obtain⟨e0,e1,e2,e3,_⟩:=MZ.cells)
  |(go_at_call 23;refine(hIdx _ V8 MZ).mono ?_;rintro e mX ⟨V9,B,rfl,hB,VK⟩;have Is:=V8.trans V9;have HO:=MZ.ext V9;have Ow:=(World.Extends.refl mX).alloc (.cells #[.int .i64 6,.int .i64 0,.string ⟨#[]⟩,.slice none 0 0,.slice none 0 0] 30);obtain⟨e7,k1,k2,k3,_⟩:=HO.cells;obtain⟨n0,n1,n2,n3,_⟩:=(HO.ext Ow).cells))
 have HM:w.heap.size+1+1<mX.heap.size:=(Array.getElem?_eq_some_iff.1 HO.2.2).1
 have DB:B<mX.heap.size:=VK.lt
 go_loopw [61] (λv wr=>∃k:Nat,k<=ki/\v= .int .i64 k/\w.Extends wr/\nM w.heap.size (.string (aG p)) (.string (aG al)) (.string (aG p)) (.slice sp ki l4) wr/\gK Tryz.prog 9 (plainElem Tryz.prog 9) wr B XG (λx=>(De x).map λt=> .lit (.string t))/\∃q1 n1 c1 q2 n2 c2,wr.heap[mX.heap.size]?=some (.cells #[.int .i64 6,.int .i64 0,.string ⟨#[]⟩,.slice q1 n1 c1,.slice q2 n2 c2] 30 (0,0))/\Rel k mX.heap.size wr (.slice q1 n1 c1) (.slice q2 n2 c2)) (λv _=>ki-(intOf v).toNat)
 case atStart=>exact⟨0,Nat.zero_le _,rfl,Is.alloc _,HO.ext Ow,VK.ext Ow,none,0,0,none,0,0,World.alloc_heap_new _ _,afa _ _⟩
 case round=>
  obtain⟨k,hk,rfl,hx,hF,hm,kL,mY,wB,FM,FN,FO,D2,hR⟩:=hrel
  obtain⟨q0,q1,q2,q3,bA,c1,c2,c3,c4,f0,f1,f2,f3,f4⟩:=hF.cells
  obtain⟨m0,fT,m2,m3,yr,axn,axo,axp,axq,axr⟩:=L5 D2
  by_cases mL:k<ki
  ·obtain rfl:=hsp (by omega)
   have hc:=hs _ hx k mL
   have hlk:=hm.look Tryz.underlying9 Tryz.underlying52 (z:= .string ⟨#[]⟩) rfl (n5 k mL)
   cases hf:De (s k)with
   |none=>
    have QL:=hlk.1 (by rw[hf];rfl)
    go_wp2
    go_roundw
    case rel=>exact⟨k+1,by omega,by go_num,hx,hF,hm,kL,mY,wB,FM,FN,FO,D2,afe _ _ _ _ _ mL hf hR⟩
    case measure=>simp[intOf];omega
   |some t=>
    obtain⟨v,ps,QL,hv⟩:=hlk.2 _ (by rw[hf];rfl)
    have:=aox Tryz.underlying9 hv
    subst this
    go_upto_region 17 with fail
    have vD:mX.heap.size<wr.heap.size:=(Array.getElem?_eq_some_iff.1 D2).1
    go_region_with (first
     |(go_at_call 25;refine(aqN _ _).mono ?_;rintro e QR ⟨aib,rfl⟩;have ED:wr.Extends QR:=(World.Extends.refl wr).drew.trans aib;have agT:QR.heap[mX.heap.size]?=_:=(ED.block _ vD).trans D2;obtain⟨l0,l1,l2,l3,axg,lf0,lf1,lf2,lf3,lf4⟩:=L5 agT)
     |(go_at_call 24;refine(afg k mX.heap.size _ _ _ t mL hf (hx.trans ED) (Nat.lt_of_lt_of_le vD ED.size) HM (M8 _ _ _ _ _ _ hR (λj hj _ _=>ED.block j hj))).mono ?_;rintro e Cd ⟨aic,ae,z2,z3,z4,z5,z6,nT,rfl⟩;have It:=ED.trans aic;have Vx:Cd.heap[mX.heap.size]?=_:=(It.block _ vD).trans D2;obtain⟨p0,p1,br,bT,dh,axJ,axK,axL,axM,axN⟩:=L5 Vx))
    all_goals
     have aid:=hx.trans It
     have r1:=zS (g:=mX.heap.size) aid Is.size (.int .i64 6) (.int .i64 0) (.string ⟨#[]⟩) (.slice ae z2 z3) (.slice z4 z5 z6)
     have r2:=(hF.ext It).of (BW Cd (g:=mX.heap.size) (by have:=Is.size;have:=HM;omega) (.int .i64 6) (.int .i64 0) (.string ⟨#[]⟩) (.slice ae z2 z3) (.slice z4 z5 z6)) (BW Cd (g:=mX.heap.size) (by have:=HM;omega) (.int .i64 6) (.int .i64 0) (.string ⟨#[]⟩) (.slice ae z2 z3) (.slice z4 z5 z6)) (BW Cd (g:=mX.heap.size) (by have:=HM;omega) (.int .i64 6) (.int .i64 0) (.string ⟨#[]⟩) (.slice ae z2 z3) (.slice z4 z5 z6))
     have r3:=(hm.ext It).blk (BW Cd (g:=mX.heap.size) (k:=B) (Nat.ne_of_lt DB) (.int .i64 6) (.int .i64 0) (.string ⟨#[]⟩) (.slice ae z2 z3) (.slice z4 z5 z6))
     have fL:=BV Vx rfl (.int .i64 6) (.int .i64 0) (.string ⟨#[]⟩) (.slice ae z2 z3) (.slice z4 z5 z6)
     have cS:=M8 _ _ _ _ _ _ nT (λj _ _ hj=>BW Cd hj (.int .i64 6) (.int .i64 0) (.string ⟨#[]⟩) (.slice ae z2 z3) (.slice z4 z5 z6))
     go_wp2
     go_roundw
     case rel=>exact⟨k+1,by omega,by go_num,r1,r2,r3,_,_,_,_,_,_,fL,cS⟩
     case measure=>simp[intOf];omega
  ·have:k=ki:=by omega
   subst this
   go_wp2
   all_goals
    refine bodyPost_ret (Fm rfl rfl (BV hF.2.2 rfl _ _ _ _ _) rfl) rfl ?_
    exact⟨zS hx (by omega) _ _ _ _ _,_,_,_,M8 _ _ _ _ _ _ hR (λj _ nW _=>BW _ (show j≠w.heap.size+1+1 by omega) _ _ _ _ _),Is.size,rfl,⟨_,_,_,rfl⟩,_,_,_,rfl⟩
end Go.bE
namespace Go.bE
open Go Go.ba Go.Proofs Go.RowKit
theorem ab6 (x y:aq):aG y++{data:=#[32]}++aG x=aG (y++[32]++x):=by
 apply ByteArray.ext;apply Array.ext';simp[aG]
set_option maxHeartbeats 4000000 in
theorem aqH (x y:aq) (w:World) (h:x.length+1+y.length<=1000000):Calls Tryz.prog 20 #[.agg #[.string (aG x),.string (aG y)]] w λe w'=>w.Extends w'/\e= .returned (.string (aG (y++[32]++x))):=by
 have h1:¬9223372036854775807<(aG y).size+1:=by rw[nQ];omega
 have h2:¬9223372036854775807<(aG y).size+1+(aG x).size:=by rw[nQ,nQ];omega
 go_enter Tryz.func20,Tryz.ntmps20
 go_wp2
 rw[ab6]
 go_ret
 exact⟨(World.Extends.refl w).alloc _,rfl⟩
end Go.bE
namespace Go.bE
open Go Go.ba Go.Proofs Go.RowKit
theorem yR {F F':Nat->Prop} {w w':World} {sh:List ay} {rows:List (List Int)} {v:Value} (h:gq F w sh rows v) (hf:Fr F w F' w'):gq F' w' sh rows v:=by
 rcases h with h|⟨g,o,cap,cells,t,fz,h1,h2,h3,h4,h5⟩
 ·exact .inl h
 ·obtain⟨k1,k2⟩:=hf g h3 _ h4
  exact .inr ⟨g,o,cap,cells,t,fz,h1,h2,k1,k2,h5.mono hf⟩
theorem Qs {F F':Nat->Prop} {w w':World} {sh:List ay} {rows:List (List Int)} {v:Value} (h:gq F w sh rows v) (hF:∀g,F g->F' g) (hx:w.Extends w'):gq F' w' sh rows v:=yR h (Fr.ext hF hx)
theorem Zd {F:Nat->Prop} {w:World} {sh:List ay} {rows:List (List Int)} {v:Value} (hp:iP sh=true) (h:gq F w sh rows v):∃(sp:Option Addr) (g o c:Nat),v= .slice sp rows.length c/\rows.length<=c/\(0<rows.length->sp=some ⟨g,o,none⟩)/\(∀row∈rows,bK sh row)/\∀w1,w.Extends w1->∀(i j:Nat) (row:List Int) (u:Value),rows[i]?=some row->(dm sh row)[j]?=some u->w1.cell? ⟨g,o+(i*sh.length+j),none⟩=some u:=by
 rcases h with⟨⟨p,rfl⟩,rfl⟩|⟨g,o,cap,cells,t,fz,h1,h2,h3,h4,h5⟩
 ·exact⟨p,0,0,0,rfl,Nat.le_refl _,by simp,by simp,by simp⟩
 ·obtain⟨hr,pre,post,k1,k2⟩:=(mA hp).1 h5
  refine⟨_,g,o,cap,h1,h2.1,λ_=>rfl,hr,λw1 hx i j row u hi hj=>?_⟩
  have hlt:=(Array.getElem?_eq_some_iff.1 h4).1
  have hu:=MF hr hi hj
  simp only[World.cell?,hx.block g hlt,h4,Option.isSome_none,Bool.false_eq_true,if_false]
  have:cells.toList[o+(i*sh.length+j)]?=some u:=by
   rw[k1,List.append_assoc,List.getElem?_append_right (by omega),k2,Nat.add_sub_cancel_left,List.getElem?_append_left (List.getElem?_eq_some_iff.1 hu).1]
   exact hu
  simpa using this
theorem ad8 {P:Program} {f:FuncId} {args:Array Value} {w:World} {val:Value} (he:(callFunc f args).run P w= .ok (.enter f args) w) (h:zn P f args w val):Calls P f args w λe w'=>e= .returned val/\w.Extends w':=by
 rcases h with h|⟨_,h⟩
 ·rw[he]at h;cases h
 ·exact h
theorem aoz {wb:World} (hp:bm wb ru) {c:Int} (h:0<=c/\c<=bp) {w:World} (hw:wb.Extends w):Calls Tryz.prog 14 #[.string (aG (U c))] w λe w2=>w.Extends w2/\e= .returned (.bool (hE (U c))):=by
 obtain⟨rs,h1,h2,h3⟩:=hp [c] ⟨h.1,h.2,trivial⟩
 match rs,h1 with
 |[r],h1=>
  have h2:r=aN (hE (U c)):=h2
  refine(ad8 (enters (by kernel_rfl) _ _) (h3 w hw)).mono ?_
  rintro e w2 ⟨he,hx⟩
  refine⟨hx,?_⟩
  rw[he]
  show Ending.returned (.bool (decide (r=1)))=_
  rw[h2,CK]
theorem apg {wb:World} (hr:fE wb vI) {F:Nat->Prop} {z:Int} (hz:0<=z/\z<=cc) {w:World} {v:Value} (hw:wb.Extends w) (h:gq F w [.str,.str,.str,.int .i64 (-9223372036854775808) 9223372036854775807] (ab z) v):Calls Tryz.prog 22 #[v] w λe w2=>w.Extends w2/\e= .returned (.bool (hX (bds z))):=by
 refine(hr.2 F w [v] [z] hw ⟨hz.1,hz.2,trivial⟩ trivial ⟨h,trivial⟩).mono ?_
 rintro e w2 ⟨hx,rs,us,hb,hs,ha,rfl⟩
 match rs,hb,us,ha with
 |[r],hb,[u],ha=>
  have hs:r=aN (hX (bds z)):=hs
  have ha:u= .bool (decide (r=1)):=ha.1
  subst ha
  refine⟨hx,?_⟩
  rw[hs,CK];rfl
def abz (w0:World) (l:List gA) (d:List aq) (nm:aq×aq->aq) (i g:Nat) (w:World) (By yi:Value):Prop:=∃a b:Int,(0<=a/\a<=cc)/\(0<=b/\b<=cc)/\l8 a b/\(ab a).length<=i/\(∀s,nh a b s=cond ((d.take i).contains s) (nG nm l s) none)/\gq (λh=>w0.heap.size+1+1<h/\h≠g) w [.str] (ab a) By/\gq (λh=>w0.heap.size+1+1<h/\h≠g) w [.int .i64 4 4,.int .i64 0 0,.str,.nil,.nil] (ab b) yi
theorem Ze {F:Nat->Prop} {w:World} {sh:List ay} {rows:List (List Int)} {v:Value} (h:gq F w sh rows v):∃q n c,v= .slice q n c:=by
 rcases h with⟨⟨p,h⟩,_⟩|⟨g,o,cap,cells,t,fz,h1,_⟩
 ·exact⟨_,_,_,h⟩
 ·exact⟨_,_,_,h1⟩
theorem Zs {d:List aq} {i:Nat} (hi:i<d.length) (s:aq):(d.take (i+1)).contains s=((d.take i).contains s||decide (s=d[i])):=by
 have e:d.take (i+1)=d.take i++[d[i]]:=by rw[List.take_add_one,List.getElem?_eq_getElem hi];rfl
 rw[e]
 generalize d.take i=x
 generalize d[i]=y
 rw[Bool.eq_iff_iff]
 simp
theorem Qj:U 0=[]:=dZ []
theorem S3:aG (U 0)=⟨#[]⟩:=by rw[Qj];rfl
theorem GL:0<=cc:=oF (l:=[]) (by simp) (by simp)
theorem aiz {e:Int} (h:0<=e/\e<=21):bd (cd AV.res) [0,0,0,0,0,e]:=⟨by decide,by decide,by decide,by decide,by decide,fZ,by decide,GL,by decide,GL,h.1,h.2,trivial⟩
theorem akm (l:List gA) (p q:aq) (d:List aq):0<=ny l p q d/\ny l p q d<=21:=by
 unfold ny
 cases(hE p&&hX l)<;>simp only[cond_true,cond_false]<;>try decide
 cases decide (q=p)<;>simp only[cond_true,cond_false]<;>try decide
 cases Nat.ble d.length 32<;>simp only[cond_true,cond_false]<;>decide
theorem O9 {nm:aq×aq->aq} {F:Nat->Prop} {w w':World} {z p q d e:Int} (hx:w.Extends w') (he:e=ny (bds z) (U p) (U q) (bD d)) (hne:e≠0):
 w.Extends w'/\∃rs us,bd (cd AV.res) rs/\tv nm (bds z) (U p) (U q) (bD d) (rs.getD 0 0) (rs.getD 1 0) (rs.getD 2 0) (rs.getD 3 0) (rs.getD 4 0) (rs.getD 5 0)/\rs.length=6/\gb (λg=>F g∨w.heap.size<=g) (λg=>w.heap.size<=g) w' AV.res rs us/\Ending.returned (.tuple #[.agg #[.int .i64 0,.int .i64 0,.string ⟨#[]⟩,.slice none 0 0,.slice none 0 0],.int .i64 e])= .returned (lh (kV zY.gr us)):=by
 refine⟨hx,[0,0,0,0,0,e],[.int .i64 0,.int .i64 0,.string (aG (U 0)),.slice none 0 0,.slice none 0 0,.int .i64 e],aiz (by rw[he];exact akm ..),?_,rfl,⟨rfl,rfl,rfl,.inl ⟨⟨none,rfl⟩,fA⟩,.inl ⟨⟨none,rfl⟩,fA⟩,rfl,trivial⟩,by rw[S3];rfl⟩
 show tv nm (bds z) (U p) (U q) (bD d) 0 0 0 0 0 e
 exact⟨he,rfl,Qj,λ_=>⟨rfl,fA,fA⟩,λh=>absurd h hne⟩
theorem apr {d:Int} (h:∀row∈ab d,bK [.str] row) {i:Nat} (hi:i<(ab d).length):∃x:Int,(ab d)[i]?=some [x]/\(0<=x/\x<=bp)/\(bD d).getD i []=U x:=by
 have hr:=h _ (List.getElem_mem hi)
 match hrow:(ab d)[i],hr with
 |[x],hr=>
  refine⟨x,by rw[List.getElem?_eq_getElem hi,hrow],hr.1,?_⟩
  unfold bD
  rw[List.getD_eq_getElem?_getD,List.getElem?_map,List.getElem?_eq_getElem hi,hrow]
  rfl
theorem apn {z:Int} (h:∀row∈ab z,bK [.str,.str,.str,.int .i64 (-9223372036854775808) 9223372036854775807] row) {i:Nat} (hi:i<(ab z).length):∃a b x t:Int,(ab z)[i]?=some [a,b,x,t]/\(bds z).getD i eS=((U a,U b),U x,t):=by
 have hr:=h _ (List.getElem_mem hi)
 match hrow:(ab z)[i],hr with
 |[a,b,x,t],hr=>
  refine⟨a,b,x,t,by rw[List.getElem?_eq_getElem hi,hrow],?_⟩
  unfold bds
  rw[List.getD_eq_getElem?_getD,List.getElem?_map,List.getElem?_eq_getElem hi,hrow]
  rfl
theorem Wr {F:Nat->Prop} {z:Int} {w:World} {v fv:Value} {nm:aq×aq->aq} (sx:∀b,ig b=true->(nm b.1).length<=maxLen)
 (ah7:∀(sp:Option Addr) (a:Addr) (c n:Nat) (row:Nat->aq×aq×aq×Int) (ys:Nat->aq) (fm:Nat->aq->Option oD),n<=1000->n<=c->(0<n->sp=some a)->(fm 0=λ_=>none)->(∀i,i<n->fm (i+1)=λx=>cond (decide (x=ys i)) (some (.lit (.string (row i).2.2.1))) (fm i x))->(∀w1,w.Extends w1->∀i,i<n->w1.cell? (a.add (i*4))=some (.string (aG (row i).1))/\w1.cell? {block:=(a.add (i*4)).block,off:=(a.add (i*4)).off+1}=some (.string (aG (row i).2.1))/\w1.cell? {block:=(a.add (i*4)).block,off:=(a.add (i*4)).off+2}=some (.string (aG (row i).2.2.1))/\w1.cell? {block:=(a.add (i*4)).block,off:=(a.add (i*4)).off+3}=some (.int .i64 (row i).2.2.2))->
   (∀i,i<n->(ys i).length<=maxLen/\(row i).2.2.1.length<=maxLen)->(∀i,i<n->ys i=nm ((row i).1,(row i).2.1)/\ig (((row i).1,(row i).2.1),(row i).2.2.1,(row i).2.2.2)=true)->
   Calls Tryz.prog 23 #[.slice sp n c,fv] w λe w'=>w.Extends w'/\∃B,e= .returned (.map (some B))/\w.heap.size<=B/\gK Tryz.prog 9 (plainElem Tryz.prog 9) w' B n (fm n))
 (h:gq F w [.str,.str,.str,.int .i64 (-9223372036854775808) 9223372036854775807] (ab z) v) (hr:hX (bds z)=true):
 Calls Tryz.prog 23 #[v,fv] w λe w2=>w.Extends w2/\∃B,e= .returned (.map (some B))/\w.heap.size<=B/\gK Tryz.prog 9 (plainElem Tryz.prog 9) w2 B (bds z).length λx=>(nG nm (bds z) x).map λt=> .lit (.string t):=by
 obtain⟨sp,g,o,c,rfl,hc,hsp,jd,hcell⟩:=Zd rfl h
 obtain⟨hl,aX⟩:=PY hr
 have hlen:(bds z).length=(ab z).length:=by simp[bds]
 have hb:∀i,i<(ab z).length->ig ((bds z).getD i eS)=true:=λi hi=>by
  rw[List.getD_eq_getElem?_getD,List.getElem?_eq_getElem (by omega)]
  exact aX _ (List.getElem_mem _)
 have hm:∀n,n<=maxLen↔n<=maxLen:=λ_=>Iff.rfl
 have e0:(λx=>(nG nm (bds z) x).map λt=>(DataW.lit (Lit.string t):oD))=λx=>(yU nm (bds z) (ab z).length x).map λt=> .lit (.string t):=by
  funext x;unfold yU;rw[List.take_of_length_le (by omega)]
 rw[hlen,e0]
 refine ah7 sp ⟨g,o,none⟩ c (ab z).length (λi=>(((bds z).getD i eS).1.1,((bds z).getD i eS).1.2,((bds z).getD i eS).2.1,((bds z).getD i eS).2.2)) (λi=>nm ((bds z).getD i eS).1) (λk x=>(yU nm (bds z) k x).map λt=> .lit (.string t)) (by omega) hc hsp ?_ ?_ ?_ ?_ ?_
 ·funext x;unfold yU nG;simp
 ·intro i hi
  funext x
  rw[atT (by omega)]
  have e:(bds z).getD i eS=(bds z)[i]'(by omega):=by rw[List.getD_eq_getElem?_getD,List.getElem?_eq_getElem (by omega)];rfl
  rw[e]
  cases decide (x=nm ((bds z)[i]'(by omega)).1)<;>rfl
 ·intro w1 hx i hi
  obtain⟨a,b,x,t,h1,h2⟩:=apn jd hi
  rw[h2]
  simp only[Addr.add_lit]
  exact⟨hcell w1 hx i 0 _ _ h1 rfl,hcell w1 hx i 1 _ _ h1 rfl,hcell w1 hx i 2 _ _ h1 rfl,hcell w1 hx i 3 _ _ h1 rfl⟩
 ·intro i hi
  obtain⟨h1,h2,h3,h4,h5,h6⟩:=vo (hb i hi)
  refine⟨?_,?_⟩
  ·exact sx _ (hb i hi)
  ·show(((bds z).getD i eS).2.1).length<=maxLen
   unfold maxLen;omega
 ·exactλi hi=>⟨rfl,hb i hi⟩
theorem air {F:Nat->Prop} {z:Int} {w:World} {v:Value} (h:gq F w [.str,.str,.str,.int .i64 (-9223372036854775808) 9223372036854775807] (ab z) v) (hr:hX (bds z)=true):
 Calls Tryz.prog 23 #[v,.func (.func 20) #[] #[]] w λe w2=>w.Extends w2/\∃B,e= .returned (.map (some B))/\w.heap.size<=B/\gK Tryz.prog 9 (plainElem Tryz.prog 9) w2 B (bds z).length λx=>(nG qp (bds z) x).map λt=> .lit (.string t):=by
 refine Wr (nm:=qp) (λb hb=>?_) (λsp a c n row ys fm h1 h2 h3 h4 h5 h6 h7 h8=>ais sp a c n row ys fm w h1 h2 h3 h4 h5 h6 h7 λw1 hx i hi=>?_) h hr
 ·obtain⟨h1,h2,h3,h4,h5,h6⟩:=vo hb
  unfold qp maxLen;simp only[List.length_append,List.length_cons,List.length_nil];omega
 ·obtain⟨g1,g2⟩:=h8 i hi
  obtain⟨k1,k2,k3,k4,nw,mh⟩:=vo g2
  rw[g1]
  exact aqH _ _ w1 (by have k2:(row i).1.length<=6:=k2;have k3:(row i).2.1.length<=254:=k3;omega)
theorem Xk {wb:World} (Ek:bm wb ru) (Em:fE wb vI) (EB:kv wb Dp) {al:aq} {nm:aq×aq->aq} {F:Nat->Prop} {w:World} {fv:Value} {z p q d:Int} {v0 v4:Value} (hw:wb.Extends w) (hz:0<=z/\z<=cc) (qa:0<=p) (pr:p<=bp)
 (h0:gq F w [.str,.str,.str,.int .i64 (-9223372036854775808) 9223372036854775807] (ab z) v0) (h4:gq F w [.str] (ab d) v4) (cG:zl w.heap.size al fv) (agi:∀b,ig b=true->gV (nm b.1))
 (agY:∀w1,w.Extends w1->w1.cell? ⟨w.heap.size,0,none⟩=some (.string (aG (U p)))->hE (U p)=true->hX (bds z)=true->Calls Tryz.prog 23 #[v0,fv] w1 λe w2=>w1.Extends w2/\∃B,e= .returned (.map (some B))/\w1.heap.size<=B/\gK Tryz.prog 9 (plainElem Tryz.prog 9) w2 B (bds z).length λx=>(nG nm (bds z) x).map λt=> .lit (.string t)):
 Calls Tryz.prog 9 #[v0,.string (aG (U p)),.agg #[.string (aG al),.string (aG (U q)),v4]] w λe w'=>w.Extends w'/\∃rs us,bd (cd AV.res) rs/\tv nm (bds z) (U p) (U q) (bD d) (rs.getD 0 0) (rs.getD 1 0) (rs.getD 2 0) (rs.getD 3 0) (rs.getD 4 0) (rs.getD 5 0)/\rs.length=6/\gb (λg=>F g∨w.heap.size<=g) (λg=>w.heap.size<=g) w' AV.res rs us/\e= .returned (lh (kV zY.gr us)):=by
 skip
 ·skip
  obtain⟨hz0,hz1⟩:=hz
  have oP:∀w1,w.Extends w1->Calls Tryz.prog 14 #[.string (aG (U p))] w1 λe w2=>w1.Extends w2/\e= .returned (.bool (hE (U p))):=λw1 hx=>aoz Ek ⟨qa,pr⟩ (hw.trans hx)
  have DH:∀w1,w.Extends w1->Calls Tryz.prog 22 #[v0] w1 λe w2=>w1.Extends w2/\e= .returned (.bool (hX (bds z))):=λw1 hx=>apg Em ⟨hz0,hz1⟩ (hw.trans hx) (Qs h0 (λ_ h=>h) hx)
  have Ny:(bD d).length=(ab d).length:=by simp[bD]
  cases hb:(hE (U p)&&hX (bds z))with
  |false=>
   have he:ny (bds z) (U p) (U q) (bD d)=1:=by unfold ny;rw[hb];rfl
   refine(akn v0 v4 (U p) (U q) w cG _ _ hb oP DH).mono ?_
   rintro e w' ⟨hx,rfl⟩
   exact O9 hx he.symm (by decide)
  |true=>
   simp only[Bool.and_eq_true]at hb
   rw[hb.1]at oP
   rw[hb.2]at DH
   by_cases El:U q=U p
   ·obtain⟨sp,g,o,c,rfl,hc,hsp,jd,hcell⟩:=Zd rfl h4
    rw[show(Value.string (aG (U q)))= .string (aG (U p)) by rw[El]]
    by_cases hn:32<(ab d).length
    ·have he:ny (bds z) (U p) (U q) (bD d)=16:=by
      unfold ny;rw[hb.1,hb.2,El]
      have:Nat.ble (bD d).length 32=false:=by rw[Ny];cases h:Nat.ble (ab d).length 32;rfl;exact absurd (Nat.le_of_ble_eq_true h) (by omega)
      rw[this];simp
     refine(ako v0 sp (ab d).length c (U p) w cG hn oP DH).mono ?_
     rintro e w' ⟨hx,rfl⟩
     exact O9 hx he.symm (by decide)
    ·have he:ny (bds z) (U p) (U q) (bD d)=0:=by
      unfold ny;rw[hb.1,hb.2,El]
      have:Nat.ble (bD d).length 32=true:=Nat.ble_eq_true_of_le (by rw[Ny];omega)
      rw[this];simp
     obtain⟨aha,aX⟩:=PY hb.2
     have Et:∀i,i<(ab d).length->∃x:Int,(ab d)[i]?=some [x]/\(0<=x/\x<=bp)/\(bD d).getD i []=U x:=λi hi=>apr jd hi
     have po:∀i (hi:i<(ab d).length),(bD d).getD i []=(bD d)[i]'(by omega):=λi hi=>by rw[List.getD_eq_getElem?_getD,List.getElem?_eq_getElem (by omega)];rfl
     refine(akq v0 sp ⟨g,o,none⟩ (ab d).length c (bds z).length (U p) (λi=>(bD d).getD i []) (nG nm (bds z)) w cG (by omega) hc hsp oP DH (λw1 hx hF=>agY w1 hx hF.cells.1 hb.1 hb.2) ?_ ?_ (abz w (bds z) (bD d) nm) ?_ ?_ ?_ ?_).mono ?_
     ·intro w1 hx i hi
      obtain⟨x,k1,k2,k3⟩:=Et i hi
      have this:w1.cell? ⟨g,o+(i*1+0),none⟩=some (.string (aG (U x))):=hcell w1 hx i 0 _ _ k1 rfl
      rw[Nat.mul_one,Nat.add_zero]at this
      rw[k3,Addr.add_lit]
      exact this
     ·intro i hi
      obtain⟨x,k1,k2,k3⟩:=Et i hi
      have h5:=rW k2.2
      show((bD d).getD i []).length<=maxLen
      rw[k3]
      unfold eN at h5;unfold maxLen;omega
     ·intro g1 w1
      refine⟨0,0,⟨by decide,GL⟩,⟨by decide,GL⟩,?_,by rw[fA];simp,?_,.inl ⟨⟨none,rfl⟩,fA⟩,.inl ⟨⟨none,rfl⟩,fA⟩⟩
      ·unfold l8;rw[fA];simp
      ·intro s;unfold nh nt bD gw;rw[fA];simp
     ·rintro i g1 w1 w2 By yi ⟨a,b,ha,hb',hf,hl,hg,s1,s2⟩ vG
      have D1:Fr (λh=>w.heap.size+1+1<h/\h≠g1) w1 (λh=>w.heap.size+1+1<h/\h≠g1) w2:=λk hk o ho=>⟨hk,by rw[vG k (Array.getElem?_eq_some_iff.1 ho).1 hk.1 hk.2];exact ho⟩
      exact⟨a,b,ha,hb',hf,hl,hg,yR s1 D1,yR s2 D1⟩
     ·rintro i g1 w1 By yi hi hnone ⟨a,b,ha,hb',hf,hl,hg,s1,s2⟩
      refine⟨a,b,ha,hb',hf,by omega,λs=>?_,s1,s2⟩
      rw[hg s,Zs (by omega) s]
      by_cases hs:s=(bD d)[i]'(by omega)
      ·have:nG nm (bds z) s=none:=by rw[hs,<-po i hi];exact hnone
       rw[this]
       cases(List.take i (bD d)).contains s<;>cases decide (s=(bD d)[i]'(by omega))<;>rfl
      ·rw[decide_eq_false hs,Bool.or_false]
     ·rintro i g1 w1 By yi t hi hsome hx hg1 hg0 ⟨a,b,ha,hb',hf,hl,hg,s1,s2⟩
      obtain⟨x,k1,k2,k3⟩:=Et i hi
      obtain⟨G7,Vd,hb1,hb2⟩:=ZM hsome
      obtain⟨-,a2,a3,a4,a5,abL⟩:=vo (aX G7 Vd)
      have a1:=agi G7 (aX G7 Vd)
      have hb1:nm G7.1=(bD d).getD i []:=hb1
      rw[hb1,k3]at a1
      rw[hb2]at a4 a5 abL
      have Ol:t.length<=eN:=by unfold eN;omega
      have hst:U (cZ t)=t:=dZ t
      have nU:=EB.2 (λh=>w.heap.size+1+1<h/\h≠g1) w1 [.int .i64 6,.int .i64 0,.string ⟨#[]⟩,By,yi,.string (aG (U x)),.agg #[.int .i64 4,.int .i64 0,.string (aG (U (cZ t))),.slice none 0 0,.slice none 0 0]] [a,b,x,4,0,cZ t,0,0] (hw.trans hx) ⟨ha.1,ha.2,hb'.1,hb'.2,k2.1,k2.2,by decide,by decide,by decide,by decide,nR _,my Ol,by decide,by decide,by decide,by decide,trivial⟩ (show l8 a b/\ky x/\ky (cZ t) from⟨hf,a1,by unfold ky;rw[hst];exact a4⟩) ⟨rfl,rfl,rfl,s1,s2,rfl,rfl,trivial⟩
      rw[hst]at nU
      show Calls Tryz.prog 24 #[_,.string (aG ((bD d).getD i [])),_] w1 _
      rw[k3]
      refine nU.mono ?_
      rintro e w2 ⟨hx2,rs,us,qV,hs,Np,rfl⟩
      match rs,qV,us,Np with
      |[k,n,tt,a',b',e],qV,[u0,ia,nF,pF,u4,QK],Np=>
       have hs:e=0/\k=6/\n=0/\U tt=[]/\vf a b x [4,0,cZ t,0,0] a' b':=hs
       obtain⟨rfl,rfl,rfl,Ew,hput⟩:=hs
       obtain⟨-,-,-,-,-,-,b0,b1,b2,b3,-,-,-⟩:=qV
       obtain⟨v0,v1,v2,v3,v4,v5,-⟩:=Np
       have v0:u0= .int .i64 6:=v0
       have v1:ia= .int .i64 0:=v1
       have v2:nF= .string (aG (U tt)):=v2
       have v3:gq (λg=>(w.heap.size+1+1<g/\g≠g1)∨w1.heap.size<=g) w2 [.str] (ab a') pF:=v3
       have v4:gq (λg=>(w.heap.size+1+1<g/\g≠g1)∨w1.heap.size<=g) w2 [.int .i64 4 4,.int .i64 0 0,.str,.nil,.nil] (ab b') u4:=v4
       have v5:QK= .int .i64 0:=v5
       subst v0 v1 v2 v5
       obtain⟨q1,n1,c1,rfl⟩:=Ze v3
       obtain⟨q2,n2,c2,rfl⟩:=Ze v4
       obtain⟨p1,br,bT⟩:=aoK hf hput a1 (by unfold ky;rw[hst];exact a4) (by omega)
       have UN:∀h,((w.heap.size+1+1<h/\h≠g1)∨w1.heap.size<=h)->(w.heap.size+1+1<h/\h≠g1):=λh ah=>by omega
       refine⟨hx2,q1,n1,c1,q2,n2,c2,⟨a',b',⟨b0,b1⟩,⟨b2,b3⟩,p1,by omega,λs=>?_,yR v3 (Fr.of w2 UN),yR v4 (Fr.of w2 UN)⟩,by rw[Ew];rfl⟩
       rw[bT s,hg s,Zs (by omega) s,<-po i hi,k3]
       by_cases hs:s=U x
       ·have:nG nm (bds z) s=some t:=by rw[hs,<-k3];exact hsome
        rw[this,hst,decide_eq_true hs,Bool.or_true];rfl
       ·rw[decide_eq_false hs,Bool.or_false];rfl
     ·rintro e w' ⟨hx,g1,By,yi,⟨a,b,ha,hb',hf,hl,hg,s1,s2⟩,hg1,rfl,⟨q1,n1,c1,rfl⟩,q2,n2,c2,rfl⟩
      refine⟨hx,[6,0,0,a,b,0],[.int .i64 6,.int .i64 0,.string (aG (U 0)),.slice q1 n1 c1,.slice q2 n2 c2,.int .i64 0],⟨by decide,by decide,by decide,by decide,by decide,fZ,ha.1,ha.2,hb'.1,hb'.2,by decide,by decide,trivial⟩,?_,rfl,⟨rfl,rfl,rfl,yR s1 (Fr.of w' λh ah=> .inr (by omega)),yR s2 (Fr.of w' λh ah=> .inr (by omega)),rfl,trivial⟩,by rw[S3];rfl⟩
      show tv nm (bds z) (U p) (U q) (bD d) 6 0 0 a b 0
      refine⟨he.symm,rfl,Qj,λh=>absurd rfl h,λ_=>⟨rfl,hf,λs=>?_⟩⟩
      rw[hg s,List.take_of_length_le (by omega)]
   ·have he:ny (bds z) (U p) (U q) (bD d)=15:=by
     unfold ny;rw[hb.1,hb.2,decide_eq_false El];rfl
    refine(akp v0 v4 (U p) (U q) w cG El oP DH).mono ?_
    rintro e w' ⟨hx,rfl⟩
    exact O9 hx he.symm (by decide)
theorem amd {wb:World} (Ek:bm wb ru) (Em:fE wb vI) (EB:kv wb Dp):kv wb zY:=by
 refine⟨λargs w=>enters (by kernel_rfl) _ _,λF w vs zs hw hz gD hat=>?_⟩
 match zs,hz,vs,hat with
 |[z,p,q,d],hz,[v0,v1,v2,v3,v4],hat=>
  obtain⟨h0,h1,h2,h3,h4,_⟩:=hat
  have h1:v1= .string (aG (U p)):=h1
  have h2:v2= .string (aG JJ):=h2
  have h3:v3= .string (aG (U q)):=h3
  subst h1 h2 h3
  obtain⟨hz0,hz1,qa,pr,_⟩:=hz
  refine(Xk Ek Em EB (nm:=qp) (q:=q) hw ⟨hz0,hz1⟩ qa pr h0 h4 (.inl ⟨rfl,rfl⟩) (λb hb=>(vo hb).1) λw1 hx _ _ hr=>air (Qs h0 (λ_ h=>h) hx) hr).mono ?_
  rintro e w' ⟨hx,rs,us,h5,h6,h7,h8,a8⟩
  match rs,h7 with
  |[k,n,t,a,b,e],_=>exact⟨hx,[k,n,t,a,b,e],us,h5,h6,h8,a8⟩
end Go.bE
namespace Go.bE
open Go Go.ba Go.Proofs Go.RowKit
theorem Tt {w w':World} (he:w.Extends w') {a:Addr} {v:Value} (h:w.cell? a=some v):w'.cell? a=some v:=by
 have hl:a.block<w.heap.size:=by
  rcases Nat.lt_or_ge a.block w.heap.size with h'|h'
  ·exact h'
  ·simp[World.cell?,Array.getElem?_eq_none h']at h
 rw[World.cell?_of_block (he.block _ hl)];exact h
theorem Pe (n:Nat):kh n<128:=by
 unfold kh
 by_cases h:n<64
 ·have:∀m:Fin 64,w5.getD m.val 0<128:=by decide+kernel
  exact this ⟨n,h⟩
 ·rw[List.getD_eq_getElem?_getD,List.getElem?_eq_none (by show 64<=n;omega)];decide
theorem Yc:∀l:aq,gV (eU l)
 |[]=>λb hb=>by cases hb
 |[a]=>λb hb=>by
  simp only[eU,List.mem_cons,List.not_mem_nil,or_false]at hb
  rcases hb with rfl|rfl<;>exact Pe _
 |[a,b]=>λx hb=>by
  simp only[eU,List.mem_cons,List.not_mem_nil,or_false]at hb
  rcases hb with rfl|rfl|rfl<;>exact Pe _
 |a::b::c::r=>λx hb=>by
  simp only[eU,List.mem_cons]at hb
  rcases hb with rfl|rfl|rfl|rfl|hb<;>first|exact Pe _|exact Yc r x hb
theorem agj (p:aq) (w:aq×aq):gV (nj p w):=Yc _
theorem agk {wb:World} (ah:fE wb rr) {p:Int} (hp:0<=p/\p<=bp) (sz:(U p).length<=64) {x y:aq} (hx:x.length<=6) (hy:y.length<=254) {w:World} (hw:wb.Extends w):Calls Tryz.prog 15 #[.string (aG (U p)),.agg #[.string (aG x),.string (aG y)]] w λe w2=>w.Extends w2/\e= .returned (.string (aG (nj (U p) (x,y)))):=by
 have ex:U (cZ x)=x:=dZ x
 have Dd:U (cZ y)=y:=dZ y
 have xb:cZ x<=bp:=my (by unfold eN;omega)
 have Hc:cZ y<=bp:=my (by unfold eN;omega)
 refine(ah.2 (λ_=>False) w [.string (aG (U p)),.agg #[.string (aG x),.string (aG y)]] [p,cZ x,cZ y] hw ⟨hp.1,hp.2,nR _,xb,nR _,Hc,trivial⟩ (λz hz=>?_) ⟨rfl,?_,trivial⟩).mono ?_
 ·simp only[List.mem_cons,List.not_mem_nil,or_false]at hz
  rcases hz with rfl|rfl|rfl
  ·omega
  ·rw[ex];omega
  ·rw[Dd];omega
 ·show Value.agg #[.string (aG x),.string (aG y)]= .agg #[.string (aG (U (cZ x))),.string (aG (U (cZ y)))]
  rw[ex,Dd]
 ·rintro e w2 ⟨hx2,rs,us,hb,hs,ha,rfl⟩
  match rs,hb,us,ha with
  |[r],hb,[u],ha=>
   have hs:U r=nj (U p) (U (cZ x),U (cZ y)):=hs
   have ha:u= .string (aG (U r)):=ha.1
   subst ha
   refine⟨hx2,?_⟩
   rw[hs,ex,Dd];rfl
set_option maxHeartbeats 4000000 in
theorem ac3 {w:World} {g0:Nat} {p x y t:aq} (hg:w.cell? ⟨g0,0,none⟩=some (.string (aG p)))
 (hc:∀w1,w.Extends w1->Calls Tryz.prog 15 #[.string (aG p),.agg #[.string (aG x),.string (aG y)]] w1 λe w2=>w1.Extends w2/\e= .returned (.string (aG t))):
 Calls Tryz.prog 21 #[.agg #[.string (aG x),.string (aG y)],.pointer (some ⟨g0,0,none⟩)] w λe w'=>w.Extends w'/\e= .returned (.string (aG t)):=by
 have Av:=Tt (w':=w.alloc (.cells #[.string (aG x),.string (aG y)] 39)) ((World.Extends.refl w).alloc _) hg
 go_enter Tryz.func21,Tryz.ntmps21
 go_wp2_with (go_at_call 15;refine(hc _ ((World.Extends.refl w).alloc _)).mono ?_;rintro e w2 ⟨hx2,rfl⟩)
 go_ret
 exact⟨((World.Extends.refl w).alloc _).trans hx2,rfl⟩
theorem ame {wb:World} (Ek:bm wb ru) (Em:fE wb vI) (EB:kv wb Dp) (ah:fE wb rr):kv wb Dq:=by
 refine⟨λargs w=>enters (by kernel_rfl) _ _,λF w vs zs hw hz gD hat=>?_⟩
 match zs,hz,vs,hat with
 |[z,p,q,d],hz,[v0,v1,v2,v3,v4],hat=>
  obtain⟨h0,h1,h2,h3,h4,_⟩:=hat
  have h1:v1= .string (aG (U p)):=h1
  have h2:v2= .string (aG JK):=h2
  have h3:v3= .string (aG (U q)):=h3
  subst h1 h2 h3
  obtain⟨hz0,hz1,qa,pr,_⟩:=hz
  refine(Xk Ek Em EB (nm:=nj (U p)) (q:=q) hw ⟨hz0,hz1⟩ qa pr h0 h4 (.inr ⟨rfl,rfl⟩) (λb hb=>agj _ _) λw1 hx hg ahQ hr=>?_).mono ?_
  ·have hl:=Y4 ahQ
   refine Wr (nm:=nj (U p)) (λb hb=>by rw[U8];decide) (λsp a c n row ys fm g1 g2 g3 g4 g5 g6 g7 g8=>ait w.heap.size sp a c n row ys fm w1 g1 g2 g3 g4 g5 g6 g7 λw2 hx2 i hi=>?_) (Qs h0 (λ_ h=>h) hx) hr
   obtain⟨e1,e2⟩:=g8 i hi
   obtain⟨-,k2,k3,-,-,-⟩:=vo e2
   rw[e1]
   exact ac3 (Tt hx2 hg) λw3 hx3=>agk ah ⟨qa,pr⟩ hl k2 k3 (((hw.trans hx).trans hx2).trans hx3)
  ·rintro e w' ⟨hx,rs,us,h5,h6,h7,h8,a8⟩
   match rs,h7 with
   |[k,n,t,a,b,e],_=>exact⟨hx,[k,n,t,a,b,e],us,h5,h6,h8,a8⟩
end Go.bE
namespace Go.Proofs.YtiljgcomigmidaaGreatDoor
open Go Go.ba Go.bE Go.ChangeShapes Go.RowKit
theorem own:ownKnob Tryz.prog.godebug=none:=by kernel_rfl
theorem aki:laidOutB Tryz.prog=true:=by kernel_rfl
def laid:List (String×DataW Unit):=[("unicode/utf8.acceptRanges",Rows.laid_unicode_utf8_acceptRanges),("vouchsafe/sha.roots",Rows.laid_vouchsafe_sha_roots),("vouchsafe/sha.begins",Rows.laid_vouchsafe_sha_begins),("unicode/utf8.first",Rows.laid_unicode_utf8_first)]
theorem Uy:Tryz.prog.globalNamed "vouchsafe/sha.roots" =some 0:=by kernel_rfl
theorem aqA:(Tryz.prog.globals[0]?).map (·.type)=some 80:=by kernel_rfl
theorem arp:Tryz.prog.underlying 80=some (.array 80 79):=by kernel_rfl
theorem adA:Tryz.prog.underlying 79=some (.int .u64):=by kernel_rfl
theorem acQ:Tryz.prog.cellsOf 79=1:=by kernel_rfl
theorem acF:Tryz.prog.cellsOf 80=80:=by kernel_rfl
theorem ajq:(Rows.laid_vouchsafe_sha_roots:DataW Unit)= .agg (BS.map λz=> .lit (.int .u64 z)):=by kernel_rfl
theorem Uz:Tryz.prog.globalNamed "vouchsafe/sha.begins" =some 1:=by kernel_rfl
theorem aqB:(Tryz.prog.globals[1]?).map (·.type)=some 88:=by kernel_rfl
theorem arq:Tryz.prog.underlying 88=some (.array 8 79):=by kernel_rfl
theorem adB:Tryz.prog.underlying 79=some (.int .u64):=by kernel_rfl
theorem acR:Tryz.prog.cellsOf 79=1:=by kernel_rfl
theorem acG:Tryz.prog.cellsOf 88=8:=by kernel_rfl
theorem ajr:(Rows.laid_vouchsafe_sha_begins:DataW Unit)= .agg (G2.map λz=> .lit (.int .u64 z)):=by kernel_rfl
theorem UG {W:ai} (h:laidMetH Tryz.prog laid W):eL cg ⟨W,W,λ_=>False,λ_=>False,[]⟩:=by
 rw[ay4 _ _ _ (by kernel_rfl)]at h;obtain⟨ps,⟨_,_,_,_,_,_,_,_,_,_,⟨a0,b0,TF,f0,p0,q0,hg0,ri,hv0,p8,⟨a1,b1,awb,f1,p1,q1,hg1,ahV,pw,xE,⟨_,_,_,_,_,_,_,_,_,_,_,_⟩,_⟩,_⟩,_⟩,_,_⟩:=h;obtain rfl:=gH (Uy.symm.trans hg0);obtain rfl:=gH (aqA.symm.trans ri);rw[ajq]at p8;have x0:=UF (zs:=BS) Uy arp adA acQ acF hv0 p8;obtain rfl:=gH (Uz.symm.trans hg1);obtain rfl:=gH (aqB.symm.trans ahV);rw[ajr]at xE;have x1:=UF (zs:=G2) Uz arq adB acR acG pw xE;intro g cs hm;simp only[cg,List.mem_cons,ct,List.not_mem_nil,or_false]at hm;rcases hm with⟨rfl,rfl⟩|⟨rfl,rfl⟩
 ·rw[kN];exact x0
 ·rw[kN];exact x1
theorem ajt:(laid.filter λx=>x.2.handleName?.isNone)=laid:=by kernel_rfl
theorem ado (os:Os) (args:Array az):laidMetH Tryz.prog laid ((World.laidAll Tryz.prog os laid).forCall (λ_ _=>0) ⟨#[],args,[]⟩).memory:=
 laidMetH_of_parts3 (fuel:=8) (by rw[ajt];exact laidMet_laidAll args (by kernel_rfl) (by kernel_rfl)) (by kernel_rfl) (by kernel_rfl)
theorem aqX:Gv Tryz.prog 22 (.rd [.str,.str,.str,.int .i64 (-9223372036854775808) 9223372036854775807]):=⟨41,Tryz.underlying22,by kernel_rfl,by kernel_rfl,by decide⟩
theorem Zz:Gv Tryz.prog 9 (.d (.str)):=Tryz.underlying9
theorem cell0 {W:ai} (h:W.ShapedOpen Tryz.prog):∃m,W.cell? ⟨6,0,none⟩=some (.int .i64 m):=
 cell_of_shapedOpen_int (zero:=#[.int .i64 0]) (t:=3) h (of_decide_eq_true (by kernel_rfl)) (by kernel_rfl) rfl (by kernel_rfl) (by kernel_rfl) Tryz.underlying3
theorem agH {W:ai} {m:Int} (h:W.cell? ⟨6,0,none⟩=some (.int .i64 m)):6<W.heap.size:=by
 rcases Nat.lt_or_ge 6 W.heap.size with h0|h0
 ·exact h0
 ·have:W.heap[(6:Nat)]?=none:=Array.getElem?_eq_none h0;simp[World.cell?,this]at h
theorem amZ {id:Nat} (hid:id=686) (a:List (List Int)) (z:Int) (h:SB id a [[z]]):z=1:=by
 subst hid
 all_goals
  match a,h with
  |[],h=>first|exact h|exact h.elim
  |[_],h=>first|exact h|exact h.elim
  |[_,_],h=>first|exact h|exact h.elim
  |[_,_,_],h=>first|exact h|exact h.elim
  |_::_::_::_::_,h=>exact h.elim
structure aa6 (W:ai):Prop where
 O7:fE W yk
 ES:fE W rr
 OW:kv W Dq
 ID:kv W xn
 QV:fE W ym
 EX:bm W ru
theorem abT {W:ai} (h:W.ShapedOpen Tryz.prog) (bW:laidMetH Tryz.prog laid W):aa6 W:=by
 have hg:=UG bW;obtain⟨m,hm⟩:=cell0 h;have yf:bm W nx:=al2;have Zu:=amO hg;have Zx:=amQ hg;have aqS:=amR hg Zu Zx;have aqG:=amM hg Zu Zx;have acP:=alK hg yf;have aqF:=amL hg;have ade:=alQ hg yf;have TG:=alR hg yf;have am1:=amm hg yf;have OH:=al4 hg yf;have akx:=amj hg;have apj:=amx hg;have apd:=ams hg;have Tr:ve W BK:=alJ ⟨m,hm⟩ (agH hm);have aqI:=amN hg;have aqE:=amK hg;have ahz:=al1 hg Tr aqI aqF OH;have Y6:=amD hg TG ahz aqE OH;have akk:=ami hg Tr am1 aqG;have api:=amw hg;have Zh:=amF hg;have aej:=al0 hg;have Ml:=alT hg;have Yr:=amt hg Zh aej Ml;have ao1:=amq hg;have apx:=amz hg ao1;have ao6:=amr hg api Yr apd apj;have ac7:bm W IG:=alN;have ab9:bm W IF:=alG;have aqQ:=amP hg;have adI:=alU hg aqS ade akk acP Y6 akx yf;have aoA:=amo hg ac7 ab9 aqQ;have ak4:=aml hg aoA adI;have apk:=amy hg apx ao6;have ape:=amu hg ak4;have apy:=amA hg apk;have ajI:=amf hg;have aph:=amv hg;have aqT:=amS hg;have TA:=alM hg;have apz:=amB hg TA Yr Ml;have aov:=amn hg TA apz;have apH:=amC hg aov Zh Ml;have asF:=amT hg TG aqT OH Y6;have acs:=alI hg ape asF;have ace:=alH hg ajI;have S4:=alF hg acs ace;have at0:=amX hg apy apH;have QV:=amW hg at0 aph;have aoE:=amp hg;have ada:=alP hg yf;have EX:=amk hg aoE ada;have QO:=amU hg;have aiQ:=al6 hg QO;have aiP:=al7 hg QO;have aiR:=al9 hg;have aqm:GG W ef:=amI;have aiV:GG W ee:=amb;have ac9:=alO hg;have adf:=alS hg;have aiU:=ama hg aiR ac9 adf aqm aiV;have WM:=al8 hg QO aiQ aiP aiU;have ID:=al5 hg;have ap9:=amG hg;have ad9:=alV hg;have aea:=alW hg;have aeb:=alX hg;have aec:=alY hg;have aqa:=amH hg ap9;have aeh:=alZ hg;have ac0:=alL hg;have abR:=alE hg aeh ad9 aea aeb aec ac0;have ap2:=amE hg;have aqx:=amJ hg aqa ap2 abR;have aiu:fE W IH:=al3;have ES:=amc hg aiu aqx;have ajp:kv W zY:=amd EX S4 WM;have OW:kv W Dq:=ame EX S4 WM ES;have O7:=amh hg ES ajp ID;exact⟨O7,ES,OW,ID,QV,EX⟩
end Go.Proofs.YtiljgcomigmidaaGreatDoor
