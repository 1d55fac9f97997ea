/- Pag: a part of the proof of statements of this seat. -/
import Derived.Test.YtiljgcomigmidaaGreatDoorPae
import Derived.Test.YtiljgcomigmidaaGreatDoorChunkP
import Derived.Test.YtiljgcomigmidaaGreatDoorPac
import Derived.KernelRfl
import Derived.Shelf.Lay
import Derived.Shelf.LaySoft
import Derived.Shelf.Strings.Search1
import Derived.Shelf.Strings.Search3
import Derived.Shelf.Small.Strs
import Derived.Test.YtiljgcomigmidaaGreatDoorProg
import Derived.BigCall
import Derived.Lib.IndexMore
import Derived.Shelf.Strings.Builder1
import Derived.Test.YtiljgcomigmidaaGreatDoorPad
import Derived.WalkKit
import Derived.Deep.RegionLaw
import Derived.OwnWalk
import Derived.Laws.CopyOwn
import Derived.Lib.Builder
import Derived.Lib.Overlaps
import Derived.Lib.AppendZerosOnto
import Derived.Maps.OwnSet
import Derived.Maps.Views
import Derived.OrdersHeld
import Derived.Deep.Cut
import Derived.Deep.RegionWith
import Derived.Laws.ResultCell
import Derived.Laws.Rows
import Derived.Handy
import Derived.Laws.IdiomStrings
import Derived.StillTail
import Derived.RegionTactic
import Derived.Deep.DeepMust
import Derived.Deep.DeepCutAuto
import Derived.Deep.RegionHeld3
import Derived.Shelf.Vars
import Derived.Test.YtiljgcomigmidaaGreatDoorRows
import Derived.Test.YtiljgcomigmidaaGreatDoorTie
import Derived.Test.YtiljgcomigmidaaGreatDoorCards
import Derived.SevenTiedAt
import Derived.Lay
open And renaming right->cC
open Eq renaming trans->bt,symm->bu
open Go renaming World->ai,Value->ax,DataW->mB
open Go.MakeChecks renaming laidMetH_plain->aC9
open List renaming map_map->jf
open Option.some renaming inj->fQ
open Prod.mk renaming injEq->cN
set_option linter.unusedVariables false
set_option maxRecDepth 100000
namespace Go.aX
open Go Go.aW Go.Proofs
abbrev bM (wb:ai) (k:b9):Prop:=k.xX Tryz.prog wb (b5 sh SB k.id)
abbrev ee (wb:ai) (q:eO):Prop:=q.dW Tryz.prog wb (b5 sh SB q.c.id)
abbrev du (wb:ai) (k:cY):Prop:=k.dW Tryz.prog wb (b5 sh SB k.id)
abbrev HC (wb:ai) (k:jX):Prop:=k.dW Tryz.prog wb (b5 sh SB k.id)
abbrev eW (wb:ai) (k:eD):Prop:=k.dW Tryz.prog wb (b5 sh SB k.c.id)
abbrev HD (wb:ai) (k:jZ):Prop:=k.dW Tryz.prog wb (b5 sh SB k.c.id)
abbrev Ub (wb:ai) (k:lB):Prop:=k.dW Tryz.prog wb (b5 sh SB k.c.id)
theorem fF:Tryz.prog.follows .mixedOrders=true:=by kernel_rfl
theorem aN {α:Type} {p:α->Prop}:∀x∈([]:List α),p x:=λ_ h=>by cases h
theorem bB {α:Type} {p:α->Prop} {a:α} {l:List α} (h:p a) (hl:∀x∈l,p x):∀x∈a::l,p x:=λx hx=>by
 rcases List.mem_cons.1 hx with rfl|hx
 ·exact h
 ·exact hl x hx
abbrev ct (wb:ai):Prop:=eN b6 ⟨wb,wb,λ_=>False,λ_=>False,[]⟩
theorem fu {a b:Int} (h:[[a]]=[[b]]):a=b:=by simpa using h
section
variable {wb:ai} {S0:Nat->List (List Int)->List (List Int)->Prop} {cal:ed} {li:FuncId->Nat->Option dc} {n d:Nat} {lsh:Nat->List Nat} {lens:List Nat} {B:(Nat->List (List Int)->List (List Int)->Prop)->(List (List Int)->List (List Int)->Prop)->Prop}
theorem gL {c:b9} (cp:∀r ex ro,fp (b5 sh S0) Tryz.prog b6 ⟨wb,r,ex,ro,[]⟩ cal) (hg:ct wb) (hf:rJ Tryz.prog c.f=true) (hu:cZ c.args c.res (b5 sh S0 c.id)) (hl:lens=(sh c.id).1) (hd:tw c.res=(sh c.id).2)
 (e:∀S K,iR sh lsh S K lens (cE c.args) c.res (c.tree Tryz.prog b6 cal li n d)=B S K) (hp:B S0 (bS S0 c.res c.id)):c.xX Tryz.prog wb (b5 sh S0 c.id):=
 b9.dW.f (aqp fF cp hg hf hu hl hd (by rw[e];exact hp))
theorem lM {q:eO} (cp:∀r ex ro,fp (b5 sh S0) Tryz.prog b6 ⟨wb,r,ex,ro,[]⟩ cal) (hg:ct wb) (hf:rJ Tryz.prog q.c.f=true) (hu:cZ q.c.args q.c.res (b5 sh S0 q.c.id)) (hl:lens=(sh q.c.id).1) (hd:tw q.c.res=(sh q.c.id).2)
 (e:∀S K,iR sh lsh S K lens (cE q.c.args) q.c.res (q.tree Tryz.prog b6 cal li n d)=B S K) (hp:B S0 (bS S0 q.c.res q.c.id)):q.dW Tryz.prog wb (b5 sh S0 q.c.id):=
 ast fF cp hg hf hu hl hd (by rw[e];exact hp)
theorem pf {c:cY} {bc:ig} (cp:∀r ex ro,fp (b5 sh S0) Tryz.prog b6 ⟨wb,r,ex,ro,[]⟩ cal) (hg:ct wb) (gd:∀(L:V->Env->Prop) (r:ai) (ro:Nat->Prop),l4 (b5 sh S0) L ⟨wb,r,λ_=>False,ro,[]⟩ Tryz.prog bc) (hf:rJ Tryz.prog c.f=true) (hl:lens=(sh c.id).1) (hd:tv c.res=(sh c.id).2)
 (e:∀S K,gB sh lsh S K lens (bR c.args) c.res (c.tree bc Tryz.prog b6 cal li n d)=B S K) (hp:B S0 (dS S0 c.res c.id)):c.dW Tryz.prog wb (b5 sh S0 c.id):=
 afu fF cp hg gd hf hl hd (by rw[e];exact hp)
theorem xb {c:eD} {bc:ig} (cp:∀r ex ro,fp (b5 sh S0) Tryz.prog b6 ⟨wb,r,ex,ro,[]⟩ cal) (hg:ct wb) (gd:∀(L:V->Env->Prop) (r:ai) (ro:Nat->Prop),l4 (b5 sh S0) L ⟨wb,r,λ_=>False,ro,[]⟩ Tryz.prog bc) (hf:rJ Tryz.prog c.c.f=true) (hl:lens=(sh c.c.id).1) (hd:tv c.c.res=(sh c.c.id).2)
 (e:∀S K,gB sh lsh S K lens (bR c.c.args) c.c.res (c.tree bc Tryz.prog b6 cal li n d)=B S K) (hp:B S0 (dS S0 c.c.res c.c.id)):c.dW Tryz.prog wb (b5 sh S0 c.c.id):=by
 refine eD.xg (li:=li) (rounds:=n) (d:=d) fF cp hg gd (enters hf) (sK λzs hz=>?_);have hv:gB sh lsh S0 (dS S0 c.c.res c.c.id) lens (bR c.c.args) c.c.res (c.tree bc Tryz.prog b6 cal li n d):=by rw[e];exact hp
 have h:=kM (HJ hv) hz;simp only[dS,Ct]at h;rw[hl,hd]at h;exact h
end
theorem ajS:Ml Tryz.prog 115:=⟨enters (by kernel_rfl),Tryz.af4⟩
theorem vr {a0 b0:Int} (h0:aa a0=aa b0):fh [.str] [a0]=fh [.str] [b0]:=by
 show(.string (az (aa a0)):ax)=(.string (az (aa b0)):ax);rw[h0]
theorem ql {a0 b0:Int} (h0:a0=b0):fh [.bool] [a0]=fh [.bool] [b0]:=by
 show(.bool (decide (a0=1)):ax)=(.bool (decide (b0=1)):ax);rw[h0]
theorem aa8 {a0 a1 a2 b0 b1 b2:Int} (h0:aa a0=aa b0) (h1:aa a1=aa b1) (h2:a2=b2):fh [.str,.str,.bool] [a0,a1,a2]=fh [.str,.str,.bool] [b0,b1,b2]:=by
 show(.tuple #[.string (az (aa a0)),.string (az (aa a1)),.bool (decide (a2=1))]:ax)=(.tuple #[.string (az (aa b0)),.string (az (aa b1)),.bool (decide (b2=1))]:ax);rw[h0,h1,h2]
theorem atv {a0 a1 b0 b1:Int} (h0:aa a0=aa b0) (h1:a1=b1):fh [.str,.int .i64 0 21] [a0,a1]=fh [.str,.int .i64 0 21] [b0,b1]:=by
 show(.tuple #[.string (az (aa a0)),.int .i64 a1]:ax)=(.tuple #[.string (az (aa b0)),.int .i64 b1]:ax);rw[h0,h1]
theorem aa9 {a0 b0:Int} (h0:a0=b0):fh [.int .i64 (-0x8000000000000000) 0x7fffffffffffffff] [a0]=fh [.int .i64 (-0x8000000000000000) 0x7fffffffffffffff] [b0]:=by
 show(.int .i64 a0:ax)=(.int .i64 b0:ax);rw[h0]
theorem Gt {a0 b0:Int} (h0:a0=b0):fh [.int .u32 0 4294967295] [a0]=fh [.int .u32 0 4294967295] [b0]:=by
 show(.int .u32 a0:ax)=(.int .u32 b0:ax);rw[h0]
theorem atw {a0 a1 a2 b0 b1 b2:Int} (h0:aa a0=aa b0) (h1:aa a1=aa b1) (h2:a2=b2):fh [.mix [.str,.str],.int .i64 0 21] [a0,a1,a2]=fh [.mix [.str,.str],.int .i64 0 21] [b0,b1,b2]:=by
 show(.tuple #[.agg #[.string (az (aa a0)),.string (az (aa a1))],.int .i64 a2]:ax)=(.tuple #[.agg #[.string (az (aa b0)),.string (az (aa b1))],.int .i64 b2]:ax);rw[h0,h1,h2]
theorem mX {a0 b0:Int} (h0:a0=b0):fh [.int .u64 0 0xffffffffffffffff] [a0]=fh [.int .u64 0 0xffffffffffffffff] [b0]:=by
 show(.int .u64 a0:ax)=(.int .u64 b0:ax);rw[h0]
theorem ab7 {A R:List D} {spec:List Int->List Int->Prop} (hl:(cE A).length=2) (hr:(cE R).length=1) (hv:∀a b:Int,aa a=aa b->fh R [a]=fh R [b]) (h:∀z0 af a b:Int,spec [z0,af] [a]->spec [z0,af] [b]->aa a=aa b):cZ A R spec:=λzs rs iM hz h1 h2 h3 h4=>by
 match zs,rs,iM,(gp hz).trans hl,(gp h1).trans hr,(gp h2).trans hr,h3,h4 with
 |[z0,af],[a],[b],_,_,_,h3,h4=>exact hv a b (h z0 af a b h3 h4)
theorem zF {A R:List D} {spec:List Int->List Int->Prop} (hl:(cE A).length=1) (hr:(cE R).length=1) (hv:∀a b:Int,aa a=aa b->fh R [a]=fh R [b]) (h:∀z0 a b:Int,spec [z0] [a]->spec [z0] [b]->aa a=aa b):cZ A R spec:=λzs rs iM hz h1 h2 h3 h4=>by
 match zs,rs,iM,(gp hz).trans hl,(gp h1).trans hr,(gp h2).trans hr,h3,h4 with
 |[z0],[a],[b],_,_,_,h3,h4=>exact hv a b (h z0 a b h3 h4)
theorem oE {A R:List D} {spec:List Int->List Int->Prop} (hl:(cE A).length=1) (hr:(cE R).length=1) (hv:∀a b:Int,a=b->fh R [a]=fh R [b]) (h:∀z0 a b:Int,spec [z0] [a]->spec [z0] [b]->a=b):cZ A R spec:=λzs rs iM hz h1 h2 h3 h4=>by
 match zs,rs,iM,(gp hz).trans hl,(gp h1).trans hr,(gp h2).trans hr,h3,h4 with
 |[z0],[a],[b],_,_,_,h3,h4=>exact hv a b (h z0 a b h3 h4)
theorem m4 {A R:List D} {spec:List Int->List Int->Prop} (hl:(cE A).length=2) (hr:(cE R).length=1) (hv:∀a b:Int,a=b->fh R [a]=fh R [b]) (h:∀z0 af a b:Int,spec [z0,af] [a]->spec [z0,af] [b]->a=b):cZ A R spec:=λzs rs iM hz h1 h2 h3 h4=>by
 match zs,rs,iM,(gp hz).trans hl,(gp h1).trans hr,(gp h2).trans hr,h3,h4 with
 |[z0,af],[a],[b],_,_,_,h3,h4=>exact hv a b (h z0 af a b h3 h4)
theorem axz {A R:List D} {spec:List Int->List Int->Prop} (hl:(cE A).length=4) (hr:(cE R).length=1) (hv:∀a b:Int,a=b->fh R [a]=fh R [b]) (h:∀z0 af z2 z3 a b:Int,spec [z0,af,z2,z3] [a]->spec [z0,af,z2,z3] [b]->a=b):cZ A R spec:=λzs rs iM hz h1 h2 h3 h4=>by
 match zs,rs,iM,(gp hz).trans hl,(gp h1).trans hr,(gp h2).trans hr,h3,h4 with
 |[z0,af,z2,z3],[a],[b],_,_,_,h3,h4=>exact hv a b (h z0 af z2 z3 a b h3 h4)
theorem Lg {A R:List D} {spec:List Int->List Int->Prop} (hl:(cE A).length=5) (hr:(cE R).length=1) (hv:∀a b:Int,a=b->fh R [a]=fh R [b]) (h:∀z0 af z2 z3 z4 a b:Int,spec [z0,af,z2,z3,z4] [a]->spec [z0,af,z2,z3,z4] [b]->a=b):cZ A R spec:=λzs rs iM hz h1 h2 h3 h4=>by
 match zs,rs,iM,(gp hz).trans hl,(gp h1).trans hr,(gp h2).trans hr,h3,h4 with
 |[z0,af,z2,z3,z4],[a],[b],_,_,_,h3,h4=>exact hv a b (h z0 af z2 z3 z4 a b h3 h4)
theorem axt:cZ wZ.args wZ.res (b5 sh SB 36):=ab7 rfl rfl (λ_ _=>vr) λ_ _ _ _ h h'=>bt h (bu h')
theorem aqi {wb:ai} (hg:ct wb):bM wb wZ:=gL (λ_ _ _=>cu aN aN) hg (by kernel_rfl) axt rfl rfl awz arU
theorem axu:cZ w5.args w5.res (b5 sh SB 37):=ab7 rfl rfl (λ_ _=>vr) λ_ _ _ _ h h'=>bt h (bu h')
theorem aqj {wb:ai} (hg:ct wb):bM wb w5:=gL (λ_ _ _=>cu aN aN) hg (by kernel_rfl) axu rfl rfl awA arV
theorem axv:cZ BM.args BM.res (b5 sh SB 120):=zF rfl rfl (λ_ _=>vr) λ_ _ _ h h'=>bt h (bu h')
theorem aqk {wb:ai} (hg:ct wb) (Om:bM wb wZ) (On:bM wb w5):bM wb BM:=gL (λ_ _ _=>cu aN (bB Om (bB On aN))) hg (by kernel_rfl) axv rfl rfl awB arW
theorem axr:cZ BK.args BK.res (b5 sh SB 121):=zF rfl rfl (λ_ _=>vr) λ_ _ _ h h'=>bt h (bu h')
theorem aqg {wb:ai} (hg:ct wb) (Om:bM wb wZ) (On:bM wb w5):bM wb BK:=gL (λ_ _ _=>cu aN (bB Om (bB On aN))) hg (by kernel_rfl) axr rfl rfl awx arS
theorem awM:cZ Bq.args Bq.res (b5 sh SB 127):=oE rfl rfl (λ_ _=>ql) λ_ _ _ h h'=>by first|exact bt h (bu h')|exact fu (bt h (bu h'))|exact bt (cC h) (bu (cC h'))
theorem ao8 {wb:ai} (hg:ct wb) (p2:bM wb nH):bM wb Bq:=gL (λ_ _ _=>cu aN (bB p2 aN)) hg (by kernel_rfl) awM rfl rfl avx aqN
theorem axq:cZ BJ.args BJ.res (b5 sh SB 122):=zF rfl rfl (λ_ _=>vr) λ_ _ _ h h'=>bt h (bu h')
theorem aqf {wb:ai} (hg:ct wb):bM wb BJ:=gL (λ_ _ _=>cu aN aN) hg (by kernel_rfl) axq rfl rfl aww arR
theorem awO:cZ Bt.args Bt.res (b5 sh SB 125):=by
 intro zs rs iM hz hr mj h h'
 match zs,rs,iM,hz,hr,mj,h,h' with
 |[z0],[a0,a1,a2],[b0,b1,b2],_,_,_,h,h'=>
  have e:(aa a0,aa a1,a2)=(aa b0,aa b1,b2):=bt h (bu h');simp only[cN]at e;exact aa8 e.1 e.2.1 e.2.2
theorem apc {wb:ai} (hg:ct wb) (p2:bM wb nH):bM wb Bt:=gL (λ_ _ _=>cu aN (bB p2 aN)) hg (by kernel_rfl) awO rfl rfl avB aqR
theorem awP:cZ wV.args wV.res (b5 sh SB 126):=by
 intro zs rs iM hz hr mj h h'
 match zs,rs,iM,hz,hr,mj,h,h' with
 |[z0],[a0,a1,a2],[b0,b1,b2],_,_,_,h,h'=>
  have e:(aa a0,aa a1,a2)=(aa b0,aa b1,b2):=bt h (bu h');simp only[cN]at e;exact aa8 e.1 e.2.1 e.2.2
theorem apd {wb:ai} (hg:ct wb) (p2:bM wb nH):bM wb wV:=gL (λ_ _ _=>cu aN (bB p2 aN)) hg (by kernel_rfl) awP rfl rfl avC aqS
theorem aw2:cZ BA.args BA.res (b5 sh SB 44):=m4 rfl rfl (λ_ _=>ql) λ_ _ _ _ h h'=>by first|exact bt h (bu h')|exact fu (bt h (bu h'))|exact bt (cC h) (bu (cC h'))
theorem apI {wb:ai} (hg:ct wb) (p2:bM wb nH):bM wb BA:=gL (λ_ _ _=>cu aN (bB p2 aN)) hg (by kernel_rfl) aw2 rfl rfl av1 ark
theorem awX:cZ tj.args tj.res (b5 sh SB 65):=m4 rfl rfl (λ_ _=>ql) λ_ _ _ _ h h'=>by first|exact bt h (bu h')|exact fu (bt h (bu h'))|exact bt (cC h) (bu (cC h'))
theorem apo {wb:ai} (hg:ct wb) (p2:bM wb nH):bM wb tj:=gL (λ_ _ _=>cu aN (bB p2 aN)) hg (by kernel_rfl) awX rfl rfl avL aq1
theorem awZ:cZ Bz.args Bz.res (b5 sh SB 28):=zF rfl rfl (λ_ _=>vr) λ_ _ _ h h'=>bt h (bu h')
theorem apF {wb:ai} (hg:ct wb):bM wb Bz:=gL (λ_ _ _=>cu aN aN) hg (by kernel_rfl) awZ rfl rfl avY arf
theorem axs:cZ BL.args BL.res (b5 sh SB 123):=zF rfl rfl (λ_ _=>vr) λ_ _ _ h h'=>bt h (bu h')
theorem aqh {wb:ai} (hg:ct wb):bM wb BL:=gL (λ_ _ _=>cu aN aN) hg (by kernel_rfl) axs rfl rfl awy arT
theorem axp:cZ BI.args BI.res (b5 sh SB 124):=zF rfl rfl (λ_ _=>vr) λ_ _ _ h h'=>bt h (bu h')
theorem aqe {wb:ai} (hg:ct wb):bM wb BI:=gL (λ_ _ _=>cu aN aN) hg (by kernel_rfl) axp rfl rfl awv arQ
theorem awW:cZ Bw.args Bw.res (b5 sh SB 47):=oE rfl rfl (λ_ _=>ql) λ_ _ _ h h'=>by first|exact bt h (bu h')|exact fu (bt h (bu h'))|exact bt (cC h) (bu (cC h'))
theorem apl {wb:ai} (hg:ct wb) (Oj:ee wb B8) (ajv:bM wb BL) (ajt:bM wb BJ) (D3:bM wb tj):bM wb Bw:=gL (λ_ _ _=>cu (bB Oj aN) (bB ajv (bB ajt (bB D3 aN)))) hg (by kernel_rfl) awW rfl rfl avK aq0
theorem axn:cZ wY.args wY.res (b5 sh SB 27):=oE rfl rfl (λ_ _=>ql) λ_ _ _ h h'=>by first|exact bt h (bu h')|exact fu (bt h (bu h'))|exact bt (cC h) (bu (cC h'))
theorem ap8 {wb:ai} (hg:ct wb) (Ok:bM wb wV) (aiM:bM wb Bw) (ajs:bM wb BI) (D3:bM wb tj):bM wb wY:=gL (λ_ _ _=>cu aN (bB Ok (bB aiM (bB ajs (bB D3 aN))))) hg (by kernel_rfl) axn rfl rfl awq arL
theorem awY:cZ By.args By.res (b5 sh SB 24):=oE rfl rfl (λ_ _=>ql) λ_ _ _ h h'=>by first|exact bt h (bu h')|exact fu (bt h (bu h'))|exact bt (cC h) (bu (cC h'))
theorem apE {wb:ai} (hg:ct wb) (Oj:ee wb B8) (aiZ:bM wb BA) (aju:bM wb BK):bM wb By:=gL (λ_ _ _=>cu (bB Oj aN) (bB aiZ (bB aju aN))) hg (by kernel_rfl) awY rfl rfl avX ard
theorem awQ:cZ Bv.args Bv.res (b5 sh SB 10):=by
 intro zs rs iM hz hr mj h h'
 match zs,rs,iM,hz,hr,mj,h,h' with
 |[z0],[a0,a1],[b0,b1],_,_,_,h,h'=>
  have e:(aa a0,a1)=(aa b0,b1):=bt h (bu h');simp only[cN]at e;exact atv e.1 e.2
theorem apf {wb:ai} (hg:ct wb) (ajw:bM wb BM) (aiJ:bM wb Bt) (aiW:bM wb By) (aiF:bM wb Bq) (Ol:bM wb wY) (aiX:bM wb Bz) (p2:bM wb nH):bM wb Bv:=gL (λ_ _ _=>cu aN (bB ajw (bB aiJ (bB aiW (bB aiF (bB Ol (bB aiX (bB p2 aN)))))))) hg (by kernel_rfl) awQ rfl rfl avE aqU
theorem axw:cZ BN.args BN.res (b5 sh SB 202):=zF rfl rfl (λ_ _=>vr) λ_ _ _ h h'=>bt h (bu h')
theorem aql {wb:ai} (hg:ct wb):bM wb BN:=gL (λ_ _ _=>cu aN aN) hg (by kernel_rfl) axw rfl rfl awC arX
theorem axx:cZ BO.args BO.res (b5 sh SB 200):=oE rfl rfl (λ_ _=>ql) λ_ _ _ h h'=>by first|exact bt h (bu h')|exact fu (bt h (bu h'))|exact bt (cC h) (bu (cC h'))
theorem aqn {wb:ai} (hg:ct wb) (Ok:bM wb wV) (ajx:bM wb BN) (D3:bM wb tj) (Ol:bM wb wY):bM wb BO:=gL (λ_ _ _=>cu aN (bB Ok (bB ajx (bB D3 (bB Ol aN))))) hg (by kernel_rfl) axx rfl rfl awE arZ
theorem aw3:cZ BB.args BB.res (b5 sh SB 400):=oE rfl rfl (λ_ _=>ql) λ_ _ _ h h'=>by first|exact bt h (bu h')|exact fu (bt h (bu h'))|exact bt (cC h) (bu (cC h'))
theorem apK {wb:ai} (hg:ct wb):bM wb BB:=gL (λ_ _ _=>cu aN aN) hg (by kernel_rfl) aw3 rfl rfl av2 arl
theorem awN:cZ Bs.args Bs.res (b5 sh SB 501):=oE rfl rfl (λ_ _=>ql) λ_ _ _ h h'=>by first|exact bt h (bu h')|exact fu (bt h (bu h'))|exact bt (cC h) (bu (cC h'))
theorem apb {wb:ai} (hg:ct wb) (p2:bM wb nH):bM wb Bs:=gL (λ_ _ _=>cu aN (bB p2 aN)) hg (by kernel_rfl) awN rfl rfl avA aqQ
theorem aw0:cZ r9.args r9.res (b5 sh SB 670):=oE rfl rfl (λ_ _=>ql) λ_ _ _ h h'=>by first|exact bt h (bu h')|exact fu (bt h (bu h'))|exact bt (cC h) (bu (cC h'))
theorem apG {wb:ai} (hg:ct wb) (ai1:bM wb BB) (aiI:bM wb Bs):bM wb r9:=gL (λ_ _ _=>cu aN (bB ai1 (bB aiI aN))) hg (by kernel_rfl) aw0 rfl rfl avZ arh
theorem aqo {wb:ai} (hg:ct wb):du wb pb:=pf (λ_ _ _=>cu aN aN) hg (λ_ _ _=>(iT aN)) (by kernel_rfl) rfl rfl awF ar0
theorem apt {wb:ai} (hg:ct wb) (uJ:du wb pb):eW wb IH:=xb (λ_ _ _=>cu aN aN) hg (λ_ _ _=>(iT (bB uJ aN))) (by kernel_rfl) rfl rfl avP aq5
theorem apv {wb:ai} (hg:ct wb) (uJ:du wb pb):eW wb sX:=xb (λ_ _ _=>cu aN aN) hg (λ_ _ _=>(iT (bB uJ aN))) (by kernel_rfl) rfl rfl avR aq7
theorem apx {wb:ai} (hg:ct wb):du wb qV:=pf (λ_ _ _=>cu aN aN) hg (λ_ _ _=>(iT aN)) (by kernel_rfl) rfl rfl avT aq9
theorem apa {wb:ai} (hg:ct wb):du wb Br:=pf (λ_ _ _=>cu aN aN) hg (λ_ _ _=>(iT aN)) (by kernel_rfl) rfl rfl avz aqP
theorem ape {wb:ai} (hg:ct wb):du wb Bu:=pf (λ_ _ _=>cu aN aN) hg (λ_ _ _=>(iT aN)) (by kernel_rfl) rfl rfl avD aqT
theorem apy {wb:ai} (hg:ct wb) (aiR:du wb qV) (aiH:du wb Br) (aiK:du wb Bu) (ajq:HC wb BH) (aiT:HC wb Bx):eW wb II:=xb (λ_ _ _=>cu aN aN) hg (λ_ _ _=>(YD (iT (bB aiR (bB aiH (bB aiK aN)))) (bB ajq (bB aiT aN)))) (by kernel_rfl) rfl rfl avU ara
theorem apw {wb:ai} (hg:ct wb) (uJ:du wb pb) (aiP:eW wb IH) (aiQ:eW wb sX) (aiS:eW wb II):eW wb NW:=xb (λ_ _ _=>cu aN aN) hg (λ_ _ _=>(IJ (iT (bB uJ aN)) (bB aiP (bB aiQ (bB aiS aN))))) (by kernel_rfl) rfl rfl avS aq8
theorem aps {wb:ai} (hg:ct wb):eW wb IG:=xb (λ_ _ _=>cu aN aN) hg (λ_ _ _=>(iT aN)) (by kernel_rfl) rfl rfl avO aq4
theorem axo:cZ BG.args BG.res (b5 sh SB 440):=m4 rfl rfl (λ_ _=>aa9) λ_ _ _ _ h h'=>by first|exact bt h (bu h')|exact fu (bt h (bu h'))|exact bt (cC h) (bu (cC h'))
theorem aqa {wb:ai} (hg:ct wb):bM wb BG:=gL (λ_ _ _=>cu aN aN) hg (by kernel_rfl) axo rfl rfl aws arN
theorem awR:cZ u6.args u6.res (b5 sh SB 444):=oE rfl rfl (λ_ _=>Gt) λ_ _ _ h h'=>by first|exact bt h (bu h')|exact fu (bt h (bu h'))|exact bt (cC h) (bu (cC h'))
theorem apg {wb:ai} (hg:ct wb):bM wb u6:=gL (λ_ _ _=>cu aN aN) hg (by kernel_rfl) awR rfl rfl avF aqV
theorem awS:cZ u7.args u7.res (b5 sh SB 445):=oE rfl rfl (λ_ _=>Gt) λ_ _ _ h h'=>by first|exact bt h (bu h')|exact fu (bt h (bu h'))|exact bt (cC h) (bu (cC h'))
theorem aph {wb:ai} (hg:ct wb):bM wb u7:=gL (λ_ _ _=>cu aN aN) hg (by kernel_rfl) awS rfl rfl avG aqW
theorem awT:cZ u9.args u9.res (b5 sh SB 446):=oE rfl rfl (λ_ _=>Gt) λ_ _ _ h h'=>by first|exact bt h (bu h')|exact fu (bt h (bu h'))|exact bt (cC h) (bu (cC h'))
theorem api {wb:ai} (hg:ct wb):bM wb u9:=gL (λ_ _ _=>cu aN aN) hg (by kernel_rfl) awT rfl rfl avH aqX
theorem awU:cZ vd.args vd.res (b5 sh SB 447):=oE rfl rfl (λ_ _=>Gt) λ_ _ _ h h'=>by first|exact bt h (bu h')|exact fu (bt h (bu h'))|exact bt (cC h) (bu (cC h'))
theorem apj {wb:ai} (hg:ct wb):bM wb vd:=gL (λ_ _ _=>cu aN aN) hg (by kernel_rfl) awU rfl rfl avI aqY
theorem aqb {wb:ai} (hg:ct wb) (ajo:bM wb BG):du wb za:=pf (λ_ _ _=>cu aN (bB ajo aN)) hg (λ_ _ _=>(iT aN)) (by kernel_rfl) rfl rfl awt arO
theorem awV:cZ ve.args ve.res (b5 sh SB 466):=oE rfl rfl (λ_ _=>Gt) λ_ _ _ h h'=>by first|exact bt h (bu h')|exact fu (bt h (bu h'))|exact bt (cC h) (bu (cC h'))
theorem apk {wb:ai} (hg:ct wb):bM wb ve:=gL (λ_ _ _=>cu aN aN) hg (by kernel_rfl) awV rfl rfl avJ aqZ
theorem ao9 {wb:ai} (hg:ct wb):du wb y9:=pf (λ_ _ _=>cu aN aN) hg (λ_ _ _=>(iT aN)) (by kernel_rfl) rfl rfl avy aqO
theorem ao3 {wb:ai} (hg:eN b6 ⟨wb,wb,λ_=>False,λ_=>False,[]⟩) (W4:bM wb ve) (WW:bM wb u6) (WX:bM wb u7) (WY:bM wb u9) (WZ:bM wb vd) (aiG:du wb y9):Ub wb zt:=by
 refine asZ (SB:=SB) (sh:=sh) (p:=zt) (lsh:=ZA) (lens:=[1]) (inl:=(H3 Tryz.prog b6 (cn [] [ve,u6,u7,u9,vd]) (yf (gJ [y9]) Tryz.prog b6 (cn [] [ve,u6,u7,u9,vd]) JV 600 6) JV 600 [(1,0,0,4294967295),(1,1,0,4294967295),(1,2,0,4294967295),(1,3,0,4294967295),(1,4,0,4294967295),(1,5,0,4294967295),(1,6,0,4294967295),(1,7,0,4294967295)] 115)) (λL r ex ro=>aft ajS fF (λ_ _ _=>cu aN (bB W4 (bB WW (bB WX (bB WY (bB WZ aN)))))) (λg cs h=>hg g cs h) (λr ex ro=>Dr (w0:=⟨wb,r,ex,ro,[]⟩) rfl fF ((λ_ _ _=>cu aN (bB W4 (bB WW (bB WX (bB WY (bB WZ aN)))))) r ex ro) (λg cs h=>hg g cs h) (iT (bB aiG aN)) 6) rfl) (by kernel_rfl) rfl rfl ?_;rw[show zt.c=JL from rfl,avu];exact aqK
theorem ap9 {wb:ai} (hg:eN b6 ⟨wb,wb,λ_=>False,λ_=>False,[]⟩):HD wb zj:=by
 refine aaw (SB:=SB) (sh:=sh) (p:=zj) (bc:=(gJ [])) (cal:=(cn [] [])) (li:=dB) (rounds:=600) (d:=6) (lsh:=dC) (lens:=[1,1,1]) fF (λ_ _ _=>cu aN aN) hg (λ_ _ _ _=>(iT aN)) (by kernel_rfl) rfl rfl ?_;rw[show zj.c=JO from rfl,awr];exact arM
theorem aqd {wb:ai} (hg:eN b6 ⟨wb,wb,λ_=>False,λ_=>False,[]⟩) (ajp:du wb za) (ajn:HD wb zj) (aiC:Ub wb zt):HD wb B2:=by
 refine aaw (SB:=SB) (sh:=sh) (p:=B2) (bc:=(Gd [zt] (vo [zj] (gJ [za])))) (cal:=(cn [] [])) (li:=dB) (rounds:=600) (d:=6) (lsh:=dC) (lens:=[1,1,1]) fF (λ_ _ _=>cu aN aN) hg (λ_ _ _ _=>(aaC (Kv (iT (bB ajp aN)) (bB ajn aN)) (bB aiC aN))) (by kernel_rfl) rfl rfl ?_;rw[show B2.c=JP from rfl,awu];exact arP
theorem apA {wb:ai} (hg:ct wb) (aiN:du wb JM) (ajr:HD wb B2):du wb tk:=pf (λ_ _ _=>cu aN aN) hg (λ_ _ _=>(Kv (iT (bB aiN aN)) (bB ajr aN))) (by kernel_rfl) rfl rfl avV arb
theorem aw1:cZ Fb.args Fb.res (b5 sh SB 15):=by
 intro zs rs iM hz hr mj h h'
 match zs,rs,iM,hz,hr,mj,h,h' with
 |[z0,af],[a0,a1,a2],[b0,b1,b2],_,_,_,h,h'=>
  have e:(aa a0,aa a1,a2)=(aa b0,aa b1,b2):=bt h (bu h');simp only[cN]at e;exact atw e.1 e.2.1 e.2.2
theorem apH {wb:ai} (hg:ct wb) (ai0:ee wb KE) (aiL:bM wb Bv):ee wb FT:=lM (q:=FT) (λ_ _ _=>cu (bB ai0 aN) (bB aiL aN)) hg (by kernel_rfl) aw1 rfl rfl av0 ari
theorem aw5:cZ Fc.args Fc.res (b5 sh SB 16):=m4 rfl rfl (λ_ _=>ql) λ_ _ _ _ h h'=>by first|exact bt h (bu h')|exact fu (bt h (bu h'))|exact bt (cC h) (bu (cC h'))
theorem apO {wb:ai} (hg:ct wb) (aiY:ee wb FT):ee wb FU:=lM (q:=FU) (λ_ _ _=>cu (bB aiY aN) aN) hg (by kernel_rfl) aw5 rfl rfl av6 arq
theorem awL:cZ E8.args E8.res (b5 sh SB 300):=axz rfl rfl (λ_ _=>ql) λ_ _ _ _ _ _ h h'=>by first|exact bt h (bu h')|exact fu (bt h (bu h'))|exact bt (cC h) (bu (cC h'))
theorem ao6 {wb:ai} (hg:ct wb) (ai4:ee wb FU) (ajy:bM wb BO):ee wb FR:=lM (q:=FR) (λ_ _ _=>cu (bB ai4 aN) (bB ajy aN)) hg (by kernel_rfl) awL rfl rfl avw aqM
theorem ao4 {wb:ai} (hg:ct wb) (aiE:ee wb FR) (aiD:ee wb KD):du wb Bp:=pf (λ_ _ _=>cu (bB aiE (bB aiD aN)) aN) hg (λ_ _ _=>(iT aN)) (by kernel_rfl) rfl rfl avv aqL
theorem apD {wb:ai} (hg:ct wb) (aiU:du wb tk) (aiV:eW wb DO) (aiO:eW wb IG):du wb wW:=pf (λ_ _ _=>cu aN aN) hg (λ_ _ _=>(IJ (iT (bB aiU aN)) (bB aiV (bB aiO aN)))) (by kernel_rfl) rfl rfl avW arc
theorem apN {wb:ai} (hg:ct wb):du wb BD:=pf (λ_ _ _=>cu aN aN) hg (λ_ _ _=>(iT aN)) (by kernel_rfl) rfl rfl av5 arp
theorem axy:cZ tn.args tn.res (b5 sh SB 420):=oE rfl rfl (λ_ _=>ql) λ_ _ _ h h'=>by first|exact bt h (bu h')|exact fu (bt h (bu h'))|exact bt (cC h) (bu (cC h'))
theorem aqq {wb:ai} (hg:ct wb):bM wb tn:=gL (λ_ _ _=>cu aN aN) hg (by kernel_rfl) axy rfl rfl awG ar1
theorem aw4:cZ fg.args fg.res (b5 sh SB 483):=oE rfl rfl (λ_ _=>mX) λ_ _ _ h h'=>by first|exact bt h (bu h')|exact fu (bt h (bu h'))|exact bt (cC h) (bu (cC h'))
theorem apM {wb:ai} (hg:ct wb):bM wb fg:=gL (λ_ _ _=>cu aN aN) hg (by kernel_rfl) aw4 rfl rfl av4 aro
theorem axh:cZ Fp.args Fp.res (b5 sh SB 802):=m4 rfl rfl (λ_ _=>mX) λ_ _ _ _ h h'=>by first|exact bt h (bu h')|exact fu (bt h (bu h'))|exact bt (cC h) (bu (cC h'))
theorem ap2 {wb:ai} (hg:ct wb) (gj:bM wb fg):ee wb F6:=lM (q:=F6) (λ_ _ _=>cu aN (bB gj aN)) hg (by kernel_rfl) axh rfl rfl awk arF
theorem axk:cZ Ft.args Ft.res (b5 sh SB 803):=m4 rfl rfl (λ_ _=>mX) λ_ _ _ _ h h'=>by first|exact bt h (bu h')|exact fu (bt h (bu h'))|exact bt (cC h) (bu (cC h'))
theorem ap5 {wb:ai} (hg:ct wb) (gj:bM wb fg):ee wb F9:=lM (q:=F9) (λ_ _ _=>cu aN (bB gj aN)) hg (by kernel_rfl) axk rfl rfl awn arI
theorem axl:cZ Fu.args Fu.res (b5 sh SB 806):=m4 rfl rfl (λ_ _=>mX) λ_ _ _ _ h h'=>by first|exact bt h (bu h')|exact fu (bt h (bu h'))|exact bt (cC h) (bu (cC h'))
theorem ap6 {wb:ai} (hg:ct wb) (gj:bM wb fg):ee wb Ga:=lM (q:=Ga) (λ_ _ _=>cu aN (bB gj aN)) hg (by kernel_rfl) axl rfl rfl awo arJ
theorem axm:cZ Fv.args Fv.res (b5 sh SB 807):=m4 rfl rfl (λ_ _=>mX) λ_ _ _ _ h h'=>by first|exact bt h (bu h')|exact fu (bt h (bu h'))|exact bt (cC h) (bu (cC h'))
theorem ap7 {wb:ai} (hg:ct wb) (gj:bM wb fg):ee wb Gb:=lM (q:=Gb) (λ_ _ _=>cu aN (bB gj aN)) hg (by kernel_rfl) axm rfl rfl awp arK
theorem axb:cZ Fi.args Fi.res (b5 sh SB 810):=m4 rfl rfl (λ_ _=>mX) λ_ _ _ _ h h'=>by first|exact bt h (bu h')|exact fu (bt h (bu h'))|exact bt (cC h) (bu (cC h'))
theorem apW {wb:ai} (hg:ct wb) (gj:bM wb fg):ee wb FZ:=lM (q:=FZ) (λ_ _ _=>cu aN (bB gj aN)) hg (by kernel_rfl) axb rfl rfl awe arz
theorem axc:cZ Fj.args Fj.res (b5 sh SB 811):=m4 rfl rfl (λ_ _=>mX) λ_ _ _ _ h h'=>by first|exact bt h (bu h')|exact fu (bt h (bu h'))|exact bt (cC h) (bu (cC h'))
theorem apX {wb:ai} (hg:ct wb) (gj:bM wb fg):ee wb F1:=lM (q:=F1) (λ_ _ _=>cu aN (bB gj aN)) hg (by kernel_rfl) axc rfl rfl awf arA
theorem axd:cZ Fk.args Fk.res (b5 sh SB 813):=m4 rfl rfl (λ_ _=>mX) λ_ _ _ _ h h'=>by first|exact bt h (bu h')|exact fu (bt h (bu h'))|exact bt (cC h) (bu (cC h'))
theorem apY {wb:ai} (hg:ct wb) (gj:bM wb fg):ee wb F2:=lM (q:=F2) (λ_ _ _=>cu aN (bB gj aN)) hg (by kernel_rfl) axd rfl rfl awg arB
theorem axe:cZ Fl.args Fl.res (b5 sh SB 817):=m4 rfl rfl (λ_ _=>mX) λ_ _ _ _ h h'=>by first|exact bt h (bu h')|exact fu (bt h (bu h'))|exact bt (cC h) (bu (cC h'))
theorem apZ {wb:ai} (hg:ct wb) (gj:bM wb fg):ee wb F3:=lM (q:=F3) (λ_ _ _=>cu aN (bB gj aN)) hg (by kernel_rfl) axe rfl rfl awh arC
theorem axf:cZ Fm.args Fm.res (b5 sh SB 818):=m4 rfl rfl (λ_ _=>mX) λ_ _ _ _ h h'=>by first|exact bt h (bu h')|exact fu (bt h (bu h'))|exact bt (cC h) (bu (cC h'))
theorem ap0 {wb:ai} (hg:ct wb) (gj:bM wb fg):ee wb F4:=lM (q:=F4) (λ_ _ _=>cu aN (bB gj aN)) hg (by kernel_rfl) axf rfl rfl awi arD
theorem axg:cZ Fo.args Fo.res (b5 sh SB 819):=m4 rfl rfl (λ_ _=>mX) λ_ _ _ _ h h'=>by first|exact bt h (bu h')|exact fu (bt h (bu h'))|exact bt (cC h) (bu (cC h'))
theorem ap1 {wb:ai} (hg:ct wb) (gj:bM wb fg):ee wb F5:=lM (q:=F5) (λ_ _ _=>cu aN (bB gj aN)) hg (by kernel_rfl) axg rfl rfl awj arE
theorem axi:cZ Fq.args Fq.res (b5 sh SB 822):=m4 rfl rfl (λ_ _=>mX) λ_ _ _ _ h h'=>by first|exact bt h (bu h')|exact fu (bt h (bu h'))|exact bt (cC h) (bu (cC h'))
theorem ap3 {wb:ai} (hg:ct wb) (gj:bM wb fg):ee wb F7:=lM (q:=F7) (λ_ _ _=>cu aN (bB gj aN)) hg (by kernel_rfl) axi rfl rfl awl arG
theorem axj:cZ Fs.args Fs.res (b5 sh SB 825):=m4 rfl rfl (λ_ _=>mX) λ_ _ _ _ h h'=>by first|exact bt h (bu h')|exact fu (bt h (bu h'))|exact bt (cC h) (bu (cC h'))
theorem ap4 {wb:ai} (hg:ct wb) (gj:bM wb fg):ee wb F8:=lM (q:=F8) (λ_ _ _=>cu aN (bB gj aN)) hg (by kernel_rfl) axj rfl rfl awm arH
theorem aw6:cZ Fe.args Fe.res (b5 sh SB 484):=Lg rfl rfl (λ_ _=>mX) λ_ _ _ _ _ _ _ h h'=>by first|exact bt h (bu h')|exact fu (bt h (bu h'))|exact bt (cC h) (bu (cC h'))
theorem apQ {wb:ai} (hg:ct wb) (ajh:ee wb F6) (ajd:ee wb F2) (aji:ee wb F7) (gj:bM wb fg):ee wb FV:=lM (q:=FV) (λ_ _ _=>cu (bB ajh (bB ajd (bB aji aN))) (bB gj aN)) hg (by kernel_rfl) aw6 rfl rfl av8 art
theorem aw7:cZ Ff.args Ff.res (b5 sh SB 485):=Lg rfl rfl (λ_ _=>mX) λ_ _ _ _ _ _ _ h h'=>by first|exact bt h (bu h')|exact fu (bt h (bu h'))|exact bt (cC h) (bu (cC h'))
theorem apR {wb:ai} (hg:ct wb) (ajl:ee wb Ga) (ajc:ee wb F1) (ajj:ee wb F8) (gj:bM wb fg):ee wb FW:=lM (q:=FW) (λ_ _ _=>cu (bB ajl (bB ajc (bB ajj aN))) (bB gj aN)) hg (by kernel_rfl) aw7 rfl rfl av9 aru
theorem aw8:cZ Fg.args Fg.res (b5 sh SB 486):=Lg rfl rfl (λ_ _=>mX) λ_ _ _ _ _ _ _ h h'=>by first|exact bt h (bu h')|exact fu (bt h (bu h'))|exact bt (cC h) (bu (cC h'))
theorem apS {wb:ai} (hg:ct wb) (ajm:ee wb Gb) (ajf:ee wb F4) (ajk:ee wb F9) (gj:bM wb fg):ee wb FX:=lM (q:=FX) (λ_ _ _=>cu (bB ajm (bB ajf (bB ajk aN))) (bB gj aN)) hg (by kernel_rfl) aw8 rfl rfl awa arv
theorem aw9:cZ Fh.args Fh.res (b5 sh SB 487):=Lg rfl rfl (λ_ _=>mX) λ_ _ _ _ _ _ _ h h'=>by first|exact bt h (bu h')|exact fu (bt h (bu h'))|exact bt (cC h) (bu (cC h'))
theorem apT {wb:ai} (hg:ct wb) (aje:ee wb F3) (ajg:ee wb F5) (ajb:ee wb FZ) (gj:bM wb fg):ee wb FY:=lM (q:=FY) (λ_ _ _=>cu (bB aje (bB ajg (bB ajb aN))) (bB gj aN)) hg (by kernel_rfl) aw9 rfl rfl awb arw
theorem axa:cZ BE.args BE.res (b5 sh SB 441):=m4 rfl rfl (λ_ _=>aa9) λ_ _ _ _ h h'=>by first|exact bt h (bu h')|exact fu (bt h (bu h'))|exact bt (cC h) (bu (cC h'))
theorem apU {wb:ai} (hg:ct wb):bM wb BE:=gL (λ_ _ _=>cu aN aN) hg (by kernel_rfl) axa rfl rfl awc arx
theorem apV {wb:ai} (hg:ct wb) (ai5:ee wb FV) (ai6:ee wb FW) (ai7:ee wb FX) (ai8:ee wb FY) (ai9:bM wb BE) (gj:bM wb fg):du wb BF:=pf (λ_ _ _=>cu (bB ai5 (bB ai6 (bB ai7 (bB ai8 aN)))) (bB ai9 (bB gj aN))) hg (λ_ _ _=>(iT aN)) (by kernel_rfl) rfl rfl awd ary
theorem apL {wb:ai} (hg:ct wb) (aja:du wb BF):du wb BC:=pf (λ_ _ _=>cu aN aN) hg (λ_ _ _=>(iT (bB aja aN))) (by kernel_rfl) rfl rfl av3 arn
theorem apP {wb:ai} (hg:ct wb) (ai2:du wb BC) (ai3:du wb BD):du wb wX:=pf (λ_ _ _=>cu aN aN) hg (λ_ _ _=>(iT (bB ai2 (bB ai3 aN)))) (by kernel_rfl) rfl rfl av7 ars
theorem aqm {wb:ai} (hg:ct wb) (uJ:du wb pb):du wb tl:=pf (λ_ _ _=>cu aN aN) hg (λ_ _ _=>(iT (bB uJ aN))) (by kernel_rfl) rfl rfl awD arY
theorem apu {wb:ai} (hg:ct wb) (uJ:du wb pb):eW wb wx:=xb (λ_ _ _=>cu aN aN) hg (λ_ _ _=>(iT (bB uJ aN))) (by kernel_rfl) rfl rfl avQ aq6
theorem apq {wb:ai} (hg:ct wb):eW wb wu:=xb (λ_ _ _=>cu aN aN) hg (λ_ _ _=>(iT aN)) (by kernel_rfl) rfl rfl avM aq2
theorem apr {wb:ai} (hg:ct wb):eW wb wv:=xb (λ_ _ _=>cu aN aN) hg (λ_ _ _=>(iT aN)) (by kernel_rfl) rfl rfl avN aq3
end Go.aX
namespace Go.Proofs
open Go.Shelf Go.RowKit
shelf_lay Lays.n137 Nm 137 at Tryz as Tryz.am8
theorem Tryz.strings_IndexByte (s:ByteArray) (c:Int) (w:World):
 Calls Tryz.prog 164 #[.string s,.int .u8 c] w λe w'=>e= .returned (.int .i64 (Lib.indexByte s.data.toList c.toNat.toUInt8))/\w'=w:=Any.strings_IndexByte Tryz.am8 s c w
shelf_lay Lays.n144 Nm 144 at Tryz as Tryz.am9
theorem Tryz.strings_Contains (s sub:ByteArray) (m:Int) (w:World) (hs:s.size<4294967281) (hm:w.cell? ⟨6,0,none⟩=some (.int .i64 m)):
 Calls Tryz.prog 33 #[.string s,.string sub] w λe w'=>e= .returned (.bool (Lib.contains s.data.toList sub.data.toList))/\w'=w:=Any.strings_Contains Tryz.am9 s sub m w hs hm
end Go.Proofs
namespace Go.aX
open Go Go.aW Go.Proofs Go.RowKit
theorem ag6 {w w':World} (h:Below w.heap.size w w'):w.Extends w':=
 ⟨h.os,h.tape,h.output,h.size,λa ha=>by unfold World.cell?;rw[h.block a.block ha],λa ha=>by unfold World.frozen?;rw[h.block a.block ha],h.block⟩
theorem apm {wb:World}:bM wb nH:=by
 intro zs hz
 obtain⟨rs,h1,h2,h3⟩:=alQ (wb:=wb) (f:=137) (id:=73) Tryz.func137 (by kernel_rfl) (by kernel_rfl) (by kernel_rfl) (by kernel_rfl) zs hz
 match zs,hz with
 |[s,c],hz=>
  refine⟨rs,h1,?_,h3⟩
  subst h2
  rfl
theorem ags (b:UInt8) (l:au):dd (b::l)=((b==46&&l.getD 0 0==46)||dd l):=by
 unfold dd
 rw[List.length_cons,List.range_succ_eq_map,List.any_cons,List.any_map]
 rfl
theorem Vn:∀l:au,Lib.contains l [46,46]=dd l
 |[]=>rfl
 |b::l=>by
  have ih:=Vn l
  unfold Lib.contains at ih⊢
  rw[ags,<-ih]
  have sym:∀x:UInt8,((46:UInt8)==x)=(x==46):=λx=>by rw[Bool.eq_iff_iff,beq_iff_eq,beq_iff_eq];exact eq_comm
  have hp:([46,46]:au).isPrefixOf (b::l)=(b==46&&l.getD 0 0==46):=by
   cases l with
   |nil=>
    show((46:UInt8)==b&&false)=(b==46&&((0:UInt8)==46))
    rw[sym];rfl
   |cons c r=>
    show((46:UInt8)==b&&((46:UInt8)==c&&true))=(b==46&&c==46)
    rw[sym,sym,Bool.and_true]
  have he:Lib.index (b::l) [46,46]=if([46,46]:au).isPrefixOf (b::l)=true then 0 else if(Lib.index l [46,46]==-1)=true then-1 else Lib.index l [46,46]+1:=rfl
  rw[he,hp]
  cases(b==46&&l.getD 0 0==46)with
  |true=>rfl
  |false=>
   rw[if_neg (by decide),Bool.false_or]
   by_cases he:(Lib.index l [46,46]==-1)=true
   ·rw[if_pos he]
    have:=beq_iff_eq.1 he
    rw[this]
   ·rw[if_neg he]
    have he:¬Lib.index l [46,46]=-1:=λe=>he (beq_iff_eq.2 e)
    have:=Lib.index_ge [46,46] l
    rw[Bool.eq_iff_iff,decide_eq_true_eq,decide_eq_true_eq]
    omega
theorem ao7 {wb:World} (hc:∃m,wb.cell? ⟨6,0,none⟩=some (.int .i64 m)) (h0:6<wb.heap.size):ee wb B8:=by
 intro zs hz hp
 match zs,hz with
 |[z],hz=>
  refine⟨[bx (dd (aa z))],⟨(sM _).1,(sM _).2,trivial⟩,rfl,λw hw=> .inr ⟨enters (by kernel_rfl) _ _,?_⟩⟩
  obtain⟨m,hm⟩:=hc
  have uS:w.cell? ⟨6,0,none⟩=some (.int .i64 m):=by rw[hw.cell ⟨6,0,none⟩ h0];exact hm
  have hl:(aa z).length<=4294967280:=hp
  refine(Tryz.strings_Contains (az (aa z)) (az [46,46]) m w (by show(aa z).toArray.size<_;simp;omega) uS).mono ?_
  rintro e w' ⟨rfl,rfl⟩
  refine⟨?_,World.Extends.refl _⟩
  have e1:(az (aa z)).data.toList=aa z:=by simp[az]
  have e2:(az [46,46]).data.toList=[46,46]:=rfl
  rw[e1,e2,Vn]
  show _=Ending.returned (Value.bool (decide (bx (dd (aa z))=1)))
  rw[Dg]
theorem U7 {l:au} {n:Nat} (h:l.length<=n) (hn:n<=0x7ffffffff000):0<=cT l/\cT l<=b8:=⟨lD _,kY (by unfold dP;omega)⟩
end Go.aX
namespace Go.aX
open Go Go.aW Go.Proofs
theorem apJ {wb:World}:ee wb KE:=λzs _ hp=>by
 have hp:ah 94 zs:=hp
 simp[ah,uz]at hp
theorem ao5 {wb:World}:ee wb KD:=λzs _ hp=>by
 have hp:ah 94 zs:=hp
 simp[ah,uz]at hp
end Go.aX
namespace Go.Proofs
open Go.Shelf Go.RowKit
shelf_lay Lays.n169 Nm 169 at Tryz as Tryz.lays169
theorem Tryz.Ht:Builder.Extra Tryz.prog Tryz.lays169_ren where
 sizeBuilder:=by kernel_rfl
 liesBuilder:=by kernel_rfl
 t5:=Tryz.underlying5
 a5:=Tryz.isAgg5
 z5:=Tryz.sizeOf5
 v5:=Tryz.zeroValue5
 infoByte:=by kernel_rfl
 cellsByte:=by kernel_rfl
 sizeByte:=by kernel_rfl
 neB5:=by decide
theorem Tryz.Builder_String_any (B b:Nat) (l:List UInt8) (w:World) (h:Lib.IsBuilder 121 5 B b (Lib.byteCells l) w) (WC:B<=w.heap.size):
 Calls Tryz.prog 89 #[.pointer (some ⟨b,0,none⟩)] w λe w'=>e= .returned (.string ⟨l.toArray⟩)/\Below B w w':=Any.Builder_String_any Tryz.lays169 Tryz.Ht B b l w h WC
shelf_lay Lays.n170 Nm 170 at Tryz as Tryz.aBq
set_option maxHeartbeats 1000000 in
set_option maxRecDepth 100000 in
theorem Tryz.Builder_copyCheck_used (b:Nat) (w:World) (h0:w.cell? ⟨b,0,none⟩=some (.pointer (some ⟨b,0,none⟩))):
 Calls Tryz.prog 117 #[.pointer (some ⟨b,0,none⟩)] w λe w'=>e= .returned (.tuple #[])/\w'=w:=by
 obtain⟨j,hj,_⟩:=Option.map_eq_some_iff.1 Tryz.Ht.toX72.sizeBuilder
 go_enter Tryz.func117,Tryz.ntmps117
 go_wp2
 rw[Lib.run_neq_ptr_same w _ Tryz.underlying119 hj]
 go_wp2
 go_end0
 exact⟨rfl,rfl⟩
set_option maxHeartbeats 1000000 in
set_option maxRecDepth 100000 in
theorem Tryz.Builder_copyCheck_fresh (b:Nat) (w:World) (h0:w.cell? ⟨b,0,none⟩=some (.pointer none)) (iq:w.shape? b=some (121,2)) (I7:w.frozen? ⟨b,0,none⟩=false):
 Calls Tryz.prog 117 #[.pointer (some ⟨b,0,none⟩)] w λe w'=>e= .returned (.tuple #[])/\w'=w.setCell ⟨b,0,none⟩ (.pointer (some ⟨b,0,none⟩)):=by
 have X:=Tryz.Ht.toX72
 obtain⟨j,hj,yJ⟩:=Option.map_eq_some_iff.1 X.sizeBuilder
 go_enter Tryz.func117,Tryz.ntmps117
 go_wp2
 rw[Lib.run_to_unsafe w ⟨b,0,none⟩ Tryz.underlying119 Tryz.underlying167 hj (by rw[yJ];decide) iq (Nat.zero_lt_succ 1)]
 simp only[Result.andThen]
 rw[Oper.upon_value]
 go_wp2
 rw[run_callFunc_extern Tryz.func139 (by kernel_rfl) (by kernel_rfl) (by kernel_rfl) (e:=Extern.AbiNoEscape.same) (by kernel_rfl)]
 rw[Lib.run_noEscape]
 simp only[Result.andThen]
 rw[Oper.upon_value]
 go_wp2
 rw[Lib.run_from_unsafe w ⟨b,0,none⟩ Tryz.underlying167 Tryz.underlying119 hj iq X.liesBuilder]
 simp only[Result.andThen]
 rw[Oper.upon_value]
 go_wp2
 go_end0
 exact⟨rfl,rfl⟩
theorem Tryz.Builder_copyCheck (B b:Nat) (bs:List Value) (w:World) (h:Lib.IsBuilder 121 5 B b bs w):
 Calls Tryz.prog 117 #[.pointer (some ⟨b,0,none⟩)] w λe w'=>e= .returned (.tuple #[])/\(Lib.BuilderAt 121 5 B b (.pointer (some ⟨b,0,none⟩)) bs w'/\Below B w w'):=by
 rcases h with h|h
 ·refine(Tryz.Builder_copyCheck_fresh b w h.cell0 h.shape h.frozen0).mono ?_
  rintro e w' ⟨rfl,rfl⟩
  exact⟨rfl,h.used _,(Below.refl B w).setCell (p:=⟨b,0,none⟩) h.1 _⟩
 ·refine(Tryz.Builder_copyCheck_used b w h.cell0).mono ?_
  rintro e w' ⟨rfl,rfl⟩
  exact⟨rfl,h,Below.refl B _⟩
set_option maxHeartbeats 2000000 in
set_option maxRecDepth 100000 in
theorem Tryz.Builder_WriteByte (B b:Nat) (bs:List Value) (c:Int) (w:World) (h:Lib.IsBuilder 121 5 B b bs w) (hlen:bs.length+1<=0x800000000000) (WC:B<=w.heap.size):
 Calls Tryz.prog 88 #[.pointer (some ⟨b,0,none⟩),.int .u8 c] w λe w'=>e= .returned .nilIface/\(Lib.BuilderAt 121 5 B b (.pointer (some ⟨b,0,none⟩)) (bs++[.int .u8 c]) w'/\Below B w w'):=by
 have X:=Tryz.Ht
 obtain⟨i0,hi,hz0,hz1,hz2⟩:=info_parts X.infoByte
 go_enter Tryz.func88,Tryz.ntmps88
 go_wp2_with (go_at_call 117;refine(Tryz.Builder_copyCheck B b bs _ h).mono ?_)
 rintro e w1 ⟨rfl,h1,hb1⟩
 obtain⟨hB,v,I2,hown,hne⟩:=h1
 have bW:w1.cell? ⟨b,0,none⟩=some (.pointer (some ⟨b,0,none⟩)):=by rw[Lib.cell_of_heap I2];rfl
 have c1:w1.cell? ⟨b,1,none⟩=some v:=by rw[Lib.cell_of_heap I2];rfl
 go_wp2_with (at_builtin;refine wpList_append_own _ rfl _ _ 63 rfl B 5 i0 (.int .u8 0) 1 1 Tryz.underlying63 hi hz0 hz1 hz2 rfl (by decide) _ _ _ rfl (hown.alloc _) ⟨w1.heap.size,0,none⟩ 1 1 [.int .u8 c] rfl rfl ?c1 ?c2 ?c3 ?c4 ?c5 ?_)
 case c1=>
  intro j u hj
  match j,hj with
  |0,hj=>simp at hj;subst hj;simp[Addr.add]
 case c2=>intro u hu;simp at hu;subst hu;rfl
 case c3=>unfold maxLen;omega
 case c4=>omega
 case c5=>have:=hb1.size;simp;omega
 intro v' w2 hown' hgrow _
 have hlt:b<w1.heap.size:=by
  rcases Nat.lt_or_ge b w1.heap.size with h'|h'
  ·exact h'
  ·simp[Array.getElem?_eq_none h']at I2
 have hb2:w2.heap[b]?=some (.cells #[.pointer (some ⟨b,0,none⟩),v] 121 (0,0)):=by
  rw[hgrow.block b (by simp;omega) (λe=>hne e.symm),Lib.alloc_old w1 _ b hlt]
  exact I2
 have d0:w2.cell? ⟨b,0,none⟩=some (.pointer (some ⟨b,0,none⟩)):=by rw[Lib.cell_of_heap hb2];rfl
 have d1:w2.cell? ⟨b,1,none⟩=some v:=by rw[Lib.cell_of_heap hb2];rfl
 have f1:w2.frozen? ⟨b,1,none⟩=false:=Lib.frozen_of_heap hb2 1
 obtain⟨g,cap,rfl⟩:∃g cap,v'= .slice (some ⟨g,0,none⟩) (bs.length+1) cap:=by
  rcases hown'.2 with⟨_,h0⟩|⟨g,cap,cur,hv,_⟩
  ·omega
  ·exact⟨g,cap,hv⟩
 go_wp2
 go_ret
 refine⟨rfl,?_,?_⟩
 ·exact Lib.BuilderAt.put (T:=121) (e:=5) hB hb2 (bs':=bs++[.int .u8 c]) (by simpa using hown') X.neB5
 ·exact((hb1.alloc (by have:=hb1.size;omega) _).grown hgrow (by have:=hb1.size;simp;omega) (λk hk=>(hown.lt k hk).1)).setCell (p:=⟨b,1,none⟩) hB _
end Go.Proofs
namespace Go.Proofs
open Go.RowKit Go.aX
theorem ame {T e:TypeId} {B b:Nat} {bs:List Value} {w w':World} (h:Lib.IsBuilder T e B b bs w) (hk:∀k,k<w.heap.size->w'.heap[k]?=w.heap[k]?):Lib.IsBuilder T e B b bs w':=by
 have lt:∀{k:Nat} {x:Obj},w.heap[k]?=some x->k<w.heap.size:=λ{k x} hx=>by
  rcases Nat.lt_or_ge k w.heap.size with h'|h'
  ·exact h'
  ·rw[Array.getElem?_eq_none h']at hx;cases hx
 have one:∀{q:Value},Lib.BuilderAt T e B b q bs w->Lib.BuilderAt T e B b q bs w':=λ{q} h=>by
  obtain⟨hB,v,hb,⟨rW,ny⟩,hne⟩:=h
  refine⟨hB,v,by rw[hk b (lt hb)];exact hb,⟨rW,?_⟩,hne⟩
  rcases ny with h|⟨g,cap,cur,h1,h2,h3,h4⟩
  ·exact .inl h
  ·exact .inr ⟨g,cap,cur,h1,h2,by rw[hk g (lt h3)];exact h3,h4⟩
 exact h.elim (λx=> .inl (one x)) λx=> .inr (one x)
theorem splice3 (l:au) (i n:Nat) (hn:n<=3) (mh:n=3∨n=l.length-i):splice [Value.int .u8 0,Value.int .u8 0,Value.int .u8 0] 0 ((List.range n).map λj=>Value.int .u8 (l.getD (i+j) 0).toNat)=[Value.int .u8 (l.getD i 0).toNat,Value.int .u8 (l.getD (i+1) 0).toNat,Value.int .u8 (l.getD (i+2) 0).toNat]:=by
 have z:∀j,l.length-i<=j->((l.getD (i+j) 0).toNat:Int)=0:=λj hj=>by
  rw[show l.getD (i+j) 0=0 by simp only[List.getD];rw[List.getElem?_eq_none (by omega)];rfl];rfl
 match n,hn with
 |0,_=>rcases mh with h|h<;>first|omega|(have z0:=z 0 (by omega);have af:=z 1 (by omega);have z2:=z 2 (by omega);rw[Nat.add_zero]at z0;rw[z0,af,z2];rfl)
 |1,_=>rcases mh with h|h<;>first|omega|(have af:=z 1 (by omega);have z2:=z 2 (by omega);rw[af,z2];rfl)
 |2,_=>rcases mh with h|h<;>first|omega|(have z2:=z 2 (by omega);rw[z2];rfl)
 |3,_=>rfl
open Go.aW in
theorem afr {x0 x1 x2:Int} (a0:0<=x0) (a1:x0<=255) (b0:0<=x1) (b1:x1<=255) (bW:0<=x2) (c1:x2<=255):bits BinOp.or IntKind.i64 (bits BinOp.or IntKind.i64 (wrap64 (wrap64 x0*65536)) (wrap64 (wrap64 x1*256))) (wrap64 x2)=65536*x0+256*x1+x2:=by
 have w:∀z:Int,0<=z->z<0x8000000000000000->wrap64 z=z:=λz h0 h1=>by unfold wrap64;omega
 rw[w x0 a0 (by omega),w x1 b0 (by omega),w x2 bW (by omega),w (x0*65536) (by omega) (by omega),w (x1*256) (by omega) (by omega)]
 have e1:bits BinOp.or IntKind.i64 (x0*65536) (x1*256)=65536*x0+256*x1:=by
  have h:aZ BinOp.or IntKind.i64 (x0*65536) (x1*256)=_:=Dj (k:= .i64) (x:=x0*65536) (y:=x1*256) (by omega) (by omega) (show _<(0x8000000000000000:Int) by omega) (show _<(0x8000000000000000:Int) by omega)
  have h2:bits BinOp.or IntKind.i64 (x0*65536) (x1*256)=aZ BinOp.or IntKind.i64 (x0*65536) (x1*256):=rfl
  rw[h2,h,FI (s:=65536) ⟨16,rfl⟩ (by omega) (by omega)];omega
 rw[e1]
 have h:aZ BinOp.or IntKind.i64 (65536*x0+256*x1) x2=_:=Dj (k:= .i64) (x:=65536*x0+256*x1) (y:=x2) (by omega) (by omega) (show _<(0x8000000000000000:Int) by omega) (show _<(0x8000000000000000:Int) by omega)
 have h2:bits BinOp.or IntKind.i64 (65536*x0+256*x1) x2=aZ BinOp.or IntKind.i64 (65536*x0+256*x1) x2:=rfl
 rw[h2,h,FI (s:=256) ⟨8,rfl⟩ (by omega) (by omega)];omega
open Go.aW in
theorem afq {x:Int} (h0:0<=x) (h1:x<0x8000000000000000):bits BinOp.and IntKind.i64 x 63=((x.toNat% 64:Nat):Int):=by
 have h:aZ BinOp.and IntKind.i64 x 63=_:=yd (k:= .i64) (x:=x) (y:=63) h0 (by decide) (show _<(0x8000000000000000:Int) by omega) (by decide)
 have h2:bits BinOp.and IntKind.i64 x 63=aZ BinOp.and IntKind.i64 x 63:=rfl
 rw[h2,h]
 exact congrArg Int.ofNat (Nat.and_two_pow_sub_one_eq_mod x.toNat 6)
theorem aar (a b c:UInt8) (r:au):eU (a::b::c::r)=fv (a.toNat/4)::fv (a.toNat% 4*16+b.toNat/16)::fv (b.toNat% 16*4+c.toNat/64)::fv (c.toNat% 64)::eU r:=by conv=>lhs;unfold eU
theorem ar8 {l:au} {i n:Nat} {x0 x1 x2 bN:Int} (hlt:i<l.length) (h1:1<=n) (h3:n<=3) (kr:n<=l.length-i) (mh:n=3∨n=l.length-i) (hx0:x0=(l.getD i 0).toNat) (hx1:x1=(l.getD (i+1) 0).toNat) (hx2:x2=(l.getD (i+2) 0).toNat) (hb:bN=65536*x0+256*x1+x2):
 eU (l.drop i)=(List.range (n+1)).map (λj=>fv ((bN/2^(18-6*j)).toNat% 64))++eU (l.drop (i+n)):=by
 have z:∀j,l.length<=j->((l.getD j 0).toNat:Int)=0:=λj hj=>by
  rw[show l.getD j 0=0 by simp only[List.getD];rw[List.getElem?_eq_none (by omega)];rfl];rfl
 have a1:=(l.getD i 0).toNat_lt
 have a2:=(l.getD (i+1) 0).toNat_lt
 have a3:=(l.getD (i+2) 0).toNat_lt
 have L:∀{u v:Nat},u=v->fv u=fv v:=λh=>congrArg fv h
 match n,h1,h3 with
 |1,_,_=>
  have hl:l.length=i+1:=by omega
  have d1:l.drop (i+1)=[]:=List.drop_eq_nil_of_le (by omega)
  rw[z (i+1) (by omega)]at hx1
  rw[z (i+2) (by omega)]at hx2
  rw[sQ l i hlt,d1]
  show [_,_]=[_,_]
  rw[L (show(l.getD i 0).toNat/4=(bN/2^(18-6*0)).toNat% 64 by show _=(bN/262144).toNat% 64;omega),L (show(l.getD i 0).toNat% 4*16=(bN/2^(18-6*1)).toNat% 64 by show _=(bN/4096).toNat% 64;omega)]
 |2,_,_=>
  have hl:l.length=i+2:=by omega
  have d2:l.drop (i+2)=[]:=List.drop_eq_nil_of_le (by omega)
  rw[z (i+2) (by omega)]at hx2
  rw[sQ l i hlt,sQ l (i+1) (by omega),d2]
  show [_,_,_]=[_,_,_]
  rw[L (show(l.getD i 0).toNat/4=(bN/2^(18-6*0)).toNat% 64 by show _=(bN/262144).toNat% 64;omega),L (show(l.getD i 0).toNat% 4*16+(l.getD (i+1) 0).toNat/16=(bN/2^(18-6*1)).toNat% 64 by show _=(bN/4096).toNat% 64;omega),L (show(l.getD (i+1) 0).toNat% 16*4=(bN/2^(18-6*2)).toNat% 64 by show _=(bN/64).toNat% 64;omega)]
 |3,_,_=>
  rw[sQ l i hlt,sQ l (i+1) (by omega),sQ l (i+2) (by omega),aar]
  show _::_::_::_::_=_::_::_::_::_
  rw[L (show(l.getD i 0).toNat/4=(bN/2^(18-6*0)).toNat% 64 by show _=(bN/262144).toNat% 64;omega),L (show(l.getD i 0).toNat% 4*16+(l.getD (i+1) 0).toNat/16=(bN/2^(18-6*1)).toNat% 64 by show _=(bN/4096).toNat% 64;omega),L (show(l.getD (i+1) 0).toNat% 16*4+(l.getD (i+2) 0).toNat/64=(bN/2^(18-6*2)).toNat% 64 by show _=(bN/64).toNat% 64;omega),L (show(l.getD (i+2) 0).toNat% 64=(bN/2^(18-6*3)).toNat% 64 by show _=(bN/1).toNat% 64;omega)]
  rfl
set_option maxHeartbeats 4000000 in
set_option maxRecDepth 1000000 in
theorem Tryz.agY (al:ByteArray) (dk:al.data.toList=x5) (l:au) (p:Option Addr) (g o cap:Nat) (w:World) (hp:0<l.length->p=some ⟨g,o,none⟩/\l.length<=cap/\∀j,j<l.length->w.cell? ⟨g,o+j,none⟩=some (.int .u8 (l.getD j 0).toNat)) (hl:l.length<=1099511627776):
 Calls Tryz.prog 61 #[.string al,.slice p l.length cap] w λe w'=>e= .returned (.string ⟨(eU l).toArray⟩)/\Below w.heap.size w w':=by
 go_enter Tryz.func61,Tryz.ntmps61
 go_wp2
 go_loopw [1] (λvs wr=>∃(i c:Nat) (q:Option Addr) (d:List UInt8),vs= .slice q (l.length-i) c/\i<=l.length/\(i<l.length->q=some ⟨g,o+i,none⟩/\l.length-i<=c)/\d.length<=4*i/\Hid (d++eU (l.drop i)=eU l)/\Lib.IsBuilder 121 5 w.heap.size w.heap.size (Lib.byteCells d) wr/\Below w.heap.size w wr) (λvs _=>match vs with| .slice _ n _=>n|_=>0)
 case atStart=>
  refine⟨0,cap,p,[],rfl,Nat.zero_le _,λh=>?_,Nat.zero_le _,rfl,Lib.fresh_isBuilder 121 5 w,(Below.refl _ w).alloc (Nat.le_refl _) _⟩
  obtain⟨h1,h2,_⟩:=hp (by omega)
  exact⟨h1,by omega⟩
 case round=>
  obtain⟨i,c,q,d,rfl,hi,hq,hd,hb,hI,wK⟩:=hrel
  by_cases hlt:i<l.length
  ·obtain⟨rfl,hc⟩:=hq hlt
   have hsz:(Tryz.prog.info? 5).map (·.size)=some 1:=by kernel_rfl
   obtain⟨_,_,hcell⟩:=hp (by omega)
   obtain⟨lQ,rfl⟩:∃lQ:World,lQ=wr:=⟨_,rfl⟩
   go_wp2
   obtain⟨n,hn⟩:∃n:Nat,n=min 3 (l.length-i):=⟨_,rfl⟩
   have Bb:min 3 ((l.length-i:Nat):Int)=(n:Int):=by omega
   rw[Bb]
   clear Bb
   have mN:1<=n:=by omega
   have rV:n<=3:=by omega
   have kr:n<=l.length-i:=by omega
   have mh:Hid (n=3∨n=l.length-i):=show n=3∨n=l.length-i by omega
   clear hn
   have XT:n<=c:=by omega
   have aki:g<w.heap.size:=block_lt_of_cell (hcell 0 (by omega))
   have hgo:¬g=lQ.heap.size:=by have:=wK.size;omega
   have hrow:∀W:World,W.heap=(lQ.alloc (.cells #[.int .u8 0,.int .u8 0,.int .u8 0] 122)).heap->W.heap[lQ.heap.size]?=some (.cells [.int .u8 0,.int .u8 0,.int .u8 0].toArray 122 (0,0)):=λW h=>by rw[h];show(lQ.heap.push _)[lQ.heap.size]?=_;rw[Array.getElem?_push_size]
   have th:∀W:World,W.heap=(lQ.alloc (.cells #[.int .u8 0,.int .u8 0,.int .u8 0] 122)).heap->∀j v,((List.range n).map λj=>Value.int .u8 (l.getD (i+j) 0).toNat)[j]?=some v->W.cell? ((⟨g,o+i,none⟩:Addr).add j)=some v:=λW h j v hj=>by
    rw[List.getElem?_map]at hj
    have n8:j<n:=by
     rcases Nat.lt_or_ge j n with h|h
     ·exact h
     ·rw[List.getElem?_eq_none (by simpa using h)]at hj;cases hj
    rw[List.getElem?_range n8]at hj
    simp only[Option.map_some,Option.some.injEq]at hj
    subst hj
    have e1:=hcell (i+j) (by omega)
    have e2:W.cell? ⟨g,o+(i+j),none⟩=w.cell? ⟨g,o+(i+j),none⟩:=by
     unfold World.cell?
     simp only[h]
     have:=Lib.alloc_old lQ (.cells #[.int .u8 0,.int .u8 0,.int .u8 0] 122) g (by have:=wK.size;omega)
     rw[this,wK.block g aki]
    rw[Addr.add_lit,Nat.add_assoc,e2,e1]
   go_region_law (refine step_copy_splice rfl (.tmp 16) (.tmp 19) 63 63 rfl 5 Tryz.underlying63 hsz (some ⟨lQ.heap.size,0,none⟩) (some ⟨g,o+i,none⟩) 3 3 n c (by simp[Act.eval,Act.put]) (by simp[Act.eval,Act.put]) lQ.heap.size 0 [.int .u8 0,.int .u8 0,.int .u8 0] 122 (hrow _ rfl) ((List.range n).map λj=>Value.int .u8 (l.getD (i+j) 0).toNat) (by simp only[List.length_map,List.length_range];exact(Nat.min_eq_left rV).symm) (λ_=>⟨rfl,_,rfl,th _ rfl⟩) (by simp;omega) (λv hv=>by simp at hv;obtain⟨_,_,rfl⟩:=hv;rfl) lQ.heap.size lQ ((Below.refl _ lQ).alloc (Nat.le_refl _) _).drew (Nat.le_refl _) ?_;intro w4 hg4 hb4)
   have hg4:w4.heap[lQ.heap.size]?=some (.cells (splice _ _ _).toArray 122 (0,0)):=hg4
   rw[splice3 l i n rV mh]at hg4
   obtain⟨x0,hx0⟩:∃x:Int,x=(l.getD i 0).toNat:=⟨_,rfl⟩
   obtain⟨x1,hx1⟩:∃x:Int,x=(l.getD (i+1) 0).toNat:=⟨_,rfl⟩
   obtain⟨x2,hx2⟩:∃x:Int,x=(l.getD (i+2) 0).toNat:=⟨_,rfl⟩
   rw[<-hx0,<-hx1,<-hx2]at hg4
   have bW:w4.cell? ⟨lQ.heap.size,0,none⟩=some (.int .u8 x0):=by rw[Lib.cell_of_heap hg4];rfl
   have c1:w4.cell? ⟨lQ.heap.size,1,none⟩=some (.int .u8 x1):=by rw[Lib.cell_of_heap hg4];rfl
   have c2:w4.cell? ⟨lQ.heap.size,2,none⟩=some (.int .u8 x2):=by rw[Lib.cell_of_heap hg4];rfl
   have ah8:Below w.heap.size w w4:=wK.trans (hb4.mono wK.size)
   have aij:=ame hI (λk hk=>hb4.block k hk)
   obtain⟨q',hq',akY⟩:∃q',(if c=n then some (⟨g,o+i,none⟩:Addr)else some ⟨g,o+i+n,none⟩)=q'/\Hid (i+n<l.length->q'=some ⟨g,o+(i+n),none⟩):=⟨_,rfl,λh=>by rw[if_neg (by omega),Nat.add_assoc]⟩
   replace hx0:Hid _:=hx0
   replace hx1:Hid _:=hx1
   replace hx2:Hid _:=hx2
   clear hgo hrow th
   go_wp2
   obtain⟨bN,D7⟩:∃bN:Int,bits BinOp.or IntKind.i64 (bits BinOp.or IntKind.i64 (wrap64 (wrap64 x0*65536)) (wrap64 (wrap64 x1*256))) (wrap64 x2)=bN:=⟨_,rfl⟩
   rw[D7]
   have kU:x0=(l.getD i 0).toNat:=hx0
   have eb:x1=(l.getD (i+1) 0).toNat:=hx1
   have gP:x2=(l.getD (i+2) 0).toNat:=hx2
   have u0:=(l.getD i 0).toNat_lt
   have fO:=(l.getD (i+1) 0).toNat_lt
   have lP:=(l.getD (i+2) 0).toNat_lt
   have Xh:bN=65536*x0+256*x1+x2:=by rw[<-D7];exact afr (by omega) (by omega) (by omega) (by omega) (by omega) (by omega)
   have OP:Hid (eU (l.drop i)=_):=ar8 hlt mN rV kr mh kU eb gP Xh
   have hbl:0<=bN:=by omega
   have Xe:bN<16777216:=by omega
   have ajE:al.size=64:=by show al.data.size=64;rw[<-Array.length_toList,dk];rfl
   clear Xh kU eb gP u0 fO lP
   clear D7
   have hw4:lQ.heap.size<=w4.heap.size:=hb4.size
   clear hg4 bW c1 c2 hq' hcell hI wK hb4
   go_loopw [39] (λv fG=>∃k:Nat,v= .int .i64 k/\k<=n+1/\Lib.IsBuilder 121 5 w.heap.size w.heap.size (Lib.byteCells (d++(List.range k).map λj=>fv ((bN/2^(18-6*j)).toNat% 64))) fG/\Below w.heap.size w fG) (λv _=>n+1-(RowKit.intOf v).toNat)
   case atStart=>
    refine⟨0,rfl,by omega,by simpa using aij,ah8⟩
   case round=>
    obtain⟨k,rfl,hk,D0,DY⟩:=hrel
    by_cases qa:k<n+1
    ·obtain⟨m,hm⟩:∃m:Nat,m=(bN/2^(18-6*k)).toNat% 64:=⟨_,rfl⟩
     have mi:(0:Int)<2^(18-6*k):=Int.pow_pos (by decide)
     have qP:0<=bN/2^(18-6*k):=Int.ediv_nonneg hbl (by omega)
     have nA:bN/2^(18-6*k)<=bN:=Int.ediv_le_self _ hbl
     have hand:bits BinOp.and IntKind.i64 (bN/2^(18-6*k)) 63=(m:Int):=by rw[hm];exact afq qP (by omega)
     have akA:m<al.size:=by rw[ajE,hm];exact Nat.mod_lt _ (by decide)
     have aAS:((al[m]).toNat:Int)=(fv m).toNat:=by
      have:al[m]=fv m:=by
       have e:al.data.toList.getD m 0=al[m]:=by
        simp only[List.getD,List.getElem?_eq_getElem (show m<al.data.toList.length by rw[Array.length_toList];exact akA),Option.getD_some]
        rfl
       rw[<-e,dk];rfl
      rw[this]
     replace hm:Hid _:=hm
     clear mi qP nA
     go_wp2_with (go_at_call 88;refine(Tryz.Builder_WriteByte w.heap.size w.heap.size _ _ _ D0 (by rw[Lib.byteCells_length,List.length_append,List.length_map,List.length_range];omega) DY.size).mono ?_)
     rintro e dy ⟨rfl,h1,b1⟩
     go_wp2
     go_roundw
     case rel=>
      refine⟨k+1,by simp,by omega,?_,DY.trans b1⟩
      have hm:m=(bN/2^(18-6*k)).toNat% 64:=hm
      rw[List.range_succ,List.map_append,<-List.append_assoc,Lib.byteCells_append]
      rw[hm]at h1
      exact Or.inr h1
     case measure=>simp[intOf];omega
    ·have hk2:k=n+1:=by omega
     subst hk2
     go_wp2
     go_roundw
     case rel=>
      have OP:eU (l.drop i)=_:=OP
      have hb:d++eU (l.drop i)=eU l:=hb
      refine⟨i+n,c-n,q',_,by rw[Nat.sub_sub],by omega,λh=>⟨akY h,by omega⟩,?_,?_,D0,DY⟩
      ·rw[List.length_append,List.length_map,List.length_range];omega
      ·show _=_
       rw[List.append_assoc,<-OP,hb]
     case measure=>simp;omega
  ·have hz:l.length-i=0:=by omega
   have hI:Lib.IsBuilder 121 5 w.heap.size w.heap.size (Lib.byteCells d) wr:=hI
   rw[hz]
   go_wp2_with (go_at_call 89;refine(Tryz.Builder_String_any w.heap.size w.heap.size d _ hI wK.size).mono ?_)
   rintro e W1 ⟨rfl,b1⟩
   go_wp2
   go_ret
   have hb:d++eU (l.drop i)=eU l:=hb
   rw[List.drop_of_length_le (by omega)]at hb
   have hb:d++[]=eU l:=hb
   rw[List.append_nil]at hb
   exact⟨by rw[<-hb];rfl,wK.trans b1⟩
end Go.Proofs
namespace Go.aX
open Go Go.aW Go.Proofs Go.RowKit
theorem aat:∀l:au,(eU l).length<=2*l.length
 |[]=>by simp[eU]
 |[_]=>by simp[eU]
 |[_,_]=>by simp[eU]
 |a::b::c::r=>by
  have:=aat r
  rw[Go.Proofs.aar];simp;omega
theorem apn {wb:World}:du wb JM:=by
 refine⟨λargs w=>enters (by kernel_rfl) _ _,λF w vs zs hw hz gf hat=>?_⟩
 match zs,hz,vs,hat with
 |[r],hz,[v0,v1],hat=>
  obtain⟨h0,h1,_⟩:=hat
  have gf:(ab r).length<=1099511627776:=gf
  have h0:v0= .string (az x5):=h0
  have h1:fK F w [.int .u8 0 255] (ab r) v1:=h1
  have hlen:=U1 r
  obtain⟨p,g,o,cap,hv,hp⟩:∃(p:Option Addr) (g o cap:Nat),v1= .slice p (cK r).length cap/\(0<(cK r).length->p=some ⟨g,o,none⟩/\(cK r).length<=cap/\∀j,j<(cK r).length->w.cell? ⟨g,o+j,none⟩=some (.int .u8 ((cK r).getD j 0).toNat)):=by
   rcases h1 with⟨⟨p1,h1⟩,h2⟩|⟨g,o,cap,cells,t,fz,h1,⟨h2,_⟩,_,h3,h4⟩
   ·exact⟨p1,0,0,0,by rw[h1,hlen,h2];rfl,λh=>by rw[hlen,h2]at h;simp at h⟩
   ·refine⟨some ⟨g,o,none⟩,g,o,cap,by rw[h1,hlen],λ_=>⟨rfl,by omega,λj hj=>?_⟩⟩
    have hj':j<(ab r).length:=by omega
    have hrow:=List.getElem?_eq_getElem hj'
    obtain⟨z,z0,af,z2,z3⟩:=(h4.1 _ (List.getElem_mem hj')).get (j:=0) (c:= .int .u8 0 255) rfl
    have hc:=((k0 rfl).1 h4).get hrow z3
    have hb:=U0 (z:=r) (i:=j) (v:=z) af z2 (by simp only[List.getD,hrow,Option.getD_some,z0])
    have hz':((((cK r).getD j 0).toNat:Nat):Int)=z:=by rw[hb];exact Int.toNat_of_nonneg af
    rw[hz']
    have hc:cells[o+j]?=some (.int .u8 z):=by simpa [av.val]using hc
    unfold World.cell?
    rw[h3]
    exact hc
  subst h0 hv
  refine(Tryz.agY (az x5) (by simp[az]) (cK r) p g o cap w hp (by omega)).mono ?_
  rintro e w' ⟨rfl,hb⟩
  have hl:=aat (cK r)
  refine⟨ag6 hb,[cT (eU (cK r))],[.string ⟨(eU (cK r)).toArray⟩],⟨(U7 (l:=eU (cK r)) hl (by omega)).1,(U7 (l:=eU (cK r)) hl (by omega)).2,trivial⟩,?_,⟨?_,trivial⟩,rfl⟩
  ·show aa (cT (eU (cK r)))=eU (cK r)
   exact fj _
  ·show Value.string _=Value.string (az (aa (cT (eU (cK r)))))
   rw[fj];rfl
end Go.aX
set_option linter.unusedSimpArgs false
namespace Go.Proofs
open Go.RowKit Go.aW
section
variable {P:Program}
end
theorem Cq (w:World) (g:Nat) (a:Array Value):ik w (w.setRow g a) (some g):=
 ⟨rfl,rfl,rfl,by simp[World.setRow],λk hk hne=>setRow_other w g k a (λe=>hne (by rw[e]))⟩
end Go.Proofs
namespace Go.Proofs
open Go.RowKit Go.aW
section
variable {P:Program}
theorem KU (w:World) (Vm atB ty e:TypeId) (i:TypeInfo) (hu:P.underlying Vm=some (.slice e)) (hi:P.info? e=some i) (g o Io agn:Nat) (a:Addr) (kT vu:Nat) (cur:Array Value) (t:TypeId) (cs:List Value)
 (hg:w.heap[g]?=some (.cells cur t (0,0))) (hn:cs.length=Nat.min kT Io*i.size) (th:∀j v,cs[j]?=some v->w.cell? (a.add j)=some v) (s7:o+cs.length<=cur.size) (h1:∀v∈cs,v.oneCell'=true):
 (Builtin.copy_ #[Vm,atB] ty #[.slice (some ⟨g,o,none⟩) Io agn,.slice (some a) kT vu]).run P w= .ok (goInt (Nat.min kT Io)) (w.setRow g (cur.toList.take o++cs++cur.toList.drop (o+cs.length)).toArray):=by
 have hst:=run_storeCells_at P g o t cs 0 cur w hg (by simpa using s7) h1
 rw[Nat.add_zero]at hst
 have hf:=run_firstCells_some (P:=P) w i.size (Nat.min kT Io) a kT vu cs hn th
 simp[Builtin.copy_,run_underlying hu,Builtin.lenOf,sizeOf,typeInfo,hi,hf,hst]
theorem K9 {ops:Array Oper} {o:Oper} {a:Act} {w:World} {K:Act->World->Prop} {Q:Exit->Act->World->Prop} {E:Prop}
 (hg:o.guard=none) (s x:Operand) (t t':TypeId) (hop:o.op=Op.call {callee:=Callee.builtin Builtin.copy,args:=#[s,x],argTypes:=#[t,t']}) (u v:Value) (hs:a.eval s=u) (hx:a.eval x=v) {r:Value} {w':World}
 (hr:(Builtin.copy_ #[t,t'] o.type #[u,v]).run P w= .ok r w') (hK:K (a.put o.dst r) w'):if Region.wanted o (yielded ops a.tmps)=true then Oper.wp P o a w K Q else E:=by
 have hw:Region.wanted o (yielded ops a.tmps)=true:=by simp[Region.wanted,hg]
 rw[if_pos hw]
 unfold Oper.wp
 simp[execOp,hop,resolve,invoke,builtin,hs,hx,hr,Result.andThen]
 exact hK
theorem tP {w:World} {ops:Array Oper} {rest:List Oper} {o:Oper} {a:Act} {Q:Exit->Act->World->Prop} (hgd:o.guard=none) (s x:Operand) (t t':TypeId)
 (ho:o.op= .call {callee:= .builtin .append,args:=#[s,x],argTypes:=#[t,t']}) (u v:Value) (hs:a.eval s=u) (hx:a.eval x=v) {r:Value} {w':World}
 (hr:(Builtin.append_ #[t,t'] o.type #[u,v]).run P w= .ok r w') (h:wpList P ops Q rest (a.put o.dst r) w'):wpList P ops Q (o::rest) a w:=by
 refine wpList_plain hgd λK hK=>?_
 unfold Oper.wp
 simp[execOp,ho,resolve,invoke,builtin,hs,hx,hr,Result.andThen]
 exact hK _ _ h
end
set_option maxHeartbeats 4000000 in
set_option maxRecDepth 1000000 in
theorem Tryz.ama (g n cap:Nat) (A:Addr) (vc:Nat) (r:Value) (w W1:World) (hn:n<=cap) (cv:cap<=0x7fffffffffffffff)
 (hH:∀ty,(Builtin.append_ #[28,28] ty #[.slice (some ⟨g,0,none⟩) n cap,.slice (some A) 1 vc]).run Tryz.prog w= .ok r W1):
 Calls Tryz.prog 74 #[.slice (some ⟨g,0,none⟩) n cap,.int .i64 n,.slice (some A) 1 vc] w λe w'=>e= .returned r/\w'=W1:=by
 obtain⟨B,hB⟩:∃B,(if cap=n then some (⟨g,0,none⟩:Addr)else some ⟨g,n*5,none⟩)=B:=⟨_,rfl⟩
 go_enter Tryz.func74,Tryz.ntmps74
 go_wp2_with (at_builtin;refine tP rfl (.tmp 23) (.tmp 24) 28 28 rfl _ _ rfl rfl (hH _) ?_)
 go_wp2
 all_goals (go_ret;exact⟨rfl,rfl⟩)
set_option maxHeartbeats 4000000 in
set_option maxRecDepth 1000000 in
theorem Tryz.insert_nil (A:Addr) (vc:Nat) (r:Value) (w W1:World)
 (hH:∀ty,(Builtin.append_ #[28,28] ty #[.slice none 0 0,.slice (some A) 1 vc]).run Tryz.prog w= .ok r W1):
 Calls Tryz.prog 74 #[.slice none 0 0,.int .i64 0,.slice (some A) 1 vc] w λe w'=>e= .returned r/\w'=W1:=by
 go_enter Tryz.func74,Tryz.ntmps74
 go_wp2_with (at_builtin;refine tP rfl (.tmp 23) (.tmp 24) 28 28 rfl _ _ rfl rfl (hH _) ?_)
 go_wp2
 all_goals (go_ret;exact⟨rfl,rfl⟩)
set_option maxHeartbeats 4000000 in
set_option maxRecDepth 1000000 in
theorem Tryz.amb (g n cap i G C:Nat) (A:Addr) (vc:Nat) (r1 r2:Value) (w W1 W2 W3:World) (de:i<n) (hn:n<=cap) (hroom:cap<n+1) (hC:n+1<=C) (dY:n<=1073741824)
 (hH:∀ty,(Builtin.append_ #[28,3] ty #[.slice (some ⟨g,0,none⟩) i cap,.int .i64 ((n:Int)+1-(i:Int))]).run Tryz.prog w= .ok (.slice (some ⟨G,0,none⟩) (n+1) C) W1)
 (nu:∀ty,(Builtin.copy_ #[28,28] ty #[.slice (some ⟨G,i*5,none⟩) (n+1-i) (C-i),.slice (some A) 1 vc]).run Tryz.prog W1= .ok r1 W2)
 (p4:∀ty,(Builtin.copy_ #[28,28] ty #[.slice (some ⟨G,(i+1)*5,none⟩) (n+1-(i+1)) (C-(i+1)),.slice (some ⟨g,i*5,none⟩) (n-i) (cap-i)]).run Tryz.prog W2.drew= .ok r2 W3):
 Calls Tryz.prog 74 #[.slice (some ⟨g,0,none⟩) n cap,.int .i64 i,.slice (some A) 1 vc] w λe w'=>e= .returned (.slice (some ⟨G,0,none⟩) (n+1) C)/\w'=W3:=by
 have f1:¬cap=i:=by omega
 have f2:¬C=i:=by omega
 have f3:¬C=i+1:=by omega
 have f4:i<=cap:=by omega
 have f5:¬((i:Int)=(n:Int)):=by omega
 have f6:(cap:Int)<(n:Int)+1:=by omega
 have f7:i<=C:=by omega
 have f8:i+1<=C:=by omega
 have f9:((i:Int)+1).toNat=i+1:=by omega
 have f10:(0:Int)<=(i:Int)+1:=by omega
 have f11:(i:Int)+1<=(n:Int)+1:=by omega
 have f12:i<=n:=by omega
 have f13:IntKind.i64.wrap ((i:Int)+1)=(i:Int)+1:=by rw[IntKind.wrap_i64];omega
 go_enter Tryz.func74,Tryz.ntmps74
 go_wp2_with (first
  |(at_builtin;refine tP rfl (.tmp 34) (.tmp 39) 28 3 rfl _ _ rfl rfl (hH _) ?_)
  |(at_builtin;refine Sf rfl (.tmp 43) (.tmp 44) 28 28 rfl _ _ rfl rfl (nu _) ?_))
 go_region_law (refine K9 rfl (.tmp 50) (.tmp 53) 28 28 rfl (.slice (some ⟨G,(i+1)*5,none⟩) (n+1-(i+1)) (C-(i+1))) (.slice (some ⟨g,i*5,none⟩) (n-i) (cap-i)) (by simp[Act.eval,Act.put]) (by simp[Act.eval,Act.put]) (p4 _) ?_)
 go_wp2
 go_ret
 exact⟨rfl,rfl⟩
set_option maxHeartbeats 4000000 in
set_option maxRecDepth 1000000 in
theorem Tryz.amc (g n cap i:Nat) (A:Addr) (vc:Nat) (r1 r2:Value) (w W1 W2:World) (de:i<n) (hn:n+1<=cap) (dY:n<=1073741824)
 (Jl:(callFunc 103 #[.slice (some A) 1 vc,.slice (some ⟨g,(i+1)*5,none⟩) (n-i) (cap-(i+1))]).run Tryz.prog w= .ok (.value (.bool false)) w)
 (nu:∀ty,(Builtin.copy_ #[28,28] ty #[.slice (some ⟨g,(i+1)*5,none⟩) (n+1-(i+1)) (cap-(i+1)),.slice (some ⟨g,i*5,none⟩) (n+1-i) (cap-i)]).run Tryz.prog w.drew= .ok r1 W1)
 (p4:∀ty,(Builtin.copy_ #[28,28] ty #[.slice (some ⟨g,i*5,none⟩) (n+1-i) (cap-i),.slice (some A) 1 vc]).run Tryz.prog W1= .ok r2 W2):
 Calls Tryz.prog 74 #[.slice (some ⟨g,0,none⟩) n cap,.int .i64 i,.slice (some A) 1 vc] w λe w'=>e= .returned (.slice (some ⟨g,0,none⟩) (n+1) cap)/\w'=W2:=by
 have f1:¬cap=i:=by omega
 have f3:¬cap=i+1:=by omega
 have f4:i<=cap:=by omega
 have f5:¬((i:Int)=(n:Int)):=by omega
 have f6:¬(cap:Int)<(n:Int)+1:=by omega
 have f8:i+1<=cap:=by omega
 have f9:((i:Int)+1).toNat=i+1:=by omega
 have f10:(0:Int)<=(i:Int)+1:=by omega
 have f11:(i:Int)+1<=(n:Int)+1:=by omega
 have f12:i<=n:=by omega
 have f13:IntKind.i64.wrap ((i:Int)+1)=(i:Int)+1:=by rw[IntKind.wrap_i64];omega
 have f14:((n:Int)+1).toNat=n+1:=by omega
 have f15:(n:Int)+1<=(cap:Int):=by omega
 have f16:i<=n+1:=by omega
 have f17:(i:Int)<=(n:Int)+1:=by omega
 go_enter Tryz.func74,Tryz.ntmps74
 go_wp2
 go_region_law (refine K9 rfl (.tmp 73) (.tmp 76) 28 28 rfl (.slice (some ⟨g,(i+1)*5,none⟩) (n+1-(i+1)) (cap-(i+1))) (.slice (some ⟨g,i*5,none⟩) (n+1-i) (cap-i)) (by simp[Act.eval,Act.put]) (by simp[Act.eval,Act.put]) (nu _) ?_)
 go_wp2_with (at_builtin;refine Sf rfl (.tmp 80) (.tmp 81) 28 28 rfl _ _ rfl rfl (p4 _) ?_)
 go_wp2
 go_ret
 exact⟨rfl,rfl⟩
end Go.Proofs
namespace Go.Proofs
open Go.RowKit Go.aW
set_option maxHeartbeats 4000000 in
set_option maxRecDepth 1000000 in
theorem Tryz.al7 (g n cap:Nat) (A:Addr) (vc:Nat) (r:Value) (w W1:World) (hn:n<=cap) (cv:cap<=0x7fffffffffffffff)
 (hH:∀ty,(Builtin.append_ #[23,23] ty #[.slice (some ⟨g,0,none⟩) n cap,.slice (some A) 1 vc]).run Tryz.prog w= .ok r W1):
 Calls Tryz.prog 73 #[.slice (some ⟨g,0,none⟩) n cap,.int .i64 n,.slice (some A) 1 vc] w λe w'=>e= .returned r/\w'=W1:=by
 obtain⟨B,hB⟩:∃B,(if cap=n then some (⟨g,0,none⟩:Addr)else some ⟨g,n*1,none⟩)=B:=⟨_,rfl⟩
 go_enter Tryz.func73,Tryz.ntmps73
 go_wp2_with (at_builtin;refine tP rfl (.tmp 23) (.tmp 24) 23 23 rfl _ _ rfl rfl (hH _) ?_)
 go_wp2
 all_goals (go_ret;exact⟨rfl,rfl⟩)
set_option maxHeartbeats 4000000 in
set_option maxRecDepth 1000000 in
theorem Tryz.aA5 (A:Addr) (vc:Nat) (r:Value) (w W1:World)
 (hH:∀ty,(Builtin.append_ #[23,23] ty #[.slice none 0 0,.slice (some A) 1 vc]).run Tryz.prog w= .ok r W1):
 Calls Tryz.prog 73 #[.slice none 0 0,.int .i64 0,.slice (some A) 1 vc] w λe w'=>e= .returned r/\w'=W1:=by
 go_enter Tryz.func73,Tryz.ntmps73
 go_wp2_with (at_builtin;refine tP rfl (.tmp 23) (.tmp 24) 23 23 rfl _ _ rfl rfl (hH _) ?_)
 go_wp2
 all_goals (go_ret;exact⟨rfl,rfl⟩)
set_option maxHeartbeats 4000000 in
set_option maxRecDepth 1000000 in
theorem Tryz.al8 (g n cap i G C:Nat) (A:Addr) (vc:Nat) (r1 r2:Value) (w W1 W2 W3:World) (de:i<n) (hn:n<=cap) (hroom:cap<n+1) (hC:n+1<=C) (dY:n<=1073741824)
 (hH:∀ty,(Builtin.append_ #[23,3] ty #[.slice (some ⟨g,0,none⟩) i cap,.int .i64 ((n:Int)+1-(i:Int))]).run Tryz.prog w= .ok (.slice (some ⟨G,0,none⟩) (n+1) C) W1)
 (nu:∀ty,(Builtin.copy_ #[23,23] ty #[.slice (some ⟨G,i*1,none⟩) (n+1-i) (C-i),.slice (some A) 1 vc]).run Tryz.prog W1= .ok r1 W2)
 (p4:∀ty,(Builtin.copy_ #[23,23] ty #[.slice (some ⟨G,(i+1)*1,none⟩) (n+1-(i+1)) (C-(i+1)),.slice (some ⟨g,i*1,none⟩) (n-i) (cap-i)]).run Tryz.prog W2.drew= .ok r2 W3):
 Calls Tryz.prog 73 #[.slice (some ⟨g,0,none⟩) n cap,.int .i64 i,.slice (some A) 1 vc] w λe w'=>e= .returned (.slice (some ⟨G,0,none⟩) (n+1) C)/\w'=W3:=by
 have f1:¬cap=i:=by omega
 have f2:¬C=i:=by omega
 have f3:¬C=i+1:=by omega
 have f4:i<=cap:=by omega
 have f5:¬((i:Int)=(n:Int)):=by omega
 have f6:(cap:Int)<(n:Int)+1:=by omega
 have f7:i<=C:=by omega
 have f8:i+1<=C:=by omega
 have f9:((i:Int)+1).toNat=i+1:=by omega
 have f10:(0:Int)<=(i:Int)+1:=by omega
 have f11:(i:Int)+1<=(n:Int)+1:=by omega
 have f12:i<=n:=by omega
 have f13:IntKind.i64.wrap ((i:Int)+1)=(i:Int)+1:=by rw[IntKind.wrap_i64];omega
 simp only[Nat.mul_one]at nu p4
 go_enter Tryz.func73,Tryz.ntmps73
 go_wp2_with (first
  |(at_builtin;refine tP rfl (.tmp 34) (.tmp 39) 23 3 rfl _ _ rfl rfl (hH _) ?_)
  |(at_builtin;refine Sf rfl (.tmp 43) (.tmp 44) 23 23 rfl _ _ rfl rfl (nu _) ?_))
 go_region_law (refine K9 rfl (.tmp 50) (.tmp 53) 23 23 rfl (.slice (some ⟨G,i+1,none⟩) (n+1-(i+1)) (C-(i+1))) (.slice (some ⟨g,i,none⟩) (n-i) (cap-i)) (by simp[Act.eval,Act.put]) (by simp[Act.eval,Act.put]) (p4 _) ?_)
 go_wp2
 go_ret
 exact⟨rfl,rfl⟩
set_option maxHeartbeats 4000000 in
set_option maxRecDepth 1000000 in
theorem Tryz.al9 (g n cap i:Nat) (A:Addr) (vc:Nat) (r1 r2:Value) (w W1 W2:World) (de:i<n) (hn:n+1<=cap) (dY:n<=1073741824)
 (Jl:(callFunc 101 #[.slice (some A) 1 vc,.slice (some ⟨g,(i+1)*1,none⟩) (n-i) (cap-(i+1))]).run Tryz.prog w= .ok (.value (.bool false)) w)
 (nu:∀ty,(Builtin.copy_ #[23,23] ty #[.slice (some ⟨g,(i+1)*1,none⟩) (n+1-(i+1)) (cap-(i+1)),.slice (some ⟨g,i*1,none⟩) (n+1-i) (cap-i)]).run Tryz.prog w.drew= .ok r1 W1)
 (p4:∀ty,(Builtin.copy_ #[23,23] ty #[.slice (some ⟨g,i*1,none⟩) (n+1-i) (cap-i),.slice (some A) 1 vc]).run Tryz.prog W1= .ok r2 W2):
 Calls Tryz.prog 73 #[.slice (some ⟨g,0,none⟩) n cap,.int .i64 i,.slice (some A) 1 vc] w λe w'=>e= .returned (.slice (some ⟨g,0,none⟩) (n+1) cap)/\w'=W2:=by
 have f1:¬cap=i:=by omega
 have f3:¬cap=i+1:=by omega
 have f4:i<=cap:=by omega
 have f5:¬((i:Int)=(n:Int)):=by omega
 have f6:¬(cap:Int)<(n:Int)+1:=by omega
 have f8:i+1<=cap:=by omega
 have f9:((i:Int)+1).toNat=i+1:=by omega
 have f10:(0:Int)<=(i:Int)+1:=by omega
 have f11:(i:Int)+1<=(n:Int)+1:=by omega
 have f12:i<=n:=by omega
 have f13:IntKind.i64.wrap ((i:Int)+1)=(i:Int)+1:=by rw[IntKind.wrap_i64];omega
 have f14:((n:Int)+1).toNat=n+1:=by omega
 have f15:(n:Int)+1<=(cap:Int):=by omega
 have f16:i<=n+1:=by omega
 have f17:(i:Int)<=(n:Int)+1:=by omega
 simp only[Nat.mul_one]at Jl nu p4
 go_enter Tryz.func73,Tryz.ntmps73
 go_wp2
 go_region_law (refine K9 rfl (.tmp 73) (.tmp 76) 23 23 rfl (.slice (some ⟨g,i+1,none⟩) (n+1-(i+1)) (cap-(i+1))) (.slice (some ⟨g,i,none⟩) (n+1-i) (cap-i)) (by simp[Act.eval,Act.put]) (by simp[Act.eval,Act.put]) (nu _) ?_)
 go_wp2_with (at_builtin;refine Sf rfl (.tmp 80) (.tmp 81) 23 23 rfl _ _ rfl rfl (p4 _) ?_)
 go_wp2
 go_ret
 exact⟨rfl,rfl⟩
end Go.Proofs
namespace Go.aX
open Go Go.aW Go.Proofs Go.RowKit
theorem K4 (w:World) (o:Obj) (own:Option Nat):ik w (w.drew.alloc o) own:=
 have h:=(World.Extends.refl w.drew).alloc o
 ⟨h.os,h.tape,h.output,h.size,λk hk _=>h.block k hk⟩
theorem ik.Ld {w w1 w2:World} {own:Option Nat} {g:Nat} (h:ik w w1 own) (h2:ik w1 w2 (some g)) (hg:own=some g∨w.heap.size<=g):ik w w2 own:=by
 obtain⟨a1,a2,a3,a4,a5⟩:=h
 obtain⟨b1,b2,b3,b4,fU⟩:=h2
 refine⟨b1.trans a1,b2.trans a2,b3.trans a3,Nat.le_trans a4 b4,λk hk hne=>?_⟩
 rw[fU k (Nat.lt_of_lt_of_le hk a4) (λe=>?_),a5 k hk hne]
 cases e
 rcases hg with hg|hg
 ·exact hne hg
 ·omega
theorem ik.agB {w w1:World} {own:Option Nat} (h:ik w w1 own):ik w w1.drew own:=h
theorem atu {P:Program} (w:World) (cA auy e:TypeId) (ht:P.underlying cA=some (.slice e)) (size:Nat) (hz:∀w,(Go.sizeOf e).run P w= .ok size w)
 (a b:Addr) (la ca lb cb:Nat) (hne:a.block≠b.block) (wm Dq:Array Value) (tL qo:TypeId) (ag9:Nat×Nat)
 (hA:w.heap[a.block]?=some (.cells wm tL ag9)) (hB:w.heap[b.block]?=some (.cells Dq qo (0,0))) (h0:wm.size≠0):
 (Extern.SlicesOverlaps.overlaps #[cA,cA] #[auy] #[.slice (some a) la ca,.slice (some b) lb cb]).run P w= .ok (.bool false) w:=by
 have O5:(a.block != b.block)=true:=by simpa using hne
 have akE:(a.block==b.block)=false:=by simpa using hne
 have X7:w.shape? a.block=some (tL,wm.size):=by unfold World.shape?;rw[hA]
 have ak7:w.shape? b.block=some (qo,Dq.size):=by unfold World.shape?;rw[hB]
 have aj8:∀o,w.frozen? ⟨b.block,o,none⟩=false:=λo=>by unfold World.frozen?;simp only[hB];simp
 have aj9:w.frozen? b=false:=by unfold World.frozen?;simp only[hB];simp
 change Sem.run P (α:=Value) (do
  let some t:=(#[cA,cA]:Array TypeId)[0]?|stuck "slices.overlaps: no parameter types"
  let .slice elem<-underlying t|stuck "slices.overlaps: slice type expected"
  let size<-Go.sizeOf elem
  match(some a:Option Addr),(some b:Option Addr)with
  |some a,some b=>
   if la=0∨lb=0∨size=0 then pure (Value.bool false)
   else if a.block != b.block&&(<-frozen a)&&(<-frozen b)then unsupported .addressObserved
   else do
    if a.block != b.block then do
     noView a;noView b
     if<-mayBeOne a b then return Value.bool ((<-choose (.extern "sameAddr.stringBytes" 2))==1)
    pure (Value.bool (a.block==b.block&&a.off<b.off+lb*size&&b.off<a.off+la*size))
  |_,_=>pure (Value.bool false)) w=_
 by_cases hl:la=0∨lb=0∨size=0
 ·simp[run_underlying ht,hz,hl]
 ·obtain⟨amt,ako⟩:∃k,wm.size=k+1:=⟨wm.size-1,by omega⟩
  rw[ako]at X7
  cases h1:w.frozen? a<;>cases h2:w.frozen? ⟨a.block,amt+1,none⟩<;>simp[run_underlying ht,hz,hl,O5,akE,frozen,noView,viewAt,mayBeOne,stringish,shape,Sem.run,X7,ak7,aj8,aj9,h1,h2]
theorem as0 {α:Type} {cells jB L2 N rest:List α} {x y z:Nat} (h:cells=jB++L2++rest) (h1:jB.length=x) (hy:z<=cells.length) (hN:N=N) (hz:z=x+y):
 (cells.take z++L2++cells.drop (z+L2.length)).toArray.toList.take x++N++(cells.take z++L2++cells.drop (z+L2.length)).toArray.toList.drop (x+y)=jB++N++L2++cells.drop (z+L2.length):=by
 simp only
 have e1:(cells.take z++L2++cells.drop (z+L2.length)).take x=jB:=by
  rw[List.append_assoc,List.take_append_of_le_length (by rw[List.length_take];omega),List.take_take,Nat.min_eq_left (by omega),h,List.append_assoc,List.take_append_of_le_length (by omega),List.take_of_length_le (by omega)]
 have e2:(cells.take z++L2++cells.drop (z+L2.length)).drop (x+y)=L2++cells.drop (z+L2.length):=by
  rw[List.append_assoc,<-hz]
  have:(cells.take z).length=z:=by rw[List.length_take];omega
  conv=>lhs;arg 1;rw[<-this]
  rw[List.drop_left]
 rw[e1,e2]
 simp
theorem ahB {α:Type} {jB L2 N D:List α} {x y:Nat} (h1:jB.length=x) (hN:N.length=y):
 (jB++N++D).toArray.toList.take (x+y)++L2++(jB++N++D).toArray.toList.drop (x+y+L2.length)=jB++N++L2++(jB++N++D).toArray.toList.drop (x+y+L2.length):=by
 congr 2
 simp only
 rw[List.take_append_of_le_length (by rw[List.length_append];omega),List.take_of_length_le (by rw[List.length_append];omega)]
structure xV (P:Program) (f uF:FuncId) (cA bZ zC qo:TypeId) (K:Nat):Prop where
 hS:P.underlying cA=some (.slice bZ)
 hI:P.underlying zC=some (.int .i64)
 info:∃i0,P.info? bZ=some i0/\i0.size=K/\∃z,i0.zero=some z/\z.cells.size=K/\i0.bytes<=131072
 hK:K=1∨K=5
 aqI:∀(vs:Array Value) (w:World) (r:Value),(Extern.SlicesOverlaps.overlaps #[cA,cA] #[qo] vs).run P w= .ok r w->(callFunc uF vs).run P w= .ok (.value r) w
 aca:∀(g n cap:Nat) (A:Addr) (vc:Nat) (r:Value) (w W1:World),n<=cap->cap<=0x7fffffffffffffff->
  (∀ty,(Builtin.append_ #[cA,cA] ty #[.slice (some ⟨g,0,none⟩) n cap,.slice (some A) 1 vc]).run P w= .ok r W1)->Calls P f #[.slice (some ⟨g,0,none⟩) n cap,.int .i64 n,.slice (some A) 1 vc] w λe w'=>e= .returned r/\w'=W1
 axS:∀(g n cap i G C:Nat) (A:Addr) (vc:Nat) (r1 r2:Value) (w W1 W2 W3:World),i<n->n<=cap->cap<n+1->n+1<=C->n<=1073741824->
  (∀ty,(Builtin.append_ #[cA,zC] ty #[.slice (some ⟨g,0,none⟩) i cap,.int .i64 ((n:Int)+1-(i:Int))]).run P w= .ok (.slice (some ⟨G,0,none⟩) (n+1) C) W1)->
  (∀ty,(Builtin.copy_ #[cA,cA] ty #[.slice (some ⟨G,i*K,none⟩) (n+1-i) (C-i),.slice (some A) 1 vc]).run P W1= .ok r1 W2)->
  (∀ty,(Builtin.copy_ #[cA,cA] ty #[.slice (some ⟨G,(i+1)*K,none⟩) (n+1-(i+1)) (C-(i+1)),.slice (some ⟨g,i*K,none⟩) (n-i) (cap-i)]).run P W2.drew= .ok r2 W3)->Calls P f #[.slice (some ⟨g,0,none⟩) n cap,.int .i64 i,.slice (some A) 1 vc] w λe w'=>e= .returned (.slice (some ⟨G,0,none⟩) (n+1) C)/\w'=W3
 axU:∀(g n cap i:Nat) (A:Addr) (vc:Nat) (r1 r2:Value) (w W1 W2:World),i<n->n+1<=cap->n<=1073741824->
  (callFunc uF #[.slice (some A) 1 vc,.slice (some ⟨g,(i+1)*K,none⟩) (n-i) (cap-(i+1))]).run P w= .ok (.value (.bool false)) w->
  (∀ty,(Builtin.copy_ #[cA,cA] ty #[.slice (some ⟨g,(i+1)*K,none⟩) (n+1-(i+1)) (cap-(i+1)),.slice (some ⟨g,i*K,none⟩) (n+1-i) (cap-i)]).run P w.drew= .ok r1 W1)->
  (∀ty,(Builtin.copy_ #[cA,cA] ty #[.slice (some ⟨g,i*K,none⟩) (n+1-i) (cap-i),.slice (some A) 1 vc]).run P W1= .ok r2 W2)->Calls P f #[.slice (some ⟨g,0,none⟩) n cap,.int .i64 i,.slice (some A) 1 vc] w λe w'=>e= .returned (.slice (some ⟨g,0,none⟩) (n+1) cap)/\w'=W2
 axV:∀(p:Option Addr) (A:Addr) (vc:Nat) (r:Value) (w W1:World),
  (∀ty,(Builtin.append_ #[cA,cA] ty #[.slice p 0 0,.slice (some A) 1 vc]).run P w= .ok r W1)->Calls P f #[.slice p 0 0,.int .i64 0,.slice (some A) 1 vc] w λe w'=>e= .returned r/\w'=W1
theorem xV.vals {P:Program} {f uF:FuncId} {cA bZ zC qo:TypeId} {K:Nat} (W:xV P f uF cA bZ zC qo K) (w:World) (v0:Value) (a n:Nat) (jB L2 N:List Value) (eR kS vc:Nat) (Aw:Array Value) (tL:TypeId) (IF:Nat×Nat)
 (p1:a<=n) (bb:n+1<=1073741824) (n9:jB.length=a*K) (hl2:L2.length=(n-a)*K) (kr:N.length=K)
 (aBz:∀u∈jB,u.oneCell'=true) (Z6:∀u∈L2,u.oneCell'=true) (Qz:∀u∈N,u.oneCell'=true)
 (El:w.heap[eR]?=some (.cells Aw tL IF)) (yU:∀(j:Nat) (u:Value),N[j]?=some u->Aw[kS+j]?=some u)
 (ho:(∃p,v0= .slice p 0 0/\n=0)∨∃(g cap:Nat) (cells:Array Value) (rest:List Value),v0= .slice (some ⟨g,0,none⟩) n cap/\(n<=cap/\(cap:Int)<=0x7fffffffffffffff)/\w.heap[g]?=some (.cells cells bZ (0,0))/\cells.toList=jB++L2++rest/\cells.size=cap*K/\0<cap/\eR≠g):
 Calls P f #[v0,.int .i64 a,.slice (some ⟨eR,kS,none⟩) 1 vc] w λe w'=>ik w w' (hV v0)/\∃(G C:Nat) (cells:Array Value) (post:List Value),e= .returned (.slice (some ⟨G,0,none⟩) (n+1) C)/\w'.heap[G]?=some (.cells cells bZ (0,0))/\cells.toList=jB++N++L2++post/\cells.size=C*K/\n+1<=C/\(C:Int)<=0x7fffffffffffffff/\(hV v0=some G∨w.heap.size<=G):=by
 have hK:=W.hK
 obtain⟨i0,o7,qM,z,Es,E2,Ep⟩:=W.info
 have akw:eR<w.heap.size:=(Array.getElem?_eq_some_iff.1 El).1
 have ah7:Aw.size≠0:=by
  have Oc:0<N.length:=by rcases hK with rfl|rfl<;>omega
  have:=yU 0 _ (List.getElem?_eq_getElem Oc)
  have:=(Array.getElem?_eq_some_iff.1 this).1
  omega
 have th:∀w1:World,w1.heap[eR]?=w.heap[eR]?->∀j u,N[j]?=some u->w1.cell? ((⟨eR,kS,none⟩:Addr).add j)=some u:=λw1 h1 j u hu=>by
  rw[Addr.add_lit]
  have:=yU j u hu
  simp only[World.cell?,h1,El,Option.isSome_none,Bool.false_eq_true,if_false]
  exact this
 have Pm:∀w1:World,w1.heap[eR]?=w.heap[eR]?->Src P i0.size cA (.slice (some ⟨eR,kS,none⟩) 1 vc) 1 N w1:=λw1 h1=>
  Src.ofSlice w1 W.hS ⟨eR,kS,none⟩ 1 vc _ (by rw[kr,qM,Nat.one_mul]) (th w1 h1) Qz
 rcases ho with⟨p,hv0,h0⟩|⟨g,cap,cells,rest,hv0,⟨OC,D9⟩,hg,n6,hsz,ajP,hne⟩
 ·
  have ha0:a=0:=by omega
  subst h0 ha0
  have o1:jB=[]:=List.eq_nil_of_length_eq_zero (by omega)
  have hL2:L2=[]:=List.eq_nil_of_length_eq_zero (by omega)
  subst o1 hL2
  have hC:=yo w (0+1) 0 bZ (by omega)
  have hH:∀ty,(Builtin.append_ #[cA,cA] ty #[.slice p 0 0,.slice (some ⟨eR,kS,none⟩) 1 vc]).run P w=_:=λty=>
   run_append_grow_src w cA cA ty bZ i0 z W.hS o7 Es p 0 0 [] (IA _ _ _ _) _ 1 _ (Pm w rfl) (by omega) (by omega) (growslice_fits (by omega) (by omega))
  rw[hv0]
  refine(W.axV p ⟨eR,kS,none⟩ vc _ w _ hH).mono ?_
  rintro e w' ⟨rfl,rfl⟩
  exact⟨K4 w _ _,w.heap.size,grownCap w (0+1) 0 bZ,_,(Builtin.zeroCells z.cells (grownCap w (0+1) 0 bZ-(0+1))).toList,rfl,heap_alloc_new w.drew _,by simp,by simp only[Array.size_append,List.size_toArray,List.nil_append,kr,CH,E2];have:=hC.1;rcases hK with rfl|rfl<;>omega,hC.1,by omega,.inr (Nat.le_refl _)⟩
 ·have iW:cells.toList.length=cap*K:=by rw[Array.length_toList];exact hsz
  have hown:hV v0=some g:=by
   obtain⟨c',rfl⟩:∃c',cap=c'+1:=⟨cap-1,by omega⟩
   rw[hv0];rfl
  have hlt:g<w.heap.size:=(Array.getElem?_eq_some_iff.1 hg).1
  have hl0:(jB++L2).length=n*K:=by rw[List.length_append,n9,hl2,<-Nat.add_mul];congr 1;omega
  have hcell:∀(w1:World) (o:Nat) (l:List Value) (pre post:List Value),w1.heap[g]?=w.heap[g]?->cells.toList=pre++l++post->pre.length=o->∀j u,l[j]?=some u->w1.cell? ((⟨g,o,none⟩:Addr).add j)=some u:=λw1 o l pre post h1 h2 h3 j u hu=>by
   rw[Addr.add_lit]
   simp only[World.cell?,h1,hg,Option.isSome_none,Bool.false_eq_true,if_false]
   have hlt:=(List.getElem?_eq_some_iff.1 hu).1
   rw[<-Array.getElem?_toList,h2,List.append_assoc,List.getElem?_append_right (by omega),List.getElem?_append_left (by omega),<-h3]
   rw[show pre.length+j-pre.length=j by omega];exact hu
  by_cases I0:a=n
  ·
   subst I0
   have hL2:L2=[]:=List.eq_nil_of_length_eq_zero (by rw[hl2,Nat.sub_self,Nat.zero_mul])
   subst hL2
   simp only[List.append_nil]at n6 hl0⊢
   by_cases hroom:a+1<=cap
   ·have hH:∀ty,(Builtin.append_ #[cA,cA] ty #[.slice (some ⟨g,0,none⟩) a cap,.slice (some ⟨eR,kS,none⟩) 1 vc]).run P w=_:=λty=>
     Rn (P:=P) w cA cA ty bZ i0 W.hS o7 g a cap cells bZ hg _ 1 _ (Pm w rfl) hroom (by rw[qM,kr,hsz];rcases hK with rfl|rfl<;>omega)
    rw[hv0]
    refine(W.aca g a cap ⟨eR,kS,none⟩ vc _ w _ (by omega) (by omega) hH).mono ?_
    rintro e w' ⟨rfl,rfl⟩
    rw[<-hv0]
    refine⟨by rw[hown];exact Cq w g _,g,cap,_,cells.toList.drop (a*K+K),rfl,setRow_heap w g _ _ _ _ hg,?_,by rw[qM,kr];simp only[List.size_toArray,List.length_append,List.length_take,List.length_drop,Array.length_toList,iW,kr];rcases hK with rfl|rfl<;>omega,hroom,D9,.inl hown⟩
    rw[qM,kr]
    simp only[n6]
    rw[List.take_append_of_le_length (by omega),List.take_of_length_le (by omega)]
   ·have hC:=yo w (a+1) cap bZ (by omega)
    have hH:∀ty,(Builtin.append_ #[cA,cA] ty #[.slice (some ⟨g,0,none⟩) a cap,.slice (some ⟨eR,kS,none⟩) 1 vc]).run P w=_:=λty=>
     run_append_grow_src w cA cA ty bZ i0 z W.hS o7 Es (some ⟨g,0,none⟩) a cap jB (run_firstCells_some w.drew i0.size a ⟨g,0,none⟩ a cap _ (by rw[n9,qM]) (hcell w.drew 0 _ [] rest rfl (by rw[n6];rfl) rfl)) _ 1 _ (Pm w rfl) (by omega) (by omega) (growslice_fits (by omega) (by
      have:=Nat.mul_le_mul (show a+1<=1073741824 by omega) Ep
      omega))
    rw[hv0]
    refine(W.aca g a cap ⟨eR,kS,none⟩ vc _ w _ (by omega) (by omega) hH).mono ?_
    rintro e w' ⟨rfl,rfl⟩
    rw[<-hv0]
    exact⟨K4 w _ _,w.heap.size,grownCap w (a+1) cap bZ,_,(Builtin.zeroCells z.cells (grownCap w (a+1) cap bZ-(a+1))).toList,rfl,heap_alloc_new w.drew _,by simp,by simp only[Array.size_append,List.size_toArray,List.length_append,n9,kr,CH,E2];have:=hC.1;rcases hK with rfl|rfl<;>omega,hC.1,by omega,.inr (Nat.le_refl _)⟩
  ·have I0:a<n:=by omega
   by_cases hroom:n+1<=cap
   ·
    have hcs:cells.toList=jB++L2++rest:=n6
    have nu:∀ty,(Builtin.copy_ #[cA,cA] ty #[.slice (some ⟨g,(a+1)*K,none⟩) (n+1-(a+1)) (cap-(a+1)),.slice (some ⟨g,a*K,none⟩) (n+1-a) (cap-a)]).run P w.drew=_:=λty=>
     KU w.drew cA cA ty bZ i0 W.hS o7 g ((a+1)*K) (n+1-(a+1)) (cap-(a+1)) ⟨g,a*K,none⟩ (n+1-a) (cap-a) cells bZ L2 hg
      (by rw[hl2,qM,show Nat.min (n+1-a) (n+1-(a+1))=n-a by show min _ _=_;omega]) (hcell w.drew (a*K) _ jB rest rfl hcs n9) (by rw[hl2,hsz];rcases hK with rfl|rfl<;>omega) Z6
    obtain⟨c1,hc1⟩:∃c1,c1=(cells.toList.take ((a+1)*K)++L2++cells.toList.drop ((a+1)*K+L2.length)).toArray:=⟨_,rfl⟩
    rw[<-hc1]at nu
    have hg1:(w.drew.setRow g c1).heap[g]?=some (.cells c1 bZ (0,0)):=setRow_heap w.drew g _ _ _ _ hg
    have D8:c1.size=cap*K:=by
     rw[hc1];simp only[List.size_toArray,List.length_append,List.length_take,List.length_drop,iW,hl2];rcases hK with rfl|rfl<;>omega
    have p4:∀ty,(Builtin.copy_ #[cA,cA] ty #[.slice (some ⟨g,a*K,none⟩) (n+1-a) (cap-a),.slice (some ⟨eR,kS,none⟩) 1 vc]).run P (w.drew.setRow g c1)=_:=λty=>
     KU (w.drew.setRow g c1) cA cA ty bZ i0 W.hS o7 g (a*K) (n+1-a) (cap-a) ⟨eR,kS,none⟩ 1 vc c1 bZ N hg1
      (by rw[kr,qM,show Nat.min 1 (n+1-a)=1 by show min _ _=_;omega,Nat.one_mul]) (th _ (setRow_other w.drew g eR c1 hne)) (by rw[kr,D8];rcases hK with rfl|rfl<;>omega) Qz
    have Jl:(callFunc uF #[.slice (some ⟨eR,kS,none⟩) 1 vc,.slice (some ⟨g,(a+1)*K,none⟩) (n-a) (cap-(a+1))]).run P w= .ok (.value (.bool false)) w:=by
     exact W.aqI _ _ _ (atu w cA qo bZ W.hS i0.size (λw=>by simp[Go.sizeOf,typeInfo,o7]) ⟨eR,kS,none⟩ ⟨g,(a+1)*K,none⟩ 1 vc (n-a) (cap-(a+1)) hne Aw cells tL bZ IF El hg ah7)
    rw[hv0]
    refine(W.axU g n cap a ⟨eR,kS,none⟩ vc _ _ w _ _ I0 hroom (by omega) Jl nu p4).mono ?_
    rintro e w' ⟨rfl,rfl⟩
    rw[<-hv0]
    refine⟨by rw[hown];exact ik.Ld (w:=w) (w1:=w.drew.setRow g c1) (Cq w.drew g c1) (Cq _ g _) (.inl rfl),g,cap,_,cells.toList.drop ((a+1)*K+L2.length),rfl,setRow_heap _ g _ _ _ _ hg1,?_,by simp only[List.size_toArray,List.length_append,List.length_take,List.length_drop,Array.length_toList,D8,kr];rcases hK with rfl|rfl<;>omega,hroom,D9,.inl hown⟩
    simp only[kr]
    rw[hc1]
    exact as0 hcs n9 (by simp only[iW];rcases hK with rfl|rfl<;>omega) rfl (by rw[Nat.succ_mul])
   ·
    have hka:a+(n+1-a)=n+1:=by omega
    have yL:((n:Int)+1-(a:Int))=((n+1-a:Nat):Int):=by omega
    have hC:=yo w (n+1) cap bZ (by omega)
    have I1:=λty=>Lib.run_append_grow_zeros (P:=P) w cA zC ty bZ i0 z .i64 .i64 W.hS W.hI o7 Es (some ⟨g,0,none⟩) a cap jB
     (run_firstCells_some w.drew i0.size a ⟨g,0,none⟩ a cap _ (by rw[n9,qM]) (hcell w.drew 0 _ [] (L2++rest) rfl (by rw[n6,List.nil_append,List.append_assoc]) rfl)) (n+1-a) (by omega) (by rcases hK with rfl|rfl<;>omega) (by omega) (by omega)
     (by
       have:=Nat.mul_le_mul (show n+1-a<=1073741824 by omega) Ep
       omega)
     (growslice_fits (by omega) (by
       have:=Nat.mul_le_mul (show a+(n+1-a)<=1073741824 by omega) Ep
       omega))
    rw[hka]at I1
    obtain⟨C,aid⟩:∃C,C=grownCap w (n+1) cap bZ:=⟨_,rfl⟩
    rw[<-aid]at I1 hC
    obtain⟨bW,hc0⟩:∃bW:Array Value,bW=jB.toArray++Builtin.zeroCells z.cells (n+1-a)++Builtin.zeroCells z.cells (C-(n+1)):=⟨_,rfl⟩
    rw[<-hc0,<-yL]at I1
    have Xi:bW.size=C*K:=by
     rw[hc0];simp only[Array.size_append,List.size_toArray,n9,CH,E2];rcases hK with rfl|rfl<;>omega
    have ajM:bW.toList.take (a*K)=jB:=by
     rw[hc0,Array.toList_append,Array.toList_append,List.append_assoc,List.take_append_of_le_length (by simp only[n9];omega),List.take_of_length_le (by simp only[n9];omega)]
    have WI:(w.drew.alloc (.cells bW bZ)).heap[w.heap.size]?=some (.cells bW bZ (0,0)):=heap_alloc_new w.drew _
    have hold:∀k:Nat,k<w.heap.size->(w.drew.alloc (.cells bW bZ)).heap[k]?=w.heap[k]?:=λk hk=>((World.Extends.refl w.drew).alloc _).block k hk
    have nu:∀ty,(Builtin.copy_ #[cA,cA] ty #[.slice (some ⟨w.heap.size,a*K,none⟩) (n+1-a) (C-a),.slice (some ⟨eR,kS,none⟩) 1 vc]).run P (w.drew.alloc (.cells bW bZ))=_:=λty=>
     KU _ cA cA ty bZ i0 W.hS o7 w.heap.size (a*K) (n+1-a) (C-a) ⟨eR,kS,none⟩ 1 vc bW bZ N WI
      (by rw[kr,qM,show Nat.min 1 (n+1-a)=1 by show min _ _=_;omega,Nat.one_mul]) (th _ (hold eR akw)) (by rw[kr,Xi];rcases hK with rfl|rfl<;>omega) Qz
    obtain⟨c1,hc1⟩:∃c1,c1=(bW.toList.take (a*K)++N++bW.toList.drop (a*K+N.length)).toArray:=⟨_,rfl⟩
    rw[<-hc1]at nu
    have D8:c1.size=C*K:=by
     rw[hc1];simp only[List.size_toArray,List.length_append,List.length_take,List.length_drop,Array.length_toList,Xi,kr];rcases hK with rfl|rfl<;>omega
    obtain⟨W2,hW2⟩:∃W2,W2=(w.drew.alloc (.cells bW bZ)).setRow w.heap.size c1:=⟨_,rfl⟩
    have WJ:W2.heap[w.heap.size]?=some (.cells c1 bZ (0,0)):=by rw[hW2];exact setRow_heap _ _ _ _ _ _ WI
    have akO:W2.drew.heap[g]?=w.heap[g]?:=by
     rw[hW2]
     show((w.drew.alloc (.cells bW bZ)).setRow w.heap.size c1).heap[g]?=_
     rw[setRow_other _ _ _ _ (by omega),hold g hlt]
    have p4:∀ty,(Builtin.copy_ #[cA,cA] ty #[.slice (some ⟨w.heap.size,(a+1)*K,none⟩) (n+1-(a+1)) (C-(a+1)),.slice (some ⟨g,a*K,none⟩) (n-a) (cap-a)]).run P W2.drew=_:=λty=>
     KU W2.drew cA cA ty bZ i0 W.hS o7 w.heap.size ((a+1)*K) (n+1-(a+1)) (C-(a+1)) ⟨g,a*K,none⟩ (n-a) (cap-a) c1 bZ L2 WJ
      (by rw[hl2,qM,show Nat.min (n-a) (n+1-(a+1))=n-a by show min _ _=_;omega]) (hcell W2.drew (a*K) _ jB rest akO n6 n9) (by rw[hl2,D8];rcases hK with rfl|rfl<;>omega) Z6
    rw[<-hW2]at nu
    rw[hv0]
    refine(W.axS g n cap a w.heap.size C ⟨eR,kS,none⟩ vc _ _ w _ W2 _ I0 OC (by omega) hC.1 (by omega) I1 nu p4).mono ?_
    rintro e w' ⟨rfl,rfl⟩
    rw[<-hv0]
    refine⟨?_,w.heap.size,C,_,c1.toList.drop ((a+1)*K+L2.length),rfl,setRow_heap _ _ _ _ _ _ WJ,?_,?_,hC.1,by omega,.inr (Nat.le_refl _)⟩
    ·rw[hW2]
     have s1:=ik.Ld (K4 w (.cells bW bZ) (hV v0)) (Cq _ w.heap.size c1) (.inr (Nat.le_refl _))
     exact ik.Ld (ik.agB s1) (Cq _ w.heap.size _) (.inr (Nat.le_refl _))
    ·simp only
     rw[hc1,kr]
     simp only
     rw[ajM,Nat.succ_mul]
     exact ahB n9 kr
    ·simp only[List.size_toArray,List.length_append,List.length_take,List.length_drop,Array.length_toList,D8,hl2];rcases hK with rfl|rfl<;>omega
end Go.aX
namespace Go.aX
open Go Go.aW Go.Proofs Go.RowKit
theorem xV.ok {P:Program} {wb:World} {f uF:FuncId} {cA bZ zC qo:TypeId} {K:Nat} (W:xV P f uF cA bZ zC qo K) (c:jX) (hf:c.f=f) (hen:∀args w,(callFunc f args).run P w= .ok (.enter f args) w) (iq:c.sh.length=K) (hp:hZ c.sh=true) (he:c.e=bZ) (ED:c.pre=51) (mf:c.args=[.d (.int .i64 0 0x7fffffffffffffff),.rd c.sh])
 {spec:List Int->List Int->Prop} (alc:∀(code r code':Int) (a:Nat),ab code'=(ab code).take a++ab r++(ab code).drop a->spec [code,a,r] [code']) (ak1:kC c.sh=true):c.dW P wb spec:=by
 refine⟨λargs w=>hf▸hen args w,λF w v0 code vs zs hw ho hc hz gf hat hF=>?_⟩
 rw[mf]at hz hat
 rw[ED]at gf
 match zs,hz,vs,hat with
 |[i,r],hz,[vi,axQ],hat=>
  obtain⟨uW,y2,_⟩:=hat
  have uW:vi= .int .i64 i:=uW
  have alx:fK F w c.sh (ab r) axQ:=y2
  clear y2
  have gf:(0<=i/\i<=((ab code).length:Int))/\(ab r).length=1/\(ab code).length+1<=1073741824:=gf
  obtain⟨⟨p0,p1⟩,aJ,bb⟩:=gf
  obtain⟨a,rfl⟩:∃a:Nat,i=a:=⟨i.toNat,by omega⟩
  have p1:a<=(ab code).length:=by omega
  rcases alx with⟨_,h0⟩|⟨eR,kS,vc,Aw,tL,IF,y2,⟨aAD,aAE⟩,aii,El,yU⟩
  ·rw[h0]at aJ;simp at aJ
  rw[aJ]at y2
  have yU:=(k0 (F:=F) (w:=w) hp).1 yU
  have hnone:∀row∈ab r,bD c.sh row:=yU.1
  obtain⟨bg,akP⟩:(∀row∈ab code,bD c.sh row)/\((∃p,v0= .slice p 0 0/\(ab code).length=0)∨∃(g cap:Nat) (cells:Array Value) (rest:List Value),v0= .slice (some ⟨g,0,none⟩) (ab code).length cap/\((ab code).length<=cap/\(cap:Int)<=0x7fffffffffffffff)/\w.heap[g]?=some (.cells cells bZ (0,0))/\cells.toList=cG c.sh ((ab code).take a)++cG c.sh ((ab code).drop a)++rest/\cells.size=cap*K/\0<cap/\eR≠g):=by
   rcases ho with⟨⟨asm,hv0⟩,h0⟩|⟨g,cap,cells,hv0,⟨OC,D9⟩,Yk,hg,⟨bg,pre,rest,n6,akV⟩,hsz⟩
   ·exact⟨(by rw[h0];intro _ h;cases h),.inl ⟨asm,hv0,by rw[h0];rfl⟩⟩
   ·refine⟨bg,?_⟩
    rw[List.eq_nil_of_length_eq_zero akV,List.nil_append]at n6
    cases cap with
    |zero=>exact .inl ⟨_,by rw[hv0];congr 1;omega,by omega⟩
    |succ k=>exact .inr ⟨g,k+1,cells,rest,hv0,⟨OC,D9⟩,by rw[<-he];exact hg,by rw[<-uE,List.take_append_drop];exact n6,by rw[<-iq];exact hsz,by omega,λe=>hF eR aii (by rw[hv0,e];rfl)⟩
  have hall:∀row∈(ab code).take a++ab r++(ab code).drop a,bD c.sh row:=λrow hr=>by
   rcases List.mem_append.1 hr with hr|hr
   ·rcases List.mem_append.1 hr with hr|hr
    ·exact bg row (List.mem_of_mem_take hr)
    ·exact hnone row hr
   ·exact bg row (List.mem_of_mem_drop hr)
  have O2:((ab code).take a++ab r++(ab code).drop a).length=(ab code).length+1:=by
   rw[List.length_append,List.length_append,List.length_take,List.length_drop,aJ,Nat.min_eq_left p1];omega
  rw[uW,y2,hf]
  refine(W.vals w v0 a (ab code).length (cG c.sh ((ab code).take a)) (cG c.sh ((ab code).drop a)) (cG c.sh (ab r)) eR kS vc Aw tL IF p1 bb ?_ ?_ ?_ IE IE IE El (λj u hu=>yU.flat hu) akP).mono ?_
  ·rw[pW λr h=>bg r (List.mem_of_mem_take h),List.length_take,Nat.min_eq_left p1,iq]
  ·rw[pW λr h=>bg r (List.mem_of_mem_drop h),List.length_drop,iq]
  ·rw[pW hnone,aJ,iq,Nat.one_mul]
  ·rintro e w' ⟨jm,G,C,cells,post,rfl,hG,n6,hsz,aib,aic,hown⟩
   refine⟨jm,rc ((ab code).take a++ab r++(ab code).drop a),_,⟨eJ _,sH ak1 (by rw[O2];omega) hall⟩,alc _ _ _ a (di _),Or.inr ⟨G,C,cells,?_,⟨?_,aic⟩,hown,by rw[he];exact hG,⟨?_,[],post,?_,rfl⟩,by rw[iq];exact hsz⟩,rfl⟩
   ·rw[di,O2]
   ·rw[di,O2];exact aib
   ·rw[di];exact hall
   ·rw[di,n6,List.nil_append,uE,uE]
theorem al5 (p:Option Addr) (A:Addr) (vc:Nat) (r:Value) (w W1:World)
 (hH:∀ty,(Builtin.append_ #[28,28] ty #[.slice p 0 0,.slice (some A) 1 vc]).run Tryz.prog w= .ok r W1):
 Calls Tryz.prog 74 #[.slice p 0 0,.int .i64 0,.slice (some A) 1 vc] w λe w'=>e= .returned r/\w'=W1:=by
 go_enter Tryz.func74,Tryz.ntmps74
 go_wp2_with (at_builtin;refine tP rfl (.tmp 23) (.tmp 24) 28 28 rfl _ _ rfl rfl (hH _) ?_)
 go_wp2
 all_goals (go_ret;exact⟨rfl,rfl⟩)
theorem al6 (p:Option Addr) (A:Addr) (vc:Nat) (r:Value) (w W1:World)
 (hH:∀ty,(Builtin.append_ #[23,23] ty #[.slice p 0 0,.slice (some A) 1 vc]).run Tryz.prog w= .ok r W1):
 Calls Tryz.prog 73 #[.slice p 0 0,.int .i64 0,.slice (some A) 1 vc] w λe w'=>e= .returned r/\w'=W1:=by
 go_enter Tryz.func73,Tryz.ntmps73
 go_wp2_with (at_builtin;refine tP rfl (.tmp 23) (.tmp 24) 23 23 rfl _ _ rfl rfl (hH _) ?_)
 go_wp2
 all_goals (go_ret;exact⟨rfl,rfl⟩)
theorem YQ:xV Tryz.prog 74 103 28 30 3 4 5:=
 ⟨Tryz.underlying28,Tryz.underlying3,⟨_,rfl,by kernel_rfl,_,rfl,by kernel_rfl,by decide+kernel⟩,.inr rfl,λvs w r h=>by rw[run_callFunc_extern Tryz.func103 (by kernel_rfl) (by kernel_rfl) (by kernel_rfl) (e:=Extern.SlicesOverlaps.overlaps #[28,28] #[4]) (by kernel_rfl),h];rfl,
  Tryz.ama,Tryz.amb,Tryz.amc,al5⟩
theorem apz {wb:World}:Bx.dW Tryz.prog wb (b5 sh SB Bx.id):=YQ.ok Bx rfl (λargs w=>enters (by kernel_rfl) _ _) rfl rfl rfl rfl rfl (λcode r code' a h=>h) rfl
theorem YP:xV Tryz.prog 73 101 23 9 3 4 1:=
 ⟨Tryz.underlying23,Tryz.underlying3,⟨_,rfl,by kernel_rfl,_,rfl,by kernel_rfl,by decide+kernel⟩,.inl rfl,λvs w r h=>by rw[run_callFunc_extern Tryz.func101 (by kernel_rfl) (by kernel_rfl) (by kernel_rfl) (e:=Extern.SlicesOverlaps.overlaps #[23,23] #[4]) (by kernel_rfl),h];rfl,
  Tryz.al7,Tryz.al8,Tryz.al9,al6⟩
theorem aqc {wb:World}:BH.dW Tryz.prog wb (b5 sh SB BH.id):=YP.ok BH rfl (λargs w=>enters (by kernel_rfl) _ _) rfl rfl rfl rfl rfl (λcode r code' a h=>h) rfl
end Go.aX
namespace Go.aX
open Go Go.aW Go.Proofs Go.RowKit
def dJ (bZ:TypeId) (K:Nat) (w w':World) (n:Nat) (vs:List Value) (x:Value):Prop:=(n=0/\∃p,x= .slice p 0 0)∨(0<n/\∃(g C:Nat) (cells:Array Value) (rest:List Value),x= .slice (some ⟨g,0,none⟩) n C/\w.heap.size<=g/\w'.heap[g]?=some (.cells cells bZ (0,0))/\cells.toList=vs++rest/\cells.size=C*K/\n<=C/\(C:Int)<=0x7fffffffffffffff)
structure Hu (P:Program) (f:FuncId) (cA bZ:TypeId) (K:Nat):Prop where
 hS:P.underlying cA=some (.slice bZ)
 info:∃i0,P.info? bZ=some i0/\i0.size=K/\∃z,i0.zero=some z/\z.cells.size=K/\i0.bytes<=131072
 hK:K=1∨K=5
 axT:∀w,Calls P f #[.slice none 0 0] w λe w'=>e= .returned (.slice none 0 0)/\w'=w
 acb:∀(w:World) (a:Addr) (n c:Nat) (r:Value) (W1:World),(∀ty,(Builtin.append_ #[cA,cA] ty #[.slice (some ⟨w.heap.size,0,none⟩) 0 0,.slice (some a) n c]).run P (w.alloc (.cells #[] bZ))= .ok r W1)->Calls P f #[.slice (some a) n c] w λe w'=>e= .returned r/\w'=W1
theorem atW (w:World) (o:Obj) (own:Option Nat):ik w (w.alloc o) own:=
 have h:=(World.Extends.refl w).alloc o
 ⟨h.os,h.tape,h.output,h.size,λk hk _=>h.block k hk⟩
theorem Hu.vals {P:Program} {f:FuncId} {cA bZ:TypeId} {K:Nat} (W:Hu P f cA bZ K) (w:World) (v:Value) (n:Nat) (vs:List Value) (hn:n<=1073741824) (hl:vs.length=n*K) (one:∀u∈vs,u.oneCell'=true)
 (hv:(∃p,v= .slice p 0 0/\n=0)∨∃(a:Addr) (c:Nat),v= .slice (some a) n c/\∀(j:Nat) (u:Value),vs[j]?=some u->(a.add j).block<w.heap.size/\w.cell? (a.add j)=some u):
 Calls P f #[v] w λe w'=>w.Extends w'/\∃x,e= .returned x/\dJ bZ K w w' n vs x:=by
 obtain⟨i0,o7,qM,z,Es,E2,Ep⟩:=W.info
 have hK:=W.hK
 have main:∀(a:Addr) (c:Nat),v= .slice (some a) n c->(∀(j:Nat) (u:Value),vs[j]?=some u->(a.add j).block<w.heap.size/\w.cell? (a.add j)=some u)->Calls P f #[v] w λe w'=>w.Extends w'/\∃x,e= .returned x/\dJ bZ K w w' n vs x:=λa c hv hc=>by
  subst hv
  have hg0:(w.alloc (.cells #[] bZ)).heap[w.heap.size]?=some (.cells #[] bZ (0,0)):=heap_alloc_new w _
  by_cases h0:n=0
  ·subst h0
   have hz:vs=[]:=List.eq_nil_of_length_eq_zero (by rcases hK with rfl|rfl<;>omega)
   subst hz
   have hH:∀ty,(Builtin.append_ #[cA,cA] ty #[.slice (some ⟨w.heap.size,0,none⟩) 0 0,.slice (some a) 0 c]).run P (w.alloc (.cells #[] bZ))=_:=λty=>
    Rn (P:=P) _ cA cA ty bZ i0 W.hS o7 w.heap.size 0 0 #[] bZ hg0 _ 0 [] (Src.Z2 _ W.hS (some a) c) (by omega) (by simp)
   refine(W.acb w a 0 c _ _ hH).mono ?_
   rintro e w' ⟨rfl,rfl⟩
   exact⟨(ik.Ld (atW w (.cells #[] bZ) none) (Cq _ w.heap.size _) (.inr (Nat.le_refl _))).ext,_,rfl,.inl ⟨rfl,_,rfl⟩⟩
  ·have th:Src P i0.size cA (.slice (some a) n c) n vs (w.alloc (.cells #[] bZ)):=
    Src.ofSlice _ W.hS a n c vs (by rw[hl,qM]) (λj u hu=>by
     obtain⟨h1,h2⟩:=hc j u hu
     rw[((World.Extends.refl w).alloc (.cells #[] bZ)).cell _ h1];exact h2) one
   have hC:=yo (w.alloc (.cells #[] bZ)) (0+n) 0 bZ (by omega)
   have hH:∀ty,(Builtin.append_ #[cA,cA] ty #[.slice (some ⟨w.heap.size,0,none⟩) 0 0,.slice (some a) n c]).run P (w.alloc (.cells #[] bZ))=_:=λty=>
    run_append_grow_src _ cA cA ty bZ i0 z W.hS o7 Es (some ⟨w.heap.size,0,none⟩) 0 0 [] (IA _ _ _ _) _ n vs th (by omega) (by omega) (growslice_fits (by omega) (by
     have:=Nat.mul_le_mul (show 0+n<=1073741824 by omega) Ep
     omega))
   refine(W.acb w a n c _ _ hH).mono ?_
   rintro e w' ⟨rfl,rfl⟩
   have hx:w.Extends (w.alloc (.cells #[] bZ)):=(World.Extends.refl w).alloc _
   refine⟨hx.trans (K4 _ _ none).ext,_,rfl,.inr ⟨by omega,(w.alloc (.cells #[] bZ)).heap.size,grownCap (w.alloc (.cells #[] bZ)) (0+n) 0 bZ,_,(Builtin.zeroCells z.cells (grownCap (w.alloc (.cells #[] bZ)) (0+n) 0 bZ-(0+n))).toList,by rw[Nat.zero_add],hx.size,heap_alloc_new (w.alloc (.cells #[] bZ)).drew _,by simp,?_,by have:=hC.1;omega,by omega⟩⟩
   simp only[Array.size_append,List.size_toArray,List.nil_append,hl,CH,E2]
   have:=hC.1
   rcases hK with rfl|rfl<;>omega
 rcases hv with⟨p,hv,h0⟩|⟨a,c,hv,hc⟩
 ·cases p with
  |none=>
   subst hv
   refine(W.axT w).mono ?_
   rintro e w' ⟨rfl,rfl⟩
   exact⟨World.Extends.refl _,_,rfl,.inl ⟨h0,none,rfl⟩⟩
  |some a=>
   refine main a 0 (by rw[hv,h0]) λj u hu=>?_
   have hz:vs=[]:=List.eq_nil_of_length_eq_zero (by rcases hK with rfl|rfl<;>omega)
   rw[hz]at hu;simp at hu
 ·exact main a c hv hc
set_option maxHeartbeats 4000000 in
theorem aga (w:World):Calls Tryz.prog 72 #[.slice none 0 0] w λe w'=>e= .returned (.slice none 0 0)/\w'=w:=by
 have h0:=Gs w Tryz.underlying28 none 0 0
 go_enter Tryz.func72,Tryz.ntmps72
 go_wp2
 all_goals (go_ret;exact⟨rfl,rfl⟩)
set_option maxHeartbeats 4000000 in
theorem agc (w:World) (a:Addr) (n c:Nat) (r:Value) (W1:World)
 (hH:∀ty,(Builtin.append_ #[28,28] ty #[.slice (some ⟨w.heap.size,0,none⟩) 0 0,.slice (some a) n c]).run Tryz.prog (w.alloc (.cells #[] 30))= .ok r W1):
 Calls Tryz.prog 72 #[.slice (some a) n c] w λe w'=>e= .returned r/\w'=W1:=by
 have h0:=Gs w Tryz.underlying28 (some a) n c
 go_enter Tryz.func72,Tryz.ntmps72
 go_wp2_with (at_builtin;refine tP rfl (.tmp 5) (.tmp 6) 28 28 rfl _ _ rfl rfl (hH _) ?_)
 go_wp2
 all_goals (go_ret;exact⟨rfl,rfl⟩)
theorem af9:Hu Tryz.prog 72 28 30 5:=⟨Tryz.underlying28,⟨_,rfl,by kernel_rfl,_,rfl,by kernel_rfl,by decide+kernel⟩,.inr rfl,aga,agc⟩
set_option maxHeartbeats 4000000 in
theorem agb (w:World):Calls Tryz.prog 71 #[.slice none 0 0] w λe w'=>e= .returned (.slice none 0 0)/\w'=w:=by
 have h0:=Gs w Tryz.underlying23 none 0 0
 go_enter Tryz.func71,Tryz.ntmps71
 go_wp2
 all_goals (go_ret;exact⟨rfl,rfl⟩)
set_option maxHeartbeats 4000000 in
theorem agd (w:World) (a:Addr) (n c:Nat) (r:Value) (W1:World)
 (hH:∀ty,(Builtin.append_ #[23,23] ty #[.slice (some ⟨w.heap.size,0,none⟩) 0 0,.slice (some a) n c]).run Tryz.prog (w.alloc (.cells #[] 9))= .ok r W1):
 Calls Tryz.prog 71 #[.slice (some a) n c] w λe w'=>e= .returned r/\w'=W1:=by
 have h0:=Gs w Tryz.underlying23 (some a) n c
 go_enter Tryz.func71,Tryz.ntmps71
 go_wp2_with (at_builtin;refine tP rfl (.tmp 5) (.tmp 6) 23 23 rfl _ _ rfl rfl (hH _) ?_)
 go_wp2
 all_goals (go_ret;exact⟨rfl,rfl⟩)
theorem af8:Hu Tryz.prog 71 23 9 1:=⟨Tryz.underlying23,⟨_,rfl,by kernel_rfl,_,rfl,by kernel_rfl,by decide+kernel⟩,.inl rfl,agb,agd⟩
end Go.aX
namespace Go.aX
open Go Go.aW Go.Maps
abbrev qB:=DataW Unit
variable {P:Program} {k e t:TypeId} {R:Value->Option (qB×List MemPlace)} {w:World} {b n:Nat} {f:au->Option qB}
def jY (P:Program) (k:TypeId) (R:Value->Option (qB×List MemPlace)) (w:World) (b n:Nat) (f:au->Option qB):Prop:=∃D:qB,w.ownsMap P k R b n D/\∀(s:au) (zd:qB),D.atKey (.string s) zd=(f s).getD zd
theorem jY.made (w:World) (P:Program) (k:TypeId) (R:Value->Option (qB×List MemPlace)):jY P k R (w.alloc (.map #[] 0)) w.heap.size 0 λ_=>none:=
 ⟨.map [],World.ownsMap_made w P k R,λs zd=>rfl⟩
theorem jY.lt (h:jY P k R w b n f):b<w.heap.size:=by
 obtain⟨D,h1,h2⟩:=h
 exact h1.lt
theorem jY.blk (h:jY P k R w b n f) {w':World} (hb:w'.heap[b]?=w.heap[b]?):jY P k R w' b n f:=by
 obtain⟨D,⟨es,clock,h1,h2⟩,h3⟩:=h
 exact⟨D,⟨es,clock,hb.trans h1,h2⟩,h3⟩
theorem l6 (s:au):(az s).size=s.length:=rfl
theorem Y3 (hk:P.underlying k=some .string) {s:au} (hs:s.length<=maxLen):keyOf P k (.string (az s))=some (.string s):=by
 rw[Go.WideMaps.keyOf_string_mk hk (by rw[l6];exact hs)]
 simp[az]
theorem jY.store (h:jY P k R w b n f) (hk:P.underlying k=some .string) (ht:P.underlying t=some (.map k e)) (hn:n<maxLen) {s:au} (hs:s.length<=maxLen) {val:Value} {d:qB} {ps:List MemPlace} (hv:R val=some (d,ps)):
 ∃w',(Instr.mapUpdate t (.map (some b)) (.string (az s)) val).run P w= .ok () w'/\jY P k R w' b (n+1) (λx=>cond (decide (x=s)) (some d) (f x))/\w.grownBy w' (some b):=by
 obtain⟨D,h1,h2⟩:=h
 have K:=string_keyed hk
 have hkey:=Y3 hk hs
 obtain⟨w',r1,r2,r3⟩:=h1.update K ht hn hkey hv
 refine⟨w',r1,⟨_,r2,λx zd=>?_⟩,r3⟩
 by_cases hx:x=s
 ·subst hx
  rw[atKey_put_same h1.isMap (K.key hkey)];simp
 ·rw[atKey_put_other (by intro h;injection h with h;exact hx h)];simp only[hx,decide_false,cond_false];exact h2 x zd
theorem jY.look (h:jY P k R w b n f) (hk:P.underlying k=some .string) (ht:P.underlying t=some (.map k e)) {z:Value} (hz:(zeroValue e).run P w= .ok z w) {s:au} (hs:s.length<=maxLen):
 (f s=none->(Instr.lookup t (.map (some b)) (.string (az s)) true).run P w= .ok (.tuple #[z,.bool false]) w)/\
 ∀d,f s=some d->∃v ps,(Instr.lookup t (.map (some b)) (.string (az s)) true).run P w= .ok (.tuple #[v,.bool true]) w/\R v=some (d,ps):=by
 obtain⟨D,⟨es,clock,hb,F,_,rfl⟩,h2⟩:=h
 rcases fit_look true (string_keyed hk) ht hz hb F (Y3 hk hs)with⟨hrun,_,hat⟩|⟨e0,y,_,_,hrun,hR,hat,_⟩
 ·have hn:f s=none:=by
   cases hf:f s with
   |none=>rfl
   |some d=>
    have h3:=(h2 s (.nil)).symm.trans (hat .nil)
    have h4:=(h2 s (.lit (.bool true))).symm.trans (hat (.lit (.bool true)))
    rw[hf]at h3 h4
    simp only[Option.getD_some]at h3 h4
    rw[h3]at h4;cases h4
  exact⟨λ_=>by simpa using hrun,λd hd=>(by rw[hn]at hd;cases hd)⟩
 ·have hn:f s=some y.1:=by
   cases hf:f s with
   |none=>
    have h3:=(h2 s (.nil)).symm.trans (hat .nil)
    have h4:=(h2 s (.lit (.bool true))).symm.trans (hat (.lit (.bool true)))
    rw[hf]at h3 h4
    simp only[Option.getD_none]at h3 h4
    rw[<-h3]at h4;cases h4
   |some d=>
    have h3:=(h2 s (.nil)).symm.trans (hat .nil)
    rw[hf]at h3
    simp only[Option.getD_some]at h3
    rw[h3]
  refine⟨λh0=>(by rw[hn]at h0;cases h0),λd hd=>⟨e0.val,y.2,by simpa using hrun,?_⟩⟩
  rw[hn]at hd;cases hd
  exact hR
theorem jY.ext (h:jY P k R w b n f) {w':World} (hx:w.Extends w'):jY P k R w' b n f:=h.blk (hx.block b h.lt)
theorem NG {w0 w:World} {o:Obj} (h:w0.Extends w):w0.Extends (w.alloc o).drew:=(h.alloc o).drew
theorem NH {w0 w w':World} {b:Nat} (h:w0.Extends w) (hg:w.grownBy w' (some b)) (hb:w0.heap.size<=b):w0.Extends w':=by
 obtain⟨g1,g2,g3,g4,g5⟩:=hg
 have hblk:∀i:Nat,i<w0.heap.size->w'.heap[i]?=w0.heap[i]?:=λi hi=>(g5 i (Nat.lt_of_lt_of_le hi h.size) (by intro e;cases e;omega)).trans (h.block i hi)
 exact⟨g1.trans h.os,g2.trans h.tape,g3.trans h.output,Nat.le_trans h.size g4,λa ha=>by simp only[World.cell?,hblk a.block ha],λa ha=>by simp only[World.frozen?,hblk a.block ha],hblk⟩
theorem ar6 {e:TypeId} (he:P.underlying e=some .string) {x:au} (hx:x.length<=maxLen):plainElem (H:=Unit) P e (.string (az x))=some (.lit (.string x),[]):=by
 rw[plainElem_string he (by rw[l6];exact hx)];simp[az]
theorem afZ {w0 w1 w2:World} {cs:Array Value} {ty:TypeId} (hx:(w0.alloc (.cells cs ty)).drew.Extends w2) {j:Nat} {v:Value} (hj:cs[j]?=some v):w2.cell? {block:=w0.heap.size,off:=j}=some v:=by
 have hb:w2.heap[w0.heap.size]?=some (.cells cs ty):=by
  rw[hx.block w0.heap.size (by show w0.heap.size<(w0.alloc (.cells cs ty)).heap.size;rw[World.size_alloc];omega)]
  exact World.alloc_heap_new w0 _
 simp[World.cell?,hb,hj]
end Go.aX
namespace Go.aX
open Go Go.aW Go.Proofs Go.RowKit
noncomputable abbrev MF:Value->Option (qB×List MemPlace):=plainElem Tryz.prog 9
set_option maxHeartbeats 4000000 in
theorem alV (sp:Option Addr) (a:Addr) (c n:Nat) (row:Nat->au×au×au×Int) (nm:Nat->au) (fm:Nat->au->Option qB) (w:World) (hn:n<=1000) (XT:n<=c) (hsp:0<n->sp=some a)
 (h0:fm 0=λ_=>none) (hstep:∀i,i<n->fm (i+1)=λx=>cond (decide (x=nm i)) (some (.lit (.string (row i).2.2.1))) (fm i x))
 (hrow:∀w1,w.Extends w1->∀i,i<n->w1.cell? (a.add (i*4))=some (.string (az (row i).1))/\w1.cell? {block:=(a.add (i*4)).block,off:=(a.add (i*4)).off+1}=some (.string (az (row i).2.1))/\w1.cell? {block:=(a.add (i*4)).block,off:=(a.add (i*4)).off+2}=some (.string (az (row i).2.2.1))/\w1.cell? {block:=(a.add (i*4)).block,off:=(a.add (i*4)).off+3}=some (.int .i64 (row i).2.2.2))
 (hlen:∀i,i<n->(nm i).length<=maxLen/\(row i).2.2.1.length<=maxLen)
 (XU:∀w1,w.Extends w1->∀i,i<n->Calls Tryz.prog 20 #[.agg #[.string (az (row i).1),.string (az (row i).2.1)]] w1 λe w2=>w1.Extends w2/\e= .returned (.string (az (nm i)))):
 Calls Tryz.prog 23 #[.slice sp n c,.func (.func 20) #[] #[]] w λe w'=>w.Extends w'/\∃B,e= .returned (.map (some B))/\w.heap.size<=B/\jY Tryz.prog 9 MF w' B n (fm n):=by
 have lH:=@Go.RowKit.run_makeMap Tryz.prog
 go_enter Tryz.func23,Tryz.ntmps23
 go_wp2
 go_loopw [11] (λv wr=>∃k:Nat,k<=n/\v= .int .i64 k/\w.Extends wr/\jY Tryz.prog 9 MF wr w.heap.size k (fm k)) (λv _=>n-(intOf v).toNat)
 case atStart=>exact⟨0,Nat.zero_le _,rfl,(World.Extends.refl w).alloc _,by rw[h0];exact jY.made _ _ _ _⟩
 case round=>
  obtain⟨k,hk,rfl,hx,hm⟩:=hrel
  by_cases qa:k<n
  ·obtain rfl:=hsp (by omega)
   obtain⟨bW,c1,c2,c3⟩:=hrow wr hx k qa
   go_upto_region 5 with fail
   go_region_with (go_at_call 20;refine(XU _ (NG hx) k qa).mono ?_;rintro e w2 ⟨hx2,rfl⟩;have d2:=afZ (w1:=w2) hx2 (j:=2) rfl;obtain⟨w3,Pu,tf,hg3⟩:=(hm.ext ((NG (World.Extends.refl wr)).trans hx2)).store Tryz.underlying9 Tryz.underlying52 (by unfold maxLen;omega) (hlen k qa).1 (ar6 Tryz.underlying9 (hlen k qa).2))
   all_goals
    have aem:w.Extends w3:=NH ((NG hx).trans hx2) hg3 (Nat.le_refl _)
    have aen:jY Tryz.prog 9 MF w3 w.heap.size (k+1) (fm (k+1)):=by rw[hstep k qa];exact tf
    clear Pu hg3 tf hx2 d2 hm hrow XU hstep
    go_wp2
    go_roundw
    case rel=>exact⟨k+1,by omega,by go_num,aem,aen⟩
    case measure=>simp[intOf];omega
  ·have:k=n:=by omega
   subst this
   go_wp2
   all_goals (go_ret;exact⟨hx,_,rfl,Nat.le_refl _,hm⟩)
end Go.aX
namespace Go.aX
open Go Go.aW Go.Proofs Go.RowKit
open Classical in
noncomputable def xY (v:Value):Option (qB×List MemPlace):=if v= .func (.func 20) #[] #[]then some (.lit (.bool true),[])else match v with
 | .func (.func 21) _ _=>some (.lit (.bool false),[])
 |_=>none
theorem aeq:xY (.func (.func 20) #[] #[])=some (.lit (.bool true),[]):=by unfold xY;rw[if_pos rfl]
theorem aer (p:Value):xY (.func (.func 21) #[] #[p])=some (.lit (.bool false),[]):=by
 unfold xY;rw[if_neg (by intro h;injection h with h;injection h with h;cases h)];rfl
theorem aes {v:Value} {ps:List MemPlace} (h:xY v=some (.lit (.bool true),ps)):v= .func (.func 20) #[] #[]:=by
 unfold xY at h
 split at h
 ·assumption
 ·split at h
  ·cases h
  ·cases h
abbrev lN:au:=[110,111,110,101]
abbrev KW:au:=[115,104,97,50,53,54]
def oP (g:Nat) (s0 s1 s2 ez:Value) (w:World):Prop:=w.heap[g]?=some (.cells #[s0] 9)/\w.heap[g+1]?=some (.cells #[s1,s2,ez] 25)/\w.heap[g+1+1]?=some (.cells #[.int .i64 0,.int .i64 0,.string ⟨#[]⟩,.slice none 0 0,.slice none 0 0] 30)
theorem oP.ext {g:Nat} {s0 s1 s2 ez:Value} {w w':World} (h:oP g s0 s1 s2 ez w) (hx:w.Extends w'):oP g s0 s1 s2 ez w':=by
 obtain⟨h1,h2,h3⟩:=h
 exact⟨(hx.block g (Array.getElem?_eq_some_iff.1 h1).1).trans h1,(hx.block _ (Array.getElem?_eq_some_iff.1 h2).1).trans h2,(hx.block _ (Array.getElem?_eq_some_iff.1 h3).1).trans h3⟩
theorem oP.grown {g b:Nat} {s0 s1 s2 ez:Value} {w w':World} (h:oP g s0 s1 s2 ez w) (hg:w.grownBy w' (some b)) (hb:g+1+1<b):oP g s0 s1 s2 ez w':=by
 obtain⟨h1,h2,h3⟩:=h
 obtain⟨_,_,_,_,g5⟩:=hg
 exact⟨(g5 g (Array.getElem?_eq_some_iff.1 h1).1 (by intro e;cases e;omega)).trans h1,(g5 _ (Array.getElem?_eq_some_iff.1 h2).1 (by intro e;cases e;omega)).trans h2,(g5 _ (Array.getElem?_eq_some_iff.1 h3).1 (by intro e;cases e;omega)).trans h3⟩
theorem oP.cells {g:Nat} {s0 s1 s2 ez:Value} {w:World} (h:oP g s0 s1 s2 ez w):w.cell? {block:=g,off:=0}=some s0/\w.cell? {block:=g+1,off:=0}=some s1/\w.cell? {block:=g+1,off:=1}=some s2/\w.cell? {block:=g+1,off:=2}=some ez/\
 w.cell? {block:=g+1+1,off:=0}=some (.int .i64 0)/\w.cell? {block:=g+1+1,off:=1}=some (.int .i64 0)/\w.cell? {block:=g+1+1,off:=2}=some (.string ⟨#[]⟩)/\w.cell? {block:=g+1+1,off:=3}=some (.slice none 0 0)/\w.cell? {block:=g+1+1,off:=4}=some (.slice none 0 0)/\
 w.frozen? {block:=g+1+1,off:=0}=false/\w.frozen? {block:=g+1+1,off:=1}=false/\w.frozen? {block:=g+1+1,off:=2}=false/\w.frozen? {block:=g+1+1,off:=3}=false/\w.frozen? {block:=g+1+1,off:=4}=false:=by
 obtain⟨h1,h2,h3⟩:=h
 simp[World.cell?,World.frozen?,h1,h2,h3]
abbrev W0 (w:World) (p q:au) (va:Value):World:=((w.alloc (.cells #[.string (az p)] 9)).alloc (.cells #[.string (az lN),.string (az q),va] 25)).alloc (.cells #[.int .i64 0,.int .i64 0,.string ⟨#[]⟩,.slice none 0 0,.slice none 0 0] 30)
theorem JY (w:World) (p q:au) (va:Value):∃w1 w2:World,
 (Instr.mapUpdate 50 (.map (some (w.heap.size+1+1+1))) (.string ⟨#[110,111,110,101]⟩) (.func (.func 20) #[] #[])).run Tryz.prog ((W0 w p q va).alloc (.map #[] 0))= .ok () w1/\
 (Instr.mapUpdate 50 (.map (some (w.heap.size+1+1+1))) (.string ⟨#[115,104,97,50,53,54]⟩) (.func (.func 21) #[] #[.pointer (some ⟨w.heap.size,0,none⟩)])).run Tryz.prog w1= .ok () w2/\
 (Instr.lookup 50 (.map (some (w.heap.size+1+1+1))) (.string (az lN)) true).run Tryz.prog w2= .ok (.tuple #[.func (.func 20) #[] #[],.bool true]) w2/\
 w.Extends w2/\oP w.heap.size (.string (az p)) (.string (az lN)) (.string (az q)) va w2:=by
 have hsz:(W0 w p q va).heap.size=w.heap.size+1+1+1:=by simp only[World.size_alloc]
 have XO:=jY.made (W0 w p q va) Tryz.prog 9 xY
 rw[hsz]at XO
 obtain⟨w1,fO,dE,g1⟩:=XO.store Tryz.underlying9 Tryz.underlying50 (by unfold maxLen;omega) (s:=lN) (by decide) aeq
 obtain⟨w2,lP,m2,g2⟩:=dE.store Tryz.underlying9 Tryz.underlying50 (by unfold maxLen;omega) (s:=KW) (by decide) (aer (.pointer (some ⟨w.heap.size,0,none⟩)))
 obtain⟨z,hz⟩:∃z,(zeroValue 49).run Tryz.prog w2= .ok z w2:=⟨_,rfl⟩
 obtain⟨v,ps,l1,l2⟩:=(m2.look Tryz.underlying9 Tryz.underlying50 hz (s:=lN) (by decide)).2 (.lit (.bool true)) rfl
 rw[aes l2]at l1
 have hx0:w.Extends ((W0 w p q va).alloc (.map #[] 0)):=((((World.Extends.refl w).alloc _).alloc _).alloc _).alloc _
 have hx1:=NH hx0 g1 (by omega)
 have hx2:=NH hx1 g2 (by omega)
 refine⟨w1,w2,fO,lP,l1,hx2,?_⟩
 have hF:oP w.heap.size (.string (az p)) (.string (az lN)) (.string (az q)) va ((W0 w p q va).alloc (.map #[] 0)):=by
  have e1:(w.alloc (.cells #[.string (az p)] 9)).heap.size=w.heap.size+1:=World.size_alloc ..
  have e2:((w.alloc (.cells #[.string (az p)] 9)).alloc (.cells #[.string (az lN),.string (az q),va] 25)).heap.size=w.heap.size+1+1:=by rw[World.size_alloc,e1]
  refine⟨?_,?_,?_⟩
  ·exact((((World.Extends.refl _).alloc _).alloc _).alloc _).block w.heap.size (by rw[e1];omega) |>.trans (World.alloc_heap_new w _)
  ·have:=World.alloc_heap_new (w.alloc (.cells #[.string (az p)] 9)) (.cells #[.string (az lN),.string (az q),va] 25)
   rw[e1]at this
   exact(((World.Extends.refl _).alloc _).alloc _).block (w.heap.size+1) (by rw[e2];omega) |>.trans this
  ·have:=World.alloc_heap_new ((w.alloc (.cells #[.string (az p)] 9)).alloc (.cells #[.string (az lN),.string (az q),va] 25)) (.cells #[.int .i64 0,.int .i64 0,.string ⟨#[]⟩,.slice none 0 0,.slice none 0 0] 30)
   rw[e2]at this
   exact((World.Extends.refl _).alloc _).block (w.heap.size+1+1) (by rw[hsz];omega) |>.trans this
 exact(hF.grown g1 (by omega)).grown g2 (by omega)
theorem pU {w0 w1:World} (h:w0.Extends w1) {a:Addr} (ha:w0.heap.size<=a.block) (v:Value):w0.Extends (w1.setCell a v):=by
 have hs:(w1.setCell a v).heap.size=w1.heap.size:=by simp[World.setCell]
 have hblk:∀i:Nat,i<w0.heap.size->(w1.setCell a v).heap[i]?=w0.heap[i]?:=λi hi=>(Go.heap_setCell_other w1 a i v (by omega)).trans (h.block i hi)
 exact⟨h.os,h.tape,h.output,by rw[hs];exact h.size,λb hb=>by simp only[World.cell?,hblk b.block hb],λb hb=>by simp only[World.frozen?,hblk b.block hb],hblk⟩
theorem oy {w:World} {g:Nat} {cs:Array Value} (hg:w.heap[g]?=some (.cells cs 30 (0,0))) (h5:cs.size=5) (x0 x1 x2 x3 bL:Value):
 (((((w.setCell ⟨g,0,none⟩ x0).setCell ⟨g,1,none⟩ x1).setCell ⟨g,2,none⟩ x2).setCell ⟨g,3,none⟩ x3).setCell ⟨g,4,none⟩ bL).heap[g]?=some (.cells #[x0,x1,x2,x3,bL] 30 (0,0)):=by
 match cs,h5 with
 |⟨[a,b,c,d,e]⟩,_=>exact heap_setCell_same _ g 4 _ 30 bL (heap_setCell_same _ g 3 _ 30 x3 (heap_setCell_same _ g 2 _ 30 x2 (heap_setCell_same _ g 1 _ 30 x1 (heap_setCell_same w g 0 _ 30 x0 hg))))
theorem nY {w0 w:World} (h:w0.Extends w) {g:Nat} (hg:w0.heap.size<=g) (x0 x1 x2 x3 bL:Value):w0.Extends (((((w.setCell ⟨g,0,none⟩ x0).setCell ⟨g,1,none⟩ x1).setCell ⟨g,2,none⟩ x2).setCell ⟨g,3,none⟩ x3).setCell ⟨g,4,none⟩ bL):=
 pU (pU (pU (pU (pU h (a:=⟨g,0,none⟩) hg x0) (a:=⟨g,1,none⟩) hg x1) (a:=⟨g,2,none⟩) hg x2) (a:=⟨g,3,none⟩) hg x3) (a:=⟨g,4,none⟩) hg bL
theorem Gg {tmps:Array Value} {w:World} {g:Nat} {cs:Array Value} {u:Value} (h6:tmps.getD 6 undef= .pointer (some ⟨g,0,none⟩)) (h7:tmps.getD 7 undef=u) (hg:w.heap[g]?=some (.cells cs 30 (0,0))) (h5:cs.size=5):
 (results Tryz.f9 tmps).run Tryz.prog w= .ok (.tuple #[.agg cs,u]) w:=by
 rw[results_cell_tmp (p:=6) (u:=7) (ty:=30) (by kernel_rfl),h6,h7]
 have hl:=run_loadVar_row (P:=Tryz.prog) w g 30 30 cs (0,0) _ hg Tryz.underlying30 rfl (by rw[h5];kernel_rfl)
 simp[asAddr,hl,Result.andThen]
set_option maxHeartbeats 4000000 in
theorem anR (v0 va:Value) (p q:au) (w:World) (b1 b2:Bool) (hb:(b1&&b2)=false)
 (j2:∀w1,w.Extends w1->Calls Tryz.prog 14 #[.string (az p)] w1 λe w2=>w1.Extends w2/\e= .returned (.bool b1))
 (yB:∀w1,w.Extends w1->Calls Tryz.prog 22 #[v0] w1 λe w2=>w1.Extends w2/\e= .returned (.bool b2)):
 Calls Tryz.prog 9 #[v0,.string (az p),.agg #[.string (az lN),.string (az q),va]] w λe w'=>w.Extends w'/\e= .returned (.tuple #[.agg #[.int .i64 0,.int .i64 0,.string ⟨#[]⟩,.slice none 0 0,.slice none 0 0],.int .i64 1]):=by
 have lH:=@Go.RowKit.run_makeMap Tryz.prog
 obtain⟨w1,w2,fO,lP,oD,hx2,hF2⟩:=JY w p q va
 obtain⟨d0,d1,d2,d3,_⟩:=hF2.cells
 cases b1 with
 |false=>
  go_enter Tryz.func9,Tryz.ntmps9
  go_wp2_with (go_at_call 14;refine(j2 _ (by assumption)).mono ?_;rintro e w3 ⟨hx3,rfl⟩;obtain⟨e0,e1,e2,e3,bW,c1,c2,c3,c4,f0,f1,f2,f3,f4⟩:=(hF2.ext hx3).cells)
  all_goals
   exact bodyPost_ret (Gg rfl rfl (oy (hF2.ext hx3).2.2 rfl _ _ _ _ _) rfl) rfl ⟨nY (hx2.trans hx3) (by omega) _ _ _ _ _,rfl⟩
 |true=>
  have:b2=false:=by simpa using hb
  subst this
  go_enter Tryz.func9,Tryz.ntmps9
  go_wp2_with (first
   |(go_at_call 14;refine(j2 _ (by assumption)).mono ?_;rintro e w3 ⟨hx3,rfl⟩;have rZ:=hx2.trans hx3;have s3:=hF2.ext hx3)
   |(go_at_call 22;refine(yB _ rZ).mono ?_;rintro e w4 ⟨ir,rfl⟩;obtain⟨e0,e1,e2,e3,bW,c1,c2,c3,c4,f0,f1,f2,f3,f4⟩:=(s3.ext ir).cells))
  all_goals
   exact bodyPost_ret (Gg rfl rfl (oy (s3.ext ir).2.2 rfl _ _ _ _ _) rfl) rfl ⟨nY (rZ.trans ir) (by omega) _ _ _ _ _,rfl⟩
set_option maxHeartbeats 4000000 in
theorem anT (v0 va:Value) (p q:au) (w:World) (hq:¬q=p)
 (j2:∀w1,w.Extends w1->Calls Tryz.prog 14 #[.string (az p)] w1 λe w2=>w1.Extends w2/\e= .returned (.bool true))
 (yB:∀w1,w.Extends w1->Calls Tryz.prog 22 #[v0] w1 λe w2=>w1.Extends w2/\e= .returned (.bool true)):
 Calls Tryz.prog 9 #[v0,.string (az p),.agg #[.string (az lN),.string (az q),va]] w λe w'=>w.Extends w'/\e= .returned (.tuple #[.agg #[.int .i64 0,.int .i64 0,.string ⟨#[]⟩,.slice none 0 0,.slice none 0 0],.int .i64 15]):=by
 have lH:=@Go.RowKit.run_makeMap Tryz.prog
 obtain⟨w1,w2,fO,lP,oD,hx2,hF2⟩:=JY w p q va
 obtain⟨d0,d1,d2,d3,_⟩:=hF2.cells
 have hne:¬az q=az p:=λe=>hq (by have:=congrArg (λb=>b.data.toList) e;simpa [az]using this)
 have aAC:((az q).toList==(az p).toList)=false:=by rw[ya,ya];simpa using hq
 go_enter Tryz.func9,Tryz.ntmps9
 go_wp2_with (first
  |(go_at_call 14;refine(j2 _ (by assumption)).mono ?_;rintro e w3 ⟨hx3,rfl⟩;have rZ:=hx2.trans hx3;have s3:=hF2.ext hx3)
  |(go_at_call 22;refine(yB _ rZ).mono ?_;rintro e w4 ⟨ir,rfl⟩;obtain⟨e0,e1,e2,e3,bW,c1,c2,c3,c4,f0,f1,f2,f3,f4⟩:=(s3.ext ir).cells))
 all_goals
  exact bodyPost_ret (Gg rfl rfl (oy (s3.ext ir).2.2 rfl _ _ _ _ _) rfl) rfl ⟨nY (rZ.trans ir) (by omega) _ _ _ _ _,rfl⟩
set_option maxHeartbeats 4000000 in
theorem anS (v0:Value) (ap:Option Addr) (kR mH:Nat) (p:au) (w:World) (hn:32<kR)
 (j2:∀w1,w.Extends w1->Calls Tryz.prog 14 #[.string (az p)] w1 λe w2=>w1.Extends w2/\e= .returned (.bool true))
 (yB:∀w1,w.Extends w1->Calls Tryz.prog 22 #[v0] w1 λe w2=>w1.Extends w2/\e= .returned (.bool true)):
 Calls Tryz.prog 9 #[v0,.string (az p),.agg #[.string (az lN),.string (az p),.slice ap kR mH]] w λe w'=>w.Extends w'/\e= .returned (.tuple #[.agg #[.int .i64 0,.int .i64 0,.string ⟨#[]⟩,.slice none 0 0,.slice none 0 0],.int .i64 16]):=by
 have lH:=@Go.RowKit.run_makeMap Tryz.prog
 obtain⟨w1,w2,fO,lP,oD,hx2,hF2⟩:=JY w p p (.slice ap kR mH)
 obtain⟨d0,d1,d2,d3,_⟩:=hF2.cells
 have hg:(32:Int)<(kR:Int):=by omega
 go_enter Tryz.func9,Tryz.ntmps9
 go_wp2_with (first
  |(go_at_call 14;refine(j2 _ (by assumption)).mono ?_;rintro e w3 ⟨hx3,rfl⟩;have rZ:=hx2.trans hx3;have s3:=hF2.ext hx3)
  |(go_at_call 22;refine(yB _ rZ).mono ?_;rintro e w4 ⟨ir,rfl⟩;obtain⟨e0,e1,e2,e3,bW,c1,c2,c3,c4,f0,f1,f2,f3,f4⟩:=(s3.ext ir).cells))
 all_goals
  exact bodyPost_ret (Gg rfl rfl (oy (s3.ext ir).2.2 rfl _ _ _ _ _) rfl) rfl ⟨nY (rZ.trans ir) (by omega) _ _ _ _ _,rfl⟩
end Go.aX
namespace Go.aX
open Go Go.aW Go.Proofs Go.RowKit
set_option maxHeartbeats 4000000 in
theorem R2 (x:ByteArray) (w:World):Calls Tryz.prog 25 #[.string x] w λe w'=>w.Extends w'/\e= .returned (.agg #[.int .i64 4,.int .i64 0,.string x,.slice none 0 0,.slice none 0 0]):=by
 go_enter Tryz.func25,Tryz.ntmps25
 go_wp2
 exact bodyPost_ret (results_cell_row (p:=2) (ty:=30) (by kernel_rfl) _ _ w.heap.size 30 _ (0,0) _ rfl (World.alloc_heap_new _ _) Tryz.underlying30 rfl (by kernel_rfl)) rfl ⟨(World.Extends.refl w).alloc _,rfl⟩
theorem ar7 {P:Program} {e:TypeId} (he:P.underlying e=some .string) {v:Value} {x:au} {ps:List MemPlace} (h:plainElem (H:=Unit) P e v=some (.lit (.string x),ps)):v= .string (az x):=by
 unfold plainElem at h
 rw[he]at h
 cases v<;>simp only[reduceCtorEq]at h
 rename_i b
 split at h
 ·simp only[Option.some.injEq,Prod.mk.injEq,DataW.lit.injEq,Lit.string.injEq]at h
  rw[<-h.1];cases b;simp[az]
 ·cases h
def aeD (b g:Nat) (w1 w2:World):Prop:=∀k,k<w1.heap.size->b<k->k≠g->w2.heap[k]?=w1.heap[k]?
theorem fq {w:World} {g:Nat} {x0 x1 x2 x3 bL:Value} (h:w.heap[g]?=some (.cells #[x0,x1,x2,x3,bL] 30 (0,0))):w.cell? {block:=g,off:=0}=some x0/\w.cell? {block:=g,off:=1}=some x1/\w.cell? {block:=g,off:=2}=some x2/\w.cell? {block:=g,off:=3}=some x3/\w.cell? {block:=g,off:=4}=some bL/\
 w.frozen? {block:=g,off:=0}=false/\w.frozen? {block:=g,off:=1}=false/\w.frozen? {block:=g,off:=2}=false/\w.frozen? {block:=g,off:=3}=false/\w.frozen? {block:=g,off:=4}=false:=by
 simp[World.cell?,World.frozen?,h]
theorem kB (w:World) {g k:Nat} (hk:k≠g) (x0 x1 x2 x3 bL:Value):
 (((((w.setCell ⟨g,0,none⟩ x0).setCell ⟨g,1,none⟩ x1).setCell ⟨g,2,none⟩ x2).setCell ⟨g,3,none⟩ x3).setCell ⟨g,4,none⟩ bL).heap[k]?=w.heap[k]?:=by
 rw[Go.heap_setCell_other _ ⟨g,4,none⟩ k bL hk,Go.heap_setCell_other _ ⟨g,3,none⟩ k x3 hk,Go.heap_setCell_other _ ⟨g,2,none⟩ k x2 hk,Go.heap_setCell_other _ ⟨g,1,none⟩ k x1 hk,Go.heap_setCell_other _ ⟨g,0,none⟩ k x0 hk]
theorem oP.of {g:Nat} {s0 s1 s2 ez:Value} {w w':World} (h:oP g s0 s1 s2 ez w) (h0:w'.heap[g]?=w.heap[g]?) (h1:w'.heap[g+1]?=w.heap[g+1]?) (h2:w'.heap[g+1+1]?=w.heap[g+1+1]?):oP g s0 s1 s2 ez w':=⟨h0.trans h.1,h1.trans h.2.1,h2.trans h.2.2⟩
set_option maxHeartbeats 8000000 in
theorem anU (v0:Value) (sp:Option Addr) (ad:Addr) (kR mH ZO:Nat) (p:au) (s:Nat->au) (DD:au->Option au) (w:World) (hn:kR<=32) (XT:kR<=mH) (hsp:0<kR->sp=some ad)
 (j2:∀w1,w.Extends w1->Calls Tryz.prog 14 #[.string (az p)] w1 λe w2=>w1.Extends w2/\e= .returned (.bool true))
 (yB:∀w1,w.Extends w1->Calls Tryz.prog 22 #[v0] w1 λe w2=>w1.Extends w2/\e= .returned (.bool true))
 (hIdx:∀w1,w.Extends w1->Calls Tryz.prog 23 #[v0,.func (.func 20) #[] #[]] w1 λe w2=>w1.Extends w2/\∃B,e= .returned (.map (some B))/\w1.heap.size<=B/\jY Tryz.prog 9 (plainElem Tryz.prog 9) w2 B ZO λx=>(DD x).map λt=> .lit (.string t))
 (hs:∀w1,w.Extends w1->∀i,i<kR->w1.cell? (ad.add i)=some (.string (az (s i)))) (o8:∀i,i<kR->(s i).length<=maxLen)
 (Rel:Nat->Nat->World->Value->Value->Prop)
 (ais:∀g w1,Rel 0 g w1 (.slice none 0 0) (.slice none 0 0))
 (Og:∀i g w1 w2 nm it,Rel i g w1 nm it->aeD (w.heap.size+1+1) g w1 w2->Rel i g w2 nm it)
 (aix:∀i g w1 nm it,i<kR->DD (s i)=none->Rel i g w1 nm it->Rel (i+1) g w1 nm it)
 (aiB:∀i g w1 nm it t,i<kR->DD (s i)=some t->w.Extends w1->g<w1.heap.size->w.heap.size+1+1<g->Rel i g w1 nm it->
   Calls Tryz.prog 24 #[.agg #[.int .i64 6,.int .i64 0,.string ⟨#[]⟩,nm,it],.string (az (s i)),.agg #[.int .i64 4,.int .i64 0,.string (az t),.slice none 0 0,.slice none 0 0]] w1 λe w2=>w1.Extends w2/\∃q1 n1 c1 q2 n2 c2,Rel (i+1) g w2 (.slice q1 n1 c1) (.slice q2 n2 c2)/\e= .returned (.tuple #[.agg #[.int .i64 6,.int .i64 0,.string ⟨#[]⟩,.slice q1 n1 c1,.slice q2 n2 c2],.int .i64 0])):
 Calls Tryz.prog 9 #[v0,.string (az p),.agg #[.string (az lN),.string (az p),.slice sp kR mH]] w λe w'=>w.Extends w'/\∃g nm it,Rel kR g w' nm it/\w.heap.size<=g/\e= .returned (.tuple #[.agg #[.int .i64 6,.int .i64 0,.string ⟨#[]⟩,nm,it],.int .i64 0])/\(∃q n c,nm= .slice q n c)/\∃q n c,it= .slice q n c:=by
 have lH:=@Go.RowKit.run_makeMap Tryz.prog
 obtain⟨w1,w2,fO,lP,oD,hx2,hF2⟩:=JY w p p (.slice sp kR mH)
 obtain⟨d0,d1,d2,d3,_⟩:=hF2.cells
 have hg:¬(32:Int)<(kR:Int):=by omega
 go_enter Tryz.func9,Tryz.ntmps9
 go_wp2_with (first
  |(go_at_call 14;refine(j2 _ (by assumption)).mono ?_;rintro e w3 ⟨hx3,rfl⟩;have rZ:=hx2.trans hx3;have s3:=hF2.ext hx3)
  |(go_at_call 22;refine(yB _ rZ).mono ?_;rintro e w4 ⟨ir,rfl⟩;have Yl:=rZ.trans ir;have WG:=s3.ext ir;obtain⟨e0,e1,e2,e3,_⟩:=WG.cells)
  |(go_at_call 23;refine(hIdx _ Yl).mono ?_;rintro e fG ⟨o9,B,rfl,hB,XP⟩;have Jx:=Yl.trans o9;have IU:=WG.ext o9;have oh:=(World.Extends.refl fG).alloc (.cells #[.int .i64 6,.int .i64 0,.string ⟨#[]⟩,.slice none 0 0,.slice none 0 0] 30);obtain⟨iG,k1,k2,k3,_⟩:=IU.cells;obtain⟨n0,n1,n2,n3,_⟩:=(IU.ext oh).cells))
 have IS:w.heap.size+1+1<fG.heap.size:=(Array.getElem?_eq_some_iff.1 IU.2.2).1
 have DY:B<fG.heap.size:=XP.lt
 go_loopw [61] (λv wr=>∃k:Nat,k<=kR/\v= .int .i64 k/\w.Extends wr/\oP w.heap.size (.string (az p)) (.string (az lN)) (.string (az p)) (.slice sp kR mH) wr/\jY Tryz.prog 9 (plainElem Tryz.prog 9) wr B ZO (λx=>(DD x).map λt=> .lit (.string t))/\∃q1 n1 c1 q2 n2 c2,wr.heap[fG.heap.size]?=some (.cells #[.int .i64 6,.int .i64 0,.string ⟨#[]⟩,.slice q1 n1 c1,.slice q2 n2 c2] 30 (0,0))/\Rel k fG.heap.size wr (.slice q1 n1 c1) (.slice q2 n2 c2)) (λv _=>kR-(intOf v).toNat)
 case atStart=>exact⟨0,Nat.zero_le _,rfl,Jx.alloc _,IU.ext oh,XP.ext oh,none,0,0,none,0,0,World.alloc_heap_new _ _,ais _ _⟩
 case round=>
  obtain⟨k,hk,rfl,hx,hF,hm,eb,gP,kc,iv,nO,tR,Ek,hR⟩:=hrel
  obtain⟨q0,q1,q2,q3,bW,c1,c2,c3,c4,f0,f1,f2,f3,f4⟩:=hF.cells
  obtain⟨m0,dE,m2,m3,sb,J4,J5,J6,J7,J8⟩:=fq Ek
  by_cases qa:k<kR
  ·obtain rfl:=hsp (by omega)
   have hc:=hs _ hx k qa
   have hlk:=hm.look Tryz.underlying9 Tryz.underlying52 (z:= .string ⟨#[]⟩) rfl (o8 k qa)
   cases hf:DD (s k)with
   |none=>
    have R8:=hlk.1 (by rw[hf];rfl)
    go_wp2
    go_roundw
    case rel=>exact⟨k+1,by omega,by go_num,hx,hF,hm,eb,gP,kc,iv,nO,tR,Ek,aix _ _ _ _ _ qa hf hR⟩
    case measure=>simp[intOf];omega
   |some t=>
    obtain⟨v,ps,R8,hv⟩:=hlk.2 _ (by rw[hf];rfl)
    have:=ar7 Tryz.underlying9 hv
    subst this
    go_upto_region 17 with fail
    have wO:fG.heap.size<wr.heap.size:=(Array.getElem?_eq_some_iff.1 Ek).1
    go_region_with (first
     |(go_at_call 25;refine(R2 _ _).mono ?_;rintro e dy ⟨alD,rfl⟩;have qS:wr.Extends dy:=(World.Extends.refl wr).drew.trans alD;have akf:dy.heap[fG.heap.size]?=_:=(qS.block _ wO).trans Ek;obtain⟨l0,l1,l2,l3,Fx,lf0,lf1,lf2,lf3,lf4⟩:=fq akf)
     |(go_at_call 24;refine(aiB k fG.heap.size _ _ _ t qa hf (hx.trans qS) (Nat.lt_of_lt_of_le wO qS.size) IS (Og _ _ _ _ _ _ hR (λj hj _ _=>qS.block j hj))).mono ?_;rintro e gu ⟨Py,af,z2,z3,z4,z5,aq,n4,rfl⟩;have Jy:=qS.trans Py;have XC:gu.heap[fG.heap.size]?=_:=(Jy.block _ wO).trans Ek;obtain⟨p0,p1,aJ,bb,b7,aBJ,aBK,aBL,aBM,aBN⟩:=fq XC))
    all_goals
     have alF:=hx.trans Jy
     have r1:=nY (g:=fG.heap.size) alF Jx.size (.int .i64 6) (.int .i64 0) (.string ⟨#[]⟩) (.slice af z2 z3) (.slice z4 z5 aq)
     have r2:=(hF.ext Jy).of (kB gu (g:=fG.heap.size) (by have:=Jx.size;have:=IS;omega) (.int .i64 6) (.int .i64 0) (.string ⟨#[]⟩) (.slice af z2 z3) (.slice z4 z5 aq)) (kB gu (g:=fG.heap.size) (by have:=IS;omega) (.int .i64 6) (.int .i64 0) (.string ⟨#[]⟩) (.slice af z2 z3) (.slice z4 z5 aq)) (kB gu (g:=fG.heap.size) (by have:=IS;omega) (.int .i64 6) (.int .i64 0) (.string ⟨#[]⟩) (.slice af z2 z3) (.slice z4 z5 aq))
     have r3:=(hm.ext Jy).blk (kB gu (g:=fG.heap.size) (k:=B) (Nat.ne_of_lt DY) (.int .i64 6) (.int .i64 0) (.string ⟨#[]⟩) (.slice af z2 z3) (.slice z4 z5 aq))
     have fN:=oy XC rfl (.int .i64 6) (.int .i64 0) (.string ⟨#[]⟩) (.slice af z2 z3) (.slice z4 z5 aq)
     have cw:=Og _ _ _ _ _ _ n4 (λj _ _ hj=>kB gu hj (.int .i64 6) (.int .i64 0) (.string ⟨#[]⟩) (.slice af z2 z3) (.slice z4 z5 aq))
     go_wp2
     go_roundw
     case rel=>exact⟨k+1,by omega,by go_num,r1,r2,r3,_,_,_,_,_,_,fN,cw⟩
     case measure=>simp[intOf];omega
  ·have:k=kR:=by omega
   subst this
   go_wp2
   all_goals
    refine bodyPost_ret (Gg rfl rfl (oy hF.2.2 rfl _ _ _ _ _) rfl) rfl ?_
    exact⟨nY hx (by omega) _ _ _ _ _,_,_,_,Og _ _ _ _ _ _ hR (λj _ n7 _=>kB _ (show j≠w.heap.size+1+1 by omega) _ _ _ _ _),Jx.size,rfl,⟨_,_,_,rfl⟩,_,_,_,rfl⟩
end Go.aX
namespace Go.aX
open Go Go.aW Go.Proofs Go.RowKit
theorem afe (x y:au):az y++{data:=#[32]}++az x=az (y++[32]++x):=by
 apply ByteArray.ext;apply Array.ext';simp[az]
set_option maxHeartbeats 4000000 in
theorem auH (x y:au) (w:World) (h:x.length+1+y.length<=1000000):Calls Tryz.prog 20 #[.agg #[.string (az x),.string (az y)]] w λe w'=>w.Extends w'/\e= .returned (.string (az (y++[32]++x))):=by
 have h1:¬0x7fffffffffffffff<(az y).size+1:=by rw[l6];omega
 have h2:¬0x7fffffffffffffff<(az y).size+1+(az x).size:=by rw[l6,l6];omega
 go_enter Tryz.func20,Tryz.ntmps20
 go_wp2
 rw[afe]
 go_ret
 exact⟨(World.Extends.refl w).alloc _,rfl⟩
end Go.aX
namespace Go.aX
open Go Go.aW Go.Proofs Go.RowKit
theorem zB {F F':Nat->Prop} {w w':World} {sh:List av} {rows:List (List Int)} {v:Value} (h:fK F w sh rows v) (hf:Fr F w F' w'):fK F' w' sh rows v:=by
 rcases h with h|⟨g,o,cap,cells,t,fz,h1,h2,h3,h4,h5⟩
 ·exact .inl h
 ·obtain⟨k1,k2⟩:=hf g h3 _ h4
  exact .inr ⟨g,o,cap,cells,t,fz,h1,h2,k1,k2,h5.mono hf⟩
theorem abu {F F':Nat->Prop} {w w':World} {sh:List av} {rows:List (List Int)} {v:Value} (h:fK F w sh rows v) (hF:∀g,F g->F' g) (hx:w.Extends w'):fK F' w' sh rows v:=zB h (Fr.ext hF hx)
theorem abx {F:Nat->Prop} {w:World} {sh:List av} {rows:List (List Int)} {v:Value} (hp:hZ sh=true) (h:fK F w sh rows v):∃(sp:Option Addr) (g o c:Nat),v= .slice sp rows.length c/\rows.length<=c/\(0<rows.length->sp=some ⟨g,o,none⟩)/\(∀row∈rows,bD sh row)/\∀w1,w.Extends w1->∀(i j:Nat) (row:List Int) (u:Value),rows[i]?=some row->(dm sh row)[j]?=some u->w1.cell? ⟨g,o+(i*sh.length+j),none⟩=some u:=by
 rcases h with⟨⟨p,rfl⟩,rfl⟩|⟨g,o,cap,cells,t,fz,h1,h2,h3,h4,h5⟩
 ·exact⟨p,0,0,0,rfl,Nat.le_refl _,by simp,by simp,by simp⟩
 ·obtain⟨hr,pre,post,k1,k2⟩:=(k0 hp).1 h5
  refine⟨_,g,o,cap,h1,h2.1,λ_=>rfl,hr,λw1 hx i j row u hi hj=>?_⟩
  have hlt:=(Array.getElem?_eq_some_iff.1 h4).1
  have hu:=ID hr hi hj
  simp only[World.cell?,hx.block g hlt,h4,Option.isSome_none,Bool.false_eq_true,if_false]
  have:cells.toList[o+(i*sh.length+j)]?=some u:=by
   rw[k1,List.append_assoc,List.getElem?_append_right (by omega),k2,Nat.add_sub_cancel_left,List.getElem?_append_left (List.getElem?_eq_some_iff.1 hu).1]
   exact hu
  simpa using this
theorem Wg {P:Program} {f:FuncId} {args:Array Value} {w:World} {val:Value} (he:(callFunc f args).run P w= .ok (.enter f args) w) (h:Af P f args w val):Calls P f args w λe w'=>e= .returned val/\w.Extends w':=by
 rcases h with h|⟨_,h⟩
 ·rw[he]at h;cases h
 ·exact h
theorem Kx {wb:World} (hp:bM wb r9) {c:Int} (h:0<=c/\c<=b8) {w:World} (hw:wb.Extends w):Calls Tryz.prog 14 #[.string (az (aa c))] w λe w2=>w.Extends w2/\e= .returned (.bool (e5 (aa c))):=by
 obtain⟨rs,h1,h2,h3⟩:=hp [c] ⟨h.1,h.2,trivial⟩
 match rs,h1 with
 |[r],h1=>
  have h2:r=bx (e5 (aa c)):=h2
  refine(Wg (enters (by kernel_rfl) _ _) (h3 w hw)).mono ?_
  rintro e w2 ⟨he,hx⟩
  refine⟨hx,?_⟩
  rw[he]
  show Ending.returned (.bool (decide (r=1)))=_
  rw[h2,Dg]
theorem asU {wb:World} (hr:du wb Bp) {F:Nat->Prop} {z:Int} (hz:0<=z/\z<=bV) (gf:ab z=[[477315081741,437051401625,1786254407,0]]) {w:World} {v:Value} (hw:wb.Extends w) (h:fK F w [.str,.str,.str,.int .i64 (-0x8000000000000000) 0x7fffffffffffffff] (ab z) v):Calls Tryz.prog 22 #[v] w λe w2=>w.Extends w2/\e= .returned (.bool (mv (bds z))):=by
 refine(hr.2 F w [v] [z] hw ⟨hz.1,hz.2,trivial⟩ gf ⟨h,trivial⟩).mono ?_
 rintro e w2 ⟨hx,rs,us,hb,hs,ha,rfl⟩
 match rs,hb,us,ha with
 |[r],hb,[u],ha=>
  have hs:r=bx (mv (bds z)):=hs
  have ha:u= .bool (decide (r=1)):=ha.1
  subst ha
  refine⟨hx,?_⟩
  rw[hs,Dg];rfl
def aet (w0:World) (l:List iQ) (d:List au) (nm:au×au->au) (i g:Nat) (w:World) (BV y8:Value):Prop:=∃a b:Int,(0<=a/\a<=bV)/\(0<=b/\b<=bV)/\mc a b/\(ab a).length<=i/\(∀s,pY a b s=cond ((d.take i).contains s) (q7 nm l s) none)/\fK (λh=>w0.heap.size+1+1<h/\h≠g) w [.str] (ab a) BV/\fK (λh=>w0.heap.size+1+1<h/\h≠g) w [.int .i64 4 4,.int .i64 0 0,.str,.nil,.nil] (ab b) y8
theorem aby {F:Nat->Prop} {w:World} {sh:List av} {rows:List (List Int)} {v:Value} (h:fK F w sh rows v):∃q n c,v= .slice q n c:=by
 rcases h with⟨⟨p,h⟩,_⟩|⟨g,o,cap,cells,t,fz,h1,_⟩
 ·exact⟨_,_,_,h⟩
 ·exact⟨_,_,_,h1⟩
theorem abK {d:List au} {i:Nat} (hi:i<d.length) (s:au):(d.take (i+1)).contains s=((d.take i).contains s||decide (s=d[i])):=by
 have e:d.take (i+1)=d.take i++[d[i]]:=by rw[List.take_add_one,List.getElem?_eq_getElem hi];rfl
 rw[e]
 generalize d.take i=x
 generalize d[i]=y
 rw[Bool.eq_iff_iff]
 simp
theorem Rv:aa 0=[]:=fj []
theorem UF:az (aa 0)=⟨#[]⟩:=by rw[Rv];rfl
theorem C6:0<=bV:=nU (l:=[]) (by simp) (by simp)
theorem al0 {e:Int} (h:0<=e/\e<=21):bd (bR JN.res) [0,0,0,0,0,e]:=⟨by decide,by decide,by decide,by decide,by decide,pH,by decide,C6,by decide,C6,h.1,h.2,trivial⟩
theorem anQ (l:List iQ) (p q:au) (d:List au):0<=pc l p q d/\pc l p q d<=21:=by
 unfold pc
 cases(e5 p&&mv l)<;>simp only[cond_true,cond_false]<;>try decide
 cases decide (q=p)<;>simp only[cond_true,cond_false]<;>try decide
 cases Nat.ble d.length 32<;>simp only[cond_true,cond_false]<;>decide
theorem Qe {F:Nat->Prop} {w w':World} {z p q d e:Int} (hx:w.Extends w') (he:e=pc (bds z) (aa p) (aa q) (bA d)) (hne:e≠0):
 w.Extends w'/\∃rs us,bd (bR JN.res) rs/\b5 sh SB 678 [z,p,q,d] rs/\fT (λg=>F g∨w.heap.size<=g) (λg=>w.heap.size<=g) w' JN.res rs us/\Ending.returned (.tuple #[.agg #[.int .i64 0,.int .i64 0,.string ⟨#[]⟩,.slice none 0 0,.slice none 0 0],.int .i64 e])= .returned (lO (lF DO.gr us)):=by
 refine⟨hx,[0,0,0,0,0,e],[.int .i64 0,.int .i64 0,.string (az (aa 0)),.slice none 0 0,.slice none 0 0,.int .i64 e],al0 (by rw[he];exact anQ ..),?_,⟨rfl,rfl,rfl,.inl ⟨⟨none,rfl⟩,eV⟩,.inl ⟨⟨none,rfl⟩,eV⟩,rfl,trivial⟩,by rw[UF];rfl⟩
 show C3 ju (bds z) (aa p) (aa q) (bA d) 0 0 0 0 0 e
 exact⟨he,rfl,Rv,λ_=>⟨rfl,eV,eV⟩,λh=>absurd h hne⟩
theorem as4 {d:Int} (h:∀row∈ab d,bD [.str] row) {i:Nat} (hi:i<(ab d).length):∃x:Int,(ab d)[i]?=some [x]/\(0<=x/\x<=b8)/\(bA d).getD i []=aa x:=by
 have hr:=h _ (List.getElem_mem hi)
 match hrow:(ab d)[i],hr with
 |[x],hr=>
  refine⟨x,by rw[List.getElem?_eq_getElem hi,hrow],hr.1,?_⟩
  unfold bA
  rw[List.getD_eq_getElem?_getD,List.getElem?_map,List.getElem?_eq_getElem hi,hrow]
  rfl
theorem as2 {z:Int} (h:∀row∈ab z,bD [.str,.str,.str,.int .i64 (-0x8000000000000000) 0x7fffffffffffffff] row) {i:Nat} (hi:i<(ab z).length):∃a b x t:Int,(ab z)[i]?=some [a,b,x,t]/\(bds z).getD i ng=((aa a,aa b),aa x,t):=by
 have hr:=h _ (List.getElem_mem hi)
 match hrow:(ab z)[i],hr with
 |[a,b,x,t],hr=>
  refine⟨a,b,x,t,by rw[List.getElem?_eq_getElem hi,hrow],?_⟩
  unfold bds
  rw[List.getD_eq_getElem?_getD,List.getElem?_map,List.getElem?_eq_getElem hi,hrow]
  rfl
theorem alS {F:Nat->Prop} {z:Int} {w:World} {v:Value} (h:fK F w [.str,.str,.str,.int .i64 (-0x8000000000000000) 0x7fffffffffffffff] (ab z) v) (hr:mv (bds z)=true):
 Calls Tryz.prog 23 #[v,.func (.func 20) #[] #[]] w λe w2=>w.Extends w2/\∃B,e= .returned (.map (some B))/\w.heap.size<=B/\jY Tryz.prog 9 (plainElem Tryz.prog 9) w2 B (bds z).length λx=>(q7 ju (bds z) x).map λt=> .lit (.string t):=by
 obtain⟨sp,g,o,c,rfl,hc,hsp,hO,hcell⟩:=abx rfl h
 obtain⟨hl,bg⟩:=aaQ hr
 have hlen:(bds z).length=(ab z).length:=by simp[bds]
 have hb:∀i,i<(ab z).length->pO ((bds z).getD i ng)=true:=λi hi=>by
  rw[List.getD_eq_getElem?_getD,List.getElem?_eq_getElem (by omega)]
  exact bg _ (List.getElem_mem _)
 have hm:∀n,n<=maxLen↔n<=maxLen:=λ_=>Iff.rfl
 have e0:(λx=>(q7 ju (bds z) x).map λt=>(DataW.lit (Lit.string t):qB))=λx=>(zH ju (bds z) (ab z).length x).map λt=> .lit (.string t):=by
  funext x;unfold zH;rw[List.take_of_length_le (by omega)]
 rw[hlen,e0]
 refine alV sp ⟨g,o,none⟩ c (ab z).length (λi=>(((bds z).getD i ng).1.1,((bds z).getD i ng).1.2,((bds z).getD i ng).2.1,((bds z).getD i ng).2.2)) (λi=>ju ((bds z).getD i ng).1) (λk x=>(zH ju (bds z) k x).map λt=> .lit (.string t)) w (by omega) hc hsp ?_ ?_ ?_ ?_ ?_
 ·funext x;unfold zH q7;simp
 ·intro i hi
  funext x
  rw[axW (by omega)]
  have e:(bds z).getD i ng=(bds z)[i]'(by omega):=by rw[List.getD_eq_getElem?_getD,List.getElem?_eq_getElem (by omega)];rfl
  rw[e]
  cases decide (x=ju ((bds z)[i]'(by omega)).1)<;>rfl
 ·intro w1 hx i hi
  obtain⟨a,b,x,t,h1,h2⟩:=as2 hO hi
  rw[h2]
  simp only[Addr.add_lit]
  exact⟨hcell w1 hx i 0 _ _ h1 rfl,hcell w1 hx i 1 _ _ h1 rfl,hcell w1 hx i 2 _ _ h1 rfl,hcell w1 hx i 3 _ _ h1 rfl⟩
 ·intro i hi
  obtain⟨h1,h2,h3,h4,h5,h6⟩:=MQ (hb i hi)
  refine⟨?_,?_⟩
  ·unfold ju maxLen;simp only[List.length_append,List.length_cons,List.length_nil];omega
  ·show(((bds z).getD i ng).2.1).length<=maxLen
   unfold maxLen;omega
 ·intro w1 hx i hi
  obtain⟨h1,h2,h3,h4,h5,h6⟩:=MQ (hb i hi)
  exact auH _ _ w1 (by show((bds z).getD i ng).1.1.length+1+((bds z).getD i ng).1.2.length<=_;omega)
theorem apB {wb:World} (rX:bM wb r9) (ak3:du wb Bp) (aly:eW wb NW):eW wb DO:=by
 refine⟨λargs w=>enters (by kernel_rfl) _ _,λF w vs zs hw hz gf hat=>?_⟩
 match zs,hz,vs,hat with
 |[z,p,q,d],hz,[v0,v1,v2,v3,v4],hat=>
  obtain⟨h0,h1,h2,h3,h4,_⟩:=hat
  have h0:fK F w [.str,.str,.str,.int .i64 (-0x8000000000000000) 0x7fffffffffffffff] (ab z) v0:=h0
  have h1:v1= .string (az (aa p)):=h1
  have h2:v2= .string (az lN):=h2
  have h3:v3= .string (az (aa q)):=h3
  have h4:fK F w [.str] (ab d) v4:=h4
  subst h1 h2 h3
  obtain⟨hz0,hz1,Bf,yS,qP,nA,OF,wM,_⟩:=hz
  have j2:∀w1,w.Extends w1->Calls Tryz.prog 14 #[.string (az (aa p))] w1 λe w2=>w1.Extends w2/\e= .returned (.bool (e5 (aa p))):=λw1 hx=>Kx rX ⟨Bf,yS⟩ (hw.trans hx)
  have D2:∀w1,w.Extends w1->Calls Tryz.prog 22 #[v0] w1 λe w2=>w1.Extends w2/\e= .returned (.bool (mv (bds z))):=λw1 hx=>asU ak3 ⟨hz0,hz1⟩ gf (hw.trans hx) (abu h0 (λ_ h=>h) hx)
  have I4:(bA d).length=(ab d).length:=by simp[bA]
  show Calls Tryz.prog 9 #[v0,.string (az (aa p)),.agg #[.string (az lN),.string (az (aa q)),v4]] w _
  cases hb:(e5 (aa p)&&mv (bds z))with
  |false=>
   have he:pc (bds z) (aa p) (aa q) (bA d)=1:=by unfold pc;rw[hb];rfl
   refine(anR v0 v4 (aa p) (aa q) w _ _ hb j2 D2).mono ?_
   rintro e w' ⟨hx,rfl⟩
   exact Qe hx he.symm (by decide)
  |true=>
   simp only[Bool.and_eq_true]at hb
   rw[hb.1]at j2
   rw[hb.2]at D2
   by_cases EE:aa q=aa p
   ·obtain⟨sp,g,o,c,rfl,hc,hsp,hO,hcell⟩:=abx rfl h4
    rw[EE]
    by_cases hn:32<(ab d).length
    ·have he:pc (bds z) (aa p) (aa q) (bA d)=16:=by
      unfold pc;rw[hb.1,hb.2,EE]
      have:Nat.ble (bA d).length 32=false:=by rw[I4];cases h:Nat.ble (ab d).length 32;rfl;exact absurd (Nat.le_of_ble_eq_true h) (by omega)
      rw[this];simp
     refine(anS v0 sp (ab d).length c (aa p) w hn j2 D2).mono ?_
     rintro e w' ⟨hx,rfl⟩
     exact Qe hx he.symm (by decide)
    ·have he:pc (bds z) (aa p) (aa q) (bA d)=0:=by
      unfold pc;rw[hb.1,hb.2,EE]
      have:Nat.ble (bA d).length 32=true:=Nat.ble_eq_true_of_le (by rw[I4];omega)
      rw[this];simp
     obtain⟨aAO,bg⟩:=aaQ hb.2
     have EJ:∀i,i<(ab d).length->∃x:Int,(ab d)[i]?=some [x]/\(0<=x/\x<=b8)/\(bA d).getD i []=aa x:=λi hi=>as4 hO hi
     have p8:∀i (hi:i<(ab d).length),(bA d).getD i []=(bA d)[i]'(by omega):=λi hi=>by rw[List.getD_eq_getElem?_getD,List.getElem?_eq_getElem (by omega)];rfl
     refine(anU v0 sp ⟨g,o,none⟩ (ab d).length c (bds z).length (aa p) (λi=>(bA d).getD i []) (q7 ju (bds z)) w (by omega) hc hsp j2 D2 (λw1 hx=>alS (abu h0 (λ_ h=>h) hx) hb.2) ?_ ?_ (aet w (bds z) (bA d) ju) ?_ ?_ ?_ ?_).mono ?_
     ·intro w1 hx i hi
      obtain⟨x,k1,k2,k3⟩:=EJ i hi
      have this:w1.cell? ⟨g,o+(i*1+0),none⟩=some (.string (az (aa x))):=hcell w1 hx i 0 _ _ k1 rfl
      rw[Nat.mul_one,Nat.add_zero]at this
      rw[k3,Addr.add_lit]
      exact this
     ·intro i hi
      obtain⟨x,k1,k2,k3⟩:=EJ i hi
      have h5:=vV k2.2
      show((bA d).getD i []).length<=maxLen
      rw[k3]
      unfold dP at h5;unfold maxLen;omega
     ·intro g1 w1
      refine⟨0,0,⟨by decide,C6⟩,⟨by decide,C6⟩,?_,by rw[eV];simp,?_,.inl ⟨⟨none,rfl⟩,eV⟩,.inl ⟨⟨none,rfl⟩,eV⟩⟩
      ·unfold mc;rw[eV];simp
      ·intro s;unfold pY ot bA gO;rw[eV];simp
     ·rintro i g1 w1 w2 BV y8 ⟨a,b,ha,hb',hf,hl,hg,s1,s2⟩ Bk
      have Ej:Fr (λh=>w.heap.size+1+1<h/\h≠g1) w1 (λh=>w.heap.size+1+1<h/\h≠g1) w2:=λk hk o ho=>⟨hk,by rw[Bk k (Array.getElem?_eq_some_iff.1 ho).1 hk.1 hk.2];exact ho⟩
      exact⟨a,b,ha,hb',hf,hl,hg,zB s1 Ej,zB s2 Ej⟩
     ·rintro i g1 w1 BV y8 hi hnone ⟨a,b,ha,hb',hf,hl,hg,s1,s2⟩
      refine⟨a,b,ha,hb',hf,by omega,λs=>?_,s1,s2⟩
      rw[hg s,abK (by omega) s]
      by_cases hs:s=(bA d)[i]'(by omega)
      ·have:q7 ju (bds z) s=none:=by rw[hs,<-p8 i hi];exact hnone
       rw[this]
       cases(List.take i (bA d)).contains s<;>cases decide (s=(bA d)[i]'(by omega))<;>rfl
      ·rw[decide_eq_false hs,Bool.or_false]
     ·rintro i g1 w1 BV y8 t hi hsome hx hg1 hg0 ⟨a,b,ha,hb',hf,hl,hg,s1,s2⟩
      obtain⟨x,k1,k2,k3⟩:=EJ i hi
      obtain⟨US,ajL,hb1,hb2⟩:=axX hsome
      obtain⟨a1,a2,a3,a4,a5,aeN⟩:=MQ (bg US ajL)
      have hb1:ju US.1=(bA d).getD i []:=hb1
      rw[hb1,k3]at a1
      rw[hb2]at a4 a5 aeN
      have Pr:t.length<=dP:=by unfold dP;omega
      have hst:aa (cT t)=t:=fj t
      have AZ:=aly.2 (λh=>w.heap.size+1+1<h/\h≠g1) w1 [.int .i64 6,.int .i64 0,.string ⟨#[]⟩,BV,y8,.string (az (aa x)),.agg #[.int .i64 4,.int .i64 0,.string (az (aa (cT t))),.slice none 0 0,.slice none 0 0]] [a,b,x,4,0,cT t,0,0] (hw.trans hx) ⟨ha.1,ha.2,hb'.1,hb'.2,k2.1,k2.2,by decide,by decide,by decide,by decide,lD _,kY Pr,by decide,by decide,by decide,by decide,trivial⟩ (show mc a b/\iA x/\iA (cT t) from⟨hf,a1,by unfold iA;rw[hst];exact a4⟩) ⟨rfl,rfl,rfl,s1,s2,rfl,rfl,trivial⟩
      rw[hst]at AZ
      show Calls Tryz.prog 24 #[_,.string (az ((bA d).getD i [])),_] w1 _
      rw[k3]
      refine AZ.mono ?_
      rintro e w2 ⟨hx2,rs,us,rO,hs,Ov,rfl⟩
      match rs,rO,us,Ov with
      |[k,n,tt,a',b',e],rO,[u0,fO,lP,oD,u4,R7],Ov=>
       have hs:e=0/\k=6/\n=0/\aa tt=[]/\vZ a b x [4,0,cT t,0,0] a' b':=hs
       obtain⟨rfl,rfl,rfl,alk,hput⟩:=hs
       obtain⟨-,-,-,-,-,-,b0,b1,b2,b3,-,-,-⟩:=rO
       obtain⟨v0,v1,v2,v3,v4,v5,-⟩:=Ov
       have v0:u0= .int .i64 6:=v0
       have v1:fO= .int .i64 0:=v1
       have v2:lP= .string (az (aa tt)):=v2
       have v3:fK (λg=>(w.heap.size+1+1<g/\g≠g1)∨w1.heap.size<=g) w2 [.str] (ab a') oD:=v3
       have v4:fK (λg=>(w.heap.size+1+1<g/\g≠g1)∨w1.heap.size<=g) w2 [.int .i64 4 4,.int .i64 0 0,.str,.nil,.nil] (ab b') u4:=v4
       have v5:R7= .int .i64 0:=v5
       subst v0 v1 v2 v5
       obtain⟨q1,n1,c1,rfl⟩:=aby v3
       obtain⟨q2,n2,c2,rfl⟩:=aby v4
       obtain⟨p1,aJ,bb⟩:=asj hf hput a1 (by unfold iA;rw[hst];exact a4) (by omega)
       have WH:∀h,((w.heap.size+1+1<h/\h≠g1)∨w1.heap.size<=h)->(w.heap.size+1+1<h/\h≠g1):=λh ag=>by omega
       refine⟨hx2,q1,n1,c1,q2,n2,c2,⟨a',b',⟨b0,b1⟩,⟨b2,b3⟩,p1,by omega,λs=>?_,zB v3 (Fr.of w2 WH),zB v4 (Fr.of w2 WH)⟩,by rw[alk];rfl⟩
       rw[bb s,hg s,abK (by omega) s,<-p8 i hi,k3]
       by_cases hs:s=aa x
       ·have:q7 ju (bds z) s=some t:=by rw[hs,<-k3];exact hsome
        rw[this,hst,decide_eq_true hs,Bool.or_true];rfl
       ·rw[decide_eq_false hs,Bool.or_false];rfl
     ·rintro e w' ⟨hx,g1,BV,y8,⟨a,b,ha,hb',hf,hl,hg,s1,s2⟩,hg1,rfl,⟨q1,n1,c1,rfl⟩,q2,n2,c2,rfl⟩
      refine⟨hx,[6,0,0,a,b,0],[.int .i64 6,.int .i64 0,.string (az (aa 0)),.slice q1 n1 c1,.slice q2 n2 c2,.int .i64 0],⟨by decide,by decide,by decide,by decide,by decide,pH,ha.1,ha.2,hb'.1,hb'.2,by decide,by decide,trivial⟩,?_,⟨rfl,rfl,rfl,zB s1 (Fr.of w' λh ag=> .inr (by omega)),zB s2 (Fr.of w' λh ag=> .inr (by omega)),rfl,trivial⟩,by rw[UF];rfl⟩
      show C3 ju (bds z) (aa p) (aa q) (bA d) 6 0 0 a b 0
      refine⟨he.symm,rfl,Rv,λh=>absurd rfl h,λ_=>⟨rfl,hf,λs=>?_⟩⟩
      rw[hg s,List.take_of_length_le (by omega)]
   ·have he:pc (bds z) (aa p) (aa q) (bA d)=15:=by
     unfold pc;rw[hb.1,hb.2,decide_eq_false EE];rfl
    refine(anT v0 v4 (aa p) (aa q) w EE j2 D2).mono ?_
    rintro e w' ⟨hx,rfl⟩
    exact Qe hx he.symm (by decide)
end Go.aX
namespace Go.aX
open Go Go.Proofs Go.RowKit
theorem pP {w w':World} (he:w.Extends w') {a:Addr} {v:Value} (h:w.cell? a=some v):w'.cell? a=some v:=by
 have hl:a.block<w.heap.size:=by
  rcases Nat.lt_or_ge a.block w.heap.size with h'|h'
  ·exact h'
  ·simp[World.cell?,Array.getElem?_eq_none h']at h
 rw[World.cell?_of_block (he.block _ hl)];exact h
def Ae (w:World) (a:Addr) (x0 x1 x2 x3 bL:Value):Prop:=w.cell? a=some x0/\w.cell? {block:=a.block,off:=a.off+1}=some x1/\w.cell? {block:=a.block,off:=a.off+2}=some x2/\w.cell? {block:=a.block,off:=a.off+3}=some x3/\w.cell? {block:=a.block,off:=a.off+4}=some bL
theorem Ae.ext {w w':World} (hx:w.Extends w') {a:Addr} {x0 x1 x2 x3 bL:Value}:Ae w a x0 x1 x2 x3 bL->Ae w' a x0 x1 x2 x3 bL:=λ⟨h0,h1,h2,h3,h4⟩=>⟨pP hx h0,pP hx h1,pP hx h2,pP hx h3,pP hx h4⟩
def ru (w:World):Nat->Value->Value->Prop
 |0,_,_=>False
 |d+1,va,vb=>∃(k n:Int) (t:ByteArray) (qi:Option Addr) (iI mJ:Nat) (pi:Option Addr) (li ci:Nat) (qn:Option Addr) (rG:Nat) (sf:Option Addr) (rF:Nat),
  va= .agg #[.int .i64 k,.int .i64 n,.string t,.slice qi iI mJ,.slice pi li ci]/\vb= .agg #[.int .i64 k,.int .i64 n,.string t,.slice qn iI rG,.slice sf li rF]/\
  (iI<=mJ/\iI<=rG/\li<=ci/\li<=rF/\iI<=1000/\li<=1000)/\
  (∀i,i<iI->∃(a b:Addr) (s:ByteArray),qi=some a/\qn=some b/\w.cell? (a.add i)=some (.string s)/\w.cell? (b.add i)=some (.string s))/\
  ∀i,i<li->∃(a b:Addr) (x0 x1 x2 x3 bL kU eb gP kc iv:Value),pi=some a/\sf=some b/\Ae w (a.add (i*5)) x0 x1 x2 x3 bL/\Ae w (b.add (i*5)) kU eb gP kc iv/\ru w d (.agg #[x0,x1,x2,x3,bL]) (.agg #[kU,eb,gP,kc,iv])
theorem ru.ext {w w':World} (hx:w.Extends w'):∀{d:Nat} {va vb:Value},ru w d va vb->ru w' d va vb
 |0,_,_,h=>h
 |d+1,va,vb,⟨k,n,t,qi,iI,mJ,pi,li,ci,qn,rG,sf,rF,h1,h2,h3,h4,h5⟩=>
  ⟨k,n,t,qi,iI,mJ,pi,li,ci,qn,rG,sf,rF,h1,h2,h3,λi hi=>let⟨a,b,s,g1,g2,g3,g4⟩:=h4 i hi;⟨a,b,s,g1,g2,pP hx g3,pP hx g4⟩,
   λi hi=>let⟨a,b,x0,x1,x2,x3,bL,kU,eb,gP,kc,iv,g1,g2,g3,g4,g5⟩:=h5 i hi;⟨a,b,x0,x1,x2,x3,bL,kU,eb,gP,kc,iv,g1,g2,g3.ext hx,g4.ext hx,g5.ext hx⟩⟩
set_option maxHeartbeats 8000000 in
theorem abg:∀(d:Nat) (w:World) (va vb:Value),ru w d va vb->Calls Tryz.prog 28 #[va,vb] w λe w'=>w.Extends w'/\e= .returned (.bool true)
 |0,_,_,_,h=>h.elim
 |d+1,w,va,vb,h=>by
  have ih:=abg d
  obtain⟨k,n,t,qi,iI,mJ,pi,li,ci,qn,rG,sf,rF,rfl,rfl,⟨e1,e2,e3,e4,gR,gh⟩,hN,hI⟩:=h
  go_enter Tryz.func28,Tryz.ntmps28
  go_wp2
  have hx2:w.Extends ((w.alloc (.cells #[.int .i64 k,.int .i64 n,.string t,.slice qi iI mJ,.slice pi li ci] 30)).alloc (.cells #[.int .i64 k,.int .i64 n,.string t,.slice qn iI rG,.slice sf li rF] 30)):=((World.Extends.refl w).alloc _).alloc _
  have hb:(w.alloc (.cells #[.int .i64 k,.int .i64 n,.string t,.slice qi iI mJ,.slice pi li ci] 30)).heap.size=w.heap.size+1:=World.size_alloc _ _
  have hA:((w.alloc (.cells #[.int .i64 k,.int .i64 n,.string t,.slice qi iI mJ,.slice pi li ci] 30)).alloc (.cells #[.int .i64 k,.int .i64 n,.string t,.slice qn iI rG,.slice sf li rF] 30)).heap[w.heap.size]?=some (.cells #[.int .i64 k,.int .i64 n,.string t,.slice qi iI mJ,.slice pi li ci] 30 (0,0)):=(((World.Extends.refl _).alloc _).block _ (by rw[hb];omega)).trans (heap_alloc_new w _)
  have hB:=heap_alloc_new (w.alloc (.cells #[.int .i64 k,.int .i64 n,.string t,.slice qi iI mJ,.slice pi li ci] 30)) (.cells #[.int .i64 k,.int .i64 n,.string t,.slice qn iI rG,.slice sf li rF] 30)
  rw[hb]at hB
  go_loopw [5] (λv wr=>∃i:Nat,i<=iI/\v= .int .i64 i/\w.Extends wr/\wr.heap[w.heap.size]?=some (.cells #[.int .i64 k,.int .i64 n,.string t,.slice qi iI mJ,.slice pi li ci] 30 (0,0))/\wr.heap[w.heap.size+1]?=some (.cells #[.int .i64 k,.int .i64 n,.string t,.slice qn iI rG,.slice sf li rF] 30 (0,0))) (λv _=>iI-(intOf v).toNat)
  case atStart=>exact⟨0,Nat.zero_le _,rfl,hx2,hA,hB⟩
  case round=>
   obtain⟨i,hi,rfl,hx,g1,g2⟩:=hrel
   obtain⟨m0,dE,m2,m3,sb,J4,J5,J6,J7,J8⟩:=fq g1
   obtain⟨n0,n1,n2,n3,qX,ZS,ZT,ZU,ZV,ZW⟩:=fq g2
   by_cases de:i<iI
   ·obtain⟨a,b,s,rfl,rfl,c1,c2⟩:=hN i de
    have c1:=pP hx c1
    have c2:=pP hx c2
    go_wp2
    go_region_with fail
    all_goals
     go_wp2
     go_roundw
     case rel=>exact⟨i+1,by omega,by go_num,hx.drew,g1,g2⟩
     case measure=>simp[intOf];omega
   ·have:i=iI:=by omega
    subst this
    go_wp2
    go_loopw [6] (λv wr=>∃j:Nat,j<=li/\v= .int .i64 j/\w.Extends wr/\wr.heap[w.heap.size]?=some (.cells #[.int .i64 k,.int .i64 n,.string t,.slice qi i mJ,.slice pi li ci] 30 (0,0))/\wr.heap[w.heap.size+1]?=some (.cells #[.int .i64 k,.int .i64 n,.string t,.slice qn i rG,.slice sf li rF] 30 (0,0))) (λv _=>li-(intOf v).toNat)
    case atStart=>exact⟨0,Nat.zero_le _,rfl,hx,g1,g2⟩
    case round=>
     obtain⟨j,hj,rfl,hx,g1,g2⟩:=hrel
     obtain⟨m0,dE,m2,m3,sb,J4,J5,J6,J7,J8⟩:=fq g1
     obtain⟨n0,n1,n2,n3,qX,ZS,ZT,ZU,ZV,ZW⟩:=fq g2
     by_cases n8:j<li
     ·obtain⟨a,b,x0,x1,x2,x3,bL,kU,eb,gP,kc,iv,rfl,rfl,wm,Dq,hS⟩:=hI j n8
      obtain⟨a0,a1,a2,a3,a4⟩:=wm.ext hx
      obtain⟨b0,b1,b2,b3,b4⟩:=Dq.ext hx
      have aiv:=λw1 h1=>ih w1 _ _ (ru.ext (hx.trans h1) hS)
      clear ih hN hI hS wm Dq
      go_wp2
      go_region_with (go_at_call 28;refine(aiv _ (by first|exact World.Extends.refl _|exact(World.Extends.refl _).drew)).mono ?_;rintro e fG ⟨alC,rfl⟩;have o9:wr.Extends fG:=(World.Extends.refl wr).drew.trans alC)
      all_goals
       go_wp2
       go_roundw
       case rel=>exact⟨j+1,by omega,by go_num,hx.trans o9,(o9.block _ (Array.getElem?_eq_some_iff.1 g1).1).trans g1,(o9.block _ (Array.getElem?_eq_some_iff.1 g2).1).trans g2⟩
       case measure=>simp[intOf];omega
     ·have:j=li:=by omega
      subst this
      go_wp2
      go_ret
      exact⟨hx,rfl⟩
set_option maxHeartbeats 4000000 in
theorem aeT {d:Nat} {w:World} {va vb:Value} (h:ru w d va vb):Calls Tryz.prog 11 #[va,vb] w λe w'=>w.Extends w'/\e= .returned (.bool true):=by
 match d,h with
 |0,h=>exact h.elim
 |d+1,h=>
 have h0:=h
 obtain⟨k,n,t,qi,iI,mJ,pi,li,ci,qn,rG,sf,rF,e1,e2,_⟩:=h0
 have hS:∀w1,w.Extends w1->Calls Tryz.prog 28 #[va,vb] w1 λe w'=>w1.Extends w'/\e= .returned (.bool true):=λw1 hx=>abg _ _ _ _ (h.ext hx)
 subst e1 e2
 clear h
 go_enter Tryz.func11,Tryz.ntmps11
 go_wp2_with (go_at_call 28;refine(hS _ (by first|assumption|exact((World.Extends.refl w).alloc _).alloc _)).mono ?_;rintro e w3 ⟨hx3,rfl⟩)
 go_ret
 exact⟨(((World.Extends.refl w).alloc _).alloc _).trans hx3,rfl⟩
end Go.aX
namespace Go.aX
open Go Go.aW Go.Proofs Go.RowKit
def Ai (w:World) (n:Nat) (vs:List Value) (v:Value):Prop:=(∃p,v= .slice p 0 0/\n=0)∨∃(a:Addr) (c:Nat),v= .slice (some a) n c/\∀(j:Nat) (u:Value),vs[j]?=some u->(a.add j).block<w.heap.size/\w.cell? (a.add j)=some u
theorem Ai.ext {w w':World} {n:Nat} {vs:List Value} {v:Value} (h:Ai w n vs v) (hx:w.Extends w'):Ai w' n vs v:=by
 rcases h with h|⟨a,c,h1,h2⟩
 ·exact .inl h
 ·exact .inr ⟨a,c,h1,λj u hu=>⟨Nat.lt_of_lt_of_le (h2 j u hu).1 hx.size,pP hx (h2 j u hu).2⟩⟩
theorem dJ.kept {bZ:TypeId} {K:Nat} {w0 w w':World} {n:Nat} {vs:List Value} {v:Value} (h:dJ bZ K w0 w n vs v) (hk:∀(g:Nat) (cs:Array Value),w0.heap.size<=g->w.heap[g]?=some (.cells cs bZ (0,0))->w'.heap[g]?=some (.cells cs bZ (0,0))):dJ bZ K w0 w' n vs v:=by
 rcases h with h|⟨h0,g,C,cells,rest,h1,h2,h3,h4⟩
 ·exact .inl h
 ·exact .inr ⟨h0,g,C,cells,rest,h1,h2,hk g cells h2 h3,h4⟩
theorem dJ.ext {bZ:TypeId} {K:Nat} {w0 w w':World} {n:Nat} {vs:List Value} {v:Value} (h:dJ bZ K w0 w n vs v) (hx:w.Extends w'):dJ bZ K w0 w' n vs v:=
 h.kept λg cs _ hg=>(hx.block g (Array.getElem?_eq_some_iff.1 hg).1).trans hg
theorem dJ.from {bZ:TypeId} {K:Nat} {w0 w1 w:World} {n:Nat} {vs:List Value} {v:Value} (h:dJ bZ K w1 w n vs v) (hl:w0.heap.size<=w1.heap.size):dJ bZ K w0 w n vs v:=by
 rcases h with h|⟨h0,g,C,cells,rest,h1,h2,h3⟩
 ·exact .inl h
 ·exact .inr ⟨h0,g,C,cells,rest,h1,Nat.le_trans hl h2,h3⟩
theorem dJ.form {bZ:TypeId} {K:Nat} {w0 w:World} {n:Nat} {vs:List Value} {v:Value} (h:dJ bZ K w0 w n vs v):∃p c,v= .slice p n c:=by
 rcases h with⟨h0,p,h⟩|⟨h0,g,C,cells,rest,h1,_⟩
 ·exact⟨p,0,by rw[h,h0]⟩
 ·exact⟨_,_,h1⟩
theorem dJ.own {bZ:TypeId} {K:Nat} {w0 w:World} {n:Nat} {vs:List Value} {v:Value} (h:dJ bZ K w0 w n vs v) {g:Nat} (hg:hV v=some g):w0.heap.size<=g/\g<w.heap.size/\∃cs,w.heap[g]?=some (.cells cs bZ (0,0)):=by
 rcases h with⟨h0,p,h⟩|⟨h0,g',C,cells,rest,h1,h2,h3,_⟩
 ·rw[h]at hg;cases p<;>cases hg
 ·rw[h1]at hg
  cases C with
  |zero=>cases hg
  |succ k=>cases hg;exact⟨h2,(Array.getElem?_eq_some_iff.1 h3).1,_,h3⟩
theorem Cs {w w':World} {own:Option Nat} (h:ik w w' own) {g:Nat} {o:Obj} (hg:w.heap[g]?=some o) (hne:own≠some g):w'.heap[g]?=some o:=(h.2.2.2.2 g (Array.getElem?_eq_some_iff.1 hg).1 hne).trans hg
theorem dJ.rd {bZ:TypeId} {K:Nat} {w0 w:World} {n:Nat} {vs:List Value} {v:Value} (h:dJ bZ K w0 w n vs v):Ai w n vs v:=by
 rcases h with⟨h0,p,h⟩|⟨h0,g,C,cells,rest,h1,h2,h3,h4,_⟩
 ·exact .inl ⟨p,h,h0⟩
 ·refine .inr ⟨⟨g,0,none⟩,C,h1,λj u hu=>?_⟩
  rw[Addr.add_lit]
  refine⟨(Array.getElem?_eq_some_iff.1 h3).1,?_⟩
  have:cells[j]?=some u:=by rw[<-Array.getElem?_toList,h4,List.getElem?_append_left (List.getElem?_eq_some_iff.1 hu).1];exact hu
  simp only[World.cell?,h3,Option.isSome_none,Bool.false_eq_true,if_false,Nat.zero_add];exact this
theorem Ch {f:Func} {p u:Nat} {tmps:Array Value} {w:World} {g:Nat} {cs:Array Value} {x:Value} (hf:f.results=#[ResultVar.cell p 30,ResultVar.tmp u]) (h2:tmps.getD p undef= .pointer (some ⟨g,0,none⟩)) (h3:tmps.getD u undef=x) (hg:w.heap[g]?=some (.cells cs 30 (0,0))) (h5:cs.size=5):
 (results f tmps).run Tryz.prog w= .ok (.tuple #[.agg cs,x]) w:=by
 rw[results_cell_tmp (p:=p) (u:=u) (ty:=30) hf,h2,h3]
 have hl:=run_loadVar_row (P:=Tryz.prog) w g 30 30 cs (0,0) _ hg Tryz.underlying30 rfl (by rw[h5];kernel_rfl)
 simp[asAddr,hl,Result.andThen]
def lZ (g:Nat) (c3 c5 c6:Array Value) (w:World):Prop:=w.heap[g]?=some (.cells c3 30 (0,0))/\w.heap[g+1]?=some (.cells c5 30 (0,0))/\w.heap[g+1+1]?=some (.cells c6 30 (0,0))
theorem lZ.ext {g:Nat} {c3 c5 c6:Array Value} {w w':World} (h:lZ g c3 c5 c6 w) (hx:w.Extends w'):lZ g c3 c5 c6 w':=by
 obtain⟨h1,h2,h3⟩:=h
 exact⟨by rw[hx.block _ (Array.getElem?_eq_some_iff.1 h1).1];exact h1,by rw[hx.block _ (Array.getElem?_eq_some_iff.1 h2).1];exact h2,by rw[hx.block _ (Array.getElem?_eq_some_iff.1 h3).1];exact h3⟩
theorem lZ.new (w:World) (c3 c5 c6:Array Value):lZ w.heap.size c3 c5 c6 (((w.alloc (.cells c3 30)).alloc (.cells c5 30)).alloc (.cells c6 30)):=by
 have e1:(w.alloc (.cells c3 30)).heap.size=w.heap.size+1:=World.size_alloc _ _
 have e2:((w.alloc (.cells c3 30)).alloc (.cells c5 30)).heap.size=w.heap.size+1+1:=by rw[World.size_alloc,e1]
 have a1:=World.alloc_heap_new w (.cells c3 30)
 have a2:=World.alloc_heap_new (w.alloc (.cells c3 30)) (.cells c5 30)
 have a3:=World.alloc_heap_new ((w.alloc (.cells c3 30)).alloc (.cells c5 30)) (.cells c6 30)
 rw[e1]at a2
 rw[e2]at a3
 have x2:=(World.Extends.refl (w.alloc (.cells c3 30))).alloc (.cells c5 30)
 have x3:=(World.Extends.refl ((w.alloc (.cells c3 30)).alloc (.cells c5 30))).alloc (.cells c6 30)
 exact⟨by rw[(x2.trans x3).block _ (by rw[e1];omega)];exact a1,by rw[x3.block _ (by rw[e2];omega)];exact a2,a3⟩
theorem lZ.K0 {g:Nat} {a b c d e:Value} {c5 c6:Array Value} {w:World} (h:lZ g #[a,b,c,d,e] c5 c6 w) (x y:Value):lZ g #[a,b,c,x,y] c5 c6 ((w.setCell ⟨g,3,none⟩ x).setCell ⟨g,4,none⟩ y):=by
 obtain⟨h1,h2,h3⟩:=h
 exact⟨heap_setCell_same _ g 4 _ 30 y (heap_setCell_same _ g 3 _ 30 x h1),by rw[Go.heap_setCell_other _ ⟨g,4,none⟩ _ y (by show g+1≠g;omega),Go.heap_setCell_other _ ⟨g,3,none⟩ _ x (by show g+1≠g;omega)];exact h2,by rw[Go.heap_setCell_other _ ⟨g,4,none⟩ _ y (by show g+1+1≠g;omega),Go.heap_setCell_other _ ⟨g,3,none⟩ _ x (by show g+1+1≠g;omega)];exact h3⟩
theorem lZ.abv {g m:Nat} {c3 c5 c6:Array Value} {w w':World} {own:Option Nat} (h:lZ g c3 c5 c6 w) (hs:ik w w' own) (hm:g+1+1<m) (ho:∀k,own=some k->m<=k):lZ g c3 c5 c6 w':=
 ⟨Cs hs h.1 λe=>by have:=ho _ e;omega,Cs hs h.2.1 λe=>by have:=ho _ e;omega,Cs hs h.2.2 λe=>by have:=ho _ e;omega⟩
theorem ik.ext1 {w w1 w2:World} {own:Option Nat} (hx:w.Extends w1) (h:ik w1 w2 own) (ho:∀g,own=some g->w.heap.size<=g):w.Extends w2:=by
 obtain⟨a1,a2,a3,a4,a5⟩:=h
 have hblk:∀i:Nat,i<w.heap.size->w2.heap[i]?=w.heap[i]?:=λi hi=>(a5 i (Nat.lt_of_lt_of_le hi hx.size) (λe=>by have:=ho i e;omega)).trans (hx.block i hi)
 exact⟨a1.trans hx.os,a2.trans hx.tape,a3.trans hx.output,Nat.le_trans hx.size a4,λa ha=>by simp only[World.cell?,hblk a.block ha],λa ha=>by simp only[World.frozen?,hblk a.block ha],hblk⟩
theorem YO {f uF cA bZ K} (W:xV Tryz.prog f uF cA bZ 3 4 K) {w0 w:World} {n:Nat} {vs N:List Value} {v:Value} (hn:n<=1000) (hl:vs.length=n*K) (hN:N.length=K) (one:∀u∈vs++N,u.oneCell'=true) (h:dJ bZ K w0 w n vs v) (h0:w0.heap.size<=w.heap.size) {eR vc:Nat} {tL:TypeId} (hA:w.heap[eR]?=some (.cells N.toArray tL (0,0))) (hne:hV v≠some eR):
 Calls Tryz.prog f #[v,.int .i64 n,.slice (some ⟨eR,0,none⟩) 1 vc] w λe w'=>ik w w' (hV v)/\∃v',e= .returned v'/\dJ bZ K w0 w' (n+1) (vs++N) v':=by
 refine(W.vals w v n n vs [] N eR 0 vc N.toArray tL (0,0) (Nat.le_refl _) (by omega) hl (by rw[Nat.sub_self,Nat.zero_mul];rfl) hN (λu hu=>one u (List.mem_append_left _ hu)) (λu hu=>by cases hu) (λu hu=>one u (List.mem_append_right _ hu)) hA (λj u hu=>by simpa using hu) ?_).mono ?_
 ·rcases h with⟨e0,p,e1⟩|⟨e0,g,C,cells,rest,e1,e2,e3,e4,gR,gh,oW⟩
  ·exact .inl ⟨p,e1,e0⟩
  ·refine .inr ⟨g,C,cells,rest,e1,⟨gh,oW⟩,e3,by rw[e4,List.append_nil],gR,by omega,λe=>hne ?_⟩
   obtain⟨k,rfl⟩:∃k,C=k+1:=⟨C-1,by omega⟩
   rw[e1,e];rfl
 ·rintro e w' ⟨h1,G,C,cells,post,rfl,h2,h3,h4,h5,h6,h7⟩
  refine⟨h1,_,rfl,.inr ⟨by omega,G,C,cells,post,rfl,?_,h2,by rw[h3,List.append_nil],h4,h5,h6⟩⟩
  rcases h7 with h7|h7
  ·rcases h with⟨e0,p,e1⟩|⟨e0,g,C,cells,rest,e1,e2,_⟩
   ·rw[e1]at h7;cases p<;>cases h7
   ·obtain⟨k,rfl⟩|h8:(∃k,C=k+1)∨C=0:=by cases C;exact .inr rfl;exact .inl ⟨_,rfl⟩
    ·rw[e1]at h7;cases h7;exact e2
    ·rw[e1,h8]at h7;cases h7
  ·omega
end Go.aX
namespace Go.aX
open Go Go.aW Go.Proofs Go.RowKit
set_option maxHeartbeats 4000000 in
theorem R1 (x:ByteArray) (w:World):Calls Tryz.prog 27 #[.string x] w λe w'=>w.Extends w'/\e= .returned (.agg #[.int .i64 4,.int .i64 0,.string x,.slice none 0 0,.slice none 0 0]):=by
 go_enter Tryz.func27,Tryz.ntmps27
 go_wp2
 exact bodyPost_ret (results_cell_row (p:=2) (ty:=30) (by kernel_rfl) _ _ w.heap.size 30 _ (0,0) _ rfl (World.alloc_heap_new _ _) Tryz.underlying30 rfl (by kernel_rfl)) rfl ⟨(World.Extends.refl w).alloc _,rfl⟩
set_option maxHeartbeats 4000000 in
theorem alU (s:ByteArray) (sp:Option Addr) (n c:Nat) (w:World) (hn:n<=1000) (hc:n<=c) (h:∀i,i<n->∃a t,sp=some a/\(s.toList==t.toList)=false/\w.cell? (a.add i)=some (.string t)):
 Calls Tryz.prog 29 #[.slice sp n c,.string s] w λe w'=>w.Extends w'/\e= .returned (.int .i64 (-1)):=by
 go_enter Tryz.func29,Tryz.ntmps29
 go_wp2
 go_loopw [8] (λv wr=>∃k:Nat,k<=n/\v= .int .i64 k/\w.Extends wr) (λv _=>n-(intOf v).toNat)
 case atStart=>exact⟨0,Nat.zero_le _,rfl,World.Extends.refl w⟩
 case round=>
  obtain⟨k,hk,rfl,hx⟩:=hrel
  by_cases qa:k<n
  ·obtain⟨a,t,rfl,ht,iW⟩:=h k qa
   have iW:=pP hx iW
   clear h
   go_wp2
   go_roundw
   case rel=>exact⟨k+1,by omega,by go_num,hx⟩
   case measure=>simp[intOf];omega
  ·have:k=n:=by omega
   subst this
   go_wp2
   go_ret
   exact⟨hx,rfl⟩
set_option maxHeartbeats 4000000 in
theorem Ws (s:ByteArray) (sp:Option Addr) (n c:Nat) (it:Value) (w:World) (hn:n<=1000) (hc:n<=c) (h:∀i,i<n->∃a t,sp=some a/\(s.toList==t.toList)=false/\w.cell? (a.add i)=some (.string t)):
 Calls Tryz.prog 12 #[.agg #[.int .i64 6,.int .i64 0,.string ⟨#[]⟩,.slice sp n c,it],.string s] w λe w'=>w.Extends w'/\e= .returned (.tuple #[.agg #[.int .i64 0,.int .i64 0,.string ⟨#[]⟩,.slice none 0 0,.slice none 0 0],.bool false]):=by
 have hI:∀w1,w.Extends w1->_:=λw1 hx=>alU s sp n c w1 hn hc λi hi=>let⟨a,t,h1,h2,h3⟩:=h i hi;⟨a,t,h1,h2,pP hx h3⟩
 clear h
 have hb:(w.alloc (.cells #[.int .i64 6,.int .i64 0,.string ⟨#[]⟩,.slice sp n c,it] 30)).heap.size=w.heap.size+1:=World.size_alloc _ _
 have hB:=heap_alloc_new (w.alloc (.cells #[.int .i64 6,.int .i64 0,.string ⟨#[]⟩,.slice sp n c,it] 30)) (.cells #[.int .i64 0,.int .i64 0,.string ⟨#[]⟩,.slice none 0 0,.slice none 0 0] 30)
 rw[hb]at hB
 go_enter Tryz.func12,Tryz.ntmps12
 go_wp2_with (go_at_call 29;refine(hI _ (((World.Extends.refl w).alloc _).alloc _)).mono ?_;rintro e w3 ⟨hx3,rfl⟩;have h3:=(hx3.block _ (Array.getElem?_eq_some_iff.1 hB).1).trans hB;obtain⟨bW,c1,c2,c3,c4,f0,f1,f2,f3,f4⟩:=fq h3)
 all_goals
  exact bodyPost_ret (Ch (p:=4) (u:=5) (by kernel_rfl) rfl rfl (oy h3 rfl _ _ _ _ _) rfl) rfl ⟨nY ((((World.Extends.refl w).alloc _).alloc _).trans hx3) (by omega) _ _ _ _ _,rfl⟩
end Go.aX
namespace Go.aX
open Go Go.aW Go.Proofs Go.RowKit
abbrev fx:ByteArray:=⟨#[97,108,103,111,114,105,116,104,109,115]⟩
abbrev gV:ByteArray:=⟨#[108,111,111,107,117,112,95,112,101,112,112,101,114]⟩
abbrev zG (gl:Nat):Value:= .agg #[.int .i64 5,.int .i64 0,.string ⟨#[]⟩,.slice none 0 0,.slice (some ⟨gl,0,none⟩) 2 2]
abbrev sr (x:ByteArray):Value:= .agg #[.int .i64 4,.int .i64 0,.string x,.slice none 0 0,.slice none 0 0]
theorem Av {w:World} {g:Nat} {t:TypeId} {x0 x1 x2 x3 bL gg:Value} (h:w.heap[g]?=some (.cells #[x0,x1,x2,x3,bL,gg] t (0,0))):w.cell? {block:=g,off:=0}=some x0/\w.cell? {block:=g,off:=1}=some x1/\w.cell? {block:=g,off:=2}=some x2/\w.cell? {block:=g,off:=3}=some x3/\w.cell? {block:=g,off:=4}=some bL/\w.cell? {block:=g,off:=5}=some gg:=by
 simp[World.cell?,h]
theorem dJ.ZP {w0 w:World} {p:Option Addr} {k:Nat} (h:dJ 9 1 w0 w 1 [.string fx] (.slice p 1 k)):1<=k/\∀i,i<1->∃a t',p=some a/\(gV.toList==t'.toList)=false/\w.cell? (a.add i)=some (.string t'):=by
 have hk:1<=k:=by
  rcases h with⟨h0,_⟩|⟨_,g,C,cells,rest,h1,_,_,_,_,h6,_⟩
  ·omega
  ·cases h1;exact h6
 refine⟨hk,λi hi=>?_⟩
 obtain rfl:i=0:=by omega
 rcases h.rd with⟨q,h1,h2⟩|⟨a,c,h1,h2⟩
 ·omega
 ·cases h1
  exact⟨a,fx,rfl,by decide+kernel,(h2 0 _ rfl).2⟩
theorem blk {w w':World} (hx:w.Extends w') {g:Nat} {o:Obj} (h:w.heap[g]?=some o):w'.heap[g]?=some o:=(hx.block g (Array.getElem?_eq_some_iff.1 h).1).trans h
abbrev yb (w1:World) (s:ByteArray) (n:Nat):World:=(w1.alloc (.cells (bytesRow s (grownCap w1 n 0 5)) 5 ((bytesRow s (grownCap w1 n 0 5)).size,(bytesRow s (grownCap w1 n 0 5)).size+1))).drew
abbrev q8 (gl:Nat):List Value:=[.int .i64 5,.int .i64 0,.string ⟨#[]⟩,.slice none 0 0,.slice (some ⟨gl,0,none⟩) 2 2]
abbrev CD (x:ByteArray):List Value:=[.int .i64 4,.int .i64 0,.string x,.slice none 0 0,.slice none 0 0]
set_option maxHeartbeats 8000000 in
theorem aot (lg gl:Nat) (x:ByteArray) (w:World)
 (hp:w.heap[lg]?=some (.cells #[.string fx,.int .i64 5,.int .i64 0,.string ⟨#[]⟩,.slice none 0 0,.slice (some ⟨gl,0,none⟩) 2 2,.string gV,.int .i64 4,.int .i64 0,.string x,.slice none 0 0,.slice none 0 0] 67 (0,0)))
 (ait:∀w1,w.Extends w1->Calls Tryz.prog 41 #[zG gl] w1 λe w2=>w1.Extends w2/\e= .returned (.bool true))
 (rM:∀w1,w.Extends w1->Calls Tryz.prog 41 #[sr x] w1 λe w2=>w1.Extends w2/\e= .returned (.bool true))
 (aiy:∀w1,w.Extends w1->Calls Tryz.prog 42 #[.slice (some ⟨w1.heap.size,0,none⟩) 10 (grownCap w1 10 0 5)] (yb w1 fx 10) λe w2=>w1.Extends w2/\e= .returned (.bool true))
 (aiz:∀w1,w.Extends w1->Calls Tryz.prog 42 #[.slice (some ⟨w1.heap.size,0,none⟩) 13 (grownCap w1 13 0 5)] (yb w1 gV 13) λe w2=>w1.Extends w2/\e= .returned (.bool true))
 (aie:∀w1,w.Extends w1->Calls Tryz.prog 43 #[zG gl] w1 λe w2=>w1.Extends w2/\e= .returned (.int .i64 1))
 (aif:∀w1,w.Extends w1->Calls Tryz.prog 43 #[sr x] w1 λe w2=>w1.Extends w2/\e= .returned (.int .i64 0))
 (aiq:∀w1,w.Extends w1->Calls Tryz.prog 44 #[.agg #[.int .i64 6,.int .i64 0,.string ⟨#[]⟩,.slice none 0 0,.slice none 0 0],.string fx,zG gl] w1 λe w2=>w1.Extends w2/\∃u v,e= .returned (.agg #[.int .i64 6,.int .i64 0,.string ⟨#[]⟩,u,v])/\dJ 9 1 w1 w2 1 [.string fx] u/\dJ 30 5 w1 w2 1 (q8 gl) v)
 (air:∀w1 u v,w.Extends w1->dJ 9 1 w w1 1 [.string fx] u->dJ 30 5 w w1 1 (q8 gl) v->Calls Tryz.prog 44 #[.agg #[.int .i64 6,.int .i64 0,.string ⟨#[]⟩,u,v],.string gV,sr x] w1 λe w2=>w1.Extends w2/\∃u v,e= .returned (.agg #[.int .i64 6,.int .i64 0,.string ⟨#[]⟩,u,v])/\dJ 9 1 w1 w2 2 [.string fx,.string gV] u/\dJ 30 5 w1 w2 2 (q8 gl++CD x) v):
 Calls Tryz.prog 36 #[.slice (some ⟨lg,0,none⟩) 2 2] w λe w'=>w.Extends w'/\∃u v,e= .returned (.tuple #[.agg #[.int .i64 6,.int .i64 0,.string ⟨#[]⟩,u,v],.int .i64 0])/\dJ 9 1 w w' 2 [.string fx,.string gV] u/\dJ 30 5 w w' 2 (q8 gl++CD x) v:=by
 have hc:∀w1:World,w.Extends w1->∀j v,#[Value.string fx,.int .i64 5,.int .i64 0,.string ⟨#[]⟩,.slice none 0 0,.slice (some ⟨gl,0,none⟩) 2 2,.string gV,.int .i64 4,.int .i64 0,.string x,.slice none 0 0,.slice none 0 0][j]?=some v->w1.cell? {block:=lg,off:=j}=some v:=λw1 hx j v hv=>by
  have:=(hx.block lg (Array.getElem?_eq_some_iff.1 hp).1).trans hp
  simp only[World.cell?,this,Option.isSome_none,Bool.false_eq_true,if_false];exact hv
 have hc1:∀w1:World,w.Extends w1->w1.cell? {block:=lg,off:=0}=some (.string fx)/\w1.cell? {block:=lg,off:=1}=some (.int .i64 5)/\w1.cell? {block:=lg,off:=2}=some (.int .i64 0)/\w1.cell? {block:=lg,off:=3}=some (.string ⟨#[]⟩)/\w1.cell? {block:=lg,off:=4}=some (.slice none 0 0)/\w1.cell? {block:=lg,off:=5}=some (.slice (some ⟨gl,0,none⟩) 2 2):=λw1 hx=>⟨hc w1 hx 0 _ rfl,hc w1 hx 1 _ rfl,hc w1 hx 2 _ rfl,hc w1 hx 3 _ rfl,hc w1 hx 4 _ rfl,hc w1 hx 5 _ rfl⟩
 have hc2:∀w1:World,w.Extends w1->w1.cell? {block:=lg,off:=6}=some (.string gV)/\w1.cell? {block:=lg,off:=7}=some (.int .i64 4)/\w1.cell? {block:=lg,off:=8}=some (.int .i64 0)/\w1.cell? {block:=lg,off:=9}=some (.string x)/\w1.cell? {block:=lg,off:=10}=some (.slice none 0 0)/\w1.cell? {block:=lg,off:=11}=some (.slice none 0 0):=λw1 hx=>⟨hc w1 hx 6 _ rfl,hc w1 hx 7 _ rfl,hc w1 hx 8 _ rfl,hc w1 hx 9 _ rfl,hc w1 hx 10 _ rfl,hc w1 hx 11 _ rfl⟩
 clear hc
 have x0:w.Extends (w.alloc (.cells #[.int .i64 0,.int .i64 0,.string ⟨#[]⟩,.slice none 0 0,.slice none 0 0] 30)):=(World.Extends.refl w).alloc _
 have e0:=heap_alloc_new w (.cells #[.int .i64 0,.int .i64 0,.string ⟨#[]⟩,.slice none 0 0,.slice none 0 0] 30)
 have hc1:Hid _:=hc1
 have hc2:Hid _:=hc2
 have k1:=λ(w:World)=>run_bytes_of_string (P:=Tryz.prog) w 9 63 5 fx Tryz.underlying9 Tryz.underlying63 Tryz.underlying5
 have k2:=λ(w:World)=>run_bytes_of_string (P:=Tryz.prog) w 9 63 5 gV Tryz.underlying9 Tryz.underlying63 Tryz.underlying5
 go_enter Tryz.func36,Tryz.ntmps36
 go_wp2
 refine wp_loop_rounds 3 ?_
 rw[rounds_succ]
 generalize w.alloc (.cells #[.int .i64 0,.int .i64 0,.string ⟨#[]⟩,.slice none 0 0,.slice none 0 0] 30)=w0 at*
 have e0:Hid _:=e0
 have x0:Hid _:=x0
 obtain⟨a0,a1,a2,a3,a4,a5⟩:=hc1.out _ x0.out
 go_wp2_with (first
  |(go_at_call 41;refine(ait _ (x0.out.alloc _)).mono ?_;rintro e w1 ⟨hx1,rfl⟩;obtain⟨b0,b1,b2,b3,b4,fU⟩:=Av (blk hx1 (heap_alloc_new _ _));have eb:Hid (w.Extends w1):=(x0.out.alloc _).trans hx1;have r1:Hid _:=blk hx1 (blk ((World.Extends.refl w0).alloc _) e0.out))
  |(go_at_call 42;refine(aiy w1 eb.out).mono ?_;rintro e w2 ⟨hx2,rfl⟩;have gP:Hid (w.Extends w2):=eb.out.trans hx2;have r2:Hid _:=blk hx2 r1.out))
 clear a0 a1 a2 a3 a4 a5 b0 b1 b2 b3 b4 fU
 rw[rounds_succ]
 obtain⟨a0,a1,a2,a3,a4,a5⟩:=hc2.out _ gP.out
 go_wp2_with (first
  |(go_at_call 41;refine(rM _ (gP.out.alloc _)).mono ?_;rintro e w3 ⟨hx3,rfl⟩;obtain⟨b0,b1,b2,b3,b4,fU⟩:=Av (blk hx3 (heap_alloc_new _ _));have kc:Hid (w.Extends w3):=(gP.out.alloc _).trans hx3;have r3:Hid _:=blk hx3 (blk ((World.Extends.refl w2).alloc _) r2.out))
  |(go_at_call 42;refine(aiz w3 kc.out).mono ?_;rintro e w4 ⟨ir,rfl⟩;have iv:Hid (w.Extends w4):=kc.out.trans ir;have fN:Hid _:=blk ir r3.out))
 clear a0 a1 a2 a3 a4 a5 b0 b1 b2 b3 b4 fU
 rw[rounds_succ]
 go_wp2
 refine wp_loop_rounds 3 ?_
 rw[rounds_succ]
 have nO:=iv.out.alloc (.cells #[.int .i64 6,.int .i64 0,.string ⟨#[]⟩,.slice none 0 0,.slice none 0 0] 30)
 have gR:=heap_alloc_new w4 (.cells #[.int .i64 6,.int .i64 0,.string ⟨#[]⟩,.slice none 0 0,.slice none 0 0] 30)
 have cw:=blk ((World.Extends.refl w4).alloc (.cells #[.int .i64 6,.int .i64 0,.string ⟨#[]⟩,.slice none 0 0,.slice none 0 0] 30)) fN.out
 have Rs:w.heap.size<=w4.heap.size:=iv.out.size
 have pg:w4.heap.size<(w4.alloc (.cells #[.int .i64 6,.int .i64 0,.string ⟨#[]⟩,.slice none 0 0,.slice none 0 0] 30)).heap.size:=by rw[World.size_alloc];omega
 generalize w4.alloc (.cells #[.int .i64 6,.int .i64 0,.string ⟨#[]⟩,.slice none 0 0,.slice none 0 0] 30)=fG at*
 have gR:Hid _:=gR
 have cw:Hid _:=cw
 have nO:Hid _:=nO
 have pg:Hid _:=pg
 have Qv:Hid (w.heap.size<w4.heap.size):=(Array.getElem?_eq_some_iff.1 fN.out).1
 obtain⟨a0,a1,a2,a3,a4,a5⟩:=hc1.out _ nO.out
 obtain⟨bW,c1,c2,c3,c4,_⟩:=fq (blk ((World.Extends.refl fG).alloc (.cells #[.string fx,.int .i64 5,.int .i64 0,.string ⟨#[]⟩,.slice none 0 0,.slice (some ⟨gl,0,none⟩) 2 2] 67)) gR.out)
 go_wp2_with (first
  |(go_at_call 12;refine(Ws _ none 0 0 _ _ (by omega) (by omega) (λi hi=>by omega)).mono ?_;rintro e dy ⟨oh,rfl⟩
    have tR:Hid (w.Extends (dy.alloc (.cells #[.int .i64 0,.int .i64 0,.string ⟨#[]⟩,.slice none 0 0,.slice none 0 0] 30))):=((nO.out.alloc (.cells #[.string fx,.int .i64 5,.int .i64 0,.string ⟨#[]⟩,.slice none 0 0,.slice (some ⟨gl,0,none⟩) 2 2] 67)).trans oh).alloc (.cells #[.int .i64 0,.int .i64 0,.string ⟨#[]⟩,.slice none 0 0,.slice none 0 0] 30)
    have Mn:Hid _:=blk ((World.Extends.refl dy).alloc (.cells #[.int .i64 0,.int .i64 0,.string ⟨#[]⟩,.slice none 0 0,.slice none 0 0] 30)) (blk oh (blk ((World.Extends.refl fG).alloc (.cells #[.string fx,.int .i64 5,.int .i64 0,.string ⟨#[]⟩,.slice none 0 0,.slice (some ⟨gl,0,none⟩) 2 2] 67)) gR.out))
    have Uc:Hid _:=blk ((World.Extends.refl dy).alloc (.cells #[.int .i64 0,.int .i64 0,.string ⟨#[]⟩,.slice none 0 0,.slice none 0 0] 30)) (blk oh (heap_alloc_new fG (.cells #[.string fx,.int .i64 5,.int .i64 0,.string ⟨#[]⟩,.slice none 0 0,.slice (some ⟨gl,0,none⟩) 2 2] 67)))
    have asz:Hid _:=blk ((World.Extends.refl dy).alloc (.cells #[.int .i64 0,.int .i64 0,.string ⟨#[]⟩,.slice none 0 0,.slice none 0 0] 30)) (blk oh (blk ((World.Extends.refl fG).alloc (.cells #[.string fx,.int .i64 5,.int .i64 0,.string ⟨#[]⟩,.slice none 0 0,.slice (some ⟨gl,0,none⟩) 2 2] 67)) cw.out))
    obtain⟨d0,d1,d2,d3,d4,_⟩:=fq Mn.out
    obtain⟨b0,b1,b2,b3,b4,fU⟩:=Av Uc.out)
  |(go_at_call 44;refine(aiq _ tR.out).mono ?_;rintro e ib ⟨qS,u,v,rfl,hu,hv⟩;obtain⟨p1,k1,rfl⟩:=hu.form;obtain⟨aJ,k2,rfl⟩:=hv.form
    have GJ:Hid _:=tR.out.trans qS
    have TX:Hid _:=blk qS Mn.out
    have ad9:Hid _:=blk qS Uc.out
    obtain⟨f0,f1,f2,f3,f4,g0,g1,g2,g3,g4⟩:=fq TX.out
    have aek:Hid _:=(kB ib (g:=w4.heap.size) (k:=fG.heap.size) (Nat.ne_of_gt pg.out) (.int .i64 6) (.int .i64 0) (.string ⟨#[]⟩) (.slice p1 1 k1) (.slice aJ 1 k2)).trans ad9.out
    obtain⟨h0,h1,h2,h3,h4,h5⟩:=Av aek.out)
  |(go_at_call 43;have zI:=nY GJ.out Rs (.int .i64 6) (.int .i64 0) (.string ⟨#[]⟩) (.slice p1 1 k1) (.slice aJ 1 k2);refine(aie _ zI).mono ?_;rintro e gu ⟨EV,rfl⟩
    have ph:∀g:Nat,(dy.alloc (.cells #[.int .i64 0,.int .i64 0,.string ⟨#[]⟩,.slice none 0 0,.slice none 0 0] 30)).heap.size<=g->g≠w4.heap.size:=λg h=>by have:=(Array.getElem?_eq_some_iff.1 Mn.out).1;omega
    have acH:Hid _:=zI.trans EV
    have Mp:Hid _:=blk EV (oy TX.out rfl (.int .i64 6) (.int .i64 0) (.string ⟨#[]⟩) (.slice p1 1 k1) (.slice aJ 1 k2))
    have atx:Hid _:=blk EV ((kB ib (g:=w4.heap.size) (Nat.ne_of_lt Qv.out) (.int .i64 6) (.int .i64 0) (.string ⟨#[]⟩) (.slice p1 1 k1) (.slice aJ 1 k2)).trans (blk qS asz.out))
    have MH:Hid (dJ 9 1 w gu 1 [.string fx] (.slice p1 1 k1)):=((hu.kept λg cs h1 h2=>(kB ib (g:=w4.heap.size) (ph g h1) (.int .i64 6) (.int .i64 0) (.string ⟨#[]⟩) (.slice p1 1 k1) (.slice aJ 1 k2)).trans h2).from (w0:=w) tR.out.size).ext EV
    have aeL:Hid (dJ 30 5 w gu 1 (q8 gl) (.slice aJ 1 k2)):=((hv.kept λg cs h1 h2=>(kB ib (g:=w4.heap.size) (ph g h1) (.int .i64 6) (.int .i64 0) (.string ⟨#[]⟩) (.slice p1 1 k1) (.slice aJ 1 k2)).trans h2).from (w0:=w) tR.out.size).ext EV))
 clear a0 a1 a2 a3 a4 a5 b0 b1 b2 b3 b4 fU bW c1 c2 c3 c4 d0 d1 d2 d3 d4 f0 f1 f2 f3 f4 g0 g1 g2 g3 g4 h0 h1 h2 h3 h4 h5
 rw[rounds_succ]
 obtain⟨a0,a1,a2,a3,a4,a5⟩:=hc2.out _ acH.out
 obtain⟨bW,c1,c2,c3,c4,_⟩:=fq (blk ((World.Extends.refl gu).alloc (.cells #[.string gV,.int .i64 4,.int .i64 0,.string x,.slice none 0 0,.slice none 0 0] 67)) Mp.out)
 have aoW:Hid (w4.heap.size<gu.heap.size):=(Array.getElem?_eq_some_iff.1 Mp.out).1
 have hG:=λ(it:Value)=>(Ws gV p1 1 k1 it (gu.alloc (.cells #[.string gV,.int .i64 4,.int .i64 0,.string x,.slice none 0 0,.slice none 0 0] 67)) (by omega) (MH.out.ZP.1) (MH.out.ext ((World.Extends.refl gu).alloc (.cells #[.string gV,.int .i64 4,.int .i64 0,.string x,.slice none 0 0,.slice none 0 0] 67))).ZP.2)
 go_wp2_with (first
  |(go_at_call 12;refine(hG _).mono ?_;rintro e vB ⟨Jz,rfl⟩
    have z9:=((World.Extends.refl gu).alloc (.cells #[.string gV,.int .i64 4,.int .i64 0,.string x,.slice none 0 0,.slice none 0 0] 67)).trans (Jz.trans ((World.Extends.refl vB).alloc (.cells #[.int .i64 0,.int .i64 0,.string ⟨#[]⟩,.slice none 0 0,.slice none 0 0] 30)))
    have xB:Hid (w.Extends (vB.alloc (.cells #[.int .i64 0,.int .i64 0,.string ⟨#[]⟩,.slice none 0 0,.slice none 0 0] 30))):=acH.out.trans z9
    have Hx:Hid _:=blk z9 Mp.out
    have Ud:Hid _:=blk ((World.Extends.refl vB).alloc (.cells #[.int .i64 0,.int .i64 0,.string ⟨#[]⟩,.slice none 0 0,.slice none 0 0] 30)) (blk Jz (heap_alloc_new gu (.cells #[.string gV,.int .i64 4,.int .i64 0,.string x,.slice none 0 0,.slice none 0 0] 67)))
    have ja:Hid _:=blk z9 atx.out
    have aeF:Hid (dJ 9 1 w (vB.alloc (.cells #[.int .i64 0,.int .i64 0,.string ⟨#[]⟩,.slice none 0 0,.slice none 0 0] 30)) 1 [.string fx] (.slice p1 1 k1)):=MH.out.ext z9
    have aeI:Hid (dJ 30 5 w (vB.alloc (.cells #[.int .i64 0,.int .i64 0,.string ⟨#[]⟩,.slice none 0 0,.slice none 0 0] 30)) 1 (q8 gl) (.slice aJ 1 k2)):=aeL.out.ext z9
    clear z9
    obtain⟨d0,d1,d2,d3,d4,_⟩:=fq Hx.out
    obtain⟨b0,b1,b2,b3,b4,fU⟩:=Av Ud.out)
  |(go_at_call 44;refine(air _ _ _ xB.out aeF.out aeI.out).mono ?_;rintro e Lh ⟨Jw,lP,v2,rfl,Ye,hv2⟩;obtain⟨bb,k3,rfl⟩:=Ye.form;obtain⟨b7,k4,rfl⟩:=hv2.form
    have GI:Hid _:=xB.out.trans Jw
    have TZ:Hid _:=blk Jw Hx.out
    have ad8:Hid _:=blk Jw Ud.out
    obtain⟨f0,f1,f2,f3,f4,g0,g1,g2,g3,g4⟩:=fq TZ.out
    have aei:Hid _:=(kB Lh (g:=w4.heap.size) (k:=gu.heap.size) (Nat.ne_of_gt aoW.out) (.int .i64 6) (.int .i64 0) (.string ⟨#[]⟩) (.slice bb 2 k3) (.slice b7 2 k4)).trans ad8.out
    obtain⟨h0,h1,h2,h3,h4,h5⟩:=Av aei.out)
  |(go_at_call 43;have zI:=nY GI.out Rs (.int .i64 6) (.int .i64 0) (.string ⟨#[]⟩) (.slice bb 2 k3) (.slice b7 2 k4);refine(aif _ zI).mono ?_;rintro e Li ⟨EU,rfl⟩
    have ph:∀g:Nat,(vB.alloc (.cells #[.int .i64 0,.int .i64 0,.string ⟨#[]⟩,.slice none 0 0,.slice none 0 0] 30)).heap.size<=g->g≠w4.heap.size:=λg h=>by have:=(Array.getElem?_eq_some_iff.1 Hx.out).1;omega
    have ax8:Hid _:=zI.trans EU
    have adV:Hid _:=blk EU (oy TZ.out rfl (.int .i64 6) (.int .i64 0) (.string ⟨#[]⟩) (.slice bb 2 k3) (.slice b7 2 k4))
    have aba:Hid _:=blk EU ((kB Lh (g:=w4.heap.size) (Nat.ne_of_lt Qv.out) (.int .i64 6) (.int .i64 0) (.string ⟨#[]⟩) (.slice bb 2 k3) (.slice b7 2 k4)).trans (blk Jw ja.out))
    have aeH:Hid (dJ 9 1 (vB.alloc (.cells #[.int .i64 0,.int .i64 0,.string ⟨#[]⟩,.slice none 0 0,.slice none 0 0] 30)) Li 2 [.string fx,.string gV] (.slice bb 2 k3)):=(Ye.kept λg cs h1 h2=>(kB Lh (g:=w4.heap.size) (ph g h1) (.int .i64 6) (.int .i64 0) (.string ⟨#[]⟩) (.slice bb 2 k3) (.slice b7 2 k4)).trans h2).ext EU
    have aeK:Hid (dJ 30 5 (vB.alloc (.cells #[.int .i64 0,.int .i64 0,.string ⟨#[]⟩,.slice none 0 0,.slice none 0 0] 30)) Li 2 (q8 gl++CD x) (.slice b7 2 k4)):=(hv2.kept λg cs h1 h2=>(kB Lh (g:=w4.heap.size) (ph g h1) (.int .i64 6) (.int .i64 0) (.string ⟨#[]⟩) (.slice bb 2 k3) (.slice b7 2 k4)).trans h2).ext EU))
 clear a0 a1 a2 a3 a4 a5 b0 b1 b2 b3 b4 fU bW c1 c2 c3 c4 d0 d1 d2 d3 d4 f0 f1 f2 f3 f4 g0 g1 g2 g3 g4 h0 h1 h2 h3 h4 h5 hG
 rw[rounds_succ]
 obtain⟨f0,f1,f2,f3,f4,g0,g1,g2,g3,g4⟩:=fq adV.out
 obtain⟨a0,a1,a2,a3,a4,b0,b1,b2,b3,b4⟩:=fq aba.out
 go_wp2
 have ph:∀g:Nat,(vB.alloc (.cells #[.int .i64 0,.int .i64 0,.string ⟨#[]⟩,.slice none 0 0,.slice none 0 0] 30)).heap.size<=g->g≠w.heap.size:=λg h=>by have:=(Array.getElem?_eq_some_iff.1 Hx.out).1;have:=Qv.out;omega
 exact bodyPost_ret (Ch (p:=2) (u:=3) (by kernel_rfl) rfl rfl (oy aba.out rfl _ _ _ _ _) rfl) rfl
  ⟨nY ax8.out (Nat.le_refl _) _ _ _ _ _,_,_,rfl,(aeH.out.kept λg cs h1 h2=>(kB Li (g:=w.heap.size) (ph g h1) (.int .i64 6) (.int .i64 0) (.string ⟨#[]⟩) (.slice bb 2 k3) (.slice b7 2 k4)).trans h2).from xB.out.size,(aeK.out.kept λg cs h1 h2=>(kB Li (g:=w.heap.size) (ph g h1) (.int .i64 6) (.int .i64 0) (.string ⟨#[]⟩) (.slice bb 2 k3) (.slice b7 2 k4)).trans h2).from xB.out.size⟩
end Go.aX
namespace Go
variable {P:Program} {ops:Array Oper} {Q:Exit->Act->World->Prop} {md:Region.Mode} {S:World->Prop}
def fk (P:Program) (md:Region.Mode) (ops:Array Oper) (Q:Exit->Act->World->Prop) (S:World->Prop) (n:Nat) (L:Array Bool->Act->World->Prop):Nat->Array Bool->Act->World->Prop
 |0,s,a,w=>L s a w
 |f+1,s,a,w=>Region.ready md ops s≠[]/\∀i∈Region.ready md ops s,i<n/\wpOp P ops Q i (λa' w'=>S w'/\fk P md ops Q S n L f (s.setIfInBounds i true) a' w') a w
variable {n g:Nat} {L:Array Bool->Act->World->Prop}
theorem fk.any (hL:∀s a w,L s a w->wpAny P md ops Q g s a w):∀(f:Nat) (s:Array Bool) (a:Act) (w:World),fk P md ops Q S n L f s a w->wpAny P md ops Q (f+g) s a w
 |0,s,a,w,h=>by rw[Nat.zero_add];exact hL _ _ _ h
 |f+1,s,a,w,h=>by
  rw[Nat.add_right_comm]
  exact⟨λh0=>absurd h0 h.1,λi hi=>wpOp_mono (λa' w' h'=>fk.any hL f _ a' w' h'.2) (h.2 i hi).2⟩
theorem fk.first {i:Nat} {oi:Oper} {v:Value} (hi:ops[i]?=some oi) (wR:Region.noSelect ops=true) (hs:Region.sinkB md ops n=true) (hc:Region.chainB md ops n=true) (hn:n<ops.size) (de:i<n)
 (hQ:∀c a w,Q (.panic c) (a.put oi.dst v) w->Q (.panic c) a w) (hdone:∀s a w,L s a w->∀j∈Region.ready md ops s,n<=j):
 ∀(f:Nat) (s:Array Bool) (a:Act) (w:World),HeadInv md ops n s->(∀j oj,ops[j]?=some oj->j≠i->s.getD j true=false->(∀e∈oj.after,Region.binds md e=true->e.on≠i)->oi.apart ops oj=true)->
  i∈Region.ready md ops s->YieldsIf P ops S oi v a->S w->fk P md ops Q S n L f (s.setIfInBounds i true) (a.put oi.dst v) w->fk P md ops Q S n L (f+1) s a w:=by
 intro f
 induction f with
 |zero=>
  intro s a w inv _ hr hy hS H
  refine⟨λh=>(by rw[h]at hr;cases hr),λj hj=>?_⟩
  have n8:j<n:=Nat.lt_of_not_le λh=>tail_waits hs hc hn inv _ i rfl de (mem_ready.1 hr).1 j h hj
  by_cases ef:j=i
  ·subst ef;exact⟨n8,hy.wpOp hi hS ⟨hS,H⟩⟩
  ·have:=hdone _ _ _ H j (ready_mono hj ef)
   omega
 |succ f ih=>
  intro s a w inv s8 hr hy hS H
  refine⟨λh=>(by rw[h]at hr;cases hr),λj hj=>?_⟩
  have n8:j<n:=Nat.lt_of_not_le λh=>tail_waits hs hc hn inv _ i rfl de (mem_ready.1 hr).1 j h hj
  refine⟨n8,?_⟩
  by_cases ef:j=i
  ·subst ef;exact hy.wpOp hi hS ⟨hS,H⟩
  ·obtain⟨td,oj,jn,hall⟩:=mem_ready.1 hj
   have Bc:∀e∈oj.after,Region.binds md e=true->e.on≠i:=λe he hb heq=>by
    have h1:=hall e he hb
    rw[heq,getD_both (mem_ready.1 hr).1]at h1
    cases h1
   refine wpOp_mono (λa' w' h3=>⟨h3.2.1,ih _ a' w' (inv.set hj n8) (λk ok hk yL ks hno=>s8 k ok hk yL ?_ hno) (ready_mono hr (Ne.symm ef)) h3.1 h3.2.1 (by rw[Array.setIfInBounds_comm _ _ ef];exact h3.2.2)⟩)
    (wpOp_putIf jn (s8 j oj jn ef td Bc) (λx b=>Region.noSelect_spec wR i oi x b hi) (λx b=>Region.noSelect_spec wR j oj x b jn) hQ hy (H.2 j (ready_mono hj ef)).2)
   by_cases hjk:j=k
   ·subst hjk;exact td
   ·rw[getD_set_ne true hjk]at ks;exact ks
def o5 (ops:Array Oper) (n:Nat):Bool:=Region.noSelect ops&&Region.sinkB .any ops n&&Region.chainB .any ops n&&decide (n<ops.size)
def Gy (P:Program) (Q:Exit->Act->World->Prop) (l:List Oper) (n:Nat) (s:Array Bool) (a:Act) (w:World):Prop:=Region.seqB .any l.toArray (l.drop n).length n s=true/\wpList P l.toArray Q (l.drop n) a w
theorem fk.take {l:List Oper} {i f:Nat} {oi:Oper} {v:Value} {s:Array Bool} {a:Act} {w:World} (hi:l.toArray[i]?=some oi) (hB:o5 l.toArray n=true) (hf:(decide (i<n)&&Region.free .any l.toArray s i&&(Region.ready .any l.toArray s).contains i)=true)
 (hQ:∀c a w,Q (.panic c) (a.put oi.dst v) w->Q (.panic c) a w) (hy:YieldsIf P l.toArray S oi v a) (hS:S w) (inv:HeadInv .any l.toArray n s)
 (h:HeadInv .any l.toArray n (s.setIfInBounds i true)->fk P .any l.toArray Q S n (Gy P Q l n) f (s.setIfInBounds i true) (a.put oi.dst v) w):fk P .any l.toArray Q S n (Gy P Q l n) (f+1) s a w:=by
 simp only[o5,Bool.and_eq_true,decide_eq_true_eq]at hB hf
 obtain⟨⟨⟨h1,h2⟩,h3⟩,h4⟩:=hB
 have hr:i∈Region.ready .any l.toArray s:=by simpa using hf.2
 refine fk.first hi h1 h2 h3 h4 hf.1.1 hQ (λs a w hL=>?_) f s a w inv (Region.free_spec hi hf.1.2) hr hy hS (h (inv.set hr hf.1.1))
 exact seqB_ready hL.1
theorem fk.step {l:List Oper} {f:Nat} {s:Array Bool} {a:Act} {w:World} (rs:List Nat) (hr:(Region.ready .any l.toArray s==rs&&rs.all (λi=>decide (i<n))&& !rs.isEmpty)=true) (inv:HeadInv .any l.toArray n s)
 (h:∀i∈rs,HeadInv .any l.toArray n (s.setIfInBounds i true)->wpOp P l.toArray Q i (λa' w'=>S w'/\fk P .any l.toArray Q S n (Gy P Q l n) f (s.setIfInBounds i true) a' w') a w):fk P .any l.toArray Q S n (Gy P Q l n) (f+1) s a w:=by
 simp only[Bool.and_eq_true,beq_iff_eq,List.all_eq_true,decide_eq_true_eq]at hr
 obtain⟨⟨h1,h2⟩,h3⟩:=hr
 subst h1
 exact⟨(λe=>by rw[e]at h3;cases h3),λi hi=>⟨h2 i hi,h i hi (inv.set hi (h2 i hi))⟩⟩
theorem fk.region {id:Nat} {l:List Oper} {a:Act} {w:World} (n:Nat) (hm:P.follows .mixedOrders=true) (hn:n<=l.length)
 (h:HeadInv .any l.toArray n (Array.replicate l.toArray.size false)->fk P .any l.toArray Q S n (Gy P Q l n) n (Array.replicate l.toArray.size false) a w.drew):(Code.region id l.toArray true).wp P Q a w:=by
 refine wp_region_any hm ?_
 have hsz:l.toArray.size=n+(l.drop n).length:=by simp;omega
 rw[show wpAny P .any l.toArray Q l.toArray.size=wpAny P .any l.toArray Q (n+(l.drop n).length) from congrArg _ hsz]
 refine fk.any (S:=S) (λs a w hL=>wpAny_of_seq (l.drop n) n s a w (λj=>by simp) hL.1 hL.2) n _ a _ (h ⟨by simp,λj oj _ hl=>(by rw[getD_replicate_false]at hl;cases hl),λt _ ht=>getD_in (by simpa using ht) (getD_replicate_false _ _)⟩)
end Go
namespace Go.aX
open Go Go.aW Go.Proofs Go.RowKit
set_option maxHeartbeats 8000000 in
theorem aaz (s:ByteArray) (x0 x1:Int) (x2:ByteArray) (x3 bL N I:Value) (n:Nat) (nM vi:List Value) (w:World) (hn:n<=999)
 (iI:nM.length=n*1) (li:vi.length=n*5) (on:∀u∈nM,u.oneCell'=true) (oi:∀u∈vi,u.oneCell'=true) (o3:x3.oneCell'=true) (o4:bL.oneCell'=true)
 (hN:Ai w n nM N) (hI:Ai w n vi I)
 (hB:∀w1,w.Extends w1->Calls Tryz.prog 70 #[N,.string s] w1 λe w2=>w1.Extends w2/\e= .returned (.tuple #[.int .i64 n,.bool false])):
 Calls Tryz.prog 44 #[.agg #[.int .i64 6,.int .i64 0,.string ⟨#[]⟩,N,I],.string s,.agg #[.int .i64 x0,.int .i64 x1,.string x2,x3,bL]] w λe w'=>w.Extends w'/\∃u v,e= .returned (.agg #[.int .i64 6,.int .i64 0,.string ⟨#[]⟩,u,v])/\
  dJ 9 1 w w' (n+1) (nM++[.string s]) u/\dJ 30 5 w w' (n+1) (vi++[.int .i64 x0,.int .i64 x1,.string x2,x3,bL]) v:=by
 go_enter Tryz.func44,Tryz.ntmps44
 go_upto_region 2 with(go_at_call 70;refine(hB _ ((((World.Extends.refl w).alloc _).alloc _).alloc _)).mono ?_;rintro e w3 ⟨hx3,rfl⟩)
 have b3:=(lZ.new w _ _ _).ext hx3
 have Jv:=((((World.Extends.refl w).alloc _).alloc _).alloc _).trans hx3
 obtain⟨l0,l1,l2,l3,Fx,lf0,lf1,lf2,lf3,lf4⟩:=fq b3.1
 clear hB hx3
 have ez:w.heap.size+1+1<w3.heap.size:=(Array.getElem?_eq_some_iff.1 b3.2.2).1
 go_cut [] (λcd=>∃p1 c1 aJ c2,lZ w.heap.size #[.int .i64 6,.int .i64 0,.string ⟨#[]⟩,.slice p1 n c1,.slice aJ n c2] #[.int .i64 x0,.int .i64 x1,.string x2,x3,bL] #[.int .i64 0,.int .i64 0,.string ⟨#[]⟩,.slice none 0 0,.slice none 0 0] cd/\dJ 9 1 w3 cd n nM (.slice p1 n c1)/\dJ 30 5 w3 cd n vi (.slice aJ n c2)/\w.Extends cd/\w3.heap.size<=cd.heap.size)
 case first=>
  have N3:∀w1,w3.Extends w1->_:=λw1 hx=>af8.vals w1 N n nM (by omega) iI on (hN.ext (Jv.trans hx))
  have N4:∀w1,w3.Extends w1->_:=λw1 hx=>af9.vals w1 I n vi (by omega) li oi (hI.ext (Jv.trans hx))
  go_region_with (first
   |(go_at_call 71;refine(N3 _ (by first|exact World.Extends.refl _|exact(World.Extends.refl _).drew|assumption)).mono ?_;rintro e w4 ⟨ir,u,rfl,hu⟩;obtain⟨p1,c1,rfl⟩:=hu.form;have iv:w3.Extends w4:=by first|exact(World.Extends.refl w3).drew.trans ir|exact nO.trans ir
     obtain⟨m0,dE,m2,m3,sb,J4,J5,J6,J7,J8⟩:=fq (b3.ext iv).1)
   |(go_at_call 72;refine(N4 _ (by first|exact World.Extends.refl _|exact(World.Extends.refl _).drew|assumption)).mono ?_;rintro e fG ⟨o9,v,rfl,hv⟩;obtain⟨aJ,c2,rfl⟩:=hv.form;have nO:w3.Extends fG:=by first|exact(World.Extends.refl w3).drew.trans o9|exact iv.trans o9
     obtain⟨n0,n1,n2,n3,qX,ZS,ZT,ZU,ZV,ZW⟩:=fq (b3.ext nO).1))
  all_goals
   have fU:=(b3.ext nO).K0 (.slice p1 n c1) (.slice aJ n c2)
   have hk:∀(g:Nat) (o:Obj),w3.heap.size<=g->fG.heap[g]?=some o->((fG.setCell {block:=w.heap.size,off:=3} (.slice p1 n c1)).setCell {block:=w.heap.size,off:=4} (.slice aJ n c2)).heap[g]?=some o:=λg o h1 h2=>by
    rw[Go.heap_setCell_other _ ⟨w.heap.size,4,none⟩ g _ (by show g≠w.heap.size;omega),Go.heap_setCell_other _ ⟨w.heap.size,3,none⟩ g _ (by show g≠w.heap.size;omega)];exact h2
   have uV:=(((hu.ext o9).from (w0:=w3) (Nat.le_refl _)).kept λg cs h1 h2=>hk g _ h1 h2)
   have y0:=((hv.from (w0:=w3) iv.size).kept λg cs h1 h2=>hk g _ h1 h2)
   have oh:=pU (pU (Jv.trans nO) (a:=⟨w.heap.size,3,none⟩) (Nat.le_refl _) (.slice p1 n c1)) (a:=⟨w.heap.size,4,none⟩) (Nat.le_refl _) (.slice aJ n c2)
   have Cl:w3.heap.size<=((fG.setCell {block:=w.heap.size,off:=3} (.slice p1 n c1)).setCell {block:=w.heap.size,off:=4} (.slice aJ n c2)).heap.size:=by rw[World.size_setCell,World.size_setCell];exact nO.size
   go_wp2_with fail
   go_meet
   exact⟨p1,c1,aJ,c2,fU,uV,y0,oh,Cl⟩
 case rest=>
 obtain⟨p1,c1,aJ,c2,fU,uV,y0,oh,Cl⟩:=hcut
 clear l0 l1 l2 l3 Fx lf0 lf1 lf2 lf3 lf4 b3 hN hI Jv
 generalize wc=dy at*
 obtain⟨l0,l1,l2,l3,Fx,lf0,lf1,lf2,lf3,lf4⟩:=fq fU.1
 go_upto_region 6 with fail
 go_cut [] (λcd=>∃bb c3 b7 c4,lZ w.heap.size #[.int .i64 6,.int .i64 0,.string ⟨#[]⟩,.slice bb (n+1) c3,.slice b7 (n+1) c4] #[.int .i64 x0,.int .i64 x1,.string x2,x3,bL] #[.int .i64 0,.int .i64 0,.string ⟨#[]⟩,.slice none 0 0,.slice none 0 0] cd/\dJ 9 1 w3 cd (n+1) (nM++[.string s]) (.slice bb (n+1) c3)/\dJ 30 5 w3 cd (n+1) (vi++[.int .i64 x0,.int .i64 x1,.string x2,x3,bL]) (.slice b7 (n+1) c4)/\w.Extends cd)
 case first=>
  clear l0 l1 l2 l3 Fx lf0 lf1 lf2 lf3 lf4
  have aqr:∀u∈nM++[.string s],u.oneCell'=true:=λu hu=>by
   rcases List.mem_append.1 hu with hu|hu
   ·exact on u hu
   ·rw[List.mem_singleton.1 hu];rfl
  have aqs:∀u∈vi++[.int .i64 x0,.int .i64 x1,.string x2,x3,bL],u.oneCell'=true:=λu hu=>by
   rcases List.mem_append.1 hu with hu|hu
   ·exact oi u hu
   ·simp only[List.mem_cons,List.not_mem_nil,or_false]at hu
    rcases hu with rfl|rfl|rfl|rfl|rfl<;>first|rfl|assumption
  have Ru:(dy.alloc (.cells #[.string s] 9)).heap.size=dy.heap.size+1:=World.size_alloc _ _
  have GF:dy.Extends (dy.alloc (.cells #[.string s] 9)).drew:=((World.Extends.refl dy).alloc _).drew
  have GG:(dy.alloc (.cells #[.string s] 9)).Extends ((dy.alloc (.cells #[.string s] 9)).alloc (.cells #[.int .i64 x0,.int .i64 x1,.string x2,x3,bL] 30)).drew:=((World.Extends.refl _).alloc _).drew
  have hA:=heap_alloc_new dy (.cells #[.string s] 9)
  have hB:=heap_alloc_new (dy.alloc (.cells #[.string s] 9)) (.cells #[.int .i64 x0,.int .i64 x1,.string x2,x3,bL] 30)
  rw[Ru]at hB
  have DU:Hid (∀W eR,dy.Extends W->W.heap[eR]?=some (.cells #[.string s] 9 (0,0))->dy.heap.size<=eR->Calls Tryz.prog 73 #[.slice p1 n c1,.int .i64 n,.slice (some ⟨eR,0,none⟩) 1 1] W λe ib=>∃bb c3,e= .returned (.slice bb (n+1) c3)/\lZ w.heap.size #[.int .i64 6,.int .i64 0,.string ⟨#[]⟩,.slice p1 n c1,.slice aJ n c2] #[.int .i64 x0,.int .i64 x1,.string x2,x3,bL] #[.int .i64 0,.int .i64 0,.string ⟨#[]⟩,.slice none 0 0,.slice none 0 0] ib/\
   Hid (w.Extends ib/\dJ 9 1 w3 ib (n+1) (nM++[.string s]) (.slice bb (n+1) c3)/\dJ 30 5 w3 ib n vi (.slice aJ n c2)/\w3.heap.size<=ib.heap.size/\dy.heap.size<=ib.heap.size/\∀(g:Nat) (o:Obj),dy.heap.size<=g->W.heap[g]?=some o->ib.heap[g]?=some o)):=λW eR px hW aht=>by
   refine(YO YP (w0:=w3) (w:=W) (by omega) iI rfl aqr (uV.ext px) (Nat.le_trans Cl px.size) (vc:=1) hW (λe=>by have:=(uV.own e).2.1;omega)).mono ?_
   rintro e ib ⟨hs,u,rfl,Yf⟩
   obtain⟨bb,c3,rfl⟩:=Yf.form
   refine⟨bb,c3,rfl,(fU.ext px).abv hs ez λg e=>(uV.own e).1,ik.ext1 (oh.trans px) hs λg e=>Nat.le_trans (by omega) (uV.own e).1,Yf,(y0.ext px).kept λg cs _ hg=>Cs hs hg λe=>?_,Nat.le_trans (Nat.le_trans Cl px.size) hs.2.2.2.1,Nat.le_trans px.size hs.2.2.2.1,λg o h1 h2=>Cs hs h2 λe=>by have:=(uV.own e).2.1;omega⟩
   obtain⟨cs',h⟩:=((uV.ext px).own e).2.2
   rw[h]at hg;cases hg
  have DV:Hid (∀W u DM,lZ w.heap.size #[.int .i64 6,.int .i64 0,.string ⟨#[]⟩,.slice p1 n c1,.slice aJ n c2] #[.int .i64 x0,.int .i64 x1,.string x2,x3,bL] #[.int .i64 0,.int .i64 0,.string ⟨#[]⟩,.slice none 0 0,.slice none 0 0] W->w.Extends W->dJ 9 1 w3 W (n+1) (nM++[.string s]) u->dJ 30 5 w3 W n vi (.slice aJ n c2)->w3.heap.size<=W.heap.size->W.heap[DM]?=some (.cells #[.int .i64 x0,.int .i64 x1,.string x2,x3,bL] 30 (0,0))->dy.heap.size<=DM->
   Calls Tryz.prog 74 #[.slice aJ n c2,.int .i64 n,.slice (some ⟨DM,0,none⟩) 1 1] W λe gu=>∃b7 c4,e= .returned (.slice b7 (n+1) c4)/\lZ w.heap.size #[.int .i64 6,.int .i64 0,.string ⟨#[]⟩,.slice p1 n c1,.slice aJ n c2] #[.int .i64 x0,.int .i64 x1,.string x2,x3,bL] #[.int .i64 0,.int .i64 0,.string ⟨#[]⟩,.slice none 0 0,.slice none 0 0] gu/\
   Hid (w.Extends gu/\dJ 9 1 w3 gu (n+1) (nM++[.string s]) u/\dJ 30 5 w3 gu (n+1) (vi++[.int .i64 x0,.int .i64 x1,.string x2,x3,bL]) (.slice b7 (n+1) c4))):=λW u DM yb alE aln Yh atC hB aht=>by
   have hne:hV (.slice aJ n c2)≠some DM:=λe=>by have:=(y0.own e).2.1;omega
   refine(YO YQ (w0:=w3) (w:=W) (by omega) li rfl aqs Yh atC (vc:=1) hB hne).mono ?_
   rintro e gu ⟨hs,v,rfl,Yg⟩
   obtain⟨b7,c4,rfl⟩:=Yg.form
   refine⟨b7,c4,rfl,yb.abv hs ez λg e=>(y0.own e).1,ik.ext1 alE hs λg e=>Nat.le_trans (by omega) (y0.own e).1,aln.kept λg cs _ hg=>Cs hs hg λe=>?_,Yg⟩
   obtain⟨cs',h⟩:=(Yh.own e).2.2
   rw[h]at hg;cases hg
  have az:=fU.ext GF
  have az0:=fU.ext (((World.Extends.refl dy).alloc (.cells #[.string s] 9)).trans GG)
  obtain⟨l0,l1,l2,l3,Fx,lf0,lf1,lf2,lf3,lf4⟩:=fq fU.1
  obtain⟨m0,dE,m2,m3,sb,J4,J5,J6,J7,J8⟩:=fq fU.2.1
  have GF:Hid (dy.Extends (dy.alloc (.cells #[.string s] 9)).drew):=GF
  have GG:Hid (dy.Extends ((dy.alloc (.cells #[.string s] 9)).alloc (.cells #[.int .i64 x0,.int .i64 x1,.string x2,x3,bL] 30)).drew):=((World.Extends.refl dy).alloc (.cells #[.string s] 9)).trans GG
  have ah6:Hid (((dy.alloc (.cells #[.string s] 9)).alloc (.cells #[.int .i64 x0,.int .i64 x1,.string x2,x3,bL] 30)).drew.heap[dy.heap.size]?=some (.cells #[.string s] 9 (0,0))):=((World.Extends.refl (dy.alloc (.cells #[.string s] 9))).alloc (.cells #[.int .i64 x0,.int .i64 x1,.string x2,x3,bL] 30)).block _ (by rw[Ru];omega) |>.trans hA
  have hA:Hid ((dy.alloc (.cells #[.string s] 9)).drew.heap[dy.heap.size]?=some (.cells #[.string s] 9 (0,0))):=hA
  have hB:Hid (((dy.alloc (.cells #[.string s] 9)).alloc (.cells #[.int .i64 x0,.int .i64 x1,.string x2,x3,bL] 30)).drew.heap[dy.heap.size+1]?=some (.cells #[.int .i64 x0,.int .i64 x1,.string x2,x3,bL] 30 (0,0))):=hB
  have qo:(dy.alloc (.cells #[.int .i64 x0,.int .i64 x1,.string x2,x3,bL] 30)).heap.size=dy.heap.size+1:=World.size_alloc _ _
  have acG:Hid (dy.Extends ((dy.alloc (.cells #[.int .i64 x0,.int .i64 x1,.string x2,x3,bL] 30)).alloc (.cells #[.string s] 9)).drew):=(((World.Extends.refl dy).alloc (.cells #[.int .i64 x0,.int .i64 x1,.string x2,x3,bL] 30)).alloc (.cells #[.string s] 9)).drew
  have ax6:Hid (((dy.alloc (.cells #[.int .i64 x0,.int .i64 x1,.string x2,x3,bL] 30)).alloc (.cells #[.string s] 9)).drew.heap[dy.heap.size+1]?=some (.cells #[.string s] 9 (0,0))):=by
   have:=heap_alloc_new (dy.alloc (.cells #[.int .i64 x0,.int .i64 x1,.string x2,x3,bL] 30)) (.cells #[.string s] 9)
   rw[qo]at this;exact this
  have acP:Hid (((dy.alloc (.cells #[.int .i64 x0,.int .i64 x1,.string x2,x3,bL] 30)).alloc (.cells #[.string s] 9)).drew.heap[dy.heap.size]?=some (.cells #[.int .i64 x0,.int .i64 x1,.string x2,x3,bL] 30 (0,0))):=((World.Extends.refl (dy.alloc (.cells #[.int .i64 x0,.int .i64 x1,.string x2,x3,bL] 30))).alloc (.cells #[.string s] 9)).block _ (by rw[qo];omega) |>.trans (heap_alloc_new dy _)
  clear uV y0 oh Cl on oi Ru qo
  have o2:∀cd,lZ w.heap.size #[.int .i64 6,.int .i64 0,.string ⟨#[]⟩,.slice p1 n c1,.slice aJ n c2] #[.int .i64 x0,.int .i64 x1,.string x2,x3,bL] #[.int .i64 0,.int .i64 0,.string ⟨#[]⟩,.slice none 0 0,.slice none 0 0] cd->(λcd=>cd.cell? {block:=w.heap.size,off:=3}=some (.slice p1 n c1)/\cd.cell? {block:=w.heap.size,off:=4}=some (.slice aJ n c2)/\cd.cell? {block:=w.heap.size+1,off:=0}=some (.int .i64 x0)/\cd.cell? {block:=w.heap.size+1,off:=1}=some (.int .i64 x1)/\cd.cell? {block:=w.heap.size+1,off:=2}=some (.string x2)/\cd.cell? {block:=w.heap.size+1,off:=3}=some x3/\cd.cell? {block:=w.heap.size+1,off:=4}=some bL) cd:=λcd h=>by
   obtain⟨_,_,_,h3,h4,_⟩:=fq h.1
   obtain⟨h5,h6,h7,h8,bE,_⟩:=fq h.2.1
   exact⟨h3,h4,h5,h6,h7,h8,bE⟩
  have o2:Hid _:=o2
  have ax7:Hid (dy.Extends (dy.alloc (.cells #[.int .i64 x0,.int .i64 x1,.string x2,x3,bL] 30)).drew):=((World.Extends.refl dy).alloc (.cells #[.int .i64 x0,.int .i64 x1,.string x2,x3,bL] 30)).drew
  refine fk.region (S:=(λcd=>cd.cell? {block:=w.heap.size,off:=3}=some (.slice p1 n c1)/\cd.cell? {block:=w.heap.size,off:=4}=some (.slice aJ n c2)/\cd.cell? {block:=w.heap.size+1,off:=0}=some (.int .i64 x0)/\cd.cell? {block:=w.heap.size+1,off:=1}=some (.int .i64 x1)/\cd.cell? {block:=w.heap.size+1,off:=2}=some (.string x2)/\cd.cell? {block:=w.heap.size+1,off:=3}=some x3/\cd.cell? {block:=w.heap.size+1,off:=4}=some bL)) 13 (by kernel_rfl) (by decide) ?_
  intro inv
  have hS:=o2.out _ (fU.ext (World.Extends.refl dy).drew)
  refine fk.take (i:=0) (v:=?_) rfl (by kernel_rfl) (by kernel_rfl) (λ_ _ _ h=>h) (Or.inl ⟨by rfl,?_⟩) hS inv ?_
  rotate_left
  ·intro w' hw;obtain⟨e1,e2,e3,e4,gR,gh,oW⟩:=hw;go_simp;try with_reducible rfl
  clear inv;intro inv
  try simp only[Act.put,List.setIfInBounds_toArray,List.set_cons_zero,List.set_cons_succ]at inv⊢
  refine fk.take (i:=1) (v:=?_) rfl (by kernel_rfl) (by kernel_rfl) (λ_ _ _ h=>h) (Or.inl ⟨by rfl,?_⟩) hS inv ?_
  rotate_left
  ·intro w' hw;obtain⟨e1,e2,e3,e4,gR,gh,oW⟩:=hw;go_simp;try with_reducible rfl
  clear inv;intro inv
  try simp only[Act.put,List.setIfInBounds_toArray,List.set_cons_zero,List.set_cons_succ]at inv⊢
  refine fk.take (i:=2) (v:=?_) rfl (by kernel_rfl) (by kernel_rfl) (λ_ _ _ h=>h) (Or.inl ⟨by rfl,?_⟩) hS inv ?_
  rotate_left
  ·intro w' hw;obtain⟨e1,e2,e3,e4,gR,gh,oW⟩:=hw;go_simp;try with_reducible rfl
  clear inv;intro inv
  try simp only[Act.put,List.setIfInBounds_toArray,List.set_cons_zero,List.set_cons_succ]at inv⊢
  refine fk.take (i:=3) (v:=?_) rfl (by kernel_rfl) (by kernel_rfl) (λ_ _ _ h=>h) (Or.inl ⟨by rfl,?_⟩) hS inv ?_
  rotate_left
  ·intro w' hw;obtain⟨e1,e2,e3,e4,gR,gh,oW⟩:=hw;go_simp;try with_reducible rfl
  clear inv;intro inv
  try simp only[Act.put,List.setIfInBounds_toArray,List.set_cons_zero,List.set_cons_succ]at inv⊢
  refine fk.take (i:=6) (v:=?_) rfl (by kernel_rfl) (by kernel_rfl) (λ_ _ _ h=>h) (Or.inl ⟨by rfl,?_⟩) hS inv ?_
  rotate_left
  ·intro w' hw;obtain⟨e1,e2,e3,e4,gR,gh,oW⟩:=hw;go_simp;try with_reducible rfl
  clear inv;intro inv
  try simp only[Act.put,List.setIfInBounds_toArray,List.set_cons_zero,List.set_cons_succ]at inv⊢
  refine fk.take (i:=7) (v:=?_) rfl (by kernel_rfl) (by kernel_rfl) (λ_ _ _ h=>h) (Or.inl ⟨by rfl,?_⟩) hS inv ?_
  rotate_left
  ·intro w' hw;obtain⟨e1,e2,e3,e4,gR,gh,oW⟩:=hw;go_simp;try with_reducible rfl
  clear inv;intro inv
  try simp only[Act.put,List.setIfInBounds_toArray,List.set_cons_zero,List.set_cons_succ]at inv⊢
  refine fk.take (i:=8) (v:=?_) rfl (by kernel_rfl) (by kernel_rfl) (λ_ _ _ h=>h) (Or.inl ⟨by rfl,?_⟩) hS inv ?_
  rotate_left
  ·intro w' hw;obtain⟨e1,e2,e3,e4,gR,gh,oW⟩:=hw;go_simp;try with_reducible rfl
  clear inv;intro inv
  try simp only[Act.put,List.setIfInBounds_toArray,List.set_cons_zero,List.set_cons_succ]at inv⊢
  refine fk.take (i:=9) (v:=?_) rfl (by kernel_rfl) (by kernel_rfl) (λ_ _ _ h=>h) (Or.inl ⟨by rfl,?_⟩) hS inv ?_
  rotate_left
  ·intro w' hw;obtain⟨e1,e2,e3,e4,gR,gh,oW⟩:=hw;go_simp;try with_reducible rfl
  clear inv;intro inv
  try simp only[Act.put,List.setIfInBounds_toArray,List.set_cons_zero,List.set_cons_succ]at inv⊢
  refine fk.step [4,10] (by kernel_rfl) inv ?_
  clear inv
  intro i hi inv
  simp only[List.mem_cons,List.not_mem_nil,or_false]at hi
  rcases hi with rfl|rfl
  ·refine wpOp_step rfl (λK gb=>?_)
   have hK:Hid _:=gb
   clear gb
   clear hS
   go_simp
   have hS:=o2.out _ (fU.ext GF.out)
   refine hK.out _ _ ⟨hS,?_⟩
   clear hK K
   try simp only[Act.put,List.setIfInBounds_toArray,List.set_cons_zero,List.set_cons_succ]at inv⊢
   refine fk.step [5,10] (by kernel_rfl) inv ?_
   clear inv
   intro i hi inv
   simp only[List.mem_cons,List.not_mem_nil,or_false]at hi
   rcases hi with rfl|rfl
   ·refine wpOp_step rfl (λK gb=>?_)
    have hK:Hid _:=gb
    clear gb
    clear hS
    go_simp
    go_at_call 73
    refine(DU.out _ _ GF.out hA.out (Nat.le_refl _)).mono ?_
    rintro e ib ⟨bb,c3,rfl,uq,h7⟩
    go_wp2_with fail
    have hS:=o2.out _ uq
    refine hK.out _ _ ⟨hS,?_⟩
    clear hK K
    try simp only[Act.put,List.setIfInBounds_toArray,List.set_cons_zero,List.set_cons_succ]at inv⊢
    refine fk.take (i:=12) (v:=?_) rfl (by kernel_rfl) (by kernel_rfl) (λ_ _ _ h=>h) (Or.inl ⟨by rfl,?_⟩) hS inv ?_
    rotate_left
    ·intro w' hw;obtain⟨e1,e2,e3,e4,gR,gh,oW⟩:=hw;go_simp;try with_reducible rfl
    clear inv;intro inv
    try simp only[Act.put,List.setIfInBounds_toArray,List.set_cons_zero,List.set_cons_succ]at inv⊢
    refine fk.step [10] (by kernel_rfl) inv ?_
    clear inv
    intro i hi inv
    obtain rfl:=List.mem_singleton.1 hi
    clear hi
    refine wpOp_step rfl (λK gb=>?_)
    have hK:Hid _:=gb
    clear gb
    clear hS
    go_simp
    have hS:=o2.out _ (uq.ext ((World.Extends.refl ib).alloc (.cells #[.int .i64 x0,.int .i64 x1,.string x2,x3,bL] 30)))
    refine hK.out _ _ ⟨hS,?_⟩
    clear hK K
    try simp only[Act.put,List.setIfInBounds_toArray,List.set_cons_zero,List.set_cons_succ]at inv⊢
    refine fk.step [11] (by kernel_rfl) inv ?_
    clear inv
    intro i hi inv
    obtain rfl:=List.mem_singleton.1 hi
    clear hi
    refine wpOp_step rfl (λK gb=>?_)
    have hK:Hid _:=gb
    clear gb
    clear hS
    go_simp
    go_at_call 74
    refine(DV.out (ib.alloc (.cells #[.int .i64 x0,.int .i64 x1,.string x2,x3,bL] 30)) _ ib.heap.size (uq.ext ((World.Extends.refl ib).alloc (.cells #[.int .i64 x0,.int .i64 x1,.string x2,x3,bL] 30))) (h7.out.1.trans ((World.Extends.refl ib).alloc (.cells #[.int .i64 x0,.int .i64 x1,.string x2,x3,bL] 30))) (h7.out.2.1.ext ((World.Extends.refl ib).alloc (.cells #[.int .i64 x0,.int .i64 x1,.string x2,x3,bL] 30))) (h7.out.2.2.1.ext ((World.Extends.refl ib).alloc (.cells #[.int .i64 x0,.int .i64 x1,.string x2,x3,bL] 30))) (Nat.le_trans h7.out.2.2.2.1 (((World.Extends.refl ib).alloc (.cells #[.int .i64 x0,.int .i64 x1,.string x2,x3,bL] 30))).size) (heap_alloc_new ib _) h7.out.2.2.2.2.1).mono ?_
    rintro e gu ⟨b7,c4,rfl,rE,h8⟩
    go_wp2_with fail
    have hS:=o2.out _ rE
    refine hK.out _ _ ⟨hS,?_⟩
    clear hK K
    try simp only[Act.put,List.setIfInBounds_toArray,List.set_cons_zero,List.set_cons_succ]at inv⊢
    obtain⟨r0,r1,r2,r3,fN,aaL,aaM,aaN,aaO,aaP⟩:=fq rE.1
    refine⟨by kernel_rfl,?_⟩
    simp only[List.drop_succ_cons,List.drop_zero]
    have sN:=rE.K0 (.slice bb (n+1) c3) (.slice b7 (n+1) c4)
    have hk:∀(g:Nat) (o:Obj),w3.heap.size<=g->gu.heap[g]?=some o->((gu.setCell ⟨w.heap.size,3,none⟩ (.slice bb (n+1) c3)).setCell ⟨w.heap.size,4,none⟩ (.slice b7 (n+1) c4)).heap[g]?=some o:=λg o h1 h2=>by
     rw[Go.heap_setCell_other _ ⟨w.heap.size,4,none⟩ g _ (by show g≠w.heap.size;omega),Go.heap_setCell_other _ ⟨w.heap.size,3,none⟩ g _ (by show g≠w.heap.size;omega)];exact h2
    go_wp2_with fail
    go_meet
    exact⟨bb,c3,b7,c4,sN,h8.out.2.1.kept λg cs h1 h2=>hk g _ h1 h2,h8.out.2.2.kept λg cs h1 h2=>hk g _ h1 h2,pU (pU h8.out.1 (a:=⟨w.heap.size,3,none⟩) (Nat.le_refl _) _) (a:=⟨w.heap.size,4,none⟩) (Nat.le_refl _) _⟩
   ·refine wpOp_step rfl (λK gb=>?_)
    have hK:Hid _:=gb
    clear gb
    clear hS
    go_simp
    have hS:=o2.out _ (fU.ext GG.out)
    refine hK.out _ _ ⟨hS,?_⟩
    clear hK K
    try simp only[Act.put,List.setIfInBounds_toArray,List.set_cons_zero,List.set_cons_succ]at inv⊢
    refine fk.step [5] (by kernel_rfl) inv ?_
    clear inv
    intro i hi inv
    obtain rfl:=List.mem_singleton.1 hi
    clear hi
    refine wpOp_step rfl (λK gb=>?_)
    have hK:Hid _:=gb
    clear gb
    clear hS
    go_simp
    go_at_call 73
    refine(DU.out _ _ GG.out ah6.out (Nat.le_refl _)).mono ?_
    rintro e ib ⟨bb,c3,rfl,uq,h7⟩
    go_wp2_with fail
    have hS:=o2.out _ uq
    refine hK.out _ _ ⟨hS,?_⟩
    clear hK K
    try simp only[Act.put,List.setIfInBounds_toArray,List.set_cons_zero,List.set_cons_succ]at inv⊢
    refine fk.take (i:=12) (v:=?_) rfl (by kernel_rfl) (by kernel_rfl) (λ_ _ _ h=>h) (Or.inl ⟨by rfl,?_⟩) hS inv ?_
    rotate_left
    ·intro w' hw;obtain⟨e1,e2,e3,e4,gR,gh,oW⟩:=hw;go_simp;try with_reducible rfl
    clear inv;intro inv
    try simp only[Act.put,List.setIfInBounds_toArray,List.set_cons_zero,List.set_cons_succ]at inv⊢
    refine fk.step [11] (by kernel_rfl) inv ?_
    clear inv
    intro i hi inv
    obtain rfl:=List.mem_singleton.1 hi
    clear hi
    refine wpOp_step rfl (λK gb=>?_)
    have hK:Hid _:=gb
    clear gb
    clear hS
    go_simp
    go_at_call 74
    refine(DV.out ib _ (dy.heap.size+1) uq h7.out.1 h7.out.2.1 h7.out.2.2.1 h7.out.2.2.2.1 (h7.out.2.2.2.2.2 _ _ (Nat.le_succ _) hB.out) (Nat.le_succ _)).mono ?_
    rintro e gu ⟨b7,c4,rfl,rE,h8⟩
    go_wp2_with fail
    have hS:=o2.out _ rE
    refine hK.out _ _ ⟨hS,?_⟩
    clear hK K
    try simp only[Act.put,List.setIfInBounds_toArray,List.set_cons_zero,List.set_cons_succ]at inv⊢
    obtain⟨r0,r1,r2,r3,fN,aaL,aaM,aaN,aaO,aaP⟩:=fq rE.1
    refine⟨by kernel_rfl,?_⟩
    simp only[List.drop_succ_cons,List.drop_zero]
    have sN:=rE.K0 (.slice bb (n+1) c3) (.slice b7 (n+1) c4)
    have hk:∀(g:Nat) (o:Obj),w3.heap.size<=g->gu.heap[g]?=some o->((gu.setCell ⟨w.heap.size,3,none⟩ (.slice bb (n+1) c3)).setCell ⟨w.heap.size,4,none⟩ (.slice b7 (n+1) c4)).heap[g]?=some o:=λg o h1 h2=>by
     rw[Go.heap_setCell_other _ ⟨w.heap.size,4,none⟩ g _ (by show g≠w.heap.size;omega),Go.heap_setCell_other _ ⟨w.heap.size,3,none⟩ g _ (by show g≠w.heap.size;omega)];exact h2
    go_wp2_with fail
    go_meet
    exact⟨bb,c3,b7,c4,sN,h8.out.2.1.kept λg cs h1 h2=>hk g _ h1 h2,h8.out.2.2.kept λg cs h1 h2=>hk g _ h1 h2,pU (pU h8.out.1 (a:=⟨w.heap.size,3,none⟩) (Nat.le_refl _) _) (a:=⟨w.heap.size,4,none⟩) (Nat.le_refl _) _⟩
  ·refine wpOp_step rfl (λK gb=>?_)
   have hK:Hid _:=gb
   clear gb
   clear hS
   go_simp
   have hS:=o2.out _ (fU.ext ax7.out)
   refine hK.out _ _ ⟨hS,?_⟩
   clear hK K
   try simp only[Act.put,List.setIfInBounds_toArray,List.set_cons_zero,List.set_cons_succ]at inv⊢
   refine fk.step [4] (by kernel_rfl) inv ?_
   clear inv
   intro i hi inv
   obtain rfl:=List.mem_singleton.1 hi
   clear hi
   refine wpOp_step rfl (λK gb=>?_)
   have hK:Hid _:=gb
   clear gb
   clear hS
   go_simp
   have hS:=o2.out _ (fU.ext acG.out)
   refine hK.out _ _ ⟨hS,?_⟩
   clear hK K
   try simp only[Act.put,List.setIfInBounds_toArray,List.set_cons_zero,List.set_cons_succ]at inv⊢
   refine fk.step [5] (by kernel_rfl) inv ?_
   clear inv
   intro i hi inv
   obtain rfl:=List.mem_singleton.1 hi
   clear hi
   refine wpOp_step rfl (λK gb=>?_)
   have hK:Hid _:=gb
   clear gb
   clear hS
   go_simp
   go_at_call 73
   refine(DU.out _ _ acG.out ax6.out (Nat.le_succ _)).mono ?_
   rintro e ib ⟨bb,c3,rfl,uq,h7⟩
   go_wp2_with fail
   have hS:=o2.out _ uq
   refine hK.out _ _ ⟨hS,?_⟩
   clear hK K
   try simp only[Act.put,List.setIfInBounds_toArray,List.set_cons_zero,List.set_cons_succ]at inv⊢
   refine fk.take (i:=12) (v:=?_) rfl (by kernel_rfl) (by kernel_rfl) (λ_ _ _ h=>h) (Or.inl ⟨by rfl,?_⟩) hS inv ?_
   rotate_left
   ·intro w' hw;obtain⟨e1,e2,e3,e4,gR,gh,oW⟩:=hw;go_simp;try with_reducible rfl
   clear inv;intro inv
   try simp only[Act.put,List.setIfInBounds_toArray,List.set_cons_zero,List.set_cons_succ]at inv⊢
   refine fk.step [11] (by kernel_rfl) inv ?_
   clear inv
   intro i hi inv
   obtain rfl:=List.mem_singleton.1 hi
   clear hi
   refine wpOp_step rfl (λK gb=>?_)
   have hK:Hid _:=gb
   clear gb
   clear hS
   go_simp
   go_at_call 74
   refine(DV.out ib _ dy.heap.size uq h7.out.1 h7.out.2.1 h7.out.2.2.1 h7.out.2.2.2.1 (h7.out.2.2.2.2.2 _ _ (Nat.le_refl _) acP.out) (Nat.le_refl _)).mono ?_
   rintro e gu ⟨b7,c4,rfl,rE,h8⟩
   go_wp2_with fail
   have hS:=o2.out _ rE
   refine hK.out _ _ ⟨hS,?_⟩
   clear hK K
   try simp only[Act.put,List.setIfInBounds_toArray,List.set_cons_zero,List.set_cons_succ]at inv⊢
   obtain⟨r0,r1,r2,r3,fN,aaL,aaM,aaN,aaO,aaP⟩:=fq rE.1
   refine⟨by kernel_rfl,?_⟩
   simp only[List.drop_succ_cons,List.drop_zero]
   have sN:=rE.K0 (.slice bb (n+1) c3) (.slice b7 (n+1) c4)
   have hk:∀(g:Nat) (o:Obj),w3.heap.size<=g->gu.heap[g]?=some o->((gu.setCell ⟨w.heap.size,3,none⟩ (.slice bb (n+1) c3)).setCell ⟨w.heap.size,4,none⟩ (.slice b7 (n+1) c4)).heap[g]?=some o:=λg o h1 h2=>by
    rw[Go.heap_setCell_other _ ⟨w.heap.size,4,none⟩ g _ (by show g≠w.heap.size;omega),Go.heap_setCell_other _ ⟨w.heap.size,3,none⟩ g _ (by show g≠w.heap.size;omega)];exact h2
   go_wp2_with fail
   go_meet
   exact⟨bb,c3,b7,c4,sN,h8.out.2.1.kept λg cs h1 h2=>hk g _ h1 h2,h8.out.2.2.kept λg cs h1 h2=>hk g _ h1 h2,pU (pU h8.out.1 (a:=⟨w.heap.size,3,none⟩) (Nat.le_refl _) _) (a:=⟨w.heap.size,4,none⟩) (Nat.le_refl _) _⟩
 case rest=>
 obtain⟨bb,c3,b7,c4,sN,alm,alr,Jz⟩:=hcut
 obtain⟨f0,f1,f2,f3,f4,_⟩:=fq sN.1
 obtain⟨t0,t1,t2,t3,t4,aCK,aCL,aCM,aCN,aCO⟩:=fq sN.2.2
 go_wp2
 exact bodyPost_ret (results_cell_row (p:=6) (ty:=30) (by kernel_rfl) _ _ (w.heap.size+1+1) 30 _ (0,0) _ rfl (oy sN.2.2 rfl _ _ _ _ _) Tryz.underlying30 rfl (by kernel_rfl)) rfl
  ⟨nY Jz (by omega) _ _ _ _ _,_,_,rfl,(alm.kept λg cs h1 h2=>(kB wc (g:=w.heap.size+1+1) (by omega) (.int .i64 6) (.int .i64 0) (.string ⟨#[]⟩) (.slice bb (n+1) c3) (.slice b7 (n+1) c4)).trans h2).from (by omega),(alr.kept λg cs h1 h2=>(kB wc (g:=w.heap.size+1+1) (by omega) (.int .i64 6) (.int .i64 0) (.string ⟨#[]⟩) (.slice bb (n+1) c3) (.slice b7 (n+1) c4)).trans h2).from (by omega)⟩
end Go.aX
namespace Go.aX
open Go Go.aW Go.Proofs Go.RowKit
theorem Rx {wb:World} (hp:bM wb tn) {c:Int} (h:0<=c/\c<=b8) {w:World} (hw:wb.Extends w):Calls Tryz.prog 19 #[.string (az (aa c))] w λe w2=>w.Extends w2/\e= .returned (.bool (e5 (aa c))):=by
 obtain⟨rs,h1,h2,h3⟩:=hp [c] ⟨h.1,h.2,trivial⟩
 match rs,h1 with
 |[r],h1=>
  have h2:r=bx (e5 (aa c)):=h2
  refine(Wg (enters (by kernel_rfl) _ _) (h3 w hw)).mono ?_
  rintro e w2 ⟨he,hx⟩
  refine⟨hx,?_⟩
  rw[he]
  show Ending.returned (.bool (decide (r=1)))=_
  rw[h2,Dg]
abbrev RF:List av:=[.int .u8 0 127]
theorem ab6 {wb:World} (h:du wb tl) {s:ByteArray} {n:Nat} (hs:s.size=n) (hn:n<=1000) (ha:∀b∈s.data.toList,b<128) {w:World} (hw:wb.Extends w):
 Calls Tryz.prog 42 #[.slice (some ⟨w.heap.size,0,none⟩) n (grownCap w n 0 5)] (yb w s n) λe w2=>w.Extends w2/\e= .returned (.bool true):=by
 have hx:w.Extends (yb w s n):=((World.Extends.refl w).alloc _).drew
 have hC:=yo w n 0 5 (by omega)
 have hl:s.data.toList.length=n:=by rw[Array.length_toList];exact hs
 have bg:∀row∈s.data.toList.map (λb=>[(b.toNat:Int)]),bD RF row:=λrow hr=>by
  obtain⟨b,hb,rfl⟩:=List.mem_map.1 hr
  have:=UInt8.lt_iff_toNat_lt.1 (ha b hb)
  have e:(128:UInt8).toNat=128:=rfl
  exact⟨⟨by show(0:Int)<=_;omega,by show(_:Int)<=127;omega⟩,trivial⟩
 have hz:0<=rc (s.data.toList.map λb=>[(b.toNat:Int)])/\rc (s.data.toList.map λb=>[(b.toNat:Int)])<=bV:=⟨eJ _,sH (sh:=RF) rfl (by rw[List.length_map];omega) bg⟩
 refine(h.2 (λ_=>True) (yb w s n) [.slice (some ⟨w.heap.size,0,none⟩) n (grownCap w n 0 5)] [rc (s.data.toList.map λb=>[(b.toNat:Int)])] (hw.trans hx) ⟨hz.1,hz.2,trivial⟩ trivial ⟨?_,trivial⟩).mono ?_
 ·show fK _ _ RF (ab (rc _)) _
  rw[di]
  refine .inr ⟨w.heap.size,0,grownCap w n 0 5,_,5,_,by rw[List.length_map,hl],⟨by rw[List.length_map,hl];exact hC.1,by omega⟩,trivial,heap_alloc_new w _,(k0 rfl).2 ⟨bg,[],List.replicate (grownCap w n 0 5-s.size) (.int .u8 0),?_,rfl⟩⟩
  simp only[bytesRow,Array.toList_append,Array.toList_map,Array.toList_replicate,List.nil_append]
  congr 1
  induction s.data.toList with
  |nil=>rfl
  |cons b l ih=>simp only[List.map_cons,cG,List.flatMap_cons]at ih⊢;rw[<-ih];rfl
 ·rintro e w2 ⟨hx2,rs,us,hb,hsp,hat,rfl⟩
  match rs,hb,us,hat with
  |[r],hb,[u],hat=>
   have hsp:r=1:=hsp
   have hat:u= .bool (decide (r=1)):=hat.1
   subst hat hsp
   exact⟨hx.trans hx2,rfl⟩
abbrev RG:List av:=[.int .i64 4 4,.int .i64 0 0,.str,.nil,.nil]
abbrev ni:Array Value:=#[.int .i64 4,.int .i64 0,.string (az lN),.slice none 0 0,.slice none 0 0,.int .i64 4,.int .i64 0,.string (az KW),.slice none 0 0,.slice none 0 0]
abbrev zy:List (List Int):=[[4,0,cT lN,0,0],[4,0,cT KW,0,0]]
theorem Z4:∀row∈zy,bD RG row:=λrow hr=>by
 simp only[List.mem_cons,List.not_mem_nil,or_false]at hr
 rcases hr with rfl|rfl
 ·exact⟨⟨by decide,by decide⟩,⟨by decide,by decide⟩,⟨lD _,kY (by decide)⟩,⟨by decide,by decide⟩,⟨by decide,by decide⟩,trivial⟩
 ·exact⟨⟨by decide,by decide⟩,⟨by decide,by decide⟩,⟨lD _,kY (by decide)⟩,⟨by decide,by decide⟩,⟨by decide,by decide⟩,trivial⟩
theorem Zu {w:World} {gl:Nat} (h:w.heap[gl]?=some (.cells ni 30 (0,0))):fT (λ_=>True) (λ_=>False) w E9.args [0,rc zy] [.int .i64 5,.int .i64 0,.string ⟨#[]⟩,.slice none 0 0,.slice (some ⟨gl,0,none⟩) 2 2]:=by
 refine⟨rfl,rfl,rfl,.inl ⟨⟨none,rfl⟩,eV⟩,?_,trivial⟩
 show fK _ _ RG (ab (rc zy)) _
 rw[di]
 refine .inr ⟨gl,0,2,ni,30,(0,0),rfl,⟨by decide,by decide⟩,trivial,h,(k0 rfl).2 ⟨Z4,[],[],?_,rfl⟩⟩
 show ni.toList=[]++[.int .i64 4,.int .i64 0,.string (az (aa (cT lN))),.slice none 0 0,.slice none 0 0,.int .i64 4,.int .i64 0,.string (az (aa (cT KW))),.slice none 0 0,.slice none 0 0]++[]
 rw[fj,fj];rfl
theorem Yy:bd (bR E9.args) [0,rc zy]:=⟨by decide,C6,eJ _,sH (sh:=RG) rfl (by decide) Z4,trivial⟩
theorem asQ {wb:World} (h:eW wb wx) {gl:Nat} {w:World} (hw:wb.Extends w) (hl:w.heap[gl]?=some (.cells ni 30 (0,0))):Calls Tryz.prog 41 #[zG gl] w λe w2=>w.Extends w2/\e= .returned (.bool true):=by
 refine(h.2 (λ_=>True) w [.int .i64 5,.int .i64 0,.string ⟨#[]⟩,.slice none 0 0,.slice (some ⟨gl,0,none⟩) 2 2] [0,rc zy] hw Yy ?_ (Zu hl)).mono ?_
 ·show ab 0=[]/\∀row∈ab (rc zy),iA (row.getD 2 0)
  rw[di]
  refine⟨eV,λrow hr=>?_⟩
  simp only[List.mem_cons,List.not_mem_nil,or_false]at hr
  rcases hr with rfl|rfl<;>(intro b hb;replace hb:b∈aa (cT _):=hb;rw[fj]at hb;revert b hb;decide)
 ·rintro e w2 ⟨hx2,rs,us,hb,hsp,hat,rfl⟩
  match rs,hb,us,hat with
  |[r],hb,[u],hat=>
   have hsp:r=1:=hsp
   have hat:u= .bool (decide (r=1)):=hat.1
   subst hat hsp
   exact⟨hx2,rfl⟩
theorem agu {wb:World} (h:eW wb wu) {gl:Nat} {w:World} (hw:wb.Extends w) (hl:w.heap[gl]?=some (.cells ni 30 (0,0))):Calls Tryz.prog 43 #[zG gl] w λe w2=>w.Extends w2/\e= .returned (.int .i64 1):=by
 refine(h.2 (λ_=>True) w [.int .i64 5,.int .i64 0,.string ⟨#[]⟩,.slice none 0 0,.slice (some ⟨gl,0,none⟩) 2 2] [0,rc zy] hw Yy trivial (Zu hl)).mono ?_
 rintro e w2 ⟨hx2,rs,us,hb,hsp,hat,rfl⟩
 match rs,hb,us,hat with
 |[r],hb,[u],hat=>
  have hsp:r=1:=hsp
  have hat:u= .int .i64 r:=hat.1
  subst hat hsp
  exact⟨hx2,rfl⟩
theorem Zk {w:World} {t:au}:fT (λ_=>True) (λ_=>False) w Fa.args [4,0,cT t,0,0] [sr (az t)]:=by
 refine⟨?_,trivial⟩
 show sr (az t)= .agg #[.int .i64 4,.int .i64 0,.string (az (aa (cT t))),.slice none 0 0,.slice none 0 0]
 rw[fj]
theorem Yz {t:au} (ht:t.length<=dP):bd (bR Fa.args) [4,0,cT t,0,0]:=⟨by decide,by decide,by decide,by decide,lD _,kY ht,by decide,by decide,by decide,by decide,trivial⟩
theorem asS {wb:World} (h:eW wb sX) {t:au} (ht:t.length<=dP) (ha:∀b∈t,b<128) {w:World} (hw:wb.Extends w):Calls Tryz.prog 41 #[sr (az t)] w λe w2=>w.Extends w2/\e= .returned (.bool true):=by
 refine(h.2 (λ_=>True) w [sr (az t)] [4,0,cT t,0,0] hw (Yz ht) (show iA (cT t) by unfold iA;rw[fj];exact ha) Zk).mono ?_
 rintro e w2 ⟨hx2,rs,us,hb,hsp,hat,rfl⟩
 match rs,hb,us,hat with
 |[r],hb,[u],hat=>
  have hsp:r=1:=hsp
  have hat:u= .bool (decide (r=1)):=hat.1
  subst hat hsp
  exact⟨hx2,rfl⟩
theorem agv {wb:World} (h:eW wb wv) {t:au} (ht:t.length<=dP) {w:World} (hw:wb.Extends w):Calls Tryz.prog 43 #[sr (az t)] w λe w2=>w.Extends w2/\e= .returned (.int .i64 0):=by
 refine(h.2 (λ_=>True) w [sr (az t)] [4,0,cT t,0,0] hw (Yz ht) trivial Zk).mono ?_
 rintro e w2 ⟨hx2,rs,us,hb,hsp,hat,rfl⟩
 match rs,hb,us,hat with
 |[r],hb,[u],hat=>
  have hsp:r=0:=hsp
  have hat:u= .int .i64 r:=hat.1
  subst hat hsp
  exact⟨hx2,rfl⟩
end Go.aX
namespace Go.aX
open Go Go.aW Go.Proofs Go.RowKit
theorem asb {l:List au} {t:au} {i f:Int} (h:Ag l t i f) (hp:l.Pairwise (λa b=>Op.bytesLess a b=true)) (hl:∀x∈l,Op.bytesLess x t=true):i=l.length/\f≠1:=by
 obtain⟨⟨h0,h1⟩,h2,h3⟩:=h
 obtain⟨-,h4,-⟩:=h3 hp
 have hi:i=l.length:=by
  rcases Int.lt_or_le i l.length with h|h
  ·obtain⟨k,rfl⟩:=Int.eq_ofNat_of_zero_le h0
   have hk:k<l.length:=by omega
   have e:=h4 k (Int.le_refl _) hk
   rw[List.getD_eq_getElem?_getD,List.getElem?_eq_getElem hk]at e
   have:=hl _ (List.getElem_mem hk)
   simp only[Option.getD_some]at e
   rw[this]at e;cases e
  ·omega
 exact⟨hi,λe=>by have:=h2 e;omega⟩
theorem YY {wb:World} (h:du wb qV) {ns:List au} {t:au} (hn:∀x∈ns,x.length<=dP) (ht:t.length<=dP) (hl:ns.length<=1000) (hp:ns.Pairwise (λa b=>Op.bytesLess a b=true)) (Jh:∀x∈ns,Op.bytesLess x t=true) {w:World} {v:Value} (hw:wb.Extends w) (hv:fK (λ_=>True) w [.str] (ns.map λx=>[cT x]) v):
 Calls Tryz.prog 70 #[v,.string (az t)] w λe w2=>w.Extends w2/\e= .returned (.tuple #[.int .i64 ns.length,.bool false]):=by
 have bg:∀row∈ns.map λx=>[cT x],bD [.str] row:=λrow hr=>by
  obtain⟨x,hx,rfl⟩:=List.mem_map.1 hr
  exact⟨⟨lD _,kY (hn x hx)⟩,trivial⟩
 refine(h.2 (λ_=>True) w [v,.string (az t)] [rc (ns.map λx=>[cT x]),cT t] hw ⟨eJ _,sH (sh:=[.str]) rfl (by rw[List.length_map];omega) bg,lD _,kY ht,trivial⟩ trivial ⟨?_,?_,trivial⟩).mono ?_
 ·show fK _ _ _ (ab (rc _)) _
  rw[di];exact hv
 ·show Value.string (az t)= .string (az (aa (cT t)))
  rw[fj]
 ·rintro e w2 ⟨hx2,rs,us,hb,hsp,hat,rfl⟩
  match rs,hb,us,hat with
  |[i,f],hb,[u,u'],hat=>
   have hsp:Ag (bA (rc (ns.map λx=>[cT x]))) (aa (cT t)) i f:=hsp
   have pS:bA (rc (ns.map λx=>[cT x]))=ns:=by
    unfold bA;rw[di,List.map_map]
    conv=>rhs;rw[<-List.map_id ns]
    exact List.map_congr_left λx _=>fj x
   rw[pS,fj]at hsp
   obtain⟨e1,e2⟩:=asb hsp hp Jh
   obtain⟨h1,h2,_⟩:=hat
   have h1:u= .int .i64 i:=h1
   have h2:u'= .bool (decide (f=1)):=h2
   subst h1 h2 e1
   rw[decide_eq_false e2]
   exact⟨hx2,rfl⟩
theorem Wd:∀ns:List au,cG [.str] (ns.map λx=>[cT x])=ns.map λx=> .string (az x)
 |[]=>rfl
 |x::l=>by
  have e:cG [.str] ((x::l).map λx=>[cT x])= .string (az (aa (cT x)))::cG [.str] (l.map λx=>[cT x]):=rfl
  rw[e,fj,List.map_cons,Wd l]
theorem at1 {w0 w:World} {n:Nat} {ns:List au} {v:Value} (h:dJ 9 1 w0 w n (ns.map λx=> .string (az x)) v) (hn:ns.length=n) (hb:∀x∈ns,x.length<=dP):fK (λ_=>True) w [.str] (ns.map λx=>[cT x]) v:=by
 rcases h with⟨h0,p,h1⟩|⟨h0,g,C,cells,rest,h1,h2,h3,h4,h5,h6,h7⟩
 ·exact .inl ⟨⟨p,h1⟩,by rw[List.eq_nil_of_length_eq_zero (hn.trans h0)];rfl⟩
 ·refine .inr ⟨g,0,C,cells,9,(0,0),by rw[h1,List.length_map,hn],⟨by rw[List.length_map,hn];exact h6,h7⟩,trivial,h3,(k0 rfl).2 ⟨λrow hr=>?_,[],rest,?_,rfl⟩⟩
  ·obtain⟨x,hx,rfl⟩:=List.mem_map.1 hr
   exact⟨⟨lD _,kY (hb x hx)⟩,trivial⟩
  ·rw[h4,List.nil_append]
   congr 1
   exact(Wd ns).symm
end Go.aX
namespace Go.aX
open Go Go.aW Go.Proofs Go.RowKit
theorem atF {t:au} (h:e5 t=true):t.length<=64/\∀b∈t,b<128:=by
 unfold e5 at h
 simp only[Bool.and_eq_true]at h
 obtain⟨-,h1,h2,-⟩:=h
 refine⟨Nat.le_of_ble_eq_true h1,λb hb=>?_⟩
 unfold tA at h2
 have:=List.all_eq_true.1 h2 b hb
 simp only[Bool.and_eq_true]at this
 have h3:=Nat.le_of_ble_eq_true this.2
 exact UInt8.lt_iff_toNat_lt.2 (by have e:(128:UInt8).toNat=128:=rfl;rw[e];omega)
set_option maxHeartbeats 8000000 in
theorem agx {wb:World} (rX:bM wb r9) (hU:du wb tl) (yz:eW wb wx) (yA:eW wb sX) (yt:eW wb wu) (yu:eW wb wv) (wH:du wb qV) {c:Int} (hc:0<=c/\c<=b8) (hs:e5 (aa c)=true) {w:World} (hw:wb.Extends w):
 Calls Tryz.prog 16 #[.string (az (aa c))] w λe w'=>w.Extends w'/\∃u v gl,e= .returned (.tuple #[.agg #[.int .i64 6,.int .i64 0,.string ⟨#[]⟩,u,v],.int .i64 0])/\dJ 9 1 w w' 2 [.string fx,.string gV] u/\dJ 30 5 w w' 2 (q8 gl++CD (az (aa c))) v/\w'.heap[gl]?=some (.cells ni 30 (0,0)):=by
 have j2:=λw1 (hx:w.Extends w1)=>Kx rX hc (hw.trans hx)
 rw[hs]at j2
 obtain⟨hlen,ajH⟩:=atF hs
 have hm:(aa c).length<=dP:=by unfold dP;omega
 go_enter Tryz.func16,Tryz.ntmps16
 go_wp2_with (first
  |(go_at_call 14;refine(j2 _ ((World.Extends.refl w).alloc _)).mono ?_;rintro e w1 ⟨hx1,rfl⟩;have eb:Hid (w.Extends w1):=((World.Extends.refl w).alloc _).trans hx1;have r1:Hid _:=blk hx1 (heap_alloc_new w (.cells #[.int .i64 0,.int .i64 0,.string ⟨#[]⟩,.slice none 0 0,.slice none 0 0] 30)))
  |(go_at_call 25;refine(R2 _ _).mono ?_;rintro e w2 ⟨hx2,rfl⟩;have gP:Hid (w.Extends w2):=by first|exact gP.out.trans hx2|exact eb.out.trans hx2
    have r2:Hid (w2.heap[w.heap.size]?=some (.cells #[.int .i64 0,.int .i64 0,.string ⟨#[]⟩,.slice none 0 0,.slice none 0 0] 30 (0,0))):=by first|exact blk hx2 r2.out|exact blk hx2 r1.out))
 have hM:∀(gl lg:Nat) (W:World),w.Extends W->W.heap[gl]?=some (.cells ni 30 (0,0))->W.heap[lg]?=some (.cells #[.string fx,.int .i64 5,.int .i64 0,.string ⟨#[]⟩,.slice none 0 0,.slice (some ⟨gl,0,none⟩) 2 2,.string gV,.int .i64 4,.int .i64 0,.string (az (aa c)),.slice none 0 0,.slice none 0 0] 67 (0,0))->_:=λgl lg W hx hl hp=>by
  have wS:=hw.trans hx
  have Kl:∀u∈([]:List Value),u.oneCell'=true:=λ_ h=>by cases h
  exact aot lg gl (az (aa c)) W hp (λw1 h1=>asQ yz (wS.trans h1) (blk h1 hl)) (λw1 h1=>asS yA hm ajH (wS.trans h1)) (λw1 h1=>ab6 hU (n:=10) rfl (by omega) (by decide) (wS.trans h1)) (λw1 h1=>ab6 hU (n:=13) rfl (by omega) (by decide) (wS.trans h1))
   (λw1 h1=>agu yt (wS.trans h1) (blk h1 hl)) (λw1 h1=>agv yu hm (wS.trans h1))
   (λw1 h1=>aaz fx 5 0 ⟨#[]⟩ (.slice none 0 0) (.slice (some ⟨gl,0,none⟩) 2 2) (.slice none 0 0) (.slice none 0 0) 0 [] [] w1 (by omega) rfl rfl Kl Kl rfl rfl (.inl ⟨_,rfl,rfl⟩) (.inl ⟨_,rfl,rfl⟩) λw2 h2=>YY wH (ns:=[]) (t:=fx.data.toList) (λ_ h=>by cases h) (by decide) (by decide) .nil (λ_ h=>by cases h) ((wS.trans h1).trans h2) (.inl ⟨⟨_,rfl⟩,rfl⟩))
   (λw1 u v h1 hu hv=>aaz gV 4 0 (az (aa c)) (.slice none 0 0) (.slice none 0 0) u v 1 [.string fx] (q8 gl) w1 (by omega) rfl rfl (by decide) (by simp[q8,Value.oneCell']) rfl rfl hu.rd hv.rd λw2 h2=>YY wH (ns:=[fx.data.toList]) (t:=gV.data.toList) (by decide) (by decide) (by decide) (by simp) (by decide) ((wS.trans h1).trans h2) (at1 (ns:=[fx.data.toList]) (hu.ext h2) rfl (by decide)))
 have t2:(w2.alloc (.cells #[.int .i64 4,.int .i64 0,.string ⟨#[110,111,110,101]⟩,.slice none 0 0,.slice none 0 0,.int .i64 4,.int .i64 0,.string ⟨#[115,104,97,50,53,54]⟩,.slice none 0 0,.slice none 0 0] 30)).heap.size=w2.heap.size+1:=World.size_alloc _ _
 have Sk:w2.Extends ((w2.alloc (.cells #[.int .i64 4,.int .i64 0,.string ⟨#[110,111,110,101]⟩,.slice none 0 0,.slice none 0 0,.int .i64 4,.int .i64 0,.string ⟨#[115,104,97,50,53,54]⟩,.slice none 0 0,.slice none 0 0] 30)).alloc (.cells #[.int .i64 5,.int .i64 0,.string ⟨#[]⟩,.slice none 0 0,.slice (some ⟨w2.heap.size,0,none⟩) 2 2] 30)):=((World.Extends.refl w2).alloc _).alloc _
 have kc:Hid (w.Extends ((w2.alloc (.cells #[.int .i64 4,.int .i64 0,.string ⟨#[110,111,110,101]⟩,.slice none 0 0,.slice none 0 0,.int .i64 4,.int .i64 0,.string ⟨#[115,104,97,50,53,54]⟩,.slice none 0 0,.slice none 0 0] 30)).alloc (.cells #[.int .i64 5,.int .i64 0,.string ⟨#[]⟩,.slice none 0 0,.slice (some ⟨w2.heap.size,0,none⟩) 2 2] 30))):=gP.out.trans Sk
 have l3:Hid (((w2.alloc (.cells #[.int .i64 4,.int .i64 0,.string ⟨#[110,111,110,101]⟩,.slice none 0 0,.slice none 0 0,.int .i64 4,.int .i64 0,.string ⟨#[115,104,97,50,53,54]⟩,.slice none 0 0,.slice none 0 0] 30)).alloc (.cells #[.int .i64 5,.int .i64 0,.string ⟨#[]⟩,.slice none 0 0,.slice (some ⟨w2.heap.size,0,none⟩) 2 2] 30)).heap[w2.heap.size]?=some (.cells ni 30 (0,0))):=blk ((World.Extends.refl (w2.alloc (.cells #[.int .i64 4,.int .i64 0,.string ⟨#[110,111,110,101]⟩,.slice none 0 0,.slice none 0 0,.int .i64 4,.int .i64 0,.string ⟨#[115,104,97,50,53,54]⟩,.slice none 0 0,.slice none 0 0] 30))).alloc (.cells #[.int .i64 5,.int .i64 0,.string ⟨#[]⟩,.slice none 0 0,.slice (some ⟨w2.heap.size,0,none⟩) 2 2] 30)) (heap_alloc_new w2 (.cells ni 30))
 have r3:Hid _:=blk Sk r2.out
 have b3:=heap_alloc_new (w2.alloc (.cells #[.int .i64 4,.int .i64 0,.string ⟨#[110,111,110,101]⟩,.slice none 0 0,.slice none 0 0,.int .i64 4,.int .i64 0,.string ⟨#[115,104,97,50,53,54]⟩,.slice none 0 0,.slice none 0 0] 30)) (.cells #[.int .i64 5,.int .i64 0,.string ⟨#[]⟩,.slice none 0 0,.slice (some ⟨w2.heap.size,0,none⟩) 2 2] 30)
 rw[t2]at b3
 clear Sk t2
 generalize (w2.alloc (.cells #[.int .i64 4,.int .i64 0,.string ⟨#[110,111,110,101]⟩,.slice none 0 0,.slice none 0 0,.int .i64 4,.int .i64 0,.string ⟨#[115,104,97,50,53,54]⟩,.slice none 0 0,.slice none 0 0] 30)).alloc (.cells #[.int .i64 5,.int .i64 0,.string ⟨#[]⟩,.slice none 0 0,.slice (some ⟨w2.heap.size,0,none⟩) 2 2] 30)=w3 at*
 have b3:Hid _:=b3
 have hM:Hid _:=hM
 obtain⟨a0,a1,a2,a3,a4,_⟩:=fq b3.out
 go_region_with (first
  |(go_at_call 25;refine(R2 _ _).mono ?_;rintro e w4 ⟨ir,rfl⟩
    have iv:w3.Extends w4:=by first|exact ir|exact(World.Extends.refl w3).drew.trans ir
    obtain⟨bW,c1,c2,c3,c4,_⟩:=fq (blk iv b3.out))
  |(go_at_call 36;have Si:=(World.Extends.refl w4).alloc (.cells #[.string fx,.int .i64 5,.int .i64 0,.string ⟨#[]⟩,.slice none 0 0,.slice (some ⟨w2.heap.size,0,none⟩) 2 2,.string gV,.int .i64 4,.int .i64 0,.string (az (aa c)),.slice none 0 0,.slice none 0 0] 67)
    refine(hM.out w2.heap.size w4.heap.size _ ((kc.out.trans iv).trans Si) (blk Si (blk iv l3.out)) (heap_alloc_new w4 (.cells #[.string fx,.int .i64 5,.int .i64 0,.string ⟨#[]⟩,.slice none 0 0,.slice (some ⟨w2.heap.size,0,none⟩) 2 2,.string gV,.int .i64 4,.int .i64 0,.string (az (aa c)),.slice none 0 0,.slice none 0 0] 67))).mono ?_;rintro e fG ⟨o9,u,v,rfl,hu,hv⟩
    obtain⟨p1,k1,rfl⟩:=hu.form
    obtain⟨aJ,k2,rfl⟩:=hv.form
    have gg:=Si.trans o9
    have cw:=blk gg (blk iv r3.out)
    obtain⟨f0,f1,f2,f3,f4,g0,g1,g2,g3,g4⟩:=fq cw))
 all_goals
  have qX:w.heap.size<w3.heap.size:=(Array.getElem?_eq_some_iff.1 r3.out).1
  have nb:=((World.Extends.refl w4).alloc (.cells #[.string fx,.int .i64 5,.int .i64 0,.string ⟨#[]⟩,.slice none 0 0,.slice (some ⟨w2.heap.size,0,none⟩) 2 2,.string gV,.int .i64 4,.int .i64 0,.string (az (aa c)),.slice none 0 0,.slice none 0 0] 67)).size
  have n3:=iv.size
  have aoR:w2.heap.size≠w.heap.size:=λe=>by have h1:=(Array.getElem?_eq_some_iff.1 r2.out).1;omega
  have ph:∀g:Nat,(w4.alloc (.cells #[.string fx,.int .i64 5,.int .i64 0,.string ⟨#[]⟩,.slice none 0 0,.slice (some ⟨w2.heap.size,0,none⟩) 2 2,.string gV,.int .i64 4,.int .i64 0,.string (az (aa c)),.slice none 0 0,.slice none 0 0] 67)).heap.size<=g->g≠w.heap.size:=λg h=>by omega
  go_wp2
  exact bodyPost_ret (Ch (p:=2) (u:=3) (by kernel_rfl) rfl rfl (oy cw rfl _ _ _ _ _) rfl) rfl
   ⟨nY ((kc.out.trans iv).trans gg) (Nat.le_refl _) _ _ _ _ _,_,_,w2.heap.size,rfl,(hu.kept λg cs h1 h2=>(kB fG (g:=w.heap.size) (ph g h1) (.int .i64 6) (.int .i64 0) (.string ⟨#[]⟩) (.slice p1 2 k1) (.slice aJ 2 k2)).trans h2).from (Nat.le_trans (kc.out.trans iv).size nb),(hv.kept λg cs h1 h2=>(kB fG (g:=w.heap.size) (ph g h1) (.int .i64 6) (.int .i64 0) (.string ⟨#[]⟩) (.slice p1 2 k1) (.slice aJ 2 k2)).trans h2).from (Nat.le_trans (kc.out.trans iv).size nb),(kB fG (g:=w.heap.size) aoR (.int .i64 6) (.int .i64 0) (.string ⟨#[]⟩) (.slice p1 2 k1) (.slice aJ 2 k2)).trans (blk gg (blk iv l3.out))⟩
end Go.aX
namespace Go.aX
open Go Go.aW Go.Proofs Go.RowKit
def l5 (w:World) (g:Nat) (vs:List Value):Prop:=∀(j:Nat) (u:Value),vs[j]?=some u->w.cell? ⟨g,j,none⟩=some u
theorem l5.ext {w w':World} {g:Nat} {vs:List Value} (h:l5 w g vs) (hx:w.Extends w'):l5 w' g vs:=λj u hu=>pP hx (h j u hu)
theorem l5.of {w:World} {g:Nat} {cs:Array Value} {t:TypeId} {fz:Nat×Nat} (h:w.heap[g]?=some (.cells cs t fz)) {vs:List Value} {rest:List Value} (hc:cs.toList=vs++rest):l5 w g vs:=λj u hu=>by
 have:cs[j]?=some u:=by rw[<-Array.getElem?_toList,hc,List.getElem?_append_left (List.getElem?_eq_some_iff.1 hu).1];exact hu
 simp only[World.cell?,h,Option.isSome_none,Bool.false_eq_true,if_false];exact this
def sE (w:World) (t:au) (u v:Value):Prop:=∃g1 c1 g2 c2 gl,u= .slice (some ⟨g1,0,none⟩) 2 c1/\v= .slice (some ⟨g2,0,none⟩) 2 c2/\2<=c1/\2<=c2/\l5 w g1 [.string fx,.string gV]/\l5 w g2 (q8 gl++CD (az t))/\l5 w gl ni.toList
theorem sE.ext {w w':World} {t:au} {u v:Value} (h:sE w t u v) (hx:w.Extends w'):sE w' t u v:=by
 obtain⟨g1,c1,g2,c2,gl,h1,h2,h3,h4,h5,h6,h7⟩:=h
 exact⟨g1,c1,g2,c2,gl,h1,h2,h3,h4,h5.ext hx,h6.ext hx,h7.ext hx⟩
theorem sE.of {w0 w:World} {t:au} {u v:Value} {gl:Nat} (hu:dJ 9 1 w0 w 2 [.string fx,.string gV] u) (hv:dJ 30 5 w0 w 2 (q8 gl++CD (az t)) v) (hl:w.heap[gl]?=some (.cells ni 30 (0,0))):sE w t u v:=by
 rcases hu with⟨h0,_⟩|⟨_,g1,c1,cs1,r1,h1,_,h3,h4,_,h6,_⟩
 ·cases h0
 rcases hv with⟨h0,_⟩|⟨_,g2,c2,agh,r2,k1,_,k3,k4,_,mR,_⟩
 ·cases h0
 exact⟨g1,c1,g2,c2,gl,h1,k1,h6,mR,l5.of h3 h4,l5.of k3 k4,l5.of hl (rest:=[]) (by simp)⟩
theorem P7 (w:World) (x:ByteArray) (d:Nat):ru w (d+1) (sr x) (sr x):=
 ⟨4,0,x,none,0,0,none,0,0,none,0,none,0,rfl,rfl,⟨by omega,by omega,by omega,by omega,by omega,by omega⟩,λi hi=>by omega,λi hi=>by omega⟩
theorem l5.c5 {w:World} {g k:Nat} {vs:List Value} (h:l5 w g vs) {x0 x1 x2 x3 bL:Value} (h0:vs[k]?=some x0) (h1:vs[k+1]?=some x1) (h2:vs[k+2]?=some x2) (h3:vs[k+3]?=some x3) (h4:vs[k+4]?=some bL):Ae w ((⟨g,0,none⟩:Addr).add k) x0 x1 x2 x3 bL:=by
 rw[Addr.add_lit,Nat.zero_add]
 exact⟨h _ _ h0,h _ _ h1,h _ _ h2,h _ _ h3,h _ _ h4⟩
theorem anH {w:World} {gl Wt:Nat} (h:l5 w gl ni.toList) (h':l5 w Wt ni.toList):ru w 2 (zG gl) (zG Wt):=by
 refine⟨5,0,⟨#[]⟩,none,0,0,_,2,2,none,0,_,2,rfl,rfl,⟨by omega,by omega,by omega,by omega,by omega,by omega⟩,λi hi=>by omega,λi hi=>?_⟩
 obtain rfl|rfl:i=0∨i=1:=by omega
 ·exact⟨_,_,_,_,_,_,_,_,_,_,_,_,rfl,rfl,h.c5 (k:=0) rfl rfl rfl rfl rfl,h'.c5 (k:=0) rfl rfl rfl rfl rfl,P7 w _ 0⟩
 ·exact⟨_,_,_,_,_,_,_,_,_,_,_,_,rfl,rfl,h.c5 (k:=5) rfl rfl rfl rfl rfl,h'.c5 (k:=5) rfl rfl rfl rfl rfl,P7 w _ 0⟩
theorem atD {w:World} {t:au} {u v u' v':Value} (h:sE w t u v) (h':sE w t u' v'):ru w 3 (.agg #[.int .i64 6,.int .i64 0,.string ⟨#[]⟩,u,v]) (.agg #[.int .i64 6,.int .i64 0,.string ⟨#[]⟩,u',v']):=by
 obtain⟨g1,c1,g2,c2,gl,rfl,rfl,h3,h4,h5,h6,h7⟩:=h
 obtain⟨k1,d1,k2,d2,kl,rfl,rfl,j6,ml,nG,jI,amh⟩:=h'
 refine⟨6,0,⟨#[]⟩,_,2,c1,_,2,c2,_,d1,_,d2,rfl,rfl,⟨h3,j6,h4,ml,by omega,by omega⟩,λi hi=>?_,λi hi=>?_⟩
 ·obtain rfl|rfl:i=0∨i=1:=by omega
  ·exact⟨_,_,fx,rfl,rfl,by rw[Addr.add_lit];exact h5 0 _ rfl,by rw[Addr.add_lit];exact nG 0 _ rfl⟩
  ·exact⟨_,_,gV,rfl,rfl,by rw[Addr.add_lit];exact h5 1 _ rfl,by rw[Addr.add_lit];exact nG 1 _ rfl⟩
 ·obtain rfl|rfl:i=0∨i=1:=by omega
  ·exact⟨_,_,_,_,_,_,_,_,_,_,_,_,rfl,rfl,h6.c5 (k:=0) rfl rfl rfl rfl rfl,jI.c5 (k:=0) rfl rfl rfl rfl rfl,anH h7 amh⟩
  ·exact⟨_,_,_,_,_,_,_,_,_,_,_,_,rfl,rfl,h6.c5 (k:=5) rfl rfl rfl rfl rfl,jI.c5 (k:=5) rfl rfl rfl rfl rfl,P7 w _ 1⟩
set_option maxHeartbeats 8000000 in
theorem asH {wb:World} (uU:bM wb tn) {c:Int} (hc:0<=c/\c<=b8) (hs:e5 (aa c)=true) {w:World} (hw:wb.Extends w):
 Calls Tryz.prog 17 #[.string (az (aa c))] w λe w'=>w.Extends w'/\∃u v,e= .returned (.tuple #[.agg #[.int .i64 6,.int .i64 0,.string ⟨#[]⟩,u,v],.int .i64 0])/\sE w' (aa c) u v:=by
 have WV:=λw1 (hx:w.Extends w1)=>Rx uU hc (hw.trans hx)
 rw[hs]at WV
 go_enter Tryz.func17,Tryz.ntmps17
 go_wp2_with (first
  |(go_at_call 19;refine(WV _ ((World.Extends.refl w).alloc _)).mono ?_;rintro e w1 ⟨hx1,rfl⟩;have eb:Hid (w.Extends w1):=((World.Extends.refl w).alloc _).trans hx1;have r1:Hid _:=blk hx1 (heap_alloc_new w (.cells #[.int .i64 0,.int .i64 0,.string ⟨#[]⟩,.slice none 0 0,.slice none 0 0] 30)))
  |(go_at_call 27;with_reducible refine(R1 ⟨#[110,111,110,101]⟩ _).mono ?_;rintro e w2 ⟨hx2,rfl⟩
    have x2:Hid (w1.Extends w2):=((World.Extends.refl w1).alloc (.cells #[.string fx,.string gV] 9)).trans hx2
    have ad6:Hid (w2.heap[w1.heap.size]?=some (.cells #[.string fx,.string gV] 9 (0,0))):=blk hx2 (heap_alloc_new w1 (.cells #[.string fx,.string gV] 9)))
  |(go_at_call 27;with_reducible refine(R1 ⟨#[115,104,97,50,53,54]⟩ _).mono ?_;rintro e w3 ⟨hx3,rfl⟩
    have x3:Hid (w1.Extends w3):=x2.out.trans hx3
    have ad7:Hid _:=blk hx3 ad6.out)
  |(go_at_call 27;with_reducible refine(R1 (az (aa c)) _).mono ?_;rintro e w4 ⟨ir,rfl⟩
    have Sh:Hid (w3.Extends w4):=((World.Extends.refl w3).alloc (.cells ni 30)).trans ir
    have adZ:Hid (w4.heap[w3.heap.size]?=some (.cells ni 30 (0,0))):=blk ir (heap_alloc_new w3 (.cells ni 30))
    have bL:Hid (w1.Extends (w4.alloc (.cells #[.int .i64 5,.int .i64 0,.string ⟨#[]⟩,.slice none 0 0,.slice (some ⟨w3.heap.size,0,none⟩) 2 2,.int .i64 4,.int .i64 0,.string (az (aa c)),.slice none 0 0,.slice none 0 0] 30))):=(x3.out.trans Sh.out).trans ((World.Extends.refl w4).alloc (.cells #[.int .i64 5,.int .i64 0,.string ⟨#[]⟩,.slice none 0 0,.slice (some ⟨w3.heap.size,0,none⟩) 2 2,.int .i64 4,.int .i64 0,.string (az (aa c)),.slice none 0 0,.slice none 0 0] 30))
    have fN:=blk bL.out r1.out
    obtain⟨f0,f1,f2,f3,f4,g0,g1,g2,g3,g4⟩:=fq fN))
 have hn:w.heap.size<w1.heap.size:=(Array.getElem?_eq_some_iff.1 r1.out).1
 have ga:=x3.out.size
 have Wx:=Sh.out.size
 have ack:=(World.Extends.refl w4).alloc (.cells #[.int .i64 5,.int .i64 0,.string ⟨#[]⟩,.slice none 0 0,.slice (some ⟨w3.heap.size,0,none⟩) 2 2,.int .i64 4,.int .i64 0,.string (az (aa c)),.slice none 0 0,.slice none 0 0] 30)
 have ho:∀g o,g≠w.heap.size->(w4.alloc (.cells #[.int .i64 5,.int .i64 0,.string ⟨#[]⟩,.slice none 0 0,.slice (some ⟨w3.heap.size,0,none⟩) 2 2,.int .i64 4,.int .i64 0,.string (az (aa c)),.slice none 0 0,.slice none 0 0] 30)).heap[g]?=some o->((((((w4.alloc (.cells #[.int .i64 5,.int .i64 0,.string ⟨#[]⟩,.slice none 0 0,.slice (some ⟨w3.heap.size,0,none⟩) 2 2,.int .i64 4,.int .i64 0,.string (az (aa c)),.slice none 0 0,.slice none 0 0] 30)).setCell ⟨w.heap.size,0,none⟩ (.int .i64 6)).setCell ⟨w.heap.size,1,none⟩ (.int .i64 0)).setCell ⟨w.heap.size,2,none⟩ (.string ⟨#[]⟩)).setCell ⟨w.heap.size,3,none⟩ (.slice (some ⟨w1.heap.size,0,none⟩) 2 2)).setCell ⟨w.heap.size,4,none⟩ (.slice (some ⟨w4.heap.size,0,none⟩) 2 2)).heap[g]?=some o:=λg o h1 h2=>(kB _ h1 _ _ _ _ _).trans h2
 exact bodyPost_ret (Ch (p:=2) (u:=3) (by kernel_rfl) rfl rfl (oy fN rfl _ _ _ _ _) rfl) rfl ⟨nY (eb.out.trans bL.out) (Nat.le_refl _) _ _ _ _ _,_,_,rfl,w1.heap.size,2,w4.heap.size,2,w3.heap.size,rfl,rfl,Nat.le_refl _,Nat.le_refl _,
  l5.of (ho _ _ (by omega) (blk ack (blk Sh.out ad7.out))) (rest:=[]) rfl,l5.of (ho _ _ (by omega) (heap_alloc_new w4 (.cells #[.int .i64 5,.int .i64 0,.string ⟨#[]⟩,.slice none 0 0,.slice (some ⟨w3.heap.size,0,none⟩) 2 2,.int .i64 4,.int .i64 0,.string (az (aa c)),.slice none 0 0,.slice none 0 0] 30))) (rest:=[]) rfl,l5.of (ho _ _ (by omega) (blk ack adZ.out)) (rest:=[]) rfl⟩
end Go.aX
namespace Go.aX
open Go Go.aW Go.Proofs Go.RowKit
def pG (w:World) (t:au) (k hD:Int) (u v:Value):Prop:=(e5 t=true/\k=6/\hD=0/\sE w t u v)∨(e5 t=false/\k=0/\hD=1/\u= .slice none 0 0/\v= .slice none 0 0)
theorem pG.ext {w w':World} {t:au} {k hD:Int} {u v:Value} (h:pG w t k hD u v) (hx:w.Extends w'):pG w' t k hD u v:=
 h.imp (λ⟨a,b,c,d⟩=>⟨a,b,c,d.ext hx⟩) id
theorem pG.form {w:World} {t:au} {k hD:Int} {u v:Value} (h:pG w t k hD u v):∃p n c p' n' c',u= .slice p n c/\v= .slice p' n' c':=by
 rcases h with⟨_,_,_,g1,c1,g2,c2,gl,rfl,rfl,_⟩|⟨_,_,_,rfl,rfl⟩
 ·exact⟨_,_,_,_,_,_,rfl,rfl⟩
 ·exact⟨_,_,_,_,_,_,rfl,rfl⟩
theorem atE {w:World} {t:au} {k hD k' Iu:Int} {u v u' v':Value} (h:pG w t k hD u v) (h':pG w t k' Iu u' v'):Iu=hD/\ru w 3 (.agg #[.int .i64 k,.int .i64 0,.string ⟨#[]⟩,u,v]) (.agg #[.int .i64 k',.int .i64 0,.string ⟨#[]⟩,u',v']):=by
 rcases h with⟨a,rfl,rfl,d⟩|⟨a,rfl,rfl,rfl,rfl⟩<;>rcases h' with⟨a',rfl,rfl,d'⟩|⟨a',rfl,rfl,rfl,rfl⟩
 ·exact⟨rfl,atD d d'⟩
 ·rw[a]at a';cases a'
 ·rw[a]at a';cases a'
 ·exact⟨rfl,0,0,⟨#[]⟩,none,0,0,none,0,0,none,0,none,0,rfl,rfl,⟨by omega,by omega,by omega,by omega,by omega,by omega⟩,λi hi=>by omega,λi hi=>by omega⟩
set_option maxHeartbeats 8000000 in
theorem agw {wb:World} (rX:bM wb r9) (hU:du wb tl) (yz:eW wb wx) (yA:eW wb sX) (yt:eW wb wu) (yu:eW wb wv) (wH:du wb qV) {c:Int} (hc:0<=c/\c<=b8) {w:World} (hw:wb.Extends w):
 Calls Tryz.prog 16 #[.string (az (aa c))] w λe w'=>w.Extends w'/\∃k hD u v,e= .returned (.tuple #[.agg #[.int .i64 k,.int .i64 0,.string ⟨#[]⟩,u,v],.int .i64 hD])/\pG w' (aa c) k hD u v:=by
 cases hs:e5 (aa c)with
 |true=>
  refine(agx rX hU yz yA yt yu wH hc hs hw).mono ?_
  rintro e w' ⟨hx,u,v,gl,rfl,h1,h2,h3⟩
  exact⟨hx,6,0,u,v,rfl,.inl ⟨hs,rfl,rfl,sE.of h1 h2 h3⟩⟩
 |false=>
  have j2:=λw1 (hx:w.Extends w1)=>Kx rX hc (hw.trans hx)
  rw[hs]at j2
  go_enter Tryz.func16,Tryz.ntmps16
  go_wp2_with (go_at_call 14;refine(j2 _ ((World.Extends.refl w).alloc _)).mono ?_;rintro e w1 ⟨hx1,rfl⟩;have eb:=((World.Extends.refl w).alloc _).trans hx1;have r1:=blk hx1 (heap_alloc_new w (.cells #[.int .i64 0,.int .i64 0,.string ⟨#[]⟩,.slice none 0 0,.slice none 0 0] 30));obtain⟨f0,f1,f2,f3,f4,g0,g1,g2,g3,g4⟩:=fq r1)
  exact bodyPost_ret (Ch (p:=2) (u:=3) (by kernel_rfl) rfl rfl (oy r1 rfl _ _ _ _ _) rfl) rfl ⟨nY eb (Nat.le_refl _) _ _ _ _ _,0,1,_,_,rfl,.inr ⟨hs,rfl,rfl,rfl,rfl⟩⟩
set_option maxHeartbeats 8000000 in
theorem asG {wb:World} (uU:bM wb tn) {c:Int} (hc:0<=c/\c<=b8) {w:World} (hw:wb.Extends w):
 Calls Tryz.prog 17 #[.string (az (aa c))] w λe w'=>w.Extends w'/\∃k hD u v,e= .returned (.tuple #[.agg #[.int .i64 k,.int .i64 0,.string ⟨#[]⟩,u,v],.int .i64 hD])/\pG w' (aa c) k hD u v:=by
 cases hs:e5 (aa c)with
 |true=>
  refine(asH uU hc hs hw).mono ?_
  rintro e w' ⟨hx,u,v,rfl,h1⟩
  exact⟨hx,6,0,u,v,rfl,.inl ⟨hs,rfl,rfl,h1⟩⟩
 |false=>
  have j2:=λw1 (hx:w.Extends w1)=>Rx uU hc (hw.trans hx)
  rw[hs]at j2
  go_enter Tryz.func17,Tryz.ntmps17
  go_wp2_with (go_at_call 19;refine(j2 _ ((World.Extends.refl w).alloc _)).mono ?_;rintro e w1 ⟨hx1,rfl⟩;have eb:=((World.Extends.refl w).alloc _).trans hx1;have r1:=blk hx1 (heap_alloc_new w (.cells #[.int .i64 0,.int .i64 0,.string ⟨#[]⟩,.slice none 0 0,.slice none 0 0] 30));obtain⟨f0,f1,f2,f3,f4,g0,g1,g2,g3,g4⟩:=fq r1)
  exact bodyPost_ret (Ch (p:=2) (u:=3) (by kernel_rfl) rfl rfl (oy r1 rfl _ _ _ _ _) rfl) rfl ⟨nY eb (Nat.le_refl _) _ _ _ _ _,0,1,_,_,rfl,.inr ⟨hs,rfl,rfl,rfl,rfl⟩⟩
theorem W9 {wb:World} {k:cY} (hk:k=tk∨k=wX) (ag:du wb k) {p x y:Int} (hp:0<=p/\p<=b8) (hx:0<=x/\x<=b8) (hy:0<=y/\y<=b8) (Ql:(aa p).length<=2000) (j7:(aa x).length<=2000) (jJ:(aa y).length<=2000) {w:World} (hw:wb.Extends w):
 Calls Tryz.prog k.f #[.string (az (aa p)),.agg #[.string (az (aa x)),.string (az (aa y))]] w λe w2=>w.Extends w2/\e= .returned (.string (az (qJ (aa p) (aa x,aa y)))):=by
 have main:(∀z∈([p,x,y]:List Int),(aa z).length<=10000000):=λz hz=>by
  simp only[List.mem_cons,List.not_mem_nil,or_false]at hz
  rcases hz with rfl|rfl|rfl<;>omega
 rcases hk with rfl|rfl
 all_goals
  refine(ag.2 (λ_=>False) w [.string (az (aa p)),.agg #[.string (az (aa x)),.string (az (aa y))]] [p,x,y] hw ⟨hp.1,hp.2,hx.1,hx.2,hy.1,hy.2,trivial⟩ main ⟨rfl,rfl,trivial⟩).mono ?_
  rintro e w2 ⟨hx2,rs,us,hb,hs,ha,rfl⟩
  match rs,hb,us,ha with
  |[r],hb,[u],ha=>
   have hs:aa r=qJ (aa p) (aa x,aa y):=hs
   have ha:u= .string (az (aa r)):=ha.1
   subst ha
   exact⟨hx2,by rw[hs];rfl⟩
theorem aeU {wb:World} (h:du wb wW) {w:World} (hw:wb.Extends w):Calls Tryz.prog 7 #[] w λe w2=>w.Extends w2/\e= .returned (.bool true):=by
 refine(h.2 (λ_=>False) w [] [] hw trivial trivial trivial).mono ?_
 rintro e w2 ⟨hx2,rs,us,hb,hs,ha,rfl⟩
 match rs,hb,us,ha with
 |[r],hb,[u],ha=>
  have hs:r=1:=hs
  have ha:u= .bool (decide (r=1)):=ha.1
  subst ha hs
  exact⟨hx2,rfl⟩
set_option maxHeartbeats 8000000 in
theorem ani {wb:World} (dk:du wb wW) (OZ:du wb tk) (Ph:du wb wX) (rX:bM wb r9) (uU:bM wb tn) (hU:du wb tl) (yz:eW wb wx) (yA:eW wb sX) (yt:eW wb wu) (yu:eW wb wv) (wH:du wb qV)
 {p x y:Int} (hp:0<=p/\p<=b8) (hx:0<=x/\x<=b8) (hy:0<=y/\y<=b8) {w:World} (hw:wb.Extends w):
 Calls Tryz.prog 6 #[.string (az (aa p)),.agg #[.string (az (aa x)),.string (az (aa y))]] w λe w'=>w.Extends w'/\e= .returned (.bool true):=by
 have WA:=λw1 (h:w.Extends w1)=>aeU dk (hw.trans h)
 have WD:=λw1 (h:w.Extends w1)=>agw rX hU yz yA yt yu wH hp (hw.trans h)
 have WE:=λw1 (h:w.Extends w1)=>asG uU hp (hw.trans h)
 have Of:=λw1 (h:w.Extends w1)=>Kx rX hp (hw.trans h)
 have WU:=λw1 (h:w.Extends w1)=>Rx uU hp (hw.trans h)
 go_enter Tryz.func6,Tryz.ntmps6
 go_wp2_with (first
  |(go_at_call 7;refine(WA _ ((World.Extends.refl w).alloc _)).mono ?_;rintro e w1 ⟨hx1,rfl⟩
    have eb:Hid (w.Extends w1):=((World.Extends.refl w).alloc _).trans hx1
    have r1:w1.heap[w.heap.size]?=some (.cells #[.string (az (aa x)),.string (az (aa y))] 39 (0,0)):=blk hx1 (heap_alloc_new w (.cells #[.string (az (aa x)),.string (az (aa y))] 39))
    have bW:w1.cell? {block:=w.heap.size,off:=0}=some (.string (az (aa x))):=by simp[World.cell?,r1]
    have c1:w1.cell? {block:=w.heap.size,off:=1}=some (.string (az (aa y))):=by simp[World.cell?,r1])
  |(go_at_call 16;refine(WD _ eb.out).mono ?_;rintro e w2 ⟨hx2,k,hD,u,v,rfl,hd⟩;obtain⟨q1,n1,k1,q2,n2,k2,rfl,rfl⟩:=hd.form
    have hd:Hid (pG w2 (aa p) k hD (.slice q1 n1 k1) (.slice q2 n2 k2)):=hd
    have x2:Hid (w1.Extends (w2.alloc (.cells #[.int .i64 k,.int .i64 0,.string ⟨#[]⟩,.slice q1 n1 k1,.slice q2 n2 k2] 30))):=hx2.trans ((World.Extends.refl w2).alloc _)
    have a2:Hid ((w2.alloc (.cells #[.int .i64 k,.int .i64 0,.string ⟨#[]⟩,.slice q1 n1 k1,.slice q2 n2 k2] 30)).heap[w2.heap.size]?=some (.cells #[.int .i64 k,.int .i64 0,.string ⟨#[]⟩,.slice q1 n1 k1,.slice q2 n2 k2] 30 (0,0))):=heap_alloc_new w2 (.cells #[.int .i64 k,.int .i64 0,.string ⟨#[]⟩,.slice q1 n1 k1,.slice q2 n2 k2] 30))
  |(go_at_call 17;refine(WE _ (eb.out.trans x2.out)).mono ?_;rintro e w3 ⟨hx3,k',Iu,u',v',rfl,I3⟩;obtain⟨s1,dE,cm,s2,m2,eT,rfl,rfl⟩:=I3.form
    have I3:Hid (pG w3 (aa p) k' Iu (.slice s1 dE cm) (.slice s2 m2 eT)):=I3
    have a3:Hid (w3.heap[w2.heap.size]?=some (.cells #[.int .i64 k,.int .i64 0,.string ⟨#[]⟩,.slice q1 n1 k1,.slice q2 n2 k2] 30 (0,0))):=blk hx3 a2.out
    have d3:Hid (pG w3 (aa p) k hD (.slice q1 n1 k1) (.slice q2 n2 k2)):=pG.ext hd.out (((World.Extends.refl w2).alloc (.cells #[.int .i64 k,.int .i64 0,.string ⟨#[]⟩,.slice q1 n1 k1,.slice q2 n2 k2] 30)).trans hx3)))
 all_goals (first|(go_ret;exact⟨eb.out,rfl⟩)|skip)
 obtain⟨rfl,hS⟩:=atE d3.out I3.out
 have Ql:(aa p).length<=2000:=by have h:((az (aa p)).size:Int)<=2000:=by assumption
                                 rw[l6]at h;omega
 have jJ:(aa y).length<=2000:=by have h:((az (aa y)).size:Int)<=2000:=by assumption
                                 rw[l6]at h;omega
 have j7:(aa x).length<=2000:=by have h:(((az (aa p)).size:Int)<=2000/\((az (aa y)).size:Int)<=2000)/\((az (aa x)).size:Int)<=2000:=by assumption
                                 rw[l6 (aa x)]at h;omega
 have px:Hid (w.Extends (w3.alloc (.cells #[.int .i64 k',.int .i64 0,.string ⟨#[]⟩,.slice s1 dE cm,.slice s2 m2 eT] 30))):=(eb.out.trans (x2.out.trans hx3)).trans ((World.Extends.refl w3).alloc _)
 have H:Hid (∀cd:World,(w3.alloc (.cells #[.int .i64 k',.int .i64 0,.string ⟨#[]⟩,.slice s1 dE cm,.slice s2 m2 eT] 30)).Extends cd->cd.cell? {block:=w.heap.size,off:=0}=some (.string (az (aa x)))/\cd.cell? {block:=w.heap.size,off:=1}=some (.string (az (aa y)))/\cd.cell? {block:=w2.heap.size,off:=0}=some (.int .i64 k)/\cd.cell? {block:=w2.heap.size,off:=1}=some (.int .i64 0)/\cd.cell? {block:=w2.heap.size,off:=2}=some (.string ⟨#[]⟩)/\cd.cell? {block:=w2.heap.size,off:=3}=some (.slice q1 n1 k1)/\cd.cell? {block:=w2.heap.size,off:=4}=some (.slice q2 n2 k2)/\cd.cell? {block:=w3.heap.size,off:=0}=some (Value.int .i64 k')/\cd.cell? {block:=w3.heap.size,off:=1}=some (.int .i64 0)/\cd.cell? {block:=w3.heap.size,off:=2}=some (.string ⟨#[]⟩)/\cd.cell? {block:=w3.heap.size,off:=3}=some (.slice s1 dE cm)/\cd.cell? {block:=w3.heap.size,off:=4}=some (.slice s2 m2 eT)):=λcd h=>by
  have e1:=blk (((x2.out.trans hx3).trans ((World.Extends.refl w3).alloc _)).trans h) r1
  have e2:=fq (blk h (blk ((World.Extends.refl w3).alloc (.cells #[.int .i64 k',.int .i64 0,.string ⟨#[]⟩,.slice s1 dE cm,.slice s2 m2 eT] 30)) a3.out))
  have e3:=fq (blk h (heap_alloc_new w3 (.cells #[.int .i64 k',.int .i64 0,.string ⟨#[]⟩,.slice s1 dE cm,.slice s2 m2 eT] 30)))
  exact⟨by simp[World.cell?,e1],by simp[World.cell?,e1],e2.1,e2.2.1,e2.2.2.1,e2.2.2.2.1,e2.2.2.2.2.1,e3.1,e3.2.1,e3.2.2.1,e3.2.2.2.1,e3.2.2.2.2.1⟩
 have jj:Hid (∀cd,(w3.alloc (.cells #[.int .i64 k',.int .i64 0,.string ⟨#[]⟩,.slice s1 dE cm,.slice s2 m2 eT] 30)).Extends cd->Calls Tryz.prog 15 #[.string (az (aa p)),.agg #[.string (az (aa x)),.string (az (aa y))]] cd λe w2=>cd.Extends w2/\e= .returned (.string (az (qJ (aa p) (aa x,aa y))))):=λcd h=>W9 (.inl rfl) OZ hp hx hy Ql j7 jJ ((hw.trans px.out).trans h)
 have rK:Hid (∀cd,(w3.alloc (.cells #[.int .i64 k',.int .i64 0,.string ⟨#[]⟩,.slice s1 dE cm,.slice s2 m2 eT] 30)).Extends cd->Calls Tryz.prog 18 #[.string (az (aa p)),.agg #[.string (az (aa x)),.string (az (aa y))]] cd λe w2=>cd.Extends w2/\e= .returned (.string (az (qJ (aa p) (aa x,aa y))))):=λcd h=>W9 (.inr rfl) Ph hp hx hy Ql j7 jJ ((hw.trans px.out).trans h)
 have h11:Hid (∀cd,(w3.alloc (.cells #[.int .i64 k',.int .i64 0,.string ⟨#[]⟩,.slice s1 dE cm,.slice s2 m2 eT] 30)).Extends cd->_):=λcd h=>aeT (hS.ext (((World.Extends.refl w3).alloc _).trans h))
 have hE:Hid (∀cd,(w3.alloc (.cells #[.int .i64 k',.int .i64 0,.string ⟨#[]⟩,.slice s1 dE cm,.slice s2 m2 eT] 30)).Extends cd->_):=λcd h=>Of cd (px.out.trans h)
 have DR:Hid (∀cd,(w3.alloc (.cells #[.int .i64 k',.int .i64 0,.string ⟨#[]⟩,.slice s1 dE cm,.slice s2 m2 eT] 30)).Extends cd->_):=λcd h=>WU cd (px.out.trans h)
 clear WA WD WE Of WU bW c1 hS r1 hx1 hx2 hx3
 go_region_held3 (λcd=>cd.cell? {block:=w.heap.size,off:=0}=some (.string (az (aa x)))/\cd.cell? {block:=w.heap.size,off:=1}=some (.string (az (aa y)))/\cd.cell? {block:=w2.heap.size,off:=0}=some (.int .i64 k)/\cd.cell? {block:=w2.heap.size,off:=1}=some (.int .i64 0)/\cd.cell? {block:=w2.heap.size,off:=2}=some (.string ⟨#[]⟩)/\cd.cell? {block:=w2.heap.size,off:=3}=some (.slice q1 n1 k1)/\cd.cell? {block:=w2.heap.size,off:=4}=some (.slice q2 n2 k2)/\cd.cell? {block:=w3.heap.size,off:=0}=some (Value.int .i64 k')/\cd.cell? {block:=w3.heap.size,off:=1}=some (.int .i64 0)/\cd.cell? {block:=w3.heap.size,off:=2}=some (.string ⟨#[]⟩)/\cd.cell? {block:=w3.heap.size,off:=3}=some (.slice s1 dE cm)/\cd.cell? {block:=w3.heap.size,off:=4}=some (.slice s2 m2 eT)) (first|exact H.out _ ak.out|exact H.out _ z7.out|exact H.out _ aq.out|exact H.out _ z5.out|exact H.out _ z4.out|exact H.out _ (World.Extends.refl _).drew) (first
  |(go_at_call 15;refine(jj.out _ (World.Extends.refl _).drew).mono ?_;rintro e w4 ⟨ir,rfl⟩;have z4:Hid ((w3.alloc (.cells #[.int .i64 k',.int .i64 0,.string ⟨#[]⟩,.slice s1 dE cm,.slice s2 m2 eT] 30)).Extends w4):=(World.Extends.refl (w3.alloc (.cells #[.int .i64 k',.int .i64 0,.string ⟨#[]⟩,.slice s1 dE cm,.slice s2 m2 eT] 30))).drew.trans ir)
  |(go_at_call 18;refine(rK.out _ z4.out).mono ?_;rintro e fG ⟨o9,rfl⟩;have z5:Hid ((w3.alloc (.cells #[.int .i64 k',.int .i64 0,.string ⟨#[]⟩,.slice s1 dE cm,.slice s2 m2 eT] 30)).Extends fG):=z4.out.trans o9)
  |(go_at_call 11;refine(h11.out _ z5.out).mono ?_;rintro e dy ⟨oh,rfl⟩;have aq:Hid ((w3.alloc (.cells #[.int .i64 k',.int .i64 0,.string ⟨#[]⟩,.slice s1 dE cm,.slice s2 m2 eT] 30)).Extends dy):=z5.out.trans oh)
  |(go_at_call 14;refine(hE.out _ aq.out).mono ?_;rintro e ib ⟨qS,rfl⟩;have z7:Hid ((w3.alloc (.cells #[.int .i64 k',.int .i64 0,.string ⟨#[]⟩,.slice s1 dE cm,.slice s2 m2 eT] 30)).Extends ib):=aq.out.trans qS)
  |(go_at_call 19;refine(DR.out _ z7.out).mono ?_;rintro e gu ⟨Py,rfl⟩;have ak:Hid ((w3.alloc (.cells #[.int .i64 k',.int .i64 0,.string ⟨#[]⟩,.slice s1 dE cm,.slice s2 m2 eT] 30)).Extends gu):=z7.out.trans Py))
 go_wp2
 go_ret
 exact⟨px.out.trans ak.out,rfl⟩
theorem apC {wb:World} (dk:du wb wW) (OZ:du wb tk) (Ph:du wb wX) (rX:bM wb r9) (uU:bM wb tn) (hU:du wb tl) (yz:eW wb wx) (yA:eW wb sX) (yt:eW wb wu) (yu:eW wb wv) (wH:du wb qV):du wb YZ:=by
 refine⟨λargs w=>enters (by kernel_rfl) _ _,λF w vs zs hw hz gf hat=>?_⟩
 match zs,hz,vs,hat with
 |[p,x,y],hz,[v0,v1],hat=>
  obtain⟨h0,h1,_⟩:=hat
  have h0:v0= .string (az (aa p)):=h0
  have h1:v1= .agg #[.string (az (aa x)),.string (az (aa y))]:=h1
  subst h0 h1
  obtain⟨p0,p1,x0,x1,kU,eb,_⟩:=hz
  refine(ani dk OZ Ph rX uU hU yz yA yt yu wH ⟨p0,p1⟩ ⟨x0,x1⟩ ⟨kU,eb⟩ hw).mono ?_
  rintro e w' ⟨hx,rfl⟩
  exact⟨hx,[1],[.bool true],⟨by decide,by decide,trivial⟩,rfl,⟨rfl,trivial⟩,rfl⟩
end Go.aX
namespace Go.Proofs.YtiljgcomigmidaaGreatDoor
open Go Go.aW Go.aX Go.ChangeShapes Go.RowKit
theorem own:ownKnob Tryz.prog.godebug=none:=by kernel_rfl
theorem anL:laidOutB Tryz.prog=true:=by kernel_rfl
def laid:List (String×mB Unit):=[("unicode/utf8.acceptRanges",Rows.laid_unicode_utf8_acceptRanges),("vouchsafe/vouchsaferef07.roots",Rows.laid_vouchsafe_vouchsaferef07_roots),("vouchsafe/vouchsaferef07.begins",Rows.laid_vouchsafe_vouchsaferef07_begins),("vouchsafe/sha.roots",Rows.laid_vouchsafe_sha_roots),("vouchsafe/sha.begins",Rows.laid_vouchsafe_sha_begins),("unicode/utf8.first",Rows.laid_unicode_utf8_first)]
theorem Wi:Tryz.prog.globalNamed "vouchsafe/vouchsaferef07.roots" =some 3:=by kernel_rfl
theorem auz:(Tryz.prog.globals[3]?).map (·.type)=some 80:=by kernel_rfl
theorem avq:Tryz.prog.underlying 80=some (.array 80 79):=by kernel_rfl
theorem agM:Tryz.prog.underlying 79=some (.int .u64):=by kernel_rfl
theorem afR:Tryz.prog.cellsOf 79=1:=by kernel_rfl
theorem afE:Tryz.prog.cellsOf 80=80:=by kernel_rfl
theorem am1:(Rows.laid_vouchsafe_vouchsaferef07_roots:mB Unit)= .agg (si.map λz=> .lit (.int .u64 z)):=by kernel_rfl
theorem Wj:Tryz.prog.globalNamed "vouchsafe/vouchsaferef07.begins" =some 2:=by kernel_rfl
theorem auA:(Tryz.prog.globals[2]?).map (·.type)=some 88:=by kernel_rfl
theorem avr:Tryz.prog.underlying 88=some (.array 8 79):=by kernel_rfl
theorem agN:Tryz.prog.underlying 79=some (.int .u64):=by kernel_rfl
theorem afS:Tryz.prog.cellsOf 79=1:=by kernel_rfl
theorem afF:Tryz.prog.cellsOf 88=8:=by kernel_rfl
theorem am2:(Rows.laid_vouchsafe_vouchsaferef07_begins:mB Unit)= .agg (yc.map λz=> .lit (.int .u64 z)):=by kernel_rfl
theorem Wk:Tryz.prog.globalNamed "vouchsafe/sha.roots" =some 0:=by kernel_rfl
theorem auB:(Tryz.prog.globals[0]?).map (·.type)=some 80:=by kernel_rfl
theorem avs:Tryz.prog.underlying 80=some (.array 80 79):=by kernel_rfl
theorem agO:Tryz.prog.underlying 79=some (.int .u64):=by kernel_rfl
theorem afT:Tryz.prog.cellsOf 79=1:=by kernel_rfl
theorem afG:Tryz.prog.cellsOf 80=80:=by kernel_rfl
theorem am3:(Rows.laid_vouchsafe_sha_roots:mB Unit)= .agg (si.map λz=> .lit (.int .u64 z)):=by kernel_rfl
theorem Wl:Tryz.prog.globalNamed "vouchsafe/sha.begins" =some 1:=by kernel_rfl
theorem auC:(Tryz.prog.globals[1]?).map (·.type)=some 88:=by kernel_rfl
theorem avt:Tryz.prog.underlying 88=some (.array 8 79):=by kernel_rfl
theorem agP:Tryz.prog.underlying 79=some (.int .u64):=by kernel_rfl
theorem afU:Tryz.prog.cellsOf 79=1:=by kernel_rfl
theorem afH:Tryz.prog.cellsOf 88=8:=by kernel_rfl
theorem am4:(Rows.laid_vouchsafe_sha_begins:mB Unit)= .agg (yc.map λz=> .lit (.int .u64 z)):=by kernel_rfl
theorem ahz {W:ai} (h:laidMetH Tryz.prog laid W):eN b6 ⟨W,W,λ_=>False,λ_=>False,[]⟩:=by
 rw[aC9 _ _ _ (by kernel_rfl)]at h;obtain⟨ps,⟨_,_,_,_,_,_,_,_,_,_,⟨a0,b0,Vk,f0,p0,q0,hg0,Pn,hv0,OF,⟨a1,b1,cs1,f1,p1,q1,hg1,ale,oe,wM,⟨a2,b2,agh,f2,aJ,q2,yG,Po,hv2,uN,⟨a3,b3,aAf,f3,bb,q3,hg3,alf,alq,Xo,⟨_,_,_,_,_,_,_,_,_,_,_,_⟩,_⟩,_⟩,_⟩,_⟩,_⟩,_,_⟩:=h;obtain rfl:=fQ (Wi.symm.trans hg0);obtain rfl:=fQ (auz.symm.trans Pn);rw[am1]at OF;have x0:=IL (zs:=si) Wi avq agM afR afE hv0 OF;obtain rfl:=fQ (Wj.symm.trans hg1);obtain rfl:=fQ (auA.symm.trans ale);rw[am2]at wM;have x1:=IL (zs:=yc) Wj avr agN afS afF oe wM;obtain rfl:=fQ (Wk.symm.trans yG);obtain rfl:=fQ (auB.symm.trans Po);rw[am3]at uN;have x2:=IL (zs:=si) Wk avs agO afT afG hv2 uN;obtain rfl:=fQ (Wl.symm.trans hg3);obtain rfl:=fQ (auC.symm.trans alf);rw[am4]at Xo;have x3:=IL (zs:=yc) Wl avt agP afU afH alq Xo;intro g cs hm;simp only[b6,List.mem_cons,cN,List.not_mem_nil,or_false]at hm;rcases hm with⟨rfl,rfl⟩|⟨rfl,rfl⟩|⟨rfl,rfl⟩|⟨rfl,rfl⟩
 ·rw[jf];exact x2
 ·rw[jf];exact x3
 ·rw[jf];exact x1
 ·rw[jf];exact x0
theorem am5:(laid.filter λx=>x.2.handleName?.isNone)=laid:=by kernel_rfl
theorem agA (os:Os) (args:Array ax):laidMetH Tryz.prog laid ((World.laidAll Tryz.prog os laid).forCall (λ_ _=>0) ⟨#[],args,[]⟩).memory:=
 laidMetH_of_parts3 (fuel:=8) (by rw[am5];exact laidMet_laidAll args (by kernel_rfl) (by kernel_rfl)) (by kernel_rfl) (by kernel_rfl)
theorem au0:Hr Tryz.prog 39 (.d (.mix [.str,.str])):=⟨.inl ⟨_,Tryz.underlying39⟩,by kernel_rfl,by kernel_rfl,rfl⟩
theorem au1:Hr Tryz.prog 9 (.d (.str)):=Tryz.underlying9
theorem cell0 {W:ai} (h:W.ShapedOpen Tryz.prog):∃m,W.cell? ⟨6,0,none⟩=some (.int .i64 m):=
 cell_of_shapedOpen_int (zero:=#[.int .i64 0]) (t:=3) h (of_decide_eq_true (by kernel_rfl)) (by kernel_rfl) rfl (by kernel_rfl) (by kernel_rfl) Tryz.underlying3
theorem aj4 {W:ai} {m:Int} (h:W.cell? ⟨6,0,none⟩=some (.int .i64 m)):6<W.heap.size:=by
 rcases Nat.lt_or_ge 6 W.heap.size with h0|h0
 ·exact h0
 ·have:W.heap[(6:Nat)]?=none:=Array.getElem?_eq_none h0;simp[World.cell?,this]at h
theorem aqt {id:Nat} (hid:id=689) (a:List (List Int)) (z:Int) (h:SB id a [[z]]):z=1:=by
 subst hid
 all_goals
  match a,h with
  |[],h=>first|exact h|exact h.elim
  |[_],h=>first|exact h|exact h.elim
  |[_,_],h=>first|exact h|exact h.elim
  |[_,_,_],h=>first|exact h|exact h.elim
  |_::_::_::_::_,h=>exact h.elim
structure adT (W:ai):Prop where
 Qc:du W wW
 JS:du W tk
 Q7:du W wX
 J1:bM W r9
 Sj:bM W tn
 Sd:du W tl
 PO:eW W wx
 JJ:eW W sX
 PM:eW W wu
 PN:eW W wv
 JK:du W qV
theorem aeY {W:ai} (h:W.ShapedOpen Tryz.prog) (hL:laidMetH Tryz.prog laid W):adT W:=by
 have hg:=ahz hL;obtain⟨m,hm⟩:=cell0 h;have y6:bM W nH:=apm;have abM:=aqi hg;have abP:=aqj hg;have auV:=aqk hg abM abP;have auG:=aqg hg abM abP;have afQ:=ao8 hg y6;have auF:=aqf hg;have agl:=apc hg y6;have Vl:=apd hg y6;have aqw:=apI hg y6;have PJ:=apo hg y6;have an1:=apF hg;have Va:ee W B8:=ao7 ⟨m,hm⟩ (aj4 hm);have auI:=aqh hg;have auE:=aqe hg;have akQ:=apl hg Va auI auF PJ;have abp:=ap8 hg Vl akQ auE PJ;have anO:=apE hg Va aqw auG;have agV:=apf hg auV agl anO afQ abp an1 y6;have auW:=aql hg;have awJ:=aqn hg Vl auW PJ abp;have asf:=apK hg;have agj:=apb hg y6;have J1:=apG hg asf agj;have GC:=aqo hg;have amj:=apt hg GC;have JJ:=apv hg GC;have JK:=apx hg;have aui:HC W BH:=aqc;have amp:HC W Bx:=apz;have agi:=apa hg;have agm:=ape hg;have amo:=apy hg JK agi agm aui amp;have amk:=apw hg GC amj JJ amo;have ami:=aps hg;have at4:=aqa hg;have ahp:=apg hg;have ahq:=aph hg;have ahr:=api hg;have ahs:=apj hg;have at5:=aqb hg at4;have ahy:=apk hg;have af5:=ao9 hg;have aeV:=ao3 hg ahy ahp ahq ahr ahs af5;have atU:=ap9 hg;have auv:=aqd hg at5 atU aeV;have alW:du W JM:=apn;have JS:=apA hg alW auv;have ar9:ee W KE:=apJ;have aos:=apH hg ar9 agV;have asR:=apO hg aos;have afv:=ao6 hg asR awJ;have afi:ee W KD:=ao5;have aff:=ao4 hg afv afi;have am0:eW W DO:=apB J1 aff amk;have Qc:=apD hg JS am0 ami;have asK:=apN hg;have Sj:=aqq hg;have mV:=apM hg;have atm:=ap2 hg mV;have atn:=ap5 hg mV;have ato:=ap6 hg mV;have atp:=ap7 hg mV;have ate:=apW hg mV;have atf:=apX hg mV;have atg:=apY hg mV;have ath:=apZ hg mV;have ati:=ap0 hg mV;have atj:=ap1 hg mV;have atk:=ap3 hg mV;have atl:=ap4 hg mV;have asV:=apQ hg atm atg atk mV;have asW:=apR hg ato atf atl mV;have asX:=apS hg atp ati atn mV;have asY:=apT hg ath atj ate mV;have ata:=apU hg;have atb:=apV hg asV asW asX asY ata mV;have asA:=apL hg atb;have Q7:=apP hg asA asK;have Sd:=aqm hg GC;have PO:=apu hg GC;have PM:=apq hg;have PN:=apr hg;exact⟨Qc,JS,Q7,J1,Sj,Sd,PO,JJ,PM,PN,JK⟩
end Go.Proofs.YtiljgcomigmidaaGreatDoor
