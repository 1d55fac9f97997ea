/- Pag: a part of the proof of statements of this seat. -/
import Derived.Test.YtiljgcomigmidaaGreatDoorPae
import Derived.Test.YtiljgcomigmidaaGreatDoorChunk
import Derived.Test.YtiljgcomigmidaaGreatDoorPac
import Derived.KernelRfl
import Derived.Shelf.Lay
import Derived.Shelf.LaySoft
import Derived.Shelf.Strings.Search1
import Derived.Shelf.Strings.Search3
import Derived.Shelf.Small.Strs
import Derived.Test.YtiljgcomigmidaaGreatDoorProg
import Derived.BigCall
import Derived.Lib.IndexMore
import Derived.Shelf.Strings.Builder1
import Derived.Test.YtiljgcomigmidaaGreatDoorPad
import Derived.WalkKit
import Derived.WideMake
import Derived.Laws.ResultCell
import Derived.Laws.Rows
import Derived.Lib.IndexAny
import Derived.OwnWalk
import Derived.Deep.RegionLaw
import Derived.Laws.CopyOwn
import Derived.Lib.Builder
import Derived.Lib.Overlaps
import Derived.Lib.AppendZerosOnto
import Derived.Maps.OwnSet
import Derived.Maps.Views
import Derived.OrdersHeld
import Derived.Deep.Cut
import Derived.Deep.RegionWith
import Derived.Shelf.Vars
import Derived.Test.YtiljgcomigmidaaGreatDoorRows
import Derived.Test.YtiljgcomigmidaaGreatDoorTie
import Derived.Test.YtiljgcomigmidaaGreatDoorCards
import Derived.SevenTiedAt
import Derived.Lay
open Eq renaming trans->cw,symm->cx
open Go renaming World->ai,Value->aA
open Go.MakeChecks renaming laidMetH_plain->azl
open List renaming map_map->kT
open Option.some renaming inj->gH
open Prod.mk renaming injEq->cv
set_option linter.unusedVariables false
set_option maxRecDepth 100000
namespace Go.bH
open Go Go.bg Go.Proofs
abbrev bq (wb:ai) (k:cf):Prop:=k.wV Tryz.prog wb (b7 sh SB k.id)
abbrev u5 (wb:ai) (q:kc):Prop:=q.dZ Tryz.prog wb (b7 sh SB q.c.id)
abbrev gW (wb:ai) (k:dx):Prop:=k.dZ Tryz.prog wb (b7 sh SB k.id)
abbrev Gu (wb:ai) (k:ka):Prop:=k.dZ Tryz.prog wb (b7 sh SB k.id)
abbrev kW (wb:ai) (k:eP):Prop:=k.dZ Tryz.prog wb (b7 sh SB k.c.id)
abbrev Gv (wb:ai) (k:jN):Prop:=k.dZ Tryz.prog wb (b7 sh SB k.c.id)
abbrev SA (wb:ai) (k:lA):Prop:=k.dZ Tryz.prog wb (b7 sh SB k.c.id)
theorem fC:Tryz.prog.follows .mixedOrders=true:=by kernel_rfl
theorem aR {α:Type} {p:α->Prop}:∀x∈([]:List α),p x:=λ_ h=>by cases h
theorem bR {α:Type} {p:α->Prop} {a:α} {l:List α} (h:p a) (hl:∀x∈l,p x):∀x∈a::l,p x:=λx hx=>by
 rcases List.mem_cons.1 hx with rfl|hx
 ·exact h
 ·exact hl x hx
abbrev cI (wb:ai):Prop:=eQ cj ⟨wb,wb,λ_=>False,λ_=>False,[]⟩
theorem gw {a b:Int} (h:[[a]]=[[b]]):a=b:=by simpa using h
section
variable {wb:ai} {S0:Nat->List (List Int)->List (List Int)->Prop} {cal:dY} {li:FuncId->Nat->Option cX} {n d:Nat} {lsh:Nat->List Nat} {lens:List Nat} {B:(Nat->List (List Int)->List (List Int)->Prop)->(List (List Int)->List (List Int)->Prop)->Prop}
theorem dO {c:cf} (cy:∀r ex ro,fq (b7 sh S0) Tryz.prog cj ⟨wb,r,ex,ro,[]⟩ cal) (hg:cI wb) (hf:qU Tryz.prog c.f=true) (hu:cY c.args c.res (b7 sh S0 c.id)) (hl:lens=(sh c.id).1) (hd:sE c.res=(sh c.id).2)
 (e:∀S K,tk sh lsh S K lens (dB c.args) c.res (c.tree Tryz.prog cj cal li n d)=B S K) (hp:B S0 (aX S0 c.res c.id)):c.wV Tryz.prog wb (b7 sh S0 c.id):=
 cf.dZ.f (am1 fC cy hg hf hu hl hd (by rw[e];exact hp))
theorem XD {q:kc} (cy:∀r ex ro,fq (b7 sh S0) Tryz.prog cj ⟨wb,r,ex,ro,[]⟩ cal) (hg:cI wb) (hf:qU Tryz.prog q.c.f=true) (hu:cY q.c.args q.c.res (b7 sh S0 q.c.id)) (hl:lens=(sh q.c.id).1) (hd:sE q.c.res=(sh q.c.id).2)
 (e:∀S K,tk sh lsh S K lens (dB q.c.args) q.c.res (q.tree Tryz.prog cj cal li n d)=B S K) (hp:B S0 (aX S0 q.c.res q.c.id)):q.dZ Tryz.prog wb (b7 sh S0 q.c.id):=
 ao0 fC cy hg hf hu hl hd (by rw[e];exact hp)
theorem rr {c:dx} {bc:hW} (cy:∀r ex ro,fq (b7 sh S0) Tryz.prog cj ⟨wb,r,ex,ro,[]⟩ cal) (hg:cI wb) (fS:∀(L:V->Env->Prop) (r:ai) (ro:Nat->Prop),l9 (b7 sh S0) L ⟨wb,r,λ_=>False,ro,[]⟩ Tryz.prog bc) (hf:qU Tryz.prog c.f=true) (hl:lens=(sh c.id).1) (hd:sD c.res=(sh c.id).2)
 (e:∀S K,ij sh lsh S K lens (cg c.args) c.res (c.tree bc Tryz.prog cj cal li n d)=B S K) (hp:B S0 (ev S0 c.res c.id)):c.dZ Tryz.prog wb (b7 sh S0 c.id):=
 acy fC cy hg fS hf hl hd (by rw[e];exact hp)
theorem Bt {c:eP} {bc:hW} (cy:∀r ex ro,fq (b7 sh S0) Tryz.prog cj ⟨wb,r,ex,ro,[]⟩ cal) (hg:cI wb) (fS:∀(L:V->Env->Prop) (r:ai) (ro:Nat->Prop),l9 (b7 sh S0) L ⟨wb,r,λ_=>False,ro,[]⟩ Tryz.prog bc) (hf:qU Tryz.prog c.c.f=true) (hl:lens=(sh c.c.id).1) (hd:sD c.c.res=(sh c.c.id).2)
 (e:∀S K,ij sh lsh S K lens (cg c.c.args) c.c.res (c.tree bc Tryz.prog cj cal li n d)=B S K) (hp:B S0 (ev S0 c.c.res c.c.id)):c.dZ Tryz.prog wb (b7 sh S0 c.c.id):=by
 refine eP.vT (li:=li) (rounds:=n) (d:=d) fC cy hg fS (enters hf) (rX λzs hz=>?_);have hv:ij sh lsh S0 (ev S0 c.c.res c.c.id) lens (cg c.c.args) c.c.res (c.tree bc Tryz.prog cj cal li n d):=by rw[e];exact hp
 have h:=kC (GC hv) hz;simp only[ev,B2]at h;rw[hl,hd]at h;exact h
end
theorem agy:K8 Tryz.prog 115:=⟨enters (by kernel_rfl),Tryz.ac7⟩
theorem rD {a0 b0:Int} (h0:U a0=U b0):eL [.str] [a0]=eL [.str] [b0]:=by
 show(.string (aL (U a0)):aA)=(.string (aL (U b0)):aA);rw[h0]
theorem jE {a0 b0:Int} (h0:a0=b0):eL [.bool] [a0]=eL [.bool] [b0]:=by
 show(.bool (decide (a0=1)):aA)=(.bool (decide (b0=1)):aA);rw[h0]
theorem Ql {a0 a1 a2 b0 b1 b2:Int} (h0:U a0=U b0) (h1:U a1=U b1) (h2:a2=b2):eL [.str,.str,.bool] [a0,a1,a2]=eL [.str,.str,.bool] [b0,b1,b2]:=by
 show(.tuple #[.string (aL (U a0)),.string (aL (U a1)),.bool (decide (a2=1))]:aA)=(.tuple #[.string (aL (U b0)),.string (aL (U b1)),.bool (decide (b2=1))]:aA);rw[h0,h1,h2]
theorem YU {a0 a1 a2 b0 b1 b2:Int} (h0:U a0=U b0) (h1:a1=b1) (h2:a2=b2):eL [.str,.bool,.bool] [a0,a1,a2]=eL [.str,.bool,.bool] [b0,b1,b2]:=by
 show(.tuple #[.string (aL (U a0)),.bool (decide (a1=1)),.bool (decide (a2=1))]:aA)=(.tuple #[.string (aL (U b0)),.bool (decide (b1=1)),.bool (decide (b2=1))]:aA);rw[h0,h1,h2]
theorem Ju {a0 a1 b0 b1:Int} (h0:U a0=U b0) (h1:a1=b1):eL [.str,.int .i64 0 21] [a0,a1]=eL [.str,.int .i64 0 21] [b0,b1]:=by
 show(.tuple #[.string (aL (U a0)),.int .i64 a1]:aA)=(.tuple #[.string (aL (U b0)),.int .i64 b1]:aA);rw[h0,h1]
theorem YV {a0 a1 a2 b0 b1 b2:Int} (h0:U a0=U b0) (h1:U a1=U b1) (h2:a2=b2):eL [.mix [.str,.str],.int .i64 0 21] [a0,a1,a2]=eL [.mix [.str,.str],.int .i64 0 21] [b0,b1,b2]:=by
 show(.tuple #[.agg #[.string (aL (U a0)),.string (aL (U a1))],.int .i64 a2]:aA)=(.tuple #[.agg #[.string (aL (U b0)),.string (aL (U b1))],.int .i64 b2]:aA);rw[h0,h1,h2]
theorem apQ {a0 b0:Int} (h0:a0=b0):eL [.int .i64 (-1) 9223372036854775807] [a0]=eL [.int .i64 (-1) 9223372036854775807] [b0]:=by
 show(.int .i64 a0:aA)=(.int .i64 b0:aA);rw[h0]
theorem apR {a0 b0:Int} (h0:a0=b0):eL [.int .i64 (-1) 1] [a0]=eL [.int .i64 (-1) 1] [b0]:=by
 show(.int .i64 a0:aA)=(.int .i64 b0:aA);rw[h0]
theorem apS {a0 b0:Int} (h0:a0=b0):eL [.int .i64 (-9223372036854775808) 9223372036854775807] [a0]=eL [.int .i64 (-9223372036854775808) 9223372036854775807] [b0]:=by
 show(.int .i64 a0:aA)=(.int .i64 b0:aA);rw[h0]
theorem Fl {a0 b0:Int} (h0:a0=b0):eL [.int .u32 0 4294967295] [a0]=eL [.int .u32 0 4294967295] [b0]:=by
 show(.int .u32 a0:aA)=(.int .u32 b0:aA);rw[h0]
theorem QU {A R:List D} {spec:List Int->List Int->Prop} (hl:(dB A).length=2) (hr:(dB R).length=1) (hv:∀a b:Int,U a=U b->eL R [a]=eL R [b]) (h:∀z0 ae a b:Int,spec [z0,ae] [a]->spec [z0,ae] [b]->U a=U b):cY A R spec:=λzs rs ff hz h1 h2 h3 h4=>by
 match zs,rs,ff,(gi hz).trans hl,(gi h1).trans hr,(gi h2).trans hr,h3,h4 with
 |[z0,ae],[a],[b],_,_,_,h3,h4=>exact hv a b (h z0 ae a b h3 h4)
theorem wu {A R:List D} {spec:List Int->List Int->Prop} (hl:(dB A).length=1) (hr:(dB R).length=1) (hv:∀a b:Int,U a=U b->eL R [a]=eL R [b]) (h:∀z0 a b:Int,spec [z0] [a]->spec [z0] [b]->U a=U b):cY A R spec:=λzs rs ff hz h1 h2 h3 h4=>by
 match zs,rs,ff,(gi hz).trans hl,(gi h1).trans hr,(gi h2).trans hr,h3,h4 with
 |[z0],[a],[b],_,_,_,h3,h4=>exact hv a b (h z0 a b h3 h4)
theorem kQ {A R:List D} {spec:List Int->List Int->Prop} (hl:(dB A).length=1) (hr:(dB R).length=1) (hv:∀a b:Int,a=b->eL R [a]=eL R [b]) (h:∀z0 a b:Int,spec [z0] [a]->spec [z0] [b]->a=b):cY A R spec:=λzs rs ff hz h1 h2 h3 h4=>by
 match zs,rs,ff,(gi hz).trans hl,(gi h1).trans hr,(gi h2).trans hr,h3,h4 with
 |[z0],[a],[b],_,_,_,h3,h4=>exact hv a b (h z0 a b h3 h4)
theorem Ca {A R:List D} {spec:List Int->List Int->Prop} (hl:(dB A).length=2) (hr:(dB R).length=1) (hv:∀a b:Int,a=b->eL R [a]=eL R [b]) (h:∀z0 ae a b:Int,spec [z0,ae] [a]->spec [z0,ae] [b]->a=b):cY A R spec:=λzs rs ff hz h1 h2 h3 h4=>by
 match zs,rs,ff,(gi hz).trans hl,(gi h1).trans hr,(gi h2).trans hr,h3,h4 with
 |[z0,ae],[a],[b],_,_,_,h3,h4=>exact hv a b (h z0 ae a b h3 h4)
theorem JN {A R:List D} {spec:List Int->List Int->Prop} (hl:(dB A).length=4) (hr:(dB R).length=1) (hv:∀a b:Int,a=b->eL R [a]=eL R [b]) (h:∀z0 ae z2 z3 a b:Int,spec [z0,ae,z2,z3] [a]->spec [z0,ae,z2,z3] [b]->a=b):cY A R spec:=λzs rs ff hz h1 h2 h3 h4=>by
 match zs,rs,ff,(gi hz).trans hl,(gi h1).trans hr,(gi h2).trans hr,h3,h4 with
 |[z0,ae,z2,z3],[a],[b],_,_,_,h3,h4=>exact hv a b (h z0 ae z2 z3 a b h3 h4)
theorem atK {A R:List D} {spec:List Int->List Int->Prop} (hl:(dB A).length=6) (hr:(dB R).length=1) (hv:∀a b:Int,a=b->eL R [a]=eL R [b]) (h:∀z0 ae z2 z3 z4 z5 a b:Int,spec [z0,ae,z2,z3,z4,z5] [a]->spec [z0,ae,z2,z3,z4,z5] [b]->a=b):cY A R spec:=λzs rs ff hz h1 h2 h3 h4=>by
 match zs,rs,ff,(gi hz).trans hl,(gi h1).trans hr,(gi h2).trans hr,h3,h4 with
 |[z0,ae,z2,z3,z4,z5],[a],[b],_,_,_,h3,h4=>exact hv a b (h z0 ae z2 z3 z4 z5 a b h3 h4)
theorem atD:cY vL.args vL.res (b7 sh SB 36):=QU rfl rfl (λ_ _=>rD) λ_ _ _ _ h h'=>cw h (cx h')
theorem amU {wb:ai} (hg:cI wb):bq wb vL:=dO (λ_ _ _=>cJ aR aR) hg (by kernel_rfl) atD rfl rfl asG aop
theorem atF:cY vM.args vM.res (b7 sh SB 37):=QU rfl rfl (λ_ _=>rD) λ_ _ _ _ h h'=>cw h (cx h')
theorem amW {wb:ai} (hg:cI wb):bq wb vM:=dO (λ_ _ _=>cJ aR aR) hg (by kernel_rfl) atF rfl rfl asI aor
theorem atG:cY Bh.args Bh.res (b7 sh SB 120):=wu rfl rfl (λ_ _=>rD) λ_ _ _ h h'=>cw h (cx h')
theorem amX {wb:ai} (hg:cI wb) (Nk:bq wb vL) (Nl:bq wb vM):bq wb Bh:=dO (λ_ _ _=>cJ aR (bR Nk (bR Nl aR))) hg (by kernel_rfl) atG rfl rfl asJ aos
theorem atB:cY Be.args Be.res (b7 sh SB 121):=wu rfl rfl (λ_ _=>rD) λ_ _ _ h h'=>cw h (cx h')
theorem amS {wb:ai} (hg:cI wb) (Nk:bq wb vL) (Nl:bq wb vM):bq wb Be:=dO (λ_ _ _=>cJ aR (bR Nk (bR Nl aR))) hg (by kernel_rfl) atB rfl rfl asE aon
theorem asV:cY AI.args AI.res (b7 sh SB 127):=kQ rfl rfl (λ_ _=>jE) λ_ _ _ h h'=>by first|exact cw h (cx h')|exact gw (cw h (cx h'))
theorem alQ {wb:ai} (hg:cI wb) (pq:bq wb nD):bq wb AI:=dO (λ_ _ _=>cJ aR (bR pq aR)) hg (by kernel_rfl) asV rfl rfl arH ano
theorem atA:cY Bd.args Bd.res (b7 sh SB 122):=wu rfl rfl (λ_ _=>rD) λ_ _ _ h h'=>cw h (cx h')
theorem amR {wb:ai} (hg:cI wb):bq wb Bd:=dO (λ_ _ _=>cJ aR aR) hg (by kernel_rfl) atA rfl rfl asD aom
theorem asY:cY AL.args AL.res (b7 sh SB 125):=by
 intro zs rs ff hz hr gQ h h'
 match zs,rs,ff,hz,hr,gQ,h,h' with
 |[z0],[a0,a1,a2],[b0,b1,b2],_,_,_,h,h'=>
  have e:(U a0,U a1,a2)=(U b0,U b1,b2):=cw h (cx h');simp only[cv]at e;exact Ql e.1 e.2.1 e.2.2
theorem alW {wb:ai} (hg:cI wb) (pq:bq wb nD):bq wb AL:=dO (λ_ _ _=>cJ aR (bR pq aR)) hg (by kernel_rfl) asY rfl rfl arM ant
theorem asZ:cY vH.args vH.res (b7 sh SB 126):=by
 intro zs rs ff hz hr gQ h h'
 match zs,rs,ff,hz,hr,gQ,h,h' with
 |[z0],[a0,a1,a2],[b0,b1,b2],_,_,_,h,h'=>
  have e:(U a0,U a1,a2)=(U b0,U b1,b2):=cw h (cx h');simp only[cv]at e;exact Ql e.1 e.2.1 e.2.2
theorem alX {wb:ai} (hg:cI wb) (pq:bq wb nD):bq wb vH:=dO (λ_ _ _=>cJ aR (bR pq aR)) hg (by kernel_rfl) asZ rfl rfl arN anu
theorem atf:cY AX.args AX.res (b7 sh SB 44):=Ca rfl rfl (λ_ _=>jE) λ_ _ _ _ h h'=>by first|exact cw h (cx h')|exact gw (cw h (cx h'))
theorem ams {wb:ai} (hg:cI wb) (pq:bq wb nD):bq wb AX:=dO (λ_ _ _=>cJ aR (bR pq aR)) hg (by kernel_rfl) atf rfl rfl ase anX
theorem as9:cY sx.args sx.res (b7 sh SB 65):=Ca rfl rfl (λ_ _=>jE) λ_ _ _ _ h h'=>by first|exact cw h (cx h')|exact gw (cw h (cx h'))
theorem ama {wb:ai} (hg:cI wb) (pq:bq wb nD):bq wb sx:=dO (λ_ _ _=>cJ aR (bR pq aR)) hg (by kernel_rfl) as9 rfl rfl arY anG
theorem atc:cY AU.args AU.res (b7 sh SB 28):=wu rfl rfl (λ_ _=>rD) λ_ _ _ h h'=>cw h (cx h')
theorem amp {wb:ai} (hg:cI wb):bq wb AU:=dO (λ_ _ _=>cJ aR aR) hg (by kernel_rfl) atc rfl rfl asb anT
theorem atq:cY A6.args A6.res (b7 sh SB 17):=wu rfl rfl (λ_ _=>rD) λ_ _ _ h h'=>cw h (cx h')
theorem amD {wb:ai} (hg:cI wb):bq wb A6:=dO (λ_ _ _=>cJ aR aR) hg (by kernel_rfl) atq rfl rfl asq an9
theorem atl:cY A2.args A2.res (b7 sh SB 31):=Ca rfl rfl (λ_ _=>jE) λ_ _ _ _ h h'=>by first|exact cw h (cx h')|exact gw (cw h (cx h'))
theorem amy {wb:ai} (hg:cI wb):bq wb A2:=dO (λ_ _ _=>cJ aR aR) hg (by kernel_rfl) atl rfl rfl asl an4
theorem atC:cY Bf.args Bf.res (b7 sh SB 123):=wu rfl rfl (λ_ _=>rD) λ_ _ _ h h'=>cw h (cx h')
theorem amT {wb:ai} (hg:cI wb):bq wb Bf:=dO (λ_ _ _=>cJ aR aR) hg (by kernel_rfl) atC rfl rfl asF aoo
theorem atz:cY Bc.args Bc.res (b7 sh SB 124):=wu rfl rfl (λ_ _=>rD) λ_ _ _ h h'=>cw h (cx h')
theorem amQ {wb:ai} (hg:cI wb):bq wb Bc:=dO (λ_ _ _=>cJ aR aR) hg (by kernel_rfl) atz rfl rfl asC aol
theorem as8:cY AP.args AP.res (b7 sh SB 47):=kQ rfl rfl (λ_ _=>jE) λ_ _ _ h h'=>by first|exact cw h (cx h')|exact gw (cw h (cx h'))
theorem al7 {wb:ai} (hg:cI wb) (Nd:u5 wb BJ) (af9:bq wb Bf) (af7:bq wb Bd) (DH:bq wb sx):bq wb AP:=dO (λ_ _ _=>cJ (bR Nd aR) (bR af9 (bR af7 (bR DH aR)))) hg (by kernel_rfl) as8 rfl rfl arX anF
theorem atw:cY vJ.args vJ.res (b7 sh SB 27):=kQ rfl rfl (λ_ _=>jE) λ_ _ _ h h'=>by first|exact cw h (cx h')|exact gw (cw h (cx h'))
theorem amJ {wb:ai} (hg:cI wb) (Ng:bq wb vH) (afz:bq wb AP) (af6:bq wb Bc) (DH:bq wb sx):bq wb vJ:=dO (λ_ _ _=>cJ aR (bR Ng (bR afz (bR af6 (bR DH aR))))) hg (by kernel_rfl) atw rfl rfl asw aof
theorem atb:cY AT.args AT.res (b7 sh SB 24):=kQ rfl rfl (λ_ _=>jE) λ_ _ _ h h'=>by first|exact cw h (cx h')|exact gw (cw h (cx h'))
theorem amo {wb:ai} (hg:cI wb) (Nd:u5 wb BJ) (afL:bq wb AX) (af8:bq wb Be):bq wb AT:=dO (λ_ _ _=>cJ (bR Nd aR) (bR afL (bR af8 aR))) hg (by kernel_rfl) atb rfl rfl asa anS
theorem atp:cY A5.args A5.res (b7 sh SB 29):=kQ rfl rfl (λ_ _=>jE) λ_ _ _ h h'=>by first|exact cw h (cx h')|exact gw (cw h (cx h'))
theorem amC {wb:ai} (hg:cI wb):bq wb A5:=dO (λ_ _ _=>cJ aR aR) hg (by kernel_rfl) atp rfl rfl asp an8
theorem atx:cY vK.args vK.res (b7 sh SB 50):=kQ rfl rfl (λ_ _=>jE) λ_ _ _ h h'=>by first|exact cw h (cx h')|exact gw (cw h (cx h'))
theorem amL {wb:ai} (hg:cI wb):bq wb vK:=dO (λ_ _ _=>cJ aR aR) hg (by kernel_rfl) atx rfl rfl asy aoh
theorem as7:cY AO.args AO.res (b7 sh SB 51):=kQ rfl rfl (λ_ _=>jE) λ_ _ _ h h'=>by first|exact cw h (cx h')|exact gw (cw h (cx h'))
theorem al6 {wb:ai} (hg:cI wb):bq wb AO:=dO (λ_ _ _=>cJ aR aR) hg (by kernel_rfl) as7 rfl rfl arW anE
theorem as0:cY sw.args sw.res (b7 sh SB 52):=kQ rfl rfl (λ_ _=>jE) λ_ _ _ h h'=>by first|exact cw h (cx h')|exact gw (cw h (cx h'))
theorem alZ {wb:ai} (hg:cI wb):bq wb sw:=dO (λ_ _ _=>cJ aR aR) hg (by kernel_rfl) as0 rfl rfl arP anw
theorem atm:cY vI.args vI.res (b7 sh SB 30):=kQ rfl rfl (λ_ _=>jE) λ_ _ _ h h'=>by first|exact cw h (cx h')|exact gw (cw h (cx h'))
theorem amz {wb:ai} (hg:cI wb) (Nj:bq wb vK) (afy:bq wb AO) (DG:bq wb sw):bq wb vI:=dO (λ_ _ _=>cJ aR (bR Nj (bR afy (bR DG aR)))) hg (by kernel_rfl) atm rfl rfl asm an5
theorem atj:cY A0.args A0.res (b7 sh SB 35):=by
 intro zs rs ff hz hr gQ h h'
 match zs,rs,ff,hz,hr,gQ,h,h' with
 |[z0],[a0,a1,a2],[b0,b1,b2],_,_,_,h,h'=>
  have h:(match iN (U z0)with|some (code,fX)=>U a0=code/\a1=aN (!fX.isEmpty)/\a2=1|none=>U a0=[]/\a1=0/\a2=0):=h;have h':(match iN (U z0)with|some (code,fX)=>U b0=code/\b1=aN (!fX.isEmpty)/\b2=1|none=>U b0=[]/\b1=0/\b2=0):=h';cases hc:iN (U z0)with
  |none=>rw[hc]at h h';exact YU (h.1.trans h'.1.symm) (h.2.1.trans h'.2.1.symm) (h.2.2.trans h'.2.2.symm)
  |some tA=>
   obtain⟨c,t⟩:=tA;rw[hc]at h h';exact YU (h.1.trans h'.1.symm) (h.2.1.trans h'.2.1.symm) (h.2.2.trans h'.2.2.symm)
theorem amw {wb:ai} (hg:cI wb):bq wb A0:=dO (λ_ _ _=>cJ aR aR) hg (by kernel_rfl) atj rfl rfl asi an2
theorem ats:cY EH.args EH.res (b7 sh SB 13):=by
 intro zs rs ff hz hr gQ h h'
 match zs,rs,ff,hz,hr,gQ,h,h' with
 |[z0,ae],[a0,a1],[b0,b1],_,_,_,h,h'=>
  have e:(U a0,a1)=(U b0,b1):=cw h (cx h');simp only[cv]at e;exact Ju e.1 e.2
theorem amF {wb:ai} (hg:cI wb) (afP:bq wb A0):u5 wb E4:=XD (q:=E4) (λ_ _ _=>cJ aR (bR afP aR)) hg (by kernel_rfl) ats rfl rfl ass aob
theorem atk:cY A1.args A1.res (b7 sh SB 11):=by
 intro zs rs ff hz hr gQ h h'
 match zs,rs,ff,hz,hr,gQ,h,h' with
 |[z0],[a0,a1],[b0,b1],_,_,_,h,h'=>
  have e:(U a0,a1)=(U b0,b1):=cw h (cx h');simp only[cv]at e;exact Ju e.1 e.2
theorem amx {wb:ai} (hg:cI wb) (afU:bq wb A5) (Nh:bq wb vI) (afR:bq wb A2) (afV:bq wb A6):bq wb A1:=dO (λ_ _ _=>cJ aR (bR afU (bR Nh (bR afR (bR afV aR))))) hg (by kernel_rfl) atk rfl rfl asj an3
theorem atE:cY Bg.args Bg.res (b7 sh SB 34):=QU rfl rfl (λ_ _=>rD) λ_ _ _ _ h h'=>cw h (cx h')
theorem amV {wb:ai} (hg:cI wb):bq wb Bg:=dO (λ_ _ _=>cJ aR aR) hg (by kernel_rfl) atE rfl rfl asH aoq
theorem as1:cY AN.args AN.res (b7 sh SB 10):=by
 intro zs rs ff hz hr gQ h h'
 match zs,rs,ff,hz,hr,gQ,h,h' with
 |[z0],[a0,a1],[b0,b1],_,_,_,h,h'=>
  have e:(U a0,a1)=(U b0,b1):=cw h (cx h');simp only[cv]at e;exact Ju e.1 e.2
theorem al0 {wb:ai} (hg:cI wb) (agb:bq wb Bh) (afv:bq wb AL) (afI:bq wb AT) (afq:bq wb AI) (Ni:bq wb vJ) (afJ:bq wb AU) (pq:bq wb nD):bq wb AN:=dO (λ_ _ _=>cJ aR (bR agb (bR afv (bR afI (bR afq (bR Ni (bR afJ (bR pq aR)))))))) hg (by kernel_rfl) as1 rfl rfl arQ anx
theorem ath:cY EG.args EG.res (b7 sh SB 12):=by
 intro zs rs ff hz hr gQ h h'
 match zs,rs,ff,hz,hr,gQ,h,h' with
 |[z0,ae],[a0,a1],[b0,b1],_,_,_,h,h'=>
  have e:(U a0,a1)=(U b0,b1):=cw h (cx h');simp only[cv]at e;exact Ju e.1 e.2
theorem amu {wb:ai} (hg:cI wb) (afs:bq wb Ir) (afn:bq wb Iq) (aga:bq wb Bg):u5 wb E3:=XD (q:=E3) (λ_ _ _=>cJ aR (bR afs (bR afn (bR aga aR)))) hg (by kernel_rfl) ath rfl rfl asg an0
theorem ate:cY AW.args AW.res (b7 sh SB 15):=by
 intro zs rs ff hz hr gQ h h'
 match zs,rs,ff,hz,hr,gQ,h,h' with
 |[z0,ae],[a0,a1,a2],[b0,b1,b2],_,_,_,h,h'=>
  have e:(U a0,U a1,a2)=(U b0,U b1,b2):=cw h (cx h');simp only[cv]at e;exact YV e.1 e.2.1 e.2.2
theorem amr {wb:ai} (hg:cI wb) (afN:u5 wb E3) (afx:bq wb AN):bq wb AW:=dO (λ_ _ _=>cJ (bR afN aR) (bR afx aR)) hg (by kernel_rfl) ate rfl rfl asd anV
theorem atr:cY A7.args A7.res (b7 sh SB 18):=by
 intro zs rs ff hz hr gQ h h'
 match zs,rs,ff,hz,hr,gQ,h,h' with
 |[z0,ae],[a0,a1,a2],[b0,b1,b2],_,_,_,h,h'=>
  have e:(U a0,U a1,a2)=(U b0,U b1,b2):=cw h (cx h');simp only[cv]at e;exact YV e.1 e.2.1 e.2.2
theorem amE {wb:ai} (hg:cI wb) (afX:u5 wb E4) (afQ:bq wb A1):bq wb A7:=dO (λ_ _ _=>cJ (bR afX aR) (bR afQ aR)) hg (by kernel_rfl) atr rfl rfl asr aoa
theorem atn:cY A3.args A3.res (b7 sh SB 16):=Ca rfl rfl (λ_ _=>jE) λ_ _ _ _ h h'=>by first|exact cw h (cx h')|exact gw (cw h (cx h'))
theorem amA {wb:ai} (hg:cI wb) (afK:bq wb AW):bq wb A3:=dO (λ_ _ _=>cJ aR (bR afK aR)) hg (by kernel_rfl) atn rfl rfl asn an6
theorem att:cY A8.args A8.res (b7 sh SB 19):=Ca rfl rfl (λ_ _=>jE) λ_ _ _ _ h h'=>by first|exact cw h (cx h')|exact gw (cw h (cx h'))
theorem amG {wb:ai} (hg:cI wb) (afW:bq wb A7):bq wb A8:=dO (λ_ _ _=>cJ aR (bR afW aR)) hg (by kernel_rfl) att rfl rfl ast aoc
theorem ata:cY AS.args AS.res (b7 sh SB 14):=JN rfl rfl (λ_ _=>jE) λ_ _ _ _ _ _ h h'=>by first|exact cw h (cx h')|exact gw (cw h (cx h'))
theorem amk {wb:ai} (hg:cI wb):bq wb AS:=dO (λ_ _ _=>cJ aR aR) hg (by kernel_rfl) ata rfl rfl ar6 anO
theorem ato:cY A4.args A4.res (b7 sh SB 21):=JN rfl rfl (λ_ _=>jE) λ_ _ _ _ _ _ h h'=>by first|exact cw h (cx h')|exact gw (cw h (cx h'))
theorem amB {wb:ai} (hg:cI wb):bq wb A4:=dO (λ_ _ _=>cJ aR aR) hg (by kernel_rfl) ato rfl rfl aso an7
theorem atH:cY Bi.args Bi.res (b7 sh SB 202):=wu rfl rfl (λ_ _=>rD) λ_ _ _ h h'=>cw h (cx h')
theorem amY {wb:ai} (hg:cI wb):bq wb Bi:=dO (λ_ _ _=>cJ aR aR) hg (by kernel_rfl) atH rfl rfl asK aot
theorem asW:cY vG.args vG.res (b7 sh SB 204):=kQ rfl rfl (λ_ _=>apQ) λ_ _ _ h h'=>by first|exact cw h (cx h')|exact gw (cw h (cx h'))
theorem alS {wb:ai} (hg:cI wb):bq wb vG:=dO (λ_ _ _=>cJ aR aR) hg (by kernel_rfl) asW rfl rfl arJ anq
theorem atu:cY A9.args A9.res (b7 sh SB 205):=kQ rfl rfl (λ_ _=>jE) λ_ _ _ h h'=>by first|exact cw h (cx h')|exact gw (cw h (cx h'))
theorem amH {wb:ai} (hg:cI wb) (Nf:bq wb vG) (Nh:bq wb vI) (DG:bq wb sw):bq wb A9:=dO (λ_ _ _=>cJ aR (bR Nf (bR Nh (bR DG aR)))) hg (by kernel_rfl) atu rfl rfl asu aod
theorem atg:cY AY.args AY.res (b7 sh SB 206):=by
 intro zs rs ff hz hr gQ h h'
 match zs,rs,ff,hz,hr,gQ,h,h' with
 |[z0,ae],[a0,a1,a2],[b0,b1,b2],_,_,_,h,h'=>
  have e:(U a0,U a1,a2)=(U b0,U b1,b2):=cw h (cx h');simp only[cv]at e;exact Ql e.1 e.2.1 e.2.2
theorem amt {wb:ai} (hg:cI wb) (Nf:bq wb vG) (afZ:bq wb A9):bq wb AY:=dO (λ_ _ _=>cJ aR (bR Nf (bR afZ aR))) hg (by kernel_rfl) atg rfl rfl asf anZ
theorem atv:cY Ba.args Ba.res (b7 sh SB 207):=kQ rfl rfl (λ_ _=>jE) λ_ _ _ h h'=>by first|exact cw h (cx h')|exact gw (cw h (cx h'))
theorem amI {wb:ai} (hg:cI wb) (afM:bq wb AY) (Nj:bq wb vK) (DG:bq wb sw):bq wb Ba:=dO (λ_ _ _=>cJ aR (bR afM (bR Nj (bR DG aR)))) hg (by kernel_rfl) atv rfl rfl asv aoe
theorem atI:cY Bj.args Bj.res (b7 sh SB 200):=kQ rfl rfl (λ_ _=>jE) λ_ _ _ h h'=>by first|exact cw h (cx h')|exact gw (cw h (cx h'))
theorem amZ {wb:ai} (hg:cI wb) (Ng:bq wb vH) (agc:bq wb Bi) (DH:bq wb sx) (Ni:bq wb vJ):bq wb Bj:=dO (λ_ _ _=>cJ aR (bR Ng (bR agc (bR DH (bR Ni aR))))) hg (by kernel_rfl) atI rfl rfl asL aou
theorem asU:cY AH.args AH.res (b7 sh SB 300):=JN rfl rfl (λ_ _=>jE) λ_ _ _ _ _ _ h h'=>by first|exact cw h (cx h')|exact gw (cw h (cx h'))
theorem alO {wb:ai} (hg:cI wb) (afS:bq wb A3) (agd:bq wb Bj):bq wb AH:=dO (λ_ _ _=>cJ aR (bR afS (bR agd aR))) hg (by kernel_rfl) asU rfl rfl arG ann
theorem asT:cY AG.args AG.res (b7 sh SB 301):=atK rfl rfl (λ_ _=>apR) λ_ _ _ _ _ _ _ _ h h'=>by first|exact cw h (cx h')|exact gw (cw h (cx h'))
theorem alN {wb:ai} (hg:cI wb) (afH:bq wb AS):bq wb AG:=dO (λ_ _ _=>cJ aR (bR afH aR)) hg (by kernel_rfl) asT rfl rfl arF anm
theorem alL {wb:ai} (hg:cI wb) (afp:bq wb AH) (afo:bq wb AG):gW wb AF:=rr (λ_ _ _=>cJ aR (bR afp (bR afo aR))) hg (λ_ _ _=>(kE aR)) (by kernel_rfl) rfl rfl arE anl
theorem atJ:cY Bk.args Bk.res (b7 sh SB 320):=JN rfl rfl (λ_ _=>jE) λ_ _ _ _ _ _ h h'=>by first|exact cw h (cx h')|exact gw (cw h (cx h'))
theorem am3 {wb:ai} (hg:cI wb) (afY:bq wb A8) (af0:bq wb Ba):bq wb Bk:=dO (λ_ _ _=>cJ aR (bR afY (bR af0 aR))) hg (by kernel_rfl) atJ rfl rfl asO aox
theorem am2 {wb:ai} (hg:cI wb) (age:bq wb Bk) (afT:bq wb A4):gW wb yi:=rr (λ_ _ _=>cJ aR (bR age (bR afT aR))) hg (λ_ _ _=>(kE aR)) (by kernel_rfl) rfl rfl asN aow
theorem ati:cY AZ.args AZ.res (b7 sh SB 400):=kQ rfl rfl (λ_ _=>jE) λ_ _ _ h h'=>by first|exact cw h (cx h')|exact gw (cw h (cx h'))
theorem amv {wb:ai} (hg:cI wb):bq wb AZ:=dO (λ_ _ _=>cJ aR aR) hg (by kernel_rfl) ati rfl rfl ash an1
theorem asX:cY AK.args AK.res (b7 sh SB 501):=kQ rfl rfl (λ_ _=>jE) λ_ _ _ h h'=>by first|exact cw h (cx h')|exact gw (cw h (cx h'))
theorem alV {wb:ai} (hg:cI wb) (pq:bq wb nD):bq wb AK:=dO (λ_ _ _=>cJ aR (bR pq aR)) hg (by kernel_rfl) asX rfl rfl arL ans
theorem atd:cY AV.args AV.res (b7 sh SB 670):=kQ rfl rfl (λ_ _=>jE) λ_ _ _ h h'=>by first|exact cw h (cx h')|exact gw (cw h (cx h'))
theorem amq {wb:ai} (hg:cI wb) (afO:bq wb AZ) (afu:bq wb AK):bq wb AV:=dO (λ_ _ _=>cJ aR (bR afO (bR afu aR))) hg (by kernel_rfl) atd rfl rfl asc anU
theorem am0 {wb:ai} (hg:cI wb):gW wb sy:=rr (λ_ _ _=>cJ aR aR) hg (λ_ _ _=>(kE aR)) (by kernel_rfl) rfl rfl asM aov
theorem amc {wb:ai} (hg:cI wb) (DI:gW wb sy):kW wb Hq:=Bt (λ_ _ _=>cJ aR aR) hg (λ_ _ _=>(kE (bR DI aR))) (by kernel_rfl) rfl rfl ar0 anI
theorem amd {wb:ai} (hg:cI wb) (DI:gW wb sy):kW wb Hr:=Bt (λ_ _ _=>cJ aR aR) hg (λ_ _ _=>(kE (bR DI aR))) (by kernel_rfl) rfl rfl ar1 anJ
theorem amf {wb:ai} (hg:cI wb):gW wb AQ:=rr (λ_ _ _=>cJ aR aR) hg (λ_ _ _=>(kE aR)) (by kernel_rfl) rfl rfl ar3 anL
theorem alU {wb:ai} (hg:cI wb):gW wb AJ:=rr (λ_ _ _=>cJ aR aR) hg (λ_ _ _=>(kE aR)) (by kernel_rfl) rfl rfl arK anr
theorem alY {wb:ai} (hg:cI wb):gW wb AM:=rr (λ_ _ _=>cJ aR aR) hg (λ_ _ _=>(kE aR)) (by kernel_rfl) rfl rfl arO anv
theorem amg {wb:ai} (hg:cI wb) (afD:gW wb AQ) (aft:gW wb AJ) (afw:gW wb AM) (af4:Gu wb eh) (afF:Gu wb eg):kW wb Hs:=Bt (λ_ _ _=>cJ aR aR) hg (λ_ _ _=>(Wv (kE (bR afD (bR aft (bR afw aR)))) (bR af4 (bR afF aR)))) (by kernel_rfl) rfl rfl ar4 anM
theorem ame {wb:ai} (hg:cI wb) (DI:gW wb sy) (afB:kW wb Hq) (afC:kW wb Hr) (afE:kW wb Hs):kW wb MG:=Bt (λ_ _ _=>cJ aR aR) hg (λ_ _ _=>(Dn (kE (bR DI aR)) (bR afB (bR afC (bR afE aR))))) (by kernel_rfl) rfl rfl ar2 anK
theorem amb {wb:ai} (hg:cI wb):kW wb xk:=Bt (λ_ _ _=>cJ aR aR) hg (λ_ _ _=>(kE aR)) (by kernel_rfl) rfl rfl arZ anH
theorem aty:cY Bb.args Bb.res (b7 sh SB 440):=Ca rfl rfl (λ_ _=>apS) λ_ _ _ _ h h'=>by first|exact cw h (cx h')|exact gw (cw h (cx h'))
theorem amM {wb:ai} (hg:cI wb):bq wb Bb:=dO (λ_ _ _=>cJ aR aR) hg (by kernel_rfl) aty rfl rfl asz aoi
theorem as2:cY uc.args uc.res (b7 sh SB 444):=kQ rfl rfl (λ_ _=>Fl) λ_ _ _ h h'=>by first|exact cw h (cx h')|exact gw (cw h (cx h'))
theorem al1 {wb:ai} (hg:cI wb):bq wb uc:=dO (λ_ _ _=>cJ aR aR) hg (by kernel_rfl) as2 rfl rfl arR anz
theorem as3:cY ud.args ud.res (b7 sh SB 445):=kQ rfl rfl (λ_ _=>Fl) λ_ _ _ h h'=>by first|exact cw h (cx h')|exact gw (cw h (cx h'))
theorem al2 {wb:ai} (hg:cI wb):bq wb ud:=dO (λ_ _ _=>cJ aR aR) hg (by kernel_rfl) as3 rfl rfl arS anA
theorem as4:cY ue.args ue.res (b7 sh SB 446):=kQ rfl rfl (λ_ _=>Fl) λ_ _ _ h h'=>by first|exact cw h (cx h')|exact gw (cw h (cx h'))
theorem al3 {wb:ai} (hg:cI wb):bq wb ue:=dO (λ_ _ _=>cJ aR aR) hg (by kernel_rfl) as4 rfl rfl arT anB
theorem as5:cY uf.args uf.res (b7 sh SB 447):=kQ rfl rfl (λ_ _=>Fl) λ_ _ _ h h'=>by first|exact cw h (cx h')|exact gw (cw h (cx h'))
theorem al4 {wb:ai} (hg:cI wb):bq wb uf:=dO (λ_ _ _=>cJ aR aR) hg (by kernel_rfl) as5 rfl rfl arU anC
theorem amN {wb:ai} (hg:cI wb) (af2:bq wb Bb):gW wb yh:=rr (λ_ _ _=>cJ aR (bR af2 aR)) hg (λ_ _ _=>(kE aR)) (by kernel_rfl) rfl rfl asA aoj
theorem as6:cY ug.args ug.res (b7 sh SB 466):=kQ rfl rfl (λ_ _=>Fl) λ_ _ _ h h'=>by first|exact cw h (cx h')|exact gw (cw h (cx h'))
theorem al5 {wb:ai} (hg:cI wb):bq wb ug:=dO (λ_ _ _=>cJ aR aR) hg (by kernel_rfl) as6 rfl rfl arV anD
theorem alR {wb:ai} (hg:cI wb):gW wb yf:=rr (λ_ _ _=>cJ aR aR) hg (λ_ _ _=>(kE aR)) (by kernel_rfl) rfl rfl arI anp
theorem alK {wb:ai} (hg:eQ cj ⟨wb,wb,λ_=>False,λ_=>False,[]⟩) (U9:bq wb ug) (U5:bq wb uc) (U6:bq wb ud) (U7:bq wb ue) (U8:bq wb uf) (afr:gW wb yf):SA wb yF:=by
 refine apu (SB:=SB) (sh:=sh) (p:=yF) (lsh:=Xt) (lens:=[1]) (inl:=(GW Tryz.prog cj (cD [] [ug,uc,ud,ue,uf]) (xa (iM [yf]) Tryz.prog cj (cD [] [ug,uc,ud,ue,uf]) IC 600 6) IC 600 [(1,0,0,4294967295),(1,1,0,4294967295),(1,2,0,4294967295),(1,3,0,4294967295),(1,4,0,4294967295),(1,5,0,4294967295),(1,6,0,4294967295),(1,7,0,4294967295)] 115)) (λL r ex ro=>acx agy fC (λ_ _ _=>cJ aR (bR U9 (bR U5 (bR U6 (bR U7 (bR U8 aR)))))) (λg cs h=>hg g cs h) (λr ex ro=>CW (w0:=⟨wb,r,ex,ro,[]⟩) rfl fC ((λ_ _ _=>cJ aR (bR U9 (bR U5 (bR U6 (bR U7 (bR U8 aR)))))) r ex ro) (λg cs h=>hg g cs h) (kE (bR afr aR)) 6) rfl) (by kernel_rfl) rfl rfl ?_;rw[show yF.c=Ip from rfl,arD];exact ank
theorem amK {wb:ai} (hg:eQ cj ⟨wb,wb,λ_=>False,λ_=>False,[]⟩):Gv wb yw:=by
 refine Yi (SB:=SB) (sh:=sh) (p:=yw) (bc:=(iM [])) (cal:=(cD [] [])) (li:=en) (rounds:=600) (d:=6) (lsh:=eo) (lens:=[1,1,1]) fC (λ_ _ _=>cJ aR aR) hg (λ_ _ _ _=>(kE aR)) (by kernel_rfl) rfl rfl ?_;rw[show yw.c=Iu from rfl,asx];exact aog
theorem amP {wb:ai} (hg:eQ cj ⟨wb,wb,λ_=>False,λ_=>False,[]⟩) (af3:gW wb yh) (af1:Gv wb yw) (afm:SA wb yF):Gv wb BE:=by
 refine Yi (SB:=SB) (sh:=sh) (p:=BE) (bc:=(E6 [yF] (uu [yw] (iM [yh])))) (cal:=(cD [] [])) (li:=en) (rounds:=600) (d:=6) (lsh:=eo) (lens:=[1,1,1]) fC (λ_ _ _=>cJ aR aR) hg (λ_ _ _ _=>(Yn (Ja (kE (bR af3 aR)) (bR af1 aR)) (bR afm aR))) (by kernel_rfl) rfl rfl ?_;rw[show BE.c=Iv from rfl,asB];exact aok
theorem ami {wb:ai} (hg:cI wb) (afA:gW wb Is) (af5:Gv wb BE):gW wb AR:=rr (λ_ _ _=>cJ aR aR) hg (λ_ _ _=>(Ja (kE (bR afA aR)) (bR af5 aR))) (by kernel_rfl) rfl rfl ar5 anN
theorem amm {wb:ai} (hg:cI wb) (afG:gW wb AR) (h_lLookN:kW wb vp) (h_jGet:kW wb xk):gW wb yg:=rr (λ_ _ _=>cJ aR aR) hg (λ_ _ _=>(Dn (kE (bR afG aR)) (bR h_lLookN (bR h_jGet aR)))) (by kernel_rfl) rfl rfl ar8 anQ
theorem amn {wb:ai} (hg:cI wb):kW wb Dm:=Bt (λ_ _ _=>cJ aR aR) hg (λ_ _ _=>(kE aR)) (by kernel_rfl) rfl rfl ar9 anR
theorem aml {wb:ai} (hg:cI wb) (h_lkalive:gW wb yg) (h_xR:gW wb yi) (h_lkgreat:kW wb Dm) (h_lLookN:kW wb vp) (h_jGet:kW wb xk):gW wb EF:=rr (λ_ _ _=>cJ aR aR) hg (λ_ _ _=>(Dn (kE (bR h_lkalive (bR h_xR aR))) (bR h_lkgreat (bR h_lLookN (bR h_jGet aR))))) (by kernel_rfl) rfl rfl ar7 anP
end Go.bH
namespace Go.Proofs
open Go.Shelf Go.RowKit
shelf_lay Lays.n137 Nm 137 at Tryz as Tryz.ajz
theorem Tryz.strings_IndexByte (s:ByteArray) (c:Int) (w:World):
 Calls Tryz.prog 164 #[.string s,.int .u8 c] w λe w'=>e= .returned (.int .i64 (Lib.indexByte s.data.toList c.toNat.toUInt8))/\w'=w:=Any.strings_IndexByte Tryz.ajz s c w
shelf_lay Lays.n144 Nm 144 at Tryz as Tryz.ajA
theorem Tryz.strings_Contains (s sub:ByteArray) (m:Int) (w:World) (hs:s.size<4294967281) (hm:w.cell? ⟨6,0,none⟩=some (.int .i64 m)):
 Calls Tryz.prog 33 #[.string s,.string sub] w λe w'=>e= .returned (.bool (Lib.contains s.data.toList sub.data.toList))/\w'=w:=Any.strings_Contains Tryz.ajA s sub m w hs hm
end Go.Proofs
namespace Go.bH
open Go Go.bg Go.Proofs Go.RowKit
theorem Da {w w':World} (h:Below w.heap.size w w'):w.Extends w':=
 ⟨h.os,h.tape,h.output,h.size,λa ha=>by unfold World.cell?;rw[h.block a.block ha],λa ha=>by unfold World.frozen?;rw[h.block a.block ha],h.block⟩
theorem al8 {wb:World}:bq wb nD:=by
 intro zs hz
 obtain⟨rs,h1,h2,h3⟩:=ais (wb:=wb) (f:=137) (id:=73) Tryz.func137 (by kernel_rfl) (by kernel_rfl) (by kernel_rfl) (by kernel_rfl) zs hz
 match zs,hz with
 |[s,c],hz=>
  refine⟨rs,h1,?_,h3⟩
  subst h2
  rfl
theorem ads (b:UInt8) (l:ax):dd (b::l)=((b==46&&l.getD 0 0==46)||dd l):=by
 unfold dd
 rw[List.length_cons,List.range_succ_eq_map,List.any_cons,List.any_map]
 rfl
theorem TK:∀l:ax,Lib.contains l [46,46]=dd l
 |[]=>rfl
 |b::l=>by
  have ih:=TK l
  unfold Lib.contains at ih⊢
  rw[ads,<-ih]
  have sym:∀x:UInt8,((46:UInt8)==x)=(x==46):=λx=>by rw[Bool.eq_iff_iff,beq_iff_eq,beq_iff_eq];exact eq_comm
  have hp:([46,46]:ax).isPrefixOf (b::l)=(b==46&&l.getD 0 0==46):=by
   cases l with
   |nil=>
    show((46:UInt8)==b&&false)=(b==46&&((0:UInt8)==46))
    rw[sym];rfl
   |cons c r=>
    show((46:UInt8)==b&&((46:UInt8)==c&&true))=(b==46&&c==46)
    rw[sym,sym,Bool.and_true]
  have he:Lib.index (b::l) [46,46]=if([46,46]:ax).isPrefixOf (b::l)=true then 0 else if(Lib.index l [46,46]==-1)=true then-1 else Lib.index l [46,46]+1:=rfl
  rw[he,hp]
  cases(b==46&&l.getD 0 0==46)with
  |true=>rfl
  |false=>
   rw[if_neg (by decide),Bool.false_or]
   by_cases he:(Lib.index l [46,46]==-1)=true
   ·rw[if_pos he]
    have:=beq_iff_eq.1 he
    rw[this]
   ·rw[if_neg he]
    have he:¬Lib.index l [46,46]=-1:=λe=>he (beq_iff_eq.2 e)
    have:=Lib.index_ge [46,46] l
    rw[Bool.eq_iff_iff,decide_eq_true_eq,decide_eq_true_eq]
    omega
theorem alP {wb:World} (hc:∃m,wb.cell? ⟨6,0,none⟩=some (.int .i64 m)) (h0:6<wb.heap.size):u5 wb BJ:=by
 intro zs hz hp
 match zs,hz with
 |[z],hz=>
  refine⟨[aN (dd (U z))],⟨(oK _).1,(oK _).2,trivial⟩,rfl,λw hw=> .inr ⟨enters (by kernel_rfl) _ _,?_⟩⟩
  obtain⟨m,hm⟩:=hc
  have tX:w.cell? ⟨6,0,none⟩=some (.int .i64 m):=by rw[hw.cell ⟨6,0,none⟩ h0];exact hm
  have hl:(U z).length<=4294967280:=hp
  refine(Tryz.strings_Contains (aL (U z)) (aL [46,46]) m w (by show(U z).toArray.size<_;simp;omega) tX).mono ?_
  rintro e w' ⟨rfl,rfl⟩
  refine⟨?_,World.Extends.refl _⟩
  have e1:(aL (U z)).data.toList=U z:=by simp[aL]
  have e2:(aL [46,46]).data.toList=[46,46]:=rfl
  rw[e1,e2,TK]
  show _=Ending.returned (Value.bool (decide (aN (dd (U z))=1)))
  rw[CK]
theorem CV {l:ax} {n:Nat} (h:l.length<=n) (hn:n<=140737488351232):0<=dC l/\dC l<=bx:=⟨ph _,nR (by unfold eK;omega)⟩
end Go.bH
namespace Go.Proofs
open Go.Shelf Go.RowKit
shelf_lay Lays.n169 Nm 169 at Tryz as Tryz.lays169
theorem Tryz.Gj:Builder.Extra Tryz.prog Tryz.lays169_ren where
 sizeBuilder:=by kernel_rfl
 liesBuilder:=by kernel_rfl
 t5:=Tryz.underlying5
 a5:=Tryz.isAgg5
 z5:=Tryz.sizeOf5
 v5:=Tryz.zeroValue5
 infoByte:=by kernel_rfl
 cellsByte:=by kernel_rfl
 sizeByte:=by kernel_rfl
 neB5:=by decide
theorem Tryz.Builder_String_any (B b:Nat) (l:List UInt8) (w:World) (h:Lib.IsBuilder 121 5 B b (Lib.byteCells l) w) (UR:B<=w.heap.size):
 Calls Tryz.prog 89 #[.pointer (some ⟨b,0,none⟩)] w λe w'=>e= .returned (.string ⟨l.toArray⟩)/\Below B w w':=Any.Builder_String_any Tryz.lays169 Tryz.Gj B b l w h UR
shelf_lay Lays.n170 Nm 170 at Tryz as Tryz.ajB
theorem Tryz.Builder_Len (B b:Nat) (bs:List Value) (w:World) (h:Lib.IsBuilder 121 5 B b bs w):
 Calls Tryz.prog 163 #[.pointer (some ⟨b,0,none⟩)] w λe w'=>e= .returned (.int .i64 bs.length)/\w'=w:=Any.Builder_Len Tryz.ajB B b bs w h
set_option maxHeartbeats 1000000 in
set_option maxRecDepth 100000 in
theorem Tryz.Builder_copyCheck_used (b:Nat) (w:World) (h0:w.cell? ⟨b,0,none⟩=some (.pointer (some ⟨b,0,none⟩))):
 Calls Tryz.prog 117 #[.pointer (some ⟨b,0,none⟩)] w λe w'=>e= .returned (.tuple #[])/\w'=w:=by
 obtain⟨j,hj,_⟩:=Option.map_eq_some_iff.1 Tryz.Gj.toX72.sizeBuilder
 go_enter Tryz.func117,Tryz.ntmps117
 go_wp2
 rw[Lib.run_neq_ptr_same w _ Tryz.underlying119 hj]
 go_wp2
 go_end0
 exact⟨rfl,rfl⟩
set_option maxHeartbeats 1000000 in
set_option maxRecDepth 100000 in
theorem Tryz.Builder_copyCheck_fresh (b:Nat) (w:World) (h0:w.cell? ⟨b,0,none⟩=some (.pointer none)) (km:w.shape? b=some (121,2)) (HL:w.frozen? ⟨b,0,none⟩=false):
 Calls Tryz.prog 117 #[.pointer (some ⟨b,0,none⟩)] w λe w'=>e= .returned (.tuple #[])/\w'=w.setCell ⟨b,0,none⟩ (.pointer (some ⟨b,0,none⟩)):=by
 have X:=Tryz.Gj.toX72
 obtain⟨j,hj,xI⟩:=Option.map_eq_some_iff.1 X.sizeBuilder
 go_enter Tryz.func117,Tryz.ntmps117
 go_wp2
 rw[Lib.run_to_unsafe w ⟨b,0,none⟩ Tryz.underlying119 Tryz.underlying167 hj (by rw[xI];decide) km (Nat.zero_lt_succ 1)]
 simp only[Result.andThen]
 rw[Oper.upon_value]
 go_wp2
 rw[run_callFunc_extern Tryz.func139 (by kernel_rfl) (by kernel_rfl) (by kernel_rfl) (e:=Extern.AbiNoEscape.same) (by kernel_rfl)]
 rw[Lib.run_noEscape]
 simp only[Result.andThen]
 rw[Oper.upon_value]
 go_wp2
 rw[Lib.run_from_unsafe w ⟨b,0,none⟩ Tryz.underlying167 Tryz.underlying119 hj km X.liesBuilder]
 simp only[Result.andThen]
 rw[Oper.upon_value]
 go_wp2
 go_end0
 exact⟨rfl,rfl⟩
theorem Tryz.Builder_copyCheck (B b:Nat) (bs:List Value) (w:World) (h:Lib.IsBuilder 121 5 B b bs w):
 Calls Tryz.prog 117 #[.pointer (some ⟨b,0,none⟩)] w λe w'=>e= .returned (.tuple #[])/\(Lib.BuilderAt 121 5 B b (.pointer (some ⟨b,0,none⟩)) bs w'/\Below B w w'):=by
 rcases h with h|h
 ·refine(Tryz.Builder_copyCheck_fresh b w h.cell0 h.shape h.frozen0).mono ?_
  rintro e w' ⟨rfl,rfl⟩
  exact⟨rfl,h.used _,(Below.refl B w).setCell (p:=⟨b,0,none⟩) h.1 _⟩
 ·refine(Tryz.Builder_copyCheck_used b w h.cell0).mono ?_
  rintro e w' ⟨rfl,rfl⟩
  exact⟨rfl,h,Below.refl B _⟩
set_option maxHeartbeats 2000000 in
set_option maxRecDepth 100000 in
theorem Tryz.Builder_WriteByte (B b:Nat) (bs:List Value) (c:Int) (w:World) (h:Lib.IsBuilder 121 5 B b bs w) (hlen:bs.length+1<=140737488355328) (UR:B<=w.heap.size):
 Calls Tryz.prog 88 #[.pointer (some ⟨b,0,none⟩),.int .u8 c] w λe w'=>e= .returned .nilIface/\(Lib.BuilderAt 121 5 B b (.pointer (some ⟨b,0,none⟩)) (bs++[.int .u8 c]) w'/\Below B w w'):=by
 have X:=Tryz.Gj
 obtain⟨i0,hi,hz0,hz1,hz2⟩:=info_parts X.infoByte
 go_enter Tryz.func88,Tryz.ntmps88
 go_wp2_with (go_at_call 117;refine(Tryz.Builder_copyCheck B b bs _ h).mono ?_)
 rintro e w1 ⟨rfl,h1,hb1⟩
 obtain⟨hB,v,Ag,hown,hne⟩:=h1
 have bE:w1.cell? ⟨b,0,none⟩=some (.pointer (some ⟨b,0,none⟩)):=by rw[Lib.cell_of_heap Ag];rfl
 have c1:w1.cell? ⟨b,1,none⟩=some v:=by rw[Lib.cell_of_heap Ag];rfl
 go_wp2_with (at_builtin;refine wpList_append_own _ rfl _ _ 63 rfl B 5 i0 (.int .u8 0) 1 1 Tryz.underlying63 hi hz0 hz1 hz2 rfl (by decide) _ _ _ rfl (hown.alloc _) ⟨w1.heap.size,0,none⟩ 1 1 [.int .u8 c] rfl rfl ?c1 ?c2 ?c3 ?c4 ?c5 ?_)
 case c1=>
  intro j u hj
  match j,hj with
  |0,hj=>simp at hj;subst hj;simp[Addr.add]
 case c2=>intro u hu;simp at hu;subst hu;rfl
 case c3=>unfold maxLen;omega
 case c4=>omega
 case c5=>have:=hb1.size;simp;omega
 intro v' w2 hown' hgrow _
 have hlt:b<w1.heap.size:=by
  rcases Nat.lt_or_ge b w1.heap.size with h'|h'
  ·exact h'
  ·simp[Array.getElem?_eq_none h']at Ag
 have hb2:w2.heap[b]?=some (.cells #[.pointer (some ⟨b,0,none⟩),v] 121 (0,0)):=by
  rw[hgrow.block b (by simp;omega) (λe=>hne e.symm),Lib.alloc_old w1 _ b hlt]
  exact Ag
 have d0:w2.cell? ⟨b,0,none⟩=some (.pointer (some ⟨b,0,none⟩)):=by rw[Lib.cell_of_heap hb2];rfl
 have d1:w2.cell? ⟨b,1,none⟩=some v:=by rw[Lib.cell_of_heap hb2];rfl
 have f1:w2.frozen? ⟨b,1,none⟩=false:=Lib.frozen_of_heap hb2 1
 obtain⟨g,cap,rfl⟩:∃g cap,v'= .slice (some ⟨g,0,none⟩) (bs.length+1) cap:=by
  rcases hown'.2 with⟨_,h0⟩|⟨g,cap,cur,hv,_⟩
  ·omega
  ·exact⟨g,cap,hv⟩
 go_wp2
 go_ret
 refine⟨rfl,?_,?_⟩
 ·exact Lib.BuilderAt.put (T:=121) (e:=5) hB hb2 (bs':=bs++[.int .u8 c]) (by simpa using hown') X.neB5
 ·exact((hb1.alloc (by have:=hb1.size;omega) _).grown hgrow (by have:=hb1.size;simp;omega) (λk hk=>(hown.lt k hk).1)).setCell (p:=⟨b,1,none⟩) hB _
end Go.Proofs
set_option linter.unusedSimpArgs false
namespace Go.Proofs
open Go.RowKit Go.bH
def vj (s:ax):Value:=match iN s with|some (c,t)=> .tuple #[.agg #[.string ⟨c.toArray⟩,.string ⟨t.toArray⟩],.bool true]|none=> .tuple #[.agg #[.string ⟨#[]⟩,.string ⟨#[]⟩],.bool false]
theorem aoR {α:Type} (a:Array α) (x y:α):(a.push x).setIfInBounds a.size y=a.push y:=by
 apply Array.ext'
 simp
theorem acg {s t:ByteArray} (h:¬s=t):(s==t)=false:=by
 cases h':(s==t)with
 |false=>rfl
 |true=>
  have h':(s.data==t.data)=true:=h'
  exact absurd (ByteArray.ext (eq_of_beq h')) h
def IE (z:Value):Option (Nat×Value)->Value
 |some (_,v)=> .tuple #[v,.bool true]
 |none=> .tuple #[z,.bool false]
theorem Bp {P:Program} {ES uh mM:TypeId} (hm:P.underlying ES=some (.map uh mM)) (hk:P.underlying uh=some .string) (W:World) (es:Array MapEntry) (clock:Nat) (s:ByteArray) (v:Value) (hf:Instr.findNow .string (.string s) es.toList 0=some none):
 (Instr.mapUpdate ES (.map (some W.heap.size)) (.string s) v).run P (W.alloc (.map es clock))= .ok () (W.alloc (.map (es.push {key:= .string s,val:=v,born:=clock}) (clock+1))):=by
 have hb:(W.alloc (.map es clock)).heap[W.heap.size]?=some (.map es clock):=heap_alloc_new W _
 have hc:(Instr.checkKey false 10000 uh (.string s)).run P (W.alloc (.map es clock))= .ok () (W.alloc (.map es clock)):=MapKept.run_checkKey (k:= .string s) hk (by simp[MapKept.IsKey]) false 9999
 simp only[Instr.mapUpdate,Sem.run_bind,run_underlying hm,Result.andThen,MapKept.run_getObj_map hb,Sem.run_pure,hc,MapKept.run_findKey hk hf,MapKept.run_setObj_map _ hb]
 simp only[World.alloc,aoR]
theorem alc {P:Program} {ES uh mM:TypeId} {z:Value} (hm:P.underlying ES=some (.map uh mM)) (hk:P.underlying uh=some .string) (hz:∀w,(zeroValue mM).run P w= .ok z w) (W:World) (es:Array MapEntry) (clock:Nat) (s:ByteArray) (a:Option (Nat×Value)) (hf:Instr.findNow .string (.string s) es.toList 0=some a):
 (Instr.lookup ES (.map (some W.heap.size)) (.string s) true).run P (W.alloc (.map es clock))= .ok (IE z a) (W.alloc (.map es clock)):=by
 have hb:(W.alloc (.map es clock)).heap[W.heap.size]?=some (.map es clock):=heap_alloc_new W _
 have hc:(Instr.checkKey es.isEmpty 10000 uh (.string s)).run P (W.alloc (.map es clock))= .ok () (W.alloc (.map es clock)):=MapKept.run_checkKey (k:= .string s) hk (by simp[MapKept.IsKey]) _ 9999
 simp only[Instr.lookup,Sem.run_bind,run_underlying hm,Result.andThen,MapKept.run_getObj_map hb,Sem.run_pure,hc,MapKept.run_findKey hk hf]
 cases a with
 |none=>simp[hz,IE]
 |some p=>simp[IE]
theorem acf {s t:ByteArray}:s=t↔s.data.toList=t.data.toList:=⟨λh=>by rw[h],λh=>ByteArray.ext (Array.toList_inj.1 h)⟩
def EJ:Array MapEntry:=#[{key:=Value.string {data:=#[]},val:=Value.agg #[Value.string {data:=#[]},Value.string {data:=#[]}],born:=0},{key:=Value.string {data:=#[71,66]},val:=Value.agg #[Value.string {data:=#[52,52]},Value.string {data:=#[48]}],born:=1},{key:=Value.string {data:=#[85,83]},val:=Value.agg #[Value.string {data:=#[49]},Value.string {data:=#[]}],born:=2},{key:=Value.string {data:=#[68,69]},val:=Value.agg #[Value.string {data:=#[52,57]},Value.string {data:=#[48]}],born:=3},{key:=Value.string {data:=#[70,82]},val:=Value.agg #[Value.string {data:=#[51,51]},Value.string {data:=#[48]}],born:=4},{key:=Value.string {data:=#[67,72]},val:=Value.agg #[Value.string {data:=#[52,49]},Value.string {data:=#[48]}],born:=5}]
theorem ajw (s:ByteArray):∃a,Instr.findNow .string (.string s) EJ.toList 0=some a/\IE (.agg #[.string ⟨#[]⟩,.string ⟨#[]⟩]) a=vj s.data.toList:=by
 by_cases h0:s={data:=#[]}
 ·subst h0;exact⟨_,rfl,rfl⟩
 by_cases h1:s={data:=#[71,66]}
 ·subst h1;exact⟨_,rfl,rfl⟩
 by_cases h2:s={data:=#[85,83]}
 ·subst h2;exact⟨_,rfl,rfl⟩
 by_cases h3:s={data:=#[68,69]}
 ·subst h3;exact⟨_,rfl,rfl⟩
 by_cases h4:s={data:=#[70,82]}
 ·subst h4;exact⟨_,rfl,rfl⟩
 by_cases h5:s={data:=#[67,72]}
 ·subst h5;exact⟨_,rfl,rfl⟩
 have n:∀t:ByteArray,¬s=t->(s==t)=false:=λt h=>acg h
 refine⟨none,?_,?_⟩
 ·simp only[EJ,Instr.findNow,Instr.sameNow,n _ h0,n _ h1,n _ h2,n _ h3,n _ h4,n _ h5]
 ·have m:∀t:ax,¬s=⟨t.toArray⟩->(s.data.toList==t)=false:=λt h=>by
   cases ah:(s.data.toList==t)with
   |false=>rfl
   |true=>exact absurd (acf.2 (by rw[beq_iff_eq.1 ah])) h
  unfold vj iN
  rw[m [] h0,m [71,66] h1,m [85,83] h2,m [68,69] h3,m [70,82] h4,m [67,72] h5]
  rfl
set_option maxHeartbeats 4000000 in
set_option maxRecDepth 1000000 in
theorem Tryz.adh (s:ByteArray) (w:World):
 Calls Tryz.prog 144 #[.string s] w λe w'=>e= .returned (vj s.data.toList)/\Below w.heap.size w w':=by
 go_enter Tryz.func144,Tryz.ntmps144
 have awY:∀W:World,(Instr.makeMap 185 none).run Tryz.prog W= .ok (.map (some W.heap.size)) (W.alloc (.map #[] 0)):=λW=>run_makeMap 185 W
 have xS:(Instr.mapUpdate 185 (.map (some (w.heap.size+1))) (.string {data:=#[]}) (Value.agg #[Value.string {data:=#[]},Value.string {data:=#[]}])).run Tryz.prog ((w.alloc (Obj.cells #[Value.string {data:=#[]},Value.string {data:=#[]}] 172)).alloc (.map #[] 0))= .ok () ((w.alloc (Obj.cells #[Value.string {data:=#[]},Value.string {data:=#[]}] 172)).alloc (.map #[{key:=Value.string {data:=#[]},val:=Value.agg #[Value.string {data:=#[]},Value.string {data:=#[]}],born:=0}] 1)):=by
  have:=Bp Tryz.underlying185 Tryz.underlying9 (w.alloc (Obj.cells #[Value.string {data:=#[]},Value.string {data:=#[]}] 172)) #[] 0 {data:=#[]} (Value.agg #[Value.string {data:=#[]},Value.string {data:=#[]}]) rfl
  simpa using this
 have vD:(Instr.mapUpdate 185 (.map (some (w.heap.size+1))) (.string {data:=#[71,66]}) (Value.agg #[Value.string {data:=#[52,52]},Value.string {data:=#[48]}])).run Tryz.prog ((w.alloc (Obj.cells #[Value.string {data:=#[]},Value.string {data:=#[]}] 172)).alloc (.map #[{key:=Value.string {data:=#[]},val:=Value.agg #[Value.string {data:=#[]},Value.string {data:=#[]}],born:=0}] 1))= .ok () ((w.alloc (Obj.cells #[Value.string {data:=#[]},Value.string {data:=#[]}] 172)).alloc (.map #[{key:=Value.string {data:=#[]},val:=Value.agg #[Value.string {data:=#[]},Value.string {data:=#[]}],born:=0},{key:=Value.string {data:=#[71,66]},val:=Value.agg #[Value.string {data:=#[52,52]},Value.string {data:=#[48]}],born:=1}] 2)):=by
  have:=Bp Tryz.underlying185 Tryz.underlying9 (w.alloc (Obj.cells #[Value.string {data:=#[]},Value.string {data:=#[]}] 172)) #[{key:=Value.string {data:=#[]},val:=Value.agg #[Value.string {data:=#[]},Value.string {data:=#[]}],born:=0}] 1 {data:=#[71,66]} (Value.agg #[Value.string {data:=#[52,52]},Value.string {data:=#[48]}]) rfl
  simpa using this
 have xT:(Instr.mapUpdate 185 (.map (some (w.heap.size+1))) (.string {data:=#[85,83]}) (Value.agg #[Value.string {data:=#[49]},Value.string {data:=#[]}])).run Tryz.prog ((w.alloc (Obj.cells #[Value.string {data:=#[]},Value.string {data:=#[]}] 172)).alloc (.map #[{key:=Value.string {data:=#[]},val:=Value.agg #[Value.string {data:=#[]},Value.string {data:=#[]}],born:=0},{key:=Value.string {data:=#[71,66]},val:=Value.agg #[Value.string {data:=#[52,52]},Value.string {data:=#[48]}],born:=1}] 2))= .ok () ((w.alloc (Obj.cells #[Value.string {data:=#[]},Value.string {data:=#[]}] 172)).alloc (.map #[{key:=Value.string {data:=#[]},val:=Value.agg #[Value.string {data:=#[]},Value.string {data:=#[]}],born:=0},{key:=Value.string {data:=#[71,66]},val:=Value.agg #[Value.string {data:=#[52,52]},Value.string {data:=#[48]}],born:=1},{key:=Value.string {data:=#[85,83]},val:=Value.agg #[Value.string {data:=#[49]},Value.string {data:=#[]}],born:=2}] 3)):=by
  have:=Bp Tryz.underlying185 Tryz.underlying9 (w.alloc (Obj.cells #[Value.string {data:=#[]},Value.string {data:=#[]}] 172)) #[{key:=Value.string {data:=#[]},val:=Value.agg #[Value.string {data:=#[]},Value.string {data:=#[]}],born:=0},{key:=Value.string {data:=#[71,66]},val:=Value.agg #[Value.string {data:=#[52,52]},Value.string {data:=#[48]}],born:=1}] 2 {data:=#[85,83]} (Value.agg #[Value.string {data:=#[49]},Value.string {data:=#[]}]) rfl
  simpa using this
 have H2:(Instr.mapUpdate 185 (.map (some (w.heap.size+1))) (.string {data:=#[68,69]}) (Value.agg #[Value.string {data:=#[52,57]},Value.string {data:=#[48]}])).run Tryz.prog ((w.alloc (Obj.cells #[Value.string {data:=#[]},Value.string {data:=#[]}] 172)).alloc (.map #[{key:=Value.string {data:=#[]},val:=Value.agg #[Value.string {data:=#[]},Value.string {data:=#[]}],born:=0},{key:=Value.string {data:=#[71,66]},val:=Value.agg #[Value.string {data:=#[52,52]},Value.string {data:=#[48]}],born:=1},{key:=Value.string {data:=#[85,83]},val:=Value.agg #[Value.string {data:=#[49]},Value.string {data:=#[]}],born:=2}] 3))= .ok () ((w.alloc (Obj.cells #[Value.string {data:=#[]},Value.string {data:=#[]}] 172)).alloc (.map #[{key:=Value.string {data:=#[]},val:=Value.agg #[Value.string {data:=#[]},Value.string {data:=#[]}],born:=0},{key:=Value.string {data:=#[71,66]},val:=Value.agg #[Value.string {data:=#[52,52]},Value.string {data:=#[48]}],born:=1},{key:=Value.string {data:=#[85,83]},val:=Value.agg #[Value.string {data:=#[49]},Value.string {data:=#[]}],born:=2},{key:=Value.string {data:=#[68,69]},val:=Value.agg #[Value.string {data:=#[52,57]},Value.string {data:=#[48]}],born:=3}] 4)):=by
  have:=Bp Tryz.underlying185 Tryz.underlying9 (w.alloc (Obj.cells #[Value.string {data:=#[]},Value.string {data:=#[]}] 172)) #[{key:=Value.string {data:=#[]},val:=Value.agg #[Value.string {data:=#[]},Value.string {data:=#[]}],born:=0},{key:=Value.string {data:=#[71,66]},val:=Value.agg #[Value.string {data:=#[52,52]},Value.string {data:=#[48]}],born:=1},{key:=Value.string {data:=#[85,83]},val:=Value.agg #[Value.string {data:=#[49]},Value.string {data:=#[]}],born:=2}] 3 {data:=#[68,69]} (Value.agg #[Value.string {data:=#[52,57]},Value.string {data:=#[48]}]) rfl
  simpa using this
 have aw0:(Instr.mapUpdate 185 (.map (some (w.heap.size+1))) (.string {data:=#[70,82]}) (Value.agg #[Value.string {data:=#[51,51]},Value.string {data:=#[48]}])).run Tryz.prog ((w.alloc (Obj.cells #[Value.string {data:=#[]},Value.string {data:=#[]}] 172)).alloc (.map #[{key:=Value.string {data:=#[]},val:=Value.agg #[Value.string {data:=#[]},Value.string {data:=#[]}],born:=0},{key:=Value.string {data:=#[71,66]},val:=Value.agg #[Value.string {data:=#[52,52]},Value.string {data:=#[48]}],born:=1},{key:=Value.string {data:=#[85,83]},val:=Value.agg #[Value.string {data:=#[49]},Value.string {data:=#[]}],born:=2},{key:=Value.string {data:=#[68,69]},val:=Value.agg #[Value.string {data:=#[52,57]},Value.string {data:=#[48]}],born:=3}] 4))= .ok () ((w.alloc (Obj.cells #[Value.string {data:=#[]},Value.string {data:=#[]}] 172)).alloc (.map #[{key:=Value.string {data:=#[]},val:=Value.agg #[Value.string {data:=#[]},Value.string {data:=#[]}],born:=0},{key:=Value.string {data:=#[71,66]},val:=Value.agg #[Value.string {data:=#[52,52]},Value.string {data:=#[48]}],born:=1},{key:=Value.string {data:=#[85,83]},val:=Value.agg #[Value.string {data:=#[49]},Value.string {data:=#[]}],born:=2},{key:=Value.string {data:=#[68,69]},val:=Value.agg #[Value.string {data:=#[52,57]},Value.string {data:=#[48]}],born:=3},{key:=Value.string {data:=#[70,82]},val:=Value.agg #[Value.string {data:=#[51,51]},Value.string {data:=#[48]}],born:=4}] 5)):=by
  have:=Bp Tryz.underlying185 Tryz.underlying9 (w.alloc (Obj.cells #[Value.string {data:=#[]},Value.string {data:=#[]}] 172)) #[{key:=Value.string {data:=#[]},val:=Value.agg #[Value.string {data:=#[]},Value.string {data:=#[]}],born:=0},{key:=Value.string {data:=#[71,66]},val:=Value.agg #[Value.string {data:=#[52,52]},Value.string {data:=#[48]}],born:=1},{key:=Value.string {data:=#[85,83]},val:=Value.agg #[Value.string {data:=#[49]},Value.string {data:=#[]}],born:=2},{key:=Value.string {data:=#[68,69]},val:=Value.agg #[Value.string {data:=#[52,57]},Value.string {data:=#[48]}],born:=3}] 4 {data:=#[70,82]} (Value.agg #[Value.string {data:=#[51,51]},Value.string {data:=#[48]}]) rfl
  simpa using this
 have aw1:(Instr.mapUpdate 185 (.map (some (w.heap.size+1))) (.string {data:=#[67,72]}) (Value.agg #[Value.string {data:=#[52,49]},Value.string {data:=#[48]}])).run Tryz.prog ((w.alloc (Obj.cells #[Value.string {data:=#[]},Value.string {data:=#[]}] 172)).alloc (.map #[{key:=Value.string {data:=#[]},val:=Value.agg #[Value.string {data:=#[]},Value.string {data:=#[]}],born:=0},{key:=Value.string {data:=#[71,66]},val:=Value.agg #[Value.string {data:=#[52,52]},Value.string {data:=#[48]}],born:=1},{key:=Value.string {data:=#[85,83]},val:=Value.agg #[Value.string {data:=#[49]},Value.string {data:=#[]}],born:=2},{key:=Value.string {data:=#[68,69]},val:=Value.agg #[Value.string {data:=#[52,57]},Value.string {data:=#[48]}],born:=3},{key:=Value.string {data:=#[70,82]},val:=Value.agg #[Value.string {data:=#[51,51]},Value.string {data:=#[48]}],born:=4}] 5))= .ok () ((w.alloc (Obj.cells #[Value.string {data:=#[]},Value.string {data:=#[]}] 172)).alloc (.map #[{key:=Value.string {data:=#[]},val:=Value.agg #[Value.string {data:=#[]},Value.string {data:=#[]}],born:=0},{key:=Value.string {data:=#[71,66]},val:=Value.agg #[Value.string {data:=#[52,52]},Value.string {data:=#[48]}],born:=1},{key:=Value.string {data:=#[85,83]},val:=Value.agg #[Value.string {data:=#[49]},Value.string {data:=#[]}],born:=2},{key:=Value.string {data:=#[68,69]},val:=Value.agg #[Value.string {data:=#[52,57]},Value.string {data:=#[48]}],born:=3},{key:=Value.string {data:=#[70,82]},val:=Value.agg #[Value.string {data:=#[51,51]},Value.string {data:=#[48]}],born:=4},{key:=Value.string {data:=#[67,72]},val:=Value.agg #[Value.string {data:=#[52,49]},Value.string {data:=#[48]}],born:=5}] 6)):=by
  have:=Bp Tryz.underlying185 Tryz.underlying9 (w.alloc (Obj.cells #[Value.string {data:=#[]},Value.string {data:=#[]}] 172)) #[{key:=Value.string {data:=#[]},val:=Value.agg #[Value.string {data:=#[]},Value.string {data:=#[]}],born:=0},{key:=Value.string {data:=#[71,66]},val:=Value.agg #[Value.string {data:=#[52,52]},Value.string {data:=#[48]}],born:=1},{key:=Value.string {data:=#[85,83]},val:=Value.agg #[Value.string {data:=#[49]},Value.string {data:=#[]}],born:=2},{key:=Value.string {data:=#[68,69]},val:=Value.agg #[Value.string {data:=#[52,57]},Value.string {data:=#[48]}],born:=3},{key:=Value.string {data:=#[70,82]},val:=Value.agg #[Value.string {data:=#[51,51]},Value.string {data:=#[48]}],born:=4}] 5 {data:=#[67,72]} (Value.agg #[Value.string {data:=#[52,49]},Value.string {data:=#[48]}]) rfl
  simpa using this
 obtain⟨c,t,ok,hl,hv⟩:∃(c t:ByteArray) (ok:Bool),(Instr.lookup 185 (.map (some (w.heap.size+1))) (.string s) true).run Tryz.prog ((w.alloc (Obj.cells #[Value.string {data:=#[]},Value.string {data:=#[]}] 172)).alloc (.map #[{key:=Value.string {data:=#[]},val:=Value.agg #[Value.string {data:=#[]},Value.string {data:=#[]}],born:=0},{key:=Value.string {data:=#[71,66]},val:=Value.agg #[Value.string {data:=#[52,52]},Value.string {data:=#[48]}],born:=1},{key:=Value.string {data:=#[85,83]},val:=Value.agg #[Value.string {data:=#[49]},Value.string {data:=#[]}],born:=2},{key:=Value.string {data:=#[68,69]},val:=Value.agg #[Value.string {data:=#[52,57]},Value.string {data:=#[48]}],born:=3},{key:=Value.string {data:=#[70,82]},val:=Value.agg #[Value.string {data:=#[51,51]},Value.string {data:=#[48]}],born:=4},{key:=Value.string {data:=#[67,72]},val:=Value.agg #[Value.string {data:=#[52,49]},Value.string {data:=#[48]}],born:=5}] 6))= .ok (.tuple #[.agg #[.string c,.string t],.bool ok]) ((w.alloc (Obj.cells #[Value.string {data:=#[]},Value.string {data:=#[]}] 172)).alloc (.map #[{key:=Value.string {data:=#[]},val:=Value.agg #[Value.string {data:=#[]},Value.string {data:=#[]}],born:=0},{key:=Value.string {data:=#[71,66]},val:=Value.agg #[Value.string {data:=#[52,52]},Value.string {data:=#[48]}],born:=1},{key:=Value.string {data:=#[85,83]},val:=Value.agg #[Value.string {data:=#[49]},Value.string {data:=#[]}],born:=2},{key:=Value.string {data:=#[68,69]},val:=Value.agg #[Value.string {data:=#[52,57]},Value.string {data:=#[48]}],born:=3},{key:=Value.string {data:=#[70,82]},val:=Value.agg #[Value.string {data:=#[51,51]},Value.string {data:=#[48]}],born:=4},{key:=Value.string {data:=#[67,72]},val:=Value.agg #[Value.string {data:=#[52,49]},Value.string {data:=#[48]}],born:=5}] 6))/\Hid (Value.tuple #[.agg #[.string c,.string t],.bool ok]=vj s.data.toList):=by
  obtain⟨a,hf,ha⟩:=ajw s
  have:=alc (z:= .agg #[.string ⟨#[]⟩,.string ⟨#[]⟩]) Tryz.underlying185 Tryz.underlying9 (λw=>Tryz.zeroValue172 w) (w.alloc (Obj.cells #[Value.string {data:=#[]},Value.string {data:=#[]}] 172)) EJ 6 s a hf
  have hsz:(w.alloc (Obj.cells #[Value.string {data:=#[]},Value.string {data:=#[]}] 172)).heap.size=w.heap.size+1:=by simp
  rw[hsz,ha]at this
  have hr:∃(c t:ByteArray) (ok:Bool),vj s.data.toList=Value.tuple #[.agg #[.string c,.string t],.bool ok]:=by
   unfold vj
   cases iN s.data.toList with
   |none=>exact⟨_,_,_,rfl⟩
   |some p=>exact⟨_,_,_,rfl⟩
  obtain⟨c,t,ok,hr⟩:=hr
  rw[hr]at this
  exact⟨c,t,ok,this,hr.symm⟩
 go_wp2
 refine bodyPost_ret (v:= .tuple #[.agg #[.string c,.string t],.bool ok]) ?_ rfl ⟨congrArg _ hv,(((Below.refl _ w).alloc (Nat.le_refl _) _).alloc (by simp) _).alloc (by simp;omega) _⟩
 have hg:∀o1 o2:Obj,(((w.alloc (Obj.cells #[Value.string c,Value.string t] 172)).alloc o1).alloc o2).heap[w.heap.size]?=some (.cells #[.string c,.string t] 172 (0,0)):=λo1 o2=>by
  rw[Lib.alloc_old _ _ _ (by simp;omega),Lib.alloc_old _ _ _ (by simp),heap_alloc_new]
 have kJ:=run_loadVar_row (P:=Tryz.prog) (((w.alloc (Obj.cells #[Value.string c,Value.string t] 172)).alloc (.map EJ 6)).alloc (Obj.cells #[Value.string c,Value.string t] 172)) w.heap.size 172 172 #[.string c,.string t] (0,0) _ (hg _ _) Tryz.underlying172 rfl (by kernel_rfl)
 rw[results_cell_tmp rfl]
 show((loadVar 172 ⟨w.heap.size,0,none⟩).run Tryz.prog (((w.alloc (Obj.cells #[Value.string c,Value.string t] 172)).alloc (.map EJ 6)).alloc (Obj.cells #[Value.string c,Value.string t] 172))).andThen _=_
 rw[kJ]
 rfl
end Go.Proofs
namespace Go.bH
open Go Go.bg Go.Proofs Go.RowKit
theorem alT {wb:World}:bq wb Ir:=by
 intro zs hz
 match zs,hz with
 |[z],hz=>
  have hw:=λw=>Tryz.adh (aL (U z)) w
  have e1:(aL (U z)).data.toList=U z:=by simp[aL]
  cases gM:iN (U z)with
  |none=>
   refine⟨[0,0,0],⟨Int.le_refl _,gb,Int.le_refl _,gb,by decide,by decide,trivial⟩,?_,λw _=> .inr ⟨enters (by kernel_rfl) _ _,?_⟩⟩
   ·show(match iN (U z)with|some (code,fX)=>U 0=code/\U 0=fX/\(0:Int)=1|none=>(0:Int)=0/\U 0=[]/\U 0=[])
    rw[gM];exact⟨rfl,rfl,rfl⟩
   ·refine(hw w).mono ?_
    rintro e w' ⟨rfl,hb⟩
    refine⟨?_,Da hb⟩
    rw[e1];unfold vj;rw[gM];rfl
  |some tA=>
   obtain⟨c,t⟩:=tA
   have h1:=CV (L9 gM) (by decide)
   have h2:0<=dC t/\dC t<=bx:=CV (n:=1) (by rcases Ma gM with h|h<;>rw[h]<;>decide) (by decide)
   refine⟨[dC c,dC t,1],⟨h1.1,h1.2,h2.1,h2.2,by decide,by decide,trivial⟩,?_,λw _=> .inr ⟨enters (by kernel_rfl) _ _,?_⟩⟩
   ·show(match iN (U z)with|some (code,fX)=>U (dC c)=code/\U (dC t)=fX/\(1:Int)=1|none=>(1:Int)=0/\U (dC c)=[]/\U (dC t)=[])
    rw[gM];exact⟨ea _,ea _,rfl⟩
   ·refine(hw w).mono ?_
    rintro e w' ⟨rfl,hb⟩
    refine⟨?_,Da hb⟩
    rw[e1];unfold vj;rw[gM]
    show _=Ending.returned (.tuple #[.agg #[.string (aL (U (dC c))),.string (aL (U (dC t)))],.bool true])
    rw[ea,ea];rfl
end Go.bH
namespace Go.Proofs
open Go.RowKit Go.bH
theorem acC (s:ByteArray):s.data.toList.length=s.size:=by rw[Array.length_toList];rfl
def zw (s:ax):Value:=match eb s [] false with|some (d,p)=> .tuple #[.string ⟨d.toArray⟩,.bool p,.bool true]|none=> .tuple #[.string ⟨#[]⟩,.bool false,.bool false]
theorem aiP (c:UInt8):dN c=true↔(48:Int)<=c.toNat/\(c.toNat:Int)<=57:=by
 unfold dN;rw[Bool.and_eq_true,Nat.ble_eq,Nat.ble_eq];omega
theorem ap3 (c:UInt8):∃R:Int,(R<0↔nI.contains c=false)/\∀w,Calls Tryz.prog 164 #[.string {data:=#[32,45,46,40,41]},.int .u8 c.toNat] w λe w'=>e= .returned (.int .i64 R)/\w'=w:=by
 refine⟨Lib.indexByte nI c,?_,λw=>?_⟩
 ·rw[Lib.contains_iff_indexByte];simp
 ·have:=Tryz.strings_IndexByte ⟨#[32,45,46,40,41]⟩ (c.toNat:Int) w
  have e:(c.toNat:Int).toNat.toUInt8=c:=by simp
  rw[e]at this
  exact this
theorem ajF (d:ax) (b:Nat) (w:World) (h:Lib.IsBuilder 121 5 b b (Lib.byteCells d) w):Calls Tryz.prog 163 #[.pointer (some ⟨b,0,none⟩)] w λe w'=>e= .returned (.int .i64 d.length)/\w'=w:=by
 have:=Tryz.Builder_Len b b _ w h
 rwa [Lib.byteCells_length]at this
set_option maxHeartbeats 4000000 in
set_option maxRecDepth 1000000 in
theorem Tryz.aci (s:ByteArray) (w:World) (hs:s.size<=140737488351232):
 Calls Tryz.prog 145 #[.string s] w λe w'=>e= .returned (zw s.data.toList)/\Below w.heap.size w w':=by
 go_enter Tryz.func145,Tryz.ntmps145
 go_wp2
 go_loopw [10,3] (λvi at3 wr=>∃(i:Nat) (d:List UInt8) (p:Bool),vi= .int .i64 i/\at3= .bool p/\i<=s.size/\d.length<=i/\Hid (eb (s.data.toList.drop i) d p=eb s.data.toList [] false)/\Lib.IsBuilder 121 5 w.heap.size w.heap.size (Lib.byteCells d) wr/\Below w.heap.size w wr) (λvi _ _=>s.size-(RowKit.intOf vi).toNat)
 case atStart=>
  exact⟨0,[],false,rfl,rfl,Nat.zero_le _,Nat.le_refl _,rfl,Lib.fresh_isBuilder 121 5 w,(Below.refl _ w).alloc (Nat.le_refl _) _⟩
 case round=>
  obtain⟨i,d,p,rfl,rfl,hi,hd,hb,hI,k6⟩:=hrel
  have hsz:s.data.toList.length=s.size:=acC s
  by_cases hlt:i<s.size
  ·have NZ:(i:Int)<(s.size:Int):=by omega
   have lL:¬((i:Int)<0):=by omega
   have hc:s.data.toList.getD i 0=s[i]:=by
    simp only[List.getD,List.getElem?_eq_getElem (show i<s.data.toList.length by omega),Option.getD_some]
    rfl
   have hst:=S7 (s:=s.data.toList) (d:=d) (p:=p) (i:=i) (by omega)
   rw[hc]at hst
   have hD:=aiP s[i]
   have fin:∀{d':ax} {p':Bool},eb (List.drop i s.data.toList) d p=eb (List.drop (i+1) s.data.toList) d' p'->Hid (eb (List.drop (i+1) s.data.toList) d' p'=eb s.data.toList [] false):=λh=>by
    have hb:eb (List.drop i s.data.toList) d p=eb s.data.toList [] false:=hb
    show _=_
    rw[<-hb,h]
   have bad:eb (List.drop i s.data.toList) d p=none->Value.tuple #[.string ⟨#[]⟩,.bool false,.bool false]=zw s.data.toList:=λh=>by
    have hb:eb (List.drop i s.data.toList) d p=eb s.data.toList [] false:=hb
    unfold zw
    rw[<-hb,h]
   obtain⟨R,hR,nY⟩:=ap3 s[i]
   have Aa:=λW=>ajF d w.heap.size W
   by_cases qb:(48:Int)<=s[i].toNat/\(s[i].toNat:Int)<=57
   ·have agK:=hD.2 qb
    obtain⟨qb,MT⟩:=qb
    rw[agK,cond_true]at hst
    clear hR nY Aa bad
    go_wp2_with (go_at_call 88;refine(Tryz.Builder_WriteByte w.heap.size w.heap.size _ _ _ hI (by rw[Lib.byteCells_length];omega) k6.size).mono ?_)
    rintro e W1 rfl h1 b1
    go_wp2
    go_roundw
    case rel=>
     refine⟨i+1,d++[s[i]],p,by simp,rfl,by omega,by simp;omega,fin hst,?_,k6.trans b1⟩
     rw[Lib.byteCells_append];exact Or.inr h1
    case measure=>simp[intOf];omega
   ·have Eb:dN s[i]=false:=by
     cases ah:dN s[i]with
     |false=>rfl
     |true=>exact absurd (hD.1 ah) qb
    rw[Eb,cond_false]at hst
    by_cases tJ:s[i]=43
    ·have zM:(s[i].toNat:Int)=43:=by rw[tJ];rfl
     have XK:¬(48:Int)<=s[i].toNat:=by omega
     have jV:nI.contains s[i]=false:=by rw[tJ];rfl
     have U1:=hR.2 jV
     rw[jV,cond_false]at hst
     by_cases hgo:d.length=0/\p=false
     ·obtain⟨pv,rfl⟩:=hgo
      have agH:d=[]:=List.length_eq_zero_iff.1 pv
      have ahY:eb (List.drop i s.data.toList) d false=eb (List.drop (i+1) s.data.toList) d true:=by
       rw[hst,tJ,agH];rfl
      have HH:(d.length:Int)=0:=by omega
      rw[HH]at Aa
      go_wp2_with (go_at_call 163;refine(Aa _ hI).mono ?_)
      go_roundw
      case rel=>
       exact⟨i+1,d,true,by simp,rfl,by omega,by omega,fin ahY,hI,k6⟩
      case measure=>simp[intOf];omega
     ·have hno:eb (List.drop i s.data.toList) d p=none:=by
       rw[hst]
       have:(d.isEmpty&& !p)=false:=by
        cases d with
        |nil=>
         cases p with
         |true=>rfl
         |false=>exact absurd ⟨rfl,rfl⟩ hgo
        |cons x r=>rfl
       rw[Bool.and_assoc,this,Bool.and_false];rfl
      have DM:=bad hno
      clear hR
      rw[zM]at nY
      by_cases pv:d.length=0
      ·have hp:p=true:=by
        cases p with
        |true=>rfl
        |false=>exact absurd ⟨pv,rfl⟩ hgo
       subst hp
       have HH:(d.length:Int)=0:=by omega
       rw[HH]at Aa
       go_wp2_with (go_at_call 163;refine(Aa _ hI).mono ?_)
       go_wp2_with (go_at_call 164;refine(nY _).mono ?_)
       rintro e W1 ⟨rfl,rfl⟩
       go_wp2
       go_ret3
       refine⟨?_,k6⟩
       rw[<-DM]
       rfl
      ·have HH:¬(d.length:Int)=0:=by omega
       go_wp2_with (go_at_call 163;refine(Aa _ hI).mono ?_)
       go_wp2_with (go_at_call 164;refine(nY _).mono ?_)
       rintro e W1 ⟨rfl,rfl⟩
       go_wp2
       go_ret3
       refine⟨?_,k6⟩
       rw[<-DM]
       rfl
    ·have XI:¬(s[i].toNat:Int)=43:=λe=>tJ (by rw[<-UInt8.toNat_inj];show s[i].toNat=43;omega)
     have zM:(s[i]==43)=false:=by simpa using tJ
     rw[zM,Bool.false_and,Bool.false_and,cond_false]at hst
     have UQ:¬(48:Int)<=s[i].toNat∨((48:Int)<=s[i].toNat/\¬(s[i].toNat:Int)<=57):=by omega
     cases hsp:nI.contains s[i]with
     |false=>
      have U1:=hR.2 hsp
      rw[hsp,cond_false]at hst
      have DM:=bad hst
      clear hR
      rcases UQ with XK|⟨aue,alu⟩
      ·go_wp2_with (go_at_call 164;refine(nY _).mono ?_)
       go_ret3
       refine⟨?_,k6⟩
       rw[<-DM]
       rfl
      ·go_wp2_with (go_at_call 164;refine(nY _).mono ?_)
       go_ret3
       refine⟨?_,k6⟩
       rw[<-DM]
       rfl
     |true=>
      have U1:¬R<0:=λh=>by have:=hR.1 h;rw[hsp]at this;cases this
      rw[hsp,cond_true]at hst
      clear hR
      rcases UQ with XK|⟨aue,alu⟩
      ·go_wp2_with (go_at_call 164;refine(nY _).mono ?_)
       go_roundw
       case rel=>exact⟨i+1,d,p,by simp,rfl,by omega,by omega,fin hst,hI,k6⟩
       case measure=>simp[intOf];omega
      ·go_wp2_with (go_at_call 164;refine(nY _).mono ?_)
       go_roundw
       case rel=>exact⟨i+1,d,p,by simp,rfl,by omega,by omega,fin hst,hI,k6⟩
       case measure=>simp[intOf];omega
  ·have eR:¬(i:Int)<(s.size:Int):=by omega
   go_wp2_with (go_at_call 89;refine(Tryz.Builder_String_any w.heap.size w.heap.size d _ hI k6.size).mono ?_)
   rintro e W1 rfl b1
   go_wp2
   go_ret3
   have hb:eb (List.drop i s.data.toList) d p=eb s.data.toList [] false:=hb
   rw[List.drop_of_length_le (by omega),eb]at hb
   refine⟨?_,k6.trans b1⟩
   unfold zw
   rw[<-hb]
   rfl
end Go.Proofs
namespace Go.bH
open Go Go.bg Go.Proofs Go.RowKit
theorem alM {wb:World}:bq wb Iq:=by
 intro zs hz
 match zs,hz with
 |[z],hz=>
  have hl:(U z).length<=140737488351232:=rR hz.2.1
  have hw:=λw=>Tryz.aci (aL (U z)) w (by show(U z).toArray.size<=_;simpa using hl)
  have e1:(aL (U z)).data.toList=U z:=by simp[aL]
  cases gM:eb (U z) [] false with
  |none=>
   refine⟨[0,0,0],⟨Int.le_refl _,gb,by decide,by decide,by decide,by decide,trivial⟩,?_,λw _=> .inr ⟨enters (by kernel_rfl) _ _,?_⟩⟩
   ·show(match eb (U z) [] false with|some (d',p')=>U 0=d'/\(0:Int)=aN p'/\(0:Int)=1|none=>U 0=[]/\(0:Int)=0/\(0:Int)=0)
    rw[gM];exact⟨rfl,rfl,rfl⟩
   ·refine(hw w).mono ?_
    rintro e w' ⟨rfl,hb⟩
    refine⟨?_,Da hb⟩
    rw[e1];unfold zw;rw[gM];rfl
  |some tA=>
   obtain⟨c,t⟩:=tA
   have h1:=CV (CM _ _ _ gM) (by simp;omega)
   refine⟨[dC c,aN t,1],⟨h1.1,h1.2,(oK t).1,(oK t).2,by decide,by decide,trivial⟩,?_,λw _=> .inr ⟨enters (by kernel_rfl) _ _,?_⟩⟩
   ·show(match eb (U z) [] false with|some (d',p')=>U (dC c)=d'/\aN t=aN p'/\(1:Int)=1|none=>U (dC c)=[]/\aN t=0/\(1:Int)=0)
    rw[gM];exact⟨ea _,rfl,rfl⟩
   ·refine(hw w).mono ?_
    rintro e w' ⟨rfl,hb⟩
    refine⟨?_,Da hb⟩
    rw[e1];unfold zw;rw[gM]
    show _=Ending.returned (.tuple #[.string (aL (U (dC c))),.bool (decide (aN t=1)),.bool true])
    rw[ea,CK];rfl
end Go.bH
namespace Go.Proofs
open Go.RowKit Go.bH
theorem aiO {T e:TypeId} {B b:Nat} {bs:List Value} {w w':World} (h:Lib.IsBuilder T e B b bs w) (hk:∀k,k<w.heap.size->w'.heap[k]?=w.heap[k]?):Lib.IsBuilder T e B b bs w':=by
 have lt:∀{k:Nat} {x:Obj},w.heap[k]?=some x->k<w.heap.size:=λ{k x} hx=>by
  rcases Nat.lt_or_ge k w.heap.size with h'|h'
  ·exact h'
  ·rw[Array.getElem?_eq_none h']at hx;cases hx
 have one:∀{q:Value},Lib.BuilderAt T e B b q bs w->Lib.BuilderAt T e B b q bs w':=λ{q} h=>by
  obtain⟨hB,v,hb,⟨rb,nx⟩,hne⟩:=h
  refine⟨hB,v,by rw[hk b (lt hb)];exact hb,⟨rb,?_⟩,hne⟩
  rcases nx with h|⟨g,cap,cur,h1,h2,h3,h4⟩
  ·exact .inl h
  ·exact .inr ⟨g,cap,cur,h1,h2,by rw[hk g (lt h3)];exact h3,h4⟩
 exact h.elim (λx=> .inl (one x)) λx=> .inr (one x)
theorem splice3 (l:ax) (i n:Nat) (hn:n<=3) (lL:n=3∨n=l.length-i):splice [Value.int .u8 0,Value.int .u8 0,Value.int .u8 0] 0 ((List.range n).map λj=>Value.int .u8 (l.getD (i+j) 0).toNat)=[Value.int .u8 (l.getD i 0).toNat,Value.int .u8 (l.getD (i+1) 0).toNat,Value.int .u8 (l.getD (i+2) 0).toNat]:=by
 have z:∀j,l.length-i<=j->((l.getD (i+j) 0).toNat:Int)=0:=λj hj=>by
  rw[show l.getD (i+j) 0=0 by simp only[List.getD];rw[List.getElem?_eq_none (by omega)];rfl];rfl
 match n,hn with
 |0,_=>rcases lL with h|h<;>first|omega|(have z0:=z 0 (by omega);have ae:=z 1 (by omega);have z2:=z 2 (by omega);rw[Nat.add_zero]at z0;rw[z0,ae,z2];rfl)
 |1,_=>rcases lL with h|h<;>first|omega|(have ae:=z 1 (by omega);have z2:=z 2 (by omega);rw[ae,z2];rfl)
 |2,_=>rcases lL with h|h<;>first|omega|(have z2:=z 2 (by omega);rw[z2];rfl)
 |3,_=>rfl
open Go.bg in
theorem acv {x0 x1 x2:Int} (a0:0<=x0) (a1:x0<=255) (b0:0<=x1) (b1:x1<=255) (bE:0<=x2) (c1:x2<=255):bits BinOp.or IntKind.i64 (bits BinOp.or IntKind.i64 (wrap64 (wrap64 x0*65536)) (wrap64 (wrap64 x1*256))) (wrap64 x2)=65536*x0+256*x1+x2:=by
 have w:∀z:Int,0<=z->z<9223372036854775808->wrap64 z=z:=λz h0 h1=>by unfold wrap64;omega
 rw[w x0 a0 (by omega),w x1 b0 (by omega),w x2 bE (by omega),w (x0*65536) (by omega) (by omega),w (x1*256) (by omega) (by omega)]
 have e1:bits BinOp.or IntKind.i64 (x0*65536) (x1*256)=65536*x0+256*x1:=by
  have h:cC BinOp.or IntKind.i64 (x0*65536) (x1*256)=_:=GR (k:= .i64) (x:=x0*65536) (y:=x1*256) (by omega) (by omega) (show _<(9223372036854775808:Int) by omega) (show _<(9223372036854775808:Int) by omega)
  have h2:bits BinOp.or IntKind.i64 (x0*65536) (x1*256)=cC BinOp.or IntKind.i64 (x0*65536) (x1*256):=rfl
  rw[h2,h,EU (s:=65536) ⟨16,rfl⟩ (by omega) (by omega)];omega
 rw[e1]
 have h:cC BinOp.or IntKind.i64 (65536*x0+256*x1) x2=_:=GR (k:= .i64) (x:=65536*x0+256*x1) (y:=x2) (by omega) (by omega) (show _<(9223372036854775808:Int) by omega) (show _<(9223372036854775808:Int) by omega)
 have h2:bits BinOp.or IntKind.i64 (65536*x0+256*x1) x2=cC BinOp.or IntKind.i64 (65536*x0+256*x1) x2:=rfl
 rw[h2,h,EU (s:=256) ⟨8,rfl⟩ (by omega) (by omega)];omega
open Go.bg in
theorem acu {x:Int} (h0:0<=x) (h1:x<9223372036854775808):bits BinOp.and IntKind.i64 x 63=((x.toNat% 64:Nat):Int):=by
 have h:cC BinOp.and IntKind.i64 x 63=_:=LI (k:= .i64) (x:=x) (y:=63) h0 (by decide) (show _<(9223372036854775808:Int) by omega) (by decide)
 have h2:bits BinOp.and IntKind.i64 x 63=cC BinOp.and IntKind.i64 x 63:=rfl
 rw[h2,h]
 exact congrArg Int.ofNat (Nat.and_two_pow_sub_one_eq_mod x.toNat 6)
theorem Ye (a b c:UInt8) (r:ax):fD (a::b::c::r)=lh (a.toNat/4)::lh (a.toNat% 4*16+b.toNat/16)::lh (b.toNat% 16*4+c.toNat/64)::lh (c.toNat% 64)::fD r:=by conv=>lhs;unfold fD
theorem aoG {l:ax} {i n:Nat} {x0 x1 x2 bX:Int} (hlt:i<l.length) (h1:1<=n) (h3:n<=3) (e8:n<=l.length-i) (lL:n=3∨n=l.length-i) (hx0:x0=(l.getD i 0).toNat) (hx1:x1=(l.getD (i+1) 0).toNat) (hx2:x2=(l.getD (i+2) 0).toNat) (hb:bX=65536*x0+256*x1+x2):
 fD (l.drop i)=(List.range (n+1)).map (λj=>lh ((bX/2^(18-6*j)).toNat% 64))++fD (l.drop (i+n)):=by
 have z:∀j,l.length<=j->((l.getD j 0).toNat:Int)=0:=λj hj=>by
  rw[show l.getD j 0=0 by simp only[List.getD];rw[List.getElem?_eq_none (by omega)];rfl];rfl
 have a1:=(l.getD i 0).toNat_lt
 have a2:=(l.getD (i+1) 0).toNat_lt
 have a3:=(l.getD (i+2) 0).toNat_lt
 have L:∀{u v:Nat},u=v->lh u=lh v:=λh=>congrArg lh h
 match n,h1,h3 with
 |1,_,_=>
  have hl:l.length=i+1:=by omega
  have d1:l.drop (i+1)=[]:=List.drop_eq_nil_of_le (by omega)
  rw[z (i+1) (by omega)]at hx1
  rw[z (i+2) (by omega)]at hx2
  rw[qO l i hlt,d1]
  show [_,_]=[_,_]
  rw[L (show(l.getD i 0).toNat/4=(bX/2^(18-6*0)).toNat% 64 by show _=(bX/262144).toNat% 64;omega),L (show(l.getD i 0).toNat% 4*16=(bX/2^(18-6*1)).toNat% 64 by show _=(bX/4096).toNat% 64;omega)]
 |2,_,_=>
  have hl:l.length=i+2:=by omega
  have d2:l.drop (i+2)=[]:=List.drop_eq_nil_of_le (by omega)
  rw[z (i+2) (by omega)]at hx2
  rw[qO l i hlt,qO l (i+1) (by omega),d2]
  show [_,_,_]=[_,_,_]
  rw[L (show(l.getD i 0).toNat/4=(bX/2^(18-6*0)).toNat% 64 by show _=(bX/262144).toNat% 64;omega),L (show(l.getD i 0).toNat% 4*16+(l.getD (i+1) 0).toNat/16=(bX/2^(18-6*1)).toNat% 64 by show _=(bX/4096).toNat% 64;omega),L (show(l.getD (i+1) 0).toNat% 16*4=(bX/2^(18-6*2)).toNat% 64 by show _=(bX/64).toNat% 64;omega)]
 |3,_,_=>
  rw[qO l i hlt,qO l (i+1) (by omega),qO l (i+2) (by omega),Ye]
  show _::_::_::_::_=_::_::_::_::_
  rw[L (show(l.getD i 0).toNat/4=(bX/2^(18-6*0)).toNat% 64 by show _=(bX/262144).toNat% 64;omega),L (show(l.getD i 0).toNat% 4*16+(l.getD (i+1) 0).toNat/16=(bX/2^(18-6*1)).toNat% 64 by show _=(bX/4096).toNat% 64;omega),L (show(l.getD (i+1) 0).toNat% 16*4+(l.getD (i+2) 0).toNat/64=(bX/2^(18-6*2)).toNat% 64 by show _=(bX/64).toNat% 64;omega),L (show(l.getD (i+2) 0).toNat% 64=(bX/2^(18-6*3)).toNat% 64 by show _=(bX/1).toNat% 64;omega)]
  rfl
set_option maxHeartbeats 4000000 in
set_option maxRecDepth 1000000 in
theorem Tryz.adU (al:ByteArray) (dj:al.data.toList=zp) (l:ax) (p:Option Addr) (g o cap:Nat) (w:World) (hp:0<l.length->p=some ⟨g,o,none⟩/\l.length<=cap/\∀j,j<l.length->w.cell? ⟨g,o+j,none⟩=some (.int .u8 (l.getD j 0).toNat)) (hl:l.length<=1099511627776):
 Calls Tryz.prog 61 #[.string al,.slice p l.length cap] w λe w'=>e= .returned (.string ⟨(fD l).toArray⟩)/\Below w.heap.size w w':=by
 go_enter Tryz.func61,Tryz.ntmps61
 go_wp2
 go_loopw [1] (λvs wr=>∃(i c:Nat) (q:Option Addr) (d:List UInt8),vs= .slice q (l.length-i) c/\i<=l.length/\(i<l.length->q=some ⟨g,o+i,none⟩/\l.length-i<=c)/\d.length<=4*i/\Hid (d++fD (l.drop i)=fD l)/\Lib.IsBuilder 121 5 w.heap.size w.heap.size (Lib.byteCells d) wr/\Below w.heap.size w wr) (λvs _=>match vs with| .slice _ n _=>n|_=>0)
 case atStart=>
  refine⟨0,cap,p,[],rfl,Nat.zero_le _,λh=>?_,Nat.zero_le _,rfl,Lib.fresh_isBuilder 121 5 w,(Below.refl _ w).alloc (Nat.le_refl _) _⟩
  obtain⟨h1,h2,_⟩:=hp (by omega)
  exact⟨h1,by omega⟩
 case round=>
  obtain⟨i,c,q,d,rfl,hi,hq,hd,hb,hI,k6⟩:=hrel
  by_cases hlt:i<l.length
  ·obtain⟨rfl,hc⟩:=hq hlt
   have hsz:(Tryz.prog.info? 5).map (·.size)=some 1:=by kernel_rfl
   obtain⟨_,_,hcell⟩:=hp (by omega)
   obtain⟨lW,rfl⟩:∃lW:World,lW=wr:=⟨_,rfl⟩
   go_wp2
   obtain⟨n,hn⟩:∃n:Nat,n=min 3 (l.length-i):=⟨_,rfl⟩
   have Au:min 3 ((l.length-i:Nat):Int)=(n:Int):=by omega
   rw[Au]
   clear Au
   have n4:1<=n:=by omega
   have ra:n<=3:=by omega
   have e8:n<=l.length-i:=by omega
   have lL:Hid (n=3∨n=l.length-i):=show n=3∨n=l.length-i by omega
   clear hn
   have VU:n<=c:=by omega
   have ag1:g<w.heap.size:=block_lt_of_cell (hcell 0 (by omega))
   have hgo:¬g=lW.heap.size:=by have:=k6.size;omega
   have hrow:∀W:World,W.heap=(lW.alloc (.cells #[.int .u8 0,.int .u8 0,.int .u8 0] 122)).heap->W.heap[lW.heap.size]?=some (.cells [.int .u8 0,.int .u8 0,.int .u8 0].toArray 122 (0,0)):=λW h=>by rw[h];show(lW.heap.push _)[lW.heap.size]?=_;rw[Array.getElem?_push_size]
   have ql:∀W:World,W.heap=(lW.alloc (.cells #[.int .u8 0,.int .u8 0,.int .u8 0] 122)).heap->∀j v,((List.range n).map λj=>Value.int .u8 (l.getD (i+j) 0).toNat)[j]?=some v->W.cell? ((⟨g,o+i,none⟩:Addr).add j)=some v:=λW h j v hj=>by
    rw[List.getElem?_map]at hj
    have vz:j<n:=by
     rcases Nat.lt_or_ge j n with h|h
     ·exact h
     ·rw[List.getElem?_eq_none (by simpa using h)]at hj;cases hj
    rw[List.getElem?_range vz]at hj
    simp only[Option.map_some,Option.some.injEq]at hj
    subst hj
    have e1:=hcell (i+j) (by omega)
    have e2:W.cell? ⟨g,o+(i+j),none⟩=w.cell? ⟨g,o+(i+j),none⟩:=by
     unfold World.cell?
     simp only[h]
     have:=Lib.alloc_old lW (.cells #[.int .u8 0,.int .u8 0,.int .u8 0] 122) g (by have:=k6.size;omega)
     rw[this,k6.block g ag1]
    rw[Addr.add_lit,Nat.add_assoc,e2,e1]
   go_region_law (refine step_copy_splice rfl (.tmp 16) (.tmp 19) 63 63 rfl 5 Tryz.underlying63 hsz (some ⟨lW.heap.size,0,none⟩) (some ⟨g,o+i,none⟩) 3 3 n c (by simp[Act.eval,Act.put]) (by simp[Act.eval,Act.put]) lW.heap.size 0 [.int .u8 0,.int .u8 0,.int .u8 0] 122 (hrow _ rfl) ((List.range n).map λj=>Value.int .u8 (l.getD (i+j) 0).toNat) (by simp only[List.length_map,List.length_range];exact(Nat.min_eq_left ra).symm) (λ_=>⟨rfl,_,rfl,ql _ rfl⟩) (by simp;omega) (λv hv=>by simp at hv;obtain⟨_,_,rfl⟩:=hv;rfl) lW.heap.size lW ((Below.refl _ lW).alloc (Nat.le_refl _) _).drew (Nat.le_refl _) ?_;intro w4 hg4 hb4)
   have hg4:w4.heap[lW.heap.size]?=some (.cells (splice _ _ _).toArray 122 (0,0)):=hg4
   rw[splice3 l i n ra lL]at hg4
   obtain⟨x0,hx0⟩:∃x:Int,x=(l.getD i 0).toNat:=⟨_,rfl⟩
   obtain⟨x1,hx1⟩:∃x:Int,x=(l.getD (i+1) 0).toNat:=⟨_,rfl⟩
   obtain⟨x2,hx2⟩:∃x:Int,x=(l.getD (i+2) 0).toNat:=⟨_,rfl⟩
   rw[<-hx0,<-hx1,<-hx2]at hg4
   have bE:w4.cell? ⟨lW.heap.size,0,none⟩=some (.int .u8 x0):=by rw[Lib.cell_of_heap hg4];rfl
   have c1:w4.cell? ⟨lW.heap.size,1,none⟩=some (.int .u8 x1):=by rw[Lib.cell_of_heap hg4];rfl
   have c2:w4.cell? ⟨lW.heap.size,2,none⟩=some (.int .u8 x2):=by rw[Lib.cell_of_heap hg4];rfl
   have ae0:Below w.heap.size w w4:=k6.trans (hb4.mono k6.size)
   have ae8:=aiO hI (λk hk=>hb4.block k hk)
   obtain⟨q',hq',ahK⟩:∃q',(if c=n then some (⟨g,o+i,none⟩:Addr)else some ⟨g,o+i+n,none⟩)=q'/\Hid (i+n<l.length->q'=some ⟨g,o+(i+n),none⟩):=⟨_,rfl,λh=>by rw[if_neg (by omega),Nat.add_assoc]⟩
   replace hx0:Hid _:=hx0
   replace hx1:Hid _:=hx1
   replace hx2:Hid _:=hx2
   clear hgo hrow ql
   go_wp2
   obtain⟨bX,DP⟩:∃bX:Int,bits BinOp.or IntKind.i64 (bits BinOp.or IntKind.i64 (wrap64 (wrap64 x0*65536)) (wrap64 (wrap64 x1*256))) (wrap64 x2)=bX:=⟨_,rfl⟩
   rw[DP]
   have uK:x0=(l.getD i 0).toNat:=hx0
   have kR:x1=(l.getD (i+1) 0).toNat:=hx1
   have na:x2=(l.getD (i+2) 0).toNat:=hx2
   have u0:=(l.getD i 0).toNat_lt
   have ib:=(l.getD (i+1) 0).toNat_lt
   have nM:=(l.getD (i+2) 0).toNat_lt
   have Vi:bX=65536*x0+256*x1+x2:=by rw[<-DP];exact acv (by omega) (by omega) (by omega) (by omega) (by omega) (by omega)
   have NO:Hid (fD (l.drop i)=_):=aoG hlt n4 ra e8 lL uK kR na Vi
   have hbl:0<=bX:=by omega
   have awF:bX<16777216:=by omega
   have agk:al.size=64:=by show al.data.size=64;rw[<-Array.length_toList,dj];rfl
   clear Vi uK kR na u0 ib nM
   clear DP
   have hw4:lW.heap.size<=w4.heap.size:=hb4.size
   clear hg4 bE c1 c2 hq' hcell hI k6 hb4
   go_loopw [39] (λv m9=>∃k:Nat,v= .int .i64 k/\k<=n+1/\Lib.IsBuilder 121 5 w.heap.size w.heap.size (Lib.byteCells (d++(List.range k).map λj=>lh ((bX/2^(18-6*j)).toNat% 64))) m9/\Below w.heap.size w m9) (λv _=>n+1-(RowKit.intOf v).toNat)
   case atStart=>
    refine⟨0,rfl,by omega,by simpa using ae8,ae0⟩
   case round=>
    obtain⟨k,rfl,hk,DC,Dy⟩:=hrel
    by_cases q9:k<n+1
    ·obtain⟨m,hm⟩:∃m:Nat,m=(bX/2^(18-6*k)).toNat% 64:=⟨_,rfl⟩
     have gO:(0:Int)<2^(18-6*k):=Int.pow_pos (by decide)
     have qi:0<=bX/2^(18-6*k):=Int.ediv_nonneg hbl (by omega)
     have nz:bX/2^(18-6*k)<=bX:=Int.ediv_le_self _ hbl
     have hand:bits BinOp.and IntKind.i64 (bX/2^(18-6*k)) 63=(m:Int):=by rw[hm];exact acu qi (by omega)
     have ahm:m<al.size:=by rw[agk,hm];exact Nat.mod_lt _ (by decide)
     have awW:((al[m]).toNat:Int)=(lh m).toNat:=by
      have:al[m]=lh m:=by
       have e:al.data.toList.getD m 0=al[m]:=by
        simp only[List.getD,List.getElem?_eq_getElem (show m<al.data.toList.length by rw[Array.length_toList];exact ahm),Option.getD_some]
        rfl
       rw[<-e,dj];rfl
      rw[this]
     replace hm:Hid _:=hm
     clear gO qi nz
     go_wp2_with (go_at_call 88;refine(Tryz.Builder_WriteByte w.heap.size w.heap.size _ _ _ DC (by rw[Lib.byteCells_length,List.length_append,List.length_map,List.length_range];omega) Dy.size).mono ?_)
     rintro e QW ⟨rfl,h1,b1⟩
     go_wp2
     go_roundw
     case rel=>
      refine⟨k+1,by simp,by omega,?_,Dy.trans b1⟩
      have hm:m=(bX/2^(18-6*k)).toNat% 64:=hm
      rw[List.range_succ,List.map_append,<-List.append_assoc,Lib.byteCells_append]
      rw[hm]at h1
      exact Or.inr h1
     case measure=>simp[intOf];omega
    ·have hk2:k=n+1:=by omega
     subst hk2
     go_wp2
     go_roundw
     case rel=>
      have NO:fD (l.drop i)=_:=NO
      have hb:d++fD (l.drop i)=fD l:=hb
      refine⟨i+n,c-n,q',_,by rw[Nat.sub_sub],by omega,λh=>⟨ahK h,by omega⟩,?_,?_,DC,Dy⟩
      ·rw[List.length_append,List.length_map,List.length_range];omega
      ·show _=_
       rw[List.append_assoc,<-NO,hb]
     case measure=>simp;omega
  ·have hz:l.length-i=0:=by omega
   have hI:Lib.IsBuilder 121 5 w.heap.size w.heap.size (Lib.byteCells d) wr:=hI
   rw[hz]
   go_wp2_with (go_at_call 89;refine(Tryz.Builder_String_any w.heap.size w.heap.size d _ hI k6.size).mono ?_)
   rintro e W1 ⟨rfl,b1⟩
   go_wp2
   go_ret
   have hb:d++fD (l.drop i)=fD l:=hb
   rw[List.drop_of_length_le (by omega)]at hb
   have hb:d++[]=fD l:=hb
   rw[List.append_nil]at hb
   exact⟨by rw[<-hb];rfl,k6.trans b1⟩
end Go.Proofs
namespace Go.bH
open Go Go.bg Go.Proofs Go.RowKit
theorem acH (z:Int):(gX z).length=(ab z).length:=by simp[gX]
theorem acG {z:Int} {i:Nat} {v:Int} (v0:0<=v) (v1:v<=255) (h:v=((ab z).getD i []).getD 0 0):((gX z).getD i 0).toNat=v.toNat:=by
 unfold gX
 by_cases hi:i<(ab z).length
 ·simp only[List.getD,List.getElem?_map,List.getElem?_eq_getElem hi,Option.map_some,Option.getD_some]at h⊢
  rw[<-h];simp;omega
 ·have e:(ab z)[i]?=none:=List.getElem?_eq_none (by omega)
  simp only[List.getD,List.getElem?_map,e,Option.map_none,Option.getD_none]at h⊢
  have:v=0:=by rw[h];rfl
  rw[this];rfl
theorem Yg:∀l:ax,(fD l).length<=2*l.length
 |[]=>by simp[fD]
 |[_]=>by simp[fD]
 |[_,_]=>by simp[fD]
 |a::b::c::r=>by
  have:=Yg r
  rw[Go.Proofs.Ye];simp;omega
theorem al9 {wb:World}:gW wb Is:=by
 refine⟨λargs w=>enters (by kernel_rfl) _ _,λF w vs zs hw hz gP hat=>?_⟩
 match zs,hz,vs,hat with
 |[r],hz,[v0,v1],hat=>
  obtain⟨h0,h1,_⟩:=hat
  have gP:(ab r).length<=1099511627776:=gP
  have h0:v0= .string (aL zp):=h0
  have h1:gB F w [.int .u8 0 255] (ab r) v1:=h1
  have hlen:=acH r
  obtain⟨p,g,o,cap,hv,hp⟩:∃(p:Option Addr) (g o cap:Nat),v1= .slice p (gX r).length cap/\(0<(gX r).length->p=some ⟨g,o,none⟩/\(gX r).length<=cap/\∀j,j<(gX r).length->w.cell? ⟨g,o+j,none⟩=some (.int .u8 ((gX r).getD j 0).toNat)):=by
   rcases h1 with⟨⟨p1,h1⟩,h2⟩|⟨g,o,cap,cells,t,fz,h1,⟨h2,_⟩,_,h3,h4⟩
   ·exact⟨p1,0,0,0,by rw[h1,hlen,h2];rfl,λh=>by rw[hlen,h2]at h;simp at h⟩
   ·refine⟨some ⟨g,o,none⟩,g,o,cap,by rw[h1,hlen],λ_=>⟨rfl,by omega,λj hj=>?_⟩⟩
    have hj':j<(ab r).length:=by omega
    have hrow:=List.getElem?_eq_getElem hj'
    obtain⟨z,z0,ae,z2,z3⟩:=(h4.1 _ (List.getElem_mem hj')).get (j:=0) (c:= .int .u8 0 255) rfl
    have hc:=((mF rfl).1 h4).get hrow z3
    have hb:=acG (z:=r) (i:=j) (v:=z) ae z2 (by simp only[List.getD,hrow,Option.getD_some,z0])
    have hz':((((gX r).getD j 0).toNat:Nat):Int)=z:=by rw[hb];exact Int.toNat_of_nonneg ae
    rw[hz']
    have hc:cells[o+j]?=some (.int .u8 z):=by simpa [ay.val]using hc
    unfold World.cell?
    rw[h3]
    exact hc
  subst h0 hv
  refine(Tryz.adU (aL zp) (by simp[aL]) (gX r) p g o cap w hp (by omega)).mono ?_
  rintro e w' ⟨rfl,hb⟩
  have hl:=Yg (gX r)
  refine⟨Da hb,[dC (fD (gX r))],[.string ⟨(fD (gX r)).toArray⟩],⟨(CV (l:=fD (gX r)) hl (by omega)).1,(CV (l:=fD (gX r)) hl (by omega)).2,trivial⟩,?_,⟨?_,trivial⟩,rfl⟩
  ·show U (dC (fD (gX r)))=fD (gX r)
   exact ea _
  ·show Value.string _=Value.string (aL (U (dC (fD (gX r)))))
   rw[ea];rfl
end Go.bH
namespace Go.Proofs
open Go.RowKit Go.bg
section
variable {P:Program}
end
theorem sR (w:World) (g:Nat) (a:Array Value):iK w (w.setRow g a) (some g):=
 ⟨rfl,rfl,rfl,by simp[World.setRow],λk hk hne=>setRow_other w g k a (λe=>hne (by rw[e]))⟩
end Go.Proofs
namespace Go.Proofs
open Go.RowKit Go.bg
section
variable {P:Program}
theorem wh (w:World) (TJ apX ty e:TypeId) (i:TypeInfo) (hu:P.underlying TJ=some (.slice e)) (hi:P.info? e=some i) (g o Hc adn:Nat) (a:Addr) (kP uz:Nat) (cur:Array Value) (t:TypeId) (cs:List Value)
 (hg:w.heap[g]?=some (.cells cur t (0,0))) (hn:cs.length=Nat.min kP Hc*i.size) (ql:∀j v,cs[j]?=some v->w.cell? (a.add j)=some v) (sj:o+cs.length<=cur.size) (h1:∀v∈cs,v.oneCell'=true):
 (Builtin.copy_ #[TJ,apX] ty #[.slice (some ⟨g,o,none⟩) Hc adn,.slice (some a) kP uz]).run P w= .ok (goInt (Nat.min kP Hc)) (w.setRow g (cur.toList.take o++cs++cur.toList.drop (o+cs.length)).toArray):=by
 have hst:=run_storeCells_at P g o t cs 0 cur w hg (by simpa using sj) h1
 rw[Nat.add_zero]at hst
 have hf:=run_firstCells_some (P:=P) w i.size (Nat.min kP Hc) a kP uz cs hn ql
 simp[Builtin.copy_,run_underlying hu,Builtin.lenOf,sizeOf,typeInfo,hi,hf,hst]
theorem JF {ops:Array Oper} {o:Oper} {a:Act} {w:World} {K:Act->World->Prop} {Q:Exit->Act->World->Prop} {E:Prop}
 (hg:o.guard=none) (s x:Operand) (t t':TypeId) (hop:o.op=Op.call {callee:=Callee.builtin Builtin.copy,args:=#[s,x],argTypes:=#[t,t']}) (u v:Value) (hs:a.eval s=u) (hx:a.eval x=v) {r:Value} {w':World}
 (hr:(Builtin.copy_ #[t,t'] o.type #[u,v]).run P w= .ok r w') (hK:K (a.put o.dst r) w'):if Region.wanted o (yielded ops a.tmps)=true then Oper.wp P o a w K Q else E:=by
 have hw:Region.wanted o (yielded ops a.tmps)=true:=by simp[Region.wanted,hg]
 rw[if_pos hw]
 unfold Oper.wp
 simp[execOp,hop,resolve,invoke,builtin,hs,hx,hr,Result.andThen]
 exact hK
theorem wx {w:World} {ops:Array Oper} {rest:List Oper} {o:Oper} {a:Act} {Q:Exit->Act->World->Prop} (hgd:o.guard=none) (s x:Operand) (t t':TypeId)
 (ho:o.op= .call {callee:= .builtin .append,args:=#[s,x],argTypes:=#[t,t']}) (u v:Value) (hs:a.eval s=u) (hx:a.eval x=v) {r:Value} {w':World}
 (hr:(Builtin.append_ #[t,t'] o.type #[u,v]).run P w= .ok r w') (h:wpList P ops Q rest (a.put o.dst r) w'):wpList P ops Q (o::rest) a w:=by
 refine wpList_plain hgd λK hK=>?_
 unfold Oper.wp
 simp[execOp,ho,resolve,invoke,builtin,hs,hx,hr,Result.andThen]
 exact hK _ _ h
end
set_option maxHeartbeats 4000000 in
set_option maxRecDepth 1000000 in
theorem Tryz.WL (g n cap:Nat) (A:Addr) (vc:Nat) (r:Value) (w W1:World) (hn:n<=cap) (cK:cap<=9223372036854775807)
 (im:∀ty,(Builtin.append_ #[28,28] ty #[.slice (some ⟨g,0,none⟩) n cap,.slice (some A) 1 vc]).run Tryz.prog w= .ok r W1):
 Calls Tryz.prog 74 #[.slice (some ⟨g,0,none⟩) n cap,.int .i64 n,.slice (some A) 1 vc] w λe w'=>e= .returned r/\w'=W1:=by
 obtain⟨B,hB⟩:∃B,(if cap=n then some (⟨g,0,none⟩:Addr)else some ⟨g,n*5,none⟩)=B:=⟨_,rfl⟩
 go_enter Tryz.func74,Tryz.ntmps74
 go_wp2_with (at_builtin;refine wx rfl (.tmp 23) (.tmp 24) 28 28 rfl _ _ rfl rfl (im _) ?_)
 go_wp2
 all_goals (go_ret;exact⟨rfl,rfl⟩)
set_option maxHeartbeats 4000000 in
set_option maxRecDepth 1000000 in
theorem Tryz.insert_nil (A:Addr) (vc:Nat) (r:Value) (w W1:World)
 (im:∀ty,(Builtin.append_ #[28,28] ty #[.slice none 0 0,.slice (some A) 1 vc]).run Tryz.prog w= .ok r W1):
 Calls Tryz.prog 74 #[.slice none 0 0,.int .i64 0,.slice (some A) 1 vc] w λe w'=>e= .returned r/\w'=W1:=by
 go_enter Tryz.func74,Tryz.ntmps74
 go_wp2_with (at_builtin;refine wx rfl (.tmp 23) (.tmp 24) 28 28 rfl _ _ rfl rfl (im _) ?_)
 go_wp2
 all_goals (go_ret;exact⟨rfl,rfl⟩)
set_option maxHeartbeats 4000000 in
set_option maxRecDepth 1000000 in
theorem Tryz.aiL (g n cap i G C:Nat) (A:Addr) (vc:Nat) (r1 r2:Value) (w W1 W2 W3:World) (cE:i<n) (hn:n<=cap) (hroom:cap<n+1) (hC:n+1<=C) (ee:n<=1073741824)
 (im:∀ty,(Builtin.append_ #[28,3] ty #[.slice (some ⟨g,0,none⟩) i cap,.int .i64 ((n:Int)+1-(i:Int))]).run Tryz.prog w= .ok (.slice (some ⟨G,0,none⟩) (n+1) C) W1)
 (jT:∀ty,(Builtin.copy_ #[28,28] ty #[.slice (some ⟨G,i*5,none⟩) (n+1-i) (C-i),.slice (some A) 1 vc]).run Tryz.prog W1= .ok r1 W2)
 (mP:∀ty,(Builtin.copy_ #[28,28] ty #[.slice (some ⟨G,(i+1)*5,none⟩) (n+1-(i+1)) (C-(i+1)),.slice (some ⟨g,i*5,none⟩) (n-i) (cap-i)]).run Tryz.prog W2.drew= .ok r2 W3):
 Calls Tryz.prog 74 #[.slice (some ⟨g,0,none⟩) n cap,.int .i64 i,.slice (some A) 1 vc] w λe w'=>e= .returned (.slice (some ⟨G,0,none⟩) (n+1) C)/\w'=W3:=by
 have f1:¬cap=i:=by omega
 have f2:¬C=i:=by omega
 have f3:¬C=i+1:=by omega
 have f4:i<=cap:=by omega
 have f5:¬((i:Int)=(n:Int)):=by omega
 have f6:(cap:Int)<(n:Int)+1:=by omega
 have f7:i<=C:=by omega
 have f8:i+1<=C:=by omega
 have f9:((i:Int)+1).toNat=i+1:=by omega
 have f10:(0:Int)<=(i:Int)+1:=by omega
 have f11:(i:Int)+1<=(n:Int)+1:=by omega
 have f12:i<=n:=by omega
 have f13:IntKind.i64.wrap ((i:Int)+1)=(i:Int)+1:=by rw[IntKind.wrap_i64];omega
 go_enter Tryz.func74,Tryz.ntmps74
 go_wp2_with (first
  |(at_builtin;refine wx rfl (.tmp 34) (.tmp 39) 28 3 rfl _ _ rfl rfl (im _) ?_)
  |(at_builtin;refine QY rfl (.tmp 43) (.tmp 44) 28 28 rfl _ _ rfl rfl (jT _) ?_))
 go_region_law (refine JF rfl (.tmp 50) (.tmp 53) 28 28 rfl (.slice (some ⟨G,(i+1)*5,none⟩) (n+1-(i+1)) (C-(i+1))) (.slice (some ⟨g,i*5,none⟩) (n-i) (cap-i)) (by simp[Act.eval,Act.put]) (by simp[Act.eval,Act.put]) (mP _) ?_)
 go_wp2
 go_ret
 exact⟨rfl,rfl⟩
set_option maxHeartbeats 4000000 in
set_option maxRecDepth 1000000 in
theorem Tryz.aiM (g n cap i:Nat) (A:Addr) (vc:Nat) (r1 r2:Value) (w W1 W2:World) (cE:i<n) (hn:n+1<=cap) (ee:n<=1073741824)
 (Ax:(callFunc 103 #[.slice (some A) 1 vc,.slice (some ⟨g,(i+1)*5,none⟩) (n-i) (cap-(i+1))]).run Tryz.prog w= .ok (.value (.bool false)) w)
 (jT:∀ty,(Builtin.copy_ #[28,28] ty #[.slice (some ⟨g,(i+1)*5,none⟩) (n+1-(i+1)) (cap-(i+1)),.slice (some ⟨g,i*5,none⟩) (n+1-i) (cap-i)]).run Tryz.prog w.drew= .ok r1 W1)
 (mP:∀ty,(Builtin.copy_ #[28,28] ty #[.slice (some ⟨g,i*5,none⟩) (n+1-i) (cap-i),.slice (some A) 1 vc]).run Tryz.prog W1= .ok r2 W2):
 Calls Tryz.prog 74 #[.slice (some ⟨g,0,none⟩) n cap,.int .i64 i,.slice (some A) 1 vc] w λe w'=>e= .returned (.slice (some ⟨g,0,none⟩) (n+1) cap)/\w'=W2:=by
 have f1:¬cap=i:=by omega
 have f3:¬cap=i+1:=by omega
 have f4:i<=cap:=by omega
 have f5:¬((i:Int)=(n:Int)):=by omega
 have f6:¬(cap:Int)<(n:Int)+1:=by omega
 have f8:i+1<=cap:=by omega
 have f9:((i:Int)+1).toNat=i+1:=by omega
 have f10:(0:Int)<=(i:Int)+1:=by omega
 have f11:(i:Int)+1<=(n:Int)+1:=by omega
 have f12:i<=n:=by omega
 have f13:IntKind.i64.wrap ((i:Int)+1)=(i:Int)+1:=by rw[IntKind.wrap_i64];omega
 have f14:((n:Int)+1).toNat=n+1:=by omega
 have f15:(n:Int)+1<=(cap:Int):=by omega
 have f16:i<=n+1:=by omega
 have f17:(i:Int)<=(n:Int)+1:=by omega
 go_enter Tryz.func74,Tryz.ntmps74
 go_wp2
 go_region_law (refine JF rfl (.tmp 73) (.tmp 76) 28 28 rfl (.slice (some ⟨g,(i+1)*5,none⟩) (n+1-(i+1)) (cap-(i+1))) (.slice (some ⟨g,i*5,none⟩) (n+1-i) (cap-i)) (by simp[Act.eval,Act.put]) (by simp[Act.eval,Act.put]) (jT _) ?_)
 go_wp2_with (at_builtin;refine QY rfl (.tmp 80) (.tmp 81) 28 28 rfl _ _ rfl rfl (mP _) ?_)
 go_wp2
 go_ret
 exact⟨rfl,rfl⟩
end Go.Proofs
namespace Go.bH
open Go Go.bg Go.Proofs Go.RowKit
theorem BZ (w:World) (o:Obj) (own:Option Nat):iK w (w.drew.alloc o) own:=
 have h:=(World.Extends.refl w.drew).alloc o
 ⟨h.os,h.tape,h.output,h.size,λk hk _=>h.block k hk⟩
theorem iK.B7 {w w1 w2:World} {own:Option Nat} {g:Nat} (h:iK w w1 own) (h2:iK w1 w2 (some g)) (hg:own=some g∨w.heap.size<=g):iK w w2 own:=by
 obtain⟨a1,a2,a3,a4,a5⟩:=h
 obtain⟨b1,b2,b3,b4,p2⟩:=h2
 refine⟨b1.trans a1,b2.trans a2,b3.trans a3,Nat.le_trans a4 b4,λk hk hne=>?_⟩
 rw[p2 k (Nat.lt_of_lt_of_le hk a4) (λe=>?_),a5 k hk hne]
 cases e
 rcases hg with hg|hg
 ·exact hne hg
 ·omega
theorem iK.TW {w w1:World} {own:Option Nat} (h:iK w w1 own):iK w w1.drew own:=h
theorem YT {P:Program} (w:World) (Fu aqI e:TypeId) (ht:P.underlying Fu=some (.slice e)) (size:Nat) (hz:∀w,(Go.sizeOf e).run P w= .ok size w)
 (a b:Addr) (la ca lb cb:Nat) (hne:a.block≠b.block) (CU Tp:Array Value) (B4 Zt:TypeId) (ad2:Nat×Nat)
 (hA:w.heap[a.block]?=some (.cells CU B4 ad2)) (hB:w.heap[b.block]?=some (.cells Tp Zt (0,0))) (h0:CU.size≠0):
 (Extern.SlicesOverlaps.overlaps #[Fu,Fu] #[aqI] #[.slice (some a) la ca,.slice (some b) lb cb]).run P w= .ok (.bool false) w:=by
 have N3:(a.block != b.block)=true:=by simpa using hne
 have ahr:(a.block==b.block)=false:=by simpa using hne
 have V5:w.shape? a.block=some (B4,CU.size):=by unfold World.shape?;rw[hA]
 have ahS:w.shape? b.block=some (Zt,Tp.size):=by unfold World.shape?;rw[hB]
 have agQ:∀o,w.frozen? ⟨b.block,o,none⟩=false:=λo=>by unfold World.frozen?;simp only[hB];simp
 have agR:w.frozen? b=false:=by unfold World.frozen?;simp only[hB];simp
 change Sem.run P (α:=Value) (do
  let some t:=(#[Fu,Fu]:Array TypeId)[0]?|stuck "slices.overlaps: no parameter types"
  let .slice elem<-underlying t|stuck "slices.overlaps: slice type expected"
  let size<-Go.sizeOf elem
  match(some a:Option Addr),(some b:Option Addr)with
  |some a,some b=>
   if la=0∨lb=0∨size=0 then pure (Value.bool false)
   else if a.block != b.block&&(<-frozen a)&&(<-frozen b)then unsupported .addressObserved
   else do
    if a.block != b.block then do
     noView a;noView b
     if<-mayBeOne a b then return Value.bool ((<-choose (.extern "sameAddr.stringBytes" 2))==1)
    pure (Value.bool (a.block==b.block&&a.off<b.off+lb*size&&b.off<a.off+la*size))
  |_,_=>pure (Value.bool false)) w=_
 by_cases hl:la=0∨lb=0∨size=0
 ·simp[run_underlying ht,hz,hl]
 ·obtain⟨ai4,aha⟩:∃k,CU.size=k+1:=⟨CU.size-1,by omega⟩
  rw[aha]at V5
  cases h1:w.frozen? a<;>cases h2:w.frozen? ⟨a.block,ai4+1,none⟩<;>simp[run_underlying ht,hz,hl,N3,ahr,frozen,noView,viewAt,mayBeOne,stringish,shape,Sem.run,V5,ahS,agQ,agR,h1,h2]
theorem Yx {α:Type} {cells rS L2 N rest:List α} {x y z:Nat} (h:cells=rS++L2++rest) (h1:rS.length=x) (hy:z<=cells.length) (hN:N=N) (hz:z=x+y):
 (cells.take z++L2++cells.drop (z+L2.length)).toArray.toList.take x++N++(cells.take z++L2++cells.drop (z+L2.length)).toArray.toList.drop (x+y)=rS++N++L2++cells.drop (z+L2.length):=by
 simp only
 have e1:(cells.take z++L2++cells.drop (z+L2.length)).take x=rS:=by
  rw[List.append_assoc,List.take_append_of_le_length (by rw[List.length_take];omega),List.take_take,Nat.min_eq_left (by omega),h,List.append_assoc,List.take_append_of_le_length (by omega),List.take_of_length_le (by omega)]
 have e2:(cells.take z++L2++cells.drop (z+L2.length)).drop (x+y)=L2++cells.drop (z+L2.length):=by
  rw[List.append_assoc,<-hz]
  have:(cells.take z).length=z:=by rw[List.length_take];omega
  conv=>lhs;arg 1;rw[<-this]
  rw[List.drop_left]
 rw[e1,e2]
 simp
theorem UO {α:Type} {rS L2 N D:List α} {x y:Nat} (h1:rS.length=x) (hN:N.length=y):
 (rS++N++D).toArray.toList.take (x+y)++L2++(rS++N++D).toArray.toList.drop (x+y+L2.length)=rS++N++L2++(rS++N++D).toArray.toList.drop (x+y+L2.length):=by
 congr 2
 simp only
 rw[List.take_append_of_le_length (by rw[List.length_append];omega),List.take_of_length_le (by rw[List.length_append];omega)]
theorem aiH (p:Option Addr) (A:Addr) (vc:Nat) (r:Value) (w W1:World)
 (im:∀ty,(Builtin.append_ #[28,28] ty #[.slice p 0 0,.slice (some A) 1 vc]).run Tryz.prog w= .ok r W1):
 Calls Tryz.prog 74 #[.slice p 0 0,.int .i64 0,.slice (some A) 1 vc] w λe w'=>e= .returned r/\w'=W1:=by
 go_enter Tryz.func74,Tryz.ntmps74
 go_wp2_with (at_builtin;refine wx rfl (.tmp 23) (.tmp 24) 28 28 rfl _ _ rfl rfl (im _) ?_)
 go_wp2
 all_goals (go_ret;exact⟨rfl,rfl⟩)
theorem amh {wb:World}:eg.dZ Tryz.prog wb (b7 sh SB eg.id):=by
 refine⟨λargs w=>enters (by kernel_rfl) _ _,λF w v0 code vs zs hw ho hc hz gP hat hF=>?_⟩
 match zs,hz,vs,hat with
 |[i,r],hz,[vi,QV],hat=>
  obtain⟨tZ,pD,_⟩:=hat
  have tZ:vi= .int .i64 i:=tZ
  have Ow:gB F w eg.sh (ab r) QV:=pD
  clear pD
  have gP:(0<=i/\i<=((ab code).length:Int))/\(ab r).length=1/\(ab code).length+1<=1073741824:=gP
  obtain⟨⟨p0,p1⟩,bo,bU⟩:=gP
  obtain⟨a,ha⟩:∃a:Nat,i=a:=⟨i.toNat,by omega⟩
  subst ha
  have p1:a<=(ab code).length:=by omega
  rcases Ow with⟨_,h0⟩|⟨dD,fL,vc,C0,B4,MF,pD,⟨ags,agt⟩,M1,xD,re⟩
  ·rw[h0]at bo;simp at bo
  rw[bo]at pD
  have re:=(mF (F:=F) (w:=w) (show iS eg.sh=true from rfl)).1 re
  obtain⟨i0,iq,jU,z,xG,x8,xE⟩:∃i0,Tryz.prog.info? 30=some i0/\i0.size=5/\∃z,i0.zero=some z/\z.cells.size=5/\i0.bytes<=131072:=⟨_,rfl,by kernel_rfl,_,rfl,by kernel_rfl,by decide+kernel⟩
  have rf:eg.sh.length=5:=rfl
  have hnone:∀row∈ab r,bO eg.sh row:=re.1
  have e8:(bm eg.sh (ab r)).length=5:=by rw[mf hnone,bo,rf,Nat.one_mul]
  have jy:∀(rows:List (List Int)),∀u∈bm eg.sh rows,u.oneCell'=true:=λ_=>MD
  have N1:dD<w.heap.size:=(Array.getElem?_eq_some_iff.1 xD).1
  have MW:C0.size≠0:=by
   obtain⟨_,pre,post,h2,_⟩:=re
   have:=congrArg List.length h2
   simp only[List.length_append,e8,Array.length_toList]at this
   omega
  have ql:∀w1:World,w1.heap[dD]?=w.heap[dD]?->∀j u,(bm eg.sh (ab r))[j]?=some u->w1.cell? ((⟨dD,fL,none⟩:Addr).add j)=some u:=λw1 h1 j u hu=>by
   rw[Addr.add_lit]
   have:=re.flat hu
   simp only[World.cell?,h1,xD,Option.isSome_none,Bool.false_eq_true,if_false]
   exact this
  have x4:∀w1:World,w1.heap[dD]?=w.heap[dD]?->Src Tryz.prog i0.size 28 (.slice (some ⟨dD,fL,none⟩) 1 vc) 1 (bm eg.sh (ab r)) w1:=λw1 h1=>
   Src.ofSlice w1 Tryz.underlying28 ⟨dD,fL,none⟩ 1 vc _ (by rw[e8,jU]) (ql w1 h1) (jy _)
  have fin:∀(w':World) (G C:Nat) (cells:Array Value) (post:List Value),iK w w' (gj v0)->(∀row∈ab code,bO eg.sh row)->w'.heap[G]?=some (.cells cells 30 (0,0))->cells.toList=bm eg.sh ((ab code).take a)++bm eg.sh (ab r)++bm eg.sh ((ab code).drop a)++post->cells.size=C*5->
   (ab code).length+1<=C->(C:Int)<=9223372036854775807->(gj v0=some G∨w.heap.size<=G)->
   iK w w' (gj v0)/\∃code' v',(0<=code'/\code'<=ch)/\b7 sh SB eg.id (code::[(a:Int),r]) [code']/\pf (λg=>gj v0=some g∨w.heap.size<=g) w' eg.sh eg.e (ab code') v'/\Ending.returned (.slice (some ⟨G,0,none⟩) ((ab code).length+1) C)= .returned v':=by
   intro w' G C cells post ix aY hG jR hsz qV MZ hown
   have hall:∀row∈(ab code).take a++ab r++(ab code).drop a,bO eg.sh row:=λrow hr=>by
    rcases List.mem_append.1 hr with hr|hr
    ·rcases List.mem_append.1 hr with hr|hr
     ·exact aY row (List.mem_of_mem_take hr)
     ·exact hnone row hr
    ·exact aY row (List.mem_of_mem_drop hr)
   have xO:((ab code).take a++ab r++(ab code).drop a).length=(ab code).length+1:=by
    rw[List.length_append,List.length_append,List.length_take,List.length_drop,bo,Nat.min_eq_left p1];omega
   refine⟨ix,rc ((ab code).take a++ab r++(ab code).drop a),_,⟨fe _,u7 (by kernel_rfl) (by rw[xO];omega) hall⟩,?_,Or.inr ⟨G,C,cells,?_,⟨?_,MZ⟩,hown,hG,⟨?_,[],post,?_,rfl⟩,hsz⟩,rfl⟩
   ·show ab (rc _)=(ab code).take ((a:Int)).toNat++ab r++(ab code).drop ((a:Int)).toNat
    rw[dv];rfl
   ·rw[dv,xO]
   ·rw[dv,xO];exact qV
   ·rw[dv];exact hall
   ·rw[dv,jR,List.nil_append,qa,qa]
  rw[tZ,pD]
  rcases ho with⟨⟨yB,hv0⟩,h0⟩|⟨g,cap,cells,hv0,⟨DR,Ai⟩,aib,hg,k8,hsz⟩
  ·
   have ha0:a=0:=by rw[h0]at p1;simpa using p1
   subst ha0
   have hC:=vr w (0+1) 0 30 (by omega)
   have im:∀ty,(Builtin.append_ #[28,28] ty #[.slice yB 0 0,.slice (some ⟨dD,fL,none⟩) 1 vc]).run Tryz.prog w=_:=λty=>
    run_append_grow_src w 28 28 ty 30 i0 z Tryz.underlying28 iq xG yB 0 0 [] (Hn _ _ _ _) _ 1 _ (x4 w rfl) (by omega) (by omega) (growslice_fits (by omega) (by omega))
   rw[hv0]
   refine(aiH yB ⟨dD,fL,none⟩ vc _ w _ im).mono ?_
   rintro e w' ⟨rfl,rfl⟩
   have qV:=hC.1
   have:=fin _ w.heap.size (grownCap w (0+1) 0 30) (([]++bm eg.sh (ab r)).toArray++Builtin.zeroCells z.cells (grownCap w (0+1) 0 30-(0+1))) (Builtin.zeroCells z.cells (grownCap w (0+1) 0 30-(0+1))).toList (BZ w _ _) (by rw[h0];intro _ h;cases h) (heap_alloc_new w.drew _) (by rw[h0];simp[bm]) (by
    simp only[Array.size_append,List.size_toArray,List.nil_append,e8,wC,x8];omega) (by rw[h0];exact hC.1) (by omega) (.inr (Nat.le_refl _))
   rw[h0]at this
   rw[<-hv0];exact this
  ·rw[rf]at hsz
   obtain⟨aY,pre,rest,jR,xU⟩:=k8
   have xU:pre=[]:=List.eq_nil_of_length_eq_zero xU
   subst xU
   rw[List.nil_append]at jR
   obtain⟨n,hn⟩:∃n,(ab code).length=n:=⟨_,rfl⟩
   rw[hn]at p1 bU DR hv0 fin
   have qj:bm eg.sh (ab code)=bm eg.sh ((ab code).take a)++bm eg.sh ((ab code).drop a):=by rw[<-qa,List.take_append_drop]
   have kK:(bm eg.sh ((ab code).take a)).length=a*5:=by rw[mf λr h=>aY r (List.mem_of_mem_take h),List.length_take,Nat.min_eq_left (by omega),rf]
   have hl2:(bm eg.sh ((ab code).drop a)).length=(n-a)*5:=by rw[mf λr h=>aY r (List.mem_of_mem_drop h),List.length_drop,hn,rf]
   have hl0:(bm eg.sh (ab code)).length=n*5:=by rw[mf aY,hn,rf]
   have hh:cells.toList.length=cap*5:=by rw[Array.length_toList];exact hsz
   have hne:dD≠g∨cap=0:=by
    rcases Nat.eq_zero_or_pos cap with h|h
    ·exact .inr h
    ·refine .inl λe=>?_
     obtain⟨c',rfl⟩:∃c',cap=c'+1:=⟨cap-1,by omega⟩
     refine hF dD M1 ?_
     rw[hv0,e];rfl
   have hown:cap≠0->gj v0=some g:=λh=>by
    obtain⟨c',rfl⟩:∃c',cap=c'+1:=⟨cap-1,by omega⟩
    rw[hv0];rfl
   have hlt:g<w.heap.size:=(Array.getElem?_eq_some_iff.1 hg).1
   have hcell:∀(w1:World) (o:Nat) (l:List Value) (pre post:List Value),w1.heap[g]?=w.heap[g]?->cells.toList=pre++l++post->pre.length=o->∀j u,l[j]?=some u->w1.cell? ((⟨g,o,none⟩:Addr).add j)=some u:=λw1 o l pre post h1 h2 h3 j u hu=>by
    rw[Addr.add_lit]
    simp only[World.cell?,h1,hg,Option.isSome_none,Bool.false_eq_true,if_false]
    have hlt:=(List.getElem?_eq_some_iff.1 hu).1
    rw[<-Array.getElem?_toList,h2,List.append_assoc,List.getElem?_append_right (by omega),List.getElem?_append_left (by omega),<-h3]
    rw[show pre.length+j-pre.length=j by omega];exact hu
   by_cases tN:a=n
   ·
    subst tN
    have pv:(ab code).drop a=[]:=List.drop_of_length_le (by omega)
    have rh:(ab code).take a=ab code:=List.take_of_length_le (by omega)
    by_cases hroom:a+1<=cap
    ·have im:∀ty,(Builtin.append_ #[28,28] ty #[.slice (some ⟨g,0,none⟩) a cap,.slice (some ⟨dD,fL,none⟩) 1 vc]).run Tryz.prog w=_:=λty=>
      Qh (P:=Tryz.prog) w 28 28 ty 30 i0 Tryz.underlying28 iq g a cap cells 30 hg _ 1 _ (x4 w rfl) hroom (by rw[jU,e8,hsz];omega)
     rw[hv0]
     refine(Tryz.WL g a cap ⟨dD,fL,none⟩ vc _ w _ (by omega) (by omega) im).mono ?_
     rintro e w' ⟨rfl,rfl⟩
     rw[<-hv0]
     refine fin _ g cap _ (cells.toList.drop (a*5+5)) (by rw[hown (by omega)];exact sR w g _) aY (setRow_heap w g _ _ _ _ hg) ?_ ?_ hroom Ai (.inl (hown (by omega)))
     ·rw[pv,rh,jU,e8]
      simp only[jR]
      rw[List.take_append_of_le_length (by omega),List.take_of_length_le (by omega)]
      simp[bm]
     ·simp only[List.size_toArray,List.length_append,List.length_take,List.length_drop,hh,e8,jU]
      omega
    ·have hC:=vr w (a+1) cap 30 (by omega)
     have im:∀ty,(Builtin.append_ #[28,28] ty #[.slice (some ⟨g,0,none⟩) a cap,.slice (some ⟨dD,fL,none⟩) 1 vc]).run Tryz.prog w=_:=λty=>
      run_append_grow_src w 28 28 ty 30 i0 z Tryz.underlying28 iq xG (some ⟨g,0,none⟩) a cap (bm eg.sh (ab code)) (run_firstCells_some w.drew i0.size a ⟨g,0,none⟩ a cap _ (by rw[hl0,jU]) (hcell w.drew 0 _ [] rest rfl (by rw[jR];rfl) rfl)) _ 1 _ (x4 w rfl) (by omega) (by omega) (growslice_fits (by omega) (by
       have:=Nat.mul_le_mul (show a+1<=1073741824 by omega) xE
       omega))
     rw[hv0]
     refine(Tryz.WL g a cap ⟨dD,fL,none⟩ vc _ w _ (by omega) (by omega) im).mono ?_
     rintro e w' ⟨rfl,rfl⟩
     rw[<-hv0]
     refine fin _ w.heap.size (grownCap w (a+1) cap 30) _ (Builtin.zeroCells z.cells (grownCap w (a+1) cap 30-(a+1))).toList (BZ w _ _) aY (heap_alloc_new w.drew _) ?_ ?_ hC.1 (by omega) (.inr (Nat.le_refl _))
     ·rw[pv,rh];simp[bm]
     ·simp only[Array.size_append,List.size_toArray,List.length_append,hl0,e8,wC,x8]
      have:=hC.1
      omega
   ·have tN:a<n:=by omega
    have Ah:cap≠0:=by omega
    have hne:dD≠g:=hne.resolve_right Ah
    have hown:=hown Ah
    by_cases hroom:n+1<=cap
    ·
     have HV:rest.length=(cap-n)*5:=by
      have:=congrArg List.length jR
      simp only[List.length_append,hl0,hh]at this
      rw[Nat.sub_mul];omega
     have hcs:cells.toList=bm eg.sh ((ab code).take a)++bm eg.sh ((ab code).drop a)++rest:=by rw[jR,qj]
     have jT:∀ty,(Builtin.copy_ #[28,28] ty #[.slice (some ⟨g,(a+1)*5,none⟩) (n+1-(a+1)) (cap-(a+1)),.slice (some ⟨g,a*5,none⟩) (n+1-a) (cap-a)]).run Tryz.prog w.drew=_:=λty=>
      wh w.drew 28 28 ty 30 i0 Tryz.underlying28 iq g ((a+1)*5) (n+1-(a+1)) (cap-(a+1)) ⟨g,a*5,none⟩ (n+1-a) (cap-a) cells 30 (bm eg.sh ((ab code).drop a)) hg
       (by rw[hl2,jU,show Nat.min (n+1-a) (n+1-(a+1))=n-a by show min _ _=_;omega]) (hcell w.drew (a*5) _ (bm eg.sh ((ab code).take a)) rest rfl hcs kK) (by rw[hl2,hsz];omega) (jy _)
     obtain⟨c1,hc1⟩:∃c1,c1=(cells.toList.take ((a+1)*5)++bm eg.sh ((ab code).drop a)++cells.toList.drop ((a+1)*5+(bm eg.sh ((ab code).drop a)).length)).toArray:=⟨_,rfl⟩
     rw[<-hc1]at jT
     have hg1:(w.drew.setRow g c1).heap[g]?=some (.cells c1 30 (0,0)):=setRow_heap w.drew g _ _ _ _ hg
     have qY:c1.size=cap*5:=by
      rw[hc1];simp only[List.size_toArray,List.length_append,List.length_take,List.length_drop,hh,hl2];omega
     have mP:∀ty,(Builtin.copy_ #[28,28] ty #[.slice (some ⟨g,a*5,none⟩) (n+1-a) (cap-a),.slice (some ⟨dD,fL,none⟩) 1 vc]).run Tryz.prog (w.drew.setRow g c1)=_:=λty=>
      wh (w.drew.setRow g c1) 28 28 ty 30 i0 Tryz.underlying28 iq g (a*5) (n+1-a) (cap-a) ⟨dD,fL,none⟩ 1 vc c1 30 (bm eg.sh (ab r)) hg1
       (by rw[e8,jU,show Nat.min 1 (n+1-a)=1 by show min _ _=_;omega]) (ql _ (setRow_other w.drew g dD c1 hne)) (by rw[e8,qY];omega) (jy _)
     have Ax:(callFunc 103 #[.slice (some ⟨dD,fL,none⟩) 1 vc,.slice (some ⟨g,(a+1)*5,none⟩) (n-a) (cap-(a+1))]).run Tryz.prog w= .ok (.value (.bool false)) w:=by
      rw[run_callFunc_extern Tryz.func103 (by kernel_rfl) (by kernel_rfl) (by kernel_rfl) (e:=Extern.SlicesOverlaps.overlaps #[28,28] #[4]) (by kernel_rfl)]
      rw[YT w 28 4 30 Tryz.underlying28 i0.size (λw=>by simp[Go.sizeOf,typeInfo,iq]) ⟨dD,fL,none⟩ ⟨g,(a+1)*5,none⟩ 1 vc (n-a) (cap-(a+1)) hne C0 cells B4 30 MF xD hg MW]
      rfl
     rw[hv0]
     refine(Tryz.aiM g n cap a ⟨dD,fL,none⟩ vc _ _ w _ _ tN hroom (by omega) Ax jT mP).mono ?_
     rintro e w' ⟨rfl,rfl⟩
     rw[<-hv0]
     refine fin _ g cap _ (cells.toList.drop ((a+1)*5+(bm eg.sh ((ab code).drop a)).length)) (by rw[hown];exact iK.B7 (w:=w) (w1:=w.drew.setRow g c1) (sR w.drew g c1) (sR _ g _) (.inl rfl)) aY (setRow_heap _ g _ _ _ _ hg1) ?_ ?_ hroom Ai (.inl hown)
     ·simp only[e8]
      rw[hc1]
      exact Yx hcs kK (by simp only[hh];omega) rfl (by rw[Nat.succ_mul])
     ·simp only[List.size_toArray,List.length_append,List.length_take,List.length_drop,Array.length_toList,qY,e8]
      have:(a+1)*5<=cap*5:=Nat.mul_le_mul_right _ (by omega)
      omega
    ·
     have hka:a+(n+1-a)=n+1:=by omega
     have xK:((n:Int)+1-(a:Int))=((n+1-a:Nat):Int):=by omega
     have hC:=vr w (n+1) cap 30 (by omega)
     have tO:=λty=>Lib.run_append_grow_zeros (P:=Tryz.prog) w 28 3 ty 30 i0 z .i64 .i64 Tryz.underlying28 Tryz.underlying3 iq xG (some ⟨g,0,none⟩) a cap (bm eg.sh ((ab code).take a))
      (run_firstCells_some w.drew i0.size a ⟨g,0,none⟩ a cap _ (by rw[kK,jU]) (hcell w.drew 0 _ [] (bm eg.sh ((ab code).drop a)++rest) rfl (by rw[jR,qj,List.nil_append,List.append_assoc]) rfl)) (n+1-a) (by omega) (by rw[jU];decide) (by omega) (by omega)
      (by
        have:=Nat.mul_le_mul (show n+1-a<=1073741824 by omega) xE
        omega)
      (growslice_fits (by omega) (by
        have:=Nat.mul_le_mul (show a+(n+1-a)<=1073741824 by omega) xE
        omega))
     rw[hka]at tO
     obtain⟨C,M0⟩:∃C,C=grownCap w (n+1) cap 30:=⟨_,rfl⟩
     rw[<-M0]at tO hC
     obtain⟨bE,hc0⟩:∃bE:Array Value,bE=(bm eg.sh ((ab code).take a)).toArray++Builtin.zeroCells z.cells (n+1-a)++Builtin.zeroCells z.cells (C-(n+1)):=⟨_,rfl⟩
     rw[<-hc0,<-xK]at tO
     have DQ:bE.size=C*5:=by
      rw[hc0];simp only[Array.size_append,List.size_toArray,kK,wC,x8];omega
     have Nw:bE.toList.take (a*5)=bm eg.sh ((ab code).take a):=by
      rw[hc0,Array.toList_append,Array.toList_append,List.append_assoc,List.take_append_of_le_length (by simp only[kK];omega),List.take_of_length_le (by simp only[kK];omega)]
     have Dz:(w.drew.alloc (.cells bE 30)).heap[w.heap.size]?=some (.cells bE 30 (0,0)):=heap_alloc_new w.drew _
     have hold:∀k:Nat,k<w.heap.size->(w.drew.alloc (.cells bE 30)).heap[k]?=w.heap[k]?:=λk hk=>((World.Extends.refl w.drew).alloc _).block k hk
     have jT:∀ty,(Builtin.copy_ #[28,28] ty #[.slice (some ⟨w.heap.size,a*5,none⟩) (n+1-a) (C-a),.slice (some ⟨dD,fL,none⟩) 1 vc]).run Tryz.prog (w.drew.alloc (.cells bE 30))=_:=λty=>
      wh _ 28 28 ty 30 i0 Tryz.underlying28 iq w.heap.size (a*5) (n+1-a) (C-a) ⟨dD,fL,none⟩ 1 vc bE 30 (bm eg.sh (ab r)) Dz
       (by rw[e8,jU,show Nat.min 1 (n+1-a)=1 by show min _ _=_;omega]) (ql _ (hold dD N1)) (by rw[e8,DQ];omega) (jy _)
     obtain⟨c1,hc1⟩:∃c1,c1=(bE.toList.take (a*5)++bm eg.sh (ab r)++bE.toList.drop (a*5+(bm eg.sh (ab r)).length)).toArray:=⟨_,rfl⟩
     rw[<-hc1]at jT
     have qY:c1.size=C*5:=by
      rw[hc1];simp only[List.size_toArray,List.length_append,List.length_take,List.length_drop,Array.length_toList,DQ,e8];omega
     obtain⟨W2,hW2⟩:∃W2,W2=(w.drew.alloc (.cells bE 30)).setRow w.heap.size c1:=⟨_,rfl⟩
     have DA:W2.heap[w.heap.size]?=some (.cells c1 30 (0,0)):=by rw[hW2];exact setRow_heap _ _ _ _ _ _ Dz
     have N8:W2.drew.heap[g]?=w.heap[g]?:=by
      rw[hW2]
      show((w.drew.alloc (.cells bE 30)).setRow w.heap.size c1).heap[g]?=_
      rw[setRow_other _ _ _ _ (by omega),hold g hlt]
     have mP:∀ty,(Builtin.copy_ #[28,28] ty #[.slice (some ⟨w.heap.size,(a+1)*5,none⟩) (n+1-(a+1)) (C-(a+1)),.slice (some ⟨g,a*5,none⟩) (n-a) (cap-a)]).run Tryz.prog W2.drew=_:=λty=>
      wh W2.drew 28 28 ty 30 i0 Tryz.underlying28 iq w.heap.size ((a+1)*5) (n+1-(a+1)) (C-(a+1)) ⟨g,a*5,none⟩ (n-a) (cap-a) c1 30 (bm eg.sh ((ab code).drop a)) DA
       (by rw[hl2,jU,show Nat.min (n-a) (n+1-(a+1))=n-a by show min _ _=_;omega]) (hcell W2.drew (a*5) _ (bm eg.sh ((ab code).take a)) rest N8 (by rw[jR,qj]) kK) (by rw[hl2,qY];omega) (jy _)
     rw[<-hW2]at jT
     rw[hv0]
     refine(Tryz.aiL g n cap a w.heap.size C ⟨dD,fL,none⟩ vc _ _ w _ W2 _ tN DR (by omega) hC.1 (by omega) tO jT mP).mono ?_
     rintro e w' ⟨rfl,rfl⟩
     rw[<-hv0]
     refine fin _ w.heap.size C _ (c1.toList.drop ((a+1)*5+(bm eg.sh ((ab code).drop a)).length)) ?_ aY (setRow_heap _ _ _ _ _ _ DA) ?_ ?_ hC.1 (by omega) (.inr (Nat.le_refl _))
     ·rw[hW2]
      have s1:=iK.B7 (BZ w (.cells bE 30) (gj v0)) (sR _ w.heap.size c1) (.inr (Nat.le_refl _))
      exact iK.B7 (iK.TW s1) (sR _ w.heap.size _) (.inr (Nat.le_refl _))
     ·simp only
      rw[hc1,e8]
      simp only
      rw[Nw,Nat.succ_mul]
      exact UO kK e8
     ·simp only[List.size_toArray,List.length_append,List.length_take,List.length_drop,Array.length_toList,qY,hl2]
      have:(a+1)*5+(n-a)*5<=C*5:=by rw[<-Nat.add_mul];exact Nat.mul_le_mul_right _ (by omega)
      omega
end Go.bH
namespace Go.Proofs
open Go.RowKit Go.bg
set_option maxHeartbeats 4000000 in
set_option maxRecDepth 1000000 in
theorem Tryz.WK (g n cap:Nat) (A:Addr) (vc:Nat) (r:Value) (w W1:World) (hn:n<=cap) (cK:cap<=9223372036854775807)
 (im:∀ty,(Builtin.append_ #[23,23] ty #[.slice (some ⟨g,0,none⟩) n cap,.slice (some A) 1 vc]).run Tryz.prog w= .ok r W1):
 Calls Tryz.prog 73 #[.slice (some ⟨g,0,none⟩) n cap,.int .i64 n,.slice (some A) 1 vc] w λe w'=>e= .returned r/\w'=W1:=by
 obtain⟨B,hB⟩:∃B,(if cap=n then some (⟨g,0,none⟩:Addr)else some ⟨g,n*1,none⟩)=B:=⟨_,rfl⟩
 go_enter Tryz.func73,Tryz.ntmps73
 go_wp2_with (at_builtin;refine wx rfl (.tmp 23) (.tmp 24) 23 23 rfl _ _ rfl rfl (im _) ?_)
 go_wp2
 all_goals (go_ret;exact⟨rfl,rfl⟩)
set_option maxHeartbeats 4000000 in
set_option maxRecDepth 1000000 in
theorem Tryz.axb (A:Addr) (vc:Nat) (r:Value) (w W1:World)
 (im:∀ty,(Builtin.append_ #[23,23] ty #[.slice none 0 0,.slice (some A) 1 vc]).run Tryz.prog w= .ok r W1):
 Calls Tryz.prog 73 #[.slice none 0 0,.int .i64 0,.slice (some A) 1 vc] w λe w'=>e= .returned r/\w'=W1:=by
 go_enter Tryz.func73,Tryz.ntmps73
 go_wp2_with (at_builtin;refine wx rfl (.tmp 23) (.tmp 24) 23 23 rfl _ _ rfl rfl (im _) ?_)
 go_wp2
 all_goals (go_ret;exact⟨rfl,rfl⟩)
set_option maxHeartbeats 4000000 in
set_option maxRecDepth 1000000 in
theorem Tryz.aiJ (g n cap i G C:Nat) (A:Addr) (vc:Nat) (r1 r2:Value) (w W1 W2 W3:World) (cE:i<n) (hn:n<=cap) (hroom:cap<n+1) (hC:n+1<=C) (ee:n<=1073741824)
 (im:∀ty,(Builtin.append_ #[23,3] ty #[.slice (some ⟨g,0,none⟩) i cap,.int .i64 ((n:Int)+1-(i:Int))]).run Tryz.prog w= .ok (.slice (some ⟨G,0,none⟩) (n+1) C) W1)
 (jT:∀ty,(Builtin.copy_ #[23,23] ty #[.slice (some ⟨G,i*1,none⟩) (n+1-i) (C-i),.slice (some A) 1 vc]).run Tryz.prog W1= .ok r1 W2)
 (mP:∀ty,(Builtin.copy_ #[23,23] ty #[.slice (some ⟨G,(i+1)*1,none⟩) (n+1-(i+1)) (C-(i+1)),.slice (some ⟨g,i*1,none⟩) (n-i) (cap-i)]).run Tryz.prog W2.drew= .ok r2 W3):
 Calls Tryz.prog 73 #[.slice (some ⟨g,0,none⟩) n cap,.int .i64 i,.slice (some A) 1 vc] w λe w'=>e= .returned (.slice (some ⟨G,0,none⟩) (n+1) C)/\w'=W3:=by
 have f1:¬cap=i:=by omega
 have f2:¬C=i:=by omega
 have f3:¬C=i+1:=by omega
 have f4:i<=cap:=by omega
 have f5:¬((i:Int)=(n:Int)):=by omega
 have f6:(cap:Int)<(n:Int)+1:=by omega
 have f7:i<=C:=by omega
 have f8:i+1<=C:=by omega
 have f9:((i:Int)+1).toNat=i+1:=by omega
 have f10:(0:Int)<=(i:Int)+1:=by omega
 have f11:(i:Int)+1<=(n:Int)+1:=by omega
 have f12:i<=n:=by omega
 have f13:IntKind.i64.wrap ((i:Int)+1)=(i:Int)+1:=by rw[IntKind.wrap_i64];omega
 simp only[Nat.mul_one]at jT mP
 go_enter Tryz.func73,Tryz.ntmps73
 go_wp2_with (first
  |(at_builtin;refine wx rfl (.tmp 34) (.tmp 39) 23 3 rfl _ _ rfl rfl (im _) ?_)
  |(at_builtin;refine QY rfl (.tmp 43) (.tmp 44) 23 23 rfl _ _ rfl rfl (jT _) ?_))
 go_region_law (refine JF rfl (.tmp 50) (.tmp 53) 23 23 rfl (.slice (some ⟨G,i+1,none⟩) (n+1-(i+1)) (C-(i+1))) (.slice (some ⟨g,i,none⟩) (n-i) (cap-i)) (by simp[Act.eval,Act.put]) (by simp[Act.eval,Act.put]) (mP _) ?_)
 go_wp2
 go_ret
 exact⟨rfl,rfl⟩
set_option maxHeartbeats 4000000 in
set_option maxRecDepth 1000000 in
theorem Tryz.aiK (g n cap i:Nat) (A:Addr) (vc:Nat) (r1 r2:Value) (w W1 W2:World) (cE:i<n) (hn:n+1<=cap) (ee:n<=1073741824)
 (Ax:(callFunc 101 #[.slice (some A) 1 vc,.slice (some ⟨g,(i+1)*1,none⟩) (n-i) (cap-(i+1))]).run Tryz.prog w= .ok (.value (.bool false)) w)
 (jT:∀ty,(Builtin.copy_ #[23,23] ty #[.slice (some ⟨g,(i+1)*1,none⟩) (n+1-(i+1)) (cap-(i+1)),.slice (some ⟨g,i*1,none⟩) (n+1-i) (cap-i)]).run Tryz.prog w.drew= .ok r1 W1)
 (mP:∀ty,(Builtin.copy_ #[23,23] ty #[.slice (some ⟨g,i*1,none⟩) (n+1-i) (cap-i),.slice (some A) 1 vc]).run Tryz.prog W1= .ok r2 W2):
 Calls Tryz.prog 73 #[.slice (some ⟨g,0,none⟩) n cap,.int .i64 i,.slice (some A) 1 vc] w λe w'=>e= .returned (.slice (some ⟨g,0,none⟩) (n+1) cap)/\w'=W2:=by
 have f1:¬cap=i:=by omega
 have f3:¬cap=i+1:=by omega
 have f4:i<=cap:=by omega
 have f5:¬((i:Int)=(n:Int)):=by omega
 have f6:¬(cap:Int)<(n:Int)+1:=by omega
 have f8:i+1<=cap:=by omega
 have f9:((i:Int)+1).toNat=i+1:=by omega
 have f10:(0:Int)<=(i:Int)+1:=by omega
 have f11:(i:Int)+1<=(n:Int)+1:=by omega
 have f12:i<=n:=by omega
 have f13:IntKind.i64.wrap ((i:Int)+1)=(i:Int)+1:=by rw[IntKind.wrap_i64];omega
 have f14:((n:Int)+1).toNat=n+1:=by omega
 have f15:(n:Int)+1<=(cap:Int):=by omega
 have f16:i<=n+1:=by omega
 have f17:(i:Int)<=(n:Int)+1:=by omega
 simp only[Nat.mul_one]at Ax jT mP
 go_enter Tryz.func73,Tryz.ntmps73
 go_wp2
 go_region_law (refine JF rfl (.tmp 73) (.tmp 76) 23 23 rfl (.slice (some ⟨g,i+1,none⟩) (n+1-(i+1)) (cap-(i+1))) (.slice (some ⟨g,i,none⟩) (n+1-i) (cap-i)) (by simp[Act.eval,Act.put]) (by simp[Act.eval,Act.put]) (jT _) ?_)
 go_wp2_with (at_builtin;refine QY rfl (.tmp 80) (.tmp 81) 23 23 rfl _ _ rfl rfl (mP _) ?_)
 go_wp2
 go_ret
 exact⟨rfl,rfl⟩
end Go.Proofs
namespace Go.bH
open Go Go.bg Go.Proofs Go.RowKit
theorem aiI (p:Option Addr) (A:Addr) (vc:Nat) (r:Value) (w W1:World)
 (im:∀ty,(Builtin.append_ #[23,23] ty #[.slice p 0 0,.slice (some A) 1 vc]).run Tryz.prog w= .ok r W1):
 Calls Tryz.prog 73 #[.slice p 0 0,.int .i64 0,.slice (some A) 1 vc] w λe w'=>e= .returned r/\w'=W1:=by
 go_enter Tryz.func73,Tryz.ntmps73
 go_wp2_with (at_builtin;refine wx rfl (.tmp 23) (.tmp 24) 23 23 rfl _ _ rfl rfl (im _) ?_)
 go_wp2
 all_goals (go_ret;exact⟨rfl,rfl⟩)
theorem amO {wb:World}:eh.dZ Tryz.prog wb (b7 sh SB eh.id):=by
 refine⟨λargs w=>enters (by kernel_rfl) _ _,λF w v0 code vs zs hw ho hc hz gP hat hF=>?_⟩
 match zs,hz,vs,hat with
 |[i,r],hz,[vi,QV],hat=>
  obtain⟨tZ,pD,_⟩:=hat
  have tZ:vi= .int .i64 i:=tZ
  have Ow:gB F w eh.sh (ab r) QV:=pD
  clear pD
  have gP:(0<=i/\i<=((ab code).length:Int))/\(ab r).length=1/\(ab code).length+1<=1073741824:=gP
  obtain⟨⟨p0,p1⟩,bo,bU⟩:=gP
  obtain⟨a,ha⟩:∃a:Nat,i=a:=⟨i.toNat,by omega⟩
  subst ha
  have p1:a<=(ab code).length:=by omega
  rcases Ow with⟨_,h0⟩|⟨dD,fL,vc,C0,B4,MF,pD,⟨ags,agt⟩,M1,xD,re⟩
  ·rw[h0]at bo;simp at bo
  rw[bo]at pD
  have re:=(mF (F:=F) (w:=w) (show iS eh.sh=true from rfl)).1 re
  obtain⟨i0,iq,jU,z,xG,x8,xE⟩:∃i0,Tryz.prog.info? 9=some i0/\i0.size=1/\∃z,i0.zero=some z/\z.cells.size=1/\i0.bytes<=131072:=⟨_,rfl,by kernel_rfl,_,rfl,by kernel_rfl,by decide+kernel⟩
  have rf:eh.sh.length=1:=rfl
  have hnone:∀row∈ab r,bO eh.sh row:=re.1
  have e8:(bm eh.sh (ab r)).length=1:=by rw[mf hnone,bo,rf,Nat.one_mul]
  have jy:∀(rows:List (List Int)),∀u∈bm eh.sh rows,u.oneCell'=true:=λ_=>MD
  have N1:dD<w.heap.size:=(Array.getElem?_eq_some_iff.1 xD).1
  have MW:C0.size≠0:=by
   obtain⟨_,pre,post,h2,_⟩:=re
   have:=congrArg List.length h2
   simp only[List.length_append,e8,Array.length_toList]at this
   omega
  have ql:∀w1:World,w1.heap[dD]?=w.heap[dD]?->∀j u,(bm eh.sh (ab r))[j]?=some u->w1.cell? ((⟨dD,fL,none⟩:Addr).add j)=some u:=λw1 h1 j u hu=>by
   rw[Addr.add_lit]
   have:=re.flat hu
   simp only[World.cell?,h1,xD,Option.isSome_none,Bool.false_eq_true,if_false]
   exact this
  have x4:∀w1:World,w1.heap[dD]?=w.heap[dD]?->Src Tryz.prog i0.size 23 (.slice (some ⟨dD,fL,none⟩) 1 vc) 1 (bm eh.sh (ab r)) w1:=λw1 h1=>
   Src.ofSlice w1 Tryz.underlying23 ⟨dD,fL,none⟩ 1 vc _ (by rw[e8,jU]) (ql w1 h1) (jy _)
  have fin:∀(w':World) (G C:Nat) (cells:Array Value) (post:List Value),iK w w' (gj v0)->(∀row∈ab code,bO eh.sh row)->w'.heap[G]?=some (.cells cells 9 (0,0))->cells.toList=bm eh.sh ((ab code).take a)++bm eh.sh (ab r)++bm eh.sh ((ab code).drop a)++post->cells.size=C*1->
   (ab code).length+1<=C->(C:Int)<=9223372036854775807->(gj v0=some G∨w.heap.size<=G)->
   iK w w' (gj v0)/\∃code' v',(0<=code'/\code'<=ch)/\b7 sh SB eh.id (code::[(a:Int),r]) [code']/\pf (λg=>gj v0=some g∨w.heap.size<=g) w' eh.sh eh.e (ab code') v'/\Ending.returned (.slice (some ⟨G,0,none⟩) ((ab code).length+1) C)= .returned v':=by
   intro w' G C cells post ix aY hG jR hsz qV MZ hown
   have hall:∀row∈(ab code).take a++ab r++(ab code).drop a,bO eh.sh row:=λrow hr=>by
    rcases List.mem_append.1 hr with hr|hr
    ·rcases List.mem_append.1 hr with hr|hr
     ·exact aY row (List.mem_of_mem_take hr)
     ·exact hnone row hr
    ·exact aY row (List.mem_of_mem_drop hr)
   have xO:((ab code).take a++ab r++(ab code).drop a).length=(ab code).length+1:=by
    rw[List.length_append,List.length_append,List.length_take,List.length_drop,bo,Nat.min_eq_left p1];omega
   refine⟨ix,rc ((ab code).take a++ab r++(ab code).drop a),_,⟨fe _,u7 (by kernel_rfl) (by rw[xO];omega) hall⟩,?_,Or.inr ⟨G,C,cells,?_,⟨?_,MZ⟩,hown,hG,⟨?_,[],post,?_,rfl⟩,hsz⟩,rfl⟩
   ·show ab (rc _)=(ab code).take ((a:Int)).toNat++ab r++(ab code).drop ((a:Int)).toNat
    rw[dv];rfl
   ·rw[dv,xO]
   ·rw[dv,xO];exact qV
   ·rw[dv];exact hall
   ·rw[dv,jR,List.nil_append,qa,qa]
  rw[tZ,pD]
  rcases ho with⟨⟨yB,hv0⟩,h0⟩|⟨g,cap,cells,hv0,⟨DR,Ai⟩,aib,hg,k8,hsz⟩
  ·
   have ha0:a=0:=by rw[h0]at p1;simpa using p1
   subst ha0
   have hC:=vr w (0+1) 0 9 (by omega)
   have im:∀ty,(Builtin.append_ #[23,23] ty #[.slice yB 0 0,.slice (some ⟨dD,fL,none⟩) 1 vc]).run Tryz.prog w=_:=λty=>
    run_append_grow_src w 23 23 ty 9 i0 z Tryz.underlying23 iq xG yB 0 0 [] (Hn _ _ _ _) _ 1 _ (x4 w rfl) (by omega) (by omega) (growslice_fits (by omega) (by omega))
   rw[hv0]
   refine(aiI yB ⟨dD,fL,none⟩ vc _ w _ im).mono ?_
   rintro e w' ⟨rfl,rfl⟩
   have qV:=hC.1
   have:=fin _ w.heap.size (grownCap w (0+1) 0 9) (([]++bm eh.sh (ab r)).toArray++Builtin.zeroCells z.cells (grownCap w (0+1) 0 9-(0+1))) (Builtin.zeroCells z.cells (grownCap w (0+1) 0 9-(0+1))).toList (BZ w _ _) (by rw[h0];intro _ h;cases h) (heap_alloc_new w.drew _) (by rw[h0];simp[bm]) (by
    simp only[Array.size_append,List.size_toArray,List.nil_append,e8,wC,x8];omega) (by rw[h0];exact hC.1) (by omega) (.inr (Nat.le_refl _))
   rw[h0]at this
   rw[<-hv0];exact this
  ·rw[rf]at hsz
   obtain⟨aY,pre,rest,jR,xU⟩:=k8
   have xU:pre=[]:=List.eq_nil_of_length_eq_zero xU
   subst xU
   rw[List.nil_append]at jR
   obtain⟨n,hn⟩:∃n,(ab code).length=n:=⟨_,rfl⟩
   rw[hn]at p1 bU DR hv0 fin
   have qj:bm eh.sh (ab code)=bm eh.sh ((ab code).take a)++bm eh.sh ((ab code).drop a):=by rw[<-qa,List.take_append_drop]
   have kK:(bm eh.sh ((ab code).take a)).length=a*1:=by rw[mf λr h=>aY r (List.mem_of_mem_take h),List.length_take,Nat.min_eq_left (by omega),rf]
   have hl2:(bm eh.sh ((ab code).drop a)).length=(n-a)*1:=by rw[mf λr h=>aY r (List.mem_of_mem_drop h),List.length_drop,hn,rf]
   have hl0:(bm eh.sh (ab code)).length=n*1:=by rw[mf aY,hn,rf]
   have hh:cells.toList.length=cap*1:=by rw[Array.length_toList];exact hsz
   have hne:dD≠g∨cap=0:=by
    rcases Nat.eq_zero_or_pos cap with h|h
    ·exact .inr h
    ·refine .inl λe=>?_
     obtain⟨c',rfl⟩:∃c',cap=c'+1:=⟨cap-1,by omega⟩
     refine hF dD M1 ?_
     rw[hv0,e];rfl
   have hown:cap≠0->gj v0=some g:=λh=>by
    obtain⟨c',rfl⟩:∃c',cap=c'+1:=⟨cap-1,by omega⟩
    rw[hv0];rfl
   have hlt:g<w.heap.size:=(Array.getElem?_eq_some_iff.1 hg).1
   have hcell:∀(w1:World) (o:Nat) (l:List Value) (pre post:List Value),w1.heap[g]?=w.heap[g]?->cells.toList=pre++l++post->pre.length=o->∀j u,l[j]?=some u->w1.cell? ((⟨g,o,none⟩:Addr).add j)=some u:=λw1 o l pre post h1 h2 h3 j u hu=>by
    rw[Addr.add_lit]
    simp only[World.cell?,h1,hg,Option.isSome_none,Bool.false_eq_true,if_false]
    have hlt:=(List.getElem?_eq_some_iff.1 hu).1
    rw[<-Array.getElem?_toList,h2,List.append_assoc,List.getElem?_append_right (by omega),List.getElem?_append_left (by omega),<-h3]
    rw[show pre.length+j-pre.length=j by omega];exact hu
   by_cases tN:a=n
   ·
    subst tN
    have pv:(ab code).drop a=[]:=List.drop_of_length_le (by omega)
    have rh:(ab code).take a=ab code:=List.take_of_length_le (by omega)
    by_cases hroom:a+1<=cap
    ·have im:∀ty,(Builtin.append_ #[23,23] ty #[.slice (some ⟨g,0,none⟩) a cap,.slice (some ⟨dD,fL,none⟩) 1 vc]).run Tryz.prog w=_:=λty=>
      Qh (P:=Tryz.prog) w 23 23 ty 9 i0 Tryz.underlying23 iq g a cap cells 9 hg _ 1 _ (x4 w rfl) hroom (by rw[jU,e8,hsz];omega)
     rw[hv0]
     refine(Tryz.WK g a cap ⟨dD,fL,none⟩ vc _ w _ (by omega) (by omega) im).mono ?_
     rintro e w' ⟨rfl,rfl⟩
     rw[<-hv0]
     refine fin _ g cap _ (cells.toList.drop (a*1+1)) (by rw[hown (by omega)];exact sR w g _) aY (setRow_heap w g _ _ _ _ hg) ?_ ?_ hroom Ai (.inl (hown (by omega)))
     ·rw[pv,rh,jU,e8]
      simp only[jR]
      rw[List.take_append_of_le_length (by omega),List.take_of_length_le (by omega)]
      simp[bm]
     ·simp only[List.size_toArray,List.length_append,List.length_take,List.length_drop,hh,e8,jU]
      omega
    ·have hC:=vr w (a+1) cap 9 (by omega)
     have im:∀ty,(Builtin.append_ #[23,23] ty #[.slice (some ⟨g,0,none⟩) a cap,.slice (some ⟨dD,fL,none⟩) 1 vc]).run Tryz.prog w=_:=λty=>
      run_append_grow_src w 23 23 ty 9 i0 z Tryz.underlying23 iq xG (some ⟨g,0,none⟩) a cap (bm eh.sh (ab code)) (run_firstCells_some w.drew i0.size a ⟨g,0,none⟩ a cap _ (by rw[hl0,jU]) (hcell w.drew 0 _ [] rest rfl (by rw[jR];rfl) rfl)) _ 1 _ (x4 w rfl) (by omega) (by omega) (growslice_fits (by omega) (by
       have:=Nat.mul_le_mul (show a+1<=1073741824 by omega) xE
       omega))
     rw[hv0]
     refine(Tryz.WK g a cap ⟨dD,fL,none⟩ vc _ w _ (by omega) (by omega) im).mono ?_
     rintro e w' ⟨rfl,rfl⟩
     rw[<-hv0]
     refine fin _ w.heap.size (grownCap w (a+1) cap 9) _ (Builtin.zeroCells z.cells (grownCap w (a+1) cap 9-(a+1))).toList (BZ w _ _) aY (heap_alloc_new w.drew _) ?_ ?_ hC.1 (by omega) (.inr (Nat.le_refl _))
     ·rw[pv,rh];simp[bm]
     ·simp only[Array.size_append,List.size_toArray,List.length_append,hl0,e8,wC,x8]
      have:=hC.1
      omega
   ·have tN:a<n:=by omega
    have Ah:cap≠0:=by omega
    have hne:dD≠g:=hne.resolve_right Ah
    have hown:=hown Ah
    by_cases hroom:n+1<=cap
    ·
     have HV:rest.length=(cap-n)*1:=by
      have:=congrArg List.length jR
      simp only[List.length_append,hl0,hh]at this
      rw[Nat.sub_mul];omega
     have hcs:cells.toList=bm eh.sh ((ab code).take a)++bm eh.sh ((ab code).drop a)++rest:=by rw[jR,qj]
     have jT:∀ty,(Builtin.copy_ #[23,23] ty #[.slice (some ⟨g,(a+1)*1,none⟩) (n+1-(a+1)) (cap-(a+1)),.slice (some ⟨g,a*1,none⟩) (n+1-a) (cap-a)]).run Tryz.prog w.drew=_:=λty=>
      wh w.drew 23 23 ty 9 i0 Tryz.underlying23 iq g ((a+1)*1) (n+1-(a+1)) (cap-(a+1)) ⟨g,a*1,none⟩ (n+1-a) (cap-a) cells 9 (bm eh.sh ((ab code).drop a)) hg
       (by rw[hl2,jU,show Nat.min (n+1-a) (n+1-(a+1))=n-a by show min _ _=_;omega]) (hcell w.drew (a*1) _ (bm eh.sh ((ab code).take a)) rest rfl hcs kK) (by rw[hl2,hsz];omega) (jy _)
     obtain⟨c1,hc1⟩:∃c1,c1=(cells.toList.take ((a+1)*1)++bm eh.sh ((ab code).drop a)++cells.toList.drop ((a+1)*1+(bm eh.sh ((ab code).drop a)).length)).toArray:=⟨_,rfl⟩
     rw[<-hc1]at jT
     have hg1:(w.drew.setRow g c1).heap[g]?=some (.cells c1 9 (0,0)):=setRow_heap w.drew g _ _ _ _ hg
     have qY:c1.size=cap*1:=by
      rw[hc1];simp only[List.size_toArray,List.length_append,List.length_take,List.length_drop,hh,hl2];omega
     have mP:∀ty,(Builtin.copy_ #[23,23] ty #[.slice (some ⟨g,a*1,none⟩) (n+1-a) (cap-a),.slice (some ⟨dD,fL,none⟩) 1 vc]).run Tryz.prog (w.drew.setRow g c1)=_:=λty=>
      wh (w.drew.setRow g c1) 23 23 ty 9 i0 Tryz.underlying23 iq g (a*1) (n+1-a) (cap-a) ⟨dD,fL,none⟩ 1 vc c1 9 (bm eh.sh (ab r)) hg1
       (by rw[e8,jU,show Nat.min 1 (n+1-a)=1 by show min _ _=_;omega]) (ql _ (setRow_other w.drew g dD c1 hne)) (by rw[e8,qY];omega) (jy _)
     have Ax:(callFunc 101 #[.slice (some ⟨dD,fL,none⟩) 1 vc,.slice (some ⟨g,(a+1)*1,none⟩) (n-a) (cap-(a+1))]).run Tryz.prog w= .ok (.value (.bool false)) w:=by
      rw[run_callFunc_extern Tryz.func101 (by kernel_rfl) (by kernel_rfl) (by kernel_rfl) (e:=Extern.SlicesOverlaps.overlaps #[23,23] #[4]) (by kernel_rfl)]
      rw[YT w 23 4 9 Tryz.underlying23 i0.size (λw=>by simp[Go.sizeOf,typeInfo,iq]) ⟨dD,fL,none⟩ ⟨g,(a+1)*1,none⟩ 1 vc (n-a) (cap-(a+1)) hne C0 cells B4 9 MF xD hg MW]
      rfl
     rw[hv0]
     refine(Tryz.aiK g n cap a ⟨dD,fL,none⟩ vc _ _ w _ _ tN hroom (by omega) Ax jT mP).mono ?_
     rintro e w' ⟨rfl,rfl⟩
     rw[<-hv0]
     refine fin _ g cap _ (cells.toList.drop ((a+1)*1+(bm eh.sh ((ab code).drop a)).length)) (by rw[hown];exact iK.B7 (w:=w) (w1:=w.drew.setRow g c1) (sR w.drew g c1) (sR _ g _) (.inl rfl)) aY (setRow_heap _ g _ _ _ _ hg1) ?_ ?_ hroom Ai (.inl hown)
     ·simp only[e8]
      rw[hc1]
      exact Yx hcs kK (by simp only[hh];omega) rfl (by rw[Nat.succ_mul])
     ·simp only[List.size_toArray,List.length_append,List.length_take,List.length_drop,Array.length_toList,qY,e8]
      have:(a+1)*1<=cap*1:=Nat.mul_le_mul_right _ (by omega)
      omega
    ·
     have hka:a+(n+1-a)=n+1:=by omega
     have xK:((n:Int)+1-(a:Int))=((n+1-a:Nat):Int):=by omega
     have hC:=vr w (n+1) cap 9 (by omega)
     have tO:=λty=>Lib.run_append_grow_zeros (P:=Tryz.prog) w 23 3 ty 9 i0 z .i64 .i64 Tryz.underlying23 Tryz.underlying3 iq xG (some ⟨g,0,none⟩) a cap (bm eh.sh ((ab code).take a))
      (run_firstCells_some w.drew i0.size a ⟨g,0,none⟩ a cap _ (by rw[kK,jU]) (hcell w.drew 0 _ [] (bm eh.sh ((ab code).drop a)++rest) rfl (by rw[jR,qj,List.nil_append,List.append_assoc]) rfl)) (n+1-a) (by omega) (by rw[jU];decide) (by omega) (by omega)
      (by
        have:=Nat.mul_le_mul (show n+1-a<=1073741824 by omega) xE
        omega)
      (growslice_fits (by omega) (by
        have:=Nat.mul_le_mul (show a+(n+1-a)<=1073741824 by omega) xE
        omega))
     rw[hka]at tO
     obtain⟨C,M0⟩:∃C,C=grownCap w (n+1) cap 9:=⟨_,rfl⟩
     rw[<-M0]at tO hC
     obtain⟨bE,hc0⟩:∃bE:Array Value,bE=(bm eh.sh ((ab code).take a)).toArray++Builtin.zeroCells z.cells (n+1-a)++Builtin.zeroCells z.cells (C-(n+1)):=⟨_,rfl⟩
     rw[<-hc0,<-xK]at tO
     have DQ:bE.size=C*1:=by
      rw[hc0];simp only[Array.size_append,List.size_toArray,kK,wC,x8];omega
     have Nw:bE.toList.take (a*1)=bm eh.sh ((ab code).take a):=by
      rw[hc0,Array.toList_append,Array.toList_append,List.append_assoc,List.take_append_of_le_length (by simp only[kK];omega),List.take_of_length_le (by simp only[kK];omega)]
     have Dz:(w.drew.alloc (.cells bE 9)).heap[w.heap.size]?=some (.cells bE 9 (0,0)):=heap_alloc_new w.drew _
     have hold:∀k:Nat,k<w.heap.size->(w.drew.alloc (.cells bE 9)).heap[k]?=w.heap[k]?:=λk hk=>((World.Extends.refl w.drew).alloc _).block k hk
     have jT:∀ty,(Builtin.copy_ #[23,23] ty #[.slice (some ⟨w.heap.size,a*1,none⟩) (n+1-a) (C-a),.slice (some ⟨dD,fL,none⟩) 1 vc]).run Tryz.prog (w.drew.alloc (.cells bE 9))=_:=λty=>
      wh _ 23 23 ty 9 i0 Tryz.underlying23 iq w.heap.size (a*1) (n+1-a) (C-a) ⟨dD,fL,none⟩ 1 vc bE 9 (bm eh.sh (ab r)) Dz
       (by rw[e8,jU,show Nat.min 1 (n+1-a)=1 by show min _ _=_;omega]) (ql _ (hold dD N1)) (by rw[e8,DQ];omega) (jy _)
     obtain⟨c1,hc1⟩:∃c1,c1=(bE.toList.take (a*1)++bm eh.sh (ab r)++bE.toList.drop (a*1+(bm eh.sh (ab r)).length)).toArray:=⟨_,rfl⟩
     rw[<-hc1]at jT
     have qY:c1.size=C*1:=by
      rw[hc1];simp only[List.size_toArray,List.length_append,List.length_take,List.length_drop,Array.length_toList,DQ,e8];omega
     obtain⟨W2,hW2⟩:∃W2,W2=(w.drew.alloc (.cells bE 9)).setRow w.heap.size c1:=⟨_,rfl⟩
     have DA:W2.heap[w.heap.size]?=some (.cells c1 9 (0,0)):=by rw[hW2];exact setRow_heap _ _ _ _ _ _ Dz
     have N8:W2.drew.heap[g]?=w.heap[g]?:=by
      rw[hW2]
      show((w.drew.alloc (.cells bE 9)).setRow w.heap.size c1).heap[g]?=_
      rw[setRow_other _ _ _ _ (by omega),hold g hlt]
     have mP:∀ty,(Builtin.copy_ #[23,23] ty #[.slice (some ⟨w.heap.size,(a+1)*1,none⟩) (n+1-(a+1)) (C-(a+1)),.slice (some ⟨g,a*1,none⟩) (n-a) (cap-a)]).run Tryz.prog W2.drew=_:=λty=>
      wh W2.drew 23 23 ty 9 i0 Tryz.underlying23 iq w.heap.size ((a+1)*1) (n+1-(a+1)) (C-(a+1)) ⟨g,a*1,none⟩ (n-a) (cap-a) c1 9 (bm eh.sh ((ab code).drop a)) DA
       (by rw[hl2,jU,show Nat.min (n-a) (n+1-(a+1))=n-a by show min _ _=_;omega]) (hcell W2.drew (a*1) _ (bm eh.sh ((ab code).take a)) rest N8 (by rw[jR,qj]) kK) (by rw[hl2,qY];omega) (jy _)
     rw[<-hW2]at jT
     rw[hv0]
     refine(Tryz.aiJ g n cap a w.heap.size C ⟨dD,fL,none⟩ vc _ _ w _ W2 _ tN DR (by omega) hC.1 (by omega) tO jT mP).mono ?_
     rintro e w' ⟨rfl,rfl⟩
     rw[<-hv0]
     refine fin _ w.heap.size C _ (c1.toList.drop ((a+1)*1+(bm eh.sh ((ab code).drop a)).length)) ?_ aY (setRow_heap _ _ _ _ _ _ DA) ?_ ?_ hC.1 (by omega) (.inr (Nat.le_refl _))
     ·rw[hW2]
      have s1:=iK.B7 (BZ w (.cells bE 9) (gj v0)) (sR _ w.heap.size c1) (.inr (Nat.le_refl _))
      exact iK.B7 (iK.TW s1) (sR _ w.heap.size _) (.inr (Nat.le_refl _))
     ·simp only
      rw[hc1,e8]
      simp only
      rw[Nw,Nat.succ_mul]
      exact UO kK e8
     ·simp only[List.size_toArray,List.length_append,List.length_take,List.length_drop,Array.length_toList,qY,hl2]
      have:(a+1)*1+(n-a)*1<=C*1:=by rw[<-Nat.add_mul];exact Nat.mul_le_mul_right _ (by omega)
      omega
end Go.bH
namespace Go.bH
open Go Go.bg Go.Maps
abbrev pX:=DataW Unit
variable {P:Program} {k e t:TypeId} {R:Value->Option (pX×List MemPlace)} {w:World} {b n:Nat} {f:ax->Option pX}
def jM (P:Program) (k:TypeId) (R:Value->Option (pX×List MemPlace)) (w:World) (b n:Nat) (f:ax->Option pX):Prop:=
 ∃D:pX,w.ownsMap P k R b n D/\∀(s:ax) (zd:pX),D.atKey (.string s) zd=(f s).getD zd
theorem jM.made (w:World) (P:Program) (k:TypeId) (R:Value->Option (pX×List MemPlace)):jM P k R (w.alloc (.map #[] 0)) w.heap.size 0 λ_=>none:=
 ⟨.map [],World.ownsMap_made w P k R,λs zd=>rfl⟩
theorem jM.lt (h:jM P k R w b n f):b<w.heap.size:=by
 obtain⟨D,h1,h2⟩:=h
 exact h1.lt
theorem jM.blk (h:jM P k R w b n f) {w':World} (hb:w'.heap[b]?=w.heap[b]?):jM P k R w' b n f:=by
 obtain⟨D,⟨es,clock,h1,h2⟩,h3⟩:=h
 exact⟨D,⟨es,clock,hb.trans h1,h2⟩,h3⟩
theorem nV (s:ax):(aL s).size=s.length:=rfl
theorem WZ (hk:P.underlying k=some .string) {s:ax} (hs:s.length<=maxLen):keyOf P k (.string (aL s))=some (.string s):=by
 rw[Go.WideMaps.keyOf_string_mk hk (by rw[nV];exact hs)]
 simp[aL]
theorem jM.store (h:jM P k R w b n f) (hk:P.underlying k=some .string) (ht:P.underlying t=some (.map k e)) (hn:n<maxLen) {s:ax} (hs:s.length<=maxLen) {val:Value} {d:pX} {ps:List MemPlace} (hv:R val=some (d,ps)):
 ∃w',(Instr.mapUpdate t (.map (some b)) (.string (aL s)) val).run P w= .ok () w'/\jM P k R w' b (n+1) (λx=>cond (decide (x=s)) (some d) (f x))/\w.grownBy w' (some b):=by
 obtain⟨D,h1,h2⟩:=h
 have K:=string_keyed hk
 have hkey:=WZ hk hs
 obtain⟨w',r1,r2,r3⟩:=h1.update K ht hn hkey hv
 refine⟨w',r1,⟨_,r2,λx zd=>?_⟩,r3⟩
 by_cases hx:x=s
 ·subst hx
  rw[atKey_put_same h1.isMap (K.key hkey)];simp
 ·rw[atKey_put_other (by intro h;injection h with h;exact hx h)];simp only[hx,decide_false,cond_false];exact h2 x zd
theorem jM.look (h:jM P k R w b n f) (hk:P.underlying k=some .string) (ht:P.underlying t=some (.map k e)) {z:Value} (hz:(zeroValue e).run P w= .ok z w) {s:ax} (hs:s.length<=maxLen):
 (f s=none->(Instr.lookup t (.map (some b)) (.string (aL s)) true).run P w= .ok (.tuple #[z,.bool false]) w)/\
 ∀d,f s=some d->∃v ps,(Instr.lookup t (.map (some b)) (.string (aL s)) true).run P w= .ok (.tuple #[v,.bool true]) w/\R v=some (d,ps):=by
 obtain⟨D,⟨es,clock,hb,F,_,rfl⟩,h2⟩:=h
 rcases fit_look true (string_keyed hk) ht hz hb F (WZ hk hs)with⟨hrun,_,hat⟩|⟨e0,y,_,_,hrun,hR,hat,_⟩
 ·have hn:f s=none:=by
   cases hf:f s with
   |none=>rfl
   |some d=>
    have h3:=(h2 s (.nil)).symm.trans (hat .nil)
    have h4:=(h2 s (.lit (.bool true))).symm.trans (hat (.lit (.bool true)))
    rw[hf]at h3 h4
    simp only[Option.getD_some]at h3 h4
    rw[h3]at h4;cases h4
  exact⟨λ_=>by simpa using hrun,λd hd=>(by rw[hn]at hd;cases hd)⟩
 ·have hn:f s=some y.1:=by
   cases hf:f s with
   |none=>
    have h3:=(h2 s (.nil)).symm.trans (hat .nil)
    have h4:=(h2 s (.lit (.bool true))).symm.trans (hat (.lit (.bool true)))
    rw[hf]at h3 h4
    simp only[Option.getD_none]at h3 h4
    rw[<-h3]at h4;cases h4
   |some d=>
    have h3:=(h2 s (.nil)).symm.trans (hat .nil)
    rw[hf]at h3
    simp only[Option.getD_some]at h3
    rw[h3]
  refine⟨λh0=>(by rw[hn]at h0;cases h0),λd hd=>⟨e0.val,y.2,by simpa using hrun,?_⟩⟩
  rw[hn]at hd;cases hd
  exact hR
theorem jM.ext (h:jM P k R w b n f) {w':World} (hx:w.Extends w'):jM P k R w' b n f:=h.blk (hx.block b h.lt)
theorem Mp {w0 w:World} {o:Obj} (h:w0.Extends w):w0.Extends (w.alloc o).drew:=(h.alloc o).drew
theorem Mq {w0 w w':World} {b:Nat} (h:w0.Extends w) (hg:w.grownBy w' (some b)) (hb:w0.heap.size<=b):w0.Extends w':=by
 obtain⟨g1,g2,g3,g4,g5⟩:=hg
 have hblk:∀i:Nat,i<w0.heap.size->w'.heap[i]?=w0.heap[i]?:=λi hi=>(g5 i (Nat.lt_of_lt_of_le hi h.size) (by intro e;cases e;omega)).trans (h.block i hi)
 exact⟨g1.trans h.os,g2.trans h.tape,g3.trans h.output,Nat.le_trans h.size g4,λa ha=>by simp only[World.cell?,hblk a.block ha],λa ha=>by simp only[World.frozen?,hblk a.block ha],hblk⟩
theorem aoE {e:TypeId} (he:P.underlying e=some .string) {x:ax} (hx:x.length<=maxLen):plainElem (H:=Unit) P e (.string (aL x))=some (.lit (.string x),[]):=by
 rw[plainElem_string he (by rw[nV];exact hx)];simp[aL]
theorem ac3 {w0 w1 w2:World} {cs:Array Value} {ty:TypeId} (hx:(w0.alloc (.cells cs ty)).drew.Extends w2) {j:Nat} {v:Value} (hj:cs[j]?=some v):w2.cell? {block:=w0.heap.size,off:=j}=some v:=by
 have hb:w2.heap[w0.heap.size]?=some (.cells cs ty):=by
  rw[hx.block w0.heap.size (by show w0.heap.size<(w0.alloc (.cells cs ty)).heap.size;rw[World.size_alloc];omega)]
  exact World.alloc_heap_new w0 _
 simp[World.cell?,hb,hj]
end Go.bH
namespace Go.bH
open Go Go.bg Go.Proofs Go.RowKit
noncomputable abbrev Lp:Value->Option (pX×List MemPlace):=plainElem Tryz.prog 9
set_option maxHeartbeats 4000000 in
theorem aiw (sp:Option Addr) (a:Addr) (c n:Nat) (row:Nat->ax×ax×ax×Int) (nm:Nat->ax) (fm:Nat->ax->Option pX) (w:World) (hn:n<=1000) (VU:n<=c) (hsp:0<n->sp=some a)
 (h0:fm 0=λ_=>none) (hstep:∀i,i<n->fm (i+1)=λx=>cond (decide (x=nm i)) (some (.lit (.string (row i).2.2.1))) (fm i x))
 (hrow:∀w1,w.Extends w1->∀i,i<n->w1.cell? (a.add (i*4))=some (.string (aL (row i).1))/\w1.cell? {block:=(a.add (i*4)).block,off:=(a.add (i*4)).off+1}=some (.string (aL (row i).2.1))/\w1.cell? {block:=(a.add (i*4)).block,off:=(a.add (i*4)).off+2}=some (.string (aL (row i).2.2.1))/\w1.cell? {block:=(a.add (i*4)).block,off:=(a.add (i*4)).off+3}=some (.int .i64 (row i).2.2.2))
 (hlen:∀i,i<n->(nm i).length<=maxLen/\(row i).2.2.1.length<=maxLen)
 (VV:∀w1,w.Extends w1->∀i,i<n->Calls Tryz.prog 20 #[.agg #[.string (aL (row i).1),.string (aL (row i).2.1)]] w1 λe w2=>w1.Extends w2/\e= .returned (.string (aL (nm i)))):
 Calls Tryz.prog 23 #[.slice sp n c,.func (.func 20) #[] #[]] w λe w'=>w.Extends w'/\∃B,e= .returned (.map (some B))/\w.heap.size<=B/\jM Tryz.prog 9 Lp w' B n (fm n):=by
 have lK:=@Go.RowKit.run_makeMap Tryz.prog
 go_enter Tryz.func23,Tryz.ntmps23
 go_wp2
 go_loopw [11] (λv wr=>∃k:Nat,k<=n/\v= .int .i64 k/\w.Extends wr/\jM Tryz.prog 9 Lp wr w.heap.size k (fm k)) (λv _=>n-(intOf v).toNat)
 case atStart=>exact⟨0,Nat.zero_le _,rfl,(World.Extends.refl w).alloc _,by rw[h0];exact jM.made _ _ _ _⟩
 case round=>
  obtain⟨k,hk,rfl,hx,hm⟩:=hrel
  by_cases q9:k<n
  ·obtain rfl:=hsp (by omega)
   obtain⟨bE,c1,c2,c3⟩:=hrow wr hx k q9
   go_upto_region 5 with fail
   go_region_with (go_at_call 20;refine(VV _ (Mp hx) k q9).mono ?_;rintro e w2 ⟨hx2,rfl⟩;have d2:=ac3 (w1:=w2) hx2 (j:=2) rfl;obtain⟨w3,Ou,vC,hg3⟩:=(hm.ext ((Mp (World.Extends.refl wr)).trans hx2)).store Tryz.underlying9 Tryz.underlying52 (by unfold maxLen;omega) (hlen k q9).1 (aoE Tryz.underlying9 (hlen k q9).2))
   all_goals
    have aby:w.Extends w3:=Mq ((Mp hx).trans hx2) hg3 (Nat.le_refl _)
    have abz:jM Tryz.prog 9 Lp w3 w.heap.size (k+1) (fm (k+1)):=by rw[hstep k q9];exact vC
    clear Ou hg3 vC hx2 d2 hm hrow VV hstep
    go_wp2
    go_roundw
    case rel=>exact⟨k+1,by omega,by go_num,aby,abz⟩
    case measure=>simp[intOf];omega
  ·have:k=n:=by omega
   subst this
   go_wp2
   all_goals (go_ret;exact⟨hx,_,rfl,Nat.le_refl _,hm⟩)
end Go.bH
namespace Go.bH
open Go Go.bg Go.Proofs Go.RowKit
open Classical in
noncomputable def wW (v:Value):Option (pX×List MemPlace):=if v= .func (.func 20) #[] #[]then some (.lit (.bool true),[])else match v with
 | .func (.func 21) _ _=>some (.lit (.bool false),[])
 |_=>none
theorem abC:wW (.func (.func 20) #[] #[])=some (.lit (.bool true),[]):=by unfold wW;rw[if_pos rfl]
theorem abD (p:Value):wW (.func (.func 21) #[] #[p])=some (.lit (.bool false),[]):=by
 unfold wW;rw[if_neg (by intro h;injection h with h;injection h with h;cases h)];rfl
theorem abE {v:Value} {ps:List MemPlace} (h:wW v=some (.lit (.bool true),ps)):v= .func (.func 20) #[] #[]:=by
 unfold wW at h
 split at h
 ·assumption
 ·split at h
  ·cases h
  ·cases h
abbrev nG:ax:=[110,111,110,101]
abbrev apW:ax:=[115,104,97,50,53,54]
def oG (g:Nat) (s0 s1 s2 eS:Value) (w:World):Prop:=w.heap[g]?=some (.cells #[s0] 9)/\w.heap[g+1]?=some (.cells #[s1,s2,eS] 25)/\w.heap[g+1+1]?=some (.cells #[.int .i64 0,.int .i64 0,.string ⟨#[]⟩,.slice none 0 0,.slice none 0 0] 30)
theorem oG.ext {g:Nat} {s0 s1 s2 eS:Value} {w w':World} (h:oG g s0 s1 s2 eS w) (hx:w.Extends w'):oG g s0 s1 s2 eS w':=by
 obtain⟨h1,h2,h3⟩:=h
 exact⟨(hx.block g (Array.getElem?_eq_some_iff.1 h1).1).trans h1,(hx.block _ (Array.getElem?_eq_some_iff.1 h2).1).trans h2,(hx.block _ (Array.getElem?_eq_some_iff.1 h3).1).trans h3⟩
theorem oG.grown {g b:Nat} {s0 s1 s2 eS:Value} {w w':World} (h:oG g s0 s1 s2 eS w) (hg:w.grownBy w' (some b)) (hb:g+1+1<b):oG g s0 s1 s2 eS w':=by
 obtain⟨h1,h2,h3⟩:=h
 obtain⟨_,_,_,_,g5⟩:=hg
 exact⟨(g5 g (Array.getElem?_eq_some_iff.1 h1).1 (by intro e;cases e;omega)).trans h1,(g5 _ (Array.getElem?_eq_some_iff.1 h2).1 (by intro e;cases e;omega)).trans h2,(g5 _ (Array.getElem?_eq_some_iff.1 h3).1 (by intro e;cases e;omega)).trans h3⟩
theorem oG.cells {g:Nat} {s0 s1 s2 eS:Value} {w:World} (h:oG g s0 s1 s2 eS w):w.cell? {block:=g,off:=0}=some s0/\w.cell? {block:=g+1,off:=0}=some s1/\w.cell? {block:=g+1,off:=1}=some s2/\w.cell? {block:=g+1,off:=2}=some eS/\
 w.cell? {block:=g+1+1,off:=0}=some (.int .i64 0)/\w.cell? {block:=g+1+1,off:=1}=some (.int .i64 0)/\w.cell? {block:=g+1+1,off:=2}=some (.string ⟨#[]⟩)/\w.cell? {block:=g+1+1,off:=3}=some (.slice none 0 0)/\w.cell? {block:=g+1+1,off:=4}=some (.slice none 0 0)/\
 w.frozen? {block:=g+1+1,off:=0}=false/\w.frozen? {block:=g+1+1,off:=1}=false/\w.frozen? {block:=g+1+1,off:=2}=false/\w.frozen? {block:=g+1+1,off:=3}=false/\w.frozen? {block:=g+1+1,off:=4}=false:=by
 obtain⟨h1,h2,h3⟩:=h
 simp[World.cell?,World.frozen?,h1,h2,h3]
abbrev W0 (w:World) (p q:ax) (va:Value):World:=((w.alloc (.cells #[.string (aL p)] 9)).alloc (.cells #[.string (aL nG),.string (aL q),va] 25)).alloc (.cells #[.int .i64 0,.int .i64 0,.string ⟨#[]⟩,.slice none 0 0,.slice none 0 0] 30)
theorem ID (w:World) (p q:ax) (va:Value):∃w1 w2:World,
 (Instr.mapUpdate 50 (.map (some (w.heap.size+1+1+1))) (.string ⟨#[110,111,110,101]⟩) (.func (.func 20) #[] #[])).run Tryz.prog ((W0 w p q va).alloc (.map #[] 0))= .ok () w1/\
 (Instr.mapUpdate 50 (.map (some (w.heap.size+1+1+1))) (.string ⟨#[115,104,97,50,53,54]⟩) (.func (.func 21) #[] #[.pointer (some ⟨w.heap.size,0,none⟩)])).run Tryz.prog w1= .ok () w2/\
 (Instr.lookup 50 (.map (some (w.heap.size+1+1+1))) (.string (aL nG)) true).run Tryz.prog w2= .ok (.tuple #[.func (.func 20) #[] #[],.bool true]) w2/\
 w.Extends w2/\oG w.heap.size (.string (aL p)) (.string (aL nG)) (.string (aL q)) va w2:=by
 have hsz:(W0 w p q va).heap.size=w.heap.size+1+1+1:=by simp only[World.size_alloc]
 have VO:=jM.made (W0 w p q va) Tryz.prog 9 wW
 rw[hsz]at VO
 obtain⟨w1,ib,fV,g1⟩:=VO.store Tryz.underlying9 Tryz.underlying50 (by unfold maxLen;omega) (s:=nG) (by decide) abC
 obtain⟨w2,nM,m2,g2⟩:=fV.store Tryz.underlying9 Tryz.underlying50 (by unfold maxLen;omega) (s:=apW) (by decide) (abD (.pointer (some ⟨w.heap.size,0,none⟩)))
 obtain⟨z,hz⟩:∃z,(zeroValue 49).run Tryz.prog w2= .ok z w2:=⟨_,rfl⟩
 obtain⟨v,ps,l1,l2⟩:=(m2.look Tryz.underlying9 Tryz.underlying50 hz (s:=nG) (by decide)).2 (.lit (.bool true)) rfl
 rw[abE l2]at l1
 have hx0:w.Extends ((W0 w p q va).alloc (.map #[] 0)):=((((World.Extends.refl w).alloc _).alloc _).alloc _).alloc _
 have hx1:=Mq hx0 g1 (by omega)
 have hx2:=Mq hx1 g2 (by omega)
 refine⟨w1,w2,ib,nM,l1,hx2,?_⟩
 have hF:oG w.heap.size (.string (aL p)) (.string (aL nG)) (.string (aL q)) va ((W0 w p q va).alloc (.map #[] 0)):=by
  have e1:(w.alloc (.cells #[.string (aL p)] 9)).heap.size=w.heap.size+1:=World.size_alloc ..
  have e2:((w.alloc (.cells #[.string (aL p)] 9)).alloc (.cells #[.string (aL nG),.string (aL q),va] 25)).heap.size=w.heap.size+1+1:=by rw[World.size_alloc,e1]
  refine⟨?_,?_,?_⟩
  ·exact((((World.Extends.refl _).alloc _).alloc _).alloc _).block w.heap.size (by rw[e1];omega) |>.trans (World.alloc_heap_new w _)
  ·have:=World.alloc_heap_new (w.alloc (.cells #[.string (aL p)] 9)) (.cells #[.string (aL nG),.string (aL q),va] 25)
   rw[e1]at this
   exact(((World.Extends.refl _).alloc _).alloc _).block (w.heap.size+1) (by rw[e2];omega) |>.trans this
  ·have:=World.alloc_heap_new ((w.alloc (.cells #[.string (aL p)] 9)).alloc (.cells #[.string (aL nG),.string (aL q),va] 25)) (.cells #[.int .i64 0,.int .i64 0,.string ⟨#[]⟩,.slice none 0 0,.slice none 0 0] 30)
   rw[e2]at this
   exact((World.Extends.refl _).alloc _).block (w.heap.size+1+1) (by rw[hsz];omega) |>.trans this
 exact(hF.grown g1 (by omega)).grown g2 (by omega)
theorem Db {w0 w1:World} (h:w0.Extends w1) {a:Addr} (ha:w0.heap.size<=a.block) (v:Value):w0.Extends (w1.setCell a v):=by
 have hs:(w1.setCell a v).heap.size=w1.heap.size:=by simp[World.setCell]
 have hblk:∀i:Nat,i<w0.heap.size->(w1.setCell a v).heap[i]?=w0.heap[i]?:=λi hi=>(Go.heap_setCell_other w1 a i v (by omega)).trans (h.block i hi)
 exact⟨h.os,h.tape,h.output,by rw[hs];exact h.size,λb hb=>by simp only[World.cell?,hblk b.block hb],λb hb=>by simp only[World.frozen?,hblk b.block hb],hblk⟩
theorem BU {w:World} {g:Nat} {cs:Array Value} (hg:w.heap[g]?=some (.cells cs 30 (0,0))) (h5:cs.size=5) (x0 x1 x2 x3 eT:Value):
 (((((w.setCell ⟨g,0,none⟩ x0).setCell ⟨g,1,none⟩ x1).setCell ⟨g,2,none⟩ x2).setCell ⟨g,3,none⟩ x3).setCell ⟨g,4,none⟩ eT).heap[g]?=some (.cells #[x0,x1,x2,x3,eT] 30 (0,0)):=by
 match cs,h5 with
 |⟨[a,b,c,d,e]⟩,_=>exact heap_setCell_same _ g 4 _ 30 eT (heap_setCell_same _ g 3 _ 30 x3 (heap_setCell_same _ g 2 _ 30 x2 (heap_setCell_same _ g 1 _ 30 x1 (heap_setCell_same w g 0 _ 30 x0 hg))))
theorem zP {w0 w:World} (h:w0.Extends w) {g:Nat} (hg:w0.heap.size<=g) (x0 x1 x2 x3 eT:Value):w0.Extends (((((w.setCell ⟨g,0,none⟩ x0).setCell ⟨g,1,none⟩ x1).setCell ⟨g,2,none⟩ x2).setCell ⟨g,3,none⟩ x3).setCell ⟨g,4,none⟩ eT):=
 Db (Db (Db (Db (Db h (a:=⟨g,0,none⟩) hg x0) (a:=⟨g,1,none⟩) hg x1) (a:=⟨g,2,none⟩) hg x2) (a:=⟨g,3,none⟩) hg x3) (a:=⟨g,4,none⟩) hg eT
theorem E9 {tmps:Array Value} {w:World} {g:Nat} {cs:Array Value} {u:Value} (h6:tmps.getD 6 undef= .pointer (some ⟨g,0,none⟩)) (h7:tmps.getD 7 undef=u) (hg:w.heap[g]?=some (.cells cs 30 (0,0))) (h5:cs.size=5):
 (results Tryz.f9 tmps).run Tryz.prog w= .ok (.tuple #[.agg cs,u]) w:=by
 rw[results_cell_tmp (p:=6) (u:=7) (ty:=30) (by kernel_rfl),h6,h7]
 have hl:=run_loadVar_row (P:=Tryz.prog) w g 30 30 cs (0,0) _ hg Tryz.underlying30 rfl (by rw[h5];kernel_rfl)
 simp[asAddr,hl,Result.andThen]
set_option maxHeartbeats 4000000 in
theorem akr (v0 va:Value) (p q:ax) (w:World) (b1 b2:Bool) (hb:(b1&&b2)=false)
 (oT:∀w1,w.Extends w1->Calls Tryz.prog 14 #[.string (aL p)] w1 λe w2=>w1.Extends w2/\e= .returned (.bool b1))
 (xx:∀w1,w.Extends w1->Calls Tryz.prog 22 #[v0] w1 λe w2=>w1.Extends w2/\e= .returned (.bool b2)):
 Calls Tryz.prog 9 #[v0,.string (aL p),.agg #[.string (aL nG),.string (aL q),va]] w λe w'=>w.Extends w'/\e= .returned (.tuple #[.agg #[.int .i64 0,.int .i64 0,.string ⟨#[]⟩,.slice none 0 0,.slice none 0 0],.int .i64 1]):=by
 have lK:=@Go.RowKit.run_makeMap Tryz.prog
 obtain⟨w1,w2,ib,nM,pN,hx2,hF2⟩:=ID w p q va
 obtain⟨d0,d1,d2,d3,_⟩:=hF2.cells
 cases b1 with
 |false=>
  go_enter Tryz.func9,Tryz.ntmps9
  go_wp2_with (go_at_call 14;refine(oT _ (by assumption)).mono ?_;rintro e w3 ⟨hx3,rfl⟩;obtain⟨e0,e1,e2,e3,bE,c1,c2,c3,c4,f0,f1,f2,f3,f4⟩:=(hF2.ext hx3).cells)
  all_goals
   exact bodyPost_ret (E9 rfl rfl (BU (hF2.ext hx3).2.2 rfl _ _ _ _ _) rfl) rfl ⟨zP (hx2.trans hx3) (by omega) _ _ _ _ _,rfl⟩
 |true=>
  have:b2=false:=by simpa using hb
  subst this
  go_enter Tryz.func9,Tryz.ntmps9
  go_wp2_with (first
   |(go_at_call 14;refine(oT _ (by assumption)).mono ?_;rintro e w3 ⟨hx3,rfl⟩;have rj:=hx2.trans hx3;have sd:=hF2.ext hx3)
   |(go_at_call 22;refine(xx _ rj).mono ?_;rintro e w4 ⟨oX,rfl⟩;obtain⟨e0,e1,e2,e3,bE,c1,c2,c3,c4,f0,f1,f2,f3,f4⟩:=(sd.ext oX).cells))
  all_goals
   exact bodyPost_ret (E9 rfl rfl (BU (sd.ext oX).2.2 rfl _ _ _ _ _) rfl) rfl ⟨zP (rj.trans oX) (by omega) _ _ _ _ _,rfl⟩
set_option maxHeartbeats 4000000 in
theorem akt (v0 va:Value) (p q:ax) (w:World) (hq:¬q=p)
 (oT:∀w1,w.Extends w1->Calls Tryz.prog 14 #[.string (aL p)] w1 λe w2=>w1.Extends w2/\e= .returned (.bool true))
 (xx:∀w1,w.Extends w1->Calls Tryz.prog 22 #[v0] w1 λe w2=>w1.Extends w2/\e= .returned (.bool true)):
 Calls Tryz.prog 9 #[v0,.string (aL p),.agg #[.string (aL nG),.string (aL q),va]] w λe w'=>w.Extends w'/\e= .returned (.tuple #[.agg #[.int .i64 0,.int .i64 0,.string ⟨#[]⟩,.slice none 0 0,.slice none 0 0],.int .i64 15]):=by
 have lK:=@Go.RowKit.run_makeMap Tryz.prog
 obtain⟨w1,w2,ib,nM,pN,hx2,hF2⟩:=ID w p q va
 obtain⟨d0,d1,d2,d3,_⟩:=hF2.cells
 have hne:¬aL q=aL p:=λe=>hq (by have:=congrArg (λb=>b.data.toList) e;simpa [aL]using this)
 have awH:((aL q).toList==(aL p).toList)=false:=by rw[w7,w7];simpa using hq
 go_enter Tryz.func9,Tryz.ntmps9
 go_wp2_with (first
  |(go_at_call 14;refine(oT _ (by assumption)).mono ?_;rintro e w3 ⟨hx3,rfl⟩;have rj:=hx2.trans hx3;have sd:=hF2.ext hx3)
  |(go_at_call 22;refine(xx _ rj).mono ?_;rintro e w4 ⟨oX,rfl⟩;obtain⟨e0,e1,e2,e3,bE,c1,c2,c3,c4,f0,f1,f2,f3,f4⟩:=(sd.ext oX).cells))
 all_goals
  exact bodyPost_ret (E9 rfl rfl (BU (sd.ext oX).2.2 rfl _ _ _ _ _) rfl) rfl ⟨zP (rj.trans oX) (by omega) _ _ _ _ _,rfl⟩
set_option maxHeartbeats 4000000 in
theorem aks (v0:Value) (ap:Option Addr) (kO mJ:Nat) (p:ax) (w:World) (hn:32<kO)
 (oT:∀w1,w.Extends w1->Calls Tryz.prog 14 #[.string (aL p)] w1 λe w2=>w1.Extends w2/\e= .returned (.bool true))
 (xx:∀w1,w.Extends w1->Calls Tryz.prog 22 #[v0] w1 λe w2=>w1.Extends w2/\e= .returned (.bool true)):
 Calls Tryz.prog 9 #[v0,.string (aL p),.agg #[.string (aL nG),.string (aL p),.slice ap kO mJ]] w λe w'=>w.Extends w'/\e= .returned (.tuple #[.agg #[.int .i64 0,.int .i64 0,.string ⟨#[]⟩,.slice none 0 0,.slice none 0 0],.int .i64 16]):=by
 have lK:=@Go.RowKit.run_makeMap Tryz.prog
 obtain⟨w1,w2,ib,nM,pN,hx2,hF2⟩:=ID w p p (.slice ap kO mJ)
 obtain⟨d0,d1,d2,d3,_⟩:=hF2.cells
 have hg:(32:Int)<(kO:Int):=by omega
 go_enter Tryz.func9,Tryz.ntmps9
 go_wp2_with (first
  |(go_at_call 14;refine(oT _ (by assumption)).mono ?_;rintro e w3 ⟨hx3,rfl⟩;have rj:=hx2.trans hx3;have sd:=hF2.ext hx3)
  |(go_at_call 22;refine(xx _ rj).mono ?_;rintro e w4 ⟨oX,rfl⟩;obtain⟨e0,e1,e2,e3,bE,c1,c2,c3,c4,f0,f1,f2,f3,f4⟩:=(sd.ext oX).cells))
 all_goals
  exact bodyPost_ret (E9 rfl rfl (BU (sd.ext oX).2.2 rfl _ _ _ _ _) rfl) rfl ⟨zP (rj.trans oX) (by omega) _ _ _ _ _,rfl⟩
end Go.bH
namespace Go.bH
open Go Go.bg Go.Proofs Go.RowKit
set_option maxHeartbeats 4000000 in
theorem aqW (x:ByteArray) (w:World):Calls Tryz.prog 25 #[.string x] w λe w'=>w.Extends w'/\e= .returned (.agg #[.int .i64 4,.int .i64 0,.string x,.slice none 0 0,.slice none 0 0]):=by
 go_enter Tryz.func25,Tryz.ntmps25
 go_wp2
 exact bodyPost_ret (results_cell_row (p:=2) (ty:=30) (by kernel_rfl) _ _ w.heap.size 30 _ (0,0) _ rfl (World.alloc_heap_new _ _) Tryz.underlying30 rfl (by kernel_rfl)) rfl ⟨(World.Extends.refl w).alloc _,rfl⟩
theorem aoF {P:Program} {e:TypeId} (he:P.underlying e=some .string) {v:Value} {x:ax} {ps:List MemPlace} (h:plainElem (H:=Unit) P e v=some (.lit (.string x),ps)):v= .string (aL x):=by
 unfold plainElem at h
 rw[he]at h
 cases v<;>simp only[reduceCtorEq]at h
 rename_i b
 split at h
 ·simp only[Option.some.injEq,Prod.mk.injEq,DataW.lit.injEq,Lit.string.injEq]at h
  rw[<-h.1];cases b;simp[aL]
 ·cases h
def abN (b g:Nat) (w1 w2:World):Prop:=∀k,k<w1.heap.size->b<k->k≠g->w2.heap[k]?=w1.heap[k]?
theorem LX {w:World} {g:Nat} {x0 x1 x2 x3 eT:Value} (h:w.heap[g]?=some (.cells #[x0,x1,x2,x3,eT] 30 (0,0))):w.cell? {block:=g,off:=0}=some x0/\w.cell? {block:=g,off:=1}=some x1/\w.cell? {block:=g,off:=2}=some x2/\w.cell? {block:=g,off:=3}=some x3/\w.cell? {block:=g,off:=4}=some eT/\
 w.frozen? {block:=g,off:=0}=false/\w.frozen? {block:=g,off:=1}=false/\w.frozen? {block:=g,off:=2}=false/\w.frozen? {block:=g,off:=3}=false/\w.frozen? {block:=g,off:=4}=false:=by
 simp[World.cell?,World.frozen?,h]
theorem BV (w:World) {g k:Nat} (hk:k≠g) (x0 x1 x2 x3 eT:Value):
 (((((w.setCell ⟨g,0,none⟩ x0).setCell ⟨g,1,none⟩ x1).setCell ⟨g,2,none⟩ x2).setCell ⟨g,3,none⟩ x3).setCell ⟨g,4,none⟩ eT).heap[k]?=w.heap[k]?:=by
 rw[Go.heap_setCell_other _ ⟨g,4,none⟩ k eT hk,Go.heap_setCell_other _ ⟨g,3,none⟩ k x3 hk,Go.heap_setCell_other _ ⟨g,2,none⟩ k x2 hk,Go.heap_setCell_other _ ⟨g,1,none⟩ k x1 hk,Go.heap_setCell_other _ ⟨g,0,none⟩ k x0 hk]
theorem oG.of {g:Nat} {s0 s1 s2 eS:Value} {w w':World} (h:oG g s0 s1 s2 eS w) (h0:w'.heap[g]?=w.heap[g]?) (h1:w'.heap[g+1]?=w.heap[g+1]?) (h2:w'.heap[g+1+1]?=w.heap[g+1+1]?):oG g s0 s1 s2 eS w':=⟨h0.trans h.1,h1.trans h.2.1,h2.trans h.2.2⟩
set_option maxHeartbeats 8000000 in
theorem aku (v0:Value) (sp:Option Addr) (ad:Addr) (kO mJ XL:Nat) (p:ax) (s:Nat->ax) (Dc:ax->Option ax) (w:World) (hn:kO<=32) (VU:kO<=mJ) (hsp:0<kO->sp=some ad)
 (oT:∀w1,w.Extends w1->Calls Tryz.prog 14 #[.string (aL p)] w1 λe w2=>w1.Extends w2/\e= .returned (.bool true))
 (xx:∀w1,w.Extends w1->Calls Tryz.prog 22 #[v0] w1 λe w2=>w1.Extends w2/\e= .returned (.bool true))
 (hIdx:∀w1,w.Extends w1->Calls Tryz.prog 23 #[v0,.func (.func 20) #[] #[]] w1 λe w2=>w1.Extends w2/\∃B,e= .returned (.map (some B))/\w1.heap.size<=B/\jM Tryz.prog 9 (plainElem Tryz.prog 9) w2 B XL λx=>(Dc x).map λt=> .lit (.string t))
 (hs:∀w1,w.Extends w1->∀i,i<kO->w1.cell? (ad.add i)=some (.string (aL (s i)))) (n7:∀i,i<kO->(s i).length<=maxLen)
 (Rel:Nat->Nat->World->Value->Value->Prop)
 (aff:∀g w1,Rel 0 g w1 (.slice none 0 0) (.slice none 0 0))
 (Na:∀i g w1 w2 nm it,Rel i g w1 nm it->abN (w.heap.size+1+1) g w1 w2->Rel i g w2 nm it)
 (afj:∀i g w1 nm it,i<kO->Dc (s i)=none->Rel i g w1 nm it->Rel (i+1) g w1 nm it)
 (afl:∀i g w1 nm it t,i<kO->Dc (s i)=some t->w.Extends w1->g<w1.heap.size->w.heap.size+1+1<g->Rel i g w1 nm it->
   Calls Tryz.prog 24 #[.agg #[.int .i64 6,.int .i64 0,.string ⟨#[]⟩,nm,it],.string (aL (s i)),.agg #[.int .i64 4,.int .i64 0,.string (aL t),.slice none 0 0,.slice none 0 0]] w1 λe w2=>w1.Extends w2/\∃q1 n1 c1 q2 n2 c2,Rel (i+1) g w2 (.slice q1 n1 c1) (.slice q2 n2 c2)/\e= .returned (.tuple #[.agg #[.int .i64 6,.int .i64 0,.string ⟨#[]⟩,.slice q1 n1 c1,.slice q2 n2 c2],.int .i64 0])):
 Calls Tryz.prog 9 #[v0,.string (aL p),.agg #[.string (aL nG),.string (aL p),.slice sp kO mJ]] w λe w'=>w.Extends w'/\∃g nm it,Rel kO g w' nm it/\w.heap.size<=g/\e= .returned (.tuple #[.agg #[.int .i64 6,.int .i64 0,.string ⟨#[]⟩,nm,it],.int .i64 0])/\(∃q n c,nm= .slice q n c)/\∃q n c,it= .slice q n c:=by
 have lK:=@Go.RowKit.run_makeMap Tryz.prog
 obtain⟨w1,w2,ib,nM,pN,hx2,hF2⟩:=ID w p p (.slice sp kO mJ)
 obtain⟨d0,d1,d2,d3,_⟩:=hF2.cells
 have hg:¬(32:Int)<(kO:Int):=by omega
 go_enter Tryz.func9,Tryz.ntmps9
 go_wp2_with (first
  |(go_at_call 14;refine(oT _ (by assumption)).mono ?_;rintro e w3 ⟨hx3,rfl⟩;have rj:=hx2.trans hx3;have sd:=hF2.ext hx3)
  |(go_at_call 22;refine(xx _ rj).mono ?_;rintro e w4 ⟨oX,rfl⟩;have We:=rj.trans oX;have US:=sd.ext oX;obtain⟨e0,e1,e2,e3,_⟩:=US.cells)
  |(go_at_call 23;refine(hIdx _ We).mono ?_;rintro e m9 ⟨Wf,B,rfl,hB,VP⟩;have Ia:=We.trans Wf;have Hz:=US.ext Wf;have OA:=(World.Extends.refl m9).alloc (.cells #[.int .i64 6,.int .i64 0,.string ⟨#[]⟩,.slice none 0 0,.slice none 0 0] 30);obtain⟨e9,k1,k2,k3,_⟩:=Hz.cells;obtain⟨n0,n1,n2,n3,_⟩:=(Hz.ext OA).cells))
 have Hx:w.heap.size+1+1<m9.heap.size:=(Array.getElem?_eq_some_iff.1 Hz.2.2).1
 have Dy:B<m9.heap.size:=VP.lt
 go_loopw [61] (λv wr=>∃k:Nat,k<=kO/\v= .int .i64 k/\w.Extends wr/\oG w.heap.size (.string (aL p)) (.string (aL nG)) (.string (aL p)) (.slice sp kO mJ) wr/\jM Tryz.prog 9 (plainElem Tryz.prog 9) wr B XL (λx=>(Dc x).map λt=> .lit (.string t))/\∃q1 n1 c1 q2 n2 c2,wr.heap[m9.heap.size]?=some (.cells #[.int .i64 6,.int .i64 0,.string ⟨#[]⟩,.slice q1 n1 c1,.slice q2 n2 c2] 30 (0,0))/\Rel k m9.heap.size wr (.slice q1 n1 c1) (.slice q2 n2 c2)) (λv _=>kO-(intOf v).toNat)
 case atStart=>exact⟨0,Nat.zero_le _,rfl,Ia.alloc _,Hz.ext OA,VP.ext OA,none,0,0,none,0,0,World.alloc_heap_new _ _,aff _ _⟩
 case round=>
  obtain⟨k,hk,rfl,hx,hF,hm,kR,na,wy,FA,FB,FC,D1,hR⟩:=hrel
  obtain⟨q0,q1,q2,q3,bE,c1,c2,c3,c4,f0,f1,f2,f3,f4⟩:=hF.cells
  obtain⟨m0,fV,m2,m3,yn,axC,axD,axE,axF,axG⟩:=LX D1
  by_cases q9:k<kO
  ·obtain rfl:=hsp (by omega)
   have hc:=hs _ hx k q9
   have hlk:=hm.look Tryz.underlying9 Tryz.underlying52 (z:= .string ⟨#[]⟩) rfl (n7 k q9)
   cases hf:Dc (s k)with
   |none=>
    have QQ:=hlk.1 (by rw[hf];rfl)
    go_wp2
    go_roundw
    case rel=>exact⟨k+1,by omega,by go_num,hx,hF,hm,kR,na,wy,FA,FB,FC,D1,afj _ _ _ _ _ q9 hf hR⟩
    case measure=>simp[intOf];omega
   |some t=>
    obtain⟨v,ps,QQ,hv⟩:=hlk.2 _ (by rw[hf];rfl)
    have:=aoF Tryz.underlying9 hv
    subst this
    go_upto_region 17 with fail
    have vy:m9.heap.size<wr.heap.size:=(Array.getElem?_eq_some_iff.1 D1).1
    go_region_with (first
     |(go_at_call 25;refine(aqW _ _).mono ?_;rintro e QW ⟨aif,rfl⟩;have Ew:wr.Extends QW:=(World.Extends.refl wr).drew.trans aif;have agY:QW.heap[m9.heap.size]?=_:=(Ew.block _ vy).trans D1;obtain⟨l0,l1,l2,l3,axv,lf0,lf1,lf2,lf3,lf4⟩:=LX agY)
     |(go_at_call 24;refine(afl k m9.heap.size _ _ _ t q9 hf (hx.trans Ew) (Nat.lt_of_lt_of_le vy Ew.size) Hx (Na _ _ _ _ _ _ hR (λj hj _ _=>Ew.block j hj))).mono ?_;rintro e Cb ⟨aih,ae,z2,z3,z4,z5,z6,nX,rfl⟩;have Ib:=Ew.trans aih;have VB:Cb.heap[m9.heap.size]?=_:=(Ib.block _ vy).trans D1;obtain⟨p0,p1,bo,bU,c6,axZ,ax0,ax1,ax2,ax3⟩:=LX VB))
    all_goals
     have aii:=hx.trans Ib
     have r1:=zP (g:=m9.heap.size) aii Ia.size (.int .i64 6) (.int .i64 0) (.string ⟨#[]⟩) (.slice ae z2 z3) (.slice z4 z5 z6)
     have r2:=(hF.ext Ib).of (BV Cb (g:=m9.heap.size) (by have:=Ia.size;have:=Hx;omega) (.int .i64 6) (.int .i64 0) (.string ⟨#[]⟩) (.slice ae z2 z3) (.slice z4 z5 z6)) (BV Cb (g:=m9.heap.size) (by have:=Hx;omega) (.int .i64 6) (.int .i64 0) (.string ⟨#[]⟩) (.slice ae z2 z3) (.slice z4 z5 z6)) (BV Cb (g:=m9.heap.size) (by have:=Hx;omega) (.int .i64 6) (.int .i64 0) (.string ⟨#[]⟩) (.slice ae z2 z3) (.slice z4 z5 z6))
     have r3:=(hm.ext Ib).blk (BV Cb (g:=m9.heap.size) (k:=B) (Nat.ne_of_lt Dy) (.int .i64 6) (.int .i64 0) (.string ⟨#[]⟩) (.slice ae z2 z3) (.slice z4 z5 z6))
     have fM:=BU VB rfl (.int .i64 6) (.int .i64 0) (.string ⟨#[]⟩) (.slice ae z2 z3) (.slice z4 z5 z6)
     have cR:=Na _ _ _ _ _ _ nX (λj _ _ hj=>BV Cb hj (.int .i64 6) (.int .i64 0) (.string ⟨#[]⟩) (.slice ae z2 z3) (.slice z4 z5 z6))
     go_wp2
     go_roundw
     case rel=>exact⟨k+1,by omega,by go_num,r1,r2,r3,_,_,_,_,_,_,fM,cR⟩
     case measure=>simp[intOf];omega
  ·have:k=kO:=by omega
   subst this
   go_wp2
   all_goals
    refine bodyPost_ret (E9 rfl rfl (BU hF.2.2 rfl _ _ _ _ _) rfl) rfl ?_
    exact⟨zP hx (by omega) _ _ _ _ _,_,_,_,Na _ _ _ _ _ _ hR (λj _ kl _=>BV _ (show j≠w.heap.size+1+1 by omega) _ _ _ _ _),Ia.size,rfl,⟨_,_,_,rfl⟩,_,_,_,rfl⟩
end Go.bH
namespace Go.bH
open Go Go.bg Go.Proofs Go.RowKit
theorem acd (x y:ax):aL y++{data:=#[32]}++aL x=aL (y++[32]++x):=by
 apply ByteArray.ext;apply Array.ext';simp[aL]
set_option maxHeartbeats 4000000 in
theorem aqQ (x y:ax) (w:World) (h:x.length+1+y.length<=1000000):Calls Tryz.prog 20 #[.agg #[.string (aL x),.string (aL y)]] w λe w'=>w.Extends w'/\e= .returned (.string (aL (y++[32]++x))):=by
 have h1:¬9223372036854775807<(aL y).size+1:=by rw[nV];omega
 have h2:¬9223372036854775807<(aL y).size+1+(aL x).size:=by rw[nV,nV];omega
 go_enter Tryz.func20,Tryz.ntmps20
 go_wp2
 rw[acd]
 go_ret
 exact⟨(World.Extends.refl w).alloc _,rfl⟩
end Go.bH
namespace Go.bH
open Go Go.bg Go.Proofs Go.RowKit
theorem yM {F F':Nat->Prop} {w w':World} {sh:List ay} {rows:List (List Int)} {v:Value} (h:gB F w sh rows v) (hf:Fr F w F' w'):gB F' w' sh rows v:=by
 rcases h with h|⟨g,o,cap,cells,t,fz,h1,h2,h3,h4,h5⟩
 ·exact .inl h
 ·obtain⟨k1,k2⟩:=hf g h3 _ h4
  exact .inr ⟨g,o,cap,cells,t,fz,h1,h2,k1,k2,h5.mono hf⟩
theorem Zd {F F':Nat->Prop} {w w':World} {sh:List ay} {rows:List (List Int)} {v:Value} (h:gB F w sh rows v) (hF:∀g,F g->F' g) (hx:w.Extends w'):gB F' w' sh rows v:=yM h (Fr.ext hF hx)
theorem Zf {F:Nat->Prop} {w:World} {sh:List ay} {rows:List (List Int)} {v:Value} (hp:iS sh=true) (h:gB F w sh rows v):∃(sp:Option Addr) (g o c:Nat),v= .slice sp rows.length c/\rows.length<=c/\(0<rows.length->sp=some ⟨g,o,none⟩)/\(∀row∈rows,bO sh row)/\∀w1,w.Extends w1->∀(i j:Nat) (row:List Int) (u:Value),rows[i]?=some row->(dp sh row)[j]?=some u->w1.cell? ⟨g,o+(i*sh.length+j),none⟩=some u:=by
 rcases h with⟨⟨p,rfl⟩,rfl⟩|⟨g,o,cap,cells,t,fz,h1,h2,h3,h4,h5⟩
 ·exact⟨p,0,0,0,rfl,Nat.le_refl _,by simp,by simp,by simp⟩
 ·obtain⟨hr,pre,post,k1,k2⟩:=(mF hp).1 h5
  refine⟨_,g,o,cap,h1,h2.1,λ_=>rfl,hr,λw1 hx i j row u hi hj=>?_⟩
  have hlt:=(Array.getElem?_eq_some_iff.1 h4).1
  have hu:=MC hr hi hj
  simp only[World.cell?,hx.block g hlt,h4,Option.isSome_none,Bool.false_eq_true,if_false]
  have:cells.toList[o+(i*sh.length+j)]?=some u:=by
   rw[k1,List.append_assoc,List.getElem?_append_right (by omega),k2,Nat.add_sub_cancel_left,List.getElem?_append_left (List.getElem?_eq_some_iff.1 hu).1]
   exact hu
  simpa using this
theorem aei {P:Program} {f:FuncId} {args:Array Value} {w:World} {val:Value} (he:(callFunc f args).run P w= .ok (.enter f args) w) (h:zi P f args w val):Calls P f args w λe w'=>e= .returned val/\w.Extends w':=by
 rcases h with h|⟨_,h⟩
 ·rw[he]at h;cases h
 ·exact h
theorem aoH {wb:World} (hp:bq wb AV) {c:Int} (h:0<=c/\c<=bx) {w:World} (hw:wb.Extends w):Calls Tryz.prog 14 #[.string (aL (U c))] w λe w2=>w.Extends w2/\e= .returned (.bool (jo (U c))):=by
 obtain⟨rs,h1,h2,h3⟩:=hp [c] ⟨h.1,h.2,trivial⟩
 match rs,h1 with
 |[r],h1=>
  have h2:r=aN (jo (U c)):=h2
  refine(aei (enters (by kernel_rfl) _ _) (h3 w hw)).mono ?_
  rintro e w2 ⟨he,hx⟩
  refine⟨hx,?_⟩
  rw[he]
  show Ending.returned (.bool (decide (r=1)))=_
  rw[h2,CK]
theorem apo {wb:World} (hr:gW wb AF) {F:Nat->Prop} {z:Int} (hz:0<=z/\z<=ch) {w:World} {v:Value} (hw:wb.Extends w) (h:gB F w [.str,.str,.str,.int .i64 (-9223372036854775808) 9223372036854775807] (ab z) v):Calls Tryz.prog 22 #[v] w λe w2=>w.Extends w2/\e= .returned (.bool (h9 (bds z))):=by
 refine(hr.2 F w [v] [z] hw ⟨hz.1,hz.2,trivial⟩ trivial ⟨h,trivial⟩).mono ?_
 rintro e w2 ⟨hx,rs,us,hb,hs,ha,rfl⟩
 match rs,hb,us,ha with
 |[r],hb,[u],ha=>
  have hs:r=aN (h9 (bds z)):=hs
  have ha:u= .bool (decide (r=1)):=ha.1
  subst ha
  refine⟨hx,?_⟩
  rw[hs,CK];rfl
def abF (w0:World) (l:List gV) (d:List ax) (nm:ax×ax->ax) (i g:Nat) (w:World) (Bx ye:Value):Prop:=∃a b:Int,(0<=a/\a<=ch)/\(0<=b/\b<=ch)/\me a b/\(ab a).length<=i/\(∀s,mg a b s=cond ((d.take i).contains s) (ou nm l s) none)/\gB (λh=>w0.heap.size+1+1<h/\h≠g) w [.str] (ab a) Bx/\gB (λh=>w0.heap.size+1+1<h/\h≠g) w [.int .i64 4 4,.int .i64 0 0,.str,.nil,.nil] (ab b) ye
theorem Zg {F:Nat->Prop} {w:World} {sh:List ay} {rows:List (List Int)} {v:Value} (h:gB F w sh rows v):∃q n c,v= .slice q n c:=by
 rcases h with⟨⟨p,h⟩,_⟩|⟨g,o,cap,cells,t,fz,h1,_⟩
 ·exact⟨_,_,_,h⟩
 ·exact⟨_,_,_,h1⟩
theorem Zu {d:List ax} {i:Nat} (hi:i<d.length) (s:ax):(d.take (i+1)).contains s=((d.take i).contains s||decide (s=d[i])):=by
 have e:d.take (i+1)=d.take i++[d[i]]:=by rw[List.take_add_one,List.getElem?_eq_getElem hi];rfl
 rw[e]
 generalize d.take i=x
 generalize d[i]=y
 rw[Bool.eq_iff_iff]
 simp
theorem Qo:U 0=[]:=ea []
theorem S6:aL (U 0)=⟨#[]⟩:=by rw[Qo];rfl
theorem Gz:0<=ch:=oI (l:=[]) (by simp) (by simp)
theorem aiC {e:Int} (h:0<=e/\e<=21):bd (cg It.res) [0,0,0,0,0,e]:=⟨by decide,by decide,by decide,by decide,by decide,gb,by decide,Gz,by decide,Gz,h.1,h.2,trivial⟩
theorem akq (l:List gV) (p q:ax) (d:List ax):0<=nE l p q d/\nE l p q d<=21:=by
 unfold nE
 cases(jo p&&h9 l)<;>simp only[cond_true,cond_false]<;>try decide
 cases decide (q=p)<;>simp only[cond_true,cond_false]<;>try decide
 cases Nat.ble d.length 32<;>simp only[cond_true,cond_false]<;>decide
theorem Pf {F:Nat->Prop} {w w':World} {z p q d e:Int} (hx:w.Extends w') (he:e=nE (bds z) (U p) (U q) (bn d)) (hne:e≠0):
 w.Extends w'/\∃rs us,bd (cg It.res) rs/\b7 sh SB 678 [z,p,q,d] rs/\gq (λg=>F g∨w.heap.size<=g) (λg=>w.heap.size<=g) w' It.res rs us/\Ending.returned (.tuple #[.agg #[.int .i64 0,.int .i64 0,.string ⟨#[]⟩,.slice none 0 0,.slice none 0 0],.int .i64 e])= .returned (lV (lG vp.gr us)):=by
 refine⟨hx,[0,0,0,0,0,e],[.int .i64 0,.int .i64 0,.string (aL (U 0)),.slice none 0 0,.slice none 0 0,.int .i64 e],aiC (by rw[he];exact akq ..),?_,⟨rfl,rfl,rfl,.inl ⟨⟨none,rfl⟩,fN⟩,.inl ⟨⟨none,rfl⟩,fN⟩,rfl,trivial⟩,by rw[S6];rfl⟩
 show zk hP (bds z) (U p) (U q) (bn d) 0 0 0 0 0 e
 exact⟨he,rfl,Qo,λ_=>⟨rfl,fN,fN⟩,λh=>absurd h hne⟩
theorem apz {d:Int} (h:∀row∈ab d,bO [.str] row) {i:Nat} (hi:i<(ab d).length):∃x:Int,(ab d)[i]?=some [x]/\(0<=x/\x<=bx)/\(bn d).getD i []=U x:=by
 have hr:=h _ (List.getElem_mem hi)
 match hrow:(ab d)[i],hr with
 |[x],hr=>
  refine⟨x,by rw[List.getElem?_eq_getElem hi,hrow],hr.1,?_⟩
  unfold bn
  rw[List.getD_eq_getElem?_getD,List.getElem?_map,List.getElem?_eq_getElem hi,hrow]
  rfl
theorem apw {z:Int} (h:∀row∈ab z,bO [.str,.str,.str,.int .i64 (-9223372036854775808) 9223372036854775807] row) {i:Nat} (hi:i<(ab z).length):∃a b x t:Int,(ab z)[i]?=some [a,b,x,t]/\(bds z).getD i eA=((U a,U b),U x,t):=by
 have hr:=h _ (List.getElem_mem hi)
 match hrow:(ab z)[i],hr with
 |[a,b,x,t],hr=>
  refine⟨a,b,x,t,by rw[List.getElem?_eq_getElem hi,hrow],?_⟩
  unfold bds
  rw[List.getD_eq_getElem?_getD,List.getElem?_map,List.getElem?_eq_getElem hi,hrow]
  rfl
theorem aiu {F:Nat->Prop} {z:Int} {w:World} {v:Value} (h:gB F w [.str,.str,.str,.int .i64 (-9223372036854775808) 9223372036854775807] (ab z) v) (hr:h9 (bds z)=true):
 Calls Tryz.prog 23 #[v,.func (.func 20) #[] #[]] w λe w2=>w.Extends w2/\∃B,e= .returned (.map (some B))/\w.heap.size<=B/\jM Tryz.prog 9 (plainElem Tryz.prog 9) w2 B (bds z).length λx=>(ou hP (bds z) x).map λt=> .lit (.string t):=by
 obtain⟨sp,g,o,c,rfl,hc,hsp,jh,hcell⟩:=Zf rfl h
 obtain⟨hl,aY⟩:=P3 hr
 have hlen:(bds z).length=(ab z).length:=by simp[bds]
 have hb:∀i,i<(ab z).length->iY ((bds z).getD i eA)=true:=λi hi=>by
  rw[List.getD_eq_getElem?_getD,List.getElem?_eq_getElem (by omega)]
  exact aY _ (List.getElem_mem _)
 have hm:∀n,n<=maxLen↔n<=maxLen:=λ_=>Iff.rfl
 have e0:(λx=>(ou hP (bds z) x).map λt=>(DataW.lit (Lit.string t):pX))=λx=>(sV hP (bds z) (ab z).length x).map λt=> .lit (.string t):=by
  funext x;unfold sV;rw[List.take_of_length_le (by omega)]
 rw[hlen,e0]
 refine aiw sp ⟨g,o,none⟩ c (ab z).length (λi=>(((bds z).getD i eA).1.1,((bds z).getD i eA).1.2,((bds z).getD i eA).2.1,((bds z).getD i eA).2.2)) (λi=>hP ((bds z).getD i eA).1) (λk x=>(sV hP (bds z) k x).map λt=> .lit (.string t)) w (by omega) hc hsp ?_ ?_ ?_ ?_ ?_
 ·funext x;unfold sV ou;simp
 ·intro i hi
  funext x
  rw[ZO (by omega)]
  have e:(bds z).getD i eA=(bds z)[i]'(by omega):=by rw[List.getD_eq_getElem?_getD,List.getElem?_eq_getElem (by omega)];rfl
  rw[e]
  cases decide (x=hP ((bds z)[i]'(by omega)).1)<;>rfl
 ·intro w1 hx i hi
  obtain⟨a,b,x,t,h1,h2⟩:=apw jh hi
  rw[h2]
  simp only[Addr.add_lit]
  exact⟨hcell w1 hx i 0 _ _ h1 rfl,hcell w1 hx i 1 _ _ h1 rfl,hcell w1 hx i 2 _ _ h1 rfl,hcell w1 hx i 3 _ _ h1 rfl⟩
 ·intro i hi
  obtain⟨h1,h2,h3,h4,h5,h6⟩:=CL (hb i hi)
  refine⟨?_,?_⟩
  ·unfold hP maxLen;simp only[List.length_append,List.length_cons,List.length_nil];omega
  ·show(((bds z).getD i eA).2.1).length<=maxLen
   unfold maxLen;omega
 ·intro w1 hx i hi
  obtain⟨h1,h2,h3,h4,h5,h6⟩:=CL (hb i hi)
  exact aqQ _ _ w1 (by show((bds z).getD i eA).1.1.length+1+((bds z).getD i eA).1.2.length<=_;omega)
theorem amj {wb:World} (ahE:bq wb AV) (ahP:gW wb AF) (aic:kW wb MG):kW wb vp:=by
 refine⟨λargs w=>enters (by kernel_rfl) _ _,λF w vs zs hw hz gP hat=>?_⟩
 match zs,hz,vs,hat with
 |[z,p,q,d],hz,[v0,v1,v2,v3,v4],hat=>
  obtain⟨h0,h1,h2,h3,h4,_⟩:=hat
  have h0:gB F w [.str,.str,.str,.int .i64 (-9223372036854775808) 9223372036854775807] (ab z) v0:=h0
  have h1:v1= .string (aL (U p)):=h1
  have h2:v2= .string (aL nG):=h2
  have h3:v3= .string (aL (U q)):=h3
  have h4:gB F w [.str] (ab d) v4:=h4
  subst h1 h2 h3
  obtain⟨hz0,hz1,xS,vD,qi,nz,pv,vw,_⟩:=hz
  have oT:∀w1,w.Extends w1->Calls Tryz.prog 14 #[.string (aL (U p))] w1 λe w2=>w1.Extends w2/\e= .returned (.bool (jo (U p))):=λw1 hx=>aoH ahE ⟨xS,vD⟩ (hw.trans hx)
  have DE:∀w1,w.Extends w1->Calls Tryz.prog 22 #[v0] w1 λe w2=>w1.Extends w2/\e= .returned (.bool (h9 (bds z))):=λw1 hx=>apo ahP ⟨hz0,hz1⟩ (hw.trans hx) (Zd h0 (λ_ h=>h) hx)
  have NB:(bn d).length=(ab d).length:=by simp[bn]
  show Calls Tryz.prog 9 #[v0,.string (aL (U p)),.agg #[.string (aL nG),.string (aL (U q)),v4]] w _
  cases hb:(jo (U p)&&h9 (bds z))with
  |false=>
   have he:nE (bds z) (U p) (U q) (bn d)=1:=by unfold nE;rw[hb];rfl
   refine(akr v0 v4 (U p) (U q) w _ _ hb oT DE).mono ?_
   rintro e w' ⟨hx,rfl⟩
   exact Pf hx he.symm (by decide)
  |true=>
   simp only[Bool.and_eq_true]at hb
   rw[hb.1]at oT
   rw[hb.2]at DE
   by_cases Eh:U q=U p
   ·obtain⟨sp,g,o,c,rfl,hc,hsp,jh,hcell⟩:=Zf rfl h4
    rw[Eh]
    by_cases hn:32<(ab d).length
    ·have he:nE (bds z) (U p) (U q) (bn d)=16:=by
      unfold nE;rw[hb.1,hb.2,Eh]
      have:Nat.ble (bn d).length 32=false:=by rw[NB];cases h:Nat.ble (ab d).length 32;rfl;exact absurd (Nat.le_of_ble_eq_true h) (by omega)
      rw[this];simp
     refine(aks v0 sp (ab d).length c (U p) w hn oT DE).mono ?_
     rintro e w' ⟨hx,rfl⟩
     exact Pf hx he.symm (by decide)
    ·have he:nE (bds z) (U p) (U q) (bn d)=0:=by
      unfold nE;rw[hb.1,hb.2,Eh]
      have:Nat.ble (bn d).length 32=true:=Nat.ble_eq_true_of_le (by rw[NB];omega)
      rw[this];simp
     obtain⟨ahe,aY⟩:=P3 hb.2
     have En:∀i,i<(ab d).length->∃x:Int,(ab d)[i]?=some [x]/\(0<=x/\x<=bx)/\(bn d).getD i []=U x:=λi hi=>apz jh hi
     have oV:∀i (hi:i<(ab d).length),(bn d).getD i []=(bn d)[i]'(by omega):=λi hi=>by rw[List.getD_eq_getElem?_getD,List.getElem?_eq_getElem (by omega)];rfl
     refine(aku v0 sp ⟨g,o,none⟩ (ab d).length c (bds z).length (U p) (λi=>(bn d).getD i []) (ou hP (bds z)) w (by omega) hc hsp oT DE (λw1 hx=>aiu (Zd h0 (λ_ h=>h) hx) hb.2) ?_ ?_ (abF w (bds z) (bn d) hP) ?_ ?_ ?_ ?_).mono ?_
     ·intro w1 hx i hi
      obtain⟨x,k1,k2,k3⟩:=En i hi
      have this:w1.cell? ⟨g,o+(i*1+0),none⟩=some (.string (aL (U x))):=hcell w1 hx i 0 _ _ k1 rfl
      rw[Nat.mul_one,Nat.add_zero]at this
      rw[k3,Addr.add_lit]
      exact this
     ·intro i hi
      obtain⟨x,k1,k2,k3⟩:=En i hi
      have h5:=rR k2.2
      show((bn d).getD i []).length<=maxLen
      rw[k3]
      unfold eK at h5;unfold maxLen;omega
     ·intro g1 w1
      refine⟨0,0,⟨by decide,Gz⟩,⟨by decide,Gz⟩,?_,by rw[fN];simp,?_,.inl ⟨⟨none,rfl⟩,fN⟩,.inl ⟨⟨none,rfl⟩,fN⟩⟩
      ·unfold me;rw[fN];simp
      ·intro s;unfold mg mW bn gx;rw[fN];simp
     ·rintro i g1 w1 w2 Bx ye ⟨a,b,ha,hb',hf,hl,hg,s1,s2⟩ vE
      have DZ:Fr (λh=>w.heap.size+1+1<h/\h≠g1) w1 (λh=>w.heap.size+1+1<h/\h≠g1) w2:=λk hk o ho=>⟨hk,by rw[vE k (Array.getElem?_eq_some_iff.1 ho).1 hk.1 hk.2];exact ho⟩
      exact⟨a,b,ha,hb',hf,hl,hg,yM s1 DZ,yM s2 DZ⟩
     ·rintro i g1 w1 Bx ye hi hnone ⟨a,b,ha,hb',hf,hl,hg,s1,s2⟩
      refine⟨a,b,ha,hb',hf,by omega,λs=>?_,s1,s2⟩
      rw[hg s,Zu (by omega) s]
      by_cases hs:s=(bn d)[i]'(by omega)
      ·have:ou hP (bds z) s=none:=by rw[hs,<-oV i hi];exact hnone
       rw[this]
       cases(List.take i (bn d)).contains s<;>cases decide (s=(bn d)[i]'(by omega))<;>rfl
      ·rw[decide_eq_false hs,Bool.or_false]
     ·rintro i g1 w1 Bx ye t hi hsome hx hg1 hg0 ⟨a,b,ha,hb',hf,hl,hg,s1,s2⟩
      obtain⟨x,k1,k2,k3⟩:=En i hi
      obtain⟨Tg,agr,hb1,hb2⟩:=ZP hsome
      obtain⟨a1,a2,a3,a4,a5,abR⟩:=CL (aY Tg agr)
      have hb1:hP Tg.1=(bn d).getD i []:=hb1
      rw[hb1,k3]at a1
      rw[hb2]at a4 a5 abR
      have Oo:t.length<=eK:=by unfold eK;omega
      have hst:U (dC t)=t:=ea t
      have nY:=aic.2 (λh=>w.heap.size+1+1<h/\h≠g1) w1 [.int .i64 6,.int .i64 0,.string ⟨#[]⟩,Bx,ye,.string (aL (U x)),.agg #[.int .i64 4,.int .i64 0,.string (aL (U (dC t))),.slice none 0 0,.slice none 0 0]] [a,b,x,4,0,dC t,0,0] (hw.trans hx) ⟨ha.1,ha.2,hb'.1,hb'.2,k2.1,k2.2,by decide,by decide,by decide,by decide,ph _,nR Oo,by decide,by decide,by decide,by decide,trivial⟩ (show me a b/\kD x/\kD (dC t) from⟨hf,a1,by unfold kD;rw[hst];exact a4⟩) ⟨rfl,rfl,rfl,s1,s2,rfl,rfl,trivial⟩
      rw[hst]at nY
      show Calls Tryz.prog 24 #[_,.string (aL ((bn d).getD i [])),_] w1 _
      rw[k3]
      refine nY.mono ?_
      rintro e w2 ⟨hx2,rs,us,qX,hs,Nr,rfl⟩
      match rs,qX,us,Nr with
      |[k,n,tt,a',b',e],qX,[u0,ib,nM,pN,u4,QP],Nr=>
       have hs:e=0/\k=6/\n=0/\U tt=[]/\u6 a b x [4,0,dC t,0,0] a' b':=hs
       obtain⟨rfl,rfl,rfl,Er,hput⟩:=hs
       obtain⟨-,-,-,-,-,-,b0,b1,b2,b3,-,-,-⟩:=qX
       obtain⟨v0,v1,v2,v3,v4,v5,-⟩:=Nr
       have v0:u0= .int .i64 6:=v0
       have v1:ib= .int .i64 0:=v1
       have v2:nM= .string (aL (U tt)):=v2
       have v3:gB (λg=>(w.heap.size+1+1<g/\g≠g1)∨w1.heap.size<=g) w2 [.str] (ab a') pN:=v3
       have v4:gB (λg=>(w.heap.size+1+1<g/\g≠g1)∨w1.heap.size<=g) w2 [.int .i64 4 4,.int .i64 0 0,.str,.nil,.nil] (ab b') u4:=v4
       have v5:QP= .int .i64 0:=v5
       subst v0 v1 v2 v5
       obtain⟨q1,n1,c1,rfl⟩:=Zg v3
       obtain⟨q2,n2,c2,rfl⟩:=Zg v4
       obtain⟨p1,bo,bU⟩:=aoS hf hput a1 (by unfold kD;rw[hst];exact a4) (by omega)
       have UT:∀h,((w.heap.size+1+1<h/\h≠g1)∨w1.heap.size<=h)->(w.heap.size+1+1<h/\h≠g1):=λh ah=>by omega
       refine⟨hx2,q1,n1,c1,q2,n2,c2,⟨a',b',⟨b0,b1⟩,⟨b2,b3⟩,p1,by omega,λs=>?_,yM v3 (Fr.of w2 UT),yM v4 (Fr.of w2 UT)⟩,by rw[Er];rfl⟩
       rw[bU s,hg s,Zu (by omega) s,<-oV i hi,k3]
       by_cases hs:s=U x
       ·have:ou hP (bds z) s=some t:=by rw[hs,<-k3];exact hsome
        rw[this,hst,decide_eq_true hs,Bool.or_true];rfl
       ·rw[decide_eq_false hs,Bool.or_false];rfl
     ·rintro e w' ⟨hx,g1,Bx,ye,⟨a,b,ha,hb',hf,hl,hg,s1,s2⟩,hg1,rfl,⟨q1,n1,c1,rfl⟩,q2,n2,c2,rfl⟩
      refine⟨hx,[6,0,0,a,b,0],[.int .i64 6,.int .i64 0,.string (aL (U 0)),.slice q1 n1 c1,.slice q2 n2 c2,.int .i64 0],⟨by decide,by decide,by decide,by decide,by decide,gb,ha.1,ha.2,hb'.1,hb'.2,by decide,by decide,trivial⟩,?_,⟨rfl,rfl,rfl,yM s1 (Fr.of w' λh ah=> .inr (by omega)),yM s2 (Fr.of w' λh ah=> .inr (by omega)),rfl,trivial⟩,by rw[S6];rfl⟩
      show zk hP (bds z) (U p) (U q) (bn d) 6 0 0 a b 0
      refine⟨he.symm,rfl,Qo,λh=>absurd rfl h,λ_=>⟨rfl,hf,λs=>?_⟩⟩
      rw[hg s,List.take_of_length_le (by omega)]
   ·have he:nE (bds z) (U p) (U q) (bn d)=15:=by
     unfold nE;rw[hb.1,hb.2,decide_eq_false Eh];rfl
    refine(akt v0 v4 (U p) (U q) w Eh oT DE).mono ?_
    rintro e w' ⟨hx,rfl⟩
    exact Pf hx he.symm (by decide)
end Go.bH
namespace Go.Proofs.YtiljgcomigmidaaGreatDoor
open Go Go.bg Go.bH Go.ChangeShapes Go.RowKit
theorem own:ownKnob Tryz.prog.godebug=none:=by kernel_rfl
theorem akl:laidOutB Tryz.prog=true:=by kernel_rfl
def laid:List (String×DataW Unit):=[("unicode/utf8.acceptRanges",Rows.laid_unicode_utf8_acceptRanges),("vouchsafe/sha.roots",Rows.laid_vouchsafe_sha_roots),("vouchsafe/sha.begins",Rows.laid_vouchsafe_sha_begins),("unicode/utf8.first",Rows.laid_unicode_utf8_first)]
theorem UD:Tryz.prog.globalNamed "vouchsafe/sha.roots" =some 0:=by kernel_rfl
theorem aqJ:(Tryz.prog.globals[0]?).map (·.type)=some 80:=by kernel_rfl
theorem arB:Tryz.prog.underlying 80=some (.array 80 79):=by kernel_rfl
theorem adL:Tryz.prog.underlying 79=some (.int .u64):=by kernel_rfl
theorem acX:Tryz.prog.cellsOf 79=1:=by kernel_rfl
theorem acM:Tryz.prog.cellsOf 80=80:=by kernel_rfl
theorem ajs:(Rows.laid_vouchsafe_sha_roots:DataW Unit)= .agg (BR.map λz=> .lit (.int .u64 z)):=by kernel_rfl
theorem UE:Tryz.prog.globalNamed "vouchsafe/sha.begins" =some 1:=by kernel_rfl
theorem aqK:(Tryz.prog.globals[1]?).map (·.type)=some 88:=by kernel_rfl
theorem arC:Tryz.prog.underlying 88=some (.array 8 79):=by kernel_rfl
theorem adM:Tryz.prog.underlying 79=some (.int .u64):=by kernel_rfl
theorem acY:Tryz.prog.cellsOf 79=1:=by kernel_rfl
theorem acN:Tryz.prog.cellsOf 88=8:=by kernel_rfl
theorem ajt:(Rows.laid_vouchsafe_sha_begins:DataW Unit)= .agg (GP.map λz=> .lit (.int .u64 z)):=by kernel_rfl
theorem UL {W:ai} (h:laidMetH Tryz.prog laid W):eQ cj ⟨W,W,λ_=>False,λ_=>False,[]⟩:=by
 rw[azl _ _ _ (by kernel_rfl)]at h;obtain⟨ps,⟨_,_,_,_,_,_,_,_,_,_,⟨a0,b0,TH,f0,p0,q0,hg0,rh,hv0,pv,⟨a1,b1,awn,f1,p1,q1,hg1,ahZ,pC,vw,⟨_,_,_,_,_,_,_,_,_,_,_,_⟩,_⟩,_⟩,_⟩,_,_⟩:=h;obtain rfl:=gH (UD.symm.trans hg0);obtain rfl:=gH (aqJ.symm.trans rh);rw[ajs]at pv;have x0:=UK (zs:=BR) UD arB adL acX acM hv0 pv;obtain rfl:=gH (UE.symm.trans hg1);obtain rfl:=gH (aqK.symm.trans ahZ);rw[ajt]at vw;have x1:=UK (zs:=GP) UE arC adM acY acN pC vw;intro g cs hm;simp only[cj,List.mem_cons,cv,List.not_mem_nil,or_false]at hm;rcases hm with⟨rfl,rfl⟩|⟨rfl,rfl⟩
 ·rw[kT];exact x0
 ·rw[kT];exact x1
theorem ajv:(laid.filter λx=>x.2.handleName?.isNone)=laid:=by kernel_rfl
theorem adv (os:Os) (args:Array aA):laidMetH Tryz.prog laid ((World.laidAll Tryz.prog os laid).forCall (λ_ _=>0) ⟨#[],args,[]⟩).memory:=
 laidMetH_of_parts3 (fuel:=8) (by rw[ajv];exact laidMet_laidAll args (by kernel_rfl) (by kernel_rfl)) (by kernel_rfl) (by kernel_rfl)
theorem aq6:Cz Tryz.prog 22 (.rd [.str,.str,.str,.int .i64 (-9223372036854775808) 9223372036854775807]):=⟨41,Tryz.underlying22,by kernel_rfl,by kernel_rfl,by decide⟩
theorem aq8:Cz Tryz.prog 9 (.d (.str)):=Tryz.underlying9
theorem aq7:Cz Tryz.prog 23 (.rd [.str]):=⟨9,Tryz.underlying23,by kernel_rfl,by kernel_rfl,by decide⟩
theorem cell0 {W:ai} (h:W.ShapedOpen Tryz.prog):∃m,W.cell? ⟨6,0,none⟩=some (.int .i64 m):=
 cell_of_shapedOpen_int (zero:=#[.int .i64 0]) (t:=3) h (of_decide_eq_true (by kernel_rfl)) (by kernel_rfl) rfl (by kernel_rfl) (by kernel_rfl) Tryz.underlying3
theorem agM {W:ai} {m:Int} (h:W.cell? ⟨6,0,none⟩=some (.int .i64 m)):6<W.heap.size:=by
 rcases Nat.lt_or_ge 6 W.heap.size with h0|h0
 ·exact h0
 ·have:W.heap[(6:Nat)]?=none:=Array.getElem?_eq_none h0;simp[World.cell?,this]at h
theorem am5 {id:Nat} (hid:id=682) (a:List (List Int)) (z:Int) (h:SB id a [[z]]):z=1:=by
 subst hid
 all_goals
  match a,h with
  |[],h=>first|exact h|exact h.elim
  |[_],h=>first|exact h|exact h.elim
  |[_,_],h=>first|exact h|exact h.elim
  |[_,_,_],h=>first|exact h|exact h.elim
  |_::_::_::_::_,h=>exact h.elim
structure aba (W:ai):Prop where
 Pc:gW W yg
 Pd:kW W Dm
 Iy:kW W vp
 Io:kW W xk
 Q0:gW W yi
theorem abZ {W:ai} (h:W.ShapedOpen Tryz.prog) (bZ:laidMetH Tryz.prog laid W):aba W:=by
 have hg:=UL bZ;obtain⟨m,hm⟩:=cell0 h;have yb:bq W nD:=al8;have Zw:=amU hg;have Zz:=amW hg;have aq1:=amX hg Zw Zz;have aqP:=amS hg Zw Zz;have acW:=alQ hg yb;have aqO:=amR hg;have adl:=alW hg yb;have TI:=alX hg yb;have am7:=ams hg yb;have OL:=ama hg yb;have akB:=amp hg;have aps:=amD hg;have apl:=amy hg;have Tv:u5 W BJ:=alP ⟨m,hm⟩ (agM hm);have aqR:=amT hg;have aqN:=amQ hg;have ahB:=al7 hg Tv aqR aqO OL;have Y7:=amJ hg TI ahB aqN OL;have akn:=amo hg Tv am7 aqP;have apr:=amC hg;have Zj:=amL hg;have aev:=al6 hg;have Me:=alZ hg;have Yu:=amz hg Zj aev Me;have ao9:=amw hg;have apF:=amF hg ao9;have ape:=amx hg apr Yu apl aps;have adg:bq W Ir:=alT;have ach:bq W Iq:=alM;have aqZ:=amV hg;have adS:=al0 hg aq1 adl akn acW Y7 akB yb;have aoI:=amu hg adg ach aqZ;have ala:=amr hg aoI adS;have apt:=amE hg apF ape;have apm:=amA hg ala;have apG:=amG hg apt;have ajK:=amk hg;have apq:=amB hg;have aq2:=amY hg;have TC:=alS hg;have apH:=amH hg TC Yu Me;have aoC:=amt hg TC apH;have apP:=amI hg aoC Zj Me;have asR:=amZ hg TI aq2 OL Y7;have acA:=alO hg apm asR;have acm:=alN hg ajK;have ace:=alL hg acA acm;have auc:=am3 hg apG apP;have Q0:=am2 hg auc apq;have aoM:=amv hg;have adj:=alV hg yb;have akD:=amq hg aoM adj;have QT:=am0 hg;have aiT:=amc hg QT;have aiS:=amd hg QT;have aiV:=amf hg;have aqv:Gu W eh:=amO;have aiZ:Gu W eg:=amh;have adi:=alU hg;have adm:=alY hg;have aiY:=amg hg aiV adi adm aqv aiZ;have aiU:=ame hg QT aiT aiS aiY;have Io:=amb hg;have aqi:=amM hg;have aej:=al1 hg;have aek:=al2 hg;have ael:=al3 hg;have aem:=al4 hg;have aqj:=amN hg aqi;have aet:=al5 hg;have ac8:=alR hg;have abX:=alK hg aet aej aek ael aem ac8;have aqb:=amK hg;have aqG:=amP hg aqj aqb abX;have aix:gW W Is:=al9;have ajr:=ami hg aix aqG;have Iy:kW W vp:=amj akD ace aiU;have Pc:=amm hg ajr Iy Io;have Pd:=amn hg;exact⟨Pc,Pd,Iy,Io,Q0⟩
end Go.Proofs.YtiljgcomigmidaaGreatDoor
