/- Pag: a part of the proof of statements of this seat. -/
import Derived.Test.YtponpidccjmlnaaGreatDoorPae
import Derived.Test.YtponpidccjmlnaaGreatDoorChunk
import Derived.Test.YtponpidccjmlnaaGreatDoorPac
import Derived.KernelRfl
import Derived.Shelf.Lay
import Derived.Shelf.LaySoft
import Derived.Shelf.Strings.Search1
import Derived.Shelf.Strings.Search3
import Derived.Shelf.Small.Strs
import Derived.Test.YtponpidccjmlnaaGreatDoorProg
import Derived.BigCall
import Derived.Shelf.Strings.Builder1
import Derived.Lib.IndexMore
import Derived.Test.YtponpidccjmlnaaGreatDoorPad
import Derived.WalkKit
import Derived.WideMake
import Derived.Laws.ResultCell
import Derived.Laws.Rows
import Derived.Lib.IndexAny
import Derived.OwnWalk
import Derived.Deep.RegionLaw
import Derived.Laws.CopyOwn
import Derived.Lib.Builder
import Derived.Lib.Overlaps
import Derived.Lib.AppendZerosOnto
import Derived.Shelf.Bytes.SlJoin
import Derived.RangeFuncOwn
import Derived.Shelf.Vars
import Derived.Test.YtponpidccjmlnaaGreatDoorRows
import Derived.Test.YtponpidccjmlnaaGreatDoorTie
import Derived.Test.YtponpidccjmlnaaGreatDoorCards
import Derived.SevenTiedAt
import Derived.Lay
open Bool renaming and_eq_true->aK
open Classical renaming choose_spec->Rz,choose->Z4
open Eq renaming trans->c6,symm->db
open Go renaming World->ai,Value->az,FuncId->cy,DataW->m8
open Go.MakeChecks renaming laidMetH_plain->ayk
open Go.World.Extends renaming refl->na
open Int renaming le_trans->nP
open List renaming mem_cons_of_mem->cR,append_nil->gT,map_map->j5,mem_cons_self->CE
open List.cons renaming injEq->hS
open Nat renaming beq->aA
open Option.some renaming inj->gE
open Prod.mk renaming injEq->cj
set_option linter.unusedVariables false
set_option maxRecDepth 100000
namespace Go.cd
open Go Go.bg Go.Proofs
abbrev bG (wb:ai) (k:bz):Prop:=k.cP Tryz.prog wb (cl sh SB k.id)
abbrev zJ (wb:ai) (q:j9):Prop:=q.eB Tryz.prog wb (cl sh SB q.c.id)
abbrev ij (wb:ai) (k:dL):Prop:=k.eB Tryz.prog wb (cl sh SB k.id)
abbrev To (wb:ai) (k:kD):Prop:=k.eB Tryz.prog wb (cl sh SB k.id)
abbrev zI (wb:ai) (k:ik):Prop:=k.eB Tryz.prog wb (cl sh SB k.c.id)
abbrev GF (wb:ai) (k:kE):Prop:=k.eB Tryz.prog wb (cl sh SB k.c.id)
theorem dy:Tryz.prog.follows .mixedOrders=true:=by kernel_rfl
theorem aJ {α:Type} {p:α->Prop}:∀x∈([]:List α),p x:=λ_ h=>by cases h
theorem aY {α:Type} {p:α->Prop} {a:α} {l:List α} (h:p a) (hl:∀x∈l,p x):∀x∈a::l,p x:=λx hx=>by
 rcases List.mem_cons.1 hx with rfl|hx
 ·exact h
 ·exact hl x hx
abbrev dq (wb:ai):Prop:=eK b8 ⟨wb,wb,λ_=>False,λ_=>False,[]⟩
theorem jg {a b:Int} (h:[[a]]=[[b]]):a=b:=by simpa using h
section
variable {wb:ai} {nT:Nat->List (List Int)->List (List Int)->Prop} {cal:eg} {li:cy->Nat->Option dC} {n d:Nat} {lsh:Nat->List Nat} {lens:List Nat} {B:(Nat->List (List Int)->List (List Int)->Prop)->(List (List Int)->List (List Int)->Prop)->Prop}
theorem e5 {c:bz} (cx:∀r ex ro,fk (cl sh nT) Tryz.prog b8 ⟨wb,r,ex,ro,[]⟩ cal) (hg:dq wb) (hf:su Tryz.prog c.f=true) (hu:dR c.args c.res (cl sh nT c.id)) (hl:lens=(sh c.id).1) (hd:sO c.res=(sh c.id).2)
 (e:∀S K,tA sh lsh S K lens (de c.args) c.res (c.tree Tryz.prog b8 cal li n d)=B S K) (hp:B nT (bO nT c.res c.id)):c.cP Tryz.prog wb (cl sh nT c.id):=
 bz.eB.f (anG dy cx hg hf hu hl hd (by rw[e];exact hp))
theorem amd {q:j9} (cx:∀r ex ro,fk (cl sh nT) Tryz.prog b8 ⟨wb,r,ex,ro,[]⟩ cal) (hg:dq wb) (hf:su Tryz.prog q.c.f=true) (hu:dR q.c.args q.c.res (cl sh nT q.c.id)) (hl:lens=(sh q.c.id).1) (hd:sO q.c.res=(sh q.c.id).2)
 (e:∀S K,tA sh lsh S K lens (de q.c.args) q.c.res (q.tree Tryz.prog b8 cal li n d)=B S K) (hp:B nT (bO nT q.c.res q.c.id)):q.eB Tryz.prog wb (cl sh nT q.c.id):=
 apt dy cx hg hf hu hl hd (by rw[e];exact hp)
theorem oj {c:dL} {bc:jO} (cx:∀r ex ro,fk (cl sh nT) Tryz.prog b8 ⟨wb,r,ex,ro,[]⟩ cal) (hg:dq wb) (iB:∀(L:V->Env->Prop) (r:ai) (ro:Nat->Prop),oF (cl sh nT) L ⟨wb,r,λ_=>False,ro,[]⟩ Tryz.prog bc) (hf:su Tryz.prog c.f=true) (hl:lens=(sh c.id).1) (hd:uG c.res=(sh c.id).2)
 (e:∀S K,ja sh lsh S K lens (cH c.args) c.res (c.tree bc Tryz.prog b8 cal li n d)=B S K) (hp:B nT (eL nT c.res c.id)):c.eB Tryz.prog wb (cl sh nT c.id):=
 acT dy cx hg iB hf hl hd (by rw[e];exact hp)
end
theorem V3:KW Tryz.prog 147:=⟨enters (by kernel_rfl),Tryz.adx⟩
theorem rL {a0 b0:Int} (h0:U a0=U b0):e6 [.str] [a0]=e6 [.str] [b0]:=by
 show(.string (bd (U a0)):az)=(.string (bd (U b0)):az)
 rw[h0]
theorem pL {a0 b0:Int} (h0:a0=b0):e6 [.bool] [a0]=e6 [.bool] [b0]:=by
 show(.bool (decide (a0=1)):az)=(.bool (decide (b0=1)):az)
 rw[h0]
theorem YW {a0 a1 a2 b0 b1 b2:Int} (h0:U a0=U b0) (h1:U a1=U b1) (h2:a2=b2):e6 [.str,.str,.bool] [a0,a1,a2]=e6 [.str,.str,.bool] [b0,b1,b2]:=by
 show(.tuple #[.string (bd (U a0)),.string (bd (U a1)),.bool (decide (a2=1))]:az)=(.tuple #[.string (bd (U b0)),.string (bd (U b1)),.bool (decide (b2=1))]:az)
 rw[h0,h1,h2]
theorem YX {a0 a1 b0 b1:Int} (h0:U a0=U b0) (h1:a1=b1):e6 [.str,.int .i64 0 21] [a0,a1]=e6 [.str,.int .i64 0 21] [b0,b1]:=by
 show(.tuple #[.string (bd (U a0)),.int .i64 a1]:az)=(.tuple #[.string (bd (U b0)),.int .i64 b1]:az)
 rw[h0,h1]
theorem ap7 {a0 a1 a2 b0 b1 b2:Int} (h0:U a0=U b0) (h1:U a1=U b1) (h2:a2=b2):e6 [.mix [.str,.str],.int .i64 0 21] [a0,a1,a2]=e6 [.mix [.str,.str],.int .i64 0 21] [b0,b1,b2]:=by
 show(.tuple #[.agg #[.string (bd (U a0)),.string (bd (U a1))],.int .i64 a2]:az)=(.tuple #[.agg #[.string (bd (U b0)),.string (bd (U b1))],.int .i64 b2]:az)
 rw[h0,h1,h2]
theorem ap8 {a0 a1 a2 a3 a4 a5 C0 b0 b1 b2 b3 b4 mC C5:Int} (h0:U a0=U b0) (h1:U a1=U b1) (h2:U a2=U b2) (h3:U a3=U b3) (h4:U a4=U b4) (h5:U a5=U mC) (h6:U C0=U C5):e6 [.mix [.str,.str,.str,.str,.str,.str,.str]] [a0,a1,a2,a3,a4,a5,C0]=e6 [.mix [.str,.str,.str,.str,.str,.str,.str]] [b0,b1,b2,b3,b4,mC,C5]:=by
 show(.agg #[.string (bd (U a0)),.string (bd (U a1)),.string (bd (U a2)),.string (bd (U a3)),.string (bd (U a4)),.string (bd (U a5)),.string (bd (U C0))]:az)=(.agg #[.string (bd (U b0)),.string (bd (U b1)),.string (bd (U b2)),.string (bd (U b3)),.string (bd (U b4)),.string (bd (U mC)),.string (bd (U C5))]:az)
 rw[h0,h1,h2,h3,h4,h5,h6]
theorem ap6 {a0 b0:Int} (h0:a0=b0):e6 [.int .i64 (-9223372036854775808) 9223372036854775807] [a0]=e6 [.int .i64 (-9223372036854775808) 9223372036854775807] [b0]:=by
 show(.int .i64 a0:az)=(.int .i64 b0:az)
 rw[h0]
theorem FG {a0 b0:Int} (h0:a0=b0):e6 [.int .u32 0 4294967295] [a0]=e6 [.int .u32 0 4294967295] [b0]:=by
 show(.int .u32 a0:az)=(.int .u32 b0:az)
 rw[h0]
theorem FH {a0 b0:Int} (h0:a0=b0):e6 [.int .u64 0 18446744073709551615] [a0]=e6 [.int .u64 0 18446744073709551615] [b0]:=by
 show(.int .u64 a0:az)=(.int .u64 b0:az)
 rw[h0]
theorem Q0 {A R:List D} {spec:List Int->List Int->Prop} (hl:(de A).length=2) (hr:(de R).length=1) (hv:∀a b:Int,U a=U b->e6 R [a]=e6 R [b]) (h:∀z0 ah a b:Int,spec [z0,ah] [a]->spec [z0,ah] [b]->U a=U b):dR A R spec:=λzs rs fc hz h1 h2 h3 h4=>by
 match zs,rs,fc,(gi hz).trans hl,(gi h1).trans hr,(gi h2).trans hr,h3,h4 with
 |[z0,ah],[a],[b],_,_,_,h3,h4=>exact hv a b (h z0 ah a b h3 h4)
theorem wU {A R:List D} {spec:List Int->List Int->Prop} (hl:(de A).length=1) (hr:(de R).length=1) (hv:∀a b:Int,U a=U b->e6 R [a]=e6 R [b]) (h:∀z0 a b:Int,spec [z0] [a]->spec [z0] [b]->U a=U b):dR A R spec:=λzs rs fc hz h1 h2 h3 h4=>by
 match zs,rs,fc,(gi hz).trans hl,(gi h1).trans hr,(gi h2).trans hr,h3,h4 with
 |[z0],[a],[b],_,_,_,h3,h4=>exact hv a b (h z0 a b h3 h4)
theorem lL {A R:List D} {spec:List Int->List Int->Prop} (hl:(de A).length=1) (hr:(de R).length=1) (hv:∀a b:Int,a=b->e6 R [a]=e6 R [b]) (h:∀z0 a b:Int,spec [z0] [a]->spec [z0] [b]->a=b):dR A R spec:=λzs rs fc hz h1 h2 h3 h4=>by
 match zs,rs,fc,(gi hz).trans hl,(gi h1).trans hr,(gi h2).trans hr,h3,h4 with
 |[z0],[a],[b],_,_,_,h3,h4=>exact hv a b (h z0 a b h3 h4)
theorem JZ {A R:List D} {spec:List Int->List Int->Prop} (hl:(de A).length=2) (hr:(de R).length=1) (hv:∀a b:Int,a=b->e6 R [a]=e6 R [b]) (h:∀z0 ah a b:Int,spec [z0,ah] [a]->spec [z0,ah] [b]->a=b):dR A R spec:=λzs rs fc hz h1 h2 h3 h4=>by
 match zs,rs,fc,(gi hz).trans hl,(gi h1).trans hr,(gi h2).trans hr,h3,h4 with
 |[z0,ah],[a],[b],_,_,_,h3,h4=>exact hv a b (h z0 ah a b h3 h4)
theorem atj {A R:List D} {spec:List Int->List Int->Prop} (hl:(de A).length=7) (hr:(de R).length=1) (hv:∀a b:Int,a=b->e6 R [a]=e6 R [b]) (h:∀z0 ah z2 z3 z4 z5 aq a b:Int,spec [z0,ah,z2,z3,z4,z5,aq] [a]->spec [z0,ah,z2,z3,z4,z5,aq] [b]->a=b):dR A R spec:=λzs rs fc hz h1 h2 h3 h4=>by
 match zs,rs,fc,(gi hz).trans hl,(gi h1).trans hr,(gi h2).trans hr,h3,h4 with
 |[z0,ah,z2,z3,z4,z5,aq],[a],[b],_,_,_,h3,h4=>exact hv a b (h z0 ah z2 z3 z4 z5 aq a b h3 h4)
theorem atc:dR wm.args wm.res (cl sh SB 36):=Q0 rfl rfl (λ_ _=>rL) λ_ _ _ _ h h'=>c6 h (db h')
theorem anz {wb:ai} (hg:dq wb):bG wb wm:=e5 (λ_ _ _=>ct aJ aJ) hg (by kernel_rfl) atc rfl rfl asv aoX
theorem ate:dR wo.args wo.res (cl sh SB 37):=Q0 rfl rfl (λ_ _=>rL) λ_ _ _ _ h h'=>c6 h (db h')
theorem anB {wb:ai} (hg:dq wb):bG wb wo:=e5 (λ_ _ _=>ct aJ aJ) hg (by kernel_rfl) ate rfl rfl asx aoZ
theorem atg:dR Bm.args Bm.res (cl sh SB 120):=wU rfl rfl (λ_ _=>rL) λ_ _ _ h h'=>c6 h (db h')
theorem anD {wb:ai} (hg:dq wb) (Nf:bG wb wm) (Ng:bG wb wo):bG wb Bm:=e5 (λ_ _ _=>ct aJ (aY Nf (aY Ng aJ))) hg (by kernel_rfl) atg rfl rfl asz ao1
theorem ata:dR Bi.args Bi.res (cl sh SB 121):=wU rfl rfl (λ_ _=>rL) λ_ _ _ h h'=>c6 h (db h')
theorem anw {wb:ai} (hg:dq wb) (Nf:bG wb wm) (Ng:bG wb wo):bG wb Bi:=e5 (λ_ _ _=>ct aJ (aY Nf (aY Ng aJ))) hg (by kernel_rfl) ata rfl rfl ast aoV
theorem asE:dR AZ.args AZ.res (cl sh SB 127):=lL rfl rfl (λ_ _=>pL) λ_ _ _ h h'=>by first|exact c6 h (db h')|exact jg (c6 h (db h'))
theorem amB {wb:ai} (hg:dq wb) (pr:bG wb nA):bG wb AZ:=e5 (λ_ _ _=>ct aJ (aY pr aJ)) hg (by kernel_rfl) asE rfl rfl arD an6
theorem as9:dR Bh.args Bh.res (cl sh SB 122):=wU rfl rfl (λ_ _=>rL) λ_ _ _ h h'=>c6 h (db h')
theorem anv {wb:ai} (hg:dq wb):bG wb Bh:=e5 (λ_ _ _=>ct aJ aJ) hg (by kernel_rfl) as9 rfl rfl ass aoU
theorem asG:dR A1.args A1.res (cl sh SB 125):=by
 intro zs rs fc hz hr mM h h'
 match zs,rs,fc,hz,hr,mM,h,h' with
 |[z0],[a0,a1,a2],[b0,b1,b2],_,_,_,h,h'=>
  have e:(U a0,U a1,a2)=(U b0,U b1,b2):=c6 h (db h')
  simp only[cj]at e
  exact YW e.1 e.2.1 e.2.2
theorem amH {wb:ai} (hg:dq wb) (pr:bG wb nA):bG wb A1:=e5 (λ_ _ _=>ct aJ (aY pr aJ)) hg (by kernel_rfl) asG rfl rfl arH aoa
theorem asH:dR sJ.args sJ.res (cl sh SB 126):=by
 intro zs rs fc hz hr mM h h'
 match zs,rs,fc,hz,hr,mM,h,h' with
 |[z0],[a0,a1,a2],[b0,b1,b2],_,_,_,h,h'=>
  have e:(U a0,U a1,a2)=(U b0,U b1,b2):=c6 h (db h')
  simp only[cj]at e
  exact YW e.1 e.2.1 e.2.2
theorem amI {wb:ai} (hg:dq wb) (pr:bG wb nA):bG wb sJ:=e5 (λ_ _ _=>ct aJ (aY pr aJ)) hg (by kernel_rfl) asH rfl rfl arI aob
theorem asY:dR Ba.args Ba.res (cl sh SB 44):=JZ rfl rfl (λ_ _=>pL) λ_ _ _ _ h h'=>by first|exact c6 h (db h')|exact jg (c6 h (db h'))
theorem am3 {wb:ai} (hg:dq wb) (pr:bG wb nA):bG wb Ba:=e5 (λ_ _ _=>ct aJ (aY pr aJ)) hg (by kernel_rfl) asY rfl rfl ar1 aou
theorem asU:dR qm.args qm.res (cl sh SB 65):=JZ rfl rfl (λ_ _=>pL) λ_ _ _ _ h h'=>by first|exact c6 h (db h')|exact jg (c6 h (db h'))
theorem amX {wb:ai} (hg:dq wb) (pr:bG wb nA):bG wb qm:=e5 (λ_ _ _=>ct aJ (aY pr aJ)) hg (by kernel_rfl) asU rfl rfl arV aoo
theorem asW:dR A6.args A6.res (cl sh SB 28):=wU rfl rfl (λ_ _=>rL) λ_ _ _ h h'=>c6 h (db h')
theorem amZ {wb:ai} (hg:dq wb):bG wb A6:=e5 (λ_ _ _=>ct aJ aJ) hg (by kernel_rfl) asW rfl rfl arX aoq
theorem atb:dR Bj.args Bj.res (cl sh SB 123):=wU rfl rfl (λ_ _=>rL) λ_ _ _ h h'=>c6 h (db h')
theorem anx {wb:ai} (hg:dq wb):bG wb Bj:=e5 (λ_ _ _=>ct aJ aJ) hg (by kernel_rfl) atb rfl rfl asu aoW
theorem as8:dR Bg.args Bg.res (cl sh SB 124):=wU rfl rfl (λ_ _=>rL) λ_ _ _ h h'=>c6 h (db h')
theorem anu {wb:ai} (hg:dq wb):bG wb Bg:=e5 (λ_ _ _=>ct aJ aJ) hg (by kernel_rfl) as8 rfl rfl asr aoT
theorem asT:dR A3.args A3.res (cl sh SB 47):=lL rfl rfl (λ_ _=>pL) λ_ _ _ h h'=>by first|exact c6 h (db h')|exact jg (c6 h (db h'))
theorem amU {wb:ai} (hg:dq wb) (M3:zJ wb BL) (ahx:bG wb Bj) (ahv:bG wb Bh) (xS:bG wb qm):bG wb A3:=e5 (λ_ _ _=>ct (aY M3 aJ) (aY ahx (aY ahv (aY xS aJ)))) hg (by kernel_rfl) asT rfl rfl arU aon
theorem as6:dR sK.args sK.res (cl sh SB 27):=lL rfl rfl (λ_ _=>pL) λ_ _ _ h h'=>by first|exact c6 h (db h')|exact jg (c6 h (db h'))
theorem ano {wb:ai} (hg:dq wb) (DV:bG wb sJ) (ag5:bG wb A3) (ahu:bG wb Bg) (xS:bG wb qm):bG wb sK:=e5 (λ_ _ _=>ct aJ (aY DV (aY ag5 (aY ahu (aY xS aJ))))) hg (by kernel_rfl) as6 rfl rfl asl aoN
theorem asV:dR A5.args A5.res (cl sh SB 24):=lL rfl rfl (λ_ _=>pL) λ_ _ _ h h'=>by first|exact c6 h (db h')|exact jg (c6 h (db h'))
theorem amY {wb:ai} (hg:dq wb) (M3:zJ wb BL) (ahe:bG wb Ba) (ahw:bG wb Bi):bG wb A5:=e5 (λ_ _ _=>ct (aY M3 aJ) (aY ahe (aY ahw aJ))) hg (by kernel_rfl) asV rfl rfl arW aop
theorem asI:dR A2.args A2.res (cl sh SB 10):=by
 intro zs rs fc hz hr mM h h'
 match zs,rs,fc,hz,hr,mM,h,h' with
 |[z0],[a0,a1],[b0,b1],_,_,_,h,h'=>
  have e:(U a0,a1)=(U b0,b1):=c6 h (db h')
  simp only[cj]at e
  exact YX e.1 e.2
theorem amJ {wb:ai} (hg:dq wb) (ahA:bG wb Bm) (ag1:bG wb A1) (ag8:bG wb A5) (agT:bG wb AZ) (DX:bG wb sK) (ag9:bG wb A6) (pr:bG wb nA):bG wb A2:=e5 (λ_ _ _=>ct aJ (aY ahA (aY ag1 (aY ag8 (aY agT (aY DX (aY ag9 (aY pr aJ)))))))) hg (by kernel_rfl) asI rfl rfl arJ aoc
theorem atd:dR Bk.args Bk.res (cl sh SB 34):=Q0 rfl rfl (λ_ _=>rL) λ_ _ _ _ h h'=>c6 h (db h')
theorem anA {wb:ai} (hg:dq wb):bG wb Bk:=e5 (λ_ _ _=>ct aJ aJ) hg (by kernel_rfl) atd rfl rfl asw aoY
theorem asZ:dR EY.args EY.res (cl sh SB 12):=by
 intro zs rs fc hz hr mM h h'
 match zs,rs,fc,hz,hr,mM,h,h' with
 |[z0,ah],[a0,a1],[b0,b1],_,_,_,h,h'=>
  have e:(U a0,a1)=(U b0,b1):=c6 h (db h')
  simp only[cj]at e
  exact YX e.1 e.2
theorem anc {wb:ai} (hg:dq wb) (agY:bG wb IE) (agQ:bG wb IC) (ahy:bG wb Bk):zJ wb Fs:=amd (q:=Fs) (λ_ _ _=>ct aJ (aY agY (aY agQ (aY ahy aJ)))) hg (by kernel_rfl) asZ rfl rfl asa aoD
theorem asX:dR A7.args A7.res (cl sh SB 15):=by
 intro zs rs fc hz hr mM h h'
 match zs,rs,fc,hz,hr,mM,h,h' with
 |[z0,ah],[a0,a1,a2],[b0,b1,b2],_,_,_,h,h'=>
  have e:(U a0,U a1,a2)=(U b0,U b1,b2):=c6 h (db h')
  simp only[cj]at e
  exact ap7 e.1 e.2.1 e.2.2
theorem am1 {wb:ai} (hg:dq wb) (ahg:zJ wb Fs) (ag4:bG wb A2):bG wb A7:=e5 (λ_ _ _=>ct (aY ahg aJ) (aY ag4 aJ)) hg (by kernel_rfl) asX rfl rfl arZ aos
theorem as4:dR Be.args Be.res (cl sh SB 16):=JZ rfl rfl (λ_ _=>pL) λ_ _ _ _ h h'=>by first|exact c6 h (db h')|exact jg (c6 h (db h'))
theorem anm {wb:ai} (hg:dq wb) (aha:bG wb A7):bG wb Be:=e5 (λ_ _ _=>ct aJ (aY aha aJ)) hg (by kernel_rfl) as4 rfl rfl asi aoL
theorem ath:dR Bn.args Bn.res (cl sh SB 202):=wU rfl rfl (λ_ _=>rL) λ_ _ _ h h'=>c6 h (db h')
theorem anE {wb:ai} (hg:dq wb):bG wb Bn:=e5 (λ_ _ _=>ct aJ aJ) hg (by kernel_rfl) ath rfl rfl asA ao2
theorem atf:dR Bl.args Bl.res (cl sh SB 203):=wU rfl rfl (λ_ _=>rL) λ_ _ _ h h'=>c6 h (db h')
theorem anC {wb:ai} (hg:dq wb):bG wb Bl:=e5 (λ_ _ _=>ct aJ aJ) hg (by kernel_rfl) atf rfl rfl asy ao0
theorem ati:dR wq.args wq.res (cl sh SB 200):=lL rfl rfl (λ_ _=>pL) λ_ _ _ h h'=>by first|exact c6 h (db h')|exact jg (c6 h (db h'))
theorem anF {wb:ai} (hg:dq wb) (DV:bG wb sJ) (ahB:bG wb Bn) (xS:bG wb qm) (DX:bG wb sK):bG wb wq:=e5 (λ_ _ _=>ct aJ (aY DV (aY ahB (aY xS (aY DX aJ))))) hg (by kernel_rfl) ati rfl rfl asB ao3
theorem as5:dR Bf.args Bf.res (cl sh SB 201):=lL rfl rfl (λ_ _=>pL) λ_ _ _ h h'=>by first|exact c6 h (db h')|exact jg (c6 h (db h'))
theorem ann {wb:ai} (hg:dq wb) (DV:bG wb sJ) (ahz:bG wb Bl) (xS:bG wb qm) (DX:bG wb sK):bG wb Bf:=e5 (λ_ _ _=>ct aJ (aY DV (aY ahz (aY xS (aY DX aJ))))) hg (by kernel_rfl) as5 rfl rfl asj aoM
theorem as2:dR Bb.args Bb.res (cl sh SB 400):=lL rfl rfl (λ_ _=>pL) λ_ _ _ h h'=>by first|exact c6 h (db h')|exact jg (c6 h (db h'))
theorem ani {wb:ai} (hg:dq wb):bG wb Bb:=e5 (λ_ _ _=>ct aJ aJ) hg (by kernel_rfl) as2 rfl rfl ase aoH
theorem asF:dR A0.args A0.res (cl sh SB 501):=lL rfl rfl (λ_ _=>pL) λ_ _ _ h h'=>by first|exact c6 h (db h')|exact jg (c6 h (db h'))
theorem amG {wb:ai} (hg:dq wb) (pr:bG wb nA):bG wb A0:=e5 (λ_ _ _=>ct aJ (aY pr aJ)) hg (by kernel_rfl) asF rfl rfl arG an9
theorem as3:dR Bc.args Bc.res (cl sh SB 600):=lL rfl rfl (λ_ _=>pL) λ_ _ _ h h'=>by first|exact c6 h (db h')|exact jg (c6 h (db h'))
theorem anj {wb:ai} (hg:dq wb) (ahi:bG wb Bb) (ag0:bG wb A0):bG wb Bc:=e5 (λ_ _ _=>ct aJ (aY ahi (aY ag0 aJ))) hg (by kernel_rfl) as3 rfl rfl asf aoI
theorem as1:dR wj.args wj.res (cl sh SB 601):=atj rfl rfl (λ_ _=>pL) λ_ _ _ _ _ _ _ _ _ h h'=>by first|exact c6 h (db h')|exact jg (c6 h (db h'))
theorem anh {wb:ai} (hg:dq wb) (ahj:bG wb Bc) (ahm:bG wb Be) (Nh:bG wb wq) (ahn:bG wb Bf):bG wb wj:=e5 (λ_ _ _=>ct aJ (aY ahj (aY ahm (aY Nh (aY ahn aJ))))) hg (by kernel_rfl) as1 rfl rfl asd aoG
theorem am6 {wb:ai} (hg:dq wb) (Nb:bG wb wj):ij wb oi:=oj (λ_ _ _=>ct aJ (aY Nb aJ)) hg (λ_ _ _=>(kI aJ)) (by kernel_rfl) rfl rfl ar4 aox
theorem ang {wb:ai} (hg:dq wb) (agX:bG wb ID):ij wb wi:=oj (λ_ _ _=>ct aJ (aY agX aJ)) hg (λ_ _ _=>(kI aJ)) (by kernel_rfl) rfl rfl asc aoF
theorem anb {wb:ai} (hg:dq wb):ij wb wh:=oj (λ_ _ _=>ct aJ aJ) hg (λ_ _ _=>(kI aJ)) (by kernel_rfl) rfl rfl ar9 aoC
theorem am8 {wb:ai} (hg:dq wb) (Nb:bG wb wj) (h_pRight:ij wb oi) (Na:ij wb wi) (M9:ij wb wh) (ahh:To wb ew):ij wb uw:=oj (λ_ _ _=>ct aJ (aY Nb aJ)) hg (λ_ _ _=>(WY (kI (aY h_pRight (aY Na (aY M9 aJ)))) (aY ahh aJ))) (by kernel_rfl) rfl rfl ar6 aoz
theorem am7 {wb:ai} (hg:dq wb) (Nh:bG wb wq) (h_pRight:ij wb oi) (M9:ij wb wh):ij wb uv:=oj (λ_ _ _=>ct aJ (aY Nh aJ)) hg (λ_ _ _=>(kI (aY h_pRight (aY M9 aJ)))) (by kernel_rfl) rfl rfl ar5 aoy
theorem as0:dR ux.args ux.res (cl sh SB 608):=by
 intro zs rs fc hz hr mM h h'
 match zs,rs,fc,hz,hr,mM,h,h' with
 |[],[a0,a1,a2,a3,a4,a5,C0],[b0,b1,b2,b3,b4,mC,C5],_,_,_,h,h'=>
  have h:[a0,a1,a2,a3,a4,a5,C0]=om:=h
  have h':[b0,b1,b2,b3,b4,mC,C5]=om:=h'
  have e:=h.trans h'.symm
  simp only[hS,and_true]at e
  exact ap8 (congrArg U e.1) (congrArg U e.2.1) (congrArg U e.2.2.1) (congrArg U e.2.2.2.1) (congrArg U e.2.2.2.2.1) (congrArg U e.2.2.2.2.2.1) (congrArg U e.2.2.2.2.2.2)
theorem anf {wb:ai} (hg:dq wb):bG wb ux:=e5 (λ_ _ _=>ct aJ aJ) hg (by kernel_rfl) as0 rfl rfl asb aoE
theorem am4 {wb:ai} (hg:dq wb) (h_pRight:ij wb oi) (Na:ij wb wi):ij wb yD:=oj (λ_ _ _=>ct aJ aJ) hg (λ_ _ _=>(kI (aY h_pRight (aY Na aJ)))) (by kernel_rfl) rfl rfl ar2 aov
theorem as7:dR wk.args wk.res (cl sh SB 440):=JZ rfl rfl (λ_ _=>ap6) λ_ _ _ _ h h'=>by first|exact c6 h (db h')|exact jg (c6 h (db h'))
theorem anp {wb:ai} (hg:dq wb):bG wb wk:=e5 (λ_ _ _=>ct aJ aJ) hg (by kernel_rfl) as7 rfl rfl asm aoO
theorem asJ:dR uf.args uf.res (cl sh SB 444):=lL rfl rfl (λ_ _=>FG) λ_ _ _ h h'=>by first|exact c6 h (db h')|exact jg (c6 h (db h'))
theorem amK {wb:ai} (hg:dq wb):bG wb uf:=e5 (λ_ _ _=>ct aJ aJ) hg (by kernel_rfl) asJ rfl rfl arK aod
theorem asL:dR uh.args uh.res (cl sh SB 445):=lL rfl rfl (λ_ _=>FG) λ_ _ _ h h'=>by first|exact c6 h (db h')|exact jg (c6 h (db h'))
theorem amM {wb:ai} (hg:dq wb):bG wb uh:=e5 (λ_ _ _=>ct aJ aJ) hg (by kernel_rfl) asL rfl rfl arM aof
theorem asN:dR uj.args uj.res (cl sh SB 446):=lL rfl rfl (λ_ _=>FG) λ_ _ _ h h'=>by first|exact c6 h (db h')|exact jg (c6 h (db h'))
theorem amO {wb:ai} (hg:dq wb):bG wb uj:=e5 (λ_ _ _=>ct aJ aJ) hg (by kernel_rfl) asN rfl rfl arO aoh
theorem asP:dR um.args um.res (cl sh SB 447):=lL rfl rfl (λ_ _=>FG) λ_ _ _ h h'=>by first|exact c6 h (db h')|exact jg (c6 h (db h'))
theorem amQ {wb:ai} (hg:dq wb):bG wb um:=e5 (λ_ _ _=>ct aJ aJ) hg (by kernel_rfl) asP rfl rfl arQ aoj
theorem asK:dR ug.args ug.res (cl sh SB 448):=lL rfl rfl (λ_ _=>FH) λ_ _ _ h h'=>by first|exact c6 h (db h')|exact jg (c6 h (db h'))
theorem amL {wb:ai} (hg:dq wb):bG wb ug:=e5 (λ_ _ _=>ct aJ aJ) hg (by kernel_rfl) asK rfl rfl arL aoe
theorem asM:dR ui.args ui.res (cl sh SB 449):=lL rfl rfl (λ_ _=>FH) λ_ _ _ h h'=>by first|exact c6 h (db h')|exact jg (c6 h (db h'))
theorem amN {wb:ai} (hg:dq wb):bG wb ui:=e5 (λ_ _ _=>ct aJ aJ) hg (by kernel_rfl) asM rfl rfl arN aog
theorem asO:dR uk.args uk.res (cl sh SB 450):=lL rfl rfl (λ_ _=>FH) λ_ _ _ h h'=>by first|exact c6 h (db h')|exact jg (c6 h (db h'))
theorem amP {wb:ai} (hg:dq wb):bG wb uk:=e5 (λ_ _ _=>ct aJ aJ) hg (by kernel_rfl) asO rfl rfl arP aoi
theorem asQ:dR uo.args uo.res (cl sh SB 451):=lL rfl rfl (λ_ _=>FH) λ_ _ _ h h'=>by first|exact c6 h (db h')|exact jg (c6 h (db h'))
theorem amR {wb:ai} (hg:dq wb):bG wb uo:=e5 (λ_ _ _=>ct aJ aJ) hg (by kernel_rfl) asQ rfl rfl arR aok
theorem anq {wb:ai} (hg:dq wb) (Nc:bG wb wk):ij wb yG:=oj (λ_ _ _=>ct aJ (aY Nc aJ)) hg (λ_ _ _=>(kI aJ)) (by kernel_rfl) rfl rfl asn aoP
theorem anr {wb:ai} (hg:dq wb) (Nc:bG wb wk):ij wb yH:=oj (λ_ _ _=>ct aJ (aY Nc aJ)) hg (λ_ _ _=>(kI aJ)) (by kernel_rfl) rfl rfl aso aoQ
theorem asR:dR uq.args uq.res (cl sh SB 466):=lL rfl rfl (λ_ _=>FG) λ_ _ _ h h'=>by first|exact c6 h (db h')|exact jg (c6 h (db h'))
theorem amS {wb:ai} (hg:dq wb):bG wb uq:=e5 (λ_ _ _=>ct aJ aJ) hg (by kernel_rfl) asR rfl rfl arS aol
theorem asS:dR ur.args ur.res (cl sh SB 467):=lL rfl rfl (λ_ _=>FH) λ_ _ _ h h'=>by first|exact c6 h (db h')|exact jg (c6 h (db h'))
theorem amT {wb:ai} (hg:dq wb):bG wb ur:=e5 (λ_ _ _=>ct aJ aJ) hg (by kernel_rfl) asS rfl rfl arT aom
theorem amC {wb:ai} (hg:dq wb):ij wb yz:=oj (λ_ _ _=>ct aJ aJ) hg (λ_ _ _=>(kI aJ)) (by kernel_rfl) rfl rfl arE an7
theorem amD {wb:ai} (hg:dq wb):ij wb yA:=oj (λ_ _ _=>ct aJ aJ) hg (λ_ _ _=>(kI aJ)) (by kernel_rfl) rfl rfl arF an8
theorem amx {wb:ai} (hg:eK b8 ⟨wb,wb,λ_=>False,λ_=>False,[]⟩) (VL:bG wb uq) (VD:bG wb uf) (VF:bG wb uh) (VH:bG wb uj) (VJ:bG wb um) (agU:ij wb yz):GF wb y3:=by
 refine YI (SB:=SB) (sh:=sh) (p:=y3) (lsh:=XC) (lens:=[1]) (inl:=(zY Tryz.prog b8 (cF [] [uq,uf,uh,uj,um]) (vr (iA [yz]) Tryz.prog b8 (cF [] [uq,uf,uh,uj,um]) IL 600 6) IL 600 [(1,0,0,4294967295),(1,1,0,4294967295),(1,2,0,4294967295),(1,3,0,4294967295),(1,4,0,4294967295),(1,5,0,4294967295),(1,6,0,4294967295),(1,7,0,4294967295)] 147)) (λL r ex ro=>TW V3 dy (λ_ _ _=>ct aJ (aY VL (aY VD (aY VF (aY VH (aY VJ aJ)))))) (λg cs h=>hg g cs h) (λr ex ro=>Di (w0:=⟨wb,r,ex,ro,[]⟩) rfl dy ((λ_ _ _=>ct aJ (aY VL (aY VD (aY VF (aY VH (aY VJ aJ)))))) r ex ro) (λg cs h=>hg g cs h) (kI (aY agU aJ)) 6) rfl) (by kernel_rfl) rfl rfl ?_
 rw[show y3.c=IA from rfl,arB]
 exact an4
theorem amy {wb:ai} (hg:eK b8 ⟨wb,wb,λ_=>False,λ_=>False,[]⟩) (VM:bG wb ur) (VE:bG wb ug) (VG:bG wb ui) (VI:bG wb uk) (VK:bG wb uo) (agV:ij wb yA):GF wb y4:=by
 refine YI (SB:=SB) (sh:=sh) (p:=y4) (lsh:=XD) (lens:=[1]) (inl:=(zY Tryz.prog b8 (cF [] [ur,ug,ui,uk,uo]) (vr (iA [yA]) Tryz.prog b8 (cF [] [ur,ug,ui,uk,uo]) IM 600 6) IM 600 [(1,0,0,18446744073709551615),(1,1,0,18446744073709551615),(1,2,0,18446744073709551615),(1,3,0,18446744073709551615),(1,4,0,18446744073709551615),(1,5,0,18446744073709551615),(1,6,0,18446744073709551615),(1,7,0,18446744073709551615)] 147)) (λL r ex ro=>TW V3 dy (λ_ _ _=>ct aJ (aY VM (aY VE (aY VG (aY VI (aY VK aJ)))))) (λg cs h=>hg g cs h) (λr ex ro=>Di (w0:=⟨wb,r,ex,ro,[]⟩) rfl dy ((λ_ _ _=>ct aJ (aY VM (aY VE (aY VG (aY VI (aY VK aJ)))))) r ex ro) (λg cs h=>hg g cs h) (kI (aY agV aJ)) 6) rfl) (by kernel_rfl) rfl rfl ?_
 rw[show y4.c=IB from rfl,arC]
 exact an5
theorem ans {wb:ai} (hg:eK b8 ⟨wb,wb,λ_=>False,λ_=>False,[]⟩) (ahq:ij wb yG) (aho:zI wb Fi) (agO:GF wb y3):zI wb BF:=by
 refine Ys (SB:=SB) (sh:=sh) (p:=BF) (bc:=(y6 [y3] (qs [Fi] (iA [yG])))) (cal:=(cF [] [])) (li:=eO) (rounds:=600) (d:=6) (lsh:=eU) (lens:=[1]) dy (λ_ _ _=>ct aJ aJ) hg (λ_ _ _ _=>(P0 (BE (kI (aY ahq aJ)) (aY aho aJ)) (aY agO aJ))) (by kernel_rfl) rfl rfl ?_
 rw[show BF.c=IG from rfl,asp]
 exact aoR
theorem ant {wb:ai} (hg:eK b8 ⟨wb,wb,λ_=>False,λ_=>False,[]⟩) (ahr:ij wb yH) (ahp:zI wb Fj) (agP:GF wb y4):zI wb BG:=by
 refine Ys (SB:=SB) (sh:=sh) (p:=BG) (bc:=(y6 [y4] (qs [Fj] (iA [yH])))) (cal:=(cF [] [])) (li:=eO) (rounds:=600) (d:=6) (lsh:=eU) (lens:=[1]) dy (λ_ _ _=>ct aJ aJ) hg (λ_ _ _ _=>(P0 (BE (kI (aY ahr aJ)) (aY ahp aJ)) (aY agP aJ))) (by kernel_rfl) rfl rfl ?_
 rw[show BG.c=IH from rfl,asq]
 exact aoS
end Go.cd
set_option linter.unusedSimpArgs false
namespace Go.bg
def T.free (p:V->Bool):T->Bool
 |stuck=>false
 |leaf v=>p v
 |fn _ _ _ _ _ r|ind _ _ r|div _ _ _ _ _ r|mul _ _ _ _ _ r|bit _ _ _ _ _ r|shr _ _ _ _ _ r|pM _ _ _ _ _ r|call _ _ _ _ r=>r.free p
 |mE _ t e=>t.free p&&e.free p
 |_=>false
theorem TE:∀{b:List (Int×Int)} {P:List Int->Prop},(∀rs,P rs)->mB b P
 |[],_,h=>h []
 |(_,_)::b,_,h=>λr _ _=>TE (b:=b) λrs=>h (r::rs)
theorem T.Hz {p:V->Bool}:∀(t:T),t.free p=true->t.plain=true
 | .leaf _,_=>rfl
 | .fn _ _ _ _ _ r,h| .ind _ _ r,h| .div _ _ _ _ _ r,h| .mul _ _ _ _ _ r,h| .bit _ _ _ _ _ r,h| .shr _ _ _ _ _ r,h| .pM _ _ _ _ _ r,h| .call _ _ _ _ r,h=>T.Hz r h
 | .mE b t e,h=>by
  simp only[T.free,aK]at h
  rw[T.plain,T.Hz t h.1,T.Hz e h.2];rfl
theorem T.free_holds {S:Nat->List Int->List Int->Prop} {p:V->Bool}:∀(t:T) (G:dw) (ρ:Env),t.free p=true->t.holds S (λv _=>p v=true) G ρ
 | .leaf v,_,_,h=>h
 | .fn n op args lo hi r,G,ρ,h=>λz _ _ _=>T.free_holds r G _ h
 | .ind n b r,G,ρ,h=>λz _ _ _=>T.free_holds r G _ h
 | .div n x d lo hi r,G,ρ,h=>λz _ _ _ _=>T.free_holds r G _ h
 | .mul n x y lo hi r,G,ρ,h=>λz _ _ _=>T.free_holds r G _ h
 | .bit n op k x y r,G,ρ,h=>λz _ _ _=>T.free_holds r G _ h
 | .shr n x y lo hi r,G,ρ,h=>λz _ _ _=>T.free_holds r G _ h
 | .pM n cs aL lo hi r,G,ρ,h=>λz _ _ _=>T.free_holds r G _ h
 | .call id args n bds r,G,ρ,h=>TE λrs _=>T.free_holds r G _ h
 | .mE b t e,G,ρ,h=>by
  simp only[T.free,aK]at h
  exact⟨λ_=>T.free_holds t G ρ h.1,λ_=>T.free_holds e G ρ h.2⟩
def Hw (k:IntKind) (lo hi:Int):List A->Bool
 |[]=>true
 | .int aP x::r=>decide (k=aP)&&(decide (lo<=x.lo)&&decide (x.hi<=hi))&&Hw k lo hi r
 |_=>false
def DE:List aw->List A->Bool
 |[],[]=>true
 | .int k lo hi::d,.int aP x::r=>decide (k=aP)&&(decide (lo<=x.lo)&&decide (x.hi<=hi))&&DE d r
 | .bool::d,.bool _::r=>DE d r
 |_,_=>false
def fits:List D->V->Bool
 |[.int k lo hi],.w (.one (.int aP x))=>decide (k=aP)&&(decide (lo<=x.lo)&&decide (x.hi<=hi))
 |[.bool],.w (.one (.bool _))=>true
 |[.agg k n lo hi],.w (.agg l)=>aA l.length n&&Hw k lo hi l
 |[.mix d],.w (.agg l)=>DE d l
 |_,_=>false
theorem UL {k:IntKind} {lo hi:Int} {ρ:Env} {n nb:Nat}:∀{l:List A},Hw k lo hi l=true->(∀a∈l,a.ok n nb ρ)->∃os,hM k l=some os/\aO (c7 lo hi l.length) (os.map (O.den ρ))
 |[],_,_=>⟨[],rfl,trivial⟩
 | .int aP x::r,h,ho=>by
  simp only[Hw,aK,decide_eq_true_eq]at h
  obtain⟨⟨h1,h2,h3⟩,h4⟩:=h
  obtain⟨os,g1,g2⟩:=UL h4 λa ha=>ho a (cR _ ha)
  have hx:x.ok n ρ:=ho _ CE
  refine⟨.l x.l::os,by subst h1;simp only[hM,decide_true,cond_true,g1],?_,?_,g2⟩
  ·exact nP h2 hx.2.1
  ·exact nP hx.2.2 h3
theorem Hg:∀c:Bool,(0:Int)<=cond c 1 0/\(cond c 1 0:Int)<=1:=by decide
theorem Mu {ρ:Env} {n nb:Nat}:∀{d:List aw} {l:List A},DE d l=true->(∀a∈l,a.ok n nb ρ)->∃os,mU d l=some os/\aO (d.map aw.en) (os.map (O.den ρ))
 |[],[],_,_=>⟨[],rfl,trivial⟩
 | .int k lo hi::d,.int aP x::r,h,ho=>by
  simp only[DE,aK,decide_eq_true_eq]at h
  obtain⟨⟨h1,h2,h3⟩,h4⟩:=h
  obtain⟨os,g1,g2⟩:=Mu h4 λa ha=>ho a (cR _ ha)
  have hx:x.ok n ρ:=ho _ CE
  exact⟨.l x.l::os,by subst h1;simp only[mU,aw.out,decide_true,cond_true,g1],nP h2 hx.2.1,nP hx.2.2 h3,g2⟩
 | .bool::d,.bool b::r,h,ho=>by
  obtain⟨os,g1,g2⟩:=Mu (d:=d) (l:=r) h λa ha=>ho a (cR _ ha)
  exact⟨.b b::os,by simp only[mU,aw.out,g1],(Hg _).1,(Hg _).2,g2⟩
theorem aet {ds:List D} {v:V} {n nb:Nat} {ρ:Env} (h:fits ds v=true) (ho:v.ok n nb ρ):my ds (λrs=>aO (de ds) rs) v ρ:=by
 unfold fits at h
 split at h
 ·rename_i k lo hi aP x
  simp only[aK,decide_eq_true_eq]at h
  obtain⟨h1,h2,h3⟩:=h
  have hx:x.ok n ρ:=ho
  subst h1
  simp only[my,outs,pF,decide_true,cond_true]
  exact⟨nP h2 hx.2.1,nP hx.2.2 h3,trivial⟩
 ·rename_i b
  simp only[my,outs,pF]
  exact⟨(Hg _).1,(Hg _).2,trivial⟩
 ·rename_i k m lo hi l
  simp only[aK]at h
  obtain⟨os,h1,h2⟩:=UL h.2 (show ∀a∈l,a.ok n nb ρ from ho)
  have hl:=Nat.eq_of_beq_eq_true h.1
  simp only[my,outs,pF,h.1,cond_true,h1]
  rw[hl]at h2
  show aO (c7 lo hi m++[]) _
  rw[gT];exact h2
 ·rename_i d l
  obtain⟨os,h1,h2⟩:=Mu h (show ∀a∈l,a.ok n nb ρ from ho)
  simp only[my,outs,pF,h1]
  show aO (d.map aw.en++[]) _
  rw[gT];exact h2
 ·cases h
section
variable {P:Program} {gl:dO} {S:Nat->List Int->List Int->Prop} {wb:ai}
theorem bz.amt {c:bz} {cal:eg} {li:cy->Nat->Option dC} {rounds d:Nat} (hm:P.follows .mixedOrders=true) (cx:∀r ex ro,fk S P gl ⟨wb,r,ex,ro,[]⟩ cal) (hg:eK gl ⟨wb,wb,λ_=>False,λ_=>False,[]⟩)
 (hf:∀args w,(callFunc c.f args).run P w= .ok (.enter c.f args) w) (cw:∀id a rs fc,S id a rs->S id a fc->rs=fc) (hx:(c.tree P gl cal li rounds d).free (fits c.res)=true):c.eB P wb λ_ _=>True:=by
 have HS:∀zs,aO (de c.args) zs->∀w,wb.Extends w->Calls P c.f (lM c.args zs).toArray w λe w'=>∃v ad m val n nb,e= .returned val/\v.rel ad m val/\V.ok n nb ad v/\(fits c.res v=true/\Path S (c.tree P gl cal li rounds d) (bu (λ_=>0) 0 zs) v ad)/\w.Extends w':=λzs hz w hw=>by
  have km:=qh _ _ _ (T.Hz _ hx) (T.free_holds (S:=S) _ (λ_ _=>False) (bu (λ_=>0) 0 zs) hx)
  have hs:=JO (m:=λ_=>0) (nb:=0) (N:=(de c.args).length) c.args hz (fX.bu (λ_=>0) 0 zs) (by omega)
  have:=T7 (b:=wb) (w:=w) hm (cx w _ _) hg c.f _ _ _ ((rN 0 c.args).map (W.den (bu (λ_=>0) 0 zs) λ_=>0)) hw (λv hv=>by
   obtain⟨u,hu,rfl⟩:=List.mem_map.1 hv
   exact hs.1 u hu) (Lb _) km
  rw[hs.2]at this
  refine this.mono λe w' ⟨v,ad,m,val,nb,h1,h2,⟨n,h5⟩,h3,h4⟩=>⟨v,ad,m,val,n,nb,h1,h2,h5,h3,h4⟩
 refine⟨hf,λzs hz=>?_⟩
 obtain⟨e,w',v0,bN,m0,aye,n0,ax5,h1,h2,h5,⟨h3,vG⟩,h4⟩:=Calls.some (HS zs hz wb (na wb))
 have hl:=aet h3 h5
 obtain⟨rs,hb,hv⟩:=xt hl h2
 refine⟨rs,hb,trivial,λw hw=>?_⟩
 refine(HS zs hz w hw).mono λe w' ⟨v,ad,m,val,n,nb,g1,g2,g5,⟨g3,aeK⟩,g4⟩=>?_
 obtain⟨e1,e2⟩:=qq cw _ _ aeK vG
 subst e1;subst e2
 have:val=e6 c.res rs:=by
  cases ho:outs c.res v with
  |none=>simp[my,ho]at hl
  |some os=>
   have key:∀{m val},v.rel ad m val->val=e6 c.res (os.map (O.den ad)):=λ{m val} hr=>by
    have hK:my c.res (λrs=>rs=os.map (O.den ad)) v ad:=by unfold my;simp[ho]
    obtain⟨fc,ajg,hv⟩:=xt hK hr
    rw[hv,ajg]
   rw[key g2,<-key h2,hv]
 exact⟨by rw[g1,this],g4⟩
end
end Go.bg
namespace Go.cd
open Go Go.bg Go.Proofs
abbrev eR (G:Nat->List Int->List Int):Nat->List Int->List Int->Prop:=cl sh (tx G)
theorem vj {G:Nat->List Int->List Int} {id:Nat} {zs rs:List Int}:eR G id zs rs↔rs=CT G id zs:=by
 show(gk _ rs).flatten=CT G id (gk _ zs).flatten↔_
 rw[wR,wR]
theorem Tf {G:Nat->List Int->List Int} {id:Nat} (h5:aA id 645=false) (h2:aA id 652=false) (zs:List Int):CT G id zs=G id zs:=by unfold CT;rw[h5,h2];rfl
section
variable {wb:ai}
theorem abd {c:bz} {spec:List Int->List Int->Prop} (h:c.cP Tryz.prog wb spec):∃F:List Int->List Int,c.cP Tryz.prog wb λzs rs=>rs=F zs:=by
 classical
 refine⟨λzs=>if hz:aO (de c.args) zs then Z4 (h zs hz)else [],λzs hz=>?_⟩
 obtain⟨h1,h2,h3⟩:=Rz (h zs hz)
 exact⟨_,h1,by simp only[dif_pos hz],h3⟩
def jv (wb:ai) (L:List bz) (G:Nat->List Int->List Int):Prop:=∀c∈L,c.cP Tryz.prog wb (eR G c.id)
theorem jv.step {L:List bz} {G:Nat->List Int->List Int} {c:bz} (h:jv wb L G) (hb:((c::L).all λc'=> !(aA c'.id 645)&& !(aA c'.id 652))=true) (hne:(L.all λc'=> !(aA c'.id c.id))=true) (h0:c.cP Tryz.prog wb λ_ _=>True):∃dx,jv wb (c::L) dx:=by
 obtain⟨F,hF⟩:=abd h0
 refine⟨λid=>if id=c.id then F else G id,λc' AE=>?_⟩
 have hW:=List.all_eq_true.1 hb c' AE
 simp only[aK,Bool.not_eq_true']at hW
 rcases List.mem_cons.1 AE with rfl|hm
 ·intro zs hz
  obtain⟨rs,r1,r2,fo⟩:=hF zs hz
  refine⟨rs,r1,vj.2 ?_,fo⟩
  rw[Tf hW.1 hW.2,if_pos rfl];exact r2
 ·intro zs hz
  obtain⟨rs,r1,r2,fo⟩:=h c' hm zs hz
  refine⟨rs,r1,vj.2 ?_,fo⟩
  have r2:=vj.1 r2
  rw[Tf hW.1 hW.2]at r2⊢
  have hn:¬c'.id=c.id:=λe=>by
   have:=List.all_eq_true.1 hne c' hm
   rw[e,Nat.beq_refl]at this;cases this
  rw[if_neg hn];exact r2
theorem fP {α:Type} {l:List α} {a:α} (i:Nat) (h:l[i]?=some a):a∈l:=List.mem_of_getElem? h
theorem mS {G:Nat->List Int->List Int} {c:bz} {cal:eg} (cx:∀r ex ro,fk (eR G) Tryz.prog b8 ⟨wb,r,ex,ro,[]⟩ cal) (hg:eK b8 ⟨wb,wb,λ_=>False,λ_=>False,[]⟩)
 (hf:∀args w,(callFunc c.f args).run Tryz.prog w= .ok (.enter c.f args) w) (hx:(c.tree Tryz.prog b8 cal eO 600 6).free (fits c.res)=true):c.cP Tryz.prog wb λ_ _=>True:=
 bz.eB.f (bz.amt (S:=eR G) dy cx hg hf (λid a rs fc h h'=>(vj.1 h).trans (vj.1 h').symm) hx)
theorem X2 {G:Nat->List Int->List Int} {c:bz} {cal:eg} {li:cy->Nat->Option dC} {rounds d:Nat} {lsh:Nat->List Nat} {lens:List Nat} (cx:∀r ex ro,fk (eR G) Tryz.prog b8 ⟨wb,r,ex,ro,[]⟩ cal) (hg:eK b8 ⟨wb,wb,λ_=>False,λ_=>False,[]⟩)
 (hf:∀args w,(callFunc c.f args).run Tryz.prog w= .ok (.enter c.f args) w)
 (hv:tA sh lsh (tx G) (bO (tx G) c.res c.id) lens (de c.args) c.res (c.tree Tryz.prog b8 cal li rounds d)):c.cP Tryz.prog wb (eR G c.id):=
 bz.eB.f (bz.I0 (S:=eR G) (spec:=eR G c.id) dy cx hg hf (λzs rs fc _ _ _ h h'=>by rw[vj.1 h,vj.1 h']) (se λzs hz=>by
  have h:=kG (Tw hv) hz
  simp only[bO,tx,wR]at h
  simp only[vj]
  exact h))
theorem amj:Tn Tryz.prog 143:=amh dy (enters (by kernel_rfl)) (λK=>by kernel_rfl)
theorem ab7:R7 Tryz.prog 161:=ab5 Tryz.func161 (by kernel_rfl) (by kernel_rfl) (by kernel_rfl) (by kernel_rfl)
theorem afK:A8.cP Tryz.prog wb λ_ _=>True:=by
 intro zs hz
 match zs,hz with
 |[x,y],hz=>
  obtain⟨x0,x1,jH,jn,_⟩:=hz
  have h0:0<=x*y:=Int.mul_nonneg x0 jH
  have h1:x*y<=18446744073709551615*18446744073709551615:=Int.mul_le_mul x1 jn jH (by decide)
  exact⟨[x*y/18446744073709551616,x*y% 18446744073709551616],⟨by omega,by omega,by omega,by omega,trivial⟩,trivial,λw _=>amj x y x0 (by omega) jH (by omega) w⟩
theorem afv:AY.cP Tryz.prog wb λ_ _=>True:=by
 intro zs hz
 match zs,hz with
 |[x,y,c],hz=>
  obtain⟨x0,x1,jH,jn,bT,c1,_⟩:=hz
  exact⟨[(x+y+c)% 18446744073709551616,(x+y+c)/18446744073709551616],⟨by omega,by omega,by omega,by omega,trivial⟩,trivial,λw _=>ab7 x y c x0 jH bT c1 w⟩
variable (hg:eK b8 ⟨wb,wb,λ_=>False,λ_=>False,[]⟩) {G:Nat->List Int->List Int}
include hg G
theorem afw:oh.cP Tryz.prog wb λ_ _=>True:=mS (G:=G) (λ_ _ _=>ct aJ aJ) hg (enters (by kernel_rfl)) (by kernel_rfl)
theorem afH (xR:oh.cP Tryz.prog wb (eR G oh.id)):ql.cP Tryz.prog wb λ_ _=>True:=mS (G:=G) (λ_ _ _=>ct aJ (aY xR aJ)) hg (enters (by kernel_rfl)) (by kernel_rfl)
theorem afG (xR:oh.cP Tryz.prog wb (eR G oh.id)):ue.cP Tryz.prog wb λ_ _=>True:=mS (G:=G) (λ_ _ _=>ct aJ (aY xR aJ)) hg (enters (by kernel_rfl)) (by kernel_rfl)
theorem afI (xR:oh.cP Tryz.prog wb (eR G oh.id)) (ahc:A8.cP Tryz.prog wb (eR G A8.id)) (agN:AY.cP Tryz.prog wb (eR G AY.id)):jE.cP Tryz.prog wb λ_ _=>True:=mS (G:=G) (λ_ _ _=>ct aJ (aY xR (aY ahc (aY agN aJ)))) hg (enters (by kernel_rfl)) (by kernel_rfl)
theorem afM (q6:jE.cP Tryz.prog wb (eR G jE.id)):rB.cP Tryz.prog wb λ_ _=>True:=mS (G:=G) (λ_ _ _=>ct aJ (aY q6 aJ)) hg (enters (by kernel_rfl)) (by kernel_rfl)
theorem afN (DW:ql.cP Tryz.prog wb (eR G ql.id)):Bo.cP Tryz.prog wb λ_ _=>True:=mS (G:=G) (λ_ _ _=>ct aJ (aY DW aJ)) hg (enters (by kernel_rfl)) (by kernel_rfl)
theorem afE (xR:oh.cP Tryz.prog wb (eR G oh.id)):uc.cP Tryz.prog wb λ_ _=>True:=mS (G:=G) (λ_ _ _=>ct aJ (aY xR aJ)) hg (enters (by kernel_rfl)) (by kernel_rfl)
theorem afJ (ahl:Bd.cP Tryz.prog wb (eR G Bd.id)):A4.cP Tryz.prog wb λ_ _=>True:=mS (G:=G) (λ_ _ _=>ct aJ (aY ahl aJ)) hg (enters (by kernel_rfl)) (by kernel_rfl)
theorem afL (M5:uc.cP Tryz.prog wb (eR G uc.id)):A9.cP Tryz.prog wb λ_ _=>True:=mS (G:=G) (λ_ _ _=>ct aJ (aY M5 aJ)) hg (enters (by kernel_rfl)) (by kernel_rfl)
theorem afF (q6:jE.cP Tryz.prog wb (eR G jE.id)):ud.cP Tryz.prog wb λ_ _=>True:=mS (G:=G) (λ_ _ _=>ct aJ (aY q6 aJ)) hg (enters (by kernel_rfl)) (by kernel_rfl)
theorem afx (M6:ud.cP Tryz.prog wb (eR G ud.id)):yx.cP Tryz.prog wb λ_ _=>True:=mS (G:=G) (λ_ _ _=>ct aJ (aY M6 aJ)) hg (enters (by kernel_rfl)) (by kernel_rfl)
theorem afC (M6:ud.cP Tryz.prog wb (eR G ud.id)):wc.cP Tryz.prog wb λ_ _=>True:=mS (G:=G) (λ_ _ _=>ct aJ (aY M6 aJ)) hg (enters (by kernel_rfl)) (by kernel_rfl)
theorem afA (q6:jE.cP Tryz.prog wb (eR G jE.id)):ub.cP Tryz.prog wb λ_ _=>True:=mS (G:=G) (λ_ _ _=>ct aJ (aY q6 aJ)) hg (enters (by kernel_rfl)) (by kernel_rfl)
theorem afB (M7:ue.cP Tryz.prog wb (eR G ue.id)) (q6:jE.cP Tryz.prog wb (eR G jE.id)) (DW:ql.cP Tryz.prog wb (eR G ql.id)) (M4:ub.cP Tryz.prog wb (eR G ub.id)) (ahC:Bo.cP Tryz.prog wb (eR G Bo.id)):wa.cP Tryz.prog wb λ_ _=>True:=mS (G:=G) (λ_ _ _=>ct aJ (aY M7 (aY q6 (aY DW (aY M4 (aY ahC aJ)))))) hg (enters (by kernel_rfl)) (by kernel_rfl)
theorem afD (Nd:rB.cP Tryz.prog wb (eR G rB.id)) (DW:ql.cP Tryz.prog wb (eR G ql.id)) (M7:ue.cP Tryz.prog wb (eR G ue.id)) (M4:ub.cP Tryz.prog wb (eR G ub.id)):we.cP Tryz.prog wb λ_ _=>True:=mS (G:=G) (λ_ _ _=>ct aJ (aY Nd (aY DW (aY M7 (aY M4 aJ))))) hg (enters (by kernel_rfl)) (by kernel_rfl)
theorem afy (ag7:A4.cP Tryz.prog wb (eR G A4.id)) (q6:jE.cP Tryz.prog wb (eR G jE.id)) (M5:uc.cP Tryz.prog wb (eR G uc.id)) (ahd:A9.cP Tryz.prog wb (eR G A9.id)):yy.cP Tryz.prog wb λ_ _=>True:=mS (G:=G) (λ_ _ _=>ct aJ (aY ag7 (aY q6 (aY M5 (aY ahd aJ))))) hg (enters (by kernel_rfl)) (by kernel_rfl)
theorem afz:yB.cP Tryz.prog wb λ_ _=>True:=mS (G:=G) (λ_ _ _=>ct aJ aJ) hg (enters (by kernel_rfl)) (by kernel_rfl)
theorem anl (Nd:rB.cP Tryz.prog wb (eR G rB.id)) (q6:jE.cP Tryz.prog wb (eR G jE.id)):Bd.cP Tryz.prog wb (eR G Bd.id):=by
 refine X2 (G:=G) (c:=Bd) (cal:=(cF [] [rB,jE])) (li:=Xv) (rounds:=600) (d:=6) (lsh:=XF) (lens:=[5,4]) (λ_ _ _=>ct aJ (aY Nd (aY q6 aJ))) hg (enters (by kernel_rfl)) ?_
 rw[ash]
 exact aoK G
theorem am2 (ag2:wc.cP Tryz.prog wb (eR G wc.id)) (ag3:we.cP Tryz.prog wb (eR G we.id)) (agZ:wa.cP Tryz.prog wb (eR G wa.id)):yC.cP Tryz.prog wb (eR G yC.id):=by
 refine X2 (G:=G) (c:=yC) (cal:=(cF [] [wc,we,wa])) (li:=Xu) (rounds:=600) (d:=6) (lsh:=XE) (lens:=[20,32]) (λ_ _ _=>ct aJ (aY ag2 (aY ag3 (aY agZ aJ)))) hg (enters (by kernel_rfl)) ?_
 rw[ar0]
 exact aot G
omit G in
theorem ace:∃G,jv wb [yB,yy,we,wa,ub,wc,yx,ud,A9,A4,uc,Bo,rB,jE,ue,ql,oh,AY,A8] G:=by
 obtain⟨av5,h0⟩:=jv.step (c:=A8) (L:=[]) (G:=λ_ _=>[]) (λc hc=>by cases hc) rfl rfl afK
 obtain⟨G1,h1⟩:=jv.step (c:=AY) h0 rfl rfl afv
 obtain⟨Gx,h2⟩:=jv.step (c:=oh) h1 rfl rfl (afw hg (G:=G1))
 obtain⟨K0,h3⟩:=jv.step (c:=ql) h2 rfl rfl (afH hg (G:=Gx) (h2 oh (fP 0 rfl)))
 obtain⟨Gy,h4⟩:=jv.step (c:=ue) h3 rfl rfl (afG hg (G:=K0) (h3 oh (fP 1 rfl)))
 obtain⟨aaX,h5⟩:=jv.step (c:=jE) h4 rfl rfl (afI hg (G:=Gy) (h4 oh (fP 2 rfl)) (h4 A8 (fP 4 rfl)) (h4 AY (fP 3 rfl)))
 obtain⟨aaY,h6⟩:=jv.step (c:=rB) h5 rfl rfl (afM hg (G:=aaX) (h5 jE (fP 0 rfl)))
 obtain⟨aaZ,h7⟩:=jv.step (c:=Bo) h6 rfl rfl (afN hg (G:=aaY) (h6 ql (fP 3 rfl)))
 obtain⟨aa0,cq⟩:=jv.step (c:=uc) h7 rfl rfl (afE hg (G:=aaZ) (h7 oh (fP 5 rfl)))
 obtain⟨aa1,bU⟩:=jv.step (c:=A4) cq rfl rfl (afJ hg (G:=aa0) (anl hg (cq rB (fP 2 rfl)) (cq jE (fP 3 rfl))))
 obtain⟨aaP,c8⟩:=jv.step (c:=A9) bU rfl rfl (afL hg (G:=aa1) (bU uc (fP 1 rfl)))
 obtain⟨aaQ,e0⟩:=jv.step (c:=ud) c8 rfl rfl (afF hg (G:=aaP) (c8 jE (fP 5 rfl)))
 obtain⟨aaR,gd⟩:=jv.step (c:=yx) e0 rfl rfl (afx hg (G:=aaQ) (e0 ud (fP 0 rfl)))
 obtain⟨aaS,gr⟩:=jv.step (c:=wc) gd rfl rfl (afC hg (G:=aaR) (gd ud (fP 1 rfl)))
 obtain⟨aaT,eD⟩:=jv.step (c:=ub) gr rfl rfl (afA hg (G:=aaS) (gr jE (fP 8 rfl)))
 obtain⟨aaU,iN⟩:=jv.step (c:=wa) eD rfl rfl (afB hg (G:=aaT) (eD ue (fP 10 rfl)) (eD jE (fP 9 rfl)) (eD ql (fP 11 rfl)) (eD ub (fP 0 rfl)) (eD Bo (fP 7 rfl)))
 obtain⟨aaV,jc⟩:=jv.step (c:=we) iN rfl rfl (afD hg (G:=aaU) (iN rB (fP 9 rfl)) (iN ql (fP 12 rfl)) (iN ue (fP 11 rfl)) (iN ub (fP 1 rfl)))
 obtain⟨aaW,lp⟩:=jv.step (c:=yy) jc rfl rfl (afy hg (G:=aaV) (jc A4 (fP 7 rfl)) (jc jE (fP 11 rfl)) (jc uc (fP 8 rfl)) (jc A9 (fP 6 rfl)))
 obtain⟨av6,mH⟩:=jv.step (c:=yB) lp rfl rfl (afz hg (G:=aaW))
 exact⟨_,mH⟩
end
end Go.cd
namespace Go.cd
open Go Go.bg Go.Proofs
abbrev r8 (G:Nat->List Int->List Int) (wb:ai) (k:bz):Prop:=k.cP Tryz.prog wb (cl sh (lh G) k.id)
abbrev jx (G:Nat->List Int->List Int) (wb:ai) (k:dL):Prop:=k.eB Tryz.prog wb (cl sh (lh G) k.id)
abbrev Tp (G:Nat->List Int->List Int) (wb:ai) (k:ik):Prop:=k.eB Tryz.prog wb (cl sh (lh G) k.c.id)
theorem ank {G:Nat->List Int->List Int} {wb:ai} (hg:dq wb) (agW:r8 G wb yB) (agR:r8 G wb yx) (ahb:r8 G wb yC) (agS:r8 G wb yy) (aht:Tp G wb BG):jx G wb yF:=oj (λ_ _ _=>ct aJ (aY agW (aY agR (aY ahb (aY agS aJ))))) hg (λ_ _ _=>(BE (kI aJ) (aY aht aJ))) (by kernel_rfl) rfl rfl asg (aoJ G)
theorem am5 {G:Nat->List Int->List Int} {wb:ai} (hg:dq wb) (ahk:jx G wb yF) (ag6:jx G wb IF) (ahs:Tp G wb BF):jx G wb uu:=oj (λ_ _ _=>ct aJ aJ) hg (λ_ _ _=>(BE (kI (aY ahk (aY ag6 aJ))) (aY ahs aJ))) (by kernel_rfl) rfl rfl ar3 (aow G)
theorem am9 {G:Nat->List Int->List Int} {wb:ai} (hg:dq wb) (h_pRight:jx G wb oi) (M8:jx G wb uu):jx G wb yE:=oj (λ_ _ _=>ct aJ aJ) hg (λ_ _ _=>(kI (aY h_pRight (aY M8 aJ)))) (by kernel_rfl) rfl rfl ar7 (aoA G)
theorem ana {G:Nat->List Int->List Int} {wb:ai} (hg:dq wb) (h_pone:r8 G wb ux) (h_pStore:jx G wb uw) (h_pSettle:jx G wb uv) (ahf:jx G wb yE) (M8:jx G wb uu):jx G wb wg:=oj (λ_ _ _=>ct aJ (aY h_pone aJ)) hg (λ_ _ _=>(kI (aY h_pStore (aY h_pSettle (aY ahf (aY M8 aJ)))))) (by kernel_rfl) rfl rfl ar8 (aoB G)
theorem am0 {G:Nat->List Int->List Int} {wb:ai} (hg:dq wb) (h_pone:r8 G wb ux) (h_palive:jx G wb wg) (h_pSettle:jx G wb uv) (h_pStore:jx G wb uw) (h_pFind:jx G wb yD) (h_pRight:jx G wb oi):jx G wb EX:=oj (λ_ _ _=>ct aJ (aY h_pone aJ)) hg (λ_ _ _=>(kI (aY h_palive (aY h_pSettle (aY h_pStore (aY h_pFind (aY h_pRight aJ))))))) (by kernel_rfl) rfl rfl arY (aor G)
end Go.cd
namespace Go.Proofs
open Go.Shelf Go.RowKit
shelf_lay Lays.n137 Nm 137 at Tryz as Tryz.akW
theorem Tryz.strings_IndexByte (s:ByteArray) (c:Int) (w:World):
 Calls Tryz.prog 125 #[.string s,.int .u8 c] w λe w'=>e= .returned (.int .i64 (Lib.indexByte s.data.toList c.toNat.toUInt8))/\w'=w:=Any.strings_IndexByte Tryz.akW s c w
shelf_lay Lays.n144 Nm 144 at Tryz as Tryz.akX
theorem Tryz.strings_Contains (s sub:ByteArray) (m:Int) (w:World) (hs:s.size<4294967281) (hm:w.cell? ⟨2,0,none⟩=some (.int .i64 m)):
 Calls Tryz.prog 59 #[.string s,.string sub] w λe w'=>e= .returned (.bool (Lib.contains s.data.toList sub.data.toList))/\w'=w:=Any.strings_Contains Tryz.akX s sub m w hs hm
end Go.Proofs
namespace Go.Proofs
open Go.Shelf Go.RowKit
shelf_lay Lays.n169 Nm 169 at Tryz as Tryz.lays169
theorem Tryz.Gw:Builder.Extra Tryz.prog Tryz.lays169_ren where
 sizeBuilder:=by kernel_rfl
 liesBuilder:=by kernel_rfl
 t5:=Tryz.underlying5
 a5:=Tryz.isAgg5
 z5:=Tryz.sizeOf5
 v5:=Tryz.zeroValue5
 infoByte:=by kernel_rfl
 cellsByte:=by kernel_rfl
 sizeByte:=by kernel_rfl
 neB5:=by decide
theorem Tryz.Builder_String_any (B b:Nat) (l:List UInt8) (w:World) (h:Lib.IsBuilder 112 5 B b (Lib.byteCells l) w) (Vr:B<=w.heap.size):
 Calls Tryz.prog 82 #[.pointer (some ⟨b,0,none⟩)] w λe w'=>e= .returned (.string ⟨l.toArray⟩)/\Below B w w':=Any.Builder_String_any Tryz.lays169 Tryz.Gw B b l w h Vr
shelf_lay Lays.n170 Nm 170 at Tryz as Tryz.akY
theorem Tryz.Builder_Len (B b:Nat) (bs:List Value) (w:World) (h:Lib.IsBuilder 112 5 B b bs w):
 Calls Tryz.prog 159 #[.pointer (some ⟨b,0,none⟩)] w λe w'=>e= .returned (.int .i64 bs.length)/\w'=w:=Any.Builder_Len Tryz.akY B b bs w h
set_option maxHeartbeats 1000000 in
set_option maxRecDepth 100000 in
theorem Tryz.Builder_copyCheck_used (b:Nat) (w:World) (h0:w.cell? ⟨b,0,none⟩=some (.pointer (some ⟨b,0,none⟩))):
 Calls Tryz.prog 116 #[.pointer (some ⟨b,0,none⟩)] w λe w'=>e= .returned (.tuple #[])/\w'=w:=by
 obtain⟨j,hj,_⟩:=Option.map_eq_some_iff.1 Tryz.Gw.toX72.sizeBuilder
 go_enter Tryz.func116,Tryz.ntmps116
 go_wp2
 rw[Lib.run_neq_ptr_same w _ Tryz.underlying110 hj]
 go_wp2
 go_end0
 exact⟨rfl,rfl⟩
set_option maxHeartbeats 1000000 in
set_option maxRecDepth 100000 in
theorem Tryz.Builder_copyCheck_fresh (b:Nat) (w:World) (h0:w.cell? ⟨b,0,none⟩=some (.pointer none)) (gK:w.shape? b=some (112,2)) (H0:w.frozen? ⟨b,0,none⟩=false):
 Calls Tryz.prog 116 #[.pointer (some ⟨b,0,none⟩)] w λe w'=>e= .returned (.tuple #[])/\w'=w.setCell ⟨b,0,none⟩ (.pointer (some ⟨b,0,none⟩)):=by
 have X:=Tryz.Gw.toX72
 obtain⟨j,hj,ais⟩:=Option.map_eq_some_iff.1 X.sizeBuilder
 go_enter Tryz.func116,Tryz.ntmps116
 go_wp2
 rw[Lib.run_to_unsafe w ⟨b,0,none⟩ Tryz.underlying110 Tryz.underlying174 hj (by rw[ais];decide) gK (Nat.zero_lt_succ 1)]
 simp only[Result.andThen]
 rw[Oper.upon_value]
 go_wp2
 rw[run_callFunc_extern Tryz.func149 (by kernel_rfl) (by kernel_rfl) (by kernel_rfl) (e:=Extern.AbiNoEscape.same) (by kernel_rfl)]
 rw[Lib.run_noEscape]
 simp only[Result.andThen]
 rw[Oper.upon_value]
 go_wp2
 rw[Lib.run_from_unsafe w ⟨b,0,none⟩ Tryz.underlying174 Tryz.underlying110 hj gK X.liesBuilder]
 simp only[Result.andThen]
 rw[Oper.upon_value]
 go_wp2
 go_end0
 exact⟨rfl,rfl⟩
theorem Tryz.Builder_copyCheck (B b:Nat) (bs:List Value) (w:World) (h:Lib.IsBuilder 112 5 B b bs w):
 Calls Tryz.prog 116 #[.pointer (some ⟨b,0,none⟩)] w λe w'=>e= .returned (.tuple #[])/\(Lib.BuilderAt 112 5 B b (.pointer (some ⟨b,0,none⟩)) bs w'/\Below B w w'):=by
 rcases h with h|h
 ·refine(Tryz.Builder_copyCheck_fresh b w h.cell0 h.shape h.frozen0).mono ?_
  rintro e w' ⟨rfl,rfl⟩
  exact⟨rfl,h.used _,(Below.refl B w).setCell (p:=⟨b,0,none⟩) h.1 _⟩
 ·refine(Tryz.Builder_copyCheck_used b w h.cell0).mono ?_
  rintro e w' ⟨rfl,rfl⟩
  exact⟨rfl,h,Below.refl B _⟩
set_option maxHeartbeats 2000000 in
set_option maxRecDepth 100000 in
theorem Tryz.Builder_WriteByte (B b:Nat) (bs:List Value) (c:Int) (w:World) (h:Lib.IsBuilder 112 5 B b bs w) (hlen:bs.length+1<=140737488355328) (Vr:B<=w.heap.size):
 Calls Tryz.prog 81 #[.pointer (some ⟨b,0,none⟩),.int .u8 c] w λe w'=>e= .returned .nilIface/\(Lib.BuilderAt 112 5 B b (.pointer (some ⟨b,0,none⟩)) (bs++[.int .u8 c]) w'/\Below B w w'):=by
 have X:=Tryz.Gw
 obtain⟨i0,hi,hz0,hz1,hz2⟩:=info_parts X.infoByte
 go_enter Tryz.func81,Tryz.ntmps81
 go_wp2_with (go_at_call 116;refine(Tryz.Builder_copyCheck B b bs _ h).mono ?_)
 rintro e w1 ⟨rfl,h1,hb1⟩
 obtain⟨hB,v,HR,hown,hne⟩:=h1
 have bT:w1.cell? ⟨b,0,none⟩=some (.pointer (some ⟨b,0,none⟩)):=by rw[Lib.cell_of_heap HR];rfl
 have c1:w1.cell? ⟨b,1,none⟩=some v:=by rw[Lib.cell_of_heap HR];rfl
 go_wp2_with (at_builtin;refine wpList_append_own _ rfl _ _ 60 rfl B 5 i0 (.int .u8 0) 1 1 Tryz.underlying60 hi hz0 hz1 hz2 rfl (by decide) _ _ _ rfl (hown.alloc _) ⟨w1.heap.size,0,none⟩ 1 1 [.int .u8 c] rfl rfl ?c1 ?c2 ?c3 ?c4 ?c5 ?_)
 case c1=>
  intro j u hj
  match j,hj with
  |0,hj=>simp at hj;subst hj;simp[Addr.add]
 case c2=>intro u hu;simp at hu;subst hu;rfl
 case c3=>unfold maxLen;omega
 case c4=>omega
 case c5=>have:=hb1.size;simp;omega
 intro v' w2 hown' hgrow _
 have hlt:b<w1.heap.size:=by
  rcases Nat.lt_or_ge b w1.heap.size with h'|h'
  ·exact h'
  ·simp[Array.getElem?_eq_none h']at HR
 have hb2:w2.heap[b]?=some (.cells #[.pointer (some ⟨b,0,none⟩),v] 112 (0,0)):=by
  rw[hgrow.block b (by simp;omega) (λe=>hne e.symm),Lib.alloc_old w1 _ b hlt]
  exact HR
 have d0:w2.cell? ⟨b,0,none⟩=some (.pointer (some ⟨b,0,none⟩)):=by rw[Lib.cell_of_heap hb2];rfl
 have d1:w2.cell? ⟨b,1,none⟩=some v:=by rw[Lib.cell_of_heap hb2];rfl
 have f1:w2.frozen? ⟨b,1,none⟩=false:=Lib.frozen_of_heap hb2 1
 obtain⟨g,cap,rfl⟩:∃g cap,v'= .slice (some ⟨g,0,none⟩) (bs.length+1) cap:=by
  rcases hown'.2 with⟨_,h0⟩|⟨g,cap,cur,hv,_⟩
  ·omega
  ·exact⟨g,cap,hv⟩
 go_wp2
 go_ret
 refine⟨rfl,?_,?_⟩
 ·exact Lib.BuilderAt.put (T:=112) (e:=5) hB hb2 (bs':=bs++[.int .u8 c]) (by simpa using hown') X.neB5
 ·exact((hb1.alloc (by have:=hb1.size;omega) _).grown hgrow (by have:=hb1.size;simp;omega) (λk hk=>(hown.lt k hk).1)).setCell (p:=⟨b,1,none⟩) hB _
end Go.Proofs
namespace Go.cd
open Go Go.bg Go.Proofs Go.RowKit
theorem Dy {w w':World} (h:Below w.heap.size w w'):w.Extends w':=
 ⟨h.os,h.tape,h.output,h.size,λa ha=>by unfold World.cell?;rw[h.block a.block ha],λa ha=>by unfold World.frozen?;rw[h.block a.block ha],h.block⟩
theorem amV {wb:World}:bG wb nA:=by
 intro zs hz
 obtain⟨rs,h1,h2,h3⟩:=ajQ (wb:=wb) (f:=163) (id:=73) Tryz.func163 (by kernel_rfl) (by kernel_rfl) (by kernel_rfl) (by kernel_rfl) zs hz
 match zs,hz with
 |[s,c],hz=>
  refine⟨rs,h1,?_,h3⟩
  subst h2
  rfl
theorem adP (b:UInt8) (l:ay):dd (b::l)=((b==46&&l.getD 0 0==46)||dd l):=by
 unfold dd
 rw[List.length_cons,List.range_succ_eq_map,List.any_cons,List.any_map]
 rfl
theorem Uj:∀l:ay,Lib.contains l [46,46]=dd l
 |[]=>rfl
 |b::l=>by
  have ih:=Uj l
  unfold Lib.contains at ih⊢
  rw[adP,<-ih]
  have sym:∀x:UInt8,((46:UInt8)==x)=(x==46):=λx=>by rw[Bool.eq_iff_iff,beq_iff_eq,beq_iff_eq];exact eq_comm
  have hp:([46,46]:ay).isPrefixOf (b::l)=(b==46&&l.getD 0 0==46):=by
   cases l with
   |nil=>
    show((46:UInt8)==b&&false)=(b==46&&((0:UInt8)==46))
    rw[sym];rfl
   |cons c r=>
    show((46:UInt8)==b&&((46:UInt8)==c&&true))=(b==46&&c==46)
    rw[sym,sym,Bool.and_true]
  have he:Lib.index (b::l) [46,46]=if([46,46]:ay).isPrefixOf (b::l)=true then 0 else if(Lib.index l [46,46]==-1)=true then-1 else Lib.index l [46,46]+1:=rfl
  rw[he,hp]
  cases(b==46&&l.getD 0 0==46)with
  |true=>rfl
  |false=>
   rw[if_neg (by decide),Bool.false_or]
   by_cases he:(Lib.index l [46,46]==-1)=true
   ·rw[if_pos he]
    have:=beq_iff_eq.1 he
    rw[this]
   ·rw[if_neg he]
    have he:¬Lib.index l [46,46]=-1:=λe=>he (beq_iff_eq.2 e)
    have:=Lib.index_ge [46,46] l
    rw[Bool.eq_iff_iff,decide_eq_true_eq,decide_eq_true_eq]
    omega
theorem amA {wb:World} (hc:∃m,wb.cell? ⟨2,0,none⟩=some (.int .i64 m)) (h0:2<wb.heap.size):zJ wb BL:=by
 intro zs hz hp
 match zs,hz with
 |[z],hz=>
  refine⟨[bh (dd (U z))],⟨(p5 _).1,(p5 _).2,trivial⟩,rfl,λw hw=> .inr ⟨enters (by kernel_rfl) _ _,?_⟩⟩
  obtain⟨m,hm⟩:=hc
  have tU:w.cell? ⟨2,0,none⟩=some (.int .i64 m):=by rw[hw.cell ⟨2,0,none⟩ h0];exact hm
  have hl:(U z).length<=4294967280:=hp
  refine(Tryz.strings_Contains (bd (U z)) (bd [46,46]) m w (by show(U z).toArray.size<_;simp;omega) tU).mono ?_
  rintro e w' ⟨rfl,rfl⟩
  refine⟨?_,World.Extends.refl _⟩
  have e1:(bd (U z)).data.toList=U z:=by simp[bd]
  have e2:(bd [46,46]).data.toList=[46,46]:=rfl
  rw[e1,e2,Uj]
  show _=Ending.returned (Value.bool (decide (bh (dd (U z))=1)))
  rw[Lu]
theorem Dh {l:ay} {n:Nat} (h:l.length<=n) (hn:n<=140737488351232):0<=dP l/\dP l<=ch:=⟨p9 _,oG (by unfold fQ;omega)⟩
end Go.cd
namespace Go.Proofs
open Go.RowKit Go.cd
def vt (s:ay):Value:=match nY s with|some (c,t)=> .tuple #[.agg #[.string ⟨c.toArray⟩,.string ⟨t.toArray⟩],.bool true]|none=> .tuple #[.agg #[.string ⟨#[]⟩,.string ⟨#[]⟩],.bool false]
theorem aps {α:Type} (a:Array α) (x y:α):(a.push x).setIfInBounds a.size y=a.push y:=by
 apply Array.ext'
 simp
theorem acC {s t:ByteArray} (h:¬s=t):(s==t)=false:=by
 cases h':(s==t)with
 |false=>rfl
 |true=>
  have h':(s.data==t.data)=true:=h'
  exact absurd (ByteArray.ext (eq_of_beq h')) h
def IP (z:Value):Option (Nat×Value)->Value
 |some (_,v)=> .tuple #[v,.bool true]
 |none=> .tuple #[z,.bool false]
theorem Br {P:Program} {Fa yJ q3:TypeId} (hm:P.underlying Fa=some (.map yJ q3)) (hk:P.underlying yJ=some .string) (W:World) (es:Array MapEntry) (clock:Nat) (s:ByteArray) (v:Value) (hf:Instr.findNow .string (.string s) es.toList 0=some none):
 (Instr.mapUpdate Fa (.map (some W.heap.size)) (.string s) v).run P (W.alloc (.map es clock))= .ok () (W.alloc (.map (es.push {key:= .string s,val:=v,born:=clock}) (clock+1))):=by
 have hb:(W.alloc (.map es clock)).heap[W.heap.size]?=some (.map es clock):=heap_alloc_new W _
 have hc:(Instr.checkKey false 10000 yJ (.string s)).run P (W.alloc (.map es clock))= .ok () (W.alloc (.map es clock)):=MapKept.run_checkKey (k:= .string s) hk (by simp[MapKept.IsKey]) false 9999
 simp only[Instr.mapUpdate,Sem.run_bind,run_underlying hm,Result.andThen,MapKept.run_getObj_map hb,Sem.run_pure,hc,MapKept.run_findKey hk hf,MapKept.run_setObj_map _ hb]
 simp only[World.alloc,aps]
theorem al2 {P:Program} {Fa yJ q3:TypeId} {z:Value} (hm:P.underlying Fa=some (.map yJ q3)) (hk:P.underlying yJ=some .string) (hz:∀w,(zeroValue q3).run P w= .ok z w) (W:World) (es:Array MapEntry) (clock:Nat) (s:ByteArray) (a:Option (Nat×Value)) (hf:Instr.findNow .string (.string s) es.toList 0=some a):
 (Instr.lookup Fa (.map (some W.heap.size)) (.string s) true).run P (W.alloc (.map es clock))= .ok (IP z a) (W.alloc (.map es clock)):=by
 have hb:(W.alloc (.map es clock)).heap[W.heap.size]?=some (.map es clock):=heap_alloc_new W _
 have hc:(Instr.checkKey es.isEmpty 10000 yJ (.string s)).run P (W.alloc (.map es clock))= .ok () (W.alloc (.map es clock)):=MapKept.run_checkKey (k:= .string s) hk (by simp[MapKept.IsKey]) _ 9999
 simp only[Instr.lookup,Sem.run_bind,run_underlying hm,Result.andThen,MapKept.run_getObj_map hb,Sem.run_pure,hc,MapKept.run_findKey hk hf]
 cases a with
 |none=>simp[hz,IP]
 |some p=>simp[IP]
theorem acB {s t:ByteArray}:s=t↔s.data.toList=t.data.toList:=⟨λh=>by rw[h],λh=>ByteArray.ext (Array.toList_inj.1 h)⟩
def E0:Array MapEntry:=#[{key:=Value.string {data:=#[]},val:=Value.agg #[Value.string {data:=#[]},Value.string {data:=#[]}],born:=0},{key:=Value.string {data:=#[71,66]},val:=Value.agg #[Value.string {data:=#[52,52]},Value.string {data:=#[48]}],born:=1},{key:=Value.string {data:=#[85,83]},val:=Value.agg #[Value.string {data:=#[49]},Value.string {data:=#[]}],born:=2},{key:=Value.string {data:=#[68,69]},val:=Value.agg #[Value.string {data:=#[52,57]},Value.string {data:=#[48]}],born:=3},{key:=Value.string {data:=#[70,82]},val:=Value.agg #[Value.string {data:=#[51,51]},Value.string {data:=#[48]}],born:=4},{key:=Value.string {data:=#[67,72]},val:=Value.agg #[Value.string {data:=#[52,49]},Value.string {data:=#[48]}],born:=5}]
theorem akT (s:ByteArray):∃a,Instr.findNow .string (.string s) E0.toList 0=some a/\IP (.agg #[.string ⟨#[]⟩,.string ⟨#[]⟩]) a=vt s.data.toList:=by
 by_cases h0:s={data:=#[]}
 ·subst h0;exact⟨_,rfl,rfl⟩
 by_cases h1:s={data:=#[71,66]}
 ·subst h1;exact⟨_,rfl,rfl⟩
 by_cases h2:s={data:=#[85,83]}
 ·subst h2;exact⟨_,rfl,rfl⟩
 by_cases h3:s={data:=#[68,69]}
 ·subst h3;exact⟨_,rfl,rfl⟩
 by_cases h4:s={data:=#[70,82]}
 ·subst h4;exact⟨_,rfl,rfl⟩
 by_cases h5:s={data:=#[67,72]}
 ·subst h5;exact⟨_,rfl,rfl⟩
 have n:∀t:ByteArray,¬s=t->(s==t)=false:=λt h=>acC h
 refine⟨none,?_,?_⟩
 ·simp only[E0,Instr.findNow,Instr.sameNow,n _ h0,n _ h1,n _ h2,n _ h3,n _ h4,n _ h5]
 ·have m:∀t:ay,¬s=⟨t.toArray⟩->(s.data.toList==t)=false:=λt h=>by
   cases ae:(s.data.toList==t)with
   |false=>rfl
   |true=>exact absurd (acB.2 (by rw[beq_iff_eq.1 ae])) h
  unfold vt nY
  rw[m [] h0,m [71,66] h1,m [85,83] h2,m [68,69] h3,m [70,82] h4,m [67,72] h5]
  rfl
set_option maxHeartbeats 4000000 in
set_option maxRecDepth 1000000 in
theorem Tryz.adI (s:ByteArray) (w:World):
 Calls Tryz.prog 129 #[.string s] w λe w'=>e= .returned (vt s.data.toList)/\Below w.heap.size w w':=by
 go_enter Tryz.func129,Tryz.ntmps129
 have axP:∀W:World,(Instr.makeMap 180 none).run Tryz.prog W= .ok (.map (some W.heap.size)) (W.alloc (.map #[] 0)):=λW=>run_makeMap 180 W
 have Ez:(Instr.mapUpdate 180 (.map (some (w.heap.size+1))) (.string {data:=#[]}) (Value.agg #[Value.string {data:=#[]},Value.string {data:=#[]}])).run Tryz.prog ((w.alloc (Obj.cells #[Value.string {data:=#[]},Value.string {data:=#[]}] 154)).alloc (.map #[] 0))= .ok () ((w.alloc (Obj.cells #[Value.string {data:=#[]},Value.string {data:=#[]}] 154)).alloc (.map #[{key:=Value.string {data:=#[]},val:=Value.agg #[Value.string {data:=#[]},Value.string {data:=#[]}],born:=0}] 1)):=by
  have:=Br Tryz.underlying180 Tryz.underlying9 (w.alloc (Obj.cells #[Value.string {data:=#[]},Value.string {data:=#[]}] 154)) #[] 0 {data:=#[]} (Value.agg #[Value.string {data:=#[]},Value.string {data:=#[]}]) rfl
  simpa using this
 have Ig:(Instr.mapUpdate 180 (.map (some (w.heap.size+1))) (.string {data:=#[71,66]}) (Value.agg #[Value.string {data:=#[52,52]},Value.string {data:=#[48]}])).run Tryz.prog ((w.alloc (Obj.cells #[Value.string {data:=#[]},Value.string {data:=#[]}] 154)).alloc (.map #[{key:=Value.string {data:=#[]},val:=Value.agg #[Value.string {data:=#[]},Value.string {data:=#[]}],born:=0}] 1))= .ok () ((w.alloc (Obj.cells #[Value.string {data:=#[]},Value.string {data:=#[]}] 154)).alloc (.map #[{key:=Value.string {data:=#[]},val:=Value.agg #[Value.string {data:=#[]},Value.string {data:=#[]}],born:=0},{key:=Value.string {data:=#[71,66]},val:=Value.agg #[Value.string {data:=#[52,52]},Value.string {data:=#[48]}],born:=1}] 2)):=by
  have:=Br Tryz.underlying180 Tryz.underlying9 (w.alloc (Obj.cells #[Value.string {data:=#[]},Value.string {data:=#[]}] 154)) #[{key:=Value.string {data:=#[]},val:=Value.agg #[Value.string {data:=#[]},Value.string {data:=#[]}],born:=0}] 1 {data:=#[71,66]} (Value.agg #[Value.string {data:=#[52,52]},Value.string {data:=#[48]}]) rfl
  simpa using this
 have vV:(Instr.mapUpdate 180 (.map (some (w.heap.size+1))) (.string {data:=#[85,83]}) (Value.agg #[Value.string {data:=#[49]},Value.string {data:=#[]}])).run Tryz.prog ((w.alloc (Obj.cells #[Value.string {data:=#[]},Value.string {data:=#[]}] 154)).alloc (.map #[{key:=Value.string {data:=#[]},val:=Value.agg #[Value.string {data:=#[]},Value.string {data:=#[]}],born:=0},{key:=Value.string {data:=#[71,66]},val:=Value.agg #[Value.string {data:=#[52,52]},Value.string {data:=#[48]}],born:=1}] 2))= .ok () ((w.alloc (Obj.cells #[Value.string {data:=#[]},Value.string {data:=#[]}] 154)).alloc (.map #[{key:=Value.string {data:=#[]},val:=Value.agg #[Value.string {data:=#[]},Value.string {data:=#[]}],born:=0},{key:=Value.string {data:=#[71,66]},val:=Value.agg #[Value.string {data:=#[52,52]},Value.string {data:=#[48]}],born:=1},{key:=Value.string {data:=#[85,83]},val:=Value.agg #[Value.string {data:=#[49]},Value.string {data:=#[]}],born:=2}] 3)):=by
  have:=Br Tryz.underlying180 Tryz.underlying9 (w.alloc (Obj.cells #[Value.string {data:=#[]},Value.string {data:=#[]}] 154)) #[{key:=Value.string {data:=#[]},val:=Value.agg #[Value.string {data:=#[]},Value.string {data:=#[]}],born:=0},{key:=Value.string {data:=#[71,66]},val:=Value.agg #[Value.string {data:=#[52,52]},Value.string {data:=#[48]}],born:=1}] 2 {data:=#[85,83]} (Value.agg #[Value.string {data:=#[49]},Value.string {data:=#[]}]) rfl
  simpa using this
 have axT:(Instr.mapUpdate 180 (.map (some (w.heap.size+1))) (.string {data:=#[68,69]}) (Value.agg #[Value.string {data:=#[52,57]},Value.string {data:=#[48]}])).run Tryz.prog ((w.alloc (Obj.cells #[Value.string {data:=#[]},Value.string {data:=#[]}] 154)).alloc (.map #[{key:=Value.string {data:=#[]},val:=Value.agg #[Value.string {data:=#[]},Value.string {data:=#[]}],born:=0},{key:=Value.string {data:=#[71,66]},val:=Value.agg #[Value.string {data:=#[52,52]},Value.string {data:=#[48]}],born:=1},{key:=Value.string {data:=#[85,83]},val:=Value.agg #[Value.string {data:=#[49]},Value.string {data:=#[]}],born:=2}] 3))= .ok () ((w.alloc (Obj.cells #[Value.string {data:=#[]},Value.string {data:=#[]}] 154)).alloc (.map #[{key:=Value.string {data:=#[]},val:=Value.agg #[Value.string {data:=#[]},Value.string {data:=#[]}],born:=0},{key:=Value.string {data:=#[71,66]},val:=Value.agg #[Value.string {data:=#[52,52]},Value.string {data:=#[48]}],born:=1},{key:=Value.string {data:=#[85,83]},val:=Value.agg #[Value.string {data:=#[49]},Value.string {data:=#[]}],born:=2},{key:=Value.string {data:=#[68,69]},val:=Value.agg #[Value.string {data:=#[52,57]},Value.string {data:=#[48]}],born:=3}] 4)):=by
  have:=Br Tryz.underlying180 Tryz.underlying9 (w.alloc (Obj.cells #[Value.string {data:=#[]},Value.string {data:=#[]}] 154)) #[{key:=Value.string {data:=#[]},val:=Value.agg #[Value.string {data:=#[]},Value.string {data:=#[]}],born:=0},{key:=Value.string {data:=#[71,66]},val:=Value.agg #[Value.string {data:=#[52,52]},Value.string {data:=#[48]}],born:=1},{key:=Value.string {data:=#[85,83]},val:=Value.agg #[Value.string {data:=#[49]},Value.string {data:=#[]}],born:=2}] 3 {data:=#[68,69]} (Value.agg #[Value.string {data:=#[52,57]},Value.string {data:=#[48]}]) rfl
  simpa using this
 have axU:(Instr.mapUpdate 180 (.map (some (w.heap.size+1))) (.string {data:=#[70,82]}) (Value.agg #[Value.string {data:=#[51,51]},Value.string {data:=#[48]}])).run Tryz.prog ((w.alloc (Obj.cells #[Value.string {data:=#[]},Value.string {data:=#[]}] 154)).alloc (.map #[{key:=Value.string {data:=#[]},val:=Value.agg #[Value.string {data:=#[]},Value.string {data:=#[]}],born:=0},{key:=Value.string {data:=#[71,66]},val:=Value.agg #[Value.string {data:=#[52,52]},Value.string {data:=#[48]}],born:=1},{key:=Value.string {data:=#[85,83]},val:=Value.agg #[Value.string {data:=#[49]},Value.string {data:=#[]}],born:=2},{key:=Value.string {data:=#[68,69]},val:=Value.agg #[Value.string {data:=#[52,57]},Value.string {data:=#[48]}],born:=3}] 4))= .ok () ((w.alloc (Obj.cells #[Value.string {data:=#[]},Value.string {data:=#[]}] 154)).alloc (.map #[{key:=Value.string {data:=#[]},val:=Value.agg #[Value.string {data:=#[]},Value.string {data:=#[]}],born:=0},{key:=Value.string {data:=#[71,66]},val:=Value.agg #[Value.string {data:=#[52,52]},Value.string {data:=#[48]}],born:=1},{key:=Value.string {data:=#[85,83]},val:=Value.agg #[Value.string {data:=#[49]},Value.string {data:=#[]}],born:=2},{key:=Value.string {data:=#[68,69]},val:=Value.agg #[Value.string {data:=#[52,57]},Value.string {data:=#[48]}],born:=3},{key:=Value.string {data:=#[70,82]},val:=Value.agg #[Value.string {data:=#[51,51]},Value.string {data:=#[48]}],born:=4}] 5)):=by
  have:=Br Tryz.underlying180 Tryz.underlying9 (w.alloc (Obj.cells #[Value.string {data:=#[]},Value.string {data:=#[]}] 154)) #[{key:=Value.string {data:=#[]},val:=Value.agg #[Value.string {data:=#[]},Value.string {data:=#[]}],born:=0},{key:=Value.string {data:=#[71,66]},val:=Value.agg #[Value.string {data:=#[52,52]},Value.string {data:=#[48]}],born:=1},{key:=Value.string {data:=#[85,83]},val:=Value.agg #[Value.string {data:=#[49]},Value.string {data:=#[]}],born:=2},{key:=Value.string {data:=#[68,69]},val:=Value.agg #[Value.string {data:=#[52,57]},Value.string {data:=#[48]}],born:=3}] 4 {data:=#[70,82]} (Value.agg #[Value.string {data:=#[51,51]},Value.string {data:=#[48]}]) rfl
  simpa using this
 have axV:(Instr.mapUpdate 180 (.map (some (w.heap.size+1))) (.string {data:=#[67,72]}) (Value.agg #[Value.string {data:=#[52,49]},Value.string {data:=#[48]}])).run Tryz.prog ((w.alloc (Obj.cells #[Value.string {data:=#[]},Value.string {data:=#[]}] 154)).alloc (.map #[{key:=Value.string {data:=#[]},val:=Value.agg #[Value.string {data:=#[]},Value.string {data:=#[]}],born:=0},{key:=Value.string {data:=#[71,66]},val:=Value.agg #[Value.string {data:=#[52,52]},Value.string {data:=#[48]}],born:=1},{key:=Value.string {data:=#[85,83]},val:=Value.agg #[Value.string {data:=#[49]},Value.string {data:=#[]}],born:=2},{key:=Value.string {data:=#[68,69]},val:=Value.agg #[Value.string {data:=#[52,57]},Value.string {data:=#[48]}],born:=3},{key:=Value.string {data:=#[70,82]},val:=Value.agg #[Value.string {data:=#[51,51]},Value.string {data:=#[48]}],born:=4}] 5))= .ok () ((w.alloc (Obj.cells #[Value.string {data:=#[]},Value.string {data:=#[]}] 154)).alloc (.map #[{key:=Value.string {data:=#[]},val:=Value.agg #[Value.string {data:=#[]},Value.string {data:=#[]}],born:=0},{key:=Value.string {data:=#[71,66]},val:=Value.agg #[Value.string {data:=#[52,52]},Value.string {data:=#[48]}],born:=1},{key:=Value.string {data:=#[85,83]},val:=Value.agg #[Value.string {data:=#[49]},Value.string {data:=#[]}],born:=2},{key:=Value.string {data:=#[68,69]},val:=Value.agg #[Value.string {data:=#[52,57]},Value.string {data:=#[48]}],born:=3},{key:=Value.string {data:=#[70,82]},val:=Value.agg #[Value.string {data:=#[51,51]},Value.string {data:=#[48]}],born:=4},{key:=Value.string {data:=#[67,72]},val:=Value.agg #[Value.string {data:=#[52,49]},Value.string {data:=#[48]}],born:=5}] 6)):=by
  have:=Br Tryz.underlying180 Tryz.underlying9 (w.alloc (Obj.cells #[Value.string {data:=#[]},Value.string {data:=#[]}] 154)) #[{key:=Value.string {data:=#[]},val:=Value.agg #[Value.string {data:=#[]},Value.string {data:=#[]}],born:=0},{key:=Value.string {data:=#[71,66]},val:=Value.agg #[Value.string {data:=#[52,52]},Value.string {data:=#[48]}],born:=1},{key:=Value.string {data:=#[85,83]},val:=Value.agg #[Value.string {data:=#[49]},Value.string {data:=#[]}],born:=2},{key:=Value.string {data:=#[68,69]},val:=Value.agg #[Value.string {data:=#[52,57]},Value.string {data:=#[48]}],born:=3},{key:=Value.string {data:=#[70,82]},val:=Value.agg #[Value.string {data:=#[51,51]},Value.string {data:=#[48]}],born:=4}] 5 {data:=#[67,72]} (Value.agg #[Value.string {data:=#[52,49]},Value.string {data:=#[48]}]) rfl
  simpa using this
 obtain⟨c,t,ok,hl,hv⟩:∃(c t:ByteArray) (ok:Bool),(Instr.lookup 180 (.map (some (w.heap.size+1))) (.string s) true).run Tryz.prog ((w.alloc (Obj.cells #[Value.string {data:=#[]},Value.string {data:=#[]}] 154)).alloc (.map #[{key:=Value.string {data:=#[]},val:=Value.agg #[Value.string {data:=#[]},Value.string {data:=#[]}],born:=0},{key:=Value.string {data:=#[71,66]},val:=Value.agg #[Value.string {data:=#[52,52]},Value.string {data:=#[48]}],born:=1},{key:=Value.string {data:=#[85,83]},val:=Value.agg #[Value.string {data:=#[49]},Value.string {data:=#[]}],born:=2},{key:=Value.string {data:=#[68,69]},val:=Value.agg #[Value.string {data:=#[52,57]},Value.string {data:=#[48]}],born:=3},{key:=Value.string {data:=#[70,82]},val:=Value.agg #[Value.string {data:=#[51,51]},Value.string {data:=#[48]}],born:=4},{key:=Value.string {data:=#[67,72]},val:=Value.agg #[Value.string {data:=#[52,49]},Value.string {data:=#[48]}],born:=5}] 6))= .ok (.tuple #[.agg #[.string c,.string t],.bool ok]) ((w.alloc (Obj.cells #[Value.string {data:=#[]},Value.string {data:=#[]}] 154)).alloc (.map #[{key:=Value.string {data:=#[]},val:=Value.agg #[Value.string {data:=#[]},Value.string {data:=#[]}],born:=0},{key:=Value.string {data:=#[71,66]},val:=Value.agg #[Value.string {data:=#[52,52]},Value.string {data:=#[48]}],born:=1},{key:=Value.string {data:=#[85,83]},val:=Value.agg #[Value.string {data:=#[49]},Value.string {data:=#[]}],born:=2},{key:=Value.string {data:=#[68,69]},val:=Value.agg #[Value.string {data:=#[52,57]},Value.string {data:=#[48]}],born:=3},{key:=Value.string {data:=#[70,82]},val:=Value.agg #[Value.string {data:=#[51,51]},Value.string {data:=#[48]}],born:=4},{key:=Value.string {data:=#[67,72]},val:=Value.agg #[Value.string {data:=#[52,49]},Value.string {data:=#[48]}],born:=5}] 6))/\Hid (Value.tuple #[.agg #[.string c,.string t],.bool ok]=vt s.data.toList):=by
  obtain⟨a,hf,ha⟩:=akT s
  have:=al2 (z:= .agg #[.string ⟨#[]⟩,.string ⟨#[]⟩]) Tryz.underlying180 Tryz.underlying9 (λw=>Tryz.zeroValue154 w) (w.alloc (Obj.cells #[Value.string {data:=#[]},Value.string {data:=#[]}] 154)) E0 6 s a hf
  have hsz:(w.alloc (Obj.cells #[Value.string {data:=#[]},Value.string {data:=#[]}] 154)).heap.size=w.heap.size+1:=by simp
  rw[hsz,ha]at this
  have hr:∃(c t:ByteArray) (ok:Bool),vt s.data.toList=Value.tuple #[.agg #[.string c,.string t],.bool ok]:=by
   unfold vt
   cases nY s.data.toList with
   |none=>exact⟨_,_,_,rfl⟩
   |some p=>exact⟨_,_,_,rfl⟩
  obtain⟨c,t,ok,hr⟩:=hr
  rw[hr]at this
  exact⟨c,t,ok,this,hr.symm⟩
 go_wp2
 refine bodyPost_ret (v:= .tuple #[.agg #[.string c,.string t],.bool ok]) ?_ rfl ⟨congrArg _ hv,(((Below.refl _ w).alloc (Nat.le_refl _) _).alloc (by simp) _).alloc (by simp;omega) _⟩
 have hg:∀o1 o2:Obj,(((w.alloc (Obj.cells #[Value.string c,Value.string t] 154)).alloc o1).alloc o2).heap[w.heap.size]?=some (.cells #[.string c,.string t] 154 (0,0)):=λo1 o2=>by
  rw[Lib.alloc_old _ _ _ (by simp;omega),Lib.alloc_old _ _ _ (by simp),heap_alloc_new]
 have vJ:=run_loadVar_row (P:=Tryz.prog) (((w.alloc (Obj.cells #[Value.string c,Value.string t] 154)).alloc (.map E0 6)).alloc (Obj.cells #[Value.string c,Value.string t] 154)) w.heap.size 154 154 #[.string c,.string t] (0,0) _ (hg _ _) Tryz.underlying154 rfl (by kernel_rfl)
 rw[results_cell_tmp rfl]
 show((loadVar 154 ⟨w.heap.size,0,none⟩).run Tryz.prog (((w.alloc (Obj.cells #[Value.string c,Value.string t] 154)).alloc (.map E0 6)).alloc (Obj.cells #[Value.string c,Value.string t] 154))).andThen _=_
 rw[vJ]
 rfl
end Go.Proofs
namespace Go.cd
open Go Go.bg Go.Proofs Go.RowKit
theorem amF {wb:World}:bG wb IE:=by
 intro zs hz
 match zs,hz with
 |[z],hz=>
  have hw:=λw=>Tryz.adI (bd (U z)) w
  have e1:(bd (U z)).data.toList=U z:=by simp[bd]
  cases kj:nY (U z)with
  |none=>
   refine⟨[0,0,0],⟨Int.le_refl _,jw,Int.le_refl _,jw,by decide,by decide,trivial⟩,?_,λw _=> .inr ⟨enters (by kernel_rfl) _ _,?_⟩⟩
   ·show(match nY (U z)with|some (code,nK)=>U 0=code/\U 0=nK/\(0:Int)=1|none=>(0:Int)=0/\U 0=[]/\U 0=[])
    rw[kj];exact⟨rfl,rfl,rfl⟩
   ·refine(hw w).mono ?_
    rintro e w' ⟨rfl,hb⟩
    refine⟨?_,Dy hb⟩
    rw[e1];unfold vt;rw[kj];rfl
  |some Dm=>
   obtain⟨c,t⟩:=Dm
   have h1:=Dh (Ug kj) (by decide)
   have h2:0<=dP t/\dP t<=ch:=Dh (n:=1) (by rcases adK kj with h|h<;>rw[h]<;>decide) (by decide)
   refine⟨[dP c,dP t,1],⟨h1.1,h1.2,h2.1,h2.2,by decide,by decide,trivial⟩,?_,λw _=> .inr ⟨enters (by kernel_rfl) _ _,?_⟩⟩
   ·show(match nY (U z)with|some (code,nK)=>U (dP c)=code/\U (dP t)=nK/\(1:Int)=1|none=>(1:Int)=0/\U (dP c)=[]/\U (dP t)=[])
    rw[kj];exact⟨fS _,fS _,rfl⟩
   ·refine(hw w).mono ?_
    rintro e w' ⟨rfl,hb⟩
    refine⟨?_,Dy hb⟩
    rw[e1];unfold vt;rw[kj]
    show _=Ending.returned (.tuple #[.agg #[.string (bd (U (dP c))),.string (bd (U (dP t)))],.bool true])
    rw[fS,fS];rfl
end Go.cd
namespace Go.Proofs
open Go.RowKit Go.cd
theorem acV (s:ByteArray):s.data.toList.length=s.size:=by rw[Array.length_toList];rfl
def zT (s:ay):Value:=match fs s [] false with|some (d,p)=> .tuple #[.string ⟨d.toArray⟩,.bool p,.bool true]|none=> .tuple #[.string ⟨#[]⟩,.bool false,.bool false]
theorem aj3 (c:UInt8):iu c=true↔(48:Int)<=c.toNat/\(c.toNat:Int)<=57:=by
 unfold iu;rw[Bool.and_eq_true,Nat.ble_eq,Nat.ble_eq];omega
theorem aqi (c:UInt8):∃R:Int,(R<0↔zi.contains c=false)/\∀w,Calls Tryz.prog 125 #[.string {data:=#[32,45,46,40,41]},.int .u8 c.toNat] w λe w'=>e= .returned (.int .i64 R)/\w'=w:=by
 refine⟨Lib.indexByte zi c,?_,λw=>?_⟩
 ·rw[Lib.contains_iff_indexByte];simp
 ·have:=Tryz.strings_IndexByte ⟨#[32,45,46,40,41]⟩ (c.toNat:Int) w
  have e:(c.toNat:Int).toNat.toUInt8=c:=by simp
  rw[e]at this
  exact this
theorem ak1 (d:ay) (b:Nat) (w:World) (h:Lib.IsBuilder 112 5 b b (Lib.byteCells d) w):Calls Tryz.prog 159 #[.pointer (some ⟨b,0,none⟩)] w λe w'=>e= .returned (.int .i64 d.length)/\w'=w:=by
 have:=Tryz.Builder_Len b b _ w h
 rwa [Lib.byteCells_length]at this
set_option maxHeartbeats 4000000 in
set_option maxRecDepth 1000000 in
theorem Tryz.acF (s:ByteArray) (w:World) (hs:s.size<=140737488351232):
 Calls Tryz.prog 130 #[.string s] w λe w'=>e= .returned (zT s.data.toList)/\Below w.heap.size w w':=by
 go_enter Tryz.func130,Tryz.ntmps130
 go_wp2
 go_loopw [10,3] (λvi atq wr=>∃(i:Nat) (d:List UInt8) (p:Bool),vi= .int .i64 i/\atq= .bool p/\i<=s.size/\d.length<=i/\Hid (fs (s.data.toList.drop i) d p=fs s.data.toList [] false)/\Lib.IsBuilder 112 5 w.heap.size w.heap.size (Lib.byteCells d) wr/\Below w.heap.size w wr) (λvi _ _=>s.size-(RowKit.intOf vi).toNat)
 case atStart=>
  exact⟨0,[],false,rfl,rfl,Nat.zero_le _,Nat.le_refl _,rfl,Lib.fresh_isBuilder 112 5 w,(Below.refl _ w).alloc (Nat.le_refl _) _⟩
 case round=>
  obtain⟨i,d,p,rfl,rfl,hi,hd,hb,hI,kO⟩:=hrel
  have hsz:s.data.toList.length=s.size:=acV s
  by_cases hlt:i<s.size
  ·have N1:(i:Int)<(s.size:Int):=by omega
   have pz:¬((i:Int)<0):=by omega
   have hc:s.data.toList.getD i 0=s[i]:=by
    simp only[List.getD,List.getElem?_eq_getElem (show i<s.data.toList.length by omega),Option.getD_some]
    rfl
   have hst:=acE (s:=s.data.toList) (d:=d) (p:=p) (i:=i) (by omega)
   rw[hc]at hst
   have hD:=aj3 s[i]
   have fin:∀{d':ay} {p':Bool},fs (List.drop i s.data.toList) d p=fs (List.drop (i+1) s.data.toList) d' p'->Hid (fs (List.drop (i+1) s.data.toList) d' p'=fs s.data.toList [] false):=λh=>by
    have hb:fs (List.drop i s.data.toList) d p=fs s.data.toList [] false:=hb
    show _=_
    rw[<-hb,h]
   have bad:fs (List.drop i s.data.toList) d p=none->Value.tuple #[.string ⟨#[]⟩,.bool false,.bool false]=zT s.data.toList:=λh=>by
    have hb:fs (List.drop i s.data.toList) d p=fs s.data.toList [] false:=hb
    unfold zT
    rw[<-hb,h]
   obtain⟨R,hR,qe⟩:=aqi s[i]
   have Ay:=λW=>ak1 d w.heap.size W
   by_cases xM:(48:Int)<=s[i].toNat/\(s[i].toNat:Int)<=57
   ·have ah0:=hD.2 xM
    obtain⟨xM,Av⟩:=xM
    rw[ah0,cond_true]at hst
    clear hR qe Ay bad
    go_wp2_with (go_at_call 81;refine(Tryz.Builder_WriteByte w.heap.size w.heap.size _ _ _ hI (by rw[Lib.byteCells_length];omega) kO.size).mono ?_)
    rintro e W1 rfl h1 b1
    go_wp2
    go_roundw
    case rel=>
     refine⟨i+1,d++[s[i]],p,by simp,rfl,by omega,by simp;omega,fin hst,?_,kO.trans b1⟩
     rw[Lib.byteCells_append];exact Or.inr h1
    case measure=>simp[intOf];omega
   ·have Ws:iu s[i]=false:=by
     cases ae:iu s[i]with
     |false=>rfl
     |true=>exact absurd (hD.1 ae) xM
    rw[Ws,cond_false]at hst
    by_cases vI:s[i]=43
    ·have Mg:(s[i].toNat:Int)=43:=by rw[vI];rfl
     have XR:¬(48:Int)<=s[i].toNat:=by omega
     have n6:zi.contains s[i]=false:=by rw[vI];rfl
     have Vz:=hR.2 n6
     rw[n6,cond_false]at hst
     by_cases hgo:d.length=0/\p=false
     ·obtain⟨tO,rfl⟩:=hgo
      have ahW:d=[]:=List.length_eq_zero_iff.1 tO
      have Ow:fs (List.drop i s.data.toList) d false=fs (List.drop (i+1) s.data.toList) d true:=by
       rw[hst,vI,ahW];rfl
      have HV:(d.length:Int)=0:=by omega
      rw[HV]at Ay
      go_wp2_with (go_at_call 159;refine(Ay _ hI).mono ?_)
      go_roundw
      case rel=>
       exact⟨i+1,d,true,by simp,rfl,by omega,by omega,fin Ow,hI,kO⟩
      case measure=>simp[intOf];omega
     ·have hno:fs (List.drop i s.data.toList) d p=none:=by
       rw[hst]
       have:(d.isEmpty&& !p)=false:=by
        cases d with
        |nil=>
         cases p with
         |true=>rfl
         |false=>exact absurd ⟨rfl,rfl⟩ hgo
        |cons x r=>rfl
       rw[Bool.and_assoc,this,Bool.and_false];rfl
      have D1:=bad hno
      clear hR
      rw[Mg]at qe
      by_cases tO:d.length=0
      ·have hp:p=true:=by
        cases p with
        |true=>rfl
        |false=>exact absurd ⟨tO,rfl⟩ hgo
       subst hp
       have HV:(d.length:Int)=0:=by omega
       rw[HV]at Ay
       go_wp2_with (go_at_call 159;refine(Ay _ hI).mono ?_)
       go_wp2_with (go_at_call 125;refine(qe _).mono ?_)
       rintro e W1 ⟨rfl,rfl⟩
       go_wp2
       go_ret3
       refine⟨?_,kO⟩
       rw[<-D1]
       rfl
      ·have HV:¬(d.length:Int)=0:=by omega
       go_wp2_with (go_at_call 159;refine(Ay _ hI).mono ?_)
       go_wp2_with (go_at_call 125;refine(qe _).mono ?_)
       rintro e W1 ⟨rfl,rfl⟩
       go_wp2
       go_ret3
       refine⟨?_,kO⟩
       rw[<-D1]
       rfl
    ·have ax4:¬(s[i].toNat:Int)=43:=λe=>vI (by rw[<-UInt8.toNat_inj];show s[i].toNat=43;omega)
     have Mg:(s[i]==43)=false:=by simpa using vI
     rw[Mg,Bool.false_and,Bool.false_and,cond_false]at hst
     have Vi:¬(48:Int)<=s[i].toNat∨((48:Int)<=s[i].toNat/\¬(s[i].toNat:Int)<=57):=by omega
     cases hsp:zi.contains s[i]with
     |false=>
      have Vz:=hR.2 hsp
      rw[hsp,cond_false]at hst
      have D1:=bad hst
      clear hR
      rcases Vi with XR|⟨Rq,amm⟩
      ·go_wp2_with (go_at_call 125;refine(qe _).mono ?_)
       go_ret3
       refine⟨?_,kO⟩
       rw[<-D1]
       rfl
      ·go_wp2_with (go_at_call 125;refine(qe _).mono ?_)
       go_ret3
       refine⟨?_,kO⟩
       rw[<-D1]
       rfl
     |true=>
      have Vz:¬R<0:=λh=>by have:=hR.1 h;rw[hsp]at this;cases this
      rw[hsp,cond_true]at hst
      clear hR
      rcases Vi with XR|⟨Rq,amm⟩
      ·go_wp2_with (go_at_call 125;refine(qe _).mono ?_)
       go_roundw
       case rel=>exact⟨i+1,d,p,by simp,rfl,by omega,by omega,fin hst,hI,kO⟩
       case measure=>simp[intOf];omega
      ·go_wp2_with (go_at_call 125;refine(qe _).mono ?_)
       go_roundw
       case rel=>exact⟨i+1,d,p,by simp,rfl,by omega,by omega,fin hst,hI,kO⟩
       case measure=>simp[intOf];omega
  ·have fa:¬(i:Int)<(s.size:Int):=by omega
   go_wp2_with (go_at_call 82;refine(Tryz.Builder_String_any w.heap.size w.heap.size d _ hI kO.size).mono ?_)
   rintro e W1 rfl b1
   go_wp2
   go_ret3
   have hb:fs (List.drop i s.data.toList) d p=fs s.data.toList [] false:=hb
   rw[List.drop_of_length_le (by omega),fs]at hb
   refine⟨?_,kO.trans b1⟩
   unfold zT
   rw[<-hb]
   rfl
end Go.Proofs
namespace Go.cd
open Go Go.bg Go.Proofs Go.RowKit
theorem amz {wb:World}:bG wb IC:=by
 intro zs hz
 match zs,hz with
 |[z],hz=>
  have hl:(U z).length<=140737488351232:=tu hz.2.1
  have hw:=λw=>Tryz.acF (bd (U z)) w (by show(U z).toArray.size<=_;simpa using hl)
  have e1:(bd (U z)).data.toList=U z:=by simp[bd]
  cases kj:fs (U z) [] false with
  |none=>
   refine⟨[0,0,0],⟨Int.le_refl _,jw,by decide,by decide,by decide,by decide,trivial⟩,?_,λw _=> .inr ⟨enters (by kernel_rfl) _ _,?_⟩⟩
   ·show(match fs (U z) [] false with|some (d',p')=>U 0=d'/\(0:Int)=bh p'/\(0:Int)=1|none=>U 0=[]/\(0:Int)=0/\(0:Int)=0)
    rw[kj];exact⟨rfl,rfl,rfl⟩
   ·refine(hw w).mono ?_
    rintro e w' ⟨rfl,hb⟩
    refine⟨?_,Dy hb⟩
    rw[e1];unfold zT;rw[kj];rfl
  |some Dm=>
   obtain⟨c,t⟩:=Dm
   have h1:=Dh (C6 _ _ _ kj) (by simp;omega)
   refine⟨[dP c,bh t,1],⟨h1.1,h1.2,(p5 t).1,(p5 t).2,by decide,by decide,trivial⟩,?_,λw _=> .inr ⟨enters (by kernel_rfl) _ _,?_⟩⟩
   ·show(match fs (U z) [] false with|some (d',p')=>U (dP c)=d'/\bh t=bh p'/\(1:Int)=1|none=>U (dP c)=[]/\bh t=0/\(1:Int)=0)
    rw[kj];exact⟨fS _,rfl,rfl⟩
   ·refine(hw w).mono ?_
    rintro e w' ⟨rfl,hb⟩
    refine⟨?_,Dy hb⟩
    rw[e1];unfold zT;rw[kj]
    show _=Ending.returned (.tuple #[.string (bd (U (dP c))),.bool (decide (bh t=1)),.bool true])
    rw[fS,Lu];rfl
end Go.cd
namespace Go.Proofs
open Go.RowKit Go.bg
section
variable {P:Program}
end
theorem FJ (w:World) (g:Nat) (a:Array Value):kF w (w.setRow g a) (some g):=
 ⟨rfl,rfl,rfl,by simp[World.setRow],λk hk hne=>setRow_other w g k a (λe=>hne (by rw[e]))⟩
end Go.Proofs
namespace Go.Proofs
open Go.RowKit Go.bg
section
variable {P:Program}
theorem JA (w:World) (Ui aqb ty e:TypeId) (i:TypeInfo) (hu:P.underlying Ui=some (.slice e)) (hi:P.info? e=some i) (g o Hk adN:Nat) (a:Addr) (eh lK:Nat) (cur:Array Value) (t:TypeId) (cs:List Value)
 (hg:w.heap[g]?=some (.cells cur t (0,0))) (hn:cs.length=Nat.min eh Hk*i.size) (vX:∀j v,cs[j]?=some v->w.cell? (a.add j)=some v) (qf:o+cs.length<=cur.size) (h1:∀v∈cs,v.oneCell'=true):
 (Builtin.copy_ #[Ui,aqb] ty #[.slice (some ⟨g,o,none⟩) Hk adN,.slice (some a) eh lK]).run P w= .ok (goInt (Nat.min eh Hk)) (w.setRow g (cur.toList.take o++cs++cur.toList.drop (o+cs.length)).toArray):=by
 have hst:=run_storeCells_at P g o t cs 0 cur w hg (by simpa using qf) h1
 rw[Nat.add_zero]at hst
 have hf:=run_firstCells_some (P:=P) w i.size (Nat.min eh Hk) a eh lK cs hn vX
 simp[Builtin.copy_,run_underlying hu,Builtin.lenOf,sizeOf,typeInfo,hi,hf,hst]
theorem Zh {ops:Array Oper} {o:Oper} {a:Act} {w:World} {K:Act->World->Prop} {Q:Exit->Act->World->Prop} {E:Prop}
 (hg:o.guard=none) (s x:Operand) (t t':TypeId) (hop:o.op=Op.call {callee:=Callee.builtin Builtin.copy,args:=#[s,x],argTypes:=#[t,t']}) (u v:Value) (hs:a.eval s=u) (hx:a.eval x=v) {r:Value} {w':World}
 (hr:(Builtin.copy_ #[t,t'] o.type #[u,v]).run P w= .ok r w') (hK:K (a.put o.dst r) w'):if Region.wanted o (yielded ops a.tmps)=true then Oper.wp P o a w K Q else E:=by
 have hw:Region.wanted o (yielded ops a.tmps)=true:=by simp[Region.wanted,hg]
 rw[if_pos hw]
 unfold Oper.wp
 simp[execOp,hop,resolve,invoke,builtin,hs,hx,hr,Result.andThen]
 exact hK
theorem Q6 {w:World} {ops:Array Oper} {rest:List Oper} {o:Oper} {a:Act} {Q:Exit->Act->World->Prop} (hgd:o.guard=none) (s x:Operand) (t t':TypeId)
 (ho:o.op= .call {callee:= .builtin .append,args:=#[s,x],argTypes:=#[t,t']}) (u v:Value) (hs:a.eval s=u) (hx:a.eval x=v) {r:Value} {w':World}
 (hr:(Builtin.append_ #[t,t'] o.type #[u,v]).run P w= .ok r w') (h:wpList P ops Q rest (a.put o.dst r) w'):wpList P ops Q (o::rest) a w:=by
 refine wpList_plain hgd λK hK=>?_
 unfold Oper.wp
 simp[execOp,ho,resolve,invoke,builtin,hs,hx,hr,Result.andThen]
 exact hK _ _ h
end
set_option maxHeartbeats 4000000 in
set_option maxRecDepth 1000000 in
theorem Tryz.Xc (g n cap:Nat) (A:Addr) (vc:Nat) (r:Value) (w W1:World) (hn:n<=cap) (cE:cap<=9223372036854775807)
 (q8:∀ty,(Builtin.append_ #[22,22] ty #[.slice (some ⟨g,0,none⟩) n cap,.slice (some A) 1 vc]).run Tryz.prog w= .ok r W1):
 Calls Tryz.prog 25 #[.slice (some ⟨g,0,none⟩) n cap,.int .i64 n,.slice (some A) 1 vc] w λe w'=>e= .returned r/\w'=W1:=by
 obtain⟨B,hB⟩:∃B,(if cap=n then some (⟨g,0,none⟩:Addr)else some ⟨g,n*7,none⟩)=B:=⟨_,rfl⟩
 go_enter Tryz.func25,Tryz.ntmps25
 go_wp2_with (at_builtin;refine Q6 rfl (.tmp 23) (.tmp 24) 22 22 rfl _ _ rfl rfl (q8 _) ?_)
 go_wp2
 all_goals (go_ret;exact⟨rfl,rfl⟩)
set_option maxHeartbeats 4000000 in
set_option maxRecDepth 1000000 in
theorem Tryz.insert_nil (A:Addr) (vc:Nat) (r:Value) (w W1:World)
 (q8:∀ty,(Builtin.append_ #[22,22] ty #[.slice none 0 0,.slice (some A) 1 vc]).run Tryz.prog w= .ok r W1):
 Calls Tryz.prog 25 #[.slice none 0 0,.int .i64 0,.slice (some A) 1 vc] w λe w'=>e= .returned r/\w'=W1:=by
 go_enter Tryz.func25,Tryz.ntmps25
 go_wp2_with (at_builtin;refine Q6 rfl (.tmp 23) (.tmp 24) 22 22 rfl _ _ rfl rfl (q8 _) ?_)
 go_wp2
 all_goals (go_ret;exact⟨rfl,rfl⟩)
set_option maxHeartbeats 4000000 in
set_option maxRecDepth 1000000 in
theorem Tryz.ajY (g n cap i G C:Nat) (A:Addr) (vc:Nat) (r1 r2:Value) (w W1 W2 W3:World) (dH:i<n) (hn:n<=cap) (hroom:cap<n+1) (hC:n+1<=C) (er:n<=1073741824)
 (q8:∀ty,(Builtin.append_ #[22,3] ty #[.slice (some ⟨g,0,none⟩) i cap,.int .i64 ((n:Int)+1-(i:Int))]).run Tryz.prog w= .ok (.slice (some ⟨G,0,none⟩) (n+1) C) W1)
 (sz:∀ty,(Builtin.copy_ #[22,22] ty #[.slice (some ⟨G,i*7,none⟩) (n+1-i) (C-i),.slice (some A) 1 vc]).run Tryz.prog W1= .ok r1 W2)
 (xZ:∀ty,(Builtin.copy_ #[22,22] ty #[.slice (some ⟨G,(i+1)*7,none⟩) (n+1-(i+1)) (C-(i+1)),.slice (some ⟨g,i*7,none⟩) (n-i) (cap-i)]).run Tryz.prog W2.drew= .ok r2 W3):
 Calls Tryz.prog 25 #[.slice (some ⟨g,0,none⟩) n cap,.int .i64 i,.slice (some A) 1 vc] w λe w'=>e= .returned (.slice (some ⟨G,0,none⟩) (n+1) C)/\w'=W3:=by
 have f1:¬cap=i:=by omega
 have f2:¬C=i:=by omega
 have f3:¬C=i+1:=by omega
 have f4:i<=cap:=by omega
 have f5:¬((i:Int)=(n:Int)):=by omega
 have f6:(cap:Int)<(n:Int)+1:=by omega
 have f7:i<=C:=by omega
 have f8:i+1<=C:=by omega
 have f9:((i:Int)+1).toNat=i+1:=by omega
 have f10:(0:Int)<=(i:Int)+1:=by omega
 have f11:(i:Int)+1<=(n:Int)+1:=by omega
 have f12:i<=n:=by omega
 have f13:IntKind.i64.wrap ((i:Int)+1)=(i:Int)+1:=by rw[IntKind.wrap_i64];omega
 go_enter Tryz.func25,Tryz.ntmps25
 go_wp2_with (first
  |(at_builtin;refine Q6 rfl (.tmp 34) (.tmp 39) 22 3 rfl _ _ rfl rfl (q8 _) ?_)
  |(at_builtin;refine atw rfl (.tmp 43) (.tmp 44) 22 22 rfl _ _ rfl rfl (sz _) ?_))
 go_region_law (refine Zh rfl (.tmp 50) (.tmp 53) 22 22 rfl (.slice (some ⟨G,(i+1)*7,none⟩) (n+1-(i+1)) (C-(i+1))) (.slice (some ⟨g,i*7,none⟩) (n-i) (cap-i)) (by simp[Act.eval,Act.put]) (by simp[Act.eval,Act.put]) (xZ _) ?_)
 go_wp2
 go_ret
 exact⟨rfl,rfl⟩
set_option maxHeartbeats 4000000 in
set_option maxRecDepth 1000000 in
theorem Tryz.ajZ (g n cap i:Nat) (A:Addr) (vc:Nat) (r1 r2:Value) (w W1 W2:World) (dH:i<n) (hn:n+1<=cap) (er:n<=1073741824)
 (Wy:(callFunc 40 #[.slice (some A) 1 vc,.slice (some ⟨g,(i+1)*7,none⟩) (n-i) (cap-(i+1))]).run Tryz.prog w= .ok (.value (.bool false)) w)
 (sz:∀ty,(Builtin.copy_ #[22,22] ty #[.slice (some ⟨g,(i+1)*7,none⟩) (n+1-(i+1)) (cap-(i+1)),.slice (some ⟨g,i*7,none⟩) (n+1-i) (cap-i)]).run Tryz.prog w.drew= .ok r1 W1)
 (xZ:∀ty,(Builtin.copy_ #[22,22] ty #[.slice (some ⟨g,i*7,none⟩) (n+1-i) (cap-i),.slice (some A) 1 vc]).run Tryz.prog W1= .ok r2 W2):
 Calls Tryz.prog 25 #[.slice (some ⟨g,0,none⟩) n cap,.int .i64 i,.slice (some A) 1 vc] w λe w'=>e= .returned (.slice (some ⟨g,0,none⟩) (n+1) cap)/\w'=W2:=by
 have f1:¬cap=i:=by omega
 have f3:¬cap=i+1:=by omega
 have f4:i<=cap:=by omega
 have f5:¬((i:Int)=(n:Int)):=by omega
 have f6:¬(cap:Int)<(n:Int)+1:=by omega
 have f8:i+1<=cap:=by omega
 have f9:((i:Int)+1).toNat=i+1:=by omega
 have f10:(0:Int)<=(i:Int)+1:=by omega
 have f11:(i:Int)+1<=(n:Int)+1:=by omega
 have f12:i<=n:=by omega
 have f13:IntKind.i64.wrap ((i:Int)+1)=(i:Int)+1:=by rw[IntKind.wrap_i64];omega
 have f14:((n:Int)+1).toNat=n+1:=by omega
 have f15:(n:Int)+1<=(cap:Int):=by omega
 have f16:i<=n+1:=by omega
 have f17:(i:Int)<=(n:Int)+1:=by omega
 go_enter Tryz.func25,Tryz.ntmps25
 go_wp2
 go_region_law (refine Zh rfl (.tmp 73) (.tmp 76) 22 22 rfl (.slice (some ⟨g,(i+1)*7,none⟩) (n+1-(i+1)) (cap-(i+1))) (.slice (some ⟨g,i*7,none⟩) (n+1-i) (cap-i)) (by simp[Act.eval,Act.put]) (by simp[Act.eval,Act.put]) (sz _) ?_)
 go_wp2_with (at_builtin;refine atw rfl (.tmp 80) (.tmp 81) 22 22 rfl _ _ rfl rfl (xZ _) ?_)
 go_wp2
 go_ret
 exact⟨rfl,rfl⟩
end Go.Proofs
namespace Go.cd
open Go Go.bg Go.Proofs Go.RowKit
theorem Qv (w:World) (o:Obj) (own:Option Nat):kF w (w.drew.alloc o) own:=
 have h:=(World.Extends.refl w.drew).alloc o
 ⟨h.os,h.tape,h.output,h.size,λk hk _=>h.block k hk⟩
theorem kF.QL {w w1 w2:World} {own:Option Nat} {g:Nat} (h:kF w w1 own) (h2:kF w1 w2 (some g)) (hg:own=some g∨w.heap.size<=g):kF w w2 own:=by
 obtain⟨a1,a2,a3,a4,a5⟩:=h
 obtain⟨b1,b2,b3,b4,mC⟩:=h2
 refine⟨b1.trans a1,b2.trans a2,b3.trans a3,Nat.le_trans a4 b4,λk hk hne=>?_⟩
 rw[mC k (Nat.lt_of_lt_of_le hk a4) (λe=>?_),a5 k hk hne]
 cases e
 rcases hg with hg|hg
 ·exact hne hg
 ·omega
theorem kF.adU {w w1:World} {own:Option Nat} (h:kF w w1 own):kF w w1.drew own:=h
theorem ap5 {P:Program} (w:World) (FM aqT e:TypeId) (ht:P.underlying FM=some (.slice e)) (size:Nat) (hz:∀w,(Go.sizeOf e).run P w= .ok size w)
 (a b:Addr) (la ca lb cb:Nat) (hne:a.block≠b.block) (Dg T1:Array Value) (JP Zn:TypeId) (aem:Nat×Nat)
 (hA:w.heap[a.block]?=some (.cells Dg JP aem)) (hB:w.heap[b.block]?=some (.cells T1 Zn (0,0))) (h0:Dg.size≠0):
 (Extern.SlicesOverlaps.overlaps #[FM,FM] #[aqT] #[.slice (some a) la ca,.slice (some b) lb cb]).run P w= .ok (.bool false) w:=by
 have N5:(a.block != b.block)=true:=by simpa using hne
 have aiP:(a.block==b.block)=false:=by simpa using hne
 have WH:w.shape? a.block=some (JP,Dg.size):=by unfold World.shape?;rw[hA]
 have ajh:w.shape? b.block=some (Zn,T1.size):=by unfold World.shape?;rw[hB]
 have ah8:∀o,w.frozen? ⟨b.block,o,none⟩=false:=λo=>by unfold World.frozen?;simp only[hB];simp
 have ah9:w.frozen? b=false:=by unfold World.frozen?;simp only[hB];simp
 change Sem.run P (α:=Value) (do
  let some t:=(#[FM,FM]:Array TypeId)[0]?|stuck "slices.overlaps: no parameter types"
  let .slice elem<-underlying t|stuck "slices.overlaps: slice type expected"
  let size<-Go.sizeOf elem
  match(some a:Option Addr),(some b:Option Addr)with
  |some a,some b=>
   if la=0∨lb=0∨size=0 then pure (Value.bool false)
   else if a.block != b.block&&(<-frozen a)&&(<-frozen b)then unsupported .addressObserved
   else do
    if a.block != b.block then do
     noView a;noView b
     if<-mayBeOne a b then return Value.bool ((<-choose (.extern "sameAddr.stringBytes" 2))==1)
    pure (Value.bool (a.block==b.block&&a.off<b.off+lb*size&&b.off<a.off+la*size))
  |_,_=>pure (Value.bool false)) w=_
 by_cases hl:la=0∨lb=0∨size=0
 ·simp[run_underlying ht,hz,hl]
 ·obtain⟨akj,aiw⟩:∃k,Dg.size=k+1:=⟨Dg.size-1,by omega⟩
  rw[aiw]at WH
  cases h1:w.frozen? a<;>cases h2:w.frozen? ⟨a.block,akj+1,none⟩<;>simp[run_underlying ht,hz,hl,N5,aiP,frozen,noView,viewAt,mayBeOne,stringish,shape,Sem.run,WH,ajh,ah8,ah9,h1,h2]
theorem apN {α:Type} {cells r7 L2 N rest:List α} {x y z:Nat} (h:cells=r7++L2++rest) (h1:r7.length=x) (hy:z<=cells.length) (hN:N=N) (hz:z=x+y):
 (cells.take z++L2++cells.drop (z+L2.length)).toArray.toList.take x++N++(cells.take z++L2++cells.drop (z+L2.length)).toArray.toList.drop (x+y)=r7++N++L2++cells.drop (z+L2.length):=by
 simp only
 have e1:(cells.take z++L2++cells.drop (z+L2.length)).take x=r7:=by
  rw[List.append_assoc,List.take_append_of_le_length (by rw[List.length_take];omega),List.take_take,Nat.min_eq_left (by omega),h,List.append_assoc,List.take_append_of_le_length (by omega),List.take_of_length_le (by omega)]
 have e2:(cells.take z++L2++cells.drop (z+L2.length)).drop (x+y)=L2++cells.drop (z+L2.length):=by
  rw[List.append_assoc,<-hz]
  have:(cells.take z).length=z:=by rw[List.length_take];omega
  conv=>lhs;arg 1;rw[<-this]
  rw[List.drop_left]
 rw[e1,e2]
 simp
theorem afu {α:Type} {r7 L2 N D:List α} {x y:Nat} (h1:r7.length=x) (hN:N.length=y):
 (r7++N++D).toArray.toList.take (x+y)++L2++(r7++N++D).toArray.toList.drop (x+y+L2.length)=r7++N++L2++(r7++N++D).toArray.toList.drop (x+y+L2.length):=by
 congr 2
 simp only
 rw[List.take_append_of_le_length (by rw[List.length_append];omega),List.take_of_length_le (by rw[List.length_append];omega)]
theorem ane {wb:World}:ew.eB Tryz.prog wb (cl sh SB ew.id):=by
 refine⟨λargs w=>enters (by kernel_rfl) _ _,λF w v0 code vs zs hw ho hc hz gJ hat hF=>?_⟩
 match zs,hz,vs,hat with
 |[i,r],hz,[vi,atr],hat=>
  obtain⟨ym,yn,_⟩:=hat
  have ym:vi= .int .i64 i:=ym
  have ajD:qV F w ew.sh (ab r) atr:=yn
  clear yn
  have gJ:(0<=i/\i<=((ab code).length:Int))/\(ab r).length=1/\(ab code).length+1<=1073741824:=gJ
  obtain⟨⟨p0,p1⟩,bq,cv⟩:=gJ
  obtain⟨a,ha⟩:∃a:Nat,i=a:=⟨i.toNat,by omega⟩
  subst ha
  have p1:a<=(ab code).length:=by omega
  rcases ajD with⟨_,h0⟩|⟨iq,mR,vc,T9,JP,aeC,yn,⟨axC,axD⟩,agA,Nz,On⟩
  ·rw[h0]at bq;simp at bq
  rw[bq]at yn
  obtain⟨i0,rk,rm,z,NQ,OK,NI⟩:∃i0,Tryz.prog.info? 32=some i0/\i0.size=7/\∃z,i0.zero=some z/\z.cells.size=7/\i0.bytes<=131072:=⟨_,rfl,by kernel_rfl,_,rfl,by kernel_rfl,by decide+kernel⟩
  have EG:ew.sh.length=7:=rfl
  have hnone:∀row∈ab r,bS ew.sh row:=On.1
  have jS:(aU ew.sh (ab r)).length=7:=by rw[jz hnone,bq,EG,Nat.one_mul]
  have l5:∀(rows:List (List Int)),∀u∈aU ew.sh rows,u.oneCell'=true:=λ_=>Hy
  have aiI:iq<w.heap.size:=(Array.getElem?_eq_some_iff.1 Nz).1
  have agt:T9.size≠0:=by
   obtain⟨_,pre,post,h2,_⟩:=On
   have:=congrArg List.length h2
   simp only[List.length_append,jS,Array.length_toList]at this
   omega
  have vX:∀w1:World,w1.heap[iq]?=w.heap[iq]?->∀j u,(aU ew.sh (ab r))[j]?=some u->w1.cell? ((⟨iq,mR,none⟩:Addr).add j)=some u:=λw1 h1 j u hu=>by
   rw[Addr.add_lit]
   have:=On.flat hu
   simp only[World.cell?,h1,Nz,Option.isSome_none,Bool.false_eq_true,if_false]
   exact this
  have Ov:∀w1:World,w1.heap[iq]?=w.heap[iq]?->Src Tryz.prog i0.size 22 (.slice (some ⟨iq,mR,none⟩) 1 vc) 1 (aU ew.sh (ab r)) w1:=λw1 h1=>
   Src.ofSlice w1 Tryz.underlying22 ⟨iq,mR,none⟩ 1 vc _ (by rw[jS,rm]) (vX w1 h1) (l5 _)
  have fin:∀(w':World) (G C:Nat) (cells:Array Value) (post:List Value),kF w w' (kX v0)->(∀row∈ab code,bS ew.sh row)->w'.heap[G]?=some (.cells cells 32 (0,0))->cells.toList=aU ew.sh ((ab code).take a)++aU ew.sh (ab r)++aU ew.sh ((ab code).drop a)++post->cells.size=C*7->
   (ab code).length+1<=C->(C:Int)<=9223372036854775807->(kX v0=some G∨w.heap.size<=G)->
   kF w w' (kX v0)/\∃code' v',(0<=code'/\code'<=bZ)/\cl sh SB ew.id (code::[(a:Int),r]) [code']/\p3 (λg=>kX v0=some g∨w.heap.size<=g) w' ew.sh ew.e (ab code') v'/\Ending.returned (.slice (some ⟨G,0,none⟩) ((ab code).length+1) C)= .returned v':=by
   intro w' G C cells post l3 aZ hG pt hsz Vs agx hown
   have hall:∀row∈(ab code).take a++ab r++(ab code).drop a,bS ew.sh row:=λrow hr=>by
    rcases List.mem_append.1 hr with hr|hr
    ·rcases List.mem_append.1 hr with hr|hr
     ·exact aZ row (List.mem_of_mem_take hr)
     ·exact hnone row hr
    ·exact aZ row (List.mem_of_mem_drop hr)
   have NZ:((ab code).take a++ab r++(ab code).drop a).length=(ab code).length+1:=by
    rw[List.length_append,List.length_append,List.length_take,List.length_drop,bq,Nat.min_eq_left p1];omega
   refine⟨l3,rc ((ab code).take a++ab r++(ab code).drop a),_,⟨fE _,vl (by kernel_rfl) (by rw[NZ];omega) hall⟩,?_,Or.inr ⟨G,C,cells,?_,⟨?_,agx⟩,hown,hG,⟨?_,[],post,?_,rfl⟩,hsz⟩,rfl⟩
   ·show ab (rc _)=(ab code).take ((a:Int)).toNat++ab r++(ab code).drop ((a:Int)).toNat
    rw[dW];rfl
   ·rw[dW,NZ]
   ·rw[dW,NZ];exact Vs
   ·rw[dW];exact hall
   ·rw[dW,pt,List.nil_append,oN,oN]
  rw[ym,yn]
  rcases ho with⟨hv0,h0⟩|⟨g,cap,cells,hv0,⟨V1,Nq⟩,axX,hg,mN,hsz⟩
  ·
   have ha0:a=0:=by rw[h0]at p1;simpa using p1
   subst ha0
   have hC:=DI w (0+1) 0 32 (by omega)
   have q8:∀ty,(Builtin.append_ #[22,22] ty #[.slice none 0 0,.slice (some ⟨iq,mR,none⟩) 1 vc]).run Tryz.prog w=_:=λty=>
    run_append_grow_src w 22 22 ty 32 i0 z Tryz.underlying22 rk NQ none 0 0 [] (Mt _ _ _ _) _ 1 _ (Ov w rfl) (by omega) (by omega) (growslice_fits (by omega) (by omega))
   rw[hv0]
   refine(Tryz.insert_nil ⟨iq,mR,none⟩ vc _ w _ q8).mono ?_
   rintro e w' ⟨rfl,rfl⟩
   have Vs:=hC.1
   have:=fin _ w.heap.size (grownCap w (0+1) 0 32) (([]++aU ew.sh (ab r)).toArray++Builtin.zeroCells z.cells (grownCap w (0+1) 0 32-(0+1))) (Builtin.zeroCells z.cells (grownCap w (0+1) 0 32-(0+1))).toList (Qv w _ _) (by rw[h0];intro _ h;cases h) (heap_alloc_new w.drew _) (by rw[h0];simp[aU]) (by
    simp only[Array.size_append,List.size_toArray,List.nil_append,jS,FW,OK];omega) (by rw[h0];exact hC.1) (by omega) (.inr (Nat.le_refl _))
   rw[h0]at this
   rw[<-hv0];exact this
  ·rw[EG]at hsz
   obtain⟨aZ,pre,rest,pt,Oh⟩:=mN
   have Oh:pre=[]:=List.eq_nil_of_length_eq_zero Oh
   subst Oh
   rw[List.nil_append]at pt
   obtain⟨n,hn⟩:∃n,(ab code).length=n:=⟨_,rfl⟩
   rw[hn]at p1 cv V1 hv0 fin
   have sG:aU ew.sh (ab code)=aU ew.sh ((ab code).take a)++aU ew.sh ((ab code).drop a):=by rw[<-oN,List.take_append_drop]
   have py:(aU ew.sh ((ab code).take a)).length=a*7:=by rw[jz λr h=>aZ r (List.mem_of_mem_take h),List.length_take,Nat.min_eq_left (by omega),EG]
   have hl2:(aU ew.sh ((ab code).drop a)).length=(n-a)*7:=by rw[jz λr h=>aZ r (List.mem_of_mem_drop h),List.length_drop,hn,EG]
   have hl0:(aU ew.sh (ab code)).length=n*7:=by rw[jz aZ,hn,EG]
   have hh:cells.toList.length=cap*7:=by rw[Array.length_toList];exact hsz
   have hne:iq≠g∨cap=0:=by
    rcases Nat.eq_zero_or_pos cap with h|h
    ·exact .inr h
    ·refine .inl λe=>?_
     obtain⟨c',rfl⟩:∃c',cap=c'+1:=⟨cap-1,by omega⟩
     refine hF iq agA ?_
     rw[hv0,e];rfl
   have hown:cap≠0->kX v0=some g:=λh=>by
    obtain⟨c',rfl⟩:∃c',cap=c'+1:=⟨cap-1,by omega⟩
    rw[hv0];rfl
   have hlt:g<w.heap.size:=(Array.getElem?_eq_some_iff.1 hg).1
   have hcell:∀(w1:World) (o:Nat) (l:List Value) (pre post:List Value),w1.heap[g]?=w.heap[g]?->cells.toList=pre++l++post->pre.length=o->∀j u,l[j]?=some u->w1.cell? ((⟨g,o,none⟩:Addr).add j)=some u:=λw1 o l pre post h1 h2 h3 j u hu=>by
    rw[Addr.add_lit]
    simp only[World.cell?,h1,hg,Option.isSome_none,Bool.false_eq_true,if_false]
    have hlt:=(List.getElem?_eq_some_iff.1 hu).1
    rw[<-Array.getElem?_toList,h2,List.append_assoc,List.getElem?_append_right (by omega),List.getElem?_append_left (by omega),<-h3]
    rw[show pre.length+j-pre.length=j by omega];exact hu
   by_cases HP:a=n
   ·
    subst HP
    have tO:(ab code).drop a=[]:=List.drop_of_length_le (by omega)
    have AT:(ab code).take a=ab code:=List.take_of_length_le (by omega)
    by_cases hroom:a+1<=cap
    ·have q8:∀ty,(Builtin.append_ #[22,22] ty #[.slice (some ⟨g,0,none⟩) a cap,.slice (some ⟨iq,mR,none⟩) 1 vc]).run Tryz.prog w=_:=λty=>
      YV (P:=Tryz.prog) w 22 22 ty 32 i0 Tryz.underlying22 rk g a cap cells 32 hg _ 1 _ (Ov w rfl) hroom (by rw[rm,jS,hsz];omega)
     rw[hv0]
     refine(Tryz.Xc g a cap ⟨iq,mR,none⟩ vc _ w _ (by omega) (by omega) q8).mono ?_
     rintro e w' ⟨rfl,rfl⟩
     rw[<-hv0]
     refine fin _ g cap _ (cells.toList.drop (a*7+7)) (by rw[hown (by omega)];exact FJ w g _) aZ (setRow_heap w g _ _ _ _ hg) ?_ ?_ hroom Nq (.inl (hown (by omega)))
     ·rw[tO,AT,rm,jS]
      simp only[pt]
      rw[List.take_append_of_le_length (by omega),List.take_of_length_le (by omega)]
      simp[aU]
     ·simp only[List.size_toArray,List.length_append,List.length_take,List.length_drop,hh,jS,rm]
      omega
    ·have hC:=DI w (a+1) cap 32 (by omega)
     have q8:∀ty,(Builtin.append_ #[22,22] ty #[.slice (some ⟨g,0,none⟩) a cap,.slice (some ⟨iq,mR,none⟩) 1 vc]).run Tryz.prog w=_:=λty=>
      run_append_grow_src w 22 22 ty 32 i0 z Tryz.underlying22 rk NQ (some ⟨g,0,none⟩) a cap (aU ew.sh (ab code)) (run_firstCells_some w.drew i0.size a ⟨g,0,none⟩ a cap _ (by rw[hl0,rm]) (hcell w.drew 0 _ [] rest rfl (by rw[pt];rfl) rfl)) _ 1 _ (Ov w rfl) (by omega) (by omega) (growslice_fits (by omega) (by
       have:=Nat.mul_le_mul (show a+1<=1073741824 by omega) NI
       omega))
     rw[hv0]
     refine(Tryz.Xc g a cap ⟨iq,mR,none⟩ vc _ w _ (by omega) (by omega) q8).mono ?_
     rintro e w' ⟨rfl,rfl⟩
     rw[<-hv0]
     refine fin _ w.heap.size (grownCap w (a+1) cap 32) _ (Builtin.zeroCells z.cells (grownCap w (a+1) cap 32-(a+1))).toList (Qv w _ _) aZ (heap_alloc_new w.drew _) ?_ ?_ hC.1 (by omega) (.inr (Nat.le_refl _))
     ·rw[tO,AT];simp[aU]
     ·simp only[Array.size_append,List.size_toArray,List.length_append,hl0,jS,FW,OK]
      have:=hC.1
      omega
   ·have HP:a<n:=by omega
    have Np:cap≠0:=by omega
    have hne:iq≠g:=hne.resolve_right Np
    have hown:=hown Np
    by_cases hroom:n+1<=cap
    ·
     have axO:rest.length=(cap-n)*7:=by
      have:=congrArg List.length pt
      simp only[List.length_append,hl0,hh]at this
      rw[Nat.sub_mul];omega
     have hcs:cells.toList=aU ew.sh ((ab code).take a)++aU ew.sh ((ab code).drop a)++rest:=by rw[pt,sG]
     have sz:∀ty,(Builtin.copy_ #[22,22] ty #[.slice (some ⟨g,(a+1)*7,none⟩) (n+1-(a+1)) (cap-(a+1)),.slice (some ⟨g,a*7,none⟩) (n+1-a) (cap-a)]).run Tryz.prog w.drew=_:=λty=>
      JA w.drew 22 22 ty 32 i0 Tryz.underlying22 rk g ((a+1)*7) (n+1-(a+1)) (cap-(a+1)) ⟨g,a*7,none⟩ (n+1-a) (cap-a) cells 32 (aU ew.sh ((ab code).drop a)) hg
       (by rw[hl2,rm,show Nat.min (n+1-a) (n+1-(a+1))=n-a by show min _ _=_;omega]) (hcell w.drew (a*7) _ (aU ew.sh ((ab code).take a)) rest rfl hcs py) (by rw[hl2,hsz];omega) (l5 _)
     obtain⟨c1,hc1⟩:∃c1,c1=(cells.toList.take ((a+1)*7)++aU ew.sh ((ab code).drop a)++cells.toList.drop ((a+1)*7+(aU ew.sh ((ab code).drop a)).length)).toArray:=⟨_,rfl⟩
     rw[<-hc1]at sz
     have hg1:(w.drew.setRow g c1).heap[g]?=some (.cells c1 32 (0,0)):=setRow_heap w.drew g _ _ _ _ hg
     have D4:c1.size=cap*7:=by
      rw[hc1];simp only[List.size_toArray,List.length_append,List.length_take,List.length_drop,hh,hl2];omega
     have xZ:∀ty,(Builtin.copy_ #[22,22] ty #[.slice (some ⟨g,a*7,none⟩) (n+1-a) (cap-a),.slice (some ⟨iq,mR,none⟩) 1 vc]).run Tryz.prog (w.drew.setRow g c1)=_:=λty=>
      JA (w.drew.setRow g c1) 22 22 ty 32 i0 Tryz.underlying22 rk g (a*7) (n+1-a) (cap-a) ⟨iq,mR,none⟩ 1 vc c1 32 (aU ew.sh (ab r)) hg1
       (by rw[jS,rm,show Nat.min 1 (n+1-a)=1 by show min _ _=_;omega]) (vX _ (setRow_other w.drew g iq c1 hne)) (by rw[jS,D4];omega) (l5 _)
     have Wy:(callFunc 40 #[.slice (some ⟨iq,mR,none⟩) 1 vc,.slice (some ⟨g,(a+1)*7,none⟩) (n-a) (cap-(a+1))]).run Tryz.prog w= .ok (.value (.bool false)) w:=by
      rw[run_callFunc_extern Tryz.func40 (by kernel_rfl) (by kernel_rfl) (by kernel_rfl) (e:=Extern.SlicesOverlaps.overlaps #[22,22] #[4]) (by kernel_rfl)]
      rw[ap5 w 22 4 32 Tryz.underlying22 i0.size (λw=>by simp[Go.sizeOf,typeInfo,rk]) ⟨iq,mR,none⟩ ⟨g,(a+1)*7,none⟩ 1 vc (n-a) (cap-(a+1)) hne T9 cells JP 32 aeC Nz hg agt]
      rfl
     rw[hv0]
     refine(Tryz.ajZ g n cap a ⟨iq,mR,none⟩ vc _ _ w _ _ HP hroom (by omega) Wy sz xZ).mono ?_
     rintro e w' ⟨rfl,rfl⟩
     rw[<-hv0]
     refine fin _ g cap _ (cells.toList.drop ((a+1)*7+(aU ew.sh ((ab code).drop a)).length)) (by rw[hown];exact kF.QL (w:=w) (w1:=w.drew.setRow g c1) (FJ w.drew g c1) (FJ _ g _) (.inl rfl)) aZ (setRow_heap _ g _ _ _ _ hg1) ?_ ?_ hroom Nq (.inl hown)
     ·simp only[jS]
      rw[hc1]
      exact apN hcs py (by simp only[hh];omega) rfl (by rw[Nat.succ_mul])
     ·simp only[List.size_toArray,List.length_append,List.length_take,List.length_drop,Array.length_toList,D4,jS]
      have:(a+1)*7<=cap*7:=Nat.mul_le_mul_right _ (by omega)
      omega
    ·
     have hka:a+(n+1-a)=n+1:=by omega
     have aiy:((n:Int)+1-(a:Int))=((n+1-a:Nat):Int):=by omega
     have hC:=DI w (n+1) cap 32 (by omega)
     have HQ:=λty=>Lib.run_append_grow_zeros (P:=Tryz.prog) w 22 3 ty 32 i0 z .i64 .i64 Tryz.underlying22 Tryz.underlying3 rk NQ (some ⟨g,0,none⟩) a cap (aU ew.sh ((ab code).take a))
      (run_firstCells_some w.drew i0.size a ⟨g,0,none⟩ a cap _ (by rw[py,rm]) (hcell w.drew 0 _ [] (aU ew.sh ((ab code).drop a)++rest) rfl (by rw[pt,sG,List.nil_append,List.append_assoc]) rfl)) (n+1-a) (by omega) (by rw[rm];decide) (by omega) (by omega)
      (by
        have:=Nat.mul_le_mul (show n+1-a<=1073741824 by omega) NI
        omega)
      (growslice_fits (by omega) (by
        have:=Nat.mul_le_mul (show a+(n+1-a)<=1073741824 by omega) NI
        omega))
     rw[hka]at HQ
     obtain⟨C,agy⟩:∃C,C=grownCap w (n+1) cap 32:=⟨_,rfl⟩
     rw[<-agy]at HQ hC
     obtain⟨bT,hc0⟩:∃bT:Array Value,bT=(aU ew.sh ((ab code).take a)).toArray++Builtin.zeroCells z.cells (n+1-a)++Builtin.zeroCells z.cells (C-(n+1)):=⟨_,rfl⟩
     rw[<-hc0,<-aiy]at HQ
     have VZ:bT.size=C*7:=by
      rw[hc0];simp only[Array.size_append,List.size_toArray,py,FW,OK];omega
     have ahM:bT.toList.take (a*7)=aU ew.sh ((ab code).take a):=by
      rw[hc0,Array.toList_append,Array.toList_append,List.append_assoc,List.take_append_of_le_length (by simp only[py];omega),List.take_of_length_le (by simp only[py];omega)]
     have Vt:(w.drew.alloc (.cells bT 32)).heap[w.heap.size]?=some (.cells bT 32 (0,0)):=heap_alloc_new w.drew _
     have hold:∀k:Nat,k<w.heap.size->(w.drew.alloc (.cells bT 32)).heap[k]?=w.heap[k]?:=λk hk=>((World.Extends.refl w.drew).alloc _).block k hk
     have sz:∀ty,(Builtin.copy_ #[22,22] ty #[.slice (some ⟨w.heap.size,a*7,none⟩) (n+1-a) (C-a),.slice (some ⟨iq,mR,none⟩) 1 vc]).run Tryz.prog (w.drew.alloc (.cells bT 32))=_:=λty=>
      JA _ 22 22 ty 32 i0 Tryz.underlying22 rk w.heap.size (a*7) (n+1-a) (C-a) ⟨iq,mR,none⟩ 1 vc bT 32 (aU ew.sh (ab r)) Vt
       (by rw[jS,rm,show Nat.min 1 (n+1-a)=1 by show min _ _=_;omega]) (vX _ (hold iq aiI)) (by rw[jS,VZ];omega) (l5 _)
     obtain⟨c1,hc1⟩:∃c1,c1=(bT.toList.take (a*7)++aU ew.sh (ab r)++bT.toList.drop (a*7+(aU ew.sh (ab r)).length)).toArray:=⟨_,rfl⟩
     rw[<-hc1]at sz
     have D4:c1.size=C*7:=by
      rw[hc1];simp only[List.size_toArray,List.length_append,List.length_take,List.length_drop,Array.length_toList,VZ,jS];omega
     obtain⟨W2,hW2⟩:∃W2,W2=(w.drew.alloc (.cells bT 32)).setRow w.heap.size c1:=⟨_,rfl⟩
     have Vu:W2.heap[w.heap.size]?=some (.cells c1 32 (0,0)):=by rw[hW2];exact setRow_heap _ _ _ _ _ _ Vt
     have aiZ:W2.drew.heap[g]?=w.heap[g]?:=by
      rw[hW2]
      show((w.drew.alloc (.cells bT 32)).setRow w.heap.size c1).heap[g]?=_
      rw[setRow_other _ _ _ _ (by omega),hold g hlt]
     have xZ:∀ty,(Builtin.copy_ #[22,22] ty #[.slice (some ⟨w.heap.size,(a+1)*7,none⟩) (n+1-(a+1)) (C-(a+1)),.slice (some ⟨g,a*7,none⟩) (n-a) (cap-a)]).run Tryz.prog W2.drew=_:=λty=>
      JA W2.drew 22 22 ty 32 i0 Tryz.underlying22 rk w.heap.size ((a+1)*7) (n+1-(a+1)) (C-(a+1)) ⟨g,a*7,none⟩ (n-a) (cap-a) c1 32 (aU ew.sh ((ab code).drop a)) Vu
       (by rw[hl2,rm,show Nat.min (n-a) (n+1-(a+1))=n-a by show min _ _=_;omega]) (hcell W2.drew (a*7) _ (aU ew.sh ((ab code).take a)) rest aiZ (by rw[pt,sG]) py) (by rw[hl2,D4];omega) (l5 _)
     rw[<-hW2]at sz
     rw[hv0]
     refine(Tryz.ajY g n cap a w.heap.size C ⟨iq,mR,none⟩ vc _ _ w _ W2 _ HP V1 (by omega) hC.1 (by omega) HQ sz xZ).mono ?_
     rintro e w' ⟨rfl,rfl⟩
     rw[<-hv0]
     refine fin _ w.heap.size C _ (c1.toList.drop ((a+1)*7+(aU ew.sh ((ab code).drop a)).length)) ?_ aZ (setRow_heap _ _ _ _ _ _ Vu) ?_ ?_ hC.1 (by omega) (.inr (Nat.le_refl _))
     ·rw[hW2]
      have s1:=kF.QL (Qv w (.cells bT 32) (kX v0)) (FJ _ w.heap.size c1) (.inr (Nat.le_refl _))
      exact kF.QL (kF.adU s1) (FJ _ w.heap.size _) (.inr (Nat.le_refl _))
     ·simp only
      rw[hc1,jS]
      simp only
      rw[ahM,Nat.succ_mul]
      exact afu py jS
     ·simp only[List.size_toArray,List.length_append,List.length_take,List.length_drop,Array.length_toList,D4,hl2]
      have:(a+1)*7+(n-a)*7<=C*7:=by rw[<-Nat.add_mul];exact Nat.mul_le_mul_right _ (by omega)
      omega
end Go.cd
namespace Go.Proofs
open Go.RowKit Go.cd
theorem aj1 {T e:TypeId} {B b:Nat} {bs:List Value} {w w':World} (h:Lib.IsBuilder T e B b bs w) (hk:∀k,k<w.heap.size->w'.heap[k]?=w.heap[k]?):Lib.IsBuilder T e B b bs w':=by
 have lt:∀{k:Nat} {x:Obj},w.heap[k]?=some x->k<w.heap.size:=λ{k x} hx=>by
  rcases Nat.lt_or_ge k w.heap.size with h'|h'
  ·exact h'
  ·rw[Array.getElem?_eq_none h']at hx;cases hx
 have one:∀{q:Value},Lib.BuilderAt T e B b q bs w->Lib.BuilderAt T e B b q bs w':=λ{q} h=>by
  obtain⟨hB,v,hb,⟨n7,lv⟩,hne⟩:=h
  refine⟨hB,v,by rw[hk b (lt hb)];exact hb,⟨n7,?_⟩,hne⟩
  rcases lv with h|⟨g,cap,cur,h1,h2,h3,h4⟩
  ·exact .inl h
  ·exact .inr ⟨g,cap,cur,h1,h2,by rw[hk g (lt h3)];exact h3,h4⟩
 exact h.elim (λx=> .inl (one x)) λx=> .inr (one x)
theorem splice3 (l:ay) (i n:Nat) (hn:n<=3) (pz:n=3∨n=l.length-i):splice [Value.int .u8 0,Value.int .u8 0,Value.int .u8 0] 0 ((List.range n).map λj=>Value.int .u8 (l.getD (i+j) 0).toNat)=[Value.int .u8 (l.getD i 0).toNat,Value.int .u8 (l.getD (i+1) 0).toNat,Value.int .u8 (l.getD (i+2) 0).toNat]:=by
 have z:∀j,l.length-i<=j->((l.getD (i+j) 0).toNat:Int)=0:=λj hj=>by
  rw[show l.getD (i+j) 0=0 by simp only[List.getD];rw[List.getElem?_eq_none (by omega)];rfl];rfl
 match n,hn with
 |0,_=>rcases pz with h|h<;>first|omega|(have z0:=z 0 (by omega);have ah:=z 1 (by omega);have z2:=z 2 (by omega);rw[Nat.add_zero]at z0;rw[z0,ah,z2];rfl)
 |1,_=>rcases pz with h|h<;>first|omega|(have ah:=z 1 (by omega);have z2:=z 2 (by omega);rw[ah,z2];rfl)
 |2,_=>rcases pz with h|h<;>first|omega|(have z2:=z 2 (by omega);rw[z2];rfl)
 |3,_=>rfl
open Go.bg in
theorem acP {x0 x1 x2:Int} (a0:0<=x0) (a1:x0<=255) (b0:0<=x1) (b1:x1<=255) (bT:0<=x2) (c1:x2<=255):bits BinOp.or IntKind.i64 (bits BinOp.or IntKind.i64 (wrap64 (wrap64 x0*65536)) (wrap64 (wrap64 x1*256))) (wrap64 x2)=65536*x0+256*x1+x2:=by
 have w:∀z:Int,0<=z->z<9223372036854775808->wrap64 z=z:=λz h0 h1=>by unfold wrap64;omega
 rw[w x0 a0 (by omega),w x1 b0 (by omega),w x2 bT (by omega),w (x0*65536) (by omega) (by omega),w (x1*256) (by omega) (by omega)]
 have e1:bits BinOp.or IntKind.i64 (x0*65536) (x1*256)=65536*x0+256*x1:=by
  have h:cf BinOp.or IntKind.i64 (x0*65536) (x1*256)=_:=GY (k:= .i64) (x:=x0*65536) (y:=x1*256) (by omega) (by omega) (show _<(9223372036854775808:Int) by omega) (show _<(9223372036854775808:Int) by omega)
  have h2:bits BinOp.or IntKind.i64 (x0*65536) (x1*256)=cf BinOp.or IntKind.i64 (x0*65536) (x1*256):=rfl
  rw[h2,h,Fg (s:=65536) ⟨16,rfl⟩ (by omega) (by omega)];omega
 rw[e1]
 have h:cf BinOp.or IntKind.i64 (65536*x0+256*x1) x2=_:=GY (k:= .i64) (x:=65536*x0+256*x1) (y:=x2) (by omega) (by omega) (show _<(9223372036854775808:Int) by omega) (show _<(9223372036854775808:Int) by omega)
 have h2:bits BinOp.or IntKind.i64 (65536*x0+256*x1) x2=cf BinOp.or IntKind.i64 (65536*x0+256*x1) x2:=rfl
 rw[h2,h,Fg (s:=256) ⟨8,rfl⟩ (by omega) (by omega)];omega
open Go.bg in
theorem acO {x:Int} (h0:0<=x) (h1:x<9223372036854775808):bits BinOp.and IntKind.i64 x 63=((x.toNat% 64:Nat):Int):=by
 have h:cf BinOp.and IntKind.i64 x 63=_:=Ly (k:= .i64) (x:=x) (y:=63) h0 (by decide) (show _<(9223372036854775808:Int) by omega) (by decide)
 have h2:bits BinOp.and IntKind.i64 x 63=cf BinOp.and IntKind.i64 x 63:=rfl
 rw[h2,h]
 exact congrArg Int.ofNat (Nat.and_two_pow_sub_one_eq_mod x.toNat 6)
theorem Yp (a b c:UInt8) (r:ay):gM (a::b::c::r)=kV (a.toNat/4)::kV (a.toNat% 4*16+b.toNat/16)::kV (b.toNat% 16*4+c.toNat/64)::kV (c.toNat% 64)::gM r:=by conv=>lhs;unfold gM
theorem apb {l:ay} {i n:Nat} {x0 x1 x2 bK:Int} (hlt:i<l.length) (h1:1<=n) (h3:n<=3) (jS:n<=l.length-i) (pz:n=3∨n=l.length-i) (hx0:x0=(l.getD i 0).toNat) (hx1:x1=(l.getD (i+1) 0).toNat) (hx2:x2=(l.getD (i+2) 0).toNat) (hb:bK=65536*x0+256*x1+x2):
 gM (l.drop i)=(List.range (n+1)).map (λj=>kV ((bK/2^(18-6*j)).toNat% 64))++gM (l.drop (i+n)):=by
 have z:∀j,l.length<=j->((l.getD j 0).toNat:Int)=0:=λj hj=>by
  rw[show l.getD j 0=0 by simp only[List.getD];rw[List.getElem?_eq_none (by omega)];rfl];rfl
 have a1:=(l.getD i 0).toNat_lt
 have a2:=(l.getD (i+1) 0).toNat_lt
 have a3:=(l.getD (i+2) 0).toNat_lt
 have L:∀{u v:Nat},u=v->kV u=kV v:=λh=>congrArg kV h
 match n,h1,h3 with
 |1,_,_=>
  have hl:l.length=i+1:=by omega
  have d1:l.drop (i+1)=[]:=List.drop_eq_nil_of_le (by omega)
  rw[z (i+1) (by omega)]at hx1
  rw[z (i+2) (by omega)]at hx2
  rw[sm l i hlt,d1]
  show [_,_]=[_,_]
  rw[L (show(l.getD i 0).toNat/4=(bK/2^(18-6*0)).toNat% 64 by show _=(bK/262144).toNat% 64;omega),L (show(l.getD i 0).toNat% 4*16=(bK/2^(18-6*1)).toNat% 64 by show _=(bK/4096).toNat% 64;omega)]
 |2,_,_=>
  have hl:l.length=i+2:=by omega
  have d2:l.drop (i+2)=[]:=List.drop_eq_nil_of_le (by omega)
  rw[z (i+2) (by omega)]at hx2
  rw[sm l i hlt,sm l (i+1) (by omega),d2]
  show [_,_,_]=[_,_,_]
  rw[L (show(l.getD i 0).toNat/4=(bK/2^(18-6*0)).toNat% 64 by show _=(bK/262144).toNat% 64;omega),L (show(l.getD i 0).toNat% 4*16+(l.getD (i+1) 0).toNat/16=(bK/2^(18-6*1)).toNat% 64 by show _=(bK/4096).toNat% 64;omega),L (show(l.getD (i+1) 0).toNat% 16*4=(bK/2^(18-6*2)).toNat% 64 by show _=(bK/64).toNat% 64;omega)]
 |3,_,_=>
  rw[sm l i hlt,sm l (i+1) (by omega),sm l (i+2) (by omega),Yp]
  show _::_::_::_::_=_::_::_::_::_
  rw[L (show(l.getD i 0).toNat/4=(bK/2^(18-6*0)).toNat% 64 by show _=(bK/262144).toNat% 64;omega),L (show(l.getD i 0).toNat% 4*16+(l.getD (i+1) 0).toNat/16=(bK/2^(18-6*1)).toNat% 64 by show _=(bK/4096).toNat% 64;omega),L (show(l.getD (i+1) 0).toNat% 16*4+(l.getD (i+2) 0).toNat/64=(bK/2^(18-6*2)).toNat% 64 by show _=(bK/64).toNat% 64;omega),L (show(l.getD (i+2) 0).toNat% 64=(bK/2^(18-6*3)).toNat% 64 by show _=(bK/1).toNat% 64;omega)]
  rfl
set_option maxHeartbeats 4000000 in
set_option maxRecDepth 1000000 in
theorem Tryz.aee (al:ByteArray) (dG:al.data.toList=GM) (l:ay) (p:Option Addr) (g o cap:Nat) (w:World) (hp:0<l.length->p=some ⟨g,o,none⟩/\l.length<=cap/\∀j,j<l.length->w.cell? ⟨g,o+j,none⟩=some (.int .u8 (l.getD j 0).toNat)) (hl:l.length<=1099511627776):
 Calls Tryz.prog 52 #[.string al,.slice p l.length cap] w λe w'=>e= .returned (.string ⟨(gM l).toArray⟩)/\Below w.heap.size w w':=by
 go_enter Tryz.func52,Tryz.ntmps52
 go_wp2
 go_loopw [1] (λvs wr=>∃(i c:Nat) (q:Option Addr) (d:List UInt8),vs= .slice q (l.length-i) c/\i<=l.length/\(i<l.length->q=some ⟨g,o+i,none⟩/\l.length-i<=c)/\d.length<=4*i/\Hid (d++gM (l.drop i)=gM l)/\Lib.IsBuilder 112 5 w.heap.size w.heap.size (Lib.byteCells d) wr/\Below w.heap.size w wr) (λvs _=>match vs with| .slice _ n _=>n|_=>0)
 case atStart=>
  refine⟨0,cap,p,[],rfl,Nat.zero_le _,λh=>?_,Nat.zero_le _,rfl,Lib.fresh_isBuilder 112 5 w,(Below.refl _ w).alloc (Nat.le_refl _) _⟩
  obtain⟨h1,h2,_⟩:=hp (by omega)
  exact⟨h1,by omega⟩
 case round=>
  obtain⟨i,c,q,d,rfl,hi,hq,hd,hb,hI,kO⟩:=hrel
  by_cases hlt:i<l.length
  ·obtain⟨rfl,hc⟩:=hq hlt
   have hsz:(Tryz.prog.info? 5).map (·.size)=some 1:=by kernel_rfl
   obtain⟨_,_,hcell⟩:=hp (by omega)
   obtain⟨lN,rfl⟩:∃lN:World,lN=wr:=⟨_,rfl⟩
   go_wp2
   obtain⟨n,hn⟩:∃n:Nat,n=min 3 (l.length-i):=⟨_,rfl⟩
   have AO:min 3 ((l.length-i:Nat):Int)=(n:Int):=by omega
   rw[AO]
   clear AO
   have mL:1<=n:=by omega
   have rq:n<=3:=by omega
   have jS:n<=l.length-i:=by omega
   have pz:Hid (n=3∨n=l.length-i):=show n=3∨n=l.length-i by omega
   clear hn
   have axQ:n<=c:=by omega
   have aii:g<w.heap.size:=block_lt_of_cell (hcell 0 (by omega))
   have hgo:¬g=lN.heap.size:=by have:=kO.size;omega
   have hrow:∀W:World,W.heap=(lN.alloc (.cells #[.int .u8 0,.int .u8 0,.int .u8 0] 113)).heap->W.heap[lN.heap.size]?=some (.cells [.int .u8 0,.int .u8 0,.int .u8 0].toArray 113 (0,0)):=λW h=>by rw[h];show(lN.heap.push _)[lN.heap.size]?=_;rw[Array.getElem?_push_size]
   have vX:∀W:World,W.heap=(lN.alloc (.cells #[.int .u8 0,.int .u8 0,.int .u8 0] 113)).heap->∀j v,((List.range n).map λj=>Value.int .u8 (l.getD (i+j) 0).toNat)[j]?=some v->W.cell? ((⟨g,o+i,none⟩:Addr).add j)=some v:=λW h j v hj=>by
    rw[List.getElem?_map]at hj
    have vS:j<n:=by
     rcases Nat.lt_or_ge j n with h|h
     ·exact h
     ·rw[List.getElem?_eq_none (by simpa using h)]at hj;cases hj
    rw[List.getElem?_range vS]at hj
    simp only[Option.map_some,Option.some.injEq]at hj
    subst hj
    have e1:=hcell (i+j) (by omega)
    have e2:W.cell? ⟨g,o+(i+j),none⟩=w.cell? ⟨g,o+(i+j),none⟩:=by
     unfold World.cell?
     simp only[h]
     have:=Lib.alloc_old lN (.cells #[.int .u8 0,.int .u8 0,.int .u8 0] 113) g (by have:=kO.size;omega)
     rw[this,kO.block g aii]
    rw[Addr.add_lit,Nat.add_assoc,e2,e1]
   go_region_law (refine step_copy_splice rfl (.tmp 16) (.tmp 19) 60 60 rfl 5 Tryz.underlying60 hsz (some ⟨lN.heap.size,0,none⟩) (some ⟨g,o+i,none⟩) 3 3 n c (by simp[Act.eval,Act.put]) (by simp[Act.eval,Act.put]) lN.heap.size 0 [.int .u8 0,.int .u8 0,.int .u8 0] 113 (hrow _ rfl) ((List.range n).map λj=>Value.int .u8 (l.getD (i+j) 0).toNat) (by simp only[List.length_map,List.length_range];exact(Nat.min_eq_left rq).symm) (λ_=>⟨rfl,_,rfl,vX _ rfl⟩) (by simp;omega) (λv hv=>by simp at hv;obtain⟨_,_,rfl⟩:=hv;rfl) lN.heap.size lN ((Below.refl _ lN).alloc (Nat.le_refl _) _).drew (Nat.le_refl _) ?_;intro w4 hg4 hb4)
   have hg4:w4.heap[lN.heap.size]?=some (.cells (splice _ _ _).toArray 113 (0,0)):=hg4
   rw[splice3 l i n rq pz]at hg4
   obtain⟨x0,hx0⟩:∃x:Int,x=(l.getD i 0).toNat:=⟨_,rfl⟩
   obtain⟨x1,hx1⟩:∃x:Int,x=(l.getD (i+1) 0).toNat:=⟨_,rfl⟩
   obtain⟨x2,hx2⟩:∃x:Int,x=(l.getD (i+2) 0).toNat:=⟨_,rfl⟩
   rw[<-hx0,<-hx1,<-hx2]at hg4
   have bT:w4.cell? ⟨lN.heap.size,0,none⟩=some (.int .u8 x0):=by rw[Lib.cell_of_heap hg4];rfl
   have c1:w4.cell? ⟨lN.heap.size,1,none⟩=some (.int .u8 x1):=by rw[Lib.cell_of_heap hg4];rfl
   have c2:w4.cell? ⟨lN.heap.size,2,none⟩=some (.int .u8 x2):=by rw[Lib.cell_of_heap hg4];rfl
   have agu:Below w.heap.size w w4:=kO.trans (hb4.mono kO.size)
   have agD:=aj1 hI (λk hk=>hb4.block k hk)
   obtain⟨q',hq',ajb⟩:∃q',(if c=n then some (⟨g,o+i,none⟩:Addr)else some ⟨g,o+i+n,none⟩)=q'/\Hid (i+n<l.length->q'=some ⟨g,o+(i+n),none⟩):=⟨_,rfl,λh=>by rw[if_neg (by omega),Nat.add_assoc]⟩
   replace hx0:Hid _:=hx0
   replace hx1:Hid _:=hx1
   replace hx2:Hid _:=hx2
   clear hgo hrow vX
   go_wp2
   obtain⟨bK,D3⟩:∃bK:Int,bits BinOp.or IntKind.i64 (bits BinOp.or IntKind.i64 (wrap64 (wrap64 x0*65536)) (wrap64 (wrap64 x1*256))) (wrap64 x2)=bK:=⟨_,rfl⟩
   rw[D3]
   have jH:x0=(l.getD i 0).toNat:=hx0
   have jn:x1=(l.getD (i+1) 0).toNat:=hx1
   have qz:x2=(l.getD (i+2) 0).toNat:=hx2
   have u0:=(l.getD i 0).toNat_lt
   have oB:=(l.getD (i+1) 0).toNat_lt
   have rO:=(l.getD (i+2) 0).toNat_lt
   have VY:bK=65536*x0+256*x1+x2:=by rw[<-D3];exact acP (by omega) (by omega) (by omega) (by omega) (by omega) (by omega)
   have NG:Hid (gM (l.drop i)=_):=apb hlt mL rq jS pz jH jn qz VY
   have hbl:0<=bK:=by omega
   have axA:bK<16777216:=by omega
   have ahI:al.size=64:=by show al.data.size=64;rw[<-Array.length_toList,dG];rfl
   clear VY jH jn qz u0 oB rO
   clear D3
   have hw4:lN.heap.size<=w4.heap.size:=hb4.size
   clear hg4 bT c1 c2 hq' hcell hI kO hb4
   go_loopw [39] (λv ZN=>∃k:Nat,v= .int .i64 k/\k<=n+1/\Lib.IsBuilder 112 5 w.heap.size w.heap.size (Lib.byteCells (d++(List.range k).map λj=>kV ((bK/2^(18-6*j)).toNat% 64))) ZN/\Below w.heap.size w ZN) (λv _=>n+1-(RowKit.intOf v).toNat)
   case atStart=>
    refine⟨0,rfl,by omega,by simpa using agD,agu⟩
   case round=>
    obtain⟨k,rfl,hk,vM,MQ⟩:=hrel
    by_cases axJ:k<n+1
    ·obtain⟨m,hm⟩:∃m:Nat,m=(bK/2^(18-6*k)).toNat% 64:=⟨_,rfl⟩
     have jB:(0:Int)<2^(18-6*k):=Int.pow_pos (by decide)
     have vW:0<=bK/2^(18-6*k):=Int.ediv_nonneg hbl (by omega)
     have sE:bK/2^(18-6*k)<=bK:=Int.ediv_le_self _ hbl
     have hand:bits BinOp.and IntKind.i64 (bK/2^(18-6*k)) 63=(m:Int):=by rw[hm];exact acO vW (by omega)
     have aiN:m<al.size:=by rw[ahI,hm];exact Nat.mod_lt _ (by decide)
     have axM:((al[m]).toNat:Int)=(kV m).toNat:=by
      have:al[m]=kV m:=by
       have e:al.data.toList.getD m 0=al[m]:=by
        simp only[List.getD,List.getElem?_eq_getElem (show m<al.data.toList.length by rw[Array.length_toList];exact aiN),Option.getD_some]
        rfl
       rw[<-e,dG];rfl
      rw[this]
     replace hm:Hid _:=hm
     clear jB vW sE
     go_wp2_with (go_at_call 81;refine(Tryz.Builder_WriteByte w.heap.size w.heap.size _ _ _ vM (by rw[Lib.byteCells_length,List.length_append,List.length_map,List.length_range];omega) MQ.size).mono ?_)
     rintro e ayf ⟨rfl,h1,b1⟩
     go_wp2
     go_roundw
     case rel=>
      refine⟨k+1,by simp,by omega,?_,MQ.trans b1⟩
      have hm:m=(bK/2^(18-6*k)).toNat% 64:=hm
      rw[List.range_succ,List.map_append,<-List.append_assoc,Lib.byteCells_append]
      rw[hm]at h1
      exact Or.inr h1
     case measure=>simp[intOf];omega
    ·have hk2:k=n+1:=by omega
     subst hk2
     go_wp2
     go_roundw
     case rel=>
      have NG:gM (l.drop i)=_:=NG
      have hb:d++gM (l.drop i)=gM l:=hb
      refine⟨i+n,c-n,q',_,by rw[Nat.sub_sub],by omega,λh=>⟨ajb h,by omega⟩,?_,?_,vM,MQ⟩
      ·rw[List.length_append,List.length_map,List.length_range];omega
      ·show _=_
       rw[List.append_assoc,<-NG,hb]
     case measure=>simp;omega
  ·have hz:l.length-i=0:=by omega
   have hI:Lib.IsBuilder 112 5 w.heap.size w.heap.size (Lib.byteCells d) wr:=hI
   rw[hz]
   go_wp2_with (go_at_call 82;refine(Tryz.Builder_String_any w.heap.size w.heap.size d _ hI kO.size).mono ?_)
   rintro e W1 ⟨rfl,b1⟩
   go_wp2
   go_ret
   have hb:d++gM (l.drop i)=gM l:=hb
   rw[List.drop_of_length_le (by omega)]at hb
   have hb:d++[]=gM l:=hb
   rw[List.append_nil]at hb
   exact⟨by rw[<-hb];rfl,kO.trans b1⟩
end Go.Proofs
namespace Go.cd
open Go Go.bg Go.Proofs Go.RowKit
theorem ac0 (z:Int):(gX z).length=(ab z).length:=by simp[gX]
theorem acZ {z:Int} {i:Nat} {v:Int} (v0:0<=v) (v1:v<=255) (h:v=((ab z).getD i []).getD 0 0):((gX z).getD i 0).toNat=v.toNat:=by
 unfold gX
 by_cases hi:i<(ab z).length
 ·simp only[List.getD,List.getElem?_map,List.getElem?_eq_getElem hi,Option.map_some,Option.getD_some]at h⊢
  rw[<-h];simp;omega
 ·have e:(ab z)[i]?=none:=List.getElem?_eq_none (by omega)
  simp only[List.getD,List.getElem?_map,e,Option.map_none,Option.getD_none]at h⊢
  have:v=0:=by rw[h];rfl
  rw[this];rfl
theorem Yq:∀l:ay,(gM l).length<=2*l.length
 |[]=>by simp[gM]
 |[_]=>by simp[gM]
 |[_,_]=>by simp[gM]
 |a::b::c::r=>by
  have:=Yq r
  rw[Go.Proofs.Yp];simp;omega
theorem amW {wb:World}:ij wb IF:=by
 refine⟨λargs w=>enters (by kernel_rfl) _ _,λF w vs zs hw hz gJ hat=>?_⟩
 match zs,hz,vs,hat with
 |[r],hz,[v0,v1],hat=>
  obtain⟨h0,h1,_⟩:=hat
  have gJ:(ab r).length<=1099511627776:=gJ
  have h0:v0= .string (bd GM):=h0
  have h1:qV F w [.int .u8 0 255] (ab r) v1:=h1
  have hlen:=ac0 r
  obtain⟨p,g,o,cap,hv,hp⟩:∃(p:Option Addr) (g o cap:Nat),v1= .slice p (gX r).length cap/\(0<(gX r).length->p=some ⟨g,o,none⟩/\(gX r).length<=cap/\∀j,j<(gX r).length->w.cell? ⟨g,o+j,none⟩=some (.int .u8 ((gX r).getD j 0).toNat)):=by
   rcases h1 with⟨h1,h2⟩|⟨g,o,cap,cells,t,fz,h1,⟨h2,_⟩,_,h3,h4⟩
   ·exact⟨none,0,0,0,by rw[h1,hlen,h2];rfl,λh=>by rw[hlen,h2]at h;simp at h⟩
   ·refine⟨some ⟨g,o,none⟩,g,o,cap,by rw[h1,hlen],λ_=>⟨rfl,by omega,λj hj=>?_⟩⟩
    have hj':j<(ab r).length:=by omega
    have hrow:=List.getElem?_eq_getElem hj'
    obtain⟨z,z0,ah,z2,z3⟩:=(h4.1 _ (List.getElem_mem hj')).get (j:=0) (c:= .int .u8 0 255) rfl
    have hc:=h4.get hrow z3
    have hb:=acZ (z:=r) (i:=j) (v:=z) ah z2 (by simp only[List.getD,hrow,Option.getD_some,z0])
    have hz':((((gX r).getD j 0).toNat:Nat):Int)=z:=by rw[hb];exact Int.toNat_of_nonneg ah
    rw[hz']
    have hc:cells[o+j]?=some (.int .u8 z):=by simpa [aw.val]using hc
    unfold World.cell?
    rw[h3]
    exact hc
  subst h0 hv
  refine(Tryz.aee (bd GM) (by simp[bd]) (gX r) p g o cap w hp (by omega)).mono ?_
  rintro e w' ⟨rfl,hb⟩
  have hl:=Yq (gX r)
  refine⟨Dy hb,[dP (gM (gX r))],[.string ⟨(gM (gX r)).toArray⟩],⟨(Dh (l:=gM (gX r)) hl (by omega)).1,(Dh (l:=gM (gX r)) hl (by omega)).2,trivial⟩,?_,⟨?_,trivial⟩,rfl⟩
  ·show U (dP (gM (gX r)))=gM (gX r)
   exact fS _
  ·show Value.string _=Value.string (bd (U (dP (gM (gX r)))))
   rw[fS];rfl
end Go.cd
namespace Go.cd
open Go Go.bg Go.Proofs Go.RowKit
theorem amE {wb:World}:bG wb ID:=by
 intro zs hz
 obtain⟨rs,h1,h2,h3⟩:=adE (wb:=wb) (f:=91) (id:=510) Tryz.func91 (by kernel_rfl) (by kernel_rfl) (by kernel_rfl) (by kernel_rfl) zs hz
 match zs,hz with
 |[a,b],hz=>
  refine⟨rs,h1,?_,h3⟩
  subst h2
  show cmpL (U a) (U b)=cond (Op.bytesLess (U a) (U b)) (-1) (cond (decide (U a=U b)) 0 1)
  have hb:=LY (U a) (U b)
  have⟨h1,h2⟩:=Ub (U a) (U b)
  cases hl:Op.bytesLess (U a) (U b)with
  |true=>exact h1.2 hl
  |false=>
   have n1:cmpL (U a) (U b)≠-1:=λh=>by rw[h1.1 h]at hl;cases hl
   by_cases h:U a=U b
   ·rw[decide_eq_true h];exact h2.2 h
   ·have n0:cmpL (U a) (U b)≠0:=λh'=>h (h2.1 h')
    rw[decide_eq_false h]
    show cmpL (U a) (U b)=1
    omega
end Go.cd
namespace Go.Proofs
open Go.Shelf Go.RowKit
shelf_lay SlLaysJ.n14 Slb 14 at Tryz as Tryz.Xn
open Go.bg Go.Lib
def oV:List aw:=[.int .u8 0 255]
def uW (rows:List (List Int)):List UInt8:=rows.map λr=>UInt8.ofNat (r.getD 0 0).toNat
theorem ZE {r:List Int} (h:bS oV r):∃z:Int,r=[z]/\0<=z/\z<=255/\((UInt8.ofNat z.toNat).toNat:Int)=z:=by
 match r,h with
 |[z],h=>
  have h1:0<=z/\z<=255:=h.1
  refine⟨z,rfl,h1.1,h1.2,?_⟩
  have e:(UInt8.ofNat z.toNat).toNat=z.toNat% 256:=by simp
  rw[e];omega
theorem JY (rows:List (List Int)):(uW rows).length=rows.length:=by simp[uW]
theorem arv {w:World} {g o:Nat} {cells:Array Value} {t:TypeId} {fz:Nat×Nat} {rows:List (List Int)} (hg:w.heap[g]?=some (.cells cells t fz)) (h:kc cells o oV rows) (i:Nat) (x:UInt8) (hx:(uW rows)[i]?=some x):w.cell? ((⟨g,o,none⟩:Addr).add i)=some (.int .u8 (x.toNat:Int)):=by
 unfold uW at hx
 rw[List.getElem?_map]at hx
 cases hr:rows[i]? with
 |none=>rw[hr]at hx;cases hx
 |some r=>
  rw[hr]at hx
  simp only[Option.map_some,Option.some.injEq]at hx
  obtain⟨z,rfl,h1,h2,h3⟩:=ZE (h.1 r (List.mem_of_getElem? hr))
  have hv:(cN oV [z])[0]?=some (Value.int .u8 z):=rfl
  have:=h.get hr hv
  rw[gW]
  simp only[World.cell?,hg,Option.isSome_none,Bool.false_eq_true,if_false]
  simp only[oV,List.length_cons,List.length_nil,Nat.zero_add,Nat.mul_one,Nat.add_zero]at this
  rw[this,<-hx]
  simp only[List.getD_cons_zero]
  rw[h3]
theorem YT:∀(rows:List (List Int)) (zs:List Int),(∀row∈rows,bS oV row)->(∀x∈zs,0<=x/\x<256)->bytesOf zs=uW rows->aU oV rows=zs.map (Value.int .u8)
 |[],zs,_,_,h=>by
  have:zs.length=0:=by have:=congrArg List.length h;simpa [bytesOf,uW]using this
  rw[List.eq_nil_of_length_eq_zero this];rfl
 |r::rows,[],_,_,h=>by simp[bytesOf,uW]at h
 |r::rows,z::zs,hr,hz,h=>by
  obtain⟨y,rfl,h1,h2,h3⟩:=ZE (hr r (by simp))
  have hz1:=hz z (by simp)
  unfold bytesOf uW at h
  simp only[List.map_cons,List.cons.injEq,List.getD_cons_zero]at h
  have ih:=YT rows zs (λx hx=>hr x (List.mem_cons_of_mem _ hx)) (λx hx=>hz x (List.mem_cons_of_mem _ hx)) h.2
  have e:y=z:=by
   have:=congrArg (λb:UInt8=>(b.toNat:Int)) h.1
   simp at this
   omega
  subst e
  show Value.int .u8 y::aU oV rows=_
  rw[ih];rfl
theorem join_one {spec:List Int->List Int->Prop} {wb:World} {p:ik} (hc:p.c.f=80) (ha:p.c.args=[.rd oV]) (hr:p.c.res=[.rd oV]) (hp:p.c.pre=71) (hn:p.nil=true) (hs:∀z r,0<=r->r<=bZ->ab r=ab z->spec [z] [r]) (hf:∀args w,(callFunc 80 args).run Tryz.prog w= .ok (.enter 80 args) w):
 p.eB Tryz.prog wb spec:=by
 refine⟨by rw[hc];exact hf,?_⟩
 rw[hc,ha,hr,hp]
 intro F w vs zs g hw hz gJ hat hg hF hcell
 match zs,hz,vs,hat,gJ,hcell with
 |[z],hz,[v],hat,gJ,hcell=>
 have hat:qV F w oV (ab z) v:=hat.1
 have gJ:(ab z).length<=1000000000:=gJ
 have e:wG p g [v].length=#[.slice (some ⟨g,0,none⟩) 1 1,.slice none 0 0]:=by unfold wG;rw[hn];rfl
 rw[e]
 have hc0:w.cell? ⟨g,0,none⟩=some v:=by simp[World.cell?,hcell]
 have empty:(∃p0 bT,v= .slice p0 0 bT)->ab z=[]->Calls Tryz.prog 80 #[.slice (some ⟨g,0,none⟩) 1 1,.slice none 0 0] w λe w'=>w.Extends w'/\∃rs us,aO (cH [bQ.rd oV]) rs/\spec [z] rs/\iz (λg=>F g∨w.heap.size<=g) (λg=>w.heap.size<=g) w' [bQ.rd oV] rs us/\e= .returned (pQ us):=λ⟨p0,bT,hv⟩ h0=>by
  refine Calls.mono (Any.bytes_Join_one_empty Tryz.Xn g 0 1 p0 bT (.slice none 0 0) w (by rw[hc0,hv])) ?_
  rintro e w' ⟨rfl,rfl⟩
  exact⟨World.Extends.refl _,[0],[.slice none 0 0],⟨Int.le_refl _,oH,trivial⟩,hs z 0 (Int.le_refl _) oH (by rw[fD,h0]),⟨.inl ⟨rfl,fD⟩,trivial⟩,rfl⟩
 rcases hat with⟨rfl,h0⟩|⟨g1,o1,c1,cells,t,fz,rfl,⟨h2,h3⟩,h4,h5,h6⟩
 ·exact empty ⟨none,0,rfl⟩ h0
 ·rcases Nat.eq_zero_or_pos (ab z).length with h0|h0
  ·exact empty ⟨some ⟨g1,o1,none⟩,c1,by rw[h0]⟩ (List.eq_nil_of_length_eq_zero h0)
  ·refine Calls.mono (Any.bytes_Join_one Tryz.Xn g 0 1 ⟨g1,o1,none⟩ c1 (uW (ab z)) (.slice none 0 0) w (by rw[hc0,JY]) (λi x hx=>arv h5 h6 i x hx) (by rw[JY];exact h0) (by rw[JY];omega)) ?_
   rintro e w' ⟨v',rfl,⟨g2,cap,zs',rfl,k1,k2,k3,k4,pD,sI,Iz,_⟩,hb⟩
   have hsz:=hb.size
   rw[JY]at k2 sI⊢
   obtain⟨cells',t',MF,hh⟩:∃cells' t' MF,w'.heap[g2]?=some (.cells cells' t' MF):=by
    have h7:=Iz 0 (by omega)
    simp only[World.cell?]at h7
    cases ae:w'.heap[g2]? with
    |none=>simp[ae]at h7
    |some ob=>
     cases ob<;>simp[ae]at h7
     exact⟨_,_,_,rfl⟩
   have vO:∀i,i<cap->cells'[i]?=some (.int .u8 (zs'.getD i 0)):=λi hi=>by
    have h7:=Iz i hi
    simpa [World.cell?,hh]using h7
   have hX:=YT (ab z) (zs'.take (ab z).length) h6.1 (λx hx=>pD x (List.mem_of_mem_take hx)) sI
   refine⟨Mq (World.Extends.refl w) hb.os hb.tape hb.output hb.size hb.block,[z],[_],hz,hs z z hz.1 hz.2.1 rfl,⟨.inr ⟨g2,0,cap,cells',t',MF,rfl,⟨k2,by simp only[maxLen]at k3;omega⟩,.inr k1,hh,h6.1,[],cells'.toList.drop (ab z).length,?_,rfl⟩,trivial⟩,rfl⟩
   have ajs:cells'.toList.take (ab z).length=aU oV (ab z):=by
    rw[hX]
    apply List.ext_getElem?
    intro i
    rw[List.getElem?_take,List.getElem?_map,List.getElem?_take]
    split
    ·rename_i hi
     have:=vO i (by omega)
     rw[Array.getElem?_toList,this,List.getD_eq_getElem?_getD]
     have hlt:i<zs'.length:=by omega
     rw[List.getElem?_eq_getElem hlt];rfl
    ·rfl
   show cells'.toList=[]++aU oV (ab z)++_
   rw[List.nil_append,<-ajs,List.take_append_drop]
end Go.Proofs
namespace Go.Proofs.YtponpidccjmlnaaGreatDoor
open Go Go.bg Go.cd Go.ChangeShapes Go.RowKit
theorem own:ownKnob Tryz.prog.godebug=none:=by kernel_rfl
theorem alu:laidOutB Tryz.prog=true:=by kernel_rfl
def laid:List (String×m8 Unit):=[("unicode/utf8.acceptRanges",Rows.laid_unicode_utf8_acceptRanges),("vouchsafe/field.One",Rows.laid_vouchsafe_field_One),("vouchsafe/curve.once",Rows.laid_vouchsafe_curve_once),("vouchsafe/sha.roots",Rows.laid_vouchsafe_sha_roots),("vouchsafe/sha.begins",Rows.laid_vouchsafe_sha_begins),("unicode/utf8.first",Rows.laid_unicode_utf8_first)]
theorem UZ:Tryz.prog.globalNamed "vouchsafe/field.One" =some 3:=by kernel_rfl
theorem aqU:(Tryz.prog.globals[3]?).map (·.type)=some 87:=by kernel_rfl
theorem arx:Tryz.prog.underlying 87=some (.array 5 85):=by kernel_rfl
theorem ad3:Tryz.prog.underlying 85=some (.int .u64):=by kernel_rfl
theorem adm:Tryz.prog.cellsOf 85=1:=by kernel_rfl
theorem ada:Tryz.prog.cellsOf 87=5:=by kernel_rfl
theorem akO:(Rows.laid_vouchsafe_field_One:m8 Unit)= .agg (([1,0,0,0,0]:List Int).map λz=> .lit (.int .u64 z)):=by kernel_rfl
theorem U0:Tryz.prog.globalNamed "vouchsafe/curve.once" =some 4:=by kernel_rfl
theorem aqV:(Tryz.prog.globals[4]?).map (·.type)=some 87:=by kernel_rfl
theorem ary:Tryz.prog.underlying 87=some (.array 5 85):=by kernel_rfl
theorem ad4:Tryz.prog.underlying 85=some (.int .u64):=by kernel_rfl
theorem adn:Tryz.prog.cellsOf 85=1:=by kernel_rfl
theorem adb:Tryz.prog.cellsOf 87=5:=by kernel_rfl
theorem akP:(Rows.laid_vouchsafe_curve_once:m8 Unit)= .agg (PD.map λz=> .lit (.int .u64 z)):=by kernel_rfl
theorem U1:Tryz.prog.globalNamed "vouchsafe/sha.roots" =some 0:=by kernel_rfl
theorem aqW:(Tryz.prog.globals[0]?).map (·.type)=some 100:=by kernel_rfl
theorem arz:Tryz.prog.underlying 100=some (.array 80 85):=by kernel_rfl
theorem ad5:Tryz.prog.underlying 85=some (.int .u64):=by kernel_rfl
theorem ado:Tryz.prog.cellsOf 85=1:=by kernel_rfl
theorem ade:Tryz.prog.cellsOf 100=80:=by kernel_rfl
theorem akQ:(Rows.laid_vouchsafe_sha_roots:m8 Unit)= .agg (wL.map λz=> .lit (.int .u64 z)):=by kernel_rfl
theorem U2:Tryz.prog.globalNamed "vouchsafe/sha.begins" =some 1:=by kernel_rfl
theorem aqX:(Tryz.prog.globals[1]?).map (·.type)=some 107:=by kernel_rfl
theorem arA:Tryz.prog.underlying 107=some (.array 8 85):=by kernel_rfl
theorem ad6:Tryz.prog.underlying 85=some (.int .u64):=by kernel_rfl
theorem adp:Tryz.prog.cellsOf 85=1:=by kernel_rfl
theorem adf:Tryz.prog.cellsOf 107=8:=by kernel_rfl
theorem akR:(Rows.laid_vouchsafe_sha_begins:m8 Unit)= .agg (GW.map λz=> .lit (.int .u64 z)):=by kernel_rfl
theorem U9 {W:ai} (h:laidMetH Tryz.prog laid W):eK b8 ⟨W,W,λ_=>False,λ_=>False,[]⟩:=by
 rw[ayk _ _ _ (by kernel_rfl)]at h
 obtain⟨bX,⟨_,_,_,_,_,_,_,_,_,_,⟨a0,b0,awm,f0,p0,kp,Eg,AT,hv0,tO,⟨a1,b1,awn,f1,p1,bo,hg1,ajo,oa,x3,⟨a2,b2,awo,f2,bq,bI,tR,EI,jC,x4,⟨a3,b3,awp,f3,cv,b6,x8,ajp,ajy,D7,⟨_,_,_,_,_,_,_,_,_,_,_,_⟩,_⟩,_⟩,_⟩,_⟩,_⟩,_,_⟩:=h
 obtain rfl:=gE (UZ.symm.trans Eg)
 obtain rfl:=gE (aqU.symm.trans AT)
 rw[akO]at tO
 have x0:=HB (zs:=([1,0,0,0,0]:List Int)) UZ arx ad3 adm ada hv0 tO
 obtain rfl:=gE (U0.symm.trans hg1)
 obtain rfl:=gE (aqV.symm.trans ajo)
 rw[akP]at x3
 have x1:=HB (zs:=PD) U0 ary ad4 adn adb oa x3
 obtain rfl:=gE (U1.symm.trans tR)
 obtain rfl:=gE (aqW.symm.trans EI)
 rw[akQ]at x4
 have x2:=HB (zs:=wL) U1 arz ad5 ado ade jC x4
 obtain rfl:=gE (U2.symm.trans x8)
 obtain rfl:=gE (aqX.symm.trans ajp)
 rw[akR]at D7
 have gP:=HB (zs:=GW) U2 arA ad6 adp adf ajy D7
 intro g cs hm
 simp only[b8,List.mem_cons,cj,List.not_mem_nil,or_false]at hm
 rcases hm with⟨rfl,rfl⟩|⟨rfl,rfl⟩|⟨rfl,rfl⟩|⟨rfl,rfl⟩
 ·rw[j5];exact x2
 ·rw[j5];exact gP
 ·rw[j5];exact x0
 ·rw[j5];exact x1
theorem akS:(laid.filter λx=>x.2.handleName?.isNone)=laid:=by kernel_rfl
theorem adS (os:Os) (args:Array az):laidMetH Tryz.prog laid ((World.laidAll Tryz.prog os laid).forCall (λ_ _=>0) ⟨#[],args,[]⟩).memory:=
 laidMetH_of_parts3 (fuel:=8) (by rw[akS];exact laidMet_laidAll args (by kernel_rfl) (by kernel_rfl)) (by kernel_rfl) (by kernel_rfl)
theorem arp:KR Tryz.prog 41 (.rd [.bool,.int .u8 0 255,.int .u8 0 255,.int .u8 0 255]):=⟨44,Tryz.underlying41,by kernel_rfl,by kernel_rfl,by decide⟩
theorem cell0 {W:ai} (h:W.ShapedOpen Tryz.prog):∃m,W.cell? ⟨2,0,none⟩=some (.int .i64 m):=
 cell_of_shapedOpen_int (zero:=#[.int .i64 0]) (t:=3) h (of_decide_eq_true (by kernel_rfl)) (by kernel_rfl) rfl (by kernel_rfl) (by kernel_rfl) Tryz.underlying3
theorem ah3 {W:ai} {m:Int} (h:W.cell? ⟨2,0,none⟩=some (.int .i64 m)):2<W.heap.size:=by
 rcases Nat.lt_or_ge 2 W.heap.size with h0|h0
 ·exact h0
 ·have:W.heap[(2:Nat)]?=none:=Array.getElem?_eq_none h0
  simp[World.cell?,this]at h
theorem anI {G:Nat->List Int->List Int} {id:Nat} (hid:id=661) (a:List (List Int)) (z:Int) (h:lh G id a [[z]]):z=1:=by
 subst hid
 all_goals
  match a,h with
  |[],h=>first|exact h|exact h.elim
  |[_],h=>first|exact h|exact h.elim
  |[_,_],h=>first|exact h|exact h.elim
  |[_,_,_],h=>first|exact h|exact h.elim
  |_::_::_::_::_,h=>exact h.elim
structure aaN (W:ai) (G:Nat->List Int->List Int):Prop where
 PN:jx G W wg
 Jb:ij W uv
 Jc:ij W uw
 PM:ij W yD
 yO:ij W oi
 Jh:bG W ux
theorem ach {W:ai} (h:W.ShapedOpen Tryz.prog) (cJ:laidMetH Tryz.prog laid W):∃G,aaN W G:=by
 have hg:=U9 cJ
 obtain⟨m,hm⟩:=cell0 h
 have yt:bG W nA:=amV
 have Zx:=anz hg
 have ZA:=anB hg
 have arc:=anD hg Zx ZA
 have aq3:=anw hg Zx ZA
 have adl:=amB hg yt
 have aq2:=anv hg
 have adM:=amH hg yt
 have L1:=amI hg yt
 have anK:=am3 hg yt
 have Ix:=amX hg yt
 have alA:=amZ hg
 have T8:zJ W BL:=amA ⟨m,hm⟩ (ah3 hm)
 have aq4:=anx hg
 have aq1:=anu hg
 have ai0:=amU hg T8 aq4 aq2 Ix
 have Qp:=ano hg L1 ai0 aq1 Ix
 have alx:=amY hg T8 anK aq3
 have aed:=amJ hg arc adM alx adl Qp alA yt
 have adH:bG W IE:=amF
 have acD:bG W IC:=amz
 have aq9:=anA hg
 have ape:=anc hg adH acD aq9
 have alZ:=am1 hg ape aed
 have apK:=anm hg alZ
 have arl:=anE hg
 have arb:=anC hg
 have ZK:=anF hg L1 arl Ix Qp
 have apM:=ann hg L1 arb Ix Qp
 have apm:=ani hg
 have adD:bG W ID:=amE
 have adJ:=amG hg yt
 have apo:=anj hg apm adJ
 have Yv:=anh hg apo apK ZK apM
 have yO:=am6 hg Yv
 have Yt:=ang hg adD
 have apf:To W ew:=ane
 have Yo:=anb hg
 have Jc:=am8 hg Yv yO Yt Yo apf
 have Jb:=am7 hg ZK yO Yo
 have Jh:=anf hg
 have PM:=am4 hg yO Yt
 have ajT:ij W IF:=amW
 have Zd:=anp hg
 have aeI:=amK hg
 have aeV:=amM hg
 have ae7:=amO hg
 have afj:=amQ hg
 have aeJ:=amL hg
 have aeW:=amN hg
 have ae8:=amP hg
 have afk:=amR hg
 have aqv:=anq hg Zd
 have aqw:=anr hg Zd
 have aqp:zI W Fi:=join_one (p:=Fi) rfl rfl rfl rfl rfl (λz r h0 h1 h=>h) (enters (by kernel_rfl))
 have aqq:zI W Fj:=join_one (p:=Fj) rfl rfl rfl rfl rfl (λz r h0 h1 h=>h) (enters (by kernel_rfl))
 have afs:=amS hg
 have aft:=amT hg
 have ady:=amC hg
 have adz:=amD hg
 have acb:=amx hg afs aeI aeV ae7 afj ady
 have acd:=amy hg aft aeJ aeW ae8 afk adz
 have aqR:=ans hg aqv aqp acb
 have aqS:=ant hg aqw aqq acd
 obtain⟨G,hG⟩:=ace (wb:=W) hg
 have adi:r8 G W yx:=(hG yx (fP 6 rfl))
 have al0:r8 G W yC:=(am2 hg (hG wc (fP 5 rfl)) (hG we (fP 2 rfl)) (hG wa (fP 3 rfl)))
 have adj:r8 G W yy:=(hG yy (fP 1 rfl))
 have adA:r8 G W yB:=(hG yB (fP 0 rfl))
 have apr:jx G W yF:=ank hg adA adi al0 adj aqS
 have Yf:jx G W uu:=am5 hg apr ajT aqR
 have an3:jx G W yE:=am9 hg yO Yf
 have PN:jx G W wg:=ana hg Jh Jc Jb an3 Yf
 exact⟨G,⟨PN,Jb,Jc,PM,yO,Jh⟩⟩
end Go.Proofs.YtponpidccjmlnaaGreatDoor
