/- Pag: a part of the proof of statements of this seat. -/
import Derived.Test.YtponpidccjmlnaaGreatDoorPae
import Derived.Test.YtponpidccjmlnaaGreatDoorChunk
import Derived.Test.YtponpidccjmlnaaGreatDoorPac
import Derived.KernelRfl
import Derived.Shelf.Lay
import Derived.Shelf.LaySoft
import Derived.Shelf.Strings.Search1
import Derived.Shelf.Strings.Search3
import Derived.Shelf.Small.Strs
import Derived.Test.YtponpidccjmlnaaGreatDoorProg
import Derived.BigCall
import Derived.Shelf.Strings.Builder1
import Derived.Lib.IndexMore
import Derived.Test.YtponpidccjmlnaaGreatDoorPad
import Derived.WalkKit
import Derived.WideMake
import Derived.Laws.ResultCell
import Derived.Laws.Rows
import Derived.Lib.IndexAny
import Derived.OwnWalk
import Derived.Deep.RegionLaw
import Derived.Laws.CopyOwn
import Derived.Lib.Builder
import Derived.Lib.Overlaps
import Derived.Lib.AppendZerosOnto
import Derived.Shelf.Bytes.SlJoin
import Derived.RangeFuncOwn
import Derived.Shelf.Vars
import Derived.Test.YtponpidccjmlnaaGreatDoorRows
import Derived.Test.YtponpidccjmlnaaGreatDoorTie
import Derived.Test.YtponpidccjmlnaaGreatDoorCards
import Derived.SevenTiedAt
import Derived.Lay
set_option linter.unusedVariables false
set_option maxRecDepth 100000
namespace Go.ck
open Go Go.bj Go.Proofs
abbrev aW (wb:World) (k:aR):Prop:=k.cU Tryz.prog wb (cB sh SB k.id)
abbrev wu (wb:World) (q:kl):Prop:=q.cf Tryz.prog wb (cB sh SB q.c.id)
abbrev fC (wb:World) (k:db):Prop:=k.cf Tryz.prog wb (cB sh SB k.id)
abbrev PN (wb:World) (k:kk):Prop:=k.cf Tryz.prog wb (cB sh SB k.id)
abbrev uF (wb:World) (k:hS):Prop:=k.cf Tryz.prog wb (cB sh SB k.c.id)
abbrev yx (wb:World) (k:km):Prop:=k.cf Tryz.prog wb (cB sh SB k.c.id)
theorem br:Tryz.prog.follows .mixedOrders=true:=by kernel_rfl
theorem aH {α:Type} {p:α->Prop}:∀x∈([]:List α),p x:=fun _ h=>by cases h
theorem a6 {α:Type} {p:α->Prop} {a:α} {l:List α} (h:p a) (hl:∀x∈l,p x):∀x∈a::l,p x:=fun x hx=>by
 rcases List.mem_cons.1 hx with rfl|hx
 ·exact h
 ·exact hl x hx
theorem SL:Hw Tryz.prog 147:=⟨enters (by kernel_rfl),Tryz.ab2⟩
theorem jP {a0 b0:Int} (h0:U a0=U b0):gx [.str] [a0]=gx [.str] [b0]:=by
 show(.string (bb (U a0)):Value)=(.string (bb (U b0)):Value)
 rw[h0]
theorem ix {a0 b0:Int} (h0:a0=b0):gx [.bool] [a0]=gx [.bool] [b0]:=by
 show(.bool (decide (a0=1)):Value)=(.bool (decide (b0=1)):Value)
 rw[h0]
theorem Wf {a0 a1 a2 b0 b1 b2:Int} (h0:U a0=U b0) (h1:U a1=U b1) (h2:a2=b2):gx [.str,.str,.bool] [a0,a1,a2]=gx [.str,.str,.bool] [b0,b1,b2]:=by
 show(.tuple #[.string (bb (U a0)),.string (bb (U a1)),.bool (decide (a2=1))]:Value)=(.tuple #[.string (bb (U b0)),.string (bb (U b1)),.bool (decide (b2=1))]:Value)
 rw[h0,h1,h2]
theorem Wg {a0 a1 b0 b1:Int} (h0:U a0=U b0) (h1:a1=b1):gx [.str,.int .i64 0 21] [a0,a1]=gx [.str,.int .i64 0 21] [b0,b1]:=by
 show(.tuple #[.string (bb (U a0)),.int .i64 a1]:Value)=(.tuple #[.string (bb (U b0)),.int .i64 b1]:Value)
 rw[h0,h1]
theorem anz {a0 a1 a2 b0 b1 b2:Int} (h0:U a0=U b0) (h1:U a1=U b1) (h2:a2=b2):gx [.mix [.str,.str],.int .i64 0 21] [a0,a1,a2]=gx [.mix [.str,.str],.int .i64 0 21] [b0,b1,b2]:=by
 show(.tuple #[.agg #[.string (bb (U a0)),.string (bb (U a1))],.int .i64 a2]:Value)=(.tuple #[.agg #[.string (bb (U b0)),.string (bb (U b1))],.int .i64 b2]:Value)
 rw[h0,h1,h2]
theorem anA {a0 a1 a2 a3 a4 a5 yz b0 b1 b2 b3 b4 b5 yG:Int} (h0:U a0=U b0) (h1:U a1=U b1) (h2:U a2=U b2) (h3:U a3=U b3) (h4:U a4=U b4) (h5:U a5=U b5) (h6:U yz=U yG):gx [.mix [.str,.str,.str,.str,.str,.str,.str]] [a0,a1,a2,a3,a4,a5,yz]=gx [.mix [.str,.str,.str,.str,.str,.str,.str]] [b0,b1,b2,b3,b4,b5,yG]:=by
 show(.agg #[.string (bb (U a0)),.string (bb (U a1)),.string (bb (U a2)),.string (bb (U a3)),.string (bb (U a4)),.string (bb (U a5)),.string (bb (U yz))]:Value)=(.agg #[.string (bb (U b0)),.string (bb (U b1)),.string (bb (U b2)),.string (bb (U b3)),.string (bb (U b4)),.string (bb (U b5)),.string (bb (U yG))]:Value)
 rw[h0,h1,h2,h3,h4,h5,h6]
theorem We {a0 b0:Int} (h0:a0=b0):gx [.int .i64 (-9223372036854775808) 9223372036854775807] [a0]=gx [.int .i64 (-9223372036854775808) 9223372036854775807] [b0]:=by
 show(.int .i64 a0:Value)=(.int .i64 b0:Value)
 rw[h0]
theorem sI {a0 b0:Int} (h0:a0=b0):gx [.int .u32 0 4294967295] [a0]=gx [.int .u32 0 4294967295] [b0]:=by
 show(.int .u32 a0:Value)=(.int .u32 b0:Value)
 rw[h0]
theorem sJ {a0 b0:Int} (h0:a0=b0):gx [.int .u64 0 18446744073709551615] [a0]=gx [.int .u64 0 18446744073709551615] [b0]:=by
 show(.int .u64 a0:Value)=(.int .u64 b0:Value)
 rw[h0]
theorem aqX:ee n6.args n6.res (cB sh SB 36):=by
 intro zs rs bN hz hr cd h h'
 match zs,rs,bN,hz,hr,cd,h,h' with
 |[z0,ag],[a0],[b0],_,_,_,h,h'=>
  first
   |exact jP (Eq.trans h (Eq.symm h'))
   |(have e:[[a0]]=[[b0]]:=Eq.trans h (Eq.symm h')
     simp only[List.cons.injEq,and_true]at e
     exact jP e)
theorem akJ {wb:World} (hg:bL aU ⟨wb,wb,fun _=>False,fun _=>False,[]⟩):aW wb n6:=by
 refine aR.cf.f (eN (SB:=SB) (sh:=sh) (c:=n6) (cal:=(aO [] [])) (li:=Un) (rounds:=600) (d:=6) (lsh:=UR) (lens:=[1,1]) br (fun _ _ _=>cr aH aH) hg (by kernel_rfl) aqX rfl rfl ?_)
 rw[aqe]
 exact amo
theorem aqZ:ee n7.args n7.res (cB sh SB 37):=by
 intro zs rs bN hz hr cd h h'
 match zs,rs,bN,hz,hr,cd,h,h' with
 |[z0,ag],[a0],[b0],_,_,_,h,h'=>
  first
   |exact jP (Eq.trans h (Eq.symm h'))
   |(have e:[[a0]]=[[b0]]:=Eq.trans h (Eq.symm h')
     simp only[List.cons.injEq,and_true]at e
     exact jP e)
theorem akL {wb:World} (hg:bL aU ⟨wb,wb,fun _=>False,fun _=>False,[]⟩):aW wb n7:=by
 refine aR.cf.f (eN (SB:=SB) (sh:=sh) (c:=n7) (cal:=(aO [] [])) (li:=Uo) (rounds:=600) (d:=6) (lsh:=US) (lens:=[1,1]) br (fun _ _ _=>cr aH aH) hg (by kernel_rfl) aqZ rfl rfl ?_)
 rw[aqg]
 exact amq
theorem aq1:ee rl.args rl.res (cB sh SB 120):=by
 intro zs rs bN hz hr cd h h'
 match zs,rs,bN,hz,hr,cd,h,h' with
 |[z0],[a0],[b0],_,_,_,h,h'=>
  first
   |exact jP (Eq.trans h (Eq.symm h'))
   |(have e:[[a0]]=[[b0]]:=Eq.trans h (Eq.symm h')
     simp only[List.cons.injEq,and_true]at e
     exact jP e)
theorem akN {wb:World} (hg:bL aU ⟨wb,wb,fun _=>False,fun _=>False,[]⟩) (h_tlb:aW wb n6) (h_trb:aW wb n7):aW wb rl:=by
 refine aR.cf.f (eN (SB:=SB) (sh:=sh) (c:=rl) (cal:=(aO [] [n6,n7])) (li:=bE) (rounds:=600) (d:=6) (lsh:=bF) (lens:=[1]) br (fun _ _ _=>cr aH (a6 h_tlb (a6 h_trb aH))) hg (by kernel_rfl) aq1 rfl rfl ?_)
 rw[aqi]
 exact ams
theorem aqV:ee rh.args rh.res (cB sh SB 121):=by
 intro zs rs bN hz hr cd h h'
 match zs,rs,bN,hz,hr,cd,h,h' with
 |[z0],[a0],[b0],_,_,_,h,h'=>
  first
   |exact jP (Eq.trans h (Eq.symm h'))
   |(have e:[[a0]]=[[b0]]:=Eq.trans h (Eq.symm h')
     simp only[List.cons.injEq,and_true]at e
     exact jP e)
theorem akH {wb:World} (hg:bL aU ⟨wb,wb,fun _=>False,fun _=>False,[]⟩) (h_tlb:aW wb n6) (h_trb:aW wb n7):aW wb rh:=by
 refine aR.cf.f (eN (SB:=SB) (sh:=sh) (c:=rh) (cal:=(aO [] [n6,n7])) (li:=bE) (rounds:=600) (d:=6) (lsh:=bF) (lens:=[1]) br (fun _ _ _=>cr aH (a6 h_tlb (a6 h_trb aH))) hg (by kernel_rfl) aqV rfl rfl ?_)
 rw[aqc]
 exact amm
theorem aqp:ee qX.args qX.res (cB sh SB 127):=by
 intro zs rs bN hz hr cd h h'
 match zs,rs,bN,hz,hr,cd,h,h' with
 |[z0],[a0],[b0],_,_,_,h,h'=>
  first
   |exact ix (Eq.trans h (Eq.symm h'))
   |(have e:[[a0]]=[[b0]]:=Eq.trans h (Eq.symm h')
     simp only[List.cons.injEq,and_true]at e
     exact ix e)
theorem ajO {wb:World} (hg:bL aU ⟨wb,wb,fun _=>False,fun _=>False,[]⟩) (h_ibs:aW wb jq):aW wb qX:=by
 refine aR.cf.f (eN (SB:=SB) (sh:=sh) (c:=qX) (cal:=(aO [] [jq])) (li:=bE) (rounds:=600) (d:=6) (lsh:=bF) (lens:=[1]) br (fun _ _ _=>cr aH (a6 h_ibs aH)) hg (by kernel_rfl) aqp rfl rfl ?_)
 rw[ao9]
 exact ali
theorem aqU:ee rf.args rf.res (cB sh SB 122):=by
 intro zs rs bN hz hr cd h h'
 match zs,rs,bN,hz,hr,cd,h,h' with
 |[z0],[a0],[b0],_,_,_,h,h'=>
  first
   |exact jP (Eq.trans h (Eq.symm h'))
   |(have e:[[a0]]=[[b0]]:=Eq.trans h (Eq.symm h')
     simp only[List.cons.injEq,and_true]at e
     exact jP e)
theorem akG {wb:World} (hg:bL aU ⟨wb,wb,fun _=>False,fun _=>False,[]⟩):aW wb rf:=by
 refine aR.cf.f (eN (SB:=SB) (sh:=sh) (c:=rf) (cal:=(aO [] [])) (li:=Ul) (rounds:=600) (d:=6) (lsh:=UP) (lens:=[1]) br (fun _ _ _=>cr aH aH) hg (by kernel_rfl) aqU rfl rfl ?_)
 rw[aqb]
 exact aml
theorem aqr:ee qZ.args qZ.res (cB sh SB 125):=by
 intro zs rs bN hz hr cd h h'
 match zs,rs,bN,hz,hr,cd,h,h' with
 |[z0],[a0,a1,a2],[b0,b1,b2],_,_,_,h,h'=>
  have e:(U a0,U a1,a2)=(U b0,U b1,b2):=Eq.trans h (Eq.symm h')
  simp only[Prod.mk.injEq]at e
  exact Wf e.1 e.2.1 e.2.2
theorem ajU {wb:World} (hg:bL aU ⟨wb,wb,fun _=>False,fun _=>False,[]⟩) (h_ibs:aW wb jq):aW wb qZ:=by
 refine aR.cf.f (eN (SB:=SB) (sh:=sh) (c:=qZ) (cal:=(aO [] [jq])) (li:=bE) (rounds:=600) (d:=6) (lsh:=bF) (lens:=[1]) br (fun _ _ _=>cr aH (a6 h_ibs aH)) hg (by kernel_rfl) aqr rfl rfl ?_)
 rw[apg]
 exact alq
theorem aqs:ee me.args me.res (cB sh SB 126):=by
 intro zs rs bN hz hr cd h h'
 match zs,rs,bN,hz,hr,cd,h,h' with
 |[z0],[a0,a1,a2],[b0,b1,b2],_,_,_,h,h'=>
  have e:(U a0,U a1,a2)=(U b0,U b1,b2):=Eq.trans h (Eq.symm h')
  simp only[Prod.mk.injEq]at e
  exact Wf e.1 e.2.1 e.2.2
theorem ajV {wb:World} (hg:bL aU ⟨wb,wb,fun _=>False,fun _=>False,[]⟩) (h_ibs:aW wb jq):aW wb me:=by
 refine aR.cf.f (eN (SB:=SB) (sh:=sh) (c:=me) (cal:=(aO [] [jq])) (li:=bE) (rounds:=600) (d:=6) (lsh:=bF) (lens:=[1]) br (fun _ _ _=>cr aH (a6 h_ibs aH)) hg (by kernel_rfl) aqs rfl rfl ?_)
 rw[aph]
 exact alr
theorem aqJ:ee q5.args q5.res (cB sh SB 44):=by
 intro zs rs bN hz hr cd h h'
 match zs,rs,bN,hz,hr,cd,h,h' with
 |[z0,ag],[a0],[b0],_,_,_,h,h'=>
  first
   |exact ix (Eq.trans h (Eq.symm h'))
   |(have e:[[a0]]=[[b0]]:=Eq.trans h (Eq.symm h')
     simp only[List.cons.injEq,and_true]at e
     exact ix e)
theorem akg {wb:World} (hg:bL aU ⟨wb,wb,fun _=>False,fun _=>False,[]⟩) (h_ibs:aW wb jq):aW wb q5:=by
 refine aR.cf.f (eN (SB:=SB) (sh:=sh) (c:=q5) (cal:=(aO [] [jq])) (li:=Ua) (rounds:=600) (d:=6) (lsh:=UE) (lens:=[1,1]) br (fun _ _ _=>cr aH (a6 h_ibs aH)) hg (by kernel_rfl) aqJ rfl rfl ?_)
 rw[apK]
 exact alU
theorem aqF:ee kB.args kB.res (cB sh SB 65):=by
 intro zs rs bN hz hr cd h h'
 match zs,rs,bN,hz,hr,cd,h,h' with
 |[z0,ag],[a0],[b0],_,_,_,h,h'=>
  first
   |exact ix (Eq.trans h (Eq.symm h'))
   |(have e:[[a0]]=[[b0]]:=Eq.trans h (Eq.symm h')
     simp only[List.cons.injEq,and_true]at e
     exact ix e)
theorem aka {wb:World} (hg:bL aU ⟨wb,wb,fun _=>False,fun _=>False,[]⟩) (h_ibs:aW wb jq):aW wb kB:=by
 refine aR.cf.f (eN (SB:=SB) (sh:=sh) (c:=kB) (cal:=(aO [] [jq])) (li:=T6) (rounds:=600) (d:=6) (lsh:=UA) (lens:=[1,1]) br (fun _ _ _=>cr aH (a6 h_ibs aH)) hg (by kernel_rfl) aqF rfl rfl ?_)
 rw[apD]
 exact alN
theorem aqH:ee q3.args q3.res (cB sh SB 28):=by
 intro zs rs bN hz hr cd h h'
 match zs,rs,bN,hz,hr,cd,h,h' with
 |[z0],[a0],[b0],_,_,_,h,h'=>
  first
   |exact jP (Eq.trans h (Eq.symm h'))
   |(have e:[[a0]]=[[b0]]:=Eq.trans h (Eq.symm h')
     simp only[List.cons.injEq,and_true]at e
     exact jP e)
theorem akc {wb:World} (hg:bL aU ⟨wb,wb,fun _=>False,fun _=>False,[]⟩):aW wb q3:=by
 refine aR.cf.f (eN (SB:=SB) (sh:=sh) (c:=q3) (cal:=(aO [] [])) (li:=T7) (rounds:=600) (d:=6) (lsh:=UB) (lens:=[1]) br (fun _ _ _=>cr aH aH) hg (by kernel_rfl) aqH rfl rfl ?_)
 rw[apF]
 exact alP
theorem aqW:ee ri.args ri.res (cB sh SB 123):=by
 intro zs rs bN hz hr cd h h'
 match zs,rs,bN,hz,hr,cd,h,h' with
 |[z0],[a0],[b0],_,_,_,h,h'=>
  first
   |exact jP (Eq.trans h (Eq.symm h'))
   |(have e:[[a0]]=[[b0]]:=Eq.trans h (Eq.symm h')
     simp only[List.cons.injEq,and_true]at e
     exact jP e)
theorem akI {wb:World} (hg:bL aU ⟨wb,wb,fun _=>False,fun _=>False,[]⟩):aW wb ri:=by
 refine aR.cf.f (eN (SB:=SB) (sh:=sh) (c:=ri) (cal:=(aO [] [])) (li:=Um) (rounds:=600) (d:=6) (lsh:=UQ) (lens:=[1]) br (fun _ _ _=>cr aH aH) hg (by kernel_rfl) aqW rfl rfl ?_)
 rw[aqd]
 exact amn
theorem aqT:ee re.args re.res (cB sh SB 124):=by
 intro zs rs bN hz hr cd h h'
 match zs,rs,bN,hz,hr,cd,h,h' with
 |[z0],[a0],[b0],_,_,_,h,h'=>
  first
   |exact jP (Eq.trans h (Eq.symm h'))
   |(have e:[[a0]]=[[b0]]:=Eq.trans h (Eq.symm h')
     simp only[List.cons.injEq,and_true]at e
     exact jP e)
theorem akF {wb:World} (hg:bL aU ⟨wb,wb,fun _=>False,fun _=>False,[]⟩):aW wb re:=by
 refine aR.cf.f (eN (SB:=SB) (sh:=sh) (c:=re) (cal:=(aO [] [])) (li:=Uk) (rounds:=600) (d:=6) (lsh:=UO) (lens:=[1]) br (fun _ _ _=>cr aH aH) hg (by kernel_rfl) aqT rfl rfl ?_)
 rw[aqa]
 exact amk
theorem aqE:ee q1.args q1.res (cB sh SB 47):=by
 intro zs rs bN hz hr cd h h'
 match zs,rs,bN,hz,hr,cd,h,h' with
 |[z0],[a0],[b0],_,_,_,h,h'=>
  first
   |exact ix (Eq.trans h (Eq.symm h'))
   |(have e:[[a0]]=[[b0]]:=Eq.trans h (Eq.symm h')
     simp only[List.cons.injEq,and_true]at e
     exact ix e)
theorem aj7 {wb:World} (hg:bL aU ⟨wb,wb,fun _=>False,fun _=>False,[]⟩) (h_cdd:wu wb vG) (h_thost:aW wb ri) (h_tdm:aW wb rf) (h_ionly:aW wb kB):aW wb q1:=by
 refine aR.cf.f (eN (SB:=SB) (sh:=sh) (c:=q1) (cal:=(aO [vG] [ri,rf,kB])) (li:=bE) (rounds:=600) (d:=6) (lsh:=bF) (lens:=[1]) br (fun _ _ _=>cr (a6 h_cdd aH) (a6 h_thost (a6 h_tdm (a6 h_ionly aH)))) hg (by kernel_rfl) aqE rfl rfl ?_)
 rw[apB]
 exact alL
theorem aqR:ee mf.args mf.res (cB sh SB 27):=by
 intro zs rs bN hz hr cd h h'
 match zs,rs,bN,hz,hr,cd,h,h' with
 |[z0],[a0],[b0],_,_,_,h,h'=>
  first
   |exact ix (Eq.trans h (Eq.symm h'))
   |(have e:[[a0]]=[[b0]]:=Eq.trans h (Eq.symm h')
     simp only[List.cons.injEq,and_true]at e
     exact ix e)
theorem akz {wb:World} (hg:bL aU ⟨wb,wb,fun _=>False,fun _=>False,[]⟩) (h_cutcol:aW wb me) (h_host:aW wb q1) (h_tdig:aW wb re) (h_ionly:aW wb kB):aW wb mf:=by
 refine aR.cf.f (eN (SB:=SB) (sh:=sh) (c:=mf) (cal:=(aO [] [me,q1,re,kB])) (li:=bE) (rounds:=600) (d:=6) (lsh:=bF) (lens:=[1]) br (fun _ _ _=>cr aH (a6 h_cutcol (a6 h_host (a6 h_tdig (a6 h_ionly aH))))) hg (by kernel_rfl) aqR rfl rfl ?_)
 rw[ap3]
 exact amd
theorem aqG:ee q2.args q2.res (cB sh SB 24):=by
 intro zs rs bN hz hr cd h h'
 match zs,rs,bN,hz,hr,cd,h,h' with
 |[z0],[a0],[b0],_,_,_,h,h'=>
  first
   |exact ix (Eq.trans h (Eq.symm h'))
   |(have e:[[a0]]=[[b0]]:=Eq.trans h (Eq.symm h')
     simp only[List.cons.injEq,and_true]at e
     exact ix e)
theorem akb {wb:World} (hg:bL aU ⟨wb,wb,fun _=>False,fun _=>False,[]⟩) (h_cdd:wu wb vG) (h_only:aW wb q5) (h_tdot:aW wb rh):aW wb q2:=by
 refine aR.cf.f (eN (SB:=SB) (sh:=sh) (c:=q2) (cal:=(aO [vG] [q5,rh])) (li:=bE) (rounds:=600) (d:=6) (lsh:=bF) (lens:=[1]) br (fun _ _ _=>cr (a6 h_cdd aH) (a6 h_only (a6 h_tdot aH))) hg (by kernel_rfl) aqG rfl rfl ?_)
 rw[apE]
 exact alO
theorem aqt:ee q0.args q0.res (cB sh SB 10):=by
 intro zs rs bN hz hr cd h h'
 match zs,rs,bN,hz,hr,cd,h,h' with
 |[z0],[a0,a1],[b0,b1],_,_,_,h,h'=>
  have e:(U a0,a1)=(U b0,b1):=Eq.trans h (Eq.symm h')
  simp only[Prod.mk.injEq]at e
  exact Wg e.1 e.2
theorem ajW {wb:World} (hg:bL aU ⟨wb,wb,fun _=>False,fun _=>False,[]⟩) (h_tsp:aW wb rl) (h_cutat:aW wb qZ) (h_local:aW wb q2) (h_cdot:aW wb qX) (h_server:aW wb mf) (h_low:aW wb q3) (h_ibs:aW wb jq):aW wb q0:=by
 refine aR.cf.f (eN (SB:=SB) (sh:=sh) (c:=q0) (cal:=(aO [] [rl,qZ,q2,qX,mf,q3,jq])) (li:=bE) (rounds:=600) (d:=6) (lsh:=bF) (lens:=[1]) br (fun _ _ _=>cr aH (a6 h_tsp (a6 h_cutat (a6 h_local (a6 h_cdot (a6 h_server (a6 h_low (a6 h_ibs aH)))))))) hg (by kernel_rfl) aqt rfl rfl ?_)
 rw[apk]
 exact alv
theorem aqY:ee rj.args rj.res (cB sh SB 34):=by
 intro zs rs bN hz hr cd h h'
 match zs,rs,bN,hz,hr,cd,h,h' with
 |[z0,ag],[a0],[b0],_,_,_,h,h'=>
  first
   |exact jP (Eq.trans h (Eq.symm h'))
   |(have e:[[a0]]=[[b0]]:=Eq.trans h (Eq.symm h')
     simp only[List.cons.injEq,and_true]at e
     exact jP e)
theorem akK {wb:World} (hg:bL aU ⟨wb,wb,fun _=>False,fun _=>False,[]⟩):aW wb rj:=by
 refine aR.cf.f (eN (SB:=SB) (sh:=sh) (c:=rj) (cal:=(aO [] [])) (li:=bE) (rounds:=600) (d:=6) (lsh:=bF) (lens:=[1,1]) br (fun _ _ _=>cr aH aH) hg (by kernel_rfl) aqY rfl rfl ?_)
 rw[aqf]
 exact amp
theorem aqK:ee zI.args zI.res (cB sh SB 12):=by
 intro zs rs bN hz hr cd h h'
 match zs,rs,bN,hz,hr,cd,h,h' with
 |[z0,ag],[a0,a1],[b0,b1],_,_,_,h,h'=>
  have e:(U a0,a1)=(U b0,b1):=Eq.trans h (Eq.symm h')
  simp only[Prod.mk.injEq]at e
  exact Wg e.1 e.2
theorem ako {wb:World} (hg:bL aU ⟨wb,wb,fun _=>False,fun _=>False,[]⟩) (h_country:aW wb CX) (h_bare:aW wb CV) (h_tpre:aW wb rj):wu wb vH:=by
 refine amV (SB:=SB) (sh:=sh) (q:=vH) (cal:=(aO [] [CX,CV,rj])) (li:=bE) (rounds:=600) (d:=6) (lsh:=bF) (lens:=[1,1]) br (fun _ _ _=>cr aH (a6 h_country (a6 h_bare (a6 h_tpre aH)))) hg (by kernel_rfl) aqK rfl rfl ?_
 rw[show vH.c=zI from rfl,apS]
 exact al2
theorem aqI:ee q4.args q4.res (cB sh SB 15):=by
 intro zs rs bN hz hr cd h h'
 match zs,rs,bN,hz,hr,cd,h,h' with
 |[z0,ag],[a0,a1,a2],[b0,b1,b2],_,_,_,h,h'=>
  have e:(U a0,U a1,a2)=(U b0,U b1,b2):=Eq.trans h (Eq.symm h')
  simp only[Prod.mk.injEq]at e
  exact anz e.1 e.2.1 e.2.2
theorem ake {wb:World} (hg:bL aU ⟨wb,wb,fun _=>False,fun _=>False,[]⟩) (h_phone:wu wb vH) (h_email:aW wb q0):aW wb q4:=by
 refine aR.cf.f (eN (SB:=SB) (sh:=sh) (c:=q4) (cal:=(aO [vH] [q0])) (li:=bE) (rounds:=600) (d:=6) (lsh:=bF) (lens:=[1,1]) br (fun _ _ _=>cr (a6 h_phone aH) (a6 h_email aH)) hg (by kernel_rfl) aqI rfl rfl ?_)
 rw[apH]
 exact alR
theorem aqP:ee ra.args ra.res (cB sh SB 16):=by
 intro zs rs bN hz hr cd h h'
 match zs,rs,bN,hz,hr,cd,h,h' with
 |[z0,ag],[a0],[b0],_,_,_,h,h'=>
  first
   |exact ix (Eq.trans h (Eq.symm h'))
   |(have e:[[a0]]=[[b0]]:=Eq.trans h (Eq.symm h')
     simp only[List.cons.injEq,and_true]at e
     exact ix e)
theorem akx {wb:World} (hg:bL aU ⟨wb,wb,fun _=>False,fun _=>False,[]⟩) (h_make:aW wb q4):aW wb ra:=by
 refine aR.cf.f (eN (SB:=SB) (sh:=sh) (c:=ra) (cal:=(aO [] [q4])) (li:=bE) (rounds:=600) (d:=6) (lsh:=bF) (lens:=[2]) br (fun _ _ _=>cr aH (a6 h_make aH)) hg (by kernel_rfl) aqP rfl rfl ?_)
 rw[ap1]
 exact amb
theorem aq2:ee rm.args rm.res (cB sh SB 202):=by
 intro zs rs bN hz hr cd h h'
 match zs,rs,bN,hz,hr,cd,h,h' with
 |[z0],[a0],[b0],_,_,_,h,h'=>
  first
   |exact jP (Eq.trans h (Eq.symm h'))
   |(have e:[[a0]]=[[b0]]:=Eq.trans h (Eq.symm h')
     simp only[List.cons.injEq,and_true]at e
     exact jP e)
theorem akO {wb:World} (hg:bL aU ⟨wb,wb,fun _=>False,fun _=>False,[]⟩):aW wb rm:=by
 refine aR.cf.f (eN (SB:=SB) (sh:=sh) (c:=rm) (cal:=(aO [] [])) (li:=Uq) (rounds:=600) (d:=6) (lsh:=UU) (lens:=[1]) br (fun _ _ _=>cr aH aH) hg (by kernel_rfl) aq2 rfl rfl ?_)
 rw[aqj]
 exact amt
theorem aq0:ee rk.args rk.res (cB sh SB 203):=by
 intro zs rs bN hz hr cd h h'
 match zs,rs,bN,hz,hr,cd,h,h' with
 |[z0],[a0],[b0],_,_,_,h,h'=>
  first
   |exact jP (Eq.trans h (Eq.symm h'))
   |(have e:[[a0]]=[[b0]]:=Eq.trans h (Eq.symm h')
     simp only[List.cons.injEq,and_true]at e
     exact jP e)
theorem akM {wb:World} (hg:bL aU ⟨wb,wb,fun _=>False,fun _=>False,[]⟩):aW wb rk:=by
 refine aR.cf.f (eN (SB:=SB) (sh:=sh) (c:=rk) (cal:=(aO [] [])) (li:=Up) (rounds:=600) (d:=6) (lsh:=UT) (lens:=[1]) br (fun _ _ _=>cr aH aH) hg (by kernel_rfl) aq0 rfl rfl ?_)
 rw[aqh]
 exact amr
theorem aq3:ee n9.args n9.res (cB sh SB 200):=by
 intro zs rs bN hz hr cd h h'
 match zs,rs,bN,hz,hr,cd,h,h' with
 |[z0],[a0],[b0],_,_,_,h,h'=>
  first
   |exact ix (Eq.trans h (Eq.symm h'))
   |(have e:[[a0]]=[[b0]]:=Eq.trans h (Eq.symm h')
     simp only[List.cons.injEq,and_true]at e
     exact ix e)
theorem akP {wb:World} (hg:bL aU ⟨wb,wb,fun _=>False,fun _=>False,[]⟩) (h_cutcol:aW wb me) (h_tus:aW wb rm) (h_ionly:aW wb kB) (h_server:aW wb mf):aW wb n9:=by
 refine aR.cf.f (eN (SB:=SB) (sh:=sh) (c:=n9) (cal:=(aO [] [me,rm,kB,mf])) (li:=bE) (rounds:=600) (d:=6) (lsh:=bF) (lens:=[1]) br (fun _ _ _=>cr aH (a6 h_cutcol (a6 h_tus (a6 h_ionly (a6 h_server aH))))) hg (by kernel_rfl) aq3 rfl rfl ?_)
 rw[aql]
 exact amv
theorem aqQ:ee rb.args rb.res (cB sh SB 201):=by
 intro zs rs bN hz hr cd h h'
 match zs,rs,bN,hz,hr,cd,h,h' with
 |[z0],[a0],[b0],_,_,_,h,h'=>
  first
   |exact ix (Eq.trans h (Eq.symm h'))
   |(have e:[[a0]]=[[b0]]:=Eq.trans h (Eq.symm h')
     simp only[List.cons.injEq,and_true]at e
     exact ix e)
theorem aky {wb:World} (hg:bL aU ⟨wb,wb,fun _=>False,fun _=>False,[]⟩) (h_cutcol:aW wb me) (h_trs:aW wb rk) (h_ionly:aW wb kB) (h_server:aW wb mf):aW wb rb:=by
 refine aR.cf.f (eN (SB:=SB) (sh:=sh) (c:=rb) (cal:=(aO [] [me,rk,kB,mf])) (li:=bE) (rounds:=600) (d:=6) (lsh:=bF) (lens:=[1]) br (fun _ _ _=>cr aH (a6 h_cutcol (a6 h_trs (a6 h_ionly (a6 h_server aH))))) hg (by kernel_rfl) aqQ rfl rfl ?_)
 rw[ap2]
 exact amc
theorem aqN:ee q7.args q7.res (cB sh SB 400):=by
 intro zs rs bN hz hr cd h h'
 match zs,rs,bN,hz,hr,cd,h,h' with
 |[z0],[a0],[b0],_,_,_,h,h'=>
  first
   |exact ix (Eq.trans h (Eq.symm h'))
   |(have e:[[a0]]=[[b0]]:=Eq.trans h (Eq.symm h')
     simp only[List.cons.injEq,and_true]at e
     exact ix e)
theorem akt {wb:World} (hg:bL aU ⟨wb,wb,fun _=>False,fun _=>False,[]⟩):aW wb q7:=by
 refine aR.cf.f (eN (SB:=SB) (sh:=sh) (c:=q7) (cal:=(aO [] [])) (li:=Uf) (rounds:=600) (d:=6) (lsh:=UJ) (lens:=[1]) br (fun _ _ _=>cr aH aH) hg (by kernel_rfl) aqN rfl rfl ?_)
 rw[apW]
 exact al6
theorem aqq:ee qY.args qY.res (cB sh SB 501):=by
 intro zs rs bN hz hr cd h h'
 match zs,rs,bN,hz,hr,cd,h,h' with
 |[z0],[a0],[b0],_,_,_,h,h'=>
  first
   |exact ix (Eq.trans h (Eq.symm h'))
   |(have e:[[a0]]=[[b0]]:=Eq.trans h (Eq.symm h')
     simp only[List.cons.injEq,and_true]at e
     exact ix e)
theorem ajT {wb:World} (hg:bL aU ⟨wb,wb,fun _=>False,fun _=>False,[]⟩) (h_ibs:aW wb jq):aW wb qY:=by
 refine aR.cf.f (eN (SB:=SB) (sh:=sh) (c:=qY) (cal:=(aO [] [jq])) (li:=bE) (rounds:=600) (d:=6) (lsh:=bF) (lens:=[1]) br (fun _ _ _=>cr aH (a6 h_ibs aH)) hg (by kernel_rfl) aqq rfl rfl ?_)
 rw[apf]
 exact alp
theorem aqO:ee q8.args q8.res (cB sh SB 600):=by
 intro zs rs bN hz hr cd h h'
 match zs,rs,bN,hz,hr,cd,h,h' with
 |[z0],[a0],[b0],_,_,_,h,h'=>
  first
   |exact ix (Eq.trans h (Eq.symm h'))
   |(have e:[[a0]]=[[b0]]:=Eq.trans h (Eq.symm h')
     simp only[List.cons.injEq,and_true]at e
     exact ix e)
theorem aku {wb:World} (hg:bL aU ⟨wb,wb,fun _=>False,fun _=>False,[]⟩) (h_print:aW wb q7) (h_csp:aW wb qY):aW wb q8:=by
 refine aR.cf.f (eN (SB:=SB) (sh:=sh) (c:=q8) (cal:=(aO [] [q7,qY])) (li:=bE) (rounds:=600) (d:=6) (lsh:=bF) (lens:=[1]) br (fun _ _ _=>cr aH (a6 h_print (a6 h_csp aH))) hg (by kernel_rfl) aqO rfl rfl ?_)
 rw[apX]
 exact al7
theorem aqM:ee n4.args n4.res (cB sh SB 601):=by
 intro zs rs bN hz hr cd h h'
 match zs,rs,bN,hz,hr,cd,h,h' with
 |[z0,ag,z2,z3,z4,z5,ao],[a0],[b0],_,_,_,h,h'=>
  first
   |exact ix (Eq.trans h (Eq.symm h'))
   |(have e:[[a0]]=[[b0]]:=Eq.trans h (Eq.symm h')
     simp only[List.cons.injEq,and_true]at e
     exact ix e)
theorem aks {wb:World} (hg:bL aU ⟨wb,wb,fun _=>False,fun _=>False,[]⟩) (h_ptok:aW wb q8) (h_right:aW wb ra) (h_user:aW wb n9) (h_room:aW wb rb):aW wb n4:=by
 refine aR.cf.f (eN (SB:=SB) (sh:=sh) (c:=n4) (cal:=(aO [] [q8,ra,n9,rb])) (li:=bE) (rounds:=600) (d:=6) (lsh:=bF) (lens:=[7]) br (fun _ _ _=>cr aH (a6 h_ptok (a6 h_right (a6 h_user (a6 h_room aH))))) hg (by kernel_rfl) aqM rfl rfl ?_)
 rw[apV]
 exact al5
theorem aki {wb:World} (hg:bL aU ⟨wb,wb,fun _=>False,fun _=>False,[]⟩) (h_pright:aW wb n4):fC wb np:=by
 refine py (SB:=SB) (sh:=sh) (c:=np) (bcs:=[]) (cal:=(aO [] [n4])) (li:=Ub) (rounds:=600) (d:=6) (lsh:=UF) (lens:=[1]) br (fun _ _ _=>cr aH (a6 h_pright aH)) hg aH (by kernel_rfl) rfl rfl ?_
 rw[apM]
 exact alW
theorem akr {wb:World} (hg:bL aU ⟨wb,wb,fun _=>False,fun _=>False,[]⟩) (h_cmps:aW wb CW):fC wb tJ:=by
 refine py (SB:=SB) (sh:=sh) (c:=tJ) (bcs:=[]) (cal:=(aO [] [CW])) (li:=Ue) (rounds:=600) (d:=6) (lsh:=UI) (lens:=[1,1]) br (fun _ _ _=>cr aH (a6 h_cmps aH)) hg aH (by kernel_rfl) rfl rfl ?_
 rw[apU]
 exact al4
theorem akn {wb:World} (hg:bL aU ⟨wb,wb,fun _=>False,fun _=>False,[]⟩):fC wb pW:=by
 refine py (SB:=SB) (sh:=sh) (c:=pW) (bcs:=[]) (cal:=(aO [] [])) (li:=bE) (rounds:=600) (d:=6) (lsh:=bF) (lens:=[1]) br (fun _ _ _=>cr aH aH) hg aH (by kernel_rfl) rfl rfl ?_
 rw[apR]
 exact al1
theorem akk {wb:World} (hg:bL aU ⟨wb,wb,fun _=>False,fun _=>False,[]⟩) (h_pright:aW wb n4) (h_pRight:fC wb np) (h_pplace:fC wb tJ) (h_pclone:fC wb pW) (h_pins:PN wb dV):fC wb tH:=by
 refine Iw (SB:=SB) (sh:=sh) (c:=tH) (bc:=(CP [dV] (fT [np,tJ,pW]))) (cal:=(aO [] [n4])) (li:=bE) (rounds:=600) (d:=6) (lsh:=bF) (lens:=[1,7]) br (fun _ _ _=>cr aH (a6 h_pright aH)) hg (fun _ _ _=>TC (ta (a6 h_pRight (a6 h_pplace (a6 h_pclone aH)))) (a6 h_pins aH)) (by kernel_rfl) rfl rfl ?_
 rw[apO]
 exact alY
theorem akj {wb:World} (hg:bL aU ⟨wb,wb,fun _=>False,fun _=>False,[]⟩) (h_user:aW wb n9) (h_pRight:fC wb np) (h_pclone:fC wb pW):fC wb o6:=by
 refine py (SB:=SB) (sh:=sh) (c:=o6) (bcs:=[np,pW]) (cal:=(aO [] [n9])) (li:=Uc) (rounds:=600) (d:=6) (lsh:=UG) (lens:=[1,2,1]) br (fun _ _ _=>cr aH (a6 h_user aH)) hg (a6 h_pRight (a6 h_pclone aH)) (by kernel_rfl) rfl rfl ?_
 rw[apN]
 exact alX
theorem aqL:ee q6.args q6.res (cB sh SB 608):=by
 intro zs rs bN hz hr cd h h'
 match zs,rs,bN,hz,hr,cd,h,h' with
 |[],[a0,a1,a2,a3,a4,a5,yz],[b0,b1,b2,b3,b4,b5,yG],_,_,_,h,h'=>
  have h:[a0,a1,a2,a3,a4,a5,yz]=oa:=h
  have h':[b0,b1,b2,b3,b4,b5,yG]=oa:=h'
  have e:=h.trans h'.symm
  simp only[List.cons.injEq,and_true]at e
  exact anA (congrArg U e.1) (congrArg U e.2.1) (congrArg U e.2.2.1) (congrArg U e.2.2.2.1) (congrArg U e.2.2.2.2.1) (congrArg U e.2.2.2.2.2.1) (congrArg U e.2.2.2.2.2.2)
theorem akq {wb:World} (hg:bL aU ⟨wb,wb,fun _=>False,fun _=>False,[]⟩):aW wb q6:=by
 refine aR.cf.f (eN (SB:=SB) (sh:=sh) (c:=q6) (cal:=(aO [] [])) (li:=bE) (rounds:=600) (d:=6) (lsh:=bF) (lens:=[]) br (fun _ _ _=>cr aH aH) hg (by kernel_rfl) aqL rfl rfl ?_)
 rw[apT]
 exact al3
theorem akw {wb:World} (hg:bL aU ⟨wb,wb,fun _=>False,fun _=>False,[]⟩):fC wb sn:=by
 refine py (SB:=SB) (sh:=sh) (c:=sn) (bcs:=[]) (cal:=(aO [] [])) (li:=Ug) (rounds:=600) (d:=6) (lsh:=UK) (lens:=[1,1]) br (fun _ _ _=>cr aH aH) hg aH (by kernel_rfl) rfl rfl ?_
 rw[apZ]
 exact al9
theorem aqS:ee n5.args n5.res (cB sh SB 440):=by
 intro zs rs bN hz hr cd h h'
 match zs,rs,bN,hz,hr,cd,h,h' with
 |[z0,ag],[a0],[b0],_,_,_,h,h'=>
  first
   |exact We (Eq.trans h (Eq.symm h'))
   |(have e:[[a0]]=[[b0]]:=Eq.trans h (Eq.symm h')
     simp only[List.cons.injEq,and_true]at e
     exact We e)
theorem akA {wb:World} (hg:bL aU ⟨wb,wb,fun _=>False,fun _=>False,[]⟩):aW wb n5:=by
 refine aR.cf.f (eN (SB:=SB) (sh:=sh) (c:=n5) (cal:=(aO [] [])) (li:=bE) (rounds:=600) (d:=6) (lsh:=bF) (lens:=[1,1]) br (fun _ _ _=>cr aH aH) hg (by kernel_rfl) aqS rfl rfl ?_)
 rw[ap4]
 exact ame
theorem aqu:ee oU.args oU.res (cB sh SB 444):=by
 intro zs rs bN hz hr cd h h'
 match zs,rs,bN,hz,hr,cd,h,h' with
 |[z0],[a0],[b0],_,_,_,h,h'=>
  first
   |exact sI (Eq.trans h (Eq.symm h'))
   |(have e:[[a0]]=[[b0]]:=Eq.trans h (Eq.symm h')
     simp only[List.cons.injEq,and_true]at e
     exact sI e)
theorem ajX {wb:World} (hg:bL aU ⟨wb,wb,fun _=>False,fun _=>False,[]⟩):aW wb oU:=by
 refine aR.cf.f (eN (SB:=SB) (sh:=sh) (c:=oU) (cal:=(aO [] [])) (li:=bE) (rounds:=600) (d:=6) (lsh:=bF) (lens:=[1]) br (fun _ _ _=>cr aH aH) hg (by kernel_rfl) aqu rfl rfl ?_)
 rw[apr]
 exact alB
theorem aqw:ee oW.args oW.res (cB sh SB 445):=by
 intro zs rs bN hz hr cd h h'
 match zs,rs,bN,hz,hr,cd,h,h' with
 |[z0],[a0],[b0],_,_,_,h,h'=>
  first
   |exact sI (Eq.trans h (Eq.symm h'))
   |(have e:[[a0]]=[[b0]]:=Eq.trans h (Eq.symm h')
     simp only[List.cons.injEq,and_true]at e
     exact sI e)
theorem ajZ {wb:World} (hg:bL aU ⟨wb,wb,fun _=>False,fun _=>False,[]⟩):aW wb oW:=by
 refine aR.cf.f (eN (SB:=SB) (sh:=sh) (c:=oW) (cal:=(aO [] [])) (li:=bE) (rounds:=600) (d:=6) (lsh:=bF) (lens:=[1]) br (fun _ _ _=>cr aH aH) hg (by kernel_rfl) aqw rfl rfl ?_)
 rw[apt]
 exact alD
theorem aqy:ee oY.args oY.res (cB sh SB 446):=by
 intro zs rs bN hz hr cd h h'
 match zs,rs,bN,hz,hr,cd,h,h' with
 |[z0],[a0],[b0],_,_,_,h,h'=>
  first
   |exact sI (Eq.trans h (Eq.symm h'))
   |(have e:[[a0]]=[[b0]]:=Eq.trans h (Eq.symm h')
     simp only[List.cons.injEq,and_true]at e
     exact sI e)
theorem aj1 {wb:World} (hg:bL aU ⟨wb,wb,fun _=>False,fun _=>False,[]⟩):aW wb oY:=by
 refine aR.cf.f (eN (SB:=SB) (sh:=sh) (c:=oY) (cal:=(aO [] [])) (li:=bE) (rounds:=600) (d:=6) (lsh:=bF) (lens:=[1]) br (fun _ _ _=>cr aH aH) hg (by kernel_rfl) aqy rfl rfl ?_)
 rw[apv]
 exact alF
theorem aqA:ee o0.args o0.res (cB sh SB 447):=by
 intro zs rs bN hz hr cd h h'
 match zs,rs,bN,hz,hr,cd,h,h' with
 |[z0],[a0],[b0],_,_,_,h,h'=>
  first
   |exact sI (Eq.trans h (Eq.symm h'))
   |(have e:[[a0]]=[[b0]]:=Eq.trans h (Eq.symm h')
     simp only[List.cons.injEq,and_true]at e
     exact sI e)
theorem aj3 {wb:World} (hg:bL aU ⟨wb,wb,fun _=>False,fun _=>False,[]⟩):aW wb o0:=by
 refine aR.cf.f (eN (SB:=SB) (sh:=sh) (c:=o0) (cal:=(aO [] [])) (li:=bE) (rounds:=600) (d:=6) (lsh:=bF) (lens:=[1]) br (fun _ _ _=>cr aH aH) hg (by kernel_rfl) aqA rfl rfl ?_)
 rw[apx]
 exact alH
theorem aqv:ee oV.args oV.res (cB sh SB 448):=by
 intro zs rs bN hz hr cd h h'
 match zs,rs,bN,hz,hr,cd,h,h' with
 |[z0],[a0],[b0],_,_,_,h,h'=>
  first
   |exact sJ (Eq.trans h (Eq.symm h'))
   |(have e:[[a0]]=[[b0]]:=Eq.trans h (Eq.symm h')
     simp only[List.cons.injEq,and_true]at e
     exact sJ e)
theorem ajY {wb:World} (hg:bL aU ⟨wb,wb,fun _=>False,fun _=>False,[]⟩):aW wb oV:=by
 refine aR.cf.f (eN (SB:=SB) (sh:=sh) (c:=oV) (cal:=(aO [] [])) (li:=bE) (rounds:=600) (d:=6) (lsh:=bF) (lens:=[1]) br (fun _ _ _=>cr aH aH) hg (by kernel_rfl) aqv rfl rfl ?_)
 rw[aps]
 exact alC
theorem aqx:ee oX.args oX.res (cB sh SB 449):=by
 intro zs rs bN hz hr cd h h'
 match zs,rs,bN,hz,hr,cd,h,h' with
 |[z0],[a0],[b0],_,_,_,h,h'=>
  first
   |exact sJ (Eq.trans h (Eq.symm h'))
   |(have e:[[a0]]=[[b0]]:=Eq.trans h (Eq.symm h')
     simp only[List.cons.injEq,and_true]at e
     exact sJ e)
theorem aj0 {wb:World} (hg:bL aU ⟨wb,wb,fun _=>False,fun _=>False,[]⟩):aW wb oX:=by
 refine aR.cf.f (eN (SB:=SB) (sh:=sh) (c:=oX) (cal:=(aO [] [])) (li:=bE) (rounds:=600) (d:=6) (lsh:=bF) (lens:=[1]) br (fun _ _ _=>cr aH aH) hg (by kernel_rfl) aqx rfl rfl ?_)
 rw[apu]
 exact alE
theorem aqz:ee oZ.args oZ.res (cB sh SB 450):=by
 intro zs rs bN hz hr cd h h'
 match zs,rs,bN,hz,hr,cd,h,h' with
 |[z0],[a0],[b0],_,_,_,h,h'=>
  first
   |exact sJ (Eq.trans h (Eq.symm h'))
   |(have e:[[a0]]=[[b0]]:=Eq.trans h (Eq.symm h')
     simp only[List.cons.injEq,and_true]at e
     exact sJ e)
theorem aj2 {wb:World} (hg:bL aU ⟨wb,wb,fun _=>False,fun _=>False,[]⟩):aW wb oZ:=by
 refine aR.cf.f (eN (SB:=SB) (sh:=sh) (c:=oZ) (cal:=(aO [] [])) (li:=bE) (rounds:=600) (d:=6) (lsh:=bF) (lens:=[1]) br (fun _ _ _=>cr aH aH) hg (by kernel_rfl) aqz rfl rfl ?_)
 rw[apw]
 exact alG
theorem aqB:ee o3.args o3.res (cB sh SB 451):=by
 intro zs rs bN hz hr cd h h'
 match zs,rs,bN,hz,hr,cd,h,h' with
 |[z0],[a0],[b0],_,_,_,h,h'=>
  first
   |exact sJ (Eq.trans h (Eq.symm h'))
   |(have e:[[a0]]=[[b0]]:=Eq.trans h (Eq.symm h')
     simp only[List.cons.injEq,and_true]at e
     exact sJ e)
theorem aj4 {wb:World} (hg:bL aU ⟨wb,wb,fun _=>False,fun _=>False,[]⟩):aW wb o3:=by
 refine aR.cf.f (eN (SB:=SB) (sh:=sh) (c:=o3) (cal:=(aO [] [])) (li:=bE) (rounds:=600) (d:=6) (lsh:=bF) (lens:=[1]) br (fun _ _ _=>cr aH aH) hg (by kernel_rfl) aqB rfl rfl ?_)
 rw[apy]
 exact alI
theorem akB {wb:World} (hg:bL aU ⟨wb,wb,fun _=>False,fun _=>False,[]⟩) (h_spad:aW wb n5):fC wb tL:=by
 refine py (SB:=SB) (sh:=sh) (c:=tL) (bcs:=[]) (cal:=(aO [] [n5])) (li:=Ui) (rounds:=600) (d:=6) (lsh:=UM) (lens:=[1]) br (fun _ _ _=>cr aH (a6 h_spad aH)) hg aH (by kernel_rfl) rfl rfl ?_
 rw[ap5]
 exact amf
theorem akC {wb:World} (hg:bL aU ⟨wb,wb,fun _=>False,fun _=>False,[]⟩) (h_spad:aW wb n5):fC wb tM:=by
 refine py (SB:=SB) (sh:=sh) (c:=tM) (bcs:=[]) (cal:=(aO [] [n5])) (li:=Uj) (rounds:=600) (d:=6) (lsh:=UN) (lens:=[1]) br (fun _ _ _=>cr aH (a6 h_spad aH)) hg aH (by kernel_rfl) rfl rfl ?_
 rw[ap6]
 exact amg
theorem aqC:ee o4.args o4.res (cB sh SB 466):=by
 intro zs rs bN hz hr cd h h'
 match zs,rs,bN,hz,hr,cd,h,h' with
 |[z0],[a0],[b0],_,_,_,h,h'=>
  first
   |exact sI (Eq.trans h (Eq.symm h'))
   |(have e:[[a0]]=[[b0]]:=Eq.trans h (Eq.symm h')
     simp only[List.cons.injEq,and_true]at e
     exact sI e)
theorem aj5 {wb:World} (hg:bL aU ⟨wb,wb,fun _=>False,fun _=>False,[]⟩):aW wb o4:=by
 refine aR.cf.f (eN (SB:=SB) (sh:=sh) (c:=o4) (cal:=(aO [] [])) (li:=bE) (rounds:=600) (d:=6) (lsh:=bF) (lens:=[1]) br (fun _ _ _=>cr aH aH) hg (by kernel_rfl) aqC rfl rfl ?_)
 rw[apz]
 exact alJ
theorem aqD:ee o5.args o5.res (cB sh SB 467):=by
 intro zs rs bN hz hr cd h h'
 match zs,rs,bN,hz,hr,cd,h,h' with
 |[z0],[a0],[b0],_,_,_,h,h'=>
  first
   |exact sJ (Eq.trans h (Eq.symm h'))
   |(have e:[[a0]]=[[b0]]:=Eq.trans h (Eq.symm h')
     simp only[List.cons.injEq,and_true]at e
     exact sJ e)
theorem aj6 {wb:World} (hg:bL aU ⟨wb,wb,fun _=>False,fun _=>False,[]⟩):aW wb o5:=by
 refine aR.cf.f (eN (SB:=SB) (sh:=sh) (c:=o5) (cal:=(aO [] [])) (li:=bE) (rounds:=600) (d:=6) (lsh:=bF) (lens:=[1]) br (fun _ _ _=>cr aH aH) hg (by kernel_rfl) aqD rfl rfl ?_)
 rw[apA]
 exact alK
theorem ajP {wb:World} (hg:bL aU ⟨wb,wb,fun _=>False,fun _=>False,[]⟩):fC wb tF:=by
 refine py (SB:=SB) (sh:=sh) (c:=tF) (bcs:=[]) (cal:=(aO [] [])) (li:=bE) (rounds:=600) (d:=6) (lsh:=bF) (lens:=[1]) br (fun _ _ _=>cr aH aH) hg aH (by kernel_rfl) rfl rfl ?_
 rw[apa]
 exact alj
theorem ajQ {wb:World} (hg:bL aU ⟨wb,wb,fun _=>False,fun _=>False,[]⟩):fC wb tG:=by
 refine py (SB:=SB) (sh:=sh) (c:=tG) (bcs:=[]) (cal:=(aO [] [])) (li:=bE) (rounds:=600) (d:=6) (lsh:=bF) (lens:=[1]) br (fun _ _ _=>cr aH aH) hg aH (by kernel_rfl) rfl rfl ?_
 rw[apb]
 exact alk
theorem ajK {wb:World} (hg:bL aU ⟨wb,wb,fun _=>False,fun _=>False,[]⟩) (h_gk_32:aW wb o4) (h_g2_32:aW wb oU) (h_g3_32:aW wb oW) (h_g4_32:aW wb oY) (h_g5_32:aW wb o0) (h_cl32:fC wb tF):yx wb vJ:=by
 refine V1 (SB:=SB) (sh:=sh) (p:=vJ) (lsh:=Uy) (lens:=[1]) (inl:=(yM Tryz.prog aU (aO [] [o4,oU,oW,oY,o0]) (uN (fT [tF]) Tryz.prog aU (aO [] [o4,oU,oW,oY,o0]) F3 600 6) F3 600 [(1,0,0,4294967295),(1,1,0,4294967295),(1,2,0,4294967295),(1,3,0,4294967295),(1,4,0,4294967295),(1,5,0,4294967295),(1,6,0,4294967295),(1,7,0,4294967295)] 147)) (fun L r ex ro=>Qz SL br (fun _ _ _=>cr aH (a6 h_gk_32 (a6 h_g2_32 (a6 h_g3_32 (a6 h_g4_32 (a6 h_g5_32 aH)))))) (fun g cs h=>hg g cs h) (fun r ex ro=>Bm (w0:=⟨wb,r,ex,ro,[]⟩) rfl br ((fun _ _ _=>cr aH (a6 h_gk_32 (a6 h_g2_32 (a6 h_g3_32 (a6 h_g4_32 (a6 h_g5_32 aH)))))) r ex ro) (fun g cs h=>hg g cs h) (ta (a6 h_cl32 aH)) 6) rfl) (by kernel_rfl) rfl rfl ?_
 rw[show vJ.c=FV from rfl,ao4]
 exact ald
theorem ajL {wb:World} (hg:bL aU ⟨wb,wb,fun _=>False,fun _=>False,[]⟩) (h_gk_64:aW wb o5) (h_g2_64:aW wb oV) (h_g3_64:aW wb oX) (h_g4_64:aW wb oZ) (h_g5_64:aW wb o3) (h_cl64:fC wb tG):yx wb vK:=by
 refine V1 (SB:=SB) (sh:=sh) (p:=vK) (lsh:=Uz) (lens:=[1]) (inl:=(yM Tryz.prog aU (aO [] [o5,oV,oX,oZ,o3]) (uN (fT [tG]) Tryz.prog aU (aO [] [o5,oV,oX,oZ,o3]) F4 600 6) F4 600 [(1,0,0,18446744073709551615),(1,1,0,18446744073709551615),(1,2,0,18446744073709551615),(1,3,0,18446744073709551615),(1,4,0,18446744073709551615),(1,5,0,18446744073709551615),(1,6,0,18446744073709551615),(1,7,0,18446744073709551615)] 147)) (fun L r ex ro=>Qz SL br (fun _ _ _=>cr aH (a6 h_gk_64 (a6 h_g2_64 (a6 h_g3_64 (a6 h_g4_64 (a6 h_g5_64 aH)))))) (fun g cs h=>hg g cs h) (fun r ex ro=>Bm (w0:=⟨wb,r,ex,ro,[]⟩) rfl br ((fun _ _ _=>cr aH (a6 h_gk_64 (a6 h_g2_64 (a6 h_g3_64 (a6 h_g4_64 (a6 h_g5_64 aH)))))) r ex ro) (fun g cs h=>hg g cs h) (ta (a6 h_cl64 aH)) 6) rfl) (by kernel_rfl) rfl rfl ?_
 rw[show vK.c=FW from rfl,ao5]
 exact ale
theorem akD {wb:World} (hg:bL aU ⟨wb,wb,fun _=>False,fun _=>False,[]⟩) (h_spd32:fC wb tL) (h_sj32:uF wb Df) (h_all32:yx wb vJ):uF wb vC:=by
 refine VK (SB:=SB) (sh:=sh) (p:=vC) (bc:=(xU [vJ] (od [Df] (fT [tL])))) (cal:=(aO [] [])) (li:=bE) (rounds:=600) (d:=6) (lsh:=bF) (lens:=[1]) br (fun _ _ _=>cr aH aH) hg (fun _ _ _ _=>(Mu (z1 (ta (a6 h_spd32 aH)) (a6 h_sj32 aH)) (a6 h_all32 aH))) (by kernel_rfl) rfl rfl ?_
 rw[show vC.c=FX from rfl,ap8]
 exact ami
theorem akE {wb:World} (hg:bL aU ⟨wb,wb,fun _=>False,fun _=>False,[]⟩) (h_spd64:fC wb tM) (h_sj64:uF wb Dg) (h_all64:yx wb vK):uF wb vD:=by
 refine VK (SB:=SB) (sh:=sh) (p:=vD) (bc:=(xU [vK] (od [Dg] (fT [tM])))) (cal:=(aO [] [])) (li:=bE) (rounds:=600) (d:=6) (lsh:=bF) (lens:=[1]) br (fun _ _ _=>cr aH aH) hg (fun _ _ _ _=>(Mu (z1 (ta (a6 h_spd64 aH)) (a6 h_sj64 aH)) (a6 h_all64 aH))) (by kernel_rfl) rfl rfl ?_
 rw[show vD.c=FY from rfl,ap9]
 exact amj
end Go.ck

set_option linter.unusedVariables false
set_option maxRecDepth 100000
namespace Go.ck
open Go Go.bj Go.Proofs
abbrev ez (G:Nat->List Int->List Int):Nat->List Int->List Int->Prop:=cB sh (hT G)
theorem uD {G:Nat->List Int->List Int} {id:Nat} {zs rs:List Int}:ez G id zs rs↔rs=AR G id zs:=by
 show(fM _ rs).flatten=AR G id (fM _ zs).flatten↔_
 rw[sP,sP]
theorem PC {G:Nat->List Int->List Int} {id:Nat} (h5:Nat.beq id 645=false) (h2:Nat.beq id 652=false) (zs:List Int):AR G id zs=G id zs:=by unfold AR;rw[h5,h2];rfl
section
variable {wb:World}
theorem XK {c:aR} {spec:List Int->List Int->Prop} (h:c.cU Tryz.prog wb spec):∃F:List Int->List Int,c.cU Tryz.prog wb fun zs rs=>rs=F zs:=by
 classical
 refine⟨fun zs=>if hz:av (bG c.args) zs then Classical.choose (h zs hz)else [],fun zs hz=>?_⟩
 obtain⟨h1,h2,h3⟩:=Classical.choose_spec (h zs hz)
 exact⟨_,h1,by simp only[dif_pos hz],h3⟩
def jk (wb:World) (L:List aR) (G:Nat->List Int->List Int):Prop:=∀c∈L,c.cU Tryz.prog wb (ez G c.id)
theorem jk.step {L:List aR} {G:Nat->List Int->List Int} {c:aR} (h:jk wb L G) (hb:((c::L).all fun c'=> !(Nat.beq c'.id 645)&& !(Nat.beq c'.id 652))=true) (hne:(L.all fun c'=> !(Nat.beq c'.id c.id))=true) (h0:c.cU Tryz.prog wb fun _ _=>True):∃dp,jk wb (c::L) dp:=by
 obtain⟨F,hF⟩:=XK h0
 refine⟨fun id=>if id=c.id then F else G id,fun c' zn=>?_⟩
 have gS:=List.all_eq_true.1 hb c' zn
 simp only[Bool.and_eq_true,Bool.not_eq_true']at gS
 rcases List.mem_cons.1 zn with rfl|hm
 ·intro zs hz
  obtain⟨rs,r1,r2,cX⟩:=hF zs hz
  refine⟨rs,r1,uD.2 ?_,cX⟩
  rw[PC gS.1 gS.2,if_pos rfl];exact r2
 ·intro zs hz
  obtain⟨rs,r1,r2,cX⟩:=h c' hm zs hz
  refine⟨rs,r1,uD.2 ?_,cX⟩
  have r2:=uD.1 r2
  rw[PC gS.1 gS.2]at r2⊢
  have hn:¬c'.id=c.id:=fun e=>by
   have:=List.all_eq_true.1 hne c' hm
   rw[e,Nat.beq_refl]at this;cases this
  rw[if_neg hn];exact r2
theorem dC {α:Type} {l:List α} {a:α} (i:Nat) (h:l[i]?=some a):a∈l:=List.mem_of_getElem? h
theorem mh {G:Nat->List Int->List Int} {c:aR} {cal:dQ} {li:FuncId->Nat->Option dj} {rounds d:Nat} {lsh:Nat->List Nat} {lens:List Nat} (cz:∀r ex ro,e7 (ez G) Tryz.prog aU ⟨wb,r,ex,ro,[]⟩ cal) (hg:bL aU ⟨wb,wb,fun _=>False,fun _=>False,[]⟩)
 (hf:∀args w,(callFunc c.f args).run Tryz.prog w= .ok (.enter c.f args) w) (hp:(c.tree Tryz.prog aU cal li rounds d).plain=true)
 (hv:cY sh lsh (hT G) (bt ST c.res c.id) lens (bG c.args) c.res (c.tree Tryz.prog aU cal li rounds d)):c.cU Tryz.prog wb fun _ _=>True:=
 aR.cf.f (aR.ajG (S:=ez G) (spec:=fun _ _=>True) br cz hg hf (fun id a rs bN h h'=>(uD.1 h).trans (uD.1 h').symm) hp (fun zs hz=>by
  have h:=jB (HR hv) hz
  simp only[bt,sP]at h
  exact h))
theorem Vj {G:Nat->List Int->List Int} {c:aR} {cal:dQ} {li:FuncId->Nat->Option dj} {rounds d:Nat} {lsh:Nat->List Nat} {lens:List Nat} (cz:∀r ex ro,e7 (ez G) Tryz.prog aU ⟨wb,r,ex,ro,[]⟩ cal) (hg:bL aU ⟨wb,wb,fun _=>False,fun _=>False,[]⟩)
 (hf:∀args w,(callFunc c.f args).run Tryz.prog w= .ok (.enter c.f args) w)
 (hv:cY sh lsh (hT G) (bt (hT G) c.res c.id) lens (bG c.args) c.res (c.tree Tryz.prog aU cal li rounds d)):c.cU Tryz.prog wb (ez G c.id):=
 aR.cf.f (aR.Gg (S:=ez G) (spec:=ez G c.id) br cz hg hf (fun zs rs bN _ _ _ h h'=>by rw[uD.1 h,uD.1 h']) (qm fun zs hz=>by
  have h:=jB (HR hv) hz
  simp only[bt,hT,sP]at h
  simp only[uD]
  exact h))
theorem ajv:PM Tryz.prog 143:=ajt br (enters (by kernel_rfl)) (fun K=>by kernel_rfl)
theorem Zl:Ob Tryz.prog 161:=Zj Tryz.func161 (by kernel_rfl) (by kernel_rfl) (by kernel_rfl) (by kernel_rfl)
theorem aem:sk.cU Tryz.prog wb fun _ _=>True:=by
 intro zs hz
 match zs,hz with
 |[x,y],hz=>
  obtain⟨x0,x1,y0,y1,_⟩:=hz
  have h0:0<=x*y:=Int.mul_nonneg x0 y0
  have h1:x*y<=18446744073709551615*18446744073709551615:=Int.mul_le_mul x1 y1 y0 (by decide)
  exact⟨[x*y/18446744073709551616,x*y% 18446744073709551616],⟨by omega,by omega,by omega,by omega,trivial⟩,trivial,fun w _=>ajv x y x0 (by omega) y0 (by omega) w⟩
theorem ad7:si.cU Tryz.prog wb fun _ _=>True:=by
 intro zs hz
 match zs,hz with
 |[x,y,c],hz=>
  obtain⟨x0,x1,y0,y1,c0,c1,_⟩:=hz
  exact⟨[(x+y+c)% 18446744073709551616,(x+y+c)/18446744073709551616],⟨by omega,by omega,by omega,by omega,trivial⟩,trivial,fun w _=>Zl x y c x0 y0 c0 c1 w⟩
variable (hg:bL aU ⟨wb,wb,fun _=>False,fun _=>False,[]⟩) {G:Nat->List Int->List Int}
include hg G
theorem ad8:gL.cU Tryz.prog wb fun _ _=>True:=by
 refine mh (G:=G) (c:=gL) (cal:=(aO [] [])) (li:=bE) (rounds:=600) (d:=6) (lsh:=bF) (lens:=[5]) (fun _ _ _=>cr aH aH) hg (enters (by kernel_rfl)) (by kernel_rfl) ?_
 rw[ao6]
 exact alf G
theorem aej (wS:gL.cU Tryz.prog wb (ez G gL.id)):iZ.cU Tryz.prog wb fun _ _=>True:=by
 refine mh (G:=G) (c:=iZ) (cal:=(aO [] [gL])) (li:=bE) (rounds:=600) (d:=6) (lsh:=bF) (lens:=[5,5]) (fun _ _ _=>cr aH (a6 wS aH)) hg (enters (by kernel_rfl)) (by kernel_rfl) ?_
 rw[apo]
 exact alz G
theorem aei (wS:gL.cU Tryz.prog wb (ez G gL.id)):lh.cU Tryz.prog wb fun _ _=>True:=by
 refine mh (G:=G) (c:=lh) (cal:=(aO [] [gL])) (li:=bE) (rounds:=600) (d:=6) (lsh:=bF) (lens:=[5,5]) (fun _ _ _=>cr aH (a6 wS aH)) hg (enters (by kernel_rfl)) (by kernel_rfl) ?_
 rw[apn]
 exact aly G
theorem aek (wS:gL.cU Tryz.prog wb (ez G gL.id)) (afq:sk.cU Tryz.prog wb (ez G sk.id)) (afl:si.cU Tryz.prog wb (ez G si.id)):eM.cU Tryz.prog wb fun _ _=>True:=by
 refine mh (G:=G) (c:=eM) (cal:=(aO [] [gL,sk,si])) (li:=bE) (rounds:=600) (d:=6) (lsh:=bF) (lens:=[5,5]) (fun _ _ _=>cr aH (a6 wS (a6 afq (a6 afl aH)))) hg (enters (by kernel_rfl)) (by kernel_rfl) ?_
 rw[apq]
 exact alA G
theorem aeo (qB:eM.cU Tryz.prog wb (ez G eM.id)):kC.cU Tryz.prog wb fun _ _=>True:=by
 refine mh (G:=G) (c:=kC) (cal:=(aO [] [eM])) (li:=bE) (rounds:=600) (d:=6) (lsh:=bF) (lens:=[5]) (fun _ _ _=>cr aH (a6 qB aH)) hg (enters (by kernel_rfl)) (by kernel_rfl) ?_
 rw[ap7]
 exact amh G
theorem aep (BZ:iZ.cU Tryz.prog wb (ez G iZ.id)):n8.cU Tryz.prog wb fun _ _=>True:=by
 refine mh (G:=G) (c:=n8) (cal:=(aO [] [iZ])) (li:=bE) (rounds:=600) (d:=6) (lsh:=bF) (lens:=[]) (fun _ _ _=>cr aH (a6 BZ aH)) hg (enters (by kernel_rfl)) (by kernel_rfl) ?_
 rw[aqk]
 exact amu G
theorem aeg (wS:gL.cU Tryz.prog wb (ez G gL.id)):lf.cU Tryz.prog wb fun _ _=>True:=by
 refine mh (G:=G) (c:=lf) (cal:=(aO [] [gL])) (li:=bE) (rounds:=600) (d:=6) (lsh:=bF) (lens:=[5]) (fun _ _ _=>cr aH (a6 wS aH)) hg (enters (by kernel_rfl)) (by kernel_rfl) ?_
 rw[apl]
 exact alw G
theorem ael (afs:q9.cU Tryz.prog wb (ez G q9.id)):n2.cU Tryz.prog wb fun _ _=>True:=by
 refine mh (G:=G) (c:=n2) (cal:=(aO [] [q9])) (li:=bE) (rounds:=600) (d:=6) (lsh:=bF) (lens:=[5]) (fun _ _ _=>cr aH (a6 afs aH)) hg (enters (by kernel_rfl)) (by kernel_rfl) ?_
 rw[apC]
 exact alM G
theorem aen (JW:lf.cU Tryz.prog wb (ez G lf.id)):n3.cU Tryz.prog wb fun _ _=>True:=by
 refine mh (G:=G) (c:=n3) (cal:=(aO [] [lf])) (li:=bE) (rounds:=600) (d:=6) (lsh:=bF) (lens:=[5]) (fun _ _ _=>cr aH (a6 JW aH)) hg (enters (by kernel_rfl)) (by kernel_rfl) ?_
 rw[apJ]
 exact alT G
theorem aeh (qB:eM.cU Tryz.prog wb (ez G eM.id)):lg.cU Tryz.prog wb fun _ _=>True:=by
 refine mh (G:=G) (c:=lg) (cal:=(aO [] [eM])) (li:=bE) (rounds:=600) (d:=6) (lsh:=bF) (lens:=[5,5]) (fun _ _ _=>cr aH (a6 qB aH)) hg (enters (by kernel_rfl)) (by kernel_rfl) ?_
 rw[apm]
 exact alx G
theorem ad9 (JX:lg.cU Tryz.prog wb (ez G lg.id)):pS.cU Tryz.prog wb fun _ _=>True:=by
 refine mh (G:=G) (c:=pS) (cal:=(aO [] [lg])) (li:=bE) (rounds:=600) (d:=6) (lsh:=bF) (lens:=[]) (fun _ _ _=>cr aH (a6 JX aH)) hg (enters (by kernel_rfl)) (by kernel_rfl) ?_
 rw[ao7]
 exact alg G
theorem aee (JX:lg.cU Tryz.prog wb (ez G lg.id)):nY.cU Tryz.prog wb fun _ _=>True:=by
 refine mh (G:=G) (c:=nY) (cal:=(aO [] [lg])) (li:=bE) (rounds:=600) (d:=6) (lsh:=bF) (lens:=[]) (fun _ _ _=>cr aH (a6 JX aH)) hg (enters (by kernel_rfl)) (by kernel_rfl) ?_
 rw[api]
 exact als G
theorem aec (qB:eM.cU Tryz.prog wb (ez G eM.id)):ld.cU Tryz.prog wb fun _ _=>True:=by
 refine mh (G:=G) (c:=ld) (cal:=(aO [] [eM])) (li:=bE) (rounds:=600) (d:=6) (lsh:=bF) (lens:=[5,5,5,5]) (fun _ _ _=>cr aH (a6 qB aH)) hg (enters (by kernel_rfl)) (by kernel_rfl) ?_
 rw[apd]
 exact aln G
theorem aed (JY:lh.cU Tryz.prog wb (ez G lh.id)) (qB:eM.cU Tryz.prog wb (ez G eM.id)) (BZ:iZ.cU Tryz.prog wb (ez G iZ.id)) (JV:ld.cU Tryz.prog wb (ez G ld.id)) (aft:n8.cU Tryz.prog wb (ez G n8.id)):nX.cU Tryz.prog wb fun _ _=>True:=by
 refine mh (G:=G) (c:=nX) (cal:=(aO [] [lh,eM,iZ,ld,n8])) (li:=bE) (rounds:=600) (d:=6) (lsh:=bF) (lens:=[20,20]) (fun _ _ _=>cr aH (a6 JY (a6 qB (a6 BZ (a6 JV (a6 aft aH)))))) hg (enters (by kernel_rfl)) (by kernel_rfl) ?_
 rw[ape]
 exact alo G
theorem aef (JZ:kC.cU Tryz.prog wb (ez G kC.id)) (BZ:iZ.cU Tryz.prog wb (ez G iZ.id)) (JY:lh.cU Tryz.prog wb (ez G lh.id)) (JV:ld.cU Tryz.prog wb (ez G ld.id)):nZ.cU Tryz.prog wb fun _ _=>True:=by
 refine mh (G:=G) (c:=nZ) (cal:=(aO [] [kC,iZ,lh,ld])) (li:=bE) (rounds:=600) (d:=6) (lsh:=bF) (lens:=[15]) (fun _ _ _=>cr aH (a6 JZ (a6 BZ (a6 JY (a6 JV aH))))) hg (enters (by kernel_rfl)) (by kernel_rfl) ?_
 rw[apj]
 exact alu G
theorem aea (afp:n2.cU Tryz.prog wb (ez G n2.id)) (qB:eM.cU Tryz.prog wb (ez G eM.id)) (JW:lf.cU Tryz.prog wb (ez G lf.id)) (afr:n3.cU Tryz.prog wb (ez G n3.id)):pT.cU Tryz.prog wb fun _ _=>True:=by
 refine mh (G:=G) (c:=pT) (cal:=(aO [] [n2,eM,lf,n3])) (li:=bE) (rounds:=600) (d:=6) (lsh:=bF) (lens:=[15]) (fun _ _ _=>cr aH (a6 afp (a6 qB (a6 JW (a6 afr aH))))) hg (enters (by kernel_rfl)) (by kernel_rfl) ?_
 rw[ao8]
 exact alh G
theorem aeb:pU.cU Tryz.prog wb fun _ _=>True:=by
 refine mh (G:=G) (c:=pU) (cal:=(aO [] [])) (li:=bE) (rounds:=600) (d:=6) (lsh:=bF) (lens:=[32]) (fun _ _ _=>cr aH aH) hg (enters (by kernel_rfl)) (by kernel_rfl) ?_
 rw[apc]
 exact alm G
theorem Vi (JZ:kC.cU Tryz.prog wb (ez G kC.id)) (qB:eM.cU Tryz.prog wb (ez G eM.id)):q9.cU Tryz.prog wb (ez G q9.id):=by
 refine Vj (G:=G) (c:=q9) (cal:=(aO [] [kC,eM])) (li:=Uh) (rounds:=600) (d:=6) (lsh:=UL) (lens:=[5,4]) (fun _ _ _=>cr aH (a6 JZ (a6 qB aH))) hg (enters (by kernel_rfl)) ?_
 rw[ap0]
 exact ama G
theorem akf (afn:nY.cU Tryz.prog wb (ez G nY.id)) (afo:nZ.cU Tryz.prog wb (ez G nZ.id)) (afm:nX.cU Tryz.prog wb (ez G nX.id)):sj.cU Tryz.prog wb (ez G sj.id):=by
 refine Vj (G:=G) (c:=sj) (cal:=(aO [] [nY,nZ,nX])) (li:=T9) (rounds:=600) (d:=6) (lsh:=UD) (lens:=[20,32]) (fun _ _ _=>cr aH (a6 afn (a6 afo (a6 afm aH)))) hg (enters (by kernel_rfl)) ?_
 rw[apI]
 exact alS G
omit G in
theorem Zq:∃G,jk wb [pU,pT,nZ,nX,ld,nY,pS,lg,n3,n2,lf,n8,kC,eM,lh,iZ,gL,si,sk] G:=by
 obtain⟨asE,h0⟩:=jk.step (c:=sk) (L:=[]) (G:=fun _ _=>[]) (fun c hc=>by cases hc) rfl rfl aem
 obtain⟨G1,h1⟩:=jk.step (c:=si) h0 rfl rfl ad7
 obtain⟨D0,h2⟩:=jk.step (c:=gL) h1 rfl rfl (ad8 hg (G:=G1))
 obtain⟨HA,h3⟩:=jk.step (c:=iZ) h2 rfl rfl (aej hg (G:=D0) (h2 gL (dC 0 rfl)))
 obtain⟨D1,h4⟩:=jk.step (c:=lh) h3 rfl rfl (aei hg (G:=HA) (h3 gL (dC 1 rfl)))
 obtain⟨Xv,h5⟩:=jk.step (c:=eM) h4 rfl rfl (aek hg (G:=D1) (h4 gL (dC 2 rfl)) (h4 sk (dC 4 rfl)) (h4 si (dC 3 rfl)))
 obtain⟨Xw,h6⟩:=jk.step (c:=kC) h5 rfl rfl (aeo hg (G:=Xv) (h5 eM (dC 0 rfl)))
 obtain⟨Xx,h7⟩:=jk.step (c:=n8) h6 rfl rfl (aep hg (G:=Xw) (h6 iZ (dC 3 rfl)))
 obtain⟨Xy,cv⟩:=jk.step (c:=lf) h7 rfl rfl (aeg hg (G:=Xx) (h7 gL (dC 5 rfl)))
 obtain⟨Xz,bX⟩:=jk.step (c:=n2) cv rfl rfl (ael hg (G:=Xy) (Vi hg (cv kC (dC 2 rfl)) (cv eM (dC 3 rfl))))
 obtain⟨Xn,dc⟩:=jk.step (c:=n3) bX rfl rfl (aen hg (G:=Xz) (bX lf (dC 1 rfl)))
 obtain⟨Xo,eF⟩:=jk.step (c:=lg) dc rfl rfl (aeh hg (G:=Xn) (dc eM (dC 5 rfl)))
 obtain⟨Xp,fo⟩:=jk.step (c:=pS) eF rfl rfl (ad9 hg (G:=Xo) (eF lg (dC 0 rfl)))
 obtain⟨Xq,fW⟩:=jk.step (c:=nY) fo rfl rfl (aee hg (G:=Xp) (fo lg (dC 1 rfl)))
 obtain⟨Xr,eh⟩:=jk.step (c:=ld) fW rfl rfl (aec hg (G:=Xq) (fW eM (dC 8 rfl)))
 obtain⟨Xs,iG⟩:=jk.step (c:=nX) eh rfl rfl (aed hg (G:=Xr) (eh lh (dC 10 rfl)) (eh eM (dC 9 rfl)) (eh iZ (dC 11 rfl)) (eh ld (dC 0 rfl)) (eh n8 (dC 7 rfl)))
 obtain⟨Xt,iU⟩:=jk.step (c:=nZ) iG rfl rfl (aef hg (G:=Xs) (iG kC (dC 9 rfl)) (iG iZ (dC 12 rfl)) (iG lh (dC 11 rfl)) (iG ld (dC 1 rfl)))
 obtain⟨Xu,j7⟩:=jk.step (c:=pT) iU rfl rfl (aea hg (G:=Xt) (iU n2 (dC 7 rfl)) (iU eM (dC 11 rfl)) (iU lf (dC 8 rfl)) (iU n3 (dC 6 rfl)))
 obtain⟨asF,kt⟩:=jk.step (c:=pU) j7 rfl rfl (aeb hg (G:=Xu))
 exact⟨_,kt⟩
end
end Go.ck

set_option linter.unusedVariables false
set_option maxRecDepth 100000
namespace Go.ck
open Go Go.bj Go.Proofs
abbrev ij (G:Nat->List Int->List Int) (wb:World) (k:aR):Prop:=k.cU Tryz.prog wb (cB sh (gp G) k.id)
abbrev jY (G:Nat->List Int->List Int) (wb:World) (k:db):Prop:=k.cf Tryz.prog wb (cB sh (gp G) k.id)
abbrev PO (G:Nat->List Int->List Int) (wb:World) (k:hS):Prop:=k.cf Tryz.prog wb (cB sh (gp G) k.c.id)
theorem akv {G:Nat->List Int->List Int} {wb:World} (hg:bL aU ⟨wb,wb,fun _=>False,fun _=>False,[]⟩) (h_clamp:ij G wb pU) (h_cbase:ij G wb pS) (h_many:ij G wb sj) (h_cbytes:ij G wb pT) (h_sum64:PO G wb vD):jY G wb tK:=by
 refine Iw (SB:=(gp G)) (sh:=sh) (c:=tK) (bc:=(od [vD] (fT []))) (cal:=(aO [] [pU,pS,sj,pT])) (li:=bE) (rounds:=600) (d:=6) (lsh:=bF) (lens:=[32]) br (fun _ _ _=>cr aH (a6 h_clamp (a6 h_cbase (a6 h_many (a6 h_cbytes aH))))) hg (fun _ _ _=>(z1 (ta aH) (a6 h_sum64 aH))) (by kernel_rfl) rfl rfl ?_
 rw[apY]
 exact al8 G
theorem akh {G:Nat->List Int->List Int} {wb:World} (hg:bL aU ⟨wb,wb,fun _=>False,fun _=>False,[]⟩) (h_public:jY G wb tK) (h_ienu:jY G wb CY) (h_sum32:PO G wb vC):jY G wb pV:=by
 refine Iw (SB:=(gp G)) (sh:=sh) (c:=pV) (bc:=(od [vC] (fT [tK,CY]))) (cal:=(aO [] [])) (li:=bE) (rounds:=600) (d:=6) (lsh:=bF) (lens:=[7]) br (fun _ _ _=>cr aH aH) hg (fun _ _ _=>(z1 (ta (a6 h_public (a6 h_ienu aH))) (a6 h_sum32 aH))) (by kernel_rfl) rfl rfl ?_
 rw[apL]
 exact alV G
theorem akl {G:Nat->List Int->List Int} {wb:World} (hg:bL aU ⟨wb,wb,fun _=>False,fun _=>False,[]⟩) (h_pRight:jY G wb np) (h_pKey:jY G wb pV):jY G wb tI:=by
 refine py (SB:=(gp G)) (sh:=sh) (c:=tI) (bcs:=[np,pV]) (cal:=(aO [] [])) (li:=Ud) (rounds:=600) (d:=6) (lsh:=UH) (lens:=[1,1]) br (fun _ _ _=>cr aH aH) hg (a6 h_pRight (a6 h_pKey aH)) (by kernel_rfl) rfl rfl ?_
 rw[apP]
 exact alZ G
theorem akm {G:Nat->List Int->List Int} {wb:World} (hg:bL aU ⟨wb,wb,fun _=>False,fun _=>False,[]⟩) (h_pone:ij G wb q6) (h_pStore:jY G wb tH) (h_pSettle:jY G wb o6) (h_pValid:jY G wb tI) (h_pKey:jY G wb pV):jY G wb sm:=by
 refine py (SB:=(gp G)) (sh:=sh) (c:=sm) (bcs:=[tH,o6,tI,pV]) (cal:=(aO [] [q6])) (li:=bE) (rounds:=600) (d:=6) (lsh:=bF) (lens:=[]) br (fun _ _ _=>cr aH (a6 h_pone aH)) hg (a6 h_pStore (a6 h_pSettle (a6 h_pValid (a6 h_pKey aH)))) (by kernel_rfl) rfl rfl ?_
 rw[apQ]
 exact al0 G
theorem akd {G:Nat->List Int->List Int} {wb:World} (hg:bL aU ⟨wb,wb,fun _=>False,fun _=>False,[]⟩) (h_palive:jY G wb sm) (h_pSettle:jY G wb o6) (h_qSame:jY G wb sn):jY G wb zH:=by
 refine py (SB:=(gp G)) (sh:=sh) (c:=zH) (bcs:=[sm,o6,sn]) (cal:=(aO [] [])) (li:=T8) (rounds:=600) (d:=6) (lsh:=UC) (lens:=[1,2,2]) br (fun _ _ _=>cr aH aH) hg (a6 h_palive (a6 h_pSettle (a6 h_qSame aH))) (by kernel_rfl) rfl rfl ?_
 rw[apG]
 exact alQ G
end Go.ck

/- The address seat: contracts of the library that this seat lays,. -/
set_option linter.unusedVariables false
namespace Go.Proofs
open Go.Shelf Go.RowKit
shelf_lay Lays.n137 Nm 137 at Tryz as Tryz.aiK
theorem Tryz.strings_IndexByte (s:ByteArray) (c:Int) (w:World):
 Calls Tryz.prog 125 #[.string s,.int .u8 c] w fun e w'=>e= .returned (.int .i64 (Lib.indexByte s.data.toList c.toNat.toUInt8))/\w'=w:=Any.strings_IndexByte Tryz.aiK s c w
shelf_lay Lays.n144 Nm 144 at Tryz as Tryz.aiL
theorem Tryz.strings_Contains (s sub:ByteArray) (m:Int) (w:World) (hs:s.size<4294967281) (hm:w.cell? ⟨2,0,none⟩=some (.int .i64 m)):
 Calls Tryz.prog 59 #[.string s,.string sub] w fun e w'=>e= .returned (.bool (Lib.contains s.data.toList sub.data.toList))/\w'=w:=Any.strings_Contains Tryz.aiL s sub m w hs hm
end Go.Proofs

/- The address seat: contracts of the library that this seat lays,and strings.Builder's WriteByte by a walk of its own. -/
set_option linter.unusedVariables false
namespace Go.Proofs
open Go.Shelf Go.RowKit
shelf_lay Lays.n169 Nm 169 at Tryz as Tryz.aiM
theorem Tryz.DZ:Builder.Extra Tryz.prog Tryz.aiM_ren where
 sizeBuilder:=by kernel_rfl
 liesBuilder:=by kernel_rfl
 t5:=Tryz.underlying5
 a5:=Tryz.isAgg5
 z5:=Tryz.sizeOf5
 v5:=Tryz.zeroValue5
 infoByte:=by kernel_rfl
 cellsByte:=by kernel_rfl
 sizeByte:=by kernel_rfl
 neB5:=by decide
theorem Tryz.Builder_String_any (B b:Nat) (l:List UInt8) (w:World) (h:Lib.IsBuilder 112 5 B b (Lib.byteCells l) w) (Si:B<=w.heap.size):
 Calls Tryz.prog 82 #[.pointer (some ⟨b,0,none⟩)] w fun e w'=>e= .returned (.string ⟨l.toArray⟩)/\Below B w w':=Any.Builder_String_any Tryz.aiM Tryz.DZ B b l w h Si
shelf_lay Lays.n170 Nm 170 at Tryz as Tryz.aiN
theorem Tryz.Builder_Len (B b:Nat) (bs:List Value) (w:World) (h:Lib.IsBuilder 112 5 B b bs w):
 Calls Tryz.prog 159 #[.pointer (some ⟨b,0,none⟩)] w fun e w'=>e= .returned (.int .i64 bs.length)/\w'=w:=Any.Builder_Len Tryz.aiN B b bs w h
set_option maxHeartbeats 1000000 in
set_option maxRecDepth 100000 in
theorem Tryz.Builder_copyCheck_used (b:Nat) (w:World) (h0:w.cell? ⟨b,0,none⟩=some (.pointer (some ⟨b,0,none⟩))):
 Calls Tryz.prog 116 #[.pointer (some ⟨b,0,none⟩)] w fun e w'=>e= .returned (.tuple #[])/\w'=w:=by
 obtain⟨j,hj,_⟩:=Option.map_eq_some_iff.1 Tryz.DZ.toX72.sizeBuilder
 go_enter Tryz.func116,Tryz.ntmps116
 go_wp2
 rw[Lib.run_neq_ptr_same w _ Tryz.underlying110 hj]
 go_wp2
 go_end0
 exact⟨rfl,rfl⟩
set_option maxHeartbeats 1000000 in
set_option maxRecDepth 100000 in
theorem Tryz.Builder_copyCheck_fresh (b:Nat) (w:World) (h0:w.cell? ⟨b,0,none⟩=some (.pointer none)) (hsh:w.shape? b=some (112,2)) (hfz:w.frozen? ⟨b,0,none⟩=false):
 Calls Tryz.prog 116 #[.pointer (some ⟨b,0,none⟩)] w fun e w'=>e= .returned (.tuple #[])/\w'=w.setCell ⟨b,0,none⟩ (.pointer (some ⟨b,0,none⟩)):=by
 have X:=Tryz.DZ.toX72
 obtain⟨j,hj,agi⟩:=Option.map_eq_some_iff.1 X.sizeBuilder
 go_enter Tryz.func116,Tryz.ntmps116
 go_wp2
 rw[Lib.run_to_unsafe w ⟨b,0,none⟩ Tryz.underlying110 Tryz.underlying174 hj (by rw[agi];decide) hsh (Nat.zero_lt_succ 1)]
 simp only[Result.andThen]
 rw[Oper.upon_value]
 go_wp2
 rw[run_callFunc_extern Tryz.func149 (by kernel_rfl) (by kernel_rfl) (by kernel_rfl) (e:=Extern.AbiNoEscape.same) (by kernel_rfl)]
 rw[Lib.run_noEscape]
 simp only[Result.andThen]
 rw[Oper.upon_value]
 go_wp2
 rw[Lib.run_from_unsafe w ⟨b,0,none⟩ Tryz.underlying174 Tryz.underlying110 hj hsh X.liesBuilder]
 simp only[Result.andThen]
 rw[Oper.upon_value]
 go_wp2
 go_end0
 exact⟨rfl,rfl⟩
theorem Tryz.Builder_copyCheck (B b:Nat) (bs:List Value) (w:World) (h:Lib.IsBuilder 112 5 B b bs w):
 Calls Tryz.prog 116 #[.pointer (some ⟨b,0,none⟩)] w fun e w'=>e= .returned (.tuple #[])/\(Lib.BuilderAt 112 5 B b (.pointer (some ⟨b,0,none⟩)) bs w'/\Below B w w'):=by
 rcases h with h|h
 ·refine(Tryz.Builder_copyCheck_fresh b w h.cell0 h.shape h.frozen0).mono ?_
  rintro e w' ⟨rfl,rfl⟩
  exact⟨rfl,h.used _,(Below.refl B w).setCell (p:=⟨b,0,none⟩) h.1 _⟩
 ·refine(Tryz.Builder_copyCheck_used b w h.cell0).mono ?_
  rintro e w' ⟨rfl,rfl⟩
  exact⟨rfl,h,Below.refl B _⟩
set_option maxHeartbeats 2000000 in
set_option maxRecDepth 100000 in
theorem Tryz.Builder_WriteByte (B b:Nat) (bs:List Value) (c:Int) (w:World) (h:Lib.IsBuilder 112 5 B b bs w) (hlen:bs.length+1<=140737488355328) (Si:B<=w.heap.size):
 Calls Tryz.prog 81 #[.pointer (some ⟨b,0,none⟩),.int .u8 c] w fun e w'=>e= .returned .nilIface/\(Lib.BuilderAt 112 5 B b (.pointer (some ⟨b,0,none⟩)) (bs++[.int .u8 c]) w'/\Below B w w'):=by
 have X:=Tryz.DZ
 obtain⟨i0,hi,hz0,hz1,hz2⟩:=info_parts X.infoByte
 go_enter Tryz.func81,Tryz.ntmps81
 go_wp2_with (go_at_call 116;refine(Tryz.Builder_copyCheck B b bs _ h).mono ?_)
 rintro e w1 ⟨rfl,h1,gT⟩
 obtain⟨hB,v,hbk,hown,hne⟩:=h1
 have c0:w1.cell? ⟨b,0,none⟩=some (.pointer (some ⟨b,0,none⟩)):=by rw[Lib.cell_of_heap hbk];rfl
 have c1:w1.cell? ⟨b,1,none⟩=some v:=by rw[Lib.cell_of_heap hbk];rfl
 go_wp2_with (at_builtin;refine wpList_append_own _ rfl _ _ 60 rfl B 5 i0 (.int .u8 0) 1 1 Tryz.underlying60 hi hz0 hz1 hz2 rfl (by decide) _ _ _ rfl (hown.alloc _) ⟨w1.heap.size,0,none⟩ 1 1 [.int .u8 c] rfl rfl ?c1 ?c2 ?c3 ?c4 ?c5 ?_)
 case c1=>
  intro j u hj
  match j,hj with
  |0,hj=>simp at hj;subst hj;simp[Addr.add]
 case c2=>intro u hu;simp at hu;subst hu;rfl
 case c3=>unfold maxLen;omega
 case c4=>omega
 case c5=>have:=gT.size;simp;omega
 intro v' w2 Th hgrow _
 have hlt:b<w1.heap.size:=by
  rcases Nat.lt_or_ge b w1.heap.size with h'|h'
  ·exact h'
  ·simp[Array.getElem?_eq_none h']at hbk
 have im:w2.heap[b]?=some (.cells #[.pointer (some ⟨b,0,none⟩),v] 112 (0,0)):=by
  rw[hgrow.block b (by simp;omega) (fun e=>hne e.symm),Lib.alloc_old w1 _ b hlt]
  exact hbk
 have d0:w2.cell? ⟨b,0,none⟩=some (.pointer (some ⟨b,0,none⟩)):=by rw[Lib.cell_of_heap im];rfl
 have d1:w2.cell? ⟨b,1,none⟩=some v:=by rw[Lib.cell_of_heap im];rfl
 have f1:w2.frozen? ⟨b,1,none⟩=false:=Lib.frozen_of_heap im 1
 obtain⟨g,cap,rfl⟩:∃g cap,v'= .slice (some ⟨g,0,none⟩) (bs.length+1) cap:=by
  rcases Th.2 with⟨_,h0⟩|⟨g,cap,cur,hv,_⟩
  ·omega
  ·exact⟨g,cap,hv⟩
 go_wp2
 go_ret
 refine⟨rfl,?_,?_⟩
 ·exact Lib.BuilderAt.put (T:=112) (e:=5) hB im (bs':=bs++[.int .u8 c]) (by simpa using Th) X.neB5
 ·exact((gT.alloc (by have:=gT.size;omega) _).grown hgrow (by have:=gT.size;simp;omega) (fun k hk=>(hown.lt k hk).1)).setCell (p:=⟨b,1,none⟩) hB _
end Go.Proofs

/- Contracts that come from walks. -/
set_option linter.unusedVariables false
set_option maxRecDepth 100000
namespace Go.ck
open Go Go.bj Go.Proofs Go.RowKit
theorem BC {w w':World} (h:Below w.heap.size w w'):w.Extends w':=
 ⟨h.os,h.tape,h.output,h.size,fun a ha=>by unfold World.cell?;rw[h.block a.block ha],fun a ha=>by unfold World.frozen?;rw[h.block a.block ha],h.block⟩
theorem aj8 {wb:World}:aW wb jq:=by
 intro zs hz
 obtain⟨rs,h1,h2,h3⟩:=ahF (wb:=wb) (f:=163) (id:=73) Tryz.func163 (by kernel_rfl) (by kernel_rfl) (by kernel_rfl) (by kernel_rfl) zs hz
 match zs,hz with
 |[s,c],hz=>
  refine⟨rs,h1,?_,h3⟩
  subst h2
  rfl
theorem aco (b:UInt8) (l:az):pC (b::l)=((b==46&&l.getD 0 0==46)||pC l):=by
 unfold pC
 rw[List.length_cons,List.range_succ_eq_map,List.any_cons,List.any_map]
 rfl
theorem Re:∀l:az,Lib.contains l [46,46]=pC l
 |[]=>rfl
 |b::l=>by
  have ih:=Re l
  unfold Lib.contains at ih⊢
  rw[aco,<-ih]
  have sym:∀x:UInt8,((46:UInt8)==x)=(x==46):=fun x=>by rw[Bool.eq_iff_iff,beq_iff_eq,beq_iff_eq];exact eq_comm
  have hp:([46,46]:az).isPrefixOf (b::l)=(b==46&&l.getD 0 0==46):=by
   cases l with
   |nil=>
    show((46:UInt8)==b&&false)=(b==46&&((0:UInt8)==46))
    rw[sym];rfl
   |cons c r=>
    show((46:UInt8)==b&&((46:UInt8)==c&&true))=(b==46&&c==46)
    rw[sym,sym,Bool.and_true]
  have he:Lib.index (b::l) [46,46]=if([46,46]:az).isPrefixOf (b::l)=true then 0 else if(Lib.index l [46,46]==-1)=true then-1 else Lib.index l [46,46]+1:=rfl
  rw[he,hp]
  cases(b==46&&l.getD 0 0==46)with
  |true=>rfl
  |false=>
   rw[if_neg (by decide),Bool.false_or]
   by_cases he:(Lib.index l [46,46]==-1)=true
   ·rw[if_pos he]
    have:=beq_iff_eq.1 he
    rw[this]
   ·rw[if_neg he]
    have he:¬Lib.index l [46,46]=-1:=fun e=>he (beq_iff_eq.2 e)
    have:=Lib.index_ge [46,46] l
    rw[Bool.eq_iff_iff,decide_eq_true_eq,decide_eq_true_eq]
    omega
theorem ajN {wb:World} (hc:∃m,wb.cell? ⟨2,0,none⟩=some (.int .i64 m)) (h0:2<wb.heap.size):wu wb vG:=by
 intro zs hz hp
 match zs,hz with
 |[z],hz=>
  refine⟨[bf (pC (U z))],⟨(pv _).1,(pv _).2,trivial⟩,rfl,fun w hw=> .inr ⟨enters (by kernel_rfl) _ _,?_⟩⟩
  obtain⟨m,hm⟩:=hc
  have hm':w.cell? ⟨2,0,none⟩=some (.int .i64 m):=by rw[hw.cell ⟨2,0,none⟩ h0];exact hm
  have hl:(U z).length<=4294967280:=hp
  refine(Tryz.strings_Contains (bb (U z)) (bb [46,46]) m w (by show(U z).toArray.size<_;simp;omega) hm').mono ?_
  rintro e w' ⟨rfl,rfl⟩
  refine⟨?_,World.Extends.refl _⟩
  have e1:(bb (U z)).data.toList=U z:=by simp[bb]
  have e2:(bb [46,46]).data.toList=[46,46]:=rfl
  rw[e1,e2,Re]
  show _=Ending.returned (Value.bool (decide (bf (pC (U z))=1)))
  rw[Ib]
theorem Bl {l:az} {n:Nat} (h:l.length<=n) (hn:n<=140737488351232):0<=dI l/\dI l<=cy:=⟨pz _,nG (by unfold ga;omega)⟩
end Go.ck

/- The address seat: the countries (a map),by a walk. -/
set_option linter.unusedSimpArgs false
namespace Go.Proofs
open Go.RowKit Go.ck
def uO (s:az):Value:=match m3 s with|some (c,t)=> .tuple #[.agg #[.string ⟨c.toArray⟩,.string ⟨t.toArray⟩],.bool true]|none=> .tuple #[.agg #[.string ⟨#[]⟩,.string ⟨#[]⟩],.bool false]
theorem amU {α:Type} (a:Array α) (x y:α):(a.push x).setIfInBounds a.size y=a.push y:=by
 apply Array.ext'
 simp
theorem aaB {s t:ByteArray} (h:¬s=t):(s==t)=false:=by
 cases h':(s==t)with
 |false=>rfl
 |true=>
  have h':(s.data==t.data)=true:=h'
  exact absurd (ByteArray.ext (eq_of_beq h')) h
def F6 (z:Value):Option (Nat×Value)->Value
 |some (_,v)=> .tuple #[v,.bool true]
 |none=> .tuple #[z,.bool false]
theorem zM {P:Program} {C9 xz et:TypeId} (hm:P.underlying C9=some (.map xz et)) (hk:P.underlying xz=some .string) (W:World) (es:Array MapEntry) (clock:Nat) (s:ByteArray) (v:Value) (hf:Instr.findNow .string (.string s) es.toList 0=some none):
 (Instr.mapUpdate C9 (.map (some W.heap.size)) (.string s) v).run P (W.alloc (.map es clock))= .ok () (W.alloc (.map (es.push {key:= .string s,val:=v,born:=clock}) (clock+1))):=by
 have hb:(W.alloc (.map es clock)).heap[W.heap.size]?=some (.map es clock):=heap_alloc_new W _
 have hc:(Instr.checkKey false 10000 xz (.string s)).run P (W.alloc (.map es clock))= .ok () (W.alloc (.map es clock)):=MapKept.run_checkKey (k:= .string s) hk (by simp[MapKept.IsKey]) false 9999
 simp only[Instr.mapUpdate,Sem.run_bind,run_underlying hm,Result.andThen,MapKept.run_getObj_map hb,Sem.run_pure,hc,MapKept.run_findKey hk hf,MapKept.run_setObj_map _ hb]
 simp only[World.alloc,amU]
theorem ajf {P:Program} {C9 xz et:TypeId} {z:Value} (hm:P.underlying C9=some (.map xz et)) (hk:P.underlying xz=some .string) (hz:∀w,(zeroValue et).run P w= .ok z w) (W:World) (es:Array MapEntry) (clock:Nat) (s:ByteArray) (a:Option (Nat×Value)) (hf:Instr.findNow .string (.string s) es.toList 0=some a):
 (Instr.lookup C9 (.map (some W.heap.size)) (.string s) true).run P (W.alloc (.map es clock))= .ok (F6 z a) (W.alloc (.map es clock)):=by
 have hb:(W.alloc (.map es clock)).heap[W.heap.size]?=some (.map es clock):=heap_alloc_new W _
 have hc:(Instr.checkKey es.isEmpty 10000 xz (.string s)).run P (W.alloc (.map es clock))= .ok () (W.alloc (.map es clock)):=MapKept.run_checkKey (k:= .string s) hk (by simp[MapKept.IsKey]) _ 9999
 simp only[Instr.lookup,Sem.run_bind,run_underlying hm,Result.andThen,MapKept.run_getObj_map hb,Sem.run_pure,hc,MapKept.run_findKey hk hf]
 cases a with
 |none=>simp[hz,F6]
 |some p=>simp[F6]
theorem aaA {s t:ByteArray}:s=t↔s.data.toList=t.data.toList:=⟨fun h=>by rw[h],fun h=>ByteArray.ext (Array.toList_inj.1 h)⟩
def C1:Array MapEntry:=#[{key:=Value.string {data:=#[]},val:=Value.agg #[Value.string {data:=#[]},Value.string {data:=#[]}],born:=0},{key:=Value.string {data:=#[71,66]},val:=Value.agg #[Value.string {data:=#[52,52]},Value.string {data:=#[48]}],born:=1},{key:=Value.string {data:=#[85,83]},val:=Value.agg #[Value.string {data:=#[49]},Value.string {data:=#[]}],born:=2},{key:=Value.string {data:=#[68,69]},val:=Value.agg #[Value.string {data:=#[52,57]},Value.string {data:=#[48]}],born:=3},{key:=Value.string {data:=#[70,82]},val:=Value.agg #[Value.string {data:=#[51,51]},Value.string {data:=#[48]}],born:=4},{key:=Value.string {data:=#[67,72]},val:=Value.agg #[Value.string {data:=#[52,49]},Value.string {data:=#[48]}],born:=5}]
theorem aiH (s:ByteArray):∃a,Instr.findNow .string (.string s) C1.toList 0=some a/\F6 (.agg #[.string ⟨#[]⟩,.string ⟨#[]⟩]) a=uO s.data.toList:=by
 by_cases h0:s={data:=#[]}
 ·subst h0;exact⟨_,rfl,rfl⟩
 by_cases h1:s={data:=#[71,66]}
 ·subst h1;exact⟨_,rfl,rfl⟩
 by_cases h2:s={data:=#[85,83]}
 ·subst h2;exact⟨_,rfl,rfl⟩
 by_cases h3:s={data:=#[68,69]}
 ·subst h3;exact⟨_,rfl,rfl⟩
 by_cases h4:s={data:=#[70,82]}
 ·subst h4;exact⟨_,rfl,rfl⟩
 by_cases h5:s={data:=#[67,72]}
 ·subst h5;exact⟨_,rfl,rfl⟩
 have n:∀t:ByteArray,¬s=t->(s==t)=false:=fun t h=>aaB h
 refine⟨none,?_,?_⟩
 ·simp only[C1,Instr.findNow,Instr.sameNow,n _ h0,n _ h1,n _ h2,n _ h3,n _ h4,n _ h5]
 ·have m:∀t:az,¬s=⟨t.toArray⟩->(s.data.toList==t)=false:=fun t h=>by
   cases hh:(s.data.toList==t)with
   |false=>rfl
   |true=>exact absurd (aaA.2 (by rw[beq_iff_eq.1 hh])) h
  unfold uO m3
  rw[m [] h0,m [71,66] h1,m [85,83] h2,m [68,69] h3,m [70,82] h4,m [67,72] h5]
  rfl
set_option maxHeartbeats 4000000 in
set_option maxRecDepth 1000000 in
theorem Tryz.acg (s:ByteArray) (w:World):
 Calls Tryz.prog 129 #[.string s] w fun e w'=>e= .returned (uO s.data.toList)/\Below w.heap.size w w':=by
 go_enter Tryz.func129,Tryz.ntmps129
 have hmk:∀W:World,(Instr.makeMap 180 none).run Tryz.prog W= .ok (.map (some W.heap.size)) (W.alloc (.map #[] 0)):=fun W=>run_makeMap 180 W
 have hp0:(Instr.mapUpdate 180 (.map (some (w.heap.size+1))) (.string {data:=#[]}) (Value.agg #[Value.string {data:=#[]},Value.string {data:=#[]}])).run Tryz.prog ((w.alloc (Obj.cells #[Value.string {data:=#[]},Value.string {data:=#[]}] 154)).alloc (.map #[] 0))= .ok () ((w.alloc (Obj.cells #[Value.string {data:=#[]},Value.string {data:=#[]}] 154)).alloc (.map #[{key:=Value.string {data:=#[]},val:=Value.agg #[Value.string {data:=#[]},Value.string {data:=#[]}],born:=0}] 1)):=by
  have:=zM Tryz.underlying180 Tryz.underlying9 (w.alloc (Obj.cells #[Value.string {data:=#[]},Value.string {data:=#[]}] 154)) #[] 0 {data:=#[]} (Value.agg #[Value.string {data:=#[]},Value.string {data:=#[]}]) rfl
  simpa using this
 have FD:(Instr.mapUpdate 180 (.map (some (w.heap.size+1))) (.string {data:=#[71,66]}) (Value.agg #[Value.string {data:=#[52,52]},Value.string {data:=#[48]}])).run Tryz.prog ((w.alloc (Obj.cells #[Value.string {data:=#[]},Value.string {data:=#[]}] 154)).alloc (.map #[{key:=Value.string {data:=#[]},val:=Value.agg #[Value.string {data:=#[]},Value.string {data:=#[]}],born:=0}] 1))= .ok () ((w.alloc (Obj.cells #[Value.string {data:=#[]},Value.string {data:=#[]}] 154)).alloc (.map #[{key:=Value.string {data:=#[]},val:=Value.agg #[Value.string {data:=#[]},Value.string {data:=#[]}],born:=0},{key:=Value.string {data:=#[71,66]},val:=Value.agg #[Value.string {data:=#[52,52]},Value.string {data:=#[48]}],born:=1}] 2)):=by
  have:=zM Tryz.underlying180 Tryz.underlying9 (w.alloc (Obj.cells #[Value.string {data:=#[]},Value.string {data:=#[]}] 154)) #[{key:=Value.string {data:=#[]},val:=Value.agg #[Value.string {data:=#[]},Value.string {data:=#[]}],born:=0}] 1 {data:=#[71,66]} (Value.agg #[Value.string {data:=#[52,52]},Value.string {data:=#[48]}]) rfl
  simpa using this
 have vj:(Instr.mapUpdate 180 (.map (some (w.heap.size+1))) (.string {data:=#[85,83]}) (Value.agg #[Value.string {data:=#[49]},Value.string {data:=#[]}])).run Tryz.prog ((w.alloc (Obj.cells #[Value.string {data:=#[]},Value.string {data:=#[]}] 154)).alloc (.map #[{key:=Value.string {data:=#[]},val:=Value.agg #[Value.string {data:=#[]},Value.string {data:=#[]}],born:=0},{key:=Value.string {data:=#[71,66]},val:=Value.agg #[Value.string {data:=#[52,52]},Value.string {data:=#[48]}],born:=1}] 2))= .ok () ((w.alloc (Obj.cells #[Value.string {data:=#[]},Value.string {data:=#[]}] 154)).alloc (.map #[{key:=Value.string {data:=#[]},val:=Value.agg #[Value.string {data:=#[]},Value.string {data:=#[]}],born:=0},{key:=Value.string {data:=#[71,66]},val:=Value.agg #[Value.string {data:=#[52,52]},Value.string {data:=#[48]}],born:=1},{key:=Value.string {data:=#[85,83]},val:=Value.agg #[Value.string {data:=#[49]},Value.string {data:=#[]}],born:=2}] 3)):=by
  have:=zM Tryz.underlying180 Tryz.underlying9 (w.alloc (Obj.cells #[Value.string {data:=#[]},Value.string {data:=#[]}] 154)) #[{key:=Value.string {data:=#[]},val:=Value.agg #[Value.string {data:=#[]},Value.string {data:=#[]}],born:=0},{key:=Value.string {data:=#[71,66]},val:=Value.agg #[Value.string {data:=#[52,52]},Value.string {data:=#[48]}],born:=1}] 2 {data:=#[85,83]} (Value.agg #[Value.string {data:=#[49]},Value.string {data:=#[]}]) rfl
  simpa using this
 have ay0:(Instr.mapUpdate 180 (.map (some (w.heap.size+1))) (.string {data:=#[68,69]}) (Value.agg #[Value.string {data:=#[52,57]},Value.string {data:=#[48]}])).run Tryz.prog ((w.alloc (Obj.cells #[Value.string {data:=#[]},Value.string {data:=#[]}] 154)).alloc (.map #[{key:=Value.string {data:=#[]},val:=Value.agg #[Value.string {data:=#[]},Value.string {data:=#[]}],born:=0},{key:=Value.string {data:=#[71,66]},val:=Value.agg #[Value.string {data:=#[52,52]},Value.string {data:=#[48]}],born:=1},{key:=Value.string {data:=#[85,83]},val:=Value.agg #[Value.string {data:=#[49]},Value.string {data:=#[]}],born:=2}] 3))= .ok () ((w.alloc (Obj.cells #[Value.string {data:=#[]},Value.string {data:=#[]}] 154)).alloc (.map #[{key:=Value.string {data:=#[]},val:=Value.agg #[Value.string {data:=#[]},Value.string {data:=#[]}],born:=0},{key:=Value.string {data:=#[71,66]},val:=Value.agg #[Value.string {data:=#[52,52]},Value.string {data:=#[48]}],born:=1},{key:=Value.string {data:=#[85,83]},val:=Value.agg #[Value.string {data:=#[49]},Value.string {data:=#[]}],born:=2},{key:=Value.string {data:=#[68,69]},val:=Value.agg #[Value.string {data:=#[52,57]},Value.string {data:=#[48]}],born:=3}] 4)):=by
  have:=zM Tryz.underlying180 Tryz.underlying9 (w.alloc (Obj.cells #[Value.string {data:=#[]},Value.string {data:=#[]}] 154)) #[{key:=Value.string {data:=#[]},val:=Value.agg #[Value.string {data:=#[]},Value.string {data:=#[]}],born:=0},{key:=Value.string {data:=#[71,66]},val:=Value.agg #[Value.string {data:=#[52,52]},Value.string {data:=#[48]}],born:=1},{key:=Value.string {data:=#[85,83]},val:=Value.agg #[Value.string {data:=#[49]},Value.string {data:=#[]}],born:=2}] 3 {data:=#[68,69]} (Value.agg #[Value.string {data:=#[52,57]},Value.string {data:=#[48]}]) rfl
  simpa using this
 have ay1:(Instr.mapUpdate 180 (.map (some (w.heap.size+1))) (.string {data:=#[70,82]}) (Value.agg #[Value.string {data:=#[51,51]},Value.string {data:=#[48]}])).run Tryz.prog ((w.alloc (Obj.cells #[Value.string {data:=#[]},Value.string {data:=#[]}] 154)).alloc (.map #[{key:=Value.string {data:=#[]},val:=Value.agg #[Value.string {data:=#[]},Value.string {data:=#[]}],born:=0},{key:=Value.string {data:=#[71,66]},val:=Value.agg #[Value.string {data:=#[52,52]},Value.string {data:=#[48]}],born:=1},{key:=Value.string {data:=#[85,83]},val:=Value.agg #[Value.string {data:=#[49]},Value.string {data:=#[]}],born:=2},{key:=Value.string {data:=#[68,69]},val:=Value.agg #[Value.string {data:=#[52,57]},Value.string {data:=#[48]}],born:=3}] 4))= .ok () ((w.alloc (Obj.cells #[Value.string {data:=#[]},Value.string {data:=#[]}] 154)).alloc (.map #[{key:=Value.string {data:=#[]},val:=Value.agg #[Value.string {data:=#[]},Value.string {data:=#[]}],born:=0},{key:=Value.string {data:=#[71,66]},val:=Value.agg #[Value.string {data:=#[52,52]},Value.string {data:=#[48]}],born:=1},{key:=Value.string {data:=#[85,83]},val:=Value.agg #[Value.string {data:=#[49]},Value.string {data:=#[]}],born:=2},{key:=Value.string {data:=#[68,69]},val:=Value.agg #[Value.string {data:=#[52,57]},Value.string {data:=#[48]}],born:=3},{key:=Value.string {data:=#[70,82]},val:=Value.agg #[Value.string {data:=#[51,51]},Value.string {data:=#[48]}],born:=4}] 5)):=by
  have:=zM Tryz.underlying180 Tryz.underlying9 (w.alloc (Obj.cells #[Value.string {data:=#[]},Value.string {data:=#[]}] 154)) #[{key:=Value.string {data:=#[]},val:=Value.agg #[Value.string {data:=#[]},Value.string {data:=#[]}],born:=0},{key:=Value.string {data:=#[71,66]},val:=Value.agg #[Value.string {data:=#[52,52]},Value.string {data:=#[48]}],born:=1},{key:=Value.string {data:=#[85,83]},val:=Value.agg #[Value.string {data:=#[49]},Value.string {data:=#[]}],born:=2},{key:=Value.string {data:=#[68,69]},val:=Value.agg #[Value.string {data:=#[52,57]},Value.string {data:=#[48]}],born:=3}] 4 {data:=#[70,82]} (Value.agg #[Value.string {data:=#[51,51]},Value.string {data:=#[48]}]) rfl
  simpa using this
 have ay2:(Instr.mapUpdate 180 (.map (some (w.heap.size+1))) (.string {data:=#[67,72]}) (Value.agg #[Value.string {data:=#[52,49]},Value.string {data:=#[48]}])).run Tryz.prog ((w.alloc (Obj.cells #[Value.string {data:=#[]},Value.string {data:=#[]}] 154)).alloc (.map #[{key:=Value.string {data:=#[]},val:=Value.agg #[Value.string {data:=#[]},Value.string {data:=#[]}],born:=0},{key:=Value.string {data:=#[71,66]},val:=Value.agg #[Value.string {data:=#[52,52]},Value.string {data:=#[48]}],born:=1},{key:=Value.string {data:=#[85,83]},val:=Value.agg #[Value.string {data:=#[49]},Value.string {data:=#[]}],born:=2},{key:=Value.string {data:=#[68,69]},val:=Value.agg #[Value.string {data:=#[52,57]},Value.string {data:=#[48]}],born:=3},{key:=Value.string {data:=#[70,82]},val:=Value.agg #[Value.string {data:=#[51,51]},Value.string {data:=#[48]}],born:=4}] 5))= .ok () ((w.alloc (Obj.cells #[Value.string {data:=#[]},Value.string {data:=#[]}] 154)).alloc (.map #[{key:=Value.string {data:=#[]},val:=Value.agg #[Value.string {data:=#[]},Value.string {data:=#[]}],born:=0},{key:=Value.string {data:=#[71,66]},val:=Value.agg #[Value.string {data:=#[52,52]},Value.string {data:=#[48]}],born:=1},{key:=Value.string {data:=#[85,83]},val:=Value.agg #[Value.string {data:=#[49]},Value.string {data:=#[]}],born:=2},{key:=Value.string {data:=#[68,69]},val:=Value.agg #[Value.string {data:=#[52,57]},Value.string {data:=#[48]}],born:=3},{key:=Value.string {data:=#[70,82]},val:=Value.agg #[Value.string {data:=#[51,51]},Value.string {data:=#[48]}],born:=4},{key:=Value.string {data:=#[67,72]},val:=Value.agg #[Value.string {data:=#[52,49]},Value.string {data:=#[48]}],born:=5}] 6)):=by
  have:=zM Tryz.underlying180 Tryz.underlying9 (w.alloc (Obj.cells #[Value.string {data:=#[]},Value.string {data:=#[]}] 154)) #[{key:=Value.string {data:=#[]},val:=Value.agg #[Value.string {data:=#[]},Value.string {data:=#[]}],born:=0},{key:=Value.string {data:=#[71,66]},val:=Value.agg #[Value.string {data:=#[52,52]},Value.string {data:=#[48]}],born:=1},{key:=Value.string {data:=#[85,83]},val:=Value.agg #[Value.string {data:=#[49]},Value.string {data:=#[]}],born:=2},{key:=Value.string {data:=#[68,69]},val:=Value.agg #[Value.string {data:=#[52,57]},Value.string {data:=#[48]}],born:=3},{key:=Value.string {data:=#[70,82]},val:=Value.agg #[Value.string {data:=#[51,51]},Value.string {data:=#[48]}],born:=4}] 5 {data:=#[67,72]} (Value.agg #[Value.string {data:=#[52,49]},Value.string {data:=#[48]}]) rfl
  simpa using this
 obtain⟨c,t,ok,hl,hv⟩:∃(c t:ByteArray) (ok:Bool),(Instr.lookup 180 (.map (some (w.heap.size+1))) (.string s) true).run Tryz.prog ((w.alloc (Obj.cells #[Value.string {data:=#[]},Value.string {data:=#[]}] 154)).alloc (.map #[{key:=Value.string {data:=#[]},val:=Value.agg #[Value.string {data:=#[]},Value.string {data:=#[]}],born:=0},{key:=Value.string {data:=#[71,66]},val:=Value.agg #[Value.string {data:=#[52,52]},Value.string {data:=#[48]}],born:=1},{key:=Value.string {data:=#[85,83]},val:=Value.agg #[Value.string {data:=#[49]},Value.string {data:=#[]}],born:=2},{key:=Value.string {data:=#[68,69]},val:=Value.agg #[Value.string {data:=#[52,57]},Value.string {data:=#[48]}],born:=3},{key:=Value.string {data:=#[70,82]},val:=Value.agg #[Value.string {data:=#[51,51]},Value.string {data:=#[48]}],born:=4},{key:=Value.string {data:=#[67,72]},val:=Value.agg #[Value.string {data:=#[52,49]},Value.string {data:=#[48]}],born:=5}] 6))= .ok (.tuple #[.agg #[.string c,.string t],.bool ok]) ((w.alloc (Obj.cells #[Value.string {data:=#[]},Value.string {data:=#[]}] 154)).alloc (.map #[{key:=Value.string {data:=#[]},val:=Value.agg #[Value.string {data:=#[]},Value.string {data:=#[]}],born:=0},{key:=Value.string {data:=#[71,66]},val:=Value.agg #[Value.string {data:=#[52,52]},Value.string {data:=#[48]}],born:=1},{key:=Value.string {data:=#[85,83]},val:=Value.agg #[Value.string {data:=#[49]},Value.string {data:=#[]}],born:=2},{key:=Value.string {data:=#[68,69]},val:=Value.agg #[Value.string {data:=#[52,57]},Value.string {data:=#[48]}],born:=3},{key:=Value.string {data:=#[70,82]},val:=Value.agg #[Value.string {data:=#[51,51]},Value.string {data:=#[48]}],born:=4},{key:=Value.string {data:=#[67,72]},val:=Value.agg #[Value.string {data:=#[52,49]},Value.string {data:=#[48]}],born:=5}] 6))/\Hid (Value.tuple #[.agg #[.string c,.string t],.bool ok]=uO s.data.toList):=by
  obtain⟨a,hf,ha⟩:=aiH s
  have:=ajf (z:= .agg #[.string ⟨#[]⟩,.string ⟨#[]⟩]) Tryz.underlying180 Tryz.underlying9 (fun w=>Tryz.zeroValue154 w) (w.alloc (Obj.cells #[Value.string {data:=#[]},Value.string {data:=#[]}] 154)) C1 6 s a hf
  have hsz:(w.alloc (Obj.cells #[Value.string {data:=#[]},Value.string {data:=#[]}] 154)).heap.size=w.heap.size+1:=by simp
  rw[hsz,ha]at this
  have hr:∃(c t:ByteArray) (ok:Bool),uO s.data.toList=Value.tuple #[.agg #[.string c,.string t],.bool ok]:=by
   unfold uO
   cases m3 s.data.toList with
   |none=>exact⟨_,_,_,rfl⟩
   |some p=>exact⟨_,_,_,rfl⟩
  obtain⟨c,t,ok,hr⟩:=hr
  rw[hr]at this
  exact⟨c,t,ok,this,hr.symm⟩
 go_wp2
 refine bodyPost_ret (v:= .tuple #[.agg #[.string c,.string t],.bool ok]) ?_ rfl ⟨congrArg _ hv,(((Below.refl _ w).alloc (Nat.le_refl _) _).alloc (by simp) _).alloc (by simp;omega) _⟩
 have hg:∀o1 o2:Obj,(((w.alloc (Obj.cells #[Value.string c,Value.string t] 154)).alloc o1).alloc o2).heap[w.heap.size]?=some (.cells #[.string c,.string t] 154 (0,0)):=fun o1 o2=>by
  rw[Lib.alloc_old _ _ _ (by simp;omega),Lib.alloc_old _ _ _ (by simp),heap_alloc_new]
 have pI:=run_loadVar_row (P:=Tryz.prog) (((w.alloc (Obj.cells #[Value.string c,Value.string t] 154)).alloc (.map C1 6)).alloc (Obj.cells #[Value.string c,Value.string t] 154)) w.heap.size 154 154 #[.string c,.string t] (0,0) _ (hg _ _) Tryz.underlying154 rfl (by kernel_rfl)
 rw[results_cell_tmp rfl]
 show((loadVar 154 ⟨w.heap.size,0,none⟩).run Tryz.prog (((w.alloc (Obj.cells #[Value.string c,Value.string t] 154)).alloc (.map C1 6)).alloc (Obj.cells #[Value.string c,Value.string t] 154))).andThen _=_
 rw[pI]
 rfl
end Go.Proofs
set_option linter.unusedVariables false
set_option maxRecDepth 100000
namespace Go.ck
open Go Go.bj Go.Proofs Go.RowKit
theorem ajS {wb:World}:aW wb CX:=by
 intro zs hz
 match zs,hz with
 |[z],hz=>
  have hw:=fun w=>Tryz.acg (bb (U z)) w
  have e1:(bb (U z)).data.toList=U z:=by simp[bb]
  cases j8:m3 (U z)with
  |none=>
   refine⟨[0,0,0],⟨Int.le_refl _,mx,Int.le_refl _,mx,by decide,by decide,trivial⟩,?_,fun w _=> .inr ⟨enters (by kernel_rfl) _ _,?_⟩⟩
   ·show(match m3 (U z)with|some (code,mR)=>U 0=code/\U 0=mR/\(0:Int)=1|none=>(0:Int)=0/\U 0=[]/\U 0=[])
    rw[j8];exact⟨rfl,rfl,rfl⟩
   ·refine(hw w).mono ?_
    rintro e w' ⟨rfl,hb⟩
    refine⟨?_,BC hb⟩
    rw[e1];unfold uO;rw[j8];rfl
  |some Bq=>
   obtain⟨c,t⟩:=Bq
   have h1:=Bl (Rc j8) (by decide)
   have h2:0<=dI t/\dI t<=cy:=Bl (n:=1) (by rcases aci j8 with h|h<;>rw[h]<;>decide) (by decide)
   refine⟨[dI c,dI t,1],⟨h1.1,h1.2,h2.1,h2.2,by decide,by decide,trivial⟩,?_,fun w _=> .inr ⟨enters (by kernel_rfl) _ _,?_⟩⟩
   ·show(match m3 (U z)with|some (code,mR)=>U (dI c)=code/\U (dI t)=mR/\(1:Int)=1|none=>(1:Int)=0/\U (dI c)=[]/\U (dI t)=[])
    rw[j8];exact⟨gb _,gb _,rfl⟩
   ·refine(hw w).mono ?_
    rintro e w' ⟨rfl,hb⟩
    refine⟨?_,BC hb⟩
    rw[e1];unfold uO;rw[j8]
    show _=Ending.returned (.tuple #[.agg #[.string (bb (U (dI c))),.string (bb (U (dI t)))],.bool true])
    rw[gb,gb];rfl
end Go.ck

/- The address seat: a number's digits (bare),by a walk. -/
namespace Go.Proofs
open Go.RowKit Go.ck
theorem aaT (s:ByteArray):s.data.toList.length=s.size:=by rw[Array.length_toList];rfl
def yH (s:az):Value:=match e9 s [] false with|some (d,p)=> .tuple #[.string ⟨d.toArray⟩,.bool p,.bool true]|none=> .tuple #[.string ⟨#[]⟩,.bool false,.bool false]
theorem ahR (c:UInt8):hZ c=true↔(48:Int)<=c.toNat/\(c.toNat:Int)<=57:=by
 unfold hZ;rw[Bool.and_eq_true,Nat.ble_eq,Nat.ble_eq];omega
theorem anO (c:UInt8):∃R:Int,(R<0↔ya.contains c=false)/\∀w,Calls Tryz.prog 125 #[.string {data:=#[32,45,46,40,41]},.int .u8 c.toNat] w fun e w'=>e= .returned (.int .i64 R)/\w'=w:=by
 refine⟨Lib.indexByte ya c,?_,fun w=>?_⟩
 ·rw[Lib.contains_iff_indexByte];simp
 ·have:=Tryz.strings_IndexByte ⟨#[32,45,46,40,41]⟩ (c.toNat:Int) w
  have e:(c.toNat:Int).toNat.toUInt8=c:=by simp
  rw[e]at this
  exact this
theorem aiQ (d:az) (b:Nat) (w:World) (h:Lib.IsBuilder 112 5 b b (Lib.byteCells d) w):Calls Tryz.prog 159 #[.pointer (some ⟨b,0,none⟩)] w fun e w'=>e= .returned (.int .i64 d.length)/\w'=w:=by
 have:=Tryz.Builder_Len b b _ w h
 rwa [Lib.byteCells_length]at this
set_option maxHeartbeats 4000000 in
set_option maxRecDepth 1000000 in
theorem Tryz.aaE (s:ByteArray) (w:World) (hs:s.size<=140737488351232):
 Calls Tryz.prog 130 #[.string s] w fun e w'=>e= .returned (yH s.data.toList)/\Below w.heap.size w w':=by
 go_enter Tryz.func130,Tryz.ntmps130
 go_wp2
 go_loopw [10,3] (fun vi ara wr=>∃(i:Nat) (d:List UInt8) (p:Bool),vi= .int .i64 i/\ara= .bool p/\i<=s.size/\d.length<=i/\Hid (e9 (s.data.toList.drop i) d p=e9 s.data.toList [] false)/\Lib.IsBuilder 112 5 w.heap.size w.heap.size (Lib.byteCells d) wr/\Below w.heap.size w wr) (fun vi _ _=>s.size-(RowKit.intOf vi).toNat)
 case atStart=>
  exact⟨0,[],false,rfl,rfl,Nat.zero_le _,Nat.le_refl _,rfl,Lib.fresh_isBuilder 112 5 w,(Below.refl _ w).alloc (Nat.le_refl _) _⟩
 case round=>
  obtain⟨i,d,p,rfl,rfl,hi,hd,hb,hI,kv⟩:=hrel
  have hsz:s.data.toList.length=s.size:=aaT s
  by_cases hlt:i<s.size
  ·have hlt':(i:Int)<(s.size:Int):=by omega
   have hnn:¬((i:Int)<0):=by omega
   have hc:s.data.toList.getD i 0=s[i]:=by
    simp only[List.getD,List.getElem?_eq_getElem (show i<s.data.toList.length by omega),Option.getD_some]
    rfl
   have hst:=aaD (s:=s.data.toList) (d:=d) (p:=p) (i:=i) (by omega)
   rw[hc]at hst
   have hD:=ahR s[i]
   have fin:∀{d':az} {p':Bool},e9 (List.drop i s.data.toList) d p=e9 (List.drop (i+1) s.data.toList) d' p'->Hid (e9 (List.drop (i+1) s.data.toList) d' p'=e9 s.data.toList [] false):=fun h=>by
    have hb:e9 (List.drop i s.data.toList) d p=e9 s.data.toList [] false:=hb
    show _=_
    rw[<-hb,h]
   have bad:e9 (List.drop i s.data.toList) d p=none->Value.tuple #[.string ⟨#[]⟩,.bool false,.bool false]=yH s.data.toList:=fun h=>by
    have hb:e9 (List.drop i s.data.toList) d p=e9 s.data.toList [] false:=hb
    unfold yH
    rw[<-hb,h]
   obtain⟨R,hR,hcall⟩:=anO s[i]
   have zi:=fun W=>aiQ d w.heap.size W
   by_cases qy:(48:Int)<=s[i].toNat/\(s[i].toNat:Int)<=57
   ·have afS:=hD.2 qy
    obtain⟨qy,Sf⟩:=qy
    rw[afS,cond_true]at hst
    clear hR hcall zi bad
    go_wp2_with (go_at_call 81;refine(Tryz.Builder_WriteByte w.heap.size w.heap.size _ _ _ hI (by rw[Lib.byteCells_length];omega) kv.size).mono ?_)
    rintro e dH rfl h1 b1
    go_wp2
    go_roundw
    case rel=>
     refine⟨i+1,d++[s[i]],p,by simp,rfl,by omega,by simp;omega,fin hst,?_,kv.trans b1⟩
     rw[Lib.byteCells_append];exact Or.inr h1
    case measure=>simp[intOf];omega
   ·have hnd:hZ s[i]=false:=by
     cases hh:hZ s[i]with
     |false=>rfl
     |true=>exact absurd (hD.1 hh) qy
    rw[hnd,cond_false]at hst
    by_cases nP:s[i]=43
    ·have Jd:(s[i].toNat:Int)=43:=by rw[nP];rfl
     have U7:¬(48:Int)<=s[i].toNat:=by omega
     have hns:ya.contains s[i]=false:=by rw[nP];rfl
     have Sr:=hR.2 hns
     rw[hns,cond_false]at hst
     by_cases hgo:d.length=0/\p=false
     ·obtain⟨tr,rfl⟩:=hgo
      have afO:d=[]:=List.length_eq_zero_iff.1 tr
      have K4:e9 (List.drop i s.data.toList) d false=e9 (List.drop (i+1) s.data.toList) d true:=by
       rw[hst,nP,afO];rfl
      have Fl:(d.length:Int)=0:=by omega
      rw[Fl]at zi
      go_wp2_with (go_at_call 159;refine(zi _ hI).mono ?_)
      go_roundw
      case rel=>
       exact⟨i+1,d,true,by simp,rfl,by omega,by omega,fin K4,hI,kv⟩
      case measure=>simp[intOf];omega
     ·have hno:e9 (List.drop i s.data.toList) d p=none:=by
       rw[hst]
       have:(d.isEmpty&& !p)=false:=by
        cases d with
        |nil=>
         cases p with
         |true=>rfl
         |false=>exact absurd ⟨rfl,rfl⟩ hgo
        |cons x r=>rfl
       rw[Bool.and_assoc,this,Bool.and_false];rfl
      have hbad:=bad hno
      clear hR
      rw[Jd]at hcall
      by_cases tr:d.length=0
      ·have hp:p=true:=by
        cases p with
        |true=>rfl
        |false=>exact absurd ⟨tr,rfl⟩ hgo
       subst hp
       have Fl:(d.length:Int)=0:=by omega
       rw[Fl]at zi
       go_wp2_with (go_at_call 159;refine(zi _ hI).mono ?_)
       go_wp2_with (go_at_call 125;refine(hcall _).mono ?_)
       rintro e dH ⟨rfl,rfl⟩
       go_wp2
       go_ret3
       refine⟨?_,kv⟩
       rw[<-hbad]
       rfl
      ·have Fl:¬(d.length:Int)=0:=by omega
       go_wp2_with (go_at_call 159;refine(zi _ hI).mono ?_)
       go_wp2_with (go_at_call 125;refine(hcall _).mono ?_)
       rintro e dH ⟨rfl,rfl⟩
       go_wp2
       go_ret3
       refine⟨?_,kv⟩
       rw[<-hbad]
       rfl
    ·have azf:¬(s[i].toNat:Int)=43:=fun e=>nP (by rw[<-UInt8.toNat_inj];show s[i].toNat=43;omega)
     have Jd:(s[i]==43)=false:=by simpa using nP
     rw[Jd,Bool.false_and,Bool.false_and,cond_false]at hst
     have h48':¬(48:Int)<=s[i].toNat∨((48:Int)<=s[i].toNat/\¬(s[i].toNat:Int)<=57):=by omega
     cases hsp:ya.contains s[i]with
     |false=>
      have Sr:=hR.2 hsp
      rw[hsp,cond_false]at hst
      have hbad:=bad hst
      clear hR
      rcases h48' with U7|⟨NZ,ajy⟩
      ·go_wp2_with (go_at_call 125;refine(hcall _).mono ?_)
       go_ret3
       refine⟨?_,kv⟩
       rw[<-hbad]
       rfl
      ·go_wp2_with (go_at_call 125;refine(hcall _).mono ?_)
       go_ret3
       refine⟨?_,kv⟩
       rw[<-hbad]
       rfl
     |true=>
      have Sr:¬R<0:=fun h=>by have:=hR.1 h;rw[hsp]at this;cases this
      rw[hsp,cond_true]at hst
      clear hR
      rcases h48' with U7|⟨NZ,ajy⟩
      ·go_wp2_with (go_at_call 125;refine(hcall _).mono ?_)
       go_roundw
       case rel=>exact⟨i+1,d,p,by simp,rfl,by omega,by omega,fin hst,hI,kv⟩
       case measure=>simp[intOf];omega
      ·go_wp2_with (go_at_call 125;refine(hcall _).mono ?_)
       go_roundw
       case rel=>exact⟨i+1,d,p,by simp,rfl,by omega,by omega,fin hst,hI,kv⟩
       case measure=>simp[intOf];omega
  ·have hge:¬(i:Int)<(s.size:Int):=by omega
   go_wp2_with (go_at_call 82;refine(Tryz.Builder_String_any w.heap.size w.heap.size d _ hI kv.size).mono ?_)
   rintro e dH rfl b1
   go_wp2
   go_ret3
   have hb:e9 (List.drop i s.data.toList) d p=e9 s.data.toList [] false:=hb
   rw[List.drop_of_length_le (by omega),e9]at hb
   refine⟨?_,kv.trans b1⟩
   unfold yH
   rw[<-hb]
   rfl
end Go.Proofs
set_option linter.unusedVariables false
set_option maxRecDepth 100000
namespace Go.ck
open Go Go.bj Go.Proofs Go.RowKit
theorem ajM {wb:World}:aW wb CV:=by
 intro zs hz
 match zs,hz with
 |[z],hz=>
  have hl:(U z).length<=140737488351232:=s5 hz.2.1
  have hw:=fun w=>Tryz.aaE (bb (U z)) w (by show(U z).toArray.size<=_;simpa using hl)
  have e1:(bb (U z)).data.toList=U z:=by simp[bb]
  cases j8:e9 (U z) [] false with
  |none=>
   refine⟨[0,0,0],⟨Int.le_refl _,mx,by decide,by decide,by decide,by decide,trivial⟩,?_,fun w _=> .inr ⟨enters (by kernel_rfl) _ _,?_⟩⟩
   ·show(match e9 (U z) [] false with|some (d',p')=>U 0=d'/\(0:Int)=bf p'/\(0:Int)=1|none=>U 0=[]/\(0:Int)=0/\(0:Int)=0)
    rw[j8];exact⟨rfl,rfl,rfl⟩
   ·refine(hw w).mono ?_
    rintro e w' ⟨rfl,hb⟩
    refine⟨?_,BC hb⟩
    rw[e1];unfold yH;rw[j8];rfl
  |some Bq=>
   obtain⟨c,t⟩:=Bq
   have h1:=Bl (A8 _ _ _ j8) (by simp;omega)
   refine⟨[dI c,bf t,1],⟨h1.1,h1.2,(pv t).1,(pv t).2,by decide,by decide,trivial⟩,?_,fun w _=> .inr ⟨enters (by kernel_rfl) _ _,?_⟩⟩
   ·show(match e9 (U z) [] false with|some (d',p')=>U (dI c)=d'/\bf t=bf p'/\(1:Int)=1|none=>U (dI c)=[]/\bf t=0/\(1:Int)=0)
    rw[j8];exact⟨gb _,rfl,rfl⟩
   ·refine(hw w).mono ?_
    rintro e w' ⟨rfl,hb⟩
    refine⟨?_,BC hb⟩
    rw[e1];unfold yH;rw[j8]
    show _=Ending.returned (.tuple #[.string (bb (U (dI c))),.bool (decide (bf t=1)),.bool true])
    rw[gb,Ib];rfl
end Go.ck

/- slices.Delete at a struct,by a walk (rows of an own block). NOT WHOLE YET: see NOTES. -/
set_option linter.unusedSimpArgs false
set_option linter.unusedVariables false
namespace Go.Proofs
open Go.RowKit Go.bj
section
variable {P:Program}
end
theorem DC (w:World) (g:Nat) (a:Array Value):kn w (w.setRow g a) (some g):=
 ⟨rfl,rfl,rfl,by simp[World.setRow],fun k hk hne=>setRow_other w g k a (fun e=>hne (by rw[e]))⟩
end Go.Proofs

/- slices.Insert at a struct: run equations for its walk (the walk itself is still to do). -/
set_option linter.unusedVariables false
set_option linter.unusedSimpArgs false
namespace Go.Proofs
open Go.RowKit Go.bj
section
variable {P:Program}
theorem GX (w:World) (Rd anH ty e:TypeId) (i:TypeInfo) (hu:P.underlying Rd=some (.slice e)) (hi:P.info? e=some i) (g o ES acm:Nat) (a:Addr) (sLen sCap:Nat) (cur:Array Value) (t:TypeId) (cs:List Value)
 (hg:w.heap[g]?=some (.cells cur t (0,0))) (hn:cs.length=Nat.min sLen ES*i.size) (vk:∀j v,cs[j]?=some v->w.cell? (a.add j)=some v) (hfit:o+cs.length<=cur.size) (h1:∀v∈cs,v.oneCell'=true):
 (Builtin.copy_ #[Rd,anH] ty #[.slice (some ⟨g,o,none⟩) ES acm,.slice (some a) sLen sCap]).run P w= .ok (goInt (Nat.min sLen ES)) (w.setRow g (cur.toList.take o++cs++cur.toList.drop (o+cs.length)).toArray):=by
 have hst:=run_storeCells_at P g o t cs 0 cur w hg (by simpa using hfit) h1
 rw[Nat.add_zero]at hst
 have hf:=run_firstCells_some (P:=P) w i.size (Nat.min sLen ES) a sLen sCap cs hn vk
 simp[Builtin.copy_,run_underlying hu,Builtin.lenOf,sizeOf,typeInfo,hi,hf,hst]
theorem WB {ops:Array Oper} {o:Oper} {a:Act} {w:World} {K:Act->World->Prop} {Q:Exit->Act->World->Prop} {E:Prop}
 (hg:o.guard=none) (s x:Operand) (t t':TypeId) (hop:o.op=Op.call {callee:=Callee.builtin Builtin.copy,args:=#[s,x],argTypes:=#[t,t']}) (u v:Value) (hs:a.eval s=u) (hx:a.eval x=v) {r:Value} {w':World}
 (hr:(Builtin.copy_ #[t,t'] o.type #[u,v]).run P w= .ok r w') (hK:K (a.put o.dst r) w'):if Region.wanted o (yielded ops a.tmps)=true then Oper.wp P o a w K Q else E:=by
 have hw:Region.wanted o (yielded ops a.tmps)=true:=by simp[Region.wanted,hg]
 rw[if_pos hw]
 unfold Oper.wp
 simp[execOp,hop,resolve,invoke,builtin,hs,hx,hr,Result.andThen]
 exact hK
theorem NC {w:World} {ops:Array Oper} {rest:List Oper} {o:Oper} {a:Act} {Q:Exit->Act->World->Prop} (hgd:o.guard=none) (s x:Operand) (t t':TypeId)
 (ho:o.op= .call {callee:= .builtin .append,args:=#[s,x],argTypes:=#[t,t']}) (u v:Value) (hs:a.eval s=u) (hx:a.eval x=v) {r:Value} {w':World}
 (hr:(Builtin.append_ #[t,t'] o.type #[u,v]).run P w= .ok r w') (h:wpList P ops Q rest (a.put o.dst r) w'):wpList P ops Q (o::rest) a w:=by
 refine wpList_plain hgd fun K hK=>?_
 unfold Oper.wp
 simp[execOp,ho,resolve,invoke,builtin,hs,hx,hr,Result.andThen]
 exact hK _ _ h
end
set_option maxHeartbeats 4000000 in
set_option maxRecDepth 1000000 in
theorem Tryz.TN (g n cap:Nat) (A:Addr) (vc:Nat) (r:Value) (w dH:World) (hn:n<=cap) (hcap:cap<=9223372036854775807)
 (qE:∀ty,(Builtin.append_ #[22,22] ty #[.slice (some ⟨g,0,none⟩) n cap,.slice (some A) 1 vc]).run Tryz.prog w= .ok r dH):
 Calls Tryz.prog 25 #[.slice (some ⟨g,0,none⟩) n cap,.int .i64 n,.slice (some A) 1 vc] w fun e w'=>e= .returned r/\w'=dH:=by
 obtain⟨B,hB⟩:∃B,(if cap=n then some (⟨g,0,none⟩:Addr)else some ⟨g,n*7,none⟩)=B:=⟨_,rfl⟩
 go_enter Tryz.func25,Tryz.ntmps25
 go_wp2_with (at_builtin;refine NC rfl (.tmp 23) (.tmp 24) 22 22 rfl _ _ rfl rfl (qE _) ?_)
 go_wp2
 all_goals (go_ret;exact⟨rfl,rfl⟩)
set_option maxHeartbeats 4000000 in
set_option maxRecDepth 1000000 in
theorem Tryz.insert_nil (A:Addr) (vc:Nat) (r:Value) (w dH:World)
 (qE:∀ty,(Builtin.append_ #[22,22] ty #[.slice none 0 0,.slice (some A) 1 vc]).run Tryz.prog w= .ok r dH):
 Calls Tryz.prog 25 #[.slice none 0 0,.int .i64 0,.slice (some A) 1 vc] w fun e w'=>e= .returned r/\w'=dH:=by
 go_enter Tryz.func25,Tryz.ntmps25
 go_wp2_with (at_builtin;refine NC rfl (.tmp 23) (.tmp 24) 22 22 rfl _ _ rfl rfl (qE _) ?_)
 go_wp2
 all_goals (go_ret;exact⟨rfl,rfl⟩)
set_option maxHeartbeats 4000000 in
set_option maxRecDepth 1000000 in
theorem Tryz.ahN (g n cap i G C:Nat) (A:Addr) (vc:Nat) (r1 r2:Value) (w dH my uH:World) (hin:i<n) (hn:n<=cap) (hroom:cap<n+1) (hC:n+1<=C) (dU:n<=1073741824)
 (qE:∀ty,(Builtin.append_ #[22,3] ty #[.slice (some ⟨g,0,none⟩) i cap,.int .i64 ((n:Int)+1-(i:Int))]).run Tryz.prog w= .ok (.slice (some ⟨G,0,none⟩) (n+1) C) dH)
 (r8:∀ty,(Builtin.copy_ #[22,22] ty #[.slice (some ⟨G,i*7,none⟩) (n+1-i) (C-i),.slice (some A) 1 vc]).run Tryz.prog dH= .ok r1 my)
 (wZ:∀ty,(Builtin.copy_ #[22,22] ty #[.slice (some ⟨G,(i+1)*7,none⟩) (n+1-(i+1)) (C-(i+1)),.slice (some ⟨g,i*7,none⟩) (n-i) (cap-i)]).run Tryz.prog my.drew= .ok r2 uH):
 Calls Tryz.prog 25 #[.slice (some ⟨g,0,none⟩) n cap,.int .i64 i,.slice (some A) 1 vc] w fun e w'=>e= .returned (.slice (some ⟨G,0,none⟩) (n+1) C)/\w'=uH:=by
 have f1:¬cap=i:=by omega
 have f2:¬C=i:=by omega
 have f3:¬C=i+1:=by omega
 have f4:i<=cap:=by omega
 have f5:¬((i:Int)=(n:Int)):=by omega
 have f6:(cap:Int)<(n:Int)+1:=by omega
 have f7:i<=C:=by omega
 have f8:i+1<=C:=by omega
 have f9:((i:Int)+1).toNat=i+1:=by omega
 have f10:(0:Int)<=(i:Int)+1:=by omega
 have f11:(i:Int)+1<=(n:Int)+1:=by omega
 have f12:i<=n:=by omega
 have f13:IntKind.i64.wrap ((i:Int)+1)=(i:Int)+1:=by rw[IntKind.wrap_i64];omega
 go_enter Tryz.func25,Tryz.ntmps25
 go_wp2_with (first
  |(at_builtin;refine NC rfl (.tmp 34) (.tmp 39) 22 3 rfl _ _ rfl rfl (qE _) ?_)
  |(at_builtin;refine ari rfl (.tmp 43) (.tmp 44) 22 22 rfl _ _ rfl rfl (r8 _) ?_))
 go_region_law (refine WB rfl (.tmp 50) (.tmp 53) 22 22 rfl (.slice (some ⟨G,(i+1)*7,none⟩) (n+1-(i+1)) (C-(i+1))) (.slice (some ⟨g,i*7,none⟩) (n-i) (cap-i)) (by simp[Act.eval,Act.put]) (by simp[Act.eval,Act.put]) (wZ _) ?_)
 go_wp2
 go_ret
 exact⟨rfl,rfl⟩
set_option maxHeartbeats 4000000 in
set_option maxRecDepth 1000000 in
theorem Tryz.ahO (g n cap i:Nat) (A:Addr) (vc:Nat) (r1 r2:Value) (w dH my:World) (hin:i<n) (hn:n+1<=cap) (dU:n<=1073741824)
 (Tg:(callFunc 40 #[.slice (some A) 1 vc,.slice (some ⟨g,(i+1)*7,none⟩) (n-i) (cap-(i+1))]).run Tryz.prog w= .ok (.value (.bool false)) w)
 (r8:∀ty,(Builtin.copy_ #[22,22] ty #[.slice (some ⟨g,(i+1)*7,none⟩) (n+1-(i+1)) (cap-(i+1)),.slice (some ⟨g,i*7,none⟩) (n+1-i) (cap-i)]).run Tryz.prog w.drew= .ok r1 dH)
 (wZ:∀ty,(Builtin.copy_ #[22,22] ty #[.slice (some ⟨g,i*7,none⟩) (n+1-i) (cap-i),.slice (some A) 1 vc]).run Tryz.prog dH= .ok r2 my):
 Calls Tryz.prog 25 #[.slice (some ⟨g,0,none⟩) n cap,.int .i64 i,.slice (some A) 1 vc] w fun e w'=>e= .returned (.slice (some ⟨g,0,none⟩) (n+1) cap)/\w'=my:=by
 have f1:¬cap=i:=by omega
 have f3:¬cap=i+1:=by omega
 have f4:i<=cap:=by omega
 have f5:¬((i:Int)=(n:Int)):=by omega
 have f6:¬(cap:Int)<(n:Int)+1:=by omega
 have f8:i+1<=cap:=by omega
 have f9:((i:Int)+1).toNat=i+1:=by omega
 have f10:(0:Int)<=(i:Int)+1:=by omega
 have f11:(i:Int)+1<=(n:Int)+1:=by omega
 have f12:i<=n:=by omega
 have f13:IntKind.i64.wrap ((i:Int)+1)=(i:Int)+1:=by rw[IntKind.wrap_i64];omega
 have f14:((n:Int)+1).toNat=n+1:=by omega
 have f15:(n:Int)+1<=(cap:Int):=by omega
 have f16:i<=n+1:=by omega
 have f17:(i:Int)<=(n:Int)+1:=by omega
 go_enter Tryz.func25,Tryz.ntmps25
 go_wp2
 go_region_law (refine WB rfl (.tmp 73) (.tmp 76) 22 22 rfl (.slice (some ⟨g,(i+1)*7,none⟩) (n+1-(i+1)) (cap-(i+1))) (.slice (some ⟨g,i*7,none⟩) (n+1-i) (cap-i)) (by simp[Act.eval,Act.put]) (by simp[Act.eval,Act.put]) (r8 _) ?_)
 go_wp2_with (at_builtin;refine ari rfl (.tmp 80) (.tmp 81) 22 22 rfl _ _ rfl rfl (wZ _) ?_)
 go_wp2
 go_ret
 exact⟨rfl,rfl⟩
end Go.Proofs

/- The contract of slices.Insert at a struct,out of its walks. -/
set_option linter.unusedVariables false
set_option linter.unusedSimpArgs false
set_option maxRecDepth 100000
namespace Go.ck
open Go Go.bj Go.Proofs Go.RowKit
theorem MZ (w:World) (o:Obj) (own:Option Nat):kn w (w.drew.alloc o) own:=
 have h:=(World.Extends.refl w.drew).alloc o
 ⟨h.os,h.tape,h.output,h.size,fun k hk _=>h.block k hk⟩
theorem kn.Ng {w w1 w2:World} {own:Option Nat} {g:Nat} (h:kn w w1 own) (h2:kn w1 w2 (some g)) (hg:own=some g∨w.heap.size<=g):kn w w2 own:=by
 obtain⟨a1,a2,a3,a4,a5⟩:=h
 obtain⟨b1,b2,b3,b4,b5⟩:=h2
 refine⟨b1.trans a1,b2.trans a2,b3.trans a3,Nat.le_trans a4 b4,fun k hk hne=>?_⟩
 rw[b5 k (Nat.lt_of_lt_of_le hk a4) (fun e=>?_),a5 k hk hne]
 cases e
 rcases hg with hg|hg
 ·exact hne hg
 ·omega
theorem kn.acu {w w1:World} {own:Option Nat} (h:kn w w1 own):kn w w1.drew own:=h
theorem anx {P:Program} (w:World) (DF aoq e:TypeId) (ht:P.underlying DF=some (.slice e)) (size:Nat) (hz:∀w,(Go.sizeOf e).run P w= .ok size w)
 (a b:Addr) (la ca lb abM:Nat) (hne:a.block≠b.block) (Bk QY:Array Value) (Hb WI:TypeId) (acY:Nat×Nat)
 (hA:w.heap[a.block]?=some (.cells Bk Hb acY)) (hB:w.heap[b.block]?=some (.cells QY WI (0,0))) (h0:Bk.size≠0):
 (Extern.SlicesOverlaps.overlaps #[DF,DF] #[aoq] #[.slice (some a) la ca,.slice (some b) lb abM]).run P w= .ok (.bool false) w:=by
 have hnb:(a.block != b.block)=true:=by simpa using hne
 have agF:(a.block==b.block)=false:=by simpa using hne
 have hsa:w.shape? a.block=some (Hb,Bk.size):=by unfold World.shape?;rw[hA]
 have ag6:w.shape? b.block=some (WI,QY.size):=by unfold World.shape?;rw[hB]
 have afZ:∀o,w.frozen? ⟨b.block,o,none⟩=false:=fun o=>by unfold World.frozen?;simp only[hB];simp
 have af0:w.frozen? b=false:=by unfold World.frozen?;simp only[hB];simp
 change Sem.run P (α:=Value) (do
  let some t:=(#[DF,DF]:Array TypeId)[0]?|stuck "slices.overlaps: no parameter types"
  let .slice elem<-underlying t|stuck "slices.overlaps: slice type expected"
  let size<-Go.sizeOf elem
  match(some a:Option Addr),(some b:Option Addr)with
  |some a,some b=>
   if la=0∨lb=0∨size=0 then pure (Value.bool false)
   else if a.block != b.block&&(<-frozen a)&&(<-frozen b)then unsupported .addressObserved
   else do
    if a.block != b.block then do
     noView a;noView b
     if<-mayBeOne a b then return Value.bool ((<-choose (.extern "sameAddr.stringBytes" 2))==1)
    pure (Value.bool (a.block==b.block&&a.off<b.off+lb*size&&b.off<a.off+la*size))
  |_,_=>pure (Value.bool false)) w=_
 by_cases hl:la=0∨lb=0∨size=0
 ·simp[run_underlying ht,hz,hl]
 ·obtain⟨ah6,agl⟩:∃k,Bk.size=k+1:=⟨Bk.size-1,by omega⟩
  rw[agl]at hsa
  cases h1:w.frozen? a<;>cases h2:w.frozen? ⟨a.block,ah6+1,none⟩<;>simp[run_underlying ht,hz,hl,hnb,agF,frozen,noView,viewAt,mayBeOne,stringish,shape,Sem.run,hsa,ag6,afZ,af0,h1,h2]
theorem anf {α:Type} {cells rL lD N rest:List α} {x y z:Nat} (h:cells=rL++lD++rest) (h1:rL.length=x) (hy:z<=cells.length) (hN:N=N) (hz:z=x+y):
 (cells.take z++lD++cells.drop (z+lD.length)).toArray.toList.take x++N++(cells.take z++lD++cells.drop (z+lD.length)).toArray.toList.drop (x+y)=rL++N++lD++cells.drop (z+lD.length):=by
 simp only
 have e1:(cells.take z++lD++cells.drop (z+lD.length)).take x=rL:=by
  rw[List.append_assoc,List.take_append_of_le_length (by rw[List.length_take];omega),List.take_take,Nat.min_eq_left (by omega),h,List.append_assoc,List.take_append_of_le_length (by omega),List.take_of_length_le (by omega)]
 have e2:(cells.take z++lD++cells.drop (z+lD.length)).drop (x+y)=lD++cells.drop (z+lD.length):=by
  rw[List.append_assoc,<-hz]
  have:(cells.take z).length=z:=by rw[List.length_take];omega
  conv=>lhs;arg 1;rw[<-this]
  rw[List.drop_left]
 rw[e1,e2]
 simp
theorem ad6 {α:Type} {rL lD N D:List α} {x y:Nat} (h1:rL.length=x) (hN:N.length=y):
 (rL++N++D).toArray.toList.take (x+y)++lD++(rL++N++D).toArray.toList.drop (x+y+lD.length)=rL++N++lD++(rL++N++D).toArray.toList.drop (x+y+lD.length):=by
 congr 2
 simp only
 rw[List.take_append_of_le_length (by rw[List.length_append];omega),List.take_of_length_le (by rw[List.length_append];omega)]
theorem akp {wb:World}:dV.cf Tryz.prog wb (cB sh SB dV.id):=by
 refine⟨fun args w=>enters (by kernel_rfl) _ _,fun F w v0 code vs zs hw ho hc hz hpre hat hF=>?_⟩
 match zs,hz,vs,hat with
 |[i,r],hz,[vi,arb],hat=>
  obtain⟨xl,xm,_⟩:=hat
  have xl:vi= .int .i64 i:=xl
  have ahs:qk F w dV.sh (aa r) arb:=xm
  clear xm
  have hpre:(0<=i/\i<=((aa code).length:Int))/\(aa r).length=1/\(aa code).length+1<=1073741824:=hpre
  obtain⟨⟨p0,p1⟩,p2,p3⟩:=hpre
  obtain⟨a,ha⟩:∃a:Nat,i=a:=⟨i.toNat,by omega⟩
  subst ha
  have p1:a<=(aa code).length:=by omega
  rcases ahs with⟨_,h0⟩|⟨hW,oA,vc,Q5,Hb,ade,xm,⟨ayO,ayP⟩,ae9,Kg,KY⟩
  ·rw[h0]at p2;simp at p2
  rw[p2]at xm
  obtain⟨i0,qN,qP,z,Ku,Li,Km⟩:∃i0,Tryz.prog.info? 32=some i0/\i0.size=7/\∃z,i0.zero=some z/\z.cells.size=7/\i0.bytes<=131072:=⟨_,rfl,by kernel_rfl,_,rfl,by kernel_rfl,by decide+kernel⟩
  have CF:dV.sh.length=7:=rfl
  have hnone:∀row∈aa r,bT dV.sh row:=KY.1
  have hnl:(aV dV.sh (aa r)).length=7:=by rw[jm hnone,p2,CF,Nat.one_mul]
  have hone:∀(rows:List (List Int)),∀u∈aV dV.sh rows,u.oneCell'=true:=fun _=>E4
  have agy:hW<w.heap.size:=(Array.getElem?_eq_some_iff.1 Kg).1
  have ae2:Q5.size≠0:=by
   obtain⟨_,pre,post,h2,_⟩:=KY
   have:=congrArg List.length h2
   simp only[List.length_append,hnl,Array.length_toList]at this
   omega
  have vk:∀w1:World,w1.heap[hW]?=w.heap[hW]?->∀j u,(aV dV.sh (aa r))[j]?=some u->w1.cell? ((⟨hW,oA,none⟩:Addr).add j)=some u:=fun w1 h1 j u hu=>by
   rw[Addr.add_lit]
   have:=KY.flat hu
   simp only[World.cell?,h1,Kg,Option.isSome_none,Bool.false_eq_true,if_false]
   exact this
  have K3:∀w1:World,w1.heap[hW]?=w.heap[hW]?->Src Tryz.prog i0.size 22 (.slice (some ⟨hW,oA,none⟩) 1 vc) 1 (aV dV.sh (aa r)) w1:=fun w1 h1=>
   Src.ofSlice w1 Tryz.underlying22 ⟨hW,oA,none⟩ 1 vc _ (by rw[hnl,qP]) (vk w1 h1) (hone _)
  have fin:∀(w':World) (G C:Nat) (cells:Array Value) (post:List Value),kn w w' (kH v0)->(∀row∈aa code,bT dV.sh row)->w'.heap[G]?=some (.cells cells 32 (0,0))->cells.toList=aV dV.sh ((aa code).take a)++aV dV.sh (aa r)++aV dV.sh ((aa code).drop a)++post->cells.size=C*7->
   (aa code).length+1<=C->(C:Int)<=9223372036854775807->(kH v0=some G∨w.heap.size<=G)->
   kn w w' (kH v0)/\∃code' v',(0<=code'/\code'<=b8)/\cB sh SB dV.id (code::[(a:Int),r]) [code']/\ps (fun g=>kH v0=some g∨w.heap.size<=g) w' dV.sh dV.e (aa code') v'/\Ending.returned (.slice (some ⟨G,0,none⟩) ((aa code).length+1) C)= .returned v':=by
   intro w' G C cells post lL hok hG hcells hsz Sj ae6 hown
   have hall:∀row∈(aa code).take a++aa r++(aa code).drop a,bT dV.sh row:=fun row hr=>by
    rcases List.mem_append.1 hr with hr|hr
    ·rcases List.mem_append.1 hr with hr|hr
     ·exact hok row (List.mem_of_mem_take hr)
     ·exact hnone row hr
    ·exact hok row (List.mem_of_mem_drop hr)
   have hlen':((aa code).take a++aa r++(aa code).drop a).length=(aa code).length+1:=by
    rw[List.length_append,List.length_append,List.length_take,List.length_drop,p2,Nat.min_eq_left p1];omega
   refine⟨lL,rc ((aa code).take a++aa r++(aa code).drop a),_,⟨fp _,uG (by kernel_rfl) (by rw[hlen'];omega) hall⟩,?_,Or.inr ⟨G,C,cells,?_,⟨?_,ae6⟩,hown,hG,⟨?_,[],post,?_,rfl⟩,hsz⟩,rfl⟩
   ·show aa (rc _)=(aa code).take ((a:Int)).toNat++aa r++(aa code).drop ((a:Int)).toNat
    rw[dN];rfl
   ·rw[dN,hlen']
   ·rw[dN,hlen'];exact Sj
   ·rw[dN];exact hall
   ·rw[dN,hcells,List.nil_append,nN,nN]
  rw[xl,xm]
  rcases ho with⟨hv0,h0⟩|⟨g,cap,cells,hv0,⟨SJ,J7⟩,hwb,hg,hrows,hsz⟩
  ·
   have qC:a=0:=by rw[h0]at p1;simpa using p1
   subst qC
   have hC:=BL w (0+1) 0 32 (by omega)
   have qE:∀ty,(Builtin.append_ #[22,22] ty #[.slice none 0 0,.slice (some ⟨hW,oA,none⟩) 1 vc]).run Tryz.prog w=_:=fun ty=>
    run_append_grow_src w 22 22 ty 32 i0 z Tryz.underlying22 qN Ku none 0 0 [] (Jq _ _ _ _) _ 1 _ (K3 w rfl) (by omega) (by omega) (growslice_fits (by omega) (by omega))
   rw[hv0]
   refine(Tryz.insert_nil ⟨hW,oA,none⟩ vc _ w _ qE).mono ?_
   rintro e w' ⟨rfl,rfl⟩
   have Sj:=hC.1
   have:=fin _ w.heap.size (grownCap w (0+1) 0 32) (([]++aV dV.sh (aa r)).toArray++Builtin.zeroCells z.cells (grownCap w (0+1) 0 32-(0+1))) (Builtin.zeroCells z.cells (grownCap w (0+1) 0 32-(0+1))).toList (MZ w _ _) (by rw[h0];intro _ h;cases h) (heap_alloc_new w.drew _) (by rw[h0];simp[aV]) (by
    simp only[Array.size_append,List.size_toArray,List.nil_append,hnl,DP,Li];omega) (by rw[h0];exact hC.1) (by omega) (.inr (Nat.le_refl _))
   rw[h0]at this
   rw[<-hv0];exact this
  ·rw[CF]at hsz
   obtain⟨hok,pre,rest,hcells,KS⟩:=hrows
   have KS:pre=[]:=List.eq_nil_of_length_eq_zero KS
   subst KS
   rw[List.nil_append]at hcells
   obtain⟨n,hn⟩:∃n,(aa code).length=n:=⟨_,rfl⟩
   rw[hn]at p1 p3 SJ hv0 fin
   have sf:aV dV.sh (aa code)=aV dV.sh ((aa code).take a)++aV dV.sh ((aa code).drop a):=by rw[<-nN,List.take_append_drop]
   have nS:(aV dV.sh ((aa code).take a)).length=a*7:=by rw[jm fun r h=>hok r (List.mem_of_mem_take h),List.length_take,Nat.min_eq_left (by omega),CF]
   have mF:(aV dV.sh ((aa code).drop a)).length=(n-a)*7:=by rw[jm fun r h=>hok r (List.mem_of_mem_drop h),List.length_drop,hn,CF]
   have gV:(aV dV.sh (aa code)).length=n*7:=by rw[jm hok,hn,CF]
   have hcl:cells.toList.length=cap*7:=by rw[Array.length_toList];exact hsz
   have hne:hW≠g∨cap=0:=by
    rcases Nat.eq_zero_or_pos cap with h|h
    ·exact .inr h
    ·refine .inl fun e=>?_
     obtain⟨c',rfl⟩:∃c',cap=c'+1:=⟨cap-1,by omega⟩
     refine hF hW ae9 ?_
     rw[hv0,e];rfl
   have hown:cap≠0->kH v0=some g:=fun h=>by
    obtain⟨c',rfl⟩:∃c',cap=c'+1:=⟨cap-1,by omega⟩
    rw[hv0];rfl
   have hlt:g<w.heap.size:=(Array.getElem?_eq_some_iff.1 hg).1
   have hcell:∀(w1:World) (o:Nat) (l:List Value) (pre post:List Value),w1.heap[g]?=w.heap[g]?->cells.toList=pre++l++post->pre.length=o->∀j u,l[j]?=some u->w1.cell? ((⟨g,o,none⟩:Addr).add j)=some u:=fun w1 o l pre post h1 h2 h3 j u hu=>by
    rw[Addr.add_lit]
    simp only[World.cell?,h1,hg,Option.isSome_none,Bool.false_eq_true,if_false]
    have hlt:=(List.getElem?_eq_some_iff.1 hu).1
    rw[<-Array.getElem?_toList,h2,List.append_assoc,List.getElem?_append_right (by omega),List.getElem?_append_left (by omega),<-h3]
    rw[show pre.length+j-pre.length=j by omega];exact hu
   by_cases Fg:a=n
   ·
    subst Fg
    have tr:(aa code).drop a=[]:=List.drop_of_length_le (by omega)
    have zC:(aa code).take a=aa code:=List.take_of_length_le (by omega)
    by_cases hroom:a+1<=cap
    ·have qE:∀ty,(Builtin.append_ #[22,22] ty #[.slice (some ⟨g,0,none⟩) a cap,.slice (some ⟨hW,oA,none⟩) 1 vc]).run Tryz.prog w=_:=fun ty=>
      Wd (P:=Tryz.prog) w 22 22 ty 32 i0 Tryz.underlying22 qN g a cap cells 32 hg _ 1 _ (K3 w rfl) hroom (by rw[qP,hnl,hsz];omega)
     rw[hv0]
     refine(Tryz.TN g a cap ⟨hW,oA,none⟩ vc _ w _ (by omega) (by omega) qE).mono ?_
     rintro e w' ⟨rfl,rfl⟩
     rw[<-hv0]
     refine fin _ g cap _ (cells.toList.drop (a*7+7)) (by rw[hown (by omega)];exact DC w g _) hok (setRow_heap w g _ _ _ _ hg) ?_ ?_ hroom J7 (.inl (hown (by omega)))
     ·rw[tr,zC,qP,hnl]
      simp only[hcells]
      rw[List.take_append_of_le_length (by omega),List.take_of_length_le (by omega)]
      simp[aV]
     ·simp only[List.size_toArray,List.length_append,List.length_take,List.length_drop,hcl,hnl,qP]
      omega
    ·have hC:=BL w (a+1) cap 32 (by omega)
     have qE:∀ty,(Builtin.append_ #[22,22] ty #[.slice (some ⟨g,0,none⟩) a cap,.slice (some ⟨hW,oA,none⟩) 1 vc]).run Tryz.prog w=_:=fun ty=>
      run_append_grow_src w 22 22 ty 32 i0 z Tryz.underlying22 qN Ku (some ⟨g,0,none⟩) a cap (aV dV.sh (aa code)) (run_firstCells_some w.drew i0.size a ⟨g,0,none⟩ a cap _ (by rw[gV,qP]) (hcell w.drew 0 _ [] rest rfl (by rw[hcells];rfl) rfl)) _ 1 _ (K3 w rfl) (by omega) (by omega) (growslice_fits (by omega) (by
       have:=Nat.mul_le_mul (show a+1<=1073741824 by omega) Km
       omega))
     rw[hv0]
     refine(Tryz.TN g a cap ⟨hW,oA,none⟩ vc _ w _ (by omega) (by omega) qE).mono ?_
     rintro e w' ⟨rfl,rfl⟩
     rw[<-hv0]
     refine fin _ w.heap.size (grownCap w (a+1) cap 32) _ (Builtin.zeroCells z.cells (grownCap w (a+1) cap 32-(a+1))).toList (MZ w _ _) hok (heap_alloc_new w.drew _) ?_ ?_ hC.1 (by omega) (.inr (Nat.le_refl _))
     ·rw[tr,zC];simp[aV]
     ·simp only[Array.size_append,List.size_toArray,List.length_append,gV,hnl,DP,Li]
      have:=hC.1
      omega
   ·have Fg:a<n:=by omega
    have J6:cap≠0:=by omega
    have hne:hW≠g:=hne.resolve_right J6
    have hown:=hown J6
    by_cases hroom:n+1<=cap
    ·
     have hlr:rest.length=(cap-n)*7:=by
      have:=congrArg List.length hcells
      simp only[List.length_append,gV,hcl]at this
      rw[Nat.sub_mul];omega
     have hcs:cells.toList=aV dV.sh ((aa code).take a)++aV dV.sh ((aa code).drop a)++rest:=by rw[hcells,sf]
     have r8:∀ty,(Builtin.copy_ #[22,22] ty #[.slice (some ⟨g,(a+1)*7,none⟩) (n+1-(a+1)) (cap-(a+1)),.slice (some ⟨g,a*7,none⟩) (n+1-a) (cap-a)]).run Tryz.prog w.drew=_:=fun ty=>
      GX w.drew 22 22 ty 32 i0 Tryz.underlying22 qN g ((a+1)*7) (n+1-(a+1)) (cap-(a+1)) ⟨g,a*7,none⟩ (n+1-a) (cap-a) cells 32 (aV dV.sh ((aa code).drop a)) hg
       (by rw[mF,qP,show Nat.min (n+1-a) (n+1-(a+1))=n-a by show min _ _=_;omega]) (hcell w.drew (a*7) _ (aV dV.sh ((aa code).take a)) rest rfl hcs nS) (by rw[mF,hsz];omega) (hone _)
     obtain⟨c1,hc1⟩:∃c1,c1=(cells.toList.take ((a+1)*7)++aV dV.sh ((aa code).drop a)++cells.toList.drop ((a+1)*7+(aV dV.sh ((aa code).drop a)).length)).toArray:=⟨_,rfl⟩
     rw[<-hc1]at r8
     have pL:(w.drew.setRow g c1).heap[g]?=some (.cells c1 32 (0,0)):=setRow_heap w.drew g _ _ _ _ hg
     have B5:c1.size=cap*7:=by
      rw[hc1];simp only[List.size_toArray,List.length_append,List.length_take,List.length_drop,hcl,mF];omega
     have wZ:∀ty,(Builtin.copy_ #[22,22] ty #[.slice (some ⟨g,a*7,none⟩) (n+1-a) (cap-a),.slice (some ⟨hW,oA,none⟩) 1 vc]).run Tryz.prog (w.drew.setRow g c1)=_:=fun ty=>
      GX (w.drew.setRow g c1) 22 22 ty 32 i0 Tryz.underlying22 qN g (a*7) (n+1-a) (cap-a) ⟨hW,oA,none⟩ 1 vc c1 32 (aV dV.sh (aa r)) pL
       (by rw[hnl,qP,show Nat.min 1 (n+1-a)=1 by show min _ _=_;omega]) (vk _ (setRow_other w.drew g hW c1 hne)) (by rw[hnl,B5];omega) (hone _)
     have Tg:(callFunc 40 #[.slice (some ⟨hW,oA,none⟩) 1 vc,.slice (some ⟨g,(a+1)*7,none⟩) (n-a) (cap-(a+1))]).run Tryz.prog w= .ok (.value (.bool false)) w:=by
      rw[run_callFunc_extern Tryz.func40 (by kernel_rfl) (by kernel_rfl) (by kernel_rfl) (e:=Extern.SlicesOverlaps.overlaps #[22,22] #[4]) (by kernel_rfl)]
      rw[anx w 22 4 32 Tryz.underlying22 i0.size (fun w=>by simp[Go.sizeOf,typeInfo,qN]) ⟨hW,oA,none⟩ ⟨g,(a+1)*7,none⟩ 1 vc (n-a) (cap-(a+1)) hne Q5 cells Hb 32 ade Kg hg ae2]
      rfl
     rw[hv0]
     refine(Tryz.ahO g n cap a ⟨hW,oA,none⟩ vc _ _ w _ _ Fg hroom (by omega) Tg r8 wZ).mono ?_
     rintro e w' ⟨rfl,rfl⟩
     rw[<-hv0]
     refine fin _ g cap _ (cells.toList.drop ((a+1)*7+(aV dV.sh ((aa code).drop a)).length)) (by rw[hown];exact kn.Ng (w:=w) (w1:=w.drew.setRow g c1) (DC w.drew g c1) (DC _ g _) (.inl rfl)) hok (setRow_heap _ g _ _ _ _ pL) ?_ ?_ hroom J7 (.inl hown)
     ·simp only[hnl]
      rw[hc1]
      exact anf hcs nS (by simp only[hcl];omega) rfl (by rw[Nat.succ_mul])
     ·simp only[List.size_toArray,List.length_append,List.length_take,List.length_drop,Array.length_toList,B5,hnl]
      have:(a+1)*7<=cap*7:=Nat.mul_le_mul_right _ (by omega)
      omega
    ·
     have agm:a+(n+1-a)=n+1:=by omega
     have ago:((n:Int)+1-(a:Int))=((n+1-a:Nat):Int):=by omega
     have hC:=BL w (n+1) cap 32 (by omega)
     have Fh:=fun ty=>Lib.run_append_grow_zeros (P:=Tryz.prog) w 22 3 ty 32 i0 z .i64 .i64 Tryz.underlying22 Tryz.underlying3 qN Ku (some ⟨g,0,none⟩) a cap (aV dV.sh ((aa code).take a))
      (run_firstCells_some w.drew i0.size a ⟨g,0,none⟩ a cap _ (by rw[nS,qP]) (hcell w.drew 0 _ [] (aV dV.sh ((aa code).drop a)++rest) rfl (by rw[hcells,sf,List.nil_append,List.append_assoc]) rfl)) (n+1-a) (by omega) (by rw[qP];decide) (by omega) (by omega)
      (by
        have:=Nat.mul_le_mul (show n+1-a<=1073741824 by omega) Km
        omega)
      (growslice_fits (by omega) (by
        have:=Nat.mul_le_mul (show a+(n+1-a)<=1073741824 by omega) Km
        omega))
     rw[agm]at Fh
     obtain⟨C,ae7⟩:∃C,C=grownCap w (n+1) cap 32:=⟨_,rfl⟩
     rw[<-ae7]at Fh hC
     obtain⟨c0,hc0⟩:∃c0:Array Value,c0=(aV dV.sh ((aa code).take a)).toArray++Builtin.zeroCells z.cells (n+1-a)++Builtin.zeroCells z.cells (C-(n+1)):=⟨_,rfl⟩
     rw[<-hc0,<-ago]at Fh
     have SH:c0.size=C*7:=by
      rw[hc0];simp only[Array.size_append,List.size_toArray,nS,DP,Li];omega
     have afD:c0.toList.take (a*7)=aV dV.sh ((aa code).take a):=by
      rw[hc0,Array.toList_append,Array.toList_append,List.append_assoc,List.take_append_of_le_length (by simp only[nS];omega),List.take_of_length_le (by simp only[nS];omega)]
     have Sk:(w.drew.alloc (.cells c0 32)).heap[w.heap.size]?=some (.cells c0 32 (0,0)):=heap_alloc_new w.drew _
     have hold:∀k:Nat,k<w.heap.size->(w.drew.alloc (.cells c0 32)).heap[k]?=w.heap[k]?:=fun k hk=>((World.Extends.refl w.drew).alloc _).block k hk
     have r8:∀ty,(Builtin.copy_ #[22,22] ty #[.slice (some ⟨w.heap.size,a*7,none⟩) (n+1-a) (C-a),.slice (some ⟨hW,oA,none⟩) 1 vc]).run Tryz.prog (w.drew.alloc (.cells c0 32))=_:=fun ty=>
      GX _ 22 22 ty 32 i0 Tryz.underlying22 qN w.heap.size (a*7) (n+1-a) (C-a) ⟨hW,oA,none⟩ 1 vc c0 32 (aV dV.sh (aa r)) Sk
       (by rw[hnl,qP,show Nat.min 1 (n+1-a)=1 by show min _ _=_;omega]) (vk _ (hold hW agy)) (by rw[hnl,SH];omega) (hone _)
     obtain⟨c1,hc1⟩:∃c1,c1=(c0.toList.take (a*7)++aV dV.sh (aa r)++c0.toList.drop (a*7+(aV dV.sh (aa r)).length)).toArray:=⟨_,rfl⟩
     rw[<-hc1]at r8
     have B5:c1.size=C*7:=by
      rw[hc1];simp only[List.size_toArray,List.length_append,List.length_take,List.length_drop,Array.length_toList,SH,hnl];omega
     obtain⟨my,Fe⟩:∃my,my=(w.drew.alloc (.cells c0 32)).setRow w.heap.size c1:=⟨_,rfl⟩
     have Sl:my.heap[w.heap.size]?=some (.cells c1 32 (0,0)):=by rw[Fe];exact setRow_heap _ _ _ _ _ _ Sk
     have agP:my.drew.heap[g]?=w.heap[g]?:=by
      rw[Fe]
      show((w.drew.alloc (.cells c0 32)).setRow w.heap.size c1).heap[g]?=_
      rw[setRow_other _ _ _ _ (by omega),hold g hlt]
     have wZ:∀ty,(Builtin.copy_ #[22,22] ty #[.slice (some ⟨w.heap.size,(a+1)*7,none⟩) (n+1-(a+1)) (C-(a+1)),.slice (some ⟨g,a*7,none⟩) (n-a) (cap-a)]).run Tryz.prog my.drew=_:=fun ty=>
      GX my.drew 22 22 ty 32 i0 Tryz.underlying22 qN w.heap.size ((a+1)*7) (n+1-(a+1)) (C-(a+1)) ⟨g,a*7,none⟩ (n-a) (cap-a) c1 32 (aV dV.sh ((aa code).drop a)) Sl
       (by rw[mF,qP,show Nat.min (n-a) (n+1-(a+1))=n-a by show min _ _=_;omega]) (hcell my.drew (a*7) _ (aV dV.sh ((aa code).take a)) rest agP (by rw[hcells,sf]) nS) (by rw[mF,B5];omega) (hone _)
     rw[<-Fe]at r8
     rw[hv0]
     refine(Tryz.ahN g n cap a w.heap.size C ⟨hW,oA,none⟩ vc _ _ w _ my _ Fg SJ (by omega) hC.1 (by omega) Fh r8 wZ).mono ?_
     rintro e w' ⟨rfl,rfl⟩
     rw[<-hv0]
     refine fin _ w.heap.size C _ (c1.toList.drop ((a+1)*7+(aV dV.sh ((aa code).drop a)).length)) ?_ hok (setRow_heap _ _ _ _ _ _ Sl) ?_ ?_ hC.1 (by omega) (.inr (Nat.le_refl _))
     ·rw[Fe]
      have s1:=kn.Ng (MZ w (.cells c0 32) (kH v0)) (DC _ w.heap.size c1) (.inr (Nat.le_refl _))
      exact kn.Ng (kn.acu s1) (DC _ w.heap.size _) (.inr (Nat.le_refl _))
     ·simp only
      rw[hc1,hnl]
      simp only
      rw[afD,Nat.succ_mul]
      exact ad6 nS hnl
     ·simp only[List.size_toArray,List.length_append,List.length_take,List.length_drop,Array.length_toList,B5,mF]
      have:(a+1)*7+(n-a)*7<=C*7:=by rw[<-Nat.add_mul];exact Nat.mul_le_mul_right _ (by omega)
      omega
end Go.ck

/- base.alphabet.encode,by a walk. -/
namespace Go.Proofs
open Go.RowKit Go.ck
theorem ahQ {T e:TypeId} {B b:Nat} {bs:List Value} {w w':World} (h:Lib.IsBuilder T e B b bs w) (hk:∀k,k<w.heap.size->w'.heap[k]?=w.heap[k]?):Lib.IsBuilder T e B b bs w':=by
 have lt:∀{k:Nat} {x:Obj},w.heap[k]?=some x->k<w.heap.size:=fun{k x} hx=>by
  rcases Nat.lt_or_ge k w.heap.size with h'|h'
  ·exact h'
  ·rw[Array.getElem?_eq_none h']at hx;cases hx
 have one:∀{q:Value},Lib.BuilderAt T e B b q bs w->Lib.BuilderAt T e B b q bs w':=fun{q} h=>by
  obtain⟨hB,v,hb,⟨nf,kY⟩,hne⟩:=h
  refine⟨hB,v,by rw[hk b (lt hb)];exact hb,⟨nf,?_⟩,hne⟩
  rcases kY with h|⟨g,cap,cur,h1,h2,h3,h4⟩
  ·exact .inl h
  ·exact .inr ⟨g,cap,cur,h1,h2,by rw[hk g (lt h3)];exact h3,h4⟩
 exact h.elim (fun x=> .inl (one x)) fun x=> .inr (one x)
theorem splice3 (l:az) (i n:Nat) (hn:n<=3) (hnn:n=3∨n=l.length-i):splice [Value.int .u8 0,Value.int .u8 0,Value.int .u8 0] 0 ((List.range n).map fun j=>Value.int .u8 (l.getD (i+j) 0).toNat)=[Value.int .u8 (l.getD i 0).toNat,Value.int .u8 (l.getD (i+1) 0).toNat,Value.int .u8 (l.getD (i+2) 0).toNat]:=by
 have z:∀j,l.length-i<=j->((l.getD (i+j) 0).toNat:Int)=0:=fun j hj=>by
  rw[show l.getD (i+j) 0=0 by simp only[List.getD];rw[List.getElem?_eq_none (by omega)];rfl];rfl
 match n,hn with
 |0,_=>rcases hnn with h|h<;>first|omega|(have z0:=z 0 (by omega);have ag:=z 1 (by omega);have z2:=z 2 (by omega);rw[Nat.add_zero]at z0;rw[z0,ag,z2];rfl)
 |1,_=>rcases hnn with h|h<;>first|omega|(have ag:=z 1 (by omega);have z2:=z 2 (by omega);rw[ag,z2];rfl)
 |2,_=>rcases hnn with h|h<;>first|omega|(have z2:=z 2 (by omega);rw[z2];rfl)
 |3,_=>rfl
open Go.bj in
theorem aaO {x0 x1 x2:Int} (a0:0<=x0) (a1:x0<=255) (b0:0<=x1) (b1:x1<=255) (c0:0<=x2) (c1:x2<=255):bits BinOp.or IntKind.i64 (bits BinOp.or IntKind.i64 (wrap64 (wrap64 x0*65536)) (wrap64 (wrap64 x1*256))) (wrap64 x2)=65536*x0+256*x1+x2:=by
 have w:∀z:Int,0<=z->z<9223372036854775808->wrap64 z=z:=fun z h0 h1=>by unfold wrap64;omega
 rw[w x0 a0 (by omega),w x1 b0 (by omega),w x2 c0 (by omega),w (x0*65536) (by omega) (by omega),w (x1*256) (by omega) (by omega)]
 have e1:bits BinOp.or IntKind.i64 (x0*65536) (x1*256)=65536*x0+256*x1:=by
  have h:cc BinOp.or IntKind.i64 (x0*65536) (x1*256)=_:=Ex (k:= .i64) (x:=x0*65536) (y:=x1*256) (by omega) (by omega) (show _<(9223372036854775808:Int) by omega) (show _<(9223372036854775808:Int) by omega)
  have h2:bits BinOp.or IntKind.i64 (x0*65536) (x1*256)=cc BinOp.or IntKind.i64 (x0*65536) (x1*256):=rfl
  rw[h2,h,Dd (s:=65536) ⟨16,rfl⟩ (by omega) (by omega)];omega
 rw[e1]
 have h:cc BinOp.or IntKind.i64 (65536*x0+256*x1) x2=_:=Ex (k:= .i64) (x:=65536*x0+256*x1) (y:=x2) (by omega) (by omega) (show _<(9223372036854775808:Int) by omega) (show _<(9223372036854775808:Int) by omega)
 have h2:bits BinOp.or IntKind.i64 (65536*x0+256*x1) x2=cc BinOp.or IntKind.i64 (65536*x0+256*x1) x2:=rfl
 rw[h2,h,Dd (s:=256) ⟨8,rfl⟩ (by omega) (by omega)];omega
open Go.bj in
theorem aaN {x:Int} (h0:0<=x) (h1:x<9223372036854775808):bits BinOp.and IntKind.i64 x 63=((x.toNat% 64:Nat):Int):=by
 have h:cc BinOp.and IntKind.i64 x 63=_:=It (k:= .i64) (x:=x) (y:=63) h0 (by decide) (show _<(9223372036854775808:Int) by omega) (by decide)
 have h2:bits BinOp.and IntKind.i64 x 63=cc BinOp.and IntKind.i64 x 63:=rfl
 rw[h2,h]
 exact congrArg Int.ofNat (Nat.and_two_pow_sub_one_eq_mod x.toNat 6)
theorem VH (a b c:UInt8) (r:az):gv (a::b::c::r)=kF (a.toNat/4)::kF (a.toNat% 4*16+b.toNat/16)::kF (b.toNat% 16*4+c.toNat/64)::kF (c.toNat% 64)::gv r:=by conv=>lhs;unfold gv
theorem amC {l:az} {i n:Nat} {x0 x1 x2 bJ:Int} (hlt:i<l.length) (h1:1<=n) (h3:n<=3) (hnl:n<=l.length-i) (hnn:n=3∨n=l.length-i) (oS:x0=(l.getD i 0).toNat) (hx1:x1=(l.getD (i+1) 0).toNat) (hx2:x2=(l.getD (i+2) 0).toNat) (hb:bJ=65536*x0+256*x1+x2):
 gv (l.drop i)=(List.range (n+1)).map (fun j=>kF ((bJ/2^(18-6*j)).toNat% 64))++gv (l.drop (i+n)):=by
 have z:∀j,l.length<=j->((l.getD j 0).toNat:Int)=0:=fun j hj=>by
  rw[show l.getD j 0=0 by simp only[List.getD];rw[List.getElem?_eq_none (by omega)];rfl];rfl
 have a1:=(l.getD i 0).toNat_lt
 have a2:=(l.getD (i+1) 0).toNat_lt
 have a3:=(l.getD (i+2) 0).toNat_lt
 have L:∀{u v:Nat},u=v->kF u=kF v:=fun h=>congrArg kF h
 match n,h1,h3 with
 |1,_,_=>
  have hl:l.length=i+1:=by omega
  have d1:l.drop (i+1)=[]:=List.drop_eq_nil_of_le (by omega)
  rw[z (i+1) (by omega)]at hx1
  rw[z (i+2) (by omega)]at hx2
  rw[rU l i hlt,d1]
  show [_,_]=[_,_]
  rw[L (show(l.getD i 0).toNat/4=(bJ/2^(18-6*0)).toNat% 64 by show _=(bJ/262144).toNat% 64;omega),L (show(l.getD i 0).toNat% 4*16=(bJ/2^(18-6*1)).toNat% 64 by show _=(bJ/4096).toNat% 64;omega)]
 |2,_,_=>
  have hl:l.length=i+2:=by omega
  have d2:l.drop (i+2)=[]:=List.drop_eq_nil_of_le (by omega)
  rw[z (i+2) (by omega)]at hx2
  rw[rU l i hlt,rU l (i+1) (by omega),d2]
  show [_,_,_]=[_,_,_]
  rw[L (show(l.getD i 0).toNat/4=(bJ/2^(18-6*0)).toNat% 64 by show _=(bJ/262144).toNat% 64;omega),L (show(l.getD i 0).toNat% 4*16+(l.getD (i+1) 0).toNat/16=(bJ/2^(18-6*1)).toNat% 64 by show _=(bJ/4096).toNat% 64;omega),L (show(l.getD (i+1) 0).toNat% 16*4=(bJ/2^(18-6*2)).toNat% 64 by show _=(bJ/64).toNat% 64;omega)]
 |3,_,_=>
  rw[rU l i hlt,rU l (i+1) (by omega),rU l (i+2) (by omega),VH]
  show _::_::_::_::_=_::_::_::_::_
  rw[L (show(l.getD i 0).toNat/4=(bJ/2^(18-6*0)).toNat% 64 by show _=(bJ/262144).toNat% 64;omega),L (show(l.getD i 0).toNat% 4*16+(l.getD (i+1) 0).toNat/16=(bJ/2^(18-6*1)).toNat% 64 by show _=(bJ/4096).toNat% 64;omega),L (show(l.getD (i+1) 0).toNat% 16*4+(l.getD (i+2) 0).toNat/64=(bJ/2^(18-6*2)).toNat% 64 by show _=(bJ/64).toNat% 64;omega),L (show(l.getD (i+2) 0).toNat% 64=(bJ/2^(18-6*3)).toNat% 64 by show _=(bJ/1).toNat% 64;omega)]
  rfl
set_option maxHeartbeats 4000000 in
set_option maxRecDepth 1000000 in
theorem Tryz.acQ (al:ByteArray) (hal:al.data.toList=Ef) (l:az) (p:Option Addr) (g o cap:Nat) (w:World) (hp:0<l.length->p=some ⟨g,o,none⟩/\l.length<=cap/\∀j,j<l.length->w.cell? ⟨g,o+j,none⟩=some (.int .u8 (l.getD j 0).toNat)) (hl:l.length<=1099511627776):
 Calls Tryz.prog 52 #[.string al,.slice p l.length cap] w fun e w'=>e= .returned (.string ⟨(gv l).toArray⟩)/\Below w.heap.size w w':=by
 go_enter Tryz.func52,Tryz.ntmps52
 go_wp2
 go_loopw [1] (fun vs wr=>∃(i c:Nat) (q:Option Addr) (d:List UInt8),vs= .slice q (l.length-i) c/\i<=l.length/\(i<l.length->q=some ⟨g,o+i,none⟩/\l.length-i<=c)/\d.length<=4*i/\Hid (d++gv (l.drop i)=gv l)/\Lib.IsBuilder 112 5 w.heap.size w.heap.size (Lib.byteCells d) wr/\Below w.heap.size w wr) (fun vs _=>match vs with| .slice _ n _=>n|_=>0)
 case atStart=>
  refine⟨0,cap,p,[],rfl,Nat.zero_le _,fun h=>?_,Nat.zero_le _,rfl,Lib.fresh_isBuilder 112 5 w,(Below.refl _ w).alloc (Nat.le_refl _) _⟩
  obtain⟨h1,h2,_⟩:=hp (by omega)
  exact⟨h1,by omega⟩
 case round=>
  obtain⟨i,c,q,d,rfl,hi,hq,hd,hb,hI,kv⟩:=hrel
  by_cases hlt:i<l.length
  ·obtain⟨rfl,hc⟩:=hq hlt
   have hsz:(Tryz.prog.info? 5).map (·.size)=some 1:=by kernel_rfl
   obtain⟨_,_,hcell⟩:=hp (by omega)
   obtain⟨lz,rfl⟩:∃lz:World,lz=wr:=⟨_,rfl⟩
   go_wp2
   obtain⟨n,hn⟩:∃n:Nat,n=min 3 (l.length-i):=⟨_,rfl⟩
   have zx:min 3 ((l.length-i:Nat):Int)=(n:Int):=by omega
   rw[zx]
   clear zx
   have ma:1<=n:=by omega
   have qS:n<=3:=by omega
   have hnl:n<=l.length-i:=by omega
   have hnn:Hid (n=3∨n=l.length-i):=show n=3∨n=l.length-i by omega
   clear hn
   have hnc:n<=c:=by omega
   have af8:g<w.heap.size:=block_lt_of_cell (hcell 0 (by omega))
   have hgo:¬g=lz.heap.size:=by have:=kv.size;omega
   have hrow:∀W:World,W.heap=(lz.alloc (.cells #[.int .u8 0,.int .u8 0,.int .u8 0] 113)).heap->W.heap[lz.heap.size]?=some (.cells [.int .u8 0,.int .u8 0,.int .u8 0].toArray 113 (0,0)):=fun W h=>by rw[h];show(lz.heap.push _)[lz.heap.size]?=_;rw[Array.getElem?_push_size]
   have vk:∀W:World,W.heap=(lz.alloc (.cells #[.int .u8 0,.int .u8 0,.int .u8 0] 113)).heap->∀j v,((List.range n).map fun j=>Value.int .u8 (l.getD (i+j) 0).toNat)[j]?=some v->W.cell? ((⟨g,o+i,none⟩:Addr).add j)=some v:=fun W h j v hj=>by
    rw[List.getElem?_map]at hj
    have hjn:j<n:=by
     rcases Nat.lt_or_ge j n with h|h
     ·exact h
     ·rw[List.getElem?_eq_none (by simpa using h)]at hj;cases hj
    rw[List.getElem?_range hjn]at hj
    simp only[Option.map_some,Option.some.injEq]at hj
    subst hj
    have e1:=hcell (i+j) (by omega)
    have e2:W.cell? ⟨g,o+(i+j),none⟩=w.cell? ⟨g,o+(i+j),none⟩:=by
     unfold World.cell?
     simp only[h]
     have:=Lib.alloc_old lz (.cells #[.int .u8 0,.int .u8 0,.int .u8 0] 113) g (by have:=kv.size;omega)
     rw[this,kv.block g af8]
    rw[Addr.add_lit,Nat.add_assoc,e2,e1]
   go_region_law (refine step_copy_splice rfl (.tmp 16) (.tmp 19) 60 60 rfl 5 Tryz.underlying60 hsz (some ⟨lz.heap.size,0,none⟩) (some ⟨g,o+i,none⟩) 3 3 n c (by simp[Act.eval,Act.put]) (by simp[Act.eval,Act.put]) lz.heap.size 0 [.int .u8 0,.int .u8 0,.int .u8 0] 113 (hrow _ rfl) ((List.range n).map fun j=>Value.int .u8 (l.getD (i+j) 0).toNat) (by simp only[List.length_map,List.length_range];exact(Nat.min_eq_left qS).symm) (fun _=>⟨rfl,_,rfl,vk _ rfl⟩) (by simp;omega) (fun v hv=>by simp at hv;obtain⟨_,_,rfl⟩:=hv;rfl) lz.heap.size lz ((Below.refl _ lz).alloc (Nat.le_refl _) _).drew (Nat.le_refl _) ?_;intro qc pM Fi)
   have pM:qc.heap[lz.heap.size]?=some (.cells (splice _ _ _).toArray 113 (0,0)):=pM
   rw[splice3 l i n qS hnn]at pM
   obtain⟨x0,oS⟩:∃x:Int,x=(l.getD i 0).toNat:=⟨_,rfl⟩
   obtain⟨x1,hx1⟩:∃x:Int,x=(l.getD (i+1) 0).toNat:=⟨_,rfl⟩
   obtain⟨x2,hx2⟩:∃x:Int,x=(l.getD (i+2) 0).toNat:=⟨_,rfl⟩
   rw[<-oS,<-hx1,<-hx2]at pM
   have c0:qc.cell? ⟨lz.heap.size,0,none⟩=some (.int .u8 x0):=by rw[Lib.cell_of_heap pM];rfl
   have c1:qc.cell? ⟨lz.heap.size,1,none⟩=some (.int .u8 x1):=by rw[Lib.cell_of_heap pM];rfl
   have c2:qc.cell? ⟨lz.heap.size,2,none⟩=some (.int .u8 x2):=by rw[Lib.cell_of_heap pM];rfl
   have ae3:Below w.heap.size w qc:=kv.trans (Fi.mono kv.size)
   have afb:=ahQ hI (fun k hk=>Fi.block k hk)
   obtain⟨q',hq',ag0⟩:∃q',(if c=n then some (⟨g,o+i,none⟩:Addr)else some ⟨g,o+i+n,none⟩)=q'/\Hid (i+n<l.length->q'=some ⟨g,o+(i+n),none⟩):=⟨_,rfl,fun h=>by rw[if_neg (by omega),Nat.add_assoc]⟩
   replace oS:Hid _:=oS
   replace hx1:Hid _:=hx1
   replace hx2:Hid _:=hx2
   clear hgo hrow vk
   go_wp2
   obtain⟨bJ,B4⟩:∃bJ:Int,bits BinOp.or IntKind.i64 (bits BinOp.or IntKind.i64 (wrap64 (wrap64 x0*65536)) (wrap64 (wrap64 x1*256))) (wrap64 x2)=bJ:=⟨_,rfl⟩
   rw[B4]
   have y0:x0=(l.getD i 0).toNat:=oS
   have y1:x1=(l.getD (i+1) 0).toNat:=hx1
   have y2:x2=(l.getD (i+2) 0).toNat:=hx2
   have u0:=(l.getD i 0).toNat_lt
   have nz:=(l.getD (i+1) 0).toNat_lt
   have rC:=(l.getD (i+2) 0).toNat_lt
   have SG:bJ=65536*x0+256*x1+x2:=by rw[<-B4];exact aaO (by omega) (by omega) (by omega) (by omega) (by omega) (by omega)
   have Kk:Hid (gv (l.drop i)=_):=amC hlt ma qS hnl hnn y0 y1 y2 SG
   have aB:0<=bJ:=by omega
   have ayM:bJ<16777216:=by omega
   have afz:al.size=64:=by show al.data.size=64;rw[<-Array.length_toList,hal];rfl
   clear SG y0 y1 y2 u0 nz rC
   clear B4
   have ay5:lz.heap.size<=qc.heap.size:=Fi.size
   clear pM c0 c1 c2 hq' hcell hI kv Fi
   go_loopw [39] (fun v W3=>∃k:Nat,v= .int .i64 k/\k<=n+1/\Lib.IsBuilder 112 5 w.heap.size w.heap.size (Lib.byteCells (d++(List.range k).map fun j=>kF ((bJ/2^(18-6*j)).toNat% 64))) W3/\Below w.heap.size w W3) (fun v _=>n+1-(RowKit.intOf v).toNat)
   case atStart=>
    refine⟨0,rfl,by omega,by simpa using afb,ae3⟩
   case round=>
    obtain⟨k,rfl,hk,u6,JJ⟩:=hrel
    by_cases hkn:k<n+1
    ·obtain⟨m,hm⟩:∃m:Nat,m=(bJ/2^(18-6*k)).toNat% 64:=⟨_,rfl⟩
     have hpos:(0:Int)<2^(18-6*k):=Int.pow_pos (by decide)
     have hq0:0<=bJ/2^(18-6*k):=Int.ediv_nonneg aB (by omega)
     have sd:bJ/2^(18-6*k)<=bJ:=Int.ediv_le_self _ aB
     have hand:bits BinOp.and IntKind.i64 (bJ/2^(18-6*k)) 63=(m:Int):=by rw[hm];exact aaN hq0 (by omega)
     have agD:m<al.size:=by rw[afz,hm];exact Nat.mod_lt _ (by decide)
     have hlet:((al[m]).toNat:Int)=(kF m).toNat:=by
      have:al[m]=kF m:=by
       have e:al.data.toList.getD m 0=al[m]:=by
        simp only[List.getD,List.getElem?_eq_getElem (show m<al.data.toList.length by rw[Array.length_toList];exact agD),Option.getD_some]
        rfl
       rw[<-e,hal];rfl
      rw[this]
     replace hm:Hid _:=hm
     clear hpos hq0 sd
     go_wp2_with (go_at_call 81;refine(Tryz.Builder_WriteByte w.heap.size w.heap.size _ _ _ u6 (by rw[Lib.byteCells_length,List.length_append,List.length_map,List.length_range];omega) JJ.size).mono ?_)
     rintro e aAa ⟨rfl,h1,b1⟩
     go_wp2
     go_roundw
     case rel=>
      refine⟨k+1,by simp,by omega,?_,JJ.trans b1⟩
      have hm:m=(bJ/2^(18-6*k)).toNat% 64:=hm
      rw[List.range_succ,List.map_append,<-List.append_assoc,Lib.byteCells_append]
      rw[hm]at h1
      exact Or.inr h1
     case measure=>simp[intOf];omega
    ·have j9:k=n+1:=by omega
     subst j9
     go_wp2
     go_roundw
     case rel=>
      have Kk:gv (l.drop i)=_:=Kk
      have hb:d++gv (l.drop i)=gv l:=hb
      refine⟨i+n,c-n,q',_,by rw[Nat.sub_sub],by omega,fun h=>⟨ag0 h,by omega⟩,?_,?_,u6,JJ⟩
      ·rw[List.length_append,List.length_map,List.length_range];omega
      ·show _=_
       rw[List.append_assoc,<-Kk,hb]
     case measure=>simp;omega
  ·have hz:l.length-i=0:=by omega
   have hI:Lib.IsBuilder 112 5 w.heap.size w.heap.size (Lib.byteCells d) wr:=hI
   rw[hz]
   go_wp2_with (go_at_call 82;refine(Tryz.Builder_String_any w.heap.size w.heap.size d _ hI kv.size).mono ?_)
   rintro e dH ⟨rfl,b1⟩
   go_wp2
   go_ret
   have hb:d++gv (l.drop i)=gv l:=hb
   rw[List.drop_of_length_le (by omega)]at hb
   have hb:d++[]=gv l:=hb
   rw[List.append_nil]at hb
   exact⟨by rw[<-hb];rfl,kv.trans b1⟩
end Go.Proofs

/- base.alphabet: contracts that come from a walk. -/
set_option linter.unusedVariables false
set_option maxRecDepth 100000
namespace Go.ck
open Go Go.bj Go.Proofs Go.RowKit
theorem aaY (z:Int):(gF z).length=(aa z).length:=by simp[gF]
theorem aaX {z:Int} {i:Nat} {v:Int} (v0:0<=v) (v1:v<=255) (h:v=((aa z).getD i []).getD 0 0):((gF z).getD i 0).toNat=v.toNat:=by
 unfold gF
 by_cases hi:i<(aa z).length
 ·simp only[List.getD,List.getElem?_map,List.getElem?_eq_getElem hi,Option.map_some,Option.getD_some]at h⊢
  rw[<-h];simp;omega
 ·have e:(aa z)[i]?=none:=List.getElem?_eq_none (by omega)
  simp only[List.getD,List.getElem?_map,e,Option.map_none,Option.getD_none]at h⊢
  have:v=0:=by rw[h];rfl
  rw[this];rfl
theorem VI:∀l:az,(gv l).length<=2*l.length
 |[]=>by simp[gv]
 |[_]=>by simp[gv]
 |[_,_]=>by simp[gv]
 |a::b::c::r=>by
  have:=VI r
  rw[Go.Proofs.VH];simp;omega
theorem aj9 {wb:World}:fC wb CY:=by
 refine⟨fun args w=>enters (by kernel_rfl) _ _,fun F w vs zs hw hz hpre hat=>?_⟩
 match zs,hz,vs,hat with
 |[r],hz,[v0,v1],hat=>
  obtain⟨h0,h1,_⟩:=hat
  have hpre:(aa r).length<=1099511627776:=hpre
  have h0:v0= .string (bb Ef):=h0
  have h1:qk F w [.int .u8 0 255] (aa r) v1:=h1
  have hlen:=aaY r
  obtain⟨p,g,o,cap,hv,hp⟩:∃(p:Option Addr) (g o cap:Nat),v1= .slice p (gF r).length cap/\(0<(gF r).length->p=some ⟨g,o,none⟩/\(gF r).length<=cap/\∀j,j<(gF r).length->w.cell? ⟨g,o+j,none⟩=some (.int .u8 ((gF r).getD j 0).toNat)):=by
   rcases h1 with⟨h1,h2⟩|⟨g,o,cap,cells,t,fz,h1,⟨h2,_⟩,_,h3,h4⟩
   ·exact⟨none,0,0,0,by rw[h1,hlen,h2];rfl,fun h=>by rw[hlen,h2]at h;simp at h⟩
   ·refine⟨some ⟨g,o,none⟩,g,o,cap,by rw[h1,hlen],fun _=>⟨rfl,by omega,fun j hj=>?_⟩⟩
    have hj':j<(aa r).length:=by omega
    have hrow:=List.getElem?_eq_getElem hj'
    obtain⟨z,z0,ag,z2,z3⟩:=(h4.1 _ (List.getElem_mem hj')).get (j:=0) (c:= .int .u8 0 255) rfl
    have hc:=h4.get hrow z3
    have hb:=aaX (z:=r) (i:=j) (v:=z) ag z2 (by simp only[List.getD,hrow,Option.getD_some,z0])
    have hz':((((gF r).getD j 0).toNat:Nat):Int)=z:=by rw[hb];exact Int.toNat_of_nonneg ag
    rw[hz']
    have hc:cells[o+j]?=some (.int .u8 z):=by simpa [aw.val]using hc
    unfold World.cell?
    rw[h3]
    exact hc
  subst h0 hv
  refine(Tryz.acQ (bb Ef) (by simp[bb]) (gF r) p g o cap w hp (by omega)).mono ?_
  rintro e w' ⟨rfl,hb⟩
  have hl:=VI (gF r)
  refine⟨BC hb,[dI (gv (gF r))],[.string ⟨(gv (gF r)).toArray⟩],⟨(Bl (l:=gv (gF r)) hl (by omega)).1,(Bl (l:=gv (gF r)) hl (by omega)).2,trivial⟩,?_,⟨?_,trivial⟩,rfl⟩
  ·show U (dI (gv (gF r)))=gv (gF r)
   exact gb _
  ·show Value.string _=Value.string (bb (U (dI (gv (gF r)))))
   rw[gb];rfl
end Go.ck

/- Texts set against each other: the contract. -/
set_option linter.unusedVariables false
set_option maxRecDepth 100000
namespace Go.ck
open Go Go.bj Go.Proofs Go.RowKit
theorem ajR {wb:World}:aW wb CW:=by
 intro zs hz
 obtain⟨rs,h1,h2,h3⟩:=acb (wb:=wb) (f:=91) (id:=510) Tryz.func91 (by kernel_rfl) (by kernel_rfl) (by kernel_rfl) (by kernel_rfl) zs hz
 match zs,hz with
 |[a,b],hz=>
  refine⟨rs,h1,?_,h3⟩
  subst h2
  show cmpL (U a) (U b)=cond (Op.bytesLess (U a) (U b)) (-1) (cond (decide (U a=U b)) 0 1)
  have hb:=IX (U a) (U b)
  have⟨h1,h2⟩:=Q7 (U a) (U b)
  cases hl:Op.bytesLess (U a) (U b)with
  |true=>exact h1.2 hl
  |false=>
   have n1:cmpL (U a) (U b)≠-1:=fun h=>by rw[h1.1 h]at hl;cases hl
   by_cases h:U a=U b
   ·rw[decide_eq_true h];exact h2.2 h
   ·have n0:cmpL (U a) (U b)≠0:=fun h'=>h (h2.1 h')
    rw[decide_eq_false h]
    show cmpL (U a) (U b)=1
    omega
end Go.ck

/- bytes.Join of one part that lies where it is known: its bytes,fresh. -/
set_option linter.unusedVariables false
set_option maxRecDepth 100000
namespace Go.Proofs
open Go.Shelf Go.RowKit
shelf_lay SlLaysJ.n14 Slb 14 at Tryz as Tryz.TY
open Go.bj Go.Lib
def oj:List aw:=[.int .u8 0 255]
def uu (rows:List (List Int)):List UInt8:=rows.map fun r=>UInt8.ofNat (r.getD 0 0).toNat
theorem WV {r:List Int} (h:bT oj r):∃z:Int,r=[z]/\0<=z/\z<=255/\((UInt8.ofNat z.toNat).toNat:Int)=z:=by
 match r,h with
 |[z],h=>
  have h1:0<=z/\z<=255:=h.1
  refine⟨z,rfl,h1.1,h1.2,?_⟩
  have e:(UInt8.ofNat z.toNat).toNat=z.toNat% 256:=by simp
  rw[e];omega
theorem Hh (rows:List (List Int)):(uu rows).length=rows.length:=by simp[uu]
theorem aoZ {w:World} {g o:Nat} {cells:Array Value} {t:TypeId} {fz:Nat×Nat} {rows:List (List Int)} (hg:w.heap[g]?=some (.cells cells t fz)) (h:j1 cells o oj rows) (i:Nat) (x:UInt8) (hx:(uu rows)[i]?=some x):w.cell? ((⟨g,o,none⟩:Addr).add i)=some (.int .u8 (x.toNat:Int)):=by
 unfold uu at hx
 rw[List.getElem?_map]at hx
 cases hr:rows[i]? with
 |none=>rw[hr]at hx;cases hx
 |some r=>
  rw[hr]at hx
  simp only[Option.map_some,Option.some.injEq]at hx
  obtain⟨z,rfl,h1,h2,h3⟩:=WV (h.1 r (List.mem_of_getElem? hr))
  have hv:(cO oj [z])[0]?=some (Value.int .u8 z):=rfl
  have:=h.get hr hv
  rw[gE]
  simp only[World.cell?,hg,Option.isSome_none,Bool.false_eq_true,if_false]
  simp only[oj,List.length_cons,List.length_nil,Nat.zero_add,Nat.mul_one,Nat.add_zero]at this
  rw[this,<-hx]
  simp only[List.getD_cons_zero]
  rw[h3]
theorem Wb:∀(rows:List (List Int)) (zs:List Int),(∀row∈rows,bT oj row)->(∀x∈zs,0<=x/\x<256)->bytesOf zs=uu rows->aV oj rows=zs.map (Value.int .u8)
 |[],zs,_,_,h=>by
  have:zs.length=0:=by have:=congrArg List.length h;simpa [bytesOf,uu]using this
  rw[List.eq_nil_of_length_eq_zero this];rfl
 |r::rows,[],_,_,h=>by simp[bytesOf,uu]at h
 |r::rows,z::zs,hr,hz,h=>by
  obtain⟨y,rfl,h1,h2,h3⟩:=WV (hr r (by simp))
  have hz1:=hz z (by simp)
  unfold bytesOf uu at h
  simp only[List.map_cons,List.cons.injEq,List.getD_cons_zero]at h
  have ih:=Wb rows zs (fun x hx=>hr x (List.mem_cons_of_mem _ hx)) (fun x hx=>hz x (List.mem_cons_of_mem _ hx)) h.2
  have e:y=z:=by
   have:=congrArg (fun b:UInt8=>(b.toNat:Int)) h.1
   simp at this
   omega
  subst e
  show Value.int .u8 y::aV oj rows=_
  rw[ih];rfl
theorem join_one {spec:List Int->List Int->Prop} {wb:World} {p:hS} (hc:p.c.f=80) (ha:p.c.args=[.rd oj]) (hr:p.c.res=[.rd oj]) (hp:p.c.pre=71) (hn:p.nil=true) (hs:∀z r,0<=r->r<=b8->aa r=aa z->spec [z] [r]) (hf:∀args w,(callFunc 80 args).run Tryz.prog w= .ok (.enter 80 args) w):
 p.cf Tryz.prog wb spec:=by
 refine⟨by rw[hc];exact hf,?_⟩
 rw[hc,ha,hr,hp]
 intro F w vs zs g hw hz hpre hat hg hF hcell
 match zs,hz,vs,hat,hpre,hcell with
 |[z],hz,[v],hat,hpre,hcell=>
 have hat:qk F w oj (aa z) v:=hat.1
 have hpre:(aa z).length<=1000000000:=hpre
 have e:vB p g [v].length=#[.slice (some ⟨g,0,none⟩) 1 1,.slice none 0 0]:=by unfold vB;rw[hn];rfl
 rw[e]
 have hc0:w.cell? ⟨g,0,none⟩=some v:=by simp[World.cell?,hcell]
 have empty:(∃p0 c0,v= .slice p0 0 c0)->aa z=[]->Calls Tryz.prog 80 #[.slice (some ⟨g,0,none⟩) 1 1,.slice none 0 0] w fun e w'=>w.Extends w'/\∃rs us,av (cG [bV.rd oj]) rs/\spec [z] rs/\ik (fun g=>F g∨w.heap.size<=g) (fun g=>w.heap.size<=g) w' [bV.rd oj] rs us/\e= .returned (ph us):=fun⟨p0,c0,hv⟩ h0=>by
  refine Calls.mono (Any.bytes_Join_one_empty Tryz.TY g 0 1 p0 c0 (.slice none 0 0) w (by rw[hc0,hv])) ?_
  rintro e w' ⟨rfl,rfl⟩
  exact⟨World.Extends.refl _,[0],[.slice none 0 0],⟨Int.le_refl _,nH,trivial⟩,hs z 0 (Int.le_refl _) nH (by rw[fL,h0]),⟨.inl ⟨rfl,fL⟩,trivial⟩,rfl⟩
 rcases hat with⟨rfl,h0⟩|⟨g1,o1,c1,cells,t,fz,rfl,⟨h2,h3⟩,h4,h5,h6⟩
 ·exact empty ⟨none,0,rfl⟩ h0
 ·rcases Nat.eq_zero_or_pos (aa z).length with h0|h0
  ·exact empty ⟨some ⟨g1,o1,none⟩,c1,by rw[h0]⟩ (List.eq_nil_of_length_eq_zero h0)
  ·refine Calls.mono (Any.bytes_Join_one Tryz.TY g 0 1 ⟨g1,o1,none⟩ c1 (uu (aa z)) (.slice none 0 0) w (by rw[hc0,Hh]) (fun i x hx=>aoZ h5 h6 i x hx) (by rw[Hh];exact h0) (by rw[Hh];omega)) ?_
   rintro e w' ⟨v',rfl,⟨g2,cap,zs',rfl,k1,k2,k3,k4,k5,k6,k7,_⟩,hb⟩
   have hsz:=hb.size
   rw[Hh]at k2 k6⊢
   obtain⟨cells',t',JB,hcl⟩:∃cells' t' JB,w'.heap[g2]?=some (.cells cells' t' JB):=by
    have h7:=k7 0 (by omega)
    simp only[World.cell?]at h7
    cases hh:w'.heap[g2]? with
    |none=>simp[hh]at h7
    |some ob=>
     cases ob<;>simp[hh]at h7
     exact⟨_,_,_,rfl⟩
   have u9:∀i,i<cap->cells'[i]?=some (.int .u8 (zs'.getD i 0)):=fun i hi=>by
    have h7:=k7 i hi
    simpa [World.cell?,hcl]using h7
   have hfl:=Wb (aa z) (zs'.take (aa z).length) h6.1 (fun x hx=>k5 x (List.mem_of_mem_take hx)) k6
   refine⟨Jn (World.Extends.refl w) hb.os hb.tape hb.output hb.size hb.block,[z],[_],hz,hs z z hz.1 hz.2.1 rfl,⟨.inr ⟨g2,0,cap,cells',t',JB,rfl,⟨k2,by simp only[maxLen]at k3;omega⟩,.inr k1,hcl,h6.1,[],cells'.toList.drop (aa z).length,?_,rfl⟩,trivial⟩,rfl⟩
   have ahh:cells'.toList.take (aa z).length=aV oj (aa z):=by
    rw[hfl]
    apply List.ext_getElem?
    intro i
    rw[List.getElem?_take,List.getElem?_map,List.getElem?_take]
    split
    ·rename_i hi
     have:=u9 i (by omega)
     rw[Array.getElem?_toList,this,List.getD_eq_getElem?_getD]
     have hlt:i<zs'.length:=by omega
     rw[List.getElem?_eq_getElem hlt];rfl
    ·rfl
   show cells'.toList=[]++aV oj (aa z)++_
   rw[List.nil_append,<-ahh,List.take_append_drop]
end Go.Proofs

/- The rows of this seat: what the listed variables give,and a world that meets it. -/
set_option linter.unusedVariables false
set_option maxRecDepth 100000
namespace Go.Proofs.YtponpidccjmlnaaGreatDoor
open Go Go.bj Go.ck Go.ChangeShapes Go.RowKit
theorem own:ownKnob Tryz.prog.godebug=none:=by kernel_rfl
theorem ai0:laidOutB Tryz.prog=true:=by kernel_rfl
def laid:List (String×DataW Unit):=[("unicode/utf8.acceptRanges",Rows.laid_unicode_utf8_acceptRanges),("vouchsafe/field.One",Rows.laid_vouchsafe_field_One),("vouchsafe/curve.once",Rows.laid_vouchsafe_curve_once),("vouchsafe/sha.roots",Rows.laid_vouchsafe_sha_roots),("vouchsafe/sha.begins",Rows.laid_vouchsafe_sha_begins),("unicode/utf8.first",Rows.laid_unicode_utf8_first)]
theorem RY:Tryz.prog.globalNamed "vouchsafe/field.One" =some 3:=by kernel_rfl
theorem aor:(Tryz.prog.globals[3]?).map (·.type)=some 87:=by kernel_rfl
theorem ao0:Tryz.prog.underlying 87=some (.array 5 85):=by kernel_rfl
theorem acF:Tryz.prog.underlying 85=some (.int .u64):=by kernel_rfl
theorem abR:Tryz.prog.cellsOf 85=1:=by kernel_rfl
theorem abF:Tryz.prog.cellsOf 87=5:=by kernel_rfl
theorem aiC:(Rows.laid_vouchsafe_field_One:DataW Unit)= .agg (([1,0,0,0,0]:List Int).map fun z=> .lit (.int .u64 z)):=by kernel_rfl
theorem RZ:Tryz.prog.globalNamed "vouchsafe/curve.once" =some 4:=by kernel_rfl
theorem aos:(Tryz.prog.globals[4]?).map (·.type)=some 87:=by kernel_rfl
theorem ao1:Tryz.prog.underlying 87=some (.array 5 85):=by kernel_rfl
theorem acG:Tryz.prog.underlying 85=some (.int .u64):=by kernel_rfl
theorem abS:Tryz.prog.cellsOf 85=1:=by kernel_rfl
theorem abG:Tryz.prog.cellsOf 87=5:=by kernel_rfl
theorem aiD:(Rows.laid_vouchsafe_curve_once:DataW Unit)= .agg (L9.map fun z=> .lit (.int .u64 z)):=by kernel_rfl
theorem R0:Tryz.prog.globalNamed "vouchsafe/sha.roots" =some 0:=by kernel_rfl
theorem aot:(Tryz.prog.globals[0]?).map (·.type)=some 100:=by kernel_rfl
theorem ao2:Tryz.prog.underlying 100=some (.array 80 85):=by kernel_rfl
theorem acH:Tryz.prog.underlying 85=some (.int .u64):=by kernel_rfl
theorem abT:Tryz.prog.cellsOf 85=1:=by kernel_rfl
theorem abH:Tryz.prog.cellsOf 100=80:=by kernel_rfl
theorem aiE:(Rows.laid_vouchsafe_sha_roots:DataW Unit)= .agg (vN.map fun z=> .lit (.int .u64 z)):=by kernel_rfl
theorem R1:Tryz.prog.globalNamed "vouchsafe/sha.begins" =some 1:=by kernel_rfl
theorem aou:(Tryz.prog.globals[1]?).map (·.type)=some 107:=by kernel_rfl
theorem ao3:Tryz.prog.underlying 107=some (.array 8 85):=by kernel_rfl
theorem acI:Tryz.prog.underlying 85=some (.int .u64):=by kernel_rfl
theorem abU:Tryz.prog.cellsOf 85=1:=by kernel_rfl
theorem abI:Tryz.prog.cellsOf 107=8:=by kernel_rfl
theorem aiF:(Rows.laid_vouchsafe_sha_begins:DataW Unit)= .agg (Ev.map fun z=> .lit (.int .u64 z)):=by kernel_rfl
theorem R7 {W:World} (h:laidMetH Tryz.prog laid W):bL aU ⟨W,W,fun _=>False,fun _=>False,[]⟩:=by
 rw[MakeChecks.laidMetH_plain _ _ _ (by kernel_rfl)]at h
 obtain⟨bY,⟨_,_,_,_,_,_,_,_,_,_,⟨a0,b0,axs,f0,p0,kg,Ch,zC,hv0,tr,⟨a1,b1,axt,f1,p1,bo,pL,ahd,ni,w3,⟨a2,b2,axu,f2,p2,bQ,tv,CH,jo,w4,⟨a3,b3,axv,f3,p3,cq,w8,ahe,ahn,B8,⟨_,_,_,_,_,_,_,_,_,_,_,_⟩,_⟩,_⟩,_⟩,_⟩,_⟩,_,_⟩:=h
 obtain rfl:=Option.some.inj (RY.symm.trans Ch)
 obtain rfl:=Option.some.inj (aor.symm.trans zC)
 rw[aiC]at tr
 have x0:=E6 (zs:=([1,0,0,0,0]:List Int)) RY ao0 acF abR abF hv0 tr
 obtain rfl:=Option.some.inj (RZ.symm.trans pL)
 obtain rfl:=Option.some.inj (aos.symm.trans ahd)
 rw[aiD]at w3
 have x1:=E6 (zs:=L9) RZ ao1 acG abS abG ni w3
 obtain rfl:=Option.some.inj (R0.symm.trans tv)
 obtain rfl:=Option.some.inj (aot.symm.trans CH)
 rw[aiE]at w4
 have x2:=E6 (zs:=vN) R0 ao2 acH abT abH jo w4
 obtain rfl:=Option.some.inj (R1.symm.trans w8)
 obtain rfl:=Option.some.inj (aou.symm.trans ahe)
 rw[aiF]at B8
 have fg:=E6 (zs:=Ev) R1 ao3 acI abU abI ahn B8
 intro g cs hm
 simp only[aU,List.mem_cons,Prod.mk.injEq,List.not_mem_nil,or_false]at hm
 rcases hm with⟨rfl,rfl⟩|⟨rfl,rfl⟩|⟨rfl,rfl⟩|⟨rfl,rfl⟩
 ·rw[List.map_map];exact x2
 ·rw[List.map_map];exact fg
 ·rw[List.map_map];exact x0
 ·rw[List.map_map];exact x1
theorem aiG:(laid.filter fun x=>x.2.handleName?.isNone)=laid:=by kernel_rfl
theorem acr (os:Os) (args:Array Value):laidMetH Tryz.prog laid ((World.laidAll Tryz.prog os laid).forCall (fun _ _=>0) ⟨#[],args,[]⟩).memory:=
 laidMetH_of_parts3 (fuel:=8) (by rw[aiG];exact laidMet_laidAll args (by kernel_rfl) (by kernel_rfl)) (by kernel_rfl) (by kernel_rfl)
theorem aoS:AP Tryz.prog 24 (.d (.mix [.str,.str])):=⟨.inl ⟨_,Tryz.underlying24⟩,by kernel_rfl,by kernel_rfl⟩
theorem aoU:AP Tryz.prog 25 (.d (.mix [.str,.str])):=⟨.inr ⟨_,_,Tryz.underlying25⟩,by kernel_rfl,by kernel_rfl⟩
theorem aoT:AP Tryz.prog 22 (.rd [.str,.str,.str,.str,.str,.str,.str]):=⟨32,Tryz.underlying22,by kernel_rfl,by kernel_rfl,by decide⟩
theorem cell0 {W:World} (h:W.ShapedOpen Tryz.prog):∃m,W.cell? ⟨2,0,none⟩=some (.int .i64 m):=
 cell_of_shapedOpen_int (zero:=#[.int .i64 0]) (t:=3) h (of_decide_eq_true (by kernel_rfl)) (by kernel_rfl) rfl (by kernel_rfl) (by kernel_rfl) Tryz.underlying3
theorem afV {W:World} {m:Int} (h:W.cell? ⟨2,0,none⟩=some (.int .i64 m)):2<W.heap.size:=by
 rcases Nat.lt_or_ge 2 W.heap.size with h0|h0
 ·exact h0
 ·have:W.heap[(2:Nat)]?=none:=Array.getElem?_eq_none h0
  simp[World.cell?,this]at h
theorem akQ {G:Nat->List Int->List Int} {id:Nat} (hid:id=659) (a:List (List Int)) (z:Int) (h:gp G id a [[z]]):z=1:=by
 subst hid
 all_goals
  match a,h with
  |[],h=>first|exact h|exact h.elim
  |[_],h=>first|exact h|exact h.elim
  |[_,_],h=>first|exact h|exact h.elim
  |[_,_,_],h=>first|exact h|exact h.elim
  |_::_::_::_::_,h=>exact h.elim
structure Xk (W:World) (G:Nat->List Int->List Int):Prop where
 Mj:jY G W sm
 Gr:fC W o6
 Mp:fC W sn
theorem Zt {W:World} (h:W.ShapedOpen Tryz.prog) (cI:laidMetH Tryz.prog laid W):∃G,Xk W G:=by
 have hg:=R7 cI
 obtain⟨m,hm⟩:=cell0 h
 have xu:aW W jq:=aj8
 have WN:aW W n6:=akJ (hg:=hg)
 have WR:aW W n7:=akL (hg:=hg)
 have aoI:aW W rl:=akN (hg:=hg) (h_tlb:=WN) (h_trb:=WR)
 have aoz:aW W rh:=akH (hg:=hg) (h_tlb:=WN) (h_trb:=WR)
 have abQ:aW W qX:=ajO (hg:=hg) (h_ibs:=xu)
 have aoy:aW W rf:=akG (hg:=hg)
 have ack:aW W qZ:=ajU (hg:=hg) (h_ibs:=xu)
 have I0:aW W me:=ajV (hg:=hg) (h_ibs:=xu)
 have akS:aW W q5:=akg (hg:=hg) (h_ibs:=xu)
 have FT:aW W kB:=aka (hg:=hg) (h_ibs:=xu)
 have ai6:aW W q3:=akc (hg:=hg)
 have Q4:wu W vG:=ajN ⟨m,hm⟩ (afV hm)
 have aoA:aW W ri:=akI (hg:=hg)
 have aox:aW W re:=akF (hg:=hg)
 have agQ:aW W q1:=aj7 (hg:=hg) (h_thost:=aoA) (h_tdm:=aoy) (h_ionly:=FT) (h_cdd:=Q4)
 have MT:aW W mf:=akz (hg:=hg) (h_cutcol:=I0) (h_host:=agQ) (h_tdig:=aox) (h_ionly:=FT)
 have ai3:aW W q2:=akb (hg:=hg) (h_only:=akS) (h_tdot:=aoz) (h_cdd:=Q4)
 have acP:aW W q0:=ajW (hg:=hg) (h_tsp:=aoI) (h_cutat:=ack) (h_local:=ai3) (h_cdot:=abQ) (h_server:=MT) (h_low:=ai6) (h_ibs:=xu)
 have acf:aW W CX:=ajS
 have aaC:aW W CV:=ajM
 have aoF:aW W rj:=akK (hg:=hg)
 have amF:wu W vH:=ako (hg:=hg) (h_country:=acf) (h_bare:=aaC) (h_tpre:=aoF)
 have ajc:aW W q4:=ake (hg:=hg) (h_email:=acP) (h_phone:=amF)
 have anc:aW W ra:=akx (hg:=hg) (h_make:=ajc)
 have aoP:aW W rm:=akO (hg:=hg)
 have aoH:aW W rk:=akM (hg:=hg)
 have W0:aW W n9:=akP (hg:=hg) (h_cutcol:=I0) (h_tus:=aoP) (h_ionly:=FT) (h_server:=MT)
 have ane:aW W rb:=aky (hg:=hg) (h_cutcol:=I0) (h_trs:=aoH) (h_ionly:=FT) (h_server:=MT)
 have amP:aW W q7:=akt (hg:=hg)
 have aca:aW W CW:=ajR
 have ach:aW W qY:=ajT (hg:=hg) (h_ibs:=xu)
 have amR:aW W q8:=aku (hg:=hg) (h_print:=amP) (h_csp:=ach)
 have VN:aW W n4:=aks (hg:=hg) (h_ptok:=amR) (h_right:=anc) (h_user:=W0) (h_room:=ane)
 have Mi:fC W np:=aki (hg:=hg) (h_pright:=VN)
 have amO:fC W tJ:=akr (hg:=hg) (h_cmps:=aca)
 have amG:PN W dV:=akp
 have VG:fC W pW:=akn (hg:=hg)
 have alb:fC W tH:=akk (hg:=hg) (h_pright:=VN) (h_pRight:=Mi) (h_pplace:=amO) (h_pins:=amG) (h_pclone:=VG)
 have Gr:fC W o6:=akj (hg:=hg) (h_user:=W0) (h_pRight:=Mi) (h_pclone:=VG)
 have amL:aW W q6:=akq (hg:=hg)
 have Mp:fC W sn:=akw (hg:=hg)
 have ahI:fC W CY:=aj9
 have Wx:aW W n5:=akA (hg:=hg)
 have adk:aW W oU:=ajX (hg:=hg)
 have adx:aW W oW:=ajZ (hg:=hg)
 have adJ:aW W oY:=aj1 (hg:=hg)
 have adV:aW W o0:=aj3 (hg:=hg)
 have adl:aW W oV:=ajY (hg:=hg)
 have ady:aW W oX:=aj0 (hg:=hg)
 have adK:aW W oZ:=aj2 (hg:=hg)
 have adW:aW W o3:=aj4 (hg:=hg)
 have an2:fC W tL:=akB (hg:=hg) (h_spad:=Wx)
 have an3:fC W tM:=akC (hg:=hg) (h_spad:=Wx)
 have anW:uF W Df:=join_one (p:=Df) rfl rfl rfl rfl rfl (fun z r h0 h1 h=>h) (enters (by kernel_rfl))
 have anX:uF W Dg:=join_one (p:=Dg) rfl rfl rfl rfl rfl (fun z r h0 h1 h=>h) (enters (by kernel_rfl))
 have ad4:aW W o4:=aj5 (hg:=hg)
 have ad5:aW W o5:=aj6 (hg:=hg)
 have ab5:fC W tF:=ajP (hg:=hg)
 have ab6:fC W tG:=ajQ (hg:=hg)
 have Zo:yx W vJ:=ajK (hg:=hg) (h_cl32:=ab5) (h_gk_32:=ad4) (h_g2_32:=adk) (h_g3_32:=adx) (h_g4_32:=adJ) (h_g5_32:=adV)
 have Zp:yx W vK:=ajL (hg:=hg) (h_cl64:=ab6) (h_gk_64:=ad5) (h_g2_64:=adl) (h_g3_64:=ady) (h_g4_64:=adK) (h_g5_64:=adW)
 have aoo:uF W vC:=akD (hg:=hg) (h_spd32:=an2) (h_sj32:=anW) (h_all32:=Zo)
 have aop:uF W vD:=akE (hg:=hg) (h_spd64:=an3) (h_sj64:=anX) (h_all64:=Zp)
 obtain⟨G,hG⟩:=Zq (wb:=W) hg
 have aze:ij G W sk:=(hG sk (dC 18 rfl))
 have at3:ij G W si:=(hG si (dC 17 rfl))
 have axo:ij G W gL:=(hG gL (dC 16 rfl))
 have axD:ij G W iZ:=(hG iZ (dC 15 rfl))
 have axC:ij G W lh:=(hG lh (dC 14 rfl))
 have axE:ij G W eM:=(hG eM (dC 13 rfl))
 have az4:ij G W kC:=(hG kC (dC 12 rfl))
 have az7:ij G W n8:=(hG n8 (dC 11 rfl))
 have axz:ij G W lf:=(hG lf (dC 10 rfl))
 have azj:ij G W q9:=(Vi hg (hG kC (dC 12 rfl)) (hG eM (dC 13 rfl)))
 have ay9:ij G W n2:=(hG n2 (dC 9 rfl))
 have azh:ij G W n3:=(hG n3 (dC 8 rfl))
 have axB:ij G W lg:=(hG lg (dC 7 rfl))
 have abN:ij G W pS:=(hG pS (dC 6 rfl))
 have axw:ij G W nY:=(hG nY (dC 5 rfl))
 have axq:ij G W ld:=(hG ld (dC 4 rfl))
 have axr:ij G W nX:=(hG nX (dC 3 rfl))
 have axx:ij G W nZ:=(hG nZ (dC 2 rfl))
 have ajd:ij G W sj:=(akf hg (hG nY (dC 5 rfl)) (hG nZ (dC 2 rfl)) (hG nX (dC 3 rfl)))
 have abO:ij G W pT:=(hG pT (dC 1 rfl))
 have ab7:ij G W pU:=(hG pU (dC 0 rfl))
 have amT:jY G W tK:=akv (hg:=hg) (h_sum64:=aop) (h_clamp:=ab7) (h_cbase:=abN) (h_many:=ajd) (h_cbytes:=abO)
 have Vw:jY G W pV:=akh (hg:=hg) (h_sum32:=aoo) (h_public:=amT) (h_ienu:=ahI)
 have alc:jY G W tI:=akl (hg:=hg) (h_pRight:=Mi) (h_pKey:=Vw)
 have Mj:jY G W sm:=akm (hg:=hg) (h_pone:=amL) (h_pStore:=alb) (h_pSettle:=Gr) (h_pValid:=alc) (h_pKey:=Vw)
 exact⟨G,⟨Mj,Gr,Mp⟩⟩
end Go.Proofs.YtponpidccjmlnaaGreatDoor
