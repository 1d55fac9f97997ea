/- Pag: a part of the proof of statements of this seat. -/
import Derived.Test.YtkedgkbkibncgaaDoorPae
import Derived.Test.YtkedgkbkibncgaaDoorChunk
import Derived.Test.YtkedgkbkibncgaaDoorPac
import Derived.KernelRfl
import Derived.Test.YtkedgkbkibncgaaDoorPad
import Derived.Shelf.Lay
import Derived.Shelf.LaySoft
import Derived.Shelf.Bytes.SlJoin
import Derived.RangeFuncOwn
import Derived.Test.YtkedgkbkibncgaaDoorProg
import Derived.BigCall
import Derived.WalkKit
import Derived.Shelf.Vars
import Derived.Test.YtkedgkbkibncgaaDoorRows
import Derived.Test.YtkedgkbkibncgaaDoorTie
import Derived.Test.YtkedgkbkibncgaaDoorCards
import Derived.SevenTiedAt
import Derived.Lay
set_option linter.unusedVariables false
set_option maxRecDepth 100000
namespace Go.cU
open Go Go.bx Go.Proofs
abbrev c3 (ag:World) (k:bL):Prop:=k.yA Tryd.prog ag (bY sh SB k.id)
abbrev cI (ag:World) (q:dq):Prop:=q.c9 Tryd.prog ag (bY sh SB q.c.id)
abbrev gH (ag:World) (k:dd):Prop:=k.c9 Tryd.prog ag (bY sh SB k.id)
abbrev nN (ag:World) (q:kM) (j:gG):Prop:=j.c9 Tryd.prog ag q (bY sh SB j.id)
abbrev rL (ag:World) (k:gQ):Prop:=k.c9 Tryd.prog ag (bY sh SB k.c.id)
abbrev rM (ag:World) (k:jx):Prop:=k.c9 Tryd.prog ag (bY sh SB k.c.id)
theorem b7:Tryd.prog.follows .mixedOrders=true:=by kernel_rfl
theorem aQ {α:Type} {p:α->Prop}:∀x∈([]:List α),p x:=λ_ h=>by cases h
theorem bq {α:Type} {p:α->Prop} {a:α} {l:List α} (h:p a) (hl:∀x∈l,p x):∀x∈a::l,p x:=λx hx=>by
 rcases List.mem_cons.1 hx with rfl|hx
 ·exact h
 ·exact hl x hx
theorem NJ:DJ Tryd.prog 43:=⟨enters (by kernel_rfl),Tryd.SU⟩
theorem Dp {a0 b0:Int} (h0:a0=b0):lE [.int .i64 (-9223372036854775808) 9223372036854775807] [a0]=lE [.int .i64 (-9223372036854775808) 9223372036854775807] [b0]:=by
 show(.int .i64 a0:Value)=(.int .i64 b0:Value)
 rw[h0]
theorem p2 {a0 b0:Int} (h0:a0=b0):lE [.int .u32 0 4294967295] [a0]=lE [.int .u32 0 4294967295] [b0]:=by
 show(.int .u32 a0:Value)=(.int .u32 b0:Value)
 rw[h0]
theorem cR {a0 b0:Int} (h0:a0=b0):lE [.int .u64 0 18446744073709551615] [a0]=lE [.int .u64 0 18446744073709551615] [b0]:=by
 show(.int .u64 a0:Value)=(.int .u64 b0:Value)
 rw[h0]
theorem afQ:dp oR.args oR.res (bY sh SB 440):=by
 intro zs rs bE hz hr bG h h'
 match zs,rs,bE,hz,hr,bG,h,h' with
 |[z0,ai],[a0],[b0],_,_,_,h,h'=>
  first
   |exact Dp (Eq.trans h (Eq.symm h'))
   |(have e:[[a0]]=[[b0]]:=Eq.trans h (Eq.symm h')
     simp only[List.cons.injEq,and_true]at e
     exact Dp e)
theorem aag {ag:World} (hg:bB a7 ⟨ag,ag,λ_=>False,λ_=>False,[]⟩):c3 ag oR:=by
 refine bL.c9.f (mV (SB:=SB) (sh:=sh) (c:=oR) (cal:=(a8 [] [])) (li:=br) (rounds:=600) (d:=6) (lsh:=bt) (lens:=[1,1]) b7 (λ_ _ _=>cG aQ aQ) hg (by kernel_rfl) afQ rfl rfl ?_)
 rw[ae1]
 exact abC
theorem ae7:dp pH.args pH.res (bY sh SB 444):=by
 intro zs rs bE hz hr bG h h'
 match zs,rs,bE,hz,hr,bG,h,h' with
 |[z0],[a0],[b0],_,_,_,h,h'=>
  first
   |exact p2 (Eq.trans h (Eq.symm h'))
   |(have e:[[a0]]=[[b0]]:=Eq.trans h (Eq.symm h')
     simp only[List.cons.injEq,and_true]at e
     exact p2 e)
theorem Zm {ag:World} (hg:bB a7 ⟨ag,ag,λ_=>False,λ_=>False,[]⟩):c3 ag pH:=by
 refine bL.c9.f (mV (SB:=SB) (sh:=sh) (c:=pH) (cal:=(a8 [] [])) (li:=br) (rounds:=600) (d:=6) (lsh:=bt) (lens:=[1]) b7 (λ_ _ _=>cG aQ aQ) hg (by kernel_rfl) ae7 rfl rfl ?_)
 rw[aea]
 exact aaK
theorem ae9:dp pJ.args pJ.res (bY sh SB 445):=by
 intro zs rs bE hz hr bG h h'
 match zs,rs,bE,hz,hr,bG,h,h' with
 |[z0],[a0],[b0],_,_,_,h,h'=>
  first
   |exact p2 (Eq.trans h (Eq.symm h'))
   |(have e:[[a0]]=[[b0]]:=Eq.trans h (Eq.symm h')
     simp only[List.cons.injEq,and_true]at e
     exact p2 e)
theorem Zo {ag:World} (hg:bB a7 ⟨ag,ag,λ_=>False,λ_=>False,[]⟩):c3 ag pJ:=by
 refine bL.c9.f (mV (SB:=SB) (sh:=sh) (c:=pJ) (cal:=(a8 [] [])) (li:=br) (rounds:=600) (d:=6) (lsh:=bt) (lens:=[1]) b7 (λ_ _ _=>cG aQ aQ) hg (by kernel_rfl) ae9 rfl rfl ?_)
 rw[aec]
 exact aaM
theorem afb:dp pL.args pL.res (bY sh SB 446):=by
 intro zs rs bE hz hr bG h h'
 match zs,rs,bE,hz,hr,bG,h,h' with
 |[z0],[a0],[b0],_,_,_,h,h'=>
  first
   |exact p2 (Eq.trans h (Eq.symm h'))
   |(have e:[[a0]]=[[b0]]:=Eq.trans h (Eq.symm h')
     simp only[List.cons.injEq,and_true]at e
     exact p2 e)
theorem Zq {ag:World} (hg:bB a7 ⟨ag,ag,λ_=>False,λ_=>False,[]⟩):c3 ag pL:=by
 refine bL.c9.f (mV (SB:=SB) (sh:=sh) (c:=pL) (cal:=(a8 [] [])) (li:=br) (rounds:=600) (d:=6) (lsh:=bt) (lens:=[1]) b7 (λ_ _ _=>cG aQ aQ) hg (by kernel_rfl) afb rfl rfl ?_)
 rw[aee]
 exact aaO
theorem afd:dp pN.args pN.res (bY sh SB 447):=by
 intro zs rs bE hz hr bG h h'
 match zs,rs,bE,hz,hr,bG,h,h' with
 |[z0],[a0],[b0],_,_,_,h,h'=>
  first
   |exact p2 (Eq.trans h (Eq.symm h'))
   |(have e:[[a0]]=[[b0]]:=Eq.trans h (Eq.symm h')
     simp only[List.cons.injEq,and_true]at e
     exact p2 e)
theorem Zs {ag:World} (hg:bB a7 ⟨ag,ag,λ_=>False,λ_=>False,[]⟩):c3 ag pN:=by
 refine bL.c9.f (mV (SB:=SB) (sh:=sh) (c:=pN) (cal:=(a8 [] [])) (li:=br) (rounds:=600) (d:=6) (lsh:=bt) (lens:=[1]) b7 (λ_ _ _=>cG aQ aQ) hg (by kernel_rfl) afd rfl rfl ?_)
 rw[aeg]
 exact aaQ
theorem ae8:dp pI.args pI.res (bY sh SB 448):=by
 intro zs rs bE hz hr bG h h'
 match zs,rs,bE,hz,hr,bG,h,h' with
 |[z0],[a0],[b0],_,_,_,h,h'=>
  first
   |exact cR (Eq.trans h (Eq.symm h'))
   |(have e:[[a0]]=[[b0]]:=Eq.trans h (Eq.symm h')
     simp only[List.cons.injEq,and_true]at e
     exact cR e)
theorem Zn {ag:World} (hg:bB a7 ⟨ag,ag,λ_=>False,λ_=>False,[]⟩):c3 ag pI:=by
 refine bL.c9.f (mV (SB:=SB) (sh:=sh) (c:=pI) (cal:=(a8 [] [])) (li:=br) (rounds:=600) (d:=6) (lsh:=bt) (lens:=[1]) b7 (λ_ _ _=>cG aQ aQ) hg (by kernel_rfl) ae8 rfl rfl ?_)
 rw[aeb]
 exact aaL
theorem afa:dp pK.args pK.res (bY sh SB 449):=by
 intro zs rs bE hz hr bG h h'
 match zs,rs,bE,hz,hr,bG,h,h' with
 |[z0],[a0],[b0],_,_,_,h,h'=>
  first
   |exact cR (Eq.trans h (Eq.symm h'))
   |(have e:[[a0]]=[[b0]]:=Eq.trans h (Eq.symm h')
     simp only[List.cons.injEq,and_true]at e
     exact cR e)
theorem Zp {ag:World} (hg:bB a7 ⟨ag,ag,λ_=>False,λ_=>False,[]⟩):c3 ag pK:=by
 refine bL.c9.f (mV (SB:=SB) (sh:=sh) (c:=pK) (cal:=(a8 [] [])) (li:=br) (rounds:=600) (d:=6) (lsh:=bt) (lens:=[1]) b7 (λ_ _ _=>cG aQ aQ) hg (by kernel_rfl) afa rfl rfl ?_)
 rw[aed]
 exact aaN
theorem afc:dp pM.args pM.res (bY sh SB 450):=by
 intro zs rs bE hz hr bG h h'
 match zs,rs,bE,hz,hr,bG,h,h' with
 |[z0],[a0],[b0],_,_,_,h,h'=>
  first
   |exact cR (Eq.trans h (Eq.symm h'))
   |(have e:[[a0]]=[[b0]]:=Eq.trans h (Eq.symm h')
     simp only[List.cons.injEq,and_true]at e
     exact cR e)
theorem Zr {ag:World} (hg:bB a7 ⟨ag,ag,λ_=>False,λ_=>False,[]⟩):c3 ag pM:=by
 refine bL.c9.f (mV (SB:=SB) (sh:=sh) (c:=pM) (cal:=(a8 [] [])) (li:=br) (rounds:=600) (d:=6) (lsh:=bt) (lens:=[1]) b7 (λ_ _ _=>cG aQ aQ) hg (by kernel_rfl) afc rfl rfl ?_)
 rw[aef]
 exact aaP
theorem afe:dp pO.args pO.res (bY sh SB 451):=by
 intro zs rs bE hz hr bG h h'
 match zs,rs,bE,hz,hr,bG,h,h' with
 |[z0],[a0],[b0],_,_,_,h,h'=>
  first
   |exact cR (Eq.trans h (Eq.symm h'))
   |(have e:[[a0]]=[[b0]]:=Eq.trans h (Eq.symm h')
     simp only[List.cons.injEq,and_true]at e
     exact cR e)
theorem Zt {ag:World} (hg:bB a7 ⟨ag,ag,λ_=>False,λ_=>False,[]⟩):c3 ag pO:=by
 refine bL.c9.f (mV (SB:=SB) (sh:=sh) (c:=pO) (cal:=(a8 [] [])) (li:=br) (rounds:=600) (d:=6) (lsh:=bt) (lens:=[1]) b7 (λ_ _ _=>cG aQ aQ) hg (by kernel_rfl) afe rfl rfl ?_)
 rw[aeh]
 exact aaR
theorem aah {ag:World} (hg:bB a7 ⟨ag,ag,λ_=>False,λ_=>False,[]⟩) (FJ:c3 ag oR):gH ag n6:=by
 refine qx (SB:=SB) (sh:=sh) (c:=n6) (bcs:=[]) (cal:=(a8 [] [oR])) (li:=O2) (rounds:=600) (d:=6) (lsh:=Pf) (lens:=[1]) b7 (λ_ _ _=>cG aQ (bq FJ aQ)) hg aQ (by kernel_rfl) rfl rfl ?_
 rw[ae2]
 exact abD
theorem aai {ag:World} (hg:bB a7 ⟨ag,ag,λ_=>False,λ_=>False,[]⟩) (FJ:c3 ag oR):gH ag n7:=by
 refine qx (SB:=SB) (sh:=sh) (c:=n7) (bcs:=[]) (cal:=(a8 [] [oR])) (li:=O3) (rounds:=600) (d:=6) (lsh:=Pg) (lens:=[1]) b7 (λ_ _ _=>cG aQ (bq FJ aQ)) hg aQ (by kernel_rfl) rfl rfl ?_
 rw[ae3]
 exact abE
theorem aff:dp pP.args pP.res (bY sh SB 466):=by
 intro zs rs bE hz hr bG h h'
 match zs,rs,bE,hz,hr,bG,h,h' with
 |[z0],[a0],[b0],_,_,_,h,h'=>
  first
   |exact p2 (Eq.trans h (Eq.symm h'))
   |(have e:[[a0]]=[[b0]]:=Eq.trans h (Eq.symm h')
     simp only[List.cons.injEq,and_true]at e
     exact p2 e)
theorem Zu {ag:World} (hg:bB a7 ⟨ag,ag,λ_=>False,λ_=>False,[]⟩):c3 ag pP:=by
 refine bL.c9.f (mV (SB:=SB) (sh:=sh) (c:=pP) (cal:=(a8 [] [])) (li:=br) (rounds:=600) (d:=6) (lsh:=bt) (lens:=[1]) b7 (λ_ _ _=>cG aQ aQ) hg (by kernel_rfl) aff rfl rfl ?_)
 rw[aei]
 exact aaS
theorem afg:dp pQ.args pQ.res (bY sh SB 467):=by
 intro zs rs bE hz hr bG h h'
 match zs,rs,bE,hz,hr,bG,h,h' with
 |[z0],[a0],[b0],_,_,_,h,h'=>
  first
   |exact cR (Eq.trans h (Eq.symm h'))
   |(have e:[[a0]]=[[b0]]:=Eq.trans h (Eq.symm h')
     simp only[List.cons.injEq,and_true]at e
     exact cR e)
theorem Zv {ag:World} (hg:bB a7 ⟨ag,ag,λ_=>False,λ_=>False,[]⟩):c3 ag pQ:=by
 refine bL.c9.f (mV (SB:=SB) (sh:=sh) (c:=pQ) (cal:=(a8 [] [])) (li:=br) (rounds:=600) (d:=6) (lsh:=bt) (lens:=[1]) b7 (λ_ _ _=>cG aQ aQ) hg (by kernel_rfl) afg rfl rfl ?_)
 rw[aej]
 exact aaT
theorem Zk {ag:World} (hg:bB a7 ⟨ag,ag,λ_=>False,λ_=>False,[]⟩):gH ag sf:=by
 refine qx (SB:=SB) (sh:=sh) (c:=sf) (bcs:=[]) (cal:=(a8 [] [])) (li:=br) (rounds:=600) (d:=6) (lsh:=bt) (lens:=[1]) b7 (λ_ _ _=>cG aQ aQ) hg aQ (by kernel_rfl) rfl rfl ?_
 rw[ad8]
 exact aaI
theorem Zl {ag:World} (hg:bB a7 ⟨ag,ag,λ_=>False,λ_=>False,[]⟩):gH ag sg:=by
 refine qx (SB:=SB) (sh:=sh) (c:=sg) (bcs:=[]) (cal:=(a8 [] [])) (li:=br) (rounds:=600) (d:=6) (lsh:=bt) (lens:=[1]) b7 (λ_ _ _=>cG aQ aQ) hg aQ (by kernel_rfl) rfl rfl ?_
 rw[ad9]
 exact aaJ
theorem Zi {ag:World} (hg:bB a7 ⟨ag,ag,λ_=>False,λ_=>False,[]⟩) (Nr:c3 ag pP) (Ni:c3 ag pH) (Nk:c3 ag pJ) (Nn:c3 ag pL) (Np:c3 ag pN) (UR:gH ag sf):rM ag o3:=by
 refine PX (SB:=SB) (sh:=sh) (p:=o3) (lsh:=Pa) (lens:=[1]) (inl:=(wA Tryd.prog a7 (a8 [] [pP,pH,pJ,pL,pN]) (qA (fM [sf]) Tryd.prog a7 (a8 [] [pP,pH,pJ,pL,pN]) CR 600 6) CR 600 [(1,0,0,4294967295),(1,1,0,4294967295),(1,2,0,4294967295),(1,3,0,4294967295),(1,4,0,4294967295),(1,5,0,4294967295),(1,6,0,4294967295),(1,7,0,4294967295)] 43)) (λL r ex ro=>L0 NJ b7 (λ_ _ _=>cG aQ (bq Nr (bq Ni (bq Nk (bq Nn (bq Np aQ)))))) (λg cs h=>hg g cs h) (λr ex ro=>wC (w0:=⟨ag,r,ex,ro,[]⟩) rfl b7 ((λ_ _ _=>cG aQ (bq Nr (bq Ni (bq Nk (bq Nn (bq Np aQ)))))) r ex ro) (λg cs h=>hg g cs h) (pf (bq UR aQ)) 6) rfl) (by kernel_rfl) rfl rfl ?_
 rw[show o3.c=CL from rfl,ad6]
 exact aaG
theorem Zj {ag:World} (hg:bB a7 ⟨ag,ag,λ_=>False,λ_=>False,[]⟩) (Ns:c3 ag pQ) (Nj:c3 ag pI) (Nl:c3 ag pK) (No:c3 ag pM) (Nq:c3 ag pO) (US:gH ag sg):rM ag o4:=by
 refine PX (SB:=SB) (sh:=sh) (p:=o4) (lsh:=Pb) (lens:=[1]) (inl:=(wA Tryd.prog a7 (a8 [] [pQ,pI,pK,pM,pO]) (qA (fM [sg]) Tryd.prog a7 (a8 [] [pQ,pI,pK,pM,pO]) CS 600 6) CS 600 [(1,0,0,18446744073709551615),(1,1,0,18446744073709551615),(1,2,0,18446744073709551615),(1,3,0,18446744073709551615),(1,4,0,18446744073709551615),(1,5,0,18446744073709551615),(1,6,0,18446744073709551615),(1,7,0,18446744073709551615)] 43)) (λL r ex ro=>L0 NJ b7 (λ_ _ _=>cG aQ (bq Ns (bq Nj (bq Nl (bq No (bq Nq aQ)))))) (λg cs h=>hg g cs h) (λr ex ro=>wC (w0:=⟨ag,r,ex,ro,[]⟩) rfl b7 ((λ_ _ _=>cG aQ (bq Ns (bq Nj (bq Nl (bq No (bq Nq aQ)))))) r ex ro) (λg cs h=>hg g cs h) (pf (bq US aQ)) 6) rfl) (by kernel_rfl) rfl rfl ?_
 rw[show o4.c=CM from rfl,ad7]
 exact aaH
theorem aaj {ag:World} (hg:bB a7 ⟨ag,ag,λ_=>False,λ_=>False,[]⟩) (h_spd32:gH ag n6) (Vt:rL ag Aq) (h_all32:rM ag o3):rL ag uz:=by
 refine PJ (SB:=SB) (sh:=sh) (p:=uz) (bc:=(o5 [o3] (oa [Aq] (fM [n6])))) (cal:=(a8 [] [])) (li:=br) (rounds:=600) (d:=6) (lsh:=bt) (lens:=[1]) b7 (λ_ _ _=>cG aQ aQ) hg (λ_ _ _ _=>(Aw (Ap (pf (bq h_spd32 aQ)) (bq Vt aQ)) (bq h_all32 aQ))) (by kernel_rfl) rfl rfl ?_
 rw[show uz.c=CN from rfl,ae4]
 exact abF
theorem aak {ag:World} (hg:bB a7 ⟨ag,ag,λ_=>False,λ_=>False,[]⟩) (h_spd64:gH ag n7) (Vu:rL ag Ar) (h_all64:rM ag o4):rL ag uA:=by
 refine PJ (SB:=SB) (sh:=sh) (p:=uA) (bc:=(o5 [o4] (oa [Ar] (fM [n7])))) (cal:=(a8 [] [])) (li:=br) (rounds:=600) (d:=6) (lsh:=bt) (lens:=[1]) b7 (λ_ _ _=>cG aQ aQ) hg (λ_ _ _ _=>(Aw (Ap (pf (bq h_spd64 aQ)) (bq Vu aQ)) (bq h_all64 aQ))) (by kernel_rfl) rfl rfl ?_
 rw[show uA.c=CO from rfl,ae5]
 exact abG
theorem aaf {ag:World} (hg:bB a7 ⟨ag,ag,λ_=>False,λ_=>False,[]⟩):gH ag sk:=by
 refine qx (SB:=SB) (sh:=sh) (c:=sk) (bcs:=[]) (cal:=(a8 [] [])) (li:=O1) (rounds:=600) (d:=6) (lsh:=Pe) (lens:=[1]) b7 (λ_ _ _=>cG aQ aQ) hg aQ (by kernel_rfl) rfl rfl ?_
 rw[ae0]
 exact abB
theorem Zh {ag:World} (hg:bB a7 ⟨ag,ag,λ_=>False,λ_=>False,[]⟩) (Vs:gH ag sk) (Vv:rL ag uz) (Vw:rL ag uA):gH ag qZ:=by
 refine Sl (SB:=SB) (sh:=sh) (c:=qZ) (bc:=(oa [uz,uA] (fM [sk]))) (cal:=(a8 [] [])) (li:=br) (rounds:=600) (d:=6) (lsh:=bt) (lens:=[]) b7 (λ_ _ _=>cG aQ aQ) hg (λ_ _ _=>(Ap (pf (bq Vs aQ)) (bq Vv (bq Vw aQ)))) (by kernel_rfl) rfl rfl ?_
 rw[ad5]
 exact aaF
theorem afr:dp oQ.args oQ.res (bY sh SB 441):=by
 intro zs rs bE hz hr bG h h'
 match zs,rs,bE,hz,hr,bG,h,h' with
 |[z0,ai],[a0],[b0],_,_,_,h,h'=>
  first
   |exact Dp (Eq.trans h (Eq.symm h'))
   |(have e:[[a0]]=[[b0]]:=Eq.trans h (Eq.symm h')
     simp only[List.cons.injEq,and_true]at e
     exact Dp e)
theorem ZO {ag:World} (hg:bB a7 ⟨ag,ag,λ_=>False,λ_=>False,[]⟩):c3 ag oQ:=by
 refine bL.c9.f (mV (SB:=SB) (sh:=sh) (c:=oQ) (cal:=(a8 [] [])) (li:=br) (rounds:=600) (d:=6) (lsh:=bt) (lens:=[1,1]) b7 (λ_ _ _=>cG aQ aQ) hg (by kernel_rfl) afr rfl rfl ?_)
 rw[aez]
 exact aa9
theorem afi:dp dX.args dX.res (bY sh SB 476):=by
 intro zs rs bE hz hr bG h h'
 match zs,rs,bE,hz,hr,bG,h,h' with
 |[z0],[a0],[b0],_,_,_,h,h'=>
  first
   |exact cR (Eq.trans h (Eq.symm h'))
   |(have e:[[a0]]=[[b0]]:=Eq.trans h (Eq.symm h')
     simp only[List.cons.injEq,and_true]at e
     exact cR e)
theorem ZF {ag:World} (hg:bB a7 ⟨ag,ag,λ_=>False,λ_=>False,[]⟩):c3 ag dX:=by
 refine bL.c9.f (mV (SB:=SB) (sh:=sh) (c:=dX) (cal:=(a8 [] [])) (li:=br) (rounds:=600) (d:=6) (lsh:=bt) (lens:=[1]) b7 (λ_ _ _=>cG aQ aQ) hg (by kernel_rfl) afi rfl rfl ?_)
 rw[aeq]
 exact aa0
theorem afs:dp xw.args xw.res (bY sh SB 701):=by
 intro zs rs bE hz hr bG h h'
 match zs,rs,bE,hz,hr,bG,h,h' with
 |[z0,ai],[a0],[b0],_,_,_,h,h'=>
  first
   |exact cR (Eq.trans h (Eq.symm h'))
   |(have e:[[a0]]=[[b0]]:=Eq.trans h (Eq.symm h')
     simp only[List.cons.injEq,and_true]at e
     exact cR e)
theorem ZR {ag:World} (hg:bB a7 ⟨ag,ag,λ_=>False,λ_=>False,[]⟩) (hO:c3 ag dX):cI ag uS:=by
 refine fF (SB:=SB) (sh:=sh) (q:=uS) (cal:=(a8 [] [dX])) (li:=br) (rounds:=600) (d:=6) (lsh:=bt) (lens:=[1,1]) b7 (λ_ _ _=>cG aQ (bq hO aQ)) hg (by kernel_rfl) afs rfl rfl ?_
 rw[show uS.c=xw from rfl,aeC]
 exact abc
theorem afA:dp xE.args xE.res (bY sh SB 706):=by
 intro zs rs bE hz hr bG h h'
 match zs,rs,bE,hz,hr,bG,h,h' with
 |[z0,ai],[a0],[b0],_,_,_,h,h'=>
  first
   |exact cR (Eq.trans h (Eq.symm h'))
   |(have e:[[a0]]=[[b0]]:=Eq.trans h (Eq.symm h')
     simp only[List.cons.injEq,and_true]at e
     exact cR e)
theorem ZZ {ag:World} (hg:bB a7 ⟨ag,ag,λ_=>False,λ_=>False,[]⟩) (hO:c3 ag dX):cI ag u0:=by
 refine fF (SB:=SB) (sh:=sh) (q:=u0) (cal:=(a8 [] [dX])) (li:=br) (rounds:=600) (d:=6) (lsh:=bt) (lens:=[1,1]) b7 (λ_ _ _=>cG aQ (bq hO aQ)) hg (by kernel_rfl) afA rfl rfl ?_
 rw[show u0.c=xE from rfl,aeK]
 exact abk
theorem afC:dp xG.args xG.res (bY sh SB 707):=by
 intro zs rs bE hz hr bG h h'
 match zs,rs,bE,hz,hr,bG,h,h' with
 |[z0,ai],[a0],[b0],_,_,_,h,h'=>
  first
   |exact cR (Eq.trans h (Eq.symm h'))
   |(have e:[[a0]]=[[b0]]:=Eq.trans h (Eq.symm h')
     simp only[List.cons.injEq,and_true]at e
     exact cR e)
theorem Z1 {ag:World} (hg:bB a7 ⟨ag,ag,λ_=>False,λ_=>False,[]⟩) (hO:c3 ag dX):cI ag u2:=by
 refine fF (SB:=SB) (sh:=sh) (q:=u2) (cal:=(a8 [] [dX])) (li:=br) (rounds:=600) (d:=6) (lsh:=bt) (lens:=[1,1]) b7 (λ_ _ _=>cG aQ (bq hO aQ)) hg (by kernel_rfl) afC rfl rfl ?_
 rw[show u2.c=xG from rfl,aeM]
 exact abm
theorem afD:dp xH.args xH.res (bY sh SB 708):=by
 intro zs rs bE hz hr bG h h'
 match zs,rs,bE,hz,hr,bG,h,h' with
 |[z0,ai],[a0],[b0],_,_,_,h,h'=>
  first
   |exact cR (Eq.trans h (Eq.symm h'))
   |(have e:[[a0]]=[[b0]]:=Eq.trans h (Eq.symm h')
     simp only[List.cons.injEq,and_true]at e
     exact cR e)
theorem Z2 {ag:World} (hg:bB a7 ⟨ag,ag,λ_=>False,λ_=>False,[]⟩) (hO:c3 ag dX):cI ag u3:=by
 refine fF (SB:=SB) (sh:=sh) (q:=u3) (cal:=(a8 [] [dX])) (li:=br) (rounds:=600) (d:=6) (lsh:=bt) (lens:=[1,1]) b7 (λ_ _ _=>cG aQ (bq hO aQ)) hg (by kernel_rfl) afD rfl rfl ?_
 rw[show u3.c=xH from rfl,aeN]
 exact abn
theorem aft:dp xx.args xx.res (bY sh SB 714):=by
 intro zs rs bE hz hr bG h h'
 match zs,rs,bE,hz,hr,bG,h,h' with
 |[z0,ai],[a0],[b0],_,_,_,h,h'=>
  first
   |exact cR (Eq.trans h (Eq.symm h'))
   |(have e:[[a0]]=[[b0]]:=Eq.trans h (Eq.symm h')
     simp only[List.cons.injEq,and_true]at e
     exact cR e)
theorem ZS {ag:World} (hg:bB a7 ⟨ag,ag,λ_=>False,λ_=>False,[]⟩) (hO:c3 ag dX):cI ag uT:=by
 refine fF (SB:=SB) (sh:=sh) (q:=uT) (cal:=(a8 [] [dX])) (li:=br) (rounds:=600) (d:=6) (lsh:=bt) (lens:=[1,1]) b7 (λ_ _ _=>cG aQ (bq hO aQ)) hg (by kernel_rfl) aft rfl rfl ?_
 rw[show uT.c=xx from rfl,aeD]
 exact abd
theorem afu:dp xy.args xy.res (bY sh SB 718):=by
 intro zs rs bE hz hr bG h h'
 match zs,rs,bE,hz,hr,bG,h,h' with
 |[z0,ai],[a0],[b0],_,_,_,h,h'=>
  first
   |exact cR (Eq.trans h (Eq.symm h'))
   |(have e:[[a0]]=[[b0]]:=Eq.trans h (Eq.symm h')
     simp only[List.cons.injEq,and_true]at e
     exact cR e)
theorem ZT {ag:World} (hg:bB a7 ⟨ag,ag,λ_=>False,λ_=>False,[]⟩) (hO:c3 ag dX):cI ag uU:=by
 refine fF (SB:=SB) (sh:=sh) (q:=uU) (cal:=(a8 [] [dX])) (li:=br) (rounds:=600) (d:=6) (lsh:=bt) (lens:=[1,1]) b7 (λ_ _ _=>cG aQ (bq hO aQ)) hg (by kernel_rfl) afu rfl rfl ?_
 rw[show uU.c=xy from rfl,aeE]
 exact abe
theorem afv:dp xz.args xz.res (bY sh SB 719):=by
 intro zs rs bE hz hr bG h h'
 match zs,rs,bE,hz,hr,bG,h,h' with
 |[z0,ai],[a0],[b0],_,_,_,h,h'=>
  first
   |exact cR (Eq.trans h (Eq.symm h'))
   |(have e:[[a0]]=[[b0]]:=Eq.trans h (Eq.symm h')
     simp only[List.cons.injEq,and_true]at e
     exact cR e)
theorem ZU {ag:World} (hg:bB a7 ⟨ag,ag,λ_=>False,λ_=>False,[]⟩) (hO:c3 ag dX):cI ag uV:=by
 refine fF (SB:=SB) (sh:=sh) (q:=uV) (cal:=(a8 [] [dX])) (li:=br) (rounds:=600) (d:=6) (lsh:=bt) (lens:=[1,1]) b7 (λ_ _ _=>cG aQ (bq hO aQ)) hg (by kernel_rfl) afv rfl rfl ?_
 rw[show uV.c=xz from rfl,aeF]
 exact abf
theorem afw:dp xA.args xA.res (bY sh SB 728):=by
 intro zs rs bE hz hr bG h h'
 match zs,rs,bE,hz,hr,bG,h,h' with
 |[z0,ai],[a0],[b0],_,_,_,h,h'=>
  first
   |exact cR (Eq.trans h (Eq.symm h'))
   |(have e:[[a0]]=[[b0]]:=Eq.trans h (Eq.symm h')
     simp only[List.cons.injEq,and_true]at e
     exact cR e)
theorem ZV {ag:World} (hg:bB a7 ⟨ag,ag,λ_=>False,λ_=>False,[]⟩) (hO:c3 ag dX):cI ag uW:=by
 refine fF (SB:=SB) (sh:=sh) (q:=uW) (cal:=(a8 [] [dX])) (li:=br) (rounds:=600) (d:=6) (lsh:=bt) (lens:=[1,1]) b7 (λ_ _ _=>cG aQ (bq hO aQ)) hg (by kernel_rfl) afw rfl rfl ?_
 rw[show uW.c=xA from rfl,aeG]
 exact abg
theorem afx:dp xB.args xB.res (bY sh SB 734):=by
 intro zs rs bE hz hr bG h h'
 match zs,rs,bE,hz,hr,bG,h,h' with
 |[z0,ai],[a0],[b0],_,_,_,h,h'=>
  first
   |exact cR (Eq.trans h (Eq.symm h'))
   |(have e:[[a0]]=[[b0]]:=Eq.trans h (Eq.symm h')
     simp only[List.cons.injEq,and_true]at e
     exact cR e)
theorem ZW {ag:World} (hg:bB a7 ⟨ag,ag,λ_=>False,λ_=>False,[]⟩) (hO:c3 ag dX):cI ag uX:=by
 refine fF (SB:=SB) (sh:=sh) (q:=uX) (cal:=(a8 [] [dX])) (li:=br) (rounds:=600) (d:=6) (lsh:=bt) (lens:=[1,1]) b7 (λ_ _ _=>cG aQ (bq hO aQ)) hg (by kernel_rfl) afx rfl rfl ?_
 rw[show uX.c=xB from rfl,aeH]
 exact abh
theorem afy:dp xC.args xC.res (bY sh SB 739):=by
 intro zs rs bE hz hr bG h h'
 match zs,rs,bE,hz,hr,bG,h,h' with
 |[z0,ai],[a0],[b0],_,_,_,h,h'=>
  first
   |exact cR (Eq.trans h (Eq.symm h'))
   |(have e:[[a0]]=[[b0]]:=Eq.trans h (Eq.symm h')
     simp only[List.cons.injEq,and_true]at e
     exact cR e)
theorem ZX {ag:World} (hg:bB a7 ⟨ag,ag,λ_=>False,λ_=>False,[]⟩) (hO:c3 ag dX):cI ag uY:=by
 refine fF (SB:=SB) (sh:=sh) (q:=uY) (cal:=(a8 [] [dX])) (li:=br) (rounds:=600) (d:=6) (lsh:=bt) (lens:=[1,1]) b7 (λ_ _ _=>cG aQ (bq hO aQ)) hg (by kernel_rfl) afy rfl rfl ?_
 rw[show uY.c=xC from rfl,aeI]
 exact abi
theorem afz:dp xD.args xD.res (bY sh SB 741):=by
 intro zs rs bE hz hr bG h h'
 match zs,rs,bE,hz,hr,bG,h,h' with
 |[z0,ai],[a0],[b0],_,_,_,h,h'=>
  first
   |exact cR (Eq.trans h (Eq.symm h'))
   |(have e:[[a0]]=[[b0]]:=Eq.trans h (Eq.symm h')
     simp only[List.cons.injEq,and_true]at e
     exact cR e)
theorem ZY {ag:World} (hg:bB a7 ⟨ag,ag,λ_=>False,λ_=>False,[]⟩) (hO:c3 ag dX):cI ag uZ:=by
 refine fF (SB:=SB) (sh:=sh) (q:=uZ) (cal:=(a8 [] [dX])) (li:=br) (rounds:=600) (d:=6) (lsh:=bt) (lens:=[1,1]) b7 (λ_ _ _=>cG aQ (bq hO aQ)) hg (by kernel_rfl) afz rfl rfl ?_
 rw[show uZ.c=xD from rfl,aeJ]
 exact abj
theorem afB:dp xF.args xF.res (bY sh SB 761):=by
 intro zs rs bE hz hr bG h h'
 match zs,rs,bE,hz,hr,bG,h,h' with
 |[z0,ai],[a0],[b0],_,_,_,h,h'=>
  first
   |exact cR (Eq.trans h (Eq.symm h'))
   |(have e:[[a0]]=[[b0]]:=Eq.trans h (Eq.symm h')
     simp only[List.cons.injEq,and_true]at e
     exact cR e)
theorem Z0 {ag:World} (hg:bB a7 ⟨ag,ag,λ_=>False,λ_=>False,[]⟩) (hO:c3 ag dX):cI ag u1:=by
 refine fF (SB:=SB) (sh:=sh) (q:=u1) (cal:=(a8 [] [dX])) (li:=br) (rounds:=600) (d:=6) (lsh:=bt) (lens:=[1,1]) b7 (λ_ _ _=>cG aQ (bq hO aQ)) hg (by kernel_rfl) afB rfl rfl ?_
 rw[show u1.c=xF from rfl,aeL]
 exact abl
theorem afj:dp xn.args xn.res (bY sh SB 479):=by
 intro zs rs bE hz hr bG h h'
 match zs,rs,bE,hz,hr,bG,h,h' with
 |[z0,ai,z2,z3,z4],[a0],[b0],_,_,_,h,h'=>
  first
   |exact cR (Eq.trans h (Eq.symm h'))
   |(have e:[[a0]]=[[b0]]:=Eq.trans h (Eq.symm h')
     simp only[List.cons.injEq,and_true]at e
     exact cR e)
theorem ZG {ag:World} (hg:bB a7 ⟨ag,ag,λ_=>False,λ_=>False,[]⟩) (U8:cI ag uW) (U9:cI ag uX) (Va:cI ag uY):cI ag uK:=by
 refine fF (SB:=SB) (sh:=sh) (q:=uK) (cal:=(a8 [uW,uX,uY] [])) (li:=br) (rounds:=600) (d:=6) (lsh:=bt) (lens:=[1,3,1]) b7 (λ_ _ _=>cG (bq U8 (bq U9 (bq Va aQ))) aQ) hg (by kernel_rfl) afj rfl rfl ?_
 rw[show uK.c=xn from rfl,aer]
 exact aa1
theorem afk:dp xo.args xo.res (bY sh SB 480):=by
 intro zs rs bE hz hr bG h h'
 match zs,rs,bE,hz,hr,bG,h,h' with
 |[z0,ai,z2,z3,z4],[a0],[b0],_,_,_,h,h'=>
  first
   |exact cR (Eq.trans h (Eq.symm h'))
   |(have e:[[a0]]=[[b0]]:=Eq.trans h (Eq.symm h')
     simp only[List.cons.injEq,and_true]at e
     exact cR e)
theorem ZH {ag:World} (hg:bB a7 ⟨ag,ag,λ_=>False,λ_=>False,[]⟩) (U5:cI ag uT) (U6:cI ag uU) (Vb:cI ag uZ):cI ag uL:=by
 refine fF (SB:=SB) (sh:=sh) (q:=uL) (cal:=(a8 [uT,uU,uZ] [])) (li:=br) (rounds:=600) (d:=6) (lsh:=bt) (lens:=[1,3,1]) b7 (λ_ _ _=>cG (bq U5 (bq U6 (bq Vb aQ))) aQ) hg (by kernel_rfl) afk rfl rfl ?_
 rw[show uL.c=xo from rfl,aes]
 exact aa2
theorem afl:dp xp.args xp.res (bY sh SB 481):=by
 intro zs rs bE hz hr bG h h'
 match zs,rs,bE,hz,hr,bG,h,h' with
 |[z0,ai,z2,z3,z4],[a0],[b0],_,_,_,h,h'=>
  first
   |exact cR (Eq.trans h (Eq.symm h'))
   |(have e:[[a0]]=[[b0]]:=Eq.trans h (Eq.symm h')
     simp only[List.cons.injEq,and_true]at e
     exact cR e)
theorem ZI {ag:World} (hg:bB a7 ⟨ag,ag,λ_=>False,λ_=>False,[]⟩) (U4:cI ag uS) (Vf:cI ag u3) (Ve:cI ag u2):cI ag uM:=by
 refine fF (SB:=SB) (sh:=sh) (q:=uM) (cal:=(a8 [uS,u3,u2] [])) (li:=br) (rounds:=600) (d:=6) (lsh:=bt) (lens:=[1,3,1]) b7 (λ_ _ _=>cG (bq U4 (bq Vf (bq Ve aQ))) aQ) hg (by kernel_rfl) afl rfl rfl ?_
 rw[show uM.c=xp from rfl,aet]
 exact aa3
theorem afm:dp xq.args xq.res (bY sh SB 482):=by
 intro zs rs bE hz hr bG h h'
 match zs,rs,bE,hz,hr,bG,h,h' with
 |[z0,ai,z2,z3,z4],[a0],[b0],_,_,_,h,h'=>
  first
   |exact cR (Eq.trans h (Eq.symm h'))
   |(have e:[[a0]]=[[b0]]:=Eq.trans h (Eq.symm h')
     simp only[List.cons.injEq,and_true]at e
     exact cR e)
theorem ZJ {ag:World} (hg:bB a7 ⟨ag,ag,λ_=>False,λ_=>False,[]⟩) (U7:cI ag uV) (Vd:cI ag u1) (Vc:cI ag u0):cI ag uN:=by
 refine fF (SB:=SB) (sh:=sh) (q:=uN) (cal:=(a8 [uV,u1,u0] [])) (li:=br) (rounds:=600) (d:=6) (lsh:=bt) (lens:=[1,3,1]) b7 (λ_ _ _=>cG (bq U7 (bq Vd (bq Vc aQ))) aQ) hg (by kernel_rfl) afm rfl rfl ?_
 rw[show uN.c=xq from rfl,aeu]
 exact aa4
theorem ZQ {ag:World} (hg:bB a7 ⟨ag,ag,λ_=>False,λ_=>False,[]⟩) (UT:cI ag uK) (UU:cI ag uL) (UW:cI ag uM) (UX:cI ag uN) (FI:c3 ag oQ) (hO:c3 ag dX):gH ag sj:=by
 refine qx (SB:=SB) (sh:=sh) (c:=sj) (bcs:=[]) (cal:=(a8 [uK,uL,uM,uN] [oQ,dX])) (li:=O0) (rounds:=600) (d:=6) (lsh:=Pd) (lens:=[1]) b7 (λ_ _ _=>cG (bq UT (bq UU (bq UW (bq UX aQ)))) (bq FI (bq hO aQ))) hg aQ (by kernel_rfl) rfl rfl ?_
 rw[aeB]
 exact abb
theorem ZD {ag:World} (hg:bB a7 ⟨ag,ag,λ_=>False,λ_=>False,[]⟩) (U3:gH ag sj):gH ag q2:=by
 refine qx (SB:=SB) (sh:=sh) (c:=q2) (bcs:=[sj]) (cal:=(a8 [] [])) (li:=br) (rounds:=600) (d:=6) (lsh:=bt) (lens:=[1]) b7 (λ_ _ _=>cG aQ aQ) hg (bq U3 aQ) (by kernel_rfl) rfl rfl ?_
 rw[aeo]
 exact aaY
theorem afh:dp c7.args c7.res (bY sh SB 483):=by
 intro zs rs bE hz hr bG h h'
 match zs,rs,bE,hz,hr,bG,h,h' with
 |[z0],[a0],[b0],_,_,_,h,h'=>
  first
   |exact cR (Eq.trans h (Eq.symm h'))
   |(have e:[[a0]]=[[b0]]:=Eq.trans h (Eq.symm h')
     simp only[List.cons.injEq,and_true]at e
     exact cR e)
theorem ZE {ag:World} (hg:bB a7 ⟨ag,ag,λ_=>False,λ_=>False,[]⟩):c3 ag c7:=by
 refine bL.c9.f (mV (SB:=SB) (sh:=sh) (c:=c7) (cal:=(a8 [] [])) (li:=br) (rounds:=600) (d:=6) (lsh:=bt) (lens:=[1]) b7 (λ_ _ _=>cG aQ aQ) hg (by kernel_rfl) afh rfl rfl ?_)
 rw[aep]
 exact aaZ
theorem afK:dp xO.args xO.res (bY sh SB 802):=by
 intro zs rs bE hz hr bG h h'
 match zs,rs,bE,hz,hr,bG,h,h' with
 |[z0,ai],[a0],[b0],_,_,_,h,h'=>
  exact cR ((And.right h).trans (And.right h').symm)
theorem Z9 {ag:World} (hg:bB a7 ⟨ag,ag,λ_=>False,λ_=>False,[]⟩) (fq:c3 ag c7):cI ag vb:=by
 refine fF (SB:=SB) (sh:=sh) (q:=vb) (cal:=(a8 [] [c7])) (li:=br) (rounds:=600) (d:=6) (lsh:=bt) (lens:=[1,1]) b7 (λ_ _ _=>cG aQ (bq fq aQ)) hg (by kernel_rfl) afK rfl rfl ?_
 rw[show vb.c=xO from rfl,aeU]
 exact abv
theorem afN:dp xR.args xR.res (bY sh SB 803):=by
 intro zs rs bE hz hr bG h h'
 match zs,rs,bE,hz,hr,bG,h,h' with
 |[z0,ai],[a0],[b0],_,_,_,h,h'=>
  exact cR ((And.right h).trans (And.right h').symm)
theorem aac {ag:World} (hg:bB a7 ⟨ag,ag,λ_=>False,λ_=>False,[]⟩) (fq:c3 ag c7):cI ag ve:=by
 refine fF (SB:=SB) (sh:=sh) (q:=ve) (cal:=(a8 [] [c7])) (li:=br) (rounds:=600) (d:=6) (lsh:=bt) (lens:=[1,1]) b7 (λ_ _ _=>cG aQ (bq fq aQ)) hg (by kernel_rfl) afN rfl rfl ?_
 rw[show ve.c=xR from rfl,aeX]
 exact aby
theorem afO:dp xS.args xS.res (bY sh SB 806):=by
 intro zs rs bE hz hr bG h h'
 match zs,rs,bE,hz,hr,bG,h,h' with
 |[z0,ai],[a0],[b0],_,_,_,h,h'=>
  exact cR ((And.right h).trans (And.right h').symm)
theorem aad {ag:World} (hg:bB a7 ⟨ag,ag,λ_=>False,λ_=>False,[]⟩) (fq:c3 ag c7):cI ag vf:=by
 refine fF (SB:=SB) (sh:=sh) (q:=vf) (cal:=(a8 [] [c7])) (li:=br) (rounds:=600) (d:=6) (lsh:=bt) (lens:=[1,1]) b7 (λ_ _ _=>cG aQ (bq fq aQ)) hg (by kernel_rfl) afO rfl rfl ?_
 rw[show vf.c=xS from rfl,aeY]
 exact abz
theorem afP:dp xT.args xT.res (bY sh SB 807):=by
 intro zs rs bE hz hr bG h h'
 match zs,rs,bE,hz,hr,bG,h,h' with
 |[z0,ai],[a0],[b0],_,_,_,h,h'=>
  exact cR ((And.right h).trans (And.right h').symm)
theorem aae {ag:World} (hg:bB a7 ⟨ag,ag,λ_=>False,λ_=>False,[]⟩) (fq:c3 ag c7):cI ag vg:=by
 refine fF (SB:=SB) (sh:=sh) (q:=vg) (cal:=(a8 [] [c7])) (li:=br) (rounds:=600) (d:=6) (lsh:=bt) (lens:=[1,1]) b7 (λ_ _ _=>cG aQ (bq fq aQ)) hg (by kernel_rfl) afP rfl rfl ?_
 rw[show vg.c=xT from rfl,aeZ]
 exact abA
theorem afE:dp xI.args xI.res (bY sh SB 810):=by
 intro zs rs bE hz hr bG h h'
 match zs,rs,bE,hz,hr,bG,h,h' with
 |[z0,ai],[a0],[b0],_,_,_,h,h'=>
  exact cR ((And.right h).trans (And.right h').symm)
theorem Z3 {ag:World} (hg:bB a7 ⟨ag,ag,λ_=>False,λ_=>False,[]⟩) (fq:c3 ag c7):cI ag u4:=by
 refine fF (SB:=SB) (sh:=sh) (q:=u4) (cal:=(a8 [] [c7])) (li:=br) (rounds:=600) (d:=6) (lsh:=bt) (lens:=[1,1]) b7 (λ_ _ _=>cG aQ (bq fq aQ)) hg (by kernel_rfl) afE rfl rfl ?_
 rw[show u4.c=xI from rfl,aeO]
 exact abo
theorem afF:dp xJ.args xJ.res (bY sh SB 811):=by
 intro zs rs bE hz hr bG h h'
 match zs,rs,bE,hz,hr,bG,h,h' with
 |[z0,ai],[a0],[b0],_,_,_,h,h'=>
  exact cR ((And.right h).trans (And.right h').symm)
theorem Z4 {ag:World} (hg:bB a7 ⟨ag,ag,λ_=>False,λ_=>False,[]⟩) (fq:c3 ag c7):cI ag u5:=by
 refine fF (SB:=SB) (sh:=sh) (q:=u5) (cal:=(a8 [] [c7])) (li:=br) (rounds:=600) (d:=6) (lsh:=bt) (lens:=[1,1]) b7 (λ_ _ _=>cG aQ (bq fq aQ)) hg (by kernel_rfl) afF rfl rfl ?_
 rw[show u5.c=xJ from rfl,aeP]
 exact abp
theorem afG:dp xK.args xK.res (bY sh SB 813):=by
 intro zs rs bE hz hr bG h h'
 match zs,rs,bE,hz,hr,bG,h,h' with
 |[z0,ai],[a0],[b0],_,_,_,h,h'=>
  exact cR ((And.right h).trans (And.right h').symm)
theorem Z5 {ag:World} (hg:bB a7 ⟨ag,ag,λ_=>False,λ_=>False,[]⟩) (fq:c3 ag c7):cI ag u6:=by
 refine fF (SB:=SB) (sh:=sh) (q:=u6) (cal:=(a8 [] [c7])) (li:=br) (rounds:=600) (d:=6) (lsh:=bt) (lens:=[1,1]) b7 (λ_ _ _=>cG aQ (bq fq aQ)) hg (by kernel_rfl) afG rfl rfl ?_
 rw[show u6.c=xK from rfl,aeQ]
 exact abq
theorem afH:dp xL.args xL.res (bY sh SB 817):=by
 intro zs rs bE hz hr bG h h'
 match zs,rs,bE,hz,hr,bG,h,h' with
 |[z0,ai],[a0],[b0],_,_,_,h,h'=>
  exact cR ((And.right h).trans (And.right h').symm)
theorem Z6 {ag:World} (hg:bB a7 ⟨ag,ag,λ_=>False,λ_=>False,[]⟩) (fq:c3 ag c7):cI ag u7:=by
 refine fF (SB:=SB) (sh:=sh) (q:=u7) (cal:=(a8 [] [c7])) (li:=br) (rounds:=600) (d:=6) (lsh:=bt) (lens:=[1,1]) b7 (λ_ _ _=>cG aQ (bq fq aQ)) hg (by kernel_rfl) afH rfl rfl ?_
 rw[show u7.c=xL from rfl,aeR]
 exact abr
theorem afI:dp xM.args xM.res (bY sh SB 818):=by
 intro zs rs bE hz hr bG h h'
 match zs,rs,bE,hz,hr,bG,h,h' with
 |[z0,ai],[a0],[b0],_,_,_,h,h'=>
  exact cR ((And.right h).trans (And.right h').symm)
theorem Z7 {ag:World} (hg:bB a7 ⟨ag,ag,λ_=>False,λ_=>False,[]⟩) (fq:c3 ag c7):cI ag u9:=by
 refine fF (SB:=SB) (sh:=sh) (q:=u9) (cal:=(a8 [] [c7])) (li:=br) (rounds:=600) (d:=6) (lsh:=bt) (lens:=[1,1]) b7 (λ_ _ _=>cG aQ (bq fq aQ)) hg (by kernel_rfl) afI rfl rfl ?_
 rw[show u9.c=xM from rfl,aeS]
 exact abt
theorem afJ:dp xN.args xN.res (bY sh SB 819):=by
 intro zs rs bE hz hr bG h h'
 match zs,rs,bE,hz,hr,bG,h,h' with
 |[z0,ai],[a0],[b0],_,_,_,h,h'=>
  exact cR ((And.right h).trans (And.right h').symm)
theorem Z8 {ag:World} (hg:bB a7 ⟨ag,ag,λ_=>False,λ_=>False,[]⟩) (fq:c3 ag c7):cI ag va:=by
 refine fF (SB:=SB) (sh:=sh) (q:=va) (cal:=(a8 [] [c7])) (li:=br) (rounds:=600) (d:=6) (lsh:=bt) (lens:=[1,1]) b7 (λ_ _ _=>cG aQ (bq fq aQ)) hg (by kernel_rfl) afJ rfl rfl ?_
 rw[show va.c=xN from rfl,aeT]
 exact abu
theorem afL:dp xP.args xP.res (bY sh SB 822):=by
 intro zs rs bE hz hr bG h h'
 match zs,rs,bE,hz,hr,bG,h,h' with
 |[z0,ai],[a0],[b0],_,_,_,h,h'=>
  exact cR ((And.right h).trans (And.right h').symm)
theorem aaa {ag:World} (hg:bB a7 ⟨ag,ag,λ_=>False,λ_=>False,[]⟩) (fq:c3 ag c7):cI ag vc:=by
 refine fF (SB:=SB) (sh:=sh) (q:=vc) (cal:=(a8 [] [c7])) (li:=br) (rounds:=600) (d:=6) (lsh:=bt) (lens:=[1,1]) b7 (λ_ _ _=>cG aQ (bq fq aQ)) hg (by kernel_rfl) afL rfl rfl ?_
 rw[show vc.c=xP from rfl,aeV]
 exact abw
theorem afM:dp xQ.args xQ.res (bY sh SB 825):=by
 intro zs rs bE hz hr bG h h'
 match zs,rs,bE,hz,hr,bG,h,h' with
 |[z0,ai],[a0],[b0],_,_,_,h,h'=>
  exact cR ((And.right h).trans (And.right h').symm)
theorem aab {ag:World} (hg:bB a7 ⟨ag,ag,λ_=>False,λ_=>False,[]⟩) (fq:c3 ag c7):cI ag vd:=by
 refine fF (SB:=SB) (sh:=sh) (q:=vd) (cal:=(a8 [] [c7])) (li:=br) (rounds:=600) (d:=6) (lsh:=bt) (lens:=[1,1]) b7 (λ_ _ _=>cG aQ (bq fq aQ)) hg (by kernel_rfl) afM rfl rfl ?_
 rw[show vd.c=xQ from rfl,aeW]
 exact abx
theorem afn:dp xr.args xr.res (bY sh SB 484):=by
 intro zs rs bE hz hr bG h h'
 match zs,rs,bE,hz,hr,bG,h,h' with
 |[z0,ai,z2,z3,z4],[a0],[b0],_,_,_,h,h'=>
  exact cR ((And.right h).trans (And.right h').symm)
theorem ZK {ag:World} (hg:bB a7 ⟨ag,ag,λ_=>False,λ_=>False,[]⟩) (Vm:cI ag vb) (Vi:cI ag u6) (Vn:cI ag vc) (fq:c3 ag c7):cI ag uO:=by
 refine fF (SB:=SB) (sh:=sh) (q:=uO) (cal:=(a8 [vb,u6,vc] [c7])) (li:=br) (rounds:=600) (d:=6) (lsh:=bt) (lens:=[1,3,1]) b7 (λ_ _ _=>cG (bq Vm (bq Vi (bq Vn aQ))) (bq fq aQ)) hg (by kernel_rfl) afn rfl rfl ?_
 rw[show uO.c=xr from rfl,aev]
 exact aa5
theorem afo:dp xt.args xt.res (bY sh SB 485):=by
 intro zs rs bE hz hr bG h h'
 match zs,rs,bE,hz,hr,bG,h,h' with
 |[z0,ai,z2,z3,z4],[a0],[b0],_,_,_,h,h'=>
  exact cR ((And.right h).trans (And.right h').symm)
theorem ZL {ag:World} (hg:bB a7 ⟨ag,ag,λ_=>False,λ_=>False,[]⟩) (Vq:cI ag vf) (Vh:cI ag u5) (Vo:cI ag vd) (fq:c3 ag c7):cI ag uP:=by
 refine fF (SB:=SB) (sh:=sh) (q:=uP) (cal:=(a8 [vf,u5,vd] [c7])) (li:=br) (rounds:=600) (d:=6) (lsh:=bt) (lens:=[1,3,1]) b7 (λ_ _ _=>cG (bq Vq (bq Vh (bq Vo aQ))) (bq fq aQ)) hg (by kernel_rfl) afo rfl rfl ?_
 rw[show uP.c=xt from rfl,aew]
 exact aa6
theorem afp:dp xu.args xu.res (bY sh SB 486):=by
 intro zs rs bE hz hr bG h h'
 match zs,rs,bE,hz,hr,bG,h,h' with
 |[z0,ai,z2,z3,z4],[a0],[b0],_,_,_,h,h'=>
  exact cR ((And.right h).trans (And.right h').symm)
theorem ZM {ag:World} (hg:bB a7 ⟨ag,ag,λ_=>False,λ_=>False,[]⟩) (Vr:cI ag vg) (Vk:cI ag u9) (Vp:cI ag ve) (fq:c3 ag c7):cI ag uQ:=by
 refine fF (SB:=SB) (sh:=sh) (q:=uQ) (cal:=(a8 [vg,u9,ve] [c7])) (li:=br) (rounds:=600) (d:=6) (lsh:=bt) (lens:=[1,3,1]) b7 (λ_ _ _=>cG (bq Vr (bq Vk (bq Vp aQ))) (bq fq aQ)) hg (by kernel_rfl) afp rfl rfl ?_
 rw[show uQ.c=xu from rfl,aex]
 exact aa7
theorem afq:dp xv.args xv.res (bY sh SB 487):=by
 intro zs rs bE hz hr bG h h'
 match zs,rs,bE,hz,hr,bG,h,h' with
 |[z0,ai,z2,z3,z4],[a0],[b0],_,_,_,h,h'=>
  exact cR ((And.right h).trans (And.right h').symm)
theorem ZN {ag:World} (hg:bB a7 ⟨ag,ag,λ_=>False,λ_=>False,[]⟩) (Vj:cI ag u7) (Vl:cI ag va) (Vg:cI ag u4) (fq:c3 ag c7):cI ag uR:=by
 refine fF (SB:=SB) (sh:=sh) (q:=uR) (cal:=(a8 [u7,va,u4] [c7])) (li:=br) (rounds:=600) (d:=6) (lsh:=bt) (lens:=[1,3,1]) b7 (λ_ _ _=>cG (bq Vj (bq Vl (bq Vg aQ))) (bq fq aQ)) hg (by kernel_rfl) afq rfl rfl ?_
 rw[show uR.c=xv from rfl,aey]
 exact aa8
theorem ZP {ag:World} (hg:bB a7 ⟨ag,ag,λ_=>False,λ_=>False,[]⟩) (UY:cI ag uO) (UZ:cI ag uP) (U0:cI ag uQ) (U1:cI ag uR) (FI:c3 ag oQ) (fq:c3 ag c7):gH ag si:=by
 refine qx (SB:=SB) (sh:=sh) (c:=si) (bcs:=[]) (cal:=(a8 [uO,uP,uQ,uR] [oQ,c7])) (li:=OZ) (rounds:=600) (d:=6) (lsh:=Pc) (lens:=[1]) b7 (λ_ _ _=>cG (bq UY (bq UZ (bq U0 (bq U1 aQ)))) (bq FI (bq fq aQ))) hg aQ (by kernel_rfl) rfl rfl ?_
 rw[aeA]
 exact aba
theorem ZC {ag:World} (hg:bB a7 ⟨ag,ag,λ_=>False,λ_=>False,[]⟩) (U2:gH ag si):gH ag q0:=by
 refine qx (SB:=SB) (sh:=sh) (c:=q0) (bcs:=[si]) (cal:=(a8 [] [])) (li:=br) (rounds:=600) (d:=6) (lsh:=bt) (lens:=[1]) b7 (λ_ _ _=>cG aQ aQ) hg (bq U2 aQ) (by kernel_rfl) rfl rfl ?_
 rw[aen]
 exact aaX
theorem Zy {ag:World} {q:kM} (hg:bB a7 ⟨ag,ag,λ_=>False,λ_=>False,[]⟩) (h_spd32:gH ag n6) (h_all32:rM ag o3) (h_jjoin:nN ag q um):nN ag q uo:=by
 refine G6 (SB:=SB) (sh:=sh) (j:=uo) (bc:=(o5 [o3] (qY q [um] (fM [n6])))) (cal:=(a8 [] [])) (li:=br) (rounds:=600) (d:=6) (lsh:=bt) b7 (λ_ _ _=>cG aQ aQ) hg (λ_ _ _=>(Aw (CK (pf (bq h_spd32 aQ)) (bq h_jjoin aQ)) (bq h_all32 aQ))) (by kernel_rfl) rfl rfl λx=>?_
 rw[aek]
 exact aaU _ _
theorem Zz {ag:World} {q:kM} (hg:bB a7 ⟨ag,ag,λ_=>False,λ_=>False,[]⟩) (h_spd64:gH ag n7) (h_all64:rM ag o4) (h_jjoin:nN ag q um):nN ag q uq:=by
 refine G6 (SB:=SB) (sh:=sh) (j:=uq) (bc:=(o5 [o4] (qY q [um] (fM [n7])))) (cal:=(a8 [] [])) (li:=br) (rounds:=600) (d:=6) (lsh:=bt) b7 (λ_ _ _=>cG aQ aQ) hg (λ_ _ _=>(Aw (CK (pf (bq h_spd64 aQ)) (bq h_jjoin aQ)) (bq h_all64 aQ))) (by kernel_rfl) rfl rfl λx=>?_
 rw[ael]
 exact aaV _ _
theorem ZB {ag:World} {q:kM} (hg:bB a7 ⟨ag,ag,λ_=>False,λ_=>False,[]⟩) (h_aalive:gH ag qZ) (h_rSum256:gH ag q0) (h_rSum512:gH ag q2) (h_jgreat:nN ag q CI) (h_jwhole:nN ag q CJ) (h_jsum32:nN ag q uo) (h_jsum64:nN ag q uq):nN ag q Ag:=by
 refine G6 (SB:=SB) (sh:=sh) (j:=Ag) (bc:=(qY q [CI,CJ,uo,uq] (fM [qZ,q0,q2]))) (cal:=(a8 [] [])) (li:=br) (rounds:=600) (d:=6) (lsh:=bt) b7 (λ_ _ _=>cG aQ aQ) hg (λ_ _ _=>(CK (pf (bq h_aalive (bq h_rSum256 (bq h_rSum512 aQ)))) (bq h_jgreat (bq h_jwhole (bq h_jsum32 (bq h_jsum64 aQ)))))) (by kernel_rfl) rfl rfl λx=>?_
 rw[aem]
 exact aaW _ _
end Go.cU
namespace Go.Proofs
open Go.Shelf Go.RowKit
shelf_lay SlLaysJ.n14 Slb 14 at Tryd as Tryd.sm
open Go.bx Go.Lib
def iF:List az:=[.int .u8 0 255]
def o7 (rows:List (List Int)):List UInt8:=rows.map λr=>UInt8.ofNat (r.getD 0 0).toNat
theorem QM {r:List Int} (h:b5 iF r):∃z:Int,r=[z]/\0<=z/\z<=255/\((UInt8.ofNat z.toNat).toNat:Int)=z:=by
 match r,h with
 |[z],h=>
  have h1:0<=z/\z<=255:=h.1
  refine⟨z,rfl,h1.1,h1.2,?_⟩
  have e:(UInt8.ofNat z.toNat).toNat=z.toNat% 256:=by simp
  rw[e];omega
theorem DB (rows:List (List Int)):(o7 rows).length=rows.length:=by simp[o7]
theorem ad0 {w:World} {g o:Nat} {cells:Array Value} {t:TypeId} {fz:Nat×Nat} {rows:List (List Int)} (hg:w.heap[g]?=some (.cells cells t fz)) (h:jy cells o iF rows) (i:Nat) (x:UInt8) (hx:(o7 rows)[i]?=some x):w.cell? ((⟨g,o,none⟩:Addr).add i)=some (.int .u8 (x.toNat:Int)):=by
 unfold o7 at hx
 rw[List.getElem?_map]at hx
 cases hr:rows[i]? with
 |none=>rw[hr]at hx;cases hx
 |some r=>
  rw[hr]at hx
  simp only[Option.map_some,Option.some.injEq]at hx
  obtain⟨z,rfl,h1,h2,h3⟩:=QM (h.1 r (List.mem_of_getElem? hr))
  have hv:(dD iF [z])[0]?=some (Value.int .u8 z):=rfl
  have:=h.get hr hv
  rw[gz]
  simp only[World.cell?,hg,Option.isSome_none,Bool.false_eq_true,if_false]
  simp only[iF,List.length_cons,List.length_nil,Nat.zero_add,Nat.mul_one,Nat.add_zero]at this
  rw[this,<-hx]
  simp only[List.getD_cons_zero]
  rw[h3]
theorem Ig:∀(rows:List (List Int)) (zs:List Int),(∀row∈rows,b5 iF row)->(∀x∈zs,0<=x/\x<256)->bytesOf zs=o7 rows->bk iF rows=zs.map (Value.int .u8)
 |[],zs,_,_,h=>by
  have:zs.length=0:=by have:=congrArg List.length h;simpa [bytesOf,o7]using this
  rw[List.eq_nil_of_length_eq_zero this];rfl
 |r::rows,[],_,_,h=>by simp[bytesOf,o7]at h
 |r::rows,z::zs,hr,hz,h=>by
  obtain⟨y,rfl,h1,h2,h3⟩:=QM (hr r (by simp))
  have hz1:=hz z (by simp)
  unfold bytesOf o7 at h
  simp only[List.map_cons,List.cons.injEq,List.getD_cons_zero]at h
  have ih:=Ig rows zs (λx hx=>hr x (List.mem_cons_of_mem _ hx)) (λx hx=>hz x (List.mem_cons_of_mem _ hx)) h.2
  have e:y=z:=by
   have:=congrArg (λb:UInt8=>(b.toNat:Int)) h.1
   simp at this
   omega
  subst e
  show Value.int .u8 y::bk iF rows=_
  rw[ih];rfl
theorem join_one {spec:List Int->List Int->Prop} {ag:World} {p:gQ} (hc:p.c.f=26) (ha:p.c.args=[.rd iF]) (hr:p.c.res=[.rd iF]) (hp:p.c.pre=71) (hn:p.nil=true) (hs:∀z r,0<=r->r<=aw->ab r=ab z->spec [z] [r]) (hf:∀args w,(callFunc 26 args).run Tryd.prog w= .ok (.enter 26 args) w):
 p.c9 Tryd.prog ag spec:=by
 refine⟨by rw[hc];exact hf,?_⟩
 rw[hc,ha,hr,hp]
 intro F w vs zs g hw hz iC hat hg hF hcell
 match zs,hz,vs,hat,iC,hcell with
 |[z],hz,[v],hat,iC,hcell=>
 have hat:na F w iF (ab z) v:=hat.1
 have iC:(ab z).length<=1000000000:=iC
 have e:su p g [v].length=#[.slice (some ⟨g,0,none⟩) 1 1,.slice none 0 0]:=by unfold su;rw[hn];rfl
 rw[e]
 have hc0:w.cell? ⟨g,0,none⟩=some v:=by simp[World.cell?,hcell]
 have empty:(∃p0 ct,v= .slice p0 0 ct)->ab z=[]->Calls Tryd.prog 26 #[.slice (some ⟨g,0,none⟩) 1 1,.slice none 0 0] w λe w'=>w.Extends w'/\∃rs us,bd (cb [b2.rd iF]) rs/\spec [z] rs/\hI (λg=>F g∨w.heap.size<=g) (λg=>w.heap.size<=g) w' [b2.rd iF] rs us/\e= .returned (lg us):=λ⟨p0,ct,hv⟩ h0=>by
  refine Calls.mono (Any.bytes_Join_one_empty Tryd.sm g 0 1 p0 ct (.slice none 0 0) w (by rw[hc0,hv])) ?_
  rintro e w' ⟨rfl,rfl⟩
  exact⟨World.Extends.refl _,[0],[.slice none 0 0],⟨Int.le_refl _,pb,trivial⟩,hs z 0 (Int.le_refl _) pb (by rw[fQ,h0]),⟨.inl ⟨rfl,fQ⟩,trivial⟩,rfl⟩
 rcases hat with⟨rfl,h0⟩|⟨g1,o1,c1,cells,t,fz,rfl,⟨h2,h3⟩,h4,h5,h6⟩
 ·exact empty ⟨none,0,rfl⟩ h0
 ·rcases Nat.eq_zero_or_pos (ab z).length with h0|h0
  ·exact empty ⟨some ⟨g1,o1,none⟩,c1,by rw[h0]⟩ (List.eq_nil_of_length_eq_zero h0)
  ·refine Calls.mono (Any.bytes_Join_one Tryd.sm g 0 1 ⟨g1,o1,none⟩ c1 (o7 (ab z)) (.slice none 0 0) w (by rw[hc0,DB]) (λi x hx=>ad0 h5 h6 i x hx) (by rw[DB];exact h0) (by rw[DB];omega)) ?_
   rintro e w' ⟨v',rfl,⟨g2,cap,zs',rfl,k1,k2,k3,k4,mb,n4,uu,_⟩,hb⟩
   have hsz:=hb.size
   rw[DB]at k2 n4⊢
   obtain⟨cells',t',tr,fC⟩:∃cells' t' tr,w'.heap[g2]?=some (.cells cells' t' tr):=by
    have h7:=uu 0 (by omega)
    simp only[World.cell?]at h7
    cases ah:w'.heap[g2]? with
    |none=>simp[ah]at h7
    |some ob=>
     cases ob<;>simp[ah]at h7
     exact⟨_,_,_,rfl⟩
   have pv:∀i,i<cap->cells'[i]?=some (.int .u8 (zs'.getD i 0)):=λi hi=>by
    have h7:=uu i hi
    simpa [World.cell?,fC]using h7
   have fW:=Ig (ab z) (zs'.take (ab z).length) h6.1 (λx hx=>mb x (List.mem_of_mem_take hx)) n4
   refine⟨BS (World.Extends.refl w) hb.os hb.tape hb.output hb.size hb.block,[z],[_],hz,hs z z hz.1 hz.2.1 rfl,⟨.inr ⟨g2,0,cap,cells',t',tr,rfl,⟨k2,by simp only[maxLen]at k3;omega⟩,.inr k1,fC,h6.1,[],cells'.toList.drop (ab z).length,?_,rfl⟩,trivial⟩,rfl⟩
   have GG:cells'.toList.take (ab z).length=bk iF (ab z):=by
    rw[fW]
    apply List.ext_getElem?
    intro i
    rw[List.getElem?_take,List.getElem?_map,List.getElem?_take]
    split
    ·rename_i hi
     have:=pv i (by omega)
     rw[Array.getElem?_toList,this,List.getD_eq_getElem?_getD]
     have hlt:i<zs'.length:=by omega
     rw[List.getElem?_eq_getElem hlt];rfl
    ·rfl
   show cells'.toList=[]++bk iF (ab z)++_
   rw[List.nil_append,<-GG,List.take_append_drop]
end Go.Proofs
set_option linter.unusedSimpArgs false
namespace Go.Proofs
open Go.Shelf Go.RowKit Go.bx Go.Lib
def jQ (l:List UInt8):List (List Int):=l.map λx=>[(x.toNat:Int)]
theorem sz (l:List UInt8):(jQ l).length=l.length:=by simp[jQ]
theorem vp (l:List UInt8):∀row∈jQ l,b5 iF row:=λrow h=>by
 obtain⟨x,_,rfl⟩:=List.mem_map.1 h
 have:=x.toNat_lt
 exact⟨⟨by show(0:Int)<=x.toNat;omega,by show(x.toNat:Int)<=255;omega⟩,trivial⟩
theorem ace (l:List UInt8):bk iF (jQ l)=l.map λx=>Value.int .u8 (x.toNat:Int):=by
 induction l with
 |nil=>rfl
 |cons x r ih=>
  show Value.int .u8 (x.toNat:Int)::bk iF (jQ r)=_
  rw[ih];rfl
theorem acf (l:List UInt8):o7 (jQ l)=l:=by
 unfold o7 jQ
 rw[List.map_map]
 conv=>rhs;rw[<-List.map_id l]
 apply List.map_congr_left
 intro x _
 simp
theorem aax {w:World} {B:Nat} {e:TypeId} {v:Value} {l:List UInt8} (h:w.ownsRow B e 1 v l.length (l.map λx=>Value.int .u8 (x.toNat:Int))):na (λg=>B<=g) w iF (jQ l) v:=by
 obtain⟨_,h⟩:=h
 rcases h with⟨rfl,h0⟩|⟨g,cap,cur,rfl,h1,h2,h3,h4,h5,h6⟩
 ·have:l=[]:=List.eq_nil_of_length_eq_zero h0
  subst this
  exact .inl ⟨rfl,rfl⟩
 ·refine .inr ⟨g,0,cap,cur,e,(0,0),by rw[sz],⟨by rw[sz];exact h3,by simp only[maxLen]at h4;omega⟩,h1,h2,vp l,[],cur.toList.drop (l.length*1),?_,rfl⟩
  rw[ace,<-h6,List.nil_append,List.take_append_drop]
theorem MW {w:World} {B:Nat} {v:Value} {l:List UInt8} (hB:B<=w.heap.size) (h:FreshBytes B w v l) (h0:0<l.length):na (λg=>B<=g) w iF (jQ l) v:=by
 obtain⟨g2,cap,zs',rfl,k1,k2,k3,k4,mb,n4,uu,_⟩:=h
 obtain⟨cells',t',tr,fC⟩:∃cells' t' tr,w.heap[g2]?=some (.cells cells' t' tr):=by
  have h7:=uu 0 (by omega)
  simp only[World.cell?]at h7
  cases ah:w.heap[g2]? with
  |none=>simp[ah]at h7
  |some ob=>
   cases ob<;>simp[ah]at h7
   exact⟨_,_,_,rfl⟩
 have pv:∀i,i<cap->cells'[i]?=some (.int .u8 (zs'.getD i 0)):=λi hi=>by
  have h7:=uu i hi
  simpa [World.cell?,fC]using h7
 have fW:=Ig (jQ l) (zs'.take l.length) (vp l) (λx hx=>mb x (List.mem_of_mem_take hx)) (by rw[n4,acf])
 refine .inr ⟨g2,0,cap,cells',t',tr,by rw[sz],⟨by rw[sz];exact k2,by simp only[maxLen]at k3;omega⟩,k1,fC,vp l,[],cells'.toList.drop l.length,?_,rfl⟩
 have GG:cells'.toList.take l.length=bk iF (jQ l):=by
  rw[fW]
  apply List.ext_getElem?
  intro i
  rw[List.getElem?_take,List.getElem?_map,List.getElem?_take]
  split
  ·rename_i hi
   have:=pv i (by omega)
   rw[Array.getElem?_toList,this,List.getD_eq_getElem?_getD]
   have hlt:i<zs'.length:=by omega
   rw[List.getElem?_eq_getElem hlt];rfl
  ·rfl
 rw[List.nil_append,<-GG,List.take_append_drop]
def rI (w:World) (v:Value) (L:List (List UInt8)):Prop:=
 ∃(p:Option Addr) (c:Nat),v= .slice p L.length c/\L.length<=c/\L.length<=140737488355328/\(L=[]∨∃b o vs,p=some ⟨b,o,none⟩/\Lib.PartsAt w ⟨b,o,none⟩ vs L)
theorem SP {w:World} {a:Addr} {v:Value} (h:w.cell? a=some v):a.block<w.heap.size:=by
 rcases Nat.lt_or_ge a.block w.heap.size with h'|h'
 ·exact h'
 ·simp[World.cell?,Array.getElem?_eq_none h']at h
theorem Mf {w w':World} (he:w.Extends w') {a:Addr} {v:Value} (h:w.cell? a=some v):w'.cell? a=some v:=by
 rw[World.cell?_of_block (he.block _ (SP h))];exact h
theorem rI.ext {w w':World} {v:Value} {L:List (List UInt8)} (he:w.Extends w') (h:rI w v L):rI w' v L:=by
 obtain⟨p,c,h1,h2,h3,h4⟩:=h
 refine⟨p,c,h1,h2,h3,h4.imp id ?_⟩
 rintro⟨b,o,vs,h5,h6,h7,h8⟩
 refine⟨b,o,vs,h5,h6,λi v hv=>Mf he (h7 i v hv),λi v l hv hl=>?_⟩
 obtain⟨q,cap,e1,e2,e3⟩:=h8 i v l hv hl
 exact⟨q,cap,e1,e2,λa ha i x hx=>Mf he (e3 a ha i x hx)⟩
def lp (L:List (List UInt8)):Nat:=(L.map λl=>min l.length 10000).sum
theorem Uo (L:List (List UInt8)):lp L<=10000*L.length:=by
 induction L with
 |nil=>simp[lp]
 |cons l r ih=>
  show min l.length 10000+lp r<=10000*(r.length+1)
  omega
theorem Up (L:List (List UInt8)) (i:Nat) (l:List UInt8) (h:L[i]?=some l):lp (L.take (i+1))=lp (L.take i)+min l.length 10000:=by
 rw[List.take_add_one,h]
 simp[lp]
theorem YC (L:List (List UInt8)) (h:lp L<=5000):lens L<=lp L:=by
 induction L with
 |nil=>simp[lp,lens]
 |cons l r ih=>
  have h:min l.length 10000+lp r<=5000:=h
  have:=ih (by omega)
  rw[lens_cons]
  show l.length+lens r<=min l.length 10000+lp r
  omega
theorem CQ (L:List (List UInt8)):L.flatten.length=lens L:=by simp[lens]
set_option maxHeartbeats 4000000 in
set_option maxRecDepth 1000000 in
theorem Tryd.Un (p:Option Addr) (n c:Nat) (L:List (List UInt8)) (hn:L.length=n) (w:World) (Fu:n<=140737488355328) (cd:n<=c) (dr:L=[]∨∃b o vs,p=some ⟨b,o,none⟩/\Lib.PartsAt w ⟨b,o,none⟩ vs L):
 Calls Tryd.prog 8 #[.slice p n c] w λe w'=>∃r:Bool,e= .returned (.bool r)/\w'=w/\(r=false->lens L<=5000):=by
 have s0:Aside (L=[]∨∃b o vs,p=some ⟨b,o,none⟩/\Lib.PartsAt w ⟨b,o,none⟩ vs L):=dr
 clear dr
 go_enter Tryd.func8,Tryd.ntmps8
 go_wp2
 go_loopg [3,4] n (λg kG p3 wr=>w=wr/\∃i:Nat,i<=n/\g=n-i/\p3= .int .i64 i/\kG= .int .i64 ((n+lp (L.take i):Nat):Int))
 case atStart=>exact⟨rfl,0,Nat.zero_le _,rfl,rfl,rfl⟩
 case round=>
  obtain⟨rfl,i,hi,rfl,rfl,rfl⟩:=hrel
  have pA:=Uo (L.take i)
  have Gl:(L.take i).length<=i:=by rw[List.length_take];omega
  by_cases hlt:i<n
  ·by_cases h5:n+lp (L.take i)<=5000
   ·have hne:L≠[]:=λe=>by subst e;simp at hn;omega
    obtain⟨b,o,vs,rfl,zk⟩:=s0.out.resolve_left hne
    obtain⟨q,cap,l,hl,hcell,_,_⟩:=zk.get i (by omega)
    rw[Lib.add_plain2]at hcell
    have hs:=Up L i l hl
    clear zk
    generalize lp (L.take i)=acc at hs h5 pA⊢
    go_wp2
    go_roundg (n-(i+1))
    case measure=>omega
    case rel=>exact⟨rfl,i+1,by omega,rfl,by go_num,by first|(rw[hs];done)|(rw[hs];rfl)|(rw[hs];congr 1;push_cast;omega)⟩
   ·generalize lp (L.take i)=acc at h5 pA⊢
    go_wp2
    go_ret
    exact⟨_,rfl,rfl,λh=>by first|(simp at h;done)|(simp at h;omega)⟩
  ·obtain rfl:n=i:=by omega
   have hall:L.take n=L:=by rw[<-hn,List.take_length]
   rw[hall]at pA⊢
   have oG:=YC L
   generalize lp L=acc at oG pA⊢
   go_wp2
   go_ret
   exact⟨_,rfl,rfl,λh=>by first|(simp at h;done)|(simp at h;omega)⟩
set_option maxHeartbeats 4000000 in
set_option maxRecDepth 1000000 in
theorem Tryd.af0 (p:Option Addr) (n c:Nat) (L:List (List UInt8)) (hn:L.length=n) (w:World) (Fu:n<=140737488355328) (cd:n<=c) (dr:L=[]∨∃b o vs,p=some ⟨b,o,none⟩/\Lib.PartsAt w ⟨b,o,none⟩ vs L) (hlen:lens L<=1000000000) (F:List UInt8) (hF:L.flatten=F):
 Calls Tryd.prog 9 #[.slice p n c] w λe w'=>∃v,e= .returned v/\Below w.heap.size w w'/\w'.ownsRow w.heap.size 5 1 v F.length (F.map λx=>Value.int .u8 (x.toNat:Int)):=by
 have s0:Aside (L=[]∨∃b o vs,p=some ⟨b,o,none⟩/\Lib.PartsAt w ⟨b,o,none⟩ vs L):=dr
 clear dr
 obtain⟨i0,pB,hzz⟩:=Option.map_eq_some_iff.1 Tryd.sm.i5
 simp only[Prod.mk.injEq]at hzz
 obtain⟨hz,hsz,hby⟩:=hzz
 have pB:Tryd.prog.info? 5=some i0:=pB
 have Rg:Aside (Tryd.prog.info? 5=some i0/\i0.zero=some (.int .u8 0)/\i0.size=1/\i0.bytes=1):=⟨pB,hz,hsz,hby⟩
 clear pB hz hsz hby
 go_enter Tryd.func9,Tryd.ntmps9
 go_wp2
 go_loopg [3,4] n (λg kG p3 wr=>∃(i:Nat) (acc:List UInt8) (sv:Value),kG=sv/\i<=n/\g=n-i/\p3= .int .i64 i/\Hid (acc=(L.take i).flatten)/\Aside (wr.ownsRow w.heap.size 5 1 sv acc.length (acc.map λx=>Value.int .u8 (x.toNat:Int)))/\Aside (Below w.heap.size w wr))
 case atStart=>exact⟨0,[],_,rfl,Nat.zero_le _,rfl,rfl,(show Hid _ from by show []=_;simp),World.ownsRow_nil _ _ _ _,Below.refl _ _⟩
 case round=>
  obtain⟨i,acc,sv,hV,hi,rfl,rfl,DN,HO,gn⟩:=hrel
  have hV:=hV.symm
  subst hV
  by_cases hlt:i<n
  ·have hne:L≠[]:=λe=>by subst e;simp at hn;omega
   obtain⟨b,o,vs,rfl,zk⟩:=s0.out.resolve_left hne
   obtain⟨q,cap,l,hl,hcell,hnil,r3⟩:=zk.get i (by omega)
   rw[Lib.add_plain2]at hcell
   have hcw:wr.cell? ⟨b,o+i,none⟩=some (.slice q l.length cap):=Lib.Below.cellOf gn.out hcell (Nat.le_refl _)
   have df:acc.length+l.length<=1000000000:=by
    have e1:acc.length=lens (L.take i):=by rw[DN.out,CQ]
    have e2:=lens_take_succ L i l hl
    have e3:=lens_take_le L (i+1)
    omega
   obtain⟨v',w',hrun,Re,HG⟩:∃v' w',(Builtin.append_ #[25,25] 25 #[sv,.slice q l.length cap]).run Tryd.prog wr= .ok v' w'/\Aside (w'.ownsRow w.heap.size 5 1 v' (acc++l).length ((acc++l).map λx=>Value.int .u8 (x.toNat:Int)))/\Aside (wr.grownBy w' sv.ownBlock):=by
    obtain⟨pB,hz,hsz,hby⟩:=Rg.out
    cases q with
    |none=>
     have hl0:=hnil rfl
     subst hl0
     have kX:(Builtin.append_ #[25,25] 25 #[sv,.slice none 0 cap]).run Tryd.prog wr= .ok sv wr:=by
      obtain⟨_,ho⟩:=HO.out
      rcases ho with⟨rfl,h0⟩|⟨g,c',cur,rfl,h1,h2,h3,h4,h5,h6⟩
      ·simp[Builtin.append_,run_underlying Tryd.underlying25,sizeOf,typeInfo,pB,Builtin.lenOf,Builtin.firstCells]
      ·simp[Builtin.append_,run_underlying Tryd.underlying25,sizeOf,typeInfo,pB,Builtin.lenOf,Builtin.firstCells,storeCells,h3]
     refine⟨sv,wr,kX,?_,⟨rfl,rfl,rfl,Nat.le_refl _,λ_ _ _=>rfl⟩⟩
     rw[List.append_nil]
     exact HO.out
    |some a=>
     obtain⟨v',w',h1,h2,h3,_⟩:=run_append_own (P:=Tryd.prog) (w:=wr) w.heap.size 25 25 5 i0 (.int .u8 0) 1 1 Tryd.underlying25 pB hz hsz hby rfl (by decide) sv acc.length _ HO.out a l.length cap (l.map λx=>Value.int .u8 (x.toNat:Int)) (by simp) (λj u hj=>by
      rw[List.getElem?_map]at hj
      obtain⟨x,hx,rfl⟩:=Option.map_eq_some_iff.1 hj
      exact Lib.Below.cellOf gn.out (r3 a rfl j x hx) (Nat.le_refl _)) (λu hu=>by
      obtain⟨x,_,rfl⟩:=List.mem_map.1 hu
      rfl) (by unfold maxLen;omega) (by omega) gn.out.size
     refine⟨v',w',h1,?_,h3⟩
     rw[List.length_append,List.map_append]
     exact h2
   clear zk r3 hnil hcell
   have Rc:Aside (Below w.heap.size w w'):=gn.out.grown HG.out gn.out.size (by
    intro k hk
    exact(HO.out.lt k hk).1)
   go_wp2_with (at_builtin;refine Lib.wpList_append_run_sl _ rfl _ _ 25 rfl _ _ rfl rfl hrun ?_)
   go_roundg (n-(i+1))
   case measure=>omega
   case rel=>
    refine⟨i+1,acc++l,_,rfl,by omega,rfl,by go_num,(show Hid _ from ?_),Re,Rc⟩
    show acc++l=_
    rw[List.take_add_one,hl,DN.out]
    simp
  ·obtain rfl:n=i:=by omega
   have hall:L.take n=L:=by rw[<-hn,List.take_length]
   have Cb:=DN.out
   rw[hall]at Cb
   go_wp2
   go_ret
   refine⟨_,rfl,gn.out,?_⟩
   have ah:=HO.out
   rw[Cb,hF]at ah
   exact ah
end Go.Proofs
namespace Go.Proofs
open Go.Shelf Go.RowKit Go.bx Go.Lib
def Rf (w:World) (g:Nat):Prop:=∃(cs:Array Value) (t:TypeId) (fz:Nat×Nat),w.heap[g]?=some (.cells cs t fz)
set_option maxHeartbeats 8000000 in
set_option maxRecDepth 1000000 in
theorem Tryd.XI (b o n c:Nat) (vs:List Value) (ls:List (List UInt8)) (w:World) (hn:ls.length=n) (h2:2<=n) (dr:Lib.PartsAt w ⟨b,o,none⟩ vs ls) (cd:n<=c) (h0:∀l∈ls,l=[]) (ahR:n<=140737488355328):
 Calls Tryd.prog 26 #[.slice (some ⟨b,o,none⟩) n c,.slice none 0 0] w λe w'=>e= .returned (.slice (some ⟨w.heap.size,0,none⟩) 0 0)/\Rf w' w.heap.size/\Below w.heap.size w w':=by
 have s0:Aside (Lib.PartsAt w ⟨b,o,none⟩ vs ls):=dr
 clear dr
 have Z:Aside (∀l∈ls,l=[]):=h0
 clear h0
 have f0:((n:Int)==0)=false:=beq_eq_false_iff_ne.2 (by omega)
 have f1:((n:Int)==1)=false:=beq_eq_false_iff_ne.2 (by omega)
 obtain⟨cs,Ok,hle,_⟩:=Lib.run_makeNoZero (P:=Tryd.prog) w #[3] 25 5 Tryd.underlying25 0 (by omega)
 have Cd:(callFunc 38 #[.int .i64 0]).run Tryd.prog w= .ok (.value (.slice (some ⟨w.heap.size,0,none⟩) 0 cs.size)) ((w.alloc (.cells cs 5)).drewN 2):=by
  rw[run_callFunc_extern Tryd.func38 (by kernel_rfl) (by kernel_rfl) (by kernel_rfl) (e:=Extern.BytealgMakeNoZero.makeNoZero #[3] #[25]) (by kernel_rfl)]
  rw[show(Value.int .i64 (0:Int))= .int .i64 ((0:Nat):Int) from rfl,Ok]
  rfl
 clear Ok
 have Fx:Below w.heap.size w ((w.alloc (.cells cs 5)).drewN 2):=(Lib.Buf.start w cs 5 0 2 hle).below
 have w2:∀(W:World) (p:Option Addr) (cap:Nat),(Builtin.copy_ #[25,25] 3 #[.slice (some ⟨w.heap.size,0,none⟩) 0 0,.slice p 0 cap]).run Tryd.prog W= .ok (.int .i64 0) W:=λW p cap=>
  run_copy_none (P:=Tryd.prog) W 25 25 3 5 _ p _ _ 0 cap Tryd.underlying25 (by kernel_rfl) (by simp)
 have l5:∀W,(Instr.slice 25 (.slice (some ⟨w.heap.size,0,none⟩) 0 0) (some (.int .i64 0)) none none).run Tryd.prog W= .ok (.slice (some ⟨w.heap.size,0,none⟩) 0 0) W:=λW=>by
  have:=Lib.run_slice_tailV (P:=Tryd.prog) W 25 5 Tryd.underlying25 (λw=>Tryd.sizeOf5 w) w.heap.size 0 0 (Nat.le_refl _)
  simpa [Lib.tailV]using this
 go_enter Tryd.func26,Tryd.ntmps26
 go_wp2
 go_loopg [5,44] n (λg Qc acW wr=>w=wr/\∃i:Nat,i<=n/\g=n-i/\acW= .int .i64 i/\Qc= .int .i64 0)
 case atStart=>exact⟨rfl,0,Nat.zero_le _,rfl,rfl,rfl⟩
 case round=>
  obtain⟨rfl,i,hi,rfl,rfl,rfl⟩:=hrel
  by_cases hlt:i<n
  ·obtain⟨p,cap,l,hl,hcell,_,_⟩:=s0.out.get i (by omega)
   have hl0:=Z.out l (List.mem_of_getElem? hl)
   subst hl0
   rw[Lib.add_plain2]at hcell
   simp only[List.length_nil]at hcell
   go_wp2
   go_roundg (n-(i+1))
   case measure=>omega
   case rel=>exact⟨rfl,i+1,by omega,rfl,by go_num,rfl⟩
  ·obtain rfl:n=i:=by omega
   have i0:(0:Int)<=(cs.size:Int):=by omega
   obtain⟨p0,Md,l0,hl0,Cf,_,_⟩:=s0.out.get 0 (by omega)
   have e0:=Z.out l0 (List.mem_of_getElem? hl0)
   subst e0
   have hc0:((w.alloc (.cells cs 5)).drewN 2).cell? ⟨b,o,none⟩=some (.slice p0 0 Md):=Lib.Below.cellOf Fx (by simpa [Addr.add]using Cf) (Nat.le_refl _)
   have hr1:=w2 ((w.alloc (.cells cs 5)).drewN 2) p0 Md
   clear Cf
   go_wp2_with (at_builtin;refine Lib.wpList_copy_run _ rfl _ _ 25 25 rfl _ _ rfl rfl hr1 ?_)
   go_loopg [9,72] (n-1) (λg2 acY acX wr=>wr=(w.alloc (.cells cs 5)).drewN 2/\∃j:Nat,j<=n-1/\n-1-j<=g2/\acX= .int .i64 j/\acY= .int .i64 0)
   case atStart=>exact⟨rfl,0,Nat.zero_le _,by omega,rfl,rfl⟩
   case round=>
    obtain⟨rfl,j,hj,hg2,rfl,rfl⟩:=hrel
    by_cases tM:j<n-1
    ·have We:(j:Int)<((n-1:Nat):Int):=by omega
     obtain⟨p,cap,l,hl,hcell,_,_⟩:=s0.out.get (1+j) (by omega)
     have e1:=Z.out l (List.mem_of_getElem? hl)
     subst e1
     have hcw:((w.alloc (.cells cs 5)).drewN 2).cell? ⟨b,o+1+j,none⟩=some (.slice p 0 cap):=by
      have:=Lib.Below.cellOf Fx hcell (Nat.le_refl _)
      rwa [Lib.add_plain2,show o+(1+j)=o+1+j by omega]at this
     have hr2:=w2 ((w.alloc (.cells cs 5)).drewN 2) none 0
     have hr3:=w2 ((w.alloc (.cells cs 5)).drewN 2) p cap
     clear hcell
     go_wp2_with (at_builtin;first|refine Lib.wpList_copy_run _ rfl _ _ 25 25 rfl _ _ rfl rfl hr2 ?_|refine Lib.wpList_copy_run _ rfl _ _ 25 25 rfl _ _ rfl rfl hr3 ?_)
     go_roundg (n-1-(j+1))
     case measure=>omega
     case rel=>exact⟨rfl,j+1,by omega,Nat.le_refl _,by go_num,rfl⟩
    ·obtain rfl:j=n-1:=by omega
     have We:¬(((n-1:Nat):Int)<((n-1:Nat):Int)):=by omega
     go_wp2
     go_ret
     exact⟨rfl,⟨cs,5,(0,0),heap_alloc_new w _⟩,Fx⟩
end Go.Proofs
namespace Go.cU
open Go Go.bx Go.Proofs Go.RowKit Go.Lib
open Classical in
noncomputable def lb (v:Value) (L:List (List UInt8)):kM:=⟨λ_=>rc (jQ L.flatten),λx=>if x=v then 0 else-1⟩
theorem HU {v x:Value} {L:List (List UInt8)} (h:0<=(lb v L).gd x):x=v:=by
 by_cases e:x=v
 ·exact e
 ·simp[lb,e]at h
theorem abN {v:Value} {L:List (List UInt8)}:0<=(lb v L).gd v:=by
 simp[lb]
theorem Au {v x:Value} {L:List (List UInt8)}:ab ((lb v L).fo x)=jQ L.flatten:=eh _
theorem wq {w w':World} (h:Below w.heap.size w w'):w.Extends w':=BS (World.Extends.refl w) h.os h.tape h.output h.size h.block
theorem XH:∀(xs:List (List UInt8)),join xs []=xs.flatten
 |[]=>rfl
 |x::r=>by
  rw[join_cons]
  simp[joinTail]
theorem vn {w w':World} {l:List UInt8} {z:Int} {v:Value} {spec:List Int->List Int->Prop} (hl:l.length<=1000000000) (he:w.Extends w') (l5:na (λg=>w.heap.size<=g) w' iF (jQ l) v) (hs:∀r,ab r=jQ l->spec [z] [r]):
 w.Extends w'/\∃rs us,bd (cb [kg]) rs/\spec [z] rs/\hI (λg=>w.heap.size<=g) (λg=>w.heap.size<=g) w' [kg] rs us/\Ending.returned v= .returned (lg us):=by
 refine⟨he,[rc (jQ l)],[v],⟨eR _,rN (sh:=iF) rfl (by rw[sz];omega) (vp l),trivial⟩,hs _ (eh _),⟨?_,trivial⟩,rfl⟩
 show na _ w' iF (ab ([rc (jQ l)].getD 0 0)) v
 rw[show [rc (jQ l)].getD 0 0=rc (jQ l) from rfl,eh]
 exact l5
theorem Zx {W:World} {v:Value} {L:List (List UInt8)} (hH:rI W v L):nN W (lb v L) um:=by
 refine⟨enters (by kernel_rfl),λw x hw _ hg hp=>?_⟩
 obtain rfl:=HU hg
 have hq:(ab ((lb x L).fo x)).length<=1000000000:=hp
 rw[Au,sz]at hq
 clear hp hg
 obtain⟨p,c,rfl,h1,h2,h3⟩:=hH.ext hw
 have hs:∀r,ab r=jQ L.flatten->bY sh SB 490 [(lb (.slice p L.length c) L).fo (.slice p L.length c)] [r]:=λr hr=>by
  show ab r=ab ((lb (.slice p L.length c) L).fo (.slice p L.length c))
  rw[Au,hr]
 show Calls Tryd.prog 26 #[.slice p L.length c,.slice none 0 0] w _
 rcases h3 with rfl|⟨b,o,vs,rfl,dr⟩
 ·refine Calls.mono (Any.bytes_Join_none Tryd.sm p c (.slice none 0 0) w) ?_
  rintro e w' ⟨rfl,rfl⟩
  refine vn (l:=[]) (by simp) (wq ((Below.refl _ w).alloc (Nat.le_refl _) _)) ?_ (λr hr=>hs r (by simpa using hr))
  exact .inr ⟨w.heap.size,0,0,#[],_,(0,0),rfl,⟨Nat.le_refl _,by decide⟩,Nat.le_refl _,heap_alloc_new w _,vp [],[],[],rfl,rfl⟩
 ·match L,h1,h2,dr,hq,hs with
  |[],h1,h2,dr,hq,hs=>
   refine Calls.mono (Any.bytes_Join_none Tryd.sm (some ⟨b,o,none⟩) c (.slice none 0 0) w) ?_
   rintro e w' ⟨rfl,rfl⟩
   refine vn (l:=[]) (by simp) (wq ((Below.refl _ w).alloc (Nat.le_refl _) _)) ?_ (λr hr=>hs r (by simpa using hr))
   exact .inr ⟨w.heap.size,0,0,#[],_,(0,0),rfl,⟨Nat.le_refl _,by decide⟩,Nat.le_refl _,heap_alloc_new w _,vp [],[],[],rfl,rfl⟩
  |[l],h1,h2,dr,hq,hs=>
   obtain⟨q,cap,l',hl,hcell,hnil,r3⟩:=dr.get 0 (by simp)
   simp only[List.getElem?_cons_zero,Option.some.injEq]at hl
   subst hl
   have hcell:w.cell? ⟨b,o,none⟩=some (.slice q l.length cap):=by simpa [Addr.add]using hcell
   have fW:([l]:List (List UInt8)).flatten=l:=by simp
   rw[fW]at hq hs
   rcases Nat.eq_zero_or_pos l.length with h0|h0
   ·rw[h0]at hcell
    refine Calls.mono (Any.bytes_Join_one_empty Tryd.sm b o c q cap (.slice none 0 0) w hcell) ?_
    rintro e w' ⟨rfl,rfl⟩
    have e0:l=[]:=List.eq_nil_of_length_eq_zero h0
    exact vn (l:=l) hq (World.Extends.refl _) (.inl ⟨rfl,by rw[e0];rfl⟩) hs
   ·cases q with
    |none=>rw[hnil rfl]at h0;simp at h0
    |some a=>
     refine Calls.mono (Any.bytes_Join_one Tryd.sm b o c a cap l (.slice none 0 0) w hcell (r3 a rfl) h0 (by omega)) ?_
     rintro e w' ⟨v',rfl,hf,hb⟩
     exact vn (l:=l) hq (wq hb) (MW hb.size hf h0) hs
  |l0::l1::r,h1,h2,dr,hq,hs=>
   rcases Nat.eq_zero_or_pos (l0::l1::r).flatten.length with h0|h0
   ·refine Calls.mono (Tryd.XI b o _ c vs (l0::l1::r) w rfl (by simp) dr h1 (λl hl=>?_) h2) ?_
    ·have:=List.eq_nil_of_length_eq_zero h0
     exact List.flatten_eq_nil_iff.1 this l hl
    ·rintro e w' ⟨rfl,⟨cs,t,fz,hc⟩,hb⟩
     have e0:=List.eq_nil_of_length_eq_zero h0
     refine vn (l:=(l0::l1::r).flatten) hq (wq hb) ?_ hs
     rw[e0]
     exact .inr ⟨w.heap.size,0,0,cs,t,fz,rfl,⟨Nat.le_refl _,by decide⟩,Nat.le_refl _,hc,vp [],[],cs.toList,rfl,rfl⟩
   ·have hlen:lens (l0::l1::r)<=1000000000:=by rw[<-CQ];exact hq
    refine Calls.mono (Any.bytes_Join_many Tryd.sm b o _ c vs (l0::l1::r) (.slice none 0 0) [] w rfl (by simp) dr h1 ⟨none,0,rfl,λ_=>rfl,λa ha=>by cases ha⟩ h2 (by simp only[List.length_nil,Nat.zero_mul];omega)) ?_
    rintro e w' ⟨v',rfl,hf,hb⟩
    rw[XH]at hf
    exact vn hq (wq hb) (MW hb.size hf h0) hs
theorem Zw {W:World} {v:Value} {L:List (List UInt8)} (hH:rI W v L):nN W (lb v L) CI:=by
 refine⟨enters (by kernel_rfl),λw x hw _ hg hp=>?_⟩
 obtain rfl:=HU hg
 obtain⟨p,c,rfl,h1,h2,h3⟩:=hH.ext hw
 show Calls Tryd.prog 8 #[.slice p L.length c] w _
 refine Calls.mono (Tryd.Un p L.length c L rfl w h2 h1 h3) ?_
 rintro e w' ⟨r,rfl,rfl,hr⟩
 refine⟨World.Extends.refl _,[cond r 1 0],[.bool r],?_,?_,⟨?_,trivial⟩,rfl⟩
 ·cases r
  ·exact⟨by decide,by decide,trivial⟩
  ·exact⟨by decide,by decide,trivial⟩
 ·show(cond r 1 0:Int)=0->(ab ((lb (.slice p L.length c) L).fo (.slice p L.length c))).length<=5000
  intro h
  rw[Au,sz,CQ]
  exact hr (by cases r;rfl;simp at h)
 ·cases r<;>rfl
theorem ZA {W:World} {v:Value} {L:List (List UInt8)} (hH:rI W v L):nN W (lb v L) CJ:=by
 refine⟨enters (by kernel_rfl),λw x hw _ hg hp=>?_⟩
 obtain rfl:=HU hg
 have hq:(ab ((lb x L).fo x)).length<=1000000000:=hp
 rw[Au,sz]at hq
 clear hp hg
 obtain⟨p,c,rfl,h1,h2,h3⟩:=hH.ext hw
 show Calls Tryd.prog 9 #[.slice p L.length c] w _
 refine Calls.mono (Tryd.af0 p L.length c L rfl w h2 h1 h3 (by rw[<-CQ];exact hq) L.flatten rfl) ?_
 rintro e w' ⟨v',rfl,hb,ho⟩
 refine vn hq (wq hb) (aax ho) λr hr=>?_
 show ab r=ab ((lb (.slice p L.length c) L).fo (.slice p L.length c))
 rw[Au,hr]
end Go.cU
namespace Go.Proofs
open Go.ChangeShapes Go.WideShapes Go.RowKit Go.bx Go.Lib
variable {H:Type} {enc:TypeId×Value->H} {P:Program}
theorem aap {w:World} {base fuel:Nat} {spare:Nat->Bool} {held:Bool} {t u:TypeId} {cs:List Value} {x:DataW H×List MemPlace} (ht:P.underlying t=some (.slice u)) (hu:P.underlying u=some (.int .u8)) (hc:P.cellsOf u=1) (h:DataW.trod enc P w base spare held fuel t cs=some x):
 ∃v l,cs=[v]/\Lib.HoldsBytes w v l:=by
 rcases DataW.trod_slice ht h with⟨rfl,_⟩|⟨a,len,cap,elems,rest,n,rfl,rfl,hx,_,hlc,hcm,FZ,F0,_,_⟩
 ·exact⟨_,[],rfl,none,0,rfl,λ_=>rfl,λa ha=>by cases ha⟩
 ·have key:∀i,i<len->∃z:Int,(0<=z/\z<=255)/\w.cell? (a.add i)=some (.int .u8 z):=λi hi=>by
   have h1:=F0 i hi
   cases hy:elems[i]? with
   |none=>rw[List.getElem?_eq_none_iff]at hy;omega
   |some y=>
    rw[hy,Option.bind_eq_some_iff]at h1
    obtain⟨cs,g1,g2⟩:=h1
    obtain⟨l1,l2⟩:=Mg g1
    obtain⟨z,rfl,_,Xf⟩:=DataW.trod_int hu g2
    have hb:=afZ.1 Xf
    have:=l2 0 (by rw[hc];decide)
    rw[hc,Nat.mul_one]at this
    refine⟨z,?_,?_⟩
    ·have h1:(0:Int)<=z:=hb.1
     have h2:z<=(255:Int):=hb.2
     exact⟨h1,h2⟩
    ·have e:(a.add i).add 0=a.add i:=by unfold Addr.add;simp
     rw[e]at this
     simpa using this
  obtain⟨f,hf⟩:∃f:Nat->Int,∀i,i<len->(0<=f i/\f i<=255)/\w.cell? (a.add i)=some (.int .u8 (f i)):=by
   classical
   exact⟨λi=>if hi:i<len then Classical.choose (key i hi)else 0,λi hi=>by
    simp only[hi,dif_pos]
    exact Classical.choose_spec (key i hi)⟩
  refine⟨_,(List.range len).map λi=>UInt8.ofNat (f i).toNat,rfl,some a,cap,by simp,λh=>(by cases h),λb hb i x hx=>?_⟩
  cases hb
  rw[List.getElem?_map]at hx
  have hi:i<len:=by
   rcases Nat.lt_or_ge i len with h|h
   ·exact h
   ·rw[List.getElem?_eq_none (by simpa using h)]at hx;cases hx
  rw[List.getElem?_range hi]at hx
  simp only[Option.map_some,Option.some.injEq]at hx
  obtain⟨⟨h0,h1⟩,h2⟩:=hf i hi
  rw[h2,<-hx]
  have e:((UInt8.ofNat (f i).toNat).toNat:Int)=f i:=by
   have:(UInt8.ofNat (f i).toNat).toNat=(f i).toNat% 256:=by simp
   rw[this];omega
  rw[e]
theorem aaq {b0:Nat} {w:World} {t e u:TypeId} {v:Value} {x:DataW H} {ps:List MemPlace} (ht:P.underlying t=some (.slice e)) (he:P.underlying e=some (.slice u)) (hu:P.underlying u=some (.int .u8)) (ce:P.cellsOf e=1) (EF:P.cellsOf u=1) (be:P.bytesOf e=24) (hval:Value.okWide P w .any b0 t v) (hd:DataW.Trod enc P w 0 (λ_=>true) true t v x ps) (hw:∀m∈x.weights P t,m<=reachBytes):
 ∃L,rI w v L:=by
 obtain⟨fuel,hf⟩:=hd
 obtain⟨a,len,cap,rfl⟩:=okWide_slice ht hval
 rcases DataW.trod_slice ht hf with⟨h,_⟩|⟨ad,len',cap',elems,rest,n,rfl,h,hx,_,hlc,hcm,FZ,F0,hsp,n1⟩
 ·simp[Value.cells]at h
  obtain⟨rfl,rfl,rfl⟩:=h
  exact⟨[],none,0,rfl,Nat.le_refl _,by decide,.inl rfl⟩
 ·simp[Value.cells]at h
  obtain⟨rfl,rfl,rfl⟩:=h
  have V7:w.has P .any b0 ad e cap:=by
   unfold Value.okWide at hval
   rw[ht]at hval
   simp only[Cell.okWide,Cell.ok,ht]at hval
   exact hval.2.2
  obtain⟨_,hspot,_⟩:=V7
  obtain⟨g,o,sp⟩:=ad
  simp only at hspot
  subst hspot
  simp only[Prod.mk.injEq]at hx
  obtain⟨hx1,hx2⟩:=hx
  rw[hx1]at hw
  simp only[DataW.weights,ht,be,List.mem_cons,List.mem_append]at hw
  have Fu:=hw _ (.inl rfl)
  simp only[List.length_map,reachBytes]at Fu
  have key:∀i,i<len->∃(v:Value) (l:List UInt8),w.cell? ((⟨g,o,none⟩:Addr).add i)=some v/\Lib.HoldsBytes w v l:=λi hi=>by
   have h1:=F0 i hi
   cases hy:elems[i]? with
   |none=>rw[List.getElem?_eq_none_iff]at hy;omega
   |some y=>
    rw[hy,Option.bind_eq_some_iff]at h1
    obtain⟨cs,g1,g2⟩:=h1
    obtain⟨l1,l2⟩:=Mg g1
    obtain⟨v,l,rfl,hl⟩:=aap he hu EF g2
    have:=l2 0 (by rw[ce];decide)
    rw[ce,Nat.mul_one]at this
    have e:((⟨g,o,none⟩:Addr).add i).add 0=(⟨g,o,none⟩:Addr).add i:=by unfold Addr.add;simp
    rw[e]at this
    exact⟨v,l,by simpa using this,hl⟩
  obtain⟨f,hf⟩:∃f:Nat->Value×List UInt8,∀i,i<len->w.cell? ((⟨g,o,none⟩:Addr).add i)=some (f i).1/\Lib.HoldsBytes w (f i).1 (f i).2:=by
   classical
   exact⟨λi=>if hi:i<len then(Classical.choose (key i hi),Classical.choose (Classical.choose_spec (key i hi)))else(undef,[]),λi hi=>by
    simp only[hi,dif_pos]
    exact Classical.choose_spec (Classical.choose_spec (key i hi))⟩
  have H8:∀{α:Type} (k:Nat->α) (i:Nat) (y:α),((List.range len).map k)[i]?=some y->i<len/\y=k i:=λk i y h=>by
   rw[List.getElem?_map]at h
   have hi:i<len:=by
    rcases Nat.lt_or_ge i len with h'|h'
    ·exact h'
    ·rw[List.getElem?_eq_none (by simpa using h')]at h;cases h
   rw[List.getElem?_range hi]at h
   simp only[Option.map_some,Option.some.injEq]at h
   exact⟨hi,h.symm⟩
  refine⟨(List.range len).map λi=>(f i).2,some ⟨g,o,none⟩,cap,by simp,by simpa using hlc,by simp;omega,.inr ⟨g,o,(List.range len).map λi=>(f i).1,rfl,by simp,λi v hv=>?_,λi v l hv hl=>?_⟩⟩
  ·obtain⟨hi,rfl⟩:=H8 _ i v hv
   exact(hf i hi).1
  ·obtain⟨hi,rfl⟩:=H8 _ i v hv
   obtain⟨_,rfl⟩:=H8 _ i l hl
   exact(hf i hi).2
theorem Yz {C:Checked} {os:Os} {f:FuncId} {fn:Func} {s:ChangeSpec} {X:World->Array Value->Prop} {apart:Bool} {t tb e u:TypeId}
 (hX:∀(w w':World) (args:Array Value),w.heap=w'.heap->X w args->X w' args)
 (own:ownKnob C.prog.godebug=none) (started:os.Started) (Hz:C.prog.inits.idxOf? f=none) (hfn:C.prog.funcs[f]?=some fn)
 (witness:∃(w:World) (tape:Tape) (i:Input),w.os=os/\(w.forCall tape i).Shaped C.prog/\i.vars=[]/\Input.okWide C.prog (w.forCall tape i) .any w.heap.size f i/\
   ((s.pre enc C.prog fn [] apart (w.forCall tape i).memory i.args/\X (w.forCall tape i).memory i.args)/\sizedMet enc C.prog fn (OpenSpec.ofChange s) apart (w.forCall tape i).memory i.args)/\({}:Assume).holds C.prog (lone (Frame.enter C.prog f i.args .normal) [] (w.forCall tape i)))
 (hp:fn.params.toList=[t]) (hr:fn.resultTypes.toList=[tb]) (hr1:fn.resultTypes.size=1) (W2:C.prog.underlying tb=some .bool) (ht:C.prog.underlying t=some (.slice e)) (he:C.prog.underlying e=some (.slice u)) (hu:C.prog.underlying u=some (.int .u8)) (ce:C.prog.cellsOf e=1) (EF:C.prog.cellsOf u=1) (be:C.prog.bytesOf e=24)
 (oJ:laidOutB C.prog=true) (oL:(C.prog.readableRec t&&decide (t<C.prog.types.size))=true) (GK:s.vars=[])
 (hs:∀x:DataW H,s.fn H [x]={results:=[.lit (.bool true)],args:=[x],vars:=[]})
 (contract:∀(W:World) (v:Value) (L:List (List UInt8)),rI W v L->X W #[v]->W.ShapedOpen C.prog->Calls C.prog f #[v] W λe W'=>e= .returned (.bool true)/\W.Extends W'):
 ReturnsInHanded {} C os f .any (λw args=>(s.pre enc C.prog fn [] apart w args/\X w args)/\sizedMet enc C.prog fn (OpenSpec.ofChange s) apart w args) (s.post enc C.prog fn apart true false false):=by
 refine SQ hX own started Hz hfn witness ?_
 intro W base args xs gs before Xa hW hsz hx jJ
 have qI:=hW
 have hlt:=hW.lt
 obtain⟨p,q,hA,hV,rfl,F3,ahS⟩:=hW
 rw[hp]at hA
 rw[GK]at hV
 obtain⟨rfl,rfl⟩:gs=[]/\q=[]:=by
  cases gs with
  |nil=>exact⟨rfl,hV⟩
  |cons g r=>exact absurd hV (by intro h;cases h)
 have e0:(fn.params.toList++s.plain.varTypes C.prog)=[t]:=by rw[hp];simp[DataSpec.varTypes,ChangeSpec.plain,GK]
 rw[e0,List.append_nil,List.all_eq_true]at hsz
 have kU:args=args.toList.toArray:=by simp
 have hval:∀(j:Nat) t' v,[t][j]?=some t'->args.toList[j]?=some v->Value.okWide C.prog W .any base t' v:=λj t' v h1 h2=>Xa j t' v (by rw[<-hp]at h1;simpa using h1) (by simpa using h2)
 rw[kU]at hx⊢
 generalize args.toList=al at*
 match al,xs,hA,hval,hx,hsz,qI with
 |[v],[x],hA,hval,hx,hsz,qI=>
  have pt:=hA
  obtain⟨p1,q1,h1,h2,ahV⟩:=pt
  have hw:∀m∈x.weights C.prog t,m<=reachBytes:=λm hm=>by
   have:=hsz m (by simp only[DataW.weightsEach,List.mem_append];exact .inl hm)
   simpa using this
  obtain⟨L,hL⟩:=aaq ht he hu ce EF be (hval 0 t v rfl rfl) h1 hw
  have Cd:=contract W v L hL hx jJ
  refine Cd.mono λe W' ⟨VQ,hw'⟩=>?_
  subst VQ
  have zx:=hs x
  have VB:Below W.heap.size W W':=⟨hw'.os,hw'.tape,hw'.output,hw'.size,λi hi=>hw'.block i hi⟩
  refine⟨_,rfl,_,_,_,[],p,[],qI,?_,?_,?_,X1 hw' _,λh=>by cases h⟩
  ·rw[List.append_nil,zx,hr,hr1];exact trodAll_mk1 (shut_bool W2 true)
  ·rw[List.append_nil,zx,hp]
   exact QC oJ VB (λt' iR=>by
    rw[List.mem_singleton]at iR
    subst iR
    simpa using oL) hA λx hx=>hlt x (by simp[hx])
  ·rw[List.append_nil,zx,GK];rfl
 |[],[],hA,hval,hx,hsz,qI=>exact hA.elim
 |[],_::_,hA,hval,hx,hsz,qI=>exact hA.elim
 |_::_,[],hA,hval,hx,hsz,qI=>exact hA.elim
 |[_],_::_::_,hA,hval,hx,hsz,qI=>obtain⟨_,_,_,h,_⟩:=hA;exact h.elim
 |_::_::_,[_],hA,hval,hx,hsz,qI=>obtain⟨_,_,_,h,_⟩:=hA;exact h.elim
 |_::_::_,_::_::_,hA,hval,hx,hsz,qI=>obtain⟨_,_,_,h,_⟩:=hA;exact h.elim
end Go.Proofs
namespace Go.Proofs.YtkedgkbkibncgaaDoor
open Go Go.bx Go.cU Go.ChangeShapes Go.RowKit
theorem own:ownKnob Tryd.prog.godebug=none:=by kernel_rfl
theorem YH:laidOutB Tryd.prog=true:=by kernel_rfl
def laid:List (String×DataW Unit):=[("vouchsafe/vouchsaferef07.roots",Rows.laid_vouchsafe_vouchsaferef07_roots),("vouchsafe/vouchsaferef07.begins",Rows.laid_vouchsafe_vouchsaferef07_begins),("vouchsafe/sha.roots",Rows.laid_vouchsafe_sha_roots),("vouchsafe/sha.begins",Rows.laid_vouchsafe_sha_begins)]
theorem MX:Tryd.prog.globalNamed "vouchsafe/vouchsaferef07.roots" =some 3:=by kernel_rfl
theorem adC:(Tryd.prog.globals[3]?).map (·.type)=some 42:=by kernel_rfl
theorem ad1:Tryd.prog.underlying 42=some (.array 80 41):=by kernel_rfl
theorem S9:Tryd.prog.underlying 41=some (.int .u64):=by kernel_rfl
theorem SI:Tryd.prog.cellsOf 41=1:=by kernel_rfl
theorem SA:Tryd.prog.cellsOf 42=80:=by kernel_rfl
theorem Yt:(Rows.laid_vouchsafe_vouchsaferef07_roots:DataW Unit)= .agg (mh.map λz=> .lit (.int .u64 z)):=by kernel_rfl
theorem MY:Tryd.prog.globalNamed "vouchsafe/vouchsaferef07.begins" =some 2:=by kernel_rfl
theorem adD:(Tryd.prog.globals[2]?).map (·.type)=some 50:=by kernel_rfl
theorem ad2:Tryd.prog.underlying 50=some (.array 8 41):=by kernel_rfl
theorem Ta:Tryd.prog.underlying 41=some (.int .u64):=by kernel_rfl
theorem SJ:Tryd.prog.cellsOf 41=1:=by kernel_rfl
theorem SC:Tryd.prog.cellsOf 50=8:=by kernel_rfl
theorem Yu:(Rows.laid_vouchsafe_vouchsaferef07_begins:DataW Unit)= .agg (ta.map λz=> .lit (.int .u64 z)):=by kernel_rfl
theorem MZ:Tryd.prog.globalNamed "vouchsafe/sha.roots" =some 0:=by kernel_rfl
theorem adE:(Tryd.prog.globals[0]?).map (·.type)=some 42:=by kernel_rfl
theorem ad3:Tryd.prog.underlying 42=some (.array 80 41):=by kernel_rfl
theorem Tb:Tryd.prog.underlying 41=some (.int .u64):=by kernel_rfl
theorem SK:Tryd.prog.cellsOf 41=1:=by kernel_rfl
theorem SD:Tryd.prog.cellsOf 42=80:=by kernel_rfl
theorem Yv:(Rows.laid_vouchsafe_sha_roots:DataW Unit)= .agg (mh.map λz=> .lit (.int .u64 z)):=by kernel_rfl
theorem M0:Tryd.prog.globalNamed "vouchsafe/sha.begins" =some 1:=by kernel_rfl
theorem adF:(Tryd.prog.globals[1]?).map (·.type)=some 50:=by kernel_rfl
theorem ad4:Tryd.prog.underlying 50=some (.array 8 41):=by kernel_rfl
theorem Tc:Tryd.prog.underlying 41=some (.int .u64):=by kernel_rfl
theorem SL:Tryd.prog.cellsOf 41=1:=by kernel_rfl
theorem SE:Tryd.prog.cellsOf 50=8:=by kernel_rfl
theorem Yw:(Rows.laid_vouchsafe_sha_begins:DataW Unit)= .agg (ta.map λz=> .lit (.int .u64 z)):=by kernel_rfl
theorem M6 {W:World} (h:laidMetH Tryd.prog laid W):bB a7 ⟨W,W,λ_=>False,λ_=>False,[]⟩:=by
 rw[MakeChecks.laidMetH_plain _ _ _ (by kernel_rfl)]at h
 obtain⟨ps,⟨a0,b0,agn,f0,p0,gD,zy,GD,j9,NL,⟨bh,bo,ago,f1,p1,q1,qO,WZ,l7,tG,⟨a2,cj,agp,f2,aS,aP,hg2,zZ,hT,oA,⟨a3,dU,agq,f3,bR,bA,tJ,W0,W9,NM,_,_⟩,_⟩,_⟩,_⟩,_,_⟩:=h
 obtain rfl:=Option.some.inj (MX.symm.trans zy)
 obtain rfl:=Option.some.inj (adC.symm.trans GD)
 rw[Yt]at NL
 have jb:=B1 (zs:=mh) MX ad1 S9 SI SA j9 NL
 obtain rfl:=Option.some.inj (MY.symm.trans qO)
 obtain rfl:=Option.some.inj (adD.symm.trans WZ)
 rw[Yu]at tG
 have b8:=B1 (zs:=ta) MY ad2 Ta SJ SC l7 tG
 obtain rfl:=Option.some.inj (MZ.symm.trans hg2)
 obtain rfl:=Option.some.inj (adE.symm.trans zZ)
 rw[Yv]at oA
 have cO:=B1 (zs:=mh) MZ ad3 Tb SK SD hT oA
 obtain rfl:=Option.some.inj (M0.symm.trans tJ)
 obtain rfl:=Option.some.inj (adF.symm.trans W0)
 rw[Yw]at NM
 have ev:=B1 (zs:=ta) M0 ad4 Tc SL SE W9 NM
 intro g cs hm
 simp only[a7,List.mem_cons,Prod.mk.injEq,List.not_mem_nil,or_false]at hm
 rcases hm with⟨rfl,rfl⟩|⟨rfl,rfl⟩|⟨rfl,rfl⟩|⟨rfl,rfl⟩
 ·rw[List.map_map];exact cO
 ·rw[List.map_map];exact ev
 ·rw[List.map_map];exact b8
 ·rw[List.map_map];exact jb
theorem Yx:(laid.filter λx=>x.2.handleName?.isNone)=laid:=by kernel_rfl
theorem S1 (os:Os) (args:Array Value):laidMetH Tryd.prog laid ((World.laidAll Tryd.prog os laid).forCall (λ_ _=>0) ⟨#[],args,[]⟩).memory:=
 laidMetH_of_parts3 (fuel:=8) (by rw[Yx];exact laidMet_laidAll args (by kernel_rfl) (by kernel_rfl)) (by kernel_rfl) (by kernel_rfl)
theorem aal {id:Nat} (hid:id=495) (a:List (List Int)) (z:Int) (h:SB id a [[z]]):z=1:=by
 subst hid
 all_goals
  match a,h with
  |[],h=>first|exact h|exact h.elim
  |[_],h=>first|exact h|exact h.elim
  |[_,_],h=>first|exact h|exact h.elim
  |[_,_,_],h=>first|exact h|exact h.elim
  |_::_::_::_::_,h=>exact h.elim
structure Q9 (W:World):Prop where
 D2:gH W qZ
 Du:gH W n6
 Bm:rM W o3
 HY:gH W q0
 Dv:gH W n7
 Bn:rM W o4
 HZ:gH W q2
theorem R3 {W:World} (h:W.ShapedOpen Tryd.prog) (hL:laidMetH Tryd.prog laid W):Q9 W:=by
 have hg:=M6 hL
 have Qr:=aag hg
 have TD:=Zm hg
 have TP:=Zo hg
 have T1:=Zq hg
 have Ud:=Zs hg
 have TE:=Zn hg
 have TQ:=Zp hg
 have T2:=Zr hg
 have Ue:=Zt hg
 have Du:=aah hg Qr
 have Dv:=aai hg Qr
 have adb:rL W Aq:=join_one (p:=Aq) rfl rfl rfl rfl rfl (λz r h0 h1 h=>h) (enters (by kernel_rfl))
 have ade:rL W Ar:=join_one (p:=Ar) rfl rfl rfl rfl rfl (λz r h0 h1 h=>h) (enters (by kernel_rfl))
 have Ul:=Zu hg
 have Um:=Zv hg
 have SV:=Zk hg
 have SW:=Zl hg
 have Bm:=Zi hg Ul TD TP T1 Ud SV
 have Bn:=Zj hg Um TE TQ T2 Ue SW
 have adA:=aaj hg Du adb Bm
 have adB:=aak hg Dv ade Bn
 have ac8:=aaf hg
 have D2:=Zh hg ac8 adA adB
 have P4:=ZO hg
 have nD:=ZF hg
 have acx:=ZR hg nD
 have acD:=ZZ hg nD
 have acE:=Z1 hg nD
 have acF:=Z2 hg nD
 have acu:=ZS hg nD
 have acv:=ZT hg nD
 have acw:=ZU hg nD
 have acy:=ZV hg nD
 have acz:=ZW hg nD
 have acA:=ZX hg nD
 have acB:=ZY hg nD
 have acC:=Z0 hg nD
 have ab4:=ZG hg acy acz acA
 have ab5:=ZH hg acu acv acB
 have ab6:=ZI hg acx acF acE
 have ab7:=ZJ hg acw acC acD
 have acs:=ZQ hg ab4 ab5 ab6 ab7 P4 nD
 have HZ:=ZD hg acs
 have ld:=ZE hg
 have acO:=Z9 hg ld
 have acP:=aac hg ld
 have acQ:=aad hg ld
 have acR:=aae hg ld
 have acG:=Z3 hg ld
 have acH:=Z4 hg ld
 have acI:=Z5 hg ld
 have acJ:=Z6 hg ld
 have acK:=Z7 hg ld
 have acL:=Z8 hg ld
 have acM:=aaa hg ld
 have acN:=aab hg ld
 have ab8:=ZK hg acO acI acM ld
 have ab9:=ZL hg acQ acH acN ld
 have aca:=ZM hg acR acK acP ld
 have acb:=ZN hg acJ acL acG ld
 have acr:=ZP hg ab8 ab9 aca acb P4 ld
 have HY:=ZC hg acr
 exact⟨D2,Du,Bm,HY,Dv,Bn,HZ⟩
end Go.Proofs.YtkedgkbkibncgaaDoor
