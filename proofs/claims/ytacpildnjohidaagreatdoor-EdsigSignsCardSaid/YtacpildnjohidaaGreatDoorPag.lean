/- Pag: a part of the proof of statements of this seat. -/
import Derived.Test.YtacpildnjohidaaGreatDoorPae
import Derived.Test.YtacpildnjohidaaGreatDoorProg
import Derived.KernelRfl
set_option maxRecDepth 100000
namespace Go.dg
open Go Go.bX Go.Proofs
theorem aTZ (S K):iL sh aIo S K [1] (c7 LJ.args) LJ.res (LJ.tree (gJ []) Tryz.prog cE (cS [QS,QT,QU,QV] [FV,lv]) aH8 600 6)=aj3 S K:=by kernel_rfl
end Go.dg
namespace Go.dg
open Go Go.bX Go.Proofs
theorem aTY (S K):iL sh aIn S K [1] (c7 LI.args) LI.res (LI.tree (gJ []) Tryz.prog cE (cS [QW,QX,QY,QZ] [FV,jt]) aH7 600 6)=aj2 S K:=by kernel_rfl
end Go.dg
namespace Go.dg
open Go Go.bX Go.Proofs
theorem aTv:uZ Tryz.prog cE lv (cS [] []) bB cf [1] ajS:=λ_ _=>by kernel_rfl
theorem aT0 (S K):cZ sh cf S K [1,1] (aX P1.args) P1.res (Q0.tree Tryz.prog cE (cS [] [lv]) bB 600 6)=aj4 S K:=by kernel_rfl
theorem aT8 (S K):cZ sh cf S K [1,1] (aX P9.args) P9.res (Q8.tree Tryz.prog cE (cS [] [lv]) bB 600 6)=akc S K:=by kernel_rfl
theorem aUa (S K):cZ sh cf S K [1,1] (aX Qb.args) Qb.res (Ra.tree Tryz.prog cE (cS [] [lv]) bB 600 6)=ake S K:=by kernel_rfl
theorem aUb (S K):cZ sh cf S K [1,1] (aX Qc.args) Qc.res (Rb.tree Tryz.prog cE (cS [] [lv]) bB 600 6)=akf S K:=by kernel_rfl
theorem aT1 (S K):cZ sh cf S K [1,1] (aX P2.args) P2.res (Q1.tree Tryz.prog cE (cS [] [lv]) bB 600 6)=aj5 S K:=by kernel_rfl
theorem aT2 (S K):cZ sh cf S K [1,1] (aX P3.args) P3.res (Q2.tree Tryz.prog cE (cS [] [lv]) bB 600 6)=aj6 S K:=by kernel_rfl
theorem aT3 (S K):cZ sh cf S K [1,1] (aX P4.args) P4.res (Q3.tree Tryz.prog cE (cS [] [lv]) bB 600 6)=aj7 S K:=by kernel_rfl
theorem aT4 (S K):cZ sh cf S K [1,1] (aX P5.args) P5.res (Q4.tree Tryz.prog cE (cS [] [lv]) bB 600 6)=aj8 S K:=by kernel_rfl
theorem aT5 (S K):cZ sh cf S K [1,1] (aX P6.args) P6.res (Q5.tree Tryz.prog cE (cS [] [lv]) bB 600 6)=aj9 S K:=by kernel_rfl
theorem aT6 (S K):cZ sh cf S K [1,1] (aX P7.args) P7.res (Q6.tree Tryz.prog cE (cS [] [lv]) bB 600 6)=aka S K:=by kernel_rfl
theorem aT7 (S K):cZ sh cf S K [1,1] (aX P8.args) P8.res (Q7.tree Tryz.prog cE (cS [] [lv]) bB 600 6)=akb S K:=by kernel_rfl
theorem aT9 (S K):cZ sh cf S K [1,1] (aX Qa.args) Qa.res (Q9.tree Tryz.prog cE (cS [] [lv]) bB 600 6)=akd S K:=by kernel_rfl
theorem aTI (S K):cZ sh cf S K [1,3,1] (aX PT.args) PT.res (QS.tree Tryz.prog cE (cS [Q4,Q5,Q6] []) bB 600 6)=ajT S K:=by kernel_rfl
theorem aTJ (S K):cZ sh cf S K [1,3,1] (aX PU.args) PU.res (QT.tree Tryz.prog cE (cS [Q1,Q2,Q7] []) bB 600 6)=ajU S K:=by kernel_rfl
theorem aTK (S K):cZ sh cf S K [1,3,1] (aX PV.args) PV.res (QU.tree Tryz.prog cE (cS [Q0,Rb,Ra] []) bB 600 6)=ajV S K:=by kernel_rfl
theorem aTL (S K):cZ sh cf S K [1,3,1] (aX PW.args) PW.res (QV.tree Tryz.prog cE (cS [Q3,Q9,Q8] []) bB 600 6)=ajW S K:=by kernel_rfl
theorem aTn (S K):iL sh cf S K [1] (c7 FU.args) FU.res (FU.tree (gJ [LJ]) Tryz.prog cE (cS [] []) bB 600 6)=ajQ S K:=by kernel_rfl
theorem aSU (S K):iL sh cf S K [4,4] (c7 FR.args) FR.res (FR.tree (gJ []) Tryz.prog cE (cS [] [PR,PO,PQ,PN]) bB 600 6)=ajE S K:=by kernel_rfl
theorem aSO (S K):iL sh aIk S K [1] (c7 FQ.args) FQ.res (FQ.tree (gJ [FR]) Tryz.prog cE (cS [] []) aH4 600 6)=ajz S K:=by kernel_rfl
theorem aSS (S K):iL sh cf S K [64] (c7 LD.args) LD.res (LD.tree (gJ [FQ]) Tryz.prog cE (cS [] [IJ]) bB 600 6)=ajC S K:=by kernel_rfl
theorem aTQ (S K):iL sh cf S K [1,1,1] (c7 LH.args) LH.res (LH.tree (gJ [FU,LD]) Tryz.prog cE (cS [] []) bB 600 6)=aj1 S K:=by kernel_rfl
theorem aTu:uZ Tryz.prog cE jt (cS [] []) bB cf [1] ajR:=λ_ _=>by kernel_rfl
theorem aUj (S K):cZ sh cf S K [1,1] (aX Qj.args) Qj.res (Ri.tree Tryz.prog cE (cS [] [jt]) bB 600 6)=akm S K:=by kernel_rfl
theorem aUm (S K):cZ sh cf S K [1,1] (aX Qm.args) Qm.res (Rl.tree Tryz.prog cE (cS [] [jt]) bB 600 6)=akp S K:=by kernel_rfl
theorem aUn (S K):cZ sh cf S K [1,1] (aX Qn.args) Qn.res (Rm.tree Tryz.prog cE (cS [] [jt]) bB 600 6)=akq S K:=by kernel_rfl
theorem aUo (S K):cZ sh cf S K [1,1] (aX Qo.args) Qo.res (Rn.tree Tryz.prog cE (cS [] [jt]) bB 600 6)=akr S K:=by kernel_rfl
theorem aUd (S K):cZ sh cf S K [1,1] (aX Qd.args) Qd.res (Rc.tree Tryz.prog cE (cS [] [jt]) bB 600 6)=akg S K:=by kernel_rfl
theorem aUe (S K):cZ sh cf S K [1,1] (aX Qe.args) Qe.res (Rd.tree Tryz.prog cE (cS [] [jt]) bB 600 6)=akh S K:=by kernel_rfl
theorem aUf (S K):cZ sh cf S K [1,1] (aX Qf.args) Qf.res (Re.tree Tryz.prog cE (cS [] [jt]) bB 600 6)=aki S K:=by kernel_rfl
theorem aUg (S K):cZ sh cf S K [1,1] (aX Qg.args) Qg.res (Rf.tree Tryz.prog cE (cS [] [jt]) bB 600 6)=akj S K:=by kernel_rfl
theorem aUh (S K):cZ sh cf S K [1,1] (aX Qh.args) Qh.res (Rg.tree Tryz.prog cE (cS [] [jt]) bB 600 6)=akk S K:=by kernel_rfl
theorem aUi (S K):cZ sh cf S K [1,1] (aX Qi.args) Qi.res (Rh.tree Tryz.prog cE (cS [] [jt]) bB 600 6)=akl S K:=by kernel_rfl
theorem aUk (S K):cZ sh cf S K [1,1] (aX Qk.args) Qk.res (Rj.tree Tryz.prog cE (cS [] [jt]) bB 600 6)=akn S K:=by kernel_rfl
theorem aUl (S K):cZ sh cf S K [1,1] (aX Ql.args) Ql.res (Rk.tree Tryz.prog cE (cS [] [jt]) bB 600 6)=ako S K:=by kernel_rfl
theorem aTM (S K):cZ sh cf S K [1,3,1] (aX PX.args) PX.res (QW.tree Tryz.prog cE (cS [Ri,Re,Rj] [jt]) bB 600 6)=ajX S K:=by kernel_rfl
theorem aTN (S K):cZ sh cf S K [1,3,1] (aX PY.args) PY.res (QX.tree Tryz.prog cE (cS [Rm,Rd,Rk] [jt]) bB 600 6)=ajY S K:=by kernel_rfl
theorem aTO (S K):cZ sh cf S K [1,3,1] (aX PZ.args) PZ.res (QY.tree Tryz.prog cE (cS [Rn,Rg,Rl] [jt]) bB 600 6)=ajZ S K:=by kernel_rfl
theorem aTP (S K):cZ sh cf S K [1,3,1] (aX P0.args) P0.res (QZ.tree Tryz.prog cE (cS [Rf,Rh,Rc] [jt]) bB 600 6)=aj0 S K:=by kernel_rfl
theorem aTm (S K):iL sh cf S K [1] (c7 LG.args) LG.res (LG.tree (gJ [LI]) Tryz.prog cE (cS [] []) bB 600 6)=ajP S K:=by kernel_rfl
end Go.dg
namespace Go.dg
open Go Go.bX Go.Proofs
theorem aSM (S K):iL sh cf S K [32] (c7 LB.args) LB.res (LB.tree (gJ []) Tryz.prog cE (cS [] []) bB 600 6)=ajx S K:=by kernel_rfl
theorem aSN (S K):iL sh cf S K [32] (c7 FP.args) FP.res (FP.tree (gJ [FU,LB]) Tryz.prog cE (cS [] []) bB 600 6)=ajy S K:=by kernel_rfl
theorem aSR (S K):iL sh cf S K [32] (c7 IK.args) IK.res (IK.tree (gJ [FP]) Tryz.prog cE (cS [] [II]) bB 600 6)=ajB S K:=by kernel_rfl
theorem aSP (S K):iL sh aIl S K [32,32,32] (c7 LC.args) LC.res (LC.tree (gJ [FQ,FR]) Tryz.prog cE (cS [] [IJ]) aH5 600 6)=ajA S K:=by kernel_rfl
theorem aST (S K):iL sh aIm S K [32,1] (c7 IL.args) IL.res (IL.tree (gJ [FP,LH,LC]) Tryz.prog cE (cS [] [II]) aH6 600 6)=ajD S K:=by kernel_rfl
theorem aSX (S K):iL sh cf S K [1] (c7 IN.args) IN.res (IN.tree (pd [L2] (gJ [])) Tryz.prog cE (cS [] []) bB 600 6)=ajH S K:=by kernel_rfl
theorem aSL (S K):iL sh cf S K [1] (c7 IH.args) IH.res (IH.tree (gJ [LG]) Tryz.prog cE (cS [] []) bB 600 6)=ajw S K:=by kernel_rfl
theorem aSZ (S K):iL sh cf S K [32,1,1] (c7 PS.args) PS.res (PS.tree (gJ [IM,DD,DE,IN,IK,IL,IH]) Tryz.prog cE (cS [] []) bB 600 6)=ajJ S K:=by kernel_rfl
end Go.dg
