/- Paf: a part of the proof of statements of this seat. -/
import Derived.Test.YtacpildnjohidaaGreatDoorPad
import Derived.Test.YtacpildnjohidaaGreatDoorPae
import Derived.Test.YtacpildnjohidaaGreatDoorProg
import Derived.KernelRfl
set_option maxRecDepth 100000
namespace Go.dg
open Go Go.bX Go.Proofs
theorem aS3:uZ Tryz.prog cE DG (cS [] []) bB cf [1] YX:=λ_ _=>by kernel_rfl
theorem aS5:uZ Tryz.prog cE DI (cS [] []) bB cf [1] YZ:=λ_ _=>by kernel_rfl
theorem aS7:uZ Tryz.prog cE DK (cS [] []) bB cf [1] Y1:=λ_ _=>by kernel_rfl
theorem aS9:uZ Tryz.prog cE DM (cS [] []) bB cf [1] Y3:=λ_ _=>by kernel_rfl
theorem aS4:uZ Tryz.prog cE DH (cS [] []) bB cf [1] YY:=λ_ _=>by kernel_rfl
theorem aS6:uZ Tryz.prog cE DJ (cS [] []) bB cf [1] Y0:=λ_ _=>by kernel_rfl
theorem aS8:uZ Tryz.prog cE DL (cS [] []) bB cf [1] Y2:=λ_ _=>by kernel_rfl
theorem aTa:uZ Tryz.prog cE DN (cS [] []) bB cf [1] Y4:=λ_ _=>by kernel_rfl
theorem aSE (S K):iL sh cf S K [1] (c7 IF.args) IF.res (IF.tree (gJ []) Tryz.prog cE (cS [] []) bB 600 6)=YN S K:=by kernel_rfl
theorem aSF (S K):iL sh cf S K [1] (c7 IG.args) IG.res (IG.tree (gJ []) Tryz.prog cE (cS [] []) bB 600 6)=YO S K:=by kernel_rfl
theorem aUt:uZ Tryz.prog cE FW (cS [] []) bB cf [1,1] ZG:=λ_ _=>by kernel_rfl
theorem aTb:uZ Tryz.prog cE DO (cS [] []) bB cf [1] ajL:=λ_ _=>by kernel_rfl
theorem aTc:uZ Tryz.prog cE DP (cS [] []) bB cf [1] ajM:=λ_ _=>by kernel_rfl
theorem aUx (S K):iL sh cf S K [1] (c7 Vm.args) Vm.res (L2.tree (AD [Jk] (pd [QL] (gJ [IQ]))) Tryz.prog cE (cS [] []) bB 600 6)=aku S K:=by kernel_rfl
theorem aUy (S K):iL sh cf S K [1] (c7 Vn.args) Vn.res (Gb.tree (AD [xv] (pd [QM] (gJ [xl]))) Tryz.prog cE (cS [] []) bB 600 6)=akv S K:=by kernel_rfl
theorem aUu (S K):iL sh aIq S K [1] (c7 IQ.args) IQ.res (IQ.tree (gJ []) Tryz.prog cE (cS [] [FW]) aH9 600 6)=aks S K:=by kernel_rfl
theorem aUv (S K):iL sh aIr S K [1] (c7 xl.args) xl.res (xl.tree (gJ []) Tryz.prog cE (cS [] [FW]) aIa 600 6)=akt S K:=by kernel_rfl
theorem aTT:uZ Tryz.prog cE FV (cS [] []) bB cf [1,1] Zw:=λ_ _=>by kernel_rfl
end Go.dg
namespace Go.dg
open Go Go.bX Go.Proofs
theorem aSy (S K):iL sh arG S K [1] (c7 Vh.args) Vh.res (xv.tree (Kk Tryz.prog cE (cS [] [DP,DH,DJ,DL,DN]) (Fc (gJ [IG]) Tryz.prog cE (cS [] [DP,DH,DJ,DL,DN]) VU 600 6) VU 600 [(1,0,0,0xffffffffffffffff),(1,1,0,0xffffffffffffffff),(1,2,0,0xffffffffffffffff),(1,3,0,0xffffffffffffffff),(1,4,0,0xffffffffffffffff),(1,5,0,0xffffffffffffffff),(1,6,0,0xffffffffffffffff),(1,7,0,0xffffffffffffffff)] 126))=YH S K:=by kernel_rfl
end Go.dg
namespace Go.dg
open Go Go.bX Go.Proofs
theorem aSx (S K):iL sh arF S K [1] (c7 Vg.args) Vg.res (Jk.tree (Kk Tryz.prog cE (cS [] [DO,DG,DI,DK,DM]) (Fc (gJ [IF]) Tryz.prog cE (cS [] [DO,DG,DI,DK,DM]) VT 600 6) VT 600 [(1,0,0,4294967295),(1,1,0,4294967295),(1,2,0,4294967295),(1,3,0,4294967295),(1,4,0,4294967295),(1,5,0,4294967295),(1,6,0,4294967295),(1,7,0,4294967295)] 126))=YG S K:=by kernel_rfl
end Go.dg
namespace Go.dg
open Go Go.bX Go.Proofs
theorem aUr (S K):iL sh cf S K [1,1] (c7 Vk.args) Vk.res (I1.tree (gJ []) Tryz.prog cE (cS [] []) bB 600 6)=ZE S K:=by kernel_rfl
theorem aUs (S K):iL sh cf S K [1,1,1] (c7 Vl.args) Vl.res (I2.tree (gJ []) Tryz.prog cE (cS [] []) bB 600 6)=ZF S K:=by kernel_rfl
theorem aUz (S K):iL sh cf S K [1,1] (c7 Vo.args) Vo.res (I3.tree (AD [xv] (pd [I1] (gJ [xl]))) Tryz.prog cE (cS [] []) bB 600 6)=ZI S K:=by kernel_rfl
theorem aUA (S K):iL sh cf S K [1,1,1] (c7 Vp.args) Vp.res (I4.tree (AD [xv] (pd [I2] (gJ [xl]))) Tryz.prog cE (cS [] []) bB 600 6)=ZJ S K:=by kernel_rfl
end Go.dg
namespace Go.dg
open Go Go.bX Go.Proofs
theorem aSV (S K):iL sh cf S K [] (c7 IM.args) IM.res (IM.tree (gJ [DD,DE,LF]) Tryz.prog cE (cS [] []) bB 600 6)=ajF S K:=by kernel_rfl
theorem aTi (S K):iL sh cf S K [1,1] (c7 Vi.args) Vi.res (L1.tree (pd [I3] (gJ [])) Tryz.prog cE (cS [] [DT]) bB 600 6)=ajN S K:=by kernel_rfl
theorem aTj (S K):iL sh cf S K [1,1,1] (c7 Vj.args) Vj.res (Ga.tree (pd [I4] (gJ [])) Tryz.prog cE (cS [] [DT]) bB 600 6)=ajO S K:=by kernel_rfl
theorem aSW (S K):iL sh cf S K [32] (c7 DD.args) DD.res (DD.tree (pd [Gb] (gJ [])) Tryz.prog cE (cS [] [IP,IS]) bB 600 6)=ajG S K:=by kernel_rfl
theorem aSY (S K):iL sh cf S K [32,1] (c7 DE.args) DE.res (DE.tree (pd [Gb,L1,Ga] (gJ [])) Tryz.prog cE (cS [] [IP,IS,Qp]) bB 600 6)=ajI S K:=by kernel_rfl
theorem aS0 (S K):iL sh cf S K [32,1,64] (c7 LF.args) LF.res (LF.tree (pd [Ga] (gJ [])) Tryz.prog cE (cS [] [Qq,Qs,Qr]) bB 600 6)=ajK S K:=by kernel_rfl
end Go.dg
