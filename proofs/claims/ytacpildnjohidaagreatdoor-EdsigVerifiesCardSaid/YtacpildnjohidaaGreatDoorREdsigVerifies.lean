/- EdsigVerifies: for every input the law returns true,and each argument reads behind the call as it read before; the listed variables are tied to the program's text. -/
import Derived.Test.YtacpildnjohidaaGreatDoorPah
set_option maxRecDepth 100000
namespace Go.Proofs.YtacpildnjohidaaGreatDoor
open Go Go.bX Go.eF Go.ChangeShapes Go.RowKit
theorem awC (os:Os) (started:os.Started) (H:Type) (enc:TypeId×Value->H):
 ReturnsInHanded {} Tryz.checked os 3 .any (λw args=>(Rows.edsigVerifiesSpec.pre enc Tryz.prog Tryz.f3 [] false w args/\laidMetH Tryz.prog laid w)/\sizedMet enc Tryz.prog Tryz.f3 (OpenSpec.ofChange Rows.edsigVerifiesSpec) false w args)
  (Rows.edsigVerifiesSpec.post enc Tryz.prog Tryz.f3 false true false false):=
 aCw (C:=Tryz.checked) (X:=λw _=>laidMetH Tryz.prog laid w) (ts:=[22,23,24]) (tb:=4) (bs:=[.d (.agg .u8 32 0 255),.rd [.int .u8 0 255],.d (.agg .u8 64 0 255)]) (λ_ _ _ ae h=>h.of_heap ae) own started (by kernel_rfl) Tryz.func3
  (ChangeSpec.witness_shaped (enc:=enc) (C:=Tryz.checked) (os:=os) (X:=λw _=>laidMetH Tryz.prog laid w) false (World.laidAll Tryz.prog os laid) #[(.agg (Array.replicate 32 (.int .u8 0))),.slice none 0 0,(.agg (Array.replicate 64 (.int .u8 0)))] 8 (World.laidAll_os _ _ _) (World.shaped_of_ZipB (by kernel_rfl) (by kernel_rfl)) (by kernel_rfl) (by kernel_rfl) (by kernel_rfl) (av5 os _))
  (by rw[Tryz.params3]) (by kernel_rfl) (by kernel_rfl) Tryz.underlying4 ⟨aLN,⟨aLP,⟨aLO,trivial⟩⟩⟩ aCN (by kernel_rfl) rfl
  (λxs h=>by match xs,h with|[dw,ah,ag],_=>rfl)
  (λW zs vs hz hat bZ ny=>by
    have A:=wG ny bZ
    exact aCv (sh:=sh) (SB:=SB) (c:=Oj) (aD8 (hg:=akT bZ) (h_edAlive:=A.ZB) (h_edVer:=A.RH) (h_dVer:=A.Ze)) rfl rfl hz hat (aFw (by decide)) rfl)
theorem awD:Rows.EdsigVerifiesSaid:=
 OpenClaim.holds_of_wide 3 Tryz.f3 rfl rfl rfl rfl rfl rfl rfl ⟨rfl,rfl,rfl,rfl,rfl⟩ rfl rfl rfl rfl rfl (by kernel_rfl) Tryz.func3 (by kernel_rfl)
  (of_decide_eq_true (by kernel_rfl)) (by unfold Func.isWrapper;first|(rw[if_pos (by decide+kernel)];kernel_rfl)|(rw[if_neg (by decide+kernel)];exact⟨rfl,rfl⟩))
  (λos started H enc _=>awC os started H enc)
theorem edsigVerifies_holds:Rows.EdsigVerifiesCardSaid:=
 Claim7.holds_tied_plain_at .later [] [.data,.wider,.wider,.data,.data,.data,.data,.data] true (true,"70dc61c305b45868f383253f6224a4e64e4dd18e176da337c5714d5c9cd3d013") false
  awD (λ_ h=>by cases h) (by kernel_rfl) (λ_ h=>by cases h) edsigVerifies_row_tie rfl ⟨rfl,rfl⟩ (by kernel_rfl) rfl
  (λf fn hf Fg=>by
    obtain rfl:f=3:=Option.some.inj ((show Tryz.prog.funcNamed "vouchsafe/vouchsafelaw11.EdsigVerifies" =some 3 by kernel_rfl).symm.trans hf) |>.symm
    obtain rfl:fn=Tryz.f3:=(Option.some.inj (Tryz.func3.symm.trans Fg)).symm
    exact⟨by kernel_rfl,λj t aA=>by
     rw[Tryz.params3]at aA
     have hm:t∈([22,23,24]:List TypeId):=by simpa using Array.mem_of_getElem? aA
     have jR:(([22,23,24]:List TypeId).all λu=> !Tryz.prog.wantsStandIn u)=true:=by kernel_rfl
     exact(show Tryz.prog.wantsStandIn t=false by simpa using List.all_eq_true.1 jR t hm)⟩)
  (by kernel_rfl)
end Go.Proofs.YtacpildnjohidaaGreatDoor
