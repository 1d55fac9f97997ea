/- LookupHidden: for every input the law returns true,and each argument reads behind the call as it read before; the listed variables are tied to the program's text. -/
import Derived.Test.YtiljgcomigmidaaGreatDoorPag
set_option maxRecDepth 100000
namespace Go.Proofs.YtiljgcomigmidaaGreatDoor
open Go Go.ba Go.bE Go.ChangeShapes Go.RowKit
theorem akr (os:Os) (started:os.Started) (H:Type) (enc:TypeId×Value->H):
 ReturnsInHanded {} Tryz.checked os 5 .any (λw args=>(Rows.lookupHiddenSpec.pre enc Tryz.prog Tryz.f5 [] false w args/\laidMetH Tryz.prog laid w)/\sizedMet enc Tryz.prog Tryz.f5 (OpenSpec.ofChange Rows.lookupHiddenSpec) false w args)
  (Rows.lookupHiddenSpec.post enc Tryz.prog Tryz.f5 false true false false):=
 ajw (C:=Tryz.checked) (X:=λw _=>laidMetH Tryz.prog laid w) (ts:=[22,9,9]) (tb:=4) (bs:=[.rd [.str,.str,.str,.int .i64 (-9223372036854775808) 9223372036854775807],.d .str,.d .str]) (λ_ _ _ ah h=>h.of_heap ah) own started (by kernel_rfl) Tryz.func5
  (ChangeSpec.witness_shaped (enc:=enc) (C:=Tryz.checked) (os:=os) (X:=λw _=>laidMetH Tryz.prog laid w) false (World.laidAll Tryz.prog os laid) #[.slice none 0 0,.string ⟨#[]⟩,.string ⟨#[]⟩] 8 (World.laidAll_os _ _ _) (World.shaped_of_ZipB (by kernel_rfl) (by kernel_rfl)) (by kernel_rfl) (by kernel_rfl) (by kernel_rfl) (ado os _))
  (by rw[Tryz.params5]) (by kernel_rfl) (by kernel_rfl) Tryz.underlying4 ⟨aqX,⟨Zz,⟨Zz,trivial⟩⟩⟩ aki (by kernel_rfl) rfl
  (λxs h=>by match xs,h with|[x0,x1,x2],_=>rfl)
  (λW zs vs hz hat bJ kf=>by
    have A:=abT kf bJ
    exact ajv (sh:=sh) (SB:=SB) (c:=EM) (amg (hg:=UG bJ) (h_lkalive:=A.O7) (h_lHash:=A.ES) (h_lLookS:=A.OW) (h_jGet:=A.ID) (h_xR:=A.QV) (h_lpep:=A.EX)) rfl rfl hz hat (amZ (by decide)) rfl)
theorem aks:Rows.LookupHiddenSaid:=
 OpenClaim.holds_of_wide 5 Tryz.f5 rfl rfl rfl rfl rfl rfl rfl ⟨rfl,rfl,rfl,rfl,rfl⟩ rfl rfl rfl rfl rfl (by kernel_rfl) Tryz.func5 (by kernel_rfl)
  (of_decide_eq_true (by kernel_rfl)) (by unfold Func.isWrapper;first|(rw[if_pos (by decide+kernel)];kernel_rfl)|(rw[if_neg (by decide+kernel)];exact⟨rfl,rfl⟩))
  (λos started H enc _=>akr os started H enc)
theorem lookupHidden_holds:Rows.LookupHiddenCardSaid:=
 Claim7.holds_tied_plain_at .later [] [.data,.data,.data,.pinned] true (true,"099ea9885433c94ef13ed6c70db689e4d34a31dd311e37e2257a0885044cf98f") false
  aks (λ_ h=>by cases h) (by kernel_rfl) (λ_ h=>by cases h) lookupHidden_row_tie rfl ⟨rfl,rfl⟩ (by kernel_rfl) rfl
  (λf fn hf Au=>by
    obtain rfl:f=5:=Option.some.inj ((show Tryz.prog.funcNamed "vouchsafe/vouchsafelaw19.LookupHidden" =some 5 by kernel_rfl).symm.trans hf) |>.symm
    obtain rfl:fn=Tryz.f5:=(Option.some.inj (Tryz.func5.symm.trans Au)).symm
    exact⟨by kernel_rfl,λj t ht=>by
     rw[Tryz.params5]at ht
     have hm:t∈([22,9,9]:List TypeId):=by simpa using Array.mem_of_getElem? ht
     have hall:(([22,9,9]:List TypeId).all λu=> !Tryz.prog.wantsStandIn u)=true:=by kernel_rfl
     exact(show Tryz.prog.wantsStandIn t=false by simpa using List.all_eq_true.1 hall t hm)⟩)
  (by kernel_rfl)
end Go.Proofs.YtiljgcomigmidaaGreatDoor
