/- EdsigKeys: for every input the law returns true,and each argument reads behind the call as it read before; the listed variables are tied to the program's text. -/
import Derived.Test.YtacpildnjohidaaDoorPah
set_option maxRecDepth 100000
namespace Go.Proofs.YtacpildnjohidaaDoor
open Go Go.b9 Go.gg Go.ChangeShapes Go.RowKit
theorem atp (os:Os) (started:os.Started) (H:Type) (enc:TypeId×Value->H):
 ReturnsInHanded {} Tryd.checked os 5 .any (λw args=>(Rows.edsigKeysSpec.pre enc Tryd.prog Tryd.f5 [] false w args/\laidMetH Tryd.prog laid w)/\sizedMet enc Tryd.prog Tryd.f5 (OpenSpec.ofChange Rows.edsigKeysSpec) false w args)
  (Rows.edsigKeysSpec.post enc Tryd.prog Tryd.f5 false true false false):=
 ayG (C:=Tryd.checked) (X:=λw _=>laidMetH Tryd.prog laid w) (ts:=[22,23]) (tb:=4) (bs:=[.d (.agg .u8 32 0 255),.rd [.int .u8 0 255]]) (λ_ _ _ ag h=>h.of_heap ag) own started (by kernel_rfl) Tryd.func5
  (ChangeSpec.witness_shaped (enc:=enc) (C:=Tryd.checked) (os:=os) (X:=λw _=>laidMetH Tryd.prog laid w) false (World.laidAll Tryd.prog os laid) #[(.agg (Array.replicate 32 (.int .u8 0))),.slice none 0 0] 8 (World.laidAll_os _ _ _) (World.shaped_of_ZipB (by kernel_rfl) (by kernel_rfl)) (by kernel_rfl) (by kernel_rfl) (by kernel_rfl) (asZ os _))
  (by rw[Tryd.params5]) (by kernel_rfl) (by kernel_rfl) Tryd.underlying4 ⟨aGk,⟨aGl,trivial⟩⟩ ayT (by kernel_rfl) rfl
  (λxs h=>by match xs,h with|[dx,aj],_=>rfl)
  (λW zs vs hz hat cg l3=>by
    have A:=AW l3 cg
    exact ayF (sh:=sh) (SB:=SB) (c:=N1) (azU (hg:=air cg) (h_edAlive:=A.X4) (h_edPub:=A.QL) (h_edSign:=A.QM) (h_dbytes:=A.XH) (h_dl:=A.QG) (h_dtimes:=A.XN) (h_dright:=A.XM)) rfl rfl hz hat (aAY (by decide)) rfl)
theorem atq:Rows.EdsigKeysSaid:=
 OpenClaim.holds_of_wide 5 Tryd.f5 rfl rfl rfl rfl rfl rfl rfl ⟨rfl,rfl,rfl,rfl,rfl⟩ rfl rfl rfl rfl rfl (by kernel_rfl) Tryd.func5 (by kernel_rfl)
  (of_decide_eq_true (by kernel_rfl)) (by unfold Func.isWrapper;first|(rw[if_pos (by decide+kernel)];kernel_rfl)|(rw[if_neg (by decide+kernel)];exact⟨rfl,rfl⟩))
  (λos started H enc _=>atp os started H enc)
theorem edsigKeys_holds:Rows.EdsigKeysCardSaid:=
 Claim7.holds_tied_plain_at .later [] [.data,.wider,.wider,.data,.data,.data] true (true,"e42f279e5c07b0af864d38699f5b99199ddf173befbf1434c9d7bf9a6347b7c2") false
  atq (λ_ h=>by cases h) (by kernel_rfl) (λ_ h=>by cases h) edsigKeys_row_tie rfl ⟨rfl,rfl⟩ (by kernel_rfl) rfl
  (λf fn hf E1=>by
    obtain rfl:f=5:=Option.some.inj ((show Tryd.prog.funcNamed "vouchsafe/vouchsafelaw11.EdsigKeys" =some 5 by kernel_rfl).symm.trans hf) |>.symm
    obtain rfl:fn=Tryd.f5:=(Option.some.inj (Tryd.func5.symm.trans E1)).symm
    exact⟨by kernel_rfl,λj t aD=>by
     rw[Tryd.params5]at aD
     have hm:t∈([22,23]:List TypeId):=by simpa using Array.mem_of_getElem? aD
     have jM:(([22,23]:List TypeId).all λu=> !Tryd.prog.wantsStandIn u)=true:=by kernel_rfl
     exact(show Tryd.prog.wantsStandIn t=false by simpa using List.all_eq_true.1 jM t hm)⟩)
  (by kernel_rfl)
end Go.Proofs.YtacpildnjohidaaDoor
