/- EdsigHolds: for every input the law returns true,and each argument reads behind the call as it read before; the listed variables are tied to the program's text. -/
import Derived.Test.YtacpildnjohidaaDoorPah
set_option maxRecDepth 100000
namespace Go.Proofs.YtacpildnjohidaaDoor
open Go Go.ch Go.fZ Go.ChangeShapes Go.RowKit
theorem amu (os:Os) (started:os.Started) (H:Type) (enc:TypeId×Value->H):
 ReturnsInHanded {} Tryd.checked os 3 .any (λw args=>(Rows.edsigHoldsSpec.pre enc Tryd.prog Tryd.f3 [] false w args/\laidMetH Tryd.prog laid w)/\sizedMet enc Tryd.prog Tryd.f3 (OpenSpec.ofChange Rows.edsigHoldsSpec) false w args)
  (Rows.edsigHoldsSpec.post enc Tryd.prog Tryd.f3 false true false false):=
 arJ (C:=Tryd.checked) (X:=λw _=>laidMetH Tryd.prog laid w) (ts:=[22,23]) (tb:=4) (bs:=[.d (.agg .u8 32 0 255),.rd [.int .u8 0 255]]) (λ_ _ _ ae h=>h.of_heap ae) own started (by kernel_rfl) Tryd.func3
  (ChangeSpec.witness_shaped (enc:=enc) (C:=Tryd.checked) (os:=os) (X:=λw _=>laidMetH Tryd.prog laid w) false (World.laidAll Tryd.prog os laid) #[(.agg (Array.replicate 32 (.int .u8 0))),.slice none 0 0] 8 (World.laidAll_os _ _ _) (World.shaped_of_ZipB (by kernel_rfl) (by kernel_rfl)) (by kernel_rfl) (by kernel_rfl) (by kernel_rfl) (al5 os _))
  (by rw[Tryd.params3]) (by kernel_rfl) (by kernel_rfl) Tryd.underlying4 ⟨ax9,⟨aya,trivial⟩⟩ arV (by kernel_rfl) rfl
  (λxs h=>by match xs,h with|[eU,ag],_=>rfl)
  (λW zs vs hz hat b3 lR=>by
    have A:=Ka lR b3
    exact arI (sh:=sh) (SB:=SB) (c:=LY) (asT (hg:=adU b3) (h_edAlive:=A.UN) (h_edPub:=A.Pb) (h_edSign:=A.Pc) (h_edVer:=A.Pd)) rfl rfl hz hat (atC (by decide)) rfl)
theorem amv:Rows.EdsigHoldsSaid:=
 OpenClaim.holds_of_wide 3 Tryd.f3 rfl rfl rfl rfl rfl rfl rfl ⟨rfl,rfl,rfl,rfl,rfl⟩ rfl rfl rfl rfl rfl (by kernel_rfl) Tryd.func3 (by kernel_rfl)
  (of_decide_eq_true (by kernel_rfl)) (by unfold Func.isWrapper;first|(rw[if_pos (by decide+kernel)];kernel_rfl)|(rw[if_neg (by decide+kernel)];exact⟨rfl,rfl⟩))
  (λos started H enc _=>amu os started H enc)
theorem edsigHolds_holds:Rows.EdsigHoldsCardSaid:=
 Claim7.holds_tied_plain_at .later [] [.data,.wider,.wider,.data,.data,.data] true (true,"e42f279e5c07b0af864d38699f5b99199ddf173befbf1434c9d7bf9a6347b7c2") false
  amv (λ_ h=>by cases h) (by kernel_rfl) (λ_ h=>by cases h) edsigHolds_row_tie rfl ⟨rfl,rfl⟩ (by kernel_rfl) rfl
  (λf fn hf DV=>by
    obtain rfl:f=3:=Option.some.inj ((show Tryd.prog.funcNamed "vouchsafe/vouchsafelaw11.EdsigHolds" =some 3 by kernel_rfl).symm.trans hf) |>.symm
    obtain rfl:fn=Tryd.f3:=(Option.some.inj (Tryd.func3.symm.trans DV)).symm
    exact⟨by kernel_rfl,λj t aA=>by
     rw[Tryd.params3]at aA
     have hm:t∈([22,23]:List TypeId):=by simpa using Array.mem_of_getElem? aA
     have jr:(([22,23]:List TypeId).all λu=> !Tryd.prog.wantsStandIn u)=true:=by kernel_rfl
     exact(show Tryd.prog.wantsStandIn t=false by simpa using List.all_eq_true.1 jr t hm)⟩)
  (by kernel_rfl)
end Go.Proofs.YtacpildnjohidaaDoor
