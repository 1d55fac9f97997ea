/- EdsigSigns: for every input the law returns true,and each argument reads behind the call as it read before; the listed variables are tied to the program's text. -/
import Derived.Test.YtacpildnjohidaaGreatDoorPaj
set_option maxRecDepth 100000
namespace Go.Proofs.YtacpildnjohidaaGreatDoor
open Go Go.bX Go.dg Go.ChangeShapes Go.RowKit
theorem aBf (os:Os) (started:os.Started) (H:Type) (enc:TypeId×Value->H):
 ReturnsInHanded {} Tryz.checked os 4 .any (λw args=>(Rows.edsigSignsSpec.pre enc Tryz.prog Tryz.f4 [] false w args/\laidMetH Tryz.prog laid w)/\sizedMet enc Tryz.prog Tryz.f4 (OpenSpec.ofChange Rows.edsigSignsSpec) false w args)
  (Rows.edsigSignsSpec.post enc Tryz.prog Tryz.f4 false true false false):=
 aH0 (C:=Tryz.checked) (X:=λw _=>laidMetH Tryz.prog laid w) (ts:=[22,23,9]) (tb:=4) (bs:=[.d (.agg .u8 32 0 255),.rd [.int .u8 0 255],.d .str]) (λ_ _ _ ah h=>h.of_heap ah) own started (by kernel_rfl) Tryz.func4
  (ChangeSpec.witness_shaped (enc:=enc) (C:=Tryz.checked) (os:=os) (X:=λw _=>laidMetH Tryz.prog laid w) false (World.laidAll Tryz.prog os laid) #[(.agg (Array.replicate 32 (.int .u8 0))),.slice none 0 0,.string ⟨#[]⟩] 8 (World.laidAll_os _ _ _) (World.shaped_of_ZipB (by kernel_rfl) (by kernel_rfl)) (by kernel_rfl) (by kernel_rfl) (by kernel_rfl) (aAS os _))
  (by rw[Tryz.params4]) (by kernel_rfl) (by kernel_rfl) Tryz.underlying4 ⟨aSi,⟨aSj,⟨aSk,trivial⟩⟩⟩ aIg (by kernel_rfl) rfl
  (λxs h=>by match xs,h with|[dp,ak,ai],_=>rfl)
  (λW zs vs hz hat cb mc=>by
    have A:=zk mc cb
    exact aHZ (sh:=sh) (SB:=SB) (c:=PS) (aJN (hg:=aoE cb) (h_edAlive:=A.acg) (h_edPub:=A.TV) (h_edSign:=A.TW) (h_edSeed:=A.ach) (h_dpub:=A.abY) (h_dsign:=A.abZ) (h_dSeed:=A.abQ)) rfl rfl hz hat (aLA (by decide)) rfl)
theorem aBg:Rows.EdsigSignsSaid:=
 OpenClaim.holds_of_wide 4 Tryz.f4 rfl rfl rfl rfl rfl rfl rfl ⟨rfl,rfl,rfl,rfl,rfl⟩ rfl rfl rfl rfl rfl (by kernel_rfl) Tryz.func4 (by kernel_rfl)
  (of_decide_eq_true (by kernel_rfl)) (by unfold Func.isWrapper;first|(rw[if_pos (by decide+kernel)];kernel_rfl)|(rw[if_neg (by decide+kernel)];exact⟨rfl,rfl⟩))
  (λos started H enc _=>aBf os started H enc)
theorem edsigSigns_holds:Rows.EdsigSignsCardSaid:=
 Claim7.holds_tied_plain_at .later [] [.data,.wider,.wider,.data,.data,.data,.data,.data] true (true,"70dc61c305b45868f383253f6224a4e64e4dd18e176da337c5714d5c9cd3d013") false
  aBg (λ_ h=>by cases h) (by kernel_rfl) (λ_ h=>by cases h) edsigSigns_row_tie rfl ⟨rfl,rfl⟩ (by kernel_rfl) rfl
  (λf fn hf FD=>by
    obtain rfl:f=4:=Option.some.inj ((show Tryz.prog.funcNamed "vouchsafe/vouchsafelaw11.EdsigSigns" =some 4 by kernel_rfl).symm.trans hf) |>.symm
    obtain rfl:fn=Tryz.f4:=(Option.some.inj (Tryz.func4.symm.trans FD)).symm
    exact⟨by kernel_rfl,λj t aB=>by
     rw[Tryz.params4]at aB
     have hm:t∈([22,23,9]:List TypeId):=by simpa using Array.mem_of_getElem? aB
     have jL:(([22,23,9]:List TypeId).all λu=> !Tryz.prog.wantsStandIn u)=true:=by kernel_rfl
     exact(show Tryz.prog.wantsStandIn t=false by simpa using List.all_eq_true.1 jL t hm)⟩)
  (by kernel_rfl)
end Go.Proofs.YtacpildnjohidaaGreatDoor
