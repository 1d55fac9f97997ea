/- PledgeOnce: for every input the law returns true,and each argument reads behind the call as it read before; the listed variables are tied to the program's text. -/
import Derived.Test.YtponpidccjmlnaaGreatDoorPag
set_option maxRecDepth 100000
namespace Go.Proofs.YtponpidccjmlnaaGreatDoor
open Go Go.bg Go.cd Go.ChangeShapes Go.RowKit
theorem aph (os:Os) (started:os.Started) (H:Type) (enc:TypeId×Value->H):
 ReturnsInHanded {} Tryz.checked os 5 .any (λw args=>(Rows.pledgeOnceSpec.pre enc Tryz.prog Tryz.f5 [] false w args/\laidMetH Tryz.prog laid w)/\sizedMet enc Tryz.prog Tryz.f5 (OpenSpec.ofChange Rows.pledgeOnceSpec) false w args)
  (Rows.pledgeOnceSpec.post enc Tryz.prog Tryz.f5 false true false false):=
 akV (C:=Tryz.checked) (X:=λw _=>laidMetH Tryz.prog laid w) (ts:=[41]) (tb:=4) (bs:=[.rd [.bool,.int .u8 0 255,.int .u8 0 255,.int .u8 0 255]]) (λ_ _ _ ae h=>h.of_heap ae) own started (by kernel_rfl) Tryz.func5
  (ChangeSpec.witness_shaped (enc:=enc) (C:=Tryz.checked) (os:=os) (X:=λw _=>laidMetH Tryz.prog laid w) false (World.laidAll Tryz.prog os laid) #[.slice none 0 0] 8 (World.laidAll_os _ _ _) (World.shaped_of_ZipB (by kernel_rfl) (by kernel_rfl)) (by kernel_rfl) (by kernel_rfl) (by kernel_rfl) (adS os _))
  (by rw[Tryz.params5]) (by kernel_rfl) (by kernel_rfl) Tryz.underlying4 ⟨arp,trivial⟩ alu (by kernel_rfl) rfl
  (λxs h=>by match xs,h with|[x0],_=>rfl)
  (λW zs vs hz hat bD gK=>by
    obtain⟨G,A⟩:=ach gK bD
    exact akU (sh:=sh) (SB:=lh G) (c:=EX) (am0 (G:=G) (hg:=U9 bD) (h_palive:=A.PN) (h_pSettle:=A.Jb) (h_pStore:=A.Jc) (h_pFind:=A.PM) (h_pRight:=A.yO) (h_pone:=A.Jh)) rfl rfl hz hat (anI (by decide)) rfl)
theorem api:Rows.PledgeOnceSaid:=
 OpenClaim.holds_of_wide 5 Tryz.f5 rfl rfl rfl rfl rfl rfl rfl ⟨rfl,rfl,rfl,rfl,rfl⟩ rfl rfl rfl rfl rfl (by kernel_rfl) Tryz.func5 (by kernel_rfl)
  (of_decide_eq_true (by kernel_rfl)) (by unfold Func.isWrapper;first|(rw[if_pos (by decide+kernel)];kernel_rfl)|(rw[if_neg (by decide+kernel)];exact⟨rfl,rfl⟩))
  (λos started H enc _=>aph os started H enc)
theorem pledgeOnce_holds:Rows.PledgeOnceCardSaid:=
 Claim7.holds_tied_plain_at .later [] [.data,.data,.wider,.data,.data,.pinned] true (true,"17a6c356e4616bf9aa00df692e3f15066c7ff48a265a0ad1679d53f2c277f7cb") false
  api (λ_ h=>by cases h) (by kernel_rfl) (λ_ h=>by cases h) pledgeOnce_row_tie rfl ⟨rfl,rfl⟩ (by kernel_rfl) rfl
  (λf fn hf vQ=>by
    obtain rfl:f=5:=Option.some.inj ((show Tryz.prog.funcNamed "vouchsafe/vouchsafelaw20.PledgeOnce" =some 5 by kernel_rfl).symm.trans hf) |>.symm
    obtain rfl:fn=Tryz.f5:=(Option.some.inj (Tryz.func5.symm.trans vQ)).symm
    exact⟨by kernel_rfl,λj t ht=>by
     rw[Tryz.params5]at ht
     have hm:t∈([41]:List TypeId):=by simpa using Array.mem_of_getElem? ht
     have hall:(([41]:List TypeId).all λu=> !Tryz.prog.wantsStandIn u)=true:=by kernel_rfl
     exact(show Tryz.prog.wantsStandIn t=false by simpa using List.all_eq_true.1 hall t hm)⟩)
  (by kernel_rfl)
end Go.Proofs.YtponpidccjmlnaaGreatDoor
