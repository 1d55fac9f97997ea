/- PledgeSettled: for every input the law returns true,and each argument reads behind the call as it read before; the listed variables are tied to the program's text. -/
import Derived.Test.YtponpidccjmlnaaGreatDoorPag

set_option maxRecDepth 100000
namespace Go.Proofs.YtponpidccjmlnaaGreatDoor
open Go Go.bj Go.ck Go.ChangeShapes Go.RowKit
theorem amI (os:Os) (started:os.Started) (H:Type) (enc:TypeId×Value->H):
 ReturnsInHanded {} Tryz.checked os 3 .any (fun w args=>(Rows.pledgeSettledSpec.pre enc Tryz.prog Tryz.f3 [] false w args/\laidMetH Tryz.prog laid w)/\sizedMet enc Tryz.prog Tryz.f3 (OpenSpec.ofChange Rows.pledgeSettledSpec) false w args)
  (Rows.pledgeSettledSpec.post enc Tryz.prog Tryz.f3 false true false false):=
 aiJ (C:=Tryz.checked) (X:=fun w _=>laidMetH Tryz.prog laid w) (ts:=[22,24,25]) (tb:=4) (bs:=[.rd [.str,.str,.str,.str,.str,.str,.str],.d (.mix [.str,.str]),.d (.mix [.str,.str])]) (fun _ _ _ hh h=>h.of_heap hh) own started (by kernel_rfl) Tryz.func3
  (ChangeSpec.witness_shaped (enc:=enc) (C:=Tryz.checked) (os:=os) (X:=fun w _=>laidMetH Tryz.prog laid w) false (World.laidAll Tryz.prog os laid) #[.slice none 0 0,(.agg #[.string ⟨#[]⟩,.string ⟨#[]⟩]),(.agg #[.string ⟨#[]⟩,.string ⟨#[]⟩])] 8 (World.laidAll_os _ _ _) (World.shaped_of_ZipB (by kernel_rfl) (by kernel_rfl)) (by kernel_rfl) (by kernel_rfl) (by kernel_rfl) (acr os _))
  (by rw[Tryz.params3]) (by kernel_rfl) (by kernel_rfl) Tryz.underlying4 ⟨aoT,⟨aoS,⟨aoU,trivial⟩⟩⟩ ai0 (by kernel_rfl) rfl
  (fun xs h=>by match xs,h with|[x0,x1,x2],_=>rfl)
  (fun W zs vs hz hat bw hsh=>by
    obtain⟨G,A⟩:=Zt hsh bw
    exact aiI (sh:=sh) (SB:=gp G) (c:=zH) (akd (G:=G) (hg:=R7 bw) (h_palive:=A.Mj) (h_pSettle:=A.Gr) (h_qSame:=A.Mp)) rfl rfl hz hat (akQ (by decide)) rfl)
theorem amJ:Rows.PledgeSettledSaid:=
 OpenClaim.holds_of_wide 3 Tryz.f3 rfl rfl rfl rfl rfl rfl rfl ⟨rfl,rfl,rfl,rfl,rfl⟩ rfl rfl rfl rfl rfl (by kernel_rfl) Tryz.func3 (by kernel_rfl)
  (of_decide_eq_true (by kernel_rfl)) (by unfold Func.isWrapper;first|(rw[if_pos (by decide+kernel)];kernel_rfl)|(rw[if_neg (by decide+kernel)];exact⟨rfl,rfl⟩))
  (fun os started H enc _=>amI os started H enc)
theorem pledgeSettled_holds:Rows.PledgeSettledCardSaid:=
 Claim7.holds_tied_plain_at .later [] [.data,.data,.wider,.data,.data,.pinned] true (true,"17a6c356e4616bf9aa00df692e3f15066c7ff48a265a0ad1679d53f2c277f7cb") false
  amJ (fun _ h=>by cases h) (by kernel_rfl) (fun _ h=>by cases h) pledgeSettled_row_tie rfl ⟨rfl,rfl⟩ (by kernel_rfl) rfl
  (fun f fn hf vb=>by
    obtain rfl:f=3:=Option.some.inj ((show Tryz.prog.funcNamed "vouchsafe/vouchsafelaw20.PledgeSettled" =some 3 by kernel_rfl).symm.trans hf) |>.symm
    obtain rfl:fn=Tryz.f3:=(Option.some.inj (Tryz.func3.symm.trans vb)).symm
    exact⟨by kernel_rfl,fun j t ht=>by
     rw[Tryz.params3]at ht
     have hm:t∈([22,24,25]:List TypeId):=by simpa using Array.mem_of_getElem? ht
     have hall:(([22,24,25]:List TypeId).all fun u=> !Tryz.prog.wantsStandIn u)=true:=by kernel_rfl
     exact(show Tryz.prog.wantsStandIn t=false by simpa using List.all_eq_true.1 hall t hm)⟩)
  (by kernel_rfl)
end Go.Proofs.YtponpidccjmlnaaGreatDoor
