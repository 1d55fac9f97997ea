/- PledgeStores: for every input the law returns true,and each argument reads behind the call as it read before; the listed variables are tied to the program's text. -/
import Derived.Test.YtponpidccjmlnaaGreatDoorPag
set_option maxRecDepth 100000
namespace Go.Proofs.YtponpidccjmlnaaGreatDoor
open Go Go.bo Go.cu Go.ChangeShapes Go.RowKit
theorem atg (os:Os) (started:os.Started) (H:Type) (enc:TypeId×Value->H):
 ReturnsInHanded {} Tryz.checked os 4 .any (λw args=>(Rows.pledgeStoresSpec.pre enc Tryz.prog Tryz.f4 [] false w args/\laidMetH Tryz.prog laid w)/\sizedMet enc Tryz.prog Tryz.f4 (OpenSpec.ofChange Rows.pledgeStoresSpec) false w args)
  (Rows.pledgeStoresSpec.post enc Tryz.prog Tryz.f4 false true false false):=
 anD (C:=Tryz.checked) (X:=λw _=>laidMetH Tryz.prog laid w) (ts:=[22,32,9]) (tb:=4) (bs:=[.rd [.str,.str,.str,.str,.str,.str,.str],.d (.mix [.str,.str,.str,.str,.str,.str,.str]),.d .str]) (λ_ _ _ ai h=>h.of_heap ai) own started (by kernel_rfl) Tryz.func4
  (ChangeSpec.witness_shaped (enc:=enc) (C:=Tryz.checked) (os:=os) (X:=λw _=>laidMetH Tryz.prog laid w) false (World.laidAll Tryz.prog os laid) #[.slice none 0 0,(.agg #[.string ⟨#[]⟩,.string ⟨#[]⟩,.string ⟨#[]⟩,.string ⟨#[]⟩,.string ⟨#[]⟩,.string ⟨#[]⟩,.string ⟨#[]⟩]),.string ⟨#[]⟩] 8 (World.laidAll_os _ _ _) (World.shaped_of_ZipB (by kernel_rfl) (by kernel_rfl)) (by kernel_rfl) (by kernel_rfl) (by kernel_rfl) (af7 os _))
  (by rw[Tryz.params4]) (by kernel_rfl) (by kernel_rfl) Tryz.underlying4 ⟨avu,⟨avv,⟨avw,trivial⟩⟩⟩ aoo (by kernel_rfl) rfl
  (λxs h=>by match xs,h with|[x0,x1,x2],_=>rfl)
  (λW zs vs hz hat bP ig=>by
    obtain⟨G,A⟩:=aeG ig bP
    exact anC (sh:=sh) (SB:=fx G) (c:=GD) (aqb (G:=G) (hg:=Xf bP) (h_palive:=A.Ri) (h_pStore:=A.KG) (h_qStore:=A.Rq) (h_pSettle:=A.KF) (h_qSettle:=A.Rp) (h_pFind:=A.Rh) (h_qFind:=A.KO) (h_qSame:=A.Ro) (h_pRight:=A.Ao) (h_qRight:=A.Ds)) rfl rfl hz hat (ard (by decide)) rfl)
theorem ath:Rows.PledgeStoresSaid:=
 OpenClaim.holds_of_wide 4 Tryz.f4 rfl rfl rfl rfl rfl rfl rfl ⟨rfl,rfl,rfl,rfl,rfl⟩ rfl rfl rfl rfl rfl (by kernel_rfl) Tryz.func4 (by kernel_rfl)
  (of_decide_eq_true (by kernel_rfl)) (by unfold Func.isWrapper;first|(rw[if_pos (by decide+kernel)];kernel_rfl)|(rw[if_neg (by decide+kernel)];exact⟨rfl,rfl⟩))
  (λos started H enc _=>atg os started H enc)
theorem pledgeStores_holds:Rows.PledgeStoresCardSaid:=
 Claim7.holds_tied_plain_at .later [] [.data,.data,.wider,.data,.data,.pinned] true (true,"17a6c356e4616bf9aa00df692e3f15066c7ff48a265a0ad1679d53f2c277f7cb") false
  ath (λ_ h=>by cases h) (by kernel_rfl) (λ_ h=>by cases h) pledgeStores_row_tie rfl ⟨rfl,rfl⟩ (by kernel_rfl) rfl
  (λf fn hf xf=>by
    obtain rfl:f=4:=Option.some.inj ((show Tryz.prog.funcNamed "vouchsafe/vouchsafelaw20.PledgeStores" =some 4 by kernel_rfl).symm.trans hf) |>.symm
    obtain rfl:fn=Tryz.f4:=(Option.some.inj (Tryz.func4.symm.trans xf)).symm
    exact⟨by kernel_rfl,λj t ht=>by
     rw[Tryz.params4]at ht
     have hm:t∈([22,32,9]:List TypeId):=by simpa using Array.mem_of_getElem? ht
     have hall:(([22,32,9]:List TypeId).all λu=> !Tryz.prog.wantsStandIn u)=true:=by kernel_rfl
     exact(show Tryz.prog.wantsStandIn t=false by simpa using List.all_eq_true.1 hall t hm)⟩)
  (by kernel_rfl)
end Go.Proofs.YtponpidccjmlnaaGreatDoor
