/- AccountUsers: for every input the law returns true,and each argument reads behind the call as it read before; the listed variables are tied to the program's text. -/
import Derived.Test.YtejjagiggkgdmaaGreatDoorPae

set_option maxRecDepth 100000
namespace Go.Proofs.YtejjagiggkgdmaaGreatDoor
open Go Go.bo Go.bG Go.ChangeShapes Go.RowKit
theorem NG (os:Os) (started:os.Started) (H:Type) (enc:TypeId×Value->H):
 ReturnsInHanded {} Tryz.checked os 4 .any (λw args=>(Rows.accountUsersSpec.pre enc Tryz.prog Tryz.f4 [] false w args/\laidMetH Tryz.prog laid w)/\sizedMet enc Tryz.prog Tryz.f4 (OpenSpec.ofChange Rows.accountUsersSpec) false w args)
  (Rows.accountUsersSpec.post enc Tryz.prog Tryz.f4 false true false false):=
 Td (C:=Tryz.checked) (X:=λw _=>laidMetH Tryz.prog laid w) (ts:=[22,9,9]) (tb:=4) (bs:=[.rd [.str,.str,.sub 1],.d .str,.d .str]) (λ_ _ _ al h=>h.of_heap al) own started (by kernel_rfl) Tryz.func4
  (ChangeSpec.witness_shaped (enc:=enc) (C:=Tryz.checked) (os:=os) (X:=λw _=>laidMetH Tryz.prog laid w) false (World.laidAll Tryz.prog os laid) #[.slice none 0 0,.string ⟨#[]⟩,.string ⟨#[]⟩] 8 (World.laidAll_os _ _ _) (World.shaped_of_ZipB (by kernel_rfl) (by kernel_rfl)) (by kernel_rfl) (by kernel_rfl) (by kernel_rfl) (OU os _))
  (by rw[Tryz.params4]) (by kernel_rfl) (by kernel_rfl) Tryz.underlying4 ⟨Yi,⟨MD,⟨MD,trivial⟩⟩⟩ TL (by kernel_rfl) rfl
  (λxs h=>by match xs,h with|[x0,x1,cT],_=>rfl)
  (λW zs vs hz hat _ fV=>by
    have A:=NU fV
    exact Tc (sh:=sh) (SB:=SB) (c:=wT) (Vh (hg:=Iz W) (h_u17alive:=A.Fz) (h_gt:=A.B9) (h_kCopy:=A.DI) (h_aReg:=A.xT) (h_kReg:=A.DK) (h_aLogout:=A.Ba) (h_kLogout:=A.DJ) (h_aWhose:=A.xU) (h_kWhose:=A.DM) (h_kSame:=A.DL) (h_aRight:=A.vg) (h_kRight:=A.pR)) rfl rfl hz hat (VA (by decide)) rfl)
theorem NH:Rows.AccountUsersSaid:=
 OpenClaim.holds_of_wide 4 Tryz.f4 rfl rfl rfl rfl rfl rfl rfl ⟨rfl,rfl,rfl,rfl,rfl⟩ rfl rfl rfl rfl rfl (by kernel_rfl) Tryz.func4 (by kernel_rfl)
  (of_decide_eq_true (by kernel_rfl)) (by unfold Func.isWrapper;first|(rw[if_pos (by decide+kernel)];kernel_rfl)|(rw[if_neg (by decide+kernel)];exact⟨rfl,rfl⟩))
  (λos started H enc _=>NG os started H enc)
theorem accountUsers_holds:Rows.AccountUsersCardSaid:=
 Claim7.holds_tied_plain_at .later [] [.data,.pinned] true (true,"f7997e894253789490aba42dcead056852cec9687b29d9619193ffbf7f02626b") false
  NH (λ_ h=>by cases h) (by kernel_rfl) (λ_ h=>by cases h) accountUsers_row_tie rfl ⟨rfl,rfl⟩ (by kernel_rfl) rfl
  (λf fn hf rv=>by
    obtain rfl:f=4:=Option.some.inj ((show Tryz.prog.funcNamed "vouchsafe/vouchsafelaw17.AccountUsers" =some 4 by kernel_rfl).symm.trans hf) |>.symm
    obtain rfl:fn=Tryz.f4:=(Option.some.inj (Tryz.func4.symm.trans rv)).symm
    exact⟨by kernel_rfl,λj t ht=>by
     rw[Tryz.params4]at ht
     have hm:t∈([22,9,9]:List TypeId):=by simpa using Array.mem_of_getElem? ht
     have hall:(([22,9,9]:List TypeId).all λu=> !Tryz.prog.wantsStandIn u)=true:=by kernel_rfl
     exact(show Tryz.prog.wantsStandIn t=false by simpa using List.all_eq_true.1 hall t hm)⟩)
  (by kernel_rfl)
end Go.Proofs.YtejjagiggkgdmaaGreatDoor
