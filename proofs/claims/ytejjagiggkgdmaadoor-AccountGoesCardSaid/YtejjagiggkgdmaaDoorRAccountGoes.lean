/- AccountGoes: for every input the law returns true,and each argument reads behind the call as it read before; the listed variables are tied to the program's text. -/
import Derived.Test.YtejjagiggkgdmaaDoorPad

set_option maxRecDepth 100000
namespace Go.Proofs.YtejjagiggkgdmaaDoor
open Go Go.aZ Go.bD Go.ChangeShapes Go.RowKit
theorem JJ (os:Os) (started:os.Started) (H:Type) (enc:TypeId×Value->H):
 ReturnsInHanded {} Tryd.checked os 4 .any (λw args=>(Rows.accountGoesSpec.pre enc Tryd.prog Tryd.f4 [] false w args/\laidMetH Tryd.prog laid w)/\sizedMet enc Tryd.prog Tryd.f4 (OpenSpec.ofChange Rows.accountGoesSpec) false w args)
  (Rows.accountGoesSpec.post enc Tryd.prog Tryd.f4 false true false false):=
 O4 (C:=Tryd.checked) (X:=λw _=>laidMetH Tryd.prog laid w) (ts:=[22,9]) (tb:=4) (bs:=[.rd [.str,.str,.sub 1],.d .str]) (λ_ _ _ ad h=>h.of_heap ad) own started (by kernel_rfl) Tryd.func4
  (ChangeSpec.witness_shaped (enc:=enc) (C:=Tryd.checked) (os:=os) (X:=λw _=>laidMetH Tryd.prog laid w) false (World.laidAll Tryd.prog os laid) #[.slice none 0 0,.string ⟨#[]⟩] 8 (World.laidAll_os _ _ _) (World.shaped_of_ZipB (by kernel_rfl) (by kernel_rfl)) (by kernel_rfl) (by kernel_rfl) (by kernel_rfl) (KR os _))
  (by rw[Tryd.params4]) (by kernel_rfl) (by kernel_rfl) Tryd.underlying4 ⟨SV,⟨SW,trivial⟩⟩ Pr (by kernel_rfl) rfl
  (λxs h=>by match xs,h with|[x0,x1],_=>rfl)
  (λW zs vs hz hat _ eQ=>by
    have A:=JW eQ
    exact O3 (sh:=sh) (SB:=SB) (c:=uv) (Qs (hg:=EO W) (h_u17alive:=A.Cp) (h_gt:=A.zg) (h_aWhose:=A.vk) (h_aLogout:=A.yq) (h_aReg:=A.vj)) rfl rfl hz hat (QF (by decide)) rfl)
theorem JK:Rows.AccountGoesSaid:=
 OpenClaim.holds_of_wide 4 Tryd.f4 rfl rfl rfl rfl rfl rfl rfl ⟨rfl,rfl,rfl,rfl,rfl⟩ rfl rfl rfl rfl rfl (by kernel_rfl) Tryd.func4 (by kernel_rfl)
  (of_decide_eq_true (by kernel_rfl)) (by unfold Func.isWrapper;first|(rw[if_pos (by decide+kernel)];kernel_rfl)|(rw[if_neg (by decide+kernel)];exact⟨rfl,rfl⟩))
  (λos started H enc _=>JJ os started H enc)
theorem accountGoes_holds:Rows.AccountGoesCardSaid:=
 Claim7.holds_tied_plain_at .later [] [.data,.pinned] true (true,"0f7e97e65f9467aa4bf26e21834aff87c7b9c1b66add81e6a7c350abc260f8f9") false
  JK (λ_ h=>by cases h) (by kernel_rfl) (λ_ h=>by cases h) accountGoes_row_tie rfl ⟨rfl,rfl⟩ (by kernel_rfl) rfl
  (λf fn hf pH=>by
    obtain rfl:f=4:=Option.some.inj ((show Tryd.prog.funcNamed "vouchsafe/vouchsafelaw17.AccountGoes" =some 4 by kernel_rfl).symm.trans hf) |>.symm
    obtain rfl:fn=Tryd.f4:=(Option.some.inj (Tryd.func4.symm.trans pH)).symm
    exact⟨by kernel_rfl,λj t ht=>by
     rw[Tryd.params4]at ht
     have hm:t∈([22,9]:List TypeId):=by simpa using Array.mem_of_getElem? ht
     have hall:(([22,9]:List TypeId).all λu=> !Tryd.prog.wantsStandIn u)=true:=by kernel_rfl
     exact(show Tryd.prog.wantsStandIn t=false by simpa using List.all_eq_true.1 hall t hm)⟩)
  (by kernel_rfl)
end Go.Proofs.YtejjagiggkgdmaaDoor
