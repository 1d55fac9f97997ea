/- AccountOwn: for every input the law returns true,and each argument reads behind the call as it read before; the listed variables are tied to the program's text. -/
import Derived.Test.YtejjagiggkgdmaaDoorPad

set_option maxRecDepth 100000
namespace Go.Proofs.YtejjagiggkgdmaaDoor
open Go Go.aZ Go.bD Go.ChangeShapes Go.RowKit
theorem Kh (os:Os) (started:os.Started) (H:Type) (enc:TypeId×Value->H):
 ReturnsInHanded {} Tryd.checked os 3 .any (λw args=>(Rows.accountOwnSpec.pre enc Tryd.prog Tryd.f3 [] false w args/\laidMetH Tryd.prog laid w)/\sizedMet enc Tryd.prog Tryd.f3 (OpenSpec.ofChange Rows.accountOwnSpec) false w args)
  (Rows.accountOwnSpec.post enc Tryd.prog Tryd.f3 false true false false):=
 Pr (C:=Tryd.checked) (X:=λw _=>laidMetH Tryd.prog laid w) (ts:=[22,23,9]) (tb:=4) (bs:=[.rd [.str,.str,.sub 1],.d (.mix [.str,.str]),.d .str]) (λ_ _ _ ad h=>h.of_heap ad) own started (by kernel_rfl) Tryd.func3
  (ChangeSpec.witness_shaped (enc:=enc) (C:=Tryd.checked) (os:=os) (X:=λw _=>laidMetH Tryd.prog laid w) false (World.laidAll Tryd.prog os laid) #[.slice none 0 0,(.agg #[.string ⟨#[]⟩,.string ⟨#[]⟩]),.string ⟨#[]⟩] 8 (World.laidAll_os _ _ _) (World.shaped_of_ZipB (by kernel_rfl) (by kernel_rfl)) (by kernel_rfl) (by kernel_rfl) (by kernel_rfl) (Lq os _))
  (by rw[Tryd.params3]) (by kernel_rfl) (by kernel_rfl) Tryd.underlying4 ⟨Tl,⟨Tn,⟨Tm,trivial⟩⟩⟩ PO (by kernel_rfl) rfl
  (λxs h=>by match xs,h with|[x0,x1,dV],_=>rfl)
  (λW zs vs hz hat _ eW=>by
    have A:=Kv eW
    exact Pq (sh:=sh) (SB:=SB) (c:=uY) (QQ (hg:=Fq W) (h_u17alive:=A.CT) (h_gt:=A.zK) (h_aAgree:=A.vN) (h_aLogout:=A.yT) (h_aReg:=A.vP) (h_aWhose:=A.vQ) (h_aAgreed:=A.vO)) rfl rfl hz hat (Q3 (by decide)) rfl)
theorem Ki:Rows.AccountOwnSaid:=
 OpenClaim.holds_of_wide 3 Tryd.f3 rfl rfl rfl rfl rfl rfl rfl ⟨rfl,rfl,rfl,rfl,rfl⟩ rfl rfl rfl rfl rfl (by kernel_rfl) Tryd.func3 (by kernel_rfl)
  (of_decide_eq_true (by kernel_rfl)) (by unfold Func.isWrapper;first|(rw[if_pos (by decide+kernel)];kernel_rfl)|(rw[if_neg (by decide+kernel)];exact⟨rfl,rfl⟩))
  (λos started H enc _=>Kh os started H enc)
theorem accountOwn_holds:Rows.AccountOwnCardSaid:=
 Claim7.holds_tied_plain_at .later [] [.data,.pinned] true (true,"0f7e97e65f9467aa4bf26e21834aff87c7b9c1b66add81e6a7c350abc260f8f9") false
  Ki (λ_ h=>by cases h) (by kernel_rfl) (λ_ h=>by cases h) accountOwn_row_tie rfl ⟨rfl,rfl⟩ (by kernel_rfl) rfl
  (λf fn hf p4=>by
    obtain rfl:f=3:=Option.some.inj ((show Tryd.prog.funcNamed "vouchsafe/vouchsafelaw17.AccountOwn" =some 3 by kernel_rfl).symm.trans hf) |>.symm
    obtain rfl:fn=Tryd.f3:=(Option.some.inj (Tryd.func3.symm.trans p4)).symm
    exact⟨by kernel_rfl,λj t ht=>by
     rw[Tryd.params3]at ht
     have hm:t∈([22,23,9]:List TypeId):=by simpa using Array.mem_of_getElem? ht
     have hall:(([22,23,9]:List TypeId).all λu=> !Tryd.prog.wantsStandIn u)=true:=by kernel_rfl
     exact(show Tryd.prog.wantsStandIn t=false by simpa using List.all_eq_true.1 hall t hm)⟩)
  (by kernel_rfl)
end Go.Proofs.YtejjagiggkgdmaaDoor
