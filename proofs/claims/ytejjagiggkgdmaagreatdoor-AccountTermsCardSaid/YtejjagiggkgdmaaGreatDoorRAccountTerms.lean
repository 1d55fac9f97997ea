/- AccountTerms: for every input the law returns true,and each argument reads behind the call as it read before; the listed variables are tied to the program's text. -/
import Derived.Test.YtejjagiggkgdmaaGreatDoorPae

set_option maxRecDepth 100000
namespace Go.Proofs.YtejjagiggkgdmaaGreatDoor
open Go Go.bo Go.bG Go.ChangeShapes Go.RowKit
theorem Nw (os:Os) (started:os.Started) (H:Type) (enc:TypeId×Value->H):
 ReturnsInHanded {} Tryz.checked os 3 .any (λw args=>(Rows.accountTermsSpec.pre enc Tryz.prog Tryz.f3 [] false w args/\laidMetH Tryz.prog laid w)/\sizedMet enc Tryz.prog Tryz.f3 (OpenSpec.ofChange Rows.accountTermsSpec) false w args)
  (Rows.accountTermsSpec.post enc Tryz.prog Tryz.f3 false true false false):=
 S7 (C:=Tryz.checked) (X:=λw _=>laidMetH Tryz.prog laid w) (ts:=[22,9,23]) (tb:=4) (bs:=[.rd [.str,.str,.sub 1],.d .str,.rd [.str]]) (λ_ _ _ al h=>h.of_heap al) own started (by kernel_rfl) Tryz.func3
  (ChangeSpec.witness_shaped (enc:=enc) (C:=Tryz.checked) (os:=os) (X:=λw _=>laidMetH Tryz.prog laid w) false (World.laidAll Tryz.prog os laid) #[.slice none 0 0,.string ⟨#[]⟩,.slice none 0 0] 8 (World.laidAll_os _ _ _) (World.shaped_of_ZipB (by kernel_rfl) (by kernel_rfl)) (by kernel_rfl) (by kernel_rfl) (by kernel_rfl) (OO os _))
  (by rw[Tryz.params3]) (by kernel_rfl) (by kernel_rfl) Tryz.underlying4 ⟨Yf,⟨Yg,⟨Ye,trivial⟩⟩⟩ TF (by kernel_rfl) rfl
  (λxs h=>by match xs,h with|[x0,x1,cU],_=>rfl)
  (λW zs vs hz hat _ fU=>by
    have A:=NO fU
    exact S6 (sh:=sh) (SB:=SB) (c:=wO) (Vb (hg:=Im W) (h_u17alive:=A.Fl) (h_gt:=A.B1) (h_kCopy:=A.DA) (h_aAgree:=A.xO) (h_kAgree:=A.Dy) (h_kSame:=A.DB) (h_aAgreed:=A.xP) (h_kAgreed:=A.Dz) (h_aRight:=A.va)) rfl rfl hz hat (Vu (by decide)) rfl)
theorem Nx:Rows.AccountTermsSaid:=
 OpenClaim.holds_of_wide 3 Tryz.f3 rfl rfl rfl rfl rfl rfl rfl ⟨rfl,rfl,rfl,rfl,rfl⟩ rfl rfl rfl rfl rfl (by kernel_rfl) Tryz.func3 (by kernel_rfl)
  (of_decide_eq_true (by kernel_rfl)) (by unfold Func.isWrapper;first|(rw[if_pos (by decide+kernel)];kernel_rfl)|(rw[if_neg (by decide+kernel)];exact⟨rfl,rfl⟩))
  (λos started H enc _=>Nw os started H enc)
theorem accountTerms_holds:Rows.AccountTermsCardSaid:=
 Claim7.holds_tied_plain_at .later [] [.data,.pinned] true (true,"f7997e894253789490aba42dcead056852cec9687b29d9619193ffbf7f02626b") false
  Nx (λ_ h=>by cases h) (by kernel_rfl) (λ_ h=>by cases h) accountTerms_row_tie rfl ⟨rfl,rfl⟩ (by kernel_rfl) rfl
  (λf fn hf rv=>by
    obtain rfl:f=3:=Option.some.inj ((show Tryz.prog.funcNamed "vouchsafe/vouchsafelaw17.AccountTerms" =some 3 by kernel_rfl).symm.trans hf) |>.symm
    obtain rfl:fn=Tryz.f3:=(Option.some.inj (Tryz.func3.symm.trans rv)).symm
    exact⟨by kernel_rfl,λj t ht=>by
     rw[Tryz.params3]at ht
     have hm:t∈([22,9,23]:List TypeId):=by simpa using Array.mem_of_getElem? ht
     have hall:(([22,9,23]:List TypeId).all λu=> !Tryz.prog.wantsStandIn u)=true:=by kernel_rfl
     exact(show Tryz.prog.wantsStandIn t=false by simpa using List.all_eq_true.1 hall t hm)⟩)
  (by kernel_rfl)
end Go.Proofs.YtejjagiggkgdmaaGreatDoor
