/- ShaSums: for every input the law returns true,and each argument reads behind the call as it read before; the listed variables are tied to the program's text. -/
import Derived.Test.YtkedgkbkibncgaaDoorPag

set_option maxRecDepth 100000
namespace Go.Proofs.YtkedgkbkibncgaaDoor
open Go Go.bx Go.cU Go.ChangeShapes Go.RowKit
theorem ac4 (os:Os) (started:os.Started) (H:Type) (enc:TypeId×Value->H):
 ReturnsInHanded {} Tryd.checked os 3 .any (λw args=>(Rows.shaSumsSpec.pre enc Tryd.prog Tryd.f3 [] false w args/\laidMetH Tryd.prog laid w)/\sizedMet enc Tryd.prog Tryd.f3 (OpenSpec.ofChange Rows.shaSumsSpec) false w args)
  (Rows.shaSumsSpec.post enc Tryd.prog Tryd.f3 false true false false):=
 Yz (C:=Tryd.checked) (X:=λw _=>laidMetH Tryd.prog laid w) (t:=22) (tb:=4) (e:=25) (u:=5) (λ_ _ _ ah h=>h.of_heap ah) own started (by kernel_rfl) Tryd.func3
  (ChangeSpec.witness_shaped (enc:=enc) (C:=Tryd.checked) (os:=os) (X:=λw _=>laidMetH Tryd.prog laid w) false (World.laidAll Tryd.prog os laid) #[.slice none 0 0] 8 (World.laidAll_os _ _ _) (World.shaped_of_ZipB (by kernel_rfl) (by kernel_rfl)) (by kernel_rfl) (by kernel_rfl) (by kernel_rfl) (S1 os _))
  (by rw[Tryd.params3]) (by kernel_rfl) (by kernel_rfl) Tryd.underlying4 Tryd.underlying22 Tryd.underlying25 Tryd.underlying5 (by kernel_rfl) (by kernel_rfl) (by kernel_rfl) YH (by kernel_rfl) rfl
  (λx=>rfl)
  (λW v L hL hX jJ=>by
    have A:=R3 jJ hX
    have hg:=M6 hX
    have XE:=Zw hL
    have XL:=ZA hL
    have ON:=Zx hL
    have XJ:=Zy (q:=lb v L) hg (h_spd32:=A.Du) (h_jjoin:=ON) (h_all32:=A.Bm)
    have XK:=Zz (q:=lb v L) hg (h_spd64:=A.Dv) (h_jjoin:=ON) (h_all64:=A.Bn)
    exact Yy (sh:=sh) (SB:=SB) (j:=Ag) (ZB (q:=lb v L) hg (h_aalive:=A.D2) (h_jgreat:=XE) (h_jwhole:=XL) (h_jsum32:=XJ) (h_rSum256:=A.HY) (h_jsum64:=XK) (h_rSum512:=A.HZ)) rfl rfl (by obtain⟨p,c,h,_⟩:=hL;rw[h];rfl) abN trivial (aal (by decide)) rfl)
theorem ac5:Rows.ShaSumsSaid:=
 OpenClaim.holds_of_wide 3 Tryd.f3 rfl rfl rfl rfl rfl rfl rfl ⟨rfl,rfl,rfl,rfl,rfl⟩ rfl rfl rfl rfl rfl (by kernel_rfl) Tryd.func3 (by kernel_rfl)
  (of_decide_eq_true (by kernel_rfl)) (by unfold Func.isWrapper;first|(rw[if_pos (by decide+kernel)];kernel_rfl)|(rw[if_neg (by decide+kernel)];exact⟨rfl,rfl⟩))
  (λos started H enc _=>ac4 os started H enc)
theorem shaSums_holds:Rows.ShaSumsCardSaid:=
 Claim7.holds_tied_plain_at .later [] [.data,.data,.data,.data] true (true,"f09bc7b49a561aac18f128ad369613dbe3a61d338c1b8472c29eb5757b0446e9") false
  ac5 (λ_ h=>by cases h) (by kernel_rfl) (λ_ h=>by cases h) shaSums_row_tie rfl ⟨rfl,rfl⟩ (by kernel_rfl) rfl
  (λf fn hf hfn=>by
    obtain rfl:f=3:=Option.some.inj ((show Tryd.prog.funcNamed "vouchsafe/vouchsafelaw07.ShaSums" =some 3 by kernel_rfl).symm.trans hf) |>.symm
    obtain rfl:fn=Tryd.f3:=(Option.some.inj (Tryd.func3.symm.trans hfn)).symm
    exact⟨by kernel_rfl,λj t ht=>by
     rw[Tryd.params3]at ht
     have hm:t∈([22]:List TypeId):=by simpa using Array.mem_of_getElem? ht
     have hall:(([22]:List TypeId).all λu=> !Tryd.prog.wantsStandIn u)=true:=by kernel_rfl
     exact(show Tryd.prog.wantsStandIn t=false by simpa using List.all_eq_true.1 hall t hm)⟩)
  (by kernel_rfl)
end Go.Proofs.YtkedgkbkibncgaaDoor
