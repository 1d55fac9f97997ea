/- LookupJust: for every input the law returns true,and each argument reads behind the call as it read before; the listed variables are tied to the program's text. -/
import Derived.Test.YtiljgcomigmidaaGreatDoorPag
set_option maxRecDepth 100000
namespace Go.Proofs.YtiljgcomigmidaaGreatDoor
open Go Go.bg Go.bH Go.ChangeShapes Go.RowKit
theorem akv (os:Os) (started:os.Started) (H:Type) (enc:TypeId×Value->H):
 ReturnsInHanded {} Tryz.checked os 4 .any (λw args=>(Rows.lookupJustSpec.pre enc Tryz.prog Tryz.f4 [] false w args/\laidMetH Tryz.prog laid w)/\sizedMet enc Tryz.prog Tryz.f4 (OpenSpec.ofChange Rows.lookupJustSpec) false w args)
  (Rows.lookupJustSpec.post enc Tryz.prog Tryz.f4 false true false false):=
 ajy (C:=Tryz.checked) (X:=λw _=>laidMetH Tryz.prog laid w) (ts:=[22,9,23]) (tb:=4) (bs:=[.rd [.str,.str,.str,.int .i64 (-9223372036854775808) 9223372036854775807],.d .str,.rd [.str]]) (λ_ _ _ ah h=>h.of_heap ah) own started (by kernel_rfl) Tryz.func4
  (ChangeSpec.witness_shaped (enc:=enc) (C:=Tryz.checked) (os:=os) (X:=λw _=>laidMetH Tryz.prog laid w) false (World.laidAll Tryz.prog os laid) #[.slice none 0 0,.string ⟨#[]⟩,.slice none 0 0] 8 (World.laidAll_os _ _ _) (World.shaped_of_ZipB (by kernel_rfl) (by kernel_rfl)) (by kernel_rfl) (by kernel_rfl) (by kernel_rfl) (adv os _))
  (by rw[Tryz.params4]) (by kernel_rfl) (by kernel_rfl) Tryz.underlying4 ⟨aq6,⟨aq8,⟨aq7,trivial⟩⟩⟩ akl (by kernel_rfl) rfl
  (λxs h=>by match xs,h with|[x0,x1,x2],_=>rfl)
  (λW zs vs hz hat bL km=>by
    have A:=abZ km bL
    exact ajx (sh:=sh) (SB:=SB) (c:=EF) (aml (hg:=UL bL) (h_lkalive:=A.Pc) (h_lkgreat:=A.Pd) (h_lLookN:=A.Iy) (h_jGet:=A.Io) (h_xR:=A.Q0)) rfl rfl hz hat (am5 (by decide)) rfl)
theorem akw:Rows.LookupJustSaid:=
 OpenClaim.holds_of_wide 4 Tryz.f4 rfl rfl rfl rfl rfl rfl rfl ⟨rfl,rfl,rfl,rfl,rfl⟩ rfl rfl rfl rfl rfl (by kernel_rfl) Tryz.func4 (by kernel_rfl)
  (of_decide_eq_true (by kernel_rfl)) (by unfold Func.isWrapper;first|(rw[if_pos (by decide+kernel)];kernel_rfl)|(rw[if_neg (by decide+kernel)];exact⟨rfl,rfl⟩))
  (λos started H enc _=>akv os started H enc)
theorem lookupJust_holds:Rows.LookupJustCardSaid:=
 Claim7.holds_tied_plain_at .later [] [.data,.data,.data,.pinned] true (true,"099ea9885433c94ef13ed6c70db689e4d34a31dd311e37e2257a0885044cf98f") false
  akw (λ_ h=>by cases h) (by kernel_rfl) (λ_ h=>by cases h) lookupJust_row_tie rfl ⟨rfl,rfl⟩ (by kernel_rfl) rfl
  (λf fn hf Aq=>by
    obtain rfl:f=4:=Option.some.inj ((show Tryz.prog.funcNamed "vouchsafe/vouchsafelaw19.LookupJust" =some 4 by kernel_rfl).symm.trans hf) |>.symm
    obtain rfl:fn=Tryz.f4:=(Option.some.inj (Tryz.func4.symm.trans Aq)).symm
    exact⟨by kernel_rfl,λj t ht=>by
     rw[Tryz.params4]at ht
     have hm:t∈([22,9,23]:List TypeId):=by simpa using Array.mem_of_getElem? ht
     have hall:(([22,9,23]:List TypeId).all λu=> !Tryz.prog.wantsStandIn u)=true:=by kernel_rfl
     exact(show Tryz.prog.wantsStandIn t=false by simpa using List.all_eq_true.1 hall t hm)⟩)
  (by kernel_rfl)
end Go.Proofs.YtiljgcomigmidaaGreatDoor
