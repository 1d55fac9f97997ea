/- LookupHashes: for every input the law returns true,and each argument reads behind the call as it read before; the listed variables are tied to the program's text. -/
import Derived.Test.YtiljgcomigmidaaGreatDoorPag
set_option maxRecDepth 100000
namespace Go.Proofs.YtiljgcomigmidaaGreatDoor
open Go Go.aW Go.aX Go.ChangeShapes Go.RowKit
theorem anV (os:Os) (started:os.Started) (H:Type) (enc:TypeId×Value->H):
 ReturnsInHanded {} Tryz.checked os 6 .any (λw args=>(Rows.lookupHashesSpec.pre enc Tryz.prog Tryz.f6 [] false w args/\laidMetH Tryz.prog laid w)/\sizedMet enc Tryz.prog Tryz.f6 (OpenSpec.ofChange Rows.lookupHashesSpec) false w args)
  (Rows.lookupHashesSpec.post enc Tryz.prog Tryz.f6 false true false false):=
 am7 (C:=Tryz.checked) (X:=λw _=>laidMetH Tryz.prog laid w) (ts:=[9,39]) (tb:=4) (bs:=[.d .str,.d (.mix [.str,.str])]) (λ_ _ _ ag h=>h.of_heap ag) own started (by kernel_rfl) Tryz.func6
  (ChangeSpec.witness_shaped (enc:=enc) (C:=Tryz.checked) (os:=os) (X:=λw _=>laidMetH Tryz.prog laid w) false (World.laidAll Tryz.prog os laid) #[.string ⟨#[]⟩,.agg #[.string ⟨#[]⟩,.string ⟨#[]⟩]] 8 (World.laidAll_os _ _ _) (World.shaped_of_ZipB (by kernel_rfl) (by kernel_rfl)) (by kernel_rfl) (by kernel_rfl) (by kernel_rfl) (agA os _))
  (by rw[Tryz.params6]) (by kernel_rfl) (by kernel_rfl) Tryz.underlying4 ⟨au1,⟨au0,trivial⟩⟩ anL (by kernel_rfl) rfl
  (λxs h=>by match xs,h with|[x0,x1],_=>rfl)
  (λW zs vs hz hat hX iq=>by
    have A:=aeY iq hX
    exact am6 (sh:=sh) (SB:=SB) (c:=YZ) (apC A.Qc A.JS A.Q7 A.J1 A.Sj A.Sd A.PO A.JJ A.PM A.PN A.JK) rfl rfl hz hat (aqt (by decide)) rfl)
theorem anW:Rows.LookupHashesSaid:=
 OpenClaim.holds_of_wide 6 Tryz.f6 rfl rfl rfl rfl rfl rfl rfl ⟨rfl,rfl,rfl,rfl,rfl⟩ rfl rfl rfl rfl rfl (by kernel_rfl) Tryz.func6 (by kernel_rfl)
  (of_decide_eq_true (by kernel_rfl)) (by unfold Func.isWrapper;first|(rw[if_pos (by decide+kernel)];kernel_rfl)|(rw[if_neg (by decide+kernel)];exact⟨rfl,rfl⟩))
  (λos started H enc _=>anV os started H enc)
theorem lookupHashes_holds:Rows.LookupHashesCardSaid:=
 Claim7.holds_tied_plain_at .later [] [.data,.data,.data,.data,.data,.pinned] true (true,"099ea9885433c94ef13ed6c70db689e4d34a31dd311e37e2257a0885044cf98f") false
  anW (λ_ h=>by cases h) (by kernel_rfl) (λ_ h=>by cases h) lookupHashes_row_tie rfl ⟨rfl,rfl⟩ (by kernel_rfl) rfl
  (λf fn hf hfn=>by
    obtain rfl:f=6:=Option.some.inj ((show Tryz.prog.funcNamed "vouchsafe/vouchsafelaw19.LookupHashes" =some 6 by kernel_rfl).symm.trans hf) |>.symm
    obtain rfl:fn=Tryz.f6:=(Option.some.inj (Tryz.func6.symm.trans hfn)).symm
    exact⟨by kernel_rfl,λj t ht=>by
     rw[Tryz.params6]at ht
     have hm:t∈([9,39]:List TypeId):=by simpa using Array.mem_of_getElem? ht
     have hall:(([9,39]:List TypeId).all λu=> !Tryz.prog.wantsStandIn u)=true:=by kernel_rfl
     exact(show Tryz.prog.wantsStandIn t=false by simpa using List.all_eq_true.1 hall t hm)⟩)
  (by kernel_rfl)
end Go.Proofs.YtiljgcomigmidaaGreatDoor
