/- EdsigOne: for every input the law returns true,and each argument reads behind the call as it read before; the listed variables are tied to the program's text. -/
import Derived.Test.YtacpildnjohidaaDoorPag
set_option maxRecDepth 100000
namespace Go.Proofs.YtacpildnjohidaaDoor
open Go Go.b6 Go.eV Go.ChangeShapes Go.RowKit
theorem apA (os:Os) (started:os.Started) (H:Type) (enc:TypeId×Value->H):
 ReturnsInHanded {} Tryd.checked os 4 .any (λw args=>(Rows.edsigOneSpec.pre enc Tryd.prog Tryd.f4 [] false w args/\laidMetH Tryd.prog laid w)/\sizedMet enc Tryd.prog Tryd.f4 (OpenSpec.ofChange Rows.edsigOneSpec) false w args)
  (Rows.edsigOneSpec.post enc Tryd.prog Tryd.f4 false true false false):=
 avu (C:=Tryd.checked) (X:=λw _=>laidMetH Tryd.prog laid w) (ts:=[22,23,22]) (tb:=4) (bs:=[.d (.agg .u8 32 0 255),.rd [.int .u8 0 255],.d (.agg .u8 32 0 255)]) (λ_ _ _ ae h=>h.of_heap ae) own started (by kernel_rfl) Tryd.func4
  (ChangeSpec.witness_shaped (enc:=enc) (C:=Tryd.checked) (os:=os) (X:=λw _=>laidMetH Tryd.prog laid w) false (World.laidAll Tryd.prog os laid) #[(.agg (Array.replicate 32 (.int .u8 0))),.slice none 0 0,(.agg (Array.replicate 32 (.int .u8 0)))] 8 (World.laidAll_os _ _ _) (World.shaped_of_ZipB (by kernel_rfl) (by kernel_rfl)) (by kernel_rfl) (by kernel_rfl) (by kernel_rfl) (apa os _))
  (by rw[Tryd.params4]) (by kernel_rfl) (by kernel_rfl) Tryd.underlying4 ⟨akW,⟨aBU,⟨akW,trivial⟩⟩⟩ avH (by kernel_rfl) rfl
  (λxs h=>by match xs,h with|[ej,ai,af],_=>rfl)
  (λW zs vs hz hat bT kh=>by
    have A:=Jf kh bT
    exact avt (sh:=sh) (SB:=SB) (c:=K4) (awG (hg:=af1 bT) (h_edAlive:=A.VB) (h_edPub:=A.Ov) (h_edSign:=A.Ow) (h_edVer:=A.Ox)) rfl rfl hz hat (axp (by decide)) rfl)
theorem apB:Rows.EdsigOneSaid:=
 OpenClaim.holds_of_wide 4 Tryd.f4 rfl rfl rfl rfl rfl rfl rfl ⟨rfl,rfl,rfl,rfl,rfl⟩ rfl rfl rfl rfl rfl (by kernel_rfl) Tryd.func4 (by kernel_rfl)
  (of_decide_eq_true (by kernel_rfl)) (by unfold Func.isWrapper;first|(rw[if_pos (by decide+kernel)];kernel_rfl)|(rw[if_neg (by decide+kernel)];exact⟨rfl,rfl⟩))
  (λos started H enc _=>apA os started H enc)
theorem edsigOne_holds:Rows.EdsigOneCardSaid:=
 Claim7.holds_tied_plain_at .later [] [.data,.wider,.wider,.data,.data,.data] true (true,"e42f279e5c07b0af864d38699f5b99199ddf173befbf1434c9d7bf9a6347b7c2") false
  apB (λ_ h=>by cases h) (by kernel_rfl) (λ_ h=>by cases h) edsigOne_row_tie rfl ⟨rfl,rfl⟩ (by kernel_rfl) rfl
  (λf fn hf Cu=>by
    obtain rfl:f=4:=Option.some.inj ((show Tryd.prog.funcNamed "vouchsafe/vouchsafelaw11.EdsigOne" =some 4 by kernel_rfl).symm.trans hf) |>.symm
    obtain rfl:fn=Tryd.f4:=(Option.some.inj (Tryd.func4.symm.trans Cu)).symm
    exact⟨by kernel_rfl,λj t aA=>by
     rw[Tryd.params4]at aA
     have hm:t∈([22,23,22]:List TypeId):=by simpa using Array.mem_of_getElem? aA
     have iE:(([22,23,22]:List TypeId).all λu=> !Tryd.prog.wantsStandIn u)=true:=by kernel_rfl
     exact(show Tryd.prog.wantsStandIn t=false by simpa using List.all_eq_true.1 iE t hm)⟩)
  (by kernel_rfl)
end Go.Proofs.YtacpildnjohidaaDoor
