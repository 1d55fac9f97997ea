/- Pah: a part of the proof of statements of this seat. -/
import Derived.Test.YtacpildnjohidaaGreatDoorPae
import Derived.Test.YtacpildnjohidaaGreatDoorProg
import Derived.KernelRfl
import Derived.Test.YtacpildnjohidaaGreatDoorPac
import Derived.Test.YtacpildnjohidaaGreatDoorPad
open Go renaming World->aC
open List renaming getD_cons_zero->gp,getD_cons_succ->hq,take_succ_cons->l5,take_of_length_le->mu,flatten_cons->nH,take_append_drop->nI,length_drop->pq,take_zero->qy,drop_drop->CF,drop_of_length_le->GW,take_add->ai1
open List.cons renaming injEq->hD
set_option maxRecDepth 100000
namespace Go.ou
open Go Go.bX Go.Proofs
theorem aRM (S K):(kQ nt.bds λzs=>(nt.tree Tryz.prog gl (b3 [] [] 102 103 73) lS 600 6).holds S (kz nt.res (K zs)) (λ_ _=>False) (b0 (λ_=>0) 0 zs))=aam S K:=by kernel_rfl
theorem aRN (S K):(kQ BT.bds λzs=>(BT.tree Tryz.prog gl (b3 [] [] 102 103 73) lS 600 6).holds S (kz BT.res (K zs)) (λ_ _=>False) (b0 (λ_=>0) 0 zs))=aan S K:=by kernel_rfl
theorem aRO (S K):(kQ DR.bds λzs=>(DR.tree Tryz.prog gl (b3 [] [] 102 103 73) lS 600 6).holds S (kz DR.res (K zs)) (λ_ _=>False) (b0 (λ_=>0) 0 zs))=aao S K:=by kernel_rfl
theorem aRP (S K):(kQ (aX jr.args) λzs=>(jr.tree Tryz.prog gl (b3 [] [] 102 103 73) lS 600 6).holds S (kz jr.res (K zs)) (λ_ _=>False) (b0 (λ_=>0) 0 zs))=aap S K:=by kernel_rfl
theorem aRR (S K):(kQ (aX js.args) λzs=>(js.tree Tryz.prog gl (b3 [] [] 102 103 73) lS 600 6).holds S (kz js.res (K zs)) (λ_ _=>False) (b0 (λ_=>0) 0 zs))=aar S K:=by kernel_rfl
theorem aRI (S K):(kQ (aX iY.args) λzs=>(iY.tree Tryz.prog gl (b3 [] [] 102 103 73) lS 600 6).holds S (kz iY.res (K zs)) (λ_ _=>False) (b0 (λ_=>0) 0 zs))=aai S K:=by kernel_rfl
theorem aRS (S K):(kQ (aX DS.args) λzs=>(DS.tree Tryz.prog gl (b3 [] [] 102 103 73) lS 600 6).holds S (kz DS.res (K zs)) (λ_ _=>False) (b0 (λ_=>0) 0 zs))=aas S K:=by kernel_rfl
theorem aRK (S K):(kQ (aX DF.args) λzs=>(DF.tree Tryz.prog gl (b3 [] [] 102 103 73) lS 600 6).holds S (kz DF.res (K zs)) (λ_ _=>False) (b0 (λ_=>0) 0 zs))=aak S K:=by kernel_rfl
theorem aRU (S K):(kQ (aX xk.args) λzs=>(xk.tree Tryz.prog gl (b3 [] [DF,js,jr] 102 103 73) lS 600 6).holds S (kz xk.res (K zs)) (λ_ _=>False) (b0 (λ_=>0) 0 zs))=aau S K:=by kernel_rfl
theorem aRL (S K):(kQ (aX DQ.args) λzs=>(DQ.tree Tryz.prog gl (b3 [] [xk] 102 103 73) lS 600 6).holds S (kz DQ.res (K zs)) (λ_ _=>False) (b0 (λ_=>0) 0 zs))=aal S K:=by kernel_rfl
theorem aRV (S K):(kQ (aX n1.args) λzs=>(n1.tree Tryz.prog gl (b3 [nt] [jr] 102 103 73) lS 600 6).holds S (kz n1.res (K zs)) (λ_ _=>False) (b0 (λ_=>0) 0 zs))=aav S K:=by kernel_rfl
theorem aRT (S K):(kQ (aX oD.args) λzs=>(oD.tree Tryz.prog gl (b3 [BT,DR] [xk,iY] 102 103 73) lS 600 6).holds S (kz oD.res (K zs)) (λ_ _=>False) (b0 (λ_=>0) 0 zs))=aat S K:=by kernel_rfl
theorem aRQ (S K):(kQ (aX FT.args) λzs=>(FT.tree Tryz.prog gl (b3 [nt] [DS,xk,DQ,js,iY] 102 103 73) lS 600 6).holds S (kz FT.res (K zs)) (λ_ _=>False) (b0 (λ_=>0) 0 zs))=aaq S K:=by kernel_rfl
theorem aRJ (S K):(kQ (aX FO.args) λzs=>(FO.tree Tryz.prog gl (b3 [] [] 102 103 73) lS 600 6).holds S (kz FO.res (K zs)) (λ_ _=>False) (b0 (λ_=>0) 0 zs))=aaj S K:=by kernel_rfl
end Go.ou
set_option linter.unusedVariables false
namespace Go.ou
open Go Go.bX Go.Proofs
theorem aO {α:Type} {p:α->Prop}:∀x∈([]:List α),p x:=λ_ h=>by cases h
theorem fE:Tryz.prog.follows .mixedOrders=true:=by kernel_rfl
theorem ov:JW Tryz.prog 103:=alg Tryz.func103 (by kernel_rfl) (by kernel_rfl) (by kernel_rfl) (by kernel_rfl)
theorem oN:J4 Tryz.prog 73:=auh Tryz.func73 (by kernel_rfl) (by kernel_rfl) (by kernel_rfl) (by kernel_rfl)
theorem oG:J0 Tryz.prog 102:=ar9 fE (enters (by kernel_rfl)) (λK=>by kernel_rfl)
theorem xq {n:Nat} {l l':List Int} (h:ay (aT 0 0xffffffffffffffff n) l) (aP:ay (aT 0 0xffffffffffffffff n) l') (e:ad l=ad l'):l=l':=QG (b:=0x10000000000000000) (by decide) h aP e
theorem ti {n:Nat} {l l':List Int} (h:ay (aT 0 255 n) l) (aP:ay (aT 0 255 n) l') (e:nb l=nb l'):l=l':=QG (b:=256) (by decide) h aP e
theorem Ps {X:Int} {rs c0:List Int} (h:ay (aX [ij]) rs) (aP:ay (aX [ij]) c0) (e:ad rs=X) (c8:ad c0=X):rs=c0:=xq (n:=4) h aP (e.trans c8.symm)
theorem aFS {X:Int} {rs c0:List Int} (h:ay (aX [y0]) rs) (aP:ay (aX [y0]) c0) (e:ad rs=X) (c8:ad c0=X):rs=c0:=xq (n:=8) h aP (e.trans c8.symm)
theorem ael {X:Int} {rs c0:List Int} (h:ay (aX [gK]) rs) (aP:ay (aX [gK]) c0) (e:nb rs=X) (c8:nb c0=X):rs=c0:=ti (n:=32) h aP (e.trans c8.symm)
theorem ap5 {X:List Int} {rs c0:List Int} (e:rs=X) (c8:c0=X):rs=c0:=e.trans c8.symm
theorem UU {rs:List Int} (h:ay (aX [ij,c1]) rs):∃a b c d x,rs=[a,b,c,d,x]/\0<=x/\x<=1/\ay (aT 0 0xffffffffffffffff 4) [a,b,c,d]/\0<=ad [a,b,c,d]/\ad [a,b,c,d]<0x10000000000000000000000000000000000000000000000000000000000000000:=by
 match rs,h with
 |[a,b,c,d,x],h=>
  obtain⟨a0,bR,dM,b4,dK,c1,d0,d1,dp,ak,_⟩:=h;exact⟨a,b,c,d,x,rfl,dp,ak,⟨a0,bR,dM,b4,dK,c1,d0,d1,trivial⟩,mG a0 bR dM b4 dK c1 d0 d1⟩
theorem aFQ {zs rs c0:List Int} (h:ay (aX [ij,c1]) rs) (aP:ay (aX [ij,c1]) c0) (e:q8 zs rs) (c8:q8 zs c0):rs=c0:=by
 obtain⟨a,b,c,d,x,rfl,dp,ak,hb,h0,h1⟩:=UU h;obtain⟨eE,b',ek,tQ,hk,rfl,aVK,aVL,nT,aCF,Fq⟩:=UU aP;simp only[q8,l5,qy,hq,gp]at e c8;have ex:x=hk:=by omega
 subst ex;have:=xq hb nT (by omega);simp only[hD,and_true]at this;simp[this]
theorem aFR {zs rs c0:List Int} (h:ay (aX [ij,c1]) rs) (aP:ay (aX [ij,c1]) c0) (e:q9 zs rs) (c8:q9 zs c0):rs=c0:=by
 obtain⟨a,b,c,d,x,rfl,dp,ak,hb,h0,h1⟩:=UU h;obtain⟨eE,b',ek,tQ,hk,rfl,aVK,aVL,nT,aCF,Fq⟩:=UU aP;simp only[q9,l5,qy,hq,gp]at e c8;have ex:x=hk:=by omega
 subst ex;have:=xq hb nT (by omega);simp only[hD,and_true]at this;simp[this]
theorem aFP {zs rs c0:List Int} (h:ay (aX [ij,y0]) rs) (aP:ay (aX [ij,y0]) c0) (e:vO zs rs) (c8:vO zs c0):rs=c0:=by
 obtain⟨h1,h2⟩:=BQ (b:=ij.bds) (b':=y0.bds++[]) h;obtain⟨Fq,HR⟩:=BQ (b:=ij.bds) (b':=y0.bds++[]) aP;have av:=xq (n:=4) h1 Fq (e.1.trans c8.1.symm);have aH:=xq (n:=8) (l:=rs.drop 4) (l':=c0.drop 4) h2 HR (e.2.trans c8.2.symm);rw[<-nI 4 rs,<-nI 4 c0,aH]
 congr 1
theorem adF {X:Int} (h0:0<=X) (h1:X<0x10000000000000000000000000000000000000000000000000000000000000000):∃rs,ay (aX [ij]) rs/\ad rs=X:=
 ⟨KB 0x10000000000000000 4 X,by have:=anj (b:=0x10000000000000000) (by decide) 4 X;exact this,asw (b:=0x10000000000000000) (by decide) 4 X h0 h1⟩
theorem LW {l:List Int} (h:ay (aT 0 255 32) l):0<=nb l/\nb l<0x10000000000000000000000000000000000000000000000000000000000000000:=asl h
section
variable {wb:aC} (hg:fJ gl ⟨wb,wb,λ_=>False,λ_=>False,[]⟩)
include hg
theorem Wc:nt.bH Tryz.prog wb (cQ 22):=by
 refine lB.pL (S:=cQ) (c:=nt) (cal:=(b3 [] [] 102 103 73)) (spec:=cQ 22) (li:=lS) (rounds:=600) (d:=6) fE (λr ex ro=>oV oG ov oN aO aO) hg (enters (by kernel_rfl)) (λzs rs c0 hz h aP e c8=>Ps h aP e c8) (λzs hz=>adF (LW (by simpa [lB.bds,nt,aX]using hz)).1 (LW (by simpa [lB.bds,nt,aX]using hz)).2) ?_;rw[aRM];exact agH
omit hg in
theorem Uq {zs:List Int} (h:ay BT.bds zs):ay (aT 0 255 32) (zs.take 32)/\ay (aT 0 255 32) (zs.drop 32):=by
 have aP:ay (aT 0 255 32++aT 0 255 32) zs:=h;exact BQ aP
theorem aJ4:BT.bH Tryz.prog wb (cQ 122):=by
 refine lB.pL (S:=cQ) (c:=BT) (cal:=(b3 [] [] 102 103 73)) (spec:=cQ 122) (li:=lS) (rounds:=600) (d:=6) fE (λr ex ro=>oV oG ov oN aO aO) hg (enters (by kernel_rfl)) (λzs rs c0 hz h aP e c8=>Ps h aP e c8) (λzs hz=>adF (LW (Uq hz).1).1 (LW (Uq hz).1).2) ?_;rw[aRN];exact aME
theorem aJ5:DR.bH Tryz.prog wb (cQ 222):=by
 refine lB.pL (S:=cQ) (c:=DR) (cal:=(b3 [] [] 102 103 73)) (spec:=cQ 222) (li:=lS) (rounds:=600) (d:=6) fE (λr ex ro=>oV oG ov oN aO aO) hg (enters (by kernel_rfl)) (λzs rs c0 hz h aP e c8=>Ps h aP e c8) (λzs hz=>adF (LW (Uq hz).2).1 (LW (Uq hz).2).2) ?_;rw[aRO];exact aMF
theorem Wd:jr.bH Tryz.prog wb (cQ 29):=by
 refine bq.pL (S:=cQ) (c:=jr) (cal:=(b3 [] [] 102 103 73)) (spec:=cQ 29) (li:=lS) (rounds:=600) (d:=6) fE (λr ex ro=>oV oG ov oN aO aO) hg (enters (by kernel_rfl)) (λzs rs c0 hz h aP e c8=>aFQ h aP e c8) ?_;rw[aRP];exact agI
theorem We:js.bH Tryz.prog wb (cQ 24):=by
 refine bq.pL (S:=cQ) (c:=js) (cal:=(b3 [] [] 102 103 73)) (spec:=cQ 24) (li:=lS) (rounds:=600) (d:=6) fE (λr ex ro=>oV oG ov oN aO aO) hg (enters (by kernel_rfl)) (λzs rs c0 hz h aP e c8=>aFR h aP e c8) ?_;rw[aRR];exact agJ
theorem Wb:iY.bH Tryz.prog wb (cQ 26):=by
 refine bq.pL (S:=cQ) (c:=iY) (cal:=(b3 [] [] 102 103 73)) (spec:=cQ 26) (li:=lS) (rounds:=600) (d:=6) fE (λr ex ro=>oV oG ov oN aO aO) hg (enters (by kernel_rfl)) (λzs rs c0 hz h aP e c8=>ael h aP e c8) ?_;rw[aRI];exact agG
theorem aKc:DS.bH Tryz.prog wb (cQ 21):=by
 refine bq.pL (S:=cQ) (c:=DS) (cal:=(b3 [] [] 102 103 73)) (spec:=cQ 21) (li:=lS) (rounds:=600) (d:=6) fE (λr ex ro=>oV oG ov oN aO aO) hg (enters (by kernel_rfl)) (λzs rs c0 hz h aP e c8=>aFS h aP e c8) ?_;rw[aRS];exact aMM
theorem aJQ:DF.bH Tryz.prog wb (cQ 35):=by
 refine bq.pL (S:=cQ) (c:=DF) (cal:=(b3 [] [] 102 103 73)) (spec:=cQ 35) (li:=lS) (rounds:=600) (d:=6) fE (λr ex ro=>oV oG ov oN aO aO) hg (enters (by kernel_rfl)) (λzs rs c0 hz h aP e c8=>aFP h aP e c8) ?_;rw[aRK];exact aMq
theorem agq:xk.bH Tryz.prog wb (cQ 23):=by
 refine bq.pL (S:=cQ) (c:=xk) (cal:=(b3 [] [DF,js,jr] 102 103 73)) (spec:=cQ 23) (li:=lS) (rounds:=600) (d:=6) fE (λr ex ro=>oV oG ov oN aO (List.forall_mem_cons.2 ⟨(aJQ hg).f,(List.forall_mem_cons.2 ⟨(We hg).f,(List.forall_mem_cons.2 ⟨(Wd hg).f,aO⟩)⟩)⟩)) hg (enters (by kernel_rfl)) (λzs rs c0 hz h aP e c8=>Ps h aP e c8) ?_;rw[aRU];exact aM0
theorem aJ3:DQ.bH Tryz.prog wb (cQ 25):=by
 refine bq.pL (S:=cQ) (c:=DQ) (cal:=(b3 [] [xk] 102 103 73)) (spec:=cQ 25) (li:=lS) (rounds:=600) (d:=6) fE (λr ex ro=>oV oG ov oN aO (List.forall_mem_cons.2 ⟨(agq hg).f,aO⟩)) hg (enters (by kernel_rfl)) (λzs rs c0 hz h aP e c8=>Ps h aP e c8) ?_;rw[aRL];exact aMD
theorem agr:n1.bH Tryz.prog wb (cQ 13):=by
 refine bq.pL (S:=cQ) (c:=n1) (cal:=(b3 [nt] [jr] 102 103 73)) (spec:=cQ 13) (li:=lS) (rounds:=600) (d:=6) fE (λr ex ro=>oV oG ov oN (List.forall_mem_cons.2 ⟨Wc hg,aO⟩) (List.forall_mem_cons.2 ⟨(Wd hg).f,aO⟩)) hg (enters (by kernel_rfl)) (λzs rs c0 hz h aP e c8=>ap5 e c8) ?_;rw[aRV];exact agL
theorem agp:oD.bH Tryz.prog wb (cQ 11):=by
 refine bq.pL (S:=cQ) (c:=oD) (cal:=(b3 [BT,DR] [xk,iY] 102 103 73)) (spec:=cQ 11) (li:=lS) (rounds:=600) (d:=6) fE (λr ex ro=>oV oG ov oN (List.forall_mem_cons.2 ⟨aJ4 hg,(List.forall_mem_cons.2 ⟨aJ5 hg,aO⟩)⟩) (List.forall_mem_cons.2 ⟨(agq hg).f,(List.forall_mem_cons.2 ⟨(Wb hg).f,aO⟩)⟩)) hg (enters (by kernel_rfl)) (λzs rs c0 hz h aP e c8=>ael h aP e c8) ?_;rw[aRT];exact agK
theorem aJ7:FT.bH Tryz.prog wb (cQ 8):=by
 refine bq.pL (S:=cQ) (c:=FT) (cal:=(b3 [nt] [DS,xk,DQ,js,iY] 102 103 73)) (spec:=cQ 8) (li:=lS) (rounds:=600) (d:=6) fE (λr ex ro=>oV oG ov oN (List.forall_mem_cons.2 ⟨Wc hg,aO⟩) (List.forall_mem_cons.2 ⟨(aKc hg).f,(List.forall_mem_cons.2 ⟨(agq hg).f,(List.forall_mem_cons.2 ⟨(aJ3 hg).f,(List.forall_mem_cons.2 ⟨(We hg).f,(List.forall_mem_cons.2 ⟨(Wb hg).f,aO⟩)⟩)⟩)⟩)⟩)) hg (enters (by kernel_rfl)) (λzs rs c0 hz h aP e c8=>ael h aP e c8) ?_;rw[aRQ];exact aMH
theorem aJn:FO.bH Tryz.prog wb (cQ 14):=by
 refine bq.pL (S:=cQ) (c:=FO) (cal:=(b3 [] [] 102 103 73)) (spec:=cQ 14) (li:=lS) (rounds:=600) (d:=6) fE (λr ex ro=>oV oG ov oN aO aO) hg (enters (by kernel_rfl)) (λzs rs c0 hz h aP e c8=>ap5 e c8) ?_;rw[aRJ];exact aL3
end
end Go.ou
namespace Go.Fd
open Go Go.bX Go.Proofs
theorem aTe (S K):cZ sh cf S K [32] (aX nt.args) nt.res (nt.tree Tryz.prog gl (b3 [] [] 102 103 73) bB 600 6)=Y6 S K:=by kernel_rfl
theorem aOh:(nt.tree Tryz.prog gl (b3 [] [] 102 103 73) bB 600 6).plain=true:=by kernel_rfl
theorem aTq (S K):cZ sh cf S K [4] (aX tg.args) tg.res (tg.tree Tryz.prog gl (b3 [] [] 102 103 73) bB 600 6)=Ze S K:=by kernel_rfl
theorem aOn:(tg.tree Tryz.prog gl (b3 [] [] 102 103 73) bB 600 6).plain=true:=by kernel_rfl
theorem aTS (S K):cZ sh cf S K [] (aX oE.args) oE.res (oE.tree Tryz.prog gl (b3 [] [] 102 103 73) bB 600 6)=Zv S K:=by kernel_rfl
theorem aOD:(oE.tree Tryz.prog gl (b3 [] [] 102 103 73) bB 600 6).plain=true:=by kernel_rfl
theorem aTF (S K):cZ sh cf S K [4,4] (aX n2.args) n2.res (n2.tree Tryz.prog gl (b3 [] [] 102 103 73) bB 600 6)=Zr S K:=by kernel_rfl
theorem aOA:(n2.tree Tryz.prog gl (b3 [] [] 102 103 73) bB 600 6).plain=true:=by kernel_rfl
theorem aTH (S K):cZ sh cf S K [4,4] (aX n3.args) n3.res (n3.tree Tryz.prog gl (b3 [] [] 102 103 73) bB 600 6)=Zt S K:=by kernel_rfl
theorem aOB:(n3.tree Tryz.prog gl (b3 [] [] 102 103 73) bB 600 6).plain=true:=by kernel_rfl
theorem aTU (S K):cZ sh cf S K [4,4] (aX n4.args) n4.res (n4.tree Tryz.prog gl (b3 [] [] 102 103 73) bB 600 6)=Zx S K:=by kernel_rfl
theorem aOE:(n4.tree Tryz.prog gl (b3 [] [] 102 103 73) bB 600 6).plain=true:=by kernel_rfl
theorem aTt (S K):cZ sh cf S K [4] (aX rR.args) rR.res (rR.tree Tryz.prog gl (b3 [] [n2,oE,n3] 102 103 73) bB 600 6)=Zh S K:=by kernel_rfl
theorem aOq:(rR.tree Tryz.prog gl (b3 [] [n2,oE,n3] 102 103 73) bB 600 6).plain=true:=by kernel_rfl
theorem aTX (S K):cZ sh cf S K [4,4] (aX vC.args) vC.res (vC.tree Tryz.prog gl (b3 [] [n4,rR] 102 103 73) bB 600 6)=ZA S K:=by kernel_rfl
theorem aOH:(vC.tree Tryz.prog gl (b3 [] [n4,rR] 102 103 73) bB 600 6).plain=true:=by kernel_rfl
theorem aTx (S K):cZ sh cf S K [4,4] (aX rS.args) rS.res (rS.tree Tryz.prog gl (b3 [] [n2,n4,oE,n3] 102 103 73) bB 600 6)=Zj S K:=by kernel_rfl
theorem aOs:(rS.tree Tryz.prog gl (b3 [] [n2,n4,oE,n3] 102 103 73) bB 600 6).plain=true:=by kernel_rfl
theorem aTB (S K):cZ sh cf S K [4,4] (aX vA.args) vA.res (vA.tree Tryz.prog gl (b3 [] [n4,rR] 102 103 73) bB 600 6)=Zn S K:=by kernel_rfl
theorem aOw:(vA.tree Tryz.prog gl (b3 [] [n4,rR] 102 103 73) bB 600 6).plain=true:=by kernel_rfl
theorem aTV (S K):cZ sh cf S K [4,4] (aX nu.args) nu.res (nu.tree Tryz.prog gl (b3 [] [vA] 102 103 73) bB 600 6)=Zy S K:=by kernel_rfl
theorem aOF:(nu.tree Tryz.prog gl (b3 [] [vA] 102 103 73) bB 600 6).plain=true:=by kernel_rfl
end Go.Fd
namespace Go.Fd
open Go Go.bX Go.Proofs
theorem aUc (S K):cZ sh aIp S K [4,4] (aX rT.args) rT.res (rT.tree Tryz.prog gl (b3 [] [nu] 102 103 73) arx 600 6)=ZB S K:=by kernel_rfl
theorem aTD (S K):cZ sh cf S K [4] (aX vB.args) vB.res (vB.tree Tryz.prog gl (b3 [] [n3,oE,rT] 102 103 73) bB 600 6)=Zp S K:=by kernel_rfl
theorem aOy:(vB.tree Tryz.prog gl (b3 [] [n3,oE,rT] 102 103 73) bB 600 6).plain=true:=by kernel_rfl
theorem aTW (S K):cZ sh cf S K [4] (aX ys.args) ys.res (ys.tree Tryz.prog gl (b3 [] [rT,nu,rS] 102 103 73) bB 600 6)=Zz S K:=by kernel_rfl
theorem aOG:(ys.tree Tryz.prog gl (b3 [] [rT,nu,rS] 102 103 73) bB 600 6).plain=true:=by kernel_rfl
end Go.Fd
namespace Go.Fd
open Go Go.bX Go.Proofs
theorem aSB (S K):cZ sh cf S K [5] (aX la.args) la.res (la.tree Tryz.prog gl (b3 [] [] 102 103 73) bB 600 6)=YK S K:=by kernel_rfl
theorem aN7:(la.tree Tryz.prog gl (b3 [] [] 102 103 73) bB 600 6).plain=true:=by kernel_rfl
theorem aS2 (S K):cZ sh cf S K [32] (aX rP.args) rP.res (rP.tree Tryz.prog gl (b3 [] [la] 102 103 73) bB 600 6)=YW S K:=by kernel_rfl
theorem aOf:(rP.tree Tryz.prog gl (b3 [] [la] 102 103 73) bB 600 6).plain=true:=by kernel_rfl
theorem aSA (S K):cZ sh cf S K [5] (aX iY.args) iY.res (iY.tree Tryz.prog gl (b3 [] [la] 102 103 73) bB 600 6)=YJ S K:=by kernel_rfl
theorem aN6:(iY.tree Tryz.prog gl (b3 [] [la] 102 103 73) bB 600 6).plain=true:=by kernel_rfl
theorem aTl (S K):cZ sh cf S K [5,5] (aX js.args) js.res (js.tree Tryz.prog gl (b3 [] [la] 102 103 73) bB 600 6)=Zb S K:=by kernel_rfl
theorem aOl:(js.tree Tryz.prog gl (b3 [] [la] 102 103 73) bB 600 6).plain=true:=by kernel_rfl
theorem aTg (S K):cZ sh cf S K [5,5] (aX jr.args) jr.res (jr.tree Tryz.prog gl (b3 [] [la] 102 103 73) bB 600 6)=Y8 S K:=by kernel_rfl
theorem aOi:(jr.tree Tryz.prog gl (b3 [] [la] 102 103 73) bB 600 6).plain=true:=by kernel_rfl
theorem aUB (S K):cZ sh cf S K [5,5] (aX ib.args) ib.res (ib.tree Tryz.prog gl (b3 [] [la] 102 103 73) bB 600 6)=ZK S K:=by kernel_rfl
theorem aOL:(ib.tree Tryz.prog gl (b3 [] [la] 102 103 73) bB 600 6).plain=true:=by kernel_rfl
end Go.Fd
namespace Go.Fd
open Go Go.bX Go.Proofs
theorem aUw (S K):cZ sh cf S K [5] (aX mF.args) mF.res (mF.tree Tryz.prog gl (b3 [] [ib] 102 103 73) bB 600 6)=ZH S K:=by kernel_rfl
theorem aOK:(mF.tree Tryz.prog gl (b3 [] [ib] 102 103 73) bB 600 6).plain=true:=by kernel_rfl
theorem aTh (S K):cZ sh cf S K [5] (aX pJ.args) pJ.res (pJ.tree Tryz.prog gl (b3 [] [jr] 102 103 73) bB 600 6)=Y9 S K:=by kernel_rfl
theorem aOj:(pJ.tree Tryz.prog gl (b3 [] [jr] 102 103 73) bB 600 6).plain=true:=by kernel_rfl
theorem aTo (S K):cZ sh arI S K [5,4] (aX qY.args) qY.res (qY.tree Tryz.prog gl (b3 [] [mF,ib] 102 103 73) afP 600 6)=Zc S K:=by kernel_rfl
theorem aTd (S K):cZ sh cf S K [5] (aX rQ.args) rQ.res (rQ.tree Tryz.prog gl (b3 [] [qY] 102 103 73) bB 600 6)=Y5 S K:=by kernel_rfl
theorem aOg:(rQ.tree Tryz.prog gl (b3 [] [qY] 102 103 73) bB 600 6).plain=true:=by kernel_rfl
theorem aUq (S K):cZ sh cf S K [5,5] (aX q0.args) q0.res (q0.tree Tryz.prog gl (b3 [] [iY] 102 103 73) bB 600 6)=ZD S K:=by kernel_rfl
theorem aOJ:(q0.tree Tryz.prog gl (b3 [] [iY] 102 103 73) bB 600 6).plain=true:=by kernel_rfl
theorem aTk (S K):cZ sh cf S K [5] (aX qX.args) qX.res (qX.tree Tryz.prog gl (b3 [] [iY] 102 103 73) bB 600 6)=Za S K:=by kernel_rfl
theorem aOk:(qX.tree Tryz.prog gl (b3 [] [iY] 102 103 73) bB 600 6).plain=true:=by kernel_rfl
theorem aTR (S K):cZ sh cf S K [5] (aX uq.args) uq.res (uq.tree Tryz.prog gl (b3 [] [qY,mF,q0,qX,pJ,ib] 102 103 73) bB 600 6)=Zu S K:=by kernel_rfl
theorem aOC:(uq.tree Tryz.prog gl (b3 [] [qY,mF,q0,qX,pJ,ib] 102 103 73) bB 600 6).plain=true:=by kernel_rfl
theorem aTz (S K):cZ sh cf S K [32] (aX oD.args) oD.res (oD.tree Tryz.prog gl (b3 [] [rP,iY] 102 103 73) bB 600 6)=Zl S K:=by kernel_rfl
theorem aOu:(oD.tree Tryz.prog gl (b3 [] [rP,iY] 102 103 73) bB 600 6).plain=true:=by kernel_rfl
theorem aTC (S K):cZ sh cf S K [32] (aX n1.args) n1.res (n1.tree Tryz.prog gl (b3 [] [oD] 102 103 73) bB 600 6)=Zo S K:=by kernel_rfl
theorem aOx:(n1.tree Tryz.prog gl (b3 [] [oD] 102 103 73) bB 600 6).plain=true:=by kernel_rfl
end Go.Fd
namespace Go.Fd
open Go Go.bX Go.Proofs
theorem aUC (S K):cZ sh cf S K [] (aX vE.args) vE.res (vE.tree Tryz.prog gl (b3 [] [js] 102 103 73) bB 600 6)=ZL S K:=by kernel_rfl
theorem aOM:(vE.tree Tryz.prog gl (b3 [] [js] 102 103 73) bB 600 6).plain=true:=by kernel_rfl
theorem aS1 (S K):cZ sh cf S K [5,5] (aX o9.args) o9.res (o9.tree Tryz.prog gl (b3 [] [ib] 102 103 73) bB 600 6)=YV S K:=by kernel_rfl
theorem aOe:(o9.tree Tryz.prog gl (b3 [] [ib] 102 103 73) bB 600 6).plain=true:=by kernel_rfl
theorem aSC (S K):cZ sh cf S K [] (aX sF.args) sF.res (sF.tree Tryz.prog gl (b3 [] [o9] 102 103 73) bB 600 6)=YL S K:=by kernel_rfl
theorem aN8:(sF.tree Tryz.prog gl (b3 [] [o9] 102 103 73) bB 600 6).plain=true:=by kernel_rfl
theorem aSK (S K):cZ sh cf S K [] (aX vw.args) vw.res (vw.tree Tryz.prog gl (b3 [] [o9] 102 103 73) bB 600 6)=YT S K:=by kernel_rfl
theorem aOc:(vw.tree Tryz.prog gl (b3 [] [o9] 102 103 73) bB 600 6).plain=true:=by kernel_rfl
theorem aSI (S K):cZ sh cf S K [5,5,5,5] (aX rO.args) rO.res (rO.tree Tryz.prog gl (b3 [] [ib] 102 103 73) bB 600 6)=YR S K:=by kernel_rfl
theorem aOa:(rO.tree Tryz.prog gl (b3 [] [ib] 102 103 73) bB 600 6).plain=true:=by kernel_rfl
theorem aSJ (S K):cZ sh cf S K [5,5,5,5,5,5,5,5] (aX sG.args) sG.res (sG.tree Tryz.prog gl (b3 [] [jr,ib,js,vE,rO] 102 103 73) bB 600 6)=YS S K:=by kernel_rfl
theorem aOb:(sG.tree Tryz.prog gl (b3 [] [jr,ib,js,vE,rO] 102 103 73) bB 600 6).plain=true:=by kernel_rfl
theorem aSQ (S K):cZ sh cf S K [5,5,5] (aX vx.args) vx.res (vx.tree Tryz.prog gl (b3 [] [mF,js,jr,rO] 102 103 73) bB 600 6)=YU S K:=by kernel_rfl
theorem aOd:(vx.tree Tryz.prog gl (b3 [] [mF,js,jr,rO] 102 103 73) bB 600 6).plain=true:=by kernel_rfl
theorem aTf (S K):cZ sh arH S K [5,5,5,5,32] (aX pa.args) pa.res (pa.tree Tryz.prog gl (b3 [] [vw,vx,sG] 102 103 73) afO 600 6)=Y7 S K:=by kernel_rfl
theorem aSD (S K):cZ sh cf S K [5,5,5] (aX qh.args) qh.res (qh.tree Tryz.prog gl (b3 [] [rQ,ib,iY,qX] 102 103 73) bB 600 6)=YM S K:=by kernel_rfl
theorem aN9:(qh.tree Tryz.prog gl (b3 [] [rQ,ib,iY,qX] 102 103 73) bB 600 6).plain=true:=by kernel_rfl
theorem aTy (S K):cZ sh cf S K [32] (aX th.args) th.res (th.tree Tryz.prog gl (b3 [] [n1,rP,mF,jr,ib,js,rQ,uq,q0,pJ,o9] 102 103 73) bB 600 6)=Zk S K:=by kernel_rfl
theorem aOt:(th.tree Tryz.prog gl (b3 [] [n1,rP,mF,jr,ib,js,rQ,uq,q0,pJ,o9] 102 103 73) bB 600 6).plain=true:=by kernel_rfl
theorem aSH (S K):cZ sh cf S K [32] (aX Ab.args) Ab.res (Ab.tree Tryz.prog gl (b3 [] [th,pJ,qh] 102 103 73) bB 600 6)=YQ S K:=by kernel_rfl
theorem aSz (S K):cZ sh cf S K [32] (aX z8.args) z8.res (z8.tree Tryz.prog gl (b3 [] [sF,pa,qh] 102 103 73) bB 600 6)=YI S K:=by kernel_rfl
theorem aN5:(z8.tree Tryz.prog gl (b3 [] [sF,pa,qh] 102 103 73) bB 600 6).plain=true:=by kernel_rfl
theorem aSG (S K):cZ sh cf S K [32,32,32] (aX Aa.args) Aa.res (Aa.tree Tryz.prog gl (b3 [] [th,pa,sF,sG,qh] 102 103 73) bB 600 6)=YP S K:=by kernel_rfl
end Go.Fd
namespace Go.Fd
open Go Go.bX Go.Proofs
theorem aTw (S K):cZ sh cf S K [] (aX um.args) um.res (um.tree Tryz.prog gl (b3 [] [] 102 103 73) bB 600 6)=Zi S K:=by kernel_rfl
theorem aOr:(um.tree Tryz.prog gl (b3 [] [] 102 103 73) bB 600 6).plain=true:=by kernel_rfl
theorem aUp (S K):cZ sh cf S K [] (aX vD.args) vD.res (vD.tree Tryz.prog gl (b3 [] [] 102 103 73) bB 600 6)=ZC S K:=by kernel_rfl
theorem aOI:(vD.tree Tryz.prog gl (b3 [] [] 102 103 73) bB 600 6).plain=true:=by kernel_rfl
theorem aTs (S K):cZ sh cf S K [4,4,4,4,4,4] (aX vz.args) vz.res (vz.tree Tryz.prog gl (b3 [] [nu,um,rS,vC] 102 103 73) bB 600 6)=Zg S K:=by kernel_rfl
theorem aOp:(vz.tree Tryz.prog gl (b3 [] [nu,um,rS,vC] 102 103 73) bB 600 6).plain=true:=by kernel_rfl
theorem aTG (S K):cZ sh arJ S K [32,4,4,4] (aX qZ.args) qZ.res (qZ.tree Tryz.prog gl (b3 [] [vD,vz] 102 103 73) afQ 600 6)=Zs S K:=by kernel_rfl
theorem aTr (S K):cZ sh cf S K [4,4,4] (aX vy.args) vy.res (vy.tree Tryz.prog gl (b3 [] [vB,nu,tg] 102 103 73) bB 600 6)=Zf S K:=by kernel_rfl
theorem aOo:(vy.tree Tryz.prog gl (b3 [] [vB,nu,tg] 102 103 73) bB 600 6).plain=true:=by kernel_rfl
theorem aTA (S K):cZ sh cf S K [] (aX uo.args) uo.res (uo.tree Tryz.prog gl (b3 [] [] 102 103 73) bB 600 6)=Zm S K:=by kernel_rfl
theorem aOv:(uo.tree Tryz.prog gl (b3 [] [] 102 103 73) bB 600 6).plain=true:=by kernel_rfl
theorem aTp (S K):cZ sh cf S K [32] (aX Ac.args) Ac.res (Ac.tree Tryz.prog gl (b3 [] [uo,qZ,vy] 102 103 73) bB 600 6)=Zd S K:=by kernel_rfl
theorem aOm:(Ac.tree Tryz.prog gl (b3 [] [uo,qZ,vy] 102 103 73) bB 600 6).plain=true:=by kernel_rfl
theorem aTE (S K):cZ sh cf S K [] (aX yr.args) yr.res (yr.tree Tryz.prog gl (b3 [] [] 102 103 73) bB 600 6)=Zq S K:=by kernel_rfl
theorem aOz:(yr.tree Tryz.prog gl (b3 [] [] 102 103 73) bB 600 6).plain=true:=by kernel_rfl
end Go.Fd
namespace Go.Fd
open Go Go.bX Go.Proofs
theorem fE:Tryz.prog.follows .mixedOrders=true:=by kernel_rfl
theorem ov:JW Tryz.prog 103:=alg Tryz.func103 (by kernel_rfl) (by kernel_rfl) (by kernel_rfl) (by kernel_rfl)
theorem oN:J4 Tryz.prog 73:=auh Tryz.func73 (by kernel_rfl) (by kernel_rfl) (by kernel_rfl) (by kernel_rfl)
theorem oG:J0 Tryz.prog 102:=ar9 fE (enters (by kernel_rfl)) (λK=>by kernel_rfl)
theorem uK {α:Type}:∀(n6:List Nat) (l:List α),(cI n6 l).flatten=l
 |[],[]=>rfl
 |[],_::_=>by simp[cI]
 |k::n6,l=>by simp only[cI,nH,uK n6,nI]
def eL (id:Nat):List Int->List Int->Prop:=λzs rs=>SB id (cI (sh id).1 zs) (cI (sh id).2 rs)
abbrev eD (G:Nat->List Int->List Int):Nat->List Int->List Int->Prop:=du sh (fu G)
theorem awN (G:Nat->List Int->List Int):∀id a rs c0,eD G id a rs->eD G id a c0->rs=c0:=λid a rs c0 h aP=>by
 have e:=h.2;have c8:=aP.2;rw[uK,uK]at e c8;exact e.trans c8.symm
theorem XO {lsh:Nat->List Nat} {G:Nat->List Int->List Int} {id:Nat} {lens:List Nat} {bds:List (Int×Int)} {ds:List D} {t:T} (hl:lens=(sh id).1) (hd:rV ds=(sh id).2) (h:cZ sh lsh (fu G) (e6 ds id) lens bds ds t):
 ∀zs,ay bds zs->t.holds (eD G) (kz ds λrs=>ay (aX ds) rs/\eL id zs rs) (λ_ _=>False) (b0 (λ_=>0) 0 zs):=λzs hz=>by
 have h:=m6 (Nq h) hz;simp only[e6,uK]at h;rw[hl,hd]at h;exact h
theorem Nn {P:Program} {wb:aC} {c:bq} {s Jt:List Int->List Int->Prop} (h:c.bH P wb s) (hs:∀zs rs,s zs rs->Jt zs rs):c.bH P wb Jt:=
 ⟨h.1,λzs hz=>by obtain⟨rs,h1,h2,h3⟩:=h.2 zs hz;exact⟨rs,h1,hs zs rs h2,h3⟩⟩
def fr (wb:aC) (L:List bq) (G:Nat->List Int->List Int):Prop:=∀c∈L,c.bH Tryz.prog wb (eD G c.id)
theorem fr.step {wb:aC} {L:List bq} {G:Nat->List Int->List Int} {c:bq} (h:fr wb L G) (dE:(L.all λek=> !(Nat.beq ek.id c.id))=true) (h0:c.bH Tryz.prog wb (eL c.id)):∃fm,fr wb (c::L) fm:=by
 obtain⟨F,hF⟩:=h0.fn;refine⟨λid=>if id=c.id then F else G id,λek Fx=>?_⟩;rcases List.mem_cons.1 Fx with rfl|hm
 ·refine Nn hF λzs rs ⟨h1,h2⟩=>⟨h2,?_⟩;simp only[uK,if_true];exact h1
 ·refine Nn (h ek hm) λzs rs ⟨h1,h2⟩=>⟨h1,?_⟩;have hb:=List.all_eq_true.1 dE ek hm;have hn:¬ek.id=c.id:=λe=>by rw[e]at hb;simp at hb
  simp only[if_neg hn];exact h2
theorem BZ {α:Type} {l:List α} {i:Nat} {a:α} (h:l[i]?=some a):a∈l:=List.mem_of_getElem? h
theorem aO {α:Type} {p:α->Prop}:∀x∈([]:List α),p x:=λ_ h=>by cases h
theorem xK {zs:List Int} {a b:Nat} (h:zs.length=a+b):cI [a,b] zs=[zs.take a,zs.drop a]:=by
 have av:(zs.drop a).take b=zs.drop a:=mu (by rw[pq];omega);have aH:(zs.drop a).drop b=[]:=GW (by rw[pq];omega);show zs.take a::(zs.drop a).take b::cI [] ((zs.drop a).drop b)=_;rw[av,aH];rfl
theorem ra {zs:List Int} {a:Nat} (h:zs.length=a):cI [a] zs=[zs]:=by
 have av:zs.take a=zs:=mu (by omega);have aH:zs.drop a=[]:=GW (by omega);show zs.take a::cI [] (zs.drop a)=_;rw[av,aH];rfl
theorem asA {wb:aC} {G:Nat->List Int->List Int} {c:bq} {cal:gb} {li:FuncId->Nat->Option fB} {rounds d:Nat} {lsh:Nat->List Nat} {lens:List Nat} (di:∀r ex ro,im (eD G) Tryz.prog gl ⟨wb,r,ex,ro,[]⟩ cal) (hg:fJ gl ⟨wb,wb,λ_=>False,λ_=>False,[]⟩)
 (hf:∀args w,(callFunc c.f args).run Tryz.prog w= .ok (.enter c.f args) w) (hp:(c.tree Tryz.prog gl cal li rounds d).plain=true) (hl:lens=(sh c.id).1) (hd:rV c.res=(sh c.id).2)
 (hv:cZ sh lsh (fu G) (e6 c.res c.id) lens (aX c.args) c.res (c.tree Tryz.prog gl cal li rounds d)):c.bH Tryz.prog wb (eL c.id):=
 bq.aJd (S:=eD G) (spec:=eL c.id) fE di hg hf (awN G) hp (XO hl hd hv)
theorem Aj {wb:aC} {G:Nat->List Int->List Int} {c:bq} {lens:List Nat} (hg:fJ gl ⟨wb,wb,λ_=>False,λ_=>False,[]⟩) (hf:∀args w,(callFunc c.f args).run Tryz.prog w= .ok (.enter c.f args) w) (hp:(c.tree Tryz.prog gl (b3 [] [] 102 103 73) bB 600 6).plain=true) (hl:lens=(sh c.id).1) (hd:rV c.res=(sh c.id).2)
 (hv:cZ sh cf (fu G) (e6 c.res c.id) lens (aX c.args) c.res (c.tree Tryz.prog gl (b3 [] [] 102 103 73) bB 600 6)):c.bH Tryz.prog wb (eL c.id):=
 asA (λ_ _ _=>oV oG ov oN aO aO) hg hf hp hl hd hv
theorem kH {wb:aC} {G:Nat->List Int->List Int} {c:bq} {lens:List Nat} (cs:List bq) (h:fr wb cs G) (hg:fJ gl ⟨wb,wb,λ_=>False,λ_=>False,[]⟩) (hf:∀args w,(callFunc c.f args).run Tryz.prog w= .ok (.enter c.f args) w) (hp:(c.tree Tryz.prog gl (b3 [] cs 102 103 73) bB 600 6).plain=true) (hl:lens=(sh c.id).1) (hd:rV c.res=(sh c.id).2)
 (hv:cZ sh cf (fu G) (e6 c.res c.id) lens (aX c.args) c.res (c.tree Tryz.prog gl (b3 [] cs 102 103 73) bB 600 6)):c.bH Tryz.prog wb (eL c.id):=
 asA (λ_ _ _=>oV oG ov oN aO λc hc=>(h c hc).f) hg hf hp hl hd hv
theorem Xb {zs:List Int} {a b c:Nat} (h:zs.length=a+(b+c)):cI [a,b,c] zs=[zs.take a,(zs.drop a).take b,(zs.drop a).drop b]:=by
 have e:cI [a,b,c] zs=zs.take a::cI [b,c] (zs.drop a):=rfl;rw[e,xK (zs:=zs.drop a) (a:=b) (b:=c) (by rw[pq];omega)]
theorem ats {rs:List Int} (h:ay (aX [gK,qJ]) rs):cI [32,1] rs=[rs.take 32,rs.drop 32]/\ay (aT 0 255 32) (rs.take 32)/\∃e,rs.drop 32=[e]:=by
 rw[amj]at h;have hl:rs.length=32+1:=dj h;have hs:=BQ h;rw[Jn]at hs;refine⟨xK hl,hs.1,?_⟩;have h2:=hs.2
 match rs.drop 32,h2 with
 |[e],_=>exact⟨e,rfl⟩
theorem auU {id:Nat} {zs rs c0:List Int} {al:List (List Int)} {o:Option (Int×Int)} (hr:(sh id).2=[32,1]) (ha:cI (sh id).1 zs=al) (h8:∀r e,SB id al [r,[e]]->tJ r e o) (h1:ay (aX [gK,qJ]) rs) (h2:ay (aX [gK,qJ]) c0) (e:eL id zs rs) (c8:eL id zs c0):rs=c0:=by
 obtain⟨bR,a2,x,a3⟩:=ats h1;obtain⟨b4,cg,y,dh⟩:=ats h2;unfold eL at e c8;rw[hr,ha,bR,a3]at e;rw[hr,ha,b4,dh]at c8;have k:=axS (h8 _ _ e) (h8 _ _ c8) a2 cg;rw[<-nI 32 rs,<-nI 32 c0,a3,dh,k.1,k.2]
theorem aRX (zs:List Int):[zs.take 5,(zs.drop 5).take 5,((zs.drop 5).drop 5).take 5,(((zs.drop 5).drop 5).drop 5).take 5].flatten=zs.take 20:=by
 simp only[nH,List.flatten_nil,List.append_nil,CF,Nat.reduceAdd];rw[show(20:Nat)=5+(5+(5+5)) by rfl,ai1,ai1,ai1];simp only[CF,Nat.reduceAdd]
theorem aIy {G:Nat->List Int->List Int} {zs:List Int} {r:List (List Int)} (iZ:zs.length=20+32) (h:Z3 G (cI [5,5,5,5,32] zs) r):e6 pa.res 107 (cI [5,5,5,5,32] zs) r/\r.flatten=xo G (zs.take 20) (nb (zs.drop 20)).toNat 256:=by
 have e:cI [5,5,5,5,32] zs=[zs.take 5,(zs.drop 5).take 5,((zs.drop 5).drop 5).take 5,(((zs.drop 5).drop 5).drop 5).take 5,zs.drop 20]:=by
  have cv:cI [5,5,5,5,32] zs=zs.take 5::(zs.drop 5).take 5::((zs.drop 5).drop 5).take 5::(((zs.drop 5).drop 5).drop 5).take 5::cI [32] ((((zs.drop 5).drop 5).drop 5).drop 5):=rfl;have av:((((zs.drop 5).drop 5).drop 5).drop 5)=zs.drop 20:=by simp only[CF]
  rw[cv,av,ra (by rw[pq];omega)]
 rw[e]at h⊢;refine⟨h.1,?_⟩;have h2:=h.2;simp only at h2;rw[aRX]at h2;exact h2
theorem aPx {G:Nat->List Int->List Int} {zs:List Int} {r:List (List Int)} (iZ:zs.length=32+12) (h:Z4 G (cI [32,4,4,4] zs) r):e6 qZ.res 123 (cI [32,4,4,4] zs) r/\r.flatten=uE G (zs.drop 32) (nb (zs.take 32)).toNat 256:=by
 have cv:cI [32,4,4,4] zs=zs.take 32::cI [4,4,4] (zs.drop 32):=rfl;have av:=Xb (zs:=zs.drop 32) (a:=4) (b:=4) (c:=4) (by rw[pq];omega);rw[cv,av]at h⊢;refine⟨h.1,?_⟩;have h2:=h.2;simp only at h2;rw[h2]
 congr 1
 have aH:=uK [4,4,4] (zs.drop 32);rw[av]at aH;exact aH
section
variable {wb:aC} (hg:fJ gl ⟨wb,wb,λ_=>False,λ_=>False,[]⟩) {G:Nat->List Int->List Int}
include hg G
theorem Wc:nt.bH Tryz.prog wb (eL nt.id):=by
 refine Aj (G:=G) (c:=nt) hg (enters (by kernel_rfl)) aOh rfl rfl (lens:=[32]) ?_;rw[aTe];exact agH G
theorem aKh:tg.bH Tryz.prog wb (eL tg.id):=by
 refine Aj (G:=G) (c:=tg) hg (enters (by kernel_rfl)) aOn rfl rfl (lens:=[4]) ?_;rw[aTq];exact aMR G
theorem aKH:oE.bH Tryz.prog wb (eL oE.id):=by
 refine Aj (G:=G) (c:=oE) hg (enters (by kernel_rfl)) aOD rfl rfl (lens:=[]) ?_;rw[aTS];exact aNi G
theorem aKu:n2.bH Tryz.prog wb (eL n2.id):=by
 refine Aj (G:=G) (c:=n2) hg (enters (by kernel_rfl)) aOA rfl rfl (lens:=[4,4]) ?_;rw[aTF];exact aM5 G
theorem aKw:n3.bH Tryz.prog wb (eL n3.id):=by
 refine Aj (G:=G) (c:=n3) hg (enters (by kernel_rfl)) aOB rfl rfl (lens:=[4,4]) ?_;rw[aTH];exact aM7 G
theorem aKJ:n4.bH Tryz.prog wb (eL n4.id):=by
 refine Aj (G:=G) (c:=n4) hg (enters (by kernel_rfl)) aOE rfl rfl (lens:=[4,4]) ?_;rw[aTU];exact aNk G
theorem aKk (h:∀c∈[n2,oE,n3],c.bH Tryz.prog wb (eD G c.id)):rR.bH Tryz.prog wb (eL rR.id):=by
 refine kH (G:=G) (c:=rR) [n2,oE,n3] h hg (enters (by kernel_rfl)) aOq rfl rfl (lens:=[4]) ?_;rw[aTt];exact aMU G
theorem aKM (h:∀c∈[n4,rR],c.bH Tryz.prog wb (eD G c.id)):vC.bH Tryz.prog wb (eL vC.id):=by
 refine kH (G:=G) (c:=vC) [n4,rR] h hg (enters (by kernel_rfl)) aOH rfl rfl (lens:=[4,4]) ?_;rw[aTX];exact aNn G
theorem aKo (h:∀c∈[n2,n4,oE,n3],c.bH Tryz.prog wb (eD G c.id)):rS.bH Tryz.prog wb (eL rS.id):=by
 refine kH (G:=G) (c:=rS) [n2,n4,oE,n3] h hg (enters (by kernel_rfl)) aOs rfl rfl (lens:=[4,4]) ?_;rw[aTx];exact aMY G
theorem aKr (h:∀c∈[n4,rR],c.bH Tryz.prog wb (eD G c.id)):vA.bH Tryz.prog wb (eL vA.id):=by
 refine kH (G:=G) (c:=vA) [n4,rR] h hg (enters (by kernel_rfl)) aOw rfl rfl (lens:=[4,4]) ?_;rw[aTB];exact aM2 G
theorem aKK (h:∀c∈[vA],c.bH Tryz.prog wb (eD G c.id)):nu.bH Tryz.prog wb (eL nu.id):=by
 refine kH (G:=G) (c:=nu) [vA] h hg (enters (by kernel_rfl)) aOF rfl rfl (lens:=[4,4]) ?_;rw[aTV];exact aNl G
theorem aK1 (h:∀c∈[nu],c.bH Tryz.prog wb (eD G c.id)):rT.bH Tryz.prog wb (eL 44):=
 bq.pL (S:=eD G) (spec:=eL 44) (c:=rT) (cal:=(b3 [] [nu] 102 103 73)) (li:=arx) (rounds:=600) (d:=6) fE (λr ex ro=>oV oG ov oN aO (λc hc=>(h c hc).f)) hg (enters (by kernel_rfl)) (λzs rs c0 hz h1 h2 e c8=>by
  have iZ:zs.length=4+4:=dj hz;have l1:rs.length=4:=dj h1;have l2:c0.length=4:=dj h2;unfold eL at e c8;have hs:sh 44=([4,4],[4]):=rfl;rw[hs]at e c8;simp only[xK iZ,ra l1]at e;simp only[xK iZ,ra l2]at c8;have e:ad rs=cJ (ad (zs.take 4)) (ad (zs.drop 4)).toNat:=e;have c8:ad c0=cJ (ad (zs.take 4)) (ad (zs.drop 4)).toNat:=c8;exact xq h1 h2 (e.trans c8.symm))
  (tO (XO (G:=G) (id:=44) (lens:=[4,4]) (bds:=(aX rT.args)) (ds:=rT.res) rfl rfl (by rw[aUc];exact aNC G)))
theorem aKs (h:∀c∈[n3,oE,rT],c.bH Tryz.prog wb (eD G c.id)):vB.bH Tryz.prog wb (eL vB.id):=by
 refine kH (G:=G) (c:=vB) [n3,oE,rT] h hg (enters (by kernel_rfl)) aOy rfl rfl (lens:=[4]) ?_;rw[aTD];exact aM3 G
theorem aKL (h:∀c∈[rT,nu,rS],c.bH Tryz.prog wb (eD G c.id)):ys.bH Tryz.prog wb (eL ys.id):=by
 refine kH (G:=G) (c:=ys) [rT,nu,rS] h hg (enters (by kernel_rfl)) aOG rfl rfl (lens:=[4]) ?_;rw[aTW];exact aNm G
theorem aKn:um.bH Tryz.prog wb (eL um.id):=by
 refine Aj (G:=G) (c:=um) hg (enters (by kernel_rfl)) aOr rfl rfl (lens:=[]) ?_;rw[aTw];exact aMX G
theorem aLe:vD.bH Tryz.prog wb (eL vD.id):=by
 refine Aj (G:=G) (c:=vD) hg (enters (by kernel_rfl)) aOI rfl rfl (lens:=[]) ?_;rw[aUp];exact aNP G
theorem aKj (h:∀c∈[nu,um,rS,vC],c.bH Tryz.prog wb (eD G c.id)):vz.bH Tryz.prog wb (eL vz.id):=by
 refine kH (G:=G) (c:=vz) [nu,um,rS,vC] h hg (enters (by kernel_rfl)) aOp rfl rfl (lens:=[4,4,4,4,4,4]) ?_;rw[aTs];exact aMT G
theorem aKv (h:∀c∈[vD,vz],c.bH Tryz.prog wb (eD G c.id)):qZ.bH Tryz.prog wb (eL 123):=
 Nn (bq.pL (S:=eD G) (spec:=λzs rs=>eL 123 zs rs/\rs=uE G (zs.drop 32) (nb (zs.take 32)).toNat 256) (c:=qZ) (cal:=(b3 [] [vD,vz] 102 103 73)) (li:=afQ) (rounds:=600) (d:=6) fE (λr ex ro=>oV oG ov oN aO (λc hc=>(h c hc).f)) hg (enters (by kernel_rfl)) (λzs rs c0 hz h1 h2 e c8=>e.2.trans c8.2.symm)
  (tO λzs hz=>by
    have hv:=m6 (Nq (S:=fu G) (K:=Z4 G) (sh:=sh) (lsh:=arJ) (lens:=[32,4,4,4]) (bds:=aX qZ.args) (ds:=qZ.res) (t:=(qZ.tree Tryz.prog gl (b3 [] [vD,vz] 102 103 73) afQ 600 6)) (by rw[aTG];exact aM6 G)) hz;have iZ:zs.length=32+12:=dj hz;refine k8 (λv ρ hl=>?_) _ _ _ hv;unfold kz at hl⊢;split
    ·rename_i os aA;rw[aA]at hl;have hl:e6 qZ.res 123 (cI [32,4,4,4] zs) (cI (rV qZ.res) (os.map (O.den ρ)))/\(cI (rV qZ.res) (os.map (O.den ρ))).flatten=uE G (zs.drop 32) (nb (zs.take 32)).toNat 256:=aPx iZ hl;simp only[e6,uK]at hl;exact⟨hl.1.1,hl.1.2,hl.2⟩
    ·rename_i aA;rw[aA]at hl;exact hl)) λzs rs h=>h.1
theorem aKi (h:∀c∈[vB,nu,tg],c.bH Tryz.prog wb (eD G c.id)):vy.bH Tryz.prog wb (eL vy.id):=by
 refine kH (G:=G) (c:=vy) [vB,nu,tg] h hg (enters (by kernel_rfl)) aOo rfl rfl (lens:=[4,4,4]) ?_;rw[aTr];exact aMS G
theorem aKq:uo.bH Tryz.prog wb (eL uo.id):=by
 refine Aj (G:=G) (c:=uo) hg (enters (by kernel_rfl)) aOv rfl rfl (lens:=[]) ?_;rw[aTA];exact aM1 G
theorem aKg (h:∀c∈[uo,qZ,vy],c.bH Tryz.prog wb (eD G c.id)):Ac.bH Tryz.prog wb (eL Ac.id):=by
 refine kH (G:=G) (c:=Ac) [uo,qZ,vy] h hg (enters (by kernel_rfl)) aOm rfl rfl (lens:=[32]) ?_;rw[aTp];exact aMQ G
theorem aKt:yr.bH Tryz.prog wb (eL yr.id):=by
 refine Aj (G:=G) (c:=yr) hg (enters (by kernel_rfl)) aOz rfl rfl (lens:=[]) ?_;rw[aTE];exact aM4 G
theorem aJi:la.bH Tryz.prog wb (eL la.id):=by
 refine Aj (G:=G) (c:=la) hg (enters (by kernel_rfl)) aN7 rfl rfl (lens:=[5]) ?_;rw[aSB];exact aLY G
theorem aJR (h:∀c∈[la],c.bH Tryz.prog wb (eD G c.id)):rP.bH Tryz.prog wb (eL rP.id):=by
 refine kH (G:=G) (c:=rP) [la] h hg (enters (by kernel_rfl)) aOf rfl rfl (lens:=[32]) ?_;rw[aS2];exact aMr G
theorem Wb (h:∀c∈[la],c.bH Tryz.prog wb (eD G c.id)):iY.bH Tryz.prog wb (eL iY.id):=by
 refine kH (G:=G) (c:=iY) [la] h hg (enters (by kernel_rfl)) aN6 rfl rfl (lens:=[5]) ?_;rw[aSA];exact agG G
theorem We (h:∀c∈[la],c.bH Tryz.prog wb (eD G c.id)):js.bH Tryz.prog wb (eL js.id):=by
 refine kH (G:=G) (c:=js) [la] h hg (enters (by kernel_rfl)) aOl rfl rfl (lens:=[5,5]) ?_;rw[aTl];exact agJ G
theorem Wd (h:∀c∈[la],c.bH Tryz.prog wb (eD G c.id)):jr.bH Tryz.prog wb (eL jr.id):=by
 refine kH (G:=G) (c:=jr) [la] h hg (enters (by kernel_rfl)) aOi rfl rfl (lens:=[5,5]) ?_;rw[aTg];exact agI G
theorem aLu (h:∀c∈[la],c.bH Tryz.prog wb (eD G c.id)):ib.bH Tryz.prog wb (eL ib.id):=by
 refine kH (G:=G) (c:=ib) [la] h hg (enters (by kernel_rfl)) aOL rfl rfl (lens:=[5,5]) ?_;rw[aUB];exact aN1 G
theorem aLn (h:∀c∈[ib],c.bH Tryz.prog wb (eD G c.id)):mF.bH Tryz.prog wb (eL mF.id):=by
 refine kH (G:=G) (c:=mF) [ib] h hg (enters (by kernel_rfl)) aOK rfl rfl (lens:=[5]) ?_;rw[aUw];exact aNW G
theorem aJ8 (h:∀c∈[jr],c.bH Tryz.prog wb (eD G c.id)):pJ.bH Tryz.prog wb (eL pJ.id):=by
 refine kH (G:=G) (c:=pJ) [jr] h hg (enters (by kernel_rfl)) aOj rfl rfl (lens:=[5]) ?_;rw[aTh];exact aMI G
theorem aKf (h:∀c∈[mF,ib],c.bH Tryz.prog wb (eD G c.id)):qY.bH Tryz.prog wb (eL 43):=
 Nn (bq.pL (S:=eD G) (spec:=λzs rs=>eL 43 zs rs/\rs=yJ G (zs.take 5) (ad (zs.drop 5)).toNat 256) (c:=qY) (cal:=(b3 [] [mF,ib] 102 103 73)) (li:=afP) (rounds:=600) (d:=6) fE (λr ex ro=>oV oG ov oN aO (λc hc=>(h c hc).f)) hg (enters (by kernel_rfl)) (λzs rs c0 hz h1 h2 e c8=>e.2.trans c8.2.symm)
  (tO λzs hz=>by
    have hv:=m6 (Nq (S:=fu G) (K:=Z5 G) (sh:=sh) (lsh:=arI) (lens:=[5,4]) (bds:=aX qY.args) (ds:=qY.res) (t:=(qY.tree Tryz.prog gl (b3 [] [mF,ib] 102 103 73) afP 600 6)) (by rw[aTo];exact aMP G)) hz;have iZ:zs.length=5+4:=dj hz;refine k8 (λv ρ hl=>?_) _ _ _ hv;unfold kz at hl⊢;split
    ·rename_i os aA;rw[aA]at hl;simp only[Z5,e6,uK,xK iZ]at hl;refine⟨hl.1.1,?_,hl.2⟩;unfold eL;rw[show(sh 43).1=[5,4] by rfl,xK iZ];exact hl.1.2
    ·rename_i aA;rw[aA]at hl;exact hl)) λzs rs h=>h.1
theorem aJ2 (h:∀c∈[qY],c.bH Tryz.prog wb (eD G c.id)):rQ.bH Tryz.prog wb (eL rQ.id):=by
 refine kH (G:=G) (c:=rQ) [qY] h hg (enters (by kernel_rfl)) aOg rfl rfl (lens:=[5]) ?_;rw[aTd];exact aMC G
theorem aLf (h:∀c∈[iY],c.bH Tryz.prog wb (eD G c.id)):q0.bH Tryz.prog wb (eL q0.id):=by
 refine kH (G:=G) (c:=q0) [iY] h hg (enters (by kernel_rfl)) aOJ rfl rfl (lens:=[5,5]) ?_;rw[aUq];exact aNQ G
theorem aKb (h:∀c∈[iY],c.bH Tryz.prog wb (eD G c.id)):qX.bH Tryz.prog wb (eL qX.id):=by
 refine kH (G:=G) (c:=qX) [iY] h hg (enters (by kernel_rfl)) aOk rfl rfl (lens:=[5]) ?_;rw[aTk];exact aML G
theorem aKG (h:∀c∈[qY,mF,q0,qX,pJ,ib],c.bH Tryz.prog wb (eD G c.id)):uq.bH Tryz.prog wb (eL uq.id):=by
 refine kH (G:=G) (c:=uq) [qY,mF,q0,qX,pJ,ib] h hg (enters (by kernel_rfl)) aOC rfl rfl (lens:=[5]) ?_;rw[aTR];exact aNh G
theorem agp (h:∀c∈[rP,iY],c.bH Tryz.prog wb (eD G c.id)):oD.bH Tryz.prog wb (eL oD.id):=by
 refine kH (G:=G) (c:=oD) [rP,iY] h hg (enters (by kernel_rfl)) aOu rfl rfl (lens:=[32]) ?_;rw[aTz];exact agK G
theorem agr (h:∀c∈[oD],c.bH Tryz.prog wb (eD G c.id)):n1.bH Tryz.prog wb (eL n1.id):=by
 refine kH (G:=G) (c:=n1) [oD] h hg (enters (by kernel_rfl)) aOx rfl rfl (lens:=[32]) ?_;rw[aTC];exact agL G
theorem aLv (h:∀c∈[js],c.bH Tryz.prog wb (eD G c.id)):vE.bH Tryz.prog wb (eL vE.id):=by
 refine kH (G:=G) (c:=vE) [js] h hg (enters (by kernel_rfl)) aOM rfl rfl (lens:=[]) ?_;rw[aUC];exact aN2 G
theorem aJP (h:∀c∈[ib],c.bH Tryz.prog wb (eD G c.id)):o9.bH Tryz.prog wb (eL o9.id):=by
 refine kH (G:=G) (c:=o9) [ib] h hg (enters (by kernel_rfl)) aOe rfl rfl (lens:=[5,5]) ?_;rw[aS1];exact aMp G
theorem aJj (h:∀c∈[o9],c.bH Tryz.prog wb (eD G c.id)):sF.bH Tryz.prog wb (eL sF.id):=by
 refine kH (G:=G) (c:=sF) [o9] h hg (enters (by kernel_rfl)) aN8 rfl rfl (lens:=[]) ?_;rw[aSC];exact aLZ G
theorem aJs (h:∀c∈[o9],c.bH Tryz.prog wb (eD G c.id)):vw.bH Tryz.prog wb (eL vw.id):=by
 refine kH (G:=G) (c:=vw) [o9] h hg (enters (by kernel_rfl)) aOc rfl rfl (lens:=[]) ?_;rw[aSK];exact aL8 G
theorem aJq (h:∀c∈[ib],c.bH Tryz.prog wb (eD G c.id)):rO.bH Tryz.prog wb (eL rO.id):=by
 refine kH (G:=G) (c:=rO) [ib] h hg (enters (by kernel_rfl)) aOa rfl rfl (lens:=[5,5,5,5]) ?_;rw[aSI];exact aL6 G
theorem aJr (h:∀c∈[jr,ib,js,vE,rO],c.bH Tryz.prog wb (eD G c.id)):sG.bH Tryz.prog wb (eL sG.id):=by
 refine kH (G:=G) (c:=sG) [jr,ib,js,vE,rO] h hg (enters (by kernel_rfl)) aOb rfl rfl (lens:=[5,5,5,5,5,5,5,5]) ?_;rw[aSJ];exact aL7 G
theorem aJD (h:∀c∈[mF,js,jr,rO],c.bH Tryz.prog wb (eD G c.id)):vx.bH Tryz.prog wb (eL vx.id):=by
 refine kH (G:=G) (c:=vx) [mF,js,jr,rO] h hg (enters (by kernel_rfl)) aOd rfl rfl (lens:=[5,5,5]) ?_;rw[aSQ];exact aMe G
theorem aJ6 (h:∀c∈[vw,vx,sG],c.bH Tryz.prog wb (eD G c.id)):pa.bH Tryz.prog wb (eL 107):=
 Nn (bq.pL (S:=eD G) (spec:=λzs rs=>eL 107 zs rs/\rs=xo G (zs.take 20) (nb (zs.drop 20)).toNat 256) (c:=pa) (cal:=(b3 [] [vw,vx,sG] 102 103 73)) (li:=afO) (rounds:=600) (d:=6) fE (λr ex ro=>oV oG ov oN aO (λc hc=>(h c hc).f)) hg (enters (by kernel_rfl)) (λzs rs c0 hz h1 h2 e c8=>e.2.trans c8.2.symm)
  (tO λzs hz=>by
    have hv:=m6 (Nq (S:=fu G) (K:=Z3 G) (sh:=sh) (lsh:=arH) (lens:=[5,5,5,5,32]) (bds:=aX pa.args) (ds:=pa.res) (t:=(pa.tree Tryz.prog gl (b3 [] [vw,vx,sG] 102 103 73) afO 600 6)) (by rw[aTf];exact aMG G)) hz;have iZ:zs.length=20+32:=dj hz;refine k8 (λv ρ hl=>?_) _ _ _ hv;unfold kz at hl⊢;split
    ·rename_i os aA;rw[aA]at hl;have hl:e6 pa.res 107 (cI [5,5,5,5,32] zs) (cI (rV pa.res) (os.map (O.den ρ)))/\(cI (rV pa.res) (os.map (O.den ρ))).flatten=xo G (zs.take 20) (nb (zs.drop 20)).toNat 256:=aIy iZ hl;simp only[e6,uK]at hl;exact⟨hl.1.1,hl.1.2,hl.2⟩
    ·rename_i aA;rw[aA]at hl;exact hl)) λzs rs h=>h.1
theorem aJk (h:∀c∈[rQ,ib,iY,qX],c.bH Tryz.prog wb (eD G c.id)):qh.bH Tryz.prog wb (eL qh.id):=by
 refine kH (G:=G) (c:=qh) [rQ,ib,iY,qX] h hg (enters (by kernel_rfl)) aN9 rfl rfl (lens:=[5,5,5]) ?_;rw[aSD];exact aL0 G
theorem aKp (h:∀c∈[n1,rP,mF,jr,ib,js,rQ,uq,q0,pJ,o9],c.bH Tryz.prog wb (eD G c.id)):th.bH Tryz.prog wb (eL th.id):=by
 refine kH (G:=G) (c:=th) [n1,rP,mF,jr,ib,js,rQ,uq,q0,pJ,o9] h hg (enters (by kernel_rfl)) aOt rfl rfl (lens:=[32]) ?_;rw[aTy];exact aMZ G
theorem aJp (h:∀c∈[th,pJ,qh],c.bH Tryz.prog wb (eD G c.id)):Ab.bH Tryz.prog wb (eL 112):=
 bq.pL (S:=eD G) (spec:=eL 112) (c:=Ab) (cal:=(b3 [] [th,pJ,qh] 102 103 73)) (li:=bB) (rounds:=600) (d:=6) fE (λr ex ro=>oV oG ov oN aO (λc hc=>(h c hc).f)) hg (enters (by kernel_rfl)) (λzs rs c0 hz h1 h2 e c8=>by
  have iZ:zs.length=32:=dj hz;exact auU (id:=112) (al:=[zs]) (o:=(dec (nb (zs))).map rU) rfl (by rw[show(sh 112).1=[32] by rfl];exact ra iZ) (λr e h=>h) h1 h2 e c8)
  (tO (XO (G:=G) (id:=112) (lens:=[32]) (bds:=(aX Ab.args)) (ds:=Ab.res) rfl rfl (by rw[aSH];exact aL5 G)))
theorem aJh (h:∀c∈[sF,pa,qh],c.bH Tryz.prog wb (eD G c.id)):z8.bH Tryz.prog wb (eL z8.id):=by
 refine kH (G:=G) (c:=z8) [sF,pa,qh] h hg (enters (by kernel_rfl)) aN5 rfl rfl (lens:=[32]) ?_;rw[aSz];exact aLX G
theorem aJo (h:∀c∈[th,pa,sF,sG,qh],c.bH Tryz.prog wb (eD G c.id)):Aa.bH Tryz.prog wb (eL 115):=
 bq.pL (S:=eD G) (spec:=eL 115) (c:=Aa) (cal:=(b3 [] [th,pa,sF,sG,qh] 102 103 73)) (li:=bB) (rounds:=600) (d:=6) fE (λr ex ro=>oV oG ov oN aO (λc hc=>(h c hc).f)) hg (enters (by kernel_rfl)) (λzs rs c0 hz h1 h2 e c8=>by
  have iZ:zs.length=32+(32+32):=dj hz;exact auU (id:=115) (al:=[zs.take 32,(zs.drop 32).take 32,(zs.drop 32).drop 32]) (o:=(dec (nb ((zs.drop 32).take 32))).map λA=>fO (eK (nb (zs.take 32)).toNat A) (eK (nb ((zs.drop 32).drop 32)).toNat kn)) rfl (by rw[show(sh 115).1=[32,32,32] by rfl];exact Xb iZ) (λr e h=>h) h1 h2 e c8)
  (tO (XO (G:=G) (id:=115) (lens:=[32,32,32]) (bds:=(aX Aa.args)) (ds:=Aa.res) rfl rfl (by rw[aSG];exact aL4 G)))
end
theorem cW {α:Type} {P:α->Prop} {c:α} {L l:List α} (h:∀c∈L,P c) (i:Nat) (hx:L[i]?=some c) (t:∀c∈l,P c):∀d∈c::l,P d:=List.forall_mem_cons.2 ⟨h _ (BZ hx),t⟩
theorem zk {wb:aC} (hg:fJ gl ⟨wb,wb,λ_=>False,λ_=>False,[]⟩):∃G,fr wb [Aa,z8,Ab,th,qh,pa,vx,sG,rO,vw,sF,o9,vE,n1,oD,uq,qX,q0,rQ,qY,pJ,mF,ib,jr,js,iY,rP,la,yr,Ac,uo,vy,qZ,vz,vD,um,ys,vB,rT,nu,vA,rS,vC,rR,n4,n3,n2,oE,tg,nt] G:=by
 obtain⟨awO,h0⟩:∃G,fr wb [] G:=⟨λ_ _=>[],aO⟩;obtain⟨G1,h1⟩:=fr.step (c:=nt) h0 (by decide) (Wc hg (G:=awO));obtain⟨SH,h2⟩:=fr.step (c:=tg) h1 (by decide) (aKh hg (G:=G1));obtain⟨ZU,h3⟩:=fr.step (c:=oE) h2 (by decide) (aKH hg (G:=SH));obtain⟨SI,h4⟩:=fr.step (c:=n2) h3 (by decide) (aKu hg (G:=ZU));obtain⟨axt,h5⟩:=fr.step (c:=n3) h4 (by decide) (aKw hg (G:=SI));obtain⟨axv,h6⟩:=fr.step (c:=n4) h5 (by decide) (aKJ hg (G:=axt));obtain⟨axw,h7⟩:=fr.step (c:=rR) h6 (by decide) (aKk hg (G:=axv) (cW h6 2 rfl (cW h6 3 rfl (cW h6 1 rfl aO))));obtain⟨axx,ch⟩:=fr.step (c:=vC) h7 (by decide) (aKM hg (G:=axw) (cW h7 1 rfl (cW h7 0 rfl aO)));obtain⟨axy,cC⟩:=fr.step (c:=rS) ch (by decide) (aKo hg (G:=axx) (cW ch 4 rfl (cW ch 2 rfl (cW ch 5 rfl (cW ch 3 rfl aO)))));obtain⟨awP,dB⟩:=fr.step (c:=vA) cC (by decide) (aKr hg (G:=axy) (cW cC 3 rfl (cW cC 2 rfl aO)));obtain⟨awQ,jK⟩:=fr.step (c:=nu) dB (by decide) (aKK hg (G:=awP) (cW dB 0 rfl aO));obtain⟨awR,gj⟩:=fr.step (c:=rT) jK (by decide) (aK1 hg (G:=awQ) (cW jK 0 rfl aO));obtain⟨awS,ix⟩:=fr.step (c:=vB) gj (by decide) (aKs hg (G:=awR) (cW gj 7 rfl (cW gj 9 rfl (cW gj 0 rfl aO))));obtain⟨awT,jm⟩:=fr.step (c:=ys) ix (by decide) (aKL hg (G:=awS) (cW ix 1 rfl (cW ix 2 rfl (cW ix 4 rfl aO))));obtain⟨awU,vr⟩:=fr.step (c:=um) jm (by decide) (aKn hg (G:=awT));obtain⟨awV,ln⟩:=fr.step (c:=vD) vr (by decide) (aLe hg (G:=awU));obtain⟨awW,lp⟩:=fr.step (c:=vz) ln (by decide) (aKj hg (G:=awV) (cW ln 5 rfl (cW ln 1 rfl (cW ln 7 rfl (cW ln 8 rfl aO)))));obtain⟨awX,yb⟩:=fr.step (c:=qZ) lp (by decide) (aKv hg (G:=awW) (cW lp 1 rfl (cW lp 0 rfl aO)));obtain⟨awY,w6⟩:=fr.step (c:=vy) yb (by decide) (aKi hg (G:=awX) (cW yb 5 rfl (cW yb 7 rfl (cW yb 16 rfl aO))));obtain⟨awZ,HS⟩:=fr.step (c:=uo) w6 (by decide) (aKq hg (G:=awY));obtain⟨aw0,kS⟩:=fr.step (c:=Ac) HS (by decide) (aKg hg (G:=awZ) (cW HS 0 rfl (cW HS 2 rfl (cW HS 1 rfl aO))));obtain⟨aw1,aoK⟩:=fr.step (c:=yr) kS (by decide) (aKt hg (G:=aw0));obtain⟨aw2,Ue⟩:=fr.step (c:=la) aoK (by decide) (aJi hg (G:=aw1));obtain⟨aw3,acS⟩:=fr.step (c:=rP) Ue (by decide) (aJR hg (G:=aw2) (cW Ue 0 rfl aO));obtain⟨aw4,sy⟩:=fr.step (c:=iY) acS (by decide) (Wb hg (G:=aw3) (cW acS 1 rfl aO));obtain⟨aw5,Ug⟩:=fr.step (c:=js) sy (by decide) (We hg (G:=aw4) (cW sy 2 rfl aO));obtain⟨aw6,acT⟩:=fr.step (c:=jr) Ug (by decide) (Wd hg (G:=aw5) (cW Ug 3 rfl aO));obtain⟨aw7,acU⟩:=fr.step (c:=ib) acT (by decide) (aLu hg (G:=aw6) (cW acT 4 rfl aO));obtain⟨aw8,sz⟩:=fr.step (c:=mF) acU (by decide) (aLn hg (G:=aw7) (cW acU 0 rfl aO));obtain⟨aw9,Uh⟩:=fr.step (c:=pJ) sz (by decide) (aJ8 hg (G:=aw8) (cW sz 2 rfl aO));obtain⟨axa,acV⟩:=fr.step (c:=qY) Uh (by decide) (aKf hg (G:=aw9) (cW Uh 1 rfl (cW Uh 2 rfl aO)));obtain⟨axb,acW⟩:=fr.step (c:=rQ) acV (by decide) (aJ2 hg (G:=axa) (cW acV 0 rfl aO));obtain⟨axc,sA⟩:=fr.step (c:=q0) acW (by decide) (aLf hg (G:=axb) (cW acW 7 rfl aO));obtain⟨axd,Fu⟩:=fr.step (c:=qX) sA (by decide) (aKb hg (G:=axc) (cW sA 8 rfl aO))
 obtain⟨axe,oX⟩:=fr.step (c:=uq) Fu (by decide) (aKG hg (G:=axd) (cW Fu 3 rfl (cW Fu 5 rfl (cW Fu 1 rfl (cW Fu 0 rfl (cW Fu 4 rfl (cW Fu 6 rfl aO)))))));obtain⟨axf,BH⟩:=fr.step (c:=oD) oX (by decide) (agp hg (G:=axe) (cW oX 11 rfl (cW oX 10 rfl aO)));obtain⟨axg,sB⟩:=fr.step (c:=n1) BH (by decide) (agr hg (G:=axf) (cW BH 0 rfl aO));obtain⟨axh,KW⟩:=fr.step (c:=vE) sB (by decide) (aLv hg (G:=axg) (cW sB 11 rfl aO));obtain⟨axi,acX⟩:=fr.step (c:=o9) KW (by decide) (aJP hg (G:=axh) (cW KW 10 rfl aO));obtain⟨axj,acY⟩:=fr.step (c:=sF) acX (by decide) (aJj hg (G:=axi) (cW acX 0 rfl aO));obtain⟨axk,rC⟩:=fr.step (c:=vw) acY (by decide) (aJs hg (G:=axj) (cW acY 1 rfl aO));obtain⟨axl,HT⟩:=fr.step (c:=rO) rC (by decide) (aJq hg (G:=axk) (cW rC 13 rfl aO));obtain⟨axm,KX⟩:=fr.step (c:=sG) HT (by decide) (aJr hg (G:=axl) (cW HT 15 rfl (cW HT 14 rfl (cW HT 16 rfl (cW HT 4 rfl (cW HT 0 rfl aO))))));obtain⟨axn,s3⟩:=fr.step (c:=vx) KX (by decide) (aJD hg (G:=axm) (cW KX 14 rfl (cW KX 17 rfl (cW KX 16 rfl (cW KX 1 rfl aO)))));obtain⟨axo,KY⟩:=fr.step (c:=pa) s3 (by decide) (aJ6 hg (G:=axn) (cW s3 3 rfl (cW s3 0 rfl (cW s3 1 rfl aO))));obtain⟨axp,w7⟩:=fr.step (c:=qh) KY (by decide) (aJk hg (G:=axo) (cW KY 13 rfl (cW KY 17 rfl (cW KY 20 rfl (cW KY 11 rfl aO)))));obtain⟨axq,OB⟩:=fr.step (c:=th) w7 (by decide) (aKp hg (G:=axp) (cW w7 9 rfl (cW w7 22 rfl (cW w7 17 rfl (cW w7 19 rfl (cW w7 18 rfl (cW w7 20 rfl (cW w7 14 rfl (cW w7 11 rfl (cW w7 13 rfl (cW w7 16 rfl (cW w7 7 rfl aO))))))))))));obtain⟨axr,OC⟩:=fr.step (c:=Ab) OB (by decide) (aJp hg (G:=axq) (cW OB 0 rfl (cW OB 17 rfl (cW OB 1 rfl aO))));obtain⟨axs,HU⟩:=fr.step (c:=z8) OC (by decide) (aJh hg (G:=axr) (cW OC 8 rfl (cW OC 3 rfl (cW OC 2 rfl aO))));obtain⟨axu,aoL⟩:=fr.step (c:=Aa) HU (by decide) (aJo hg (G:=axs) (cW HU 2 rfl (cW HU 4 rfl (cW HU 9 rfl (cW HU 6 rfl (cW HU 3 rfl aO))))));exact⟨axu,aoL⟩
end Go.Fd
