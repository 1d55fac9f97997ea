/- Paf: a part of the proof of statements of this seat. -/
import Derived.Test.YtacpildnjohidaaDoorPae
import Derived.Test.YtacpildnjohidaaDoorProg
import Derived.KernelRfl
import Derived.Test.YtacpildnjohidaaDoorPac
import Derived.Test.YtacpildnjohidaaDoorPad
open Go renaming World->aC
open List renaming getD_cons_zero->jH,getD_cons_succ->kS,take_append_drop->o2,take_succ_cons->o4,take_zero->qN,length_drop->rA,flatten_cons->uT,take_of_length_le->uU,drop_drop->A9,drop_of_length_le->RC,take_add->Zk
open List.cons renaming injEq->qK
set_option maxRecDepth 100000
namespace Go.oF
open Go Go.ch Go.Proofs
theorem axL (S K):(j6 vy.bds λzs=>(vy.tree Tryd.prog gl (cg [] [] 75 76 53) lx 600 6).holds S (j5 vy.res (K zs)) (λ_ _=>False) (bL (λ_=>0) 0 zs))=Tf S K:=by kernel_rfl
theorem axM (S K):(j6 AB.bds λzs=>(AB.tree Tryd.prog gl (cg [] [] 75 76 53) lx 600 6).holds S (j5 AB.res (K zs)) (λ_ _=>False) (bL (λ_=>0) 0 zs))=Tg S K:=by kernel_rfl
theorem axN (S K):(j6 B4.bds λzs=>(B4.tree Tryd.prog gl (cg [] [] 75 76 53) lx 600 6).holds S (j5 B4.res (K zs)) (λ_ _=>False) (bL (λ_=>0) 0 zs))=Th S K:=by kernel_rfl
theorem axO (S K):(j6 (bk iB.args) λzs=>(iB.tree Tryd.prog gl (cg [] [] 75 76 53) lx 600 6).holds S (j5 iB.res (K zs)) (λ_ _=>False) (bL (λ_=>0) 0 zs))=Ti S K:=by kernel_rfl
theorem axQ (S K):(j6 (bk iC.args) λzs=>(iC.tree Tryd.prog gl (cg [] [] 75 76 53) lx 600 6).holds S (j5 iC.res (K zs)) (λ_ _=>False) (bL (λ_=>0) 0 zs))=Tk S K:=by kernel_rfl
theorem axH (S K):(j6 (bk hX.args) λzs=>(hX.tree Tryd.prog gl (cg [] [] 75 76 53) lx 600 6).holds S (j5 hX.res (K zs)) (λ_ _=>False) (bL (λ_=>0) 0 zs))=Tb S K:=by kernel_rfl
theorem axR (S K):(j6 (bk B5.args) λzs=>(B5.tree Tryd.prog gl (cg [] [] 75 76 53) lx 600 6).holds S (j5 B5.res (K zs)) (λ_ _=>False) (bL (λ_=>0) 0 zs))=Tl S K:=by kernel_rfl
theorem axJ (S K):(j6 (bk BX.args) λzs=>(BX.tree Tryd.prog gl (cg [] [] 75 76 53) lx 600 6).holds S (j5 BX.res (K zs)) (λ_ _=>False) (bL (λ_=>0) 0 zs))=Td S K:=by kernel_rfl
theorem axT (S K):(j6 (bk vz.args) λzs=>(vz.tree Tryd.prog gl (cg [] [BX,iC,iB] 75 76 53) lx 600 6).holds S (j5 vz.res (K zs)) (λ_ _=>False) (bL (λ_=>0) 0 zs))=Tn S K:=by kernel_rfl
theorem axK (S K):(j6 (bk B3.args) λzs=>(B3.tree Tryd.prog gl (cg [] [vz] 75 76 53) lx 600 6).holds S (j5 B3.res (K zs)) (λ_ _=>False) (bL (λ_=>0) 0 zs))=Te S K:=by kernel_rfl
theorem axU (S K):(j6 (bk oo.args) λzs=>(oo.tree Tryd.prog gl (cg [vy] [iB] 75 76 53) lx 600 6).holds S (j5 oo.res (K zs)) (λ_ _=>False) (bL (λ_=>0) 0 zs))=To S K:=by kernel_rfl
theorem axS (S K):(j6 (bk oQ.args) λzs=>(oQ.tree Tryd.prog gl (cg [AB,B4] [vz,hX] 75 76 53) lx 600 6).holds S (j5 oQ.res (K zs)) (λ_ _=>False) (bL (λ_=>0) 0 zs))=Tm S K:=by kernel_rfl
theorem axP (S K):(j6 (bk D6.args) λzs=>(D6.tree Tryd.prog gl (cg [vy] [B5,vz,B3,iC,hX] 75 76 53) lx 600 6).holds S (j5 D6.res (K zs)) (λ_ _=>False) (bL (λ_=>0) 0 zs))=Tj S K:=by kernel_rfl
theorem axI (S K):(j6 (bk D5.args) λzs=>(D5.tree Tryd.prog gl (cg [] [] 75 76 53) lx 600 6).holds S (j5 D5.res (K zs)) (λ_ _=>False) (bL (λ_=>0) 0 zs))=Tc S K:=by kernel_rfl
end Go.oF
set_option linter.unusedVariables false
namespace Go.oF
open Go Go.ch Go.Proofs
theorem bA {α:Type} {p:α->Prop}:∀x∈([]:List α),p x:=λ_ h=>by cases h
theorem ft:Tryd.prog.follows .mixedOrders=true:=by kernel_rfl
theorem gr:Hh Tryd.prog 76:=aaW Tryd.func76 (by kernel_rfl) (by kernel_rfl) (by kernel_rfl) (by kernel_rfl)
theorem gA:Hn Tryd.prog 53:=ah9 Tryd.func53 (by kernel_rfl) (by kernel_rfl) (by kernel_rfl) (by kernel_rfl)
theorem gw:Hm Tryd.prog 75:=age ft (enters (by kernel_rfl)) (λK=>by kernel_rfl)
theorem IX {n:Nat} {l l':List Int} (h:af (au 0 18446744073709551615 n) l) (bd:af (au 0 18446744073709551615 n) l') (e:bf l=bf l'):l=l':=Qy (b:=18446744073709551616) (by decide) h bd e
theorem xA {n:Nat} {l l':List Int} (h:af (au 0 255 n) l) (bd:af (au 0 255 n) l') (e:nb l=nb l'):l=l':=Qy (b:=256) (by decide) h bd e
theorem LL {X:Int} {rs cV:List Int} (h:af (bk [b4]) rs) (bd:af (bk [b4]) cV) (e:bf rs=X) (da:bf cV=X):rs=cV:=IX (n:=4) h bd (e.trans da.symm)
theorem ap5 {X:Int} {rs cV:List Int} (h:af (bk [xV]) rs) (bd:af (bk [xV]) cV) (e:bf rs=X) (da:bf cV=X):rs=cV:=IX (n:=8) h bd (e.trans da.symm)
theorem Wq {X:Int} {rs cV:List Int} (h:af (bk [hU]) rs) (bd:af (bk [hU]) cV) (e:nb rs=X) (da:nb cV=X):rs=cV:=xA (n:=32) h bd (e.trans da.symm)
theorem afe {X:List Int} {rs cV:List Int} (e:rs=X) (da:cV=X):rs=cV:=e.trans da.symm
theorem P8 {rs:List Int} (h:af (bk [b4,c1]) rs):∃a b c d x,rs=[a,b,c,d,x]/\0<=x/\x<=1/\af (au 0 18446744073709551615 4) [a,b,c,d]/\0<=bf [a,b,c,d]/\bf [a,b,c,d]<115792089237316195423570985008687907853269984665640564039457584007913129639936:=by
 match rs,h with
 |[a,b,c,d,x],h=>
  obtain⟨a0,b2,fK,b8,eS,c1,d0,d1,eU,ag,_⟩:=h
  exact⟨a,b,c,d,x,rfl,eU,ag,⟨a0,b2,fK,b8,eS,c1,d0,d1,trivial⟩,r3 a0 b2 fK b8 eS c1 d0 d1⟩
theorem ap3 {zs rs cV:List Int} (h:af (bk [b4,c1]) rs) (bd:af (bk [b4,c1]) cV) (e:sa zs rs) (da:sa zs cV):rs=cV:=by
 obtain⟨a,b,c,d,x,rfl,eU,ag,hb,h0,h1⟩:=P8 h
 obtain⟨du,b',eR,Fk,gg,rfl,azu,azv,pc,anL,DM⟩:=P8 bd
 simp only[sa,o4,qN,kS,jH]at e da
 have ex:x=gg:=by omega
 subst ex
 have:=IX hb pc (by omega)
 simp only[qK,and_true]at this
 simp[this]
theorem ap4 {zs rs cV:List Int} (h:af (bk [b4,c1]) rs) (bd:af (bk [b4,c1]) cV) (e:sb zs rs) (da:sb zs cV):rs=cV:=by
 obtain⟨a,b,c,d,x,rfl,eU,ag,hb,h0,h1⟩:=P8 h
 obtain⟨du,b',eR,Fk,gg,rfl,azu,azv,pc,anL,DM⟩:=P8 bd
 simp only[sb,o4,qN,kS,jH]at e da
 have ex:x=gg:=by omega
 subst ex
 have:=IX hb pc (by omega)
 simp only[qK,and_true]at this
 simp[this]
theorem ap2 {zs rs cV:List Int} (h:af (bk [b4,xV]) rs) (bd:af (bk [b4,xV]) cV) (e:uK zs rs) (da:uK zs cV):rs=cV:=by
 obtain⟨h1,h2⟩:=Ax (b:=b4.bds) (b':=xV.bds++[]) h
 obtain⟨DM,FI⟩:=Ax (b:=b4.bds) (b':=xV.bds++[]) bd
 have aw:=IX (n:=4) h1 DM (e.1.trans da.1.symm)
 have aD:=IX (n:=8) (l:=rs.drop 4) (l':=cV.drop 4) h2 FI (e.2.trans da.2.symm)
 rw[<-o2 4 rs,<-o2 4 cV,aD]
 congr 1
theorem VK {X:Int} (h0:0<=X) (h1:X<115792089237316195423570985008687907853269984665640564039457584007913129639936):∃rs,af (bk [b4]) rs/\bf rs=X:=
 ⟨HQ 18446744073709551616 4 X,by have:=ac3 (b:=18446744073709551616) (by decide) 4 X;exact this,agB (b:=18446744073709551616) (by decide) 4 X h0 h1⟩
theorem IV {l:List Int} (h:af (au 0 255 32) l):0<=nb l/\nb l<115792089237316195423570985008687907853269984665640564039457584007913129639936:=agp h
section
variable {wb:aC} (hg:fA gl ⟨wb,wb,λ_=>False,λ_=>False,[]⟩)
include hg
theorem agH:vy.b1 Tryd.prog wb (cB 22):=by
 refine kE.ri (S:=cB) (c:=vy) (cal:=(cg [] [] 75 76 53)) (spec:=cB 22) (li:=lx) (rounds:=600) (d:=6) ft (λr ex ro=>gC gw gr gA bA bA) hg (enters (by kernel_rfl)) (λzs rs cV hz h bd e da=>LL h bd e da) (λzs hz=>VK (IV (by simpa [kE.bds,vy,bk]using hz)).1 (IV (by simpa [kE.bds,vy,bk]using hz)).2) ?_
 rw[axL]
 exact auj
omit hg in
theorem PB {zs:List Int} (h:af AB.bds zs):af (au 0 255 32) (zs.take 32)/\af (au 0 255 32) (zs.drop 32):=by
 have bd:af (au 0 255 32++au 0 255 32) zs:=h
 exact Ax bd
theorem as7:AB.b1 Tryd.prog wb (cB 122):=by
 refine kE.ri (S:=cB) (c:=AB) (cal:=(cg [] [] 75 76 53)) (spec:=cB 122) (li:=lx) (rounds:=600) (d:=6) ft (λr ex ro=>gC gw gr gA bA bA) hg (enters (by kernel_rfl)) (λzs rs cV hz h bd e da=>LL h bd e da) (λzs hz=>VK (IV (PB hz).1).1 (IV (PB hz).1).2) ?_
 rw[axM]
 exact auk
theorem as8:B4.b1 Tryd.prog wb (cB 222):=by
 refine kE.ri (S:=cB) (c:=B4) (cal:=(cg [] [] 75 76 53)) (spec:=cB 222) (li:=lx) (rounds:=600) (d:=6) ft (λr ex ro=>gC gw gr gA bA bA) hg (enters (by kernel_rfl)) (λzs rs cV hz h bd e da=>LL h bd e da) (λzs hz=>VK (IV (PB hz).2).1 (IV (PB hz).2).2) ?_
 rw[axN]
 exact aul
theorem QC:iB.b1 Tryd.prog wb (cB 29):=by
 refine bZ.ri (S:=cB) (c:=iB) (cal:=(cg [] [] 75 76 53)) (spec:=cB 29) (li:=lx) (rounds:=600) (d:=6) ft (λr ex ro=>gC gw gr gA bA bA) hg (enters (by kernel_rfl)) (λzs rs cV hz h bd e da=>ap3 h bd e da) ?_
 rw[axO]
 exact XH
theorem QD:iC.b1 Tryd.prog wb (cB 24):=by
 refine bZ.ri (S:=cB) (c:=iC) (cal:=(cg [] [] 75 76 53)) (spec:=cB 24) (li:=lx) (rounds:=600) (d:=6) ft (λr ex ro=>gC gw gr gA bA bA) hg (enters (by kernel_rfl)) (λzs rs cV hz h bd e da=>ap4 h bd e da) ?_
 rw[axQ]
 exact XI
theorem QB:hX.b1 Tryd.prog wb (cB 26):=by
 refine bZ.ri (S:=cB) (c:=hX) (cal:=(cg [] [] 75 76 53)) (spec:=cB 26) (li:=lx) (rounds:=600) (d:=6) ft (λr ex ro=>gC gw gr gA bA bA) hg (enters (by kernel_rfl)) (λzs rs cV hz h bd e da=>Wq h bd e da) ?_
 rw[axH]
 exact XG
theorem atf:B5.b1 Tryd.prog wb (cB 21):=by
 refine bZ.ri (S:=cB) (c:=B5) (cal:=(cg [] [] 75 76 53)) (spec:=cB 21) (li:=lx) (rounds:=600) (d:=6) ft (λr ex ro=>gC gw gr gA bA bA) hg (enters (by kernel_rfl)) (λzs rs cV hz h bd e da=>ap5 h bd e da) ?_
 rw[axR]
 exact aus
theorem asY:BX.b1 Tryd.prog wb (cB 35):=by
 refine bZ.ri (S:=cB) (c:=BX) (cal:=(cg [] [] 75 76 53)) (spec:=cB 35) (li:=lx) (rounds:=600) (d:=6) ft (λr ex ro=>gC gw gr gA bA bA) hg (enters (by kernel_rfl)) (λzs rs cV hz h bd e da=>ap2 h bd e da) ?_
 rw[axJ]
 exact aua
theorem Xs:vz.b1 Tryd.prog wb (cB 23):=by
 refine bZ.ri (S:=cB) (c:=vz) (cal:=(cg [] [BX,iC,iB] 75 76 53)) (spec:=cB 23) (li:=lx) (rounds:=600) (d:=6) ft (λr ex ro=>gC gw gr gA bA (List.forall_mem_cons.2 ⟨(asY hg).f,(List.forall_mem_cons.2 ⟨(QD hg).f,(List.forall_mem_cons.2 ⟨(QC hg).f,bA⟩)⟩)⟩)) hg (enters (by kernel_rfl)) (λzs rs cV hz h bd e da=>LL h bd e da) ?_
 rw[axT]
 exact auv
theorem as6:B3.b1 Tryd.prog wb (cB 25):=by
 refine bZ.ri (S:=cB) (c:=B3) (cal:=(cg [] [vz] 75 76 53)) (spec:=cB 25) (li:=lx) (rounds:=600) (d:=6) ft (λr ex ro=>gC gw gr gA bA (List.forall_mem_cons.2 ⟨(Xs hg).f,bA⟩)) hg (enters (by kernel_rfl)) (λzs rs cV hz h bd e da=>LL h bd e da) ?_
 rw[axK]
 exact aui
theorem Xt:oo.b1 Tryd.prog wb (cB 13):=by
 refine bZ.ri (S:=cB) (c:=oo) (cal:=(cg [vy] [iB] 75 76 53)) (spec:=cB 13) (li:=lx) (rounds:=600) (d:=6) ft (λr ex ro=>gC gw gr gA (List.forall_mem_cons.2 ⟨agH hg,bA⟩) (List.forall_mem_cons.2 ⟨(QC hg).f,bA⟩)) hg (enters (by kernel_rfl)) (λzs rs cV hz h bd e da=>afe e da) ?_
 rw[axU]
 exact XK
theorem Xr:oQ.b1 Tryd.prog wb (cB 11):=by
 refine bZ.ri (S:=cB) (c:=oQ) (cal:=(cg [AB,B4] [vz,hX] 75 76 53)) (spec:=cB 11) (li:=lx) (rounds:=600) (d:=6) ft (λr ex ro=>gC gw gr gA (List.forall_mem_cons.2 ⟨as7 hg,(List.forall_mem_cons.2 ⟨as8 hg,bA⟩)⟩) (List.forall_mem_cons.2 ⟨(Xs hg).f,(List.forall_mem_cons.2 ⟨(QB hg).f,bA⟩)⟩)) hg (enters (by kernel_rfl)) (λzs rs cV hz h bd e da=>Wq h bd e da) ?_
 rw[axS]
 exact XJ
theorem ata:D6.b1 Tryd.prog wb (cB 8):=by
 refine bZ.ri (S:=cB) (c:=D6) (cal:=(cg [vy] [B5,vz,B3,iC,hX] 75 76 53)) (spec:=cB 8) (li:=lx) (rounds:=600) (d:=6) ft (λr ex ro=>gC gw gr gA (List.forall_mem_cons.2 ⟨agH hg,bA⟩) (List.forall_mem_cons.2 ⟨(atf hg).f,(List.forall_mem_cons.2 ⟨(Xs hg).f,(List.forall_mem_cons.2 ⟨(as6 hg).f,(List.forall_mem_cons.2 ⟨(QD hg).f,(List.forall_mem_cons.2 ⟨(QB hg).f,bA⟩)⟩)⟩)⟩)⟩)) hg (enters (by kernel_rfl)) (λzs rs cV hz h bd e da=>Wq h bd e da) ?_
 rw[axP]
 exact aun
theorem asL:D5.b1 Tryd.prog wb (cB 14):=by
 refine bZ.ri (S:=cB) (c:=D5) (cal:=(cg [] [] 75 76 53)) (spec:=cB 14) (li:=lx) (rounds:=600) (d:=6) ft (λr ex ro=>gC gw gr gA bA bA) hg (enters (by kernel_rfl)) (λzs rs cV hz h bd e da=>afe e da) ?_
 rw[axI]
 exact atV
end
end Go.oF
namespace Go.Fd
open Go Go.ch Go.Proofs
theorem aym (S K):jj sh c8 S K [5] (bk kc.args) kc.res (kc.tree Tryd.prog gl (cg [] [] 75 76 53) cr 600 6)=R9 S K:=by kernel_rfl
theorem auN:(kc.tree Tryd.prog gl (cg [] [] 75 76 53) cr 600 6).plain=true:=by kernel_rfl
theorem ayC (S K):jj sh c8 S K [32] (bk rX.args) rX.res (rX.tree Tryd.prog gl (cg [] [kc] 75 76 53) cr 600 6)=Sj S K:=by kernel_rfl
theorem auV:(rX.tree Tryd.prog gl (cg [] [kc] 75 76 53) cr 600 6).plain=true:=by kernel_rfl
theorem ayl (S K):jj sh c8 S K [5] (bk hX.args) hX.res (hX.tree Tryd.prog gl (cg [] [kc] 75 76 53) cr 600 6)=R8 S K:=by kernel_rfl
theorem auM:(hX.tree Tryd.prog gl (cg [] [kc] 75 76 53) cr 600 6).plain=true:=by kernel_rfl
theorem ayP (S K):jj sh c8 S K [5,5] (bk iC.args) iC.res (iC.tree Tryd.prog gl (cg [] [kc] 75 76 53) cr 600 6)=Sp S K:=by kernel_rfl
theorem au0:(iC.tree Tryd.prog gl (cg [] [kc] 75 76 53) cr 600 6).plain=true:=by kernel_rfl
theorem ayK (S K):jj sh c8 S K [5,5] (bk iB.args) iB.res (iB.tree Tryd.prog gl (cg [] [kc] 75 76 53) cr 600 6)=Sm S K:=by kernel_rfl
theorem auX:(iB.tree Tryd.prog gl (cg [] [kc] 75 76 53) cr 600 6).plain=true:=by kernel_rfl
theorem ay4 (S K):jj sh c8 S K [5,5] (bk gG.args) gG.res (gG.tree Tryd.prog gl (cg [] [kc] 75 76 53) cr 600 6)=Sx S K:=by kernel_rfl
theorem au7:(gG.tree Tryd.prog gl (cg [] [kc] 75 76 53) cr 600 6).plain=true:=by kernel_rfl
end Go.Fd
namespace Go.Fd
open Go Go.ch Go.Proofs
theorem ay0 (S K):jj sh c8 S K [5] (bk m8.args) m8.res (m8.tree Tryd.prog gl (cg [] [gG] 75 76 53) cr 600 6)=Sw S K:=by kernel_rfl
theorem au6:(m8.tree Tryd.prog gl (cg [] [gG] 75 76 53) cr 600 6).plain=true:=by kernel_rfl
theorem ayL (S K):jj sh c8 S K [5] (bk pT.args) pT.res (pT.tree Tryd.prog gl (cg [] [iB] 75 76 53) cr 600 6)=Sn S K:=by kernel_rfl
theorem auY:(pT.tree Tryd.prog gl (cg [] [iB] 75 76 53) cr 600 6).plain=true:=by kernel_rfl
theorem ayQ (S K):jj sh af1 S K [5,4] (bk rb.args) rb.res (rb.tree Tryd.prog gl (cg [] [m8,gG] 75 76 53) W4 600 6)=Sq S K:=by kernel_rfl
theorem ayI (S K):jj sh c8 S K [5] (bk rY.args) rY.res (rY.tree Tryd.prog gl (cg [] [rb] 75 76 53) cr 600 6)=Sk S K:=by kernel_rfl
theorem auW:(rY.tree Tryd.prog gl (cg [] [rb] 75 76 53) cr 600 6).plain=true:=by kernel_rfl
theorem ayV (S K):jj sh c8 S K [5,5] (bk re.args) re.res (re.tree Tryd.prog gl (cg [] [hX] 75 76 53) cr 600 6)=Sv S K:=by kernel_rfl
theorem au5:(re.tree Tryd.prog gl (cg [] [hX] 75 76 53) cr 600 6).plain=true:=by kernel_rfl
theorem ayO (S K):jj sh c8 S K [5] (bk ra.args) ra.res (ra.tree Tryd.prog gl (cg [] [hX] 75 76 53) cr 600 6)=So S K:=by kernel_rfl
theorem auZ:(ra.tree Tryd.prog gl (cg [] [hX] 75 76 53) cr 600 6).plain=true:=by kernel_rfl
theorem ayU (S K):jj sh c8 S K [5] (bk tT.args) tT.res (tT.tree Tryd.prog gl (cg [] [rb,m8,re,ra,pT,gG] 75 76 53) cr 600 6)=Su S K:=by kernel_rfl
theorem au4:(tT.tree Tryd.prog gl (cg [] [rb,m8,re,ra,pT,gG] 75 76 53) cr 600 6).plain=true:=by kernel_rfl
theorem ayS (S K):jj sh c8 S K [32] (bk oQ.args) oQ.res (oQ.tree Tryd.prog gl (cg [] [rX,hX] 75 76 53) cr 600 6)=Ss S K:=by kernel_rfl
theorem au2:(oQ.tree Tryd.prog gl (cg [] [rX,hX] 75 76 53) cr 600 6).plain=true:=by kernel_rfl
theorem ayT (S K):jj sh c8 S K [32] (bk oo.args) oo.res (oo.tree Tryd.prog gl (cg [] [oQ] 75 76 53) cr 600 6)=St S K:=by kernel_rfl
theorem au3:(oo.tree Tryd.prog gl (cg [] [oQ] 75 76 53) cr 600 6).plain=true:=by kernel_rfl
end Go.Fd
namespace Go.Fd
open Go Go.ch Go.Proofs
theorem ay5 (S K):jj sh c8 S K [] (bk uA.args) uA.res (uA.tree Tryd.prog gl (cg [] [iC] 75 76 53) cr 600 6)=Sy S K:=by kernel_rfl
theorem au8:(uA.tree Tryd.prog gl (cg [] [iC] 75 76 53) cr 600 6).plain=true:=by kernel_rfl
theorem ayB (S K):jj sh c8 S K [5,5] (bk pj.args) pj.res (pj.tree Tryd.prog gl (cg [] [gG] 75 76 53) cr 600 6)=Si S K:=by kernel_rfl
theorem auU:(pj.tree Tryd.prog gl (cg [] [gG] 75 76 53) cr 600 6).plain=true:=by kernel_rfl
theorem ayn (S K):jj sh c8 S K [] (bk sJ.args) sJ.res (sJ.tree Tryd.prog gl (cg [] [pj] 75 76 53) cr 600 6)=Sa S K:=by kernel_rfl
theorem auO:(sJ.tree Tryd.prog gl (cg [] [pj] 75 76 53) cr 600 6).plain=true:=by kernel_rfl
theorem ayu (S K):jj sh c8 S K [] (bk uy.args) uy.res (uy.tree Tryd.prog gl (cg [] [pj] 75 76 53) cr 600 6)=Sg S K:=by kernel_rfl
theorem auS:(uy.tree Tryd.prog gl (cg [] [pj] 75 76 53) cr 600 6).plain=true:=by kernel_rfl
theorem ays (S K):jj sh c8 S K [5,5,5,5] (bk rW.args) rW.res (rW.tree Tryd.prog gl (cg [] [gG] 75 76 53) cr 600 6)=Se S K:=by kernel_rfl
theorem auQ:(rW.tree Tryd.prog gl (cg [] [gG] 75 76 53) cr 600 6).plain=true:=by kernel_rfl
theorem ayt (S K):jj sh c8 S K [5,5,5,5,5,5,5,5] (bk sK.args) sK.res (sK.tree Tryd.prog gl (cg [] [iB,gG,iC,uA,rW] 75 76 53) cr 600 6)=Sf S K:=by kernel_rfl
theorem auR:(sK.tree Tryd.prog gl (cg [] [iB,gG,iC,uA,rW] 75 76 53) cr 600 6).plain=true:=by kernel_rfl
theorem ayv (S K):jj sh c8 S K [5,5,5] (bk uz.args) uz.res (uz.tree Tryd.prog gl (cg [] [m8,iC,iB,rW] 75 76 53) cr 600 6)=Sh S K:=by kernel_rfl
theorem auT:(uz.tree Tryd.prog gl (cg [] [m8,iC,iB,rW] 75 76 53) cr 600 6).plain=true:=by kernel_rfl
theorem ayJ (S K):jj sh af0 S K [5,5,5,5,32] (bk pk.args) pk.res (pk.tree Tryd.prog gl (cg [] [uy,uz,sK] 75 76 53) W2 600 6)=Sl S K:=by kernel_rfl
theorem ayo (S K):jj sh c8 S K [5,5,5] (bk qv.args) qv.res (qv.tree Tryd.prog gl (cg [] [rY,gG,hX,ra] 75 76 53) cr 600 6)=Sb S K:=by kernel_rfl
theorem auP:(qv.tree Tryd.prog gl (cg [] [rY,gG,hX,ra] 75 76 53) cr 600 6).plain=true:=by kernel_rfl
theorem ayR (S K):jj sh c8 S K [32] (bk tj.args) tj.res (tj.tree Tryd.prog gl (cg [] [oo,rX,m8,iB,gG,iC,rY,tT,re,pT,pj] 75 76 53) cr 600 6)=Sr S K:=by kernel_rfl
theorem au1:(tj.tree Tryd.prog gl (cg [] [oo,rX,m8,iB,gG,iC,rY,tT,re,pT,pj] 75 76 53) cr 600 6).plain=true:=by kernel_rfl
theorem ayr (S K):jj sh c8 S K [32] (bk y5.args) y5.res (y5.tree Tryd.prog gl (cg [] [tj,pT,qv] 75 76 53) cr 600 6)=Sd S K:=by kernel_rfl
theorem ayk (S K):jj sh c8 S K [32] (bk y3.args) y3.res (y3.tree Tryd.prog gl (cg [] [sJ,pk,qv] 75 76 53) cr 600 6)=R7 S K:=by kernel_rfl
theorem auL:(y3.tree Tryd.prog gl (cg [] [sJ,pk,qv] 75 76 53) cr 600 6).plain=true:=by kernel_rfl
theorem ayq (S K):jj sh c8 S K [32,32,32] (bk y4.args) y4.res (y4.tree Tryd.prog gl (cg [] [tj,pk,sJ,sK,qv] 75 76 53) cr 600 6)=Sc S K:=by kernel_rfl
end Go.Fd
namespace Go.Fd
open Go Go.ch Go.Proofs
theorem ft:Tryd.prog.follows .mixedOrders=true:=by kernel_rfl
theorem gr:Hh Tryd.prog 76:=aaW Tryd.func76 (by kernel_rfl) (by kernel_rfl) (by kernel_rfl) (by kernel_rfl)
theorem gA:Hn Tryd.prog 53:=ah9 Tryd.func53 (by kernel_rfl) (by kernel_rfl) (by kernel_rfl) (by kernel_rfl)
theorem gw:Hm Tryd.prog 75:=age ft (enters (by kernel_rfl)) (λK=>by kernel_rfl)
theorem wm {α:Type}:∀(ou:List Nat) (l:List α),(dk ou l).flatten=l
 |[],[]=>rfl
 |[],_::_=>by simp[dk]
 |k::ou,l=>by simp only[dk,uT,wm ou,o2]
def hI (id:Nat):List Int->List Int->Prop:=λzs rs=>SB id (dk (sh id).1 zs) (dk (sh id).2 rs)
abbrev gq (G:Nat->List Int->List Int):Nat->List Int->List Int->Prop:=jo sh (jI G)
theorem ajx (G:Nat->List Int->List Int):∀id a rs cV,gq G id a rs->gq G id a cV->rs=cV:=λid a rs cV h bd=>by
 have e:=h.2
 have da:=bd.2
 rw[wm,wm]at e da
 exact e.trans da.symm
theorem YW {lsh:Nat->List Nat} {G:Nat->List Int->List Int} {id:Nat} {lens:List Nat} {bds:List (Int×Int)} {ds:List D} {t:T} (hl:lens=(sh id).1) (hd:xB ds=(sh id).2) (h:jj sh lsh (jI G) (ji ds id) lens bds ds t):
 ∀zs,af bds zs->t.holds (gq G) (j5 ds λrs=>af (bk ds) rs/\hI id zs rs) (λ_ _=>False) (bL (λ_=>0) 0 zs):=λzs hz=>by
 have h:=oG (NT h) hz
 simp only[ji,wm]at h
 rw[hl,hd]at h
 exact h
theorem NK {P:Program} {wb:aC} {c:bZ} {s GW:List Int->List Int->Prop} (h:c.b1 P wb s) (hs:∀zs rs,s zs rs->GW zs rs):c.b1 P wb GW:=
 ⟨h.1,λzs hz=>by obtain⟨rs,h1,h2,h3⟩:=h.2 zs hz;exact⟨rs,h1,hs zs rs h2,h3⟩⟩
def jh (wb:aC) (L:List bZ) (G:Nat->List Int->List Int):Prop:=∀c∈L,c.b1 Tryd.prog wb (gq G c.id)
theorem jh.step {wb:aC} {L:List bZ} {G:Nat->List Int->List Int} {c:bZ} (h:jh wb L G) (c7:(L.all λeR=> !(Nat.beq eR.id c.id))=true) (h0:c.b1 Tryd.prog wb (hI c.id)):∃eP,jh wb (c::L) eP:=by
 obtain⟨F,hF⟩:=h0.fn
 refine⟨λid=>if id=c.id then F else G id,λeR DP=>?_⟩
 rcases List.mem_cons.1 DP with rfl|hm
 ·refine NK hF λzs rs ⟨h1,h2⟩=>⟨h2,?_⟩
  simp only[wm,if_true]
  exact h1
 ·refine NK (h eR hm) λzs rs ⟨h1,h2⟩=>⟨h1,?_⟩
  have hb:=List.all_eq_true.1 c7 eR hm
  have hn:¬eR.id=c.id:=λe=>by rw[e]at hb;simp at hb
  simp only[if_neg hn]
  exact h2
theorem dM {α:Type} {l:List α} {i:Nat} {a:α} (h:l[i]?=some a):a∈l:=List.mem_of_getElem? h
theorem bA {α:Type} {p:α->Prop}:∀x∈([]:List α),p x:=λ_ h=>by cases h
theorem Jw {zs:List Int} {a b:Nat} (h:zs.length=a+b):dk [a,b] zs=[zs.take a,zs.drop a]:=by
 have aw:(zs.drop a).take b=zs.drop a:=uU (by rw[rA];omega)
 have aD:(zs.drop a).drop b=[]:=RC (by rw[rA];omega)
 show zs.take a::(zs.drop a).take b::dk [] ((zs.drop a).drop b)=_
 rw[aw,aD]
 rfl
theorem xS {zs:List Int} {a:Nat} (h:zs.length=a):dk [a] zs=[zs]:=by
 have aw:zs.take a=zs:=uU (by omega)
 have aD:zs.drop a=[]:=RC (by omega)
 show zs.take a::dk [] (zs.drop a)=_
 rw[aw,aD]
 rfl
theorem ox {wb:aC} {G:Nat->List Int->List Int} {c:bZ} {cal:fy} {li:FuncId->Nat->Option gB} {rounds d:Nat} {lsh:Nat->List Nat} {lens:List Nat} (c6:∀r ex ro,h8 (gq G) Tryd.prog gl ⟨wb,r,ex,ro,[]⟩ cal) (hg:fA gl ⟨wb,wb,λ_=>False,λ_=>False,[]⟩)
 (hf:∀args w,(callFunc c.f args).run Tryd.prog w= .ok (.enter c.f args) w) (hp:(c.tree Tryd.prog gl cal li rounds d).plain=true) (hl:lens=(sh c.id).1) (hd:xB c.res=(sh c.id).2)
 (hv:jj sh lsh (jI G) (ji c.res c.id) lens (bk c.args) c.res (c.tree Tryd.prog gl cal li rounds d)):c.b1 Tryd.prog wb (hI c.id):=
 bZ.asC (S:=gq G) (spec:=hI c.id) ft c6 hg hf (ajx G) hp (YW hl hd hv)
theorem YG {zs:List Int} {a b c:Nat} (h:zs.length=a+(b+c)):dk [a,b,c] zs=[zs.take a,(zs.drop a).take b,(zs.drop a).drop b]:=by
 have e:dk [a,b,c] zs=zs.take a::dk [b,c] (zs.drop a):=rfl
 rw[e,Jw (zs:=zs.drop a) (a:=b) (b:=c) (by rw[rA];omega)]
theorem ahw {rs:List Int} (h:af (bk [hU,qX]) rs):dk [32,1] rs=[rs.take 32,rs.drop 32]/\af (au 0 255 32) (rs.take 32)/\∃e,rs.drop 32=[e]:=by
 rw[abW]at h
 have hl:rs.length=32+1:=e7 h
 have hs:=Ax h
 rw[GP]at hs
 refine⟨Jw hl,hs.1,?_⟩
 have h2:=hs.2
 match rs.drop 32,h2 with
 |[e],_=>exact⟨e,rfl⟩
theorem ain {id:Nat} {zs rs cV:List Int} {al:List (List Int)} {o:Option (Int×Int)} (hr:(sh id).2=[32,1]) (ha:dk (sh id).1 zs=al) (hK:∀r e,SB id al [r,[e]]->tA r e o) (h1:af (bk [hU,qX]) rs) (h2:af (bk [hU,qX]) cV) (e:hI id zs rs) (da:hI id zs cV):rs=cV:=by
 obtain⟨b2,a2,x,a3⟩:=ahw h1
 obtain⟨b8,b9,y,de⟩:=ahw h2
 unfold hI at e da
 rw[hr,ha,b2,a3]at e
 rw[hr,ha,b8,de]at da
 have k:=akc (hK _ _ e) (hK _ _ da) a2 b9
 rw[<-o2 32 rs,<-o2 32 cV,a3,de,k.1,k.2]
theorem axX (zs:List Int):[zs.take 5,(zs.drop 5).take 5,((zs.drop 5).drop 5).take 5,(((zs.drop 5).drop 5).drop 5).take 5].flatten=zs.take 20:=by
 simp only[uT,List.flatten_nil,List.append_nil,A9,Nat.reduceAdd]
 rw[show(20:Nat)=5+(5+(5+5)) by rfl,Zk,Zk,Zk]
 simp only[A9,Nat.reduceAdd]
theorem ar5 {G:Nat->List Int->List Int} {zs:List Int} {r:List (List Int)} (oR:zs.length=20+32) (h:SY G (dk [5,5,5,5,32] zs) r):ji pk.res 107 (dk [5,5,5,5,32] zs) r/\r.flatten=vC G (zs.take 20) (nb (zs.drop 20)).toNat 256:=by
 have e:dk [5,5,5,5,32] zs=[zs.take 5,(zs.drop 5).take 5,((zs.drop 5).drop 5).take 5,(((zs.drop 5).drop 5).drop 5).take 5,zs.drop 20]:=by
  have fF:dk [5,5,5,5,32] zs=zs.take 5::(zs.drop 5).take 5::((zs.drop 5).drop 5).take 5::(((zs.drop 5).drop 5).drop 5).take 5::dk [32] ((((zs.drop 5).drop 5).drop 5).drop 5):=rfl
  have aw:((((zs.drop 5).drop 5).drop 5).drop 5)=zs.drop 20:=by simp only[A9]
  rw[fF,aw,xS (by rw[rA];omega)]
 rw[e]at h⊢
 refine⟨h.1,?_⟩
 have h2:=h.2
 simp only at h2
 rw[axX]at h2
 exact h2
section
variable {wb:aC} (hg:fA gl ⟨wb,wb,λ_=>False,λ_=>False,[]⟩) {G:Nat->List Int->List Int}
include hg G
theorem asH:kc.b1 Tryd.prog wb (hI kc.id):=by
 refine ox (G:=G) (c:=kc) (cal:=(cg [] [] 75 76 53)) (li:=cr) (rounds:=600) (d:=6) (lsh:=c8) (λr ex ro=>gC gw gr gA bA bA) hg (enters (by kernel_rfl)) auN rfl rfl (lens:=[5]) ?_
 rw[aym]
 exact atQ G
theorem asZ (h:∀c∈[kc],c.b1 Tryd.prog wb (gq G c.id)):rX.b1 Tryd.prog wb (hI rX.id):=by
 refine ox (G:=G) (c:=rX) (cal:=(cg [] [kc] 75 76 53)) (li:=cr) (rounds:=600) (d:=6) (lsh:=c8) (λr ex ro=>gC gw gr gA bA (λc hc=>(h c hc).f)) hg (enters (by kernel_rfl)) auV rfl rfl (lens:=[32]) ?_
 rw[ayC]
 exact aub G
theorem QB (h:∀c∈[kc],c.b1 Tryd.prog wb (gq G c.id)):hX.b1 Tryd.prog wb (hI hX.id):=by
 refine ox (G:=G) (c:=hX) (cal:=(cg [] [kc] 75 76 53)) (li:=cr) (rounds:=600) (d:=6) (lsh:=c8) (λr ex ro=>gC gw gr gA bA (λc hc=>(h c hc).f)) hg (enters (by kernel_rfl)) auM rfl rfl (lens:=[5]) ?_
 rw[ayl]
 exact XG G
theorem QD (h:∀c∈[kc],c.b1 Tryd.prog wb (gq G c.id)):iC.b1 Tryd.prog wb (hI iC.id):=by
 refine ox (G:=G) (c:=iC) (cal:=(cg [] [kc] 75 76 53)) (li:=cr) (rounds:=600) (d:=6) (lsh:=c8) (λr ex ro=>gC gw gr gA bA (λc hc=>(h c hc).f)) hg (enters (by kernel_rfl)) au0 rfl rfl (lens:=[5,5]) ?_
 rw[ayP]
 exact XI G
theorem QC (h:∀c∈[kc],c.b1 Tryd.prog wb (gq G c.id)):iB.b1 Tryd.prog wb (hI iB.id):=by
 refine ox (G:=G) (c:=iB) (cal:=(cg [] [kc] 75 76 53)) (li:=cr) (rounds:=600) (d:=6) (lsh:=c8) (λr ex ro=>gC gw gr gA bA (λc hc=>(h c hc).f)) hg (enters (by kernel_rfl)) auX rfl rfl (lens:=[5,5]) ?_
 rw[ayK]
 exact XH G
theorem atw (h:∀c∈[kc],c.b1 Tryd.prog wb (gq G c.id)):gG.b1 Tryd.prog wb (hI gG.id):=by
 refine ox (G:=G) (c:=gG) (cal:=(cg [] [kc] 75 76 53)) (li:=cr) (rounds:=600) (d:=6) (lsh:=c8) (λr ex ro=>gC gw gr gA bA (λc hc=>(h c hc).f)) hg (enters (by kernel_rfl)) au7 rfl rfl (lens:=[5,5]) ?_
 rw[ay4]
 exact auH G
theorem atq (h:∀c∈[gG],c.b1 Tryd.prog wb (gq G c.id)):m8.b1 Tryd.prog wb (hI m8.id):=by
 refine ox (G:=G) (c:=m8) (cal:=(cg [] [gG] 75 76 53)) (li:=cr) (rounds:=600) (d:=6) (lsh:=c8) (λr ex ro=>gC gw gr gA bA (λc hc=>(h c hc).f)) hg (enters (by kernel_rfl)) au6 rfl rfl (lens:=[5]) ?_
 rw[ay0]
 exact auD G
theorem atb (h:∀c∈[iB],c.b1 Tryd.prog wb (gq G c.id)):pT.b1 Tryd.prog wb (hI pT.id):=by
 refine ox (G:=G) (c:=pT) (cal:=(cg [] [iB] 75 76 53)) (li:=cr) (rounds:=600) (d:=6) (lsh:=c8) (λr ex ro=>gC gw gr gA bA (λc hc=>(h c hc).f)) hg (enters (by kernel_rfl)) auY rfl rfl (lens:=[5]) ?_
 rw[ayL]
 exact auo G
theorem atg (h:∀c∈[m8,gG],c.b1 Tryd.prog wb (gq G c.id)):rb.b1 Tryd.prog wb (hI 43):=
 NK (bZ.ri (S:=gq G) (spec:=λzs rs=>hI 43 zs rs/\rs=xI G (zs.take 5) (bf (zs.drop 5)).toNat 256) (c:=rb) (cal:=(cg [] [m8,gG] 75 76 53)) (li:=W4) (rounds:=600) (d:=6) ft (λr ex ro=>gC gw gr gA bA (λc hc=>(h c hc).f)) hg (enters (by kernel_rfl)) (λzs rs cV hz h1 h2 e da=>e.2.trans da.2.symm)
  (u6 λzs hz=>by
    have hv:=oG (NT (S:=jI G) (K:=SZ G) (sh:=sh) (lsh:=af1) (lens:=[5,4]) (bds:=bk rb.args) (ds:=rb.res) (t:=(rb.tree Tryd.prog gl (cg [] [m8,gG] 75 76 53) W4 600 6)) (by rw[ayQ];exact aut G)) hz
    have oR:zs.length=5+4:=e7 hz
    refine kp (λv ρ hl=>?_) _ _ _ hv
    unfold j5 at hl⊢
    split
    ·rename_i os ax
     rw[ax]at hl
     simp only[SZ,ji,wm,Jw oR]at hl
     refine⟨hl.1.1,?_,hl.2⟩
     unfold hI
     rw[show(sh 43).1=[5,4] by rfl,Jw oR]
     exact hl.1.2
    ·rename_i ax
     rw[ax]at hl
     exact hl)) λzs rs h=>h.1
theorem as5 (h:∀c∈[rb],c.b1 Tryd.prog wb (gq G c.id)):rY.b1 Tryd.prog wb (hI rY.id):=by
 refine ox (G:=G) (c:=rY) (cal:=(cg [] [rb] 75 76 53)) (li:=cr) (rounds:=600) (d:=6) (lsh:=c8) (λr ex ro=>gC gw gr gA bA (λc hc=>(h c hc).f)) hg (enters (by kernel_rfl)) auW rfl rfl (lens:=[5]) ?_
 rw[ayI]
 exact auh G
theorem atj (h:∀c∈[hX],c.b1 Tryd.prog wb (gq G c.id)):re.b1 Tryd.prog wb (hI re.id):=by
 refine ox (G:=G) (c:=re) (cal:=(cg [] [hX] 75 76 53)) (li:=cr) (rounds:=600) (d:=6) (lsh:=c8) (λr ex ro=>gC gw gr gA bA (λc hc=>(h c hc).f)) hg (enters (by kernel_rfl)) au5 rfl rfl (lens:=[5,5]) ?_
 rw[ayV]
 exact auy G
theorem ate (h:∀c∈[hX],c.b1 Tryd.prog wb (gq G c.id)):ra.b1 Tryd.prog wb (hI ra.id):=by
 refine ox (G:=G) (c:=ra) (cal:=(cg [] [hX] 75 76 53)) (li:=cr) (rounds:=600) (d:=6) (lsh:=c8) (λr ex ro=>gC gw gr gA bA (λc hc=>(h c hc).f)) hg (enters (by kernel_rfl)) auZ rfl rfl (lens:=[5]) ?_
 rw[ayO]
 exact aur G
theorem ati (h:∀c∈[rb,m8,re,ra,pT,gG],c.b1 Tryd.prog wb (gq G c.id)):tT.b1 Tryd.prog wb (hI tT.id):=by
 refine ox (G:=G) (c:=tT) (cal:=(cg [] [rb,m8,re,ra,pT,gG] 75 76 53)) (li:=cr) (rounds:=600) (d:=6) (lsh:=c8) (λr ex ro=>gC gw gr gA bA (λc hc=>(h c hc).f)) hg (enters (by kernel_rfl)) au4 rfl rfl (lens:=[5]) ?_
 rw[ayU]
 exact auw G
theorem Xr (h:∀c∈[rX,hX],c.b1 Tryd.prog wb (gq G c.id)):oQ.b1 Tryd.prog wb (hI oQ.id):=by
 refine ox (G:=G) (c:=oQ) (cal:=(cg [] [rX,hX] 75 76 53)) (li:=cr) (rounds:=600) (d:=6) (lsh:=c8) (λr ex ro=>gC gw gr gA bA (λc hc=>(h c hc).f)) hg (enters (by kernel_rfl)) au2 rfl rfl (lens:=[32]) ?_
 rw[ayS]
 exact XJ G
theorem Xt (h:∀c∈[oQ],c.b1 Tryd.prog wb (gq G c.id)):oo.b1 Tryd.prog wb (hI oo.id):=by
 refine ox (G:=G) (c:=oo) (cal:=(cg [] [oQ] 75 76 53)) (li:=cr) (rounds:=600) (d:=6) (lsh:=c8) (λr ex ro=>gC gw gr gA bA (λc hc=>(h c hc).f)) hg (enters (by kernel_rfl)) au3 rfl rfl (lens:=[32]) ?_
 rw[ayT]
 exact XK G
theorem atx (h:∀c∈[iC],c.b1 Tryd.prog wb (gq G c.id)):uA.b1 Tryd.prog wb (hI uA.id):=by
 refine ox (G:=G) (c:=uA) (cal:=(cg [] [iC] 75 76 53)) (li:=cr) (rounds:=600) (d:=6) (lsh:=c8) (λr ex ro=>gC gw gr gA bA (λc hc=>(h c hc).f)) hg (enters (by kernel_rfl)) au8 rfl rfl (lens:=[]) ?_
 rw[ay5]
 exact auI G
theorem asX (h:∀c∈[gG],c.b1 Tryd.prog wb (gq G c.id)):pj.b1 Tryd.prog wb (hI pj.id):=by
 refine ox (G:=G) (c:=pj) (cal:=(cg [] [gG] 75 76 53)) (li:=cr) (rounds:=600) (d:=6) (lsh:=c8) (λr ex ro=>gC gw gr gA bA (λc hc=>(h c hc).f)) hg (enters (by kernel_rfl)) auU rfl rfl (lens:=[5,5]) ?_
 rw[ayB]
 exact at7 G
theorem asI (h:∀c∈[pj],c.b1 Tryd.prog wb (gq G c.id)):sJ.b1 Tryd.prog wb (hI sJ.id):=by
 refine ox (G:=G) (c:=sJ) (cal:=(cg [] [pj] 75 76 53)) (li:=cr) (rounds:=600) (d:=6) (lsh:=c8) (λr ex ro=>gC gw gr gA bA (λc hc=>(h c hc).f)) hg (enters (by kernel_rfl)) auO rfl rfl (lens:=[]) ?_
 rw[ayn]
 exact atS G
theorem asQ (h:∀c∈[pj],c.b1 Tryd.prog wb (gq G c.id)):uy.b1 Tryd.prog wb (hI uy.id):=by
 refine ox (G:=G) (c:=uy) (cal:=(cg [] [pj] 75 76 53)) (li:=cr) (rounds:=600) (d:=6) (lsh:=c8) (λr ex ro=>gC gw gr gA bA (λc hc=>(h c hc).f)) hg (enters (by kernel_rfl)) auS rfl rfl (lens:=[]) ?_
 rw[ayu]
 exact at0 G
theorem asO (h:∀c∈[gG],c.b1 Tryd.prog wb (gq G c.id)):rW.b1 Tryd.prog wb (hI rW.id):=by
 refine ox (G:=G) (c:=rW) (cal:=(cg [] [gG] 75 76 53)) (li:=cr) (rounds:=600) (d:=6) (lsh:=c8) (λr ex ro=>gC gw gr gA bA (λc hc=>(h c hc).f)) hg (enters (by kernel_rfl)) auQ rfl rfl (lens:=[5,5,5,5]) ?_
 rw[ays]
 exact atY G
theorem asP (h:∀c∈[iB,gG,iC,uA,rW],c.b1 Tryd.prog wb (gq G c.id)):sK.b1 Tryd.prog wb (hI sK.id):=by
 refine ox (G:=G) (c:=sK) (cal:=(cg [] [iB,gG,iC,uA,rW] 75 76 53)) (li:=cr) (rounds:=600) (d:=6) (lsh:=c8) (λr ex ro=>gC gw gr gA bA (λc hc=>(h c hc).f)) hg (enters (by kernel_rfl)) auR rfl rfl (lens:=[5,5,5,5,5,5,5,5]) ?_
 rw[ayt]
 exact atZ G
theorem asR (h:∀c∈[m8,iC,iB,rW],c.b1 Tryd.prog wb (gq G c.id)):uz.b1 Tryd.prog wb (hI uz.id):=by
 refine ox (G:=G) (c:=uz) (cal:=(cg [] [m8,iC,iB,rW] 75 76 53)) (li:=cr) (rounds:=600) (d:=6) (lsh:=c8) (λr ex ro=>gC gw gr gA bA (λc hc=>(h c hc).f)) hg (enters (by kernel_rfl)) auT rfl rfl (lens:=[5,5,5]) ?_
 rw[ayv]
 exact at1 G
theorem as9 (h:∀c∈[uy,uz,sK],c.b1 Tryd.prog wb (gq G c.id)):pk.b1 Tryd.prog wb (hI 107):=
 NK (bZ.ri (S:=gq G) (spec:=λzs rs=>hI 107 zs rs/\rs=vC G (zs.take 20) (nb (zs.drop 20)).toNat 256) (c:=pk) (cal:=(cg [] [uy,uz,sK] 75 76 53)) (li:=W2) (rounds:=600) (d:=6) ft (λr ex ro=>gC gw gr gA bA (λc hc=>(h c hc).f)) hg (enters (by kernel_rfl)) (λzs rs cV hz h1 h2 e da=>e.2.trans da.2.symm)
  (u6 λzs hz=>by
    have hv:=oG (NT (S:=jI G) (K:=SY G) (sh:=sh) (lsh:=af0) (lens:=[5,5,5,5,32]) (bds:=bk pk.args) (ds:=pk.res) (t:=(pk.tree Tryd.prog gl (cg [] [uy,uz,sK] 75 76 53) W2 600 6)) (by rw[ayJ];exact aum G)) hz
    have oR:zs.length=20+32:=e7 hz
    refine kp (λv ρ hl=>?_) _ _ _ hv
    unfold j5 at hl⊢
    split
    ·rename_i os ax
     rw[ax]at hl
     have hl:ji pk.res 107 (dk [5,5,5,5,32] zs) (dk (xB pk.res) (os.map (O.den ρ)))/\(dk (xB pk.res) (os.map (O.den ρ))).flatten=vC G (zs.take 20) (nb (zs.drop 20)).toNat 256:=ar5 oR hl
     simp only[ji,wm]at hl
     exact⟨hl.1.1,hl.1.2,hl.2⟩
    ·rename_i ax
     rw[ax]at hl
     exact hl)) λzs rs h=>h.1
theorem asJ (h:∀c∈[rY,gG,hX,ra],c.b1 Tryd.prog wb (gq G c.id)):qv.b1 Tryd.prog wb (hI qv.id):=by
 refine ox (G:=G) (c:=qv) (cal:=(cg [] [rY,gG,hX,ra] 75 76 53)) (li:=cr) (rounds:=600) (d:=6) (lsh:=c8) (λr ex ro=>gC gw gr gA bA (λc hc=>(h c hc).f)) hg (enters (by kernel_rfl)) auP rfl rfl (lens:=[5,5,5]) ?_
 rw[ayo]
 exact atT G
theorem ath (h:∀c∈[oo,rX,m8,iB,gG,iC,rY,tT,re,pT,pj],c.b1 Tryd.prog wb (gq G c.id)):tj.b1 Tryd.prog wb (hI tj.id):=by
 refine ox (G:=G) (c:=tj) (cal:=(cg [] [oo,rX,m8,iB,gG,iC,rY,tT,re,pT,pj] 75 76 53)) (li:=cr) (rounds:=600) (d:=6) (lsh:=c8) (λr ex ro=>gC gw gr gA bA (λc hc=>(h c hc).f)) hg (enters (by kernel_rfl)) au1 rfl rfl (lens:=[32]) ?_
 rw[ayR]
 exact auu G
theorem asN (h:∀c∈[tj,pT,qv],c.b1 Tryd.prog wb (gq G c.id)):y5.b1 Tryd.prog wb (hI 112):=
 bZ.ri (S:=gq G) (spec:=hI 112) (c:=y5) (cal:=(cg [] [tj,pT,qv] 75 76 53)) (li:=cr) (rounds:=600) (d:=6) ft (λr ex ro=>gC gw gr gA bA (λc hc=>(h c hc).f)) hg (enters (by kernel_rfl)) (λzs rs cV hz h1 h2 e da=>by
  have oR:zs.length=32:=e7 hz
  exact ain (id:=112) (al:=[zs]) (o:=(dec (nb (zs))).map rZ) rfl (by rw[show(sh 112).1=[32] by rfl];exact xS oR) (λr e h=>h) h1 h2 e da)
  (u6 (YW (G:=G) (id:=112) (lens:=[32]) (bds:=(bk y5.args)) (ds:=y5.res) rfl rfl (by rw[ayr];exact atX G)))
theorem asG (h:∀c∈[sJ,pk,qv],c.b1 Tryd.prog wb (gq G c.id)):y3.b1 Tryd.prog wb (hI y3.id):=by
 refine ox (G:=G) (c:=y3) (cal:=(cg [] [sJ,pk,qv] 75 76 53)) (li:=cr) (rounds:=600) (d:=6) (lsh:=c8) (λr ex ro=>gC gw gr gA bA (λc hc=>(h c hc).f)) hg (enters (by kernel_rfl)) auL rfl rfl (lens:=[32]) ?_
 rw[ayk]
 exact atP G
theorem asM (h:∀c∈[tj,pk,sJ,sK,qv],c.b1 Tryd.prog wb (gq G c.id)):y4.b1 Tryd.prog wb (hI 115):=
 bZ.ri (S:=gq G) (spec:=hI 115) (c:=y4) (cal:=(cg [] [tj,pk,sJ,sK,qv] 75 76 53)) (li:=cr) (rounds:=600) (d:=6) ft (λr ex ro=>gC gw gr gA bA (λc hc=>(h c hc).f)) hg (enters (by kernel_rfl)) (λzs rs cV hz h1 h2 e da=>by
  have oR:zs.length=32+(32+32):=e7 hz
  exact ain (id:=115) (al:=[zs.take 32,(zs.drop 32).take 32,(zs.drop 32).drop 32]) (o:=(dec (nb ((zs.drop 32).take 32))).map λA=>fc (eO (nb (zs.take 32)).toNat A) (eO (nb ((zs.drop 32).drop 32)).toNat kG)) rfl (by rw[show(sh 115).1=[32,32,32] by rfl];exact YG oR) (λr e h=>h) h1 h2 e da)
  (u6 (YW (G:=G) (id:=115) (lens:=[32,32,32]) (bds:=(bk y4.args)) (ds:=y4.res) rfl rfl (by rw[ayq];exact atW G)))
end
theorem Ka {wb:aC} (hg:fA gl ⟨wb,wb,λ_=>False,λ_=>False,[]⟩):∃G,jh wb [y4,y3,y5,tj,qv,pk,uz,sK,rW,uy,sJ,pj,uA,oo,oQ,tT,ra,re,rY,rb,pT,m8,gG,iB,iC,hX,rX,kc] G:=by
 obtain⟨ajy,h0⟩:∃G,jh wb [] G:=⟨λ_ _=>[],bA⟩
 obtain⟨G1,h1⟩:=jh.step (c:=kc) h0 (by decide) (asH hg (G:=ajy))
 obtain⟨NC,h2⟩:=jh.step (c:=rX) h1 (by decide) (asZ hg (G:=G1) (List.forall_mem_cons.2 ⟨h1 _ (dM (i:=0) rfl),bA⟩))
 obtain⟨SH,h3⟩:=jh.step (c:=hX) h2 (by decide) (QB hg (G:=NC) (List.forall_mem_cons.2 ⟨h2 _ (dM (i:=1) rfl),bA⟩))
 obtain⟨NF,h4⟩:=jh.step (c:=iC) h3 (by decide) (QD hg (G:=SH) (List.forall_mem_cons.2 ⟨h3 _ (dM (i:=2) rfl),bA⟩))
 obtain⟨ajS,h5⟩:=jh.step (c:=iB) h4 (by decide) (QC hg (G:=NF) (List.forall_mem_cons.2 ⟨h4 _ (dM (i:=3) rfl),bA⟩))
 obtain⟨ajT,h6⟩:=jh.step (c:=gG) h5 (by decide) (atw hg (G:=ajS) (List.forall_mem_cons.2 ⟨h5 _ (dM (i:=4) rfl),bA⟩))
 obtain⟨ajU,h7⟩:=jh.step (c:=m8) h6 (by decide) (atq hg (G:=ajT) (List.forall_mem_cons.2 ⟨h6 _ (dM (i:=0) rfl),bA⟩))
 obtain⟨ajV,e6⟩:=jh.step (c:=pT) h7 (by decide) (atb hg (G:=ajU) (List.forall_mem_cons.2 ⟨h7 _ (dM (i:=2) rfl),bA⟩))
 obtain⟨ajW,dZ⟩:=jh.step (c:=rb) e6 (by decide) (atg hg (G:=ajV) (List.forall_mem_cons.2 ⟨e6 _ (dM (i:=1) rfl),(List.forall_mem_cons.2 ⟨e6 _ (dM (i:=2) rfl),bA⟩)⟩))
 obtain⟨ajz,nP⟩:=jh.step (c:=rY) dZ (by decide) (as5 hg (G:=ajW) (List.forall_mem_cons.2 ⟨dZ _ (dM (i:=0) rfl),bA⟩))
 obtain⟨ajA,qZ⟩:=jh.step (c:=re) nP (by decide) (atj hg (G:=ajz) (List.forall_mem_cons.2 ⟨nP _ (dM (i:=7) rfl),bA⟩))
 obtain⟨ajB,iQ⟩:=jh.step (c:=ra) qZ (by decide) (ate hg (G:=ajA) (List.forall_mem_cons.2 ⟨qZ _ (dM (i:=8) rfl),bA⟩))
 obtain⟨ajC,kJ⟩:=jh.step (c:=tT) iQ (by decide) (ati hg (G:=ajB) (List.forall_mem_cons.2 ⟨iQ _ (dM (i:=3) rfl),(List.forall_mem_cons.2 ⟨iQ _ (dM (i:=5) rfl),(List.forall_mem_cons.2 ⟨iQ _ (dM (i:=1) rfl),(List.forall_mem_cons.2 ⟨iQ _ (dM (i:=0) rfl),(List.forall_mem_cons.2 ⟨iQ _ (dM (i:=4) rfl),(List.forall_mem_cons.2 ⟨iQ _ (dM (i:=6) rfl),bA⟩)⟩)⟩)⟩)⟩)⟩))
 obtain⟨ajD,j9⟩:=jh.step (c:=oQ) kJ (by decide) (Xr hg (G:=ajC) (List.forall_mem_cons.2 ⟨kJ _ (dM (i:=11) rfl),(List.forall_mem_cons.2 ⟨kJ _ (dM (i:=10) rfl),bA⟩)⟩))
 obtain⟨ajE,Vb⟩:=jh.step (c:=oo) j9 (by decide) (Xt hg (G:=ajD) (List.forall_mem_cons.2 ⟨j9 _ (dM (i:=0) rfl),bA⟩))
 obtain⟨ajF,s9⟩:=jh.step (c:=uA) Vb (by decide) (atx hg (G:=ajE) (List.forall_mem_cons.2 ⟨Vb _ (dM (i:=11) rfl),bA⟩))
 obtain⟨ajG,K0⟩:=jh.step (c:=pj) s9 (by decide) (asX hg (G:=ajF) (List.forall_mem_cons.2 ⟨s9 _ (dM (i:=10) rfl),bA⟩))
 obtain⟨ajH,Vc⟩:=jh.step (c:=sJ) K0 (by decide) (asI hg (G:=ajG) (List.forall_mem_cons.2 ⟨K0 _ (dM (i:=0) rfl),bA⟩))
 obtain⟨ajI,Vd⟩:=jh.step (c:=uy) Vc (by decide) (asQ hg (G:=ajH) (List.forall_mem_cons.2 ⟨Vc _ (dM (i:=1) rfl),bA⟩))
 obtain⟨ajJ,FJ⟩:=jh.step (c:=rW) Vd (by decide) (asO hg (G:=ajI) (List.forall_mem_cons.2 ⟨Vd _ (dM (i:=13) rfl),bA⟩))
 obtain⟨ajK,Ie⟩:=jh.step (c:=sK) FJ (by decide) (asP hg (G:=ajJ) (List.forall_mem_cons.2 ⟨FJ _ (dM (i:=15) rfl),(List.forall_mem_cons.2 ⟨FJ _ (dM (i:=14) rfl),(List.forall_mem_cons.2 ⟨FJ _ (dM (i:=16) rfl),(List.forall_mem_cons.2 ⟨FJ _ (dM (i:=4) rfl),(List.forall_mem_cons.2 ⟨FJ _ (dM (i:=0) rfl),bA⟩)⟩)⟩)⟩)⟩))
 obtain⟨ajL,K1⟩:=jh.step (c:=uz) Ie (by decide) (asR hg (G:=ajK) (List.forall_mem_cons.2 ⟨Ie _ (dM (i:=14) rfl),(List.forall_mem_cons.2 ⟨Ie _ (dM (i:=17) rfl),(List.forall_mem_cons.2 ⟨Ie _ (dM (i:=16) rfl),(List.forall_mem_cons.2 ⟨Ie _ (dM (i:=1) rfl),bA⟩)⟩)⟩)⟩))
 obtain⟨ajM,FK⟩:=jh.step (c:=pk) K1 (by decide) (as9 hg (G:=ajL) (List.forall_mem_cons.2 ⟨K1 _ (dM (i:=3) rfl),(List.forall_mem_cons.2 ⟨K1 _ (dM (i:=0) rfl),(List.forall_mem_cons.2 ⟨K1 _ (dM (i:=1) rfl),bA⟩)⟩)⟩))
 obtain⟨ajN,vo⟩:=jh.step (c:=qv) FK (by decide) (asJ hg (G:=ajM) (List.forall_mem_cons.2 ⟨FK _ (dM (i:=13) rfl),(List.forall_mem_cons.2 ⟨FK _ (dM (i:=17) rfl),(List.forall_mem_cons.2 ⟨FK _ (dM (i:=20) rfl),(List.forall_mem_cons.2 ⟨FK _ (dM (i:=11) rfl),bA⟩)⟩)⟩)⟩))
 obtain⟨ajO,K2⟩:=jh.step (c:=tj) vo (by decide) (ath hg (G:=ajN) (List.forall_mem_cons.2 ⟨vo _ (dM (i:=9) rfl),(List.forall_mem_cons.2 ⟨vo _ (dM (i:=22) rfl),(List.forall_mem_cons.2 ⟨vo _ (dM (i:=17) rfl),(List.forall_mem_cons.2 ⟨vo _ (dM (i:=19) rfl),(List.forall_mem_cons.2 ⟨vo _ (dM (i:=18) rfl),(List.forall_mem_cons.2 ⟨vo _ (dM (i:=20) rfl),(List.forall_mem_cons.2 ⟨vo _ (dM (i:=14) rfl),(List.forall_mem_cons.2 ⟨vo _ (dM (i:=11) rfl),(List.forall_mem_cons.2 ⟨vo _ (dM (i:=13) rfl),(List.forall_mem_cons.2 ⟨vo _ (dM (i:=16) rfl),(List.forall_mem_cons.2 ⟨vo _ (dM (i:=7) rfl),bA⟩)⟩)⟩)⟩)⟩)⟩)⟩)⟩)⟩)⟩)⟩))
 obtain⟨ajP,Ig⟩:=jh.step (c:=y5) K2 (by decide) (asN hg (G:=ajO) (List.forall_mem_cons.2 ⟨K2 _ (dM (i:=0) rfl),(List.forall_mem_cons.2 ⟨K2 _ (dM (i:=17) rfl),(List.forall_mem_cons.2 ⟨K2 _ (dM (i:=1) rfl),bA⟩)⟩)⟩))
 obtain⟨ajQ,FL⟩:=jh.step (c:=y3) Ig (by decide) (asG hg (G:=ajP) (List.forall_mem_cons.2 ⟨Ig _ (dM (i:=8) rfl),(List.forall_mem_cons.2 ⟨Ig _ (dM (i:=3) rfl),(List.forall_mem_cons.2 ⟨Ig _ (dM (i:=2) rfl),bA⟩)⟩)⟩))
 obtain⟨ajR,adY⟩:=jh.step (c:=y4) FL (by decide) (asM hg (G:=ajQ) (List.forall_mem_cons.2 ⟨FL _ (dM (i:=2) rfl),(List.forall_mem_cons.2 ⟨FL _ (dM (i:=4) rfl),(List.forall_mem_cons.2 ⟨FL _ (dM (i:=9) rfl),(List.forall_mem_cons.2 ⟨FL _ (dM (i:=6) rfl),(List.forall_mem_cons.2 ⟨FL _ (dM (i:=3) rfl),bA⟩)⟩)⟩)⟩)⟩))
 exact⟨ajR,adY⟩
end Go.Fd
